/- Keeps: kept, kind by kind (written by tools/genkp.py). -/
import Derived.Test.Qxb6500376aDoorKpFed
namespace Go.Proofs.Qxb6500376aDoor
set_option linter.unusedVariables false
set_option linter.unusedSimpArgs false
set_option maxHeartbeats 4000000
set_option maxRecDepth 100000
open Go.RowKit Go.Qu Ieee

theorem kp_0 (p zl gp : Nat) (l : Lk) (g : PS) (n : Int) (kd E N L a b cc : Int) (s t : ByteArray) (U : ByteArray) (w : World) (hg : Good g n) (hn : n ≤ 4611686018427387904) (hg' : Good g (n + 1)) (ha : I64 a) (hb : I64 b) (hx : Ap w p l g) (hc : Cv w zl g.c g.z) (hh : Gh w gp g) (hzg : zl ≠ gp) (h1 : kd ≠ 1) (h2 : kd ≠ 2) (h7 : kd ≠ 7) (h8 : kd ≠ 8) (h9 : kd ≠ 9) (h10 : kd ≠ 10) (h11 : kd ≠ 11) (h16 : kd ≠ 16) :
    Calls Tryd.prog 19 #[.pointer (some ⟨p, 0, none⟩), .pointer (some ⟨zl, 0, none⟩), .pointer (some ⟨gp, 0, none⟩), opV kd a b cc s t, ansV E N L U, befV g] w fun e w' => e = .returned (.bool true) ∧ Cv w' zl g.c g.z ∧ Gh w' gp g ∧ Chg (fun k => k = zl ∨ k = gp) w w' := by
  have LK : Hid (∀ w' (h : Ap w' p l g), Calls _ _ _ _ _) := fun w' h => look_any p l g (n + 1) w' hg' h
  unfold befV at LK
  unfold opV ansV befV
  try dsimp only at LK
  try dsimp only
  have HX : Hid (Ap w p l g) := hx
  have HC : Hid (Cv w zl g.c g.z) := hc
  have HH : Hid (Gh w gp g) := hh
  have HG : Hid (Good g n ∧ n ≤ 4611686018427387904 ∧ I64 a ∧ I64 b) := ⟨hg, hn, ha, hb⟩
  have LT : Hid (zl < w.heap.size ∧ gp < w.heap.size ∧ zl ≠ gp) := ⟨Has.lt hc, hh.lt, hzg⟩
  have q0 := hg.q0; have r0 := hg.r0; have A0 := hg.a0; have A8 := hg.a8
  have q1 : g.seq ≤ 4611686018427387904 := by have := hg.q1; omega
  have r1 : g.dropped ≤ 4611686018427387904 := by have := hg.r1; omega
  have k1 : (kd == 1) = false := by simpa using h1
  have k2 : (kd == 2) = false := by simpa using h2
  have k7 : (kd == 7) = false := by simpa using h7
  have k8 : (kd == 8) = false := by simpa using h8
  have k9 : (kd == 9) = false := by simpa using h9
  have k10 : (kd == 10) = false := by simpa using h10
  have k11 : (kd == 11) = false := by simpa using h11
  have k16 : (kd == 16) = false := by simpa using h16
  clear h1 h2 h7 h8 h9 h10 h11 h16
  generalize sumSq g.ring / 4294967296 = hi at LK ⊢
  generalize sumSq g.ring % 4294967296 = lo at LK ⊢
  have O0 : Hid (Has 50 (((w.alloc (.cells #[.int .i64 kd, .int .i64 a, .int .i64 b, .int .i64 cc, .string s, .string t] 50)).alloc (.cells #[.int .i64 E, .int .i64 N, .int .i64 L, .string U] 47)).alloc (.cells #[.int .i64 g.sum, .int .i64 g.peak, .int .i64 g.dip, .int .i64 hi, .int .i64 lo, .int .i64 g.seq, .int .i64 g.dropped] 44)) w.heap.size [.int .i64 kd, .int .i64 a, .int .i64 b, .int .i64 cc, .string s, .string t]) := ((Has.new 50 w [.int .i64 kd, .int .i64 a, .int .i64 b, .int .i64 cc, .string s, .string t]).alloc _).alloc _
  have A0 : Hid (Has 47 (((w.alloc (.cells #[.int .i64 kd, .int .i64 a, .int .i64 b, .int .i64 cc, .string s, .string t] 50)).alloc (.cells #[.int .i64 E, .int .i64 N, .int .i64 L, .string U] 47)).alloc (.cells #[.int .i64 g.sum, .int .i64 g.peak, .int .i64 g.dip, .int .i64 hi, .int .i64 lo, .int .i64 g.seq, .int .i64 g.dropped] 44)) (w.heap.size + 1) [.int .i64 E, .int .i64 N, .int .i64 L, .string U]) := (hasAt (by simp) [.int .i64 E, .int .i64 N, .int .i64 L, .string U]).alloc _
  have P0 : Hid (Has 44 (((w.alloc (.cells #[.int .i64 kd, .int .i64 a, .int .i64 b, .int .i64 cc, .string s, .string t] 50)).alloc (.cells #[.int .i64 E, .int .i64 N, .int .i64 L, .string U] 47)).alloc (.cells #[.int .i64 g.sum, .int .i64 g.peak, .int .i64 g.dip, .int .i64 hi, .int .i64 lo, .int .i64 g.seq, .int .i64 g.dropped] 44)) (w.heap.size + 1 + 1) [.int .i64 g.sum, .int .i64 g.peak, .int .i64 g.dip, .int .i64 hi, .int .i64 lo, .int .i64 g.seq, .int .i64 g.dropped]) := hasAt (by simp) [.int .i64 g.sum, .int .i64 g.peak, .int .i64 g.dip, .int .i64 hi, .int .i64 lo, .int .i64 g.seq, .int .i64 g.dropped]
  have C0 : Hid (Chg (fun _ => False) w (((w.alloc (.cells #[.int .i64 kd, .int .i64 a, .int .i64 b, .int .i64 cc, .string s, .string t] 50)).alloc (.cells #[.int .i64 E, .int .i64 N, .int .i64 L, .string U] 47)).alloc (.cells #[.int .i64 g.sum, .int .i64 g.peak, .int .i64 g.dip, .int .i64 hi, .int .i64 lo, .int .i64 g.seq, .int .i64 g.dropped] 44))) := ((((Chg.refl _ w).alloc _).alloc _).alloc _)
  clear hg hn hg' ha hb hx hc hh hzg
  go_enter Tryd.func19, Tryd.ntmps19
  go_wp2_with fail
  refine (LK.out _ (ap_nil HX.out C0.out)).mono ?_; rintro e w1 ⟨rfl, c1⟩
  have C1 : Hid (Chg (fun _ => False) w (w1.alloc (.cells #[.int .i64 g.sum, .int .i64 g.peak, .int .i64 g.dip, .int .i64 hi, .int .i64 lo, .int .i64 g.seq, .int .i64 g.dropped] 44))) := (C0.out.trans c1).alloc _
  have O1 : Hid (Has 50 (w1.alloc (.cells #[.int .i64 g.sum, .int .i64 g.peak, .int .i64 g.dip, .int .i64 hi, .int .i64 lo, .int .i64 g.seq, .int .i64 g.dropped] 44)) w.heap.size [.int .i64 kd, .int .i64 a, .int .i64 b, .int .i64 cc, .string s, .string t]) := (O0.out.kept c1 (fun h => h)).alloc _
  have A1 : Hid (Has 47 (w1.alloc (.cells #[.int .i64 g.sum, .int .i64 g.peak, .int .i64 g.dip, .int .i64 hi, .int .i64 lo, .int .i64 g.seq, .int .i64 g.dropped] 44)) (w.heap.size + 1) [.int .i64 E, .int .i64 N, .int .i64 L, .string U]) := (A0.out.kept c1 (fun h => h)).alloc _
  have P1 : Hid (Has 44 (w1.alloc (.cells #[.int .i64 g.sum, .int .i64 g.peak, .int .i64 g.dip, .int .i64 hi, .int .i64 lo, .int .i64 g.seq, .int .i64 g.dropped] 44)) (w.heap.size + 1 + 1) [.int .i64 g.sum, .int .i64 g.peak, .int .i64 g.dip, .int .i64 hi, .int .i64 lo, .int .i64 g.seq, .int .i64 g.dropped]) := (P0.out.kept c1 (fun h => h)).alloc _
  have Q1 : Hid (Has 44 (w1.alloc (.cells #[.int .i64 g.sum, .int .i64 g.peak, .int .i64 g.dip, .int .i64 hi, .int .i64 lo, .int .i64 g.seq, .int .i64 g.dropped] 44)) w1.heap.size [.int .i64 g.sum, .int .i64 g.peak, .int .i64 g.dip, .int .i64 hi, .int .i64 lo, .int .i64 g.seq, .int .i64 g.dropped]) := Has.new _ _ _
  have HQ : Hid (w.heap.size + 1 + 1 < w1.heap.size) := by have h1 := P0.out.lt; have h2 := c1.size; show w.heap.size + 1 + 1 < w1.heap.size; omega
  have H1 : Hid (Gh (w1.alloc (.cells #[.int .i64 g.sum, .int .i64 g.peak, .int .i64 g.dip, .int .i64 hi, .int .i64 lo, .int .i64 g.seq, .int .i64 g.dropped] 44)) gp g) := (HH.out.nil (C0.out.trans c1)).nil ((Chg.refl _ _).alloc _)
  have Z1 : Hid (Cv (w1.alloc (.cells #[.int .i64 g.sum, .int .i64 g.peak, .int .i64 g.dip, .int .i64 hi, .int .i64 lo, .int .i64 g.seq, .int .i64 g.dropped] 44)) zl g.c g.z) := ((HC.out.kept C0.out (fun h => h)).kept c1 (fun h => h)).alloc _
  clear c1 O0 A0 P0 C0 LK HX HC HH
  have o0 : (w1.alloc (.cells #[.int .i64 g.sum, .int .i64 g.peak, .int .i64 g.dip, .int .i64 hi, .int .i64 lo, .int .i64 g.seq, .int .i64 g.dropped] 44)).cell? ⟨w.heap.size, 0, none⟩ = some (.int .i64 kd) := O1.out.cell 0
  have o1 : (w1.alloc (.cells #[.int .i64 g.sum, .int .i64 g.peak, .int .i64 g.dip, .int .i64 hi, .int .i64 lo, .int .i64 g.seq, .int .i64 g.dropped] 44)).cell? ⟨w.heap.size, 1, none⟩ = some (.int .i64 a) := O1.out.cell 1
  have o2 : (w1.alloc (.cells #[.int .i64 g.sum, .int .i64 g.peak, .int .i64 g.dip, .int .i64 hi, .int .i64 lo, .int .i64 g.seq, .int .i64 g.dropped] 44)).cell? ⟨w.heap.size, 2, none⟩ = some (.int .i64 b) := O1.out.cell 2
  have a0 : (w1.alloc (.cells #[.int .i64 g.sum, .int .i64 g.peak, .int .i64 g.dip, .int .i64 hi, .int .i64 lo, .int .i64 g.seq, .int .i64 g.dropped] 44)).cell? ⟨w.heap.size + 1, 0, none⟩ = some (.int .i64 E) := A1.out.cell 0
  have a1 : (w1.alloc (.cells #[.int .i64 g.sum, .int .i64 g.peak, .int .i64 g.dip, .int .i64 hi, .int .i64 lo, .int .i64 g.seq, .int .i64 g.dropped] 44)).cell? ⟨w.heap.size + 1, 1, none⟩ = some (.int .i64 N) := A1.out.cell 1
  have a2 : (w1.alloc (.cells #[.int .i64 g.sum, .int .i64 g.peak, .int .i64 g.dip, .int .i64 hi, .int .i64 lo, .int .i64 g.seq, .int .i64 g.dropped] 44)).cell? ⟨w.heap.size + 1, 2, none⟩ = some (.int .i64 L) := A1.out.cell 2
  have a3 : (w1.alloc (.cells #[.int .i64 g.sum, .int .i64 g.peak, .int .i64 g.dip, .int .i64 hi, .int .i64 lo, .int .i64 g.seq, .int .i64 g.dropped] 44)).cell? ⟨w.heap.size + 1, 3, none⟩ = some (.string U) := A1.out.cell 3
  have p0 : (w1.alloc (.cells #[.int .i64 g.sum, .int .i64 g.peak, .int .i64 g.dip, .int .i64 hi, .int .i64 lo, .int .i64 g.seq, .int .i64 g.dropped] 44)).cell? ⟨w.heap.size + 1 + 1, 0, none⟩ = some (.int .i64 g.sum) := P1.out.cell 0
  have pf0 := P1.out.frozen 0
  have p1 : (w1.alloc (.cells #[.int .i64 g.sum, .int .i64 g.peak, .int .i64 g.dip, .int .i64 hi, .int .i64 lo, .int .i64 g.seq, .int .i64 g.dropped] 44)).cell? ⟨w.heap.size + 1 + 1, 1, none⟩ = some (.int .i64 g.peak) := P1.out.cell 1
  have pf1 := P1.out.frozen 1
  have p2 : (w1.alloc (.cells #[.int .i64 g.sum, .int .i64 g.peak, .int .i64 g.dip, .int .i64 hi, .int .i64 lo, .int .i64 g.seq, .int .i64 g.dropped] 44)).cell? ⟨w.heap.size + 1 + 1, 2, none⟩ = some (.int .i64 g.dip) := P1.out.cell 2
  have pf2 := P1.out.frozen 2
  have p3 : (w1.alloc (.cells #[.int .i64 g.sum, .int .i64 g.peak, .int .i64 g.dip, .int .i64 hi, .int .i64 lo, .int .i64 g.seq, .int .i64 g.dropped] 44)).cell? ⟨w.heap.size + 1 + 1, 3, none⟩ = some (.int .i64 hi) := P1.out.cell 3
  have pf3 := P1.out.frozen 3
  have p4 : (w1.alloc (.cells #[.int .i64 g.sum, .int .i64 g.peak, .int .i64 g.dip, .int .i64 hi, .int .i64 lo, .int .i64 g.seq, .int .i64 g.dropped] 44)).cell? ⟨w.heap.size + 1 + 1, 4, none⟩ = some (.int .i64 lo) := P1.out.cell 4
  have pf4 := P1.out.frozen 4
  have p5 : (w1.alloc (.cells #[.int .i64 g.sum, .int .i64 g.peak, .int .i64 g.dip, .int .i64 hi, .int .i64 lo, .int .i64 g.seq, .int .i64 g.dropped] 44)).cell? ⟨w.heap.size + 1 + 1, 5, none⟩ = some (.int .i64 g.seq) := P1.out.cell 5
  have pf5 := P1.out.frozen 5
  have p6 : (w1.alloc (.cells #[.int .i64 g.sum, .int .i64 g.peak, .int .i64 g.dip, .int .i64 hi, .int .i64 lo, .int .i64 g.seq, .int .i64 g.dropped] 44)).cell? ⟨w.heap.size + 1 + 1, 6, none⟩ = some (.int .i64 g.dropped) := P1.out.cell 6
  have pf6 := P1.out.frozen 6
  have y0 : (w1.alloc (.cells #[.int .i64 g.sum, .int .i64 g.peak, .int .i64 g.dip, .int .i64 hi, .int .i64 lo, .int .i64 g.seq, .int .i64 g.dropped] 44)).cell? ⟨w1.heap.size, 0, none⟩ = some (.int .i64 g.sum) := Q1.out.cell 0
  have y1 : (w1.alloc (.cells #[.int .i64 g.sum, .int .i64 g.peak, .int .i64 g.dip, .int .i64 hi, .int .i64 lo, .int .i64 g.seq, .int .i64 g.dropped] 44)).cell? ⟨w1.heap.size, 1, none⟩ = some (.int .i64 g.peak) := Q1.out.cell 1
  have y2 : (w1.alloc (.cells #[.int .i64 g.sum, .int .i64 g.peak, .int .i64 g.dip, .int .i64 hi, .int .i64 lo, .int .i64 g.seq, .int .i64 g.dropped] 44)).cell? ⟨w1.heap.size, 2, none⟩ = some (.int .i64 g.dip) := Q1.out.cell 2
  have y3 : (w1.alloc (.cells #[.int .i64 g.sum, .int .i64 g.peak, .int .i64 g.dip, .int .i64 hi, .int .i64 lo, .int .i64 g.seq, .int .i64 g.dropped] 44)).cell? ⟨w1.heap.size, 3, none⟩ = some (.int .i64 hi) := Q1.out.cell 3
  have y4 : (w1.alloc (.cells #[.int .i64 g.sum, .int .i64 g.peak, .int .i64 g.dip, .int .i64 hi, .int .i64 lo, .int .i64 g.seq, .int .i64 g.dropped] 44)).cell? ⟨w1.heap.size, 4, none⟩ = some (.int .i64 lo) := Q1.out.cell 4
  have y5 : (w1.alloc (.cells #[.int .i64 g.sum, .int .i64 g.peak, .int .i64 g.dip, .int .i64 hi, .int .i64 lo, .int .i64 g.seq, .int .i64 g.dropped] 44)).cell? ⟨w1.heap.size, 5, none⟩ = some (.int .i64 g.seq) := Q1.out.cell 5
  have y6 : (w1.alloc (.cells #[.int .i64 g.sum, .int .i64 g.peak, .int .i64 g.dip, .int .i64 hi, .int .i64 lo, .int .i64 g.seq, .int .i64 g.dropped] 44)).cell? ⟨w1.heap.size, 6, none⟩ = some (.int .i64 g.dropped) := Q1.out.cell 6
  have i8 : (w1.alloc (.cells #[.int .i64 g.sum, .int .i64 g.peak, .int .i64 g.dip, .int .i64 hi, .int .i64 lo, .int .i64 g.seq, .int .i64 g.dropped] 44)).cell? ⟨gp, 8, none⟩ = some (.int .i64 g.at_) := H1.out.cell 8 (gh_get _ H1.out.len).1
  have i9 : (w1.alloc (.cells #[.int .i64 g.sum, .int .i64 g.peak, .int .i64 g.dip, .int .i64 hi, .int .i64 lo, .int .i64 g.seq, .int .i64 g.dropped] 44)).cell? ⟨gp, 9, none⟩ = some (.int .i64 g.depth) := H1.out.cell 9 (gh_get _ H1.out.len).2.1
  have i10 : (w1.alloc (.cells #[.int .i64 g.sum, .int .i64 g.peak, .int .i64 g.dip, .int .i64 hi, .int .i64 lo, .int .i64 g.seq, .int .i64 g.dropped] 44)).cell? ⟨gp, 10, none⟩ = some (.int .i64 g.mode) := H1.out.cell 10 (gh_get _ H1.out.len).2.2
  have z9 := H1.out.frozen 9
  have z10 := H1.out.frozen 10
  go_wp2_with fail
  go_ret
  exact ⟨rfl, Z1.out, H1.out, C1.out.mono (fun k _ e => e.elim)⟩

theorem kp_1a (p zl gp : Nat) (l : Lk) (g : PS) (n : Int) (a b cc : Int) (s t : ByteArray) (U : ByteArray) (w : World) (hg : Good g n) (hn : n ≤ 4611686018427387904) (hg' : Good g (n + 1)) (ha : I64 a) (hb : I64 b) (hx : Ap w p l g) (hc : Cv w zl g.c g.z) (hh : Gh w gp g) (hzg : zl ≠ gp) (e1 : a < 1) :
    Calls Tryd.prog 19 #[.pointer (some ⟨p, 0, none⟩), .pointer (some ⟨zl, 0, none⟩), .pointer (some ⟨gp, 0, none⟩), opV 1 a b cc s t, ansV 9 0 0 U, befV g] w fun e w' => e = .returned (.bool true) ∧ Cv w' zl g.c g.z ∧ Gh w' gp g ∧ Chg (fun k => k = zl ∨ k = gp) w w' := by
  have LK : Hid (∀ w' (h : Ap w' p l g), Calls _ _ _ _ _) := fun w' h => look_any p l g (n + 1) w' hg' h
  unfold befV at LK
  unfold opV ansV befV
  try dsimp only at LK
  try dsimp only
  have HX : Hid (Ap w p l g) := hx
  have HC : Hid (Cv w zl g.c g.z) := hc
  have HH : Hid (Gh w gp g) := hh
  have HG : Hid (Good g n ∧ n ≤ 4611686018427387904 ∧ I64 a ∧ I64 b) := ⟨hg, hn, ha, hb⟩
  have LT : Hid (zl < w.heap.size ∧ gp < w.heap.size ∧ zl ≠ gp) := ⟨Has.lt hc, hh.lt, hzg⟩
  have q0 := hg.q0; have r0 := hg.r0; have A0 := hg.a0; have A8 := hg.a8
  have q1 : g.seq ≤ 4611686018427387904 := by have := hg.q1; omega
  have r1 : g.dropped ≤ 4611686018427387904 := by have := hg.r1; omega
  generalize sumSq g.ring / 4294967296 = hi at LK ⊢
  generalize sumSq g.ring % 4294967296 = lo at LK ⊢
  have O0 : Hid (Has 50 (((w.alloc (.cells #[.int .i64 1, .int .i64 a, .int .i64 b, .int .i64 cc, .string s, .string t] 50)).alloc (.cells #[.int .i64 9, .int .i64 0, .int .i64 0, .string U] 47)).alloc (.cells #[.int .i64 g.sum, .int .i64 g.peak, .int .i64 g.dip, .int .i64 hi, .int .i64 lo, .int .i64 g.seq, .int .i64 g.dropped] 44)) w.heap.size [.int .i64 1, .int .i64 a, .int .i64 b, .int .i64 cc, .string s, .string t]) := ((Has.new 50 w [.int .i64 1, .int .i64 a, .int .i64 b, .int .i64 cc, .string s, .string t]).alloc _).alloc _
  have A0 : Hid (Has 47 (((w.alloc (.cells #[.int .i64 1, .int .i64 a, .int .i64 b, .int .i64 cc, .string s, .string t] 50)).alloc (.cells #[.int .i64 9, .int .i64 0, .int .i64 0, .string U] 47)).alloc (.cells #[.int .i64 g.sum, .int .i64 g.peak, .int .i64 g.dip, .int .i64 hi, .int .i64 lo, .int .i64 g.seq, .int .i64 g.dropped] 44)) (w.heap.size + 1) [.int .i64 9, .int .i64 0, .int .i64 0, .string U]) := (hasAt (by simp) [.int .i64 9, .int .i64 0, .int .i64 0, .string U]).alloc _
  have P0 : Hid (Has 44 (((w.alloc (.cells #[.int .i64 1, .int .i64 a, .int .i64 b, .int .i64 cc, .string s, .string t] 50)).alloc (.cells #[.int .i64 9, .int .i64 0, .int .i64 0, .string U] 47)).alloc (.cells #[.int .i64 g.sum, .int .i64 g.peak, .int .i64 g.dip, .int .i64 hi, .int .i64 lo, .int .i64 g.seq, .int .i64 g.dropped] 44)) (w.heap.size + 1 + 1) [.int .i64 g.sum, .int .i64 g.peak, .int .i64 g.dip, .int .i64 hi, .int .i64 lo, .int .i64 g.seq, .int .i64 g.dropped]) := hasAt (by simp) [.int .i64 g.sum, .int .i64 g.peak, .int .i64 g.dip, .int .i64 hi, .int .i64 lo, .int .i64 g.seq, .int .i64 g.dropped]
  have C0 : Hid (Chg (fun _ => False) w (((w.alloc (.cells #[.int .i64 1, .int .i64 a, .int .i64 b, .int .i64 cc, .string s, .string t] 50)).alloc (.cells #[.int .i64 9, .int .i64 0, .int .i64 0, .string U] 47)).alloc (.cells #[.int .i64 g.sum, .int .i64 g.peak, .int .i64 g.dip, .int .i64 hi, .int .i64 lo, .int .i64 g.seq, .int .i64 g.dropped] 44))) := ((((Chg.refl _ w).alloc _).alloc _).alloc _)
  clear hg hn hg' ha hb hx hc hh hzg
  go_enter Tryd.func19, Tryd.ntmps19
  go_wp2_with fail
  refine (LK.out _ (ap_nil HX.out C0.out)).mono ?_; rintro e w1 ⟨rfl, c1⟩
  have C1 : Hid (Chg (fun _ => False) w (w1.alloc (.cells #[.int .i64 g.sum, .int .i64 g.peak, .int .i64 g.dip, .int .i64 hi, .int .i64 lo, .int .i64 g.seq, .int .i64 g.dropped] 44))) := (C0.out.trans c1).alloc _
  have O1 : Hid (Has 50 (w1.alloc (.cells #[.int .i64 g.sum, .int .i64 g.peak, .int .i64 g.dip, .int .i64 hi, .int .i64 lo, .int .i64 g.seq, .int .i64 g.dropped] 44)) w.heap.size [.int .i64 1, .int .i64 a, .int .i64 b, .int .i64 cc, .string s, .string t]) := (O0.out.kept c1 (fun h => h)).alloc _
  have A1 : Hid (Has 47 (w1.alloc (.cells #[.int .i64 g.sum, .int .i64 g.peak, .int .i64 g.dip, .int .i64 hi, .int .i64 lo, .int .i64 g.seq, .int .i64 g.dropped] 44)) (w.heap.size + 1) [.int .i64 9, .int .i64 0, .int .i64 0, .string U]) := (A0.out.kept c1 (fun h => h)).alloc _
  have P1 : Hid (Has 44 (w1.alloc (.cells #[.int .i64 g.sum, .int .i64 g.peak, .int .i64 g.dip, .int .i64 hi, .int .i64 lo, .int .i64 g.seq, .int .i64 g.dropped] 44)) (w.heap.size + 1 + 1) [.int .i64 g.sum, .int .i64 g.peak, .int .i64 g.dip, .int .i64 hi, .int .i64 lo, .int .i64 g.seq, .int .i64 g.dropped]) := (P0.out.kept c1 (fun h => h)).alloc _
  have Q1 : Hid (Has 44 (w1.alloc (.cells #[.int .i64 g.sum, .int .i64 g.peak, .int .i64 g.dip, .int .i64 hi, .int .i64 lo, .int .i64 g.seq, .int .i64 g.dropped] 44)) w1.heap.size [.int .i64 g.sum, .int .i64 g.peak, .int .i64 g.dip, .int .i64 hi, .int .i64 lo, .int .i64 g.seq, .int .i64 g.dropped]) := Has.new _ _ _
  have HQ : Hid (w.heap.size + 1 + 1 < w1.heap.size) := by have h1 := P0.out.lt; have h2 := c1.size; show w.heap.size + 1 + 1 < w1.heap.size; omega
  have H1 : Hid (Gh (w1.alloc (.cells #[.int .i64 g.sum, .int .i64 g.peak, .int .i64 g.dip, .int .i64 hi, .int .i64 lo, .int .i64 g.seq, .int .i64 g.dropped] 44)) gp g) := (HH.out.nil (C0.out.trans c1)).nil ((Chg.refl _ _).alloc _)
  have Z1 : Hid (Cv (w1.alloc (.cells #[.int .i64 g.sum, .int .i64 g.peak, .int .i64 g.dip, .int .i64 hi, .int .i64 lo, .int .i64 g.seq, .int .i64 g.dropped] 44)) zl g.c g.z) := ((HC.out.kept C0.out (fun h => h)).kept c1 (fun h => h)).alloc _
  clear c1 O0 A0 P0 C0 LK HX HC HH
  have o0 : (w1.alloc (.cells #[.int .i64 g.sum, .int .i64 g.peak, .int .i64 g.dip, .int .i64 hi, .int .i64 lo, .int .i64 g.seq, .int .i64 g.dropped] 44)).cell? ⟨w.heap.size, 0, none⟩ = some (.int .i64 1) := O1.out.cell 0
  have o1 : (w1.alloc (.cells #[.int .i64 g.sum, .int .i64 g.peak, .int .i64 g.dip, .int .i64 hi, .int .i64 lo, .int .i64 g.seq, .int .i64 g.dropped] 44)).cell? ⟨w.heap.size, 1, none⟩ = some (.int .i64 a) := O1.out.cell 1
  have o2 : (w1.alloc (.cells #[.int .i64 g.sum, .int .i64 g.peak, .int .i64 g.dip, .int .i64 hi, .int .i64 lo, .int .i64 g.seq, .int .i64 g.dropped] 44)).cell? ⟨w.heap.size, 2, none⟩ = some (.int .i64 b) := O1.out.cell 2
  have a0 : (w1.alloc (.cells #[.int .i64 g.sum, .int .i64 g.peak, .int .i64 g.dip, .int .i64 hi, .int .i64 lo, .int .i64 g.seq, .int .i64 g.dropped] 44)).cell? ⟨w.heap.size + 1, 0, none⟩ = some (.int .i64 9) := A1.out.cell 0
  have a1 : (w1.alloc (.cells #[.int .i64 g.sum, .int .i64 g.peak, .int .i64 g.dip, .int .i64 hi, .int .i64 lo, .int .i64 g.seq, .int .i64 g.dropped] 44)).cell? ⟨w.heap.size + 1, 1, none⟩ = some (.int .i64 0) := A1.out.cell 1
  have a2 : (w1.alloc (.cells #[.int .i64 g.sum, .int .i64 g.peak, .int .i64 g.dip, .int .i64 hi, .int .i64 lo, .int .i64 g.seq, .int .i64 g.dropped] 44)).cell? ⟨w.heap.size + 1, 2, none⟩ = some (.int .i64 0) := A1.out.cell 2
  have a3 : (w1.alloc (.cells #[.int .i64 g.sum, .int .i64 g.peak, .int .i64 g.dip, .int .i64 hi, .int .i64 lo, .int .i64 g.seq, .int .i64 g.dropped] 44)).cell? ⟨w.heap.size + 1, 3, none⟩ = some (.string U) := A1.out.cell 3
  have p0 : (w1.alloc (.cells #[.int .i64 g.sum, .int .i64 g.peak, .int .i64 g.dip, .int .i64 hi, .int .i64 lo, .int .i64 g.seq, .int .i64 g.dropped] 44)).cell? ⟨w.heap.size + 1 + 1, 0, none⟩ = some (.int .i64 g.sum) := P1.out.cell 0
  have pf0 := P1.out.frozen 0
  have p1 : (w1.alloc (.cells #[.int .i64 g.sum, .int .i64 g.peak, .int .i64 g.dip, .int .i64 hi, .int .i64 lo, .int .i64 g.seq, .int .i64 g.dropped] 44)).cell? ⟨w.heap.size + 1 + 1, 1, none⟩ = some (.int .i64 g.peak) := P1.out.cell 1
  have pf1 := P1.out.frozen 1
  have p2 : (w1.alloc (.cells #[.int .i64 g.sum, .int .i64 g.peak, .int .i64 g.dip, .int .i64 hi, .int .i64 lo, .int .i64 g.seq, .int .i64 g.dropped] 44)).cell? ⟨w.heap.size + 1 + 1, 2, none⟩ = some (.int .i64 g.dip) := P1.out.cell 2
  have pf2 := P1.out.frozen 2
  have p3 : (w1.alloc (.cells #[.int .i64 g.sum, .int .i64 g.peak, .int .i64 g.dip, .int .i64 hi, .int .i64 lo, .int .i64 g.seq, .int .i64 g.dropped] 44)).cell? ⟨w.heap.size + 1 + 1, 3, none⟩ = some (.int .i64 hi) := P1.out.cell 3
  have pf3 := P1.out.frozen 3
  have p4 : (w1.alloc (.cells #[.int .i64 g.sum, .int .i64 g.peak, .int .i64 g.dip, .int .i64 hi, .int .i64 lo, .int .i64 g.seq, .int .i64 g.dropped] 44)).cell? ⟨w.heap.size + 1 + 1, 4, none⟩ = some (.int .i64 lo) := P1.out.cell 4
  have pf4 := P1.out.frozen 4
  have p5 : (w1.alloc (.cells #[.int .i64 g.sum, .int .i64 g.peak, .int .i64 g.dip, .int .i64 hi, .int .i64 lo, .int .i64 g.seq, .int .i64 g.dropped] 44)).cell? ⟨w.heap.size + 1 + 1, 5, none⟩ = some (.int .i64 g.seq) := P1.out.cell 5
  have pf5 := P1.out.frozen 5
  have p6 : (w1.alloc (.cells #[.int .i64 g.sum, .int .i64 g.peak, .int .i64 g.dip, .int .i64 hi, .int .i64 lo, .int .i64 g.seq, .int .i64 g.dropped] 44)).cell? ⟨w.heap.size + 1 + 1, 6, none⟩ = some (.int .i64 g.dropped) := P1.out.cell 6
  have pf6 := P1.out.frozen 6
  have y0 : (w1.alloc (.cells #[.int .i64 g.sum, .int .i64 g.peak, .int .i64 g.dip, .int .i64 hi, .int .i64 lo, .int .i64 g.seq, .int .i64 g.dropped] 44)).cell? ⟨w1.heap.size, 0, none⟩ = some (.int .i64 g.sum) := Q1.out.cell 0
  have y1 : (w1.alloc (.cells #[.int .i64 g.sum, .int .i64 g.peak, .int .i64 g.dip, .int .i64 hi, .int .i64 lo, .int .i64 g.seq, .int .i64 g.dropped] 44)).cell? ⟨w1.heap.size, 1, none⟩ = some (.int .i64 g.peak) := Q1.out.cell 1
  have y2 : (w1.alloc (.cells #[.int .i64 g.sum, .int .i64 g.peak, .int .i64 g.dip, .int .i64 hi, .int .i64 lo, .int .i64 g.seq, .int .i64 g.dropped] 44)).cell? ⟨w1.heap.size, 2, none⟩ = some (.int .i64 g.dip) := Q1.out.cell 2
  have y3 : (w1.alloc (.cells #[.int .i64 g.sum, .int .i64 g.peak, .int .i64 g.dip, .int .i64 hi, .int .i64 lo, .int .i64 g.seq, .int .i64 g.dropped] 44)).cell? ⟨w1.heap.size, 3, none⟩ = some (.int .i64 hi) := Q1.out.cell 3
  have y4 : (w1.alloc (.cells #[.int .i64 g.sum, .int .i64 g.peak, .int .i64 g.dip, .int .i64 hi, .int .i64 lo, .int .i64 g.seq, .int .i64 g.dropped] 44)).cell? ⟨w1.heap.size, 4, none⟩ = some (.int .i64 lo) := Q1.out.cell 4
  have y5 : (w1.alloc (.cells #[.int .i64 g.sum, .int .i64 g.peak, .int .i64 g.dip, .int .i64 hi, .int .i64 lo, .int .i64 g.seq, .int .i64 g.dropped] 44)).cell? ⟨w1.heap.size, 5, none⟩ = some (.int .i64 g.seq) := Q1.out.cell 5
  have y6 : (w1.alloc (.cells #[.int .i64 g.sum, .int .i64 g.peak, .int .i64 g.dip, .int .i64 hi, .int .i64 lo, .int .i64 g.seq, .int .i64 g.dropped] 44)).cell? ⟨w1.heap.size, 6, none⟩ = some (.int .i64 g.dropped) := Q1.out.cell 6
  have i8 : (w1.alloc (.cells #[.int .i64 g.sum, .int .i64 g.peak, .int .i64 g.dip, .int .i64 hi, .int .i64 lo, .int .i64 g.seq, .int .i64 g.dropped] 44)).cell? ⟨gp, 8, none⟩ = some (.int .i64 g.at_) := H1.out.cell 8 (gh_get _ H1.out.len).1
  have i9 : (w1.alloc (.cells #[.int .i64 g.sum, .int .i64 g.peak, .int .i64 g.dip, .int .i64 hi, .int .i64 lo, .int .i64 g.seq, .int .i64 g.dropped] 44)).cell? ⟨gp, 9, none⟩ = some (.int .i64 g.depth) := H1.out.cell 9 (gh_get _ H1.out.len).2.1
  have i10 : (w1.alloc (.cells #[.int .i64 g.sum, .int .i64 g.peak, .int .i64 g.dip, .int .i64 hi, .int .i64 lo, .int .i64 g.seq, .int .i64 g.dropped] 44)).cell? ⟨gp, 10, none⟩ = some (.int .i64 g.mode) := H1.out.cell 10 (gh_get _ H1.out.len).2.2
  have z9 := H1.out.frozen 9
  have z10 := H1.out.frozen 10
  go_wp2_with fail
  go_ret
  exact ⟨rfl, Z1.out, H1.out, C1.out.mono (fun k _ e => e.elim)⟩

theorem kp_1b (p zl gp : Nat) (l : Lk) (g : PS) (n : Int) (a b cc : Int) (s t : ByteArray) (U : ByteArray) (w : World) (hg : Good g n) (hn : n ≤ 4611686018427387904) (hg' : Good g (n + 1)) (ha : I64 a) (hb : I64 b) (hx : Ap w p l g) (hc : Cv w zl g.c g.z) (hh : Gh w gp g) (hzg : zl ≠ gp) (e1 : 32 < a) :
    Calls Tryd.prog 19 #[.pointer (some ⟨p, 0, none⟩), .pointer (some ⟨zl, 0, none⟩), .pointer (some ⟨gp, 0, none⟩), opV 1 a b cc s t, ansV 9 0 0 U, befV g] w fun e w' => e = .returned (.bool true) ∧ Cv w' zl g.c g.z ∧ Gh w' gp g ∧ Chg (fun k => k = zl ∨ k = gp) w w' := by
  have LK : Hid (∀ w' (h : Ap w' p l g), Calls _ _ _ _ _) := fun w' h => look_any p l g (n + 1) w' hg' h
  unfold befV at LK
  unfold opV ansV befV
  try dsimp only at LK
  try dsimp only
  have HX : Hid (Ap w p l g) := hx
  have HC : Hid (Cv w zl g.c g.z) := hc
  have HH : Hid (Gh w gp g) := hh
  have HG : Hid (Good g n ∧ n ≤ 4611686018427387904 ∧ I64 a ∧ I64 b) := ⟨hg, hn, ha, hb⟩
  have LT : Hid (zl < w.heap.size ∧ gp < w.heap.size ∧ zl ≠ gp) := ⟨Has.lt hc, hh.lt, hzg⟩
  have q0 := hg.q0; have r0 := hg.r0; have A0 := hg.a0; have A8 := hg.a8
  have q1 : g.seq ≤ 4611686018427387904 := by have := hg.q1; omega
  have r1 : g.dropped ≤ 4611686018427387904 := by have := hg.r1; omega
  generalize sumSq g.ring / 4294967296 = hi at LK ⊢
  generalize sumSq g.ring % 4294967296 = lo at LK ⊢
  have O0 : Hid (Has 50 (((w.alloc (.cells #[.int .i64 1, .int .i64 a, .int .i64 b, .int .i64 cc, .string s, .string t] 50)).alloc (.cells #[.int .i64 9, .int .i64 0, .int .i64 0, .string U] 47)).alloc (.cells #[.int .i64 g.sum, .int .i64 g.peak, .int .i64 g.dip, .int .i64 hi, .int .i64 lo, .int .i64 g.seq, .int .i64 g.dropped] 44)) w.heap.size [.int .i64 1, .int .i64 a, .int .i64 b, .int .i64 cc, .string s, .string t]) := ((Has.new 50 w [.int .i64 1, .int .i64 a, .int .i64 b, .int .i64 cc, .string s, .string t]).alloc _).alloc _
  have A0 : Hid (Has 47 (((w.alloc (.cells #[.int .i64 1, .int .i64 a, .int .i64 b, .int .i64 cc, .string s, .string t] 50)).alloc (.cells #[.int .i64 9, .int .i64 0, .int .i64 0, .string U] 47)).alloc (.cells #[.int .i64 g.sum, .int .i64 g.peak, .int .i64 g.dip, .int .i64 hi, .int .i64 lo, .int .i64 g.seq, .int .i64 g.dropped] 44)) (w.heap.size + 1) [.int .i64 9, .int .i64 0, .int .i64 0, .string U]) := (hasAt (by simp) [.int .i64 9, .int .i64 0, .int .i64 0, .string U]).alloc _
  have P0 : Hid (Has 44 (((w.alloc (.cells #[.int .i64 1, .int .i64 a, .int .i64 b, .int .i64 cc, .string s, .string t] 50)).alloc (.cells #[.int .i64 9, .int .i64 0, .int .i64 0, .string U] 47)).alloc (.cells #[.int .i64 g.sum, .int .i64 g.peak, .int .i64 g.dip, .int .i64 hi, .int .i64 lo, .int .i64 g.seq, .int .i64 g.dropped] 44)) (w.heap.size + 1 + 1) [.int .i64 g.sum, .int .i64 g.peak, .int .i64 g.dip, .int .i64 hi, .int .i64 lo, .int .i64 g.seq, .int .i64 g.dropped]) := hasAt (by simp) [.int .i64 g.sum, .int .i64 g.peak, .int .i64 g.dip, .int .i64 hi, .int .i64 lo, .int .i64 g.seq, .int .i64 g.dropped]
  have C0 : Hid (Chg (fun _ => False) w (((w.alloc (.cells #[.int .i64 1, .int .i64 a, .int .i64 b, .int .i64 cc, .string s, .string t] 50)).alloc (.cells #[.int .i64 9, .int .i64 0, .int .i64 0, .string U] 47)).alloc (.cells #[.int .i64 g.sum, .int .i64 g.peak, .int .i64 g.dip, .int .i64 hi, .int .i64 lo, .int .i64 g.seq, .int .i64 g.dropped] 44))) := ((((Chg.refl _ w).alloc _).alloc _).alloc _)
  clear hg hn hg' ha hb hx hc hh hzg
  go_enter Tryd.func19, Tryd.ntmps19
  go_wp2_with fail
  refine (LK.out _ (ap_nil HX.out C0.out)).mono ?_; rintro e w1 ⟨rfl, c1⟩
  have C1 : Hid (Chg (fun _ => False) w (w1.alloc (.cells #[.int .i64 g.sum, .int .i64 g.peak, .int .i64 g.dip, .int .i64 hi, .int .i64 lo, .int .i64 g.seq, .int .i64 g.dropped] 44))) := (C0.out.trans c1).alloc _
  have O1 : Hid (Has 50 (w1.alloc (.cells #[.int .i64 g.sum, .int .i64 g.peak, .int .i64 g.dip, .int .i64 hi, .int .i64 lo, .int .i64 g.seq, .int .i64 g.dropped] 44)) w.heap.size [.int .i64 1, .int .i64 a, .int .i64 b, .int .i64 cc, .string s, .string t]) := (O0.out.kept c1 (fun h => h)).alloc _
  have A1 : Hid (Has 47 (w1.alloc (.cells #[.int .i64 g.sum, .int .i64 g.peak, .int .i64 g.dip, .int .i64 hi, .int .i64 lo, .int .i64 g.seq, .int .i64 g.dropped] 44)) (w.heap.size + 1) [.int .i64 9, .int .i64 0, .int .i64 0, .string U]) := (A0.out.kept c1 (fun h => h)).alloc _
  have P1 : Hid (Has 44 (w1.alloc (.cells #[.int .i64 g.sum, .int .i64 g.peak, .int .i64 g.dip, .int .i64 hi, .int .i64 lo, .int .i64 g.seq, .int .i64 g.dropped] 44)) (w.heap.size + 1 + 1) [.int .i64 g.sum, .int .i64 g.peak, .int .i64 g.dip, .int .i64 hi, .int .i64 lo, .int .i64 g.seq, .int .i64 g.dropped]) := (P0.out.kept c1 (fun h => h)).alloc _
  have Q1 : Hid (Has 44 (w1.alloc (.cells #[.int .i64 g.sum, .int .i64 g.peak, .int .i64 g.dip, .int .i64 hi, .int .i64 lo, .int .i64 g.seq, .int .i64 g.dropped] 44)) w1.heap.size [.int .i64 g.sum, .int .i64 g.peak, .int .i64 g.dip, .int .i64 hi, .int .i64 lo, .int .i64 g.seq, .int .i64 g.dropped]) := Has.new _ _ _
  have HQ : Hid (w.heap.size + 1 + 1 < w1.heap.size) := by have h1 := P0.out.lt; have h2 := c1.size; show w.heap.size + 1 + 1 < w1.heap.size; omega
  have H1 : Hid (Gh (w1.alloc (.cells #[.int .i64 g.sum, .int .i64 g.peak, .int .i64 g.dip, .int .i64 hi, .int .i64 lo, .int .i64 g.seq, .int .i64 g.dropped] 44)) gp g) := (HH.out.nil (C0.out.trans c1)).nil ((Chg.refl _ _).alloc _)
  have Z1 : Hid (Cv (w1.alloc (.cells #[.int .i64 g.sum, .int .i64 g.peak, .int .i64 g.dip, .int .i64 hi, .int .i64 lo, .int .i64 g.seq, .int .i64 g.dropped] 44)) zl g.c g.z) := ((HC.out.kept C0.out (fun h => h)).kept c1 (fun h => h)).alloc _
  clear c1 O0 A0 P0 C0 LK HX HC HH
  have o0 : (w1.alloc (.cells #[.int .i64 g.sum, .int .i64 g.peak, .int .i64 g.dip, .int .i64 hi, .int .i64 lo, .int .i64 g.seq, .int .i64 g.dropped] 44)).cell? ⟨w.heap.size, 0, none⟩ = some (.int .i64 1) := O1.out.cell 0
  have o1 : (w1.alloc (.cells #[.int .i64 g.sum, .int .i64 g.peak, .int .i64 g.dip, .int .i64 hi, .int .i64 lo, .int .i64 g.seq, .int .i64 g.dropped] 44)).cell? ⟨w.heap.size, 1, none⟩ = some (.int .i64 a) := O1.out.cell 1
  have o2 : (w1.alloc (.cells #[.int .i64 g.sum, .int .i64 g.peak, .int .i64 g.dip, .int .i64 hi, .int .i64 lo, .int .i64 g.seq, .int .i64 g.dropped] 44)).cell? ⟨w.heap.size, 2, none⟩ = some (.int .i64 b) := O1.out.cell 2
  have a0 : (w1.alloc (.cells #[.int .i64 g.sum, .int .i64 g.peak, .int .i64 g.dip, .int .i64 hi, .int .i64 lo, .int .i64 g.seq, .int .i64 g.dropped] 44)).cell? ⟨w.heap.size + 1, 0, none⟩ = some (.int .i64 9) := A1.out.cell 0
  have a1 : (w1.alloc (.cells #[.int .i64 g.sum, .int .i64 g.peak, .int .i64 g.dip, .int .i64 hi, .int .i64 lo, .int .i64 g.seq, .int .i64 g.dropped] 44)).cell? ⟨w.heap.size + 1, 1, none⟩ = some (.int .i64 0) := A1.out.cell 1
  have a2 : (w1.alloc (.cells #[.int .i64 g.sum, .int .i64 g.peak, .int .i64 g.dip, .int .i64 hi, .int .i64 lo, .int .i64 g.seq, .int .i64 g.dropped] 44)).cell? ⟨w.heap.size + 1, 2, none⟩ = some (.int .i64 0) := A1.out.cell 2
  have a3 : (w1.alloc (.cells #[.int .i64 g.sum, .int .i64 g.peak, .int .i64 g.dip, .int .i64 hi, .int .i64 lo, .int .i64 g.seq, .int .i64 g.dropped] 44)).cell? ⟨w.heap.size + 1, 3, none⟩ = some (.string U) := A1.out.cell 3
  have p0 : (w1.alloc (.cells #[.int .i64 g.sum, .int .i64 g.peak, .int .i64 g.dip, .int .i64 hi, .int .i64 lo, .int .i64 g.seq, .int .i64 g.dropped] 44)).cell? ⟨w.heap.size + 1 + 1, 0, none⟩ = some (.int .i64 g.sum) := P1.out.cell 0
  have pf0 := P1.out.frozen 0
  have p1 : (w1.alloc (.cells #[.int .i64 g.sum, .int .i64 g.peak, .int .i64 g.dip, .int .i64 hi, .int .i64 lo, .int .i64 g.seq, .int .i64 g.dropped] 44)).cell? ⟨w.heap.size + 1 + 1, 1, none⟩ = some (.int .i64 g.peak) := P1.out.cell 1
  have pf1 := P1.out.frozen 1
  have p2 : (w1.alloc (.cells #[.int .i64 g.sum, .int .i64 g.peak, .int .i64 g.dip, .int .i64 hi, .int .i64 lo, .int .i64 g.seq, .int .i64 g.dropped] 44)).cell? ⟨w.heap.size + 1 + 1, 2, none⟩ = some (.int .i64 g.dip) := P1.out.cell 2
  have pf2 := P1.out.frozen 2
  have p3 : (w1.alloc (.cells #[.int .i64 g.sum, .int .i64 g.peak, .int .i64 g.dip, .int .i64 hi, .int .i64 lo, .int .i64 g.seq, .int .i64 g.dropped] 44)).cell? ⟨w.heap.size + 1 + 1, 3, none⟩ = some (.int .i64 hi) := P1.out.cell 3
  have pf3 := P1.out.frozen 3
  have p4 : (w1.alloc (.cells #[.int .i64 g.sum, .int .i64 g.peak, .int .i64 g.dip, .int .i64 hi, .int .i64 lo, .int .i64 g.seq, .int .i64 g.dropped] 44)).cell? ⟨w.heap.size + 1 + 1, 4, none⟩ = some (.int .i64 lo) := P1.out.cell 4
  have pf4 := P1.out.frozen 4
  have p5 : (w1.alloc (.cells #[.int .i64 g.sum, .int .i64 g.peak, .int .i64 g.dip, .int .i64 hi, .int .i64 lo, .int .i64 g.seq, .int .i64 g.dropped] 44)).cell? ⟨w.heap.size + 1 + 1, 5, none⟩ = some (.int .i64 g.seq) := P1.out.cell 5
  have pf5 := P1.out.frozen 5
  have p6 : (w1.alloc (.cells #[.int .i64 g.sum, .int .i64 g.peak, .int .i64 g.dip, .int .i64 hi, .int .i64 lo, .int .i64 g.seq, .int .i64 g.dropped] 44)).cell? ⟨w.heap.size + 1 + 1, 6, none⟩ = some (.int .i64 g.dropped) := P1.out.cell 6
  have pf6 := P1.out.frozen 6
  have y0 : (w1.alloc (.cells #[.int .i64 g.sum, .int .i64 g.peak, .int .i64 g.dip, .int .i64 hi, .int .i64 lo, .int .i64 g.seq, .int .i64 g.dropped] 44)).cell? ⟨w1.heap.size, 0, none⟩ = some (.int .i64 g.sum) := Q1.out.cell 0
  have y1 : (w1.alloc (.cells #[.int .i64 g.sum, .int .i64 g.peak, .int .i64 g.dip, .int .i64 hi, .int .i64 lo, .int .i64 g.seq, .int .i64 g.dropped] 44)).cell? ⟨w1.heap.size, 1, none⟩ = some (.int .i64 g.peak) := Q1.out.cell 1
  have y2 : (w1.alloc (.cells #[.int .i64 g.sum, .int .i64 g.peak, .int .i64 g.dip, .int .i64 hi, .int .i64 lo, .int .i64 g.seq, .int .i64 g.dropped] 44)).cell? ⟨w1.heap.size, 2, none⟩ = some (.int .i64 g.dip) := Q1.out.cell 2
  have y3 : (w1.alloc (.cells #[.int .i64 g.sum, .int .i64 g.peak, .int .i64 g.dip, .int .i64 hi, .int .i64 lo, .int .i64 g.seq, .int .i64 g.dropped] 44)).cell? ⟨w1.heap.size, 3, none⟩ = some (.int .i64 hi) := Q1.out.cell 3
  have y4 : (w1.alloc (.cells #[.int .i64 g.sum, .int .i64 g.peak, .int .i64 g.dip, .int .i64 hi, .int .i64 lo, .int .i64 g.seq, .int .i64 g.dropped] 44)).cell? ⟨w1.heap.size, 4, none⟩ = some (.int .i64 lo) := Q1.out.cell 4
  have y5 : (w1.alloc (.cells #[.int .i64 g.sum, .int .i64 g.peak, .int .i64 g.dip, .int .i64 hi, .int .i64 lo, .int .i64 g.seq, .int .i64 g.dropped] 44)).cell? ⟨w1.heap.size, 5, none⟩ = some (.int .i64 g.seq) := Q1.out.cell 5
  have y6 : (w1.alloc (.cells #[.int .i64 g.sum, .int .i64 g.peak, .int .i64 g.dip, .int .i64 hi, .int .i64 lo, .int .i64 g.seq, .int .i64 g.dropped] 44)).cell? ⟨w1.heap.size, 6, none⟩ = some (.int .i64 g.dropped) := Q1.out.cell 6
  have i8 : (w1.alloc (.cells #[.int .i64 g.sum, .int .i64 g.peak, .int .i64 g.dip, .int .i64 hi, .int .i64 lo, .int .i64 g.seq, .int .i64 g.dropped] 44)).cell? ⟨gp, 8, none⟩ = some (.int .i64 g.at_) := H1.out.cell 8 (gh_get _ H1.out.len).1
  have i9 : (w1.alloc (.cells #[.int .i64 g.sum, .int .i64 g.peak, .int .i64 g.dip, .int .i64 hi, .int .i64 lo, .int .i64 g.seq, .int .i64 g.dropped] 44)).cell? ⟨gp, 9, none⟩ = some (.int .i64 g.depth) := H1.out.cell 9 (gh_get _ H1.out.len).2.1
  have i10 : (w1.alloc (.cells #[.int .i64 g.sum, .int .i64 g.peak, .int .i64 g.dip, .int .i64 hi, .int .i64 lo, .int .i64 g.seq, .int .i64 g.dropped] 44)).cell? ⟨gp, 10, none⟩ = some (.int .i64 g.mode) := H1.out.cell 10 (gh_get _ H1.out.len).2.2
  have z9 := H1.out.frozen 9
  have z10 := H1.out.frozen 10
  go_wp2_with fail
  go_ret
  exact ⟨rfl, Z1.out, H1.out, C1.out.mono (fun k _ e => e.elim)⟩

theorem kp_1c (p zl gp : Nat) (l : Lk) (g : PS) (n : Int) (a b cc : Int) (s t : ByteArray) (U : ByteArray) (w : World) (hg : Good g n) (hn : n ≤ 4611686018427387904) (hg' : Good g (n + 1)) (ha : I64 a) (hb : I64 b) (hx : Ap w p l g) (hc : Cv w zl g.c g.z) (hh : Gh w gp g) (hzg : zl ≠ gp) (e1 : 1 ≤ a) (e2 : a ≤ 32) (e3 : b < 0) :
    Calls Tryd.prog 19 #[.pointer (some ⟨p, 0, none⟩), .pointer (some ⟨zl, 0, none⟩), .pointer (some ⟨gp, 0, none⟩), opV 1 a b cc s t, ansV 2 0 0 U, befV g] w fun e w' => e = .returned (.bool true) ∧ Cv w' zl g.c g.z ∧ Gh w' gp g ∧ Chg (fun k => k = zl ∨ k = gp) w w' := by
  have LK : Hid (∀ w' (h : Ap w' p l g), Calls _ _ _ _ _) := fun w' h => look_any p l g (n + 1) w' hg' h
  unfold befV at LK
  unfold opV ansV befV
  try dsimp only at LK
  try dsimp only
  have HX : Hid (Ap w p l g) := hx
  have HC : Hid (Cv w zl g.c g.z) := hc
  have HH : Hid (Gh w gp g) := hh
  have HG : Hid (Good g n ∧ n ≤ 4611686018427387904 ∧ I64 a ∧ I64 b) := ⟨hg, hn, ha, hb⟩
  have LT : Hid (zl < w.heap.size ∧ gp < w.heap.size ∧ zl ≠ gp) := ⟨Has.lt hc, hh.lt, hzg⟩
  have q0 := hg.q0; have r0 := hg.r0; have A0 := hg.a0; have A8 := hg.a8
  have q1 : g.seq ≤ 4611686018427387904 := by have := hg.q1; omega
  have r1 : g.dropped ≤ 4611686018427387904 := by have := hg.r1; omega
  generalize sumSq g.ring / 4294967296 = hi at LK ⊢
  generalize sumSq g.ring % 4294967296 = lo at LK ⊢
  have O0 : Hid (Has 50 (((w.alloc (.cells #[.int .i64 1, .int .i64 a, .int .i64 b, .int .i64 cc, .string s, .string t] 50)).alloc (.cells #[.int .i64 2, .int .i64 0, .int .i64 0, .string U] 47)).alloc (.cells #[.int .i64 g.sum, .int .i64 g.peak, .int .i64 g.dip, .int .i64 hi, .int .i64 lo, .int .i64 g.seq, .int .i64 g.dropped] 44)) w.heap.size [.int .i64 1, .int .i64 a, .int .i64 b, .int .i64 cc, .string s, .string t]) := ((Has.new 50 w [.int .i64 1, .int .i64 a, .int .i64 b, .int .i64 cc, .string s, .string t]).alloc _).alloc _
  have A0 : Hid (Has 47 (((w.alloc (.cells #[.int .i64 1, .int .i64 a, .int .i64 b, .int .i64 cc, .string s, .string t] 50)).alloc (.cells #[.int .i64 2, .int .i64 0, .int .i64 0, .string U] 47)).alloc (.cells #[.int .i64 g.sum, .int .i64 g.peak, .int .i64 g.dip, .int .i64 hi, .int .i64 lo, .int .i64 g.seq, .int .i64 g.dropped] 44)) (w.heap.size + 1) [.int .i64 2, .int .i64 0, .int .i64 0, .string U]) := (hasAt (by simp) [.int .i64 2, .int .i64 0, .int .i64 0, .string U]).alloc _
  have P0 : Hid (Has 44 (((w.alloc (.cells #[.int .i64 1, .int .i64 a, .int .i64 b, .int .i64 cc, .string s, .string t] 50)).alloc (.cells #[.int .i64 2, .int .i64 0, .int .i64 0, .string U] 47)).alloc (.cells #[.int .i64 g.sum, .int .i64 g.peak, .int .i64 g.dip, .int .i64 hi, .int .i64 lo, .int .i64 g.seq, .int .i64 g.dropped] 44)) (w.heap.size + 1 + 1) [.int .i64 g.sum, .int .i64 g.peak, .int .i64 g.dip, .int .i64 hi, .int .i64 lo, .int .i64 g.seq, .int .i64 g.dropped]) := hasAt (by simp) [.int .i64 g.sum, .int .i64 g.peak, .int .i64 g.dip, .int .i64 hi, .int .i64 lo, .int .i64 g.seq, .int .i64 g.dropped]
  have C0 : Hid (Chg (fun _ => False) w (((w.alloc (.cells #[.int .i64 1, .int .i64 a, .int .i64 b, .int .i64 cc, .string s, .string t] 50)).alloc (.cells #[.int .i64 2, .int .i64 0, .int .i64 0, .string U] 47)).alloc (.cells #[.int .i64 g.sum, .int .i64 g.peak, .int .i64 g.dip, .int .i64 hi, .int .i64 lo, .int .i64 g.seq, .int .i64 g.dropped] 44))) := ((((Chg.refl _ w).alloc _).alloc _).alloc _)
  clear hg hn hg' ha hb hx hc hh hzg
  go_enter Tryd.func19, Tryd.ntmps19
  go_wp2_with fail
  refine (LK.out _ (ap_nil HX.out C0.out)).mono ?_; rintro e w1 ⟨rfl, c1⟩
  have C1 : Hid (Chg (fun _ => False) w (w1.alloc (.cells #[.int .i64 g.sum, .int .i64 g.peak, .int .i64 g.dip, .int .i64 hi, .int .i64 lo, .int .i64 g.seq, .int .i64 g.dropped] 44))) := (C0.out.trans c1).alloc _
  have O1 : Hid (Has 50 (w1.alloc (.cells #[.int .i64 g.sum, .int .i64 g.peak, .int .i64 g.dip, .int .i64 hi, .int .i64 lo, .int .i64 g.seq, .int .i64 g.dropped] 44)) w.heap.size [.int .i64 1, .int .i64 a, .int .i64 b, .int .i64 cc, .string s, .string t]) := (O0.out.kept c1 (fun h => h)).alloc _
  have A1 : Hid (Has 47 (w1.alloc (.cells #[.int .i64 g.sum, .int .i64 g.peak, .int .i64 g.dip, .int .i64 hi, .int .i64 lo, .int .i64 g.seq, .int .i64 g.dropped] 44)) (w.heap.size + 1) [.int .i64 2, .int .i64 0, .int .i64 0, .string U]) := (A0.out.kept c1 (fun h => h)).alloc _
  have P1 : Hid (Has 44 (w1.alloc (.cells #[.int .i64 g.sum, .int .i64 g.peak, .int .i64 g.dip, .int .i64 hi, .int .i64 lo, .int .i64 g.seq, .int .i64 g.dropped] 44)) (w.heap.size + 1 + 1) [.int .i64 g.sum, .int .i64 g.peak, .int .i64 g.dip, .int .i64 hi, .int .i64 lo, .int .i64 g.seq, .int .i64 g.dropped]) := (P0.out.kept c1 (fun h => h)).alloc _
  have Q1 : Hid (Has 44 (w1.alloc (.cells #[.int .i64 g.sum, .int .i64 g.peak, .int .i64 g.dip, .int .i64 hi, .int .i64 lo, .int .i64 g.seq, .int .i64 g.dropped] 44)) w1.heap.size [.int .i64 g.sum, .int .i64 g.peak, .int .i64 g.dip, .int .i64 hi, .int .i64 lo, .int .i64 g.seq, .int .i64 g.dropped]) := Has.new _ _ _
  have HQ : Hid (w.heap.size + 1 + 1 < w1.heap.size) := by have h1 := P0.out.lt; have h2 := c1.size; show w.heap.size + 1 + 1 < w1.heap.size; omega
  have H1 : Hid (Gh (w1.alloc (.cells #[.int .i64 g.sum, .int .i64 g.peak, .int .i64 g.dip, .int .i64 hi, .int .i64 lo, .int .i64 g.seq, .int .i64 g.dropped] 44)) gp g) := (HH.out.nil (C0.out.trans c1)).nil ((Chg.refl _ _).alloc _)
  have Z1 : Hid (Cv (w1.alloc (.cells #[.int .i64 g.sum, .int .i64 g.peak, .int .i64 g.dip, .int .i64 hi, .int .i64 lo, .int .i64 g.seq, .int .i64 g.dropped] 44)) zl g.c g.z) := ((HC.out.kept C0.out (fun h => h)).kept c1 (fun h => h)).alloc _
  clear c1 O0 A0 P0 C0 LK HX HC HH
  have o0 : (w1.alloc (.cells #[.int .i64 g.sum, .int .i64 g.peak, .int .i64 g.dip, .int .i64 hi, .int .i64 lo, .int .i64 g.seq, .int .i64 g.dropped] 44)).cell? ⟨w.heap.size, 0, none⟩ = some (.int .i64 1) := O1.out.cell 0
  have o1 : (w1.alloc (.cells #[.int .i64 g.sum, .int .i64 g.peak, .int .i64 g.dip, .int .i64 hi, .int .i64 lo, .int .i64 g.seq, .int .i64 g.dropped] 44)).cell? ⟨w.heap.size, 1, none⟩ = some (.int .i64 a) := O1.out.cell 1
  have o2 : (w1.alloc (.cells #[.int .i64 g.sum, .int .i64 g.peak, .int .i64 g.dip, .int .i64 hi, .int .i64 lo, .int .i64 g.seq, .int .i64 g.dropped] 44)).cell? ⟨w.heap.size, 2, none⟩ = some (.int .i64 b) := O1.out.cell 2
  have a0 : (w1.alloc (.cells #[.int .i64 g.sum, .int .i64 g.peak, .int .i64 g.dip, .int .i64 hi, .int .i64 lo, .int .i64 g.seq, .int .i64 g.dropped] 44)).cell? ⟨w.heap.size + 1, 0, none⟩ = some (.int .i64 2) := A1.out.cell 0
  have a1 : (w1.alloc (.cells #[.int .i64 g.sum, .int .i64 g.peak, .int .i64 g.dip, .int .i64 hi, .int .i64 lo, .int .i64 g.seq, .int .i64 g.dropped] 44)).cell? ⟨w.heap.size + 1, 1, none⟩ = some (.int .i64 0) := A1.out.cell 1
  have a2 : (w1.alloc (.cells #[.int .i64 g.sum, .int .i64 g.peak, .int .i64 g.dip, .int .i64 hi, .int .i64 lo, .int .i64 g.seq, .int .i64 g.dropped] 44)).cell? ⟨w.heap.size + 1, 2, none⟩ = some (.int .i64 0) := A1.out.cell 2
  have a3 : (w1.alloc (.cells #[.int .i64 g.sum, .int .i64 g.peak, .int .i64 g.dip, .int .i64 hi, .int .i64 lo, .int .i64 g.seq, .int .i64 g.dropped] 44)).cell? ⟨w.heap.size + 1, 3, none⟩ = some (.string U) := A1.out.cell 3
  have p0 : (w1.alloc (.cells #[.int .i64 g.sum, .int .i64 g.peak, .int .i64 g.dip, .int .i64 hi, .int .i64 lo, .int .i64 g.seq, .int .i64 g.dropped] 44)).cell? ⟨w.heap.size + 1 + 1, 0, none⟩ = some (.int .i64 g.sum) := P1.out.cell 0
  have pf0 := P1.out.frozen 0
  have p1 : (w1.alloc (.cells #[.int .i64 g.sum, .int .i64 g.peak, .int .i64 g.dip, .int .i64 hi, .int .i64 lo, .int .i64 g.seq, .int .i64 g.dropped] 44)).cell? ⟨w.heap.size + 1 + 1, 1, none⟩ = some (.int .i64 g.peak) := P1.out.cell 1
  have pf1 := P1.out.frozen 1
  have p2 : (w1.alloc (.cells #[.int .i64 g.sum, .int .i64 g.peak, .int .i64 g.dip, .int .i64 hi, .int .i64 lo, .int .i64 g.seq, .int .i64 g.dropped] 44)).cell? ⟨w.heap.size + 1 + 1, 2, none⟩ = some (.int .i64 g.dip) := P1.out.cell 2
  have pf2 := P1.out.frozen 2
  have p3 : (w1.alloc (.cells #[.int .i64 g.sum, .int .i64 g.peak, .int .i64 g.dip, .int .i64 hi, .int .i64 lo, .int .i64 g.seq, .int .i64 g.dropped] 44)).cell? ⟨w.heap.size + 1 + 1, 3, none⟩ = some (.int .i64 hi) := P1.out.cell 3
  have pf3 := P1.out.frozen 3
  have p4 : (w1.alloc (.cells #[.int .i64 g.sum, .int .i64 g.peak, .int .i64 g.dip, .int .i64 hi, .int .i64 lo, .int .i64 g.seq, .int .i64 g.dropped] 44)).cell? ⟨w.heap.size + 1 + 1, 4, none⟩ = some (.int .i64 lo) := P1.out.cell 4
  have pf4 := P1.out.frozen 4
  have p5 : (w1.alloc (.cells #[.int .i64 g.sum, .int .i64 g.peak, .int .i64 g.dip, .int .i64 hi, .int .i64 lo, .int .i64 g.seq, .int .i64 g.dropped] 44)).cell? ⟨w.heap.size + 1 + 1, 5, none⟩ = some (.int .i64 g.seq) := P1.out.cell 5
  have pf5 := P1.out.frozen 5
  have p6 : (w1.alloc (.cells #[.int .i64 g.sum, .int .i64 g.peak, .int .i64 g.dip, .int .i64 hi, .int .i64 lo, .int .i64 g.seq, .int .i64 g.dropped] 44)).cell? ⟨w.heap.size + 1 + 1, 6, none⟩ = some (.int .i64 g.dropped) := P1.out.cell 6
  have pf6 := P1.out.frozen 6
  have y0 : (w1.alloc (.cells #[.int .i64 g.sum, .int .i64 g.peak, .int .i64 g.dip, .int .i64 hi, .int .i64 lo, .int .i64 g.seq, .int .i64 g.dropped] 44)).cell? ⟨w1.heap.size, 0, none⟩ = some (.int .i64 g.sum) := Q1.out.cell 0
  have y1 : (w1.alloc (.cells #[.int .i64 g.sum, .int .i64 g.peak, .int .i64 g.dip, .int .i64 hi, .int .i64 lo, .int .i64 g.seq, .int .i64 g.dropped] 44)).cell? ⟨w1.heap.size, 1, none⟩ = some (.int .i64 g.peak) := Q1.out.cell 1
  have y2 : (w1.alloc (.cells #[.int .i64 g.sum, .int .i64 g.peak, .int .i64 g.dip, .int .i64 hi, .int .i64 lo, .int .i64 g.seq, .int .i64 g.dropped] 44)).cell? ⟨w1.heap.size, 2, none⟩ = some (.int .i64 g.dip) := Q1.out.cell 2
  have y3 : (w1.alloc (.cells #[.int .i64 g.sum, .int .i64 g.peak, .int .i64 g.dip, .int .i64 hi, .int .i64 lo, .int .i64 g.seq, .int .i64 g.dropped] 44)).cell? ⟨w1.heap.size, 3, none⟩ = some (.int .i64 hi) := Q1.out.cell 3
  have y4 : (w1.alloc (.cells #[.int .i64 g.sum, .int .i64 g.peak, .int .i64 g.dip, .int .i64 hi, .int .i64 lo, .int .i64 g.seq, .int .i64 g.dropped] 44)).cell? ⟨w1.heap.size, 4, none⟩ = some (.int .i64 lo) := Q1.out.cell 4
  have y5 : (w1.alloc (.cells #[.int .i64 g.sum, .int .i64 g.peak, .int .i64 g.dip, .int .i64 hi, .int .i64 lo, .int .i64 g.seq, .int .i64 g.dropped] 44)).cell? ⟨w1.heap.size, 5, none⟩ = some (.int .i64 g.seq) := Q1.out.cell 5
  have y6 : (w1.alloc (.cells #[.int .i64 g.sum, .int .i64 g.peak, .int .i64 g.dip, .int .i64 hi, .int .i64 lo, .int .i64 g.seq, .int .i64 g.dropped] 44)).cell? ⟨w1.heap.size, 6, none⟩ = some (.int .i64 g.dropped) := Q1.out.cell 6
  have i8 : (w1.alloc (.cells #[.int .i64 g.sum, .int .i64 g.peak, .int .i64 g.dip, .int .i64 hi, .int .i64 lo, .int .i64 g.seq, .int .i64 g.dropped] 44)).cell? ⟨gp, 8, none⟩ = some (.int .i64 g.at_) := H1.out.cell 8 (gh_get _ H1.out.len).1
  have i9 : (w1.alloc (.cells #[.int .i64 g.sum, .int .i64 g.peak, .int .i64 g.dip, .int .i64 hi, .int .i64 lo, .int .i64 g.seq, .int .i64 g.dropped] 44)).cell? ⟨gp, 9, none⟩ = some (.int .i64 g.depth) := H1.out.cell 9 (gh_get _ H1.out.len).2.1
  have i10 : (w1.alloc (.cells #[.int .i64 g.sum, .int .i64 g.peak, .int .i64 g.dip, .int .i64 hi, .int .i64 lo, .int .i64 g.seq, .int .i64 g.dropped] 44)).cell? ⟨gp, 10, none⟩ = some (.int .i64 g.mode) := H1.out.cell 10 (gh_get _ H1.out.len).2.2
  have z9 := H1.out.frozen 9
  have z10 := H1.out.frozen 10
  go_wp2_with fail
  go_ret
  exact ⟨rfl, Z1.out, H1.out, C1.out.mono (fun k _ e => e.elim)⟩

theorem kp_1d (p zl gp : Nat) (l : Lk) (g : PS) (n : Int) (a b cc : Int) (s t : ByteArray) (U : ByteArray) (w : World) (hg : Good g n) (hn : n ≤ 4611686018427387904) (hg' : Good g (n + 1)) (ha : I64 a) (hb : I64 b) (hx : Ap w p l g) (hc : Cv w zl g.c g.z) (hh : Gh w gp g) (hzg : zl ≠ gp) (e1 : 1 ≤ a) (e2 : a ≤ 32) (e3 : 3 < b) :
    Calls Tryd.prog 19 #[.pointer (some ⟨p, 0, none⟩), .pointer (some ⟨zl, 0, none⟩), .pointer (some ⟨gp, 0, none⟩), opV 1 a b cc s t, ansV 2 0 0 U, befV g] w fun e w' => e = .returned (.bool true) ∧ Cv w' zl g.c g.z ∧ Gh w' gp g ∧ Chg (fun k => k = zl ∨ k = gp) w w' := by
  have LK : Hid (∀ w' (h : Ap w' p l g), Calls _ _ _ _ _) := fun w' h => look_any p l g (n + 1) w' hg' h
  unfold befV at LK
  unfold opV ansV befV
  try dsimp only at LK
  try dsimp only
  have HX : Hid (Ap w p l g) := hx
  have HC : Hid (Cv w zl g.c g.z) := hc
  have HH : Hid (Gh w gp g) := hh
  have HG : Hid (Good g n ∧ n ≤ 4611686018427387904 ∧ I64 a ∧ I64 b) := ⟨hg, hn, ha, hb⟩
  have LT : Hid (zl < w.heap.size ∧ gp < w.heap.size ∧ zl ≠ gp) := ⟨Has.lt hc, hh.lt, hzg⟩
  have q0 := hg.q0; have r0 := hg.r0; have A0 := hg.a0; have A8 := hg.a8
  have q1 : g.seq ≤ 4611686018427387904 := by have := hg.q1; omega
  have r1 : g.dropped ≤ 4611686018427387904 := by have := hg.r1; omega
  have e9 : decide (b ≤ 3) = false := decide_eq_false (by omega)
  generalize sumSq g.ring / 4294967296 = hi at LK ⊢
  generalize sumSq g.ring % 4294967296 = lo at LK ⊢
  have O0 : Hid (Has 50 (((w.alloc (.cells #[.int .i64 1, .int .i64 a, .int .i64 b, .int .i64 cc, .string s, .string t] 50)).alloc (.cells #[.int .i64 2, .int .i64 0, .int .i64 0, .string U] 47)).alloc (.cells #[.int .i64 g.sum, .int .i64 g.peak, .int .i64 g.dip, .int .i64 hi, .int .i64 lo, .int .i64 g.seq, .int .i64 g.dropped] 44)) w.heap.size [.int .i64 1, .int .i64 a, .int .i64 b, .int .i64 cc, .string s, .string t]) := ((Has.new 50 w [.int .i64 1, .int .i64 a, .int .i64 b, .int .i64 cc, .string s, .string t]).alloc _).alloc _
  have A0 : Hid (Has 47 (((w.alloc (.cells #[.int .i64 1, .int .i64 a, .int .i64 b, .int .i64 cc, .string s, .string t] 50)).alloc (.cells #[.int .i64 2, .int .i64 0, .int .i64 0, .string U] 47)).alloc (.cells #[.int .i64 g.sum, .int .i64 g.peak, .int .i64 g.dip, .int .i64 hi, .int .i64 lo, .int .i64 g.seq, .int .i64 g.dropped] 44)) (w.heap.size + 1) [.int .i64 2, .int .i64 0, .int .i64 0, .string U]) := (hasAt (by simp) [.int .i64 2, .int .i64 0, .int .i64 0, .string U]).alloc _
  have P0 : Hid (Has 44 (((w.alloc (.cells #[.int .i64 1, .int .i64 a, .int .i64 b, .int .i64 cc, .string s, .string t] 50)).alloc (.cells #[.int .i64 2, .int .i64 0, .int .i64 0, .string U] 47)).alloc (.cells #[.int .i64 g.sum, .int .i64 g.peak, .int .i64 g.dip, .int .i64 hi, .int .i64 lo, .int .i64 g.seq, .int .i64 g.dropped] 44)) (w.heap.size + 1 + 1) [.int .i64 g.sum, .int .i64 g.peak, .int .i64 g.dip, .int .i64 hi, .int .i64 lo, .int .i64 g.seq, .int .i64 g.dropped]) := hasAt (by simp) [.int .i64 g.sum, .int .i64 g.peak, .int .i64 g.dip, .int .i64 hi, .int .i64 lo, .int .i64 g.seq, .int .i64 g.dropped]
  have C0 : Hid (Chg (fun _ => False) w (((w.alloc (.cells #[.int .i64 1, .int .i64 a, .int .i64 b, .int .i64 cc, .string s, .string t] 50)).alloc (.cells #[.int .i64 2, .int .i64 0, .int .i64 0, .string U] 47)).alloc (.cells #[.int .i64 g.sum, .int .i64 g.peak, .int .i64 g.dip, .int .i64 hi, .int .i64 lo, .int .i64 g.seq, .int .i64 g.dropped] 44))) := ((((Chg.refl _ w).alloc _).alloc _).alloc _)
  clear hg hn hg' ha hb hx hc hh hzg
  go_enter Tryd.func19, Tryd.ntmps19
  go_wp2_with fail
  refine (LK.out _ (ap_nil HX.out C0.out)).mono ?_; rintro e w1 ⟨rfl, c1⟩
  have C1 : Hid (Chg (fun _ => False) w (w1.alloc (.cells #[.int .i64 g.sum, .int .i64 g.peak, .int .i64 g.dip, .int .i64 hi, .int .i64 lo, .int .i64 g.seq, .int .i64 g.dropped] 44))) := (C0.out.trans c1).alloc _
  have O1 : Hid (Has 50 (w1.alloc (.cells #[.int .i64 g.sum, .int .i64 g.peak, .int .i64 g.dip, .int .i64 hi, .int .i64 lo, .int .i64 g.seq, .int .i64 g.dropped] 44)) w.heap.size [.int .i64 1, .int .i64 a, .int .i64 b, .int .i64 cc, .string s, .string t]) := (O0.out.kept c1 (fun h => h)).alloc _
  have A1 : Hid (Has 47 (w1.alloc (.cells #[.int .i64 g.sum, .int .i64 g.peak, .int .i64 g.dip, .int .i64 hi, .int .i64 lo, .int .i64 g.seq, .int .i64 g.dropped] 44)) (w.heap.size + 1) [.int .i64 2, .int .i64 0, .int .i64 0, .string U]) := (A0.out.kept c1 (fun h => h)).alloc _
  have P1 : Hid (Has 44 (w1.alloc (.cells #[.int .i64 g.sum, .int .i64 g.peak, .int .i64 g.dip, .int .i64 hi, .int .i64 lo, .int .i64 g.seq, .int .i64 g.dropped] 44)) (w.heap.size + 1 + 1) [.int .i64 g.sum, .int .i64 g.peak, .int .i64 g.dip, .int .i64 hi, .int .i64 lo, .int .i64 g.seq, .int .i64 g.dropped]) := (P0.out.kept c1 (fun h => h)).alloc _
  have Q1 : Hid (Has 44 (w1.alloc (.cells #[.int .i64 g.sum, .int .i64 g.peak, .int .i64 g.dip, .int .i64 hi, .int .i64 lo, .int .i64 g.seq, .int .i64 g.dropped] 44)) w1.heap.size [.int .i64 g.sum, .int .i64 g.peak, .int .i64 g.dip, .int .i64 hi, .int .i64 lo, .int .i64 g.seq, .int .i64 g.dropped]) := Has.new _ _ _
  have HQ : Hid (w.heap.size + 1 + 1 < w1.heap.size) := by have h1 := P0.out.lt; have h2 := c1.size; show w.heap.size + 1 + 1 < w1.heap.size; omega
  have H1 : Hid (Gh (w1.alloc (.cells #[.int .i64 g.sum, .int .i64 g.peak, .int .i64 g.dip, .int .i64 hi, .int .i64 lo, .int .i64 g.seq, .int .i64 g.dropped] 44)) gp g) := (HH.out.nil (C0.out.trans c1)).nil ((Chg.refl _ _).alloc _)
  have Z1 : Hid (Cv (w1.alloc (.cells #[.int .i64 g.sum, .int .i64 g.peak, .int .i64 g.dip, .int .i64 hi, .int .i64 lo, .int .i64 g.seq, .int .i64 g.dropped] 44)) zl g.c g.z) := ((HC.out.kept C0.out (fun h => h)).kept c1 (fun h => h)).alloc _
  clear c1 O0 A0 P0 C0 LK HX HC HH
  have o0 : (w1.alloc (.cells #[.int .i64 g.sum, .int .i64 g.peak, .int .i64 g.dip, .int .i64 hi, .int .i64 lo, .int .i64 g.seq, .int .i64 g.dropped] 44)).cell? ⟨w.heap.size, 0, none⟩ = some (.int .i64 1) := O1.out.cell 0
  have o1 : (w1.alloc (.cells #[.int .i64 g.sum, .int .i64 g.peak, .int .i64 g.dip, .int .i64 hi, .int .i64 lo, .int .i64 g.seq, .int .i64 g.dropped] 44)).cell? ⟨w.heap.size, 1, none⟩ = some (.int .i64 a) := O1.out.cell 1
  have o2 : (w1.alloc (.cells #[.int .i64 g.sum, .int .i64 g.peak, .int .i64 g.dip, .int .i64 hi, .int .i64 lo, .int .i64 g.seq, .int .i64 g.dropped] 44)).cell? ⟨w.heap.size, 2, none⟩ = some (.int .i64 b) := O1.out.cell 2
  have a0 : (w1.alloc (.cells #[.int .i64 g.sum, .int .i64 g.peak, .int .i64 g.dip, .int .i64 hi, .int .i64 lo, .int .i64 g.seq, .int .i64 g.dropped] 44)).cell? ⟨w.heap.size + 1, 0, none⟩ = some (.int .i64 2) := A1.out.cell 0
  have a1 : (w1.alloc (.cells #[.int .i64 g.sum, .int .i64 g.peak, .int .i64 g.dip, .int .i64 hi, .int .i64 lo, .int .i64 g.seq, .int .i64 g.dropped] 44)).cell? ⟨w.heap.size + 1, 1, none⟩ = some (.int .i64 0) := A1.out.cell 1
  have a2 : (w1.alloc (.cells #[.int .i64 g.sum, .int .i64 g.peak, .int .i64 g.dip, .int .i64 hi, .int .i64 lo, .int .i64 g.seq, .int .i64 g.dropped] 44)).cell? ⟨w.heap.size + 1, 2, none⟩ = some (.int .i64 0) := A1.out.cell 2
  have a3 : (w1.alloc (.cells #[.int .i64 g.sum, .int .i64 g.peak, .int .i64 g.dip, .int .i64 hi, .int .i64 lo, .int .i64 g.seq, .int .i64 g.dropped] 44)).cell? ⟨w.heap.size + 1, 3, none⟩ = some (.string U) := A1.out.cell 3
  have p0 : (w1.alloc (.cells #[.int .i64 g.sum, .int .i64 g.peak, .int .i64 g.dip, .int .i64 hi, .int .i64 lo, .int .i64 g.seq, .int .i64 g.dropped] 44)).cell? ⟨w.heap.size + 1 + 1, 0, none⟩ = some (.int .i64 g.sum) := P1.out.cell 0
  have pf0 := P1.out.frozen 0
  have p1 : (w1.alloc (.cells #[.int .i64 g.sum, .int .i64 g.peak, .int .i64 g.dip, .int .i64 hi, .int .i64 lo, .int .i64 g.seq, .int .i64 g.dropped] 44)).cell? ⟨w.heap.size + 1 + 1, 1, none⟩ = some (.int .i64 g.peak) := P1.out.cell 1
  have pf1 := P1.out.frozen 1
  have p2 : (w1.alloc (.cells #[.int .i64 g.sum, .int .i64 g.peak, .int .i64 g.dip, .int .i64 hi, .int .i64 lo, .int .i64 g.seq, .int .i64 g.dropped] 44)).cell? ⟨w.heap.size + 1 + 1, 2, none⟩ = some (.int .i64 g.dip) := P1.out.cell 2
  have pf2 := P1.out.frozen 2
  have p3 : (w1.alloc (.cells #[.int .i64 g.sum, .int .i64 g.peak, .int .i64 g.dip, .int .i64 hi, .int .i64 lo, .int .i64 g.seq, .int .i64 g.dropped] 44)).cell? ⟨w.heap.size + 1 + 1, 3, none⟩ = some (.int .i64 hi) := P1.out.cell 3
  have pf3 := P1.out.frozen 3
  have p4 : (w1.alloc (.cells #[.int .i64 g.sum, .int .i64 g.peak, .int .i64 g.dip, .int .i64 hi, .int .i64 lo, .int .i64 g.seq, .int .i64 g.dropped] 44)).cell? ⟨w.heap.size + 1 + 1, 4, none⟩ = some (.int .i64 lo) := P1.out.cell 4
  have pf4 := P1.out.frozen 4
  have p5 : (w1.alloc (.cells #[.int .i64 g.sum, .int .i64 g.peak, .int .i64 g.dip, .int .i64 hi, .int .i64 lo, .int .i64 g.seq, .int .i64 g.dropped] 44)).cell? ⟨w.heap.size + 1 + 1, 5, none⟩ = some (.int .i64 g.seq) := P1.out.cell 5
  have pf5 := P1.out.frozen 5
  have p6 : (w1.alloc (.cells #[.int .i64 g.sum, .int .i64 g.peak, .int .i64 g.dip, .int .i64 hi, .int .i64 lo, .int .i64 g.seq, .int .i64 g.dropped] 44)).cell? ⟨w.heap.size + 1 + 1, 6, none⟩ = some (.int .i64 g.dropped) := P1.out.cell 6
  have pf6 := P1.out.frozen 6
  have y0 : (w1.alloc (.cells #[.int .i64 g.sum, .int .i64 g.peak, .int .i64 g.dip, .int .i64 hi, .int .i64 lo, .int .i64 g.seq, .int .i64 g.dropped] 44)).cell? ⟨w1.heap.size, 0, none⟩ = some (.int .i64 g.sum) := Q1.out.cell 0
  have y1 : (w1.alloc (.cells #[.int .i64 g.sum, .int .i64 g.peak, .int .i64 g.dip, .int .i64 hi, .int .i64 lo, .int .i64 g.seq, .int .i64 g.dropped] 44)).cell? ⟨w1.heap.size, 1, none⟩ = some (.int .i64 g.peak) := Q1.out.cell 1
  have y2 : (w1.alloc (.cells #[.int .i64 g.sum, .int .i64 g.peak, .int .i64 g.dip, .int .i64 hi, .int .i64 lo, .int .i64 g.seq, .int .i64 g.dropped] 44)).cell? ⟨w1.heap.size, 2, none⟩ = some (.int .i64 g.dip) := Q1.out.cell 2
  have y3 : (w1.alloc (.cells #[.int .i64 g.sum, .int .i64 g.peak, .int .i64 g.dip, .int .i64 hi, .int .i64 lo, .int .i64 g.seq, .int .i64 g.dropped] 44)).cell? ⟨w1.heap.size, 3, none⟩ = some (.int .i64 hi) := Q1.out.cell 3
  have y4 : (w1.alloc (.cells #[.int .i64 g.sum, .int .i64 g.peak, .int .i64 g.dip, .int .i64 hi, .int .i64 lo, .int .i64 g.seq, .int .i64 g.dropped] 44)).cell? ⟨w1.heap.size, 4, none⟩ = some (.int .i64 lo) := Q1.out.cell 4
  have y5 : (w1.alloc (.cells #[.int .i64 g.sum, .int .i64 g.peak, .int .i64 g.dip, .int .i64 hi, .int .i64 lo, .int .i64 g.seq, .int .i64 g.dropped] 44)).cell? ⟨w1.heap.size, 5, none⟩ = some (.int .i64 g.seq) := Q1.out.cell 5
  have y6 : (w1.alloc (.cells #[.int .i64 g.sum, .int .i64 g.peak, .int .i64 g.dip, .int .i64 hi, .int .i64 lo, .int .i64 g.seq, .int .i64 g.dropped] 44)).cell? ⟨w1.heap.size, 6, none⟩ = some (.int .i64 g.dropped) := Q1.out.cell 6
  have i8 : (w1.alloc (.cells #[.int .i64 g.sum, .int .i64 g.peak, .int .i64 g.dip, .int .i64 hi, .int .i64 lo, .int .i64 g.seq, .int .i64 g.dropped] 44)).cell? ⟨gp, 8, none⟩ = some (.int .i64 g.at_) := H1.out.cell 8 (gh_get _ H1.out.len).1
  have i9 : (w1.alloc (.cells #[.int .i64 g.sum, .int .i64 g.peak, .int .i64 g.dip, .int .i64 hi, .int .i64 lo, .int .i64 g.seq, .int .i64 g.dropped] 44)).cell? ⟨gp, 9, none⟩ = some (.int .i64 g.depth) := H1.out.cell 9 (gh_get _ H1.out.len).2.1
  have i10 : (w1.alloc (.cells #[.int .i64 g.sum, .int .i64 g.peak, .int .i64 g.dip, .int .i64 hi, .int .i64 lo, .int .i64 g.seq, .int .i64 g.dropped] 44)).cell? ⟨gp, 10, none⟩ = some (.int .i64 g.mode) := H1.out.cell 10 (gh_get _ H1.out.len).2.2
  have z9 := H1.out.frozen 9
  have z10 := H1.out.frozen 10
  go_wp2_with fail
  go_ret
  exact ⟨rfl, Z1.out, H1.out, C1.out.mono (fun k _ e => e.elim)⟩

theorem kp_1e (p zl gp : Nat) (l : Lk) (g : PS) (n : Int) (a b cc : Int) (s t : ByteArray) (U : ByteArray) (w : World) (hg : Good g n) (hn : n ≤ 4611686018427387904) (hg' : Good { g with depth := a, mode := b } (n + 1)) (ha : I64 a) (hb : I64 b) (hx : Ap w p l { g with depth := a, mode := b }) (hc : Cv w zl g.c g.z) (hh : Gh w gp g) (hzg : zl ≠ gp) (e1 : 1 ≤ a) (e2 : a ≤ 32) (e3 : 0 ≤ b) (e4 : b ≤ 3) :
    Calls Tryd.prog 19 #[.pointer (some ⟨p, 0, none⟩), .pointer (some ⟨zl, 0, none⟩), .pointer (some ⟨gp, 0, none⟩), opV 1 a b cc s t, ansV 0 0 0 U, befV g] w fun e w' => e = .returned (.bool true) ∧ Cv w' zl { g with depth := a, mode := b }.c { g with depth := a, mode := b }.z ∧ Gh w' gp { g with depth := a, mode := b } ∧ Chg (fun k => k = zl ∨ k = gp) w w' := by
  have LK : Hid (∀ w' (h : Ap w' p l { g with depth := a, mode := b }), Calls _ _ _ _ _) := fun w' h => look_any p l { g with depth := a, mode := b } (n + 1) w' hg' h
  unfold befV at LK
  unfold opV ansV befV
  try dsimp only at LK
  try dsimp only
  have HX : Hid (Ap w p l { g with depth := a, mode := b }) := hx
  have HC : Hid (Cv w zl g.c g.z) := hc
  have HH : Hid (Gh w gp g) := hh
  have HG : Hid (Good g n ∧ n ≤ 4611686018427387904 ∧ I64 a ∧ I64 b) := ⟨hg, hn, ha, hb⟩
  have LT : Hid (zl < w.heap.size ∧ gp < w.heap.size ∧ zl ≠ gp) := ⟨Has.lt hc, hh.lt, hzg⟩
  have q0 := hg.q0; have r0 := hg.r0; have A0 := hg.a0; have A8 := hg.a8
  have q1 : g.seq ≤ 4611686018427387904 := by have := hg.q1; omega
  have r1 : g.dropped ≤ 4611686018427387904 := by have := hg.r1; omega
  generalize sumSq g.ring / 4294967296 = hi at LK ⊢
  generalize sumSq g.ring % 4294967296 = lo at LK ⊢
  have O0 : Hid (Has 50 (((w.alloc (.cells #[.int .i64 1, .int .i64 a, .int .i64 b, .int .i64 cc, .string s, .string t] 50)).alloc (.cells #[.int .i64 0, .int .i64 0, .int .i64 0, .string U] 47)).alloc (.cells #[.int .i64 g.sum, .int .i64 g.peak, .int .i64 g.dip, .int .i64 hi, .int .i64 lo, .int .i64 g.seq, .int .i64 g.dropped] 44)) w.heap.size [.int .i64 1, .int .i64 a, .int .i64 b, .int .i64 cc, .string s, .string t]) := ((Has.new 50 w [.int .i64 1, .int .i64 a, .int .i64 b, .int .i64 cc, .string s, .string t]).alloc _).alloc _
  have A0 : Hid (Has 47 (((w.alloc (.cells #[.int .i64 1, .int .i64 a, .int .i64 b, .int .i64 cc, .string s, .string t] 50)).alloc (.cells #[.int .i64 0, .int .i64 0, .int .i64 0, .string U] 47)).alloc (.cells #[.int .i64 g.sum, .int .i64 g.peak, .int .i64 g.dip, .int .i64 hi, .int .i64 lo, .int .i64 g.seq, .int .i64 g.dropped] 44)) (w.heap.size + 1) [.int .i64 0, .int .i64 0, .int .i64 0, .string U]) := (hasAt (by simp) [.int .i64 0, .int .i64 0, .int .i64 0, .string U]).alloc _
  have P0 : Hid (Has 44 (((w.alloc (.cells #[.int .i64 1, .int .i64 a, .int .i64 b, .int .i64 cc, .string s, .string t] 50)).alloc (.cells #[.int .i64 0, .int .i64 0, .int .i64 0, .string U] 47)).alloc (.cells #[.int .i64 g.sum, .int .i64 g.peak, .int .i64 g.dip, .int .i64 hi, .int .i64 lo, .int .i64 g.seq, .int .i64 g.dropped] 44)) (w.heap.size + 1 + 1) [.int .i64 g.sum, .int .i64 g.peak, .int .i64 g.dip, .int .i64 hi, .int .i64 lo, .int .i64 g.seq, .int .i64 g.dropped]) := hasAt (by simp) [.int .i64 g.sum, .int .i64 g.peak, .int .i64 g.dip, .int .i64 hi, .int .i64 lo, .int .i64 g.seq, .int .i64 g.dropped]
  have C0 : Hid (Chg (fun _ => False) w (((w.alloc (.cells #[.int .i64 1, .int .i64 a, .int .i64 b, .int .i64 cc, .string s, .string t] 50)).alloc (.cells #[.int .i64 0, .int .i64 0, .int .i64 0, .string U] 47)).alloc (.cells #[.int .i64 g.sum, .int .i64 g.peak, .int .i64 g.dip, .int .i64 hi, .int .i64 lo, .int .i64 g.seq, .int .i64 g.dropped] 44))) := ((((Chg.refl _ w).alloc _).alloc _).alloc _)
  clear hg hn hg' ha hb hx hc hh hzg
  go_enter Tryd.func19, Tryd.ntmps19
  go_wp2_with fail
  refine (LK.out _ (ap_nil HX.out C0.out)).mono ?_; rintro e w1 ⟨rfl, c1⟩
  have C1 : Hid (Chg (fun _ => False) w (w1.alloc (.cells #[.int .i64 g.sum, .int .i64 g.peak, .int .i64 g.dip, .int .i64 hi, .int .i64 lo, .int .i64 g.seq, .int .i64 g.dropped] 44))) := (C0.out.trans c1).alloc _
  have O1 : Hid (Has 50 (w1.alloc (.cells #[.int .i64 g.sum, .int .i64 g.peak, .int .i64 g.dip, .int .i64 hi, .int .i64 lo, .int .i64 g.seq, .int .i64 g.dropped] 44)) w.heap.size [.int .i64 1, .int .i64 a, .int .i64 b, .int .i64 cc, .string s, .string t]) := (O0.out.kept c1 (fun h => h)).alloc _
  have A1 : Hid (Has 47 (w1.alloc (.cells #[.int .i64 g.sum, .int .i64 g.peak, .int .i64 g.dip, .int .i64 hi, .int .i64 lo, .int .i64 g.seq, .int .i64 g.dropped] 44)) (w.heap.size + 1) [.int .i64 0, .int .i64 0, .int .i64 0, .string U]) := (A0.out.kept c1 (fun h => h)).alloc _
  have P1 : Hid (Has 44 (w1.alloc (.cells #[.int .i64 g.sum, .int .i64 g.peak, .int .i64 g.dip, .int .i64 hi, .int .i64 lo, .int .i64 g.seq, .int .i64 g.dropped] 44)) (w.heap.size + 1 + 1) [.int .i64 g.sum, .int .i64 g.peak, .int .i64 g.dip, .int .i64 hi, .int .i64 lo, .int .i64 g.seq, .int .i64 g.dropped]) := (P0.out.kept c1 (fun h => h)).alloc _
  have Q1 : Hid (Has 44 (w1.alloc (.cells #[.int .i64 g.sum, .int .i64 g.peak, .int .i64 g.dip, .int .i64 hi, .int .i64 lo, .int .i64 g.seq, .int .i64 g.dropped] 44)) w1.heap.size [.int .i64 g.sum, .int .i64 g.peak, .int .i64 g.dip, .int .i64 hi, .int .i64 lo, .int .i64 g.seq, .int .i64 g.dropped]) := Has.new _ _ _
  have HQ : Hid (w.heap.size + 1 + 1 < w1.heap.size) := by have h1 := P0.out.lt; have h2 := c1.size; show w.heap.size + 1 + 1 < w1.heap.size; omega
  have H1 : Hid (Gh (w1.alloc (.cells #[.int .i64 g.sum, .int .i64 g.peak, .int .i64 g.dip, .int .i64 hi, .int .i64 lo, .int .i64 g.seq, .int .i64 g.dropped] 44)) gp g) := (HH.out.nil (C0.out.trans c1)).nil ((Chg.refl _ _).alloc _)
  have Z1 : Hid (Cv (w1.alloc (.cells #[.int .i64 g.sum, .int .i64 g.peak, .int .i64 g.dip, .int .i64 hi, .int .i64 lo, .int .i64 g.seq, .int .i64 g.dropped] 44)) zl g.c g.z) := ((HC.out.kept C0.out (fun h => h)).kept c1 (fun h => h)).alloc _
  clear c1 O0 A0 P0 C0 LK HX HC HH
  have o0 : (w1.alloc (.cells #[.int .i64 g.sum, .int .i64 g.peak, .int .i64 g.dip, .int .i64 hi, .int .i64 lo, .int .i64 g.seq, .int .i64 g.dropped] 44)).cell? ⟨w.heap.size, 0, none⟩ = some (.int .i64 1) := O1.out.cell 0
  have o1 : (w1.alloc (.cells #[.int .i64 g.sum, .int .i64 g.peak, .int .i64 g.dip, .int .i64 hi, .int .i64 lo, .int .i64 g.seq, .int .i64 g.dropped] 44)).cell? ⟨w.heap.size, 1, none⟩ = some (.int .i64 a) := O1.out.cell 1
  have o2 : (w1.alloc (.cells #[.int .i64 g.sum, .int .i64 g.peak, .int .i64 g.dip, .int .i64 hi, .int .i64 lo, .int .i64 g.seq, .int .i64 g.dropped] 44)).cell? ⟨w.heap.size, 2, none⟩ = some (.int .i64 b) := O1.out.cell 2
  have a0 : (w1.alloc (.cells #[.int .i64 g.sum, .int .i64 g.peak, .int .i64 g.dip, .int .i64 hi, .int .i64 lo, .int .i64 g.seq, .int .i64 g.dropped] 44)).cell? ⟨w.heap.size + 1, 0, none⟩ = some (.int .i64 0) := A1.out.cell 0
  have a1 : (w1.alloc (.cells #[.int .i64 g.sum, .int .i64 g.peak, .int .i64 g.dip, .int .i64 hi, .int .i64 lo, .int .i64 g.seq, .int .i64 g.dropped] 44)).cell? ⟨w.heap.size + 1, 1, none⟩ = some (.int .i64 0) := A1.out.cell 1
  have a2 : (w1.alloc (.cells #[.int .i64 g.sum, .int .i64 g.peak, .int .i64 g.dip, .int .i64 hi, .int .i64 lo, .int .i64 g.seq, .int .i64 g.dropped] 44)).cell? ⟨w.heap.size + 1, 2, none⟩ = some (.int .i64 0) := A1.out.cell 2
  have a3 : (w1.alloc (.cells #[.int .i64 g.sum, .int .i64 g.peak, .int .i64 g.dip, .int .i64 hi, .int .i64 lo, .int .i64 g.seq, .int .i64 g.dropped] 44)).cell? ⟨w.heap.size + 1, 3, none⟩ = some (.string U) := A1.out.cell 3
  have p0 : (w1.alloc (.cells #[.int .i64 g.sum, .int .i64 g.peak, .int .i64 g.dip, .int .i64 hi, .int .i64 lo, .int .i64 g.seq, .int .i64 g.dropped] 44)).cell? ⟨w.heap.size + 1 + 1, 0, none⟩ = some (.int .i64 g.sum) := P1.out.cell 0
  have pf0 := P1.out.frozen 0
  have p1 : (w1.alloc (.cells #[.int .i64 g.sum, .int .i64 g.peak, .int .i64 g.dip, .int .i64 hi, .int .i64 lo, .int .i64 g.seq, .int .i64 g.dropped] 44)).cell? ⟨w.heap.size + 1 + 1, 1, none⟩ = some (.int .i64 g.peak) := P1.out.cell 1
  have pf1 := P1.out.frozen 1
  have p2 : (w1.alloc (.cells #[.int .i64 g.sum, .int .i64 g.peak, .int .i64 g.dip, .int .i64 hi, .int .i64 lo, .int .i64 g.seq, .int .i64 g.dropped] 44)).cell? ⟨w.heap.size + 1 + 1, 2, none⟩ = some (.int .i64 g.dip) := P1.out.cell 2
  have pf2 := P1.out.frozen 2
  have p3 : (w1.alloc (.cells #[.int .i64 g.sum, .int .i64 g.peak, .int .i64 g.dip, .int .i64 hi, .int .i64 lo, .int .i64 g.seq, .int .i64 g.dropped] 44)).cell? ⟨w.heap.size + 1 + 1, 3, none⟩ = some (.int .i64 hi) := P1.out.cell 3
  have pf3 := P1.out.frozen 3
  have p4 : (w1.alloc (.cells #[.int .i64 g.sum, .int .i64 g.peak, .int .i64 g.dip, .int .i64 hi, .int .i64 lo, .int .i64 g.seq, .int .i64 g.dropped] 44)).cell? ⟨w.heap.size + 1 + 1, 4, none⟩ = some (.int .i64 lo) := P1.out.cell 4
  have pf4 := P1.out.frozen 4
  have p5 : (w1.alloc (.cells #[.int .i64 g.sum, .int .i64 g.peak, .int .i64 g.dip, .int .i64 hi, .int .i64 lo, .int .i64 g.seq, .int .i64 g.dropped] 44)).cell? ⟨w.heap.size + 1 + 1, 5, none⟩ = some (.int .i64 g.seq) := P1.out.cell 5
  have pf5 := P1.out.frozen 5
  have p6 : (w1.alloc (.cells #[.int .i64 g.sum, .int .i64 g.peak, .int .i64 g.dip, .int .i64 hi, .int .i64 lo, .int .i64 g.seq, .int .i64 g.dropped] 44)).cell? ⟨w.heap.size + 1 + 1, 6, none⟩ = some (.int .i64 g.dropped) := P1.out.cell 6
  have pf6 := P1.out.frozen 6
  have y0 : (w1.alloc (.cells #[.int .i64 g.sum, .int .i64 g.peak, .int .i64 g.dip, .int .i64 hi, .int .i64 lo, .int .i64 g.seq, .int .i64 g.dropped] 44)).cell? ⟨w1.heap.size, 0, none⟩ = some (.int .i64 g.sum) := Q1.out.cell 0
  have y1 : (w1.alloc (.cells #[.int .i64 g.sum, .int .i64 g.peak, .int .i64 g.dip, .int .i64 hi, .int .i64 lo, .int .i64 g.seq, .int .i64 g.dropped] 44)).cell? ⟨w1.heap.size, 1, none⟩ = some (.int .i64 g.peak) := Q1.out.cell 1
  have y2 : (w1.alloc (.cells #[.int .i64 g.sum, .int .i64 g.peak, .int .i64 g.dip, .int .i64 hi, .int .i64 lo, .int .i64 g.seq, .int .i64 g.dropped] 44)).cell? ⟨w1.heap.size, 2, none⟩ = some (.int .i64 g.dip) := Q1.out.cell 2
  have y3 : (w1.alloc (.cells #[.int .i64 g.sum, .int .i64 g.peak, .int .i64 g.dip, .int .i64 hi, .int .i64 lo, .int .i64 g.seq, .int .i64 g.dropped] 44)).cell? ⟨w1.heap.size, 3, none⟩ = some (.int .i64 hi) := Q1.out.cell 3
  have y4 : (w1.alloc (.cells #[.int .i64 g.sum, .int .i64 g.peak, .int .i64 g.dip, .int .i64 hi, .int .i64 lo, .int .i64 g.seq, .int .i64 g.dropped] 44)).cell? ⟨w1.heap.size, 4, none⟩ = some (.int .i64 lo) := Q1.out.cell 4
  have y5 : (w1.alloc (.cells #[.int .i64 g.sum, .int .i64 g.peak, .int .i64 g.dip, .int .i64 hi, .int .i64 lo, .int .i64 g.seq, .int .i64 g.dropped] 44)).cell? ⟨w1.heap.size, 5, none⟩ = some (.int .i64 g.seq) := Q1.out.cell 5
  have y6 : (w1.alloc (.cells #[.int .i64 g.sum, .int .i64 g.peak, .int .i64 g.dip, .int .i64 hi, .int .i64 lo, .int .i64 g.seq, .int .i64 g.dropped] 44)).cell? ⟨w1.heap.size, 6, none⟩ = some (.int .i64 g.dropped) := Q1.out.cell 6
  have i8 : (w1.alloc (.cells #[.int .i64 g.sum, .int .i64 g.peak, .int .i64 g.dip, .int .i64 hi, .int .i64 lo, .int .i64 g.seq, .int .i64 g.dropped] 44)).cell? ⟨gp, 8, none⟩ = some (.int .i64 g.at_) := H1.out.cell 8 (gh_get _ H1.out.len).1
  have i9 : (w1.alloc (.cells #[.int .i64 g.sum, .int .i64 g.peak, .int .i64 g.dip, .int .i64 hi, .int .i64 lo, .int .i64 g.seq, .int .i64 g.dropped] 44)).cell? ⟨gp, 9, none⟩ = some (.int .i64 g.depth) := H1.out.cell 9 (gh_get _ H1.out.len).2.1
  have i10 : (w1.alloc (.cells #[.int .i64 g.sum, .int .i64 g.peak, .int .i64 g.dip, .int .i64 hi, .int .i64 lo, .int .i64 g.seq, .int .i64 g.dropped] 44)).cell? ⟨gp, 10, none⟩ = some (.int .i64 g.mode) := H1.out.cell 10 (gh_get _ H1.out.len).2.2
  have z9 := H1.out.frozen 9
  have z10 := H1.out.frozen 10
  have hq := HQ.out
  have hlt := LT.out
  have ngo : ∀ (W : World) (i j : Nat) (v : Value), (W.setCell ⟨gp, i, none⟩ v).cell? ⟨w.heap.size, j, none⟩ = W.cell? ⟨w.heap.size, j, none⟩ := fun W i j v => far_cell' W (by omega) i j v
  have nga : ∀ (W : World) (i j : Nat) (v : Value), (W.setCell ⟨gp, i, none⟩ v).cell? ⟨w.heap.size + 1, j, none⟩ = W.cell? ⟨w.heap.size + 1, j, none⟩ := fun W i j v => far_cell' W (by omega) i j v
  have ngp : ∀ (W : World) (i j : Nat) (v : Value), (W.setCell ⟨gp, i, none⟩ v).cell? ⟨w.heap.size + 1 + 1, j, none⟩ = W.cell? ⟨w.heap.size + 1 + 1, j, none⟩ := fun W i j v => far_cell' W (by omega) i j v
  have ngq : ∀ (W : World) (i j : Nat) (v : Value), (W.setCell ⟨gp, i, none⟩ v).cell? ⟨w1.heap.size, j, none⟩ = W.cell? ⟨w1.heap.size, j, none⟩ := fun W i j v => far_cell' W (by omega) i j v
  clear hq hlt
  go_wp2_with fail
  go_ret
  have lt := LT.out
  exact ⟨rfl, (Z1.out.setOther (by show gp ≠ zl; omega) _).setOther (by show gp ≠ zl; omega) _, (H1.out.setDepth a).setMode b, ((C1.out.mono (fun k _ e => e.elim)).setCell (Or.inl (Or.inr rfl)) _).setCell (Or.inl (Or.inr rfl)) _⟩

theorem kp_9 (p zl gp : Nat) (l : Lk) (g : PS) (n : Int) (a b cc : Int) (s t : ByteArray) (U : ByteArray) (w : World) (hg : Good g n) (hn : n ≤ 4611686018427387904) (hg' : Good { g with seq := g.seq + 1 } (n + 1)) (ha : I64 a) (hb : I64 b) (hx : Ap w p l { g with seq := g.seq + 1 }) (hc : Cv w zl g.c g.z) (hh : Gh w gp g) (hzg : zl ≠ gp) :
    Calls Tryd.prog 19 #[.pointer (some ⟨p, 0, none⟩), .pointer (some ⟨zl, 0, none⟩), .pointer (some ⟨gp, 0, none⟩), opV 9 a b cc s t, ansV 0 g.seq (g.seq + 1) U, befV g] w fun e w' => e = .returned (.bool true) ∧ Cv w' zl { g with seq := g.seq + 1 }.c { g with seq := g.seq + 1 }.z ∧ Gh w' gp { g with seq := g.seq + 1 } ∧ Chg (fun k => k = zl ∨ k = gp) w w' := by
  have LK : Hid (∀ w' (h : Ap w' p l { g with seq := g.seq + 1 }), Calls _ _ _ _ _) := fun w' h => look_any p l { g with seq := g.seq + 1 } (n + 1) w' hg' h
  unfold befV at LK
  unfold opV ansV befV
  try dsimp only at LK
  try dsimp only
  have HX : Hid (Ap w p l { g with seq := g.seq + 1 }) := hx
  have HC : Hid (Cv w zl g.c g.z) := hc
  have HH : Hid (Gh w gp g) := hh
  have HG : Hid (Good g n ∧ n ≤ 4611686018427387904 ∧ I64 a ∧ I64 b) := ⟨hg, hn, ha, hb⟩
  have LT : Hid (zl < w.heap.size ∧ gp < w.heap.size ∧ zl ≠ gp) := ⟨Has.lt hc, hh.lt, hzg⟩
  have q0 := hg.q0; have r0 := hg.r0; have A0 := hg.a0; have A8 := hg.a8
  have q1 : g.seq ≤ 4611686018427387904 := by have := hg.q1; omega
  have r1 : g.dropped ≤ 4611686018427387904 := by have := hg.r1; omega
  generalize sumSq g.ring / 4294967296 = hi at LK ⊢
  generalize sumSq g.ring % 4294967296 = lo at LK ⊢
  have O0 : Hid (Has 50 (((w.alloc (.cells #[.int .i64 9, .int .i64 a, .int .i64 b, .int .i64 cc, .string s, .string t] 50)).alloc (.cells #[.int .i64 0, .int .i64 g.seq, .int .i64 (g.seq + 1), .string U] 47)).alloc (.cells #[.int .i64 g.sum, .int .i64 g.peak, .int .i64 g.dip, .int .i64 hi, .int .i64 lo, .int .i64 g.seq, .int .i64 g.dropped] 44)) w.heap.size [.int .i64 9, .int .i64 a, .int .i64 b, .int .i64 cc, .string s, .string t]) := ((Has.new 50 w [.int .i64 9, .int .i64 a, .int .i64 b, .int .i64 cc, .string s, .string t]).alloc _).alloc _
  have A0 : Hid (Has 47 (((w.alloc (.cells #[.int .i64 9, .int .i64 a, .int .i64 b, .int .i64 cc, .string s, .string t] 50)).alloc (.cells #[.int .i64 0, .int .i64 g.seq, .int .i64 (g.seq + 1), .string U] 47)).alloc (.cells #[.int .i64 g.sum, .int .i64 g.peak, .int .i64 g.dip, .int .i64 hi, .int .i64 lo, .int .i64 g.seq, .int .i64 g.dropped] 44)) (w.heap.size + 1) [.int .i64 0, .int .i64 g.seq, .int .i64 (g.seq + 1), .string U]) := (hasAt (by simp) [.int .i64 0, .int .i64 g.seq, .int .i64 (g.seq + 1), .string U]).alloc _
  have P0 : Hid (Has 44 (((w.alloc (.cells #[.int .i64 9, .int .i64 a, .int .i64 b, .int .i64 cc, .string s, .string t] 50)).alloc (.cells #[.int .i64 0, .int .i64 g.seq, .int .i64 (g.seq + 1), .string U] 47)).alloc (.cells #[.int .i64 g.sum, .int .i64 g.peak, .int .i64 g.dip, .int .i64 hi, .int .i64 lo, .int .i64 g.seq, .int .i64 g.dropped] 44)) (w.heap.size + 1 + 1) [.int .i64 g.sum, .int .i64 g.peak, .int .i64 g.dip, .int .i64 hi, .int .i64 lo, .int .i64 g.seq, .int .i64 g.dropped]) := hasAt (by simp) [.int .i64 g.sum, .int .i64 g.peak, .int .i64 g.dip, .int .i64 hi, .int .i64 lo, .int .i64 g.seq, .int .i64 g.dropped]
  have C0 : Hid (Chg (fun _ => False) w (((w.alloc (.cells #[.int .i64 9, .int .i64 a, .int .i64 b, .int .i64 cc, .string s, .string t] 50)).alloc (.cells #[.int .i64 0, .int .i64 g.seq, .int .i64 (g.seq + 1), .string U] 47)).alloc (.cells #[.int .i64 g.sum, .int .i64 g.peak, .int .i64 g.dip, .int .i64 hi, .int .i64 lo, .int .i64 g.seq, .int .i64 g.dropped] 44))) := ((((Chg.refl _ w).alloc _).alloc _).alloc _)
  clear hg hn hg' ha hb hx hc hh hzg
  go_enter Tryd.func19, Tryd.ntmps19
  go_wp2_with fail
  refine (LK.out _ (ap_nil HX.out C0.out)).mono ?_; rintro e w1 ⟨rfl, c1⟩
  have C1 : Hid (Chg (fun _ => False) w (w1.alloc (.cells #[.int .i64 g.sum, .int .i64 g.peak, .int .i64 g.dip, .int .i64 hi, .int .i64 lo, .int .i64 (g.seq + 1), .int .i64 g.dropped] 44))) := (C0.out.trans c1).alloc _
  have O1 : Hid (Has 50 (w1.alloc (.cells #[.int .i64 g.sum, .int .i64 g.peak, .int .i64 g.dip, .int .i64 hi, .int .i64 lo, .int .i64 (g.seq + 1), .int .i64 g.dropped] 44)) w.heap.size [.int .i64 9, .int .i64 a, .int .i64 b, .int .i64 cc, .string s, .string t]) := (O0.out.kept c1 (fun h => h)).alloc _
  have A1 : Hid (Has 47 (w1.alloc (.cells #[.int .i64 g.sum, .int .i64 g.peak, .int .i64 g.dip, .int .i64 hi, .int .i64 lo, .int .i64 (g.seq + 1), .int .i64 g.dropped] 44)) (w.heap.size + 1) [.int .i64 0, .int .i64 g.seq, .int .i64 (g.seq + 1), .string U]) := (A0.out.kept c1 (fun h => h)).alloc _
  have P1 : Hid (Has 44 (w1.alloc (.cells #[.int .i64 g.sum, .int .i64 g.peak, .int .i64 g.dip, .int .i64 hi, .int .i64 lo, .int .i64 (g.seq + 1), .int .i64 g.dropped] 44)) (w.heap.size + 1 + 1) [.int .i64 g.sum, .int .i64 g.peak, .int .i64 g.dip, .int .i64 hi, .int .i64 lo, .int .i64 g.seq, .int .i64 g.dropped]) := (P0.out.kept c1 (fun h => h)).alloc _
  have Q1 : Hid (Has 44 (w1.alloc (.cells #[.int .i64 g.sum, .int .i64 g.peak, .int .i64 g.dip, .int .i64 hi, .int .i64 lo, .int .i64 (g.seq + 1), .int .i64 g.dropped] 44)) w1.heap.size [.int .i64 g.sum, .int .i64 g.peak, .int .i64 g.dip, .int .i64 hi, .int .i64 lo, .int .i64 (g.seq + 1), .int .i64 g.dropped]) := Has.new _ _ _
  have HQ : Hid (w.heap.size + 1 + 1 < w1.heap.size) := by have h1 := P0.out.lt; have h2 := c1.size; show w.heap.size + 1 + 1 < w1.heap.size; omega
  have H1 : Hid (Gh (w1.alloc (.cells #[.int .i64 g.sum, .int .i64 g.peak, .int .i64 g.dip, .int .i64 hi, .int .i64 lo, .int .i64 (g.seq + 1), .int .i64 g.dropped] 44)) gp g) := (HH.out.nil (C0.out.trans c1)).nil ((Chg.refl _ _).alloc _)
  have Z1 : Hid (Cv (w1.alloc (.cells #[.int .i64 g.sum, .int .i64 g.peak, .int .i64 g.dip, .int .i64 hi, .int .i64 lo, .int .i64 (g.seq + 1), .int .i64 g.dropped] 44)) zl g.c g.z) := ((HC.out.kept C0.out (fun h => h)).kept c1 (fun h => h)).alloc _
  clear c1 O0 A0 P0 C0 LK HX HC HH
  have o0 : (w1.alloc (.cells #[.int .i64 g.sum, .int .i64 g.peak, .int .i64 g.dip, .int .i64 hi, .int .i64 lo, .int .i64 (g.seq + 1), .int .i64 g.dropped] 44)).cell? ⟨w.heap.size, 0, none⟩ = some (.int .i64 9) := O1.out.cell 0
  have o1 : (w1.alloc (.cells #[.int .i64 g.sum, .int .i64 g.peak, .int .i64 g.dip, .int .i64 hi, .int .i64 lo, .int .i64 (g.seq + 1), .int .i64 g.dropped] 44)).cell? ⟨w.heap.size, 1, none⟩ = some (.int .i64 a) := O1.out.cell 1
  have o2 : (w1.alloc (.cells #[.int .i64 g.sum, .int .i64 g.peak, .int .i64 g.dip, .int .i64 hi, .int .i64 lo, .int .i64 (g.seq + 1), .int .i64 g.dropped] 44)).cell? ⟨w.heap.size, 2, none⟩ = some (.int .i64 b) := O1.out.cell 2
  have a0 : (w1.alloc (.cells #[.int .i64 g.sum, .int .i64 g.peak, .int .i64 g.dip, .int .i64 hi, .int .i64 lo, .int .i64 (g.seq + 1), .int .i64 g.dropped] 44)).cell? ⟨w.heap.size + 1, 0, none⟩ = some (.int .i64 0) := A1.out.cell 0
  have a1 : (w1.alloc (.cells #[.int .i64 g.sum, .int .i64 g.peak, .int .i64 g.dip, .int .i64 hi, .int .i64 lo, .int .i64 (g.seq + 1), .int .i64 g.dropped] 44)).cell? ⟨w.heap.size + 1, 1, none⟩ = some (.int .i64 g.seq) := A1.out.cell 1
  have a2 : (w1.alloc (.cells #[.int .i64 g.sum, .int .i64 g.peak, .int .i64 g.dip, .int .i64 hi, .int .i64 lo, .int .i64 (g.seq + 1), .int .i64 g.dropped] 44)).cell? ⟨w.heap.size + 1, 2, none⟩ = some (.int .i64 (g.seq + 1)) := A1.out.cell 2
  have a3 : (w1.alloc (.cells #[.int .i64 g.sum, .int .i64 g.peak, .int .i64 g.dip, .int .i64 hi, .int .i64 lo, .int .i64 (g.seq + 1), .int .i64 g.dropped] 44)).cell? ⟨w.heap.size + 1, 3, none⟩ = some (.string U) := A1.out.cell 3
  have p0 : (w1.alloc (.cells #[.int .i64 g.sum, .int .i64 g.peak, .int .i64 g.dip, .int .i64 hi, .int .i64 lo, .int .i64 (g.seq + 1), .int .i64 g.dropped] 44)).cell? ⟨w.heap.size + 1 + 1, 0, none⟩ = some (.int .i64 g.sum) := P1.out.cell 0
  have pf0 := P1.out.frozen 0
  have p1 : (w1.alloc (.cells #[.int .i64 g.sum, .int .i64 g.peak, .int .i64 g.dip, .int .i64 hi, .int .i64 lo, .int .i64 (g.seq + 1), .int .i64 g.dropped] 44)).cell? ⟨w.heap.size + 1 + 1, 1, none⟩ = some (.int .i64 g.peak) := P1.out.cell 1
  have pf1 := P1.out.frozen 1
  have p2 : (w1.alloc (.cells #[.int .i64 g.sum, .int .i64 g.peak, .int .i64 g.dip, .int .i64 hi, .int .i64 lo, .int .i64 (g.seq + 1), .int .i64 g.dropped] 44)).cell? ⟨w.heap.size + 1 + 1, 2, none⟩ = some (.int .i64 g.dip) := P1.out.cell 2
  have pf2 := P1.out.frozen 2
  have p3 : (w1.alloc (.cells #[.int .i64 g.sum, .int .i64 g.peak, .int .i64 g.dip, .int .i64 hi, .int .i64 lo, .int .i64 (g.seq + 1), .int .i64 g.dropped] 44)).cell? ⟨w.heap.size + 1 + 1, 3, none⟩ = some (.int .i64 hi) := P1.out.cell 3
  have pf3 := P1.out.frozen 3
  have p4 : (w1.alloc (.cells #[.int .i64 g.sum, .int .i64 g.peak, .int .i64 g.dip, .int .i64 hi, .int .i64 lo, .int .i64 (g.seq + 1), .int .i64 g.dropped] 44)).cell? ⟨w.heap.size + 1 + 1, 4, none⟩ = some (.int .i64 lo) := P1.out.cell 4
  have pf4 := P1.out.frozen 4
  have p5 : (w1.alloc (.cells #[.int .i64 g.sum, .int .i64 g.peak, .int .i64 g.dip, .int .i64 hi, .int .i64 lo, .int .i64 (g.seq + 1), .int .i64 g.dropped] 44)).cell? ⟨w.heap.size + 1 + 1, 5, none⟩ = some (.int .i64 g.seq) := P1.out.cell 5
  have pf5 := P1.out.frozen 5
  have p6 : (w1.alloc (.cells #[.int .i64 g.sum, .int .i64 g.peak, .int .i64 g.dip, .int .i64 hi, .int .i64 lo, .int .i64 (g.seq + 1), .int .i64 g.dropped] 44)).cell? ⟨w.heap.size + 1 + 1, 6, none⟩ = some (.int .i64 g.dropped) := P1.out.cell 6
  have pf6 := P1.out.frozen 6
  have y0 : (w1.alloc (.cells #[.int .i64 g.sum, .int .i64 g.peak, .int .i64 g.dip, .int .i64 hi, .int .i64 lo, .int .i64 (g.seq + 1), .int .i64 g.dropped] 44)).cell? ⟨w1.heap.size, 0, none⟩ = some (.int .i64 g.sum) := Q1.out.cell 0
  have y1 : (w1.alloc (.cells #[.int .i64 g.sum, .int .i64 g.peak, .int .i64 g.dip, .int .i64 hi, .int .i64 lo, .int .i64 (g.seq + 1), .int .i64 g.dropped] 44)).cell? ⟨w1.heap.size, 1, none⟩ = some (.int .i64 g.peak) := Q1.out.cell 1
  have y2 : (w1.alloc (.cells #[.int .i64 g.sum, .int .i64 g.peak, .int .i64 g.dip, .int .i64 hi, .int .i64 lo, .int .i64 (g.seq + 1), .int .i64 g.dropped] 44)).cell? ⟨w1.heap.size, 2, none⟩ = some (.int .i64 g.dip) := Q1.out.cell 2
  have y3 : (w1.alloc (.cells #[.int .i64 g.sum, .int .i64 g.peak, .int .i64 g.dip, .int .i64 hi, .int .i64 lo, .int .i64 (g.seq + 1), .int .i64 g.dropped] 44)).cell? ⟨w1.heap.size, 3, none⟩ = some (.int .i64 hi) := Q1.out.cell 3
  have y4 : (w1.alloc (.cells #[.int .i64 g.sum, .int .i64 g.peak, .int .i64 g.dip, .int .i64 hi, .int .i64 lo, .int .i64 (g.seq + 1), .int .i64 g.dropped] 44)).cell? ⟨w1.heap.size, 4, none⟩ = some (.int .i64 lo) := Q1.out.cell 4
  have y5 : (w1.alloc (.cells #[.int .i64 g.sum, .int .i64 g.peak, .int .i64 g.dip, .int .i64 hi, .int .i64 lo, .int .i64 (g.seq + 1), .int .i64 g.dropped] 44)).cell? ⟨w1.heap.size, 5, none⟩ = some (.int .i64 (g.seq + 1)) := Q1.out.cell 5
  have y6 : (w1.alloc (.cells #[.int .i64 g.sum, .int .i64 g.peak, .int .i64 g.dip, .int .i64 hi, .int .i64 lo, .int .i64 (g.seq + 1), .int .i64 g.dropped] 44)).cell? ⟨w1.heap.size, 6, none⟩ = some (.int .i64 g.dropped) := Q1.out.cell 6
  have i8 : (w1.alloc (.cells #[.int .i64 g.sum, .int .i64 g.peak, .int .i64 g.dip, .int .i64 hi, .int .i64 lo, .int .i64 (g.seq + 1), .int .i64 g.dropped] 44)).cell? ⟨gp, 8, none⟩ = some (.int .i64 g.at_) := H1.out.cell 8 (gh_get _ H1.out.len).1
  have i9 : (w1.alloc (.cells #[.int .i64 g.sum, .int .i64 g.peak, .int .i64 g.dip, .int .i64 hi, .int .i64 lo, .int .i64 (g.seq + 1), .int .i64 g.dropped] 44)).cell? ⟨gp, 9, none⟩ = some (.int .i64 g.depth) := H1.out.cell 9 (gh_get _ H1.out.len).2.1
  have i10 : (w1.alloc (.cells #[.int .i64 g.sum, .int .i64 g.peak, .int .i64 g.dip, .int .i64 hi, .int .i64 lo, .int .i64 (g.seq + 1), .int .i64 g.dropped] 44)).cell? ⟨gp, 10, none⟩ = some (.int .i64 g.mode) := H1.out.cell 10 (gh_get _ H1.out.len).2.2
  have z9 := H1.out.frozen 9
  have z10 := H1.out.frozen 10
  have hq := HQ.out
  have hlt := LT.out
  have npo : ∀ (W : World) (i j : Nat) (v : Value), (W.setCell ⟨w.heap.size + 1 + 1, i, none⟩ v).cell? ⟨w.heap.size, j, none⟩ = W.cell? ⟨w.heap.size, j, none⟩ := fun W i j v => far_cell' W (by omega) i j v
  have npa : ∀ (W : World) (i j : Nat) (v : Value), (W.setCell ⟨w.heap.size + 1 + 1, i, none⟩ v).cell? ⟨w.heap.size + 1, j, none⟩ = W.cell? ⟨w.heap.size + 1, j, none⟩ := fun W i j v => far_cell' W (by omega) i j v
  have npq : ∀ (W : World) (i j : Nat) (v : Value), (W.setCell ⟨w.heap.size + 1 + 1, i, none⟩ v).cell? ⟨w1.heap.size, j, none⟩ = W.cell? ⟨w1.heap.size, j, none⟩ := fun W i j v => far_cell' W (by omega) i j v
  have npg : ∀ (W : World) (i j : Nat) (v : Value), (W.setCell ⟨w.heap.size + 1 + 1, i, none⟩ v).cell? ⟨gp, j, none⟩ = W.cell? ⟨gp, j, none⟩ := fun W i j v => far_cell' W (by omega) i j v
  clear hq hlt
  go_wp2_with fail
  go_ret
  have lt := LT.out
  exact ⟨rfl, Z1.out.setOther (by show w.heap.size + 1 + 1 ≠ zl; omega) _, (H1.out.kept ((Chg.refl (fun k => k = w.heap.size + 1 + 1) _).setCell (Or.inl rfl) _) (by omega)).same rfl rfl rfl rfl, (C1.out.mono (fun k _ e => e.elim)).setCell (Or.inr (by dsimp only; omega)) _⟩

theorem kp_10a (p zl gp : Nat) (l : Lk) (g : PS) (n : Int) (a b cc : Int) (s t : ByteArray) (U : ByteArray) (w : World) (hg : Good g n) (hn : n ≤ 4611686018427387904) (hg' : Good g (n + 1)) (ha : I64 a) (hb : I64 b) (hx : Ap w p l g) (hc : Cv w zl g.c g.z) (hh : Gh w gp g) (hzg : zl ≠ gp) (e1 : a < 0) :
    Calls Tryd.prog 19 #[.pointer (some ⟨p, 0, none⟩), .pointer (some ⟨zl, 0, none⟩), .pointer (some ⟨gp, 0, none⟩), opV 10 a b cc s t, ansV 10 0 0 U, befV g] w fun e w' => e = .returned (.bool true) ∧ Cv w' zl g.c g.z ∧ Gh w' gp g ∧ Chg (fun k => k = zl ∨ k = gp) w w' := by
  have LK : Hid (∀ w' (h : Ap w' p l g), Calls _ _ _ _ _) := fun w' h => look_any p l g (n + 1) w' hg' h
  unfold befV at LK
  unfold opV ansV befV
  try dsimp only at LK
  try dsimp only
  have HX : Hid (Ap w p l g) := hx
  have HC : Hid (Cv w zl g.c g.z) := hc
  have HH : Hid (Gh w gp g) := hh
  have HG : Hid (Good g n ∧ n ≤ 4611686018427387904 ∧ I64 a ∧ I64 b) := ⟨hg, hn, ha, hb⟩
  have LT : Hid (zl < w.heap.size ∧ gp < w.heap.size ∧ zl ≠ gp) := ⟨Has.lt hc, hh.lt, hzg⟩
  have q0 := hg.q0; have r0 := hg.r0; have A0 := hg.a0; have A8 := hg.a8
  have q1 : g.seq ≤ 4611686018427387904 := by have := hg.q1; omega
  have r1 : g.dropped ≤ 4611686018427387904 := by have := hg.r1; omega
  generalize sumSq g.ring / 4294967296 = hi at LK ⊢
  generalize sumSq g.ring % 4294967296 = lo at LK ⊢
  have O0 : Hid (Has 50 (((w.alloc (.cells #[.int .i64 10, .int .i64 a, .int .i64 b, .int .i64 cc, .string s, .string t] 50)).alloc (.cells #[.int .i64 10, .int .i64 0, .int .i64 0, .string U] 47)).alloc (.cells #[.int .i64 g.sum, .int .i64 g.peak, .int .i64 g.dip, .int .i64 hi, .int .i64 lo, .int .i64 g.seq, .int .i64 g.dropped] 44)) w.heap.size [.int .i64 10, .int .i64 a, .int .i64 b, .int .i64 cc, .string s, .string t]) := ((Has.new 50 w [.int .i64 10, .int .i64 a, .int .i64 b, .int .i64 cc, .string s, .string t]).alloc _).alloc _
  have A0 : Hid (Has 47 (((w.alloc (.cells #[.int .i64 10, .int .i64 a, .int .i64 b, .int .i64 cc, .string s, .string t] 50)).alloc (.cells #[.int .i64 10, .int .i64 0, .int .i64 0, .string U] 47)).alloc (.cells #[.int .i64 g.sum, .int .i64 g.peak, .int .i64 g.dip, .int .i64 hi, .int .i64 lo, .int .i64 g.seq, .int .i64 g.dropped] 44)) (w.heap.size + 1) [.int .i64 10, .int .i64 0, .int .i64 0, .string U]) := (hasAt (by simp) [.int .i64 10, .int .i64 0, .int .i64 0, .string U]).alloc _
  have P0 : Hid (Has 44 (((w.alloc (.cells #[.int .i64 10, .int .i64 a, .int .i64 b, .int .i64 cc, .string s, .string t] 50)).alloc (.cells #[.int .i64 10, .int .i64 0, .int .i64 0, .string U] 47)).alloc (.cells #[.int .i64 g.sum, .int .i64 g.peak, .int .i64 g.dip, .int .i64 hi, .int .i64 lo, .int .i64 g.seq, .int .i64 g.dropped] 44)) (w.heap.size + 1 + 1) [.int .i64 g.sum, .int .i64 g.peak, .int .i64 g.dip, .int .i64 hi, .int .i64 lo, .int .i64 g.seq, .int .i64 g.dropped]) := hasAt (by simp) [.int .i64 g.sum, .int .i64 g.peak, .int .i64 g.dip, .int .i64 hi, .int .i64 lo, .int .i64 g.seq, .int .i64 g.dropped]
  have C0 : Hid (Chg (fun _ => False) w (((w.alloc (.cells #[.int .i64 10, .int .i64 a, .int .i64 b, .int .i64 cc, .string s, .string t] 50)).alloc (.cells #[.int .i64 10, .int .i64 0, .int .i64 0, .string U] 47)).alloc (.cells #[.int .i64 g.sum, .int .i64 g.peak, .int .i64 g.dip, .int .i64 hi, .int .i64 lo, .int .i64 g.seq, .int .i64 g.dropped] 44))) := ((((Chg.refl _ w).alloc _).alloc _).alloc _)
  clear hg hn hg' ha hb hx hc hh hzg
  go_enter Tryd.func19, Tryd.ntmps19
  go_wp2_with fail
  refine (LK.out _ (ap_nil HX.out C0.out)).mono ?_; rintro e w1 ⟨rfl, c1⟩
  have C1 : Hid (Chg (fun _ => False) w (w1.alloc (.cells #[.int .i64 g.sum, .int .i64 g.peak, .int .i64 g.dip, .int .i64 hi, .int .i64 lo, .int .i64 g.seq, .int .i64 g.dropped] 44))) := (C0.out.trans c1).alloc _
  have O1 : Hid (Has 50 (w1.alloc (.cells #[.int .i64 g.sum, .int .i64 g.peak, .int .i64 g.dip, .int .i64 hi, .int .i64 lo, .int .i64 g.seq, .int .i64 g.dropped] 44)) w.heap.size [.int .i64 10, .int .i64 a, .int .i64 b, .int .i64 cc, .string s, .string t]) := (O0.out.kept c1 (fun h => h)).alloc _
  have A1 : Hid (Has 47 (w1.alloc (.cells #[.int .i64 g.sum, .int .i64 g.peak, .int .i64 g.dip, .int .i64 hi, .int .i64 lo, .int .i64 g.seq, .int .i64 g.dropped] 44)) (w.heap.size + 1) [.int .i64 10, .int .i64 0, .int .i64 0, .string U]) := (A0.out.kept c1 (fun h => h)).alloc _
  have P1 : Hid (Has 44 (w1.alloc (.cells #[.int .i64 g.sum, .int .i64 g.peak, .int .i64 g.dip, .int .i64 hi, .int .i64 lo, .int .i64 g.seq, .int .i64 g.dropped] 44)) (w.heap.size + 1 + 1) [.int .i64 g.sum, .int .i64 g.peak, .int .i64 g.dip, .int .i64 hi, .int .i64 lo, .int .i64 g.seq, .int .i64 g.dropped]) := (P0.out.kept c1 (fun h => h)).alloc _
  have Q1 : Hid (Has 44 (w1.alloc (.cells #[.int .i64 g.sum, .int .i64 g.peak, .int .i64 g.dip, .int .i64 hi, .int .i64 lo, .int .i64 g.seq, .int .i64 g.dropped] 44)) w1.heap.size [.int .i64 g.sum, .int .i64 g.peak, .int .i64 g.dip, .int .i64 hi, .int .i64 lo, .int .i64 g.seq, .int .i64 g.dropped]) := Has.new _ _ _
  have HQ : Hid (w.heap.size + 1 + 1 < w1.heap.size) := by have h1 := P0.out.lt; have h2 := c1.size; show w.heap.size + 1 + 1 < w1.heap.size; omega
  have H1 : Hid (Gh (w1.alloc (.cells #[.int .i64 g.sum, .int .i64 g.peak, .int .i64 g.dip, .int .i64 hi, .int .i64 lo, .int .i64 g.seq, .int .i64 g.dropped] 44)) gp g) := (HH.out.nil (C0.out.trans c1)).nil ((Chg.refl _ _).alloc _)
  have Z1 : Hid (Cv (w1.alloc (.cells #[.int .i64 g.sum, .int .i64 g.peak, .int .i64 g.dip, .int .i64 hi, .int .i64 lo, .int .i64 g.seq, .int .i64 g.dropped] 44)) zl g.c g.z) := ((HC.out.kept C0.out (fun h => h)).kept c1 (fun h => h)).alloc _
  clear c1 O0 A0 P0 C0 LK HX HC HH
  have o0 : (w1.alloc (.cells #[.int .i64 g.sum, .int .i64 g.peak, .int .i64 g.dip, .int .i64 hi, .int .i64 lo, .int .i64 g.seq, .int .i64 g.dropped] 44)).cell? ⟨w.heap.size, 0, none⟩ = some (.int .i64 10) := O1.out.cell 0
  have o1 : (w1.alloc (.cells #[.int .i64 g.sum, .int .i64 g.peak, .int .i64 g.dip, .int .i64 hi, .int .i64 lo, .int .i64 g.seq, .int .i64 g.dropped] 44)).cell? ⟨w.heap.size, 1, none⟩ = some (.int .i64 a) := O1.out.cell 1
  have o2 : (w1.alloc (.cells #[.int .i64 g.sum, .int .i64 g.peak, .int .i64 g.dip, .int .i64 hi, .int .i64 lo, .int .i64 g.seq, .int .i64 g.dropped] 44)).cell? ⟨w.heap.size, 2, none⟩ = some (.int .i64 b) := O1.out.cell 2
  have a0 : (w1.alloc (.cells #[.int .i64 g.sum, .int .i64 g.peak, .int .i64 g.dip, .int .i64 hi, .int .i64 lo, .int .i64 g.seq, .int .i64 g.dropped] 44)).cell? ⟨w.heap.size + 1, 0, none⟩ = some (.int .i64 10) := A1.out.cell 0
  have a1 : (w1.alloc (.cells #[.int .i64 g.sum, .int .i64 g.peak, .int .i64 g.dip, .int .i64 hi, .int .i64 lo, .int .i64 g.seq, .int .i64 g.dropped] 44)).cell? ⟨w.heap.size + 1, 1, none⟩ = some (.int .i64 0) := A1.out.cell 1
  have a2 : (w1.alloc (.cells #[.int .i64 g.sum, .int .i64 g.peak, .int .i64 g.dip, .int .i64 hi, .int .i64 lo, .int .i64 g.seq, .int .i64 g.dropped] 44)).cell? ⟨w.heap.size + 1, 2, none⟩ = some (.int .i64 0) := A1.out.cell 2
  have a3 : (w1.alloc (.cells #[.int .i64 g.sum, .int .i64 g.peak, .int .i64 g.dip, .int .i64 hi, .int .i64 lo, .int .i64 g.seq, .int .i64 g.dropped] 44)).cell? ⟨w.heap.size + 1, 3, none⟩ = some (.string U) := A1.out.cell 3
  have p0 : (w1.alloc (.cells #[.int .i64 g.sum, .int .i64 g.peak, .int .i64 g.dip, .int .i64 hi, .int .i64 lo, .int .i64 g.seq, .int .i64 g.dropped] 44)).cell? ⟨w.heap.size + 1 + 1, 0, none⟩ = some (.int .i64 g.sum) := P1.out.cell 0
  have pf0 := P1.out.frozen 0
  have p1 : (w1.alloc (.cells #[.int .i64 g.sum, .int .i64 g.peak, .int .i64 g.dip, .int .i64 hi, .int .i64 lo, .int .i64 g.seq, .int .i64 g.dropped] 44)).cell? ⟨w.heap.size + 1 + 1, 1, none⟩ = some (.int .i64 g.peak) := P1.out.cell 1
  have pf1 := P1.out.frozen 1
  have p2 : (w1.alloc (.cells #[.int .i64 g.sum, .int .i64 g.peak, .int .i64 g.dip, .int .i64 hi, .int .i64 lo, .int .i64 g.seq, .int .i64 g.dropped] 44)).cell? ⟨w.heap.size + 1 + 1, 2, none⟩ = some (.int .i64 g.dip) := P1.out.cell 2
  have pf2 := P1.out.frozen 2
  have p3 : (w1.alloc (.cells #[.int .i64 g.sum, .int .i64 g.peak, .int .i64 g.dip, .int .i64 hi, .int .i64 lo, .int .i64 g.seq, .int .i64 g.dropped] 44)).cell? ⟨w.heap.size + 1 + 1, 3, none⟩ = some (.int .i64 hi) := P1.out.cell 3
  have pf3 := P1.out.frozen 3
  have p4 : (w1.alloc (.cells #[.int .i64 g.sum, .int .i64 g.peak, .int .i64 g.dip, .int .i64 hi, .int .i64 lo, .int .i64 g.seq, .int .i64 g.dropped] 44)).cell? ⟨w.heap.size + 1 + 1, 4, none⟩ = some (.int .i64 lo) := P1.out.cell 4
  have pf4 := P1.out.frozen 4
  have p5 : (w1.alloc (.cells #[.int .i64 g.sum, .int .i64 g.peak, .int .i64 g.dip, .int .i64 hi, .int .i64 lo, .int .i64 g.seq, .int .i64 g.dropped] 44)).cell? ⟨w.heap.size + 1 + 1, 5, none⟩ = some (.int .i64 g.seq) := P1.out.cell 5
  have pf5 := P1.out.frozen 5
  have p6 : (w1.alloc (.cells #[.int .i64 g.sum, .int .i64 g.peak, .int .i64 g.dip, .int .i64 hi, .int .i64 lo, .int .i64 g.seq, .int .i64 g.dropped] 44)).cell? ⟨w.heap.size + 1 + 1, 6, none⟩ = some (.int .i64 g.dropped) := P1.out.cell 6
  have pf6 := P1.out.frozen 6
  have y0 : (w1.alloc (.cells #[.int .i64 g.sum, .int .i64 g.peak, .int .i64 g.dip, .int .i64 hi, .int .i64 lo, .int .i64 g.seq, .int .i64 g.dropped] 44)).cell? ⟨w1.heap.size, 0, none⟩ = some (.int .i64 g.sum) := Q1.out.cell 0
  have y1 : (w1.alloc (.cells #[.int .i64 g.sum, .int .i64 g.peak, .int .i64 g.dip, .int .i64 hi, .int .i64 lo, .int .i64 g.seq, .int .i64 g.dropped] 44)).cell? ⟨w1.heap.size, 1, none⟩ = some (.int .i64 g.peak) := Q1.out.cell 1
  have y2 : (w1.alloc (.cells #[.int .i64 g.sum, .int .i64 g.peak, .int .i64 g.dip, .int .i64 hi, .int .i64 lo, .int .i64 g.seq, .int .i64 g.dropped] 44)).cell? ⟨w1.heap.size, 2, none⟩ = some (.int .i64 g.dip) := Q1.out.cell 2
  have y3 : (w1.alloc (.cells #[.int .i64 g.sum, .int .i64 g.peak, .int .i64 g.dip, .int .i64 hi, .int .i64 lo, .int .i64 g.seq, .int .i64 g.dropped] 44)).cell? ⟨w1.heap.size, 3, none⟩ = some (.int .i64 hi) := Q1.out.cell 3
  have y4 : (w1.alloc (.cells #[.int .i64 g.sum, .int .i64 g.peak, .int .i64 g.dip, .int .i64 hi, .int .i64 lo, .int .i64 g.seq, .int .i64 g.dropped] 44)).cell? ⟨w1.heap.size, 4, none⟩ = some (.int .i64 lo) := Q1.out.cell 4
  have y5 : (w1.alloc (.cells #[.int .i64 g.sum, .int .i64 g.peak, .int .i64 g.dip, .int .i64 hi, .int .i64 lo, .int .i64 g.seq, .int .i64 g.dropped] 44)).cell? ⟨w1.heap.size, 5, none⟩ = some (.int .i64 g.seq) := Q1.out.cell 5
  have y6 : (w1.alloc (.cells #[.int .i64 g.sum, .int .i64 g.peak, .int .i64 g.dip, .int .i64 hi, .int .i64 lo, .int .i64 g.seq, .int .i64 g.dropped] 44)).cell? ⟨w1.heap.size, 6, none⟩ = some (.int .i64 g.dropped) := Q1.out.cell 6
  have i8 : (w1.alloc (.cells #[.int .i64 g.sum, .int .i64 g.peak, .int .i64 g.dip, .int .i64 hi, .int .i64 lo, .int .i64 g.seq, .int .i64 g.dropped] 44)).cell? ⟨gp, 8, none⟩ = some (.int .i64 g.at_) := H1.out.cell 8 (gh_get _ H1.out.len).1
  have i9 : (w1.alloc (.cells #[.int .i64 g.sum, .int .i64 g.peak, .int .i64 g.dip, .int .i64 hi, .int .i64 lo, .int .i64 g.seq, .int .i64 g.dropped] 44)).cell? ⟨gp, 9, none⟩ = some (.int .i64 g.depth) := H1.out.cell 9 (gh_get _ H1.out.len).2.1
  have i10 : (w1.alloc (.cells #[.int .i64 g.sum, .int .i64 g.peak, .int .i64 g.dip, .int .i64 hi, .int .i64 lo, .int .i64 g.seq, .int .i64 g.dropped] 44)).cell? ⟨gp, 10, none⟩ = some (.int .i64 g.mode) := H1.out.cell 10 (gh_get _ H1.out.len).2.2
  have z9 := H1.out.frozen 9
  have z10 := H1.out.frozen 10
  go_wp2_with fail
  go_ret
  exact ⟨rfl, Z1.out, H1.out, C1.out.mono (fun k _ e => e.elim)⟩

theorem kp_10b (p zl gp : Nat) (l : Lk) (g : PS) (n : Int) (a b cc : Int) (s t : ByteArray) (U : ByteArray) (w : World) (hg : Good g n) (hn : n ≤ 4611686018427387904) (hg' : Good g (n + 1)) (ha : I64 a) (hb : I64 b) (hx : Ap w p l g) (hc : Cv w zl g.c g.z) (hh : Gh w gp g) (hzg : zl ≠ gp) (e1 : 8 ≤ a) :
    Calls Tryd.prog 19 #[.pointer (some ⟨p, 0, none⟩), .pointer (some ⟨zl, 0, none⟩), .pointer (some ⟨gp, 0, none⟩), opV 10 a b cc s t, ansV 10 0 0 U, befV g] w fun e w' => e = .returned (.bool true) ∧ Cv w' zl g.c g.z ∧ Gh w' gp g ∧ Chg (fun k => k = zl ∨ k = gp) w w' := by
  have LK : Hid (∀ w' (h : Ap w' p l g), Calls _ _ _ _ _) := fun w' h => look_any p l g (n + 1) w' hg' h
  unfold befV at LK
  unfold opV ansV befV
  try dsimp only at LK
  try dsimp only
  have HX : Hid (Ap w p l g) := hx
  have HC : Hid (Cv w zl g.c g.z) := hc
  have HH : Hid (Gh w gp g) := hh
  have HG : Hid (Good g n ∧ n ≤ 4611686018427387904 ∧ I64 a ∧ I64 b) := ⟨hg, hn, ha, hb⟩
  have LT : Hid (zl < w.heap.size ∧ gp < w.heap.size ∧ zl ≠ gp) := ⟨Has.lt hc, hh.lt, hzg⟩
  have q0 := hg.q0; have r0 := hg.r0; have A0 := hg.a0; have A8 := hg.a8
  have q1 : g.seq ≤ 4611686018427387904 := by have := hg.q1; omega
  have r1 : g.dropped ≤ 4611686018427387904 := by have := hg.r1; omega
  generalize sumSq g.ring / 4294967296 = hi at LK ⊢
  generalize sumSq g.ring % 4294967296 = lo at LK ⊢
  have O0 : Hid (Has 50 (((w.alloc (.cells #[.int .i64 10, .int .i64 a, .int .i64 b, .int .i64 cc, .string s, .string t] 50)).alloc (.cells #[.int .i64 10, .int .i64 0, .int .i64 0, .string U] 47)).alloc (.cells #[.int .i64 g.sum, .int .i64 g.peak, .int .i64 g.dip, .int .i64 hi, .int .i64 lo, .int .i64 g.seq, .int .i64 g.dropped] 44)) w.heap.size [.int .i64 10, .int .i64 a, .int .i64 b, .int .i64 cc, .string s, .string t]) := ((Has.new 50 w [.int .i64 10, .int .i64 a, .int .i64 b, .int .i64 cc, .string s, .string t]).alloc _).alloc _
  have A0 : Hid (Has 47 (((w.alloc (.cells #[.int .i64 10, .int .i64 a, .int .i64 b, .int .i64 cc, .string s, .string t] 50)).alloc (.cells #[.int .i64 10, .int .i64 0, .int .i64 0, .string U] 47)).alloc (.cells #[.int .i64 g.sum, .int .i64 g.peak, .int .i64 g.dip, .int .i64 hi, .int .i64 lo, .int .i64 g.seq, .int .i64 g.dropped] 44)) (w.heap.size + 1) [.int .i64 10, .int .i64 0, .int .i64 0, .string U]) := (hasAt (by simp) [.int .i64 10, .int .i64 0, .int .i64 0, .string U]).alloc _
  have P0 : Hid (Has 44 (((w.alloc (.cells #[.int .i64 10, .int .i64 a, .int .i64 b, .int .i64 cc, .string s, .string t] 50)).alloc (.cells #[.int .i64 10, .int .i64 0, .int .i64 0, .string U] 47)).alloc (.cells #[.int .i64 g.sum, .int .i64 g.peak, .int .i64 g.dip, .int .i64 hi, .int .i64 lo, .int .i64 g.seq, .int .i64 g.dropped] 44)) (w.heap.size + 1 + 1) [.int .i64 g.sum, .int .i64 g.peak, .int .i64 g.dip, .int .i64 hi, .int .i64 lo, .int .i64 g.seq, .int .i64 g.dropped]) := hasAt (by simp) [.int .i64 g.sum, .int .i64 g.peak, .int .i64 g.dip, .int .i64 hi, .int .i64 lo, .int .i64 g.seq, .int .i64 g.dropped]
  have C0 : Hid (Chg (fun _ => False) w (((w.alloc (.cells #[.int .i64 10, .int .i64 a, .int .i64 b, .int .i64 cc, .string s, .string t] 50)).alloc (.cells #[.int .i64 10, .int .i64 0, .int .i64 0, .string U] 47)).alloc (.cells #[.int .i64 g.sum, .int .i64 g.peak, .int .i64 g.dip, .int .i64 hi, .int .i64 lo, .int .i64 g.seq, .int .i64 g.dropped] 44))) := ((((Chg.refl _ w).alloc _).alloc _).alloc _)
  clear hg hn hg' ha hb hx hc hh hzg
  go_enter Tryd.func19, Tryd.ntmps19
  go_wp2_with fail
  refine (LK.out _ (ap_nil HX.out C0.out)).mono ?_; rintro e w1 ⟨rfl, c1⟩
  have C1 : Hid (Chg (fun _ => False) w (w1.alloc (.cells #[.int .i64 g.sum, .int .i64 g.peak, .int .i64 g.dip, .int .i64 hi, .int .i64 lo, .int .i64 g.seq, .int .i64 g.dropped] 44))) := (C0.out.trans c1).alloc _
  have O1 : Hid (Has 50 (w1.alloc (.cells #[.int .i64 g.sum, .int .i64 g.peak, .int .i64 g.dip, .int .i64 hi, .int .i64 lo, .int .i64 g.seq, .int .i64 g.dropped] 44)) w.heap.size [.int .i64 10, .int .i64 a, .int .i64 b, .int .i64 cc, .string s, .string t]) := (O0.out.kept c1 (fun h => h)).alloc _
  have A1 : Hid (Has 47 (w1.alloc (.cells #[.int .i64 g.sum, .int .i64 g.peak, .int .i64 g.dip, .int .i64 hi, .int .i64 lo, .int .i64 g.seq, .int .i64 g.dropped] 44)) (w.heap.size + 1) [.int .i64 10, .int .i64 0, .int .i64 0, .string U]) := (A0.out.kept c1 (fun h => h)).alloc _
  have P1 : Hid (Has 44 (w1.alloc (.cells #[.int .i64 g.sum, .int .i64 g.peak, .int .i64 g.dip, .int .i64 hi, .int .i64 lo, .int .i64 g.seq, .int .i64 g.dropped] 44)) (w.heap.size + 1 + 1) [.int .i64 g.sum, .int .i64 g.peak, .int .i64 g.dip, .int .i64 hi, .int .i64 lo, .int .i64 g.seq, .int .i64 g.dropped]) := (P0.out.kept c1 (fun h => h)).alloc _
  have Q1 : Hid (Has 44 (w1.alloc (.cells #[.int .i64 g.sum, .int .i64 g.peak, .int .i64 g.dip, .int .i64 hi, .int .i64 lo, .int .i64 g.seq, .int .i64 g.dropped] 44)) w1.heap.size [.int .i64 g.sum, .int .i64 g.peak, .int .i64 g.dip, .int .i64 hi, .int .i64 lo, .int .i64 g.seq, .int .i64 g.dropped]) := Has.new _ _ _
  have HQ : Hid (w.heap.size + 1 + 1 < w1.heap.size) := by have h1 := P0.out.lt; have h2 := c1.size; show w.heap.size + 1 + 1 < w1.heap.size; omega
  have H1 : Hid (Gh (w1.alloc (.cells #[.int .i64 g.sum, .int .i64 g.peak, .int .i64 g.dip, .int .i64 hi, .int .i64 lo, .int .i64 g.seq, .int .i64 g.dropped] 44)) gp g) := (HH.out.nil (C0.out.trans c1)).nil ((Chg.refl _ _).alloc _)
  have Z1 : Hid (Cv (w1.alloc (.cells #[.int .i64 g.sum, .int .i64 g.peak, .int .i64 g.dip, .int .i64 hi, .int .i64 lo, .int .i64 g.seq, .int .i64 g.dropped] 44)) zl g.c g.z) := ((HC.out.kept C0.out (fun h => h)).kept c1 (fun h => h)).alloc _
  clear c1 O0 A0 P0 C0 LK HX HC HH
  have o0 : (w1.alloc (.cells #[.int .i64 g.sum, .int .i64 g.peak, .int .i64 g.dip, .int .i64 hi, .int .i64 lo, .int .i64 g.seq, .int .i64 g.dropped] 44)).cell? ⟨w.heap.size, 0, none⟩ = some (.int .i64 10) := O1.out.cell 0
  have o1 : (w1.alloc (.cells #[.int .i64 g.sum, .int .i64 g.peak, .int .i64 g.dip, .int .i64 hi, .int .i64 lo, .int .i64 g.seq, .int .i64 g.dropped] 44)).cell? ⟨w.heap.size, 1, none⟩ = some (.int .i64 a) := O1.out.cell 1
  have o2 : (w1.alloc (.cells #[.int .i64 g.sum, .int .i64 g.peak, .int .i64 g.dip, .int .i64 hi, .int .i64 lo, .int .i64 g.seq, .int .i64 g.dropped] 44)).cell? ⟨w.heap.size, 2, none⟩ = some (.int .i64 b) := O1.out.cell 2
  have a0 : (w1.alloc (.cells #[.int .i64 g.sum, .int .i64 g.peak, .int .i64 g.dip, .int .i64 hi, .int .i64 lo, .int .i64 g.seq, .int .i64 g.dropped] 44)).cell? ⟨w.heap.size + 1, 0, none⟩ = some (.int .i64 10) := A1.out.cell 0
  have a1 : (w1.alloc (.cells #[.int .i64 g.sum, .int .i64 g.peak, .int .i64 g.dip, .int .i64 hi, .int .i64 lo, .int .i64 g.seq, .int .i64 g.dropped] 44)).cell? ⟨w.heap.size + 1, 1, none⟩ = some (.int .i64 0) := A1.out.cell 1
  have a2 : (w1.alloc (.cells #[.int .i64 g.sum, .int .i64 g.peak, .int .i64 g.dip, .int .i64 hi, .int .i64 lo, .int .i64 g.seq, .int .i64 g.dropped] 44)).cell? ⟨w.heap.size + 1, 2, none⟩ = some (.int .i64 0) := A1.out.cell 2
  have a3 : (w1.alloc (.cells #[.int .i64 g.sum, .int .i64 g.peak, .int .i64 g.dip, .int .i64 hi, .int .i64 lo, .int .i64 g.seq, .int .i64 g.dropped] 44)).cell? ⟨w.heap.size + 1, 3, none⟩ = some (.string U) := A1.out.cell 3
  have p0 : (w1.alloc (.cells #[.int .i64 g.sum, .int .i64 g.peak, .int .i64 g.dip, .int .i64 hi, .int .i64 lo, .int .i64 g.seq, .int .i64 g.dropped] 44)).cell? ⟨w.heap.size + 1 + 1, 0, none⟩ = some (.int .i64 g.sum) := P1.out.cell 0
  have pf0 := P1.out.frozen 0
  have p1 : (w1.alloc (.cells #[.int .i64 g.sum, .int .i64 g.peak, .int .i64 g.dip, .int .i64 hi, .int .i64 lo, .int .i64 g.seq, .int .i64 g.dropped] 44)).cell? ⟨w.heap.size + 1 + 1, 1, none⟩ = some (.int .i64 g.peak) := P1.out.cell 1
  have pf1 := P1.out.frozen 1
  have p2 : (w1.alloc (.cells #[.int .i64 g.sum, .int .i64 g.peak, .int .i64 g.dip, .int .i64 hi, .int .i64 lo, .int .i64 g.seq, .int .i64 g.dropped] 44)).cell? ⟨w.heap.size + 1 + 1, 2, none⟩ = some (.int .i64 g.dip) := P1.out.cell 2
  have pf2 := P1.out.frozen 2
  have p3 : (w1.alloc (.cells #[.int .i64 g.sum, .int .i64 g.peak, .int .i64 g.dip, .int .i64 hi, .int .i64 lo, .int .i64 g.seq, .int .i64 g.dropped] 44)).cell? ⟨w.heap.size + 1 + 1, 3, none⟩ = some (.int .i64 hi) := P1.out.cell 3
  have pf3 := P1.out.frozen 3
  have p4 : (w1.alloc (.cells #[.int .i64 g.sum, .int .i64 g.peak, .int .i64 g.dip, .int .i64 hi, .int .i64 lo, .int .i64 g.seq, .int .i64 g.dropped] 44)).cell? ⟨w.heap.size + 1 + 1, 4, none⟩ = some (.int .i64 lo) := P1.out.cell 4
  have pf4 := P1.out.frozen 4
  have p5 : (w1.alloc (.cells #[.int .i64 g.sum, .int .i64 g.peak, .int .i64 g.dip, .int .i64 hi, .int .i64 lo, .int .i64 g.seq, .int .i64 g.dropped] 44)).cell? ⟨w.heap.size + 1 + 1, 5, none⟩ = some (.int .i64 g.seq) := P1.out.cell 5
  have pf5 := P1.out.frozen 5
  have p6 : (w1.alloc (.cells #[.int .i64 g.sum, .int .i64 g.peak, .int .i64 g.dip, .int .i64 hi, .int .i64 lo, .int .i64 g.seq, .int .i64 g.dropped] 44)).cell? ⟨w.heap.size + 1 + 1, 6, none⟩ = some (.int .i64 g.dropped) := P1.out.cell 6
  have pf6 := P1.out.frozen 6
  have y0 : (w1.alloc (.cells #[.int .i64 g.sum, .int .i64 g.peak, .int .i64 g.dip, .int .i64 hi, .int .i64 lo, .int .i64 g.seq, .int .i64 g.dropped] 44)).cell? ⟨w1.heap.size, 0, none⟩ = some (.int .i64 g.sum) := Q1.out.cell 0
  have y1 : (w1.alloc (.cells #[.int .i64 g.sum, .int .i64 g.peak, .int .i64 g.dip, .int .i64 hi, .int .i64 lo, .int .i64 g.seq, .int .i64 g.dropped] 44)).cell? ⟨w1.heap.size, 1, none⟩ = some (.int .i64 g.peak) := Q1.out.cell 1
  have y2 : (w1.alloc (.cells #[.int .i64 g.sum, .int .i64 g.peak, .int .i64 g.dip, .int .i64 hi, .int .i64 lo, .int .i64 g.seq, .int .i64 g.dropped] 44)).cell? ⟨w1.heap.size, 2, none⟩ = some (.int .i64 g.dip) := Q1.out.cell 2
  have y3 : (w1.alloc (.cells #[.int .i64 g.sum, .int .i64 g.peak, .int .i64 g.dip, .int .i64 hi, .int .i64 lo, .int .i64 g.seq, .int .i64 g.dropped] 44)).cell? ⟨w1.heap.size, 3, none⟩ = some (.int .i64 hi) := Q1.out.cell 3
  have y4 : (w1.alloc (.cells #[.int .i64 g.sum, .int .i64 g.peak, .int .i64 g.dip, .int .i64 hi, .int .i64 lo, .int .i64 g.seq, .int .i64 g.dropped] 44)).cell? ⟨w1.heap.size, 4, none⟩ = some (.int .i64 lo) := Q1.out.cell 4
  have y5 : (w1.alloc (.cells #[.int .i64 g.sum, .int .i64 g.peak, .int .i64 g.dip, .int .i64 hi, .int .i64 lo, .int .i64 g.seq, .int .i64 g.dropped] 44)).cell? ⟨w1.heap.size, 5, none⟩ = some (.int .i64 g.seq) := Q1.out.cell 5
  have y6 : (w1.alloc (.cells #[.int .i64 g.sum, .int .i64 g.peak, .int .i64 g.dip, .int .i64 hi, .int .i64 lo, .int .i64 g.seq, .int .i64 g.dropped] 44)).cell? ⟨w1.heap.size, 6, none⟩ = some (.int .i64 g.dropped) := Q1.out.cell 6
  have i8 : (w1.alloc (.cells #[.int .i64 g.sum, .int .i64 g.peak, .int .i64 g.dip, .int .i64 hi, .int .i64 lo, .int .i64 g.seq, .int .i64 g.dropped] 44)).cell? ⟨gp, 8, none⟩ = some (.int .i64 g.at_) := H1.out.cell 8 (gh_get _ H1.out.len).1
  have i9 : (w1.alloc (.cells #[.int .i64 g.sum, .int .i64 g.peak, .int .i64 g.dip, .int .i64 hi, .int .i64 lo, .int .i64 g.seq, .int .i64 g.dropped] 44)).cell? ⟨gp, 9, none⟩ = some (.int .i64 g.depth) := H1.out.cell 9 (gh_get _ H1.out.len).2.1
  have i10 : (w1.alloc (.cells #[.int .i64 g.sum, .int .i64 g.peak, .int .i64 g.dip, .int .i64 hi, .int .i64 lo, .int .i64 g.seq, .int .i64 g.dropped] 44)).cell? ⟨gp, 10, none⟩ = some (.int .i64 g.mode) := H1.out.cell 10 (gh_get _ H1.out.len).2.2
  have z9 := H1.out.frozen 9
  have z10 := H1.out.frozen 10
  go_wp2_with fail
  go_ret
  exact ⟨rfl, Z1.out, H1.out, C1.out.mono (fun k _ e => e.elim)⟩

theorem kp_10c (p zl gp : Nat) (l : Lk) (g : PS) (n : Int) (a b cc : Int) (s t : ByteArray) (U : ByteArray) (w : World) (hg : Good g n) (hn : n ≤ 4611686018427387904) (hg' : Good { g with seq := g.seq + 1 } (n + 1)) (ha : I64 a) (hb : I64 b) (hx : Ap w p l { g with seq := g.seq + 1 }) (hc : Cv w zl g.c g.z) (hh : Gh w gp g) (hzg : zl ≠ gp) (e1 : 0 ≤ a) (e2 : a < 8) :
    Calls Tryd.prog 19 #[.pointer (some ⟨p, 0, none⟩), .pointer (some ⟨zl, 0, none⟩), .pointer (some ⟨gp, 0, none⟩), opV 10 a b cc s t, ansV 0 (a * 6 + (g.seq + 1)) 0 U, befV g] w fun e w' => e = .returned (.bool true) ∧ Cv w' zl { g with seq := g.seq + 1 }.c { g with seq := g.seq + 1 }.z ∧ Gh w' gp { g with seq := g.seq + 1 } ∧ Chg (fun k => k = zl ∨ k = gp) w w' := by
  have LK : Hid (∀ w' (h : Ap w' p l { g with seq := g.seq + 1 }), Calls _ _ _ _ _) := fun w' h => look_any p l { g with seq := g.seq + 1 } (n + 1) w' hg' h
  unfold befV at LK
  unfold opV ansV befV
  try dsimp only at LK
  try dsimp only
  have HX : Hid (Ap w p l { g with seq := g.seq + 1 }) := hx
  have HC : Hid (Cv w zl g.c g.z) := hc
  have HH : Hid (Gh w gp g) := hh
  have HG : Hid (Good g n ∧ n ≤ 4611686018427387904 ∧ I64 a ∧ I64 b) := ⟨hg, hn, ha, hb⟩
  have LT : Hid (zl < w.heap.size ∧ gp < w.heap.size ∧ zl ≠ gp) := ⟨Has.lt hc, hh.lt, hzg⟩
  have q0 := hg.q0; have r0 := hg.r0; have A0 := hg.a0; have A8 := hg.a8
  have q1 : g.seq ≤ 4611686018427387904 := by have := hg.q1; omega
  have r1 : g.dropped ≤ 4611686018427387904 := by have := hg.r1; omega
  generalize sumSq g.ring / 4294967296 = hi at LK ⊢
  generalize sumSq g.ring % 4294967296 = lo at LK ⊢
  have O0 : Hid (Has 50 (((w.alloc (.cells #[.int .i64 10, .int .i64 a, .int .i64 b, .int .i64 cc, .string s, .string t] 50)).alloc (.cells #[.int .i64 0, .int .i64 (a * 6 + (g.seq + 1)), .int .i64 0, .string U] 47)).alloc (.cells #[.int .i64 g.sum, .int .i64 g.peak, .int .i64 g.dip, .int .i64 hi, .int .i64 lo, .int .i64 g.seq, .int .i64 g.dropped] 44)) w.heap.size [.int .i64 10, .int .i64 a, .int .i64 b, .int .i64 cc, .string s, .string t]) := ((Has.new 50 w [.int .i64 10, .int .i64 a, .int .i64 b, .int .i64 cc, .string s, .string t]).alloc _).alloc _
  have A0 : Hid (Has 47 (((w.alloc (.cells #[.int .i64 10, .int .i64 a, .int .i64 b, .int .i64 cc, .string s, .string t] 50)).alloc (.cells #[.int .i64 0, .int .i64 (a * 6 + (g.seq + 1)), .int .i64 0, .string U] 47)).alloc (.cells #[.int .i64 g.sum, .int .i64 g.peak, .int .i64 g.dip, .int .i64 hi, .int .i64 lo, .int .i64 g.seq, .int .i64 g.dropped] 44)) (w.heap.size + 1) [.int .i64 0, .int .i64 (a * 6 + (g.seq + 1)), .int .i64 0, .string U]) := (hasAt (by simp) [.int .i64 0, .int .i64 (a * 6 + (g.seq + 1)), .int .i64 0, .string U]).alloc _
  have P0 : Hid (Has 44 (((w.alloc (.cells #[.int .i64 10, .int .i64 a, .int .i64 b, .int .i64 cc, .string s, .string t] 50)).alloc (.cells #[.int .i64 0, .int .i64 (a * 6 + (g.seq + 1)), .int .i64 0, .string U] 47)).alloc (.cells #[.int .i64 g.sum, .int .i64 g.peak, .int .i64 g.dip, .int .i64 hi, .int .i64 lo, .int .i64 g.seq, .int .i64 g.dropped] 44)) (w.heap.size + 1 + 1) [.int .i64 g.sum, .int .i64 g.peak, .int .i64 g.dip, .int .i64 hi, .int .i64 lo, .int .i64 g.seq, .int .i64 g.dropped]) := hasAt (by simp) [.int .i64 g.sum, .int .i64 g.peak, .int .i64 g.dip, .int .i64 hi, .int .i64 lo, .int .i64 g.seq, .int .i64 g.dropped]
  have C0 : Hid (Chg (fun _ => False) w (((w.alloc (.cells #[.int .i64 10, .int .i64 a, .int .i64 b, .int .i64 cc, .string s, .string t] 50)).alloc (.cells #[.int .i64 0, .int .i64 (a * 6 + (g.seq + 1)), .int .i64 0, .string U] 47)).alloc (.cells #[.int .i64 g.sum, .int .i64 g.peak, .int .i64 g.dip, .int .i64 hi, .int .i64 lo, .int .i64 g.seq, .int .i64 g.dropped] 44))) := ((((Chg.refl _ w).alloc _).alloc _).alloc _)
  clear hg hn hg' ha hb hx hc hh hzg
  go_enter Tryd.func19, Tryd.ntmps19
  go_wp2_with fail
  refine (LK.out _ (ap_nil HX.out C0.out)).mono ?_; rintro e w1 ⟨rfl, c1⟩
  have C1 : Hid (Chg (fun _ => False) w (w1.alloc (.cells #[.int .i64 g.sum, .int .i64 g.peak, .int .i64 g.dip, .int .i64 hi, .int .i64 lo, .int .i64 (g.seq + 1), .int .i64 g.dropped] 44))) := (C0.out.trans c1).alloc _
  have O1 : Hid (Has 50 (w1.alloc (.cells #[.int .i64 g.sum, .int .i64 g.peak, .int .i64 g.dip, .int .i64 hi, .int .i64 lo, .int .i64 (g.seq + 1), .int .i64 g.dropped] 44)) w.heap.size [.int .i64 10, .int .i64 a, .int .i64 b, .int .i64 cc, .string s, .string t]) := (O0.out.kept c1 (fun h => h)).alloc _
  have A1 : Hid (Has 47 (w1.alloc (.cells #[.int .i64 g.sum, .int .i64 g.peak, .int .i64 g.dip, .int .i64 hi, .int .i64 lo, .int .i64 (g.seq + 1), .int .i64 g.dropped] 44)) (w.heap.size + 1) [.int .i64 0, .int .i64 (a * 6 + (g.seq + 1)), .int .i64 0, .string U]) := (A0.out.kept c1 (fun h => h)).alloc _
  have P1 : Hid (Has 44 (w1.alloc (.cells #[.int .i64 g.sum, .int .i64 g.peak, .int .i64 g.dip, .int .i64 hi, .int .i64 lo, .int .i64 (g.seq + 1), .int .i64 g.dropped] 44)) (w.heap.size + 1 + 1) [.int .i64 g.sum, .int .i64 g.peak, .int .i64 g.dip, .int .i64 hi, .int .i64 lo, .int .i64 g.seq, .int .i64 g.dropped]) := (P0.out.kept c1 (fun h => h)).alloc _
  have Q1 : Hid (Has 44 (w1.alloc (.cells #[.int .i64 g.sum, .int .i64 g.peak, .int .i64 g.dip, .int .i64 hi, .int .i64 lo, .int .i64 (g.seq + 1), .int .i64 g.dropped] 44)) w1.heap.size [.int .i64 g.sum, .int .i64 g.peak, .int .i64 g.dip, .int .i64 hi, .int .i64 lo, .int .i64 (g.seq + 1), .int .i64 g.dropped]) := Has.new _ _ _
  have HQ : Hid (w.heap.size + 1 + 1 < w1.heap.size) := by have h1 := P0.out.lt; have h2 := c1.size; show w.heap.size + 1 + 1 < w1.heap.size; omega
  have H1 : Hid (Gh (w1.alloc (.cells #[.int .i64 g.sum, .int .i64 g.peak, .int .i64 g.dip, .int .i64 hi, .int .i64 lo, .int .i64 (g.seq + 1), .int .i64 g.dropped] 44)) gp g) := (HH.out.nil (C0.out.trans c1)).nil ((Chg.refl _ _).alloc _)
  have Z1 : Hid (Cv (w1.alloc (.cells #[.int .i64 g.sum, .int .i64 g.peak, .int .i64 g.dip, .int .i64 hi, .int .i64 lo, .int .i64 (g.seq + 1), .int .i64 g.dropped] 44)) zl g.c g.z) := ((HC.out.kept C0.out (fun h => h)).kept c1 (fun h => h)).alloc _
  clear c1 O0 A0 P0 C0 LK HX HC HH
  have o0 : (w1.alloc (.cells #[.int .i64 g.sum, .int .i64 g.peak, .int .i64 g.dip, .int .i64 hi, .int .i64 lo, .int .i64 (g.seq + 1), .int .i64 g.dropped] 44)).cell? ⟨w.heap.size, 0, none⟩ = some (.int .i64 10) := O1.out.cell 0
  have o1 : (w1.alloc (.cells #[.int .i64 g.sum, .int .i64 g.peak, .int .i64 g.dip, .int .i64 hi, .int .i64 lo, .int .i64 (g.seq + 1), .int .i64 g.dropped] 44)).cell? ⟨w.heap.size, 1, none⟩ = some (.int .i64 a) := O1.out.cell 1
  have o2 : (w1.alloc (.cells #[.int .i64 g.sum, .int .i64 g.peak, .int .i64 g.dip, .int .i64 hi, .int .i64 lo, .int .i64 (g.seq + 1), .int .i64 g.dropped] 44)).cell? ⟨w.heap.size, 2, none⟩ = some (.int .i64 b) := O1.out.cell 2
  have a0 : (w1.alloc (.cells #[.int .i64 g.sum, .int .i64 g.peak, .int .i64 g.dip, .int .i64 hi, .int .i64 lo, .int .i64 (g.seq + 1), .int .i64 g.dropped] 44)).cell? ⟨w.heap.size + 1, 0, none⟩ = some (.int .i64 0) := A1.out.cell 0
  have a1 : (w1.alloc (.cells #[.int .i64 g.sum, .int .i64 g.peak, .int .i64 g.dip, .int .i64 hi, .int .i64 lo, .int .i64 (g.seq + 1), .int .i64 g.dropped] 44)).cell? ⟨w.heap.size + 1, 1, none⟩ = some (.int .i64 (a * 6 + (g.seq + 1))) := A1.out.cell 1
  have a2 : (w1.alloc (.cells #[.int .i64 g.sum, .int .i64 g.peak, .int .i64 g.dip, .int .i64 hi, .int .i64 lo, .int .i64 (g.seq + 1), .int .i64 g.dropped] 44)).cell? ⟨w.heap.size + 1, 2, none⟩ = some (.int .i64 0) := A1.out.cell 2
  have a3 : (w1.alloc (.cells #[.int .i64 g.sum, .int .i64 g.peak, .int .i64 g.dip, .int .i64 hi, .int .i64 lo, .int .i64 (g.seq + 1), .int .i64 g.dropped] 44)).cell? ⟨w.heap.size + 1, 3, none⟩ = some (.string U) := A1.out.cell 3
  have p0 : (w1.alloc (.cells #[.int .i64 g.sum, .int .i64 g.peak, .int .i64 g.dip, .int .i64 hi, .int .i64 lo, .int .i64 (g.seq + 1), .int .i64 g.dropped] 44)).cell? ⟨w.heap.size + 1 + 1, 0, none⟩ = some (.int .i64 g.sum) := P1.out.cell 0
  have pf0 := P1.out.frozen 0
  have p1 : (w1.alloc (.cells #[.int .i64 g.sum, .int .i64 g.peak, .int .i64 g.dip, .int .i64 hi, .int .i64 lo, .int .i64 (g.seq + 1), .int .i64 g.dropped] 44)).cell? ⟨w.heap.size + 1 + 1, 1, none⟩ = some (.int .i64 g.peak) := P1.out.cell 1
  have pf1 := P1.out.frozen 1
  have p2 : (w1.alloc (.cells #[.int .i64 g.sum, .int .i64 g.peak, .int .i64 g.dip, .int .i64 hi, .int .i64 lo, .int .i64 (g.seq + 1), .int .i64 g.dropped] 44)).cell? ⟨w.heap.size + 1 + 1, 2, none⟩ = some (.int .i64 g.dip) := P1.out.cell 2
  have pf2 := P1.out.frozen 2
  have p3 : (w1.alloc (.cells #[.int .i64 g.sum, .int .i64 g.peak, .int .i64 g.dip, .int .i64 hi, .int .i64 lo, .int .i64 (g.seq + 1), .int .i64 g.dropped] 44)).cell? ⟨w.heap.size + 1 + 1, 3, none⟩ = some (.int .i64 hi) := P1.out.cell 3
  have pf3 := P1.out.frozen 3
  have p4 : (w1.alloc (.cells #[.int .i64 g.sum, .int .i64 g.peak, .int .i64 g.dip, .int .i64 hi, .int .i64 lo, .int .i64 (g.seq + 1), .int .i64 g.dropped] 44)).cell? ⟨w.heap.size + 1 + 1, 4, none⟩ = some (.int .i64 lo) := P1.out.cell 4
  have pf4 := P1.out.frozen 4
  have p5 : (w1.alloc (.cells #[.int .i64 g.sum, .int .i64 g.peak, .int .i64 g.dip, .int .i64 hi, .int .i64 lo, .int .i64 (g.seq + 1), .int .i64 g.dropped] 44)).cell? ⟨w.heap.size + 1 + 1, 5, none⟩ = some (.int .i64 g.seq) := P1.out.cell 5
  have pf5 := P1.out.frozen 5
  have p6 : (w1.alloc (.cells #[.int .i64 g.sum, .int .i64 g.peak, .int .i64 g.dip, .int .i64 hi, .int .i64 lo, .int .i64 (g.seq + 1), .int .i64 g.dropped] 44)).cell? ⟨w.heap.size + 1 + 1, 6, none⟩ = some (.int .i64 g.dropped) := P1.out.cell 6
  have pf6 := P1.out.frozen 6
  have y0 : (w1.alloc (.cells #[.int .i64 g.sum, .int .i64 g.peak, .int .i64 g.dip, .int .i64 hi, .int .i64 lo, .int .i64 (g.seq + 1), .int .i64 g.dropped] 44)).cell? ⟨w1.heap.size, 0, none⟩ = some (.int .i64 g.sum) := Q1.out.cell 0
  have y1 : (w1.alloc (.cells #[.int .i64 g.sum, .int .i64 g.peak, .int .i64 g.dip, .int .i64 hi, .int .i64 lo, .int .i64 (g.seq + 1), .int .i64 g.dropped] 44)).cell? ⟨w1.heap.size, 1, none⟩ = some (.int .i64 g.peak) := Q1.out.cell 1
  have y2 : (w1.alloc (.cells #[.int .i64 g.sum, .int .i64 g.peak, .int .i64 g.dip, .int .i64 hi, .int .i64 lo, .int .i64 (g.seq + 1), .int .i64 g.dropped] 44)).cell? ⟨w1.heap.size, 2, none⟩ = some (.int .i64 g.dip) := Q1.out.cell 2
  have y3 : (w1.alloc (.cells #[.int .i64 g.sum, .int .i64 g.peak, .int .i64 g.dip, .int .i64 hi, .int .i64 lo, .int .i64 (g.seq + 1), .int .i64 g.dropped] 44)).cell? ⟨w1.heap.size, 3, none⟩ = some (.int .i64 hi) := Q1.out.cell 3
  have y4 : (w1.alloc (.cells #[.int .i64 g.sum, .int .i64 g.peak, .int .i64 g.dip, .int .i64 hi, .int .i64 lo, .int .i64 (g.seq + 1), .int .i64 g.dropped] 44)).cell? ⟨w1.heap.size, 4, none⟩ = some (.int .i64 lo) := Q1.out.cell 4
  have y5 : (w1.alloc (.cells #[.int .i64 g.sum, .int .i64 g.peak, .int .i64 g.dip, .int .i64 hi, .int .i64 lo, .int .i64 (g.seq + 1), .int .i64 g.dropped] 44)).cell? ⟨w1.heap.size, 5, none⟩ = some (.int .i64 (g.seq + 1)) := Q1.out.cell 5
  have y6 : (w1.alloc (.cells #[.int .i64 g.sum, .int .i64 g.peak, .int .i64 g.dip, .int .i64 hi, .int .i64 lo, .int .i64 (g.seq + 1), .int .i64 g.dropped] 44)).cell? ⟨w1.heap.size, 6, none⟩ = some (.int .i64 g.dropped) := Q1.out.cell 6
  have i8 : (w1.alloc (.cells #[.int .i64 g.sum, .int .i64 g.peak, .int .i64 g.dip, .int .i64 hi, .int .i64 lo, .int .i64 (g.seq + 1), .int .i64 g.dropped] 44)).cell? ⟨gp, 8, none⟩ = some (.int .i64 g.at_) := H1.out.cell 8 (gh_get _ H1.out.len).1
  have i9 : (w1.alloc (.cells #[.int .i64 g.sum, .int .i64 g.peak, .int .i64 g.dip, .int .i64 hi, .int .i64 lo, .int .i64 (g.seq + 1), .int .i64 g.dropped] 44)).cell? ⟨gp, 9, none⟩ = some (.int .i64 g.depth) := H1.out.cell 9 (gh_get _ H1.out.len).2.1
  have i10 : (w1.alloc (.cells #[.int .i64 g.sum, .int .i64 g.peak, .int .i64 g.dip, .int .i64 hi, .int .i64 lo, .int .i64 (g.seq + 1), .int .i64 g.dropped] 44)).cell? ⟨gp, 10, none⟩ = some (.int .i64 g.mode) := H1.out.cell 10 (gh_get _ H1.out.len).2.2
  have z9 := H1.out.frozen 9
  have z10 := H1.out.frozen 10
  have hq := HQ.out
  have hlt := LT.out
  have npo : ∀ (W : World) (i j : Nat) (v : Value), (W.setCell ⟨w.heap.size + 1 + 1, i, none⟩ v).cell? ⟨w.heap.size, j, none⟩ = W.cell? ⟨w.heap.size, j, none⟩ := fun W i j v => far_cell' W (by omega) i j v
  have npa : ∀ (W : World) (i j : Nat) (v : Value), (W.setCell ⟨w.heap.size + 1 + 1, i, none⟩ v).cell? ⟨w.heap.size + 1, j, none⟩ = W.cell? ⟨w.heap.size + 1, j, none⟩ := fun W i j v => far_cell' W (by omega) i j v
  have npq : ∀ (W : World) (i j : Nat) (v : Value), (W.setCell ⟨w.heap.size + 1 + 1, i, none⟩ v).cell? ⟨w1.heap.size, j, none⟩ = W.cell? ⟨w1.heap.size, j, none⟩ := fun W i j v => far_cell' W (by omega) i j v
  have npg : ∀ (W : World) (i j : Nat) (v : Value), (W.setCell ⟨w.heap.size + 1 + 1, i, none⟩ v).cell? ⟨gp, j, none⟩ = W.cell? ⟨gp, j, none⟩ := fun W i j v => far_cell' W (by omega) i j v
  clear hq hlt
  go_wp2_with fail
  go_ret
  have lt := LT.out
  exact ⟨rfl, Z1.out.setOther (by show w.heap.size + 1 + 1 ≠ zl; omega) _, (H1.out.kept ((Chg.refl (fun k => k = w.heap.size + 1 + 1) _).setCell (Or.inl rfl) _) (by omega)).same rfl rfl rfl rfl, (C1.out.mono (fun k _ e => e.elim)).setCell (Or.inr (by dsimp only; omega)) _⟩

theorem kp_11a (p zl gp : Nat) (l : Lk) (g : PS) (n : Int) (a b cc : Int) (s t : ByteArray) (U : ByteArray) (w : World) (hg : Good g n) (hn : n ≤ 4611686018427387904) (hg' : Good { g with dropped := g.dropped + 1 } (n + 1)) (ha : I64 a) (hb : I64 b) (hx : Ap w p l { g with dropped := g.dropped + 1 }) (hc : Cv w zl g.c g.z) (hh : Gh w gp g) (hzg : zl ≠ gp) (e1 : a % 4294967296 = 0) :
    Calls Tryd.prog 19 #[.pointer (some ⟨p, 0, none⟩), .pointer (some ⟨zl, 0, none⟩), .pointer (some ⟨gp, 0, none⟩), opV 11 a b cc s t, ansV 0 1 0 U, befV g] w fun e w' => e = .returned (.bool true) ∧ Cv w' zl { g with dropped := g.dropped + 1 }.c { g with dropped := g.dropped + 1 }.z ∧ Gh w' gp { g with dropped := g.dropped + 1 } ∧ Chg (fun k => k = zl ∨ k = gp) w w' := by
  have LK : Hid (∀ w' (h : Ap w' p l { g with dropped := g.dropped + 1 }), Calls _ _ _ _ _) := fun w' h => look_any p l { g with dropped := g.dropped + 1 } (n + 1) w' hg' h
  unfold befV at LK
  unfold opV ansV befV
  try dsimp only at LK
  try dsimp only
  have HX : Hid (Ap w p l { g with dropped := g.dropped + 1 }) := hx
  have HC : Hid (Cv w zl g.c g.z) := hc
  have HH : Hid (Gh w gp g) := hh
  have HG : Hid (Good g n ∧ n ≤ 4611686018427387904 ∧ I64 a ∧ I64 b) := ⟨hg, hn, ha, hb⟩
  have LT : Hid (zl < w.heap.size ∧ gp < w.heap.size ∧ zl ≠ gp) := ⟨Has.lt hc, hh.lt, hzg⟩
  have q0 := hg.q0; have r0 := hg.r0; have A0 := hg.a0; have A8 := hg.a8
  have q1 : g.seq ≤ 4611686018427387904 := by have := hg.q1; omega
  have r1 : g.dropped ≤ 4611686018427387904 := by have := hg.r1; omega
  have e5 := and32 a
  rw [e1] at e5
  generalize sumSq g.ring / 4294967296 = hi at LK ⊢
  generalize sumSq g.ring % 4294967296 = lo at LK ⊢
  have O0 : Hid (Has 50 (((w.alloc (.cells #[.int .i64 11, .int .i64 a, .int .i64 b, .int .i64 cc, .string s, .string t] 50)).alloc (.cells #[.int .i64 0, .int .i64 1, .int .i64 0, .string U] 47)).alloc (.cells #[.int .i64 g.sum, .int .i64 g.peak, .int .i64 g.dip, .int .i64 hi, .int .i64 lo, .int .i64 g.seq, .int .i64 g.dropped] 44)) w.heap.size [.int .i64 11, .int .i64 a, .int .i64 b, .int .i64 cc, .string s, .string t]) := ((Has.new 50 w [.int .i64 11, .int .i64 a, .int .i64 b, .int .i64 cc, .string s, .string t]).alloc _).alloc _
  have A0 : Hid (Has 47 (((w.alloc (.cells #[.int .i64 11, .int .i64 a, .int .i64 b, .int .i64 cc, .string s, .string t] 50)).alloc (.cells #[.int .i64 0, .int .i64 1, .int .i64 0, .string U] 47)).alloc (.cells #[.int .i64 g.sum, .int .i64 g.peak, .int .i64 g.dip, .int .i64 hi, .int .i64 lo, .int .i64 g.seq, .int .i64 g.dropped] 44)) (w.heap.size + 1) [.int .i64 0, .int .i64 1, .int .i64 0, .string U]) := (hasAt (by simp) [.int .i64 0, .int .i64 1, .int .i64 0, .string U]).alloc _
  have P0 : Hid (Has 44 (((w.alloc (.cells #[.int .i64 11, .int .i64 a, .int .i64 b, .int .i64 cc, .string s, .string t] 50)).alloc (.cells #[.int .i64 0, .int .i64 1, .int .i64 0, .string U] 47)).alloc (.cells #[.int .i64 g.sum, .int .i64 g.peak, .int .i64 g.dip, .int .i64 hi, .int .i64 lo, .int .i64 g.seq, .int .i64 g.dropped] 44)) (w.heap.size + 1 + 1) [.int .i64 g.sum, .int .i64 g.peak, .int .i64 g.dip, .int .i64 hi, .int .i64 lo, .int .i64 g.seq, .int .i64 g.dropped]) := hasAt (by simp) [.int .i64 g.sum, .int .i64 g.peak, .int .i64 g.dip, .int .i64 hi, .int .i64 lo, .int .i64 g.seq, .int .i64 g.dropped]
  have C0 : Hid (Chg (fun _ => False) w (((w.alloc (.cells #[.int .i64 11, .int .i64 a, .int .i64 b, .int .i64 cc, .string s, .string t] 50)).alloc (.cells #[.int .i64 0, .int .i64 1, .int .i64 0, .string U] 47)).alloc (.cells #[.int .i64 g.sum, .int .i64 g.peak, .int .i64 g.dip, .int .i64 hi, .int .i64 lo, .int .i64 g.seq, .int .i64 g.dropped] 44))) := ((((Chg.refl _ w).alloc _).alloc _).alloc _)
  clear hg hn hg' ha hb hx hc hh hzg
  go_enter Tryd.func19, Tryd.ntmps19
  go_wp2_with fail
  refine (LK.out _ (ap_nil HX.out C0.out)).mono ?_; rintro e w1 ⟨rfl, c1⟩
  have C1 : Hid (Chg (fun _ => False) w (w1.alloc (.cells #[.int .i64 g.sum, .int .i64 g.peak, .int .i64 g.dip, .int .i64 hi, .int .i64 lo, .int .i64 g.seq, .int .i64 (g.dropped + 1)] 44))) := (C0.out.trans c1).alloc _
  have O1 : Hid (Has 50 (w1.alloc (.cells #[.int .i64 g.sum, .int .i64 g.peak, .int .i64 g.dip, .int .i64 hi, .int .i64 lo, .int .i64 g.seq, .int .i64 (g.dropped + 1)] 44)) w.heap.size [.int .i64 11, .int .i64 a, .int .i64 b, .int .i64 cc, .string s, .string t]) := (O0.out.kept c1 (fun h => h)).alloc _
  have A1 : Hid (Has 47 (w1.alloc (.cells #[.int .i64 g.sum, .int .i64 g.peak, .int .i64 g.dip, .int .i64 hi, .int .i64 lo, .int .i64 g.seq, .int .i64 (g.dropped + 1)] 44)) (w.heap.size + 1) [.int .i64 0, .int .i64 1, .int .i64 0, .string U]) := (A0.out.kept c1 (fun h => h)).alloc _
  have P1 : Hid (Has 44 (w1.alloc (.cells #[.int .i64 g.sum, .int .i64 g.peak, .int .i64 g.dip, .int .i64 hi, .int .i64 lo, .int .i64 g.seq, .int .i64 (g.dropped + 1)] 44)) (w.heap.size + 1 + 1) [.int .i64 g.sum, .int .i64 g.peak, .int .i64 g.dip, .int .i64 hi, .int .i64 lo, .int .i64 g.seq, .int .i64 g.dropped]) := (P0.out.kept c1 (fun h => h)).alloc _
  have Q1 : Hid (Has 44 (w1.alloc (.cells #[.int .i64 g.sum, .int .i64 g.peak, .int .i64 g.dip, .int .i64 hi, .int .i64 lo, .int .i64 g.seq, .int .i64 (g.dropped + 1)] 44)) w1.heap.size [.int .i64 g.sum, .int .i64 g.peak, .int .i64 g.dip, .int .i64 hi, .int .i64 lo, .int .i64 g.seq, .int .i64 (g.dropped + 1)]) := Has.new _ _ _
  have HQ : Hid (w.heap.size + 1 + 1 < w1.heap.size) := by have h1 := P0.out.lt; have h2 := c1.size; show w.heap.size + 1 + 1 < w1.heap.size; omega
  have H1 : Hid (Gh (w1.alloc (.cells #[.int .i64 g.sum, .int .i64 g.peak, .int .i64 g.dip, .int .i64 hi, .int .i64 lo, .int .i64 g.seq, .int .i64 (g.dropped + 1)] 44)) gp g) := (HH.out.nil (C0.out.trans c1)).nil ((Chg.refl _ _).alloc _)
  have Z1 : Hid (Cv (w1.alloc (.cells #[.int .i64 g.sum, .int .i64 g.peak, .int .i64 g.dip, .int .i64 hi, .int .i64 lo, .int .i64 g.seq, .int .i64 (g.dropped + 1)] 44)) zl g.c g.z) := ((HC.out.kept C0.out (fun h => h)).kept c1 (fun h => h)).alloc _
  clear c1 O0 A0 P0 C0 LK HX HC HH
  have o0 : (w1.alloc (.cells #[.int .i64 g.sum, .int .i64 g.peak, .int .i64 g.dip, .int .i64 hi, .int .i64 lo, .int .i64 g.seq, .int .i64 (g.dropped + 1)] 44)).cell? ⟨w.heap.size, 0, none⟩ = some (.int .i64 11) := O1.out.cell 0
  have o1 : (w1.alloc (.cells #[.int .i64 g.sum, .int .i64 g.peak, .int .i64 g.dip, .int .i64 hi, .int .i64 lo, .int .i64 g.seq, .int .i64 (g.dropped + 1)] 44)).cell? ⟨w.heap.size, 1, none⟩ = some (.int .i64 a) := O1.out.cell 1
  have o2 : (w1.alloc (.cells #[.int .i64 g.sum, .int .i64 g.peak, .int .i64 g.dip, .int .i64 hi, .int .i64 lo, .int .i64 g.seq, .int .i64 (g.dropped + 1)] 44)).cell? ⟨w.heap.size, 2, none⟩ = some (.int .i64 b) := O1.out.cell 2
  have a0 : (w1.alloc (.cells #[.int .i64 g.sum, .int .i64 g.peak, .int .i64 g.dip, .int .i64 hi, .int .i64 lo, .int .i64 g.seq, .int .i64 (g.dropped + 1)] 44)).cell? ⟨w.heap.size + 1, 0, none⟩ = some (.int .i64 0) := A1.out.cell 0
  have a1 : (w1.alloc (.cells #[.int .i64 g.sum, .int .i64 g.peak, .int .i64 g.dip, .int .i64 hi, .int .i64 lo, .int .i64 g.seq, .int .i64 (g.dropped + 1)] 44)).cell? ⟨w.heap.size + 1, 1, none⟩ = some (.int .i64 1) := A1.out.cell 1
  have a2 : (w1.alloc (.cells #[.int .i64 g.sum, .int .i64 g.peak, .int .i64 g.dip, .int .i64 hi, .int .i64 lo, .int .i64 g.seq, .int .i64 (g.dropped + 1)] 44)).cell? ⟨w.heap.size + 1, 2, none⟩ = some (.int .i64 0) := A1.out.cell 2
  have a3 : (w1.alloc (.cells #[.int .i64 g.sum, .int .i64 g.peak, .int .i64 g.dip, .int .i64 hi, .int .i64 lo, .int .i64 g.seq, .int .i64 (g.dropped + 1)] 44)).cell? ⟨w.heap.size + 1, 3, none⟩ = some (.string U) := A1.out.cell 3
  have p0 : (w1.alloc (.cells #[.int .i64 g.sum, .int .i64 g.peak, .int .i64 g.dip, .int .i64 hi, .int .i64 lo, .int .i64 g.seq, .int .i64 (g.dropped + 1)] 44)).cell? ⟨w.heap.size + 1 + 1, 0, none⟩ = some (.int .i64 g.sum) := P1.out.cell 0
  have pf0 := P1.out.frozen 0
  have p1 : (w1.alloc (.cells #[.int .i64 g.sum, .int .i64 g.peak, .int .i64 g.dip, .int .i64 hi, .int .i64 lo, .int .i64 g.seq, .int .i64 (g.dropped + 1)] 44)).cell? ⟨w.heap.size + 1 + 1, 1, none⟩ = some (.int .i64 g.peak) := P1.out.cell 1
  have pf1 := P1.out.frozen 1
  have p2 : (w1.alloc (.cells #[.int .i64 g.sum, .int .i64 g.peak, .int .i64 g.dip, .int .i64 hi, .int .i64 lo, .int .i64 g.seq, .int .i64 (g.dropped + 1)] 44)).cell? ⟨w.heap.size + 1 + 1, 2, none⟩ = some (.int .i64 g.dip) := P1.out.cell 2
  have pf2 := P1.out.frozen 2
  have p3 : (w1.alloc (.cells #[.int .i64 g.sum, .int .i64 g.peak, .int .i64 g.dip, .int .i64 hi, .int .i64 lo, .int .i64 g.seq, .int .i64 (g.dropped + 1)] 44)).cell? ⟨w.heap.size + 1 + 1, 3, none⟩ = some (.int .i64 hi) := P1.out.cell 3
  have pf3 := P1.out.frozen 3
  have p4 : (w1.alloc (.cells #[.int .i64 g.sum, .int .i64 g.peak, .int .i64 g.dip, .int .i64 hi, .int .i64 lo, .int .i64 g.seq, .int .i64 (g.dropped + 1)] 44)).cell? ⟨w.heap.size + 1 + 1, 4, none⟩ = some (.int .i64 lo) := P1.out.cell 4
  have pf4 := P1.out.frozen 4
  have p5 : (w1.alloc (.cells #[.int .i64 g.sum, .int .i64 g.peak, .int .i64 g.dip, .int .i64 hi, .int .i64 lo, .int .i64 g.seq, .int .i64 (g.dropped + 1)] 44)).cell? ⟨w.heap.size + 1 + 1, 5, none⟩ = some (.int .i64 g.seq) := P1.out.cell 5
  have pf5 := P1.out.frozen 5
  have p6 : (w1.alloc (.cells #[.int .i64 g.sum, .int .i64 g.peak, .int .i64 g.dip, .int .i64 hi, .int .i64 lo, .int .i64 g.seq, .int .i64 (g.dropped + 1)] 44)).cell? ⟨w.heap.size + 1 + 1, 6, none⟩ = some (.int .i64 g.dropped) := P1.out.cell 6
  have pf6 := P1.out.frozen 6
  have y0 : (w1.alloc (.cells #[.int .i64 g.sum, .int .i64 g.peak, .int .i64 g.dip, .int .i64 hi, .int .i64 lo, .int .i64 g.seq, .int .i64 (g.dropped + 1)] 44)).cell? ⟨w1.heap.size, 0, none⟩ = some (.int .i64 g.sum) := Q1.out.cell 0
  have y1 : (w1.alloc (.cells #[.int .i64 g.sum, .int .i64 g.peak, .int .i64 g.dip, .int .i64 hi, .int .i64 lo, .int .i64 g.seq, .int .i64 (g.dropped + 1)] 44)).cell? ⟨w1.heap.size, 1, none⟩ = some (.int .i64 g.peak) := Q1.out.cell 1
  have y2 : (w1.alloc (.cells #[.int .i64 g.sum, .int .i64 g.peak, .int .i64 g.dip, .int .i64 hi, .int .i64 lo, .int .i64 g.seq, .int .i64 (g.dropped + 1)] 44)).cell? ⟨w1.heap.size, 2, none⟩ = some (.int .i64 g.dip) := Q1.out.cell 2
  have y3 : (w1.alloc (.cells #[.int .i64 g.sum, .int .i64 g.peak, .int .i64 g.dip, .int .i64 hi, .int .i64 lo, .int .i64 g.seq, .int .i64 (g.dropped + 1)] 44)).cell? ⟨w1.heap.size, 3, none⟩ = some (.int .i64 hi) := Q1.out.cell 3
  have y4 : (w1.alloc (.cells #[.int .i64 g.sum, .int .i64 g.peak, .int .i64 g.dip, .int .i64 hi, .int .i64 lo, .int .i64 g.seq, .int .i64 (g.dropped + 1)] 44)).cell? ⟨w1.heap.size, 4, none⟩ = some (.int .i64 lo) := Q1.out.cell 4
  have y5 : (w1.alloc (.cells #[.int .i64 g.sum, .int .i64 g.peak, .int .i64 g.dip, .int .i64 hi, .int .i64 lo, .int .i64 g.seq, .int .i64 (g.dropped + 1)] 44)).cell? ⟨w1.heap.size, 5, none⟩ = some (.int .i64 g.seq) := Q1.out.cell 5
  have y6 : (w1.alloc (.cells #[.int .i64 g.sum, .int .i64 g.peak, .int .i64 g.dip, .int .i64 hi, .int .i64 lo, .int .i64 g.seq, .int .i64 (g.dropped + 1)] 44)).cell? ⟨w1.heap.size, 6, none⟩ = some (.int .i64 (g.dropped + 1)) := Q1.out.cell 6
  have i8 : (w1.alloc (.cells #[.int .i64 g.sum, .int .i64 g.peak, .int .i64 g.dip, .int .i64 hi, .int .i64 lo, .int .i64 g.seq, .int .i64 (g.dropped + 1)] 44)).cell? ⟨gp, 8, none⟩ = some (.int .i64 g.at_) := H1.out.cell 8 (gh_get _ H1.out.len).1
  have i9 : (w1.alloc (.cells #[.int .i64 g.sum, .int .i64 g.peak, .int .i64 g.dip, .int .i64 hi, .int .i64 lo, .int .i64 g.seq, .int .i64 (g.dropped + 1)] 44)).cell? ⟨gp, 9, none⟩ = some (.int .i64 g.depth) := H1.out.cell 9 (gh_get _ H1.out.len).2.1
  have i10 : (w1.alloc (.cells #[.int .i64 g.sum, .int .i64 g.peak, .int .i64 g.dip, .int .i64 hi, .int .i64 lo, .int .i64 g.seq, .int .i64 (g.dropped + 1)] 44)).cell? ⟨gp, 10, none⟩ = some (.int .i64 g.mode) := H1.out.cell 10 (gh_get _ H1.out.len).2.2
  have z9 := H1.out.frozen 9
  have z10 := H1.out.frozen 10
  have hq := HQ.out
  have hlt := LT.out
  have npo : ∀ (W : World) (i j : Nat) (v : Value), (W.setCell ⟨w.heap.size + 1 + 1, i, none⟩ v).cell? ⟨w.heap.size, j, none⟩ = W.cell? ⟨w.heap.size, j, none⟩ := fun W i j v => far_cell' W (by omega) i j v
  have npa : ∀ (W : World) (i j : Nat) (v : Value), (W.setCell ⟨w.heap.size + 1 + 1, i, none⟩ v).cell? ⟨w.heap.size + 1, j, none⟩ = W.cell? ⟨w.heap.size + 1, j, none⟩ := fun W i j v => far_cell' W (by omega) i j v
  have npq : ∀ (W : World) (i j : Nat) (v : Value), (W.setCell ⟨w.heap.size + 1 + 1, i, none⟩ v).cell? ⟨w1.heap.size, j, none⟩ = W.cell? ⟨w1.heap.size, j, none⟩ := fun W i j v => far_cell' W (by omega) i j v
  have npg : ∀ (W : World) (i j : Nat) (v : Value), (W.setCell ⟨w.heap.size + 1 + 1, i, none⟩ v).cell? ⟨gp, j, none⟩ = W.cell? ⟨gp, j, none⟩ := fun W i j v => far_cell' W (by omega) i j v
  clear hq hlt
  go_wp2_with fail
  go_ret
  have lt := LT.out
  exact ⟨rfl, Z1.out.setOther (by show w.heap.size + 1 + 1 ≠ zl; omega) _, (H1.out.kept ((Chg.refl (fun k => k = w.heap.size + 1 + 1) _).setCell (Or.inl rfl) _) (by omega)).same rfl rfl rfl rfl, (C1.out.mono (fun k _ e => e.elim)).setCell (Or.inr (by dsimp only; omega)) _⟩

theorem kp_11b (p zl gp : Nat) (l : Lk) (g : PS) (n : Int) (a b cc : Int) (s t : ByteArray) (U : ByteArray) (w : World) (hg : Good g n) (hn : n ≤ 4611686018427387904) (hg' : Good g (n + 1)) (ha : I64 a) (hb : I64 b) (hx : Ap w p l g) (hc : Cv w zl g.c g.z) (hh : Gh w gp g) (hzg : zl ≠ gp) (e1 : a % 4294967296 ≠ 0) :
    Calls Tryd.prog 19 #[.pointer (some ⟨p, 0, none⟩), .pointer (some ⟨zl, 0, none⟩), .pointer (some ⟨gp, 0, none⟩), opV 11 a b cc s t, ansV 0 0 0 U, befV g] w fun e w' => e = .returned (.bool true) ∧ Cv w' zl g.c g.z ∧ Gh w' gp g ∧ Chg (fun k => k = zl ∨ k = gp) w w' := by
  have LK : Hid (∀ w' (h : Ap w' p l g), Calls _ _ _ _ _) := fun w' h => look_any p l g (n + 1) w' hg' h
  unfold befV at LK
  unfold opV ansV befV
  try dsimp only at LK
  try dsimp only
  have HX : Hid (Ap w p l g) := hx
  have HC : Hid (Cv w zl g.c g.z) := hc
  have HH : Hid (Gh w gp g) := hh
  have HG : Hid (Good g n ∧ n ≤ 4611686018427387904 ∧ I64 a ∧ I64 b) := ⟨hg, hn, ha, hb⟩
  have LT : Hid (zl < w.heap.size ∧ gp < w.heap.size ∧ zl ≠ gp) := ⟨Has.lt hc, hh.lt, hzg⟩
  have q0 := hg.q0; have r0 := hg.r0; have A0 := hg.a0; have A8 := hg.a8
  have q1 : g.seq ≤ 4611686018427387904 := by have := hg.q1; omega
  have r1 : g.dropped ≤ 4611686018427387904 := by have := hg.r1; omega
  have e5 := and32 a
  have e6 : (a % 4294967296 == 0) = false := by simpa using e1
  generalize sumSq g.ring / 4294967296 = hi at LK ⊢
  generalize sumSq g.ring % 4294967296 = lo at LK ⊢
  have O0 : Hid (Has 50 (((w.alloc (.cells #[.int .i64 11, .int .i64 a, .int .i64 b, .int .i64 cc, .string s, .string t] 50)).alloc (.cells #[.int .i64 0, .int .i64 0, .int .i64 0, .string U] 47)).alloc (.cells #[.int .i64 g.sum, .int .i64 g.peak, .int .i64 g.dip, .int .i64 hi, .int .i64 lo, .int .i64 g.seq, .int .i64 g.dropped] 44)) w.heap.size [.int .i64 11, .int .i64 a, .int .i64 b, .int .i64 cc, .string s, .string t]) := ((Has.new 50 w [.int .i64 11, .int .i64 a, .int .i64 b, .int .i64 cc, .string s, .string t]).alloc _).alloc _
  have A0 : Hid (Has 47 (((w.alloc (.cells #[.int .i64 11, .int .i64 a, .int .i64 b, .int .i64 cc, .string s, .string t] 50)).alloc (.cells #[.int .i64 0, .int .i64 0, .int .i64 0, .string U] 47)).alloc (.cells #[.int .i64 g.sum, .int .i64 g.peak, .int .i64 g.dip, .int .i64 hi, .int .i64 lo, .int .i64 g.seq, .int .i64 g.dropped] 44)) (w.heap.size + 1) [.int .i64 0, .int .i64 0, .int .i64 0, .string U]) := (hasAt (by simp) [.int .i64 0, .int .i64 0, .int .i64 0, .string U]).alloc _
  have P0 : Hid (Has 44 (((w.alloc (.cells #[.int .i64 11, .int .i64 a, .int .i64 b, .int .i64 cc, .string s, .string t] 50)).alloc (.cells #[.int .i64 0, .int .i64 0, .int .i64 0, .string U] 47)).alloc (.cells #[.int .i64 g.sum, .int .i64 g.peak, .int .i64 g.dip, .int .i64 hi, .int .i64 lo, .int .i64 g.seq, .int .i64 g.dropped] 44)) (w.heap.size + 1 + 1) [.int .i64 g.sum, .int .i64 g.peak, .int .i64 g.dip, .int .i64 hi, .int .i64 lo, .int .i64 g.seq, .int .i64 g.dropped]) := hasAt (by simp) [.int .i64 g.sum, .int .i64 g.peak, .int .i64 g.dip, .int .i64 hi, .int .i64 lo, .int .i64 g.seq, .int .i64 g.dropped]
  have C0 : Hid (Chg (fun _ => False) w (((w.alloc (.cells #[.int .i64 11, .int .i64 a, .int .i64 b, .int .i64 cc, .string s, .string t] 50)).alloc (.cells #[.int .i64 0, .int .i64 0, .int .i64 0, .string U] 47)).alloc (.cells #[.int .i64 g.sum, .int .i64 g.peak, .int .i64 g.dip, .int .i64 hi, .int .i64 lo, .int .i64 g.seq, .int .i64 g.dropped] 44))) := ((((Chg.refl _ w).alloc _).alloc _).alloc _)
  clear hg hn hg' ha hb hx hc hh hzg
  go_enter Tryd.func19, Tryd.ntmps19
  go_wp2_with fail
  refine (LK.out _ (ap_nil HX.out C0.out)).mono ?_; rintro e w1 ⟨rfl, c1⟩
  have C1 : Hid (Chg (fun _ => False) w (w1.alloc (.cells #[.int .i64 g.sum, .int .i64 g.peak, .int .i64 g.dip, .int .i64 hi, .int .i64 lo, .int .i64 g.seq, .int .i64 g.dropped] 44))) := (C0.out.trans c1).alloc _
  have O1 : Hid (Has 50 (w1.alloc (.cells #[.int .i64 g.sum, .int .i64 g.peak, .int .i64 g.dip, .int .i64 hi, .int .i64 lo, .int .i64 g.seq, .int .i64 g.dropped] 44)) w.heap.size [.int .i64 11, .int .i64 a, .int .i64 b, .int .i64 cc, .string s, .string t]) := (O0.out.kept c1 (fun h => h)).alloc _
  have A1 : Hid (Has 47 (w1.alloc (.cells #[.int .i64 g.sum, .int .i64 g.peak, .int .i64 g.dip, .int .i64 hi, .int .i64 lo, .int .i64 g.seq, .int .i64 g.dropped] 44)) (w.heap.size + 1) [.int .i64 0, .int .i64 0, .int .i64 0, .string U]) := (A0.out.kept c1 (fun h => h)).alloc _
  have P1 : Hid (Has 44 (w1.alloc (.cells #[.int .i64 g.sum, .int .i64 g.peak, .int .i64 g.dip, .int .i64 hi, .int .i64 lo, .int .i64 g.seq, .int .i64 g.dropped] 44)) (w.heap.size + 1 + 1) [.int .i64 g.sum, .int .i64 g.peak, .int .i64 g.dip, .int .i64 hi, .int .i64 lo, .int .i64 g.seq, .int .i64 g.dropped]) := (P0.out.kept c1 (fun h => h)).alloc _
  have Q1 : Hid (Has 44 (w1.alloc (.cells #[.int .i64 g.sum, .int .i64 g.peak, .int .i64 g.dip, .int .i64 hi, .int .i64 lo, .int .i64 g.seq, .int .i64 g.dropped] 44)) w1.heap.size [.int .i64 g.sum, .int .i64 g.peak, .int .i64 g.dip, .int .i64 hi, .int .i64 lo, .int .i64 g.seq, .int .i64 g.dropped]) := Has.new _ _ _
  have HQ : Hid (w.heap.size + 1 + 1 < w1.heap.size) := by have h1 := P0.out.lt; have h2 := c1.size; show w.heap.size + 1 + 1 < w1.heap.size; omega
  have H1 : Hid (Gh (w1.alloc (.cells #[.int .i64 g.sum, .int .i64 g.peak, .int .i64 g.dip, .int .i64 hi, .int .i64 lo, .int .i64 g.seq, .int .i64 g.dropped] 44)) gp g) := (HH.out.nil (C0.out.trans c1)).nil ((Chg.refl _ _).alloc _)
  have Z1 : Hid (Cv (w1.alloc (.cells #[.int .i64 g.sum, .int .i64 g.peak, .int .i64 g.dip, .int .i64 hi, .int .i64 lo, .int .i64 g.seq, .int .i64 g.dropped] 44)) zl g.c g.z) := ((HC.out.kept C0.out (fun h => h)).kept c1 (fun h => h)).alloc _
  clear c1 O0 A0 P0 C0 LK HX HC HH
  have o0 : (w1.alloc (.cells #[.int .i64 g.sum, .int .i64 g.peak, .int .i64 g.dip, .int .i64 hi, .int .i64 lo, .int .i64 g.seq, .int .i64 g.dropped] 44)).cell? ⟨w.heap.size, 0, none⟩ = some (.int .i64 11) := O1.out.cell 0
  have o1 : (w1.alloc (.cells #[.int .i64 g.sum, .int .i64 g.peak, .int .i64 g.dip, .int .i64 hi, .int .i64 lo, .int .i64 g.seq, .int .i64 g.dropped] 44)).cell? ⟨w.heap.size, 1, none⟩ = some (.int .i64 a) := O1.out.cell 1
  have o2 : (w1.alloc (.cells #[.int .i64 g.sum, .int .i64 g.peak, .int .i64 g.dip, .int .i64 hi, .int .i64 lo, .int .i64 g.seq, .int .i64 g.dropped] 44)).cell? ⟨w.heap.size, 2, none⟩ = some (.int .i64 b) := O1.out.cell 2
  have a0 : (w1.alloc (.cells #[.int .i64 g.sum, .int .i64 g.peak, .int .i64 g.dip, .int .i64 hi, .int .i64 lo, .int .i64 g.seq, .int .i64 g.dropped] 44)).cell? ⟨w.heap.size + 1, 0, none⟩ = some (.int .i64 0) := A1.out.cell 0
  have a1 : (w1.alloc (.cells #[.int .i64 g.sum, .int .i64 g.peak, .int .i64 g.dip, .int .i64 hi, .int .i64 lo, .int .i64 g.seq, .int .i64 g.dropped] 44)).cell? ⟨w.heap.size + 1, 1, none⟩ = some (.int .i64 0) := A1.out.cell 1
  have a2 : (w1.alloc (.cells #[.int .i64 g.sum, .int .i64 g.peak, .int .i64 g.dip, .int .i64 hi, .int .i64 lo, .int .i64 g.seq, .int .i64 g.dropped] 44)).cell? ⟨w.heap.size + 1, 2, none⟩ = some (.int .i64 0) := A1.out.cell 2
  have a3 : (w1.alloc (.cells #[.int .i64 g.sum, .int .i64 g.peak, .int .i64 g.dip, .int .i64 hi, .int .i64 lo, .int .i64 g.seq, .int .i64 g.dropped] 44)).cell? ⟨w.heap.size + 1, 3, none⟩ = some (.string U) := A1.out.cell 3
  have p0 : (w1.alloc (.cells #[.int .i64 g.sum, .int .i64 g.peak, .int .i64 g.dip, .int .i64 hi, .int .i64 lo, .int .i64 g.seq, .int .i64 g.dropped] 44)).cell? ⟨w.heap.size + 1 + 1, 0, none⟩ = some (.int .i64 g.sum) := P1.out.cell 0
  have pf0 := P1.out.frozen 0
  have p1 : (w1.alloc (.cells #[.int .i64 g.sum, .int .i64 g.peak, .int .i64 g.dip, .int .i64 hi, .int .i64 lo, .int .i64 g.seq, .int .i64 g.dropped] 44)).cell? ⟨w.heap.size + 1 + 1, 1, none⟩ = some (.int .i64 g.peak) := P1.out.cell 1
  have pf1 := P1.out.frozen 1
  have p2 : (w1.alloc (.cells #[.int .i64 g.sum, .int .i64 g.peak, .int .i64 g.dip, .int .i64 hi, .int .i64 lo, .int .i64 g.seq, .int .i64 g.dropped] 44)).cell? ⟨w.heap.size + 1 + 1, 2, none⟩ = some (.int .i64 g.dip) := P1.out.cell 2
  have pf2 := P1.out.frozen 2
  have p3 : (w1.alloc (.cells #[.int .i64 g.sum, .int .i64 g.peak, .int .i64 g.dip, .int .i64 hi, .int .i64 lo, .int .i64 g.seq, .int .i64 g.dropped] 44)).cell? ⟨w.heap.size + 1 + 1, 3, none⟩ = some (.int .i64 hi) := P1.out.cell 3
  have pf3 := P1.out.frozen 3
  have p4 : (w1.alloc (.cells #[.int .i64 g.sum, .int .i64 g.peak, .int .i64 g.dip, .int .i64 hi, .int .i64 lo, .int .i64 g.seq, .int .i64 g.dropped] 44)).cell? ⟨w.heap.size + 1 + 1, 4, none⟩ = some (.int .i64 lo) := P1.out.cell 4
  have pf4 := P1.out.frozen 4
  have p5 : (w1.alloc (.cells #[.int .i64 g.sum, .int .i64 g.peak, .int .i64 g.dip, .int .i64 hi, .int .i64 lo, .int .i64 g.seq, .int .i64 g.dropped] 44)).cell? ⟨w.heap.size + 1 + 1, 5, none⟩ = some (.int .i64 g.seq) := P1.out.cell 5
  have pf5 := P1.out.frozen 5
  have p6 : (w1.alloc (.cells #[.int .i64 g.sum, .int .i64 g.peak, .int .i64 g.dip, .int .i64 hi, .int .i64 lo, .int .i64 g.seq, .int .i64 g.dropped] 44)).cell? ⟨w.heap.size + 1 + 1, 6, none⟩ = some (.int .i64 g.dropped) := P1.out.cell 6
  have pf6 := P1.out.frozen 6
  have y0 : (w1.alloc (.cells #[.int .i64 g.sum, .int .i64 g.peak, .int .i64 g.dip, .int .i64 hi, .int .i64 lo, .int .i64 g.seq, .int .i64 g.dropped] 44)).cell? ⟨w1.heap.size, 0, none⟩ = some (.int .i64 g.sum) := Q1.out.cell 0
  have y1 : (w1.alloc (.cells #[.int .i64 g.sum, .int .i64 g.peak, .int .i64 g.dip, .int .i64 hi, .int .i64 lo, .int .i64 g.seq, .int .i64 g.dropped] 44)).cell? ⟨w1.heap.size, 1, none⟩ = some (.int .i64 g.peak) := Q1.out.cell 1
  have y2 : (w1.alloc (.cells #[.int .i64 g.sum, .int .i64 g.peak, .int .i64 g.dip, .int .i64 hi, .int .i64 lo, .int .i64 g.seq, .int .i64 g.dropped] 44)).cell? ⟨w1.heap.size, 2, none⟩ = some (.int .i64 g.dip) := Q1.out.cell 2
  have y3 : (w1.alloc (.cells #[.int .i64 g.sum, .int .i64 g.peak, .int .i64 g.dip, .int .i64 hi, .int .i64 lo, .int .i64 g.seq, .int .i64 g.dropped] 44)).cell? ⟨w1.heap.size, 3, none⟩ = some (.int .i64 hi) := Q1.out.cell 3
  have y4 : (w1.alloc (.cells #[.int .i64 g.sum, .int .i64 g.peak, .int .i64 g.dip, .int .i64 hi, .int .i64 lo, .int .i64 g.seq, .int .i64 g.dropped] 44)).cell? ⟨w1.heap.size, 4, none⟩ = some (.int .i64 lo) := Q1.out.cell 4
  have y5 : (w1.alloc (.cells #[.int .i64 g.sum, .int .i64 g.peak, .int .i64 g.dip, .int .i64 hi, .int .i64 lo, .int .i64 g.seq, .int .i64 g.dropped] 44)).cell? ⟨w1.heap.size, 5, none⟩ = some (.int .i64 g.seq) := Q1.out.cell 5
  have y6 : (w1.alloc (.cells #[.int .i64 g.sum, .int .i64 g.peak, .int .i64 g.dip, .int .i64 hi, .int .i64 lo, .int .i64 g.seq, .int .i64 g.dropped] 44)).cell? ⟨w1.heap.size, 6, none⟩ = some (.int .i64 g.dropped) := Q1.out.cell 6
  have i8 : (w1.alloc (.cells #[.int .i64 g.sum, .int .i64 g.peak, .int .i64 g.dip, .int .i64 hi, .int .i64 lo, .int .i64 g.seq, .int .i64 g.dropped] 44)).cell? ⟨gp, 8, none⟩ = some (.int .i64 g.at_) := H1.out.cell 8 (gh_get _ H1.out.len).1
  have i9 : (w1.alloc (.cells #[.int .i64 g.sum, .int .i64 g.peak, .int .i64 g.dip, .int .i64 hi, .int .i64 lo, .int .i64 g.seq, .int .i64 g.dropped] 44)).cell? ⟨gp, 9, none⟩ = some (.int .i64 g.depth) := H1.out.cell 9 (gh_get _ H1.out.len).2.1
  have i10 : (w1.alloc (.cells #[.int .i64 g.sum, .int .i64 g.peak, .int .i64 g.dip, .int .i64 hi, .int .i64 lo, .int .i64 g.seq, .int .i64 g.dropped] 44)).cell? ⟨gp, 10, none⟩ = some (.int .i64 g.mode) := H1.out.cell 10 (gh_get _ H1.out.len).2.2
  have z9 := H1.out.frozen 9
  have z10 := H1.out.frozen 10
  have hq := HQ.out
  have hlt := LT.out
  have npo : ∀ (W : World) (i j : Nat) (v : Value), (W.setCell ⟨w.heap.size + 1 + 1, i, none⟩ v).cell? ⟨w.heap.size, j, none⟩ = W.cell? ⟨w.heap.size, j, none⟩ := fun W i j v => far_cell' W (by omega) i j v
  have npa : ∀ (W : World) (i j : Nat) (v : Value), (W.setCell ⟨w.heap.size + 1 + 1, i, none⟩ v).cell? ⟨w.heap.size + 1, j, none⟩ = W.cell? ⟨w.heap.size + 1, j, none⟩ := fun W i j v => far_cell' W (by omega) i j v
  have npq : ∀ (W : World) (i j : Nat) (v : Value), (W.setCell ⟨w.heap.size + 1 + 1, i, none⟩ v).cell? ⟨w1.heap.size, j, none⟩ = W.cell? ⟨w1.heap.size, j, none⟩ := fun W i j v => far_cell' W (by omega) i j v
  have npg : ∀ (W : World) (i j : Nat) (v : Value), (W.setCell ⟨w.heap.size + 1 + 1, i, none⟩ v).cell? ⟨gp, j, none⟩ = W.cell? ⟨gp, j, none⟩ := fun W i j v => far_cell' W (by omega) i j v
  clear hq hlt
  go_wp2_with fail
  go_ret
  have lt := LT.out
  exact ⟨rfl, Z1.out.setOther (by show w.heap.size + 1 + 1 ≠ zl; omega) _, (H1.out.kept ((Chg.refl (fun k => k = w.heap.size + 1 + 1) _).setCell (Or.inl rfl) _) (by omega)).same rfl rfl rfl rfl, (C1.out.mono (fun k _ e => e.elim)).setCell (Or.inr (by dsimp only; omega)) _⟩

end Go.Proofs.Qxb6500376aDoor

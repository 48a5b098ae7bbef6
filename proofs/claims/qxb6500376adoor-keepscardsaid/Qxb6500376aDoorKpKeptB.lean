/- Keeps: kept, kind by kind (written by tools/genkp.py). -/
import Derived.Test.Qxb6500376aDoorKpFed
namespace Go.Proofs.Qxb6500376aDoor
set_option linter.unusedVariables false
set_option linter.unusedSimpArgs false
set_option maxHeartbeats 4000000
set_option maxRecDepth 100000
open Go.RowKit Go.Qu Ieee

theorem kp_7 (p zl gp : Nat) (l : Lk) (g : PS) (n : Int) (a b cc : Int) (s t : ByteArray) (U : ByteArray) (w : World) (hg : Good g n) (hn : n ≤ 4611686018427387904) (hg' : Good g (n + 1)) (ha : I64 a) (hb : I64 b) (hx : Ap w p l g) (hc : Cv w zl g.c g.z) (hh : Gh w gp g) (hzg : zl ≠ gp) :
    Calls Tryd.prog 19 #[.pointer (some ⟨p, 0, none⟩), .pointer (some ⟨zl, 0, none⟩), .pointer (some ⟨gp, 0, none⟩), opV 7 a b cc s t, ansV 0 (isq (sumSq g.ring / 16384).toNat) 0 U, befV g] w fun e w' => e = .returned (.bool true) ∧ Cv w' zl g.c g.z ∧ Gh w' gp g ∧ Chg (fun k => k = zl ∨ k = gp) w w' := by
  have LK : Hid (∀ w' (h : Ap w' p l g), Calls _ _ _ _ _) := fun w' h => look_any p l g (n + 1) w' hg' h
  unfold befV at LK
  unfold opV ansV befV
  try dsimp only at LK
  try dsimp only
  have HX : Hid (Ap w p l g) := hx
  have HC : Hid (Cv w zl g.c g.z) := hc
  have HH : Hid (Gh w gp g) := hh
  have HG : Hid (Good g n ∧ n ≤ 4611686018427387904 ∧ I64 a ∧ I64 b) := ⟨hg, hn, ha, hb⟩
  have LT : Hid (zl < w.heap.size ∧ gp < w.heap.size ∧ zl ≠ gp) := ⟨Has.lt hc, hh.lt, hzg⟩
  have q0 := hg.q0; have r0 := hg.r0; have A0 := hg.a0; have A8 := hg.a8
  have q1 : g.seq ≤ 4611686018427387904 := by have := hg.q1; omega
  have r1 : g.dropped ≤ 4611686018427387904 := by have := hg.r1; omega
  have en := hg.en
  obtain ⟨E, hE⟩ : ∃ E : Nat, sumSq g.ring = E := ⟨(sumSq g.ring).toNat, by omega⟩
  rw [hE] at LK ⊢
  rw [hE] at en
  have hN : bits .or .i64 (((E : Int) / 4294967296) * 262144) ((E : Int) % 4294967296 / 16384) = ((E / 16384 : Nat) : Int) := by
    have := or_sum (((E : Int) / 4294967296) * 262144) (E % 4294967296 / 16384) 18 (by omega) (by omega) (by omega) (by omega) (by omega)
    rw [show (((E % 4294967296 / 16384 : Nat)) : Int) = (E : Int) % 4294967296 / 16384 by omega] at this
    rw [this]; omega
  rw [show ((E : Int) / 16384).toNat = E / 16384 by omega]
  have h52 : E / 16384 ≤ 2251799813685248 := by omega
  have x0 : 0 ≤ (E : Int) / 4294967296 := by omega
  have x1 : (E : Int) / 4294967296 ≤ 8589934592 := by omega
  have x2 : 0 ≤ (E : Int) % 4294967296 := by omega
  have x3 : (E : Int) % 4294967296 ≤ 4294967295 := by omega
  generalize (E : Int) / 4294967296 = hi at *
  generalize (E : Int) % 4294967296 = lo at *
  generalize E / 16384 = N at *
  have hI := isq_ok (n := N) (by omega)
  have hI2 : isq N ≤ 67108864 := by
    rcases Nat.lt_or_ge (isq N) 67108865 with h | h
    · omega
    · have := Nat.mul_le_mul h h; omega
  obtain ⟨NN, hNN⟩ : ∃ NN : Int, (N : Int) = NN := ⟨_, rfl⟩
  obtain ⟨R, hR⟩ : ∃ R : Int, (isq N : Int) = R := ⟨_, rfl⟩
  have R0 : 0 ≤ R := by omega
  have R1 : R ≤ 67108864 := by omega
  have R2 : R * R ≤ NN := by rw [← hR, ← hNN, ← Int.natCast_mul]; omega
  have R3 : NN < (R + 1) * (R + 1) := by rw [← hR, ← hNN, show ((isq N : Int) + 1) = ((isq N + 1 : Nat) : Int) by omega, ← Int.natCast_mul]; omega
  have NI : NN ≤ 2251799813685248 := by omega
  have RR : (R + 1) * (R + 1) = R * R + 2 * R + 1 := by rw [Int.add_mul, Int.mul_add]; omega
  have R4 : wrap64 (R * R) = R * R := by have : 0 ≤ R * R := Int.mul_nonneg R0 R0; rw [wrap64]; omega
  have R5 : wrap64 ((R + 1) * (R + 1)) = (R + 1) * (R + 1) := by have : 0 ≤ R * R := Int.mul_nonneg R0 R0; rw [wrap64]; omega
  have R6 : 0 ≤ (R + 1) * (R + 1) := by have : 0 ≤ R * R := Int.mul_nonneg R0 R0; omega
  have R7 : 0 ≤ R * R := Int.mul_nonneg R0 R0
  have R8 : (R + 1) * (R + 1) ≤ 4611686018427387904 := by omega
  rw [hNN] at hN
  rw [hR]
  clear RR hI hI2 hNN hR h52 en hE
  have O0 : Hid (Has 50 (((w.alloc (.cells #[.int .i64 7, .int .i64 a, .int .i64 b, .int .i64 cc, .string s, .string t] 50)).alloc (.cells #[.int .i64 0, .int .i64 R, .int .i64 0, .string U] 47)).alloc (.cells #[.int .i64 g.sum, .int .i64 g.peak, .int .i64 g.dip, .int .i64 hi, .int .i64 lo, .int .i64 g.seq, .int .i64 g.dropped] 44)) w.heap.size [.int .i64 7, .int .i64 a, .int .i64 b, .int .i64 cc, .string s, .string t]) := ((Has.new 50 w [.int .i64 7, .int .i64 a, .int .i64 b, .int .i64 cc, .string s, .string t]).alloc _).alloc _
  have A0 : Hid (Has 47 (((w.alloc (.cells #[.int .i64 7, .int .i64 a, .int .i64 b, .int .i64 cc, .string s, .string t] 50)).alloc (.cells #[.int .i64 0, .int .i64 R, .int .i64 0, .string U] 47)).alloc (.cells #[.int .i64 g.sum, .int .i64 g.peak, .int .i64 g.dip, .int .i64 hi, .int .i64 lo, .int .i64 g.seq, .int .i64 g.dropped] 44)) (w.heap.size + 1) [.int .i64 0, .int .i64 R, .int .i64 0, .string U]) := (hasAt (by simp) [.int .i64 0, .int .i64 R, .int .i64 0, .string U]).alloc _
  have P0 : Hid (Has 44 (((w.alloc (.cells #[.int .i64 7, .int .i64 a, .int .i64 b, .int .i64 cc, .string s, .string t] 50)).alloc (.cells #[.int .i64 0, .int .i64 R, .int .i64 0, .string U] 47)).alloc (.cells #[.int .i64 g.sum, .int .i64 g.peak, .int .i64 g.dip, .int .i64 hi, .int .i64 lo, .int .i64 g.seq, .int .i64 g.dropped] 44)) (w.heap.size + 1 + 1) [.int .i64 g.sum, .int .i64 g.peak, .int .i64 g.dip, .int .i64 hi, .int .i64 lo, .int .i64 g.seq, .int .i64 g.dropped]) := hasAt (by simp) [.int .i64 g.sum, .int .i64 g.peak, .int .i64 g.dip, .int .i64 hi, .int .i64 lo, .int .i64 g.seq, .int .i64 g.dropped]
  have C0 : Hid (Chg (fun _ => False) w (((w.alloc (.cells #[.int .i64 7, .int .i64 a, .int .i64 b, .int .i64 cc, .string s, .string t] 50)).alloc (.cells #[.int .i64 0, .int .i64 R, .int .i64 0, .string U] 47)).alloc (.cells #[.int .i64 g.sum, .int .i64 g.peak, .int .i64 g.dip, .int .i64 hi, .int .i64 lo, .int .i64 g.seq, .int .i64 g.dropped] 44))) := ((((Chg.refl _ w).alloc _).alloc _).alloc _)
  clear hg hn hg' ha hb hx hc hh hzg
  go_enter Tryd.func19, Tryd.ntmps19
  go_wp2_with fail
  refine (LK.out _ (ap_nil HX.out C0.out)).mono ?_; rintro e w1 ⟨rfl, c1⟩
  have C1 : Hid (Chg (fun _ => False) w (w1.alloc (.cells #[.int .i64 g.sum, .int .i64 g.peak, .int .i64 g.dip, .int .i64 hi, .int .i64 lo, .int .i64 g.seq, .int .i64 g.dropped] 44))) := (C0.out.trans c1).alloc _
  have O1 : Hid (Has 50 (w1.alloc (.cells #[.int .i64 g.sum, .int .i64 g.peak, .int .i64 g.dip, .int .i64 hi, .int .i64 lo, .int .i64 g.seq, .int .i64 g.dropped] 44)) w.heap.size [.int .i64 7, .int .i64 a, .int .i64 b, .int .i64 cc, .string s, .string t]) := (O0.out.kept c1 (fun h => h)).alloc _
  have A1 : Hid (Has 47 (w1.alloc (.cells #[.int .i64 g.sum, .int .i64 g.peak, .int .i64 g.dip, .int .i64 hi, .int .i64 lo, .int .i64 g.seq, .int .i64 g.dropped] 44)) (w.heap.size + 1) [.int .i64 0, .int .i64 R, .int .i64 0, .string U]) := (A0.out.kept c1 (fun h => h)).alloc _
  have P1 : Hid (Has 44 (w1.alloc (.cells #[.int .i64 g.sum, .int .i64 g.peak, .int .i64 g.dip, .int .i64 hi, .int .i64 lo, .int .i64 g.seq, .int .i64 g.dropped] 44)) (w.heap.size + 1 + 1) [.int .i64 g.sum, .int .i64 g.peak, .int .i64 g.dip, .int .i64 hi, .int .i64 lo, .int .i64 g.seq, .int .i64 g.dropped]) := (P0.out.kept c1 (fun h => h)).alloc _
  have Q1 : Hid (Has 44 (w1.alloc (.cells #[.int .i64 g.sum, .int .i64 g.peak, .int .i64 g.dip, .int .i64 hi, .int .i64 lo, .int .i64 g.seq, .int .i64 g.dropped] 44)) w1.heap.size [.int .i64 g.sum, .int .i64 g.peak, .int .i64 g.dip, .int .i64 hi, .int .i64 lo, .int .i64 g.seq, .int .i64 g.dropped]) := Has.new _ _ _
  have HQ : Hid (w.heap.size + 1 + 1 < w1.heap.size) := by have h1 := P0.out.lt; have h2 := c1.size; show w.heap.size + 1 + 1 < w1.heap.size; omega
  have H1 : Hid (Gh (w1.alloc (.cells #[.int .i64 g.sum, .int .i64 g.peak, .int .i64 g.dip, .int .i64 hi, .int .i64 lo, .int .i64 g.seq, .int .i64 g.dropped] 44)) gp g) := (HH.out.nil (C0.out.trans c1)).nil ((Chg.refl _ _).alloc _)
  have Z1 : Hid (Cv (w1.alloc (.cells #[.int .i64 g.sum, .int .i64 g.peak, .int .i64 g.dip, .int .i64 hi, .int .i64 lo, .int .i64 g.seq, .int .i64 g.dropped] 44)) zl g.c g.z) := ((HC.out.kept C0.out (fun h => h)).kept c1 (fun h => h)).alloc _
  clear c1 O0 A0 P0 C0 LK HX HC HH
  have o0 : (w1.alloc (.cells #[.int .i64 g.sum, .int .i64 g.peak, .int .i64 g.dip, .int .i64 hi, .int .i64 lo, .int .i64 g.seq, .int .i64 g.dropped] 44)).cell? ⟨w.heap.size, 0, none⟩ = some (.int .i64 7) := O1.out.cell 0
  have o1 : (w1.alloc (.cells #[.int .i64 g.sum, .int .i64 g.peak, .int .i64 g.dip, .int .i64 hi, .int .i64 lo, .int .i64 g.seq, .int .i64 g.dropped] 44)).cell? ⟨w.heap.size, 1, none⟩ = some (.int .i64 a) := O1.out.cell 1
  have o2 : (w1.alloc (.cells #[.int .i64 g.sum, .int .i64 g.peak, .int .i64 g.dip, .int .i64 hi, .int .i64 lo, .int .i64 g.seq, .int .i64 g.dropped] 44)).cell? ⟨w.heap.size, 2, none⟩ = some (.int .i64 b) := O1.out.cell 2
  have a0 : (w1.alloc (.cells #[.int .i64 g.sum, .int .i64 g.peak, .int .i64 g.dip, .int .i64 hi, .int .i64 lo, .int .i64 g.seq, .int .i64 g.dropped] 44)).cell? ⟨w.heap.size + 1, 0, none⟩ = some (.int .i64 0) := A1.out.cell 0
  have a1 : (w1.alloc (.cells #[.int .i64 g.sum, .int .i64 g.peak, .int .i64 g.dip, .int .i64 hi, .int .i64 lo, .int .i64 g.seq, .int .i64 g.dropped] 44)).cell? ⟨w.heap.size + 1, 1, none⟩ = some (.int .i64 R) := A1.out.cell 1
  have a2 : (w1.alloc (.cells #[.int .i64 g.sum, .int .i64 g.peak, .int .i64 g.dip, .int .i64 hi, .int .i64 lo, .int .i64 g.seq, .int .i64 g.dropped] 44)).cell? ⟨w.heap.size + 1, 2, none⟩ = some (.int .i64 0) := A1.out.cell 2
  have a3 : (w1.alloc (.cells #[.int .i64 g.sum, .int .i64 g.peak, .int .i64 g.dip, .int .i64 hi, .int .i64 lo, .int .i64 g.seq, .int .i64 g.dropped] 44)).cell? ⟨w.heap.size + 1, 3, none⟩ = some (.string U) := A1.out.cell 3
  have p0 : (w1.alloc (.cells #[.int .i64 g.sum, .int .i64 g.peak, .int .i64 g.dip, .int .i64 hi, .int .i64 lo, .int .i64 g.seq, .int .i64 g.dropped] 44)).cell? ⟨w.heap.size + 1 + 1, 0, none⟩ = some (.int .i64 g.sum) := P1.out.cell 0
  have pf0 := P1.out.frozen 0
  have p1 : (w1.alloc (.cells #[.int .i64 g.sum, .int .i64 g.peak, .int .i64 g.dip, .int .i64 hi, .int .i64 lo, .int .i64 g.seq, .int .i64 g.dropped] 44)).cell? ⟨w.heap.size + 1 + 1, 1, none⟩ = some (.int .i64 g.peak) := P1.out.cell 1
  have pf1 := P1.out.frozen 1
  have p2 : (w1.alloc (.cells #[.int .i64 g.sum, .int .i64 g.peak, .int .i64 g.dip, .int .i64 hi, .int .i64 lo, .int .i64 g.seq, .int .i64 g.dropped] 44)).cell? ⟨w.heap.size + 1 + 1, 2, none⟩ = some (.int .i64 g.dip) := P1.out.cell 2
  have pf2 := P1.out.frozen 2
  have p3 : (w1.alloc (.cells #[.int .i64 g.sum, .int .i64 g.peak, .int .i64 g.dip, .int .i64 hi, .int .i64 lo, .int .i64 g.seq, .int .i64 g.dropped] 44)).cell? ⟨w.heap.size + 1 + 1, 3, none⟩ = some (.int .i64 hi) := P1.out.cell 3
  have pf3 := P1.out.frozen 3
  have p4 : (w1.alloc (.cells #[.int .i64 g.sum, .int .i64 g.peak, .int .i64 g.dip, .int .i64 hi, .int .i64 lo, .int .i64 g.seq, .int .i64 g.dropped] 44)).cell? ⟨w.heap.size + 1 + 1, 4, none⟩ = some (.int .i64 lo) := P1.out.cell 4
  have pf4 := P1.out.frozen 4
  have p5 : (w1.alloc (.cells #[.int .i64 g.sum, .int .i64 g.peak, .int .i64 g.dip, .int .i64 hi, .int .i64 lo, .int .i64 g.seq, .int .i64 g.dropped] 44)).cell? ⟨w.heap.size + 1 + 1, 5, none⟩ = some (.int .i64 g.seq) := P1.out.cell 5
  have pf5 := P1.out.frozen 5
  have p6 : (w1.alloc (.cells #[.int .i64 g.sum, .int .i64 g.peak, .int .i64 g.dip, .int .i64 hi, .int .i64 lo, .int .i64 g.seq, .int .i64 g.dropped] 44)).cell? ⟨w.heap.size + 1 + 1, 6, none⟩ = some (.int .i64 g.dropped) := P1.out.cell 6
  have pf6 := P1.out.frozen 6
  have y0 : (w1.alloc (.cells #[.int .i64 g.sum, .int .i64 g.peak, .int .i64 g.dip, .int .i64 hi, .int .i64 lo, .int .i64 g.seq, .int .i64 g.dropped] 44)).cell? ⟨w1.heap.size, 0, none⟩ = some (.int .i64 g.sum) := Q1.out.cell 0
  have y1 : (w1.alloc (.cells #[.int .i64 g.sum, .int .i64 g.peak, .int .i64 g.dip, .int .i64 hi, .int .i64 lo, .int .i64 g.seq, .int .i64 g.dropped] 44)).cell? ⟨w1.heap.size, 1, none⟩ = some (.int .i64 g.peak) := Q1.out.cell 1
  have y2 : (w1.alloc (.cells #[.int .i64 g.sum, .int .i64 g.peak, .int .i64 g.dip, .int .i64 hi, .int .i64 lo, .int .i64 g.seq, .int .i64 g.dropped] 44)).cell? ⟨w1.heap.size, 2, none⟩ = some (.int .i64 g.dip) := Q1.out.cell 2
  have y3 : (w1.alloc (.cells #[.int .i64 g.sum, .int .i64 g.peak, .int .i64 g.dip, .int .i64 hi, .int .i64 lo, .int .i64 g.seq, .int .i64 g.dropped] 44)).cell? ⟨w1.heap.size, 3, none⟩ = some (.int .i64 hi) := Q1.out.cell 3
  have y4 : (w1.alloc (.cells #[.int .i64 g.sum, .int .i64 g.peak, .int .i64 g.dip, .int .i64 hi, .int .i64 lo, .int .i64 g.seq, .int .i64 g.dropped] 44)).cell? ⟨w1.heap.size, 4, none⟩ = some (.int .i64 lo) := Q1.out.cell 4
  have y5 : (w1.alloc (.cells #[.int .i64 g.sum, .int .i64 g.peak, .int .i64 g.dip, .int .i64 hi, .int .i64 lo, .int .i64 g.seq, .int .i64 g.dropped] 44)).cell? ⟨w1.heap.size, 5, none⟩ = some (.int .i64 g.seq) := Q1.out.cell 5
  have y6 : (w1.alloc (.cells #[.int .i64 g.sum, .int .i64 g.peak, .int .i64 g.dip, .int .i64 hi, .int .i64 lo, .int .i64 g.seq, .int .i64 g.dropped] 44)).cell? ⟨w1.heap.size, 6, none⟩ = some (.int .i64 g.dropped) := Q1.out.cell 6
  have i8 : (w1.alloc (.cells #[.int .i64 g.sum, .int .i64 g.peak, .int .i64 g.dip, .int .i64 hi, .int .i64 lo, .int .i64 g.seq, .int .i64 g.dropped] 44)).cell? ⟨gp, 8, none⟩ = some (.int .i64 g.at_) := H1.out.cell 8 (gh_get _ H1.out.len).1
  have i9 : (w1.alloc (.cells #[.int .i64 g.sum, .int .i64 g.peak, .int .i64 g.dip, .int .i64 hi, .int .i64 lo, .int .i64 g.seq, .int .i64 g.dropped] 44)).cell? ⟨gp, 9, none⟩ = some (.int .i64 g.depth) := H1.out.cell 9 (gh_get _ H1.out.len).2.1
  have i10 : (w1.alloc (.cells #[.int .i64 g.sum, .int .i64 g.peak, .int .i64 g.dip, .int .i64 hi, .int .i64 lo, .int .i64 g.seq, .int .i64 g.dropped] 44)).cell? ⟨gp, 10, none⟩ = some (.int .i64 g.mode) := H1.out.cell 10 (gh_get _ H1.out.len).2.2
  have z9 := H1.out.frozen 9
  have z10 := H1.out.frozen 10
  go_wp2_with fail
  go_ret
  exact ⟨rfl, Z1.out, H1.out, C1.out.mono (fun k _ e => e.elim)⟩

theorem kp_8a (p zl gp : Nat) (l : Lk) (g : PS) (n : Int) (a b cc : Int) (s t : ByteArray) (U : ByteArray) (w : World) (hg : Good g n) (hn : n ≤ 4611686018427387904) (hg' : Good g (n + 1)) (ha : I64 a) (hb : I64 b) (hx : Ap w p l g) (hc : Cv w zl g.c g.z) (hh : Gh w gp g) (hzg : zl ≠ gp) :
    Calls Tryd.prog 19 #[.pointer (some ⟨p, 0, none⟩), .pointer (some ⟨zl, 0, none⟩), .pointer (some ⟨gp, 0, none⟩), opV 8 a b cc s t, ansV 0 g.peak (negI g.dip) U, befV g] w fun e w' => e = .returned (.bool true) ∧ Cv w' zl g.c g.z ∧ Gh w' gp g ∧ Chg (fun k => k = zl ∨ k = gp) w w' := by
  have LK : Hid (∀ w' (h : Ap w' p l g), Calls _ _ _ _ _) := fun w' h => look_any p l g (n + 1) w' hg' h
  unfold befV at LK
  unfold opV ansV befV
  try dsimp only at LK
  try dsimp only
  have HX : Hid (Ap w p l g) := hx
  have HC : Hid (Cv w zl g.c g.z) := hc
  have HH : Hid (Gh w gp g) := hh
  have HG : Hid (Good g n ∧ n ≤ 4611686018427387904 ∧ I64 a ∧ I64 b) := ⟨hg, hn, ha, hb⟩
  have LT : Hid (zl < w.heap.size ∧ gp < w.heap.size ∧ zl ≠ gp) := ⟨Has.lt hc, hh.lt, hzg⟩
  have q0 := hg.q0; have r0 := hg.r0; have A0 := hg.a0; have A8 := hg.a8
  have q1 : g.seq ≤ 4611686018427387904 := by have := hg.q1; omega
  have r1 : g.dropped ≤ 4611686018427387904 := by have := hg.r1; omega
  have xs := xor_sign g.dip hg.dp
  obtain ⟨D, hD⟩ : ∃ D, negI g.dip = D := ⟨_, rfl⟩
  rw [hD] at xs
  rw [hD]
  clear hD
  generalize sumSq g.ring / 4294967296 = hi at LK ⊢
  generalize sumSq g.ring % 4294967296 = lo at LK ⊢
  have O0 : Hid (Has 50 (((w.alloc (.cells #[.int .i64 8, .int .i64 a, .int .i64 b, .int .i64 cc, .string s, .string t] 50)).alloc (.cells #[.int .i64 0, .int .i64 g.peak, .int .i64 D, .string U] 47)).alloc (.cells #[.int .i64 g.sum, .int .i64 g.peak, .int .i64 g.dip, .int .i64 hi, .int .i64 lo, .int .i64 g.seq, .int .i64 g.dropped] 44)) w.heap.size [.int .i64 8, .int .i64 a, .int .i64 b, .int .i64 cc, .string s, .string t]) := ((Has.new 50 w [.int .i64 8, .int .i64 a, .int .i64 b, .int .i64 cc, .string s, .string t]).alloc _).alloc _
  have A0 : Hid (Has 47 (((w.alloc (.cells #[.int .i64 8, .int .i64 a, .int .i64 b, .int .i64 cc, .string s, .string t] 50)).alloc (.cells #[.int .i64 0, .int .i64 g.peak, .int .i64 D, .string U] 47)).alloc (.cells #[.int .i64 g.sum, .int .i64 g.peak, .int .i64 g.dip, .int .i64 hi, .int .i64 lo, .int .i64 g.seq, .int .i64 g.dropped] 44)) (w.heap.size + 1) [.int .i64 0, .int .i64 g.peak, .int .i64 D, .string U]) := (hasAt (by simp) [.int .i64 0, .int .i64 g.peak, .int .i64 D, .string U]).alloc _
  have P0 : Hid (Has 44 (((w.alloc (.cells #[.int .i64 8, .int .i64 a, .int .i64 b, .int .i64 cc, .string s, .string t] 50)).alloc (.cells #[.int .i64 0, .int .i64 g.peak, .int .i64 D, .string U] 47)).alloc (.cells #[.int .i64 g.sum, .int .i64 g.peak, .int .i64 g.dip, .int .i64 hi, .int .i64 lo, .int .i64 g.seq, .int .i64 g.dropped] 44)) (w.heap.size + 1 + 1) [.int .i64 g.sum, .int .i64 g.peak, .int .i64 g.dip, .int .i64 hi, .int .i64 lo, .int .i64 g.seq, .int .i64 g.dropped]) := hasAt (by simp) [.int .i64 g.sum, .int .i64 g.peak, .int .i64 g.dip, .int .i64 hi, .int .i64 lo, .int .i64 g.seq, .int .i64 g.dropped]
  have C0 : Hid (Chg (fun _ => False) w (((w.alloc (.cells #[.int .i64 8, .int .i64 a, .int .i64 b, .int .i64 cc, .string s, .string t] 50)).alloc (.cells #[.int .i64 0, .int .i64 g.peak, .int .i64 D, .string U] 47)).alloc (.cells #[.int .i64 g.sum, .int .i64 g.peak, .int .i64 g.dip, .int .i64 hi, .int .i64 lo, .int .i64 g.seq, .int .i64 g.dropped] 44))) := ((((Chg.refl _ w).alloc _).alloc _).alloc _)
  clear hg hn hg' ha hb hx hc hh hzg
  go_enter Tryd.func19, Tryd.ntmps19
  go_wp2_with fail
  refine (LK.out _ (ap_nil HX.out C0.out)).mono ?_; rintro e w1 ⟨rfl, c1⟩
  have C1 : Hid (Chg (fun _ => False) w (w1.alloc (.cells #[.int .i64 g.sum, .int .i64 g.peak, .int .i64 g.dip, .int .i64 hi, .int .i64 lo, .int .i64 g.seq, .int .i64 g.dropped] 44))) := (C0.out.trans c1).alloc _
  have O1 : Hid (Has 50 (w1.alloc (.cells #[.int .i64 g.sum, .int .i64 g.peak, .int .i64 g.dip, .int .i64 hi, .int .i64 lo, .int .i64 g.seq, .int .i64 g.dropped] 44)) w.heap.size [.int .i64 8, .int .i64 a, .int .i64 b, .int .i64 cc, .string s, .string t]) := (O0.out.kept c1 (fun h => h)).alloc _
  have A1 : Hid (Has 47 (w1.alloc (.cells #[.int .i64 g.sum, .int .i64 g.peak, .int .i64 g.dip, .int .i64 hi, .int .i64 lo, .int .i64 g.seq, .int .i64 g.dropped] 44)) (w.heap.size + 1) [.int .i64 0, .int .i64 g.peak, .int .i64 D, .string U]) := (A0.out.kept c1 (fun h => h)).alloc _
  have P1 : Hid (Has 44 (w1.alloc (.cells #[.int .i64 g.sum, .int .i64 g.peak, .int .i64 g.dip, .int .i64 hi, .int .i64 lo, .int .i64 g.seq, .int .i64 g.dropped] 44)) (w.heap.size + 1 + 1) [.int .i64 g.sum, .int .i64 g.peak, .int .i64 g.dip, .int .i64 hi, .int .i64 lo, .int .i64 g.seq, .int .i64 g.dropped]) := (P0.out.kept c1 (fun h => h)).alloc _
  have Q1 : Hid (Has 44 (w1.alloc (.cells #[.int .i64 g.sum, .int .i64 g.peak, .int .i64 g.dip, .int .i64 hi, .int .i64 lo, .int .i64 g.seq, .int .i64 g.dropped] 44)) w1.heap.size [.int .i64 g.sum, .int .i64 g.peak, .int .i64 g.dip, .int .i64 hi, .int .i64 lo, .int .i64 g.seq, .int .i64 g.dropped]) := Has.new _ _ _
  have HQ : Hid (w.heap.size + 1 + 1 < w1.heap.size) := by have h1 := P0.out.lt; have h2 := c1.size; show w.heap.size + 1 + 1 < w1.heap.size; omega
  have H1 : Hid (Gh (w1.alloc (.cells #[.int .i64 g.sum, .int .i64 g.peak, .int .i64 g.dip, .int .i64 hi, .int .i64 lo, .int .i64 g.seq, .int .i64 g.dropped] 44)) gp g) := (HH.out.nil (C0.out.trans c1)).nil ((Chg.refl _ _).alloc _)
  have Z1 : Hid (Cv (w1.alloc (.cells #[.int .i64 g.sum, .int .i64 g.peak, .int .i64 g.dip, .int .i64 hi, .int .i64 lo, .int .i64 g.seq, .int .i64 g.dropped] 44)) zl g.c g.z) := ((HC.out.kept C0.out (fun h => h)).kept c1 (fun h => h)).alloc _
  clear c1 O0 A0 P0 C0 LK HX HC HH
  have o0 : (w1.alloc (.cells #[.int .i64 g.sum, .int .i64 g.peak, .int .i64 g.dip, .int .i64 hi, .int .i64 lo, .int .i64 g.seq, .int .i64 g.dropped] 44)).cell? ⟨w.heap.size, 0, none⟩ = some (.int .i64 8) := O1.out.cell 0
  have o1 : (w1.alloc (.cells #[.int .i64 g.sum, .int .i64 g.peak, .int .i64 g.dip, .int .i64 hi, .int .i64 lo, .int .i64 g.seq, .int .i64 g.dropped] 44)).cell? ⟨w.heap.size, 1, none⟩ = some (.int .i64 a) := O1.out.cell 1
  have o2 : (w1.alloc (.cells #[.int .i64 g.sum, .int .i64 g.peak, .int .i64 g.dip, .int .i64 hi, .int .i64 lo, .int .i64 g.seq, .int .i64 g.dropped] 44)).cell? ⟨w.heap.size, 2, none⟩ = some (.int .i64 b) := O1.out.cell 2
  have a0 : (w1.alloc (.cells #[.int .i64 g.sum, .int .i64 g.peak, .int .i64 g.dip, .int .i64 hi, .int .i64 lo, .int .i64 g.seq, .int .i64 g.dropped] 44)).cell? ⟨w.heap.size + 1, 0, none⟩ = some (.int .i64 0) := A1.out.cell 0
  have a1 : (w1.alloc (.cells #[.int .i64 g.sum, .int .i64 g.peak, .int .i64 g.dip, .int .i64 hi, .int .i64 lo, .int .i64 g.seq, .int .i64 g.dropped] 44)).cell? ⟨w.heap.size + 1, 1, none⟩ = some (.int .i64 g.peak) := A1.out.cell 1
  have a2 : (w1.alloc (.cells #[.int .i64 g.sum, .int .i64 g.peak, .int .i64 g.dip, .int .i64 hi, .int .i64 lo, .int .i64 g.seq, .int .i64 g.dropped] 44)).cell? ⟨w.heap.size + 1, 2, none⟩ = some (.int .i64 D) := A1.out.cell 2
  have a3 : (w1.alloc (.cells #[.int .i64 g.sum, .int .i64 g.peak, .int .i64 g.dip, .int .i64 hi, .int .i64 lo, .int .i64 g.seq, .int .i64 g.dropped] 44)).cell? ⟨w.heap.size + 1, 3, none⟩ = some (.string U) := A1.out.cell 3
  have p0 : (w1.alloc (.cells #[.int .i64 g.sum, .int .i64 g.peak, .int .i64 g.dip, .int .i64 hi, .int .i64 lo, .int .i64 g.seq, .int .i64 g.dropped] 44)).cell? ⟨w.heap.size + 1 + 1, 0, none⟩ = some (.int .i64 g.sum) := P1.out.cell 0
  have pf0 := P1.out.frozen 0
  have p1 : (w1.alloc (.cells #[.int .i64 g.sum, .int .i64 g.peak, .int .i64 g.dip, .int .i64 hi, .int .i64 lo, .int .i64 g.seq, .int .i64 g.dropped] 44)).cell? ⟨w.heap.size + 1 + 1, 1, none⟩ = some (.int .i64 g.peak) := P1.out.cell 1
  have pf1 := P1.out.frozen 1
  have p2 : (w1.alloc (.cells #[.int .i64 g.sum, .int .i64 g.peak, .int .i64 g.dip, .int .i64 hi, .int .i64 lo, .int .i64 g.seq, .int .i64 g.dropped] 44)).cell? ⟨w.heap.size + 1 + 1, 2, none⟩ = some (.int .i64 g.dip) := P1.out.cell 2
  have pf2 := P1.out.frozen 2
  have p3 : (w1.alloc (.cells #[.int .i64 g.sum, .int .i64 g.peak, .int .i64 g.dip, .int .i64 hi, .int .i64 lo, .int .i64 g.seq, .int .i64 g.dropped] 44)).cell? ⟨w.heap.size + 1 + 1, 3, none⟩ = some (.int .i64 hi) := P1.out.cell 3
  have pf3 := P1.out.frozen 3
  have p4 : (w1.alloc (.cells #[.int .i64 g.sum, .int .i64 g.peak, .int .i64 g.dip, .int .i64 hi, .int .i64 lo, .int .i64 g.seq, .int .i64 g.dropped] 44)).cell? ⟨w.heap.size + 1 + 1, 4, none⟩ = some (.int .i64 lo) := P1.out.cell 4
  have pf4 := P1.out.frozen 4
  have p5 : (w1.alloc (.cells #[.int .i64 g.sum, .int .i64 g.peak, .int .i64 g.dip, .int .i64 hi, .int .i64 lo, .int .i64 g.seq, .int .i64 g.dropped] 44)).cell? ⟨w.heap.size + 1 + 1, 5, none⟩ = some (.int .i64 g.seq) := P1.out.cell 5
  have pf5 := P1.out.frozen 5
  have p6 : (w1.alloc (.cells #[.int .i64 g.sum, .int .i64 g.peak, .int .i64 g.dip, .int .i64 hi, .int .i64 lo, .int .i64 g.seq, .int .i64 g.dropped] 44)).cell? ⟨w.heap.size + 1 + 1, 6, none⟩ = some (.int .i64 g.dropped) := P1.out.cell 6
  have pf6 := P1.out.frozen 6
  have y0 : (w1.alloc (.cells #[.int .i64 g.sum, .int .i64 g.peak, .int .i64 g.dip, .int .i64 hi, .int .i64 lo, .int .i64 g.seq, .int .i64 g.dropped] 44)).cell? ⟨w1.heap.size, 0, none⟩ = some (.int .i64 g.sum) := Q1.out.cell 0
  have y1 : (w1.alloc (.cells #[.int .i64 g.sum, .int .i64 g.peak, .int .i64 g.dip, .int .i64 hi, .int .i64 lo, .int .i64 g.seq, .int .i64 g.dropped] 44)).cell? ⟨w1.heap.size, 1, none⟩ = some (.int .i64 g.peak) := Q1.out.cell 1
  have y2 : (w1.alloc (.cells #[.int .i64 g.sum, .int .i64 g.peak, .int .i64 g.dip, .int .i64 hi, .int .i64 lo, .int .i64 g.seq, .int .i64 g.dropped] 44)).cell? ⟨w1.heap.size, 2, none⟩ = some (.int .i64 g.dip) := Q1.out.cell 2
  have y3 : (w1.alloc (.cells #[.int .i64 g.sum, .int .i64 g.peak, .int .i64 g.dip, .int .i64 hi, .int .i64 lo, .int .i64 g.seq, .int .i64 g.dropped] 44)).cell? ⟨w1.heap.size, 3, none⟩ = some (.int .i64 hi) := Q1.out.cell 3
  have y4 : (w1.alloc (.cells #[.int .i64 g.sum, .int .i64 g.peak, .int .i64 g.dip, .int .i64 hi, .int .i64 lo, .int .i64 g.seq, .int .i64 g.dropped] 44)).cell? ⟨w1.heap.size, 4, none⟩ = some (.int .i64 lo) := Q1.out.cell 4
  have y5 : (w1.alloc (.cells #[.int .i64 g.sum, .int .i64 g.peak, .int .i64 g.dip, .int .i64 hi, .int .i64 lo, .int .i64 g.seq, .int .i64 g.dropped] 44)).cell? ⟨w1.heap.size, 5, none⟩ = some (.int .i64 g.seq) := Q1.out.cell 5
  have y6 : (w1.alloc (.cells #[.int .i64 g.sum, .int .i64 g.peak, .int .i64 g.dip, .int .i64 hi, .int .i64 lo, .int .i64 g.seq, .int .i64 g.dropped] 44)).cell? ⟨w1.heap.size, 6, none⟩ = some (.int .i64 g.dropped) := Q1.out.cell 6
  have i8 : (w1.alloc (.cells #[.int .i64 g.sum, .int .i64 g.peak, .int .i64 g.dip, .int .i64 hi, .int .i64 lo, .int .i64 g.seq, .int .i64 g.dropped] 44)).cell? ⟨gp, 8, none⟩ = some (.int .i64 g.at_) := H1.out.cell 8 (gh_get _ H1.out.len).1
  have i9 : (w1.alloc (.cells #[.int .i64 g.sum, .int .i64 g.peak, .int .i64 g.dip, .int .i64 hi, .int .i64 lo, .int .i64 g.seq, .int .i64 g.dropped] 44)).cell? ⟨gp, 9, none⟩ = some (.int .i64 g.depth) := H1.out.cell 9 (gh_get _ H1.out.len).2.1
  have i10 : (w1.alloc (.cells #[.int .i64 g.sum, .int .i64 g.peak, .int .i64 g.dip, .int .i64 hi, .int .i64 lo, .int .i64 g.seq, .int .i64 g.dropped] 44)).cell? ⟨gp, 10, none⟩ = some (.int .i64 g.mode) := H1.out.cell 10 (gh_get _ H1.out.len).2.2
  have z9 := H1.out.frozen 9
  have z10 := H1.out.frozen 10
  go_wp2_with fail
  go_ret
  exact ⟨rfl, Z1.out, H1.out, C1.out.mono (fun k _ e => e.elim)⟩

theorem kp_8b (p zl gp : Nat) (l : Lk) (g : PS) (n : Int) (a b cc : Int) (s t : ByteArray) (U : ByteArray) (w : World) (hg : Good g n) (hn : n ≤ 4611686018427387904) (hg' : Good g (n + 1)) (ha : I64 a) (hb : I64 b) (hx : Ap w p l g) (hc : Cv w zl g.c g.z) (hh : Gh w gp g) (hzg : zl ≠ gp) (hne : negI g.dip ≠ g.peak) :
    Calls Tryd.prog 19 #[.pointer (some ⟨p, 0, none⟩), .pointer (some ⟨zl, 0, none⟩), .pointer (some ⟨gp, 0, none⟩), opV 8 a b cc s t, ansV 0 (negI g.dip) g.peak U, befV g] w fun e w' => e = .returned (.bool true) ∧ Cv w' zl g.c g.z ∧ Gh w' gp g ∧ Chg (fun k => k = zl ∨ k = gp) w w' := by
  have LK : Hid (∀ w' (h : Ap w' p l g), Calls _ _ _ _ _) := fun w' h => look_any p l g (n + 1) w' hg' h
  unfold befV at LK
  unfold opV ansV befV
  try dsimp only at LK
  try dsimp only
  have HX : Hid (Ap w p l g) := hx
  have HC : Hid (Cv w zl g.c g.z) := hc
  have HH : Hid (Gh w gp g) := hh
  have HG : Hid (Good g n ∧ n ≤ 4611686018427387904 ∧ I64 a ∧ I64 b) := ⟨hg, hn, ha, hb⟩
  have LT : Hid (zl < w.heap.size ∧ gp < w.heap.size ∧ zl ≠ gp) := ⟨Has.lt hc, hh.lt, hzg⟩
  have q0 := hg.q0; have r0 := hg.r0; have A0 := hg.a0; have A8 := hg.a8
  have q1 : g.seq ≤ 4611686018427387904 := by have := hg.q1; omega
  have r1 : g.dropped ≤ 4611686018427387904 := by have := hg.r1; omega
  have xs := xor_sign g.dip hg.dp
  obtain ⟨D, hD⟩ : ∃ D, negI g.dip = D := ⟨_, rfl⟩
  rw [hD] at xs
  rw [hD] at hne ⊢
  clear hD
  have kn : (D == g.peak) = false := by simpa using hne
  clear hne
  generalize sumSq g.ring / 4294967296 = hi at LK ⊢
  generalize sumSq g.ring % 4294967296 = lo at LK ⊢
  have O0 : Hid (Has 50 (((w.alloc (.cells #[.int .i64 8, .int .i64 a, .int .i64 b, .int .i64 cc, .string s, .string t] 50)).alloc (.cells #[.int .i64 0, .int .i64 D, .int .i64 g.peak, .string U] 47)).alloc (.cells #[.int .i64 g.sum, .int .i64 g.peak, .int .i64 g.dip, .int .i64 hi, .int .i64 lo, .int .i64 g.seq, .int .i64 g.dropped] 44)) w.heap.size [.int .i64 8, .int .i64 a, .int .i64 b, .int .i64 cc, .string s, .string t]) := ((Has.new 50 w [.int .i64 8, .int .i64 a, .int .i64 b, .int .i64 cc, .string s, .string t]).alloc _).alloc _
  have A0 : Hid (Has 47 (((w.alloc (.cells #[.int .i64 8, .int .i64 a, .int .i64 b, .int .i64 cc, .string s, .string t] 50)).alloc (.cells #[.int .i64 0, .int .i64 D, .int .i64 g.peak, .string U] 47)).alloc (.cells #[.int .i64 g.sum, .int .i64 g.peak, .int .i64 g.dip, .int .i64 hi, .int .i64 lo, .int .i64 g.seq, .int .i64 g.dropped] 44)) (w.heap.size + 1) [.int .i64 0, .int .i64 D, .int .i64 g.peak, .string U]) := (hasAt (by simp) [.int .i64 0, .int .i64 D, .int .i64 g.peak, .string U]).alloc _
  have P0 : Hid (Has 44 (((w.alloc (.cells #[.int .i64 8, .int .i64 a, .int .i64 b, .int .i64 cc, .string s, .string t] 50)).alloc (.cells #[.int .i64 0, .int .i64 D, .int .i64 g.peak, .string U] 47)).alloc (.cells #[.int .i64 g.sum, .int .i64 g.peak, .int .i64 g.dip, .int .i64 hi, .int .i64 lo, .int .i64 g.seq, .int .i64 g.dropped] 44)) (w.heap.size + 1 + 1) [.int .i64 g.sum, .int .i64 g.peak, .int .i64 g.dip, .int .i64 hi, .int .i64 lo, .int .i64 g.seq, .int .i64 g.dropped]) := hasAt (by simp) [.int .i64 g.sum, .int .i64 g.peak, .int .i64 g.dip, .int .i64 hi, .int .i64 lo, .int .i64 g.seq, .int .i64 g.dropped]
  have C0 : Hid (Chg (fun _ => False) w (((w.alloc (.cells #[.int .i64 8, .int .i64 a, .int .i64 b, .int .i64 cc, .string s, .string t] 50)).alloc (.cells #[.int .i64 0, .int .i64 D, .int .i64 g.peak, .string U] 47)).alloc (.cells #[.int .i64 g.sum, .int .i64 g.peak, .int .i64 g.dip, .int .i64 hi, .int .i64 lo, .int .i64 g.seq, .int .i64 g.dropped] 44))) := ((((Chg.refl _ w).alloc _).alloc _).alloc _)
  clear hg hn hg' ha hb hx hc hh hzg
  go_enter Tryd.func19, Tryd.ntmps19
  go_wp2_with fail
  refine (LK.out _ (ap_nil HX.out C0.out)).mono ?_; rintro e w1 ⟨rfl, c1⟩
  have C1 : Hid (Chg (fun _ => False) w (w1.alloc (.cells #[.int .i64 g.sum, .int .i64 g.peak, .int .i64 g.dip, .int .i64 hi, .int .i64 lo, .int .i64 g.seq, .int .i64 g.dropped] 44))) := (C0.out.trans c1).alloc _
  have O1 : Hid (Has 50 (w1.alloc (.cells #[.int .i64 g.sum, .int .i64 g.peak, .int .i64 g.dip, .int .i64 hi, .int .i64 lo, .int .i64 g.seq, .int .i64 g.dropped] 44)) w.heap.size [.int .i64 8, .int .i64 a, .int .i64 b, .int .i64 cc, .string s, .string t]) := (O0.out.kept c1 (fun h => h)).alloc _
  have A1 : Hid (Has 47 (w1.alloc (.cells #[.int .i64 g.sum, .int .i64 g.peak, .int .i64 g.dip, .int .i64 hi, .int .i64 lo, .int .i64 g.seq, .int .i64 g.dropped] 44)) (w.heap.size + 1) [.int .i64 0, .int .i64 D, .int .i64 g.peak, .string U]) := (A0.out.kept c1 (fun h => h)).alloc _
  have P1 : Hid (Has 44 (w1.alloc (.cells #[.int .i64 g.sum, .int .i64 g.peak, .int .i64 g.dip, .int .i64 hi, .int .i64 lo, .int .i64 g.seq, .int .i64 g.dropped] 44)) (w.heap.size + 1 + 1) [.int .i64 g.sum, .int .i64 g.peak, .int .i64 g.dip, .int .i64 hi, .int .i64 lo, .int .i64 g.seq, .int .i64 g.dropped]) := (P0.out.kept c1 (fun h => h)).alloc _
  have Q1 : Hid (Has 44 (w1.alloc (.cells #[.int .i64 g.sum, .int .i64 g.peak, .int .i64 g.dip, .int .i64 hi, .int .i64 lo, .int .i64 g.seq, .int .i64 g.dropped] 44)) w1.heap.size [.int .i64 g.sum, .int .i64 g.peak, .int .i64 g.dip, .int .i64 hi, .int .i64 lo, .int .i64 g.seq, .int .i64 g.dropped]) := Has.new _ _ _
  have HQ : Hid (w.heap.size + 1 + 1 < w1.heap.size) := by have h1 := P0.out.lt; have h2 := c1.size; show w.heap.size + 1 + 1 < w1.heap.size; omega
  have H1 : Hid (Gh (w1.alloc (.cells #[.int .i64 g.sum, .int .i64 g.peak, .int .i64 g.dip, .int .i64 hi, .int .i64 lo, .int .i64 g.seq, .int .i64 g.dropped] 44)) gp g) := (HH.out.nil (C0.out.trans c1)).nil ((Chg.refl _ _).alloc _)
  have Z1 : Hid (Cv (w1.alloc (.cells #[.int .i64 g.sum, .int .i64 g.peak, .int .i64 g.dip, .int .i64 hi, .int .i64 lo, .int .i64 g.seq, .int .i64 g.dropped] 44)) zl g.c g.z) := ((HC.out.kept C0.out (fun h => h)).kept c1 (fun h => h)).alloc _
  clear c1 O0 A0 P0 C0 LK HX HC HH
  have o0 : (w1.alloc (.cells #[.int .i64 g.sum, .int .i64 g.peak, .int .i64 g.dip, .int .i64 hi, .int .i64 lo, .int .i64 g.seq, .int .i64 g.dropped] 44)).cell? ⟨w.heap.size, 0, none⟩ = some (.int .i64 8) := O1.out.cell 0
  have o1 : (w1.alloc (.cells #[.int .i64 g.sum, .int .i64 g.peak, .int .i64 g.dip, .int .i64 hi, .int .i64 lo, .int .i64 g.seq, .int .i64 g.dropped] 44)).cell? ⟨w.heap.size, 1, none⟩ = some (.int .i64 a) := O1.out.cell 1
  have o2 : (w1.alloc (.cells #[.int .i64 g.sum, .int .i64 g.peak, .int .i64 g.dip, .int .i64 hi, .int .i64 lo, .int .i64 g.seq, .int .i64 g.dropped] 44)).cell? ⟨w.heap.size, 2, none⟩ = some (.int .i64 b) := O1.out.cell 2
  have a0 : (w1.alloc (.cells #[.int .i64 g.sum, .int .i64 g.peak, .int .i64 g.dip, .int .i64 hi, .int .i64 lo, .int .i64 g.seq, .int .i64 g.dropped] 44)).cell? ⟨w.heap.size + 1, 0, none⟩ = some (.int .i64 0) := A1.out.cell 0
  have a1 : (w1.alloc (.cells #[.int .i64 g.sum, .int .i64 g.peak, .int .i64 g.dip, .int .i64 hi, .int .i64 lo, .int .i64 g.seq, .int .i64 g.dropped] 44)).cell? ⟨w.heap.size + 1, 1, none⟩ = some (.int .i64 D) := A1.out.cell 1
  have a2 : (w1.alloc (.cells #[.int .i64 g.sum, .int .i64 g.peak, .int .i64 g.dip, .int .i64 hi, .int .i64 lo, .int .i64 g.seq, .int .i64 g.dropped] 44)).cell? ⟨w.heap.size + 1, 2, none⟩ = some (.int .i64 g.peak) := A1.out.cell 2
  have a3 : (w1.alloc (.cells #[.int .i64 g.sum, .int .i64 g.peak, .int .i64 g.dip, .int .i64 hi, .int .i64 lo, .int .i64 g.seq, .int .i64 g.dropped] 44)).cell? ⟨w.heap.size + 1, 3, none⟩ = some (.string U) := A1.out.cell 3
  have p0 : (w1.alloc (.cells #[.int .i64 g.sum, .int .i64 g.peak, .int .i64 g.dip, .int .i64 hi, .int .i64 lo, .int .i64 g.seq, .int .i64 g.dropped] 44)).cell? ⟨w.heap.size + 1 + 1, 0, none⟩ = some (.int .i64 g.sum) := P1.out.cell 0
  have pf0 := P1.out.frozen 0
  have p1 : (w1.alloc (.cells #[.int .i64 g.sum, .int .i64 g.peak, .int .i64 g.dip, .int .i64 hi, .int .i64 lo, .int .i64 g.seq, .int .i64 g.dropped] 44)).cell? ⟨w.heap.size + 1 + 1, 1, none⟩ = some (.int .i64 g.peak) := P1.out.cell 1
  have pf1 := P1.out.frozen 1
  have p2 : (w1.alloc (.cells #[.int .i64 g.sum, .int .i64 g.peak, .int .i64 g.dip, .int .i64 hi, .int .i64 lo, .int .i64 g.seq, .int .i64 g.dropped] 44)).cell? ⟨w.heap.size + 1 + 1, 2, none⟩ = some (.int .i64 g.dip) := P1.out.cell 2
  have pf2 := P1.out.frozen 2
  have p3 : (w1.alloc (.cells #[.int .i64 g.sum, .int .i64 g.peak, .int .i64 g.dip, .int .i64 hi, .int .i64 lo, .int .i64 g.seq, .int .i64 g.dropped] 44)).cell? ⟨w.heap.size + 1 + 1, 3, none⟩ = some (.int .i64 hi) := P1.out.cell 3
  have pf3 := P1.out.frozen 3
  have p4 : (w1.alloc (.cells #[.int .i64 g.sum, .int .i64 g.peak, .int .i64 g.dip, .int .i64 hi, .int .i64 lo, .int .i64 g.seq, .int .i64 g.dropped] 44)).cell? ⟨w.heap.size + 1 + 1, 4, none⟩ = some (.int .i64 lo) := P1.out.cell 4
  have pf4 := P1.out.frozen 4
  have p5 : (w1.alloc (.cells #[.int .i64 g.sum, .int .i64 g.peak, .int .i64 g.dip, .int .i64 hi, .int .i64 lo, .int .i64 g.seq, .int .i64 g.dropped] 44)).cell? ⟨w.heap.size + 1 + 1, 5, none⟩ = some (.int .i64 g.seq) := P1.out.cell 5
  have pf5 := P1.out.frozen 5
  have p6 : (w1.alloc (.cells #[.int .i64 g.sum, .int .i64 g.peak, .int .i64 g.dip, .int .i64 hi, .int .i64 lo, .int .i64 g.seq, .int .i64 g.dropped] 44)).cell? ⟨w.heap.size + 1 + 1, 6, none⟩ = some (.int .i64 g.dropped) := P1.out.cell 6
  have pf6 := P1.out.frozen 6
  have y0 : (w1.alloc (.cells #[.int .i64 g.sum, .int .i64 g.peak, .int .i64 g.dip, .int .i64 hi, .int .i64 lo, .int .i64 g.seq, .int .i64 g.dropped] 44)).cell? ⟨w1.heap.size, 0, none⟩ = some (.int .i64 g.sum) := Q1.out.cell 0
  have y1 : (w1.alloc (.cells #[.int .i64 g.sum, .int .i64 g.peak, .int .i64 g.dip, .int .i64 hi, .int .i64 lo, .int .i64 g.seq, .int .i64 g.dropped] 44)).cell? ⟨w1.heap.size, 1, none⟩ = some (.int .i64 g.peak) := Q1.out.cell 1
  have y2 : (w1.alloc (.cells #[.int .i64 g.sum, .int .i64 g.peak, .int .i64 g.dip, .int .i64 hi, .int .i64 lo, .int .i64 g.seq, .int .i64 g.dropped] 44)).cell? ⟨w1.heap.size, 2, none⟩ = some (.int .i64 g.dip) := Q1.out.cell 2
  have y3 : (w1.alloc (.cells #[.int .i64 g.sum, .int .i64 g.peak, .int .i64 g.dip, .int .i64 hi, .int .i64 lo, .int .i64 g.seq, .int .i64 g.dropped] 44)).cell? ⟨w1.heap.size, 3, none⟩ = some (.int .i64 hi) := Q1.out.cell 3
  have y4 : (w1.alloc (.cells #[.int .i64 g.sum, .int .i64 g.peak, .int .i64 g.dip, .int .i64 hi, .int .i64 lo, .int .i64 g.seq, .int .i64 g.dropped] 44)).cell? ⟨w1.heap.size, 4, none⟩ = some (.int .i64 lo) := Q1.out.cell 4
  have y5 : (w1.alloc (.cells #[.int .i64 g.sum, .int .i64 g.peak, .int .i64 g.dip, .int .i64 hi, .int .i64 lo, .int .i64 g.seq, .int .i64 g.dropped] 44)).cell? ⟨w1.heap.size, 5, none⟩ = some (.int .i64 g.seq) := Q1.out.cell 5
  have y6 : (w1.alloc (.cells #[.int .i64 g.sum, .int .i64 g.peak, .int .i64 g.dip, .int .i64 hi, .int .i64 lo, .int .i64 g.seq, .int .i64 g.dropped] 44)).cell? ⟨w1.heap.size, 6, none⟩ = some (.int .i64 g.dropped) := Q1.out.cell 6
  have i8 : (w1.alloc (.cells #[.int .i64 g.sum, .int .i64 g.peak, .int .i64 g.dip, .int .i64 hi, .int .i64 lo, .int .i64 g.seq, .int .i64 g.dropped] 44)).cell? ⟨gp, 8, none⟩ = some (.int .i64 g.at_) := H1.out.cell 8 (gh_get _ H1.out.len).1
  have i9 : (w1.alloc (.cells #[.int .i64 g.sum, .int .i64 g.peak, .int .i64 g.dip, .int .i64 hi, .int .i64 lo, .int .i64 g.seq, .int .i64 g.dropped] 44)).cell? ⟨gp, 9, none⟩ = some (.int .i64 g.depth) := H1.out.cell 9 (gh_get _ H1.out.len).2.1
  have i10 : (w1.alloc (.cells #[.int .i64 g.sum, .int .i64 g.peak, .int .i64 g.dip, .int .i64 hi, .int .i64 lo, .int .i64 g.seq, .int .i64 g.dropped] 44)).cell? ⟨gp, 10, none⟩ = some (.int .i64 g.mode) := H1.out.cell 10 (gh_get _ H1.out.len).2.2
  have z9 := H1.out.frozen 9
  have z10 := H1.out.frozen 10
  go_wp2_with fail
  go_ret
  exact ⟨rfl, Z1.out, H1.out, C1.out.mono (fun k _ e => e.elim)⟩

end Go.Proofs.Qxb6500376aDoor

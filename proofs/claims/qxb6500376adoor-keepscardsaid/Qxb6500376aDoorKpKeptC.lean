/- Keeps: kept, kind by kind (written by tools/genkp.py). -/
import Derived.Test.Qxb6500376aDoorKpFed
namespace Go.Proofs.Qxb6500376aDoor
set_option linter.unusedVariables false
set_option linter.unusedSimpArgs false
set_option maxHeartbeats 4000000
set_option maxRecDepth 100000
open Go.RowKit Go.Qu Ieee

theorem kp_2n (p zl gp : Nat) (l : Lk) (g : PS) (n : Int) (a b cc : Int) (s t : ByteArray) (w : World) (hg : Good g n) (hn : n ≤ 4611686018427387904) (hg' : Good { g with z := g.z + 1 } (n + 1)) (ha : I64 a) (hb : I64 b) (hx : Ap w p l { g with z := g.z + 1 }) (hc : Cv w zl g.c g.z) (hh : Gh w gp g) (hzg : zl ≠ gp) (hnan : 9218868437227405312 < (mg a : Int)) :
    Calls Tryd.prog 19 #[.pointer (some ⟨p, 0, none⟩), .pointer (some ⟨zl, 0, none⟩), .pointer (some ⟨gp, 0, none⟩), opV 2 a b cc s t, ansV 4 0 0 ⟨#[]⟩, befV g] w fun e w' => e = .returned (.bool true) ∧ Cv w' zl { g with z := g.z + 1 }.c { g with z := g.z + 1 }.z ∧ Gh w' gp { g with z := g.z + 1 } ∧ Chg (fun k => k = zl ∨ k = gp) w w' := by
  have LK : Hid (∀ w' (h : Ap w' p l { g with z := g.z + 1 }), Calls _ _ _ _ _) := fun w' h => look_any p l { g with z := g.z + 1 } (n + 1) w' hg' h
  unfold befV at LK
  unfold opV ansV befV
  try dsimp only at LK
  try dsimp only
  have HX : Hid (Ap w p l { g with z := g.z + 1 }) := hx
  have HC : Hid (Cv w zl g.c g.z) := hc
  have HH : Hid (Gh w gp g) := hh
  have HG : Hid (Good g n ∧ n ≤ 4611686018427387904 ∧ I64 a ∧ I64 b) := ⟨hg, hn, ha, hb⟩
  have LT : Hid (zl < w.heap.size ∧ gp < w.heap.size ∧ zl ≠ gp) := ⟨Has.lt hc, hh.lt, hzg⟩
  have q0 := hg.q0; have r0 := hg.r0; have A0 := hg.a0; have A8 := hg.a8
  have q1 : g.seq ≤ 4611686018427387904 := by have := hg.q1; omega
  have r1 : g.dropped ≤ 4611686018427387904 := by have := hg.r1; omega
  have ER : Hid (r32O a g.mode = ⟨4, 0, 0, 0, 1⟩) := by have := hg.m0; have := hg.m3; show r32O a g.mode = ⟨4, 0, 0, 0, 1⟩; unfold r32O; rw [if_neg (by omega), if_pos (by omega)]
  have HNAN : Hid (9218868437227405312 < (mg a : Int)) := hnan
  clear hnan
  generalize sumSq g.ring / 4294967296 = hi at LK ⊢
  generalize sumSq g.ring % 4294967296 = lo at LK ⊢
  have O0 : Hid (Has 50 (((w.alloc (.cells #[.int .i64 2, .int .i64 a, .int .i64 b, .int .i64 cc, .string s, .string t] 50)).alloc (.cells #[.int .i64 4, .int .i64 0, .int .i64 0, .string ⟨#[]⟩] 47)).alloc (.cells #[.int .i64 g.sum, .int .i64 g.peak, .int .i64 g.dip, .int .i64 hi, .int .i64 lo, .int .i64 g.seq, .int .i64 g.dropped] 44)) w.heap.size [.int .i64 2, .int .i64 a, .int .i64 b, .int .i64 cc, .string s, .string t]) := ((Has.new 50 w [.int .i64 2, .int .i64 a, .int .i64 b, .int .i64 cc, .string s, .string t]).alloc _).alloc _
  have A0 : Hid (Has 47 (((w.alloc (.cells #[.int .i64 2, .int .i64 a, .int .i64 b, .int .i64 cc, .string s, .string t] 50)).alloc (.cells #[.int .i64 4, .int .i64 0, .int .i64 0, .string ⟨#[]⟩] 47)).alloc (.cells #[.int .i64 g.sum, .int .i64 g.peak, .int .i64 g.dip, .int .i64 hi, .int .i64 lo, .int .i64 g.seq, .int .i64 g.dropped] 44)) (w.heap.size + 1) [.int .i64 4, .int .i64 0, .int .i64 0, .string ⟨#[]⟩]) := (hasAt (by simp) [.int .i64 4, .int .i64 0, .int .i64 0, .string ⟨#[]⟩]).alloc _
  have P0 : Hid (Has 44 (((w.alloc (.cells #[.int .i64 2, .int .i64 a, .int .i64 b, .int .i64 cc, .string s, .string t] 50)).alloc (.cells #[.int .i64 4, .int .i64 0, .int .i64 0, .string ⟨#[]⟩] 47)).alloc (.cells #[.int .i64 g.sum, .int .i64 g.peak, .int .i64 g.dip, .int .i64 hi, .int .i64 lo, .int .i64 g.seq, .int .i64 g.dropped] 44)) (w.heap.size + 1 + 1) [.int .i64 g.sum, .int .i64 g.peak, .int .i64 g.dip, .int .i64 hi, .int .i64 lo, .int .i64 g.seq, .int .i64 g.dropped]) := hasAt (by simp) [.int .i64 g.sum, .int .i64 g.peak, .int .i64 g.dip, .int .i64 hi, .int .i64 lo, .int .i64 g.seq, .int .i64 g.dropped]
  have C0 : Hid (Chg (fun _ => False) w (((w.alloc (.cells #[.int .i64 2, .int .i64 a, .int .i64 b, .int .i64 cc, .string s, .string t] 50)).alloc (.cells #[.int .i64 4, .int .i64 0, .int .i64 0, .string ⟨#[]⟩] 47)).alloc (.cells #[.int .i64 g.sum, .int .i64 g.peak, .int .i64 g.dip, .int .i64 hi, .int .i64 lo, .int .i64 g.seq, .int .i64 g.dropped] 44))) := ((((Chg.refl _ w).alloc _).alloc _).alloc _)
  clear hg hn hg' ha hb hx hc hh hzg
  go_enter Tryd.func19, Tryd.ntmps19
  go_wp2_with fail
  refine (LK.out _ (ap_nil HX.out C0.out)).mono ?_; rintro e w1 ⟨rfl, c1⟩
  have C1 : Hid (Chg (fun _ => False) w (w1.alloc (.cells #[.int .i64 g.sum, .int .i64 g.peak, .int .i64 g.dip, .int .i64 hi, .int .i64 lo, .int .i64 g.seq, .int .i64 g.dropped] 44))) := (C0.out.trans c1).alloc _
  have O1 : Hid (Has 50 (w1.alloc (.cells #[.int .i64 g.sum, .int .i64 g.peak, .int .i64 g.dip, .int .i64 hi, .int .i64 lo, .int .i64 g.seq, .int .i64 g.dropped] 44)) w.heap.size [.int .i64 2, .int .i64 a, .int .i64 b, .int .i64 cc, .string s, .string t]) := (O0.out.kept c1 (fun h => h)).alloc _
  have A1 : Hid (Has 47 (w1.alloc (.cells #[.int .i64 g.sum, .int .i64 g.peak, .int .i64 g.dip, .int .i64 hi, .int .i64 lo, .int .i64 g.seq, .int .i64 g.dropped] 44)) (w.heap.size + 1) [.int .i64 4, .int .i64 0, .int .i64 0, .string ⟨#[]⟩]) := (A0.out.kept c1 (fun h => h)).alloc _
  have P1 : Hid (Has 44 (w1.alloc (.cells #[.int .i64 g.sum, .int .i64 g.peak, .int .i64 g.dip, .int .i64 hi, .int .i64 lo, .int .i64 g.seq, .int .i64 g.dropped] 44)) (w.heap.size + 1 + 1) [.int .i64 g.sum, .int .i64 g.peak, .int .i64 g.dip, .int .i64 hi, .int .i64 lo, .int .i64 g.seq, .int .i64 g.dropped]) := (P0.out.kept c1 (fun h => h)).alloc _
  have Q1 : Hid (Has 44 (w1.alloc (.cells #[.int .i64 g.sum, .int .i64 g.peak, .int .i64 g.dip, .int .i64 hi, .int .i64 lo, .int .i64 g.seq, .int .i64 g.dropped] 44)) w1.heap.size [.int .i64 g.sum, .int .i64 g.peak, .int .i64 g.dip, .int .i64 hi, .int .i64 lo, .int .i64 g.seq, .int .i64 g.dropped]) := Has.new _ _ _
  have HQ : Hid (w.heap.size + 1 + 1 < w1.heap.size) := by have h1 := P0.out.lt; have h2 := c1.size; show w.heap.size + 1 + 1 < w1.heap.size; omega
  have H1 : Hid (Gh (w1.alloc (.cells #[.int .i64 g.sum, .int .i64 g.peak, .int .i64 g.dip, .int .i64 hi, .int .i64 lo, .int .i64 g.seq, .int .i64 g.dropped] 44)) gp g) := (HH.out.nil (C0.out.trans c1)).nil ((Chg.refl _ _).alloc _)
  have Z1 : Hid (Cv (w1.alloc (.cells #[.int .i64 g.sum, .int .i64 g.peak, .int .i64 g.dip, .int .i64 hi, .int .i64 lo, .int .i64 g.seq, .int .i64 g.dropped] 44)) zl g.c g.z) := ((HC.out.kept C0.out (fun h => h)).kept c1 (fun h => h)).alloc _
  clear c1 O0 A0 P0 C0 LK HX HC HH
  have o0 : (w1.alloc (.cells #[.int .i64 g.sum, .int .i64 g.peak, .int .i64 g.dip, .int .i64 hi, .int .i64 lo, .int .i64 g.seq, .int .i64 g.dropped] 44)).cell? ⟨w.heap.size, 0, none⟩ = some (.int .i64 2) := O1.out.cell 0
  have o1 : (w1.alloc (.cells #[.int .i64 g.sum, .int .i64 g.peak, .int .i64 g.dip, .int .i64 hi, .int .i64 lo, .int .i64 g.seq, .int .i64 g.dropped] 44)).cell? ⟨w.heap.size, 1, none⟩ = some (.int .i64 a) := O1.out.cell 1
  have o2 : (w1.alloc (.cells #[.int .i64 g.sum, .int .i64 g.peak, .int .i64 g.dip, .int .i64 hi, .int .i64 lo, .int .i64 g.seq, .int .i64 g.dropped] 44)).cell? ⟨w.heap.size, 2, none⟩ = some (.int .i64 b) := O1.out.cell 2
  have a0 : (w1.alloc (.cells #[.int .i64 g.sum, .int .i64 g.peak, .int .i64 g.dip, .int .i64 hi, .int .i64 lo, .int .i64 g.seq, .int .i64 g.dropped] 44)).cell? ⟨w.heap.size + 1, 0, none⟩ = some (.int .i64 4) := A1.out.cell 0
  have a1 : (w1.alloc (.cells #[.int .i64 g.sum, .int .i64 g.peak, .int .i64 g.dip, .int .i64 hi, .int .i64 lo, .int .i64 g.seq, .int .i64 g.dropped] 44)).cell? ⟨w.heap.size + 1, 1, none⟩ = some (.int .i64 0) := A1.out.cell 1
  have a2 : (w1.alloc (.cells #[.int .i64 g.sum, .int .i64 g.peak, .int .i64 g.dip, .int .i64 hi, .int .i64 lo, .int .i64 g.seq, .int .i64 g.dropped] 44)).cell? ⟨w.heap.size + 1, 2, none⟩ = some (.int .i64 0) := A1.out.cell 2
  have a3 : (w1.alloc (.cells #[.int .i64 g.sum, .int .i64 g.peak, .int .i64 g.dip, .int .i64 hi, .int .i64 lo, .int .i64 g.seq, .int .i64 g.dropped] 44)).cell? ⟨w.heap.size + 1, 3, none⟩ = some (.string ⟨#[]⟩) := A1.out.cell 3
  have p0 : (w1.alloc (.cells #[.int .i64 g.sum, .int .i64 g.peak, .int .i64 g.dip, .int .i64 hi, .int .i64 lo, .int .i64 g.seq, .int .i64 g.dropped] 44)).cell? ⟨w.heap.size + 1 + 1, 0, none⟩ = some (.int .i64 g.sum) := P1.out.cell 0
  have pf0 := P1.out.frozen 0
  have p1 : (w1.alloc (.cells #[.int .i64 g.sum, .int .i64 g.peak, .int .i64 g.dip, .int .i64 hi, .int .i64 lo, .int .i64 g.seq, .int .i64 g.dropped] 44)).cell? ⟨w.heap.size + 1 + 1, 1, none⟩ = some (.int .i64 g.peak) := P1.out.cell 1
  have pf1 := P1.out.frozen 1
  have p2 : (w1.alloc (.cells #[.int .i64 g.sum, .int .i64 g.peak, .int .i64 g.dip, .int .i64 hi, .int .i64 lo, .int .i64 g.seq, .int .i64 g.dropped] 44)).cell? ⟨w.heap.size + 1 + 1, 2, none⟩ = some (.int .i64 g.dip) := P1.out.cell 2
  have pf2 := P1.out.frozen 2
  have p3 : (w1.alloc (.cells #[.int .i64 g.sum, .int .i64 g.peak, .int .i64 g.dip, .int .i64 hi, .int .i64 lo, .int .i64 g.seq, .int .i64 g.dropped] 44)).cell? ⟨w.heap.size + 1 + 1, 3, none⟩ = some (.int .i64 hi) := P1.out.cell 3
  have pf3 := P1.out.frozen 3
  have p4 : (w1.alloc (.cells #[.int .i64 g.sum, .int .i64 g.peak, .int .i64 g.dip, .int .i64 hi, .int .i64 lo, .int .i64 g.seq, .int .i64 g.dropped] 44)).cell? ⟨w.heap.size + 1 + 1, 4, none⟩ = some (.int .i64 lo) := P1.out.cell 4
  have pf4 := P1.out.frozen 4
  have p5 : (w1.alloc (.cells #[.int .i64 g.sum, .int .i64 g.peak, .int .i64 g.dip, .int .i64 hi, .int .i64 lo, .int .i64 g.seq, .int .i64 g.dropped] 44)).cell? ⟨w.heap.size + 1 + 1, 5, none⟩ = some (.int .i64 g.seq) := P1.out.cell 5
  have pf5 := P1.out.frozen 5
  have p6 : (w1.alloc (.cells #[.int .i64 g.sum, .int .i64 g.peak, .int .i64 g.dip, .int .i64 hi, .int .i64 lo, .int .i64 g.seq, .int .i64 g.dropped] 44)).cell? ⟨w.heap.size + 1 + 1, 6, none⟩ = some (.int .i64 g.dropped) := P1.out.cell 6
  have pf6 := P1.out.frozen 6
  have y0 : (w1.alloc (.cells #[.int .i64 g.sum, .int .i64 g.peak, .int .i64 g.dip, .int .i64 hi, .int .i64 lo, .int .i64 g.seq, .int .i64 g.dropped] 44)).cell? ⟨w1.heap.size, 0, none⟩ = some (.int .i64 g.sum) := Q1.out.cell 0
  have y1 : (w1.alloc (.cells #[.int .i64 g.sum, .int .i64 g.peak, .int .i64 g.dip, .int .i64 hi, .int .i64 lo, .int .i64 g.seq, .int .i64 g.dropped] 44)).cell? ⟨w1.heap.size, 1, none⟩ = some (.int .i64 g.peak) := Q1.out.cell 1
  have y2 : (w1.alloc (.cells #[.int .i64 g.sum, .int .i64 g.peak, .int .i64 g.dip, .int .i64 hi, .int .i64 lo, .int .i64 g.seq, .int .i64 g.dropped] 44)).cell? ⟨w1.heap.size, 2, none⟩ = some (.int .i64 g.dip) := Q1.out.cell 2
  have y3 : (w1.alloc (.cells #[.int .i64 g.sum, .int .i64 g.peak, .int .i64 g.dip, .int .i64 hi, .int .i64 lo, .int .i64 g.seq, .int .i64 g.dropped] 44)).cell? ⟨w1.heap.size, 3, none⟩ = some (.int .i64 hi) := Q1.out.cell 3
  have y4 : (w1.alloc (.cells #[.int .i64 g.sum, .int .i64 g.peak, .int .i64 g.dip, .int .i64 hi, .int .i64 lo, .int .i64 g.seq, .int .i64 g.dropped] 44)).cell? ⟨w1.heap.size, 4, none⟩ = some (.int .i64 lo) := Q1.out.cell 4
  have y5 : (w1.alloc (.cells #[.int .i64 g.sum, .int .i64 g.peak, .int .i64 g.dip, .int .i64 hi, .int .i64 lo, .int .i64 g.seq, .int .i64 g.dropped] 44)).cell? ⟨w1.heap.size, 5, none⟩ = some (.int .i64 g.seq) := Q1.out.cell 5
  have y6 : (w1.alloc (.cells #[.int .i64 g.sum, .int .i64 g.peak, .int .i64 g.dip, .int .i64 hi, .int .i64 lo, .int .i64 g.seq, .int .i64 g.dropped] 44)).cell? ⟨w1.heap.size, 6, none⟩ = some (.int .i64 g.dropped) := Q1.out.cell 6
  have i8 : (w1.alloc (.cells #[.int .i64 g.sum, .int .i64 g.peak, .int .i64 g.dip, .int .i64 hi, .int .i64 lo, .int .i64 g.seq, .int .i64 g.dropped] 44)).cell? ⟨gp, 8, none⟩ = some (.int .i64 g.at_) := H1.out.cell 8 (gh_get _ H1.out.len).1
  have i9 : (w1.alloc (.cells #[.int .i64 g.sum, .int .i64 g.peak, .int .i64 g.dip, .int .i64 hi, .int .i64 lo, .int .i64 g.seq, .int .i64 g.dropped] 44)).cell? ⟨gp, 9, none⟩ = some (.int .i64 g.depth) := H1.out.cell 9 (gh_get _ H1.out.len).2.1
  have i10 : (w1.alloc (.cells #[.int .i64 g.sum, .int .i64 g.peak, .int .i64 g.dip, .int .i64 hi, .int .i64 lo, .int .i64 g.seq, .int .i64 g.dropped] 44)).cell? ⟨gp, 10, none⟩ = some (.int .i64 g.mode) := H1.out.cell 10 (gh_get _ H1.out.len).2.2
  have z9 := H1.out.frozen 9
  have z10 := H1.out.frozen 10
  have RK : Hid (∀ w' (h' : Cv w' zl g.c g.z), Calls _ _ _ _ _) := fun w' h' => round32_o zl a g.mode g.c g.z w' HG.out.2.2.1 h' ⟨HG.out.1.c0, by have := HG.out.1.c1; have := HG.out.2.1; omega⟩ ⟨HG.out.1.z0, by have := HG.out.1.z1; have := HG.out.2.1; omega⟩
  rw [ER.out] at RK
  try dsimp only at RK
  try simp only [Int.add_zero] at RK
  go_wp2_with fail
  generalize (w1.alloc (.cells #[.int .i64 g.sum, .int .i64 g.peak, .int .i64 g.dip, .int .i64 hi, .int .i64 lo, .int .i64 g.seq, .int .i64 g.dropped] 44)) = w2 at C1 O1 A1 P1 Q1 H1 Z1 o0 o1 o2 a0 a1 a2 a3 p0 p1 p2 p3 p4 p5 p6 pf0 pf1 pf2 pf3 pf4 pf5 pf6 y0 y1 y2 y3 y4 y5 y6 i8 i9 i10 z9 z10 ⊢
  go_region_held3 (fun w' => w'.cell? ⟨w.heap.size, 1, none⟩ = some (.int .i64 a) ∧ w'.cell? ⟨gp, 10, none⟩ = some (.int .i64 g.mode)) (first | (simp [go_sem, o1, i10]; done) | exact ⟨by assumption, by assumption⟩)
    (first | (go_at_call 38; refine (RK.out _ (by exact Z1.out.drew)).mono ?_; rintro e w3 ⟨rfl, q3, c3⟩; have lt := LT.out; have hq := HQ.out; have C3 : Hid (Chg (fun k => k = zl ∨ k = gp) w w3) := (C1.out.drew.mono (fun k _ e => e.elim)).trans (c3.mono (fun k _ e => Or.inl e)); have Z3 : Hid (Cv w3 zl g.c (g.z + 1)) := q3; have O3 : Hid (Has 50 w3 w.heap.size [.int .i64 2, .int .i64 a, .int .i64 b, .int .i64 cc, .string s, .string t]) := O1.out.drew.kept c3 (by omega); have A3 : Hid (Has 47 w3 (w.heap.size + 1) [.int .i64 4, .int .i64 0, .int .i64 0, .string ⟨#[]⟩]) := A1.out.drew.kept c3 (by omega); have P3 : Hid (Has 44 w3 (w.heap.size + 1 + 1) [.int .i64 g.sum, .int .i64 g.peak, .int .i64 g.dip, .int .i64 hi, .int .i64 lo, .int .i64 g.seq, .int .i64 g.dropped]) := P1.out.drew.kept c3 (by omega); have Q3 : Hid (Has 44 w3 w1.heap.size [.int .i64 g.sum, .int .i64 g.peak, .int .i64 g.dip, .int .i64 hi, .int .i64 lo, .int .i64 g.seq, .int .i64 g.dropped]) := Q1.out.drew.kept c3 (by omega); have H3 : Hid (Gh w3 gp g) := H1.out.drew.kept c3 (by omega); have o0 : w3.cell? ⟨w.heap.size, 0, none⟩ = some (.int .i64 2) := O3.out.cell 0; have o1 : w3.cell? ⟨w.heap.size, 1, none⟩ = some (.int .i64 a) := O3.out.cell 1; have o2 : w3.cell? ⟨w.heap.size, 2, none⟩ = some (.int .i64 b) := O3.out.cell 2; have a0 : w3.cell? ⟨w.heap.size + 1, 0, none⟩ = some (.int .i64 4) := A3.out.cell 0; have a1 : w3.cell? ⟨w.heap.size + 1, 1, none⟩ = some (.int .i64 0) := A3.out.cell 1; have a2 : w3.cell? ⟨w.heap.size + 1, 2, none⟩ = some (.int .i64 0) := A3.out.cell 2; have a3 : w3.cell? ⟨w.heap.size + 1, 3, none⟩ = some (.string ⟨#[]⟩) := A3.out.cell 3; have p0 : w3.cell? ⟨w.heap.size + 1 + 1, 0, none⟩ = some (.int .i64 g.sum) := P3.out.cell 0; have pf0 := P3.out.frozen 0; have p1 : w3.cell? ⟨w.heap.size + 1 + 1, 1, none⟩ = some (.int .i64 g.peak) := P3.out.cell 1; have pf1 := P3.out.frozen 1; have p2 : w3.cell? ⟨w.heap.size + 1 + 1, 2, none⟩ = some (.int .i64 g.dip) := P3.out.cell 2; have pf2 := P3.out.frozen 2; have p3 : w3.cell? ⟨w.heap.size + 1 + 1, 3, none⟩ = some (.int .i64 hi) := P3.out.cell 3; have pf3 := P3.out.frozen 3; have p4 : w3.cell? ⟨w.heap.size + 1 + 1, 4, none⟩ = some (.int .i64 lo) := P3.out.cell 4; have pf4 := P3.out.frozen 4; have p5 : w3.cell? ⟨w.heap.size + 1 + 1, 5, none⟩ = some (.int .i64 g.seq) := P3.out.cell 5; have pf5 := P3.out.frozen 5; have p6 : w3.cell? ⟨w.heap.size + 1 + 1, 6, none⟩ = some (.int .i64 g.dropped) := P3.out.cell 6; have pf6 := P3.out.frozen 6; have y0 : w3.cell? ⟨w1.heap.size, 0, none⟩ = some (.int .i64 g.sum) := Q3.out.cell 0; have y1 : w3.cell? ⟨w1.heap.size, 1, none⟩ = some (.int .i64 g.peak) := Q3.out.cell 1; have y2 : w3.cell? ⟨w1.heap.size, 2, none⟩ = some (.int .i64 g.dip) := Q3.out.cell 2; have y3 : w3.cell? ⟨w1.heap.size, 3, none⟩ = some (.int .i64 hi) := Q3.out.cell 3; have y4 : w3.cell? ⟨w1.heap.size, 4, none⟩ = some (.int .i64 lo) := Q3.out.cell 4; have y5 : w3.cell? ⟨w1.heap.size, 5, none⟩ = some (.int .i64 g.seq) := Q3.out.cell 5; have y6 : w3.cell? ⟨w1.heap.size, 6, none⟩ = some (.int .i64 g.dropped) := Q3.out.cell 6; have i8 : w3.cell? ⟨gp, 8, none⟩ = some (.int .i64 g.at_) := H3.out.cell 8 (gh_get _ H3.out.len).1; have i9 : w3.cell? ⟨gp, 9, none⟩ = some (.int .i64 g.depth) := H3.out.cell 9 (gh_get _ H3.out.len).2.1; have i10 : w3.cell? ⟨gp, 10, none⟩ = some (.int .i64 g.mode) := H3.out.cell 10 (gh_get _ H3.out.len).2.2; clear q3 c3 lt hq))
  clear C1 O1 A1 P1 Q1 H1 Z1
  go_wp2_with fail
  refine (isNaNm_any a _).mono ?_; rintro e w4 ⟨rfl, rfl⟩
  rw [decide_eq_true (by have := HNAN.out; omega)]
  go_wp2_with fail
  go_ret
  exact ⟨rfl, Z3.out, H3.out.same rfl rfl rfl rfl, C3.out⟩

theorem kp_16n (p zl gp : Nat) (l : Lk) (g : PS) (n : Int) (a b cc : Int) (s t : ByteArray) (w : World) (hg : Good g n) (hn : n ≤ 4611686018427387904) (hg' : Good { g with z := g.z + 1 } (n + 1)) (ha : I64 a) (hb : I64 b) (hx : Ap w p l { g with z := g.z + 1 }) (hc : Cv w zl g.c g.z) (hh : Gh w gp g) (hzg : zl ≠ gp) (hnan : 9218868437227405312 < (mg a : Int)) :
    Calls Tryd.prog 19 #[.pointer (some ⟨p, 0, none⟩), .pointer (some ⟨zl, 0, none⟩), .pointer (some ⟨gp, 0, none⟩), opV 16 a b cc s t, ansV 4 0 0 ⟨#[]⟩, befV g] w fun e w' => e = .returned (.bool true) ∧ Cv w' zl { g with z := g.z + 1 }.c { g with z := g.z + 1 }.z ∧ Gh w' gp { g with z := g.z + 1 } ∧ Chg (fun k => k = zl ∨ k = gp) w w' := by
  have LK : Hid (∀ w' (h : Ap w' p l { g with z := g.z + 1 }), Calls _ _ _ _ _) := fun w' h => look_any p l { g with z := g.z + 1 } (n + 1) w' hg' h
  unfold befV at LK
  unfold opV ansV befV
  try dsimp only at LK
  try dsimp only
  have HX : Hid (Ap w p l { g with z := g.z + 1 }) := hx
  have HC : Hid (Cv w zl g.c g.z) := hc
  have HH : Hid (Gh w gp g) := hh
  have HG : Hid (Good g n ∧ n ≤ 4611686018427387904 ∧ I64 a ∧ I64 b) := ⟨hg, hn, ha, hb⟩
  have LT : Hid (zl < w.heap.size ∧ gp < w.heap.size ∧ zl ≠ gp) := ⟨Has.lt hc, hh.lt, hzg⟩
  have q0 := hg.q0; have r0 := hg.r0; have A0 := hg.a0; have A8 := hg.a8
  have q1 : g.seq ≤ 4611686018427387904 := by have := hg.q1; omega
  have r1 : g.dropped ≤ 4611686018427387904 := by have := hg.r1; omega
  have ER : Hid (r32O a g.mode = ⟨4, 0, 0, 0, 1⟩) := by have := hg.m0; have := hg.m3; show r32O a g.mode = ⟨4, 0, 0, 0, 1⟩; unfold r32O; rw [if_neg (by omega), if_pos (by omega)]
  have HNAN : Hid (9218868437227405312 < (mg a : Int)) := hnan
  clear hnan
  generalize sumSq g.ring / 4294967296 = hi at LK ⊢
  generalize sumSq g.ring % 4294967296 = lo at LK ⊢
  have O0 : Hid (Has 50 (((w.alloc (.cells #[.int .i64 16, .int .i64 a, .int .i64 b, .int .i64 cc, .string s, .string t] 50)).alloc (.cells #[.int .i64 4, .int .i64 0, .int .i64 0, .string ⟨#[]⟩] 47)).alloc (.cells #[.int .i64 g.sum, .int .i64 g.peak, .int .i64 g.dip, .int .i64 hi, .int .i64 lo, .int .i64 g.seq, .int .i64 g.dropped] 44)) w.heap.size [.int .i64 16, .int .i64 a, .int .i64 b, .int .i64 cc, .string s, .string t]) := ((Has.new 50 w [.int .i64 16, .int .i64 a, .int .i64 b, .int .i64 cc, .string s, .string t]).alloc _).alloc _
  have A0 : Hid (Has 47 (((w.alloc (.cells #[.int .i64 16, .int .i64 a, .int .i64 b, .int .i64 cc, .string s, .string t] 50)).alloc (.cells #[.int .i64 4, .int .i64 0, .int .i64 0, .string ⟨#[]⟩] 47)).alloc (.cells #[.int .i64 g.sum, .int .i64 g.peak, .int .i64 g.dip, .int .i64 hi, .int .i64 lo, .int .i64 g.seq, .int .i64 g.dropped] 44)) (w.heap.size + 1) [.int .i64 4, .int .i64 0, .int .i64 0, .string ⟨#[]⟩]) := (hasAt (by simp) [.int .i64 4, .int .i64 0, .int .i64 0, .string ⟨#[]⟩]).alloc _
  have P0 : Hid (Has 44 (((w.alloc (.cells #[.int .i64 16, .int .i64 a, .int .i64 b, .int .i64 cc, .string s, .string t] 50)).alloc (.cells #[.int .i64 4, .int .i64 0, .int .i64 0, .string ⟨#[]⟩] 47)).alloc (.cells #[.int .i64 g.sum, .int .i64 g.peak, .int .i64 g.dip, .int .i64 hi, .int .i64 lo, .int .i64 g.seq, .int .i64 g.dropped] 44)) (w.heap.size + 1 + 1) [.int .i64 g.sum, .int .i64 g.peak, .int .i64 g.dip, .int .i64 hi, .int .i64 lo, .int .i64 g.seq, .int .i64 g.dropped]) := hasAt (by simp) [.int .i64 g.sum, .int .i64 g.peak, .int .i64 g.dip, .int .i64 hi, .int .i64 lo, .int .i64 g.seq, .int .i64 g.dropped]
  have C0 : Hid (Chg (fun _ => False) w (((w.alloc (.cells #[.int .i64 16, .int .i64 a, .int .i64 b, .int .i64 cc, .string s, .string t] 50)).alloc (.cells #[.int .i64 4, .int .i64 0, .int .i64 0, .string ⟨#[]⟩] 47)).alloc (.cells #[.int .i64 g.sum, .int .i64 g.peak, .int .i64 g.dip, .int .i64 hi, .int .i64 lo, .int .i64 g.seq, .int .i64 g.dropped] 44))) := ((((Chg.refl _ w).alloc _).alloc _).alloc _)
  clear hg hn hg' ha hb hx hc hh hzg
  go_enter Tryd.func19, Tryd.ntmps19
  go_wp2_with fail
  refine (LK.out _ (ap_nil HX.out C0.out)).mono ?_; rintro e w1 ⟨rfl, c1⟩
  have C1 : Hid (Chg (fun _ => False) w (w1.alloc (.cells #[.int .i64 g.sum, .int .i64 g.peak, .int .i64 g.dip, .int .i64 hi, .int .i64 lo, .int .i64 g.seq, .int .i64 g.dropped] 44))) := (C0.out.trans c1).alloc _
  have O1 : Hid (Has 50 (w1.alloc (.cells #[.int .i64 g.sum, .int .i64 g.peak, .int .i64 g.dip, .int .i64 hi, .int .i64 lo, .int .i64 g.seq, .int .i64 g.dropped] 44)) w.heap.size [.int .i64 16, .int .i64 a, .int .i64 b, .int .i64 cc, .string s, .string t]) := (O0.out.kept c1 (fun h => h)).alloc _
  have A1 : Hid (Has 47 (w1.alloc (.cells #[.int .i64 g.sum, .int .i64 g.peak, .int .i64 g.dip, .int .i64 hi, .int .i64 lo, .int .i64 g.seq, .int .i64 g.dropped] 44)) (w.heap.size + 1) [.int .i64 4, .int .i64 0, .int .i64 0, .string ⟨#[]⟩]) := (A0.out.kept c1 (fun h => h)).alloc _
  have P1 : Hid (Has 44 (w1.alloc (.cells #[.int .i64 g.sum, .int .i64 g.peak, .int .i64 g.dip, .int .i64 hi, .int .i64 lo, .int .i64 g.seq, .int .i64 g.dropped] 44)) (w.heap.size + 1 + 1) [.int .i64 g.sum, .int .i64 g.peak, .int .i64 g.dip, .int .i64 hi, .int .i64 lo, .int .i64 g.seq, .int .i64 g.dropped]) := (P0.out.kept c1 (fun h => h)).alloc _
  have Q1 : Hid (Has 44 (w1.alloc (.cells #[.int .i64 g.sum, .int .i64 g.peak, .int .i64 g.dip, .int .i64 hi, .int .i64 lo, .int .i64 g.seq, .int .i64 g.dropped] 44)) w1.heap.size [.int .i64 g.sum, .int .i64 g.peak, .int .i64 g.dip, .int .i64 hi, .int .i64 lo, .int .i64 g.seq, .int .i64 g.dropped]) := Has.new _ _ _
  have HQ : Hid (w.heap.size + 1 + 1 < w1.heap.size) := by have h1 := P0.out.lt; have h2 := c1.size; show w.heap.size + 1 + 1 < w1.heap.size; omega
  have H1 : Hid (Gh (w1.alloc (.cells #[.int .i64 g.sum, .int .i64 g.peak, .int .i64 g.dip, .int .i64 hi, .int .i64 lo, .int .i64 g.seq, .int .i64 g.dropped] 44)) gp g) := (HH.out.nil (C0.out.trans c1)).nil ((Chg.refl _ _).alloc _)
  have Z1 : Hid (Cv (w1.alloc (.cells #[.int .i64 g.sum, .int .i64 g.peak, .int .i64 g.dip, .int .i64 hi, .int .i64 lo, .int .i64 g.seq, .int .i64 g.dropped] 44)) zl g.c g.z) := ((HC.out.kept C0.out (fun h => h)).kept c1 (fun h => h)).alloc _
  clear c1 O0 A0 P0 C0 LK HX HC HH
  have o0 : (w1.alloc (.cells #[.int .i64 g.sum, .int .i64 g.peak, .int .i64 g.dip, .int .i64 hi, .int .i64 lo, .int .i64 g.seq, .int .i64 g.dropped] 44)).cell? ⟨w.heap.size, 0, none⟩ = some (.int .i64 16) := O1.out.cell 0
  have o1 : (w1.alloc (.cells #[.int .i64 g.sum, .int .i64 g.peak, .int .i64 g.dip, .int .i64 hi, .int .i64 lo, .int .i64 g.seq, .int .i64 g.dropped] 44)).cell? ⟨w.heap.size, 1, none⟩ = some (.int .i64 a) := O1.out.cell 1
  have o2 : (w1.alloc (.cells #[.int .i64 g.sum, .int .i64 g.peak, .int .i64 g.dip, .int .i64 hi, .int .i64 lo, .int .i64 g.seq, .int .i64 g.dropped] 44)).cell? ⟨w.heap.size, 2, none⟩ = some (.int .i64 b) := O1.out.cell 2
  have a0 : (w1.alloc (.cells #[.int .i64 g.sum, .int .i64 g.peak, .int .i64 g.dip, .int .i64 hi, .int .i64 lo, .int .i64 g.seq, .int .i64 g.dropped] 44)).cell? ⟨w.heap.size + 1, 0, none⟩ = some (.int .i64 4) := A1.out.cell 0
  have a1 : (w1.alloc (.cells #[.int .i64 g.sum, .int .i64 g.peak, .int .i64 g.dip, .int .i64 hi, .int .i64 lo, .int .i64 g.seq, .int .i64 g.dropped] 44)).cell? ⟨w.heap.size + 1, 1, none⟩ = some (.int .i64 0) := A1.out.cell 1
  have a2 : (w1.alloc (.cells #[.int .i64 g.sum, .int .i64 g.peak, .int .i64 g.dip, .int .i64 hi, .int .i64 lo, .int .i64 g.seq, .int .i64 g.dropped] 44)).cell? ⟨w.heap.size + 1, 2, none⟩ = some (.int .i64 0) := A1.out.cell 2
  have a3 : (w1.alloc (.cells #[.int .i64 g.sum, .int .i64 g.peak, .int .i64 g.dip, .int .i64 hi, .int .i64 lo, .int .i64 g.seq, .int .i64 g.dropped] 44)).cell? ⟨w.heap.size + 1, 3, none⟩ = some (.string ⟨#[]⟩) := A1.out.cell 3
  have p0 : (w1.alloc (.cells #[.int .i64 g.sum, .int .i64 g.peak, .int .i64 g.dip, .int .i64 hi, .int .i64 lo, .int .i64 g.seq, .int .i64 g.dropped] 44)).cell? ⟨w.heap.size + 1 + 1, 0, none⟩ = some (.int .i64 g.sum) := P1.out.cell 0
  have pf0 := P1.out.frozen 0
  have p1 : (w1.alloc (.cells #[.int .i64 g.sum, .int .i64 g.peak, .int .i64 g.dip, .int .i64 hi, .int .i64 lo, .int .i64 g.seq, .int .i64 g.dropped] 44)).cell? ⟨w.heap.size + 1 + 1, 1, none⟩ = some (.int .i64 g.peak) := P1.out.cell 1
  have pf1 := P1.out.frozen 1
  have p2 : (w1.alloc (.cells #[.int .i64 g.sum, .int .i64 g.peak, .int .i64 g.dip, .int .i64 hi, .int .i64 lo, .int .i64 g.seq, .int .i64 g.dropped] 44)).cell? ⟨w.heap.size + 1 + 1, 2, none⟩ = some (.int .i64 g.dip) := P1.out.cell 2
  have pf2 := P1.out.frozen 2
  have p3 : (w1.alloc (.cells #[.int .i64 g.sum, .int .i64 g.peak, .int .i64 g.dip, .int .i64 hi, .int .i64 lo, .int .i64 g.seq, .int .i64 g.dropped] 44)).cell? ⟨w.heap.size + 1 + 1, 3, none⟩ = some (.int .i64 hi) := P1.out.cell 3
  have pf3 := P1.out.frozen 3
  have p4 : (w1.alloc (.cells #[.int .i64 g.sum, .int .i64 g.peak, .int .i64 g.dip, .int .i64 hi, .int .i64 lo, .int .i64 g.seq, .int .i64 g.dropped] 44)).cell? ⟨w.heap.size + 1 + 1, 4, none⟩ = some (.int .i64 lo) := P1.out.cell 4
  have pf4 := P1.out.frozen 4
  have p5 : (w1.alloc (.cells #[.int .i64 g.sum, .int .i64 g.peak, .int .i64 g.dip, .int .i64 hi, .int .i64 lo, .int .i64 g.seq, .int .i64 g.dropped] 44)).cell? ⟨w.heap.size + 1 + 1, 5, none⟩ = some (.int .i64 g.seq) := P1.out.cell 5
  have pf5 := P1.out.frozen 5
  have p6 : (w1.alloc (.cells #[.int .i64 g.sum, .int .i64 g.peak, .int .i64 g.dip, .int .i64 hi, .int .i64 lo, .int .i64 g.seq, .int .i64 g.dropped] 44)).cell? ⟨w.heap.size + 1 + 1, 6, none⟩ = some (.int .i64 g.dropped) := P1.out.cell 6
  have pf6 := P1.out.frozen 6
  have y0 : (w1.alloc (.cells #[.int .i64 g.sum, .int .i64 g.peak, .int .i64 g.dip, .int .i64 hi, .int .i64 lo, .int .i64 g.seq, .int .i64 g.dropped] 44)).cell? ⟨w1.heap.size, 0, none⟩ = some (.int .i64 g.sum) := Q1.out.cell 0
  have y1 : (w1.alloc (.cells #[.int .i64 g.sum, .int .i64 g.peak, .int .i64 g.dip, .int .i64 hi, .int .i64 lo, .int .i64 g.seq, .int .i64 g.dropped] 44)).cell? ⟨w1.heap.size, 1, none⟩ = some (.int .i64 g.peak) := Q1.out.cell 1
  have y2 : (w1.alloc (.cells #[.int .i64 g.sum, .int .i64 g.peak, .int .i64 g.dip, .int .i64 hi, .int .i64 lo, .int .i64 g.seq, .int .i64 g.dropped] 44)).cell? ⟨w1.heap.size, 2, none⟩ = some (.int .i64 g.dip) := Q1.out.cell 2
  have y3 : (w1.alloc (.cells #[.int .i64 g.sum, .int .i64 g.peak, .int .i64 g.dip, .int .i64 hi, .int .i64 lo, .int .i64 g.seq, .int .i64 g.dropped] 44)).cell? ⟨w1.heap.size, 3, none⟩ = some (.int .i64 hi) := Q1.out.cell 3
  have y4 : (w1.alloc (.cells #[.int .i64 g.sum, .int .i64 g.peak, .int .i64 g.dip, .int .i64 hi, .int .i64 lo, .int .i64 g.seq, .int .i64 g.dropped] 44)).cell? ⟨w1.heap.size, 4, none⟩ = some (.int .i64 lo) := Q1.out.cell 4
  have y5 : (w1.alloc (.cells #[.int .i64 g.sum, .int .i64 g.peak, .int .i64 g.dip, .int .i64 hi, .int .i64 lo, .int .i64 g.seq, .int .i64 g.dropped] 44)).cell? ⟨w1.heap.size, 5, none⟩ = some (.int .i64 g.seq) := Q1.out.cell 5
  have y6 : (w1.alloc (.cells #[.int .i64 g.sum, .int .i64 g.peak, .int .i64 g.dip, .int .i64 hi, .int .i64 lo, .int .i64 g.seq, .int .i64 g.dropped] 44)).cell? ⟨w1.heap.size, 6, none⟩ = some (.int .i64 g.dropped) := Q1.out.cell 6
  have i8 : (w1.alloc (.cells #[.int .i64 g.sum, .int .i64 g.peak, .int .i64 g.dip, .int .i64 hi, .int .i64 lo, .int .i64 g.seq, .int .i64 g.dropped] 44)).cell? ⟨gp, 8, none⟩ = some (.int .i64 g.at_) := H1.out.cell 8 (gh_get _ H1.out.len).1
  have i9 : (w1.alloc (.cells #[.int .i64 g.sum, .int .i64 g.peak, .int .i64 g.dip, .int .i64 hi, .int .i64 lo, .int .i64 g.seq, .int .i64 g.dropped] 44)).cell? ⟨gp, 9, none⟩ = some (.int .i64 g.depth) := H1.out.cell 9 (gh_get _ H1.out.len).2.1
  have i10 : (w1.alloc (.cells #[.int .i64 g.sum, .int .i64 g.peak, .int .i64 g.dip, .int .i64 hi, .int .i64 lo, .int .i64 g.seq, .int .i64 g.dropped] 44)).cell? ⟨gp, 10, none⟩ = some (.int .i64 g.mode) := H1.out.cell 10 (gh_get _ H1.out.len).2.2
  have z9 := H1.out.frozen 9
  have z10 := H1.out.frozen 10
  have RK : Hid (∀ w' (h' : Cv w' zl g.c g.z), Calls _ _ _ _ _) := fun w' h' => round32_o zl a g.mode g.c g.z w' HG.out.2.2.1 h' ⟨HG.out.1.c0, by have := HG.out.1.c1; have := HG.out.2.1; omega⟩ ⟨HG.out.1.z0, by have := HG.out.1.z1; have := HG.out.2.1; omega⟩
  rw [ER.out] at RK
  try dsimp only at RK
  try simp only [Int.add_zero] at RK
  go_wp2_with fail
  generalize (w1.alloc (.cells #[.int .i64 g.sum, .int .i64 g.peak, .int .i64 g.dip, .int .i64 hi, .int .i64 lo, .int .i64 g.seq, .int .i64 g.dropped] 44)) = w2 at C1 O1 A1 P1 Q1 H1 Z1 o0 o1 o2 a0 a1 a2 a3 p0 p1 p2 p3 p4 p5 p6 pf0 pf1 pf2 pf3 pf4 pf5 pf6 y0 y1 y2 y3 y4 y5 y6 i8 i9 i10 z9 z10 ⊢
  go_region_held3 (fun w' => w'.cell? ⟨w.heap.size, 1, none⟩ = some (.int .i64 a) ∧ w'.cell? ⟨gp, 10, none⟩ = some (.int .i64 g.mode)) (first | (simp [go_sem, o1, i10]; done) | exact ⟨by assumption, by assumption⟩)
    (first | (go_at_call 38; refine (RK.out _ (by exact Z1.out.drew)).mono ?_; rintro e w3 ⟨rfl, q3, c3⟩; have lt := LT.out; have hq := HQ.out; have C3 : Hid (Chg (fun k => k = zl ∨ k = gp) w w3) := (C1.out.drew.mono (fun k _ e => e.elim)).trans (c3.mono (fun k _ e => Or.inl e)); have Z3 : Hid (Cv w3 zl g.c (g.z + 1)) := q3; have O3 : Hid (Has 50 w3 w.heap.size [.int .i64 16, .int .i64 a, .int .i64 b, .int .i64 cc, .string s, .string t]) := O1.out.drew.kept c3 (by omega); have A3 : Hid (Has 47 w3 (w.heap.size + 1) [.int .i64 4, .int .i64 0, .int .i64 0, .string ⟨#[]⟩]) := A1.out.drew.kept c3 (by omega); have P3 : Hid (Has 44 w3 (w.heap.size + 1 + 1) [.int .i64 g.sum, .int .i64 g.peak, .int .i64 g.dip, .int .i64 hi, .int .i64 lo, .int .i64 g.seq, .int .i64 g.dropped]) := P1.out.drew.kept c3 (by omega); have Q3 : Hid (Has 44 w3 w1.heap.size [.int .i64 g.sum, .int .i64 g.peak, .int .i64 g.dip, .int .i64 hi, .int .i64 lo, .int .i64 g.seq, .int .i64 g.dropped]) := Q1.out.drew.kept c3 (by omega); have H3 : Hid (Gh w3 gp g) := H1.out.drew.kept c3 (by omega); have o0 : w3.cell? ⟨w.heap.size, 0, none⟩ = some (.int .i64 16) := O3.out.cell 0; have o1 : w3.cell? ⟨w.heap.size, 1, none⟩ = some (.int .i64 a) := O3.out.cell 1; have o2 : w3.cell? ⟨w.heap.size, 2, none⟩ = some (.int .i64 b) := O3.out.cell 2; have a0 : w3.cell? ⟨w.heap.size + 1, 0, none⟩ = some (.int .i64 4) := A3.out.cell 0; have a1 : w3.cell? ⟨w.heap.size + 1, 1, none⟩ = some (.int .i64 0) := A3.out.cell 1; have a2 : w3.cell? ⟨w.heap.size + 1, 2, none⟩ = some (.int .i64 0) := A3.out.cell 2; have a3 : w3.cell? ⟨w.heap.size + 1, 3, none⟩ = some (.string ⟨#[]⟩) := A3.out.cell 3; have p0 : w3.cell? ⟨w.heap.size + 1 + 1, 0, none⟩ = some (.int .i64 g.sum) := P3.out.cell 0; have pf0 := P3.out.frozen 0; have p1 : w3.cell? ⟨w.heap.size + 1 + 1, 1, none⟩ = some (.int .i64 g.peak) := P3.out.cell 1; have pf1 := P3.out.frozen 1; have p2 : w3.cell? ⟨w.heap.size + 1 + 1, 2, none⟩ = some (.int .i64 g.dip) := P3.out.cell 2; have pf2 := P3.out.frozen 2; have p3 : w3.cell? ⟨w.heap.size + 1 + 1, 3, none⟩ = some (.int .i64 hi) := P3.out.cell 3; have pf3 := P3.out.frozen 3; have p4 : w3.cell? ⟨w.heap.size + 1 + 1, 4, none⟩ = some (.int .i64 lo) := P3.out.cell 4; have pf4 := P3.out.frozen 4; have p5 : w3.cell? ⟨w.heap.size + 1 + 1, 5, none⟩ = some (.int .i64 g.seq) := P3.out.cell 5; have pf5 := P3.out.frozen 5; have p6 : w3.cell? ⟨w.heap.size + 1 + 1, 6, none⟩ = some (.int .i64 g.dropped) := P3.out.cell 6; have pf6 := P3.out.frozen 6; have y0 : w3.cell? ⟨w1.heap.size, 0, none⟩ = some (.int .i64 g.sum) := Q3.out.cell 0; have y1 : w3.cell? ⟨w1.heap.size, 1, none⟩ = some (.int .i64 g.peak) := Q3.out.cell 1; have y2 : w3.cell? ⟨w1.heap.size, 2, none⟩ = some (.int .i64 g.dip) := Q3.out.cell 2; have y3 : w3.cell? ⟨w1.heap.size, 3, none⟩ = some (.int .i64 hi) := Q3.out.cell 3; have y4 : w3.cell? ⟨w1.heap.size, 4, none⟩ = some (.int .i64 lo) := Q3.out.cell 4; have y5 : w3.cell? ⟨w1.heap.size, 5, none⟩ = some (.int .i64 g.seq) := Q3.out.cell 5; have y6 : w3.cell? ⟨w1.heap.size, 6, none⟩ = some (.int .i64 g.dropped) := Q3.out.cell 6; have i8 : w3.cell? ⟨gp, 8, none⟩ = some (.int .i64 g.at_) := H3.out.cell 8 (gh_get _ H3.out.len).1; have i9 : w3.cell? ⟨gp, 9, none⟩ = some (.int .i64 g.depth) := H3.out.cell 9 (gh_get _ H3.out.len).2.1; have i10 : w3.cell? ⟨gp, 10, none⟩ = some (.int .i64 g.mode) := H3.out.cell 10 (gh_get _ H3.out.len).2.2; clear q3 c3 lt hq))
  clear C1 O1 A1 P1 Q1 H1 Z1
  go_wp2_with fail
  refine (isNaNm_any a _).mono ?_; rintro e w4 ⟨rfl, rfl⟩
  rw [decide_eq_true (by have := HNAN.out; omega)]
  go_wp2_with fail
  go_ret
  exact ⟨rfl, Z3.out, H3.out.same rfl rfl rfl rfl, C3.out⟩

end Go.Proofs.Qxb6500376aDoor

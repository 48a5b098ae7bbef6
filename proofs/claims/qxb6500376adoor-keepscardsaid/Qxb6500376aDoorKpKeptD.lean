/- Keeps: kept, kind by kind (written by tools/genkp.py). -/
import Derived.Test.Qxb6500376aDoorKpFed
namespace Go.Proofs.Qxb6500376aDoor
set_option linter.unusedVariables false
set_option linter.unusedSimpArgs false
set_option maxHeartbeats 4000000
set_option maxRecDepth 100000
open Go.RowKit Go.Qu Ieee

theorem kp_2f (p zl gp : Nat) (l : Lk) (g g' : PS) (n : Int) (N L dc a b cc : Int) (s t : ByteArray) (w : World) (hg : Good g n) (hn : n ≤ 4611686018427387904) (hg' : Good g' (n + 1)) (ha : I64 a) (hb : I64 b) (hx : Ap w p l g') (hc : Cv w zl g.c g.z) (hh : Gh w gp g) (hzg : zl ≠ gp) (hnan : ¬ 9218868437227405312 < (mg a : Int)) (er : r32O a g.mode = ⟨0, N, 0, dc, 0⟩) (gc : g'.c = g.c + dc) (gz : g'.z = g.z) (hf : ∀ w', Gh w' gp g → Calls Tryd.prog 40 #[.pointer (some ⟨gp, 0, none⟩), befV g, befV g', .int .i64 a, .int .i64 N, .int .i64 L, .int .i64 (g.at_ * 6)] w' fun e w'' => e = .returned (.bool true) ∧ Gh w'' gp g' ∧ Chg (fun k => k = gp) w' w'') :
    Calls Tryd.prog 19 #[.pointer (some ⟨p, 0, none⟩), .pointer (some ⟨zl, 0, none⟩), .pointer (some ⟨gp, 0, none⟩), opV 2 a b cc s t, ansV 0 N L ⟨#[]⟩, befV g] w fun e w' => e = .returned (.bool true) ∧ Cv w' zl g'.c g'.z ∧ Gh w' gp g' ∧ Chg (fun k => k = zl ∨ k = gp) w w' := by
  have LK : Hid (∀ w' (h : Ap w' p l g'), Calls _ _ _ _ _) := fun w' h => look_any p l g' (n + 1) w' hg' h
  unfold befV at LK
  unfold opV ansV befV
  try dsimp only at LK
  try dsimp only
  have HX : Hid (Ap w p l g') := hx
  have HC : Hid (Cv w zl g.c g.z) := hc
  have HH : Hid (Gh w gp g) := hh
  have HG : Hid (Good g n ∧ n ≤ 4611686018427387904 ∧ I64 a ∧ I64 b) := ⟨hg, hn, ha, hb⟩
  have LT : Hid (zl < w.heap.size ∧ gp < w.heap.size ∧ zl ≠ gp) := ⟨Has.lt hc, hh.lt, hzg⟩
  have q0 := hg.q0; have r0 := hg.r0; have A0 := hg.a0; have A8 := hg.a8
  have q1 : g.seq ≤ 4611686018427387904 := by have := hg.q1; omega
  have r1 : g.dropped ≤ 4611686018427387904 := by have := hg.r1; omega
  have ER : Hid (r32O a g.mode = ⟨0, N, 0, dc, 0⟩) := er
  have HNAN : Hid (¬ 9218868437227405312 < (mg a : Int)) := hnan
  have FK : Hid (∀ w', Gh w' gp g → Calls _ _ _ _ _) := hf
  rw [gc, gz]
  clear hnan er hf gc gz
  unfold befV at FK
  generalize sumSq g.ring / 4294967296 = hi at LK FK ⊢
  generalize sumSq g.ring % 4294967296 = lo at LK FK ⊢
  generalize g'.sum = q0' at LK FK
  generalize g'.peak = q1' at LK FK
  generalize g'.dip = q2' at LK FK
  generalize sumSq g'.ring / 4294967296 = q3' at LK FK
  generalize sumSq g'.ring % 4294967296 = q4' at LK FK
  generalize g'.seq = q5' at LK FK
  generalize g'.dropped = q6' at LK FK
  have O0 : Hid (Has 50 (((w.alloc (.cells #[.int .i64 2, .int .i64 a, .int .i64 b, .int .i64 cc, .string s, .string t] 50)).alloc (.cells #[.int .i64 0, .int .i64 N, .int .i64 L, .string ⟨#[]⟩] 47)).alloc (.cells #[.int .i64 g.sum, .int .i64 g.peak, .int .i64 g.dip, .int .i64 hi, .int .i64 lo, .int .i64 g.seq, .int .i64 g.dropped] 44)) w.heap.size [.int .i64 2, .int .i64 a, .int .i64 b, .int .i64 cc, .string s, .string t]) := ((Has.new 50 w [.int .i64 2, .int .i64 a, .int .i64 b, .int .i64 cc, .string s, .string t]).alloc _).alloc _
  have A0 : Hid (Has 47 (((w.alloc (.cells #[.int .i64 2, .int .i64 a, .int .i64 b, .int .i64 cc, .string s, .string t] 50)).alloc (.cells #[.int .i64 0, .int .i64 N, .int .i64 L, .string ⟨#[]⟩] 47)).alloc (.cells #[.int .i64 g.sum, .int .i64 g.peak, .int .i64 g.dip, .int .i64 hi, .int .i64 lo, .int .i64 g.seq, .int .i64 g.dropped] 44)) (w.heap.size + 1) [.int .i64 0, .int .i64 N, .int .i64 L, .string ⟨#[]⟩]) := (hasAt (by simp) [.int .i64 0, .int .i64 N, .int .i64 L, .string ⟨#[]⟩]).alloc _
  have P0 : Hid (Has 44 (((w.alloc (.cells #[.int .i64 2, .int .i64 a, .int .i64 b, .int .i64 cc, .string s, .string t] 50)).alloc (.cells #[.int .i64 0, .int .i64 N, .int .i64 L, .string ⟨#[]⟩] 47)).alloc (.cells #[.int .i64 g.sum, .int .i64 g.peak, .int .i64 g.dip, .int .i64 hi, .int .i64 lo, .int .i64 g.seq, .int .i64 g.dropped] 44)) (w.heap.size + 1 + 1) [.int .i64 g.sum, .int .i64 g.peak, .int .i64 g.dip, .int .i64 hi, .int .i64 lo, .int .i64 g.seq, .int .i64 g.dropped]) := hasAt (by simp) [.int .i64 g.sum, .int .i64 g.peak, .int .i64 g.dip, .int .i64 hi, .int .i64 lo, .int .i64 g.seq, .int .i64 g.dropped]
  have C0 : Hid (Chg (fun _ => False) w (((w.alloc (.cells #[.int .i64 2, .int .i64 a, .int .i64 b, .int .i64 cc, .string s, .string t] 50)).alloc (.cells #[.int .i64 0, .int .i64 N, .int .i64 L, .string ⟨#[]⟩] 47)).alloc (.cells #[.int .i64 g.sum, .int .i64 g.peak, .int .i64 g.dip, .int .i64 hi, .int .i64 lo, .int .i64 g.seq, .int .i64 g.dropped] 44))) := ((((Chg.refl _ w).alloc _).alloc _).alloc _)
  clear hg hn hg' ha hb hx hc hh hzg
  go_enter Tryd.func19, Tryd.ntmps19
  go_wp2_with fail
  refine (LK.out _ (ap_nil HX.out C0.out)).mono ?_; rintro e w1 ⟨rfl, c1⟩
  have C1 : Hid (Chg (fun _ => False) w (w1.alloc (.cells #[.int .i64 q0', .int .i64 q1', .int .i64 q2', .int .i64 q3', .int .i64 q4', .int .i64 q5', .int .i64 q6'] 44))) := (C0.out.trans c1).alloc _
  have O1 : Hid (Has 50 (w1.alloc (.cells #[.int .i64 q0', .int .i64 q1', .int .i64 q2', .int .i64 q3', .int .i64 q4', .int .i64 q5', .int .i64 q6'] 44)) w.heap.size [.int .i64 2, .int .i64 a, .int .i64 b, .int .i64 cc, .string s, .string t]) := (O0.out.kept c1 (fun h => h)).alloc _
  have A1 : Hid (Has 47 (w1.alloc (.cells #[.int .i64 q0', .int .i64 q1', .int .i64 q2', .int .i64 q3', .int .i64 q4', .int .i64 q5', .int .i64 q6'] 44)) (w.heap.size + 1) [.int .i64 0, .int .i64 N, .int .i64 L, .string ⟨#[]⟩]) := (A0.out.kept c1 (fun h => h)).alloc _
  have P1 : Hid (Has 44 (w1.alloc (.cells #[.int .i64 q0', .int .i64 q1', .int .i64 q2', .int .i64 q3', .int .i64 q4', .int .i64 q5', .int .i64 q6'] 44)) (w.heap.size + 1 + 1) [.int .i64 g.sum, .int .i64 g.peak, .int .i64 g.dip, .int .i64 hi, .int .i64 lo, .int .i64 g.seq, .int .i64 g.dropped]) := (P0.out.kept c1 (fun h => h)).alloc _
  have Q1 : Hid (Has 44 (w1.alloc (.cells #[.int .i64 q0', .int .i64 q1', .int .i64 q2', .int .i64 q3', .int .i64 q4', .int .i64 q5', .int .i64 q6'] 44)) w1.heap.size [.int .i64 q0', .int .i64 q1', .int .i64 q2', .int .i64 q3', .int .i64 q4', .int .i64 q5', .int .i64 q6']) := Has.new _ _ _
  have HQ : Hid (w.heap.size + 1 + 1 < w1.heap.size) := by have h1 := P0.out.lt; have h2 := c1.size; show w.heap.size + 1 + 1 < w1.heap.size; omega
  have H1 : Hid (Gh (w1.alloc (.cells #[.int .i64 q0', .int .i64 q1', .int .i64 q2', .int .i64 q3', .int .i64 q4', .int .i64 q5', .int .i64 q6'] 44)) gp g) := (HH.out.nil (C0.out.trans c1)).nil ((Chg.refl _ _).alloc _)
  have Z1 : Hid (Cv (w1.alloc (.cells #[.int .i64 q0', .int .i64 q1', .int .i64 q2', .int .i64 q3', .int .i64 q4', .int .i64 q5', .int .i64 q6'] 44)) zl g.c g.z) := ((HC.out.kept C0.out (fun h => h)).kept c1 (fun h => h)).alloc _
  clear c1 O0 A0 P0 C0 LK HX HC HH
  have o0 : (w1.alloc (.cells #[.int .i64 q0', .int .i64 q1', .int .i64 q2', .int .i64 q3', .int .i64 q4', .int .i64 q5', .int .i64 q6'] 44)).cell? ⟨w.heap.size, 0, none⟩ = some (.int .i64 2) := O1.out.cell 0
  have o1 : (w1.alloc (.cells #[.int .i64 q0', .int .i64 q1', .int .i64 q2', .int .i64 q3', .int .i64 q4', .int .i64 q5', .int .i64 q6'] 44)).cell? ⟨w.heap.size, 1, none⟩ = some (.int .i64 a) := O1.out.cell 1
  have o2 : (w1.alloc (.cells #[.int .i64 q0', .int .i64 q1', .int .i64 q2', .int .i64 q3', .int .i64 q4', .int .i64 q5', .int .i64 q6'] 44)).cell? ⟨w.heap.size, 2, none⟩ = some (.int .i64 b) := O1.out.cell 2
  have a0 : (w1.alloc (.cells #[.int .i64 q0', .int .i64 q1', .int .i64 q2', .int .i64 q3', .int .i64 q4', .int .i64 q5', .int .i64 q6'] 44)).cell? ⟨w.heap.size + 1, 0, none⟩ = some (.int .i64 0) := A1.out.cell 0
  have a1 : (w1.alloc (.cells #[.int .i64 q0', .int .i64 q1', .int .i64 q2', .int .i64 q3', .int .i64 q4', .int .i64 q5', .int .i64 q6'] 44)).cell? ⟨w.heap.size + 1, 1, none⟩ = some (.int .i64 N) := A1.out.cell 1
  have a2 : (w1.alloc (.cells #[.int .i64 q0', .int .i64 q1', .int .i64 q2', .int .i64 q3', .int .i64 q4', .int .i64 q5', .int .i64 q6'] 44)).cell? ⟨w.heap.size + 1, 2, none⟩ = some (.int .i64 L) := A1.out.cell 2
  have a3 : (w1.alloc (.cells #[.int .i64 q0', .int .i64 q1', .int .i64 q2', .int .i64 q3', .int .i64 q4', .int .i64 q5', .int .i64 q6'] 44)).cell? ⟨w.heap.size + 1, 3, none⟩ = some (.string ⟨#[]⟩) := A1.out.cell 3
  have p0 : (w1.alloc (.cells #[.int .i64 q0', .int .i64 q1', .int .i64 q2', .int .i64 q3', .int .i64 q4', .int .i64 q5', .int .i64 q6'] 44)).cell? ⟨w.heap.size + 1 + 1, 0, none⟩ = some (.int .i64 g.sum) := P1.out.cell 0
  have pf0 := P1.out.frozen 0
  have p1 : (w1.alloc (.cells #[.int .i64 q0', .int .i64 q1', .int .i64 q2', .int .i64 q3', .int .i64 q4', .int .i64 q5', .int .i64 q6'] 44)).cell? ⟨w.heap.size + 1 + 1, 1, none⟩ = some (.int .i64 g.peak) := P1.out.cell 1
  have pf1 := P1.out.frozen 1
  have p2 : (w1.alloc (.cells #[.int .i64 q0', .int .i64 q1', .int .i64 q2', .int .i64 q3', .int .i64 q4', .int .i64 q5', .int .i64 q6'] 44)).cell? ⟨w.heap.size + 1 + 1, 2, none⟩ = some (.int .i64 g.dip) := P1.out.cell 2
  have pf2 := P1.out.frozen 2
  have p3 : (w1.alloc (.cells #[.int .i64 q0', .int .i64 q1', .int .i64 q2', .int .i64 q3', .int .i64 q4', .int .i64 q5', .int .i64 q6'] 44)).cell? ⟨w.heap.size + 1 + 1, 3, none⟩ = some (.int .i64 hi) := P1.out.cell 3
  have pf3 := P1.out.frozen 3
  have p4 : (w1.alloc (.cells #[.int .i64 q0', .int .i64 q1', .int .i64 q2', .int .i64 q3', .int .i64 q4', .int .i64 q5', .int .i64 q6'] 44)).cell? ⟨w.heap.size + 1 + 1, 4, none⟩ = some (.int .i64 lo) := P1.out.cell 4
  have pf4 := P1.out.frozen 4
  have p5 : (w1.alloc (.cells #[.int .i64 q0', .int .i64 q1', .int .i64 q2', .int .i64 q3', .int .i64 q4', .int .i64 q5', .int .i64 q6'] 44)).cell? ⟨w.heap.size + 1 + 1, 5, none⟩ = some (.int .i64 g.seq) := P1.out.cell 5
  have pf5 := P1.out.frozen 5
  have p6 : (w1.alloc (.cells #[.int .i64 q0', .int .i64 q1', .int .i64 q2', .int .i64 q3', .int .i64 q4', .int .i64 q5', .int .i64 q6'] 44)).cell? ⟨w.heap.size + 1 + 1, 6, none⟩ = some (.int .i64 g.dropped) := P1.out.cell 6
  have pf6 := P1.out.frozen 6
  have y0 : (w1.alloc (.cells #[.int .i64 q0', .int .i64 q1', .int .i64 q2', .int .i64 q3', .int .i64 q4', .int .i64 q5', .int .i64 q6'] 44)).cell? ⟨w1.heap.size, 0, none⟩ = some (.int .i64 q0') := Q1.out.cell 0
  have y1 : (w1.alloc (.cells #[.int .i64 q0', .int .i64 q1', .int .i64 q2', .int .i64 q3', .int .i64 q4', .int .i64 q5', .int .i64 q6'] 44)).cell? ⟨w1.heap.size, 1, none⟩ = some (.int .i64 q1') := Q1.out.cell 1
  have y2 : (w1.alloc (.cells #[.int .i64 q0', .int .i64 q1', .int .i64 q2', .int .i64 q3', .int .i64 q4', .int .i64 q5', .int .i64 q6'] 44)).cell? ⟨w1.heap.size, 2, none⟩ = some (.int .i64 q2') := Q1.out.cell 2
  have y3 : (w1.alloc (.cells #[.int .i64 q0', .int .i64 q1', .int .i64 q2', .int .i64 q3', .int .i64 q4', .int .i64 q5', .int .i64 q6'] 44)).cell? ⟨w1.heap.size, 3, none⟩ = some (.int .i64 q3') := Q1.out.cell 3
  have y4 : (w1.alloc (.cells #[.int .i64 q0', .int .i64 q1', .int .i64 q2', .int .i64 q3', .int .i64 q4', .int .i64 q5', .int .i64 q6'] 44)).cell? ⟨w1.heap.size, 4, none⟩ = some (.int .i64 q4') := Q1.out.cell 4
  have y5 : (w1.alloc (.cells #[.int .i64 q0', .int .i64 q1', .int .i64 q2', .int .i64 q3', .int .i64 q4', .int .i64 q5', .int .i64 q6'] 44)).cell? ⟨w1.heap.size, 5, none⟩ = some (.int .i64 q5') := Q1.out.cell 5
  have y6 : (w1.alloc (.cells #[.int .i64 q0', .int .i64 q1', .int .i64 q2', .int .i64 q3', .int .i64 q4', .int .i64 q5', .int .i64 q6'] 44)).cell? ⟨w1.heap.size, 6, none⟩ = some (.int .i64 q6') := Q1.out.cell 6
  have i8 : (w1.alloc (.cells #[.int .i64 q0', .int .i64 q1', .int .i64 q2', .int .i64 q3', .int .i64 q4', .int .i64 q5', .int .i64 q6'] 44)).cell? ⟨gp, 8, none⟩ = some (.int .i64 g.at_) := H1.out.cell 8 (gh_get _ H1.out.len).1
  have i9 : (w1.alloc (.cells #[.int .i64 q0', .int .i64 q1', .int .i64 q2', .int .i64 q3', .int .i64 q4', .int .i64 q5', .int .i64 q6'] 44)).cell? ⟨gp, 9, none⟩ = some (.int .i64 g.depth) := H1.out.cell 9 (gh_get _ H1.out.len).2.1
  have i10 : (w1.alloc (.cells #[.int .i64 q0', .int .i64 q1', .int .i64 q2', .int .i64 q3', .int .i64 q4', .int .i64 q5', .int .i64 q6'] 44)).cell? ⟨gp, 10, none⟩ = some (.int .i64 g.mode) := H1.out.cell 10 (gh_get _ H1.out.len).2.2
  have z9 := H1.out.frozen 9
  have z10 := H1.out.frozen 10
  have RK : Hid (∀ w' (h' : Cv w' zl g.c g.z), Calls _ _ _ _ _) := fun w' h' => round32_o zl a g.mode g.c g.z w' HG.out.2.2.1 h' ⟨HG.out.1.c0, by have := HG.out.1.c1; have := HG.out.2.1; omega⟩ ⟨HG.out.1.z0, by have := HG.out.1.z1; have := HG.out.2.1; omega⟩
  rw [ER.out] at RK
  try dsimp only at RK
  try simp only [Int.add_zero] at RK
  go_wp2_with fail
  generalize (w1.alloc (.cells #[.int .i64 q0', .int .i64 q1', .int .i64 q2', .int .i64 q3', .int .i64 q4', .int .i64 q5', .int .i64 q6'] 44)) = w2 at C1 O1 A1 P1 Q1 H1 Z1 o0 o1 o2 a0 a1 a2 a3 p0 p1 p2 p3 p4 p5 p6 pf0 pf1 pf2 pf3 pf4 pf5 pf6 y0 y1 y2 y3 y4 y5 y6 i8 i9 i10 z9 z10 ⊢
  go_region_held3 (fun w' => w'.cell? ⟨w.heap.size, 1, none⟩ = some (.int .i64 a) ∧ w'.cell? ⟨gp, 10, none⟩ = some (.int .i64 g.mode)) (first | (simp [go_sem, o1, i10]; done) | exact ⟨by assumption, by assumption⟩)
    (first | (go_at_call 38; refine (RK.out _ (by exact Z1.out.drew)).mono ?_; rintro e w3 ⟨rfl, q3, c3⟩; have lt := LT.out; have hq := HQ.out; have C3 : Hid (Chg (fun k => k = zl ∨ k = gp) w w3) := (C1.out.drew.mono (fun k _ e => e.elim)).trans (c3.mono (fun k _ e => Or.inl e)); have Z3 : Hid (Cv w3 zl (g.c + dc) g.z) := q3; have O3 : Hid (Has 50 w3 w.heap.size [.int .i64 2, .int .i64 a, .int .i64 b, .int .i64 cc, .string s, .string t]) := O1.out.drew.kept c3 (by omega); have A3 : Hid (Has 47 w3 (w.heap.size + 1) [.int .i64 0, .int .i64 N, .int .i64 L, .string ⟨#[]⟩]) := A1.out.drew.kept c3 (by omega); have P3 : Hid (Has 44 w3 (w.heap.size + 1 + 1) [.int .i64 g.sum, .int .i64 g.peak, .int .i64 g.dip, .int .i64 hi, .int .i64 lo, .int .i64 g.seq, .int .i64 g.dropped]) := P1.out.drew.kept c3 (by omega); have Q3 : Hid (Has 44 w3 w1.heap.size [.int .i64 q0', .int .i64 q1', .int .i64 q2', .int .i64 q3', .int .i64 q4', .int .i64 q5', .int .i64 q6']) := Q1.out.drew.kept c3 (by omega); have H3 : Hid (Gh w3 gp g) := H1.out.drew.kept c3 (by omega); have o0 : w3.cell? ⟨w.heap.size, 0, none⟩ = some (.int .i64 2) := O3.out.cell 0; have o1 : w3.cell? ⟨w.heap.size, 1, none⟩ = some (.int .i64 a) := O3.out.cell 1; have o2 : w3.cell? ⟨w.heap.size, 2, none⟩ = some (.int .i64 b) := O3.out.cell 2; have a0 : w3.cell? ⟨w.heap.size + 1, 0, none⟩ = some (.int .i64 0) := A3.out.cell 0; have a1 : w3.cell? ⟨w.heap.size + 1, 1, none⟩ = some (.int .i64 N) := A3.out.cell 1; have a2 : w3.cell? ⟨w.heap.size + 1, 2, none⟩ = some (.int .i64 L) := A3.out.cell 2; have a3 : w3.cell? ⟨w.heap.size + 1, 3, none⟩ = some (.string ⟨#[]⟩) := A3.out.cell 3; have p0 : w3.cell? ⟨w.heap.size + 1 + 1, 0, none⟩ = some (.int .i64 g.sum) := P3.out.cell 0; have pf0 := P3.out.frozen 0; have p1 : w3.cell? ⟨w.heap.size + 1 + 1, 1, none⟩ = some (.int .i64 g.peak) := P3.out.cell 1; have pf1 := P3.out.frozen 1; have p2 : w3.cell? ⟨w.heap.size + 1 + 1, 2, none⟩ = some (.int .i64 g.dip) := P3.out.cell 2; have pf2 := P3.out.frozen 2; have p3 : w3.cell? ⟨w.heap.size + 1 + 1, 3, none⟩ = some (.int .i64 hi) := P3.out.cell 3; have pf3 := P3.out.frozen 3; have p4 : w3.cell? ⟨w.heap.size + 1 + 1, 4, none⟩ = some (.int .i64 lo) := P3.out.cell 4; have pf4 := P3.out.frozen 4; have p5 : w3.cell? ⟨w.heap.size + 1 + 1, 5, none⟩ = some (.int .i64 g.seq) := P3.out.cell 5; have pf5 := P3.out.frozen 5; have p6 : w3.cell? ⟨w.heap.size + 1 + 1, 6, none⟩ = some (.int .i64 g.dropped) := P3.out.cell 6; have pf6 := P3.out.frozen 6; have y0 : w3.cell? ⟨w1.heap.size, 0, none⟩ = some (.int .i64 q0') := Q3.out.cell 0; have y1 : w3.cell? ⟨w1.heap.size, 1, none⟩ = some (.int .i64 q1') := Q3.out.cell 1; have y2 : w3.cell? ⟨w1.heap.size, 2, none⟩ = some (.int .i64 q2') := Q3.out.cell 2; have y3 : w3.cell? ⟨w1.heap.size, 3, none⟩ = some (.int .i64 q3') := Q3.out.cell 3; have y4 : w3.cell? ⟨w1.heap.size, 4, none⟩ = some (.int .i64 q4') := Q3.out.cell 4; have y5 : w3.cell? ⟨w1.heap.size, 5, none⟩ = some (.int .i64 q5') := Q3.out.cell 5; have y6 : w3.cell? ⟨w1.heap.size, 6, none⟩ = some (.int .i64 q6') := Q3.out.cell 6; have i8 : w3.cell? ⟨gp, 8, none⟩ = some (.int .i64 g.at_) := H3.out.cell 8 (gh_get _ H3.out.len).1; have i9 : w3.cell? ⟨gp, 9, none⟩ = some (.int .i64 g.depth) := H3.out.cell 9 (gh_get _ H3.out.len).2.1; have i10 : w3.cell? ⟨gp, 10, none⟩ = some (.int .i64 g.mode) := H3.out.cell 10 (gh_get _ H3.out.len).2.2; clear q3 c3 lt hq))
  clear C1 O1 A1 P1 Q1 H1 Z1
  have NK : Hid (∀ w, Calls Tryd.prog 39 #[.int .i64 a] w fun e w' => e = .returned (.bool false) ∧ w' = w) := fun w => (isNaNm_any a w).mono fun e w' ⟨h1, h2⟩ => ⟨by rw [h1, decide_eq_false (by have := HNAN.out; omega)], h2⟩
  go_wp2_with fail
  have eW : IntKind.i64.wrap (g.at_ * 6) = g.at_ * 6 := by have := HG.out.1.a0; have := HG.out.1.a8; rw [IntKind.wrap_i64]; omega
  refine wp_region_held_drew (S := fun w' => w'.cell? ⟨w.heap.size, 1, none⟩ = some (.int .i64 a) ∧ w'.cell? ⟨w.heap.size + 1, 1, none⟩ = some (.int .i64 N) ∧ w'.cell? ⟨w.heap.size + 1, 2, none⟩ = some (.int .i64 L) ∧ w'.cell? ⟨w.heap.size + 1 + 1, 0, none⟩ = some (.int .i64 g.sum) ∧ w'.cell? ⟨w.heap.size + 1 + 1, 1, none⟩ = some (.int .i64 g.peak) ∧ w'.cell? ⟨w.heap.size + 1 + 1, 2, none⟩ = some (.int .i64 g.dip) ∧ w'.cell? ⟨w.heap.size + 1 + 1, 3, none⟩ = some (.int .i64 hi) ∧ w'.cell? ⟨w.heap.size + 1 + 1, 4, none⟩ = some (.int .i64 lo) ∧ w'.cell? ⟨w.heap.size + 1 + 1, 5, none⟩ = some (.int .i64 g.seq) ∧ w'.cell? ⟨w.heap.size + 1 + 1, 6, none⟩ = some (.int .i64 g.dropped) ∧ w'.cell? ⟨w1.heap.size, 0, none⟩ = some (.int .i64 q0') ∧ w'.cell? ⟨w1.heap.size, 1, none⟩ = some (.int .i64 q1') ∧ w'.cell? ⟨w1.heap.size, 2, none⟩ = some (.int .i64 q2') ∧ w'.cell? ⟨w1.heap.size, 3, none⟩ = some (.int .i64 q3') ∧ w'.cell? ⟨w1.heap.size, 4, none⟩ = some (.int .i64 q4') ∧ w'.cell? ⟨w1.heap.size, 5, none⟩ = some (.int .i64 q5') ∧ w'.cell? ⟨w1.heap.size, 6, none⟩ = some (.int .i64 q6')) (by kernel_rfl) (by (simp [go_sem, o1, a1, a2, p0, p1, p2, p3, p4, p5, p6, y0, y1, y2, y3, y4, y5, y6]; done)) (fun hHeld => ?_)
  refine wpAnyH_take (i := 0) (v := .pointer (some ⟨w.heap.size, 1, none⟩)) rfl (by kernel_rfl) (by kernel_rfl) (by kernel_rfl) (fun _ _ _ h => h) (Or.inl ⟨by rfl, fun w hSw => by (try dsimp only at hSw); go_simp⟩) hHeld ?_
  try simp only [Act.put, List.getElem_toArray, List.getElem_cons_zero, List.getElem_cons_succ, List.setIfInBounds_toArray, List.set_cons_zero, List.set_cons_succ]
  refine wpAnyH_take (i := 1) (v := .int .i64 a) rfl (by kernel_rfl) (by kernel_rfl) (by kernel_rfl) (fun _ _ _ h => h) (Or.inl ⟨by rfl, fun w hSw => by (try dsimp only at hSw); go_simp⟩) hHeld ?_
  try simp only [Act.put, List.getElem_toArray, List.getElem_cons_zero, List.getElem_cons_succ, List.setIfInBounds_toArray, List.set_cons_zero, List.set_cons_succ]
  refine wpAnyH_ready (rs := [2]) (by kernel_rfl) (by simp) ?_
  refine AllReadyH.cons rfl (fun K hK => ?_) AllReadyH.nil
  go_simp
  refine (NK.out _).mono ?_; rintro e w4 ⟨rfl, rfl⟩
  go_wp2_with fail
  refine hK.out _ _ hHeld (fun hHeld2 => ?_)
  clear hK K hHeld2
  try simp only [Act.put, List.getElem_toArray, List.getElem_cons_zero, List.getElem_cons_succ, List.setIfInBounds_toArray, List.set_cons_zero, List.set_cons_succ]
  refine wpAnyH_take (i := 3) (v := .bool true) rfl (by kernel_rfl) (by kernel_rfl) (by kernel_rfl) (fun _ _ _ h => h) (Or.inl ⟨by rfl, fun w hSw => by (try dsimp only at hSw); go_simp⟩) hHeld ?_
  try simp only [Act.put, List.getElem_toArray, List.getElem_cons_zero, List.getElem_cons_succ, List.setIfInBounds_toArray, List.set_cons_zero, List.set_cons_succ]
  refine wpAnyH_take (i := 4) (v := .bool true) rfl (by kernel_rfl) (by kernel_rfl) (by kernel_rfl) (fun _ _ _ h => h) (Or.inl ⟨by rfl, fun w hSw => by (try dsimp only at hSw); go_simp⟩) hHeld ?_
  try simp only [Act.put, List.getElem_toArray, List.getElem_cons_zero, List.getElem_cons_succ, List.setIfInBounds_toArray, List.set_cons_zero, List.set_cons_succ]
  refine wpAnyH_take (i := 5) (v := .pointer (some ⟨gp, 0, none⟩)) rfl (by kernel_rfl) (by kernel_rfl) (by kernel_rfl) (fun _ _ _ h => h) (Or.inl ⟨by rfl, fun w hSw => by (try dsimp only at hSw); go_simp⟩) hHeld ?_
  try simp only [Act.put, List.getElem_toArray, List.getElem_cons_zero, List.getElem_cons_succ, List.setIfInBounds_toArray, List.set_cons_zero, List.set_cons_succ]
  refine wpAnyH_take (i := 6) (v := .agg #[.int .i64 g.sum, .int .i64 g.peak, .int .i64 g.dip, .int .i64 hi, .int .i64 lo, .int .i64 g.seq, .int .i64 g.dropped]) rfl (by kernel_rfl) (by kernel_rfl) (by kernel_rfl) (fun _ _ _ h => h) (Or.inl ⟨by rfl, fun w hSw => by (try dsimp only at hSw); go_simp⟩) hHeld ?_
  try simp only [Act.put, List.getElem_toArray, List.getElem_cons_zero, List.getElem_cons_succ, List.setIfInBounds_toArray, List.set_cons_zero, List.set_cons_succ]
  refine wpAnyH_take (i := 7) (v := .agg #[.int .i64 q0', .int .i64 q1', .int .i64 q2', .int .i64 q3', .int .i64 q4', .int .i64 q5', .int .i64 q6']) rfl (by kernel_rfl) (by kernel_rfl) (by kernel_rfl) (fun _ _ _ h => h) (Or.inl ⟨by rfl, fun w hSw => by (try dsimp only at hSw); go_simp⟩) hHeld ?_
  try simp only [Act.put, List.getElem_toArray, List.getElem_cons_zero, List.getElem_cons_succ, List.setIfInBounds_toArray, List.set_cons_zero, List.set_cons_succ]
  refine wpAnyH_take (i := 8) (v := .pointer (some ⟨w.heap.size, 1, none⟩)) rfl (by kernel_rfl) (by kernel_rfl) (by kernel_rfl) (fun _ _ _ h => h) (Or.inl ⟨by rfl, fun w hSw => by (try dsimp only at hSw); go_simp⟩) hHeld ?_
  try simp only [Act.put, List.getElem_toArray, List.getElem_cons_zero, List.getElem_cons_succ, List.setIfInBounds_toArray, List.set_cons_zero, List.set_cons_succ]
  refine wpAnyH_take (i := 9) (v := .int .i64 a) rfl (by kernel_rfl) (by kernel_rfl) (by kernel_rfl) (fun _ _ _ h => h) (Or.inl ⟨by rfl, fun w hSw => by (try dsimp only at hSw); go_simp⟩) hHeld ?_
  try simp only [Act.put, List.getElem_toArray, List.getElem_cons_zero, List.getElem_cons_succ, List.setIfInBounds_toArray, List.set_cons_zero, List.set_cons_succ]
  refine wpAnyH_take (i := 10) (v := .pointer (some ⟨w.heap.size + 1, 1, none⟩)) rfl (by kernel_rfl) (by kernel_rfl) (by kernel_rfl) (fun _ _ _ h => h) (Or.inl ⟨by rfl, fun w hSw => by (try dsimp only at hSw); go_simp⟩) hHeld ?_
  try simp only [Act.put, List.getElem_toArray, List.getElem_cons_zero, List.getElem_cons_succ, List.setIfInBounds_toArray, List.set_cons_zero, List.set_cons_succ]
  refine wpAnyH_take (i := 11) (v := .int .i64 N) rfl (by kernel_rfl) (by kernel_rfl) (by kernel_rfl) (fun _ _ _ h => h) (Or.inl ⟨by rfl, fun w hSw => by (try dsimp only at hSw); go_simp⟩) hHeld ?_
  try simp only [Act.put, List.getElem_toArray, List.getElem_cons_zero, List.getElem_cons_succ, List.setIfInBounds_toArray, List.set_cons_zero, List.set_cons_succ]
  refine wpAnyH_take (i := 12) (v := .pointer (some ⟨w.heap.size + 1, 2, none⟩)) rfl (by kernel_rfl) (by kernel_rfl) (by kernel_rfl) (fun _ _ _ h => h) (Or.inl ⟨by rfl, fun w hSw => by (try dsimp only at hSw); go_simp⟩) hHeld ?_
  try simp only [Act.put, List.getElem_toArray, List.getElem_cons_zero, List.getElem_cons_succ, List.setIfInBounds_toArray, List.set_cons_zero, List.set_cons_succ]
  refine wpAnyH_take (i := 13) (v := .int .i64 L) rfl (by kernel_rfl) (by kernel_rfl) (by kernel_rfl) (fun _ _ _ h => h) (Or.inl ⟨by rfl, fun w hSw => by (try dsimp only at hSw); go_simp⟩) hHeld ?_
  try simp only [Act.put, List.getElem_toArray, List.getElem_cons_zero, List.getElem_cons_succ, List.setIfInBounds_toArray, List.set_cons_zero, List.set_cons_succ]
  refine wpAnyH_take (i := 14) (v := .pointer (some ⟨gp, 0, none⟩)) rfl (by kernel_rfl) (by kernel_rfl) (by kernel_rfl) (fun _ _ _ h => h) (Or.inl ⟨by rfl, fun w hSw => by (try dsimp only at hSw); go_simp⟩) hHeld ?_
  try simp only [Act.put, List.getElem_toArray, List.getElem_cons_zero, List.getElem_cons_succ, List.setIfInBounds_toArray, List.set_cons_zero, List.set_cons_succ]
  refine wpAnyH_take (i := 15) (v := .pointer (some ⟨gp, 0, none⟩)) rfl (by kernel_rfl) (by kernel_rfl) (by kernel_rfl) (fun _ _ _ h => h) (Or.inl ⟨by rfl, fun w hSw => by (try dsimp only at hSw); go_simp⟩) hHeld ?_
  try simp only [Act.put, List.getElem_toArray, List.getElem_cons_zero, List.getElem_cons_succ, List.setIfInBounds_toArray, List.set_cons_zero, List.set_cons_succ]
  refine wpAnyH_take (i := 16) (v := .pointer (some ⟨gp, 8, none⟩)) rfl (by kernel_rfl) (by kernel_rfl) (by kernel_rfl) (fun _ _ _ h => h) (Or.inl ⟨by rfl, fun w hSw => by (try dsimp only at hSw); go_simp⟩) hHeld ?_
  try simp only [Act.put, List.getElem_toArray, List.getElem_cons_zero, List.getElem_cons_succ, List.setIfInBounds_toArray, List.set_cons_zero, List.set_cons_succ]
  refine wpAnyH_ready (rs := [17]) (by kernel_rfl) (by simp) ?_
  refine AllReadyH.cons rfl (fun K hK => ?_) AllReadyH.nil
  go_simp
  refine hK.out _ _ hHeld (fun hHeld2 => ?_)
  clear hK K hHeld2
  try simp only [Act.put, List.getElem_toArray, List.getElem_cons_zero, List.getElem_cons_succ, List.setIfInBounds_toArray, List.set_cons_zero, List.set_cons_succ]
  refine wpAnyH_take (i := 18) (v := .int .i64 (g.at_ * 6)) rfl (by kernel_rfl) (by kernel_rfl) (by kernel_rfl) (fun _ _ _ h => h) (Or.inl ⟨by rfl, fun w hSw => by (try dsimp only at hSw); go_simp⟩) hHeld ?_
  try simp only [Act.put, List.getElem_toArray, List.getElem_cons_zero, List.getElem_cons_succ, List.setIfInBounds_toArray, List.set_cons_zero, List.set_cons_succ]
  refine wpAnyH_ready (rs := [19]) (by kernel_rfl) (by simp) ?_
  refine AllReadyH.cons rfl (fun K hK => ?_) AllReadyH.nil
  go_simp
  refine (FK.out _ (by exact H3.out.drew)).mono ?_
  rintro e w4 ⟨rfl, h4, c4⟩
  have lt := LT.out
  have hq := HQ.out
  have C4 : Hid (Chg (fun k => k = zl ∨ k = gp) w w4) := C3.out.drew.trans (c4.mono (fun k _ e => Or.inr e))
  have Z4 : Hid (Cv w4 zl (g.c + dc) g.z) := Z3.out.drew.kept c4 (by omega)
  have H4 : Hid (Gh w4 gp g') := h4
  have O4 := O3.out.drew.kept c4 (by omega)
  have A4 := A3.out.drew.kept c4 (by omega)
  have P4 := P3.out.drew.kept c4 (by omega)
  have Q4 := Q3.out.drew.kept c4 (by omega)
  have t0 : w4.cell? ⟨w.heap.size, 1, none⟩ = some (.int .i64 a) := O4.cell 1
  have t1 : w4.cell? ⟨w.heap.size + 1, 1, none⟩ = some (.int .i64 N) := A4.cell 1
  have t2 : w4.cell? ⟨w.heap.size + 1, 2, none⟩ = some (.int .i64 L) := A4.cell 2
  have t3 : w4.cell? ⟨w.heap.size + 1 + 1, 0, none⟩ = some (.int .i64 g.sum) := P4.cell 0
  have t4 : w4.cell? ⟨w.heap.size + 1 + 1, 1, none⟩ = some (.int .i64 g.peak) := P4.cell 1
  have t5 : w4.cell? ⟨w.heap.size + 1 + 1, 2, none⟩ = some (.int .i64 g.dip) := P4.cell 2
  have t6 : w4.cell? ⟨w.heap.size + 1 + 1, 3, none⟩ = some (.int .i64 hi) := P4.cell 3
  have t7 : w4.cell? ⟨w.heap.size + 1 + 1, 4, none⟩ = some (.int .i64 lo) := P4.cell 4
  have t8 : w4.cell? ⟨w.heap.size + 1 + 1, 5, none⟩ = some (.int .i64 g.seq) := P4.cell 5
  have t9 : w4.cell? ⟨w.heap.size + 1 + 1, 6, none⟩ = some (.int .i64 g.dropped) := P4.cell 6
  have t10 : w4.cell? ⟨w1.heap.size, 0, none⟩ = some (.int .i64 q0') := Q4.cell 0
  have t11 : w4.cell? ⟨w1.heap.size, 1, none⟩ = some (.int .i64 q1') := Q4.cell 1
  have t12 : w4.cell? ⟨w1.heap.size, 2, none⟩ = some (.int .i64 q2') := Q4.cell 2
  have t13 : w4.cell? ⟨w1.heap.size, 3, none⟩ = some (.int .i64 q3') := Q4.cell 3
  have t14 : w4.cell? ⟨w1.heap.size, 4, none⟩ = some (.int .i64 q4') := Q4.cell 4
  have t15 : w4.cell? ⟨w1.heap.size, 5, none⟩ = some (.int .i64 q5') := Q4.cell 5
  have t16 : w4.cell? ⟨w1.heap.size, 6, none⟩ = some (.int .i64 q6') := Q4.cell 6
  clear lt hq O4 A4 P4 Q4 h4 c4
  go_wp2_with fail
  refine hK.out _ _ ⟨t0, t1, t2, t3, t4, t5, t6, t7, t8, t9, t10, t11, t12, t13, t14, t15, t16⟩ (fun hHeld => ?_)
  clear hK K
  try simp only [Act.put, List.getElem_toArray, List.getElem_cons_zero, List.getElem_cons_succ, List.setIfInBounds_toArray, List.set_cons_zero, List.set_cons_succ]
  refine wpAnyH_take (i := 20) (v := .bool true) rfl (by kernel_rfl) (by kernel_rfl) (by kernel_rfl) (fun _ _ _ h => h) (Or.inl ⟨by rfl, fun w hSw => by (try dsimp only at hSw); go_simp⟩) hHeld ?_
  try simp only [Act.put, List.getElem_toArray, List.getElem_cons_zero, List.getElem_cons_succ, List.setIfInBounds_toArray, List.set_cons_zero, List.set_cons_succ]
  refine wpAnyH_take (i := 21) (v := .bool true) rfl (by kernel_rfl) (by kernel_rfl) (by kernel_rfl) (fun _ _ _ h => h) (Or.inl ⟨by rfl, fun w hSw => by (try dsimp only at hSw); go_simp⟩) hHeld ?_
  try simp only [Act.put, List.getElem_toArray, List.getElem_cons_zero, List.getElem_cons_succ, List.setIfInBounds_toArray, List.set_cons_zero, List.set_cons_succ]
  refine wpAnyH_done (by kernel_rfl) ?_ _
  go_wp2_with fail
  go_ret
  exact ⟨rfl, Z4.out, H4.out, C4.out⟩

theorem kp_16f (p zl gp : Nat) (l : Lk) (g g' : PS) (n : Int) (N L dc a b cc : Int) (s t : ByteArray) (w : World) (hg : Good g n) (hn : n ≤ 4611686018427387904) (hg' : Good g' (n + 1)) (ha : I64 a) (hb : I64 b) (hx : Ap w p l g') (hc : Cv w zl g.c g.z) (hh : Gh w gp g) (hzg : zl ≠ gp) (hnan : ¬ 9218868437227405312 < (mg a : Int)) (er : r32O a g.mode = ⟨0, N, 0, dc, 0⟩) (gc : g'.c = g.c + dc) (gz : g'.z = g.z) (hf : ∀ w', Gh w' gp g → Calls Tryd.prog 40 #[.pointer (some ⟨gp, 0, none⟩), befV g, befV g', .int .i64 a, .int .i64 N, .int .i64 L, .int .i64 (b % 4294967296)] w' fun e w'' => e = .returned (.bool true) ∧ Gh w'' gp g' ∧ Chg (fun k => k = gp) w' w'') :
    Calls Tryd.prog 19 #[.pointer (some ⟨p, 0, none⟩), .pointer (some ⟨zl, 0, none⟩), .pointer (some ⟨gp, 0, none⟩), opV 16 a b cc s t, ansV 0 N L ⟨#[]⟩, befV g] w fun e w' => e = .returned (.bool true) ∧ Cv w' zl g'.c g'.z ∧ Gh w' gp g' ∧ Chg (fun k => k = zl ∨ k = gp) w w' := by
  have LK : Hid (∀ w' (h : Ap w' p l g'), Calls _ _ _ _ _) := fun w' h => look_any p l g' (n + 1) w' hg' h
  unfold befV at LK
  unfold opV ansV befV
  try dsimp only at LK
  try dsimp only
  have HX : Hid (Ap w p l g') := hx
  have HC : Hid (Cv w zl g.c g.z) := hc
  have HH : Hid (Gh w gp g) := hh
  have HG : Hid (Good g n ∧ n ≤ 4611686018427387904 ∧ I64 a ∧ I64 b) := ⟨hg, hn, ha, hb⟩
  have LT : Hid (zl < w.heap.size ∧ gp < w.heap.size ∧ zl ≠ gp) := ⟨Has.lt hc, hh.lt, hzg⟩
  have q0 := hg.q0; have r0 := hg.r0; have A0 := hg.a0; have A8 := hg.a8
  have q1 : g.seq ≤ 4611686018427387904 := by have := hg.q1; omega
  have r1 : g.dropped ≤ 4611686018427387904 := by have := hg.r1; omega
  have e5 := and32 b
  have ER : Hid (r32O a g.mode = ⟨0, N, 0, dc, 0⟩) := er
  have HNAN : Hid (¬ 9218868437227405312 < (mg a : Int)) := hnan
  have FK : Hid (∀ w', Gh w' gp g → Calls _ _ _ _ _) := hf
  rw [gc, gz]
  clear hnan er hf gc gz
  unfold befV at FK
  generalize sumSq g.ring / 4294967296 = hi at LK FK ⊢
  generalize sumSq g.ring % 4294967296 = lo at LK FK ⊢
  generalize g'.sum = q0' at LK FK
  generalize g'.peak = q1' at LK FK
  generalize g'.dip = q2' at LK FK
  generalize sumSq g'.ring / 4294967296 = q3' at LK FK
  generalize sumSq g'.ring % 4294967296 = q4' at LK FK
  generalize g'.seq = q5' at LK FK
  generalize g'.dropped = q6' at LK FK
  have O0 : Hid (Has 50 (((w.alloc (.cells #[.int .i64 16, .int .i64 a, .int .i64 b, .int .i64 cc, .string s, .string t] 50)).alloc (.cells #[.int .i64 0, .int .i64 N, .int .i64 L, .string ⟨#[]⟩] 47)).alloc (.cells #[.int .i64 g.sum, .int .i64 g.peak, .int .i64 g.dip, .int .i64 hi, .int .i64 lo, .int .i64 g.seq, .int .i64 g.dropped] 44)) w.heap.size [.int .i64 16, .int .i64 a, .int .i64 b, .int .i64 cc, .string s, .string t]) := ((Has.new 50 w [.int .i64 16, .int .i64 a, .int .i64 b, .int .i64 cc, .string s, .string t]).alloc _).alloc _
  have A0 : Hid (Has 47 (((w.alloc (.cells #[.int .i64 16, .int .i64 a, .int .i64 b, .int .i64 cc, .string s, .string t] 50)).alloc (.cells #[.int .i64 0, .int .i64 N, .int .i64 L, .string ⟨#[]⟩] 47)).alloc (.cells #[.int .i64 g.sum, .int .i64 g.peak, .int .i64 g.dip, .int .i64 hi, .int .i64 lo, .int .i64 g.seq, .int .i64 g.dropped] 44)) (w.heap.size + 1) [.int .i64 0, .int .i64 N, .int .i64 L, .string ⟨#[]⟩]) := (hasAt (by simp) [.int .i64 0, .int .i64 N, .int .i64 L, .string ⟨#[]⟩]).alloc _
  have P0 : Hid (Has 44 (((w.alloc (.cells #[.int .i64 16, .int .i64 a, .int .i64 b, .int .i64 cc, .string s, .string t] 50)).alloc (.cells #[.int .i64 0, .int .i64 N, .int .i64 L, .string ⟨#[]⟩] 47)).alloc (.cells #[.int .i64 g.sum, .int .i64 g.peak, .int .i64 g.dip, .int .i64 hi, .int .i64 lo, .int .i64 g.seq, .int .i64 g.dropped] 44)) (w.heap.size + 1 + 1) [.int .i64 g.sum, .int .i64 g.peak, .int .i64 g.dip, .int .i64 hi, .int .i64 lo, .int .i64 g.seq, .int .i64 g.dropped]) := hasAt (by simp) [.int .i64 g.sum, .int .i64 g.peak, .int .i64 g.dip, .int .i64 hi, .int .i64 lo, .int .i64 g.seq, .int .i64 g.dropped]
  have C0 : Hid (Chg (fun _ => False) w (((w.alloc (.cells #[.int .i64 16, .int .i64 a, .int .i64 b, .int .i64 cc, .string s, .string t] 50)).alloc (.cells #[.int .i64 0, .int .i64 N, .int .i64 L, .string ⟨#[]⟩] 47)).alloc (.cells #[.int .i64 g.sum, .int .i64 g.peak, .int .i64 g.dip, .int .i64 hi, .int .i64 lo, .int .i64 g.seq, .int .i64 g.dropped] 44))) := ((((Chg.refl _ w).alloc _).alloc _).alloc _)
  clear hg hn hg' ha hb hx hc hh hzg
  go_enter Tryd.func19, Tryd.ntmps19
  go_wp2_with fail
  refine (LK.out _ (ap_nil HX.out C0.out)).mono ?_; rintro e w1 ⟨rfl, c1⟩
  have C1 : Hid (Chg (fun _ => False) w (w1.alloc (.cells #[.int .i64 q0', .int .i64 q1', .int .i64 q2', .int .i64 q3', .int .i64 q4', .int .i64 q5', .int .i64 q6'] 44))) := (C0.out.trans c1).alloc _
  have O1 : Hid (Has 50 (w1.alloc (.cells #[.int .i64 q0', .int .i64 q1', .int .i64 q2', .int .i64 q3', .int .i64 q4', .int .i64 q5', .int .i64 q6'] 44)) w.heap.size [.int .i64 16, .int .i64 a, .int .i64 b, .int .i64 cc, .string s, .string t]) := (O0.out.kept c1 (fun h => h)).alloc _
  have A1 : Hid (Has 47 (w1.alloc (.cells #[.int .i64 q0', .int .i64 q1', .int .i64 q2', .int .i64 q3', .int .i64 q4', .int .i64 q5', .int .i64 q6'] 44)) (w.heap.size + 1) [.int .i64 0, .int .i64 N, .int .i64 L, .string ⟨#[]⟩]) := (A0.out.kept c1 (fun h => h)).alloc _
  have P1 : Hid (Has 44 (w1.alloc (.cells #[.int .i64 q0', .int .i64 q1', .int .i64 q2', .int .i64 q3', .int .i64 q4', .int .i64 q5', .int .i64 q6'] 44)) (w.heap.size + 1 + 1) [.int .i64 g.sum, .int .i64 g.peak, .int .i64 g.dip, .int .i64 hi, .int .i64 lo, .int .i64 g.seq, .int .i64 g.dropped]) := (P0.out.kept c1 (fun h => h)).alloc _
  have Q1 : Hid (Has 44 (w1.alloc (.cells #[.int .i64 q0', .int .i64 q1', .int .i64 q2', .int .i64 q3', .int .i64 q4', .int .i64 q5', .int .i64 q6'] 44)) w1.heap.size [.int .i64 q0', .int .i64 q1', .int .i64 q2', .int .i64 q3', .int .i64 q4', .int .i64 q5', .int .i64 q6']) := Has.new _ _ _
  have HQ : Hid (w.heap.size + 1 + 1 < w1.heap.size) := by have h1 := P0.out.lt; have h2 := c1.size; show w.heap.size + 1 + 1 < w1.heap.size; omega
  have H1 : Hid (Gh (w1.alloc (.cells #[.int .i64 q0', .int .i64 q1', .int .i64 q2', .int .i64 q3', .int .i64 q4', .int .i64 q5', .int .i64 q6'] 44)) gp g) := (HH.out.nil (C0.out.trans c1)).nil ((Chg.refl _ _).alloc _)
  have Z1 : Hid (Cv (w1.alloc (.cells #[.int .i64 q0', .int .i64 q1', .int .i64 q2', .int .i64 q3', .int .i64 q4', .int .i64 q5', .int .i64 q6'] 44)) zl g.c g.z) := ((HC.out.kept C0.out (fun h => h)).kept c1 (fun h => h)).alloc _
  clear c1 O0 A0 P0 C0 LK HX HC HH
  have o0 : (w1.alloc (.cells #[.int .i64 q0', .int .i64 q1', .int .i64 q2', .int .i64 q3', .int .i64 q4', .int .i64 q5', .int .i64 q6'] 44)).cell? ⟨w.heap.size, 0, none⟩ = some (.int .i64 16) := O1.out.cell 0
  have o1 : (w1.alloc (.cells #[.int .i64 q0', .int .i64 q1', .int .i64 q2', .int .i64 q3', .int .i64 q4', .int .i64 q5', .int .i64 q6'] 44)).cell? ⟨w.heap.size, 1, none⟩ = some (.int .i64 a) := O1.out.cell 1
  have o2 : (w1.alloc (.cells #[.int .i64 q0', .int .i64 q1', .int .i64 q2', .int .i64 q3', .int .i64 q4', .int .i64 q5', .int .i64 q6'] 44)).cell? ⟨w.heap.size, 2, none⟩ = some (.int .i64 b) := O1.out.cell 2
  have a0 : (w1.alloc (.cells #[.int .i64 q0', .int .i64 q1', .int .i64 q2', .int .i64 q3', .int .i64 q4', .int .i64 q5', .int .i64 q6'] 44)).cell? ⟨w.heap.size + 1, 0, none⟩ = some (.int .i64 0) := A1.out.cell 0
  have a1 : (w1.alloc (.cells #[.int .i64 q0', .int .i64 q1', .int .i64 q2', .int .i64 q3', .int .i64 q4', .int .i64 q5', .int .i64 q6'] 44)).cell? ⟨w.heap.size + 1, 1, none⟩ = some (.int .i64 N) := A1.out.cell 1
  have a2 : (w1.alloc (.cells #[.int .i64 q0', .int .i64 q1', .int .i64 q2', .int .i64 q3', .int .i64 q4', .int .i64 q5', .int .i64 q6'] 44)).cell? ⟨w.heap.size + 1, 2, none⟩ = some (.int .i64 L) := A1.out.cell 2
  have a3 : (w1.alloc (.cells #[.int .i64 q0', .int .i64 q1', .int .i64 q2', .int .i64 q3', .int .i64 q4', .int .i64 q5', .int .i64 q6'] 44)).cell? ⟨w.heap.size + 1, 3, none⟩ = some (.string ⟨#[]⟩) := A1.out.cell 3
  have p0 : (w1.alloc (.cells #[.int .i64 q0', .int .i64 q1', .int .i64 q2', .int .i64 q3', .int .i64 q4', .int .i64 q5', .int .i64 q6'] 44)).cell? ⟨w.heap.size + 1 + 1, 0, none⟩ = some (.int .i64 g.sum) := P1.out.cell 0
  have pf0 := P1.out.frozen 0
  have p1 : (w1.alloc (.cells #[.int .i64 q0', .int .i64 q1', .int .i64 q2', .int .i64 q3', .int .i64 q4', .int .i64 q5', .int .i64 q6'] 44)).cell? ⟨w.heap.size + 1 + 1, 1, none⟩ = some (.int .i64 g.peak) := P1.out.cell 1
  have pf1 := P1.out.frozen 1
  have p2 : (w1.alloc (.cells #[.int .i64 q0', .int .i64 q1', .int .i64 q2', .int .i64 q3', .int .i64 q4', .int .i64 q5', .int .i64 q6'] 44)).cell? ⟨w.heap.size + 1 + 1, 2, none⟩ = some (.int .i64 g.dip) := P1.out.cell 2
  have pf2 := P1.out.frozen 2
  have p3 : (w1.alloc (.cells #[.int .i64 q0', .int .i64 q1', .int .i64 q2', .int .i64 q3', .int .i64 q4', .int .i64 q5', .int .i64 q6'] 44)).cell? ⟨w.heap.size + 1 + 1, 3, none⟩ = some (.int .i64 hi) := P1.out.cell 3
  have pf3 := P1.out.frozen 3
  have p4 : (w1.alloc (.cells #[.int .i64 q0', .int .i64 q1', .int .i64 q2', .int .i64 q3', .int .i64 q4', .int .i64 q5', .int .i64 q6'] 44)).cell? ⟨w.heap.size + 1 + 1, 4, none⟩ = some (.int .i64 lo) := P1.out.cell 4
  have pf4 := P1.out.frozen 4
  have p5 : (w1.alloc (.cells #[.int .i64 q0', .int .i64 q1', .int .i64 q2', .int .i64 q3', .int .i64 q4', .int .i64 q5', .int .i64 q6'] 44)).cell? ⟨w.heap.size + 1 + 1, 5, none⟩ = some (.int .i64 g.seq) := P1.out.cell 5
  have pf5 := P1.out.frozen 5
  have p6 : (w1.alloc (.cells #[.int .i64 q0', .int .i64 q1', .int .i64 q2', .int .i64 q3', .int .i64 q4', .int .i64 q5', .int .i64 q6'] 44)).cell? ⟨w.heap.size + 1 + 1, 6, none⟩ = some (.int .i64 g.dropped) := P1.out.cell 6
  have pf6 := P1.out.frozen 6
  have y0 : (w1.alloc (.cells #[.int .i64 q0', .int .i64 q1', .int .i64 q2', .int .i64 q3', .int .i64 q4', .int .i64 q5', .int .i64 q6'] 44)).cell? ⟨w1.heap.size, 0, none⟩ = some (.int .i64 q0') := Q1.out.cell 0
  have y1 : (w1.alloc (.cells #[.int .i64 q0', .int .i64 q1', .int .i64 q2', .int .i64 q3', .int .i64 q4', .int .i64 q5', .int .i64 q6'] 44)).cell? ⟨w1.heap.size, 1, none⟩ = some (.int .i64 q1') := Q1.out.cell 1
  have y2 : (w1.alloc (.cells #[.int .i64 q0', .int .i64 q1', .int .i64 q2', .int .i64 q3', .int .i64 q4', .int .i64 q5', .int .i64 q6'] 44)).cell? ⟨w1.heap.size, 2, none⟩ = some (.int .i64 q2') := Q1.out.cell 2
  have y3 : (w1.alloc (.cells #[.int .i64 q0', .int .i64 q1', .int .i64 q2', .int .i64 q3', .int .i64 q4', .int .i64 q5', .int .i64 q6'] 44)).cell? ⟨w1.heap.size, 3, none⟩ = some (.int .i64 q3') := Q1.out.cell 3
  have y4 : (w1.alloc (.cells #[.int .i64 q0', .int .i64 q1', .int .i64 q2', .int .i64 q3', .int .i64 q4', .int .i64 q5', .int .i64 q6'] 44)).cell? ⟨w1.heap.size, 4, none⟩ = some (.int .i64 q4') := Q1.out.cell 4
  have y5 : (w1.alloc (.cells #[.int .i64 q0', .int .i64 q1', .int .i64 q2', .int .i64 q3', .int .i64 q4', .int .i64 q5', .int .i64 q6'] 44)).cell? ⟨w1.heap.size, 5, none⟩ = some (.int .i64 q5') := Q1.out.cell 5
  have y6 : (w1.alloc (.cells #[.int .i64 q0', .int .i64 q1', .int .i64 q2', .int .i64 q3', .int .i64 q4', .int .i64 q5', .int .i64 q6'] 44)).cell? ⟨w1.heap.size, 6, none⟩ = some (.int .i64 q6') := Q1.out.cell 6
  have i8 : (w1.alloc (.cells #[.int .i64 q0', .int .i64 q1', .int .i64 q2', .int .i64 q3', .int .i64 q4', .int .i64 q5', .int .i64 q6'] 44)).cell? ⟨gp, 8, none⟩ = some (.int .i64 g.at_) := H1.out.cell 8 (gh_get _ H1.out.len).1
  have i9 : (w1.alloc (.cells #[.int .i64 q0', .int .i64 q1', .int .i64 q2', .int .i64 q3', .int .i64 q4', .int .i64 q5', .int .i64 q6'] 44)).cell? ⟨gp, 9, none⟩ = some (.int .i64 g.depth) := H1.out.cell 9 (gh_get _ H1.out.len).2.1
  have i10 : (w1.alloc (.cells #[.int .i64 q0', .int .i64 q1', .int .i64 q2', .int .i64 q3', .int .i64 q4', .int .i64 q5', .int .i64 q6'] 44)).cell? ⟨gp, 10, none⟩ = some (.int .i64 g.mode) := H1.out.cell 10 (gh_get _ H1.out.len).2.2
  have z9 := H1.out.frozen 9
  have z10 := H1.out.frozen 10
  have RK : Hid (∀ w' (h' : Cv w' zl g.c g.z), Calls _ _ _ _ _) := fun w' h' => round32_o zl a g.mode g.c g.z w' HG.out.2.2.1 h' ⟨HG.out.1.c0, by have := HG.out.1.c1; have := HG.out.2.1; omega⟩ ⟨HG.out.1.z0, by have := HG.out.1.z1; have := HG.out.2.1; omega⟩
  rw [ER.out] at RK
  try dsimp only at RK
  try simp only [Int.add_zero] at RK
  go_wp2_with fail
  generalize (w1.alloc (.cells #[.int .i64 q0', .int .i64 q1', .int .i64 q2', .int .i64 q3', .int .i64 q4', .int .i64 q5', .int .i64 q6'] 44)) = w2 at C1 O1 A1 P1 Q1 H1 Z1 o0 o1 o2 a0 a1 a2 a3 p0 p1 p2 p3 p4 p5 p6 pf0 pf1 pf2 pf3 pf4 pf5 pf6 y0 y1 y2 y3 y4 y5 y6 i8 i9 i10 z9 z10 ⊢
  go_region_held3 (fun w' => w'.cell? ⟨w.heap.size, 1, none⟩ = some (.int .i64 a) ∧ w'.cell? ⟨gp, 10, none⟩ = some (.int .i64 g.mode)) (first | (simp [go_sem, o1, i10]; done) | exact ⟨by assumption, by assumption⟩)
    (first | (go_at_call 38; refine (RK.out _ (by exact Z1.out.drew)).mono ?_; rintro e w3 ⟨rfl, q3, c3⟩; have lt := LT.out; have hq := HQ.out; have C3 : Hid (Chg (fun k => k = zl ∨ k = gp) w w3) := (C1.out.drew.mono (fun k _ e => e.elim)).trans (c3.mono (fun k _ e => Or.inl e)); have Z3 : Hid (Cv w3 zl (g.c + dc) g.z) := q3; have O3 : Hid (Has 50 w3 w.heap.size [.int .i64 16, .int .i64 a, .int .i64 b, .int .i64 cc, .string s, .string t]) := O1.out.drew.kept c3 (by omega); have A3 : Hid (Has 47 w3 (w.heap.size + 1) [.int .i64 0, .int .i64 N, .int .i64 L, .string ⟨#[]⟩]) := A1.out.drew.kept c3 (by omega); have P3 : Hid (Has 44 w3 (w.heap.size + 1 + 1) [.int .i64 g.sum, .int .i64 g.peak, .int .i64 g.dip, .int .i64 hi, .int .i64 lo, .int .i64 g.seq, .int .i64 g.dropped]) := P1.out.drew.kept c3 (by omega); have Q3 : Hid (Has 44 w3 w1.heap.size [.int .i64 q0', .int .i64 q1', .int .i64 q2', .int .i64 q3', .int .i64 q4', .int .i64 q5', .int .i64 q6']) := Q1.out.drew.kept c3 (by omega); have H3 : Hid (Gh w3 gp g) := H1.out.drew.kept c3 (by omega); have o0 : w3.cell? ⟨w.heap.size, 0, none⟩ = some (.int .i64 16) := O3.out.cell 0; have o1 : w3.cell? ⟨w.heap.size, 1, none⟩ = some (.int .i64 a) := O3.out.cell 1; have o2 : w3.cell? ⟨w.heap.size, 2, none⟩ = some (.int .i64 b) := O3.out.cell 2; have a0 : w3.cell? ⟨w.heap.size + 1, 0, none⟩ = some (.int .i64 0) := A3.out.cell 0; have a1 : w3.cell? ⟨w.heap.size + 1, 1, none⟩ = some (.int .i64 N) := A3.out.cell 1; have a2 : w3.cell? ⟨w.heap.size + 1, 2, none⟩ = some (.int .i64 L) := A3.out.cell 2; have a3 : w3.cell? ⟨w.heap.size + 1, 3, none⟩ = some (.string ⟨#[]⟩) := A3.out.cell 3; have p0 : w3.cell? ⟨w.heap.size + 1 + 1, 0, none⟩ = some (.int .i64 g.sum) := P3.out.cell 0; have pf0 := P3.out.frozen 0; have p1 : w3.cell? ⟨w.heap.size + 1 + 1, 1, none⟩ = some (.int .i64 g.peak) := P3.out.cell 1; have pf1 := P3.out.frozen 1; have p2 : w3.cell? ⟨w.heap.size + 1 + 1, 2, none⟩ = some (.int .i64 g.dip) := P3.out.cell 2; have pf2 := P3.out.frozen 2; have p3 : w3.cell? ⟨w.heap.size + 1 + 1, 3, none⟩ = some (.int .i64 hi) := P3.out.cell 3; have pf3 := P3.out.frozen 3; have p4 : w3.cell? ⟨w.heap.size + 1 + 1, 4, none⟩ = some (.int .i64 lo) := P3.out.cell 4; have pf4 := P3.out.frozen 4; have p5 : w3.cell? ⟨w.heap.size + 1 + 1, 5, none⟩ = some (.int .i64 g.seq) := P3.out.cell 5; have pf5 := P3.out.frozen 5; have p6 : w3.cell? ⟨w.heap.size + 1 + 1, 6, none⟩ = some (.int .i64 g.dropped) := P3.out.cell 6; have pf6 := P3.out.frozen 6; have y0 : w3.cell? ⟨w1.heap.size, 0, none⟩ = some (.int .i64 q0') := Q3.out.cell 0; have y1 : w3.cell? ⟨w1.heap.size, 1, none⟩ = some (.int .i64 q1') := Q3.out.cell 1; have y2 : w3.cell? ⟨w1.heap.size, 2, none⟩ = some (.int .i64 q2') := Q3.out.cell 2; have y3 : w3.cell? ⟨w1.heap.size, 3, none⟩ = some (.int .i64 q3') := Q3.out.cell 3; have y4 : w3.cell? ⟨w1.heap.size, 4, none⟩ = some (.int .i64 q4') := Q3.out.cell 4; have y5 : w3.cell? ⟨w1.heap.size, 5, none⟩ = some (.int .i64 q5') := Q3.out.cell 5; have y6 : w3.cell? ⟨w1.heap.size, 6, none⟩ = some (.int .i64 q6') := Q3.out.cell 6; have i8 : w3.cell? ⟨gp, 8, none⟩ = some (.int .i64 g.at_) := H3.out.cell 8 (gh_get _ H3.out.len).1; have i9 : w3.cell? ⟨gp, 9, none⟩ = some (.int .i64 g.depth) := H3.out.cell 9 (gh_get _ H3.out.len).2.1; have i10 : w3.cell? ⟨gp, 10, none⟩ = some (.int .i64 g.mode) := H3.out.cell 10 (gh_get _ H3.out.len).2.2; clear q3 c3 lt hq))
  clear C1 O1 A1 P1 Q1 H1 Z1
  have NK : Hid (∀ w, Calls Tryd.prog 39 #[.int .i64 a] w fun e w' => e = .returned (.bool false) ∧ w' = w) := fun w => (isNaNm_any a w).mono fun e w' ⟨h1, h2⟩ => ⟨by rw [h1, decide_eq_false (by have := HNAN.out; omega)], h2⟩
  go_wp2_with fail
  refine (NK.out _).mono ?_; rintro e w4 ⟨rfl, rfl⟩
  go_wp2_with fail
  refine (FK.out _ H3.out).mono ?_; rintro e w4 ⟨rfl, h4, c4⟩
  have lt := LT.out
  have H4 : Hid (Gh w4 gp g') := h4
  have Z4 : Hid (Cv w4 zl (g.c + dc) g.z) := Z3.out.kept c4 (by omega)
  have C4 : Hid (Chg (fun k => k = zl ∨ k = gp) w w4) := C3.out.trans (c4.mono (fun k _ e => Or.inr e))
  clear h4 c4 lt
  go_wp2_with fail
  go_ret
  exact ⟨rfl, Z4.out, H4.out, C4.out⟩

end Go.Proofs.Qxb6500376aDoor

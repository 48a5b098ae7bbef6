/- The pipeline's player Do (written by tools/genchdo.py). -/
import Derived.Test.Qxb6500376aDoorChStep2
namespace Go.Proofs.Qxb6500376aDoor
set_option linter.unusedVariables false
set_option linter.unusedSimpArgs false
set_option maxHeartbeats 4000000
open Go.RowKit Go.Qu Ieee

def opV (kd a b c : Int) (s t : ByteArray) : Value := .agg #[.int .i64 kd, .int .i64 a, .int .i64 b, .int .i64 c, .string s, .string t]
def ansV (e n k : Int) (s : ByteArray) : Value := .agg #[.int .i64 e, .int .i64 n, .int .i64 k, .string s]
theorem hasAt {T : TypeId} {w : World} {n : Nat} (h : w.heap.size = n) (vs : List Value) : Has T (w.alloc (.cells vs.toArray T)) n vs := by subst h; exact Has.new T w vs
theorem frame3 {T : TypeId} (w : World) (o : Obj) (us vs : List Value) :
    Has T (((w.alloc o).alloc (.cells us.toArray T)).alloc (.cells vs.toArray T)) (w.heap.size + 1) us ∧ Has T (((w.alloc o).alloc (.cells us.toArray T)).alloc (.cells vs.toArray T)) (w.heap.size + 1 + 1) vs ∧
    Chg (fun _ => False) w (((w.alloc o).alloc (.cells us.toArray T)).alloc (.cells vs.toArray T)) :=
  ⟨(hasAt (by simp) us).alloc _, hasAt (by simp) vs, (((Chg.refl _ w).alloc _).alloc _).alloc _⟩
/-- the pipeline's blocks lie below B -/
structure Low (B p : Nat) (l : Lk) : Prop where
  p : p < B
  q : l.q < B
  d : l.d < B
  k : l.k < B
  dr : l.dr < B
  k0 : l.k0 < B
  d0 : l.d0 < B
theorem low_of {w : World} {p : Nat} {l : Lk} {g : PS} (h : Ap w p l g) : Low w.heap.size p l := ⟨h.obj.lt, h.qu.lt, h.tab.lt, h.k.lt, h.dr.lt, h.k0.lt, h.d0.lt⟩
theorem ap_kept {w w' : World} {p : Nat} {l : Lk} {g : PS} (h : Ap w p l g) {S : Nat → Prop} {B : Nat} (hl : Low B p l) (hc : Chg S w w') (hs : ∀ k, S k → B ≤ k) : Ap w' p l g :=
  h.kept hc (fun e => by have := hs _ e; have := hl.p; omega) (fun e => by have := hs _ e; have := hl.q; omega) (fun e => by have := hs _ e; have := hl.d; omega) (fun e => by have := hs _ e; have := hl.k; omega) (fun e => by have := hs _ e; have := hl.dr; omega) (fun e => by have := hs _ e; have := hl.k0; omega) (fun e => by have := hs _ e; have := hl.d0; omega)
theorem ap_set {w : World} {p : Nat} {l : Lk} {g : PS} (h : Ap w p l g) {B : Nat} (hl : Low B p l) {a : Addr} (ha : B ≤ a.block) (v : Value) : Ap (w.setCell a v) p l g :=
  ap_kept h hl (S := (B ≤ ·)) ((Chg.refl _ w).setCell (Or.inl ha) v) (fun k e => e)
theorem ap_nil {w w' : World} {p : Nat} {l : Lk} {g : PS} (h : Ap w p l g) (hc : Chg (fun _ => False) w w') : Ap w' p l g := ap_kept h (low_of h) hc (fun k e => e.elim)

theorem chdo_1 (p : Nat) (l : Lk) (g : PS) (n : Int) (a b cc : Int) (s t : ByteArray) (w : World) (hg : Good g n) (hn : n ≤ 4611686018427387904) (ha : I64 a) (h : Ap w p l g) :
    Calls Tryd.prog 18 #[.pointer (some ⟨p, 0, none⟩), opV 1 a b cc s t] w fun e w' => e = .returned (ansV (tuneP g a b).1.e 0 0 ⟨#[]⟩) ∧ Ap w' p l (tuneP g a b).2 ∧ Chg (fun k => k = p ∨ k = l.q) w w' := by
  unfold opV
  have hp := h.obj.lt
  have hq := h.qu.lt
  have HL : Hid (Low w.heap.size p l) := low_of h
  obtain ⟨T1, T2, T3⟩ := frame3 (T := 47) w (.cells #[.int .i64 1, .int .i64 a, .int .i64 b, .int .i64 cc, .string s, .string t] 50) [.int .i64 0, .int .i64 0, .int .i64 0, .string ⟨#[]⟩] [.int .i64 0, .int .i64 0, .int .i64 0, .string ⟨#[]⟩]
  have H3 : Hid _ := ap_nil h T3
  have HG : Hid (Good g n ∧ n ≤ 4611686018427387904 ∧ I64 a) := ⟨hg, hn, ha⟩
  clear h hg hn ha
  go_enter Tryd.func18, Tryd.ntmps18
  go_wp2_with fail
  refine (TuneR p l g a b _ H3.out).mono ?_
  rintro e w1 ⟨rfl, q1, c1⟩
  have K1 := T1.kept c1 (by omega)
  have K2 := T2.kept c1 (by omega)
  have f0 := K1.frozen 0
  have u0 : w1.cell? ⟨w.heap.size + 1, 0, none⟩ = some (.int .i64 0) := K1.cell 0
  have g0 := K2.frozen 0
  have v0 : w1.cell? ⟨w.heap.size + 1 + 1, 0, none⟩ = some (.int .i64 0) := K2.cell 0
  have f1 := K1.frozen 1
  have u1 : w1.cell? ⟨w.heap.size + 1, 1, none⟩ = some (.int .i64 0) := K1.cell 1
  have g1 := K2.frozen 1
  have v1 : w1.cell? ⟨w.heap.size + 1 + 1, 1, none⟩ = some (.int .i64 0) := K2.cell 1
  have f2 := K1.frozen 2
  have u2 : w1.cell? ⟨w.heap.size + 1, 2, none⟩ = some (.int .i64 0) := K1.cell 2
  have g2 := K2.frozen 2
  have v2 : w1.cell? ⟨w.heap.size + 1 + 1, 2, none⟩ = some (.int .i64 0) := K2.cell 2
  have f3 := K1.frozen 3
  have u3 : w1.cell? ⟨w.heap.size + 1, 3, none⟩ = some (.string ⟨#[]⟩) := K1.cell 3
  have g3 := K2.frozen 3
  have v3 : w1.cell? ⟨w.heap.size + 1 + 1, 3, none⟩ = some (.string ⟨#[]⟩) := K2.cell 3
  have C : Hid (Chg (fun k => k = p ∨ k = l.q) w w1) := (chg_0 T3).trans c1
  have Q1 : Hid (Ap w1 p l (tuneP g a b).2) := q1
  clear T1 T2 T3 K1 K2 c1 q1
  go_wp2
  refine bodyPost_ret (by simp [results, Tryd.results18, go_sem, u0, u1, u2, u3]; try rfl) rfl ?_
  exact ⟨rfl, (ap_set (ap_set (ap_set (ap_set (ap_set Q1.out HL.out (by dsimp only; omega) _) HL.out (by dsimp only; omega) _) HL.out (by dsimp only; omega) _) HL.out (by dsimp only; omega) _) HL.out (by dsimp only; omega) _), (((((C.out.setCell (Or.inr (by dsimp only; omega)) _).setCell (Or.inr (by dsimp only; omega)) _).setCell (Or.inr (by dsimp only; omega)) _).setCell (Or.inr (by dsimp only; omega)) _).setCell (Or.inr (by dsimp only; omega)) _)⟩

theorem chdo_2 (p : Nat) (l : Lk) (g : PS) (n : Int) (a b cc : Int) (s t : ByteArray) (w : World) (hg : Good g n) (hn : n ≤ 4611686018427387904) (ha : I64 a) (h : Ap w p l g) :
    Calls Tryd.prog 18 #[.pointer (some ⟨p, 0, none⟩), opV 2 a b cc s t] w fun e w' => e = .returned (ansV (fedP g a (6 * g.at_)).1.e (fedP g a (6 * g.at_)).1.n (fedP g a (6 * g.at_)).1.k ⟨#[]⟩) ∧ Ap w' p l (fedP g a (6 * g.at_)).2 ∧ Chg (fun k => k = p ∨ k = l.q) w w' := by
  unfold opV
  have hp := h.obj.lt
  have hq := h.qu.lt
  have HL : Hid (Low w.heap.size p l) := low_of h
  obtain ⟨T1, T2, T3⟩ := frame3 (T := 47) w (.cells #[.int .i64 2, .int .i64 a, .int .i64 b, .int .i64 cc, .string s, .string t] 50) [.int .i64 0, .int .i64 0, .int .i64 0, .string ⟨#[]⟩] [.int .i64 0, .int .i64 0, .int .i64 0, .string ⟨#[]⟩]
  have H3 : Hid _ := ap_nil h T3
  have HG : Hid (Good g n ∧ n ≤ 4611686018427387904 ∧ I64 a) := ⟨hg, hn, ha⟩
  clear h hg hn ha
  go_enter Tryd.func18, Tryd.ntmps18
  go_wp2_with fail
  refine (FeedR p l g n a _ HG.out.1 HG.out.2.1 HG.out.2.2 H3.out).mono ?_
  rintro e w1 ⟨rfl, q1, c1⟩
  have K1 := T1.kept c1 (by omega)
  have K2 := T2.kept c1 (by omega)
  have f0 := K1.frozen 0
  have u0 : w1.cell? ⟨w.heap.size + 1, 0, none⟩ = some (.int .i64 0) := K1.cell 0
  have g0 := K2.frozen 0
  have v0 : w1.cell? ⟨w.heap.size + 1 + 1, 0, none⟩ = some (.int .i64 0) := K2.cell 0
  have f1 := K1.frozen 1
  have u1 : w1.cell? ⟨w.heap.size + 1, 1, none⟩ = some (.int .i64 0) := K1.cell 1
  have g1 := K2.frozen 1
  have v1 : w1.cell? ⟨w.heap.size + 1 + 1, 1, none⟩ = some (.int .i64 0) := K2.cell 1
  have f2 := K1.frozen 2
  have u2 : w1.cell? ⟨w.heap.size + 1, 2, none⟩ = some (.int .i64 0) := K1.cell 2
  have g2 := K2.frozen 2
  have v2 : w1.cell? ⟨w.heap.size + 1 + 1, 2, none⟩ = some (.int .i64 0) := K2.cell 2
  have f3 := K1.frozen 3
  have u3 : w1.cell? ⟨w.heap.size + 1, 3, none⟩ = some (.string ⟨#[]⟩) := K1.cell 3
  have g3 := K2.frozen 3
  have v3 : w1.cell? ⟨w.heap.size + 1 + 1, 3, none⟩ = some (.string ⟨#[]⟩) := K2.cell 3
  have C : Hid (Chg (fun k => k = p ∨ k = l.q) w w1) := (chg_0 T3).trans c1
  have Q1 : Hid (Ap w1 p l (fedP g a (6 * g.at_)).2) := q1
  clear T1 T2 T3 K1 K2 c1 q1
  go_wp2
  refine bodyPost_ret (by simp [results, Tryd.results18, go_sem, u0, u1, u2, u3]; try rfl) rfl ?_
  exact ⟨rfl, (ap_set (ap_set (ap_set (ap_set (ap_set (ap_set (ap_set Q1.out HL.out (by dsimp only; omega) _) HL.out (by dsimp only; omega) _) HL.out (by dsimp only; omega) _) HL.out (by dsimp only; omega) _) HL.out (by dsimp only; omega) _) HL.out (by dsimp only; omega) _) HL.out (by dsimp only; omega) _), (((((((C.out.setCell (Or.inr (by dsimp only; omega)) _).setCell (Or.inr (by dsimp only; omega)) _).setCell (Or.inr (by dsimp only; omega)) _).setCell (Or.inr (by dsimp only; omega)) _).setCell (Or.inr (by dsimp only; omega)) _).setCell (Or.inr (by dsimp only; omega)) _).setCell (Or.inr (by dsimp only; omega)) _)⟩

theorem chdo_16 (p : Nat) (l : Lk) (g : PS) (n : Int) (a b cc : Int) (s t : ByteArray) (w : World) (hg : Good g n) (hn : n ≤ 4611686018427387904) (ha : I64 a) (h : Ap w p l g) :
    Calls Tryd.prog 18 #[.pointer (some ⟨p, 0, none⟩), opV 16 a b cc s t] w fun e w' => e = .returned (ansV (fedP g a (wrap32 b)).1.e (fedP g a (wrap32 b)).1.n (fedP g a (wrap32 b)).1.k ⟨#[]⟩) ∧ Ap w' p l (fedP g a (wrap32 b)).2 ∧ Chg (fun k => k = p ∨ k = l.q) w w' := by
  unfold opV
  have hp := h.obj.lt
  have hq := h.qu.lt
  have HL : Hid (Low w.heap.size p l) := low_of h
  obtain ⟨T1, T2, T3⟩ := frame3 (T := 47) w (.cells #[.int .i64 16, .int .i64 a, .int .i64 b, .int .i64 cc, .string s, .string t] 50) [.int .i64 0, .int .i64 0, .int .i64 0, .string ⟨#[]⟩] [.int .i64 0, .int .i64 0, .int .i64 0, .string ⟨#[]⟩]
  have H3 : Hid _ := ap_nil h T3
  have HG : Hid (Good g n ∧ n ≤ 4611686018427387904 ∧ I64 a) := ⟨hg, hn, ha⟩
  clear h hg hn ha
  go_enter Tryd.func18, Tryd.ntmps18
  go_wp2_with fail
  refine (FeedWithR p l g n a b _ HG.out.1 HG.out.2.1 HG.out.2.2 H3.out).mono ?_
  rintro e w1 ⟨rfl, q1, c1⟩
  have K1 := T1.kept c1 (by omega)
  have K2 := T2.kept c1 (by omega)
  have f0 := K1.frozen 0
  have u0 : w1.cell? ⟨w.heap.size + 1, 0, none⟩ = some (.int .i64 0) := K1.cell 0
  have g0 := K2.frozen 0
  have v0 : w1.cell? ⟨w.heap.size + 1 + 1, 0, none⟩ = some (.int .i64 0) := K2.cell 0
  have f1 := K1.frozen 1
  have u1 : w1.cell? ⟨w.heap.size + 1, 1, none⟩ = some (.int .i64 0) := K1.cell 1
  have g1 := K2.frozen 1
  have v1 : w1.cell? ⟨w.heap.size + 1 + 1, 1, none⟩ = some (.int .i64 0) := K2.cell 1
  have f2 := K1.frozen 2
  have u2 : w1.cell? ⟨w.heap.size + 1, 2, none⟩ = some (.int .i64 0) := K1.cell 2
  have g2 := K2.frozen 2
  have v2 : w1.cell? ⟨w.heap.size + 1 + 1, 2, none⟩ = some (.int .i64 0) := K2.cell 2
  have f3 := K1.frozen 3
  have u3 : w1.cell? ⟨w.heap.size + 1, 3, none⟩ = some (.string ⟨#[]⟩) := K1.cell 3
  have g3 := K2.frozen 3
  have v3 : w1.cell? ⟨w.heap.size + 1 + 1, 3, none⟩ = some (.string ⟨#[]⟩) := K2.cell 3
  have C : Hid (Chg (fun k => k = p ∨ k = l.q) w w1) := (chg_0 T3).trans c1
  have Q1 : Hid (Ap w1 p l (fedP g a (wrap32 b)).2) := q1
  clear T1 T2 T3 K1 K2 c1 q1
  go_wp2
  refine bodyPost_ret (by simp [results, Tryd.results18, go_sem, u0, u1, u2, u3]; try rfl) rfl ?_
  exact ⟨rfl, (ap_set (ap_set (ap_set (ap_set (ap_set (ap_set (ap_set Q1.out HL.out (by dsimp only; omega) _) HL.out (by dsimp only; omega) _) HL.out (by dsimp only; omega) _) HL.out (by dsimp only; omega) _) HL.out (by dsimp only; omega) _) HL.out (by dsimp only; omega) _) HL.out (by dsimp only; omega) _), (((((((C.out.setCell (Or.inr (by dsimp only; omega)) _).setCell (Or.inr (by dsimp only; omega)) _).setCell (Or.inr (by dsimp only; omega)) _).setCell (Or.inr (by dsimp only; omega)) _).setCell (Or.inr (by dsimp only; omega)) _).setCell (Or.inr (by dsimp only; omega)) _).setCell (Or.inr (by dsimp only; omega)) _)⟩

theorem chdo_3 (p : Nat) (l : Lk) (g : PS) (n : Int) (a b cc : Int) (s t : ByteArray) (w : World) (hg : Good g n) (hn : n ≤ 4611686018427387904) (ha : I64 a) (h : Ap w p l g) :
    Calls Tryd.prog 18 #[.pointer (some ⟨p, 0, none⟩), opV 3 a b cc s t] w fun e w' => e = .returned (ansV 0 g.sum 0 ⟨#[]⟩) ∧ Ap w' p l g ∧ Chg (fun k => k = p ∨ k = l.q) w w' := by
  unfold opV
  have hp := h.obj.lt
  have hq := h.qu.lt
  have HL : Hid (Low w.heap.size p l) := low_of h
  obtain ⟨T1, T2, T3⟩ := frame3 (T := 47) w (.cells #[.int .i64 3, .int .i64 a, .int .i64 b, .int .i64 cc, .string s, .string t] 50) [.int .i64 0, .int .i64 0, .int .i64 0, .string ⟨#[]⟩] [.int .i64 0, .int .i64 0, .int .i64 0, .string ⟨#[]⟩]
  have H3 : Hid _ := ap_nil h T3
  have HG : Hid (Good g n ∧ n ≤ 4611686018427387904 ∧ I64 a) := ⟨hg, hn, ha⟩
  clear h hg hn ha
  go_enter Tryd.func18, Tryd.ntmps18
  go_wp2_with fail
  refine (SumR p l g n _ HG.out.1 H3.out).mono ?_
  rintro e w1 ⟨rfl, q1, c1⟩
  have K1 := T1.kept c1 (by omega)
  have K2 := T2.kept c1 (by omega)
  have f0 := K1.frozen 0
  have u0 : w1.cell? ⟨w.heap.size + 1, 0, none⟩ = some (.int .i64 0) := K1.cell 0
  have g0 := K2.frozen 0
  have v0 : w1.cell? ⟨w.heap.size + 1 + 1, 0, none⟩ = some (.int .i64 0) := K2.cell 0
  have f1 := K1.frozen 1
  have u1 : w1.cell? ⟨w.heap.size + 1, 1, none⟩ = some (.int .i64 0) := K1.cell 1
  have g1 := K2.frozen 1
  have v1 : w1.cell? ⟨w.heap.size + 1 + 1, 1, none⟩ = some (.int .i64 0) := K2.cell 1
  have f2 := K1.frozen 2
  have u2 : w1.cell? ⟨w.heap.size + 1, 2, none⟩ = some (.int .i64 0) := K1.cell 2
  have g2 := K2.frozen 2
  have v2 : w1.cell? ⟨w.heap.size + 1 + 1, 2, none⟩ = some (.int .i64 0) := K2.cell 2
  have f3 := K1.frozen 3
  have u3 : w1.cell? ⟨w.heap.size + 1, 3, none⟩ = some (.string ⟨#[]⟩) := K1.cell 3
  have g3 := K2.frozen 3
  have v3 : w1.cell? ⟨w.heap.size + 1 + 1, 3, none⟩ = some (.string ⟨#[]⟩) := K2.cell 3
  have C : Hid (Chg (fun k => k = p ∨ k = l.q) w w1) := (chg_0 T3).trans c1
  have Q1 : Hid (Ap w1 p l g) := q1
  clear T1 T2 T3 K1 K2 c1 q1
  go_wp2
  refine bodyPost_ret (by simp [results, Tryd.results18, go_sem, u0, u1, u2, u3]; try rfl) rfl ?_
  exact ⟨rfl, (ap_set (ap_set (ap_set (ap_set (ap_set Q1.out HL.out (by dsimp only; omega) _) HL.out (by dsimp only; omega) _) HL.out (by dsimp only; omega) _) HL.out (by dsimp only; omega) _) HL.out (by dsimp only; omega) _), (((((C.out.setCell (Or.inr (by dsimp only; omega)) _).setCell (Or.inr (by dsimp only; omega)) _).setCell (Or.inr (by dsimp only; omega)) _).setCell (Or.inr (by dsimp only; omega)) _).setCell (Or.inr (by dsimp only; omega)) _)⟩

theorem chdo_4 (p : Nat) (l : Lk) (g : PS) (n : Int) (a b cc : Int) (s t : ByteArray) (w : World) (hg : Good g n) (hn : n ≤ 4611686018427387904) (ha : I64 a) (h : Ap w p l g) :
    Calls Tryd.prog 18 #[.pointer (some ⟨p, 0, none⟩), opV 4 a b cc s t] w fun e w' => e = .returned (ansV 0 g.peak 0 ⟨#[]⟩) ∧ Ap w' p l g ∧ Chg (fun k => k = p ∨ k = l.q) w w' := by
  unfold opV
  have hp := h.obj.lt
  have hq := h.qu.lt
  have HL : Hid (Low w.heap.size p l) := low_of h
  obtain ⟨T1, T2, T3⟩ := frame3 (T := 47) w (.cells #[.int .i64 4, .int .i64 a, .int .i64 b, .int .i64 cc, .string s, .string t] 50) [.int .i64 0, .int .i64 0, .int .i64 0, .string ⟨#[]⟩] [.int .i64 0, .int .i64 0, .int .i64 0, .string ⟨#[]⟩]
  have H3 : Hid _ := ap_nil h T3
  have HG : Hid (Good g n ∧ n ≤ 4611686018427387904 ∧ I64 a) := ⟨hg, hn, ha⟩
  clear h hg hn ha
  go_enter Tryd.func18, Tryd.ntmps18
  go_wp2_with fail
  refine (PeakR p l g n _ HG.out.1 H3.out).mono ?_
  rintro e w1 ⟨rfl, q1, c1⟩
  have K1 := T1.kept c1 (by omega)
  have K2 := T2.kept c1 (by omega)
  have f0 := K1.frozen 0
  have u0 : w1.cell? ⟨w.heap.size + 1, 0, none⟩ = some (.int .i64 0) := K1.cell 0
  have g0 := K2.frozen 0
  have v0 : w1.cell? ⟨w.heap.size + 1 + 1, 0, none⟩ = some (.int .i64 0) := K2.cell 0
  have f1 := K1.frozen 1
  have u1 : w1.cell? ⟨w.heap.size + 1, 1, none⟩ = some (.int .i64 0) := K1.cell 1
  have g1 := K2.frozen 1
  have v1 : w1.cell? ⟨w.heap.size + 1 + 1, 1, none⟩ = some (.int .i64 0) := K2.cell 1
  have f2 := K1.frozen 2
  have u2 : w1.cell? ⟨w.heap.size + 1, 2, none⟩ = some (.int .i64 0) := K1.cell 2
  have g2 := K2.frozen 2
  have v2 : w1.cell? ⟨w.heap.size + 1 + 1, 2, none⟩ = some (.int .i64 0) := K2.cell 2
  have f3 := K1.frozen 3
  have u3 : w1.cell? ⟨w.heap.size + 1, 3, none⟩ = some (.string ⟨#[]⟩) := K1.cell 3
  have g3 := K2.frozen 3
  have v3 : w1.cell? ⟨w.heap.size + 1 + 1, 3, none⟩ = some (.string ⟨#[]⟩) := K2.cell 3
  have C : Hid (Chg (fun k => k = p ∨ k = l.q) w w1) := (chg_0 T3).trans c1
  have Q1 : Hid (Ap w1 p l g) := q1
  clear T1 T2 T3 K1 K2 c1 q1
  go_wp2
  refine bodyPost_ret (by simp [results, Tryd.results18, go_sem, u0, u1, u2, u3]; try rfl) rfl ?_
  exact ⟨rfl, (ap_set (ap_set (ap_set (ap_set (ap_set Q1.out HL.out (by dsimp only; omega) _) HL.out (by dsimp only; omega) _) HL.out (by dsimp only; omega) _) HL.out (by dsimp only; omega) _) HL.out (by dsimp only; omega) _), (((((C.out.setCell (Or.inr (by dsimp only; omega)) _).setCell (Or.inr (by dsimp only; omega)) _).setCell (Or.inr (by dsimp only; omega)) _).setCell (Or.inr (by dsimp only; omega)) _).setCell (Or.inr (by dsimp only; omega)) _)⟩

theorem chdo_5 (p : Nat) (l : Lk) (g : PS) (n : Int) (a b cc : Int) (s t : ByteArray) (w : World) (hg : Good g n) (hn : n ≤ 4611686018427387904) (ha : I64 a) (h : Ap w p l g) :
    Calls Tryd.prog 18 #[.pointer (some ⟨p, 0, none⟩), opV 5 a b cc s t] w fun e w' => e = .returned (ansV 0 g.dip 0 ⟨#[]⟩) ∧ Ap w' p l g ∧ Chg (fun k => k = p ∨ k = l.q) w w' := by
  unfold opV
  have hp := h.obj.lt
  have hq := h.qu.lt
  have HL : Hid (Low w.heap.size p l) := low_of h
  obtain ⟨T1, T2, T3⟩ := frame3 (T := 47) w (.cells #[.int .i64 5, .int .i64 a, .int .i64 b, .int .i64 cc, .string s, .string t] 50) [.int .i64 0, .int .i64 0, .int .i64 0, .string ⟨#[]⟩] [.int .i64 0, .int .i64 0, .int .i64 0, .string ⟨#[]⟩]
  have H3 : Hid _ := ap_nil h T3
  have HG : Hid (Good g n ∧ n ≤ 4611686018427387904 ∧ I64 a) := ⟨hg, hn, ha⟩
  clear h hg hn ha
  go_enter Tryd.func18, Tryd.ntmps18
  go_wp2_with fail
  refine (DipR p l g n _ HG.out.1 H3.out).mono ?_
  rintro e w1 ⟨rfl, q1, c1⟩
  have K1 := T1.kept c1 (by omega)
  have K2 := T2.kept c1 (by omega)
  have f0 := K1.frozen 0
  have u0 : w1.cell? ⟨w.heap.size + 1, 0, none⟩ = some (.int .i64 0) := K1.cell 0
  have g0 := K2.frozen 0
  have v0 : w1.cell? ⟨w.heap.size + 1 + 1, 0, none⟩ = some (.int .i64 0) := K2.cell 0
  have f1 := K1.frozen 1
  have u1 : w1.cell? ⟨w.heap.size + 1, 1, none⟩ = some (.int .i64 0) := K1.cell 1
  have g1 := K2.frozen 1
  have v1 : w1.cell? ⟨w.heap.size + 1 + 1, 1, none⟩ = some (.int .i64 0) := K2.cell 1
  have f2 := K1.frozen 2
  have u2 : w1.cell? ⟨w.heap.size + 1, 2, none⟩ = some (.int .i64 0) := K1.cell 2
  have g2 := K2.frozen 2
  have v2 : w1.cell? ⟨w.heap.size + 1 + 1, 2, none⟩ = some (.int .i64 0) := K2.cell 2
  have f3 := K1.frozen 3
  have u3 : w1.cell? ⟨w.heap.size + 1, 3, none⟩ = some (.string ⟨#[]⟩) := K1.cell 3
  have g3 := K2.frozen 3
  have v3 : w1.cell? ⟨w.heap.size + 1 + 1, 3, none⟩ = some (.string ⟨#[]⟩) := K2.cell 3
  have C : Hid (Chg (fun k => k = p ∨ k = l.q) w w1) := (chg_0 T3).trans c1
  have Q1 : Hid (Ap w1 p l g) := q1
  clear T1 T2 T3 K1 K2 c1 q1
  go_wp2
  refine bodyPost_ret (by simp [results, Tryd.results18, go_sem, u0, u1, u2, u3]; try rfl) rfl ?_
  exact ⟨rfl, (ap_set (ap_set (ap_set (ap_set (ap_set Q1.out HL.out (by dsimp only; omega) _) HL.out (by dsimp only; omega) _) HL.out (by dsimp only; omega) _) HL.out (by dsimp only; omega) _) HL.out (by dsimp only; omega) _), (((((C.out.setCell (Or.inr (by dsimp only; omega)) _).setCell (Or.inr (by dsimp only; omega)) _).setCell (Or.inr (by dsimp only; omega)) _).setCell (Or.inr (by dsimp only; omega)) _).setCell (Or.inr (by dsimp only; omega)) _)⟩

theorem chdo_6 (p : Nat) (l : Lk) (g : PS) (n : Int) (a b cc : Int) (s t : ByteArray) (w : World) (hg : Good g n) (hn : n ≤ 4611686018427387904) (ha : I64 a) (h : Ap w p l g) :
    Calls Tryd.prog 18 #[.pointer (some ⟨p, 0, none⟩), opV 6 a b cc s t] w fun e w' => e = .returned (ansV 0 (sumSq g.ring / 4294967296) (sumSq g.ring % 4294967296) ⟨#[]⟩) ∧ Ap w' p l g ∧ Chg (fun k => k = p ∨ k = l.q) w w' := by
  unfold opV
  have hp := h.obj.lt
  have hq := h.qu.lt
  have HL : Hid (Low w.heap.size p l) := low_of h
  obtain ⟨T1, T2, T3⟩ := frame3 (T := 47) w (.cells #[.int .i64 6, .int .i64 a, .int .i64 b, .int .i64 cc, .string s, .string t] 50) [.int .i64 0, .int .i64 0, .int .i64 0, .string ⟨#[]⟩] [.int .i64 0, .int .i64 0, .int .i64 0, .string ⟨#[]⟩]
  have H3 : Hid _ := ap_nil h T3
  have HG : Hid (Good g n ∧ n ≤ 4611686018427387904 ∧ I64 a) := ⟨hg, hn, ha⟩
  clear h hg hn ha
  go_enter Tryd.func18, Tryd.ntmps18
  go_wp2_with fail
  refine (EnergyR p l g n _ HG.out.1 H3.out).mono ?_
  rintro e w1 ⟨rfl, q1, c1⟩
  have K1 := T1.kept c1 (by omega)
  have K2 := T2.kept c1 (by omega)
  have f0 := K1.frozen 0
  have u0 : w1.cell? ⟨w.heap.size + 1, 0, none⟩ = some (.int .i64 0) := K1.cell 0
  have g0 := K2.frozen 0
  have v0 : w1.cell? ⟨w.heap.size + 1 + 1, 0, none⟩ = some (.int .i64 0) := K2.cell 0
  have f1 := K1.frozen 1
  have u1 : w1.cell? ⟨w.heap.size + 1, 1, none⟩ = some (.int .i64 0) := K1.cell 1
  have g1 := K2.frozen 1
  have v1 : w1.cell? ⟨w.heap.size + 1 + 1, 1, none⟩ = some (.int .i64 0) := K2.cell 1
  have f2 := K1.frozen 2
  have u2 : w1.cell? ⟨w.heap.size + 1, 2, none⟩ = some (.int .i64 0) := K1.cell 2
  have g2 := K2.frozen 2
  have v2 : w1.cell? ⟨w.heap.size + 1 + 1, 2, none⟩ = some (.int .i64 0) := K2.cell 2
  have f3 := K1.frozen 3
  have u3 : w1.cell? ⟨w.heap.size + 1, 3, none⟩ = some (.string ⟨#[]⟩) := K1.cell 3
  have g3 := K2.frozen 3
  have v3 : w1.cell? ⟨w.heap.size + 1 + 1, 3, none⟩ = some (.string ⟨#[]⟩) := K2.cell 3
  have C : Hid (Chg (fun k => k = p ∨ k = l.q) w w1) := (chg_0 T3).trans c1
  have Q1 : Hid (Ap w1 p l g) := q1
  clear T1 T2 T3 K1 K2 c1 q1
  go_wp2
  refine bodyPost_ret (by simp [results, Tryd.results18, go_sem, u0, u1, u2, u3]; try rfl) rfl ?_
  exact ⟨rfl, (ap_set (ap_set (ap_set (ap_set (ap_set (ap_set Q1.out HL.out (by dsimp only; omega) _) HL.out (by dsimp only; omega) _) HL.out (by dsimp only; omega) _) HL.out (by dsimp only; omega) _) HL.out (by dsimp only; omega) _) HL.out (by dsimp only; omega) _), ((((((C.out.setCell (Or.inr (by dsimp only; omega)) _).setCell (Or.inr (by dsimp only; omega)) _).setCell (Or.inr (by dsimp only; omega)) _).setCell (Or.inr (by dsimp only; omega)) _).setCell (Or.inr (by dsimp only; omega)) _).setCell (Or.inr (by dsimp only; omega)) _)⟩

theorem chdo_7 (p : Nat) (l : Lk) (g : PS) (n : Int) (a b cc : Int) (s t : ByteArray) (w : World) (hg : Good g n) (hn : n ≤ 4611686018427387904) (ha : I64 a) (h : Ap w p l g) :
    Calls Tryd.prog 18 #[.pointer (some ⟨p, 0, none⟩), opV 7 a b cc s t] w fun e w' => e = .returned (ansV 0 (isq (sumSq g.ring / 16384).toNat) 0 ⟨#[]⟩) ∧ Ap w' p l g ∧ Chg (fun k => k = p ∨ k = l.q) w w' := by
  unfold opV
  have hp := h.obj.lt
  have hq := h.qu.lt
  have HL : Hid (Low w.heap.size p l) := low_of h
  obtain ⟨T1, T2, T3⟩ := frame3 (T := 47) w (.cells #[.int .i64 7, .int .i64 a, .int .i64 b, .int .i64 cc, .string s, .string t] 50) [.int .i64 0, .int .i64 0, .int .i64 0, .string ⟨#[]⟩] [.int .i64 0, .int .i64 0, .int .i64 0, .string ⟨#[]⟩]
  have H3 : Hid _ := ap_nil h T3
  have HG : Hid (Good g n ∧ n ≤ 4611686018427387904 ∧ I64 a) := ⟨hg, hn, ha⟩
  clear h hg hn ha
  go_enter Tryd.func18, Tryd.ntmps18
  go_wp2_with fail
  refine (RmsR p l g n _ HG.out.1 H3.out).mono ?_
  rintro e w1 ⟨rfl, q1, c1⟩
  have K1 := T1.kept c1 (by omega)
  have K2 := T2.kept c1 (by omega)
  have f0 := K1.frozen 0
  have u0 : w1.cell? ⟨w.heap.size + 1, 0, none⟩ = some (.int .i64 0) := K1.cell 0
  have g0 := K2.frozen 0
  have v0 : w1.cell? ⟨w.heap.size + 1 + 1, 0, none⟩ = some (.int .i64 0) := K2.cell 0
  have f1 := K1.frozen 1
  have u1 : w1.cell? ⟨w.heap.size + 1, 1, none⟩ = some (.int .i64 0) := K1.cell 1
  have g1 := K2.frozen 1
  have v1 : w1.cell? ⟨w.heap.size + 1 + 1, 1, none⟩ = some (.int .i64 0) := K2.cell 1
  have f2 := K1.frozen 2
  have u2 : w1.cell? ⟨w.heap.size + 1, 2, none⟩ = some (.int .i64 0) := K1.cell 2
  have g2 := K2.frozen 2
  have v2 : w1.cell? ⟨w.heap.size + 1 + 1, 2, none⟩ = some (.int .i64 0) := K2.cell 2
  have f3 := K1.frozen 3
  have u3 : w1.cell? ⟨w.heap.size + 1, 3, none⟩ = some (.string ⟨#[]⟩) := K1.cell 3
  have g3 := K2.frozen 3
  have v3 : w1.cell? ⟨w.heap.size + 1 + 1, 3, none⟩ = some (.string ⟨#[]⟩) := K2.cell 3
  have C : Hid (Chg (fun k => k = p ∨ k = l.q) w w1) := (chg_0 T3).trans c1
  have Q1 : Hid (Ap w1 p l g) := q1
  clear T1 T2 T3 K1 K2 c1 q1
  go_wp2
  refine bodyPost_ret (by simp [results, Tryd.results18, go_sem, u0, u1, u2, u3]; try rfl) rfl ?_
  exact ⟨rfl, (ap_set (ap_set (ap_set (ap_set (ap_set Q1.out HL.out (by dsimp only; omega) _) HL.out (by dsimp only; omega) _) HL.out (by dsimp only; omega) _) HL.out (by dsimp only; omega) _) HL.out (by dsimp only; omega) _), (((((C.out.setCell (Or.inr (by dsimp only; omega)) _).setCell (Or.inr (by dsimp only; omega)) _).setCell (Or.inr (by dsimp only; omega)) _).setCell (Or.inr (by dsimp only; omega)) _).setCell (Or.inr (by dsimp only; omega)) _)⟩

theorem chdo_8 (p : Nat) (l : Lk) (g : PS) (n : Int) (a b cc : Int) (s t : ByteArray) (w : World) (hg : Good g n) (hn : n ≤ 4611686018427387904) (ha : I64 a) (h : Ap w p l g) :
    Calls Tryd.prog 18 #[.pointer (some ⟨p, 0, none⟩), opV 8 a b cc s t] w fun e w' => e = .returned (ansV 0 (spanP g).n (spanP g).k ⟨#[]⟩) ∧ Ap w' p l g ∧ Chg (fun k => k = p ∨ k = l.q) w w' := by
  unfold opV
  have hp := h.obj.lt
  have hq := h.qu.lt
  have HL : Hid (Low w.heap.size p l) := low_of h
  obtain ⟨T1, T2, T3⟩ := frame3 (T := 47) w (.cells #[.int .i64 8, .int .i64 a, .int .i64 b, .int .i64 cc, .string s, .string t] 50) [.int .i64 0, .int .i64 0, .int .i64 0, .string ⟨#[]⟩] [.int .i64 0, .int .i64 0, .int .i64 0, .string ⟨#[]⟩]
  have H3 : Hid _ := ap_nil h T3
  have HG : Hid (Good g n ∧ n ≤ 4611686018427387904 ∧ I64 a) := ⟨hg, hn, ha⟩
  clear h hg hn ha
  go_enter Tryd.func18, Tryd.ntmps18
  go_wp2_with fail
  refine (SpanR p l g n _ HG.out.1 H3.out).mono ?_
  rintro e w1 ⟨rfl, q1, c1⟩
  have K1 := T1.kept c1 (by omega)
  have K2 := T2.kept c1 (by omega)
  have f0 := K1.frozen 0
  have u0 : w1.cell? ⟨w.heap.size + 1, 0, none⟩ = some (.int .i64 0) := K1.cell 0
  have g0 := K2.frozen 0
  have v0 : w1.cell? ⟨w.heap.size + 1 + 1, 0, none⟩ = some (.int .i64 0) := K2.cell 0
  have f1 := K1.frozen 1
  have u1 : w1.cell? ⟨w.heap.size + 1, 1, none⟩ = some (.int .i64 0) := K1.cell 1
  have g1 := K2.frozen 1
  have v1 : w1.cell? ⟨w.heap.size + 1 + 1, 1, none⟩ = some (.int .i64 0) := K2.cell 1
  have f2 := K1.frozen 2
  have u2 : w1.cell? ⟨w.heap.size + 1, 2, none⟩ = some (.int .i64 0) := K1.cell 2
  have g2 := K2.frozen 2
  have v2 : w1.cell? ⟨w.heap.size + 1 + 1, 2, none⟩ = some (.int .i64 0) := K2.cell 2
  have f3 := K1.frozen 3
  have u3 : w1.cell? ⟨w.heap.size + 1, 3, none⟩ = some (.string ⟨#[]⟩) := K1.cell 3
  have g3 := K2.frozen 3
  have v3 : w1.cell? ⟨w.heap.size + 1 + 1, 3, none⟩ = some (.string ⟨#[]⟩) := K2.cell 3
  have C : Hid (Chg (fun k => k = p ∨ k = l.q) w w1) := (chg_0 T3).trans c1
  have Q1 : Hid (Ap w1 p l g) := q1
  clear T1 T2 T3 K1 K2 c1 q1
  go_wp2
  refine bodyPost_ret (by simp [results, Tryd.results18, go_sem, u0, u1, u2, u3]; try rfl) rfl ?_
  exact ⟨rfl, (ap_set (ap_set (ap_set (ap_set (ap_set (ap_set Q1.out HL.out (by dsimp only; omega) _) HL.out (by dsimp only; omega) _) HL.out (by dsimp only; omega) _) HL.out (by dsimp only; omega) _) HL.out (by dsimp only; omega) _) HL.out (by dsimp only; omega) _), ((((((C.out.setCell (Or.inr (by dsimp only; omega)) _).setCell (Or.inr (by dsimp only; omega)) _).setCell (Or.inr (by dsimp only; omega)) _).setCell (Or.inr (by dsimp only; omega)) _).setCell (Or.inr (by dsimp only; omega)) _).setCell (Or.inr (by dsimp only; omega)) _)⟩

theorem chdo_9 (p : Nat) (l : Lk) (g : PS) (n : Int) (a b cc : Int) (s t : ByteArray) (w : World) (hg : Good g n) (hn : n ≤ 4611686018427387904) (ha : I64 a) (h : Ap w p l g) :
    Calls Tryd.prog 18 #[.pointer (some ⟨p, 0, none⟩), opV 9 a b cc s t] w fun e w' => e = .returned (ansV 0 g.seq (g.seq + 1) ⟨#[]⟩) ∧ Ap w' p l { g with seq := g.seq + 1 } ∧ Chg (fun k => k = p ∨ k = l.q) w w' := by
  unfold opV
  have hp := h.obj.lt
  have hq := h.qu.lt
  have HL : Hid (Low w.heap.size p l) := low_of h
  obtain ⟨T1, T2, T3⟩ := frame3 (T := 47) w (.cells #[.int .i64 9, .int .i64 a, .int .i64 b, .int .i64 cc, .string s, .string t] 50) [.int .i64 0, .int .i64 0, .int .i64 0, .string ⟨#[]⟩] [.int .i64 0, .int .i64 0, .int .i64 0, .string ⟨#[]⟩]
  have H3 : Hid _ := ap_nil h T3
  have HG : Hid (Good g n ∧ n ≤ 4611686018427387904 ∧ I64 a) := ⟨hg, hn, ha⟩
  clear h hg hn ha
  go_enter Tryd.func18, Tryd.ntmps18
  go_wp2_with fail
  refine (StampR p l g n _ HG.out.1 HG.out.2.1 H3.out).mono ?_
  rintro e w1 ⟨rfl, q1, c1⟩
  have K1 := T1.kept c1 (by omega)
  have K2 := T2.kept c1 (by omega)
  have f0 := K1.frozen 0
  have u0 : w1.cell? ⟨w.heap.size + 1, 0, none⟩ = some (.int .i64 0) := K1.cell 0
  have g0 := K2.frozen 0
  have v0 : w1.cell? ⟨w.heap.size + 1 + 1, 0, none⟩ = some (.int .i64 0) := K2.cell 0
  have f1 := K1.frozen 1
  have u1 : w1.cell? ⟨w.heap.size + 1, 1, none⟩ = some (.int .i64 0) := K1.cell 1
  have g1 := K2.frozen 1
  have v1 : w1.cell? ⟨w.heap.size + 1 + 1, 1, none⟩ = some (.int .i64 0) := K2.cell 1
  have f2 := K1.frozen 2
  have u2 : w1.cell? ⟨w.heap.size + 1, 2, none⟩ = some (.int .i64 0) := K1.cell 2
  have g2 := K2.frozen 2
  have v2 : w1.cell? ⟨w.heap.size + 1 + 1, 2, none⟩ = some (.int .i64 0) := K2.cell 2
  have f3 := K1.frozen 3
  have u3 : w1.cell? ⟨w.heap.size + 1, 3, none⟩ = some (.string ⟨#[]⟩) := K1.cell 3
  have g3 := K2.frozen 3
  have v3 : w1.cell? ⟨w.heap.size + 1 + 1, 3, none⟩ = some (.string ⟨#[]⟩) := K2.cell 3
  have C : Hid (Chg (fun k => k = p ∨ k = l.q) w w1) := (chg_0 T3).trans c1
  have Q1 : Hid (Ap w1 p l { g with seq := g.seq + 1 }) := q1
  clear T1 T2 T3 K1 K2 c1 q1
  go_wp2
  refine bodyPost_ret (by simp [results, Tryd.results18, go_sem, u0, u1, u2, u3]; try rfl) rfl ?_
  exact ⟨rfl, (ap_set (ap_set (ap_set (ap_set (ap_set (ap_set Q1.out HL.out (by dsimp only; omega) _) HL.out (by dsimp only; omega) _) HL.out (by dsimp only; omega) _) HL.out (by dsimp only; omega) _) HL.out (by dsimp only; omega) _) HL.out (by dsimp only; omega) _), ((((((C.out.setCell (Or.inr (by dsimp only; omega)) _).setCell (Or.inr (by dsimp only; omega)) _).setCell (Or.inr (by dsimp only; omega)) _).setCell (Or.inr (by dsimp only; omega)) _).setCell (Or.inr (by dsimp only; omega)) _).setCell (Or.inr (by dsimp only; omega)) _)⟩

theorem chdo_10 (p : Nat) (l : Lk) (g : PS) (n : Int) (a b cc : Int) (s t : ByteArray) (w : World) (hg : Good g n) (hn : n ≤ 4611686018427387904) (ha : I64 a) (h : Ap w p l g) :
    Calls Tryd.prog 18 #[.pointer (some ⟨p, 0, none⟩), opV 10 a b cc s t] w fun e w' => e = .returned (ansV (ditherP g a).1.e (ditherP g a).1.n 0 ⟨#[]⟩) ∧ Ap w' p l (ditherP g a).2 ∧ Chg (fun k => k = p ∨ k = l.q) w w' := by
  unfold opV
  have hp := h.obj.lt
  have hq := h.qu.lt
  have HL : Hid (Low w.heap.size p l) := low_of h
  obtain ⟨T1, T2, T3⟩ := frame3 (T := 47) w (.cells #[.int .i64 10, .int .i64 a, .int .i64 b, .int .i64 cc, .string s, .string t] 50) [.int .i64 0, .int .i64 0, .int .i64 0, .string ⟨#[]⟩] [.int .i64 0, .int .i64 0, .int .i64 0, .string ⟨#[]⟩]
  have H3 : Hid _ := ap_nil h T3
  have HG : Hid (Good g n ∧ n ≤ 4611686018427387904 ∧ I64 a) := ⟨hg, hn, ha⟩
  clear h hg hn ha
  go_enter Tryd.func18, Tryd.ntmps18
  go_wp2_with fail
  refine (DitherR p l g n a _ HG.out.1 HG.out.2.1 H3.out).mono ?_
  rintro e w1 ⟨rfl, q1, c1⟩
  have K1 := T1.kept c1 (by omega)
  have K2 := T2.kept c1 (by omega)
  have f0 := K1.frozen 0
  have u0 : w1.cell? ⟨w.heap.size + 1, 0, none⟩ = some (.int .i64 0) := K1.cell 0
  have g0 := K2.frozen 0
  have v0 : w1.cell? ⟨w.heap.size + 1 + 1, 0, none⟩ = some (.int .i64 0) := K2.cell 0
  have f1 := K1.frozen 1
  have u1 : w1.cell? ⟨w.heap.size + 1, 1, none⟩ = some (.int .i64 0) := K1.cell 1
  have g1 := K2.frozen 1
  have v1 : w1.cell? ⟨w.heap.size + 1 + 1, 1, none⟩ = some (.int .i64 0) := K2.cell 1
  have f2 := K1.frozen 2
  have u2 : w1.cell? ⟨w.heap.size + 1, 2, none⟩ = some (.int .i64 0) := K1.cell 2
  have g2 := K2.frozen 2
  have v2 : w1.cell? ⟨w.heap.size + 1 + 1, 2, none⟩ = some (.int .i64 0) := K2.cell 2
  have f3 := K1.frozen 3
  have u3 : w1.cell? ⟨w.heap.size + 1, 3, none⟩ = some (.string ⟨#[]⟩) := K1.cell 3
  have g3 := K2.frozen 3
  have v3 : w1.cell? ⟨w.heap.size + 1 + 1, 3, none⟩ = some (.string ⟨#[]⟩) := K2.cell 3
  have C : Hid (Chg (fun k => k = p ∨ k = l.q) w w1) := (chg_0 T3).trans c1
  have Q1 : Hid (Ap w1 p l (ditherP g a).2) := q1
  clear T1 T2 T3 K1 K2 c1 q1
  go_wp2
  refine bodyPost_ret (by simp [results, Tryd.results18, go_sem, u0, u1, u2, u3]; try rfl) rfl ?_
  exact ⟨rfl, (ap_set (ap_set (ap_set (ap_set (ap_set (ap_set Q1.out HL.out (by dsimp only; omega) _) HL.out (by dsimp only; omega) _) HL.out (by dsimp only; omega) _) HL.out (by dsimp only; omega) _) HL.out (by dsimp only; omega) _) HL.out (by dsimp only; omega) _), ((((((C.out.setCell (Or.inr (by dsimp only; omega)) _).setCell (Or.inr (by dsimp only; omega)) _).setCell (Or.inr (by dsimp only; omega)) _).setCell (Or.inr (by dsimp only; omega)) _).setCell (Or.inr (by dsimp only; omega)) _).setCell (Or.inr (by dsimp only; omega)) _)⟩

theorem chdo_11 (p : Nat) (l : Lk) (g : PS) (n : Int) (a b cc : Int) (s t : ByteArray) (w : World) (hg : Good g n) (hn : n ≤ 4611686018427387904) (ha : I64 a) (h : Ap w p l g) :
    Calls Tryd.prog 18 #[.pointer (some ⟨p, 0, none⟩), opV 11 a b cc s t] w fun e w' => e = .returned (ansV 0 (squelchP g a).1.n 0 ⟨#[]⟩) ∧ Ap w' p l (squelchP g a).2 ∧ Chg (fun k => k = p ∨ k = l.q) w w' := by
  unfold opV
  have hp := h.obj.lt
  have hq := h.qu.lt
  have HL : Hid (Low w.heap.size p l) := low_of h
  obtain ⟨T1, T2, T3⟩ := frame3 (T := 47) w (.cells #[.int .i64 11, .int .i64 a, .int .i64 b, .int .i64 cc, .string s, .string t] 50) [.int .i64 0, .int .i64 0, .int .i64 0, .string ⟨#[]⟩] [.int .i64 0, .int .i64 0, .int .i64 0, .string ⟨#[]⟩]
  have H3 : Hid _ := ap_nil h T3
  have HG : Hid (Good g n ∧ n ≤ 4611686018427387904 ∧ I64 a) := ⟨hg, hn, ha⟩
  clear h hg hn ha
  go_enter Tryd.func18, Tryd.ntmps18
  go_wp2_with fail
  refine (SquelchR p l g n a _ HG.out.1 HG.out.2.1 H3.out).mono ?_
  rintro e w1 ⟨rfl, q1, c1⟩
  have K1 := T1.kept c1 (by omega)
  have K2 := T2.kept c1 (by omega)
  have f0 := K1.frozen 0
  have u0 : w1.cell? ⟨w.heap.size + 1, 0, none⟩ = some (.int .i64 0) := K1.cell 0
  have g0 := K2.frozen 0
  have v0 : w1.cell? ⟨w.heap.size + 1 + 1, 0, none⟩ = some (.int .i64 0) := K2.cell 0
  have f1 := K1.frozen 1
  have u1 : w1.cell? ⟨w.heap.size + 1, 1, none⟩ = some (.int .i64 0) := K1.cell 1
  have g1 := K2.frozen 1
  have v1 : w1.cell? ⟨w.heap.size + 1 + 1, 1, none⟩ = some (.int .i64 0) := K2.cell 1
  have f2 := K1.frozen 2
  have u2 : w1.cell? ⟨w.heap.size + 1, 2, none⟩ = some (.int .i64 0) := K1.cell 2
  have g2 := K2.frozen 2
  have v2 : w1.cell? ⟨w.heap.size + 1 + 1, 2, none⟩ = some (.int .i64 0) := K2.cell 2
  have f3 := K1.frozen 3
  have u3 : w1.cell? ⟨w.heap.size + 1, 3, none⟩ = some (.string ⟨#[]⟩) := K1.cell 3
  have g3 := K2.frozen 3
  have v3 : w1.cell? ⟨w.heap.size + 1 + 1, 3, none⟩ = some (.string ⟨#[]⟩) := K2.cell 3
  have C : Hid (Chg (fun k => k = p ∨ k = l.q) w w1) := (chg_0 T3).trans c1
  have Q1 : Hid (Ap w1 p l (squelchP g a).2) := q1
  clear T1 T2 T3 K1 K2 c1 q1
  go_wp2
  refine bodyPost_ret (by simp [results, Tryd.results18, go_sem, u0, u1, u2, u3]; try rfl) rfl ?_
  exact ⟨rfl, (ap_set (ap_set (ap_set (ap_set (ap_set Q1.out HL.out (by dsimp only; omega) _) HL.out (by dsimp only; omega) _) HL.out (by dsimp only; omega) _) HL.out (by dsimp only; omega) _) HL.out (by dsimp only; omega) _), (((((C.out.setCell (Or.inr (by dsimp only; omega)) _).setCell (Or.inr (by dsimp only; omega)) _).setCell (Or.inr (by dsimp only; omega)) _).setCell (Or.inr (by dsimp only; omega)) _).setCell (Or.inr (by dsimp only; omega)) _)⟩

theorem chdo_12 (p : Nat) (l : Lk) (g : PS) (n : Int) (a b cc : Int) (s t : ByteArray) (w : World) (hg : Good g n) (hn : n ≤ 4611686018427387904) (ha : I64 a) (h : Ap w p l g) :
    Calls Tryd.prog 18 #[.pointer (some ⟨p, 0, none⟩), opV 12 a b cc s t] w fun e w' => e = .returned (ansV 0 g.dropped 0 ⟨#[]⟩) ∧ Ap w' p l g ∧ Chg (fun k => k = p ∨ k = l.q) w w' := by
  unfold opV
  have hp := h.obj.lt
  have hq := h.qu.lt
  have HL : Hid (Low w.heap.size p l) := low_of h
  obtain ⟨T1, T2, T3⟩ := frame3 (T := 47) w (.cells #[.int .i64 12, .int .i64 a, .int .i64 b, .int .i64 cc, .string s, .string t] 50) [.int .i64 0, .int .i64 0, .int .i64 0, .string ⟨#[]⟩] [.int .i64 0, .int .i64 0, .int .i64 0, .string ⟨#[]⟩]
  have H3 : Hid _ := ap_nil h T3
  have HG : Hid (Good g n ∧ n ≤ 4611686018427387904 ∧ I64 a) := ⟨hg, hn, ha⟩
  clear h hg hn ha
  go_enter Tryd.func18, Tryd.ntmps18
  go_wp2_with fail
  refine (DroppedR p l g _ H3.out).mono ?_
  rintro e w1 ⟨rfl, q1, c1⟩
  have K1 := T1.kept c1 (by omega)
  have K2 := T2.kept c1 (by omega)
  have f0 := K1.frozen 0
  have u0 : w1.cell? ⟨w.heap.size + 1, 0, none⟩ = some (.int .i64 0) := K1.cell 0
  have g0 := K2.frozen 0
  have v0 : w1.cell? ⟨w.heap.size + 1 + 1, 0, none⟩ = some (.int .i64 0) := K2.cell 0
  have f1 := K1.frozen 1
  have u1 : w1.cell? ⟨w.heap.size + 1, 1, none⟩ = some (.int .i64 0) := K1.cell 1
  have g1 := K2.frozen 1
  have v1 : w1.cell? ⟨w.heap.size + 1 + 1, 1, none⟩ = some (.int .i64 0) := K2.cell 1
  have f2 := K1.frozen 2
  have u2 : w1.cell? ⟨w.heap.size + 1, 2, none⟩ = some (.int .i64 0) := K1.cell 2
  have g2 := K2.frozen 2
  have v2 : w1.cell? ⟨w.heap.size + 1 + 1, 2, none⟩ = some (.int .i64 0) := K2.cell 2
  have f3 := K1.frozen 3
  have u3 : w1.cell? ⟨w.heap.size + 1, 3, none⟩ = some (.string ⟨#[]⟩) := K1.cell 3
  have g3 := K2.frozen 3
  have v3 : w1.cell? ⟨w.heap.size + 1 + 1, 3, none⟩ = some (.string ⟨#[]⟩) := K2.cell 3
  have C : Hid (Chg (fun k => k = p ∨ k = l.q) w w1) := (chg_0 T3).trans c1
  have Q1 : Hid (Ap w1 p l g) := q1
  clear T1 T2 T3 K1 K2 c1 q1
  go_wp2
  refine bodyPost_ret (by simp [results, Tryd.results18, go_sem, u0, u1, u2, u3]; try rfl) rfl ?_
  exact ⟨rfl, (ap_set (ap_set (ap_set (ap_set (ap_set Q1.out HL.out (by dsimp only; omega) _) HL.out (by dsimp only; omega) _) HL.out (by dsimp only; omega) _) HL.out (by dsimp only; omega) _) HL.out (by dsimp only; omega) _), (((((C.out.setCell (Or.inr (by dsimp only; omega)) _).setCell (Or.inr (by dsimp only; omega)) _).setCell (Or.inr (by dsimp only; omega)) _).setCell (Or.inr (by dsimp only; omega)) _).setCell (Or.inr (by dsimp only; omega)) _)⟩

theorem chdo_13 (p : Nat) (l : Lk) (g : PS) (n : Int) (a b cc : Int) (s t : ByteArray) (w : World) (hg : Good g n) (hn : n ≤ 4611686018427387904) (ha : I64 a) (h : Ap w p l g) :
    Calls Tryd.prog 18 #[.pointer (some ⟨p, 0, none⟩), opV 13 a b cc s t] w fun e w' => e = .returned (ansV 0 g.seq 0 ⟨#[]⟩) ∧ Ap w' p l g ∧ Chg (fun k => k = p ∨ k = l.q) w w' := by
  unfold opV
  have hp := h.obj.lt
  have hq := h.qu.lt
  have HL : Hid (Low w.heap.size p l) := low_of h
  obtain ⟨T1, T2, T3⟩ := frame3 (T := 47) w (.cells #[.int .i64 13, .int .i64 a, .int .i64 b, .int .i64 cc, .string s, .string t] 50) [.int .i64 0, .int .i64 0, .int .i64 0, .string ⟨#[]⟩] [.int .i64 0, .int .i64 0, .int .i64 0, .string ⟨#[]⟩]
  have H3 : Hid _ := ap_nil h T3
  have HG : Hid (Good g n ∧ n ≤ 4611686018427387904 ∧ I64 a) := ⟨hg, hn, ha⟩
  clear h hg hn ha
  go_enter Tryd.func18, Tryd.ntmps18
  go_wp2_with fail
  refine (SeqR p l g _ H3.out).mono ?_
  rintro e w1 ⟨rfl, q1, c1⟩
  have K1 := T1.kept c1 (by omega)
  have K2 := T2.kept c1 (by omega)
  have f0 := K1.frozen 0
  have u0 : w1.cell? ⟨w.heap.size + 1, 0, none⟩ = some (.int .i64 0) := K1.cell 0
  have g0 := K2.frozen 0
  have v0 : w1.cell? ⟨w.heap.size + 1 + 1, 0, none⟩ = some (.int .i64 0) := K2.cell 0
  have f1 := K1.frozen 1
  have u1 : w1.cell? ⟨w.heap.size + 1, 1, none⟩ = some (.int .i64 0) := K1.cell 1
  have g1 := K2.frozen 1
  have v1 : w1.cell? ⟨w.heap.size + 1 + 1, 1, none⟩ = some (.int .i64 0) := K2.cell 1
  have f2 := K1.frozen 2
  have u2 : w1.cell? ⟨w.heap.size + 1, 2, none⟩ = some (.int .i64 0) := K1.cell 2
  have g2 := K2.frozen 2
  have v2 : w1.cell? ⟨w.heap.size + 1 + 1, 2, none⟩ = some (.int .i64 0) := K2.cell 2
  have f3 := K1.frozen 3
  have u3 : w1.cell? ⟨w.heap.size + 1, 3, none⟩ = some (.string ⟨#[]⟩) := K1.cell 3
  have g3 := K2.frozen 3
  have v3 : w1.cell? ⟨w.heap.size + 1 + 1, 3, none⟩ = some (.string ⟨#[]⟩) := K2.cell 3
  have C : Hid (Chg (fun k => k = p ∨ k = l.q) w w1) := (chg_0 T3).trans c1
  have Q1 : Hid (Ap w1 p l g) := q1
  clear T1 T2 T3 K1 K2 c1 q1
  go_wp2
  refine bodyPost_ret (by simp [results, Tryd.results18, go_sem, u0, u1, u2, u3]; try rfl) rfl ?_
  exact ⟨rfl, (ap_set (ap_set (ap_set (ap_set (ap_set Q1.out HL.out (by dsimp only; omega) _) HL.out (by dsimp only; omega) _) HL.out (by dsimp only; omega) _) HL.out (by dsimp only; omega) _) HL.out (by dsimp only; omega) _), (((((C.out.setCell (Or.inr (by dsimp only; omega)) _).setCell (Or.inr (by dsimp only; omega)) _).setCell (Or.inr (by dsimp only; omega)) _).setCell (Or.inr (by dsimp only; omega)) _).setCell (Or.inr (by dsimp only; omega)) _)⟩

theorem chdo_14 (p : Nat) (l : Lk) (g : PS) (n : Int) (a b cc : Int) (s t : ByteArray) (w : World) (hg : Good g n) (hn : n ≤ 4611686018427387904) (ha : I64 a) (h : Ap w p l g) (ht : Tab w) :
    Calls Tryd.prog 18 #[.pointer (some ⟨p, 0, none⟩), opV 14 a b cc s t] w fun e w' => e = .returned (ansV 0 0 0 (textP g)) ∧ Ap w' p l g ∧ Chg (fun k => k = p ∨ k = l.q) w w' := by
  unfold opV
  have hp := h.obj.lt
  have hq := h.qu.lt
  have HL : Hid (Low w.heap.size p l) := low_of h
  obtain ⟨T1, T2, T3⟩ := frame3 (T := 47) w (.cells #[.int .i64 14, .int .i64 a, .int .i64 b, .int .i64 cc, .string s, .string t] 50) [.int .i64 0, .int .i64 0, .int .i64 0, .string ⟨#[]⟩] [.int .i64 0, .int .i64 0, .int .i64 0, .string ⟨#[]⟩]
  have H3 : Hid _ := ap_nil h T3
  have HT3 : Hid _ := ht.nil T3
  have HG : Hid (Good g n ∧ n ≤ 4611686018427387904 ∧ I64 a) := ⟨hg, hn, ha⟩
  clear h hg hn ha ht
  go_enter Tryd.func18, Tryd.ntmps18
  go_wp2_with fail
  refine (ShowR p l g n _ HG.out.1 HG.out.2.1 H3.out HT3.out).mono ?_
  rintro e w1 ⟨rfl, q1, c1⟩
  have K1 := T1.kept c1 (by omega)
  have K2 := T2.kept c1 (by omega)
  have f0 := K1.frozen 0
  have u0 : w1.cell? ⟨w.heap.size + 1, 0, none⟩ = some (.int .i64 0) := K1.cell 0
  have g0 := K2.frozen 0
  have v0 : w1.cell? ⟨w.heap.size + 1 + 1, 0, none⟩ = some (.int .i64 0) := K2.cell 0
  have f1 := K1.frozen 1
  have u1 : w1.cell? ⟨w.heap.size + 1, 1, none⟩ = some (.int .i64 0) := K1.cell 1
  have g1 := K2.frozen 1
  have v1 : w1.cell? ⟨w.heap.size + 1 + 1, 1, none⟩ = some (.int .i64 0) := K2.cell 1
  have f2 := K1.frozen 2
  have u2 : w1.cell? ⟨w.heap.size + 1, 2, none⟩ = some (.int .i64 0) := K1.cell 2
  have g2 := K2.frozen 2
  have v2 : w1.cell? ⟨w.heap.size + 1 + 1, 2, none⟩ = some (.int .i64 0) := K2.cell 2
  have f3 := K1.frozen 3
  have u3 : w1.cell? ⟨w.heap.size + 1, 3, none⟩ = some (.string ⟨#[]⟩) := K1.cell 3
  have g3 := K2.frozen 3
  have v3 : w1.cell? ⟨w.heap.size + 1 + 1, 3, none⟩ = some (.string ⟨#[]⟩) := K2.cell 3
  have C : Hid (Chg (fun k => k = p ∨ k = l.q) w w1) := (chg_0 T3).trans c1
  have Q1 : Hid (Ap w1 p l g) := q1
  clear T1 T2 T3 K1 K2 c1 q1
  go_wp2
  refine bodyPost_ret (by simp [results, Tryd.results18, go_sem, u0, u1, u2, u3]; try rfl) rfl ?_
  exact ⟨rfl, (ap_set (ap_set (ap_set (ap_set (ap_set Q1.out HL.out (by dsimp only; omega) _) HL.out (by dsimp only; omega) _) HL.out (by dsimp only; omega) _) HL.out (by dsimp only; omega) _) HL.out (by dsimp only; omega) _), (((((C.out.setCell (Or.inr (by dsimp only; omega)) _).setCell (Or.inr (by dsimp only; omega)) _).setCell (Or.inr (by dsimp only; omega)) _).setCell (Or.inr (by dsimp only; omega)) _).setCell (Or.inr (by dsimp only; omega)) _)⟩

theorem chdo_15 (p : Nat) (l : Lk) (g : PS) (n : Int) (a b cc : Int) (s t : ByteArray) (w : World) (hg : Good g n) (hn : n ≤ 4611686018427387904) (ha : I64 a) (h : Ap w p l g) :
    Calls Tryd.prog 18 #[.pointer (some ⟨p, 0, none⟩), opV 15 a b cc s t] w fun e w' => e = .returned (ansV 0 1 0 ⟨#[]⟩) ∧ Ap w' p l g ∧ Chg (fun k => k = p ∨ k = l.q) w w' := by
  unfold opV
  have hp := h.obj.lt
  have hq := h.qu.lt
  have HL : Hid (Low w.heap.size p l) := low_of h
  obtain ⟨T1, T2, T3⟩ := frame3 (T := 47) w (.cells #[.int .i64 15, .int .i64 a, .int .i64 b, .int .i64 cc, .string s, .string t] 50) [.int .i64 0, .int .i64 0, .int .i64 0, .string ⟨#[]⟩] [.int .i64 0, .int .i64 0, .int .i64 0, .string ⟨#[]⟩]
  have H3 : Hid _ := ap_nil h T3
  have HG : Hid (Good g n ∧ n ≤ 4611686018427387904 ∧ I64 a) := ⟨hg, hn, ha⟩
  clear h hg hn ha
  go_enter Tryd.func18, Tryd.ntmps18
  go_wp2_with fail
  refine (CheckR p l g n _ HG.out.1 H3.out).mono ?_
  rintro e w1 ⟨rfl, q1, c1⟩
  have K1 := T1.kept c1 (by omega)
  have K2 := T2.kept c1 (by omega)
  have f0 := K1.frozen 0
  have u0 : w1.cell? ⟨w.heap.size + 1, 0, none⟩ = some (.int .i64 0) := K1.cell 0
  have g0 := K2.frozen 0
  have v0 : w1.cell? ⟨w.heap.size + 1 + 1, 0, none⟩ = some (.int .i64 0) := K2.cell 0
  have f1 := K1.frozen 1
  have u1 : w1.cell? ⟨w.heap.size + 1, 1, none⟩ = some (.int .i64 0) := K1.cell 1
  have g1 := K2.frozen 1
  have v1 : w1.cell? ⟨w.heap.size + 1 + 1, 1, none⟩ = some (.int .i64 0) := K2.cell 1
  have f2 := K1.frozen 2
  have u2 : w1.cell? ⟨w.heap.size + 1, 2, none⟩ = some (.int .i64 0) := K1.cell 2
  have g2 := K2.frozen 2
  have v2 : w1.cell? ⟨w.heap.size + 1 + 1, 2, none⟩ = some (.int .i64 0) := K2.cell 2
  have f3 := K1.frozen 3
  have u3 : w1.cell? ⟨w.heap.size + 1, 3, none⟩ = some (.string ⟨#[]⟩) := K1.cell 3
  have g3 := K2.frozen 3
  have v3 : w1.cell? ⟨w.heap.size + 1 + 1, 3, none⟩ = some (.string ⟨#[]⟩) := K2.cell 3
  have C : Hid (Chg (fun k => k = p ∨ k = l.q) w w1) := (chg_0 T3).trans c1
  have Q1 : Hid (Ap w1 p l g) := q1
  clear T1 T2 T3 K1 K2 c1 q1
  go_wp2
  refine bodyPost_ret (by simp [results, Tryd.results18, go_sem, u0, u1, u2, u3]; try rfl) rfl ?_
  exact ⟨rfl, (ap_set (ap_set (ap_set (ap_set (ap_set Q1.out HL.out (by dsimp only; omega) _) HL.out (by dsimp only; omega) _) HL.out (by dsimp only; omega) _) HL.out (by dsimp only; omega) _) HL.out (by dsimp only; omega) _), (((((C.out.setCell (Or.inr (by dsimp only; omega)) _).setCell (Or.inr (by dsimp only; omega)) _).setCell (Or.inr (by dsimp only; omega)) _).setCell (Or.inr (by dsimp only; omega)) _).setCell (Or.inr (by dsimp only; omega)) _)⟩

theorem chdo_0 (p : Nat) (l : Lk) (g : PS) (kd a b cc : Int) (s t : ByteArray) (w : World) (h : Ap w p l g) (h1 : kd ≠ 1) (h2 : kd ≠ 2) (h3 : kd ≠ 3) (h4 : kd ≠ 4) (h5 : kd ≠ 5) (h6 : kd ≠ 6) (h7 : kd ≠ 7) (h8 : kd ≠ 8) (h9 : kd ≠ 9) (h10 : kd ≠ 10) (h11 : kd ≠ 11) (h12 : kd ≠ 12) (h13 : kd ≠ 13) (h14 : kd ≠ 14) (h15 : kd ≠ 15) (h16 : kd ≠ 16) :
    Calls Tryd.prog 18 #[.pointer (some ⟨p, 0, none⟩), opV kd a b cc s t] w fun e w' => e = .returned (ansV 0 0 0 ⟨#[]⟩) ∧ Ap w' p l g ∧ Chg (fun k => k = p ∨ k = l.q) w w' := by
  unfold opV
  obtain ⟨T1, T2, T3⟩ := frame3 (T := 47) w (.cells #[.int .i64 kd, .int .i64 a, .int .i64 b, .int .i64 cc, .string s, .string t] 50) [.int .i64 0, .int .i64 0, .int .i64 0, .string ⟨#[]⟩] [.int .i64 0, .int .i64 0, .int .i64 0, .string ⟨#[]⟩]
  have k1 : (kd == 1) = false := by simpa using h1
  have k2 : (kd == 2) = false := by simpa using h2
  have k3 : (kd == 3) = false := by simpa using h3
  have k4 : (kd == 4) = false := by simpa using h4
  have k5 : (kd == 5) = false := by simpa using h5
  have k6 : (kd == 6) = false := by simpa using h6
  have k7 : (kd == 7) = false := by simpa using h7
  have k8 : (kd == 8) = false := by simpa using h8
  have k9 : (kd == 9) = false := by simpa using h9
  have k10 : (kd == 10) = false := by simpa using h10
  have k11 : (kd == 11) = false := by simpa using h11
  have k12 : (kd == 12) = false := by simpa using h12
  have k13 : (kd == 13) = false := by simpa using h13
  have k14 : (kd == 14) = false := by simpa using h14
  have k15 : (kd == 15) = false := by simpa using h15
  have k16 : (kd == 16) = false := by simpa using h16
  clear h1 h2 h3 h4 h5 h6 h7 h8 h9 h10 h11 h12 h13 h14 h15 h16
  have H3 : Hid _ := ap_nil h T3
  have C3 : Hid _ := T3
  clear T1 T2 T3 h
  go_enter Tryd.func18, Tryd.ntmps18
  go_wp2
  refine bodyPost_ret (by simp [results, Tryd.results18, go_sem]; try rfl) rfl ?_
  exact ⟨rfl, H3.out, chg_0 C3.out⟩

/-- what a step's text is -/
def textS (g : PS) (kd : Int) : ByteArray := if kd = 14 then textP g else ⟨#[]⟩
theorem fedP_eq (g : PS) (kd a b : Int) (h : kd = 2 ∨ kd = 16) : True := trivial
theorem chdo_any (p : Nat) (l : Lk) (g : PS) (n : Int) (kd a b cc : Int) (s t : ByteArray) (w : World) (hg : Good g n) (hn : n ≤ 4611686018427387904) (ha : I64 a) (h : Ap w p l g) (ht : Tab w) :
    Calls Tryd.prog 18 #[.pointer (some ⟨p, 0, none⟩), opV kd a b cc s t] w fun e w' => e = .returned (ansV (stepP g kd a b).1.e (stepP g kd a b).1.n (stepP g kd a b).1.k (textS g kd)) ∧ Ap w' p l (stepP g kd a b).2 ∧ Chg (fun k => k = p ∨ k = l.q) w w' := by
  by_cases h1 : kd = 1
  · subst h1; exact (chdo_1 p l g n a b cc s t w hg hn ha h).mono fun e w' ⟨he, hw⟩ => ⟨by rw [he]; congr 1; show ansV (tuneP g a b).1.e 0 0 ⟨#[]⟩ = ansV (tuneP g a b).1.e (tuneP g a b).1.n (tuneP g a b).1.k ⟨#[]⟩; unfold tuneP; (repeat' split) <;> rfl, hw⟩
  by_cases h2 : kd = 2
  · subst h2; exact (chdo_2 p l g n a b cc s t w hg hn ha h).mono fun e w' ⟨he, hw⟩ => ⟨he, hw⟩
  by_cases h3 : kd = 3
  · subst h3; exact (chdo_3 p l g n a b cc s t w hg hn ha h).mono fun e w' ⟨he, hw⟩ => ⟨he, hw⟩
  by_cases h4 : kd = 4
  · subst h4; exact (chdo_4 p l g n a b cc s t w hg hn ha h).mono fun e w' ⟨he, hw⟩ => ⟨he, hw⟩
  by_cases h5 : kd = 5
  · subst h5; exact (chdo_5 p l g n a b cc s t w hg hn ha h).mono fun e w' ⟨he, hw⟩ => ⟨he, hw⟩
  by_cases h6 : kd = 6
  · subst h6; exact (chdo_6 p l g n a b cc s t w hg hn ha h).mono fun e w' ⟨he, hw⟩ => ⟨he, hw⟩
  by_cases h7 : kd = 7
  · subst h7; exact (chdo_7 p l g n a b cc s t w hg hn ha h).mono fun e w' ⟨he, hw⟩ => ⟨he, hw⟩
  by_cases h8 : kd = 8
  · subst h8; exact (chdo_8 p l g n a b cc s t w hg hn ha h).mono fun e w' ⟨he, hw⟩ => ⟨by rw [he]; congr 1; show ansV 0 (spanP g).n (spanP g).k ⟨#[]⟩ = ansV (spanP g).e (spanP g).n (spanP g).k ⟨#[]⟩; unfold spanP; (repeat' split) <;> rfl, hw⟩
  by_cases h9 : kd = 9
  · subst h9; exact (chdo_9 p l g n a b cc s t w hg hn ha h).mono fun e w' ⟨he, hw⟩ => ⟨he, hw⟩
  by_cases h10 : kd = 10
  · subst h10; exact (chdo_10 p l g n a b cc s t w hg hn ha h).mono fun e w' ⟨he, hw⟩ => ⟨by rw [he]; congr 1; show ansV (ditherP g a).1.e (ditherP g a).1.n 0 ⟨#[]⟩ = ansV (ditherP g a).1.e (ditherP g a).1.n (ditherP g a).1.k ⟨#[]⟩; unfold ditherP; (repeat' split) <;> rfl, hw⟩
  by_cases h11 : kd = 11
  · subst h11; exact (chdo_11 p l g n a b cc s t w hg hn ha h).mono fun e w' ⟨he, hw⟩ => ⟨by rw [he]; congr 1; show ansV 0 (squelchP g a).1.n 0 ⟨#[]⟩ = ansV (squelchP g a).1.e (squelchP g a).1.n (squelchP g a).1.k ⟨#[]⟩; unfold squelchP; (repeat' split) <;> rfl, hw⟩
  by_cases h12 : kd = 12
  · subst h12; exact (chdo_12 p l g n a b cc s t w hg hn ha h).mono fun e w' ⟨he, hw⟩ => ⟨he, hw⟩
  by_cases h13 : kd = 13
  · subst h13; exact (chdo_13 p l g n a b cc s t w hg hn ha h).mono fun e w' ⟨he, hw⟩ => ⟨he, hw⟩
  by_cases h14 : kd = 14
  · subst h14; exact (chdo_14 p l g n a b cc s t w hg hn ha h ht).mono fun e w' ⟨he, hw⟩ => ⟨he, hw⟩
  by_cases h15 : kd = 15
  · subst h15; exact (chdo_15 p l g n a b cc s t w hg hn ha h).mono fun e w' ⟨he, hw⟩ => ⟨he, hw⟩
  by_cases h16 : kd = 16
  · subst h16; exact (chdo_16 p l g n a b cc s t w hg hn ha h).mono fun e w' ⟨he, hw⟩ => ⟨he, hw⟩
  have e0 : stepP g kd a b = (⟨0, 0, 0⟩, g) := by unfold stepP; rw [if_neg h1, if_neg h2, if_neg h16, if_neg h3, if_neg h4, if_neg h5, if_neg h6, if_neg h7, if_neg h8, if_neg h9, if_neg h10, if_neg h11, if_neg h12, if_neg h13, if_neg h15]
  have e1 : textS g kd = ⟨#[]⟩ := by unfold textS; rw [if_neg h14]
  exact (chdo_0 p l g kd a b cc s t w h h1 h2 h3 h4 h5 h6 h7 h8 h9 h10 h11 h12 h13 h14 h15 h16).mono fun e w' ⟨he, hw⟩ => ⟨by rw [he, e0, e1], by rw [e0]; exact hw⟩
end Go.Proofs.Qxb6500376aDoor

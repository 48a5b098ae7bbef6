/- Keeps: the ghost; what the observers show; look. -/
import Derived.Test.Qxb6500376aDoorKqBase
namespace Go.Proofs.Qxb6500376aDoor
set_option linter.unusedVariables false
set_option linter.unusedSimpArgs false
set_option maxHeartbeats 4000000
set_option maxRecDepth 100000
open Go.RowKit Go.Qu Ieee

def ghCells (g : PS) : List Value := g.ring.map (fun v => .int .i64 v) ++ [.int .i64 g.at_, .int .i64 g.depth, .int .i64 g.mode]
structure Gh (w : World) (p : Nat) (g : PS) : Prop where
  len : g.ring.length = 8
  obj : Has 42 w p (ghCells g)
theorem gh_get (g : PS) (hr : g.ring.length = 8) : (ghCells g)[8]? = some (.int .i64 g.at_) ∧ (ghCells g)[9]? = some (.int .i64 g.depth) ∧ (ghCells g)[10]? = some (.int .i64 g.mode) := by
  obtain ⟨a0, a1, a2, a3, a4, a5, a6, a7, e⟩ := len8 hr
  unfold ghCells; rw [e]; exact ⟨rfl, rfl, rfl⟩
theorem gh_ring (g : PS) (hr : g.ring.length = 8) (i : Nat) (hi : i < 8) : (ghCells g)[i]? = some (.int .i64 (g.ring.getD i 0)) := by
  obtain ⟨a0, a1, a2, a3, a4, a5, a6, a7, e⟩ := len8 hr
  unfold ghCells; rw [e]
  have : i = 0 ∨ i = 1 ∨ i = 2 ∨ i = 3 ∨ i = 4 ∨ i = 5 ∨ i = 6 ∨ i = 7 := by omega
  rcases this with rfl | rfl | rfl | rfl | rfl | rfl | rfl | rfl <;> rfl
theorem gh_set (g : PS) (hr : g.ring.length = 8) (v : Int) :
    (ghCells g).set 8 (.int .i64 v) = ghCells { g with at_ := v } ∧ (ghCells g).set 9 (.int .i64 v) = ghCells { g with depth := v } ∧ (ghCells g).set 10 (.int .i64 v) = ghCells { g with mode := v } := by
  obtain ⟨a0, a1, a2, a3, a4, a5, a6, a7, e⟩ := len8 hr
  unfold ghCells; dsimp only; rw [e]; exact ⟨rfl, rfl, rfl⟩
theorem gh_setRing (g : PS) (hr : g.ring.length = 8) (i : Nat) (hi : i < 8) (v : Int) : (ghCells g).set i (.int .i64 v) = ghCells { g with ring := g.ring.set i v } := by
  obtain ⟨a0, a1, a2, a3, a4, a5, a6, a7, e⟩ := len8 hr
  unfold ghCells; dsimp only; rw [e]
  have : i = 0 ∨ i = 1 ∨ i = 2 ∨ i = 3 ∨ i = 4 ∨ i = 5 ∨ i = 6 ∨ i = 7 := by omega
  rcases this with rfl | rfl | rfl | rfl | rfl | rfl | rfl | rfl <;> rfl
theorem Gh.cell {w : World} {p : Nat} {g : PS} (h : Gh w p g) (i : Nat) {v : Value} (hv : (ghCells g)[i]? = some v) : w.cell? ⟨p, i, none⟩ = some v := (h.obj.cell i).trans hv
theorem Gh.frozen {w : World} {p : Nat} {g : PS} (h : Gh w p g) (i : Nat) : w.frozen? ⟨p, i, none⟩ = false := h.obj.frozen i
theorem Gh.ring {w : World} {p : Nat} {g : PS} (h : Gh w p g) (i : Nat) (hi : i < 8) : w.cell? ⟨p, i, none⟩ = some (.int .i64 (g.ring.getD i 0)) := h.cell _ (gh_ring g h.len i hi)
theorem Gh.kept {w w' : World} {p : Nat} {g : PS} (h : Gh w p g) {S : Nat → Prop} (hc : Chg S w w') (h1 : ¬ S p) : Gh w' p g := ⟨h.len, h.obj.kept hc h1⟩
theorem Gh.nil {w w' : World} {p : Nat} {g : PS} (h : Gh w p g) (hc : Chg (fun _ => False) w w') : Gh w' p g := h.kept hc (fun h => h)
theorem Gh.drew {w : World} {p : Nat} {g : PS} (h : Gh w p g) : Gh w.drew p g := ⟨h.len, h.obj.drew⟩
theorem Gh.drewN {w : World} {p : Nat} {g : PS} (h : Gh w p g) (n : Nat) : Gh (w.drewN n) p g := ⟨h.len, h.obj.drewN n⟩
theorem Gh.put {w : World} {p : Nat} {g : PS} (h : Gh w p g) (i : Nat) (v : Value) {g' : PS} (he : (ghCells g).set i v = ghCells g') (hl : g'.ring.length = 8) : Gh (w.setCell ⟨p, i, none⟩ v) p g' := ⟨hl, by rw [← he]; exact h.obj.setCell i v⟩
theorem Gh.same {w : World} {p : Nat} {g g' : PS} (h : Gh w p g) (h1 : g'.ring = g.ring) (h2 : g'.at_ = g.at_) (h3 : g'.depth = g.depth) (h4 : g'.mode = g.mode) : Gh w p g' := ⟨by rw [h1]; exact h.len, by have := h.obj; unfold ghCells at this ⊢; rw [h1, h2, h3, h4]; exact this⟩
theorem Gh.setAt {w : World} {p : Nat} {g : PS} (h : Gh w p g) (v : Int) : Gh (w.setCell ⟨p, 8, none⟩ (.int .i64 v)) p { g with at_ := v } := h.put 8 _ (gh_set g h.len v).1 h.len
theorem Gh.setDepth {w : World} {p : Nat} {g : PS} (h : Gh w p g) (v : Int) : Gh (w.setCell ⟨p, 9, none⟩ (.int .i64 v)) p { g with depth := v } := h.put 9 _ (gh_set g h.len v).2.1 h.len
theorem Gh.setMode {w : World} {p : Nat} {g : PS} (h : Gh w p g) (v : Int) : Gh (w.setCell ⟨p, 10, none⟩ (.int .i64 v)) p { g with mode := v } := h.put 10 _ (gh_set g h.len v).2.2 h.len
theorem Gh.setRing {w : World} {p : Nat} {g : PS} (h : Gh w p g) (i : Nat) (hi : i < 8) (v : Int) : Gh (w.setCell ⟨p, i, none⟩ (.int .i64 v)) p { g with ring := g.ring.set i v } := h.put i _ (gh_setRing g h.len i hi v) (by simpa using h.len)
theorem Gh.lt {w : World} {p : Nat} {g : PS} (h : Gh w p g) : p < w.heap.size := h.obj.lt

theorem far_cell' (W : World) {x y : Nat} (h : x ≠ y) (i j : Nat) (v : Value) : (W.setCell ⟨x, i, none⟩ v).cell? ⟨y, j, none⟩ = W.cell? ⟨y, j, none⟩ := World.cell?_setCell_other W _ _ v (fun e => h (congrArg Addr.block e))

/-- what the observers show -/
def befC (g : PS) : List Value := [.int .i64 g.sum, .int .i64 g.peak, .int .i64 g.dip, .int .i64 (sumSq g.ring / 4294967296), .int .i64 (sumSq g.ring % 4294967296), .int .i64 g.seq, .int .i64 g.dropped]
def befV (g : PS) : Value := .agg #[.int .i64 g.sum, .int .i64 g.peak, .int .i64 g.dip, .int .i64 (sumSq g.ring / 4294967296), .int .i64 (sumSq g.ring % 4294967296), .int .i64 g.seq, .int .i64 g.dropped]

theorem energyQ (p : Nat) (l : Lk) (g : PS) (n : Int) (w : World) (hg : Good g n) (h : Ap w p l g) :
    Calls Tryd.prog 30 #[.pointer (some ⟨p, 0, none⟩)] w fun e w' => e = .returned (.tuple #[.int .i64 (sumSq g.ring / 4294967296), .int .i64 (sumSq g.ring % 4294967296)]) ∧ ∃ k, w' = w.drewN k := by
  have en := hg.en
  refine (energy_any p l (realS g) g.c g.z w h (by unfold realS; dsimp only; omega) (by unfold realS; dsimp only; omega) (by unfold realS; dsimp only; omega) (by unfold realS; dsimp only; omega)).mono ?_
  rintro e w' ⟨rfl, k, rfl⟩
  rw [hg.enHi.1, hg.enHi.2.1]
  exact ⟨rfl, k, rfl⟩
theorem peakQ (p : Nat) (l : Lk) (g : PS) (n : Int) (w : World) (hg : Good g n) (h : Ap w p l g) :
    Calls Tryd.prog 24 #[.pointer (some ⟨p, 0, none⟩)] w fun e w' => e = .returned (.int .i64 g.peak) ∧ w' = w :=
  (peak_any p l (realS g) g.c g.z w h).mono fun e w' ⟨he, hw⟩ => by
    subst hw; rw [he]; exact ⟨by unfold realS; dsimp only; rw [back_bits hg.pk], rfl⟩
theorem dipQ (p : Nat) (l : Lk) (g : PS) (n : Int) (w : World) (hg : Good g n) (h : Ap w p l g) :
    Calls Tryd.prog 25 #[.pointer (some ⟨p, 0, none⟩)] w fun e w' => e = .returned (.int .i64 g.dip) ∧ w' = w :=
  (dip_any p l (realS g) g.c g.z w h).mono fun e w' ⟨he, hw⟩ => by
    subst hw; rw [he]; exact ⟨by unfold realS; dsimp only; rw [back_bits hg.dp], rfl⟩
theorem sumQ (p : Nat) (l : Lk) (g : PS) (n : Int) (w : World) (hg : Good g n) (h : Ap w p l g) :
    Calls Tryd.prog 12 #[.pointer (some ⟨p, 0, none⟩)] w fun e w' => e = .returned (.int .i64 g.sum) ∧ w' = w :=
  (sum_any p l (realS g) g.c g.z w h hg.s1 hg.s2).mono fun e w' ⟨he, hw⟩ => ⟨he, hw⟩
theorem seqQ (p : Nat) (l : Lk) (g : PS) (w : World) (h : Ap w p l g) :
    Calls Tryd.prog 13 #[.pointer (some ⟨p, 0, none⟩)] w fun e w' => e = .returned (.int .i64 g.seq) ∧ w' = w :=
  (seq_any p l (realS g) g.c g.z w h).mono fun e w' ⟨he, hw⟩ => ⟨he, hw⟩
theorem droppedQ (p : Nat) (l : Lk) (g : PS) (w : World) (h : Ap w p l g) :
    Calls Tryd.prog 31 #[.pointer (some ⟨p, 0, none⟩)] w fun e w' => e = .returned (.int .i64 g.dropped) ∧ w' = w :=
  (dropped_any p l (realS g) g.c g.z w h).mono fun e w' ⟨he, hw⟩ => ⟨he, hw⟩

theorem look_any (p : Nat) (l : Lk) (g : PS) (n : Int) (w : World) (hg : Good g n) (h : Ap w p l g) :
    Calls Tryd.prog 17 #[.pointer (some ⟨p, 0, none⟩)] w fun e w' => e = .returned (befV g) ∧ Chg (fun _ => False) w w' := by
  unfold befV
  have H : Hid (Ap w p l g) := h
  have HG : Hid (Good g n) := hg
  have S1 : Hid (∀ w' (h : Ap w' p l g), Calls _ _ _ _ _) := fun w' h => sumQ p l g n w' hg h
  have S2 : Hid (∀ w' (h : Ap w' p l g), Calls _ _ _ _ _) := fun w' h => peakQ p l g n w' hg h
  have S3 : Hid (∀ w' (h : Ap w' p l g), Calls _ _ _ _ _) := fun w' h => dipQ p l g n w' hg h
  have S4 : Hid (∀ w' (h : Ap w' p l g), Calls _ _ _ _ _) := fun w' h => energyQ p l g n w' hg h
  have S5 : Hid (∀ w' (h : Ap w' p l g), Calls _ _ _ _ _) := fun w' h => seqQ p l g w' h
  have S6 : Hid (∀ w' (h : Ap w' p l g), Calls _ _ _ _ _) := fun w' h => droppedQ p l g w' h
  generalize sumSq g.ring / 4294967296 = hi at S4 ⊢
  generalize sumSq g.ring % 4294967296 = lo at S4 ⊢
  clear h hg
  go_enter Tryd.func17, Tryd.ntmps17
  go_wp2_with fail
  refine (S1.out _ (ap_nil H.out (((Chg.refl _ w).alloc _).alloc _))).mono ?_; rintro e w1 ⟨rfl, rfl⟩
  go_wp2_with fail
  refine (S2.out _ (ap_nil H.out (((Chg.refl _ w).alloc _).alloc _))).mono ?_; rintro e w1 ⟨rfl, rfl⟩
  go_wp2_with fail
  refine (S3.out _ (ap_nil H.out (((Chg.refl _ w).alloc _).alloc _))).mono ?_; rintro e w1 ⟨rfl, rfl⟩
  go_wp2_with fail
  refine (S4.out _ (ap_nil H.out (((Chg.refl _ w).alloc _).alloc _))).mono ?_; rintro e w1 ⟨rfl, k, hw⟩
  have C1 : Hid (Chg (fun _ => False) w w1) := by rw [hw]; exact (((Chg.refl _ w).alloc _).alloc _).drewN k
  have K1 : Hid (Has 44 w1 w.heap.size [.int .i64 0, .int .i64 0, .int .i64 0, .int .i64 0, .int .i64 0, .int .i64 0, .int .i64 0]) := by rw [hw]; exact ((Has.new 44 w [.int .i64 0, .int .i64 0, .int .i64 0, .int .i64 0, .int .i64 0, .int .i64 0, .int .i64 0]).alloc _).drewN k
  have K2 : Hid (Has 44 w1 (w.heap.size + 1) [.int .i64 g.sum, .int .i64 g.peak, .int .i64 g.dip, .int .i64 0, .int .i64 0, .int .i64 0, .int .i64 0]) := by rw [hw]; exact (hasAt (by simp) [.int .i64 g.sum, .int .i64 g.peak, .int .i64 g.dip, .int .i64 0, .int .i64 0, .int .i64 0, .int .i64 0]).drewN k
  have HL : Hid (Low w.heap.size p l) := low_of H.out
  have A1 : Hid (Ap w1 p l g) := ap_nil H.out C1.out
  clear hw
  have f0 := K1.out.frozen 0
  have u0 : w1.cell? ⟨w.heap.size, 0, none⟩ = some (.int .i64 0) := K1.out.cell 0
  have g0 := K2.out.frozen 0
  have v0 : w1.cell? ⟨w.heap.size + 1, 0, none⟩ = some (.int .i64 g.sum) := K2.out.cell 0
  have f1 := K1.out.frozen 1
  have u1 : w1.cell? ⟨w.heap.size, 1, none⟩ = some (.int .i64 0) := K1.out.cell 1
  have g1 := K2.out.frozen 1
  have v1 : w1.cell? ⟨w.heap.size + 1, 1, none⟩ = some (.int .i64 g.peak) := K2.out.cell 1
  have f2 := K1.out.frozen 2
  have u2 : w1.cell? ⟨w.heap.size, 2, none⟩ = some (.int .i64 0) := K1.out.cell 2
  have g2 := K2.out.frozen 2
  have v2 : w1.cell? ⟨w.heap.size + 1, 2, none⟩ = some (.int .i64 g.dip) := K2.out.cell 2
  have f3 := K1.out.frozen 3
  have u3 : w1.cell? ⟨w.heap.size, 3, none⟩ = some (.int .i64 0) := K1.out.cell 3
  have g3 := K2.out.frozen 3
  have v3 : w1.cell? ⟨w.heap.size + 1, 3, none⟩ = some (.int .i64 0) := K2.out.cell 3
  have f4 := K1.out.frozen 4
  have u4 : w1.cell? ⟨w.heap.size, 4, none⟩ = some (.int .i64 0) := K1.out.cell 4
  have g4 := K2.out.frozen 4
  have v4 : w1.cell? ⟨w.heap.size + 1, 4, none⟩ = some (.int .i64 0) := K2.out.cell 4
  have f5 := K1.out.frozen 5
  have u5 : w1.cell? ⟨w.heap.size, 5, none⟩ = some (.int .i64 0) := K1.out.cell 5
  have g5 := K2.out.frozen 5
  have v5 : w1.cell? ⟨w.heap.size + 1, 5, none⟩ = some (.int .i64 0) := K2.out.cell 5
  have f6 := K1.out.frozen 6
  have u6 : w1.cell? ⟨w.heap.size, 6, none⟩ = some (.int .i64 0) := K1.out.cell 6
  have g6 := K2.out.frozen 6
  have v6 : w1.cell? ⟨w.heap.size + 1, 6, none⟩ = some (.int .i64 0) := K2.out.cell 6
  go_wp2_with fail
  refine (S5.out _ (ap_set (ap_set A1.out HL.out (by dsimp only; omega) _) HL.out (by dsimp only; omega) _)).mono ?_; rintro e w2 ⟨rfl, rfl⟩
  go_wp2_with fail
  refine (S6.out _ (ap_set (ap_set (ap_set A1.out HL.out (by dsimp only; omega) _) HL.out (by dsimp only; omega) _) HL.out (by dsimp only; omega) _)).mono ?_; rintro e w2 ⟨rfl, rfl⟩
  go_wp2_with fail
  refine bodyPost_ret (by simp [results, Tryd.results17, go_sem, u0, u1, u2, u3, u4, u5, u6]; try rfl) rfl ?_
  exact ⟨rfl, (((((((((((C1.out.setCell (Or.inr (by dsimp only; omega)) _).setCell (Or.inr (by dsimp only; omega)) _).setCell (Or.inr (by dsimp only; omega)) _).setCell (Or.inr (by dsimp only; omega)) _).setCell (Or.inr (by dsimp only; omega)) _).setCell (Or.inr (by dsimp only; omega)) _).setCell (Or.inr (by dsimp only; omega)) _).setCell (Or.inr (by dsimp only; omega)) _).setCell (Or.inr (by dsimp only; omega)) _).setCell (Or.inr (by dsimp only; omega)) _).setCell (Or.inr (by dsimp only; omega)) _)⟩
end Go.Proofs.Qxb6500376aDoor

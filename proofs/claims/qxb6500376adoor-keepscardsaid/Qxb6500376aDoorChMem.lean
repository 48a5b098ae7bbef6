/- The pipeline's object in memory. -/
import Derived.Test.Qxb6500376aDoorQuMem
namespace Go.Qu
set_option linter.unusedVariables false
set_option linter.unusedSimpArgs false
open Go.RowKit

/-- the blocks that the pipeline's object points to: converter, table, the two tags, the two marks -/
structure Lk where
  q : Nat
  d : Nat
  k : Nat
  dr : Nat
  k0 : Nat
  d0 : Nat
structure CS where
  depth : Int
  mode : Int
  sum : Int
  peak : Nat
  dip : Nat
  ring : List Int
  at_ : Int
  hi : Int
  lo : Int
  seq : Int
  dropped : Int
def chCells (l : Lk) (s : CS) : List Value :=
  [.pointer (some ⟨l.q, 0, none⟩), .int .i64 s.depth, .int .i64 s.mode, .int .i32 s.sum, .float .f64 s.peak, .float .f64 s.dip] ++ s.ring.map (fun v => .int .i32 v) ++
  [.int .i64 s.at_, .int .u64 s.hi, .int .u64 s.lo, .int .i64 s.seq, .int .i64 s.dropped, .slice (some ⟨l.d, 0, none⟩) 8 8, .pointer (some ⟨l.k, 0, none⟩), .pointer (some ⟨l.dr, 0, none⟩), .pointer (some ⟨l.k0, 0, none⟩), .pointer (some ⟨l.d0, 0, none⟩)]
def ramp : List Value := [.int .i32 0, .int .i32 6, .int .i32 12, .int .i32 18, .int .i32 24, .int .i32 30, .int .i32 36, .int .i32 42]

theorem len8 {α : Type} {r : List α} (h : r.length = 8) : ∃ a0 a1 a2 a3 a4 a5 a6 a7, r = [a0, a1, a2, a3, a4, a5, a6, a7] := by
  match r, h with
  | [a0, a1, a2, a3, a4, a5, a6, a7], _ => exact ⟨a0, a1, a2, a3, a4, a5, a6, a7, rfl⟩

/-- Block p holds a pipeline over the links l, in the state s; its converter counts c and z. -/
structure ChAt (TC TQ TI TT TM : TypeId) (w : World) (p : Nat) (l : Lk) (s : CS) (c z : Int) : Prop where
  len : s.ring.length = 8
  obj : Has TC w p (chCells l s)
  qu : Has TQ w l.q [.int .i64 c, .int .i64 z]
  tab : Has TI w l.d ramp
  k : Has TT w l.k [.int .i8 0]
  dr : Has TT w l.dr [.int .i8 0]
  k0 : Has TM w l.k0 []
  d0 : Has TM w l.d0 []
  pq : p ≠ l.q
  pd : p ≠ l.d
  pk : p ≠ l.k
  pdr : p ≠ l.dr
  pk0 : p ≠ l.k0
  pd0 : p ≠ l.d0
  qd : l.q ≠ l.d
  qk : l.q ≠ l.k
  qdr : l.q ≠ l.dr
  qk0 : l.q ≠ l.k0
  qd0 : l.q ≠ l.d0
  kdr : l.k ≠ l.dr
  kd0 : l.k0 ≠ l.d0

theorem chCells_get (l : Lk) (s : CS) (hr : s.ring.length = 8) : (chCells l s)[14]? = some (.int .i64 s.at_) ∧ (chCells l s)[15]? = some (.int .u64 s.hi) ∧ (chCells l s)[16]? = some (.int .u64 s.lo) ∧
    (chCells l s)[17]? = some (.int .i64 s.seq) ∧ (chCells l s)[18]? = some (.int .i64 s.dropped) ∧ (chCells l s)[19]? = some (.slice (some ⟨l.d, 0, none⟩) 8 8) ∧ (chCells l s)[20]? = some (.pointer (some ⟨l.k, 0, none⟩)) ∧
    (chCells l s)[21]? = some (.pointer (some ⟨l.dr, 0, none⟩)) ∧ (chCells l s)[22]? = some (.pointer (some ⟨l.k0, 0, none⟩)) ∧ (chCells l s)[23]? = some (.pointer (some ⟨l.d0, 0, none⟩)) := by
  obtain ⟨a0, a1, a2, a3, a4, a5, a6, a7, e⟩ := len8 hr
  simp [chCells, e]
theorem chCells_ring (l : Lk) (s : CS) (hr : s.ring.length = 8) (i : Nat) (hi : i < 8) : (chCells l s)[6 + i]? = some (.int .i32 (s.ring.getD i 0)) := by
  obtain ⟨a0, a1, a2, a3, a4, a5, a6, a7, e⟩ := len8 hr
  have : i = 0 ∨ i = 1 ∨ i = 2 ∨ i = 3 ∨ i = 4 ∨ i = 5 ∨ i = 6 ∨ i = 7 := by omega
  rcases this with rfl | rfl | rfl | rfl | rfl | rfl | rfl | rfl <;> simp [chCells, e]
theorem chCells_setRing (l : Lk) (s : CS) (hr : s.ring.length = 8) (i : Nat) (hi : i < 8) (v : Int) : (chCells l s).set (6 + i) (.int .i32 v) = chCells l { s with ring := s.ring.set i v } := by
  obtain ⟨a0, a1, a2, a3, a4, a5, a6, a7, e⟩ := len8 hr
  have : i = 0 ∨ i = 1 ∨ i = 2 ∨ i = 3 ∨ i = 4 ∨ i = 5 ∨ i = 6 ∨ i = 7 := by omega
  rcases this with rfl | rfl | rfl | rfl | rfl | rfl | rfl | rfl <;> simp [chCells, e]
theorem chCells_set_depth (l : Lk) (s : CS) (hr : s.ring.length = 8) (v : Int) : (chCells l s).set 1 (.int .i64 v) = chCells l { s with depth := v } := by
  obtain ⟨a0, a1, a2, a3, a4, a5, a6, a7, e⟩ := len8 hr
  simp [chCells, e]
theorem chCells_set_mode (l : Lk) (s : CS) (hr : s.ring.length = 8) (v : Int) : (chCells l s).set 2 (.int .i64 v) = chCells l { s with mode := v } := by
  obtain ⟨a0, a1, a2, a3, a4, a5, a6, a7, e⟩ := len8 hr
  simp [chCells, e]
theorem chCells_set_sum (l : Lk) (s : CS) (hr : s.ring.length = 8) (v : Int) : (chCells l s).set 3 (.int .i32 v) = chCells l { s with sum := v } := by
  obtain ⟨a0, a1, a2, a3, a4, a5, a6, a7, e⟩ := len8 hr
  simp [chCells, e]
theorem chCells_set_peak (l : Lk) (s : CS) (hr : s.ring.length = 8) (v : Nat) : (chCells l s).set 4 (.float .f64 v) = chCells l { s with peak := v } := by
  obtain ⟨a0, a1, a2, a3, a4, a5, a6, a7, e⟩ := len8 hr
  simp [chCells, e]
theorem chCells_set_dip (l : Lk) (s : CS) (hr : s.ring.length = 8) (v : Nat) : (chCells l s).set 5 (.float .f64 v) = chCells l { s with dip := v } := by
  obtain ⟨a0, a1, a2, a3, a4, a5, a6, a7, e⟩ := len8 hr
  simp [chCells, e]
theorem chCells_set_at_ (l : Lk) (s : CS) (hr : s.ring.length = 8) (v : Int) : (chCells l s).set 14 (.int .i64 v) = chCells l { s with at_ := v } := by
  obtain ⟨a0, a1, a2, a3, a4, a5, a6, a7, e⟩ := len8 hr
  simp [chCells, e]
theorem chCells_set_hi (l : Lk) (s : CS) (hr : s.ring.length = 8) (v : Int) : (chCells l s).set 15 (.int .u64 v) = chCells l { s with hi := v } := by
  obtain ⟨a0, a1, a2, a3, a4, a5, a6, a7, e⟩ := len8 hr
  simp [chCells, e]
theorem chCells_set_lo (l : Lk) (s : CS) (hr : s.ring.length = 8) (v : Int) : (chCells l s).set 16 (.int .u64 v) = chCells l { s with lo := v } := by
  obtain ⟨a0, a1, a2, a3, a4, a5, a6, a7, e⟩ := len8 hr
  simp [chCells, e]
theorem chCells_set_seq (l : Lk) (s : CS) (hr : s.ring.length = 8) (v : Int) : (chCells l s).set 17 (.int .i64 v) = chCells l { s with seq := v } := by
  obtain ⟨a0, a1, a2, a3, a4, a5, a6, a7, e⟩ := len8 hr
  simp [chCells, e]
theorem chCells_set_dropped (l : Lk) (s : CS) (hr : s.ring.length = 8) (v : Int) : (chCells l s).set 18 (.int .i64 v) = chCells l { s with dropped := v } := by
  obtain ⟨a0, a1, a2, a3, a4, a5, a6, a7, e⟩ := len8 hr
  simp [chCells, e]
theorem ChAt.cell {TC TQ TI TT TM : TypeId} {w : World} {p : Nat} {l : Lk} {s : CS} {c z : Int} (h : ChAt TC TQ TI TT TM w p l s c z) (i : Nat) {v : Value} (hv : (chCells l s)[i]? = some v) : w.cell? ⟨p, i, none⟩ = some v := by rw [h.obj.cell i, hv]
theorem ChAt.frozen {TC TQ TI TT TM : TypeId} {w : World} {p : Nat} {l : Lk} {s : CS} {c z : Int} (h : ChAt TC TQ TI TT TM w p l s c z) (i : Nat) : w.frozen? ⟨p, i, none⟩ = false := h.obj.frozen i
theorem ChAt.c0 {TC TQ TI TT TM : TypeId} {w : World} {p : Nat} {l : Lk} {s : CS} {c z : Int} (h : ChAt TC TQ TI TT TM w p l s c z) : w.cell? ⟨p, 0, none⟩ = some (.pointer (some ⟨l.q, 0, none⟩)) := h.cell 0 rfl
theorem ChAt.c1 {TC TQ TI TT TM : TypeId} {w : World} {p : Nat} {l : Lk} {s : CS} {c z : Int} (h : ChAt TC TQ TI TT TM w p l s c z) : w.cell? ⟨p, 1, none⟩ = some (.int .i64 s.depth) := h.cell 1 rfl
theorem ChAt.c2 {TC TQ TI TT TM : TypeId} {w : World} {p : Nat} {l : Lk} {s : CS} {c z : Int} (h : ChAt TC TQ TI TT TM w p l s c z) : w.cell? ⟨p, 2, none⟩ = some (.int .i64 s.mode) := h.cell 2 rfl
theorem ChAt.c3 {TC TQ TI TT TM : TypeId} {w : World} {p : Nat} {l : Lk} {s : CS} {c z : Int} (h : ChAt TC TQ TI TT TM w p l s c z) : w.cell? ⟨p, 3, none⟩ = some (.int .i32 s.sum) := h.cell 3 rfl
theorem ChAt.c4 {TC TQ TI TT TM : TypeId} {w : World} {p : Nat} {l : Lk} {s : CS} {c z : Int} (h : ChAt TC TQ TI TT TM w p l s c z) : w.cell? ⟨p, 4, none⟩ = some (.float .f64 s.peak) := h.cell 4 rfl
theorem ChAt.c5 {TC TQ TI TT TM : TypeId} {w : World} {p : Nat} {l : Lk} {s : CS} {c z : Int} (h : ChAt TC TQ TI TT TM w p l s c z) : w.cell? ⟨p, 5, none⟩ = some (.float .f64 s.dip) := h.cell 5 rfl
theorem ChAt.c14 {TC TQ TI TT TM : TypeId} {w : World} {p : Nat} {l : Lk} {s : CS} {c z : Int} (h : ChAt TC TQ TI TT TM w p l s c z) : w.cell? ⟨p, 14, none⟩ = some (.int .i64 s.at_) := h.cell 14 (chCells_get l s h.len).1
theorem ChAt.c15 {TC TQ TI TT TM : TypeId} {w : World} {p : Nat} {l : Lk} {s : CS} {c z : Int} (h : ChAt TC TQ TI TT TM w p l s c z) : w.cell? ⟨p, 15, none⟩ = some (.int .u64 s.hi) := h.cell 15 (chCells_get l s h.len).2.1
theorem ChAt.c16 {TC TQ TI TT TM : TypeId} {w : World} {p : Nat} {l : Lk} {s : CS} {c z : Int} (h : ChAt TC TQ TI TT TM w p l s c z) : w.cell? ⟨p, 16, none⟩ = some (.int .u64 s.lo) := h.cell 16 (chCells_get l s h.len).2.2.1
theorem ChAt.c17 {TC TQ TI TT TM : TypeId} {w : World} {p : Nat} {l : Lk} {s : CS} {c z : Int} (h : ChAt TC TQ TI TT TM w p l s c z) : w.cell? ⟨p, 17, none⟩ = some (.int .i64 s.seq) := h.cell 17 (chCells_get l s h.len).2.2.2.1
theorem ChAt.c18 {TC TQ TI TT TM : TypeId} {w : World} {p : Nat} {l : Lk} {s : CS} {c z : Int} (h : ChAt TC TQ TI TT TM w p l s c z) : w.cell? ⟨p, 18, none⟩ = some (.int .i64 s.dropped) := h.cell 18 (chCells_get l s h.len).2.2.2.2.1
theorem ChAt.c19 {TC TQ TI TT TM : TypeId} {w : World} {p : Nat} {l : Lk} {s : CS} {c z : Int} (h : ChAt TC TQ TI TT TM w p l s c z) : w.cell? ⟨p, 19, none⟩ = some (.slice (some ⟨l.d, 0, none⟩) 8 8) := h.cell 19 (chCells_get l s h.len).2.2.2.2.2.1
theorem ChAt.c20 {TC TQ TI TT TM : TypeId} {w : World} {p : Nat} {l : Lk} {s : CS} {c z : Int} (h : ChAt TC TQ TI TT TM w p l s c z) : w.cell? ⟨p, 20, none⟩ = some (.pointer (some ⟨l.k, 0, none⟩)) := h.cell 20 (chCells_get l s h.len).2.2.2.2.2.2.1
theorem ChAt.c21 {TC TQ TI TT TM : TypeId} {w : World} {p : Nat} {l : Lk} {s : CS} {c z : Int} (h : ChAt TC TQ TI TT TM w p l s c z) : w.cell? ⟨p, 21, none⟩ = some (.pointer (some ⟨l.dr, 0, none⟩)) := h.cell 21 (chCells_get l s h.len).2.2.2.2.2.2.2.1
theorem ChAt.c22 {TC TQ TI TT TM : TypeId} {w : World} {p : Nat} {l : Lk} {s : CS} {c z : Int} (h : ChAt TC TQ TI TT TM w p l s c z) : w.cell? ⟨p, 22, none⟩ = some (.pointer (some ⟨l.k0, 0, none⟩)) := h.cell 22 (chCells_get l s h.len).2.2.2.2.2.2.2.2.1
theorem ChAt.c23 {TC TQ TI TT TM : TypeId} {w : World} {p : Nat} {l : Lk} {s : CS} {c z : Int} (h : ChAt TC TQ TI TT TM w p l s c z) : w.cell? ⟨p, 23, none⟩ = some (.pointer (some ⟨l.d0, 0, none⟩)) := h.cell 23 (chCells_get l s h.len).2.2.2.2.2.2.2.2.2
theorem ChAt.ring {TC TQ TI TT TM : TypeId} {w : World} {p : Nat} {l : Lk} {s : CS} {c z : Int} (h : ChAt TC TQ TI TT TM w p l s c z) (i : Nat) (hi : i < 8) : w.cell? ⟨p, 6 + i, none⟩ = some (.int .i32 (s.ring.getD i 0)) := h.cell (6 + i) (chCells_ring l s h.len i hi)
/-- The object itself turns, and nothing that it points to. -/
theorem ChAt.move {TC TQ TI TT TM : TypeId} {w : World} {p : Nat} {l : Lk} {s : CS} {c z : Int} (h : ChAt TC TQ TI TT TM w p l s c z) {w' : World} {s' : CS} (hl : s'.ring.length = 8) (hc : Chg (· = p) w w') (ho : Has TC w' p (chCells l s')) : ChAt TC TQ TI TT TM w' p l s' c z :=
  ⟨hl, ho, h.qu.kept hc h.pq.symm, h.tab.kept hc h.pd.symm, h.k.kept hc h.pk.symm, h.dr.kept hc h.pdr.symm, h.k0.kept hc h.pk0.symm, h.d0.kept hc h.pd0.symm,
    h.pq, h.pd, h.pk, h.pdr, h.pk0, h.pd0, h.qd, h.qk, h.qdr, h.qk0, h.qd0, h.kdr, h.kd0⟩
/-- The converter turns, and nothing else. -/
theorem ChAt.count {TC TQ TI TT TM : TypeId} {w : World} {p : Nat} {l : Lk} {s : CS} {c z : Int} (h : ChAt TC TQ TI TT TM w p l s c z) {w' : World} {c' z' : Int} (hc : Chg (· = l.q) w w') (hq : Has TQ w' l.q [.int .i64 c', .int .i64 z']) : ChAt TC TQ TI TT TM w' p l s c' z' :=
  ⟨h.len, h.obj.kept hc h.pq, hq, h.tab.kept hc h.qd.symm, h.k.kept hc h.qk.symm, h.dr.kept hc h.qdr.symm, h.k0.kept hc h.qk0.symm, h.d0.kept hc h.qd0.symm,
    h.pq, h.pd, h.pk, h.pdr, h.pk0, h.pd0, h.qd, h.qk, h.qdr, h.qk0, h.qd0, h.kdr, h.kd0⟩
/-- Neither turns. -/
theorem ChAt.kept {TC TQ TI TT TM : TypeId} {w : World} {p : Nat} {l : Lk} {s : CS} {c z : Int} (h : ChAt TC TQ TI TT TM w p l s c z) {w' : World} {S : Nat → Prop} (hc : Chg S w w') (h1 : ¬ S p) (h2 : ¬ S l.q) (h3 : ¬ S l.d) (h4 : ¬ S l.k) (h5 : ¬ S l.dr) (h6 : ¬ S l.k0) (h7 : ¬ S l.d0) : ChAt TC TQ TI TT TM w' p l s c z :=
  ⟨h.len, h.obj.kept hc h1, h.qu.kept hc h2, h.tab.kept hc h3, h.k.kept hc h4, h.dr.kept hc h5, h.k0.kept hc h6, h.d0.kept hc h7,
    h.pq, h.pd, h.pk, h.pdr, h.pk0, h.pd0, h.qd, h.qk, h.qdr, h.qk0, h.qd0, h.kdr, h.kd0⟩
theorem ChAt.drew {TC TQ TI TT TM : TypeId} {w : World} {p : Nat} {l : Lk} {s : CS} {c z : Int} (h : ChAt TC TQ TI TT TM w p l s c z) : ChAt TC TQ TI TT TM w.drew p l s c z :=
  ⟨h.len, h.obj, h.qu, h.tab, h.k, h.dr, h.k0, h.d0, h.pq, h.pd, h.pk, h.pdr, h.pk0, h.pd0, h.qd, h.qk, h.qdr, h.qk0, h.qd0, h.kdr, h.kd0⟩
theorem ChAt.drewN {TC TQ TI TT TM : TypeId} {w : World} {p : Nat} {l : Lk} {s : CS} {c z : Int} (h : ChAt TC TQ TI TT TM w p l s c z) (n : Nat) : ChAt TC TQ TI TT TM (w.drewN n) p l s c z :=
  ⟨h.len, h.obj, h.qu, h.tab, h.k, h.dr, h.k0, h.d0, h.pq, h.pd, h.pk, h.pdr, h.pk0, h.pd0, h.qd, h.qk, h.qdr, h.qk0, h.qd0, h.kdr, h.kd0⟩
theorem ChAt.set_depth {TC TQ TI TT TM : TypeId} {w : World} {p : Nat} {l : Lk} {s : CS} {c z : Int} (h : ChAt TC TQ TI TT TM w p l s c z) (v : Int) : ChAt TC TQ TI TT TM (w.setCell ⟨p, 1, none⟩ (.int .i64 v)) p l { s with depth := v } c z :=
  h.move h.len (Chg.set1 w p 1 _) (by rw [← chCells_set_depth l s h.len]; exact h.obj.setCell 1 _)
theorem ChAt.set_mode {TC TQ TI TT TM : TypeId} {w : World} {p : Nat} {l : Lk} {s : CS} {c z : Int} (h : ChAt TC TQ TI TT TM w p l s c z) (v : Int) : ChAt TC TQ TI TT TM (w.setCell ⟨p, 2, none⟩ (.int .i64 v)) p l { s with mode := v } c z :=
  h.move h.len (Chg.set1 w p 2 _) (by rw [← chCells_set_mode l s h.len]; exact h.obj.setCell 2 _)
theorem ChAt.set_sum {TC TQ TI TT TM : TypeId} {w : World} {p : Nat} {l : Lk} {s : CS} {c z : Int} (h : ChAt TC TQ TI TT TM w p l s c z) (v : Int) : ChAt TC TQ TI TT TM (w.setCell ⟨p, 3, none⟩ (.int .i32 v)) p l { s with sum := v } c z :=
  h.move h.len (Chg.set1 w p 3 _) (by rw [← chCells_set_sum l s h.len]; exact h.obj.setCell 3 _)
theorem ChAt.set_peak {TC TQ TI TT TM : TypeId} {w : World} {p : Nat} {l : Lk} {s : CS} {c z : Int} (h : ChAt TC TQ TI TT TM w p l s c z) (v : Nat) : ChAt TC TQ TI TT TM (w.setCell ⟨p, 4, none⟩ (.float .f64 v)) p l { s with peak := v } c z :=
  h.move h.len (Chg.set1 w p 4 _) (by rw [← chCells_set_peak l s h.len]; exact h.obj.setCell 4 _)
theorem ChAt.set_dip {TC TQ TI TT TM : TypeId} {w : World} {p : Nat} {l : Lk} {s : CS} {c z : Int} (h : ChAt TC TQ TI TT TM w p l s c z) (v : Nat) : ChAt TC TQ TI TT TM (w.setCell ⟨p, 5, none⟩ (.float .f64 v)) p l { s with dip := v } c z :=
  h.move h.len (Chg.set1 w p 5 _) (by rw [← chCells_set_dip l s h.len]; exact h.obj.setCell 5 _)
theorem ChAt.set_at_ {TC TQ TI TT TM : TypeId} {w : World} {p : Nat} {l : Lk} {s : CS} {c z : Int} (h : ChAt TC TQ TI TT TM w p l s c z) (v : Int) : ChAt TC TQ TI TT TM (w.setCell ⟨p, 14, none⟩ (.int .i64 v)) p l { s with at_ := v } c z :=
  h.move h.len (Chg.set1 w p 14 _) (by rw [← chCells_set_at_ l s h.len]; exact h.obj.setCell 14 _)
theorem ChAt.set_hi {TC TQ TI TT TM : TypeId} {w : World} {p : Nat} {l : Lk} {s : CS} {c z : Int} (h : ChAt TC TQ TI TT TM w p l s c z) (v : Int) : ChAt TC TQ TI TT TM (w.setCell ⟨p, 15, none⟩ (.int .u64 v)) p l { s with hi := v } c z :=
  h.move h.len (Chg.set1 w p 15 _) (by rw [← chCells_set_hi l s h.len]; exact h.obj.setCell 15 _)
theorem ChAt.set_lo {TC TQ TI TT TM : TypeId} {w : World} {p : Nat} {l : Lk} {s : CS} {c z : Int} (h : ChAt TC TQ TI TT TM w p l s c z) (v : Int) : ChAt TC TQ TI TT TM (w.setCell ⟨p, 16, none⟩ (.int .u64 v)) p l { s with lo := v } c z :=
  h.move h.len (Chg.set1 w p 16 _) (by rw [← chCells_set_lo l s h.len]; exact h.obj.setCell 16 _)
theorem ChAt.set_seq {TC TQ TI TT TM : TypeId} {w : World} {p : Nat} {l : Lk} {s : CS} {c z : Int} (h : ChAt TC TQ TI TT TM w p l s c z) (v : Int) : ChAt TC TQ TI TT TM (w.setCell ⟨p, 17, none⟩ (.int .i64 v)) p l { s with seq := v } c z :=
  h.move h.len (Chg.set1 w p 17 _) (by rw [← chCells_set_seq l s h.len]; exact h.obj.setCell 17 _)
theorem ChAt.set_dropped {TC TQ TI TT TM : TypeId} {w : World} {p : Nat} {l : Lk} {s : CS} {c z : Int} (h : ChAt TC TQ TI TT TM w p l s c z) (v : Int) : ChAt TC TQ TI TT TM (w.setCell ⟨p, 18, none⟩ (.int .i64 v)) p l { s with dropped := v } c z :=
  h.move h.len (Chg.set1 w p 18 _) (by rw [← chCells_set_dropped l s h.len]; exact h.obj.setCell 18 _)
theorem ChAt.set_ring {TC TQ TI TT TM : TypeId} {w : World} {p : Nat} {l : Lk} {s : CS} {c z : Int} (h : ChAt TC TQ TI TT TM w p l s c z) (i : Nat) (hi : i < 8) (v : Int) : ChAt TC TQ TI TT TM (w.setCell ⟨p, 6 + i, none⟩ (.int .i32 v)) p l { s with ring := s.ring.set i v } c z :=
  h.move (by simp [h.len]) (Chg.set1 w p (6 + i) _) (by rw [← chCells_setRing l s h.len i hi]; exact h.obj.setCell (6 + i) _)
end Go.Qu

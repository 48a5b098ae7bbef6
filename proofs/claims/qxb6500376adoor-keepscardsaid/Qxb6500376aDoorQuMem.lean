/- What a call may turn in memory: 'Chg S w w'': of the blocks that were there only those in S may have turned. -/
import Derived.WalkKit
import Derived.Below
import Derived.Deep.Draws
import Derived.Sort.Grow
namespace Go.Qu
set_option linter.unusedVariables false
set_option linter.unusedSimpArgs false
open Go.RowKit

structure Chg (S : Nat → Prop) (w w' : World) : Prop where
  os : w'.os = w.os
  tape : w'.tape = w.tape
  output : w'.output = w.output
  size : w.heap.size ≤ w'.heap.size
  block : ∀ k, k < w.heap.size → ¬ S k → w'.heap[k]? = w.heap[k]?

theorem Chg.refl (S : Nat → Prop) (w : World) : Chg S w w := ⟨rfl, rfl, rfl, Nat.le_refl _, fun _ _ _ => rfl⟩
theorem Chg.trans {S : Nat → Prop} {a b c : World} (h : Chg S a b) (k : Chg S b c) : Chg S a c :=
  ⟨k.os.trans h.os, k.tape.trans h.tape, k.output.trans h.output, Nat.le_trans h.size k.size,
    fun i hi hs => (k.block i (Nat.lt_of_lt_of_le hi h.size) hs).trans (h.block i hi hs)⟩
theorem Chg.mono {S S' : Nat → Prop} {w w' : World} (h : Chg S w w') (hs : ∀ k, k < w.heap.size → S k → S' k) : Chg S' w w' :=
  ⟨h.os, h.tape, h.output, h.size, fun k hk hn => h.block k hk (fun x => hn (hs k hk x))⟩
theorem Chg.drew {S : Nat → Prop} {a w : World} (h : Chg S a w) : Chg S a w.drew := ⟨h.os, h.tape, h.output, h.size, h.block⟩
theorem Chg.drewN {S : Nat → Prop} {a w : World} (h : Chg S a w) (n : Nat) : Chg S a (w.drewN n) := ⟨h.os, h.tape, h.output, h.size, h.block⟩
theorem Chg.alloc {S : Nat → Prop} {a w : World} (h : Chg S a w) (o : Obj) : Chg S a (w.alloc o) :=
  ⟨h.os, h.tape, h.output, Nat.le_trans h.size (by simp), fun k hk hs => by
    rw [Below.heap_alloc _ _ _ (Nat.lt_of_lt_of_le hk h.size)]; exact h.block k hk hs⟩
theorem Chg.setCell {S : Nat → Prop} {a w : World} (h : Chg S a w) {p : Addr} (hp : S p.block ∨ a.heap.size ≤ p.block) (u : Value) : Chg S a (w.setCell p u) :=
  ⟨h.os, h.tape, h.output, Nat.le_trans h.size (by simp), fun k hk hs => by
    rw [Below.heap_setCell _ _ _ _ (by rintro rfl; rcases hp with hp | hp; exact hs hp; omega)]; exact h.block k hk hs⟩
theorem Chg.set1 (w : World) (p i : Nat) (v : Value) : Chg (· = p) w (w.setCell ⟨p, i, none⟩ v) :=
  (Chg.refl (· = p) w).setCell (p := ⟨p, i, none⟩) (.inl rfl) v
theorem Chg.grow {S : Nat → Prop} {a w : World} (h : Chg S a w) (os : Array Obj) : Chg S a (Sort.grow w os) :=
  ⟨h.os, h.tape, h.output, Nat.le_trans h.size (by simp [Sort.grow]), fun k hk hs => by
    rw [← h.block k hk hs]; simp only [Sort.grow]; rw [Array.getElem?_append_left (Nat.lt_of_lt_of_le hk h.size)]⟩
theorem Chg.below {S : Nat → Prop} {w w' : World} (h : Chg S w w') (B : Nat) (hB : B ≤ w.heap.size) (hs : ∀ k, k < B → ¬ S k) : Below B w w' :=
  ⟨h.os, h.tape, h.output, h.size, fun k hk => h.block k (Nat.lt_of_lt_of_le hk hB) (hs k hk)⟩

theorem Chg.up {S : Nat → Prop} {w w' : World} (h : Chg S w w') {B : Nat} (hs : ∀ k, S k → B ≤ k) : Chg (B ≤ ·) w w' := h.mono fun k _ => hs k
theorem Chg.at {p : Nat} {w w' : World} (h : Chg (· = p) w w') {B : Nat} (hp : B ≤ p) : Chg (B ≤ ·) w w' := h.up fun k e => e ▸ hp
theorem Chg.nil {w w' : World} (h : Chg (fun _ => False) w w') {B : Nat} : Chg (B ≤ ·) w w' := h.up fun k e => e.elim
theorem Chg.fin {w w' : World} (h : Chg (w.heap.size ≤ ·) w w') : Below w.heap.size w w' := h.below _ (Nat.le_refl _) fun k hk => by omega

/-- Block p holds a row of cells of the type T, nothing frozen. -/
def Has (T : TypeId) (w : World) (p : Nat) (vs : List Value) : Prop := w.heap[p]? = some (.cells vs.toArray T)
theorem Has.lt {T : TypeId} {w : World} {p : Nat} {vs : List Value} (h : Has T w p vs) : p < w.heap.size := by
  rcases Nat.lt_or_ge p w.heap.size with h' | h'
  · exact h'
  · rw [Has, Array.getElem?_eq_none h'] at h; cases h
theorem Has.cell {T : TypeId} {w : World} {p : Nat} {vs : List Value} (h : Has T w p vs) (i : Nat) : w.cell? ⟨p, i, none⟩ = vs[i]? := by
  unfold Has at h; simp [World.cell?, h]
theorem Has.frozen {T : TypeId} {w : World} {p : Nat} {vs : List Value} (h : Has T w p vs) (i : Nat) : w.frozen? ⟨p, i, none⟩ = false := by
  unfold Has at h; simp [World.frozen?, h]
theorem Has.kept {T : TypeId} {w w' : World} {p : Nat} {vs : List Value} {S : Nat → Prop} (h : Has T w p vs) (hc : Chg S w w') (hs : ¬ S p) : Has T w' p vs :=
  (hc.block p h.lt hs).trans h
theorem Has.drew {T : TypeId} {w : World} {p : Nat} {vs : List Value} (h : Has T w p vs) : Has T w.drew p vs := h
theorem Has.drewN {T : TypeId} {w : World} {p : Nat} {vs : List Value} (h : Has T w p vs) (n : Nat) : Has T (w.drewN n) p vs := h
theorem Has.alloc {T : TypeId} {w : World} {p : Nat} {vs : List Value} (h : Has T w p vs) (o : Obj) : Has T (w.alloc o) p vs :=
  (Below.heap_alloc w o p h.lt).trans h
theorem Has.new (T : TypeId) (w : World) (vs : List Value) : Has T (w.alloc (.cells vs.toArray T)) w.heap.size vs := by
  unfold Has World.alloc; exact Array.getElem?_push_size
theorem Has.setCell {T : TypeId} {w : World} {p : Nat} {vs : List Value} (h : Has T w p vs) (i : Nat) (v : Value) : Has T (w.setCell ⟨p, i, none⟩ v) p (vs.set i v) := by
  unfold Has at h ⊢
  simp [World.setCell, Array.getElem?_modify, h]
theorem Has.setOther {T : TypeId} {w : World} {p : Nat} {vs : List Value} (h : Has T w p vs) {a : Addr} (ha : a.block ≠ p) (v : Value) : Has T (w.setCell a v) p vs :=
  (Below.heap_setCell w a v p (fun e => ha e.symm)).trans h
end Go.Qu

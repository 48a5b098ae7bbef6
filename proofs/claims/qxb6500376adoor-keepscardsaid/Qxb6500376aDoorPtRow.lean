/- A script as a parameter (the pipeline): what its cells hold. -/
import Derived.Test.Qxb6500376aDoorChDo
import Derived.ChangeArms
import Derived.ChangeShapes
import Derived.ChangeSlices
namespace Go.Proofs.Qxb6500376aDoor
set_option linter.unusedVariables false
set_option linter.unusedSimpArgs false
open Go.ChangeShapes Go.WideShapes Go.RowKit Go.Qu

theorem cells_op : Tryd.prog.cellsOf 50 = 6 := by kernel_rfl
theorem cells_int : Tryd.prog.cellsOf 3 = 1 := by kernel_rfl
theorem cells_string : Tryd.prog.cellsOf 9 = 1 := by kernel_rfl

/-- one step of a script, lying at an address -/
structure OpAt (w : World) (b off : Nat) (kd x y cc : Int) (s t : ByteArray) : Prop where
  c0 : w.cell? ⟨b, off, none⟩ = some (.int .i64 kd)
  c1 : w.cell? ⟨b, off + 1, none⟩ = some (.int .i64 x)
  c2 : w.cell? ⟨b, off + 2, none⟩ = some (.int .i64 y)
  c3 : w.cell? ⟨b, off + 3, none⟩ = some (.int .i64 cc)
  c4 : w.cell? ⟨b, off + 4, none⟩ = some (.string s)
  c5 : w.cell? ⟨b, off + 5, none⟩ = some (.string t)
  kd : I64 kd
  x : I64 x
  y : I64 y
  cc : I64 cc
  s : s.size ≤ maxLen
  t : t.size ≤ maxLen
def Script (w : World) (b off len : Nat) : Prop := ∀ i, i < len → ∃ kd x y cc s t, OpAt w b (off + i * 6) kd x y cc s t

theorem wf_i64 {n : Int} (h : (Lit.int .i64 n).wf = true) : I64 n := by
  unfold Lit.wf at h
  simp only [Bool.and_eq_true, decide_eq_true_eq] at h
  unfold I64
  rw [show IntKind.i64.min = -9223372036854775808 by decide, show IntKind.i64.max = 9223372036854775807 by decide] at h
  exact h

theorem field_int {H : Type} {enc : TypeId × Value → H} {w : World} {base : Nat} {spare : Nat → Bool} {held : Bool} {n j : Nat} {cs : List Value} {y : Option (DataW H × List MemPlace)} (hy : ∃ z, y = some z)
    (h : DataW.trod enc Tryd.prog w base spare held n 3 ((cs.drop j).take (Tryd.prog.cellsOf 3)) = y) : ∃ v : Int, cs[j]? = some (.int .i64 v) ∧ I64 v := by
  obtain ⟨z, rfl⟩ := hy
  rw [cells_int] at h
  obtain ⟨v, h1, h2, h3⟩ := DataW.trod_int Tryd.underlying3 h
  exact ⟨v, cell_of_cut h1, wf_i64 h3⟩
theorem field_string {H : Type} {enc : TypeId × Value → H} {w : World} {base : Nat} {spare : Nat → Bool} {held : Bool} {n j : Nat} {cs : List Value} {y : Option (DataW H × List MemPlace)} (hy : ∃ z, y = some z)
    (h : DataW.trod enc Tryd.prog w base spare held n 9 ((cs.drop j).take (Tryd.prog.cellsOf 9)) = y) : ∃ v : ByteArray, cs[j]? = some (.string v) ∧ v.size ≤ maxLen := by
  obtain ⟨z, rfl⟩ := hy
  rw [cells_string] at h
  obtain ⟨v, h1, h2, h3⟩ := DataW.trod_string Tryd.underlying9 h
  exact ⟨v, cell_of_cut h1, h3⟩

theorem open_script {H : Type} {enc : TypeId × Value → H} {w : World} {base : Nat} {spare : Nat → Bool} {held : Bool} {fuel : Nat} {cs : List Value} {x : DataW H × List MemPlace}
    (h : DataW.trod enc Tryd.prog w base spare held fuel 22 cs = some x) :
    ∃ (a : Option Addr) (len cap : Nat), cs = [.slice a len cap] ∧ len ≤ maxLen ∧ (0 < len → ∃ b off, a = some ⟨b, off, none⟩ ∧ Script w b off len) := by
  rcases DataW.trod_slice Tryd.underlying22 h with ⟨h0, _⟩ | ⟨a, len, cap, elems, rest, n, _, rfl, rfl, hb, hl, hm, hlen, hel, _, _⟩
  · exact ⟨none, 0, 0, h0, by unfold maxLen; omega, fun h => by omega⟩
  refine ⟨some a, len, cap, rfl, by omega, fun hpos => ?_⟩
  rw [cells_op] at hel
  have each : ∀ i, i < len → ∃ (cs' : List Value) (kd x y cc : Int) (s t : ByteArray), (∀ j, j < 6 → w.cell? ((a.add (i * 6)).add j) = cs'[j]?) ∧ (cs'[0]? = some (.int .i64 kd) ∧ I64 kd) ∧ (cs'[1]? = some (.int .i64 x) ∧ I64 x) ∧ (cs'[2]? = some (.int .i64 y) ∧ I64 y) ∧
      (cs'[3]? = some (.int .i64 cc) ∧ I64 cc) ∧ (cs'[4]? = some (.string s) ∧ s.size ≤ maxLen) ∧ (cs'[5]? = some (.string t) ∧ t.size ≤ maxLen) := by
    intro i hi
    have h1 := hel i hi
    have hx : elems[i]? = some (elems[i]'(by omega)) := List.getElem?_eq_getElem (by omega)
    rw [hx, Option.bind_eq_some_iff] at h1
    obtain ⟨cs', hcells, hd⟩ := h1
    obtain ⟨_, hl6, hcell⟩ := World.cells?_some hcells
    obtain ⟨xs, n', _, _, _, hxs, hf⟩ := DataW.trod_struct Tryd.underlying50 hd
    have hs : ∀ j, j < 6 → ∃ z, xs[j]? = some z := fun j hj => ⟨xs[j]'(by rw [hxs]; exact hj), List.getElem?_eq_getElem (by rw [hxs]; exact hj)⟩
    obtain ⟨kd, k1⟩ := field_int (hs 0 (by omega)) (hf 0 _ rfl)
    obtain ⟨x, k2⟩ := field_int (hs 1 (by omega)) (hf 1 _ rfl)
    obtain ⟨y, k3⟩ := field_int (hs 2 (by omega)) (hf 2 _ rfl)
    obtain ⟨cc, k4⟩ := field_int (hs 3 (by omega)) (hf 3 _ rfl)
    obtain ⟨s, k5⟩ := field_string (hs 4 (by omega)) (hf 4 _ rfl)
    obtain ⟨t, k6⟩ := field_string (hs 5 (by omega)) (hf 5 _ rfl)
    exact ⟨cs', kd, x, y, cc, s, t, hcell, k1, k2, k3, k4, k5, k6⟩
  obtain ⟨b, off, spot⟩ := a
  have hspot : spot = none := by
    obtain ⟨cs', kd, x, y, cc, s, t, hc, ⟨k1, _⟩, _⟩ := each 0 hpos
    have := hc 0 (by omega)
    rw [k1] at this
    have h2 := World.cell?_spot this
    simpa [Addr.add] using h2
  subst hspot
  refine ⟨b, off, rfl, fun i hi => ?_⟩
  obtain ⟨cs', kd, x, y, cc, s, t, hc, ⟨k1, i1⟩, ⟨k2, i2⟩, ⟨k3, i3⟩, ⟨k4, i4⟩, ⟨k5, i5⟩, ⟨k6, i6⟩⟩ := each i hi
  have hc' : ∀ j, j < 6 → w.cell? ⟨b, off + i * 6 + j, none⟩ = cs'[j]? := by
    intro j hj
    have := hc j hj
    rw [add_plain, add_plain] at this
    exact this
  exact ⟨kd, x, y, cc, s, t, (hc' 0 (by omega)).trans k1, (hc' 1 (by omega)).trans k2, (hc' 2 (by omega)).trans k3, (hc' 3 (by omega)).trans k4, (hc' 4 (by omega)).trans k5, (hc' 5 (by omega)).trans k6, i1, i2, i3, i4, i5, i6⟩

theorem OpAt.kept {w w' : World} {b off : Nat} {kd x y cc : Int} {s t : ByteArray} (h : OpAt w b off kd x y cc s t) {S : Nat → Prop} (hc : Chg S w w') (hs : ¬ S b) : OpAt w' b off kd x y cc s t := by
  have hb : b < w.heap.size := World.block_lt_of_cell? w _ h.c0
  have e := hc.block b hb hs
  have g : ∀ o, w'.cell? ⟨b, o, none⟩ = w.cell? ⟨b, o, none⟩ := fun o => by unfold World.cell?; dsimp only; rw [e]
  exact ⟨(g _).trans h.c0, (g _).trans h.c1, (g _).trans h.c2, (g _).trans h.c3, (g _).trans h.c4, (g _).trans h.c5, h.kd, h.x, h.y, h.cc, h.s, h.t⟩
theorem Script.kept {w w' : World} {b off len : Nat} (h : Script w b off len) {S : Nat → Prop} (hc : Chg S w w') (hs : ¬ S b) : Script w' b off len := fun i hi => by
  obtain ⟨kd, x, y, cc, s, t, k⟩ := h i hi
  exact ⟨kd, x, y, cc, s, t, k.kept hc hs⟩
end Go.Proofs.Qxb6500376aDoor

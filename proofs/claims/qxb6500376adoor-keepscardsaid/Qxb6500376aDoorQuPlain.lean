/- The converter's real side as plain functions of bit patterns; how the model's float operations run, over any program. -/
import Derived.WalkKit
import Derived.Laws.FloatArith
import Derived.Laws.Externs
import Derived.WalkLawsBesides
import Derived.RowKit3
import Derived.KernelRfl
namespace Go.Qu
set_option linter.unusedVariables false
set_option linter.unusedSimpArgs false
open Ieee Go.RowKit

def u64 (b : Int) : Nat := (IntKind.u64.wrap b).toNat
def u32 (b : Int) : Nat := (IntKind.u32.wrap b).toNat
/-- the word of a float64 is a number (an infinity counts) -/
def num (x : Nat) : Bool := !(double.read x).isNaN
def num32 (x : Nat) : Bool := !(single.read x).isNaN
def way (mode : Int) : Toward := if mode = 1 then .down else if mode = 2 then .up else if mode = 3 then .even else .zero
def wholeF (x : Nat) (mode : Int) : Nat := double.write ((double.read x).integral (way mode))
def maxF (x y : Nat) : Nat :=
  match double.order x y with
  | some .lt => y
  | some .gt => x
  | _ => if (double.read x).neg then y else x
def minF (x y : Nat) : Nat :=
  match double.order x y with
  | some .lt => x
  | some .gt => y
  | _ => if (double.read x).neg then x else y
def clampF (x lo hi : Nat) : Nat := minF (maxF x lo) hi
def moved (c x : Nat) : Bool := double.order c x != some .eq
def bump (c : Int) (d : Bool) : Int := if d then wrap64 (c + 1) else c

theorem order_self (d : Datum) : (d.order d == some .eq) = !d.isNaN := by
  cases d with
  | number s m i => simp [Datum.order, Datum.isNaN]
  | infinity s => simp [Datum.order, Datum.isNaN]
  | nan s t => simp [Datum.order, Datum.isNaN]
theorem neq_self (x : Nat) : (double.order x x != some .eq) = !num x := by
  unfold num Format.order
  simp only [bne, order_self]
theorem neq_self32 (x : Nat) : (single.order x x != some .eq) = !num32 x := by
  unfold num32 Format.order
  simp only [bne, order_self]
theorem order_some {d e : Datum} (hd : d.isNaN = false) (he : e.isNaN = false) : ∃ o, d.order e = some o := by
  cases d <;> cases e <;> simp_all [Datum.order, Datum.isNaN]
theorem isNaN_of_num {x : Nat} (h : num x = true) : (double.read x).isNaN = false := by simpa [num] using h
theorem maxF_mem (x y : Nat) : maxF x y = x ∨ maxF x y = y := by
  unfold maxF; split
  · exact .inr rfl
  · exact .inl rfl
  · split
    · exact .inr rfl
    · exact .inl rfl
theorem minF_mem (x y : Nat) : minF x y = x ∨ minF x y = y := by
  unfold minF; split
  · exact .inl rfl
  · exact .inr rfl
  · split
    · exact .inl rfl
    · exact .inr rfl
theorem num_maxF {x y : Nat} (hx : num x = true) (hy : num y = true) : num (maxF x y) = true := by
  rcases maxF_mem x y with h | h <;> rw [h] <;> assumption
theorem num_minF {x y : Nat} (hx : num x = true) (hy : num y = true) : num (minF x y) = true := by
  rcases minF_mem x y with h | h <;> rw [h] <;> assumption

theorem word_mod (f : Format) (neg : Bool) {r : Nat} (h : r < f.signWeight) : f.word neg r % f.signWeight = r := by
  unfold Format.word
  cases neg <;> simp [Nat.mod_eq_of_lt h]
theorem word_div (f : Format) (neg : Bool) {r : Nat} (h : r < f.signWeight) : (f.word neg r / f.signWeight % 2 == 1) = neg := by
  unfold Format.word
  have hp : 0 < f.signWeight := Nat.two_pow_pos _
  cases neg
  · simp [Nat.div_eq_of_lt h]
  · simp [Nat.add_div_left _ hp, Nat.div_eq_of_lt h]
theorem num_of_rung {x : Nat} (h : x % double.signWeight ≤ double.infRung) : num x = true := by
  unfold num Format.read
  dsimp only
  split
  · rfl
  · split
    · rfl
    · split
      · rfl
      · omega
theorem num_word (neg : Bool) {r : Nat} (h : r ≤ double.infRung) : num (double.word neg r) = true := by
  apply num_of_rung
  rw [word_mod double neg (Nat.lt_of_le_of_lt h double.infRung_lt)]
  exact h
theorem num_nearest (neg : Bool) (m : Nat) (e : Int) : num (double.nearest neg m e) = true := by
  unfold Format.nearest
  split
  · exact num_word neg (Nat.zero_le _)
  · exact num_word neg (Nat.min_le_right _ _)
theorem num_write {d : Datum} (h : d.isNaN = false) : num (double.write d) = true := by
  cases d with
  | number s m i => exact num_nearest s m i
  | infinity s => exact num_word s (Nat.le_refl _)
  | nan s t => simp [Datum.isNaN] at h
theorem num_wholeF {x : Nat} (m : Int) (h : num x = true) : num (wholeF x m) = true := by
  unfold wholeF
  apply num_write
  have := isNaN_of_num h
  cases hd : double.read x with
  | number s m i => rfl
  | infinity s => rfl
  | nan s t => rw [hd] at this; simp [Datum.isNaN] at this

section
variable {P : Program} (w : World)
theorem run_max (ts : Array TypeId) (t : TypeId) (x y : Nat) (hx : num x = true) (hy : num y = true) :
    (Builtin.max_ ts t #[.float .f64 x, .float .f64 y]).run P w = .ok (.float .f64 (maxF x y)) w := by
  obtain ⟨o, ho⟩ := order_some (isNaN_of_num hx) (isNaN_of_num hy)
  have ho' : FloatKind.f64.format.order x y = some o := ho
  have ho2 : double.order x y = some o := ho
  unfold maxF; rw [ho2]
  cases o <;> simp [Builtin.max_, Builtin.max2, ho'] <;> rfl
theorem run_min (ts : Array TypeId) (t : TypeId) (x y : Nat) (hx : num x = true) (hy : num y = true) :
    (Builtin.min_ ts t #[.float .f64 x, .float .f64 y]).run P w = .ok (.float .f64 (minF x y)) w := by
  obtain ⟨o, ho⟩ := order_some (isNaN_of_num hx) (isNaN_of_num hy)
  have ho' : FloatKind.f64.format.order x y = some o := ho
  have ho2 : double.order x y = some o := ho
  unfold minF; rw [ho2]
  cases o <;> simp [Builtin.min_, Builtin.min2, ho'] <;> rfl
theorem run_integral (name : String) (g : Toward) (x : Nat) (hx : num x = true) :
    (Extern.MathFloor.toIntegral name g #[.float .f64 x]).run P w = .ok (.float .f64 (double.write ((double.read x).integral g))) w := by
  have h := isNaN_of_num hx
  change Sem.run P (match double.read x with
    | .nan s t => if FloatKind.f64.format.quiet t = t then pure (Value.float .f64 x) else _
    | d => pure (Value.float .f64 (FloatKind.f64.encode (d.integral g)))) w = _
  cases hd : double.read x with
  | nan s t => rw [hd] at h; simp [Datum.isNaN] at h
  | number s m i => rfl
  | infinity s => rfl
end
end Go.Qu

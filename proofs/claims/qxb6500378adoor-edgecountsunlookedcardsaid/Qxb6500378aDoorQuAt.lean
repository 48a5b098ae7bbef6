/- The converter's calls at closed arguments: one closed check each. -/
import Derived.Test.Qxb6500378aDoorQuLast
namespace Go.Proofs.Qxb6500378aDoor
set_option linter.unusedVariables false
set_option linter.unusedSimpArgs false
open Go.RowKit Go.Qu

def r32Ok (b m c n c' : Int) : Bool := decide (0 ≤ m) && decide (m ≤ 3) && num (u64 b) && decide (floatToIntVal .f64 (clampF (wholeF (u64 b) m) 13970166044103278592 4746794007244308480) .i32 = some n) && decide (bump c (moved (clampF (wholeF (u64 b) m) 13970166044103278592 4746794007244308480) (wholeF (u64 b) m)) = c')
theorem r32_at (b m n c' : Int) {p : Nat} {c z : Int} {w : World} (hq : Has 52 w p [.int .i64 c, .int .i64 z]) (h : r32Ok b m c n c' = true) :
    Calls Tryd.prog 22 #[.pointer (some ⟨p, 0, none⟩), .int .i64 b, .int .i64 m] w fun e w' => e = .returned (.tuple #[.int .i64 0, .int .i64 n]) ∧ Has 52 w' p [.int .i64 c', .int .i64 z] ∧ Chg (· = p) w w' := by
  simp only [r32Ok, Bool.and_eq_true, decide_eq_true_eq] at h
  obtain ⟨⟨⟨⟨h0, h3⟩, hx⟩, hn⟩, hc⟩ := h
  have := round32_num p b m c z n w h0 h3 hx hq hn
  rw [hc] at this
  exact this
def r16Ok (b m c n c' : Int) : Bool := decide (0 ≤ m) && decide (m ≤ 3) && num (u64 b) && decide (floatToIntVal .f64 (clampF (wholeF (u64 b) m) 13898108450065350656 4674736138332667904) .i16 = some n) && decide (bump c (moved (clampF (wholeF (u64 b) m) 13898108450065350656 4674736138332667904) (wholeF (u64 b) m)) = c')
theorem r16_at (b m n c' : Int) {p : Nat} {c z : Int} {w : World} (hq : Has 52 w p [.int .i64 c, .int .i64 z]) (h : r16Ok b m c n c' = true) :
    Calls Tryd.prog 23 #[.pointer (some ⟨p, 0, none⟩), .int .i64 b, .int .i64 m] w fun e w' => e = .returned (.tuple #[.int .i64 0, .int .i64 n]) ∧ Has 52 w' p [.int .i64 c', .int .i64 z] ∧ Chg (· = p) w w' := by
  simp only [r16Ok, Bool.and_eq_true, decide_eq_true_eq] at h
  obtain ⟨⟨⟨⟨h0, h3⟩, hx⟩, hn⟩, hc⟩ := h
  have := round16_num p b m c z n w h0 h3 hx hq hn
  rw [hc] at this
  exact this
def narrowOk (b c r c' : Int) : Bool := num (u64 b) && decide (0 ≤ r) && decide (r ≤ 4294967295) && decide (floatToFloatBits .f64 (clampF (u64 b) 14407015207421345792 5183643170566569984) .f32 = some r.toNat) && decide (bump c (moved (clampF (u64 b) 14407015207421345792 5183643170566569984) (u64 b)) = c')
theorem narrow_at (b r c' : Int) {p : Nat} {c z : Int} {w : World} (hq : Has 52 w p [.int .i64 c, .int .i64 z]) (h : narrowOk b c r c' = true) :
    Calls Tryd.prog 24 #[.pointer (some ⟨p, 0, none⟩), .int .i64 b] w fun e w' => e = .returned (.tuple #[.int .i64 0, .int .i64 r]) ∧ Has 52 w' p [.int .i64 c', .int .i64 z] ∧ Chg (· = p) w w' := by
  simp only [narrowOk, Bool.and_eq_true, decide_eq_true_eq] at h
  obtain ⟨⟨⟨⟨hx, h0⟩, h3⟩, hn⟩, hc⟩ := h
  have := narrow_num p b c z r.toNat w hx hq hn (by omega)
  rw [hc, Int.toNat_of_nonneg h0] at this
  exact this
def scaleOk (a b n k : Int) : Bool := decide (-2147483648 ≤ a) && decide (a ≤ 2147483648) && decide (-2147483648 ≤ b) && decide (b ≤ 2147483648) &&
  match floatBits .mul .f64 (floatOfInt .f64 a) (floatOfInt .f64 b) with
  | none => false
  | some h => decide (floatToIntVal .f64 h .i64 = some n) &&
    match Ieee.double.fma (floatOfInt .f64 a) (floatOfInt .f64 b) (Op.negFloat .f64 h) with
    | none => false
    | some t => decide (floatToIntVal .f64 t .i64 = some k)
theorem scale_at (a b n k : Int) {p : Nat} {w : World} (h : scaleOk a b n k = true) :
    Calls Tryd.prog 54 #[.pointer (some ⟨p, 0, none⟩), .int .i64 a, .int .i64 b] w fun e w' => e = .returned (.tuple #[.int .i64 0, .int .i64 n, .int .i64 k]) ∧ w' = w := by
  simp only [scaleOk, Bool.and_eq_true, decide_eq_true_eq] at h
  obtain ⟨⟨⟨⟨a1, a2⟩, b1⟩, b2⟩, h⟩ := h
  split at h
  · cases h
  · rename_i hd hh
    simp only [Bool.and_eq_true, decide_eq_true_eq] at h
    obtain ⟨hn, h⟩ := h
    split at h
    · cases h
    · rename_i t ht
      exact scale_num p a b n k hd t w a1 a2 b1 b2 hh ht hn (of_decide_eq_true h)
end Go.Proofs.Qxb6500378aDoor

/- The fast conversions where Go leaves the answer open. -/
import Derived.Test.Qxb6500378aDoorQuFast
namespace Go.Qu
set_option linter.unusedVariables false
set_option linter.unusedSimpArgs false
def anyInt (s : FloatKind) (b : Nat) (k : IntKind) (w : World) : Int := k.wrap ((Question.floatToInt s b k).cut (w.tape w.drawn (.floatToInt s b k)))
theorem run_convert_any {P : Program} (w : World) (src dst : TypeId) (s : FloatKind) (k : IntKind) (b : Nat) (hs : (P.underlying src).isSome = true) (hd : P.underlying dst = some (.int k)) (h : floatToIntVal s b k = none) :
    (convert src dst (.float s b)).run P w = .ok (.int k (anyInt s b k w)) w.drew := by
  obtain ⟨u, hs'⟩ := Option.isSome_iff_exists.1 hs
  unfold floatToIntVal at h
  split at h
  · rename_i m he
    split at h
    · cases h
    · rename_i hb
      cases u <;> simp [convert, run_underlying hs', run_underlying hd, Conv.floatToInt, he, hb] <;> rfl
  · rename_i he
    cases u <;> simp [convert, run_underlying hs', run_underlying hd, Conv.floatToInt, he] <;> rfl
end Go.Qu
namespace Go.Proofs.Qxb6500378aDoor
set_option linter.unusedVariables false
set_option linter.unusedSimpArgs false
open Go.RowKit Go.Qu
theorem rounded_plain (x : Nat) (m : Int) (w : World) (h1 : m ≠ 1) (h2 : m ≠ 2) (h3 : m ≠ 3) :
    Calls Tryd.prog 52 #[.float .f64 x, .int .i64 m] w fun e w' => e = .returned (.float .f64 x) ∧ w' = w := by
  have k1 : (m == 1) = false := by simpa using h1
  have k2 : (m == 2) = false := by simpa using h2
  have k3 : (m == 3) = false := by simpa using h3
  clear h1 h2 h3
  go_enter Tryd.func52, Tryd.ntmps52
  go_wp2
  go_ret
  exact ⟨rfl, rfl⟩
theorem fast32_wild (p : Nat) (b m : Int) (w : World) (h1 : m ≠ 1) (h2 : m ≠ 2) (h3 : m ≠ 3) (hn : floatToIntVal .f64 (u64 b) .i32 = none) :
    Calls Tryd.prog 29 #[.pointer (some ⟨p, 0, none⟩), .int .i64 b, .int .i64 m] w fun e w' => ∃ n, e = .returned (.int .i64 n) ∧ -2147483648 ≤ n ∧ n ≤ 2147483647 ∧ w' = w.drew := by
  have y1 := fun w => run_convert_any (P := Tryd.prog) w 53 21 .f64 .i32 (u64 b) (by rw [Tryd.underlying53]; rfl) Tryd.underlying21 hn
  have y3 := x_f64from
  have hb : ∀ w, -2147483648 ≤ anyInt .f64 (u64 b) .i32 w ∧ anyInt .f64 (u64 b) .i32 w ≤ 2147483647 := fun w => by unfold anyInt; rw [IntKind.wrap_i32]; omega
  have b1 := (hb w).1
  have b2 := (hb w).2
  clear hn hb
  go_enter Tryd.func29, Tryd.ntmps29
  go_wp2_with (go_at_call 52; refine (rounded_plain (u64 b) m _ h1 h2 h3).mono ?_; rintro e w' ⟨rfl, rfl⟩)
  go_ret
  exact ⟨_, rfl, b1, b2, rfl⟩
end Go.Proofs.Qxb6500378aDoor

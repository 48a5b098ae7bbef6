/- DoFast and Owed. -/
import Derived.Test.Qxb6500378aDoorStFast2
import Derived.Test.Qxb6500378aDoorStShift
import Derived.Test.Qxb6500378aDoorStDo
import Derived.Test.Qxb6500378aDoorMoRest
import Derived.Deep.QuietTactic
import Derived.BigQuiet
namespace Go.Proofs.Qxb6500378aDoor
set_option linter.unusedVariables false
set_option linter.unusedSimpArgs false
set_option maxHeartbeats 4000000
set_option maxRecDepth 100000
open Go.RowKit Go.Qu Ieee

def F32 (lo hi a b n : Int) : Prop := lo ≤ n ∧ n ≤ hi ∧ (mg a ≤ 9218868437227405312 → (wholeM a b).2 = 0 → lo ≤ (wholeM a b).1 → (wholeM a b).1 ≤ hi → n = (wholeM a b).1)
def FN (a n : Int) : Prop := 0 ≤ n ∧ n ≤ 4294967295 ∧ (9218868437227405312 < mg a → 2139095040 < n % 2147483648) ∧ (mg a ≤ 5183643170566569984 → n = (to32R (mg a) : Int) + (if a < 0 then 2147483648 else 0))
def FC (a n : Int) : Prop := (9218868437227405312 < mg a → 9218868437227405312 < mg n) ∧ (mg a ≤ 9218868437227405312 → n = clampI a)
def FS (a b e n : Int) : Prop := (b < 0 → e = 8 ∧ n = 0) ∧ (0 ≤ b → e = 0 ∧ n = shlI a b)
theorem fastShift_any (p : Nat) (v n : Int) (w : World) : Calls Tryd.prog 74 #[.pointer (some ⟨p, 0, none⟩), .int .i64 v, .int .i64 n] w fun e w' => ∃ e' r : Int, e = .returned (.tuple #[.int .i64 e', .int .i64 r]) ∧ FS v n e' r ∧ Chg (fun _ => False) w w' := by
  by_cases h : n < 0
  · exact (fastShift_neg p v n w h).mono fun e w' ⟨he, hw⟩ => ⟨8, 0, he, ⟨fun _ => ⟨rfl, rfl⟩, fun h' => by omega⟩, hw⟩
  · exact (fastShift_pos p v n w (by omega)).mono fun e w' ⟨he, hw⟩ => ⟨0, _, he, ⟨fun h' => by omega, fun _ => ⟨rfl, rfl⟩⟩, hw⟩

theorem dofast_21 (p : Nat) (a b cc : Int) (s t : ByteArray) (w : World) (ha : I64 a) :
    Calls Tryd.prog 39 #[.pointer (some ⟨p, 0, none⟩), opV 21 a b cc s t] w fun e w' => ∃ n : Int, e = .returned (ansV 0 n 0 ⟨#[]⟩) ∧ F32 (-2147483648) 2147483647 a b n ∧ Chg (fun _ => False) w w' := by
  unfold opV
  obtain ⟨T1, T2, T3⟩ := three (T := 39) w (.cells #[.int .i64 21, .int .i64 a, .int .i64 b, .int .i64 cc, .string s, .string t] 42) [.int .i64 0, .int .i64 0, .int .i64 0, .string ⟨#[]⟩] [.int .i64 0, .int .i64 0, .int .i64 0, .string ⟨#[]⟩]
  have HA : Hid (I64 a) := ha
  clear ha
  go_enter Tryd.func39, Tryd.ntmps39
  go_wp2_with fail
  refine (fast_any32 p a b _ HA.out).mono ?_
  rintro e w1 ⟨n, rfl, h1, h2, h3, c1⟩
  have HF : Hid (F32 (-2147483648) 2147483647 a b n) := ⟨h1, h2, h3⟩
  clear h1 h2 h3
  have K1 := T1.kept c1 (fun h => h)
  have K2 := T2.kept c1 (fun h => h)
  have f0 := K1.frozen 0
  have u0 : w1.cell? ⟨w.heap.size + 1, 0, none⟩ = some (.int .i64 0) := K1.cell 0
  have g0 := K2.frozen 0
  have v0 : w1.cell? ⟨w.heap.size + 1 + 1, 0, none⟩ = some (.int .i64 0) := K2.cell 0
  have f1 := K1.frozen 1
  have u1 : w1.cell? ⟨w.heap.size + 1, 1, none⟩ = some (.int .i64 0) := K1.cell 1
  have g1 := K2.frozen 1
  have v1 : w1.cell? ⟨w.heap.size + 1 + 1, 1, none⟩ = some (.int .i64 0) := K2.cell 1
  have f2 := K1.frozen 2
  have u2 : w1.cell? ⟨w.heap.size + 1, 2, none⟩ = some (.int .i64 0) := K1.cell 2
  have g2 := K2.frozen 2
  have v2 : w1.cell? ⟨w.heap.size + 1 + 1, 2, none⟩ = some (.int .i64 0) := K2.cell 2
  have f3 := K1.frozen 3
  have u3 : w1.cell? ⟨w.heap.size + 1, 3, none⟩ = some (.string ⟨#[]⟩) := K1.cell 3
  have g3 := K2.frozen 3
  have v3 : w1.cell? ⟨w.heap.size + 1 + 1, 3, none⟩ = some (.string ⟨#[]⟩) := K2.cell 3
  have C : Hid (Chg (fun _ => False) w w1) := T3.trans c1
  clear T1 T2 T3 K1 K2 c1
  go_wp2
  refine bodyPost_ret (by simp [results, Tryd.results39, go_sem, u0, u1, u2, u3]; try rfl) rfl ?_
  exact ⟨n, rfl, HF.out, (((((C.out.setCell (Or.inr (by dsimp only; omega)) _).setCell (Or.inr (by dsimp only; omega)) _).setCell (Or.inr (by dsimp only; omega)) _).setCell (Or.inr (by dsimp only; omega)) _).setCell (Or.inr (by dsimp only; omega)) _)⟩

theorem dofast_22 (p : Nat) (a b cc : Int) (s t : ByteArray) (w : World) (ha : I64 a) :
    Calls Tryd.prog 39 #[.pointer (some ⟨p, 0, none⟩), opV 22 a b cc s t] w fun e w' => ∃ n : Int, e = .returned (ansV 0 n 0 ⟨#[]⟩) ∧ F32 (-32768) 32767 a b n ∧ Chg (fun _ => False) w w' := by
  unfold opV
  obtain ⟨T1, T2, T3⟩ := three (T := 39) w (.cells #[.int .i64 22, .int .i64 a, .int .i64 b, .int .i64 cc, .string s, .string t] 42) [.int .i64 0, .int .i64 0, .int .i64 0, .string ⟨#[]⟩] [.int .i64 0, .int .i64 0, .int .i64 0, .string ⟨#[]⟩]
  have HA : Hid (I64 a) := ha
  clear ha
  go_enter Tryd.func39, Tryd.ntmps39
  go_wp2_with fail
  refine (fast_any16 p a b _ HA.out).mono ?_
  rintro e w1 ⟨n, rfl, h1, h2, h3, c1⟩
  have HF : Hid (F32 (-32768) 32767 a b n) := ⟨h1, h2, h3⟩
  clear h1 h2 h3
  have K1 := T1.kept c1 (fun h => h)
  have K2 := T2.kept c1 (fun h => h)
  have f0 := K1.frozen 0
  have u0 : w1.cell? ⟨w.heap.size + 1, 0, none⟩ = some (.int .i64 0) := K1.cell 0
  have g0 := K2.frozen 0
  have v0 : w1.cell? ⟨w.heap.size + 1 + 1, 0, none⟩ = some (.int .i64 0) := K2.cell 0
  have f1 := K1.frozen 1
  have u1 : w1.cell? ⟨w.heap.size + 1, 1, none⟩ = some (.int .i64 0) := K1.cell 1
  have g1 := K2.frozen 1
  have v1 : w1.cell? ⟨w.heap.size + 1 + 1, 1, none⟩ = some (.int .i64 0) := K2.cell 1
  have f2 := K1.frozen 2
  have u2 : w1.cell? ⟨w.heap.size + 1, 2, none⟩ = some (.int .i64 0) := K1.cell 2
  have g2 := K2.frozen 2
  have v2 : w1.cell? ⟨w.heap.size + 1 + 1, 2, none⟩ = some (.int .i64 0) := K2.cell 2
  have f3 := K1.frozen 3
  have u3 : w1.cell? ⟨w.heap.size + 1, 3, none⟩ = some (.string ⟨#[]⟩) := K1.cell 3
  have g3 := K2.frozen 3
  have v3 : w1.cell? ⟨w.heap.size + 1 + 1, 3, none⟩ = some (.string ⟨#[]⟩) := K2.cell 3
  have C : Hid (Chg (fun _ => False) w w1) := T3.trans c1
  clear T1 T2 T3 K1 K2 c1
  go_wp2
  refine bodyPost_ret (by simp [results, Tryd.results39, go_sem, u0, u1, u2, u3]; try rfl) rfl ?_
  exact ⟨n, rfl, HF.out, (((((C.out.setCell (Or.inr (by dsimp only; omega)) _).setCell (Or.inr (by dsimp only; omega)) _).setCell (Or.inr (by dsimp only; omega)) _).setCell (Or.inr (by dsimp only; omega)) _).setCell (Or.inr (by dsimp only; omega)) _)⟩

theorem dofast_23 (p : Nat) (a b cc : Int) (s t : ByteArray) (w : World) (ha : I64 a) :
    Calls Tryd.prog 39 #[.pointer (some ⟨p, 0, none⟩), opV 23 a b cc s t] w fun e w' => ∃ n : Int, e = .returned (ansV 0 n 0 ⟨#[]⟩) ∧ FN a n ∧ Chg (fun _ => False) w w' := by
  unfold opV
  obtain ⟨T1, T2, T3⟩ := three (T := 39) w (.cells #[.int .i64 23, .int .i64 a, .int .i64 b, .int .i64 cc, .string s, .string t] 42) [.int .i64 0, .int .i64 0, .int .i64 0, .string ⟨#[]⟩] [.int .i64 0, .int .i64 0, .int .i64 0, .string ⟨#[]⟩]
  have HA : Hid (I64 a) := ha
  clear ha
  go_enter Tryd.func39, Tryd.ntmps39
  go_wp2_with fail
  refine (fastNarrow_any p a _ HA.out).mono ?_
  rintro e w1 ⟨n, rfl, h1, h2, h3, h4, c1⟩
  have HF : Hid (FN a n) := ⟨h1, h2, h3, h4⟩
  clear h1 h2 h3 h4
  have K1 := T1.kept c1 (fun h => h)
  have K2 := T2.kept c1 (fun h => h)
  have f0 := K1.frozen 0
  have u0 : w1.cell? ⟨w.heap.size + 1, 0, none⟩ = some (.int .i64 0) := K1.cell 0
  have g0 := K2.frozen 0
  have v0 : w1.cell? ⟨w.heap.size + 1 + 1, 0, none⟩ = some (.int .i64 0) := K2.cell 0
  have f1 := K1.frozen 1
  have u1 : w1.cell? ⟨w.heap.size + 1, 1, none⟩ = some (.int .i64 0) := K1.cell 1
  have g1 := K2.frozen 1
  have v1 : w1.cell? ⟨w.heap.size + 1 + 1, 1, none⟩ = some (.int .i64 0) := K2.cell 1
  have f2 := K1.frozen 2
  have u2 : w1.cell? ⟨w.heap.size + 1, 2, none⟩ = some (.int .i64 0) := K1.cell 2
  have g2 := K2.frozen 2
  have v2 : w1.cell? ⟨w.heap.size + 1 + 1, 2, none⟩ = some (.int .i64 0) := K2.cell 2
  have f3 := K1.frozen 3
  have u3 : w1.cell? ⟨w.heap.size + 1, 3, none⟩ = some (.string ⟨#[]⟩) := K1.cell 3
  have g3 := K2.frozen 3
  have v3 : w1.cell? ⟨w.heap.size + 1 + 1, 3, none⟩ = some (.string ⟨#[]⟩) := K2.cell 3
  have C : Hid (Chg (fun _ => False) w w1) := T3.trans c1
  clear T1 T2 T3 K1 K2 c1
  go_wp2
  refine bodyPost_ret (by simp [results, Tryd.results39, go_sem, u0, u1, u2, u3]; try rfl) rfl ?_
  exact ⟨n, rfl, HF.out, (((((C.out.setCell (Or.inr (by dsimp only; omega)) _).setCell (Or.inr (by dsimp only; omega)) _).setCell (Or.inr (by dsimp only; omega)) _).setCell (Or.inr (by dsimp only; omega)) _).setCell (Or.inr (by dsimp only; omega)) _)⟩

theorem dofast_24 (p : Nat) (a b cc : Int) (s t : ByteArray) (w : World) (ha : I64 a) :
    Calls Tryd.prog 39 #[.pointer (some ⟨p, 0, none⟩), opV 24 a b cc s t] w fun e w' => ∃ n : Int, e = .returned (ansV 0 n 0 ⟨#[]⟩) ∧ FC a n ∧ Chg (fun _ => False) w w' := by
  unfold opV
  obtain ⟨T1, T2, T3⟩ := three (T := 39) w (.cells #[.int .i64 24, .int .i64 a, .int .i64 b, .int .i64 cc, .string s, .string t] 42) [.int .i64 0, .int .i64 0, .int .i64 0, .string ⟨#[]⟩] [.int .i64 0, .int .i64 0, .int .i64 0, .string ⟨#[]⟩]
  have HA : Hid (I64 a) := ha
  clear ha
  go_enter Tryd.func39, Tryd.ntmps39
  go_wp2_with fail
  refine (fastClamp_any p a _ HA.out).mono ?_
  rintro e w1 ⟨n, rfl, h1, h2, c1⟩
  have HF : Hid (FC a n) := ⟨h1, h2⟩
  clear h1 h2
  have K1 := T1.kept c1 (fun h => h)
  have K2 := T2.kept c1 (fun h => h)
  have f0 := K1.frozen 0
  have u0 : w1.cell? ⟨w.heap.size + 1, 0, none⟩ = some (.int .i64 0) := K1.cell 0
  have g0 := K2.frozen 0
  have v0 : w1.cell? ⟨w.heap.size + 1 + 1, 0, none⟩ = some (.int .i64 0) := K2.cell 0
  have f1 := K1.frozen 1
  have u1 : w1.cell? ⟨w.heap.size + 1, 1, none⟩ = some (.int .i64 0) := K1.cell 1
  have g1 := K2.frozen 1
  have v1 : w1.cell? ⟨w.heap.size + 1 + 1, 1, none⟩ = some (.int .i64 0) := K2.cell 1
  have f2 := K1.frozen 2
  have u2 : w1.cell? ⟨w.heap.size + 1, 2, none⟩ = some (.int .i64 0) := K1.cell 2
  have g2 := K2.frozen 2
  have v2 : w1.cell? ⟨w.heap.size + 1 + 1, 2, none⟩ = some (.int .i64 0) := K2.cell 2
  have f3 := K1.frozen 3
  have u3 : w1.cell? ⟨w.heap.size + 1, 3, none⟩ = some (.string ⟨#[]⟩) := K1.cell 3
  have g3 := K2.frozen 3
  have v3 : w1.cell? ⟨w.heap.size + 1 + 1, 3, none⟩ = some (.string ⟨#[]⟩) := K2.cell 3
  have C : Hid (Chg (fun _ => False) w w1) := T3.trans c1
  clear T1 T2 T3 K1 K2 c1
  go_wp2
  refine bodyPost_ret (by simp [results, Tryd.results39, go_sem, u0, u1, u2, u3]; try rfl) rfl ?_
  exact ⟨n, rfl, HF.out, (((((C.out.setCell (Or.inr (by dsimp only; omega)) _).setCell (Or.inr (by dsimp only; omega)) _).setCell (Or.inr (by dsimp only; omega)) _).setCell (Or.inr (by dsimp only; omega)) _).setCell (Or.inr (by dsimp only; omega)) _)⟩

theorem dofast_26 (p : Nat) (a b cc : Int) (s t : ByteArray) (w : World) (ha : I64 a) :
    Calls Tryd.prog 39 #[.pointer (some ⟨p, 0, none⟩), opV 26 a b cc s t] w fun e w' => ∃ n : Int, e = .returned (ansV 0 n 0 ⟨#[]⟩) ∧ FC a n ∧ Chg (fun _ => False) w w' := by
  unfold opV
  obtain ⟨T1, T2, T3⟩ := three (T := 39) w (.cells #[.int .i64 26, .int .i64 a, .int .i64 b, .int .i64 cc, .string s, .string t] 42) [.int .i64 0, .int .i64 0, .int .i64 0, .string ⟨#[]⟩] [.int .i64 0, .int .i64 0, .int .i64 0, .string ⟨#[]⟩]
  have HA : Hid (I64 a) := ha
  clear ha
  go_enter Tryd.func39, Tryd.ntmps39
  go_wp2_with fail
  refine (fastBack_any p a _ HA.out).mono ?_
  rintro e w1 ⟨n, rfl, h1, h2, c1⟩
  have HF : Hid (FC a n) := ⟨h1, h2⟩
  clear h1 h2
  have K1 := T1.kept c1 (fun h => h)
  have K2 := T2.kept c1 (fun h => h)
  have f0 := K1.frozen 0
  have u0 : w1.cell? ⟨w.heap.size + 1, 0, none⟩ = some (.int .i64 0) := K1.cell 0
  have g0 := K2.frozen 0
  have v0 : w1.cell? ⟨w.heap.size + 1 + 1, 0, none⟩ = some (.int .i64 0) := K2.cell 0
  have f1 := K1.frozen 1
  have u1 : w1.cell? ⟨w.heap.size + 1, 1, none⟩ = some (.int .i64 0) := K1.cell 1
  have g1 := K2.frozen 1
  have v1 : w1.cell? ⟨w.heap.size + 1 + 1, 1, none⟩ = some (.int .i64 0) := K2.cell 1
  have f2 := K1.frozen 2
  have u2 : w1.cell? ⟨w.heap.size + 1, 2, none⟩ = some (.int .i64 0) := K1.cell 2
  have g2 := K2.frozen 2
  have v2 : w1.cell? ⟨w.heap.size + 1 + 1, 2, none⟩ = some (.int .i64 0) := K2.cell 2
  have f3 := K1.frozen 3
  have u3 : w1.cell? ⟨w.heap.size + 1, 3, none⟩ = some (.string ⟨#[]⟩) := K1.cell 3
  have g3 := K2.frozen 3
  have v3 : w1.cell? ⟨w.heap.size + 1 + 1, 3, none⟩ = some (.string ⟨#[]⟩) := K2.cell 3
  have C : Hid (Chg (fun _ => False) w w1) := T3.trans c1
  clear T1 T2 T3 K1 K2 c1
  go_wp2
  refine bodyPost_ret (by simp [results, Tryd.results39, go_sem, u0, u1, u2, u3]; try rfl) rfl ?_
  exact ⟨n, rfl, HF.out, (((((C.out.setCell (Or.inr (by dsimp only; omega)) _).setCell (Or.inr (by dsimp only; omega)) _).setCell (Or.inr (by dsimp only; omega)) _).setCell (Or.inr (by dsimp only; omega)) _).setCell (Or.inr (by dsimp only; omega)) _)⟩

theorem dofast_25 (p : Nat) (a b cc : Int) (s t : ByteArray) (w : World) (ha : I64 a) :
    Calls Tryd.prog 39 #[.pointer (some ⟨p, 0, none⟩), opV 25 a b cc s t] w fun e w' => ∃ e' n : Int, e = .returned (ansV e' n 0 ⟨#[]⟩) ∧ FS a b e' n ∧ Chg (fun _ => False) w w' := by
  unfold opV
  obtain ⟨T1, T2, T3⟩ := three (T := 39) w (.cells #[.int .i64 25, .int .i64 a, .int .i64 b, .int .i64 cc, .string s, .string t] 42) [.int .i64 0, .int .i64 0, .int .i64 0, .string ⟨#[]⟩] [.int .i64 0, .int .i64 0, .int .i64 0, .string ⟨#[]⟩]
  have HA : Hid (I64 a) := ha
  clear ha
  go_enter Tryd.func39, Tryd.ntmps39
  go_wp2_with fail
  refine (fastShift_any p a b _).mono ?_
  rintro e w1 ⟨e', n, rfl, h1, c1⟩
  have HF : Hid (FS a b e' n) := h1
  clear h1
  have K1 := T1.kept c1 (fun h => h)
  have K2 := T2.kept c1 (fun h => h)
  have f0 := K1.frozen 0
  have u0 : w1.cell? ⟨w.heap.size + 1, 0, none⟩ = some (.int .i64 0) := K1.cell 0
  have g0 := K2.frozen 0
  have v0 : w1.cell? ⟨w.heap.size + 1 + 1, 0, none⟩ = some (.int .i64 0) := K2.cell 0
  have f1 := K1.frozen 1
  have u1 : w1.cell? ⟨w.heap.size + 1, 1, none⟩ = some (.int .i64 0) := K1.cell 1
  have g1 := K2.frozen 1
  have v1 : w1.cell? ⟨w.heap.size + 1 + 1, 1, none⟩ = some (.int .i64 0) := K2.cell 1
  have f2 := K1.frozen 2
  have u2 : w1.cell? ⟨w.heap.size + 1, 2, none⟩ = some (.int .i64 0) := K1.cell 2
  have g2 := K2.frozen 2
  have v2 : w1.cell? ⟨w.heap.size + 1 + 1, 2, none⟩ = some (.int .i64 0) := K2.cell 2
  have f3 := K1.frozen 3
  have u3 : w1.cell? ⟨w.heap.size + 1, 3, none⟩ = some (.string ⟨#[]⟩) := K1.cell 3
  have g3 := K2.frozen 3
  have v3 : w1.cell? ⟨w.heap.size + 1 + 1, 3, none⟩ = some (.string ⟨#[]⟩) := K2.cell 3
  have C : Hid (Chg (fun _ => False) w w1) := T3.trans c1
  clear T1 T2 T3 K1 K2 c1
  go_wp2
  refine bodyPost_ret (by simp [results, Tryd.results39, go_sem, u0, u1, u2, u3]; try rfl) rfl ?_
  exact ⟨e', n, rfl, HF.out, ((((((C.out.setCell (Or.inr (by dsimp only; omega)) _).setCell (Or.inr (by dsimp only; omega)) _).setCell (Or.inr (by dsimp only; omega)) _).setCell (Or.inr (by dsimp only; omega)) _).setCell (Or.inr (by dsimp only; omega)) _).setCell (Or.inr (by dsimp only; omega)) _)⟩

theorem dofast_0 (p : Nat) (kd a b cc : Int) (s t : ByteArray) (w : World) (h21 : kd ≠ 21) (h22 : kd ≠ 22) (h23 : kd ≠ 23) (h24 : kd ≠ 24) (h25 : kd ≠ 25) (h26 : kd ≠ 26) :
    Calls Tryd.prog 39 #[.pointer (some ⟨p, 0, none⟩), opV kd a b cc s t] w fun e w' => e = .returned (ansV 0 0 0 ⟨#[]⟩) ∧ Chg (fun _ => False) w w' := by
  unfold opV
  obtain ⟨T1, T2, T3⟩ := three (T := 39) w (.cells #[.int .i64 kd, .int .i64 a, .int .i64 b, .int .i64 cc, .string s, .string t] 42) [.int .i64 0, .int .i64 0, .int .i64 0, .string ⟨#[]⟩] [.int .i64 0, .int .i64 0, .int .i64 0, .string ⟨#[]⟩]
  have k21 : (kd == 21) = false := by simpa using h21
  have k22 : (kd == 22) = false := by simpa using h22
  have k23 : (kd == 23) = false := by simpa using h23
  have k24 : (kd == 24) = false := by simpa using h24
  have k25 : (kd == 25) = false := by simpa using h25
  have k26 : (kd == 26) = false := by simpa using h26
  clear h21 h22 h23 h24 h25 h26
  have C3 : Hid _ := T3
  clear T1 T2 T3
  go_enter Tryd.func39, Tryd.ntmps39
  go_wp2
  refine bodyPost_ret (by simp [results, Tryd.results39, go_sem]; try rfl) rfl ?_
  exact ⟨rfl, C3.out⟩
end Go.Proofs.Qxb6500378aDoor

/- The players: Do (written by tools/gendo.py). -/
import Derived.Test.Qxb6500378aDoorStReal
import Derived.Test.Qxb6500378aDoorQuShow
namespace Go.Proofs.Qxb6500378aDoor
set_option linter.unusedVariables false
set_option linter.unusedSimpArgs false
set_option maxHeartbeats 2000000
open Go.RowKit Go.Qu Ieee

def opV (kd a b c : Int) (s t : ByteArray) : Value := .agg #[.int .i64 kd, .int .i64 a, .int .i64 b, .int .i64 c, .string s, .string t]
def ansV (e n k : Int) (s : ByteArray) : Value := .agg #[.int .i64 e, .int .i64 n, .int .i64 k, .string s]

theorem Has.at {T : TypeId} {w : World} {n : Nat} (h : w.heap.size = n) (vs : List Value) : Has T (w.alloc (.cells vs.toArray T)) n vs := by subst h; exact Has.new T w vs
/-- the frame of a player: the boxed step, the result's cell, the answer -/
theorem three {T : TypeId} (w : World) (o : Obj) (us vs : List Value) :
    Has T (((w.alloc o).alloc (.cells us.toArray T)).alloc (.cells vs.toArray T)) (w.heap.size + 1) us ∧ Has T (((w.alloc o).alloc (.cells us.toArray T)).alloc (.cells vs.toArray T)) (w.heap.size + 1 + 1) vs ∧
    Chg (fun _ => False) w (((w.alloc o).alloc (.cells us.toArray T)).alloc (.cells vs.toArray T)) :=
  ⟨(Has.at (by simp) us).alloc _, Has.at (by simp) vs, (((Chg.refl _ w).alloc _).alloc _).alloc _⟩

theorem scale_q (p : Nat) (a b c z : Int) (w : World) (hq : Cv w p c z) :
    Calls Tryd.prog 54 #[.pointer (some ⟨p, 0, none⟩), .int .i64 a, .int .i64 b] w fun e w' => e = .returned (.tuple #[.int .i64 (scaleO a b).e, .int .i64 (scaleO a b).n, .int .i64 (scaleO a b).k]) ∧ Cv w' p c z ∧ Chg (· = p) w w' :=
  (scale_o p a b w).mono fun e w' ⟨he, hw⟩ => by subst hw; exact ⟨he, hq, Chg.refl _ _⟩
theorem shift_q (p : Nat) (v n c z : Int) (w : World) (hq : Cv w p c z) :
    Calls Tryd.prog 55 #[.pointer (some ⟨p, 0, none⟩), .int .i64 v, .int .i64 n] w fun e w' => e = .returned (.tuple #[.int .i64 (shiftO v n).e, .int .i64 (shiftO v n).n]) ∧ Cv w' p c z ∧ Chg (· = p) w w' :=
  (shift_o p v n w).mono fun e w' ⟨he, hw⟩ => ⟨he, hq.kept hw (fun h => h), hw.mono (by intro _ _ h; exact h.elim)⟩
theorem clips_q (p : Nat) (c z : Int) (w : World) (hq : Cv w p c z) :
    Calls Tryd.prog 26 #[.pointer (some ⟨p, 0, none⟩)] w fun e w' => e = .returned (.int .i64 c) ∧ Cv w' p c z ∧ Chg (· = p) w w' :=
  (clips_any p c z w hq).mono fun e w' ⟨he, hw⟩ => by subst hw; exact ⟨he, hq, Chg.refl _ _⟩
theorem nans_q (p : Nat) (c z : Int) (w : World) (hq : Cv w p c z) :
    Calls Tryd.prog 33 #[.pointer (some ⟨p, 0, none⟩)] w fun e w' => e = .returned (.int .i64 z) ∧ Cv w' p c z ∧ Chg (· = p) w w' :=
  (nans_any p c z w hq).mono fun e w' ⟨he, hw⟩ => by subst hw; exact ⟨he, hq, Chg.refl _ _⟩
theorem checkQ_q (p : Nat) (c z : Int) (w : World) (hq : Cv w p c z) (hc : Sm c) (hz : Sm z) :
    Calls Tryd.prog 56 #[.pointer (some ⟨p, 0, none⟩)] w fun e w' => e = .returned (.bool true) ∧ Cv w' p c z ∧ Chg (· = p) w w' :=
  (checkQ_any p c z w hq hc hz).mono fun e w' ⟨he, hw⟩ => by subst hw; exact ⟨he, hq, Chg.refl _ _⟩
theorem show_q (p : Nat) (c z : Int) (w : World) (hq : Cv w p c z) (hc : Sm c) (hz : Sm z) (ht : Tab w) :
    Calls Tryd.prog 28 #[.pointer (some ⟨p, 0, none⟩)] w fun e w' => e = .returned (.string ⟨(showQ c z).toArray⟩) ∧ Cv w' p c z ∧ Chg (· = p) w w' := by
  unfold Sm at hc hz
  exact (show_any p c z w hq ht (by omega) (by omega) (by omega) (by omega)).mono fun e w' ⟨he, hw⟩ => ⟨he, hq.kept hw (fun h => h), hw.mono (by intro _ _ h; exact h.elim)⟩

theorem do_1 (p : Nat) (a b cc : Int) (s t : ByteArray) (c z : Int) (w : World) (ha : I64 a) (hq : Cv w p c z) (hc : Sm c) (hz : Sm z) :
    Calls Tryd.prog 34 #[.pointer (some ⟨p, 0, none⟩), opV 1 a b cc s t] w fun e w' => e = .returned (ansV (r32O a b).e (r32O a b).n 0 ⟨#[]⟩) ∧ Cv w' p (c + (r32O a b).dc) (z + (r32O a b).dz) ∧ Chg (· = p) w w' := by
  unfold opV
  have hp := hq.lt
  obtain ⟨T1, T2, T3⟩ := three (T := 39) w (.cells #[.int .i64 1, .int .i64 a, .int .i64 b, .int .i64 cc, .string s, .string t] 42) [.int .i64 0, .int .i64 0, .int .i64 0, .string ⟨#[]⟩] [.int .i64 0, .int .i64 0, .int .i64 0, .string ⟨#[]⟩]
  go_enter Tryd.func34, Tryd.ntmps34
  go_wp2_with fail
  refine (round32_o p a b c z _ ha (((hq.alloc _).alloc _).alloc _) hc hz).mono ?_
  rintro e w1 ⟨rfl, q1, c1⟩
  have K1 := T1.kept c1 (by omega)
  have K2 := T2.kept c1 (by omega)
  have f0 := K1.frozen 0
  have u0 : w1.cell? ⟨w.heap.size + 1, 0, none⟩ = some (.int .i64 0) := K1.cell 0
  have g0 := K2.frozen 0
  have v0 : w1.cell? ⟨w.heap.size + 1 + 1, 0, none⟩ = some (.int .i64 0) := K2.cell 0
  have f1 := K1.frozen 1
  have u1 : w1.cell? ⟨w.heap.size + 1, 1, none⟩ = some (.int .i64 0) := K1.cell 1
  have g1 := K2.frozen 1
  have v1 : w1.cell? ⟨w.heap.size + 1 + 1, 1, none⟩ = some (.int .i64 0) := K2.cell 1
  have f2 := K1.frozen 2
  have u2 : w1.cell? ⟨w.heap.size + 1, 2, none⟩ = some (.int .i64 0) := K1.cell 2
  have g2 := K2.frozen 2
  have v2 : w1.cell? ⟨w.heap.size + 1 + 1, 2, none⟩ = some (.int .i64 0) := K2.cell 2
  have f3 := K1.frozen 3
  have u3 : w1.cell? ⟨w.heap.size + 1, 3, none⟩ = some (.string ⟨#[]⟩) := K1.cell 3
  have g3 := K2.frozen 3
  have v3 : w1.cell? ⟨w.heap.size + 1 + 1, 3, none⟩ = some (.string ⟨#[]⟩) := K2.cell 3
  have C : Hid (Chg (· = p) w w1) := (T3.mono (by intro _ _ h; exact h.elim)).trans c1
  clear T1 T2 T3 K1 K2 c1
  go_wp2
  refine bodyPost_ret (by simp [results, Tryd.results34, go_sem, u0, u1, u2, u3]; try rfl) rfl ?_
  exact ⟨rfl, ((((((q1.setOther (by dsimp only; omega) _).setOther (by dsimp only; omega) _).setOther (by dsimp only; omega) _).setOther (by dsimp only; omega) _).setOther (by dsimp only; omega) _).setOther (by dsimp only; omega) _), ((((((C.out.setCell (Or.inr (by dsimp only; omega)) _).setCell (Or.inr (by dsimp only; omega)) _).setCell (Or.inr (by dsimp only; omega)) _).setCell (Or.inr (by dsimp only; omega)) _).setCell (Or.inr (by dsimp only; omega)) _).setCell (Or.inr (by dsimp only; omega)) _)⟩

theorem do_2 (p : Nat) (a b cc : Int) (s t : ByteArray) (c z : Int) (w : World) (ha : I64 a) (hq : Cv w p c z) (hc : Sm c) (hz : Sm z) :
    Calls Tryd.prog 34 #[.pointer (some ⟨p, 0, none⟩), opV 2 a b cc s t] w fun e w' => e = .returned (ansV (r16O a b).e (r16O a b).n 0 ⟨#[]⟩) ∧ Cv w' p (c + (r16O a b).dc) (z + (r16O a b).dz) ∧ Chg (· = p) w w' := by
  unfold opV
  have hp := hq.lt
  obtain ⟨T1, T2, T3⟩ := three (T := 39) w (.cells #[.int .i64 2, .int .i64 a, .int .i64 b, .int .i64 cc, .string s, .string t] 42) [.int .i64 0, .int .i64 0, .int .i64 0, .string ⟨#[]⟩] [.int .i64 0, .int .i64 0, .int .i64 0, .string ⟨#[]⟩]
  go_enter Tryd.func34, Tryd.ntmps34
  go_wp2_with fail
  refine (round16_o p a b c z _ ha (((hq.alloc _).alloc _).alloc _) hc hz).mono ?_
  rintro e w1 ⟨rfl, q1, c1⟩
  have K1 := T1.kept c1 (by omega)
  have K2 := T2.kept c1 (by omega)
  have f0 := K1.frozen 0
  have u0 : w1.cell? ⟨w.heap.size + 1, 0, none⟩ = some (.int .i64 0) := K1.cell 0
  have g0 := K2.frozen 0
  have v0 : w1.cell? ⟨w.heap.size + 1 + 1, 0, none⟩ = some (.int .i64 0) := K2.cell 0
  have f1 := K1.frozen 1
  have u1 : w1.cell? ⟨w.heap.size + 1, 1, none⟩ = some (.int .i64 0) := K1.cell 1
  have g1 := K2.frozen 1
  have v1 : w1.cell? ⟨w.heap.size + 1 + 1, 1, none⟩ = some (.int .i64 0) := K2.cell 1
  have f2 := K1.frozen 2
  have u2 : w1.cell? ⟨w.heap.size + 1, 2, none⟩ = some (.int .i64 0) := K1.cell 2
  have g2 := K2.frozen 2
  have v2 : w1.cell? ⟨w.heap.size + 1 + 1, 2, none⟩ = some (.int .i64 0) := K2.cell 2
  have f3 := K1.frozen 3
  have u3 : w1.cell? ⟨w.heap.size + 1, 3, none⟩ = some (.string ⟨#[]⟩) := K1.cell 3
  have g3 := K2.frozen 3
  have v3 : w1.cell? ⟨w.heap.size + 1 + 1, 3, none⟩ = some (.string ⟨#[]⟩) := K2.cell 3
  have C : Hid (Chg (· = p) w w1) := (T3.mono (by intro _ _ h; exact h.elim)).trans c1
  clear T1 T2 T3 K1 K2 c1
  go_wp2
  refine bodyPost_ret (by simp [results, Tryd.results34, go_sem, u0, u1, u2, u3]; try rfl) rfl ?_
  exact ⟨rfl, ((((((q1.setOther (by dsimp only; omega) _).setOther (by dsimp only; omega) _).setOther (by dsimp only; omega) _).setOther (by dsimp only; omega) _).setOther (by dsimp only; omega) _).setOther (by dsimp only; omega) _), ((((((C.out.setCell (Or.inr (by dsimp only; omega)) _).setCell (Or.inr (by dsimp only; omega)) _).setCell (Or.inr (by dsimp only; omega)) _).setCell (Or.inr (by dsimp only; omega)) _).setCell (Or.inr (by dsimp only; omega)) _).setCell (Or.inr (by dsimp only; omega)) _)⟩

theorem do_3 (p : Nat) (a b cc : Int) (s t : ByteArray) (c z : Int) (w : World) (ha : I64 a) (hq : Cv w p c z) (hc : Sm c) (hz : Sm z) :
    Calls Tryd.prog 34 #[.pointer (some ⟨p, 0, none⟩), opV 3 a b cc s t] w fun e w' => e = .returned (ansV (narrowO a).e (narrowO a).n 0 ⟨#[]⟩) ∧ Cv w' p (c + (narrowO a).dc) (z + (narrowO a).dz) ∧ Chg (· = p) w w' := by
  unfold opV
  have hp := hq.lt
  obtain ⟨T1, T2, T3⟩ := three (T := 39) w (.cells #[.int .i64 3, .int .i64 a, .int .i64 b, .int .i64 cc, .string s, .string t] 42) [.int .i64 0, .int .i64 0, .int .i64 0, .string ⟨#[]⟩] [.int .i64 0, .int .i64 0, .int .i64 0, .string ⟨#[]⟩]
  go_enter Tryd.func34, Tryd.ntmps34
  go_wp2_with fail
  refine (narrow_o p a c z _ ha (((hq.alloc _).alloc _).alloc _) hc hz).mono ?_
  rintro e w1 ⟨rfl, q1, c1⟩
  have K1 := T1.kept c1 (by omega)
  have K2 := T2.kept c1 (by omega)
  have f0 := K1.frozen 0
  have u0 : w1.cell? ⟨w.heap.size + 1, 0, none⟩ = some (.int .i64 0) := K1.cell 0
  have g0 := K2.frozen 0
  have v0 : w1.cell? ⟨w.heap.size + 1 + 1, 0, none⟩ = some (.int .i64 0) := K2.cell 0
  have f1 := K1.frozen 1
  have u1 : w1.cell? ⟨w.heap.size + 1, 1, none⟩ = some (.int .i64 0) := K1.cell 1
  have g1 := K2.frozen 1
  have v1 : w1.cell? ⟨w.heap.size + 1 + 1, 1, none⟩ = some (.int .i64 0) := K2.cell 1
  have f2 := K1.frozen 2
  have u2 : w1.cell? ⟨w.heap.size + 1, 2, none⟩ = some (.int .i64 0) := K1.cell 2
  have g2 := K2.frozen 2
  have v2 : w1.cell? ⟨w.heap.size + 1 + 1, 2, none⟩ = some (.int .i64 0) := K2.cell 2
  have f3 := K1.frozen 3
  have u3 : w1.cell? ⟨w.heap.size + 1, 3, none⟩ = some (.string ⟨#[]⟩) := K1.cell 3
  have g3 := K2.frozen 3
  have v3 : w1.cell? ⟨w.heap.size + 1 + 1, 3, none⟩ = some (.string ⟨#[]⟩) := K2.cell 3
  have C : Hid (Chg (· = p) w w1) := (T3.mono (by intro _ _ h; exact h.elim)).trans c1
  clear T1 T2 T3 K1 K2 c1
  go_wp2
  refine bodyPost_ret (by simp [results, Tryd.results34, go_sem, u0, u1, u2, u3]; try rfl) rfl ?_
  exact ⟨rfl, ((((((q1.setOther (by dsimp only; omega) _).setOther (by dsimp only; omega) _).setOther (by dsimp only; omega) _).setOther (by dsimp only; omega) _).setOther (by dsimp only; omega) _).setOther (by dsimp only; omega) _), ((((((C.out.setCell (Or.inr (by dsimp only; omega)) _).setCell (Or.inr (by dsimp only; omega)) _).setCell (Or.inr (by dsimp only; omega)) _).setCell (Or.inr (by dsimp only; omega)) _).setCell (Or.inr (by dsimp only; omega)) _).setCell (Or.inr (by dsimp only; omega)) _)⟩

theorem do_4 (p : Nat) (a b cc : Int) (s t : ByteArray) (c z : Int) (w : World) (hq : Cv w p c z) (hc : Sm c) (hz : Sm z) :
    Calls Tryd.prog 34 #[.pointer (some ⟨p, 0, none⟩), opV 4 a b cc s t] w fun e w' => e = .returned (ansV (widenO a).e (widenO a).n 0 ⟨#[]⟩) ∧ Cv w' p (c + (widenO a).dc) (z + (widenO a).dz) ∧ Chg (· = p) w w' := by
  unfold opV
  have hp := hq.lt
  obtain ⟨T1, T2, T3⟩ := three (T := 39) w (.cells #[.int .i64 4, .int .i64 a, .int .i64 b, .int .i64 cc, .string s, .string t] 42) [.int .i64 0, .int .i64 0, .int .i64 0, .string ⟨#[]⟩] [.int .i64 0, .int .i64 0, .int .i64 0, .string ⟨#[]⟩]
  go_enter Tryd.func34, Tryd.ntmps34
  go_wp2_with fail
  refine (widen_o p a c z _ (((hq.alloc _).alloc _).alloc _) hc hz).mono ?_
  rintro e w1 ⟨rfl, q1, c1⟩
  have K1 := T1.kept c1 (by omega)
  have K2 := T2.kept c1 (by omega)
  have f0 := K1.frozen 0
  have u0 : w1.cell? ⟨w.heap.size + 1, 0, none⟩ = some (.int .i64 0) := K1.cell 0
  have g0 := K2.frozen 0
  have v0 : w1.cell? ⟨w.heap.size + 1 + 1, 0, none⟩ = some (.int .i64 0) := K2.cell 0
  have f1 := K1.frozen 1
  have u1 : w1.cell? ⟨w.heap.size + 1, 1, none⟩ = some (.int .i64 0) := K1.cell 1
  have g1 := K2.frozen 1
  have v1 : w1.cell? ⟨w.heap.size + 1 + 1, 1, none⟩ = some (.int .i64 0) := K2.cell 1
  have f2 := K1.frozen 2
  have u2 : w1.cell? ⟨w.heap.size + 1, 2, none⟩ = some (.int .i64 0) := K1.cell 2
  have g2 := K2.frozen 2
  have v2 : w1.cell? ⟨w.heap.size + 1 + 1, 2, none⟩ = some (.int .i64 0) := K2.cell 2
  have f3 := K1.frozen 3
  have u3 : w1.cell? ⟨w.heap.size + 1, 3, none⟩ = some (.string ⟨#[]⟩) := K1.cell 3
  have g3 := K2.frozen 3
  have v3 : w1.cell? ⟨w.heap.size + 1 + 1, 3, none⟩ = some (.string ⟨#[]⟩) := K2.cell 3
  have C : Hid (Chg (· = p) w w1) := (T3.mono (by intro _ _ h; exact h.elim)).trans c1
  clear T1 T2 T3 K1 K2 c1
  go_wp2
  refine bodyPost_ret (by simp [results, Tryd.results34, go_sem, u0, u1, u2, u3]; try rfl) rfl ?_
  exact ⟨rfl, ((((((q1.setOther (by dsimp only; omega) _).setOther (by dsimp only; omega) _).setOther (by dsimp only; omega) _).setOther (by dsimp only; omega) _).setOther (by dsimp only; omega) _).setOther (by dsimp only; omega) _), ((((((C.out.setCell (Or.inr (by dsimp only; omega)) _).setCell (Or.inr (by dsimp only; omega)) _).setCell (Or.inr (by dsimp only; omega)) _).setCell (Or.inr (by dsimp only; omega)) _).setCell (Or.inr (by dsimp only; omega)) _).setCell (Or.inr (by dsimp only; omega)) _)⟩

theorem do_5 (p : Nat) (a b cc : Int) (s t : ByteArray) (c z : Int) (w : World) (hq : Cv w p c z) (hc : Sm c) (hz : Sm z) :
    Calls Tryd.prog 34 #[.pointer (some ⟨p, 0, none⟩), opV 5 a b cc s t] w fun e w' => e = .returned (ansV (scaleO a b).e (scaleO a b).n (scaleO a b).k ⟨#[]⟩) ∧ Cv w' p c z ∧ Chg (· = p) w w' := by
  unfold opV
  have hp := hq.lt
  obtain ⟨T1, T2, T3⟩ := three (T := 39) w (.cells #[.int .i64 5, .int .i64 a, .int .i64 b, .int .i64 cc, .string s, .string t] 42) [.int .i64 0, .int .i64 0, .int .i64 0, .string ⟨#[]⟩] [.int .i64 0, .int .i64 0, .int .i64 0, .string ⟨#[]⟩]
  go_enter Tryd.func34, Tryd.ntmps34
  go_wp2_with fail
  refine (scale_q p a b c z _ (((hq.alloc _).alloc _).alloc _)).mono ?_
  rintro e w1 ⟨rfl, q1, c1⟩
  have K1 := T1.kept c1 (by omega)
  have K2 := T2.kept c1 (by omega)
  have f0 := K1.frozen 0
  have u0 : w1.cell? ⟨w.heap.size + 1, 0, none⟩ = some (.int .i64 0) := K1.cell 0
  have g0 := K2.frozen 0
  have v0 : w1.cell? ⟨w.heap.size + 1 + 1, 0, none⟩ = some (.int .i64 0) := K2.cell 0
  have f1 := K1.frozen 1
  have u1 : w1.cell? ⟨w.heap.size + 1, 1, none⟩ = some (.int .i64 0) := K1.cell 1
  have g1 := K2.frozen 1
  have v1 : w1.cell? ⟨w.heap.size + 1 + 1, 1, none⟩ = some (.int .i64 0) := K2.cell 1
  have f2 := K1.frozen 2
  have u2 : w1.cell? ⟨w.heap.size + 1, 2, none⟩ = some (.int .i64 0) := K1.cell 2
  have g2 := K2.frozen 2
  have v2 : w1.cell? ⟨w.heap.size + 1 + 1, 2, none⟩ = some (.int .i64 0) := K2.cell 2
  have f3 := K1.frozen 3
  have u3 : w1.cell? ⟨w.heap.size + 1, 3, none⟩ = some (.string ⟨#[]⟩) := K1.cell 3
  have g3 := K2.frozen 3
  have v3 : w1.cell? ⟨w.heap.size + 1 + 1, 3, none⟩ = some (.string ⟨#[]⟩) := K2.cell 3
  have C : Hid (Chg (· = p) w w1) := (T3.mono (by intro _ _ h; exact h.elim)).trans c1
  clear T1 T2 T3 K1 K2 c1
  go_wp2
  refine bodyPost_ret (by simp [results, Tryd.results34, go_sem, u0, u1, u2, u3]; try rfl) rfl ?_
  exact ⟨rfl, (((((((q1.setOther (by dsimp only; omega) _).setOther (by dsimp only; omega) _).setOther (by dsimp only; omega) _).setOther (by dsimp only; omega) _).setOther (by dsimp only; omega) _).setOther (by dsimp only; omega) _).setOther (by dsimp only; omega) _), (((((((C.out.setCell (Or.inr (by dsimp only; omega)) _).setCell (Or.inr (by dsimp only; omega)) _).setCell (Or.inr (by dsimp only; omega)) _).setCell (Or.inr (by dsimp only; omega)) _).setCell (Or.inr (by dsimp only; omega)) _).setCell (Or.inr (by dsimp only; omega)) _).setCell (Or.inr (by dsimp only; omega)) _)⟩

theorem do_6 (p : Nat) (a b cc : Int) (s t : ByteArray) (c z : Int) (w : World) (hq : Cv w p c z) (hc : Sm c) (hz : Sm z) :
    Calls Tryd.prog 34 #[.pointer (some ⟨p, 0, none⟩), opV 6 a b cc s t] w fun e w' => e = .returned (ansV (shiftO a b).e (shiftO a b).n 0 ⟨#[]⟩) ∧ Cv w' p c z ∧ Chg (· = p) w w' := by
  unfold opV
  have hp := hq.lt
  obtain ⟨T1, T2, T3⟩ := three (T := 39) w (.cells #[.int .i64 6, .int .i64 a, .int .i64 b, .int .i64 cc, .string s, .string t] 42) [.int .i64 0, .int .i64 0, .int .i64 0, .string ⟨#[]⟩] [.int .i64 0, .int .i64 0, .int .i64 0, .string ⟨#[]⟩]
  go_enter Tryd.func34, Tryd.ntmps34
  go_wp2_with fail
  refine (shift_q p a b c z _ (((hq.alloc _).alloc _).alloc _)).mono ?_
  rintro e w1 ⟨rfl, q1, c1⟩
  have K1 := T1.kept c1 (by omega)
  have K2 := T2.kept c1 (by omega)
  have f0 := K1.frozen 0
  have u0 : w1.cell? ⟨w.heap.size + 1, 0, none⟩ = some (.int .i64 0) := K1.cell 0
  have g0 := K2.frozen 0
  have v0 : w1.cell? ⟨w.heap.size + 1 + 1, 0, none⟩ = some (.int .i64 0) := K2.cell 0
  have f1 := K1.frozen 1
  have u1 : w1.cell? ⟨w.heap.size + 1, 1, none⟩ = some (.int .i64 0) := K1.cell 1
  have g1 := K2.frozen 1
  have v1 : w1.cell? ⟨w.heap.size + 1 + 1, 1, none⟩ = some (.int .i64 0) := K2.cell 1
  have f2 := K1.frozen 2
  have u2 : w1.cell? ⟨w.heap.size + 1, 2, none⟩ = some (.int .i64 0) := K1.cell 2
  have g2 := K2.frozen 2
  have v2 : w1.cell? ⟨w.heap.size + 1 + 1, 2, none⟩ = some (.int .i64 0) := K2.cell 2
  have f3 := K1.frozen 3
  have u3 : w1.cell? ⟨w.heap.size + 1, 3, none⟩ = some (.string ⟨#[]⟩) := K1.cell 3
  have g3 := K2.frozen 3
  have v3 : w1.cell? ⟨w.heap.size + 1 + 1, 3, none⟩ = some (.string ⟨#[]⟩) := K2.cell 3
  have C : Hid (Chg (· = p) w w1) := (T3.mono (by intro _ _ h; exact h.elim)).trans c1
  clear T1 T2 T3 K1 K2 c1
  go_wp2
  refine bodyPost_ret (by simp [results, Tryd.results34, go_sem, u0, u1, u2, u3]; try rfl) rfl ?_
  exact ⟨rfl, ((((((q1.setOther (by dsimp only; omega) _).setOther (by dsimp only; omega) _).setOther (by dsimp only; omega) _).setOther (by dsimp only; omega) _).setOther (by dsimp only; omega) _).setOther (by dsimp only; omega) _), ((((((C.out.setCell (Or.inr (by dsimp only; omega)) _).setCell (Or.inr (by dsimp only; omega)) _).setCell (Or.inr (by dsimp only; omega)) _).setCell (Or.inr (by dsimp only; omega)) _).setCell (Or.inr (by dsimp only; omega)) _).setCell (Or.inr (by dsimp only; omega)) _)⟩

theorem do_9 (p : Nat) (a b cc : Int) (s t : ByteArray) (c z : Int) (w : World) (hq : Cv w p c z) (hc : Sm c) (hz : Sm z) :
    Calls Tryd.prog 34 #[.pointer (some ⟨p, 0, none⟩), opV 9 a b cc s t] w fun e w' => e = .returned (ansV 0 c 0 ⟨#[]⟩) ∧ Cv w' p c z ∧ Chg (· = p) w w' := by
  unfold opV
  have hp := hq.lt
  obtain ⟨T1, T2, T3⟩ := three (T := 39) w (.cells #[.int .i64 9, .int .i64 a, .int .i64 b, .int .i64 cc, .string s, .string t] 42) [.int .i64 0, .int .i64 0, .int .i64 0, .string ⟨#[]⟩] [.int .i64 0, .int .i64 0, .int .i64 0, .string ⟨#[]⟩]
  go_enter Tryd.func34, Tryd.ntmps34
  go_wp2_with fail
  refine (clips_q p c z _ (((hq.alloc _).alloc _).alloc _)).mono ?_
  rintro e w1 ⟨rfl, q1, c1⟩
  have K1 := T1.kept c1 (by omega)
  have K2 := T2.kept c1 (by omega)
  have f0 := K1.frozen 0
  have u0 : w1.cell? ⟨w.heap.size + 1, 0, none⟩ = some (.int .i64 0) := K1.cell 0
  have g0 := K2.frozen 0
  have v0 : w1.cell? ⟨w.heap.size + 1 + 1, 0, none⟩ = some (.int .i64 0) := K2.cell 0
  have f1 := K1.frozen 1
  have u1 : w1.cell? ⟨w.heap.size + 1, 1, none⟩ = some (.int .i64 0) := K1.cell 1
  have g1 := K2.frozen 1
  have v1 : w1.cell? ⟨w.heap.size + 1 + 1, 1, none⟩ = some (.int .i64 0) := K2.cell 1
  have f2 := K1.frozen 2
  have u2 : w1.cell? ⟨w.heap.size + 1, 2, none⟩ = some (.int .i64 0) := K1.cell 2
  have g2 := K2.frozen 2
  have v2 : w1.cell? ⟨w.heap.size + 1 + 1, 2, none⟩ = some (.int .i64 0) := K2.cell 2
  have f3 := K1.frozen 3
  have u3 : w1.cell? ⟨w.heap.size + 1, 3, none⟩ = some (.string ⟨#[]⟩) := K1.cell 3
  have g3 := K2.frozen 3
  have v3 : w1.cell? ⟨w.heap.size + 1 + 1, 3, none⟩ = some (.string ⟨#[]⟩) := K2.cell 3
  have C : Hid (Chg (· = p) w w1) := (T3.mono (by intro _ _ h; exact h.elim)).trans c1
  clear T1 T2 T3 K1 K2 c1
  go_wp2
  refine bodyPost_ret (by simp [results, Tryd.results34, go_sem, u0, u1, u2, u3]; try rfl) rfl ?_
  exact ⟨rfl, (((((q1.setOther (by dsimp only; omega) _).setOther (by dsimp only; omega) _).setOther (by dsimp only; omega) _).setOther (by dsimp only; omega) _).setOther (by dsimp only; omega) _), (((((C.out.setCell (Or.inr (by dsimp only; omega)) _).setCell (Or.inr (by dsimp only; omega)) _).setCell (Or.inr (by dsimp only; omega)) _).setCell (Or.inr (by dsimp only; omega)) _).setCell (Or.inr (by dsimp only; omega)) _)⟩

theorem do_10 (p : Nat) (a b cc : Int) (s t : ByteArray) (c z : Int) (w : World) (hq : Cv w p c z) (hc : Sm c) (hz : Sm z) :
    Calls Tryd.prog 34 #[.pointer (some ⟨p, 0, none⟩), opV 10 a b cc s t] w fun e w' => e = .returned (ansV 0 z 0 ⟨#[]⟩) ∧ Cv w' p c z ∧ Chg (· = p) w w' := by
  unfold opV
  have hp := hq.lt
  obtain ⟨T1, T2, T3⟩ := three (T := 39) w (.cells #[.int .i64 10, .int .i64 a, .int .i64 b, .int .i64 cc, .string s, .string t] 42) [.int .i64 0, .int .i64 0, .int .i64 0, .string ⟨#[]⟩] [.int .i64 0, .int .i64 0, .int .i64 0, .string ⟨#[]⟩]
  go_enter Tryd.func34, Tryd.ntmps34
  go_wp2_with fail
  refine (nans_q p c z _ (((hq.alloc _).alloc _).alloc _)).mono ?_
  rintro e w1 ⟨rfl, q1, c1⟩
  have K1 := T1.kept c1 (by omega)
  have K2 := T2.kept c1 (by omega)
  have f0 := K1.frozen 0
  have u0 : w1.cell? ⟨w.heap.size + 1, 0, none⟩ = some (.int .i64 0) := K1.cell 0
  have g0 := K2.frozen 0
  have v0 : w1.cell? ⟨w.heap.size + 1 + 1, 0, none⟩ = some (.int .i64 0) := K2.cell 0
  have f1 := K1.frozen 1
  have u1 : w1.cell? ⟨w.heap.size + 1, 1, none⟩ = some (.int .i64 0) := K1.cell 1
  have g1 := K2.frozen 1
  have v1 : w1.cell? ⟨w.heap.size + 1 + 1, 1, none⟩ = some (.int .i64 0) := K2.cell 1
  have f2 := K1.frozen 2
  have u2 : w1.cell? ⟨w.heap.size + 1, 2, none⟩ = some (.int .i64 0) := K1.cell 2
  have g2 := K2.frozen 2
  have v2 : w1.cell? ⟨w.heap.size + 1 + 1, 2, none⟩ = some (.int .i64 0) := K2.cell 2
  have f3 := K1.frozen 3
  have u3 : w1.cell? ⟨w.heap.size + 1, 3, none⟩ = some (.string ⟨#[]⟩) := K1.cell 3
  have g3 := K2.frozen 3
  have v3 : w1.cell? ⟨w.heap.size + 1 + 1, 3, none⟩ = some (.string ⟨#[]⟩) := K2.cell 3
  have C : Hid (Chg (· = p) w w1) := (T3.mono (by intro _ _ h; exact h.elim)).trans c1
  clear T1 T2 T3 K1 K2 c1
  go_wp2
  refine bodyPost_ret (by simp [results, Tryd.results34, go_sem, u0, u1, u2, u3]; try rfl) rfl ?_
  exact ⟨rfl, (((((q1.setOther (by dsimp only; omega) _).setOther (by dsimp only; omega) _).setOther (by dsimp only; omega) _).setOther (by dsimp only; omega) _).setOther (by dsimp only; omega) _), (((((C.out.setCell (Or.inr (by dsimp only; omega)) _).setCell (Or.inr (by dsimp only; omega)) _).setCell (Or.inr (by dsimp only; omega)) _).setCell (Or.inr (by dsimp only; omega)) _).setCell (Or.inr (by dsimp only; omega)) _)⟩

theorem do_11 (p : Nat) (a b cc : Int) (s t : ByteArray) (c z : Int) (w : World) (ht : Tab w) (hq : Cv w p c z) (hc : Sm c) (hz : Sm z) :
    Calls Tryd.prog 34 #[.pointer (some ⟨p, 0, none⟩), opV 11 a b cc s t] w fun e w' => e = .returned (ansV 0 0 0 ⟨(showQ c z).toArray⟩) ∧ Cv w' p c z ∧ Chg (· = p) w w' := by
  unfold opV
  have hp := hq.lt
  obtain ⟨T1, T2, T3⟩ := three (T := 39) w (.cells #[.int .i64 11, .int .i64 a, .int .i64 b, .int .i64 cc, .string s, .string t] 42) [.int .i64 0, .int .i64 0, .int .i64 0, .string ⟨#[]⟩] [.int .i64 0, .int .i64 0, .int .i64 0, .string ⟨#[]⟩]
  have ht3 := ht.nil T3
  go_enter Tryd.func34, Tryd.ntmps34
  go_wp2_with fail
  refine (show_q p c z _ (((hq.alloc _).alloc _).alloc _) hc hz ht3).mono ?_
  rintro e w1 ⟨rfl, q1, c1⟩
  have K1 := T1.kept c1 (by omega)
  have K2 := T2.kept c1 (by omega)
  have f0 := K1.frozen 0
  have u0 : w1.cell? ⟨w.heap.size + 1, 0, none⟩ = some (.int .i64 0) := K1.cell 0
  have g0 := K2.frozen 0
  have v0 : w1.cell? ⟨w.heap.size + 1 + 1, 0, none⟩ = some (.int .i64 0) := K2.cell 0
  have f1 := K1.frozen 1
  have u1 : w1.cell? ⟨w.heap.size + 1, 1, none⟩ = some (.int .i64 0) := K1.cell 1
  have g1 := K2.frozen 1
  have v1 : w1.cell? ⟨w.heap.size + 1 + 1, 1, none⟩ = some (.int .i64 0) := K2.cell 1
  have f2 := K1.frozen 2
  have u2 : w1.cell? ⟨w.heap.size + 1, 2, none⟩ = some (.int .i64 0) := K1.cell 2
  have g2 := K2.frozen 2
  have v2 : w1.cell? ⟨w.heap.size + 1 + 1, 2, none⟩ = some (.int .i64 0) := K2.cell 2
  have f3 := K1.frozen 3
  have u3 : w1.cell? ⟨w.heap.size + 1, 3, none⟩ = some (.string ⟨#[]⟩) := K1.cell 3
  have g3 := K2.frozen 3
  have v3 : w1.cell? ⟨w.heap.size + 1 + 1, 3, none⟩ = some (.string ⟨#[]⟩) := K2.cell 3
  have C : Hid (Chg (· = p) w w1) := (T3.mono (by intro _ _ h; exact h.elim)).trans c1
  clear T1 T2 T3 K1 K2 c1
  go_wp2
  refine bodyPost_ret (by simp [results, Tryd.results34, go_sem, u0, u1, u2, u3]; try rfl) rfl ?_
  exact ⟨rfl, (((((q1.setOther (by dsimp only; omega) _).setOther (by dsimp only; omega) _).setOther (by dsimp only; omega) _).setOther (by dsimp only; omega) _).setOther (by dsimp only; omega) _), (((((C.out.setCell (Or.inr (by dsimp only; omega)) _).setCell (Or.inr (by dsimp only; omega)) _).setCell (Or.inr (by dsimp only; omega)) _).setCell (Or.inr (by dsimp only; omega)) _).setCell (Or.inr (by dsimp only; omega)) _)⟩

theorem do_12 (p : Nat) (a b cc : Int) (s t : ByteArray) (c z : Int) (w : World) (hq : Cv w p c z) (hc : Sm c) (hz : Sm z) :
    Calls Tryd.prog 34 #[.pointer (some ⟨p, 0, none⟩), opV 12 a b cc s t] w fun e w' => e = .returned (ansV 0 1 0 ⟨#[]⟩) ∧ Cv w' p c z ∧ Chg (· = p) w w' := by
  unfold opV
  have hp := hq.lt
  obtain ⟨T1, T2, T3⟩ := three (T := 39) w (.cells #[.int .i64 12, .int .i64 a, .int .i64 b, .int .i64 cc, .string s, .string t] 42) [.int .i64 0, .int .i64 0, .int .i64 0, .string ⟨#[]⟩] [.int .i64 0, .int .i64 0, .int .i64 0, .string ⟨#[]⟩]
  go_enter Tryd.func34, Tryd.ntmps34
  go_wp2_with fail
  refine (checkQ_q p c z _ (((hq.alloc _).alloc _).alloc _) hc hz).mono ?_
  rintro e w1 ⟨rfl, q1, c1⟩
  have K1 := T1.kept c1 (by omega)
  have K2 := T2.kept c1 (by omega)
  have f0 := K1.frozen 0
  have u0 : w1.cell? ⟨w.heap.size + 1, 0, none⟩ = some (.int .i64 0) := K1.cell 0
  have g0 := K2.frozen 0
  have v0 : w1.cell? ⟨w.heap.size + 1 + 1, 0, none⟩ = some (.int .i64 0) := K2.cell 0
  have f1 := K1.frozen 1
  have u1 : w1.cell? ⟨w.heap.size + 1, 1, none⟩ = some (.int .i64 0) := K1.cell 1
  have g1 := K2.frozen 1
  have v1 : w1.cell? ⟨w.heap.size + 1 + 1, 1, none⟩ = some (.int .i64 0) := K2.cell 1
  have f2 := K1.frozen 2
  have u2 : w1.cell? ⟨w.heap.size + 1, 2, none⟩ = some (.int .i64 0) := K1.cell 2
  have g2 := K2.frozen 2
  have v2 : w1.cell? ⟨w.heap.size + 1 + 1, 2, none⟩ = some (.int .i64 0) := K2.cell 2
  have f3 := K1.frozen 3
  have u3 : w1.cell? ⟨w.heap.size + 1, 3, none⟩ = some (.string ⟨#[]⟩) := K1.cell 3
  have g3 := K2.frozen 3
  have v3 : w1.cell? ⟨w.heap.size + 1 + 1, 3, none⟩ = some (.string ⟨#[]⟩) := K2.cell 3
  have C : Hid (Chg (· = p) w w1) := (T3.mono (by intro _ _ h; exact h.elim)).trans c1
  clear T1 T2 T3 K1 K2 c1
  go_wp2
  refine bodyPost_ret (by simp [results, Tryd.results34, go_sem, u0, u1, u2, u3]; try rfl) rfl ?_
  exact ⟨rfl, (((((q1.setOther (by dsimp only; omega) _).setOther (by dsimp only; omega) _).setOther (by dsimp only; omega) _).setOther (by dsimp only; omega) _).setOther (by dsimp only; omega) _), (((((C.out.setCell (Or.inr (by dsimp only; omega)) _).setCell (Or.inr (by dsimp only; omega)) _).setCell (Or.inr (by dsimp only; omega)) _).setCell (Or.inr (by dsimp only; omega)) _).setCell (Or.inr (by dsimp only; omega)) _)⟩

theorem do_0 (p : Nat) (kd : Int) (a b cc : Int) (s t : ByteArray) (c z : Int) (w : World) (h1 : kd ≠ 1) (h2 : kd ≠ 2) (h3 : kd ≠ 3) (h4 : kd ≠ 4) (h5 : kd ≠ 5) (h6 : kd ≠ 6) (h9 : kd ≠ 9) (h10 : kd ≠ 10) (h11 : kd ≠ 11) (h12 : kd ≠ 12) (hq : Cv w p c z) (hc : Sm c) (hz : Sm z) :
    Calls Tryd.prog 34 #[.pointer (some ⟨p, 0, none⟩), opV kd a b cc s t] w fun e w' => e = .returned (ansV 0 0 0 ⟨#[]⟩) ∧ Cv w' p c z ∧ Chg (· = p) w w' := by
  unfold opV
  have hp := hq.lt
  obtain ⟨T1, T2, T3⟩ := three (T := 39) w (.cells #[.int .i64 kd, .int .i64 a, .int .i64 b, .int .i64 cc, .string s, .string t] 42) [.int .i64 0, .int .i64 0, .int .i64 0, .string ⟨#[]⟩] [.int .i64 0, .int .i64 0, .int .i64 0, .string ⟨#[]⟩]
  have k1 : (kd == 1) = false := by simpa using h1
  have k2 : (kd == 2) = false := by simpa using h2
  have k3 : (kd == 3) = false := by simpa using h3
  have k4 : (kd == 4) = false := by simpa using h4
  have k5 : (kd == 5) = false := by simpa using h5
  have k6 : (kd == 6) = false := by simpa using h6
  have k9 : (kd == 9) = false := by simpa using h9
  have k10 : (kd == 10) = false := by simpa using h10
  have k11 : (kd == 11) = false := by simpa using h11
  have k12 : (kd == 12) = false := by simpa using h12
  clear h1 h2 h3 h4 h5 h6 h9 h10 h11 h12
  have q3 := (((hq.alloc (.cells #[.int .i64 kd, .int .i64 a, .int .i64 b, .int .i64 cc, .string s, .string t] 42)).alloc (.cells #[.int .i64 0, .int .i64 0, .int .i64 0, .string ⟨#[]⟩] 39)).alloc (.cells #[.int .i64 0, .int .i64 0, .int .i64 0, .string ⟨#[]⟩] 39))
  have Q3 : Hid _ := q3
  have C3 : Hid _ := T3.mono (S' := (· = p)) (by intro _ _ h; exact h.elim)
  clear T1 T2 T3 q3
  go_enter Tryd.func34, Tryd.ntmps34
  go_wp2
  refine bodyPost_ret (by simp [results, Tryd.results34, go_sem]; try rfl) rfl ?_
  exact ⟨rfl, Q3.out, C3.out⟩

theorem r32O_k (a b : Int) : (r32O a b).k = 0 := by unfold r32O; (repeat' split) <;> rfl
theorem r16O_k (a b : Int) : (r16O a b).k = 0 := by unfold r16O; (repeat' split) <;> rfl
theorem narrowO_k (a : Int) : (narrowO a).k = 0 := by unfold narrowO; (repeat' split) <;> rfl
theorem widenO_k (a : Int) : (widenO a).k = 0 := by unfold widenO; (repeat' split) <;> rfl
theorem scaleO_d (a b : Int) : (scaleO a b).dc = 0 ∧ (scaleO a b).dz = 0 := by unfold scaleO; (repeat' split) <;> exact ⟨rfl, rfl⟩
theorem shiftO_d (a b : Int) : (shiftO a b).dc = 0 ∧ (shiftO a b).dz = 0 ∧ (shiftO a b).k = 0 := by unfold shiftO; (repeat' split) <;> exact ⟨rfl, rfl, rfl⟩
/-- what a step's text is -/
def stepS (kd c z : Int) : ByteArray := if kd = 11 then ⟨(showQ c z).toArray⟩ else ⟨#[]⟩
theorem do_any (p : Nat) (kd a b cc : Int) (s t : ByteArray) (c z : Int) (w : World) (ha : I64 a) (hq : Cv w p c z) (hc : Sm c) (hz : Sm z) (ht : Tab w) :
    Calls Tryd.prog 34 #[.pointer (some ⟨p, 0, none⟩), opV kd a b cc s t] w fun e w' => e = .returned (ansV (stepO kd a b c z).e (stepO kd a b c z).n (stepO kd a b c z).k (stepS kd c z)) ∧ Cv w' p (c + (stepO kd a b c z).dc) (z + (stepO kd a b c z).dz) ∧ Chg (· = p) w w' := by
  by_cases h1 : kd = 1
  · subst h1; exact (do_1 p a b cc s t c z w ha hq hc hz).mono fun e w' ⟨he, hw⟩ => ⟨by rw [he, show stepO 1 a b c z = r32O a b from rfl, r32O_k]; rfl, hw⟩
  by_cases h2 : kd = 2
  · subst h2; exact (do_2 p a b cc s t c z w ha hq hc hz).mono fun e w' ⟨he, hw⟩ => ⟨by rw [he, show stepO 2 a b c z = r16O a b from rfl, r16O_k]; rfl, hw⟩
  by_cases h3 : kd = 3
  · subst h3; exact (do_3 p a b cc s t c z w ha hq hc hz).mono fun e w' ⟨he, hw⟩ => ⟨by rw [he, show stepO 3 a b c z = narrowO a from rfl, narrowO_k]; rfl, hw⟩
  by_cases h4 : kd = 4
  · subst h4; exact (do_4 p a b cc s t c z w hq hc hz).mono fun e w' ⟨he, hw⟩ => ⟨by rw [he, show stepO 4 a b c z = widenO a from rfl, widenO_k]; rfl, hw⟩
  by_cases h5 : kd = 5
  · subst h5; exact (do_5 p a b cc s t c z w hq hc hz).mono fun e w' ⟨he, hw⟩ => ⟨by rw [he]; rfl, by rw [show stepO 5 a b c z = scaleO a b from rfl, (scaleO_d a b).1, (scaleO_d a b).2, Int.add_zero, Int.add_zero]; exact hw⟩
  by_cases h6 : kd = 6
  · subst h6; exact (do_6 p a b cc s t c z w hq hc hz).mono fun e w' ⟨he, hw⟩ => ⟨by rw [he, show stepO 6 a b c z = shiftO a b from rfl, (shiftO_d a b).2.2]; rfl, by rw [show stepO 6 a b c z = shiftO a b from rfl, (shiftO_d a b).1, (shiftO_d a b).2.1, Int.add_zero, Int.add_zero]; exact hw⟩
  by_cases h9 : kd = 9
  · subst h9; exact (do_9 p a b cc s t c z w hq hc hz).mono fun e w' ⟨he, hw⟩ => ⟨he, by rw [show stepO 9 a b c z = ⟨0, c, 0, 0, 0⟩ from rfl]; simpa using hw⟩
  by_cases h10 : kd = 10
  · subst h10; exact (do_10 p a b cc s t c z w hq hc hz).mono fun e w' ⟨he, hw⟩ => ⟨he, by rw [show stepO 10 a b c z = ⟨0, z, 0, 0, 0⟩ from rfl]; simpa using hw⟩
  by_cases h11 : kd = 11
  · subst h11; exact (do_11 p a b cc s t c z w ht hq hc hz).mono fun e w' ⟨he, hw⟩ => ⟨he, by rw [show stepO 11 a b c z = ⟨0, 0, 0, 0, 0⟩ from rfl]; simpa using hw⟩
  by_cases h12 : kd = 12
  · subst h12; exact (do_12 p a b cc s t c z w hq hc hz).mono fun e w' ⟨he, hw⟩ => ⟨he, by rw [show stepO 12 a b c z = ⟨0, 1, 0, 0, 0⟩ from rfl]; simpa using hw⟩
  have e0 : stepO kd a b c z = ⟨0, 0, 0, 0, 0⟩ := by unfold stepO; rw [if_neg h1, if_neg h2, if_neg h3, if_neg h4, if_neg h5, if_neg h6, if_neg h9, if_neg h10, if_neg h12]
  have e1 : stepS kd c z = ⟨#[]⟩ := by unfold stepS; rw [if_neg h11]
  exact (do_0 p kd a b cc s t c z w h1 h2 h3 h4 h5 h6 h9 h10 h11 h12 hq hc hz).mono fun e w' ⟨he, hw⟩ => ⟨by rw [he, e0, e1], by rw [e0]; simpa using hw⟩
end Go.Proofs.Qxb6500378aDoor

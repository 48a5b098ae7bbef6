/- The model's player: DoM (written by tools/gendo.py). -/
import Derived.Test.Qxb6500378aDoorStDo
import Derived.Test.Qxb6500378aDoorMoScale
import Derived.Test.Qxb6500378aDoorMoShow
namespace Go.Proofs.Qxb6500378aDoor
set_option linter.unusedVariables false
set_option linter.unusedSimpArgs false
set_option maxHeartbeats 2000000
open Go.RowKit Go.Qu Ieee

theorem dom_1 (p : Nat) (a b cc : Int) (s t : ByteArray) (c z : Int) (w : World) (ha : I64 a) (hq : Cm w p c z) (hc : Sq c) (hz : Sq z) :
    Calls Tryd.prog 38 #[.pointer (some ⟨p, 0, none⟩), opV 1 a b cc s t] w fun e w' => e = .returned (ansV (r32O a b).e (r32O a b).n 0 ⟨#[]⟩) ∧ Cm w' p (c + (r32O a b).dc) (z + (r32O a b).dz) ∧ Chg (· = p) w w' := by
  unfold opV
  have hp := hq.lt
  obtain ⟨T1, T2, T3⟩ := three (T := 39) w (.cells #[.int .i64 1, .int .i64 a, .int .i64 b, .int .i64 cc, .string s, .string t] 42) [.int .i64 0, .int .i64 0, .int .i64 0, .string ⟨#[]⟩] [.int .i64 0, .int .i64 0, .int .i64 0, .string ⟨#[]⟩]
  go_enter Tryd.func38, Tryd.ntmps38
  go_wp2_with fail
  refine (round32m_o p a b c z _ ha (((hq.alloc _).alloc _).alloc _) hc hz).mono ?_
  rintro e w1 ⟨rfl, q1, c1⟩
  have K1 := T1.kept c1 (by omega)
  have K2 := T2.kept c1 (by omega)
  have f0 := K1.frozen 0
  have u0 : w1.cell? ⟨w.heap.size + 1, 0, none⟩ = some (.int .i64 0) := K1.cell 0
  have g0 := K2.frozen 0
  have v0 : w1.cell? ⟨w.heap.size + 1 + 1, 0, none⟩ = some (.int .i64 0) := K2.cell 0
  have f1 := K1.frozen 1
  have u1 : w1.cell? ⟨w.heap.size + 1, 1, none⟩ = some (.int .i64 0) := K1.cell 1
  have g1 := K2.frozen 1
  have v1 : w1.cell? ⟨w.heap.size + 1 + 1, 1, none⟩ = some (.int .i64 0) := K2.cell 1
  have f2 := K1.frozen 2
  have u2 : w1.cell? ⟨w.heap.size + 1, 2, none⟩ = some (.int .i64 0) := K1.cell 2
  have g2 := K2.frozen 2
  have v2 : w1.cell? ⟨w.heap.size + 1 + 1, 2, none⟩ = some (.int .i64 0) := K2.cell 2
  have f3 := K1.frozen 3
  have u3 : w1.cell? ⟨w.heap.size + 1, 3, none⟩ = some (.string ⟨#[]⟩) := K1.cell 3
  have g3 := K2.frozen 3
  have v3 : w1.cell? ⟨w.heap.size + 1 + 1, 3, none⟩ = some (.string ⟨#[]⟩) := K2.cell 3
  have C : Hid (Chg (· = p) w w1) := (T3.mono (by intro _ _ h; exact h.elim)).trans c1
  clear T1 T2 T3 K1 K2 c1
  go_wp2
  refine bodyPost_ret (by simp [results, Tryd.results38, go_sem, u0, u1, u2, u3]; try rfl) rfl ?_
  exact ⟨rfl, ((((((q1.setOther (by dsimp only; omega) _).setOther (by dsimp only; omega) _).setOther (by dsimp only; omega) _).setOther (by dsimp only; omega) _).setOther (by dsimp only; omega) _).setOther (by dsimp only; omega) _), ((((((C.out.setCell (Or.inr (by dsimp only; omega)) _).setCell (Or.inr (by dsimp only; omega)) _).setCell (Or.inr (by dsimp only; omega)) _).setCell (Or.inr (by dsimp only; omega)) _).setCell (Or.inr (by dsimp only; omega)) _).setCell (Or.inr (by dsimp only; omega)) _)⟩

theorem dom_2 (p : Nat) (a b cc : Int) (s t : ByteArray) (c z : Int) (w : World) (ha : I64 a) (hq : Cm w p c z) (hc : Sq c) (hz : Sq z) :
    Calls Tryd.prog 38 #[.pointer (some ⟨p, 0, none⟩), opV 2 a b cc s t] w fun e w' => e = .returned (ansV (r16O a b).e (r16O a b).n 0 ⟨#[]⟩) ∧ Cm w' p (c + (r16O a b).dc) (z + (r16O a b).dz) ∧ Chg (· = p) w w' := by
  unfold opV
  have hp := hq.lt
  obtain ⟨T1, T2, T3⟩ := three (T := 39) w (.cells #[.int .i64 2, .int .i64 a, .int .i64 b, .int .i64 cc, .string s, .string t] 42) [.int .i64 0, .int .i64 0, .int .i64 0, .string ⟨#[]⟩] [.int .i64 0, .int .i64 0, .int .i64 0, .string ⟨#[]⟩]
  go_enter Tryd.func38, Tryd.ntmps38
  go_wp2_with fail
  refine (round16m_o p a b c z _ ha (((hq.alloc _).alloc _).alloc _) hc hz).mono ?_
  rintro e w1 ⟨rfl, q1, c1⟩
  have K1 := T1.kept c1 (by omega)
  have K2 := T2.kept c1 (by omega)
  have f0 := K1.frozen 0
  have u0 : w1.cell? ⟨w.heap.size + 1, 0, none⟩ = some (.int .i64 0) := K1.cell 0
  have g0 := K2.frozen 0
  have v0 : w1.cell? ⟨w.heap.size + 1 + 1, 0, none⟩ = some (.int .i64 0) := K2.cell 0
  have f1 := K1.frozen 1
  have u1 : w1.cell? ⟨w.heap.size + 1, 1, none⟩ = some (.int .i64 0) := K1.cell 1
  have g1 := K2.frozen 1
  have v1 : w1.cell? ⟨w.heap.size + 1 + 1, 1, none⟩ = some (.int .i64 0) := K2.cell 1
  have f2 := K1.frozen 2
  have u2 : w1.cell? ⟨w.heap.size + 1, 2, none⟩ = some (.int .i64 0) := K1.cell 2
  have g2 := K2.frozen 2
  have v2 : w1.cell? ⟨w.heap.size + 1 + 1, 2, none⟩ = some (.int .i64 0) := K2.cell 2
  have f3 := K1.frozen 3
  have u3 : w1.cell? ⟨w.heap.size + 1, 3, none⟩ = some (.string ⟨#[]⟩) := K1.cell 3
  have g3 := K2.frozen 3
  have v3 : w1.cell? ⟨w.heap.size + 1 + 1, 3, none⟩ = some (.string ⟨#[]⟩) := K2.cell 3
  have C : Hid (Chg (· = p) w w1) := (T3.mono (by intro _ _ h; exact h.elim)).trans c1
  clear T1 T2 T3 K1 K2 c1
  go_wp2
  refine bodyPost_ret (by simp [results, Tryd.results38, go_sem, u0, u1, u2, u3]; try rfl) rfl ?_
  exact ⟨rfl, ((((((q1.setOther (by dsimp only; omega) _).setOther (by dsimp only; omega) _).setOther (by dsimp only; omega) _).setOther (by dsimp only; omega) _).setOther (by dsimp only; omega) _).setOther (by dsimp only; omega) _), ((((((C.out.setCell (Or.inr (by dsimp only; omega)) _).setCell (Or.inr (by dsimp only; omega)) _).setCell (Or.inr (by dsimp only; omega)) _).setCell (Or.inr (by dsimp only; omega)) _).setCell (Or.inr (by dsimp only; omega)) _).setCell (Or.inr (by dsimp only; omega)) _)⟩

theorem dom_3 (p : Nat) (a b cc : Int) (s t : ByteArray) (c z : Int) (w : World) (ha : I64 a) (hq : Cm w p c z) (hc : Sq c) (hz : Sq z) :
    Calls Tryd.prog 38 #[.pointer (some ⟨p, 0, none⟩), opV 3 a b cc s t] w fun e w' => e = .returned (ansV (narrowO a).e (narrowO a).n 0 ⟨#[]⟩) ∧ Cm w' p (c + (narrowO a).dc) (z + (narrowO a).dz) ∧ Chg (· = p) w w' := by
  unfold opV
  have hp := hq.lt
  obtain ⟨T1, T2, T3⟩ := three (T := 39) w (.cells #[.int .i64 3, .int .i64 a, .int .i64 b, .int .i64 cc, .string s, .string t] 42) [.int .i64 0, .int .i64 0, .int .i64 0, .string ⟨#[]⟩] [.int .i64 0, .int .i64 0, .int .i64 0, .string ⟨#[]⟩]
  go_enter Tryd.func38, Tryd.ntmps38
  go_wp2_with fail
  refine (narrowm_o p a c z _ ha (((hq.alloc _).alloc _).alloc _) hc hz).mono ?_
  rintro e w1 ⟨rfl, q1, c1⟩
  have K1 := T1.kept c1 (by omega)
  have K2 := T2.kept c1 (by omega)
  have f0 := K1.frozen 0
  have u0 : w1.cell? ⟨w.heap.size + 1, 0, none⟩ = some (.int .i64 0) := K1.cell 0
  have g0 := K2.frozen 0
  have v0 : w1.cell? ⟨w.heap.size + 1 + 1, 0, none⟩ = some (.int .i64 0) := K2.cell 0
  have f1 := K1.frozen 1
  have u1 : w1.cell? ⟨w.heap.size + 1, 1, none⟩ = some (.int .i64 0) := K1.cell 1
  have g1 := K2.frozen 1
  have v1 : w1.cell? ⟨w.heap.size + 1 + 1, 1, none⟩ = some (.int .i64 0) := K2.cell 1
  have f2 := K1.frozen 2
  have u2 : w1.cell? ⟨w.heap.size + 1, 2, none⟩ = some (.int .i64 0) := K1.cell 2
  have g2 := K2.frozen 2
  have v2 : w1.cell? ⟨w.heap.size + 1 + 1, 2, none⟩ = some (.int .i64 0) := K2.cell 2
  have f3 := K1.frozen 3
  have u3 : w1.cell? ⟨w.heap.size + 1, 3, none⟩ = some (.string ⟨#[]⟩) := K1.cell 3
  have g3 := K2.frozen 3
  have v3 : w1.cell? ⟨w.heap.size + 1 + 1, 3, none⟩ = some (.string ⟨#[]⟩) := K2.cell 3
  have C : Hid (Chg (· = p) w w1) := (T3.mono (by intro _ _ h; exact h.elim)).trans c1
  clear T1 T2 T3 K1 K2 c1
  go_wp2
  refine bodyPost_ret (by simp [results, Tryd.results38, go_sem, u0, u1, u2, u3]; try rfl) rfl ?_
  exact ⟨rfl, ((((((q1.setOther (by dsimp only; omega) _).setOther (by dsimp only; omega) _).setOther (by dsimp only; omega) _).setOther (by dsimp only; omega) _).setOther (by dsimp only; omega) _).setOther (by dsimp only; omega) _), ((((((C.out.setCell (Or.inr (by dsimp only; omega)) _).setCell (Or.inr (by dsimp only; omega)) _).setCell (Or.inr (by dsimp only; omega)) _).setCell (Or.inr (by dsimp only; omega)) _).setCell (Or.inr (by dsimp only; omega)) _).setCell (Or.inr (by dsimp only; omega)) _)⟩

theorem dom_4 (p : Nat) (a b cc : Int) (s t : ByteArray) (c z : Int) (w : World) (hq : Cm w p c z) (hc : Sq c) (hz : Sq z) :
    Calls Tryd.prog 38 #[.pointer (some ⟨p, 0, none⟩), opV 4 a b cc s t] w fun e w' => e = .returned (ansV (widenO a).e (widenO a).n 0 ⟨#[]⟩) ∧ Cm w' p (c + (widenO a).dc) (z + (widenO a).dz) ∧ Chg (· = p) w w' := by
  unfold opV
  have hp := hq.lt
  obtain ⟨T1, T2, T3⟩ := three (T := 39) w (.cells #[.int .i64 4, .int .i64 a, .int .i64 b, .int .i64 cc, .string s, .string t] 42) [.int .i64 0, .int .i64 0, .int .i64 0, .string ⟨#[]⟩] [.int .i64 0, .int .i64 0, .int .i64 0, .string ⟨#[]⟩]
  go_enter Tryd.func38, Tryd.ntmps38
  go_wp2_with fail
  refine (widenm_o p a c z _ (((hq.alloc _).alloc _).alloc _) hc hz).mono ?_
  rintro e w1 ⟨rfl, q1, c1⟩
  have K1 := T1.kept c1 (by omega)
  have K2 := T2.kept c1 (by omega)
  have f0 := K1.frozen 0
  have u0 : w1.cell? ⟨w.heap.size + 1, 0, none⟩ = some (.int .i64 0) := K1.cell 0
  have g0 := K2.frozen 0
  have v0 : w1.cell? ⟨w.heap.size + 1 + 1, 0, none⟩ = some (.int .i64 0) := K2.cell 0
  have f1 := K1.frozen 1
  have u1 : w1.cell? ⟨w.heap.size + 1, 1, none⟩ = some (.int .i64 0) := K1.cell 1
  have g1 := K2.frozen 1
  have v1 : w1.cell? ⟨w.heap.size + 1 + 1, 1, none⟩ = some (.int .i64 0) := K2.cell 1
  have f2 := K1.frozen 2
  have u2 : w1.cell? ⟨w.heap.size + 1, 2, none⟩ = some (.int .i64 0) := K1.cell 2
  have g2 := K2.frozen 2
  have v2 : w1.cell? ⟨w.heap.size + 1 + 1, 2, none⟩ = some (.int .i64 0) := K2.cell 2
  have f3 := K1.frozen 3
  have u3 : w1.cell? ⟨w.heap.size + 1, 3, none⟩ = some (.string ⟨#[]⟩) := K1.cell 3
  have g3 := K2.frozen 3
  have v3 : w1.cell? ⟨w.heap.size + 1 + 1, 3, none⟩ = some (.string ⟨#[]⟩) := K2.cell 3
  have C : Hid (Chg (· = p) w w1) := (T3.mono (by intro _ _ h; exact h.elim)).trans c1
  clear T1 T2 T3 K1 K2 c1
  go_wp2
  refine bodyPost_ret (by simp [results, Tryd.results38, go_sem, u0, u1, u2, u3]; try rfl) rfl ?_
  exact ⟨rfl, ((((((q1.setOther (by dsimp only; omega) _).setOther (by dsimp only; omega) _).setOther (by dsimp only; omega) _).setOther (by dsimp only; omega) _).setOther (by dsimp only; omega) _).setOther (by dsimp only; omega) _), ((((((C.out.setCell (Or.inr (by dsimp only; omega)) _).setCell (Or.inr (by dsimp only; omega)) _).setCell (Or.inr (by dsimp only; omega)) _).setCell (Or.inr (by dsimp only; omega)) _).setCell (Or.inr (by dsimp only; omega)) _).setCell (Or.inr (by dsimp only; omega)) _)⟩

theorem dom_5 (p : Nat) (a b cc : Int) (s t : ByteArray) (c z : Int) (w : World) (hq : Cm w p c z) (hc : Sq c) (hz : Sq z) :
    Calls Tryd.prog 38 #[.pointer (some ⟨p, 0, none⟩), opV 5 a b cc s t] w fun e w' => e = .returned (ansV (scaleO a b).e (scaleO a b).n (scaleO a b).k ⟨#[]⟩) ∧ Cm w' p c z ∧ Chg (· = p) w w' := by
  unfold opV
  have hp := hq.lt
  obtain ⟨T1, T2, T3⟩ := three (T := 39) w (.cells #[.int .i64 5, .int .i64 a, .int .i64 b, .int .i64 cc, .string s, .string t] 42) [.int .i64 0, .int .i64 0, .int .i64 0, .string ⟨#[]⟩] [.int .i64 0, .int .i64 0, .int .i64 0, .string ⟨#[]⟩]
  go_enter Tryd.func38, Tryd.ntmps38
  go_wp2_with fail
  refine (scalem_o p a b c z _ (((hq.alloc _).alloc _).alloc _)).mono ?_
  rintro e w1 ⟨rfl, q1, c1⟩
  have K1 := T1.kept c1 (by omega)
  have K2 := T2.kept c1 (by omega)
  have f0 := K1.frozen 0
  have u0 : w1.cell? ⟨w.heap.size + 1, 0, none⟩ = some (.int .i64 0) := K1.cell 0
  have g0 := K2.frozen 0
  have v0 : w1.cell? ⟨w.heap.size + 1 + 1, 0, none⟩ = some (.int .i64 0) := K2.cell 0
  have f1 := K1.frozen 1
  have u1 : w1.cell? ⟨w.heap.size + 1, 1, none⟩ = some (.int .i64 0) := K1.cell 1
  have g1 := K2.frozen 1
  have v1 : w1.cell? ⟨w.heap.size + 1 + 1, 1, none⟩ = some (.int .i64 0) := K2.cell 1
  have f2 := K1.frozen 2
  have u2 : w1.cell? ⟨w.heap.size + 1, 2, none⟩ = some (.int .i64 0) := K1.cell 2
  have g2 := K2.frozen 2
  have v2 : w1.cell? ⟨w.heap.size + 1 + 1, 2, none⟩ = some (.int .i64 0) := K2.cell 2
  have f3 := K1.frozen 3
  have u3 : w1.cell? ⟨w.heap.size + 1, 3, none⟩ = some (.string ⟨#[]⟩) := K1.cell 3
  have g3 := K2.frozen 3
  have v3 : w1.cell? ⟨w.heap.size + 1 + 1, 3, none⟩ = some (.string ⟨#[]⟩) := K2.cell 3
  have C : Hid (Chg (· = p) w w1) := (T3.mono (by intro _ _ h; exact h.elim)).trans c1
  clear T1 T2 T3 K1 K2 c1
  go_wp2
  refine bodyPost_ret (by simp [results, Tryd.results38, go_sem, u0, u1, u2, u3]; try rfl) rfl ?_
  exact ⟨rfl, (((((((q1.setOther (by dsimp only; omega) _).setOther (by dsimp only; omega) _).setOther (by dsimp only; omega) _).setOther (by dsimp only; omega) _).setOther (by dsimp only; omega) _).setOther (by dsimp only; omega) _).setOther (by dsimp only; omega) _), (((((((C.out.setCell (Or.inr (by dsimp only; omega)) _).setCell (Or.inr (by dsimp only; omega)) _).setCell (Or.inr (by dsimp only; omega)) _).setCell (Or.inr (by dsimp only; omega)) _).setCell (Or.inr (by dsimp only; omega)) _).setCell (Or.inr (by dsimp only; omega)) _).setCell (Or.inr (by dsimp only; omega)) _)⟩

theorem dom_6 (p : Nat) (a b cc : Int) (s t : ByteArray) (c z : Int) (w : World) (ha : I64 a) (hq : Cm w p c z) (hc : Sq c) (hz : Sq z) :
    Calls Tryd.prog 38 #[.pointer (some ⟨p, 0, none⟩), opV 6 a b cc s t] w fun e w' => e = .returned (ansV (shiftO a b).e (shiftO a b).n 0 ⟨#[]⟩) ∧ Cm w' p c z ∧ Chg (· = p) w w' := by
  unfold opV
  have hp := hq.lt
  obtain ⟨T1, T2, T3⟩ := three (T := 39) w (.cells #[.int .i64 6, .int .i64 a, .int .i64 b, .int .i64 cc, .string s, .string t] 42) [.int .i64 0, .int .i64 0, .int .i64 0, .string ⟨#[]⟩] [.int .i64 0, .int .i64 0, .int .i64 0, .string ⟨#[]⟩]
  go_enter Tryd.func38, Tryd.ntmps38
  go_wp2_with fail
  refine (shiftm_o p a b c z _ ha (((hq.alloc _).alloc _).alloc _)).mono ?_
  rintro e w1 ⟨rfl, q1, c1⟩
  have K1 := T1.kept c1 (by omega)
  have K2 := T2.kept c1 (by omega)
  have f0 := K1.frozen 0
  have u0 : w1.cell? ⟨w.heap.size + 1, 0, none⟩ = some (.int .i64 0) := K1.cell 0
  have g0 := K2.frozen 0
  have v0 : w1.cell? ⟨w.heap.size + 1 + 1, 0, none⟩ = some (.int .i64 0) := K2.cell 0
  have f1 := K1.frozen 1
  have u1 : w1.cell? ⟨w.heap.size + 1, 1, none⟩ = some (.int .i64 0) := K1.cell 1
  have g1 := K2.frozen 1
  have v1 : w1.cell? ⟨w.heap.size + 1 + 1, 1, none⟩ = some (.int .i64 0) := K2.cell 1
  have f2 := K1.frozen 2
  have u2 : w1.cell? ⟨w.heap.size + 1, 2, none⟩ = some (.int .i64 0) := K1.cell 2
  have g2 := K2.frozen 2
  have v2 : w1.cell? ⟨w.heap.size + 1 + 1, 2, none⟩ = some (.int .i64 0) := K2.cell 2
  have f3 := K1.frozen 3
  have u3 : w1.cell? ⟨w.heap.size + 1, 3, none⟩ = some (.string ⟨#[]⟩) := K1.cell 3
  have g3 := K2.frozen 3
  have v3 : w1.cell? ⟨w.heap.size + 1 + 1, 3, none⟩ = some (.string ⟨#[]⟩) := K2.cell 3
  have C : Hid (Chg (· = p) w w1) := (T3.mono (by intro _ _ h; exact h.elim)).trans c1
  clear T1 T2 T3 K1 K2 c1
  go_wp2
  refine bodyPost_ret (by simp [results, Tryd.results38, go_sem, u0, u1, u2, u3]; try rfl) rfl ?_
  exact ⟨rfl, ((((((q1.setOther (by dsimp only; omega) _).setOther (by dsimp only; omega) _).setOther (by dsimp only; omega) _).setOther (by dsimp only; omega) _).setOther (by dsimp only; omega) _).setOther (by dsimp only; omega) _), ((((((C.out.setCell (Or.inr (by dsimp only; omega)) _).setCell (Or.inr (by dsimp only; omega)) _).setCell (Or.inr (by dsimp only; omega)) _).setCell (Or.inr (by dsimp only; omega)) _).setCell (Or.inr (by dsimp only; omega)) _).setCell (Or.inr (by dsimp only; omega)) _)⟩

theorem dom_9 (p : Nat) (a b cc : Int) (s t : ByteArray) (c z : Int) (w : World) (hq : Cm w p c z) (hc : Sq c) (hz : Sq z) :
    Calls Tryd.prog 38 #[.pointer (some ⟨p, 0, none⟩), opV 9 a b cc s t] w fun e w' => e = .returned (ansV 0 c 0 ⟨#[]⟩) ∧ Cm w' p c z ∧ Chg (· = p) w w' := by
  unfold opV
  have hp := hq.lt
  obtain ⟨T1, T2, T3⟩ := three (T := 39) w (.cells #[.int .i64 9, .int .i64 a, .int .i64 b, .int .i64 cc, .string s, .string t] 42) [.int .i64 0, .int .i64 0, .int .i64 0, .string ⟨#[]⟩] [.int .i64 0, .int .i64 0, .int .i64 0, .string ⟨#[]⟩]
  go_enter Tryd.func38, Tryd.ntmps38
  go_wp2_with fail
  refine (clipsm_any p c z _ (((hq.alloc _).alloc _).alloc _)).mono ?_
  rintro e w1 ⟨rfl, q1, c1⟩
  have K1 := T1.kept c1 (by omega)
  have K2 := T2.kept c1 (by omega)
  have f0 := K1.frozen 0
  have u0 : w1.cell? ⟨w.heap.size + 1, 0, none⟩ = some (.int .i64 0) := K1.cell 0
  have g0 := K2.frozen 0
  have v0 : w1.cell? ⟨w.heap.size + 1 + 1, 0, none⟩ = some (.int .i64 0) := K2.cell 0
  have f1 := K1.frozen 1
  have u1 : w1.cell? ⟨w.heap.size + 1, 1, none⟩ = some (.int .i64 0) := K1.cell 1
  have g1 := K2.frozen 1
  have v1 : w1.cell? ⟨w.heap.size + 1 + 1, 1, none⟩ = some (.int .i64 0) := K2.cell 1
  have f2 := K1.frozen 2
  have u2 : w1.cell? ⟨w.heap.size + 1, 2, none⟩ = some (.int .i64 0) := K1.cell 2
  have g2 := K2.frozen 2
  have v2 : w1.cell? ⟨w.heap.size + 1 + 1, 2, none⟩ = some (.int .i64 0) := K2.cell 2
  have f3 := K1.frozen 3
  have u3 : w1.cell? ⟨w.heap.size + 1, 3, none⟩ = some (.string ⟨#[]⟩) := K1.cell 3
  have g3 := K2.frozen 3
  have v3 : w1.cell? ⟨w.heap.size + 1 + 1, 3, none⟩ = some (.string ⟨#[]⟩) := K2.cell 3
  have C : Hid (Chg (· = p) w w1) := (T3.mono (by intro _ _ h; exact h.elim)).trans c1
  clear T1 T2 T3 K1 K2 c1
  go_wp2
  refine bodyPost_ret (by simp [results, Tryd.results38, go_sem, u0, u1, u2, u3]; try rfl) rfl ?_
  exact ⟨rfl, (((((q1.setOther (by dsimp only; omega) _).setOther (by dsimp only; omega) _).setOther (by dsimp only; omega) _).setOther (by dsimp only; omega) _).setOther (by dsimp only; omega) _), (((((C.out.setCell (Or.inr (by dsimp only; omega)) _).setCell (Or.inr (by dsimp only; omega)) _).setCell (Or.inr (by dsimp only; omega)) _).setCell (Or.inr (by dsimp only; omega)) _).setCell (Or.inr (by dsimp only; omega)) _)⟩

theorem dom_10 (p : Nat) (a b cc : Int) (s t : ByteArray) (c z : Int) (w : World) (hq : Cm w p c z) (hc : Sq c) (hz : Sq z) :
    Calls Tryd.prog 38 #[.pointer (some ⟨p, 0, none⟩), opV 10 a b cc s t] w fun e w' => e = .returned (ansV 0 z 0 ⟨#[]⟩) ∧ Cm w' p c z ∧ Chg (· = p) w w' := by
  unfold opV
  have hp := hq.lt
  obtain ⟨T1, T2, T3⟩ := three (T := 39) w (.cells #[.int .i64 10, .int .i64 a, .int .i64 b, .int .i64 cc, .string s, .string t] 42) [.int .i64 0, .int .i64 0, .int .i64 0, .string ⟨#[]⟩] [.int .i64 0, .int .i64 0, .int .i64 0, .string ⟨#[]⟩]
  go_enter Tryd.func38, Tryd.ntmps38
  go_wp2_with fail
  refine (nansm_any p c z _ (((hq.alloc _).alloc _).alloc _)).mono ?_
  rintro e w1 ⟨rfl, q1, c1⟩
  have K1 := T1.kept c1 (by omega)
  have K2 := T2.kept c1 (by omega)
  have f0 := K1.frozen 0
  have u0 : w1.cell? ⟨w.heap.size + 1, 0, none⟩ = some (.int .i64 0) := K1.cell 0
  have g0 := K2.frozen 0
  have v0 : w1.cell? ⟨w.heap.size + 1 + 1, 0, none⟩ = some (.int .i64 0) := K2.cell 0
  have f1 := K1.frozen 1
  have u1 : w1.cell? ⟨w.heap.size + 1, 1, none⟩ = some (.int .i64 0) := K1.cell 1
  have g1 := K2.frozen 1
  have v1 : w1.cell? ⟨w.heap.size + 1 + 1, 1, none⟩ = some (.int .i64 0) := K2.cell 1
  have f2 := K1.frozen 2
  have u2 : w1.cell? ⟨w.heap.size + 1, 2, none⟩ = some (.int .i64 0) := K1.cell 2
  have g2 := K2.frozen 2
  have v2 : w1.cell? ⟨w.heap.size + 1 + 1, 2, none⟩ = some (.int .i64 0) := K2.cell 2
  have f3 := K1.frozen 3
  have u3 : w1.cell? ⟨w.heap.size + 1, 3, none⟩ = some (.string ⟨#[]⟩) := K1.cell 3
  have g3 := K2.frozen 3
  have v3 : w1.cell? ⟨w.heap.size + 1 + 1, 3, none⟩ = some (.string ⟨#[]⟩) := K2.cell 3
  have C : Hid (Chg (· = p) w w1) := (T3.mono (by intro _ _ h; exact h.elim)).trans c1
  clear T1 T2 T3 K1 K2 c1
  go_wp2
  refine bodyPost_ret (by simp [results, Tryd.results38, go_sem, u0, u1, u2, u3]; try rfl) rfl ?_
  exact ⟨rfl, (((((q1.setOther (by dsimp only; omega) _).setOther (by dsimp only; omega) _).setOther (by dsimp only; omega) _).setOther (by dsimp only; omega) _).setOther (by dsimp only; omega) _), (((((C.out.setCell (Or.inr (by dsimp only; omega)) _).setCell (Or.inr (by dsimp only; omega)) _).setCell (Or.inr (by dsimp only; omega)) _).setCell (Or.inr (by dsimp only; omega)) _).setCell (Or.inr (by dsimp only; omega)) _)⟩

theorem dom_11 (p : Nat) (a b cc : Int) (s t : ByteArray) (c z : Int) (w : World) (hq : Cm w p c z) (hc : Sq c) (hz : Sq z) :
    Calls Tryd.prog 38 #[.pointer (some ⟨p, 0, none⟩), opV 11 a b cc s t] w fun e w' => e = .returned (ansV 0 0 0 ⟨(showQ c z).toArray⟩) ∧ Cm w' p c z ∧ Chg (· = p) w w' := by
  unfold opV
  have hp := hq.lt
  obtain ⟨T1, T2, T3⟩ := three (T := 39) w (.cells #[.int .i64 11, .int .i64 a, .int .i64 b, .int .i64 cc, .string s, .string t] 42) [.int .i64 0, .int .i64 0, .int .i64 0, .string ⟨#[]⟩] [.int .i64 0, .int .i64 0, .int .i64 0, .string ⟨#[]⟩]
  go_enter Tryd.func38, Tryd.ntmps38
  go_wp2_with fail
  refine (showm_any p c z _ (((hq.alloc _).alloc _).alloc _) hc hz).mono ?_
  rintro e w1 ⟨rfl, q1, c1⟩
  have K1 := T1.kept c1 (by omega)
  have K2 := T2.kept c1 (by omega)
  have f0 := K1.frozen 0
  have u0 : w1.cell? ⟨w.heap.size + 1, 0, none⟩ = some (.int .i64 0) := K1.cell 0
  have g0 := K2.frozen 0
  have v0 : w1.cell? ⟨w.heap.size + 1 + 1, 0, none⟩ = some (.int .i64 0) := K2.cell 0
  have f1 := K1.frozen 1
  have u1 : w1.cell? ⟨w.heap.size + 1, 1, none⟩ = some (.int .i64 0) := K1.cell 1
  have g1 := K2.frozen 1
  have v1 : w1.cell? ⟨w.heap.size + 1 + 1, 1, none⟩ = some (.int .i64 0) := K2.cell 1
  have f2 := K1.frozen 2
  have u2 : w1.cell? ⟨w.heap.size + 1, 2, none⟩ = some (.int .i64 0) := K1.cell 2
  have g2 := K2.frozen 2
  have v2 : w1.cell? ⟨w.heap.size + 1 + 1, 2, none⟩ = some (.int .i64 0) := K2.cell 2
  have f3 := K1.frozen 3
  have u3 : w1.cell? ⟨w.heap.size + 1, 3, none⟩ = some (.string ⟨#[]⟩) := K1.cell 3
  have g3 := K2.frozen 3
  have v3 : w1.cell? ⟨w.heap.size + 1 + 1, 3, none⟩ = some (.string ⟨#[]⟩) := K2.cell 3
  have C : Hid (Chg (· = p) w w1) := (T3.mono (by intro _ _ h; exact h.elim)).trans c1
  clear T1 T2 T3 K1 K2 c1
  go_wp2
  refine bodyPost_ret (by simp [results, Tryd.results38, go_sem, u0, u1, u2, u3]; try rfl) rfl ?_
  exact ⟨rfl, (((((q1.setOther (by dsimp only; omega) _).setOther (by dsimp only; omega) _).setOther (by dsimp only; omega) _).setOther (by dsimp only; omega) _).setOther (by dsimp only; omega) _), (((((C.out.setCell (Or.inr (by dsimp only; omega)) _).setCell (Or.inr (by dsimp only; omega)) _).setCell (Or.inr (by dsimp only; omega)) _).setCell (Or.inr (by dsimp only; omega)) _).setCell (Or.inr (by dsimp only; omega)) _)⟩

theorem dom_12 (p : Nat) (a b cc : Int) (s t : ByteArray) (c z : Int) (w : World) (hq : Cm w p c z) (hc : Sq c) (hz : Sq z) :
    Calls Tryd.prog 38 #[.pointer (some ⟨p, 0, none⟩), opV 12 a b cc s t] w fun e w' => e = .returned (ansV 0 1 0 ⟨#[]⟩) ∧ Cm w' p c z ∧ Chg (· = p) w w' := by
  unfold opV
  have hp := hq.lt
  obtain ⟨T1, T2, T3⟩ := three (T := 39) w (.cells #[.int .i64 12, .int .i64 a, .int .i64 b, .int .i64 cc, .string s, .string t] 42) [.int .i64 0, .int .i64 0, .int .i64 0, .string ⟨#[]⟩] [.int .i64 0, .int .i64 0, .int .i64 0, .string ⟨#[]⟩]
  go_enter Tryd.func38, Tryd.ntmps38
  go_wp2_with fail
  refine (checkm_any p c z _ (((hq.alloc _).alloc _).alloc _) hc hz).mono ?_
  rintro e w1 ⟨rfl, q1, c1⟩
  have K1 := T1.kept c1 (by omega)
  have K2 := T2.kept c1 (by omega)
  have f0 := K1.frozen 0
  have u0 : w1.cell? ⟨w.heap.size + 1, 0, none⟩ = some (.int .i64 0) := K1.cell 0
  have g0 := K2.frozen 0
  have v0 : w1.cell? ⟨w.heap.size + 1 + 1, 0, none⟩ = some (.int .i64 0) := K2.cell 0
  have f1 := K1.frozen 1
  have u1 : w1.cell? ⟨w.heap.size + 1, 1, none⟩ = some (.int .i64 0) := K1.cell 1
  have g1 := K2.frozen 1
  have v1 : w1.cell? ⟨w.heap.size + 1 + 1, 1, none⟩ = some (.int .i64 0) := K2.cell 1
  have f2 := K1.frozen 2
  have u2 : w1.cell? ⟨w.heap.size + 1, 2, none⟩ = some (.int .i64 0) := K1.cell 2
  have g2 := K2.frozen 2
  have v2 : w1.cell? ⟨w.heap.size + 1 + 1, 2, none⟩ = some (.int .i64 0) := K2.cell 2
  have f3 := K1.frozen 3
  have u3 : w1.cell? ⟨w.heap.size + 1, 3, none⟩ = some (.string ⟨#[]⟩) := K1.cell 3
  have g3 := K2.frozen 3
  have v3 : w1.cell? ⟨w.heap.size + 1 + 1, 3, none⟩ = some (.string ⟨#[]⟩) := K2.cell 3
  have C : Hid (Chg (· = p) w w1) := (T3.mono (by intro _ _ h; exact h.elim)).trans c1
  clear T1 T2 T3 K1 K2 c1
  go_wp2
  refine bodyPost_ret (by simp [results, Tryd.results38, go_sem, u0, u1, u2, u3]; try rfl) rfl ?_
  exact ⟨rfl, (((((q1.setOther (by dsimp only; omega) _).setOther (by dsimp only; omega) _).setOther (by dsimp only; omega) _).setOther (by dsimp only; omega) _).setOther (by dsimp only; omega) _), (((((C.out.setCell (Or.inr (by dsimp only; omega)) _).setCell (Or.inr (by dsimp only; omega)) _).setCell (Or.inr (by dsimp only; omega)) _).setCell (Or.inr (by dsimp only; omega)) _).setCell (Or.inr (by dsimp only; omega)) _)⟩

theorem dom_0 (p : Nat) (kd : Int) (a b cc : Int) (s t : ByteArray) (c z : Int) (w : World) (h1 : kd ≠ 1) (h2 : kd ≠ 2) (h3 : kd ≠ 3) (h4 : kd ≠ 4) (h5 : kd ≠ 5) (h6 : kd ≠ 6) (h9 : kd ≠ 9) (h10 : kd ≠ 10) (h11 : kd ≠ 11) (h12 : kd ≠ 12) (hq : Cm w p c z) (hc : Sq c) (hz : Sq z) :
    Calls Tryd.prog 38 #[.pointer (some ⟨p, 0, none⟩), opV kd a b cc s t] w fun e w' => e = .returned (ansV 0 0 0 ⟨#[]⟩) ∧ Cm w' p c z ∧ Chg (· = p) w w' := by
  unfold opV
  have hp := hq.lt
  obtain ⟨T1, T2, T3⟩ := three (T := 39) w (.cells #[.int .i64 kd, .int .i64 a, .int .i64 b, .int .i64 cc, .string s, .string t] 42) [.int .i64 0, .int .i64 0, .int .i64 0, .string ⟨#[]⟩] [.int .i64 0, .int .i64 0, .int .i64 0, .string ⟨#[]⟩]
  have k1 : (kd == 1) = false := by simpa using h1
  have k2 : (kd == 2) = false := by simpa using h2
  have k3 : (kd == 3) = false := by simpa using h3
  have k4 : (kd == 4) = false := by simpa using h4
  have k5 : (kd == 5) = false := by simpa using h5
  have k6 : (kd == 6) = false := by simpa using h6
  have k9 : (kd == 9) = false := by simpa using h9
  have k10 : (kd == 10) = false := by simpa using h10
  have k11 : (kd == 11) = false := by simpa using h11
  have k12 : (kd == 12) = false := by simpa using h12
  clear h1 h2 h3 h4 h5 h6 h9 h10 h11 h12
  have q3 := (((hq.alloc (.cells #[.int .i64 kd, .int .i64 a, .int .i64 b, .int .i64 cc, .string s, .string t] 42)).alloc (.cells #[.int .i64 0, .int .i64 0, .int .i64 0, .string ⟨#[]⟩] 39)).alloc (.cells #[.int .i64 0, .int .i64 0, .int .i64 0, .string ⟨#[]⟩] 39))
  have Q3 : Hid _ := q3
  have C3 : Hid _ := T3.mono (S' := (· = p)) (by intro _ _ h; exact h.elim)
  clear T1 T2 T3 q3
  go_enter Tryd.func38, Tryd.ntmps38
  go_wp2
  refine bodyPost_ret (by simp [results, Tryd.results38, go_sem]; try rfl) rfl ?_
  exact ⟨rfl, Q3.out, C3.out⟩

theorem dom_any (p : Nat) (kd a b cc : Int) (s t : ByteArray) (c z : Int) (w : World) (ha : I64 a) (hq : Cm w p c z) (hc : Sq c) (hz : Sq z) :
    Calls Tryd.prog 38 #[.pointer (some ⟨p, 0, none⟩), opV kd a b cc s t] w fun e w' => e = .returned (ansV (stepO kd a b c z).e (stepO kd a b c z).n (stepO kd a b c z).k (stepS kd c z)) ∧ Cm w' p (c + (stepO kd a b c z).dc) (z + (stepO kd a b c z).dz) ∧ Chg (· = p) w w' := by
  by_cases h1 : kd = 1
  · subst h1; exact (dom_1 p a b cc s t c z w ha hq hc hz).mono fun e w' ⟨he, hw⟩ => ⟨by rw [he, show stepO 1 a b c z = r32O a b from rfl, r32O_k]; rfl, hw⟩
  by_cases h2 : kd = 2
  · subst h2; exact (dom_2 p a b cc s t c z w ha hq hc hz).mono fun e w' ⟨he, hw⟩ => ⟨by rw [he, show stepO 2 a b c z = r16O a b from rfl, r16O_k]; rfl, hw⟩
  by_cases h3 : kd = 3
  · subst h3; exact (dom_3 p a b cc s t c z w ha hq hc hz).mono fun e w' ⟨he, hw⟩ => ⟨by rw [he, show stepO 3 a b c z = narrowO a from rfl, narrowO_k]; rfl, hw⟩
  by_cases h4 : kd = 4
  · subst h4; exact (dom_4 p a b cc s t c z w hq hc hz).mono fun e w' ⟨he, hw⟩ => ⟨by rw [he, show stepO 4 a b c z = widenO a from rfl, widenO_k]; rfl, hw⟩
  by_cases h5 : kd = 5
  · subst h5; exact (dom_5 p a b cc s t c z w hq hc hz).mono fun e w' ⟨he, hw⟩ => ⟨by rw [he]; rfl, by rw [show stepO 5 a b c z = scaleO a b from rfl, (scaleO_d a b).1, (scaleO_d a b).2, Int.add_zero, Int.add_zero]; exact hw⟩
  by_cases h6 : kd = 6
  · subst h6; exact (dom_6 p a b cc s t c z w ha hq hc hz).mono fun e w' ⟨he, hw⟩ => ⟨by rw [he, show stepO 6 a b c z = shiftO a b from rfl, (shiftO_d a b).2.2]; rfl, by rw [show stepO 6 a b c z = shiftO a b from rfl, (shiftO_d a b).1, (shiftO_d a b).2.1, Int.add_zero, Int.add_zero]; exact hw⟩
  by_cases h9 : kd = 9
  · subst h9; exact (dom_9 p a b cc s t c z w hq hc hz).mono fun e w' ⟨he, hw⟩ => ⟨he, by rw [show stepO 9 a b c z = ⟨0, c, 0, 0, 0⟩ from rfl]; simpa using hw⟩
  by_cases h10 : kd = 10
  · subst h10; exact (dom_10 p a b cc s t c z w hq hc hz).mono fun e w' ⟨he, hw⟩ => ⟨he, by rw [show stepO 10 a b c z = ⟨0, z, 0, 0, 0⟩ from rfl]; simpa using hw⟩
  by_cases h11 : kd = 11
  · subst h11; exact (dom_11 p a b cc s t c z w hq hc hz).mono fun e w' ⟨he, hw⟩ => ⟨he, by rw [show stepO 11 a b c z = ⟨0, 0, 0, 0, 0⟩ from rfl]; simpa using hw⟩
  by_cases h12 : kd = 12
  · subst h12; exact (dom_12 p a b cc s t c z w hq hc hz).mono fun e w' ⟨he, hw⟩ => ⟨he, by rw [show stepO 12 a b c z = ⟨0, 1, 0, 0, 0⟩ from rfl]; simpa using hw⟩
  have e0 : stepO kd a b c z = ⟨0, 0, 0, 0, 0⟩ := by unfold stepO; rw [if_neg h1, if_neg h2, if_neg h3, if_neg h4, if_neg h5, if_neg h6, if_neg h9, if_neg h10, if_neg h12]
  have e1 : stepS kd c z = ⟨#[]⟩ := by unfold stepS; rw [if_neg h11]
  exact (dom_0 p kd a b cc s t c z w h1 h2 h3 h4 h5 h6 h9 h10 h11 h12 hq hc hz).mono fun e w' ⟨he, hw⟩ => ⟨by rw [he, e0, e1], by rw [e0]; simpa using hw⟩
end Go.Proofs.Qxb6500378aDoor

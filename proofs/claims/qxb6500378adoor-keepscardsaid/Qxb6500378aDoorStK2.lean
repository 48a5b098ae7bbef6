/- kept: true behind the steps 1 .. 6 (written by tools/genkept2.py). -/
import Derived.Test.Qxb6500378aDoorStK
namespace Go.Proofs.Qxb6500378aDoor
set_option linter.unusedVariables false
set_option linter.unusedSimpArgs false
set_option maxHeartbeats 4000000
set_option maxRecDepth 100000
open Go.RowKit Go.Qu Ieee

theorem chg_fresh {w w2 w3 : World} {q : Nat} (h : Chg (fun _ => False) w w2) (k : Chg (· = q) w2 w3) (hq : w.heap.size ≤ q) : Chg (fun _ => False) w w3 := by
  have h1 : Chg (w.heap.size ≤ ·) w w2 := h.nil
  have h2 : Chg (w.heap.size ≤ ·) w2 w3 := k.at hq
  exact (h1.trans h2).mono (fun k hk e => by omega)

theorem kept_1 (p : Nat) (a b cc : Int) (s t : ByteArray) (c z dc : Int) (w : World) (hq : Cv w p (c + dc) z) (he : owesI 1 a b = 0) (c0 : 0 ≤ c) (c1 : c ≤ 1152921504606846976) (z0 : 0 ≤ z) (z1 : z ≤ 1152921504606846976) (d0 : 0 ≤ dc) (d1 : dc ≤ 1) (n : Int) (n1 : -2147483648 ≤ n) (n2 : n ≤ 2147483647) (hd : dc = 1 → n = -2147483648 ∨ n = 2147483647) (ha : I64 a) (hn : ¬ 9218868437227405312 < mg a) :
    Calls Tryd.prog 35 #[.pointer (some ⟨p, 0, none⟩), opV 1 a b cc s t, ansV 0 n 0 ⟨#[]⟩, .int .i64 c, .int .i64 z] w fun e w' => e = .returned (.bool true) ∧ Chg (fun _ => False) w w' := by
  have HD : Hid _ := hd
  have HA : Hid (I64 a ∧ ¬ 9218868437227405312 < mg a) := ⟨ha, hn⟩
  have m1 : ¬ n < -2147483648 := by omega
  have m2 : ¬ 2147483647 < n := by omega
  clear hd ha hn
  obtain ⟨F, C⟩ := two hq 1 a b cc s t 0 n 0 ⟨#[]⟩
  unfold ansV
  have OW := owes_any 1 a b cc s t
  unfold opV at OW ⊢
  have HO : Hid _ := OW
  clear OW
  go_enter Tryd.func35, Tryd.ntmps35
  go_wp2
  generalize ((w.alloc (.cells #[.int .i64 1, .int .i64 a, .int .i64 b, .int .i64 cc, .string s, .string t] 42)).alloc (.cells #[.int .i64 0, .int .i64 n, .int .i64 0, .string ⟨#[]⟩] 39)) = W at F C ⊢
  have HF : Hid _ := F
  have HC : Hid _ := C
  have o0 : W.cell? ⟨w.heap.size, 0, none⟩ = some (.int .i64 1) := F.o.cell 0
  have o1 : W.cell? ⟨w.heap.size, 1, none⟩ = some (.int .i64 a) := F.o.cell 1
  have o2 : W.cell? ⟨w.heap.size, 2, none⟩ = some (.int .i64 b) := F.o.cell 2
  have o3 : W.cell? ⟨w.heap.size, 3, none⟩ = some (.int .i64 cc) := F.o.cell 3
  have o4 : W.cell? ⟨w.heap.size, 4, none⟩ = some (.string s) := F.o.cell 4
  have o5 : W.cell? ⟨w.heap.size, 5, none⟩ = some (.string t) := F.o.cell 5
  have r0 : W.cell? ⟨w.heap.size + 1, 0, none⟩ = some (.int .i64 0) := F.r.cell 0
  have HE : Hid _ := he
  clear F C he hq
  go_region_held3 (fun w' => w'.cell? ⟨w.heap.size, 0, none⟩ = some (.int .i64 1) ∧ w'.cell? ⟨w.heap.size, 1, none⟩ = some (.int .i64 a) ∧ w'.cell? ⟨w.heap.size, 2, none⟩ = some (.int .i64 b) ∧ w'.cell? ⟨w.heap.size, 3, none⟩ = some (.int .i64 cc) ∧ w'.cell? ⟨w.heap.size, 4, none⟩ = some (.string s) ∧ w'.cell? ⟨w.heap.size, 5, none⟩ = some (.string t) ∧ w'.cell? ⟨w.heap.size + 1, 0, none⟩ = some (.int .i64 0))
    (first | (simp [go_sem, o0, o1, o2, o3, o4, o5, r0]; done) | exact ⟨by assumption, by assumption, by assumption, by assumption, by assumption, by assumption, by assumption⟩)
    (first | (go_at_call 57; refine (HO.out _).mono ?_; rintro e' w1 ⟨rfl, k1⟩; rw [HE.out]; have F1 : Hid _ := HF.out.drew.kept k1; have C1 : Hid _ := (HC.out.drew).trans k1; have i0 : w1.cell? ⟨w.heap.size, 0, none⟩ = some (.int .i64 1) := F1.out.o.cell 0; have i1 : w1.cell? ⟨w.heap.size, 1, none⟩ = some (.int .i64 a) := F1.out.o.cell 1; have i2 : w1.cell? ⟨w.heap.size, 2, none⟩ = some (.int .i64 b) := F1.out.o.cell 2; have i3 : w1.cell? ⟨w.heap.size, 3, none⟩ = some (.int .i64 cc) := F1.out.o.cell 3; have i4 : w1.cell? ⟨w.heap.size, 4, none⟩ = some (.string s) := F1.out.o.cell 4; have i5 : w1.cell? ⟨w.heap.size, 5, none⟩ = some (.string t) := F1.out.o.cell 5; have j0 : w1.cell? ⟨w.heap.size + 1, 0, none⟩ = some (.int .i64 0) := F1.out.r.cell 0; clear k1))
  have j1 : w1.cell? ⟨w.heap.size + 1, 1, none⟩ = some (.int .i64 n) := F1.out.r.cell 1
  have j2 : w1.cell? ⟨w.heap.size + 1, 2, none⟩ = some (.int .i64 0) := F1.out.r.cell 2
  have j3 : w1.cell? ⟨w.heap.size + 1, 3, none⟩ = some (.string ⟨#[]⟩) := F1.out.r.cell 3
  clear o0 o1 o2 o3 o4 o5 r0 HO HF HC HE
  go_wp2_with (first
    | (go_at_call_of 26 (Value.pointer (some ⟨p, 0, none⟩)); refine (clips_any p (c + dc) (z) _ F1.out.q).mono ?_; rintro e' w5 ⟨rfl, h2⟩; rw [h2]; clear h2 w5)
    | (go_at_call 33; refine (nans_any p (c + dc) (z) _ F1.out.q).mono ?_; rintro e' w5 ⟨rfl, h2⟩; rw [h2]; clear h2 w5)
    | (go_at_call 58; refine (clone_any p (c + dc) z _ F1.out.q).mono ?_; rintro e' w2 ⟨rfl, q2, s2, k2⟩; have C2 : Hid (Chg (fun _ => False) w w2) := C1.out.trans k2; have Q2 : Hid (Cv w2 w1.heap.size (c + dc) z) := q2; have F2 : Hid _ := F1.out.kept k2; have x1 : w2.cell? ⟨w.heap.size, 1, none⟩ = some (.int .i64 a) := F2.out.o.cell 1; have x2 : w2.cell? ⟨w.heap.size, 2, none⟩ = some (.int .i64 b) := F2.out.o.cell 2; have y1 : w2.cell? ⟨w.heap.size + 1, 1, none⟩ = some (.int .i64 n) := F2.out.r.cell 1; have B2 : Hid (w.heap.size ≤ w1.heap.size) := C1.out.size; clear k2 q2 s2)
    | (go_at_call 59; refine (between_true w1.heap.size a (c + dc) z _ HA.out.1 HA.out.2 Q2.out (by omega) (by omega) ⟨by omega, by omega⟩).mono ?_; rintro e' w3 ⟨rfl, k3⟩; have C3 : Hid (Chg (fun _ => False) w w3) := chg_fresh C2.out k3 B2.out; clear k3))
  all_goals (try go_ret)
  all_goals (first
    | exact ⟨rfl, C3.out⟩
    | (exfalso; have hD := HD.out; simp only [bne_iff_ne, ne_eq, bne_eq_false_iff_eq, beq_iff_eq, beq_eq_false_iff_ne, Bool.and_eq_true, Bool.or_eq_true, decide_eq_true_eq, decide_eq_false_iff_not] at *; omega)
    | (refine ⟨?_, C3.out⟩; show Ending.returned (Value.bool _) = Ending.returned (Value.bool true); have hD := HD.out; simp only [Ending.returned.injEq, Value.bool.injEq, bne_iff_ne, ne_eq, bne_eq_false_iff_eq, beq_iff_eq, beq_eq_false_iff_ne, Bool.and_eq_true, Bool.or_eq_true, decide_eq_true_eq, decide_eq_false_iff_not] at *; omega))

theorem kept_2 (p : Nat) (a b cc : Int) (s t : ByteArray) (c z dc : Int) (w : World) (hq : Cv w p (c + dc) z) (he : owesI 2 a b = 0) (c0 : 0 ≤ c) (c1 : c ≤ 1152921504606846976) (z0 : 0 ≤ z) (z1 : z ≤ 1152921504606846976) (d0 : 0 ≤ dc) (d1 : dc ≤ 1) (n x : Int) (d : Bool) (hx : roundI a b (-2147483648) 2147483647 = (x, d)) (hd : dc = 1 → n = -32768 ∨ n = 32767) (hf : dc = 0 → x = n ∧ -32768 ≤ n ∧ n ≤ 32767) (ha : I64 a) (hn : ¬ 9218868437227405312 < mg a) (m0 : 0 ≤ b) (m3 : b ≤ 3) :
    Calls Tryd.prog 35 #[.pointer (some ⟨p, 0, none⟩), opV 2 a b cc s t, ansV 0 n 0 ⟨#[]⟩, .int .i64 c, .int .i64 z] w fun e w' => e = .returned (.bool true) ∧ Chg (fun _ => False) w w' := by
  have HD : Hid (_ ∧ _) := ⟨hd, hf⟩
  have HA : Hid (I64 a ∧ ¬ 9218868437227405312 < mg a ∧ _) := ⟨ha, hn, hx⟩
  clear hd hf ha hn hx
  obtain ⟨F, C⟩ := two hq 2 a b cc s t 0 n 0 ⟨#[]⟩
  unfold ansV
  have OW := owes_any 2 a b cc s t
  unfold opV at OW ⊢
  have HO : Hid _ := OW
  clear OW
  go_enter Tryd.func35, Tryd.ntmps35
  go_wp2
  generalize ((w.alloc (.cells #[.int .i64 2, .int .i64 a, .int .i64 b, .int .i64 cc, .string s, .string t] 42)).alloc (.cells #[.int .i64 0, .int .i64 n, .int .i64 0, .string ⟨#[]⟩] 39)) = W at F C ⊢
  have HF : Hid _ := F
  have HC : Hid _ := C
  have o0 : W.cell? ⟨w.heap.size, 0, none⟩ = some (.int .i64 2) := F.o.cell 0
  have o1 : W.cell? ⟨w.heap.size, 1, none⟩ = some (.int .i64 a) := F.o.cell 1
  have o2 : W.cell? ⟨w.heap.size, 2, none⟩ = some (.int .i64 b) := F.o.cell 2
  have o3 : W.cell? ⟨w.heap.size, 3, none⟩ = some (.int .i64 cc) := F.o.cell 3
  have o4 : W.cell? ⟨w.heap.size, 4, none⟩ = some (.string s) := F.o.cell 4
  have o5 : W.cell? ⟨w.heap.size, 5, none⟩ = some (.string t) := F.o.cell 5
  have r0 : W.cell? ⟨w.heap.size + 1, 0, none⟩ = some (.int .i64 0) := F.r.cell 0
  have HE : Hid _ := he
  clear F C he hq
  go_region_held3 (fun w' => w'.cell? ⟨w.heap.size, 0, none⟩ = some (.int .i64 2) ∧ w'.cell? ⟨w.heap.size, 1, none⟩ = some (.int .i64 a) ∧ w'.cell? ⟨w.heap.size, 2, none⟩ = some (.int .i64 b) ∧ w'.cell? ⟨w.heap.size, 3, none⟩ = some (.int .i64 cc) ∧ w'.cell? ⟨w.heap.size, 4, none⟩ = some (.string s) ∧ w'.cell? ⟨w.heap.size, 5, none⟩ = some (.string t) ∧ w'.cell? ⟨w.heap.size + 1, 0, none⟩ = some (.int .i64 0))
    (first | (simp [go_sem, o0, o1, o2, o3, o4, o5, r0]; done) | exact ⟨by assumption, by assumption, by assumption, by assumption, by assumption, by assumption, by assumption⟩)
    (first | (go_at_call 57; refine (HO.out _).mono ?_; rintro e' w1 ⟨rfl, k1⟩; rw [HE.out]; have F1 : Hid _ := HF.out.drew.kept k1; have C1 : Hid _ := (HC.out.drew).trans k1; have i0 : w1.cell? ⟨w.heap.size, 0, none⟩ = some (.int .i64 2) := F1.out.o.cell 0; have i1 : w1.cell? ⟨w.heap.size, 1, none⟩ = some (.int .i64 a) := F1.out.o.cell 1; have i2 : w1.cell? ⟨w.heap.size, 2, none⟩ = some (.int .i64 b) := F1.out.o.cell 2; have i3 : w1.cell? ⟨w.heap.size, 3, none⟩ = some (.int .i64 cc) := F1.out.o.cell 3; have i4 : w1.cell? ⟨w.heap.size, 4, none⟩ = some (.string s) := F1.out.o.cell 4; have i5 : w1.cell? ⟨w.heap.size, 5, none⟩ = some (.string t) := F1.out.o.cell 5; have j0 : w1.cell? ⟨w.heap.size + 1, 0, none⟩ = some (.int .i64 0) := F1.out.r.cell 0; clear k1))
  have j1 : w1.cell? ⟨w.heap.size + 1, 1, none⟩ = some (.int .i64 n) := F1.out.r.cell 1
  have j2 : w1.cell? ⟨w.heap.size + 1, 2, none⟩ = some (.int .i64 0) := F1.out.r.cell 2
  have j3 : w1.cell? ⟨w.heap.size + 1, 3, none⟩ = some (.string ⟨#[]⟩) := F1.out.r.cell 3
  clear o0 o1 o2 o3 o4 o5 r0 HO HF HC HE
  go_wp2_with (first
    | (go_at_call_of 26 (Value.pointer (some ⟨p, 0, none⟩)); refine (clips_any p (c + dc) (z) _ F1.out.q).mono ?_; rintro e' w5 ⟨rfl, h2⟩; rw [h2]; clear h2 w5)
    | (go_at_call 33; refine (nans_any p (c + dc) (z) _ F1.out.q).mono ?_; rintro e' w5 ⟨rfl, h2⟩; rw [h2]; clear h2 w5)
    | (go_at_call 58; refine (clone_any p (c + dc) z _ F1.out.q).mono ?_; rintro e' w2 ⟨rfl, q2, s2, k2⟩; have C2 : Hid (Chg (fun _ => False) w w2) := C1.out.trans k2; have Q2 : Hid (Cv w2 w1.heap.size (c + dc) z) := q2; have F2 : Hid _ := F1.out.kept k2; have x1 : w2.cell? ⟨w.heap.size, 1, none⟩ = some (.int .i64 a) := F2.out.o.cell 1; have x2 : w2.cell? ⟨w.heap.size, 2, none⟩ = some (.int .i64 b) := F2.out.o.cell 2; have y1 : w2.cell? ⟨w.heap.size + 1, 1, none⟩ = some (.int .i64 n) := F2.out.r.cell 1; have B2 : Hid (w.heap.size ≤ w1.heap.size) := C1.out.size; clear k2 q2 s2)
    | (go_at_call 22; refine (round32_x b m0 m3 w1.heap.size a (c + dc) z _ HA.out.1 HA.out.2.1 Q2.out ⟨by omega, by omega⟩ ⟨by omega, by omega⟩ HA.out.2.2).mono ?_; rintro e' w3 ⟨rfl, q3, k3⟩; have C3 : Hid (Chg (fun _ => False) w w3) := chg_fresh C2.out k3 B2.out; have F3 : Hid (Has 39 w3 (w.heap.size + 1) [.int .i64 0, .int .i64 n, .int .i64 0, .string ⟨#[]⟩]) := (F2.out.r.kept k3 (by have := B2.out; have := F1.out.r.lt; omega)); have v1 : w3.cell? ⟨w.heap.size + 1, 1, none⟩ = some (.int .i64 n) := Has.cell F3.out 1; clear k3 q3))
  all_goals (try go_ret)
  all_goals (first
    | exact ⟨rfl, (by first | exact C1.out | exact C3.out)⟩
    | (exfalso; have hD := HD.out; simp only [bne_iff_ne, ne_eq, bne_eq_false_iff_eq, beq_iff_eq, beq_eq_false_iff_ne, Bool.and_eq_true, Bool.or_eq_true, decide_eq_true_eq, decide_eq_false_iff_not] at *; omega)
    | (refine ⟨?_, (by first | exact C1.out | exact C3.out)⟩; show Ending.returned (Value.bool _) = Ending.returned (Value.bool true); have hD := HD.out; simp only [Ending.returned.injEq, Value.bool.injEq, bne_iff_ne, ne_eq, bne_eq_false_iff_eq, beq_iff_eq, beq_eq_false_iff_ne, Bool.and_eq_true, Bool.or_eq_true, decide_eq_true_eq, decide_eq_false_iff_not] at *; omega))

theorem kept_3 (p : Nat) (a b cc : Int) (s t : ByteArray) (c z dc : Int) (w : World) (hq : Cv w p (c + dc) z) (he : owesI 3 a b = 0) (c0 : 0 ≤ c) (c1 : c ≤ 1152921504606846976) (z0 : 0 ≤ z) (z1 : z ≤ 1152921504606846976) (d0 : 0 ≤ dc) (d1 : dc ≤ 1) (n W : Int) (hI : I64 W) (hw : widenO n = ⟨0, W, 0, 0, 0⟩) (hr : narrowO W = ⟨0, n, 0, 0, 0⟩) :
    Calls Tryd.prog 35 #[.pointer (some ⟨p, 0, none⟩), opV 3 a b cc s t, ansV 0 n 0 ⟨#[]⟩, .int .i64 c, .int .i64 z] w fun e w' => e = .returned (.bool true) ∧ Chg (fun _ => False) w w' := by
  have NR := fun q w hq => narrow_o q W (c + dc) z w hI hq ⟨by omega, by omega⟩ ⟨by omega, by omega⟩
  rw [hr] at NR
  have WR := fun q w hq => widen_o q n (c + dc) z w hq ⟨by omega, by omega⟩ ⟨by omega, by omega⟩
  rw [hw] at WR
  simp only [Int.add_zero] at NR WR
  have HN : Hid _ := NR
  have HW : Hid _ := WR
  clear hI hr hw NR WR
  obtain ⟨F, C⟩ := two hq 3 a b cc s t 0 n 0 ⟨#[]⟩
  unfold ansV
  have OW := owes_any 3 a b cc s t
  unfold opV at OW ⊢
  have HO : Hid _ := OW
  clear OW
  go_enter Tryd.func35, Tryd.ntmps35
  go_wp2
  generalize ((w.alloc (.cells #[.int .i64 3, .int .i64 a, .int .i64 b, .int .i64 cc, .string s, .string t] 42)).alloc (.cells #[.int .i64 0, .int .i64 n, .int .i64 0, .string ⟨#[]⟩] 39)) = W at F C ⊢
  have HF : Hid _ := F
  have HC : Hid _ := C
  have o0 : W.cell? ⟨w.heap.size, 0, none⟩ = some (.int .i64 3) := F.o.cell 0
  have o1 : W.cell? ⟨w.heap.size, 1, none⟩ = some (.int .i64 a) := F.o.cell 1
  have o2 : W.cell? ⟨w.heap.size, 2, none⟩ = some (.int .i64 b) := F.o.cell 2
  have o3 : W.cell? ⟨w.heap.size, 3, none⟩ = some (.int .i64 cc) := F.o.cell 3
  have o4 : W.cell? ⟨w.heap.size, 4, none⟩ = some (.string s) := F.o.cell 4
  have o5 : W.cell? ⟨w.heap.size, 5, none⟩ = some (.string t) := F.o.cell 5
  have r0 : W.cell? ⟨w.heap.size + 1, 0, none⟩ = some (.int .i64 0) := F.r.cell 0
  have HE : Hid _ := he
  clear F C he hq
  go_region_held3 (fun w' => w'.cell? ⟨w.heap.size, 0, none⟩ = some (.int .i64 3) ∧ w'.cell? ⟨w.heap.size, 1, none⟩ = some (.int .i64 a) ∧ w'.cell? ⟨w.heap.size, 2, none⟩ = some (.int .i64 b) ∧ w'.cell? ⟨w.heap.size, 3, none⟩ = some (.int .i64 cc) ∧ w'.cell? ⟨w.heap.size, 4, none⟩ = some (.string s) ∧ w'.cell? ⟨w.heap.size, 5, none⟩ = some (.string t) ∧ w'.cell? ⟨w.heap.size + 1, 0, none⟩ = some (.int .i64 0))
    (first | (simp [go_sem, o0, o1, o2, o3, o4, o5, r0]; done) | exact ⟨by assumption, by assumption, by assumption, by assumption, by assumption, by assumption, by assumption⟩)
    (first | (go_at_call 57; refine (HO.out _).mono ?_; rintro e' w1 ⟨rfl, k1⟩; rw [HE.out]; have F1 : Hid _ := HF.out.drew.kept k1; have C1 : Hid _ := (HC.out.drew).trans k1; have i0 : w1.cell? ⟨w.heap.size, 0, none⟩ = some (.int .i64 3) := F1.out.o.cell 0; have i1 : w1.cell? ⟨w.heap.size, 1, none⟩ = some (.int .i64 a) := F1.out.o.cell 1; have i2 : w1.cell? ⟨w.heap.size, 2, none⟩ = some (.int .i64 b) := F1.out.o.cell 2; have i3 : w1.cell? ⟨w.heap.size, 3, none⟩ = some (.int .i64 cc) := F1.out.o.cell 3; have i4 : w1.cell? ⟨w.heap.size, 4, none⟩ = some (.string s) := F1.out.o.cell 4; have i5 : w1.cell? ⟨w.heap.size, 5, none⟩ = some (.string t) := F1.out.o.cell 5; have j0 : w1.cell? ⟨w.heap.size + 1, 0, none⟩ = some (.int .i64 0) := F1.out.r.cell 0; clear k1))
  have j1 : w1.cell? ⟨w.heap.size + 1, 1, none⟩ = some (.int .i64 n) := F1.out.r.cell 1
  have j2 : w1.cell? ⟨w.heap.size + 1, 2, none⟩ = some (.int .i64 0) := F1.out.r.cell 2
  have j3 : w1.cell? ⟨w.heap.size + 1, 3, none⟩ = some (.string ⟨#[]⟩) := F1.out.r.cell 3
  clear o0 o1 o2 o3 o4 o5 r0 HO HF HC HE
  go_wp2_with (first
    | (go_at_call_of 26 (Value.pointer (some ⟨p, 0, none⟩)); refine (clips_any p (c + dc) (z) _ F1.out.q).mono ?_; rintro e' w5 ⟨rfl, h2⟩; rw [h2]; clear h2 w5)
    | (go_at_call 33; refine (nans_any p (c + dc) (z) _ F1.out.q).mono ?_; rintro e' w5 ⟨rfl, h2⟩; rw [h2]; clear h2 w5)
    | (go_at_call 58; refine (clone_any p (c + dc) z _ F1.out.q).mono ?_; rintro e' w2 ⟨rfl, q2, s2, k2⟩; have C2 : Hid (Chg (fun _ => False) w w2) := C1.out.trans k2; have Q2 : Hid (Cv w2 w1.heap.size (c + dc) z) := q2; have F2 : Hid _ := F1.out.kept k2; have x1 : w2.cell? ⟨w.heap.size, 1, none⟩ = some (.int .i64 a) := F2.out.o.cell 1; have x2 : w2.cell? ⟨w.heap.size, 2, none⟩ = some (.int .i64 b) := F2.out.o.cell 2; have y1 : w2.cell? ⟨w.heap.size + 1, 1, none⟩ = some (.int .i64 n) := F2.out.r.cell 1; have B2 : Hid (w.heap.size ≤ w1.heap.size) := C1.out.size; clear k2 q2 s2)
    | (go_at_call 27; refine (HW.out w1.heap.size _ Q2.out).mono ?_; rintro e' w3 ⟨rfl, q3, k3⟩; have C3 : Hid (Chg (fun _ => False) w w3) := chg_fresh C2.out k3 B2.out; have Q3 : Hid (Cv w3 w1.heap.size (c + dc) z) := q3; have F3 : Hid (Has 39 w3 (w.heap.size + 1) [.int .i64 0, .int .i64 n, .int .i64 0, .string ⟨#[]⟩]) := (F2.out.r.kept k3 (by have := B2.out; have := F1.out.r.lt; omega)); clear k3 q3)
    | (go_at_call 24; refine (HN.out w1.heap.size _ Q3.out).mono ?_; rintro e' w4 ⟨rfl, q4, k4⟩; have C4 : Hid (Chg (fun _ => False) w w4) := chg_fresh C3.out k4 B2.out; have F4 : Hid (Has 39 w4 (w.heap.size + 1) [.int .i64 0, .int .i64 n, .int .i64 0, .string ⟨#[]⟩]) := (Has.kept F3.out k4 (by have := B2.out; have := F1.out.r.lt; omega)); have v1 : w4.cell? ⟨w.heap.size + 1, 1, none⟩ = some (.int .i64 n) := Has.cell F4.out 1; clear k4 q4))
  all_goals (try go_ret)
  all_goals (first
    | exact ⟨rfl, C4.out⟩
    | (exfalso; skip; simp only [bne_iff_ne, ne_eq, bne_eq_false_iff_eq, beq_iff_eq, beq_eq_false_iff_ne, Bool.and_eq_true, Bool.or_eq_true, decide_eq_true_eq, decide_eq_false_iff_not] at *; omega)
    | (refine ⟨?_, C4.out⟩; show Ending.returned (Value.bool _) = Ending.returned (Value.bool true); skip; simp only [Ending.returned.injEq, Value.bool.injEq, bne_iff_ne, ne_eq, bne_eq_false_iff_eq, beq_iff_eq, beq_eq_false_iff_ne, Bool.and_eq_true, Bool.or_eq_true, decide_eq_true_eq, decide_eq_false_iff_not] at *; omega))

theorem kept_4 (p : Nat) (a b cc : Int) (s t : ByteArray) (c z : Int) (w : World) (hq : Cv w p (c) z) (he : owesI 4 a b = 0) (c0 : 0 ≤ c) (c1 : c ≤ 1152921504606846976) (z0 : 0 ≤ z) (z1 : z ≤ 1152921504606846976) (n r dd : Int) (hI : I64 n) (hr : narrowO n = ⟨0, r, 0, dd, 0⟩) (a0 : 0 ≤ a) (a1 : a ≤ 4294967295) (d0 : 0 ≤ dd) (d1 : dd ≤ 1) (g1 : a % 2147483648 = 2139095040 → r = a - 1 ∧ dd = 1) (g2 : a % 2147483648 ≠ 2139095040 → r = a ∧ dd = 0) :
    Calls Tryd.prog 35 #[.pointer (some ⟨p, 0, none⟩), opV 4 a b cc s t, ansV 0 n 0 ⟨#[]⟩, .int .i64 c, .int .i64 z] w fun e w' => e = .returned (.bool true) ∧ Chg (fun _ => False) w w' := by
  have HD : Hid (_ ∧ _) := ⟨g1, g2⟩
  have NR := fun q w hq => narrow_o q n c z w hI hq ⟨by omega, by omega⟩ ⟨by omega, by omega⟩
  rw [hr] at NR
  have HN : Hid _ := NR
  have m31 := and31 a
  clear g1 g2 hI hr NR
  obtain ⟨F, C⟩ := two hq 4 a b cc s t 0 n 0 ⟨#[]⟩
  unfold ansV
  have OW := owes_any 4 a b cc s t
  unfold opV at OW ⊢
  have HO : Hid _ := OW
  clear OW
  go_enter Tryd.func35, Tryd.ntmps35
  go_wp2
  generalize ((w.alloc (.cells #[.int .i64 4, .int .i64 a, .int .i64 b, .int .i64 cc, .string s, .string t] 42)).alloc (.cells #[.int .i64 0, .int .i64 n, .int .i64 0, .string ⟨#[]⟩] 39)) = W at F C ⊢
  have HF : Hid _ := F
  have HC : Hid _ := C
  have o0 : W.cell? ⟨w.heap.size, 0, none⟩ = some (.int .i64 4) := F.o.cell 0
  have o1 : W.cell? ⟨w.heap.size, 1, none⟩ = some (.int .i64 a) := F.o.cell 1
  have o2 : W.cell? ⟨w.heap.size, 2, none⟩ = some (.int .i64 b) := F.o.cell 2
  have o3 : W.cell? ⟨w.heap.size, 3, none⟩ = some (.int .i64 cc) := F.o.cell 3
  have o4 : W.cell? ⟨w.heap.size, 4, none⟩ = some (.string s) := F.o.cell 4
  have o5 : W.cell? ⟨w.heap.size, 5, none⟩ = some (.string t) := F.o.cell 5
  have r0 : W.cell? ⟨w.heap.size + 1, 0, none⟩ = some (.int .i64 0) := F.r.cell 0
  have HE : Hid _ := he
  clear F C he hq
  go_region_held3 (fun w' => w'.cell? ⟨w.heap.size, 0, none⟩ = some (.int .i64 4) ∧ w'.cell? ⟨w.heap.size, 1, none⟩ = some (.int .i64 a) ∧ w'.cell? ⟨w.heap.size, 2, none⟩ = some (.int .i64 b) ∧ w'.cell? ⟨w.heap.size, 3, none⟩ = some (.int .i64 cc) ∧ w'.cell? ⟨w.heap.size, 4, none⟩ = some (.string s) ∧ w'.cell? ⟨w.heap.size, 5, none⟩ = some (.string t) ∧ w'.cell? ⟨w.heap.size + 1, 0, none⟩ = some (.int .i64 0))
    (first | (simp [go_sem, o0, o1, o2, o3, o4, o5, r0]; done) | exact ⟨by assumption, by assumption, by assumption, by assumption, by assumption, by assumption, by assumption⟩)
    (first | (go_at_call 57; refine (HO.out _).mono ?_; rintro e' w1 ⟨rfl, k1⟩; rw [HE.out]; have F1 : Hid _ := HF.out.drew.kept k1; have C1 : Hid _ := (HC.out.drew).trans k1; have i0 : w1.cell? ⟨w.heap.size, 0, none⟩ = some (.int .i64 4) := F1.out.o.cell 0; have i1 : w1.cell? ⟨w.heap.size, 1, none⟩ = some (.int .i64 a) := F1.out.o.cell 1; have i2 : w1.cell? ⟨w.heap.size, 2, none⟩ = some (.int .i64 b) := F1.out.o.cell 2; have i3 : w1.cell? ⟨w.heap.size, 3, none⟩ = some (.int .i64 cc) := F1.out.o.cell 3; have i4 : w1.cell? ⟨w.heap.size, 4, none⟩ = some (.string s) := F1.out.o.cell 4; have i5 : w1.cell? ⟨w.heap.size, 5, none⟩ = some (.string t) := F1.out.o.cell 5; have j0 : w1.cell? ⟨w.heap.size + 1, 0, none⟩ = some (.int .i64 0) := F1.out.r.cell 0; clear k1))
  have j1 : w1.cell? ⟨w.heap.size + 1, 1, none⟩ = some (.int .i64 n) := F1.out.r.cell 1
  have j2 : w1.cell? ⟨w.heap.size + 1, 2, none⟩ = some (.int .i64 0) := F1.out.r.cell 2
  have j3 : w1.cell? ⟨w.heap.size + 1, 3, none⟩ = some (.string ⟨#[]⟩) := F1.out.r.cell 3
  clear o0 o1 o2 o3 o4 o5 r0 HO HF HC HE
  go_wp2_with (first
    | (go_at_call_of 26 (Value.pointer (some ⟨p, 0, none⟩)); refine (clips_any p (c) (z) _ F1.out.q).mono ?_; rintro e' w5 ⟨rfl, h2⟩; rw [h2]; clear h2 w5)
    | (go_at_call 33; refine (nans_any p (c) (z) _ F1.out.q).mono ?_; rintro e' w5 ⟨rfl, h2⟩; rw [h2]; clear h2 w5)
    | (go_at_call 58; refine (clone_any p (c) z _ F1.out.q).mono ?_; rintro e' w2 ⟨rfl, q2, s2, k2⟩; have C2 : Hid (Chg (fun _ => False) w w2) := C1.out.trans k2; have Q2 : Hid (Cv w2 w1.heap.size (c) z) := q2; have F2 : Hid _ := F1.out.kept k2; have x1 : w2.cell? ⟨w.heap.size, 1, none⟩ = some (.int .i64 a) := F2.out.o.cell 1; have x2 : w2.cell? ⟨w.heap.size, 2, none⟩ = some (.int .i64 b) := F2.out.o.cell 2; have y1 : w2.cell? ⟨w.heap.size + 1, 1, none⟩ = some (.int .i64 n) := F2.out.r.cell 1; have B2 : Hid (w.heap.size ≤ w1.heap.size) := C1.out.size; clear k2 q2 s2)
    | (go_at_call 24; refine (HN.out w1.heap.size _ Q2.out).mono ?_; rintro e' w3 ⟨rfl, q3, k3⟩; have C3 : Hid (Chg (fun _ => False) w w3) := chg_fresh C2.out k3 B2.out; have q3' : Cv w3 w1.heap.size (c + dd) z := (by simpa using q3); have Q3 : Hid (Cv w3 w1.heap.size (c + dd) z) := q3'; clear q3'; have F3 : Hid (Has 42 w3 w.heap.size [.int .i64 4, .int .i64 a, .int .i64 b, .int .i64 cc, .string s, .string t]) := (F2.out.o.kept k3 (by have := B2.out; have := F1.out.o.lt; omega)); have v1 : w3.cell? ⟨w.heap.size, 1, none⟩ = some (.int .i64 a) := Has.cell F3.out 1; clear k3 q3)
    | (go_at_call 26; refine (clips_any w1.heap.size (c + dd) z _ Q3.out).mono ?_; rintro e' w5 ⟨rfl, h2⟩; rw [h2]; clear h2 w5))
  all_goals (try go_ret)
  all_goals (first
    | exact ⟨rfl, C3.out⟩
    | (exfalso; have hD := HD.out; simp only [bne_iff_ne, ne_eq, bne_eq_false_iff_eq, beq_iff_eq, beq_eq_false_iff_ne, Bool.and_eq_true, Bool.or_eq_true, decide_eq_true_eq, decide_eq_false_iff_not] at *; omega)
    | (refine ⟨?_, C3.out⟩; show Ending.returned (Value.bool _) = Ending.returned (Value.bool true); have hD := HD.out; simp only [Ending.returned.injEq, Value.bool.injEq, bne_iff_ne, ne_eq, bne_eq_false_iff_eq, beq_iff_eq, beq_eq_false_iff_ne, Bool.and_eq_true, Bool.or_eq_true, decide_eq_true_eq, decide_eq_false_iff_not] at *; omega))

theorem kept_5 (p : Nat) (a b cc : Int) (s t : ByteArray) (c z : Int) (w : World) (hq : Cv w p (c) z) (he : owesI 5 a b = 0) (c0 : 0 ≤ c) (c1 : c ≤ 1152921504606846976) (z0 : 0 ≤ z) (z1 : z ≤ 1152921504606846976) (h k P : Int) (hP : a * b = P) (hs : h + k = P) (p1 : -4611686018427387904 ≤ P) (p2 : P ≤ 4611686018427387904) (k1 : -512 ≤ k) (k2 : k ≤ 512) :
    Calls Tryd.prog 35 #[.pointer (some ⟨p, 0, none⟩), opV 5 a b cc s t, ansV 0 h k ⟨#[]⟩, .int .i64 c, .int .i64 z] w fun e w' => e = .returned (.bool true) ∧ Chg (fun _ => False) w w' := by
  have m1 : wrap64 (a * b) = P := by rw [hP, wrap64]; omega
  have m2 : wrap64 (h + k) = P := by rw [hs, wrap64]; omega
  have m3 : -9223372036854775808 ≤ h := by omega
  have m4 : h ≤ 9223372036854775807 := by omega
  have HS : Hid (_ ∧ _) := ⟨hP, hs⟩
  clear hP hs
  obtain ⟨F, C⟩ := two hq 5 a b cc s t 0 h k ⟨#[]⟩
  unfold ansV
  have OW := owes_any 5 a b cc s t
  unfold opV at OW ⊢
  have HO : Hid _ := OW
  clear OW
  go_enter Tryd.func35, Tryd.ntmps35
  go_wp2
  generalize ((w.alloc (.cells #[.int .i64 5, .int .i64 a, .int .i64 b, .int .i64 cc, .string s, .string t] 42)).alloc (.cells #[.int .i64 0, .int .i64 h, .int .i64 k, .string ⟨#[]⟩] 39)) = W at F C ⊢
  have HF : Hid _ := F
  have HC : Hid _ := C
  have o0 : W.cell? ⟨w.heap.size, 0, none⟩ = some (.int .i64 5) := F.o.cell 0
  have o1 : W.cell? ⟨w.heap.size, 1, none⟩ = some (.int .i64 a) := F.o.cell 1
  have o2 : W.cell? ⟨w.heap.size, 2, none⟩ = some (.int .i64 b) := F.o.cell 2
  have o3 : W.cell? ⟨w.heap.size, 3, none⟩ = some (.int .i64 cc) := F.o.cell 3
  have o4 : W.cell? ⟨w.heap.size, 4, none⟩ = some (.string s) := F.o.cell 4
  have o5 : W.cell? ⟨w.heap.size, 5, none⟩ = some (.string t) := F.o.cell 5
  have r0 : W.cell? ⟨w.heap.size + 1, 0, none⟩ = some (.int .i64 0) := F.r.cell 0
  have HE : Hid _ := he
  clear F C he hq
  go_region_held3 (fun w' => w'.cell? ⟨w.heap.size, 0, none⟩ = some (.int .i64 5) ∧ w'.cell? ⟨w.heap.size, 1, none⟩ = some (.int .i64 a) ∧ w'.cell? ⟨w.heap.size, 2, none⟩ = some (.int .i64 b) ∧ w'.cell? ⟨w.heap.size, 3, none⟩ = some (.int .i64 cc) ∧ w'.cell? ⟨w.heap.size, 4, none⟩ = some (.string s) ∧ w'.cell? ⟨w.heap.size, 5, none⟩ = some (.string t) ∧ w'.cell? ⟨w.heap.size + 1, 0, none⟩ = some (.int .i64 0))
    (first | (simp [go_sem, o0, o1, o2, o3, o4, o5, r0]; done) | exact ⟨by assumption, by assumption, by assumption, by assumption, by assumption, by assumption, by assumption⟩)
    (first | (go_at_call 57; refine (HO.out _).mono ?_; rintro e' w1 ⟨rfl, k1⟩; rw [HE.out]; have F1 : Hid _ := HF.out.drew.kept k1; have C1 : Hid _ := (HC.out.drew).trans k1; have i0 : w1.cell? ⟨w.heap.size, 0, none⟩ = some (.int .i64 5) := F1.out.o.cell 0; have i1 : w1.cell? ⟨w.heap.size, 1, none⟩ = some (.int .i64 a) := F1.out.o.cell 1; have i2 : w1.cell? ⟨w.heap.size, 2, none⟩ = some (.int .i64 b) := F1.out.o.cell 2; have i3 : w1.cell? ⟨w.heap.size, 3, none⟩ = some (.int .i64 cc) := F1.out.o.cell 3; have i4 : w1.cell? ⟨w.heap.size, 4, none⟩ = some (.string s) := F1.out.o.cell 4; have i5 : w1.cell? ⟨w.heap.size, 5, none⟩ = some (.string t) := F1.out.o.cell 5; have j0 : w1.cell? ⟨w.heap.size + 1, 0, none⟩ = some (.int .i64 0) := F1.out.r.cell 0; clear k1))
  have j1 : w1.cell? ⟨w.heap.size + 1, 1, none⟩ = some (.int .i64 h) := F1.out.r.cell 1
  have j2 : w1.cell? ⟨w.heap.size + 1, 2, none⟩ = some (.int .i64 k) := F1.out.r.cell 2
  have j3 : w1.cell? ⟨w.heap.size + 1, 3, none⟩ = some (.string ⟨#[]⟩) := F1.out.r.cell 3
  clear o0 o1 o2 o3 o4 o5 r0 HO HF HC HE
  go_wp2_with (first
    | (go_at_call_of 26 (Value.pointer (some ⟨p, 0, none⟩)); refine (clips_any p (c) (z) _ F1.out.q).mono ?_; rintro e' w5 ⟨rfl, h2⟩; rw [h2]; clear h2 w5)
    | (go_at_call 33; refine (nans_any p (c) (z) _ F1.out.q).mono ?_; rintro e' w5 ⟨rfl, h2⟩; rw [h2]; clear h2 w5))
  all_goals (try go_ret)
  all_goals (first
    | exact ⟨rfl, C1.out⟩
    | (exfalso; have hS := HS.out; simp only [bne_iff_ne, ne_eq, bne_eq_false_iff_eq, beq_iff_eq, beq_eq_false_iff_ne, Bool.and_eq_true, Bool.or_eq_true, decide_eq_true_eq, decide_eq_false_iff_not] at *; omega)
    | (refine ⟨?_, C1.out⟩; show Ending.returned (Value.bool _) = Ending.returned (Value.bool true); have hS := HS.out; simp only [Ending.returned.injEq, Value.bool.injEq, bne_iff_ne, ne_eq, bne_eq_false_iff_eq, beq_iff_eq, beq_eq_false_iff_ne, Bool.and_eq_true, Bool.or_eq_true, decide_eq_true_eq, decide_eq_false_iff_not] at *; omega))

theorem kept_6a (p : Nat) (a b cc : Int) (s t : ByteArray) (c z : Int) (w : World) (hq : Cv w p (c) z) (he : owesI 6 a b = 0) (c0 : 0 ≤ c) (c1 : c ≤ 1152921504606846976) (z0 : 0 ≤ z) (z1 : z ≤ 1152921504606846976) (n P : Int) (b0 : 0 ≤ b) (b1 : b < 32) (hP : a * 2 ^ b.toNat = P) (p1 : -4611686018427387904 ≤ P) (p2 : P ≤ 4611686018427387904) (n1 : -2147483648 ≤ n) (n2 : n ≤ 2147483647) (hn : (n - P) % 4294967296 = 0) :
    Calls Tryd.prog 35 #[.pointer (some ⟨p, 0, none⟩), opV 6 a b cc s t, ansV 0 n 0 ⟨#[]⟩, .int .i64 c, .int .i64 z] w fun e w' => e = .returned (.bool true) ∧ Chg (fun _ => False) w w' := by
  have m1 : bits .and .i64 (n - P) 4294967295 = 0 := by rw [and32]; exact hn
  clear hn
  obtain ⟨F, C⟩ := two hq 6 a b cc s t 0 n 0 ⟨#[]⟩
  unfold ansV
  have OW := owes_any 6 a b cc s t
  unfold opV at OW ⊢
  have HO : Hid _ := OW
  clear OW
  go_enter Tryd.func35, Tryd.ntmps35
  go_wp2
  generalize ((w.alloc (.cells #[.int .i64 6, .int .i64 a, .int .i64 b, .int .i64 cc, .string s, .string t] 42)).alloc (.cells #[.int .i64 0, .int .i64 n, .int .i64 0, .string ⟨#[]⟩] 39)) = W at F C ⊢
  have HF : Hid _ := F
  have HC : Hid _ := C
  have o0 : W.cell? ⟨w.heap.size, 0, none⟩ = some (.int .i64 6) := F.o.cell 0
  have o1 : W.cell? ⟨w.heap.size, 1, none⟩ = some (.int .i64 a) := F.o.cell 1
  have o2 : W.cell? ⟨w.heap.size, 2, none⟩ = some (.int .i64 b) := F.o.cell 2
  have o3 : W.cell? ⟨w.heap.size, 3, none⟩ = some (.int .i64 cc) := F.o.cell 3
  have o4 : W.cell? ⟨w.heap.size, 4, none⟩ = some (.string s) := F.o.cell 4
  have o5 : W.cell? ⟨w.heap.size, 5, none⟩ = some (.string t) := F.o.cell 5
  have r0 : W.cell? ⟨w.heap.size + 1, 0, none⟩ = some (.int .i64 0) := F.r.cell 0
  have HE : Hid _ := he
  clear F C he hq
  go_region_held3 (fun w' => w'.cell? ⟨w.heap.size, 0, none⟩ = some (.int .i64 6) ∧ w'.cell? ⟨w.heap.size, 1, none⟩ = some (.int .i64 a) ∧ w'.cell? ⟨w.heap.size, 2, none⟩ = some (.int .i64 b) ∧ w'.cell? ⟨w.heap.size, 3, none⟩ = some (.int .i64 cc) ∧ w'.cell? ⟨w.heap.size, 4, none⟩ = some (.string s) ∧ w'.cell? ⟨w.heap.size, 5, none⟩ = some (.string t) ∧ w'.cell? ⟨w.heap.size + 1, 0, none⟩ = some (.int .i64 0))
    (first | (simp [go_sem, o0, o1, o2, o3, o4, o5, r0]; done) | exact ⟨by assumption, by assumption, by assumption, by assumption, by assumption, by assumption, by assumption⟩)
    (first | (go_at_call 57; refine (HO.out _).mono ?_; rintro e' w1 ⟨rfl, k1⟩; rw [HE.out]; have F1 : Hid _ := HF.out.drew.kept k1; have C1 : Hid _ := (HC.out.drew).trans k1; have i0 : w1.cell? ⟨w.heap.size, 0, none⟩ = some (.int .i64 6) := F1.out.o.cell 0; have i1 : w1.cell? ⟨w.heap.size, 1, none⟩ = some (.int .i64 a) := F1.out.o.cell 1; have i2 : w1.cell? ⟨w.heap.size, 2, none⟩ = some (.int .i64 b) := F1.out.o.cell 2; have i3 : w1.cell? ⟨w.heap.size, 3, none⟩ = some (.int .i64 cc) := F1.out.o.cell 3; have i4 : w1.cell? ⟨w.heap.size, 4, none⟩ = some (.string s) := F1.out.o.cell 4; have i5 : w1.cell? ⟨w.heap.size, 5, none⟩ = some (.string t) := F1.out.o.cell 5; have j0 : w1.cell? ⟨w.heap.size + 1, 0, none⟩ = some (.int .i64 0) := F1.out.r.cell 0; clear k1))
  have j1 : w1.cell? ⟨w.heap.size + 1, 1, none⟩ = some (.int .i64 n) := F1.out.r.cell 1
  have j2 : w1.cell? ⟨w.heap.size + 1, 2, none⟩ = some (.int .i64 0) := F1.out.r.cell 2
  have j3 : w1.cell? ⟨w.heap.size + 1, 3, none⟩ = some (.string ⟨#[]⟩) := F1.out.r.cell 3
  clear o0 o1 o2 o3 o4 o5 r0 HO HF HC HE
  go_wp2_with (first
    | (go_at_call_of 26 (Value.pointer (some ⟨p, 0, none⟩)); refine (clips_any p (c) (z) _ F1.out.q).mono ?_; rintro e' w5 ⟨rfl, h2⟩; rw [h2]; clear h2 w5)
    | (go_at_call 33; refine (nans_any p (c) (z) _ F1.out.q).mono ?_; rintro e' w5 ⟨rfl, h2⟩; rw [h2]; clear h2 w5))
  all_goals (try go_ret)
  all_goals (first
    | exact ⟨rfl, C1.out⟩
    | (exfalso; skip; simp only [bne_iff_ne, ne_eq, bne_eq_false_iff_eq, beq_iff_eq, beq_eq_false_iff_ne, Bool.and_eq_true, Bool.or_eq_true, decide_eq_true_eq, decide_eq_false_iff_not] at *; omega)
    | (refine ⟨?_, C1.out⟩; show Ending.returned (Value.bool _) = Ending.returned (Value.bool true); skip; simp only [Ending.returned.injEq, Value.bool.injEq, bne_iff_ne, ne_eq, bne_eq_false_iff_eq, beq_iff_eq, beq_eq_false_iff_ne, Bool.and_eq_true, Bool.or_eq_true, decide_eq_true_eq, decide_eq_false_iff_not] at *; omega))

theorem kept_6b (p : Nat) (a b cc : Int) (s t : ByteArray) (c z : Int) (w : World) (hq : Cv w p (c) z) (he : owesI 6 a b = 0) (c0 : 0 ≤ c) (c1 : c ≤ 1152921504606846976) (z0 : 0 ≤ z) (z1 : z ≤ 1152921504606846976) (n M G : Int) (b0 : b < 0) (b1 : -32 < b) (hM : n * G = M) (hG : (2 : Int) ^ (-b).toNat = G) (g1 : 1 ≤ G) (g2 : G ≤ 2147483648) (m1 : M ≤ a) (m2 : a - M < G) (a0 : -2147483648 ≤ a) (a1 : a ≤ 2147483647) :
    Calls Tryd.prog 35 #[.pointer (some ⟨p, 0, none⟩), opV 6 a b cc s t, ansV 0 n 0 ⟨#[]⟩, .int .i64 c, .int .i64 z] w fun e w' => e = .returned (.bool true) ∧ Chg (fun _ => False) w w' := by
  have b2 : ¬ 0 ≤ b := by omega
  obtain ⟨F, C⟩ := two hq 6 a b cc s t 0 n 0 ⟨#[]⟩
  unfold ansV
  have OW := owes_any 6 a b cc s t
  unfold opV at OW ⊢
  have HO : Hid _ := OW
  clear OW
  go_enter Tryd.func35, Tryd.ntmps35
  go_wp2
  generalize ((w.alloc (.cells #[.int .i64 6, .int .i64 a, .int .i64 b, .int .i64 cc, .string s, .string t] 42)).alloc (.cells #[.int .i64 0, .int .i64 n, .int .i64 0, .string ⟨#[]⟩] 39)) = W at F C ⊢
  have HF : Hid _ := F
  have HC : Hid _ := C
  have o0 : W.cell? ⟨w.heap.size, 0, none⟩ = some (.int .i64 6) := F.o.cell 0
  have o1 : W.cell? ⟨w.heap.size, 1, none⟩ = some (.int .i64 a) := F.o.cell 1
  have o2 : W.cell? ⟨w.heap.size, 2, none⟩ = some (.int .i64 b) := F.o.cell 2
  have o3 : W.cell? ⟨w.heap.size, 3, none⟩ = some (.int .i64 cc) := F.o.cell 3
  have o4 : W.cell? ⟨w.heap.size, 4, none⟩ = some (.string s) := F.o.cell 4
  have o5 : W.cell? ⟨w.heap.size, 5, none⟩ = some (.string t) := F.o.cell 5
  have r0 : W.cell? ⟨w.heap.size + 1, 0, none⟩ = some (.int .i64 0) := F.r.cell 0
  have HE : Hid _ := he
  clear F C he hq
  go_region_held3 (fun w' => w'.cell? ⟨w.heap.size, 0, none⟩ = some (.int .i64 6) ∧ w'.cell? ⟨w.heap.size, 1, none⟩ = some (.int .i64 a) ∧ w'.cell? ⟨w.heap.size, 2, none⟩ = some (.int .i64 b) ∧ w'.cell? ⟨w.heap.size, 3, none⟩ = some (.int .i64 cc) ∧ w'.cell? ⟨w.heap.size, 4, none⟩ = some (.string s) ∧ w'.cell? ⟨w.heap.size, 5, none⟩ = some (.string t) ∧ w'.cell? ⟨w.heap.size + 1, 0, none⟩ = some (.int .i64 0))
    (first | (simp [go_sem, o0, o1, o2, o3, o4, o5, r0]; done) | exact ⟨by assumption, by assumption, by assumption, by assumption, by assumption, by assumption, by assumption⟩)
    (first | (go_at_call 57; refine (HO.out _).mono ?_; rintro e' w1 ⟨rfl, k1⟩; rw [HE.out]; have F1 : Hid _ := HF.out.drew.kept k1; have C1 : Hid _ := (HC.out.drew).trans k1; have i0 : w1.cell? ⟨w.heap.size, 0, none⟩ = some (.int .i64 6) := F1.out.o.cell 0; have i1 : w1.cell? ⟨w.heap.size, 1, none⟩ = some (.int .i64 a) := F1.out.o.cell 1; have i2 : w1.cell? ⟨w.heap.size, 2, none⟩ = some (.int .i64 b) := F1.out.o.cell 2; have i3 : w1.cell? ⟨w.heap.size, 3, none⟩ = some (.int .i64 cc) := F1.out.o.cell 3; have i4 : w1.cell? ⟨w.heap.size, 4, none⟩ = some (.string s) := F1.out.o.cell 4; have i5 : w1.cell? ⟨w.heap.size, 5, none⟩ = some (.string t) := F1.out.o.cell 5; have j0 : w1.cell? ⟨w.heap.size + 1, 0, none⟩ = some (.int .i64 0) := F1.out.r.cell 0; clear k1))
  have j1 : w1.cell? ⟨w.heap.size + 1, 1, none⟩ = some (.int .i64 n) := F1.out.r.cell 1
  have j2 : w1.cell? ⟨w.heap.size + 1, 2, none⟩ = some (.int .i64 0) := F1.out.r.cell 2
  have j3 : w1.cell? ⟨w.heap.size + 1, 3, none⟩ = some (.string ⟨#[]⟩) := F1.out.r.cell 3
  clear o0 o1 o2 o3 o4 o5 r0 HO HF HC HE
  go_wp2_with (first
    | (go_at_call_of 26 (Value.pointer (some ⟨p, 0, none⟩)); refine (clips_any p (c) (z) _ F1.out.q).mono ?_; rintro e' w5 ⟨rfl, h2⟩; rw [h2]; clear h2 w5)
    | (go_at_call 33; refine (nans_any p (c) (z) _ F1.out.q).mono ?_; rintro e' w5 ⟨rfl, h2⟩; rw [h2]; clear h2 w5))
  all_goals (try go_ret)
  all_goals (first
    | exact ⟨rfl, C1.out⟩
    | (exfalso; skip; simp only [bne_iff_ne, ne_eq, bne_eq_false_iff_eq, beq_iff_eq, beq_eq_false_iff_ne, Bool.and_eq_true, Bool.or_eq_true, decide_eq_true_eq, decide_eq_false_iff_not] at *; omega)
    | (refine ⟨?_, C1.out⟩; show Ending.returned (Value.bool _) = Ending.returned (Value.bool true); skip; simp only [Ending.returned.injEq, Value.bool.injEq, bne_iff_ne, ne_eq, bne_eq_false_iff_eq, beq_iff_eq, beq_eq_false_iff_ne, Bool.and_eq_true, Bool.or_eq_true, decide_eq_true_eq, decide_eq_false_iff_not] at *; omega))

theorem kept_6c (p : Nat) (a b cc : Int) (s t : ByteArray) (c z : Int) (w : World) (hq : Cv w p (c) z) (he : owesI 6 a b = 0) (c0 : 0 ≤ c) (c1 : c ≤ 1152921504606846976) (z0 : 0 ≤ z) (z1 : z ≤ 1152921504606846976) (b1 : b ≤ -32) (a0 : a < 0) :
    Calls Tryd.prog 35 #[.pointer (some ⟨p, 0, none⟩), opV 6 a b cc s t, ansV 0 (-1) 0 ⟨#[]⟩, .int .i64 c, .int .i64 z] w fun e w' => e = .returned (.bool true) ∧ Chg (fun _ => False) w w' := by
  have b2 : ¬ 0 ≤ b := by omega
  have b3 : ¬ -32 < b := by omega
  have b4 : b < 0 := by omega
  obtain ⟨F, C⟩ := two hq 6 a b cc s t 0 (-1) 0 ⟨#[]⟩
  unfold ansV
  have OW := owes_any 6 a b cc s t
  unfold opV at OW ⊢
  have HO : Hid _ := OW
  clear OW
  go_enter Tryd.func35, Tryd.ntmps35
  go_wp2
  generalize ((w.alloc (.cells #[.int .i64 6, .int .i64 a, .int .i64 b, .int .i64 cc, .string s, .string t] 42)).alloc (.cells #[.int .i64 0, .int .i64 (-1), .int .i64 0, .string ⟨#[]⟩] 39)) = W at F C ⊢
  have HF : Hid _ := F
  have HC : Hid _ := C
  have o0 : W.cell? ⟨w.heap.size, 0, none⟩ = some (.int .i64 6) := F.o.cell 0
  have o1 : W.cell? ⟨w.heap.size, 1, none⟩ = some (.int .i64 a) := F.o.cell 1
  have o2 : W.cell? ⟨w.heap.size, 2, none⟩ = some (.int .i64 b) := F.o.cell 2
  have o3 : W.cell? ⟨w.heap.size, 3, none⟩ = some (.int .i64 cc) := F.o.cell 3
  have o4 : W.cell? ⟨w.heap.size, 4, none⟩ = some (.string s) := F.o.cell 4
  have o5 : W.cell? ⟨w.heap.size, 5, none⟩ = some (.string t) := F.o.cell 5
  have r0 : W.cell? ⟨w.heap.size + 1, 0, none⟩ = some (.int .i64 0) := F.r.cell 0
  have HE : Hid _ := he
  clear F C he hq
  go_region_held3 (fun w' => w'.cell? ⟨w.heap.size, 0, none⟩ = some (.int .i64 6) ∧ w'.cell? ⟨w.heap.size, 1, none⟩ = some (.int .i64 a) ∧ w'.cell? ⟨w.heap.size, 2, none⟩ = some (.int .i64 b) ∧ w'.cell? ⟨w.heap.size, 3, none⟩ = some (.int .i64 cc) ∧ w'.cell? ⟨w.heap.size, 4, none⟩ = some (.string s) ∧ w'.cell? ⟨w.heap.size, 5, none⟩ = some (.string t) ∧ w'.cell? ⟨w.heap.size + 1, 0, none⟩ = some (.int .i64 0))
    (first | (simp [go_sem, o0, o1, o2, o3, o4, o5, r0]; done) | exact ⟨by assumption, by assumption, by assumption, by assumption, by assumption, by assumption, by assumption⟩)
    (first | (go_at_call 57; refine (HO.out _).mono ?_; rintro e' w1 ⟨rfl, k1⟩; rw [HE.out]; have F1 : Hid _ := HF.out.drew.kept k1; have C1 : Hid _ := (HC.out.drew).trans k1; have i0 : w1.cell? ⟨w.heap.size, 0, none⟩ = some (.int .i64 6) := F1.out.o.cell 0; have i1 : w1.cell? ⟨w.heap.size, 1, none⟩ = some (.int .i64 a) := F1.out.o.cell 1; have i2 : w1.cell? ⟨w.heap.size, 2, none⟩ = some (.int .i64 b) := F1.out.o.cell 2; have i3 : w1.cell? ⟨w.heap.size, 3, none⟩ = some (.int .i64 cc) := F1.out.o.cell 3; have i4 : w1.cell? ⟨w.heap.size, 4, none⟩ = some (.string s) := F1.out.o.cell 4; have i5 : w1.cell? ⟨w.heap.size, 5, none⟩ = some (.string t) := F1.out.o.cell 5; have j0 : w1.cell? ⟨w.heap.size + 1, 0, none⟩ = some (.int .i64 0) := F1.out.r.cell 0; clear k1))
  have j1 : w1.cell? ⟨w.heap.size + 1, 1, none⟩ = some (.int .i64 (-1)) := F1.out.r.cell 1
  have j2 : w1.cell? ⟨w.heap.size + 1, 2, none⟩ = some (.int .i64 0) := F1.out.r.cell 2
  have j3 : w1.cell? ⟨w.heap.size + 1, 3, none⟩ = some (.string ⟨#[]⟩) := F1.out.r.cell 3
  clear o0 o1 o2 o3 o4 o5 r0 HO HF HC HE
  go_wp2_with (first
    | (go_at_call_of 26 (Value.pointer (some ⟨p, 0, none⟩)); refine (clips_any p (c) (z) _ F1.out.q).mono ?_; rintro e' w5 ⟨rfl, h2⟩; rw [h2]; clear h2 w5)
    | (go_at_call 33; refine (nans_any p (c) (z) _ F1.out.q).mono ?_; rintro e' w5 ⟨rfl, h2⟩; rw [h2]; clear h2 w5))
  all_goals (try go_ret)
  all_goals (first
    | exact ⟨rfl, C1.out⟩
    | (exfalso; skip; simp only [bne_iff_ne, ne_eq, bne_eq_false_iff_eq, beq_iff_eq, beq_eq_false_iff_ne, Bool.and_eq_true, Bool.or_eq_true, decide_eq_true_eq, decide_eq_false_iff_not] at *; omega)
    | (refine ⟨?_, C1.out⟩; show Ending.returned (Value.bool _) = Ending.returned (Value.bool true); skip; simp only [Ending.returned.injEq, Value.bool.injEq, bne_iff_ne, ne_eq, bne_eq_false_iff_eq, beq_iff_eq, beq_eq_false_iff_ne, Bool.and_eq_true, Bool.or_eq_true, decide_eq_true_eq, decide_eq_false_iff_not] at *; omega))

theorem kept_6d (p : Nat) (a b cc : Int) (s t : ByteArray) (c z : Int) (w : World) (hq : Cv w p (c) z) (he : owesI 6 a b = 0) (c0 : 0 ≤ c) (c1 : c ≤ 1152921504606846976) (z0 : 0 ≤ z) (z1 : z ≤ 1152921504606846976) (b1 : b ≤ -32) (a0 : 0 ≤ a) :
    Calls Tryd.prog 35 #[.pointer (some ⟨p, 0, none⟩), opV 6 a b cc s t, ansV 0 0 0 ⟨#[]⟩, .int .i64 c, .int .i64 z] w fun e w' => e = .returned (.bool true) ∧ Chg (fun _ => False) w w' := by
  have b2 : ¬ 0 ≤ b := by omega
  have b3 : ¬ -32 < b := by omega
  have b4 : b < 0 := by omega
  have a2 : ¬ a < 0 := by omega
  obtain ⟨F, C⟩ := two hq 6 a b cc s t 0 0 0 ⟨#[]⟩
  unfold ansV
  have OW := owes_any 6 a b cc s t
  unfold opV at OW ⊢
  have HO : Hid _ := OW
  clear OW
  go_enter Tryd.func35, Tryd.ntmps35
  go_wp2
  generalize ((w.alloc (.cells #[.int .i64 6, .int .i64 a, .int .i64 b, .int .i64 cc, .string s, .string t] 42)).alloc (.cells #[.int .i64 0, .int .i64 0, .int .i64 0, .string ⟨#[]⟩] 39)) = W at F C ⊢
  have HF : Hid _ := F
  have HC : Hid _ := C
  have o0 : W.cell? ⟨w.heap.size, 0, none⟩ = some (.int .i64 6) := F.o.cell 0
  have o1 : W.cell? ⟨w.heap.size, 1, none⟩ = some (.int .i64 a) := F.o.cell 1
  have o2 : W.cell? ⟨w.heap.size, 2, none⟩ = some (.int .i64 b) := F.o.cell 2
  have o3 : W.cell? ⟨w.heap.size, 3, none⟩ = some (.int .i64 cc) := F.o.cell 3
  have o4 : W.cell? ⟨w.heap.size, 4, none⟩ = some (.string s) := F.o.cell 4
  have o5 : W.cell? ⟨w.heap.size, 5, none⟩ = some (.string t) := F.o.cell 5
  have r0 : W.cell? ⟨w.heap.size + 1, 0, none⟩ = some (.int .i64 0) := F.r.cell 0
  have HE : Hid _ := he
  clear F C he hq
  go_region_held3 (fun w' => w'.cell? ⟨w.heap.size, 0, none⟩ = some (.int .i64 6) ∧ w'.cell? ⟨w.heap.size, 1, none⟩ = some (.int .i64 a) ∧ w'.cell? ⟨w.heap.size, 2, none⟩ = some (.int .i64 b) ∧ w'.cell? ⟨w.heap.size, 3, none⟩ = some (.int .i64 cc) ∧ w'.cell? ⟨w.heap.size, 4, none⟩ = some (.string s) ∧ w'.cell? ⟨w.heap.size, 5, none⟩ = some (.string t) ∧ w'.cell? ⟨w.heap.size + 1, 0, none⟩ = some (.int .i64 0))
    (first | (simp [go_sem, o0, o1, o2, o3, o4, o5, r0]; done) | exact ⟨by assumption, by assumption, by assumption, by assumption, by assumption, by assumption, by assumption⟩)
    (first | (go_at_call 57; refine (HO.out _).mono ?_; rintro e' w1 ⟨rfl, k1⟩; rw [HE.out]; have F1 : Hid _ := HF.out.drew.kept k1; have C1 : Hid _ := (HC.out.drew).trans k1; have i0 : w1.cell? ⟨w.heap.size, 0, none⟩ = some (.int .i64 6) := F1.out.o.cell 0; have i1 : w1.cell? ⟨w.heap.size, 1, none⟩ = some (.int .i64 a) := F1.out.o.cell 1; have i2 : w1.cell? ⟨w.heap.size, 2, none⟩ = some (.int .i64 b) := F1.out.o.cell 2; have i3 : w1.cell? ⟨w.heap.size, 3, none⟩ = some (.int .i64 cc) := F1.out.o.cell 3; have i4 : w1.cell? ⟨w.heap.size, 4, none⟩ = some (.string s) := F1.out.o.cell 4; have i5 : w1.cell? ⟨w.heap.size, 5, none⟩ = some (.string t) := F1.out.o.cell 5; have j0 : w1.cell? ⟨w.heap.size + 1, 0, none⟩ = some (.int .i64 0) := F1.out.r.cell 0; clear k1))
  have j1 : w1.cell? ⟨w.heap.size + 1, 1, none⟩ = some (.int .i64 0) := F1.out.r.cell 1
  have j2 : w1.cell? ⟨w.heap.size + 1, 2, none⟩ = some (.int .i64 0) := F1.out.r.cell 2
  have j3 : w1.cell? ⟨w.heap.size + 1, 3, none⟩ = some (.string ⟨#[]⟩) := F1.out.r.cell 3
  clear o0 o1 o2 o3 o4 o5 r0 HO HF HC HE
  go_wp2_with (first
    | (go_at_call_of 26 (Value.pointer (some ⟨p, 0, none⟩)); refine (clips_any p (c) (z) _ F1.out.q).mono ?_; rintro e' w5 ⟨rfl, h2⟩; rw [h2]; clear h2 w5)
    | (go_at_call 33; refine (nans_any p (c) (z) _ F1.out.q).mono ?_; rintro e' w5 ⟨rfl, h2⟩; rw [h2]; clear h2 w5))
  all_goals (try go_ret)
  all_goals (first
    | exact ⟨rfl, C1.out⟩
    | (exfalso; skip; simp only [bne_iff_ne, ne_eq, bne_eq_false_iff_eq, beq_iff_eq, beq_eq_false_iff_ne, Bool.and_eq_true, Bool.or_eq_true, decide_eq_true_eq, decide_eq_false_iff_not] at *; omega)
    | (refine ⟨?_, C1.out⟩; show Ending.returned (Value.bool _) = Ending.returned (Value.bool true); skip; simp only [Ending.returned.injEq, Value.bool.injEq, bne_iff_ne, ne_eq, bne_eq_false_iff_eq, beq_iff_eq, beq_eq_false_iff_ne, Bool.and_eq_true, Bool.or_eq_true, decide_eq_true_eq, decide_eq_false_iff_not] at *; omega))

theorem kept_6e (p : Nat) (a b cc : Int) (s t : ByteArray) (c z : Int) (w : World) (hq : Cv w p (c) z) (he : owesI 6 a b = 0) (c0 : 0 ≤ c) (c1 : c ≤ 1152921504606846976) (z0 : 0 ≤ z) (z1 : z ≤ 1152921504606846976) (b1 : 32 ≤ b) :
    Calls Tryd.prog 35 #[.pointer (some ⟨p, 0, none⟩), opV 6 a b cc s t, ansV 0 0 0 ⟨#[]⟩, .int .i64 c, .int .i64 z] w fun e w' => e = .returned (.bool true) ∧ Chg (fun _ => False) w w' := by
  have b2 : 0 ≤ b := by omega
  have b3 : ¬ b < 32 := by omega
  have b4 : ¬ b < 0 := by omega
  obtain ⟨F, C⟩ := two hq 6 a b cc s t 0 0 0 ⟨#[]⟩
  unfold ansV
  have OW := owes_any 6 a b cc s t
  unfold opV at OW ⊢
  have HO : Hid _ := OW
  clear OW
  go_enter Tryd.func35, Tryd.ntmps35
  go_wp2
  generalize ((w.alloc (.cells #[.int .i64 6, .int .i64 a, .int .i64 b, .int .i64 cc, .string s, .string t] 42)).alloc (.cells #[.int .i64 0, .int .i64 0, .int .i64 0, .string ⟨#[]⟩] 39)) = W at F C ⊢
  have HF : Hid _ := F
  have HC : Hid _ := C
  have o0 : W.cell? ⟨w.heap.size, 0, none⟩ = some (.int .i64 6) := F.o.cell 0
  have o1 : W.cell? ⟨w.heap.size, 1, none⟩ = some (.int .i64 a) := F.o.cell 1
  have o2 : W.cell? ⟨w.heap.size, 2, none⟩ = some (.int .i64 b) := F.o.cell 2
  have o3 : W.cell? ⟨w.heap.size, 3, none⟩ = some (.int .i64 cc) := F.o.cell 3
  have o4 : W.cell? ⟨w.heap.size, 4, none⟩ = some (.string s) := F.o.cell 4
  have o5 : W.cell? ⟨w.heap.size, 5, none⟩ = some (.string t) := F.o.cell 5
  have r0 : W.cell? ⟨w.heap.size + 1, 0, none⟩ = some (.int .i64 0) := F.r.cell 0
  have HE : Hid _ := he
  clear F C he hq
  go_region_held3 (fun w' => w'.cell? ⟨w.heap.size, 0, none⟩ = some (.int .i64 6) ∧ w'.cell? ⟨w.heap.size, 1, none⟩ = some (.int .i64 a) ∧ w'.cell? ⟨w.heap.size, 2, none⟩ = some (.int .i64 b) ∧ w'.cell? ⟨w.heap.size, 3, none⟩ = some (.int .i64 cc) ∧ w'.cell? ⟨w.heap.size, 4, none⟩ = some (.string s) ∧ w'.cell? ⟨w.heap.size, 5, none⟩ = some (.string t) ∧ w'.cell? ⟨w.heap.size + 1, 0, none⟩ = some (.int .i64 0))
    (first | (simp [go_sem, o0, o1, o2, o3, o4, o5, r0]; done) | exact ⟨by assumption, by assumption, by assumption, by assumption, by assumption, by assumption, by assumption⟩)
    (first | (go_at_call 57; refine (HO.out _).mono ?_; rintro e' w1 ⟨rfl, k1⟩; rw [HE.out]; have F1 : Hid _ := HF.out.drew.kept k1; have C1 : Hid _ := (HC.out.drew).trans k1; have i0 : w1.cell? ⟨w.heap.size, 0, none⟩ = some (.int .i64 6) := F1.out.o.cell 0; have i1 : w1.cell? ⟨w.heap.size, 1, none⟩ = some (.int .i64 a) := F1.out.o.cell 1; have i2 : w1.cell? ⟨w.heap.size, 2, none⟩ = some (.int .i64 b) := F1.out.o.cell 2; have i3 : w1.cell? ⟨w.heap.size, 3, none⟩ = some (.int .i64 cc) := F1.out.o.cell 3; have i4 : w1.cell? ⟨w.heap.size, 4, none⟩ = some (.string s) := F1.out.o.cell 4; have i5 : w1.cell? ⟨w.heap.size, 5, none⟩ = some (.string t) := F1.out.o.cell 5; have j0 : w1.cell? ⟨w.heap.size + 1, 0, none⟩ = some (.int .i64 0) := F1.out.r.cell 0; clear k1))
  have j1 : w1.cell? ⟨w.heap.size + 1, 1, none⟩ = some (.int .i64 0) := F1.out.r.cell 1
  have j2 : w1.cell? ⟨w.heap.size + 1, 2, none⟩ = some (.int .i64 0) := F1.out.r.cell 2
  have j3 : w1.cell? ⟨w.heap.size + 1, 3, none⟩ = some (.string ⟨#[]⟩) := F1.out.r.cell 3
  clear o0 o1 o2 o3 o4 o5 r0 HO HF HC HE
  go_wp2_with (first
    | (go_at_call_of 26 (Value.pointer (some ⟨p, 0, none⟩)); refine (clips_any p (c) (z) _ F1.out.q).mono ?_; rintro e' w5 ⟨rfl, h2⟩; rw [h2]; clear h2 w5)
    | (go_at_call 33; refine (nans_any p (c) (z) _ F1.out.q).mono ?_; rintro e' w5 ⟨rfl, h2⟩; rw [h2]; clear h2 w5))
  all_goals (try go_ret)
  all_goals (first
    | exact ⟨rfl, C1.out⟩
    | (exfalso; skip; simp only [bne_iff_ne, ne_eq, bne_eq_false_iff_eq, beq_iff_eq, beq_eq_false_iff_ne, Bool.and_eq_true, Bool.or_eq_true, decide_eq_true_eq, decide_eq_false_iff_not] at *; omega)
    | (refine ⟨?_, C1.out⟩; show Ending.returned (Value.bool _) = Ending.returned (Value.bool true); skip; simp only [Ending.returned.injEq, Value.bool.injEq, bne_iff_ne, ne_eq, bne_eq_false_iff_eq, beq_iff_eq, beq_eq_false_iff_ne, Bool.and_eq_true, Bool.or_eq_true, decide_eq_true_eq, decide_eq_false_iff_not] at *; omega))

end Go.Proofs.Qxb6500378aDoor

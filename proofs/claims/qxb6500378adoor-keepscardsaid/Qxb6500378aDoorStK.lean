/- kept: true behind every step. -/
import Derived.Test.Qxb6500378aDoorStBetween
namespace Go.Proofs.Qxb6500378aDoor
set_option linter.unusedVariables false
set_option linter.unusedSimpArgs false
set_option maxHeartbeats 4000000
set_option maxRecDepth 100000
open Go.RowKit Go.Qu Ieee

/-- kept's frame: the two boxes -/
structure Fr (w : World) (p B : Nat) (kd a b cc : Int) (s t : ByteArray) (e n k : Int) (u : ByteArray) (c z : Int) : Prop where
  o : Has 42 w B [.int .i64 kd, .int .i64 a, .int .i64 b, .int .i64 cc, .string s, .string t]
  r : Has 39 w (B + 1) [.int .i64 e, .int .i64 n, .int .i64 k, .string u]
  q : Cv w p c z
theorem Fr.kept {w w' : World} {p B : Nat} {kd a b cc : Int} {s t : ByteArray} {e n k : Int} {u : ByteArray} {c z : Int} (h : Fr w p B kd a b cc s t e n k u c z) (hc : Chg (fun _ => False) w w') : Fr w' p B kd a b cc s t e n k u c z :=
  ⟨h.o.kept hc (fun h => h), h.r.kept hc (fun h => h), h.q.kept hc (fun h => h)⟩
theorem Fr.drew {w : World} {p B : Nat} {kd a b cc : Int} {s t : ByteArray} {e n k : Int} {u : ByteArray} {c z : Int} (h : Fr w p B kd a b cc s t e n k u c z) : Fr w.drew p B kd a b cc s t e n k u c z := ⟨h.o, h.r, h.q⟩
theorem two {w : World} {p : Nat} {c z : Int} (hq : Cv w p c z) (kd a b cc : Int) (s t : ByteArray) (e n k : Int) (u : ByteArray) :
    Fr ((w.alloc (.cells #[.int .i64 kd, .int .i64 a, .int .i64 b, .int .i64 cc, .string s, .string t] 42)).alloc (.cells #[.int .i64 e, .int .i64 n, .int .i64 k, .string u] 39)) p w.heap.size kd a b cc s t e n k u c z ∧
    Chg (fun _ => False) w ((w.alloc (.cells #[.int .i64 kd, .int .i64 a, .int .i64 b, .int .i64 cc, .string s, .string t] 42)).alloc (.cells #[.int .i64 e, .int .i64 n, .int .i64 k, .string u] 39)) :=
  ⟨⟨(Has.at rfl [.int .i64 kd, .int .i64 a, .int .i64 b, .int .i64 cc, .string s, .string t]).alloc _, Has.at (by simp) [.int .i64 e, .int .i64 n, .int .i64 k, .string u], (hq.alloc _).alloc _⟩, ((Chg.refl _ w).alloc _).alloc _⟩

theorem kept_err (p : Nat) (kd a b cc : Int) (s t : ByteArray) (e : Int) (c z dz : Int) (w : World) (hq : Cv w p c (z + dz)) (he : owesI kd a b = e) (e0 : e ≠ 0) (c0 : 0 ≤ c) (c1 : c ≤ 1152921504606846976) (z0 : 0 ≤ z) (z1 : z ≤ 1152921504606846976) (d0 : 0 ≤ dz) (d1 : dz ≤ 1) (h4 : e = 4 ↔ dz = 1) :
    Calls Tryd.prog 35 #[.pointer (some ⟨p, 0, none⟩), opV kd a b cc s t, ansV e 0 0 ⟨#[]⟩, .int .i64 c, .int .i64 z] w fun e w' => e = .returned (.bool true) ∧ Chg (fun _ => False) w w' := by
  have y1 : (e != 0) = true := by simpa using e0
  have y2 : (!(e == 4) == (z + dz == z + 1)) = false := by
    by_cases h : e = 4
    · have := h4.1 h; subst h; subst this; simp
    · have : ¬ dz = 1 := fun g => h (h4.2 g)
      have g1 : (e == 4) = false := by simpa using h
      have g2 : (z + dz == z + 1) = false := by simp; omega
      rw [g1, g2]; rfl
  clear h4 e0
  obtain ⟨F, C⟩ := two hq kd a b cc s t e 0 0 ⟨#[]⟩
  unfold ansV
  have OW := owes_any kd a b cc s t
  unfold opV at OW ⊢
  have HO : Hid _ := OW
  clear OW
  go_enter Tryd.func35, Tryd.ntmps35
  go_wp2
  generalize ((w.alloc (.cells #[.int .i64 kd, .int .i64 a, .int .i64 b, .int .i64 cc, .string s, .string t] 42)).alloc (.cells #[.int .i64 e, .int .i64 0, .int .i64 0, .string ⟨#[]⟩] 39)) = W at F C ⊢
  have HF : Hid _ := F
  have HC : Hid _ := C
  have o0 : W.cell? ⟨w.heap.size, 0, none⟩ = some (.int .i64 kd) := F.o.cell 0
  have o1 : W.cell? ⟨w.heap.size, 1, none⟩ = some (.int .i64 a) := F.o.cell 1
  have o2 : W.cell? ⟨w.heap.size, 2, none⟩ = some (.int .i64 b) := F.o.cell 2
  have o3 : W.cell? ⟨w.heap.size, 3, none⟩ = some (.int .i64 cc) := F.o.cell 3
  have o4 : W.cell? ⟨w.heap.size, 4, none⟩ = some (.string s) := F.o.cell 4
  have o5 : W.cell? ⟨w.heap.size, 5, none⟩ = some (.string t) := F.o.cell 5
  have r0 : W.cell? ⟨w.heap.size + 1, 0, none⟩ = some (.int .i64 e) := F.r.cell 0
  have HE : Hid _ := he
  clear F C he hq
  go_region_held3 (fun w' => w'.cell? ⟨w.heap.size, 0, none⟩ = some (.int .i64 kd) ∧ w'.cell? ⟨w.heap.size, 1, none⟩ = some (.int .i64 a) ∧ w'.cell? ⟨w.heap.size, 2, none⟩ = some (.int .i64 b) ∧ w'.cell? ⟨w.heap.size, 3, none⟩ = some (.int .i64 cc) ∧ w'.cell? ⟨w.heap.size, 4, none⟩ = some (.string s) ∧ w'.cell? ⟨w.heap.size, 5, none⟩ = some (.string t) ∧ w'.cell? ⟨w.heap.size + 1, 0, none⟩ = some (.int .i64 e))
    (first | (simp [go_sem, o0, o1, o2, o3, o4, o5, r0]; done) | exact ⟨by assumption, by assumption, by assumption, by assumption, by assumption, by assumption, by assumption⟩)
    (first | (go_at_call 57; refine (HO.out _).mono ?_; rintro e' w1 ⟨rfl, k1⟩; rw [HE.out]; have F1 : Hid _ := HF.out.drew.kept k1; have C1 : Hid _ := (HC.out.drew).trans k1; have i0 : w1.cell? ⟨w.heap.size, 0, none⟩ = some (.int .i64 kd) := F1.out.o.cell 0; have i1 : w1.cell? ⟨w.heap.size, 1, none⟩ = some (.int .i64 a) := F1.out.o.cell 1; have i2 : w1.cell? ⟨w.heap.size, 2, none⟩ = some (.int .i64 b) := F1.out.o.cell 2; have i3 : w1.cell? ⟨w.heap.size, 3, none⟩ = some (.int .i64 cc) := F1.out.o.cell 3; have i4 : w1.cell? ⟨w.heap.size, 4, none⟩ = some (.string s) := F1.out.o.cell 4; have i5 : w1.cell? ⟨w.heap.size, 5, none⟩ = some (.string t) := F1.out.o.cell 5; have j0 : w1.cell? ⟨w.heap.size + 1, 0, none⟩ = some (.int .i64 e) := F1.out.r.cell 0; clear k1))
  have j1 : w1.cell? ⟨w.heap.size + 1, 1, none⟩ = some (.int .i64 0) := F1.out.r.cell 1
  have j2 : w1.cell? ⟨w.heap.size + 1, 2, none⟩ = some (.int .i64 0) := F1.out.r.cell 2
  have j3 : w1.cell? ⟨w.heap.size + 1, 3, none⟩ = some (.string ⟨#[]⟩) := F1.out.r.cell 3
  clear o0 o1 o2 o3 o4 o5 r0 HO HF HC HE
  go_wp2_with (first
    | (go_at_call_of 26 (Value.pointer (some ⟨p, 0, none⟩)); refine (clips_any p (c) (z + dz) _ F1.out.q).mono ?_; rintro e' w5 ⟨rfl, rfl⟩)
    | (go_at_call 33; refine (nans_any p (c) (z + dz) _ F1.out.q).mono ?_; rintro e' w5 ⟨rfl, rfl⟩))
  go_ret
  exact ⟨by simp, C1.out⟩

theorem kept_9 (p : Nat) (a b cc : Int) (s t : ByteArray) (c z : Int) (w : World) (hq : Cv w p (c) z) (he : owesI 9 a b = 0) (c0 : 0 ≤ c) (c1 : c ≤ 1152921504606846976) (z0 : 0 ≤ z) (z1 : z ≤ 1152921504606846976)  :
    Calls Tryd.prog 35 #[.pointer (some ⟨p, 0, none⟩), opV 9 a b cc s t, ansV 0 c 0 ⟨#[]⟩, .int .i64 c, .int .i64 z] w fun e w' => e = .returned (.bool true) ∧ Chg (fun _ => False) w w' := by
  obtain ⟨F, C⟩ := two hq 9 a b cc s t 0 c 0 ⟨#[]⟩
  unfold ansV
  have OW := owes_any 9 a b cc s t
  unfold opV at OW ⊢
  have HO : Hid _ := OW
  clear OW
  go_enter Tryd.func35, Tryd.ntmps35
  go_wp2
  generalize ((w.alloc (.cells #[.int .i64 9, .int .i64 a, .int .i64 b, .int .i64 cc, .string s, .string t] 42)).alloc (.cells #[.int .i64 0, .int .i64 c, .int .i64 0, .string ⟨#[]⟩] 39)) = W at F C ⊢
  have HF : Hid _ := F
  have HC : Hid _ := C
  have o0 : W.cell? ⟨w.heap.size, 0, none⟩ = some (.int .i64 9) := F.o.cell 0
  have o1 : W.cell? ⟨w.heap.size, 1, none⟩ = some (.int .i64 a) := F.o.cell 1
  have o2 : W.cell? ⟨w.heap.size, 2, none⟩ = some (.int .i64 b) := F.o.cell 2
  have o3 : W.cell? ⟨w.heap.size, 3, none⟩ = some (.int .i64 cc) := F.o.cell 3
  have o4 : W.cell? ⟨w.heap.size, 4, none⟩ = some (.string s) := F.o.cell 4
  have o5 : W.cell? ⟨w.heap.size, 5, none⟩ = some (.string t) := F.o.cell 5
  have r0 : W.cell? ⟨w.heap.size + 1, 0, none⟩ = some (.int .i64 0) := F.r.cell 0
  have HE : Hid _ := he
  clear F C he hq
  go_region_held3 (fun w' => w'.cell? ⟨w.heap.size, 0, none⟩ = some (.int .i64 9) ∧ w'.cell? ⟨w.heap.size, 1, none⟩ = some (.int .i64 a) ∧ w'.cell? ⟨w.heap.size, 2, none⟩ = some (.int .i64 b) ∧ w'.cell? ⟨w.heap.size, 3, none⟩ = some (.int .i64 cc) ∧ w'.cell? ⟨w.heap.size, 4, none⟩ = some (.string s) ∧ w'.cell? ⟨w.heap.size, 5, none⟩ = some (.string t) ∧ w'.cell? ⟨w.heap.size + 1, 0, none⟩ = some (.int .i64 0))
    (first | (simp [go_sem, o0, o1, o2, o3, o4, o5, r0]; done) | exact ⟨by assumption, by assumption, by assumption, by assumption, by assumption, by assumption, by assumption⟩)
    (first | (go_at_call 57; refine (HO.out _).mono ?_; rintro e' w1 ⟨rfl, k1⟩; rw [HE.out]; have F1 : Hid _ := HF.out.drew.kept k1; have C1 : Hid _ := (HC.out.drew).trans k1; have i0 : w1.cell? ⟨w.heap.size, 0, none⟩ = some (.int .i64 9) := F1.out.o.cell 0; have i1 : w1.cell? ⟨w.heap.size, 1, none⟩ = some (.int .i64 a) := F1.out.o.cell 1; have i2 : w1.cell? ⟨w.heap.size, 2, none⟩ = some (.int .i64 b) := F1.out.o.cell 2; have i3 : w1.cell? ⟨w.heap.size, 3, none⟩ = some (.int .i64 cc) := F1.out.o.cell 3; have i4 : w1.cell? ⟨w.heap.size, 4, none⟩ = some (.string s) := F1.out.o.cell 4; have i5 : w1.cell? ⟨w.heap.size, 5, none⟩ = some (.string t) := F1.out.o.cell 5; have j0 : w1.cell? ⟨w.heap.size + 1, 0, none⟩ = some (.int .i64 0) := F1.out.r.cell 0; clear k1))
  have j1 : w1.cell? ⟨w.heap.size + 1, 1, none⟩ = some (.int .i64 c) := F1.out.r.cell 1
  have j2 : w1.cell? ⟨w.heap.size + 1, 2, none⟩ = some (.int .i64 0) := F1.out.r.cell 2
  have j3 : w1.cell? ⟨w.heap.size + 1, 3, none⟩ = some (.string ⟨#[]⟩) := F1.out.r.cell 3
  clear o0 o1 o2 o3 o4 o5 r0 HO HF HC HE
  go_wp2_with (first
    | (go_at_call_of 26 (Value.pointer (some ⟨p, 0, none⟩)); refine (clips_any p (c) (z) _ F1.out.q).mono ?_; rintro e' w5 ⟨rfl, rfl⟩)
    | (go_at_call 33; refine (nans_any p (c) (z) _ F1.out.q).mono ?_; rintro e' w5 ⟨rfl, rfl⟩))
  go_ret
  exact ⟨by simp, C1.out⟩

theorem kept_10 (p : Nat) (a b cc : Int) (s t : ByteArray) (c z : Int) (w : World) (hq : Cv w p (c) z) (he : owesI 10 a b = 0) (c0 : 0 ≤ c) (c1 : c ≤ 1152921504606846976) (z0 : 0 ≤ z) (z1 : z ≤ 1152921504606846976)  :
    Calls Tryd.prog 35 #[.pointer (some ⟨p, 0, none⟩), opV 10 a b cc s t, ansV 0 z 0 ⟨#[]⟩, .int .i64 c, .int .i64 z] w fun e w' => e = .returned (.bool true) ∧ Chg (fun _ => False) w w' := by
  obtain ⟨F, C⟩ := two hq 10 a b cc s t 0 z 0 ⟨#[]⟩
  unfold ansV
  have OW := owes_any 10 a b cc s t
  unfold opV at OW ⊢
  have HO : Hid _ := OW
  clear OW
  go_enter Tryd.func35, Tryd.ntmps35
  go_wp2
  generalize ((w.alloc (.cells #[.int .i64 10, .int .i64 a, .int .i64 b, .int .i64 cc, .string s, .string t] 42)).alloc (.cells #[.int .i64 0, .int .i64 z, .int .i64 0, .string ⟨#[]⟩] 39)) = W at F C ⊢
  have HF : Hid _ := F
  have HC : Hid _ := C
  have o0 : W.cell? ⟨w.heap.size, 0, none⟩ = some (.int .i64 10) := F.o.cell 0
  have o1 : W.cell? ⟨w.heap.size, 1, none⟩ = some (.int .i64 a) := F.o.cell 1
  have o2 : W.cell? ⟨w.heap.size, 2, none⟩ = some (.int .i64 b) := F.o.cell 2
  have o3 : W.cell? ⟨w.heap.size, 3, none⟩ = some (.int .i64 cc) := F.o.cell 3
  have o4 : W.cell? ⟨w.heap.size, 4, none⟩ = some (.string s) := F.o.cell 4
  have o5 : W.cell? ⟨w.heap.size, 5, none⟩ = some (.string t) := F.o.cell 5
  have r0 : W.cell? ⟨w.heap.size + 1, 0, none⟩ = some (.int .i64 0) := F.r.cell 0
  have HE : Hid _ := he
  clear F C he hq
  go_region_held3 (fun w' => w'.cell? ⟨w.heap.size, 0, none⟩ = some (.int .i64 10) ∧ w'.cell? ⟨w.heap.size, 1, none⟩ = some (.int .i64 a) ∧ w'.cell? ⟨w.heap.size, 2, none⟩ = some (.int .i64 b) ∧ w'.cell? ⟨w.heap.size, 3, none⟩ = some (.int .i64 cc) ∧ w'.cell? ⟨w.heap.size, 4, none⟩ = some (.string s) ∧ w'.cell? ⟨w.heap.size, 5, none⟩ = some (.string t) ∧ w'.cell? ⟨w.heap.size + 1, 0, none⟩ = some (.int .i64 0))
    (first | (simp [go_sem, o0, o1, o2, o3, o4, o5, r0]; done) | exact ⟨by assumption, by assumption, by assumption, by assumption, by assumption, by assumption, by assumption⟩)
    (first | (go_at_call 57; refine (HO.out _).mono ?_; rintro e' w1 ⟨rfl, k1⟩; rw [HE.out]; have F1 : Hid _ := HF.out.drew.kept k1; have C1 : Hid _ := (HC.out.drew).trans k1; have i0 : w1.cell? ⟨w.heap.size, 0, none⟩ = some (.int .i64 10) := F1.out.o.cell 0; have i1 : w1.cell? ⟨w.heap.size, 1, none⟩ = some (.int .i64 a) := F1.out.o.cell 1; have i2 : w1.cell? ⟨w.heap.size, 2, none⟩ = some (.int .i64 b) := F1.out.o.cell 2; have i3 : w1.cell? ⟨w.heap.size, 3, none⟩ = some (.int .i64 cc) := F1.out.o.cell 3; have i4 : w1.cell? ⟨w.heap.size, 4, none⟩ = some (.string s) := F1.out.o.cell 4; have i5 : w1.cell? ⟨w.heap.size, 5, none⟩ = some (.string t) := F1.out.o.cell 5; have j0 : w1.cell? ⟨w.heap.size + 1, 0, none⟩ = some (.int .i64 0) := F1.out.r.cell 0; clear k1))
  have j1 : w1.cell? ⟨w.heap.size + 1, 1, none⟩ = some (.int .i64 z) := F1.out.r.cell 1
  have j2 : w1.cell? ⟨w.heap.size + 1, 2, none⟩ = some (.int .i64 0) := F1.out.r.cell 2
  have j3 : w1.cell? ⟨w.heap.size + 1, 3, none⟩ = some (.string ⟨#[]⟩) := F1.out.r.cell 3
  clear o0 o1 o2 o3 o4 o5 r0 HO HF HC HE
  go_wp2_with (first
    | (go_at_call_of 26 (Value.pointer (some ⟨p, 0, none⟩)); refine (clips_any p (c) (z) _ F1.out.q).mono ?_; rintro e' w5 ⟨rfl, rfl⟩)
    | (go_at_call 33; refine (nans_any p (c) (z) _ F1.out.q).mono ?_; rintro e' w5 ⟨rfl, rfl⟩))
  go_ret
  exact ⟨by simp, C1.out⟩

theorem kept_0 (p : Nat) (kd : Int) (a b cc : Int) (s t : ByteArray) (c z : Int) (w : World) (hq : Cv w p (c) z) (he : owesI kd a b = 0) (c0 : 0 ≤ c) (c1 : c ≤ 1152921504606846976) (z0 : 0 ≤ z) (z1 : z ≤ 1152921504606846976) (u : ByteArray) (n : Int) (h1 : kd ≠ 1) (h2 : kd ≠ 2) (h4 : kd ≠ 4) (h3 : kd ≠ 3) (h5 : kd ≠ 5) (h6 : kd ≠ 6) (h9 : kd ≠ 9) (h10 : kd ≠ 10) :
    Calls Tryd.prog 35 #[.pointer (some ⟨p, 0, none⟩), opV kd a b cc s t, ansV 0 n 0 u, .int .i64 c, .int .i64 z] w fun e w' => e = .returned (.bool true) ∧ Chg (fun _ => False) w w' := by
  have k1 : (kd == 1) = false := by simpa using h1
  have k2 : (kd == 2) = false := by simpa using h2
  have k4 : (kd == 4) = false := by simpa using h4
  have k3 : (kd == 3) = false := by simpa using h3
  have k5 : (kd == 5) = false := by simpa using h5
  have k6 : (kd == 6) = false := by simpa using h6
  have k9 : (kd == 9) = false := by simpa using h9
  have k10 : (kd == 10) = false := by simpa using h10
  clear h1 h2 h4 h3 h5 h6 h9 h10
  obtain ⟨F, C⟩ := two hq kd a b cc s t 0 n 0 u
  unfold ansV
  have OW := owes_any kd a b cc s t
  unfold opV at OW ⊢
  have HO : Hid _ := OW
  clear OW
  go_enter Tryd.func35, Tryd.ntmps35
  go_wp2
  generalize ((w.alloc (.cells #[.int .i64 kd, .int .i64 a, .int .i64 b, .int .i64 cc, .string s, .string t] 42)).alloc (.cells #[.int .i64 0, .int .i64 n, .int .i64 0, .string u] 39)) = W at F C ⊢
  have HF : Hid _ := F
  have HC : Hid _ := C
  have o0 : W.cell? ⟨w.heap.size, 0, none⟩ = some (.int .i64 kd) := F.o.cell 0
  have o1 : W.cell? ⟨w.heap.size, 1, none⟩ = some (.int .i64 a) := F.o.cell 1
  have o2 : W.cell? ⟨w.heap.size, 2, none⟩ = some (.int .i64 b) := F.o.cell 2
  have o3 : W.cell? ⟨w.heap.size, 3, none⟩ = some (.int .i64 cc) := F.o.cell 3
  have o4 : W.cell? ⟨w.heap.size, 4, none⟩ = some (.string s) := F.o.cell 4
  have o5 : W.cell? ⟨w.heap.size, 5, none⟩ = some (.string t) := F.o.cell 5
  have r0 : W.cell? ⟨w.heap.size + 1, 0, none⟩ = some (.int .i64 0) := F.r.cell 0
  have HE : Hid _ := he
  clear F C he hq
  go_region_held3 (fun w' => w'.cell? ⟨w.heap.size, 0, none⟩ = some (.int .i64 kd) ∧ w'.cell? ⟨w.heap.size, 1, none⟩ = some (.int .i64 a) ∧ w'.cell? ⟨w.heap.size, 2, none⟩ = some (.int .i64 b) ∧ w'.cell? ⟨w.heap.size, 3, none⟩ = some (.int .i64 cc) ∧ w'.cell? ⟨w.heap.size, 4, none⟩ = some (.string s) ∧ w'.cell? ⟨w.heap.size, 5, none⟩ = some (.string t) ∧ w'.cell? ⟨w.heap.size + 1, 0, none⟩ = some (.int .i64 0))
    (first | (simp [go_sem, o0, o1, o2, o3, o4, o5, r0]; done) | exact ⟨by assumption, by assumption, by assumption, by assumption, by assumption, by assumption, by assumption⟩)
    (first | (go_at_call 57; refine (HO.out _).mono ?_; rintro e' w1 ⟨rfl, k1⟩; rw [HE.out]; have F1 : Hid _ := HF.out.drew.kept k1; have C1 : Hid _ := (HC.out.drew).trans k1; have i0 : w1.cell? ⟨w.heap.size, 0, none⟩ = some (.int .i64 kd) := F1.out.o.cell 0; have i1 : w1.cell? ⟨w.heap.size, 1, none⟩ = some (.int .i64 a) := F1.out.o.cell 1; have i2 : w1.cell? ⟨w.heap.size, 2, none⟩ = some (.int .i64 b) := F1.out.o.cell 2; have i3 : w1.cell? ⟨w.heap.size, 3, none⟩ = some (.int .i64 cc) := F1.out.o.cell 3; have i4 : w1.cell? ⟨w.heap.size, 4, none⟩ = some (.string s) := F1.out.o.cell 4; have i5 : w1.cell? ⟨w.heap.size, 5, none⟩ = some (.string t) := F1.out.o.cell 5; have j0 : w1.cell? ⟨w.heap.size + 1, 0, none⟩ = some (.int .i64 0) := F1.out.r.cell 0; clear k1))
  have j1 : w1.cell? ⟨w.heap.size + 1, 1, none⟩ = some (.int .i64 n) := F1.out.r.cell 1
  have j2 : w1.cell? ⟨w.heap.size + 1, 2, none⟩ = some (.int .i64 0) := F1.out.r.cell 2
  have j3 : w1.cell? ⟨w.heap.size + 1, 3, none⟩ = some (.string u) := F1.out.r.cell 3
  clear o0 o1 o2 o3 o4 o5 r0 HO HF HC HE
  go_wp2_with (first
    | (go_at_call_of 26 (Value.pointer (some ⟨p, 0, none⟩)); refine (clips_any p (c) (z) _ F1.out.q).mono ?_; rintro e' w5 ⟨rfl, rfl⟩)
    | (go_at_call 33; refine (nans_any p (c) (z) _ F1.out.q).mono ?_; rintro e' w5 ⟨rfl, rfl⟩))
  go_ret
  exact ⟨by simp, C1.out⟩

end Go.Proofs.Qxb6500378aDoor

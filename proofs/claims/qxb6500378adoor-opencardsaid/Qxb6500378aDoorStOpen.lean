/- OpenUpTo, Open. -/
import Derived.Test.Qxb6500378aDoorStOwed
import Derived.Test.Qxb6500378aDoorStRefine
import Derived.Deep.RegionHeld3
namespace Go.Proofs.Qxb6500378aDoor
set_option linter.unusedVariables false
set_option linter.unusedSimpArgs false
set_option maxHeartbeats 4000000
set_option maxRecDepth 100000
open Go.RowKit Go.Qu Ieee

/-- a fast step answers something that Owed takes -/
theorem dofast_ok (p : Nat) (kd a b cc : Int) (s t : ByteArray) (w : World) (ha : I64 a) :
    Calls Tryd.prog 39 #[.pointer (some ⟨p, 0, none⟩), .agg #[.int .i64 kd, .int .i64 a, .int .i64 b, .int .i64 cc, .string s, .string t]] w fun e w' => ∃ fe fn : Int, e = .returned (.agg #[.int .i64 fe, .int .i64 fn, .int .i64 0, .string ⟨#[]⟩]) ∧
      (∀ w, Calls Tryd.prog 40 #[.agg #[.int .i64 kd, .int .i64 a, .int .i64 b, .int .i64 cc, .string s, .string t], .agg #[.int .i64 fe, .int .i64 fn, .int .i64 0, .string ⟨#[]⟩]] w fun e w' => e = .returned (.bool true) ∧ Chg (fun _ => False) w w') ∧ Chg (fun _ => False) w w' := by
  by_cases h21 : kd = 21
  · subst h21; exact (dofast_21 p a b cc s t w ha).mono fun e w' ⟨n, he, hF, hw⟩ => ⟨0, n, he, fun w => owed_21 a b cc s t n w ha hF, hw⟩
  by_cases h22 : kd = 22
  · subst h22; exact (dofast_22 p a b cc s t w ha).mono fun e w' ⟨n, he, hF, hw⟩ => ⟨0, n, he, fun w => owed_22 a b cc s t n w ha hF, hw⟩
  by_cases h23 : kd = 23
  · subst h23; exact (dofast_23 p a b cc s t w ha).mono fun e w' ⟨n, he, hF, hw⟩ => ⟨0, n, he, fun w => owed_23 a b cc s t n w ha hF, hw⟩
  by_cases h24 : kd = 24
  · subst h24; exact (dofast_24 p a b cc s t w ha).mono fun e w' ⟨n, he, hF, hw⟩ => ⟨0, n, he, fun w => owed_24 a b cc s t n w ha hF, hw⟩
  by_cases h26 : kd = 26
  · subst h26; exact (dofast_26 p a b cc s t w ha).mono fun e w' ⟨n, he, hF, hw⟩ => ⟨0, n, he, fun w => owed_26 a b cc s t n w ha hF, hw⟩
  by_cases h25 : kd = 25
  · subst h25; exact (dofast_25 p a b cc s t w ha).mono fun e w' ⟨e', n, he, hF, hw⟩ => ⟨e', n, he, fun w => owed_25 a b cc s t e' n w hF, hw⟩
  exact (dofast_0 p kd a b cc s t w h21 h22 h23 h24 h25 h26).mono fun e w' ⟨he, hw⟩ => ⟨0, 0, he, fun w => owed_0 kd a b cc s t w h21 h22 h23 h24 h25 h26, hw⟩

theorem openUpTo_some (b off len cap : Nat) (w : World) (hs : Script w b off len) (hl : len ≤ maxLen) (ht : Tab w) :
    Calls Tryd.prog 20 #[.slice (some ⟨b, off, none⟩) len cap] w fun e w' => e = .returned (.int .i64 (-1)) ∧ Chg (fun _ => False) w w' := by
  unfold maxLen at hl
  have HS : Hid (Script w b off len) := hs
  have HT : Hid (Tab w) := ht
  clear hs ht
  go_enter Tryd.func20, Tryd.ntmps20
  go_wp2_with fail
  refine (new_any _).mono ?_; rintro e w0 ⟨rfl, q0, s0, c0⟩
  have Q0 : Hid (Cv w0 w.heap.size 0 0) := q0
  have C0 : Hid (Chg (fun _ => False) w w0) := c0
  have S0 : Hid (w.heap.size < w0.heap.size) := s0
  clear q0 s0 c0
  go_wp2_with fail
  refine (newm_any _).mono ?_; rintro e w1 ⟨rfl, q1, s1, c1⟩
  have Q1 : Hid (Two w1 w.heap.size w0.heap.size 0 0) := ⟨Has.kept Q0.out c1 (fun h => h), q1, Nat.ne_of_lt S0.out⟩
  have C1 : Hid (Chg (fun _ => False) w w1) := C0.out.trans c1
  clear q1 s1 c1
  obtain ⟨P, hP⟩ : ∃ P : Nat, w.heap.size = P := ⟨_, rfl⟩
  obtain ⟨M, hM⟩ : ∃ M : Nat, w0.heap.size = M := ⟨_, rfl⟩
  have HP : Hid (w.heap.size = P ∧ w.heap.size ≤ M) := ⟨hP, by have := C0.out.size; omega⟩
  rw [hP, hM] at Q1 ⊢
  clear S0 Q0 C0 hP hM
  go_wp2_with fail
  have Q2 : Hid (Two w1 P M 0 0) := Q1.out
  have C2 : Hid (Chg (fun _ => False) w w1) := C1.out
  clear Q1 C1
  go_loopg [5] len (fun gk i wr => ∃ k : Nat, k ≤ len ∧ gk = len - k ∧ (k : Int) ≤ 4398046511104 ∧ i = .int .i64 k ∧ ∃ c z : Int, Two wr P M c z ∧ 0 ≤ c ∧ c ≤ k ∧ 0 ≤ z ∧ z ≤ k ∧ Chg (fun _ => False) w wr)
  case atStart => exact ⟨0, by omega, by omega, by omega, rfl, 0, 0, Q2.out, by omega, by omega, by omega, by omega, C2.out⟩
  case round =>
    obtain ⟨k, hk, rfl, hk2, rfl, c, z, hq, c0, c1, z0, z1, hC⟩ := hrel
    obtain ⟨j, hj⟩ : ∃ j : Int, (k : Int) = j := ⟨_, rfl⟩
    have HJ : Hid ((k : Int) = j ∧ k ≤ len) := ⟨hj, hk⟩
    have j0 : 0 ≤ j := by omega
    have j1 : j ≤ 9223372036854775806 := by omega
    rw [hj] at c1 z1 ⊢
    have j2 : j ≤ 4398046511104 := by omega
    clear hk hk2 hj hl
    have HQ : Hid (Two wr P M c z) := hq
    have HC : Hid (Chg (fun _ => False) w wr) := hC
    clear hq hC
    by_cases hkl : k < len
    · obtain ⟨kd, x, y, cc, s, t, hop⟩ := (Script.kept HS.out HC.out (fun h => h)) k hkl
      obtain ⟨_, _, _, _, _, _, h0⟩ := HS.out k hkl
      have hbw : b < w.heap.size := World.block_lt_of_cell? w _ h0.c0
      clear h0
      have ek : k = j.toNat := by have := HJ.out.1; omega
      rw [ek] at hop
      have d0 := hop.c0
      have d1 := hop.c1
      have d2 := hop.c2
      have d3 := hop.c3
      have d4 := hop.c4
      have d5 := hop.c5
      have D := fun w' (hq : Cv w' P c z) (ht : Tab w') => do_any P kd x y cc s t c z w' hop.x hq ⟨by omega, by omega⟩ ⟨by omega, by omega⟩ ht
      have DM := fun w' (hq : Cm w' M c z) => dom_any M kd x y cc s t c z w' hop.x hq ⟨by omega, by omega⟩ ⟨by omega, by omega⟩
      obtain ⟨g1, g2, g3, -, -⟩ := stepO_counts kd x y c z
      generalize (stepO kd x y c z).e = E at D DM
      generalize (stepO kd x y c z).n = N at D DM
      generalize (stepO kd x y c z).k = L at D DM
      generalize stepS kd c z = U at D DM
      generalize (stepO kd x y c z).dc = dc at D DM g1 g3
      generalize (stepO kd x y c z).dz = dz at D DM g2 g3
      unfold opV ansV at D DM
      have HFA : Hid (∀ w', _) := fun w' => dofast_ok P kd x y cc s t w' hop.x
      have hjl : j < (len : Int) := by have := HJ.out.1; omega
      have HO : Hid (OpAt wr b (off + j.toNat * 6) kd x y cc s t) := hop
      have HD : Hid _ := D
      have HM : Hid _ := DM
      have HN : Hid (b < w.heap.size ∧ k < len) := ⟨hbw, hkl⟩
      clear hop D DM hbw hkl ek
      go_wp2_with fail
      · refine (HD.out _ HQ.out.x (HT.out.nil HC.out)).mono ?_; rintro e w3 ⟨rfl, q3, k3⟩
        have hp := HP.out
        have hn := HN.out
        have C3 : Hid (Chg (fun _ => False) w w3) := chg_new HC.out k3 (by omega)
        have o3 : OpAt w3 b (off + j.toNat * 6) kd x y cc s t := HO.out.kept k3 (by omega)
        have Q3 : Hid (Cv w3 P (c + dc) (z + dz)) := q3
        have M3 : Hid (Cm w3 M c z) := HQ.out.m.kept k3 (fun e => HQ.out.ne e.symm)
        have O3 : Hid (OpAt w3 b (off + j.toNat * 6) kd x y cc s t) := o3
        have o4 : OpAt (w3.alloc (.cells #[.int .i64 E, .int .i64 N, .int .i64 L, .string U] 39)) b (off + j.toNat * 6) kd x y cc s t := o3.kept ((Chg.refl (fun _ => False) w3).alloc _) (fun h => h)
        have d0 := o4.c0
        have d1 := o4.c1
        have d2 := o4.c2
        have d3 := o4.c3
        have d4 := o4.c4
        have d5 := o4.c5
        have O4 : Hid (OpAt (w3.alloc (.cells #[.int .i64 E, .int .i64 N, .int .i64 L, .string U] 39)) b (off + j.toNat * 6) kd x y cc s t) := o4
        have C4 : Hid (Chg (fun _ => False) w (w3.alloc (.cells #[.int .i64 E, .int .i64 N, .int .i64 L, .string U] 39))) := C3.out.alloc _
        have Q4 : Hid (Cv (w3.alloc (.cells #[.int .i64 E, .int .i64 N, .int .i64 L, .string U] 39)) P (c + dc) (z + dz)) := Has.alloc Q3.out _
        have M4 : Hid (Cm (w3.alloc (.cells #[.int .i64 E, .int .i64 N, .int .i64 L, .string U] 39)) M c z) := Has.alloc M3.out _
        have R4 : Hid (Has 39 (w3.alloc (.cells #[.int .i64 E, .int .i64 N, .int .i64 L, .string U] 39)) w3.heap.size [.int .i64 E, .int .i64 N, .int .i64 L, .string U]) := Has.new _ _ _
        clear k3 q3 o3 hp hn o4
        go_wp2_with fail
        refine (HM.out _ M4.out).mono ?_; rintro e w5 ⟨rfl, q5, k5⟩
        have hp := HP.out
        have hn := HN.out
        have hs3 := C3.out.size
        have hm3 : M < w3.heap.size := Has.lt M3.out
        have C5 : Hid (Chg (fun _ => False) w w5) := chg_new C4.out k5 (by omega)
        have T5 : Hid (Two w5 P M (c + dc) (z + dz)) := ⟨Has.kept Q4.out k5 (fun e => HQ.out.ne e), q5, HQ.out.ne⟩
        have r5 : Has 39 w5 w3.heap.size [.int .i64 E, .int .i64 N, .int .i64 L, .string U] := Has.kept R4.out k5 (by omega)
        have R6 : Has 39 (w5.alloc (.cells #[.int .i64 E, .int .i64 N, .int .i64 L, .string U] 39)) w3.heap.size [.int .i64 E, .int .i64 N, .int .i64 L, .string U] := r5.alloc _
        have S6 : Has 39 (w5.alloc (.cells #[.int .i64 E, .int .i64 N, .int .i64 L, .string U] 39)) w5.heap.size [.int .i64 E, .int .i64 N, .int .i64 L, .string U] := Has.new _ _ _
        have o5 : OpAt w5 b (off + j.toNat * 6) kd x y cc s t := O4.out.kept k5 (by omega)
        have o6 : OpAt (w5.alloc (.cells #[.int .i64 E, .int .i64 N, .int .i64 L, .string U] 39)) b (off + j.toNat * 6) kd x y cc s t := o5.kept ((Chg.refl (fun _ => False) w5).alloc _) (fun h => h)
        have O6 : Hid (OpAt (w5.alloc (.cells #[.int .i64 E, .int .i64 N, .int .i64 L, .string U] 39)) b (off + j.toNat * 6) kd x y cc s t) := o6
        have e0 := o6.c0
        have e1 := o6.c1
        have e2 := o6.c2
        have e3 := o6.c3
        have e4 := o6.c4
        have e5 := o6.c5
        have C6 : Hid (Chg (fun _ => False) w (w5.alloc (.cells #[.int .i64 E, .int .i64 N, .int .i64 L, .string U] 39))) := C5.out.alloc _
        have T6 : Hid (Two (w5.alloc (.cells #[.int .i64 E, .int .i64 N, .int .i64 L, .string U] 39)) P M (c + dc) (z + dz)) := T5.out.kept ((Chg.refl _ _).alloc _)
        have v0 : (w5.alloc (.cells #[.int .i64 E, .int .i64 N, .int .i64 L, .string U] 39)).cell? ⟨w3.heap.size, 0, none⟩ = some (.int .i64 E) := R6.cell 0
        have v1 : (w5.alloc (.cells #[.int .i64 E, .int .i64 N, .int .i64 L, .string U] 39)).cell? ⟨w3.heap.size, 1, none⟩ = some (.int .i64 N) := R6.cell 1
        have v2 : (w5.alloc (.cells #[.int .i64 E, .int .i64 N, .int .i64 L, .string U] 39)).cell? ⟨w3.heap.size, 2, none⟩ = some (.int .i64 L) := R6.cell 2
        have v3 : (w5.alloc (.cells #[.int .i64 E, .int .i64 N, .int .i64 L, .string U] 39)).cell? ⟨w3.heap.size, 3, none⟩ = some (.string U) := R6.cell 3
        have v4 : (w5.alloc (.cells #[.int .i64 E, .int .i64 N, .int .i64 L, .string U] 39)).cell? ⟨w5.heap.size, 0, none⟩ = some (.int .i64 E) := S6.cell 0
        have v5 : (w5.alloc (.cells #[.int .i64 E, .int .i64 N, .int .i64 L, .string U] 39)).cell? ⟨w5.heap.size, 1, none⟩ = some (.int .i64 N) := S6.cell 1
        have v6 : (w5.alloc (.cells #[.int .i64 E, .int .i64 N, .int .i64 L, .string U] 39)).cell? ⟨w5.heap.size, 2, none⟩ = some (.int .i64 L) := S6.cell 2
        have v7 : (w5.alloc (.cells #[.int .i64 E, .int .i64 N, .int .i64 L, .string U] 39)).cell? ⟨w5.heap.size, 3, none⟩ = some (.string U) := S6.cell 3
        clear k5 q5 hp hn hs3 hm3 r5 R6 S6 d0 d1 d2 d3 d4 d5 o5 o6
        go_wp2_with fail
        refine (HFA.out _).mono ?_; rintro e w7 ⟨fe, fn, rfl, hfok, k7⟩
        have HOK : Hid (∀ w, Calls Tryd.prog 40 #[.agg #[.int .i64 kd, .int .i64 x, .int .i64 y, .int .i64 cc, .string s, .string t], .agg #[.int .i64 fe, .int .i64 fn, .int .i64 0, .string ⟨#[]⟩]] w fun e w' => e = .returned (.bool true) ∧ Chg (fun _ => False) w w') := hfok
        have C7 : Hid (Chg (fun _ => False) w w7) := C6.out.trans k7
        have T7 : Hid (Two w7 P M (c + dc) (z + dz)) := T6.out.kept k7
        have o7 : OpAt w7 b (off + j.toNat * 6) kd x y cc s t := O6.out.kept k7 (fun h => h)
        have C8 : Hid (Chg (fun _ => False) w (w7.alloc (.cells #[.int .i64 fe, .int .i64 fn, .int .i64 0, .string ⟨#[]⟩] 39))) := C7.out.alloc _
        have T8 : Hid (Two (w7.alloc (.cells #[.int .i64 fe, .int .i64 fn, .int .i64 0, .string ⟨#[]⟩] 39)) P M (c + dc) (z + dz)) := T7.out.kept ((Chg.refl _ _).alloc _)
        have o8 : OpAt (w7.alloc (.cells #[.int .i64 fe, .int .i64 fn, .int .i64 0, .string ⟨#[]⟩] 39)) b (off + j.toNat * 6) kd x y cc s t := o7.kept ((Chg.refl (fun _ => False) w7).alloc _) (fun h => h)
        have R8 : Has 39 (w7.alloc (.cells #[.int .i64 fe, .int .i64 fn, .int .i64 0, .string ⟨#[]⟩] 39)) w7.heap.size [.int .i64 fe, .int .i64 fn, .int .i64 0, .string ⟨#[]⟩] := Has.new _ _ _
        clear hfok k7 o7 v0 v1 v2 v3 v4 v5 v6 v7
        go_wp2_with fail
        generalize (w7.alloc (.cells #[.int .i64 fe, .int .i64 fn, .int .i64 0, .string ⟨#[]⟩] 39)) = W8 at C8 T8 o8 R8 ⊢
        have d0 := o8.c0
        have d1 := o8.c1
        have d2 := o8.c2
        have d3 := o8.c3
        have d4 := o8.c4
        have d5 := o8.c5
        have r0 : W8.cell? ⟨w7.heap.size, 0, none⟩ = some (.int .i64 fe) := R8.cell 0
        have r1 : W8.cell? ⟨w7.heap.size, 1, none⟩ = some (.int .i64 fn) := R8.cell 1
        have r2 : W8.cell? ⟨w7.heap.size, 2, none⟩ = some (.int .i64 0) := R8.cell 2
        have r3 : W8.cell? ⟨w7.heap.size, 3, none⟩ = some (.string ⟨#[]⟩) := R8.cell 3
        have O8 : Hid (OpAt W8 b (off + j.toNat * 6) kd x y cc s t) := o8
        have HR8 : Hid (Has 39 W8 w7.heap.size [.int .i64 fe, .int .i64 fn, .int .i64 0, .string ⟨#[]⟩]) := R8
        clear o8 R8
        go_region_held3 (fun w' => w'.cell? ⟨b, off + j.toNat * 6, none⟩ = some (.int .i64 kd) ∧ w'.cell? ⟨b, off + j.toNat * 6 + 1, none⟩ = some (.int .i64 x) ∧ w'.cell? ⟨b, off + j.toNat * 6 + 2, none⟩ = some (.int .i64 y) ∧ w'.cell? ⟨b, off + j.toNat * 6 + 3, none⟩ = some (.int .i64 cc) ∧ w'.cell? ⟨b, off + j.toNat * 6 + 4, none⟩ = some (.string s) ∧ w'.cell? ⟨b, off + j.toNat * 6 + 5, none⟩ = some (.string t) ∧ w'.cell? ⟨w7.heap.size, 0, none⟩ = some (.int .i64 fe) ∧ w'.cell? ⟨w7.heap.size, 1, none⟩ = some (.int .i64 fn) ∧ w'.cell? ⟨w7.heap.size, 2, none⟩ = some (.int .i64 0) ∧ w'.cell? ⟨w7.heap.size, 3, none⟩ = some (.string ⟨#[]⟩))
          (first | (simp [go_sem, d0, d1, d2, d3, d4, d5, r0, r1, r2, r3]; done) | exact ⟨by assumption, by assumption, by assumption, by assumption, by assumption, by assumption, by assumption, by assumption, by assumption, by assumption⟩)
          (first | (go_at_call 40; refine (HOK.out _).mono ?_; rintro e w9 ⟨rfl, k9⟩; have C9 : Hid (Chg (fun _ => False) w w9) := C8.out.drew.trans k9; have T9 : Hid (Two w9 P M (c + dc) (z + dz)) := T8.out.kept ((Chg.refl (fun _ => False) W8).drew.trans k9); have o9 : OpAt w9 b (off + j.toNat * 6) kd x y cc s t := O8.out.kept ((Chg.refl (fun _ => False) W8).drew.trans k9) (fun h => h); have R9 : Has 39 w9 w7.heap.size [.int .i64 fe, .int .i64 fn, .int .i64 0, .string ⟨#[]⟩] := Has.kept (Has.drew HR8.out) k9 (fun h => h); have i0 := o9.c0; have i1 := o9.c1; have i2 := o9.c2; have i3 := o9.c3; have i4 := o9.c4; have i5 := o9.c5; have l0 : w9.cell? ⟨w7.heap.size, 0, none⟩ = some (.int .i64 fe) := R9.cell 0; have l1 : w9.cell? ⟨w7.heap.size, 1, none⟩ = some (.int .i64 fn) := R9.cell 1; have l2 : w9.cell? ⟨w7.heap.size, 2, none⟩ = some (.int .i64 0) := R9.cell 2; have l3 : w9.cell? ⟨w7.heap.size, 3, none⟩ = some (.string ⟨#[]⟩) := R9.cell 3; clear k9 o9 R9))
        go_wp2_with fail
        refine (seen_true P M (c + dc) (z + dz) _ T9.out ⟨by omega, by omega⟩ ⟨by omega, by omega⟩ (HT.out.nil C9.out)).mono ?_; rintro e wA ⟨rfl, hA, kA⟩
        have TA : Hid (Two wA P M (c + dc) (z + dz)) := hA
        have CA : Hid (Chg (fun _ => False) w wA) := (C9.out.nil.trans (kA.up (B := w.heap.size) (by rintro k (e | e) <;> have := HP.out <;> omega))).mono (fun k hk e => by omega)
        clear hA kA
        go_wp2_with fail
        have h42 : j < 4398046511104 := by assumption
        have hj := HJ.out.1
        have hn := HN.out.2
        go_roundg (len - (k + 1))
        case measure => omega
        case rel => exact ⟨k + 1, by omega, rfl, by omega, by rw [show ((k + 1 : Nat) : Int) = j + 1 by omega], c + dc, z + dz, TA.out, by omega, by omega, by omega, by omega, CA.out⟩
      · go_ret
        exact ⟨rfl, HC.out⟩
    · have hjl : ¬ j < (len : Int) := by have := HJ.out.1; omega
      go_wp2_with fail
      go_ret
      exact ⟨rfl, HC.out⟩

theorem openUpTo_none (a : Option Addr) (cap : Nat) (w : World) (ht : Tab w) :
    Calls Tryd.prog 20 #[.slice a 0 cap] w fun e w' => e = .returned (.int .i64 (-1)) ∧ Chg (fun _ => False) w w' := by
  go_enter Tryd.func20, Tryd.ntmps20
  go_wp2_with fail
  refine (new_any _).mono ?_; rintro e w0 ⟨rfl, q0, s0, c0⟩
  have C0 : Hid (Chg (fun _ => False) w w0) := c0
  clear q0 s0 c0
  go_wp2_with fail
  refine (newm_any _).mono ?_; rintro e w1 ⟨rfl, q1, s1, c1⟩
  have C1 : Hid (Chg (fun _ => False) w w1) := C0.out.trans c1
  clear q1 s1 c1
  go_wp2_with fail
  go_loopg [5] 0 (fun gk i wr => i = .int .i64 0 ∧ Chg (fun _ => False) w wr)
  case atStart => exact ⟨rfl, C1.out⟩
  case round =>
    obtain ⟨rfl, hC⟩ := hrel
    have HC : Hid (Chg (fun _ => False) w wr) := hC
    clear hC
    go_wp2_with fail
    go_ret
    exact ⟨rfl, HC.out⟩

theorem openUpTo_any (a : Option Addr) (len cap : Nat) (w : World) (hl : len ≤ maxLen) (hs : 0 < len → ∃ b off, a = some ⟨b, off, none⟩ ∧ Script w b off len) (ht : Tab w) :
    Calls Tryd.prog 20 #[.slice a len cap] w fun e w' => e = .returned (.int .i64 (-1)) ∧ Chg (fun _ => False) w w' := by
  rcases Nat.eq_zero_or_pos len with h | h
  · subst h; exact openUpTo_none a cap w ht
  · obtain ⟨b, off, rfl, h1⟩ := hs h
    exact openUpTo_some b off len cap w h1 hl ht
theorem open_walk (a : Option Addr) (len cap : Nat) (w : World) (hl : len ≤ maxLen) (hs : 0 < len → ∃ b off, a = some ⟨b, off, none⟩ ∧ Script w b off len) (ht : Tab w) :
    Calls Tryd.prog 6 #[.slice a len cap] w fun e w' => e = .returned (.bool true) ∧ Below w.heap.size w w' := by
  have H1 : Hid (len ≤ maxLen) := hl
  have H2 : Hid (0 < len → ∃ b off, a = some ⟨b, off, none⟩ ∧ Script w b off len) := hs
  have H3 : Hid (Tab w) := ht
  clear hl hs ht
  go_enter Tryd.func6, Tryd.ntmps6
  go_wp2_with fail
  refine (openUpTo_any a len cap w H1.out H2.out H3.out).mono ?_; rintro e w1 ⟨rfl, k1⟩
  have C1 : Hid (Chg (fun _ => False) w w1) := k1
  clear k1
  go_wp2_with fail
  go_ret
  exact ⟨rfl, C1.out.nil.fin⟩
end Go.Proofs.Qxb6500378aDoor

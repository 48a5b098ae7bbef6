/- KeepsUpTo: the loop. -/
import Derived.Test.Qxb6500378aDoorStK3
import Derived.Test.Qxb6500378aDoorStRow
import Derived.Deep.LoopGhost
namespace Go.Proofs.Qxb6500378aDoor
set_option linter.unusedVariables false
set_option linter.unusedSimpArgs false
set_option maxHeartbeats 4000000
set_option maxRecDepth 100000
open Go.RowKit Go.Qu Ieee

theorem keepsUpTo_some (b off len cap : Nat) (w : World) (hs : Script w b off len) (hl : len ≤ maxLen) (ht : Tab w) :
    Calls Tryd.prog 17 #[.slice (some ⟨b, off, none⟩) len cap] w fun e w' => e = .returned (.int .i64 (-1)) ∧ Chg (fun _ => False) w w' := by
  unfold maxLen at hl
  have HS : Hid (Script w b off len) := hs
  have HT : Hid (Tab w) := ht
  clear hs ht
  go_enter Tryd.func17, Tryd.ntmps17
  go_wp2_with fail
  refine (new_any _).mono ?_; rintro e w0 ⟨rfl, q0, s0, c0⟩
  have Q0 : Hid (Cv w0 w.heap.size 0 0) := q0
  have C0 : Hid (Chg (fun _ => False) w w0) := c0
  clear q0 s0 c0
  go_wp2_with fail
  go_loopg [4] len (fun gk i wr => ∃ k : Nat, k ≤ len ∧ gk = len - k ∧ (k : Int) ≤ 4398046511104 ∧ i = .int .i64 k ∧ ∃ c z : Int, Cv wr w.heap.size c z ∧ 0 ≤ c ∧ c ≤ k ∧ 0 ≤ z ∧ z ≤ k ∧ Chg (fun _ => False) w wr)
  case atStart => exact ⟨0, by omega, by omega, by omega, rfl, 0, 0, Q0.out, by omega, by omega, by omega, by omega, C0.out⟩
  case round =>
    obtain ⟨k, hk, rfl, hk2, rfl, c, z, hq, c0, c1, z0, z1, hC⟩ := hrel
    obtain ⟨j, hj⟩ : ∃ j : Int, (k : Int) = j := ⟨_, rfl⟩
    have HJ : Hid ((k : Int) = j ∧ k ≤ len) := ⟨hj, hk⟩
    have j0 : 0 ≤ j := by omega
    have j1 : j ≤ 9223372036854775806 := by omega
    rw [hj] at c1 z1 ⊢
    clear hk hk2 hj hl
    have HQ : Hid (Cv wr w.heap.size c z) := hq
    have HC : Hid (Chg (fun _ => False) w wr) := hC
    clear hq hC
    go_wp2_with fail
    · have hjl : j < (len : Int) := by assumption
      have hkl : k < len := by have := HJ.out.1; omega
      obtain ⟨kd, x, y, cc, s, t, hop⟩ := (Script.kept HS.out HC.out (fun h => h)) k hkl
      obtain ⟨_, _, _, _, _, _, h0⟩ := HS.out k hkl
      have hbw : b < w.heap.size := World.block_lt_of_cell? w _ h0.c0
      clear h0
      have ek : k = j.toNat := by have := HJ.out.1; omega
      rw [ek] at hop
      have d0 := hop.c0
      have d1 := hop.c1
      have d2 := hop.c2
      have d3 := hop.c3
      have d4 := hop.c4
      have d5 := hop.c5
      have D := fun w' (hq : Cv w' w.heap.size c z) (ht : Tab w') => do_any w.heap.size kd x y cc s t c z w' hop.x hq ⟨by omega, by omega⟩ ⟨by omega, by omega⟩ ht
      have KP := fun w' (hq : Cv w' w.heap.size (c + (stepO kd x y c z).dc) (z + (stepO kd x y c z).dz)) => kept_any w.heap.size kd x y cc s t c z w' hop.x hop.y hq (by omega) (by omega) (by omega) (by omega)
      obtain ⟨g1, g2, g3, -, -⟩ := stepO_counts kd x y c z
      generalize (stepO kd x y c z).e = E at D KP
      generalize (stepO kd x y c z).n = N at D KP
      generalize (stepO kd x y c z).k = M at D KP
      generalize stepS kd c z = U at D KP
      generalize (stepO kd x y c z).dc = dc at D KP g1 g3
      generalize (stepO kd x y c z).dz = dz at D KP g2 g3
      unfold opV ansV at D KP
      have HO : Hid (OpAt wr b (off + j.toNat * 6) kd x y cc s t) := hop
      have HD : Hid _ := D
      have HK : Hid _ := KP
      clear hop D KP
      refine (clips_any w.heap.size c z _ HQ.out).mono ?_; rintro e w5 ⟨rfl, h2⟩; rw [h2]; clear h2 w5
      go_wp2_with fail
      refine (nans_any w.heap.size c z _ HQ.out).mono ?_; rintro e w5 ⟨rfl, h2⟩; rw [h2]; clear h2 w5
      go_wp2_with fail
      refine (HD.out _ HQ.out (HT.out.nil HC.out)).mono ?_; rintro e w1 ⟨rfl, q1, k1⟩
      have C1 : Hid (Chg (fun _ => False) w w1) := chg_fresh HC.out k1 (Nat.le_refl _)
      have O1 : Hid (OpAt w1 b (off + j.toNat * 6) kd x y cc s t) := HO.out.kept k1 (by omega)
      have Q1 : Hid (Cv w1 w.heap.size (c + dc) (z + dz)) := q1
      clear k1 q1 d0 d1 d2 d3 d4 d5
      go_wp2_with fail
      have C2 : Hid (Chg (fun _ => False) w (w1.alloc (.cells #[.int .i64 E, .int .i64 N, .int .i64 M, .string U] 39))) := C1.out.alloc _
      have o2 : OpAt (w1.alloc (.cells #[.int .i64 E, .int .i64 N, .int .i64 M, .string U] 39)) b (off + j.toNat * 6) kd x y cc s t := O1.out.kept ((Chg.refl (fun _ => False) w1).alloc _) (fun h => h)
      have Q2 : Hid (Cv (w1.alloc (.cells #[.int .i64 E, .int .i64 N, .int .i64 M, .string U] 39)) w.heap.size (c + dc) (z + dz)) := Has.alloc Q1.out _
      have R2 : Has 39 (w1.alloc (.cells #[.int .i64 E, .int .i64 N, .int .i64 M, .string U] 39)) w1.heap.size [.int .i64 E, .int .i64 N, .int .i64 M, .string U] := Has.new _ _ _
      generalize (w1.alloc (.cells #[.int .i64 E, .int .i64 N, .int .i64 M, .string U] 39)) = W2 at C2 o2 Q2 R2 ⊢
      have d0 := o2.c0
      have d1 := o2.c1
      have d2 := o2.c2
      have d3 := o2.c3
      have d4 := o2.c4
      have d5 := o2.c5
      have r0 : W2.cell? ⟨w1.heap.size, 0, none⟩ = some (.int .i64 E) := R2.cell 0
      have r1 : W2.cell? ⟨w1.heap.size, 1, none⟩ = some (.int .i64 N) := R2.cell 1
      have r2 : W2.cell? ⟨w1.heap.size, 2, none⟩ = some (.int .i64 M) := R2.cell 2
      have r3 : W2.cell? ⟨w1.heap.size, 3, none⟩ = some (.string U) := R2.cell 3
      have O2 : Hid (OpAt W2 b (off + j.toNat * 6) kd x y cc s t) := o2
      have HR2 : Hid (Has 39 W2 w1.heap.size [.int .i64 E, .int .i64 N, .int .i64 M, .string U]) := R2
      clear o2 R2
      go_region_held3 (fun w' => w'.cell? ⟨b, off + j.toNat * 6, none⟩ = some (.int .i64 kd) ∧ w'.cell? ⟨b, off + j.toNat * 6 + 1, none⟩ = some (.int .i64 x) ∧ w'.cell? ⟨b, off + j.toNat * 6 + 2, none⟩ = some (.int .i64 y) ∧ w'.cell? ⟨b, off + j.toNat * 6 + 3, none⟩ = some (.int .i64 cc) ∧ w'.cell? ⟨b, off + j.toNat * 6 + 4, none⟩ = some (.string s) ∧ w'.cell? ⟨b, off + j.toNat * 6 + 5, none⟩ = some (.string t) ∧ w'.cell? ⟨w1.heap.size, 0, none⟩ = some (.int .i64 E) ∧ w'.cell? ⟨w1.heap.size, 1, none⟩ = some (.int .i64 N) ∧ w'.cell? ⟨w1.heap.size, 2, none⟩ = some (.int .i64 M) ∧ w'.cell? ⟨w1.heap.size, 3, none⟩ = some (.string U))
        (first | (simp [go_sem, d0, d1, d2, d3, d4, d5, r0, r1, r2, r3]; done) | exact ⟨by assumption, by assumption, by assumption, by assumption, by assumption, by assumption, by assumption, by assumption, by assumption, by assumption⟩)
        (first | (go_at_call 35; refine (HK.out _ (by exact Has.drew Q2.out)).mono ?_; rintro e w3 ⟨rfl, k3⟩; have C3 : Hid (Chg (fun _ => False) w w3) := C2.out.drew.trans k3; have Q3 : Hid (Cv w3 w.heap.size (c + dc) (z + dz)) := Has.kept (Has.drew Q2.out) k3 (fun h => h); have o3 : OpAt w3 b (off + j.toNat * 6) kd x y cc s t := O2.out.kept ((Chg.refl (fun _ => False) W2).drew.trans k3) (fun h => h); have R3 : Has 39 w3 w1.heap.size [.int .i64 E, .int .i64 N, .int .i64 M, .string U] := Has.kept (Has.drew HR2.out) k3 (fun h => h); have i0 := o3.c0; have i1 := o3.c1; have i2 := o3.c2; have i3 := o3.c3; have i4 := o3.c4; have i5 := o3.c5; have l0 : w3.cell? ⟨w1.heap.size, 0, none⟩ = some (.int .i64 E) := R3.cell 0; have l1 : w3.cell? ⟨w1.heap.size, 1, none⟩ = some (.int .i64 N) := R3.cell 1; have l2 : w3.cell? ⟨w1.heap.size, 2, none⟩ = some (.int .i64 M) := R3.cell 2; have l3 : w3.cell? ⟨w1.heap.size, 3, none⟩ = some (.string U) := R3.cell 3; clear k3 o3 R3))
      go_wp2_with fail
      have h42 : j < 4398046511104 := by assumption
      have hj := HJ.out.1
      go_roundg (len - (k + 1))
      case measure => omega
      case rel => exact ⟨k + 1, by omega, rfl, by omega, by rw [show ((k + 1 : Nat) : Int) = j + 1 by omega], c + dc, z + dz, Q3.out, by omega, by omega, by omega, by omega, C3.out⟩
    · go_ret
      exact ⟨rfl, HC.out⟩
    · go_ret
      exact ⟨rfl, HC.out⟩

theorem keepsUpTo_none (a : Option Addr) (cap : Nat) (w : World) :
    Calls Tryd.prog 17 #[.slice a 0 cap] w fun e w' => e = .returned (.int .i64 (-1)) ∧ Chg (fun _ => False) w w' := by
  go_enter Tryd.func17, Tryd.ntmps17
  go_wp2_with fail
  refine (new_any _).mono ?_; rintro e w0 ⟨rfl, q0, s0, c0⟩
  have C0 : Hid (Chg (fun _ => False) w w0) := c0
  clear q0 s0 c0
  go_wp2_with fail
  go_loopg [4] 0 (fun gk i wr => i = .int .i64 0 ∧ Chg (fun _ => False) w wr)
  case atStart => exact ⟨rfl, C0.out⟩
  case round =>
    obtain ⟨rfl, hC⟩ := hrel
    have HC : Hid (Chg (fun _ => False) w wr) := hC
    clear hC
    go_wp2_with fail
    go_ret
    exact ⟨rfl, HC.out⟩

theorem keepsUpTo_any (a : Option Addr) (len cap : Nat) (w : World) (hl : len ≤ maxLen) (hs : 0 < len → ∃ b off, a = some ⟨b, off, none⟩ ∧ Script w b off len) (ht : Tab w) :
    Calls Tryd.prog 17 #[.slice a len cap] w fun e w' => e = .returned (.int .i64 (-1)) ∧ Chg (fun _ => False) w w' := by
  rcases Nat.eq_zero_or_pos len with h | h
  · subst h; exact keepsUpTo_none a cap w
  · obtain ⟨b, off, rfl, h1⟩ := hs h
    exact keepsUpTo_some b off len cap w h1 hl ht

theorem keeps_walk (a : Option Addr) (len cap : Nat) (w : World) (hl : len ≤ maxLen) (hs : 0 < len → ∃ b off, a = some ⟨b, off, none⟩ ∧ Script w b off len) (ht : Tab w) :
    Calls Tryd.prog 3 #[.slice a len cap] w fun e w' => e = .returned (.bool true) ∧ Below w.heap.size w w' := by
  have H1 : Hid (len ≤ maxLen) := hl
  have H2 : Hid (0 < len → ∃ b off, a = some ⟨b, off, none⟩ ∧ Script w b off len) := hs
  have H3 : Hid (Tab w) := ht
  clear hl hs ht
  go_enter Tryd.func3, Tryd.ntmps3
  go_wp2_with fail
  refine (keepsUpTo_any a len cap w H1.out H2.out H3.out).mono ?_; rintro e w1 ⟨rfl, k1⟩
  have C1 : Hid (Chg (fun _ => False) w w1) := k1
  clear k1
  go_wp2_with fail
  go_ret
  exact ⟨rfl, C1.out.nil.fin⟩
end Go.Proofs.Qxb6500378aDoor

/- Seen, walk, Refines, RefinesQuiet. -/
import Derived.Test.Qxb6500378aDoorMoDo
import Derived.Test.Qxb6500378aDoorStRow
import Derived.Deep.LoopGhost
namespace Go.Proofs.Qxb6500378aDoor
set_option linter.unusedVariables false
set_option linter.unusedSimpArgs false
set_option maxHeartbeats 4000000
set_option maxRecDepth 100000
open Go.RowKit Go.Qu Ieee

theorem chg_new {w w2 w3 : World} {q : Nat} (h : Chg (fun _ => False) w w2) (k : Chg (· = q) w2 w3) (hq : w.heap.size ≤ q) : Chg (fun _ => False) w w3 := by
  have h1 : Chg (w.heap.size ≤ ·) w w2 := h.nil
  have h2 : Chg (w.heap.size ≤ ·) w2 w3 := k.at hq
  exact (h1.trans h2).mono (fun k hk e => by omega)

/-- the two converters, apart -/
structure Two (w : World) (p q : Nat) (c z : Int) : Prop where
  x : Cv w p c z
  m : Cm w q c z
  ne : p ≠ q
theorem Two.kept {w w' : World} {p q : Nat} {c z : Int} (h : Two w p q c z) (hc : Chg (fun _ => False) w w') : Two w' p q c z := ⟨h.x.kept hc (fun h => h), h.m.kept hc (fun h => h), h.ne⟩

theorem seen_true (p q : Nat) (c z : Int) (w : World) (h : Two w p q c z) (hc : Sm c) (hz : Sm z) (ht : Tab w) :
    Calls Tryd.prog 41 #[.pointer (some ⟨p, 0, none⟩), .pointer (some ⟨q, 0, none⟩)] w fun e w' => e = .returned (.bool true) ∧ Two w' p q c z ∧ Chg (fun k => k = p ∨ k = q) w w' := by
  have H : Hid (Two w p q c z) := h
  have HT : Hid (Tab w) := ht
  have HS : Hid (Sm c ∧ Sm z) := ⟨hc, hz⟩
  clear h ht hc hz
  generalize hs : (⟨(showQ c z).toArray⟩ : ByteArray) = s
  have HE : Hid ((⟨(showQ c z).toArray⟩ : ByteArray) = s) := hs
  clear hs
  go_enter Tryd.func41, Tryd.ntmps41
  go_wp2_with fail
  refine (show_q p c z _ H.out.x HS.out.1 HS.out.2 HT.out).mono ?_; rintro e w1 ⟨rfl, q1, k1⟩
  rw [HE.out]
  have m1 : Cm w1 q c z := H.out.m.kept k1 (fun e => H.out.ne e.symm)
  have H1 : Hid (Two w1 p q c z) := ⟨q1, m1, H.out.ne⟩
  have K1 : Hid (Chg (fun k => k = p ∨ k = q) w w1) := k1.mono (fun k _ e => Or.inl e)
  clear q1 k1 m1
  go_wp2_with fail
  refine (showm_any q c z _ H1.out.m HS.out.1 HS.out.2).mono ?_; rintro e w2 ⟨rfl, q2, k2⟩
  rw [HE.out]
  have x2 : Cv w2 p c z := H1.out.x.kept k2 (fun e => H.out.ne e)
  have H2 : Hid (Two w2 p q c z) := ⟨x2, q2, H.out.ne⟩
  have K2 : Hid (Chg (fun k => k = p ∨ k = q) w w2) := K1.out.trans (k2.mono (fun k _ e => Or.inr e))
  clear q2 k2 x2
  go_wp2_with fail
  refine (checkQ_q p c z _ H2.out.x HS.out.1 HS.out.2).mono ?_; rintro e w3 ⟨rfl, q3, k3⟩
  have m3 : Cm w3 q c z := H2.out.m.kept k3 (fun e => H.out.ne e.symm)
  have H3 : Hid (Two w3 p q c z) := ⟨q3, m3, H.out.ne⟩
  have K3 : Hid (Chg (fun k => k = p ∨ k = q) w w3) := K2.out.trans (k3.mono (fun k _ e => Or.inl e))
  clear q3 k3 m3
  go_wp2_with fail
  refine (checkm_any q c z _ H3.out.m HS.out.1 HS.out.2).mono ?_; rintro e w4 ⟨rfl, q4, k4⟩
  have x4 : Cv w4 p c z := H3.out.x.kept k4 (fun e => H.out.ne e)
  have H4 : Hid (Two w4 p q c z) := ⟨x4, q4, H.out.ne⟩
  have K4 : Hid (Chg (fun k => k = p ∨ k = q) w w4) := K3.out.trans (k4.mono (fun k _ e => Or.inr e))
  clear q4 k4 x4
  go_wp2_with fail
  go_ret
  exact ⟨rfl, H4.out, K4.out⟩

theorem walk_some (b off len cap : Nat) (quiet : Bool) (w : World) (hs : Script w b off len) (hl : len ≤ maxLen) (ht : Tab w) :
    Calls Tryd.prog 36 #[.slice (some ⟨b, off, none⟩) len cap, .bool quiet] w fun e w' => (∃ n : Int, e = .returned (.tuple #[.int .i64 (-1), .int .i64 n])) ∧ Chg (fun _ => False) w w' := by
  unfold maxLen at hl
  have HS : Hid (Script w b off len) := hs
  have HT : Hid (Tab w) := ht
  clear hs ht
  go_enter Tryd.func36, Tryd.ntmps36
  go_wp2_with fail
  refine (new_any _).mono ?_; rintro e w0 ⟨rfl, q0, s0, c0⟩
  have Q0 : Hid (Cv w0 w.heap.size 0 0) := q0
  have C0 : Hid (Chg (fun _ => False) w w0) := c0
  have S0 : Hid (w.heap.size < w0.heap.size) := s0
  clear q0 s0 c0
  go_wp2_with fail
  refine (newm_any _).mono ?_; rintro e w1 ⟨rfl, q1, s1, c1⟩
  have Q1 : Hid (Two w1 w.heap.size w0.heap.size 0 0) := ⟨Has.kept Q0.out c1 (fun h => h), q1, Nat.ne_of_lt S0.out⟩
  have C1 : Hid (Chg (fun _ => False) w w1) := C0.out.trans c1
  clear q1 s1 c1
  obtain ⟨P, hP⟩ : ∃ P : Nat, w.heap.size = P := ⟨_, rfl⟩
  obtain ⟨M, hM⟩ : ∃ M : Nat, w0.heap.size = M := ⟨_, rfl⟩
  have HP : Hid (w.heap.size = P ∧ w.heap.size ≤ M) := ⟨hP, by have := C0.out.size; omega⟩
  rw [hP, hM] at Q1 ⊢
  clear S0 Q0 C0 hP hM
  cases quiet
  · go_wp2_with fail
    refine (seen_true P M 0 0 _ Q1.out ⟨by omega, by omega⟩ ⟨by omega, by omega⟩ (HT.out.nil C1.out)).mono ?_; rintro e w2 ⟨rfl, h2, k2⟩
    have Q2 : Hid (Two w2 P M 0 0) := h2
    have C2 : Hid (Chg (fun _ => False) w w2) := (C1.out.nil.trans (k2.up (B := w.heap.size) (by rintro k (e | e) <;> have := HP.out <;> omega))).mono (fun k hk e => by omega)
    clear h2 k2 Q1 C1
    go_wp2_with fail
    go_loopg [8] len (fun gk i wr => ∃ k : Nat, k ≤ len ∧ gk = len - k ∧ (k : Int) ≤ 4398046511104 ∧ i = .int .i64 k ∧ ∃ c z : Int, Two wr P M c z ∧ 0 ≤ c ∧ c ≤ k ∧ 0 ≤ z ∧ z ≤ k ∧ Chg (fun _ => False) w wr)
    case atStart => exact ⟨0, by omega, by omega, by omega, rfl, 0, 0, Q2.out, by omega, by omega, by omega, by omega, C2.out⟩
    case round =>
      obtain ⟨k, hk, rfl, hk2, rfl, c, z, hq, c0, c1, z0, z1, hC⟩ := hrel
      obtain ⟨j, hj⟩ : ∃ j : Int, (k : Int) = j := ⟨_, rfl⟩
      have HJ : Hid ((k : Int) = j ∧ k ≤ len) := ⟨hj, hk⟩
      have j0 : 0 ≤ j := by omega
      have j1 : j ≤ 9223372036854775806 := by omega
      rw [hj] at c1 z1 ⊢
      have j2 : j ≤ 4398046511104 := by omega
      clear hk hk2 hj hl
      have HQ : Hid (Two wr P M c z) := hq
      have HC : Hid (Chg (fun _ => False) w wr) := hC
      clear hq hC
      by_cases hkl : k < len
      · obtain ⟨kd, x, y, cc, s, t, hop⟩ := (Script.kept HS.out HC.out (fun h => h)) k hkl
        obtain ⟨_, _, _, _, _, _, h0⟩ := HS.out k hkl
        have hbw : b < w.heap.size := World.block_lt_of_cell? w _ h0.c0
        clear h0
        have ek : k = j.toNat := by have := HJ.out.1; omega
        rw [ek] at hop
        have d0 := hop.c0
        have d1 := hop.c1
        have d2 := hop.c2
        have d3 := hop.c3
        have d4 := hop.c4
        have d5 := hop.c5
        have D := fun w' (hq : Cv w' P c z) (ht : Tab w') => do_any P kd x y cc s t c z w' hop.x hq ⟨by omega, by omega⟩ ⟨by omega, by omega⟩ ht
        have DM := fun w' (hq : Cm w' M c z) => dom_any M kd x y cc s t c z w' hop.x hq ⟨by omega, by omega⟩ ⟨by omega, by omega⟩
        obtain ⟨g1, g2, g3, -, -⟩ := stepO_counts kd x y c z
        generalize (stepO kd x y c z).e = E at D DM
        generalize (stepO kd x y c z).n = N at D DM
        generalize (stepO kd x y c z).k = L at D DM
        generalize stepS kd c z = U at D DM
        generalize (stepO kd x y c z).dc = dc at D DM g1 g3
        generalize (stepO kd x y c z).dz = dz at D DM g2 g3
        unfold opV ansV at D DM
        have hjl : j < (len : Int) := by have := HJ.out.1; omega
        have HO : Hid (OpAt wr b (off + j.toNat * 6) kd x y cc s t) := hop
        have HD : Hid _ := D
        have HM : Hid _ := DM
        have HN : Hid (b < w.heap.size ∧ k < len) := ⟨hbw, hkl⟩
        clear hop D DM hbw hkl ek
        go_wp2_with fail
        · refine (HD.out _ HQ.out.x (HT.out.nil HC.out)).mono ?_; rintro e w3 ⟨rfl, q3, k3⟩
          have hp := HP.out
          have hn := HN.out
          have C3 : Hid (Chg (fun _ => False) w w3) := chg_new HC.out k3 (by omega)
          have o3 : OpAt w3 b (off + j.toNat * 6) kd x y cc s t := HO.out.kept k3 (by omega)
          have Q3 : Hid (Cv w3 P (c + dc) (z + dz)) := q3
          have M3 : Hid (Cm w3 M c z) := HQ.out.m.kept k3 (fun e => HQ.out.ne e.symm)
          have O3 : Hid (OpAt w3 b (off + j.toNat * 6) kd x y cc s t) := o3
          have o4 : OpAt (w3.alloc (.cells #[.int .i64 E, .int .i64 N, .int .i64 L, .string U] 39)) b (off + j.toNat * 6) kd x y cc s t := o3.kept ((Chg.refl (fun _ => False) w3).alloc _) (fun h => h)
          have d0 := o4.c0
          have d1 := o4.c1
          have d2 := o4.c2
          have d3 := o4.c3
          have d4 := o4.c4
          have d5 := o4.c5
          have C4 : Hid (Chg (fun _ => False) w (w3.alloc (.cells #[.int .i64 E, .int .i64 N, .int .i64 L, .string U] 39))) := C3.out.alloc _
          have Q4 : Hid (Cv (w3.alloc (.cells #[.int .i64 E, .int .i64 N, .int .i64 L, .string U] 39)) P (c + dc) (z + dz)) := Has.alloc Q3.out _
          have M4 : Hid (Cm (w3.alloc (.cells #[.int .i64 E, .int .i64 N, .int .i64 L, .string U] 39)) M c z) := Has.alloc M3.out _
          have R4 : Hid (Has 39 (w3.alloc (.cells #[.int .i64 E, .int .i64 N, .int .i64 L, .string U] 39)) w3.heap.size [.int .i64 E, .int .i64 N, .int .i64 L, .string U]) := Has.new _ _ _
          clear k3 q3 o3 hp hn o4
          go_wp2_with fail
          refine (HM.out _ M4.out).mono ?_; rintro e w5 ⟨rfl, q5, k5⟩
          have hp := HP.out
          have hn := HN.out
          have hs3 := C3.out.size
          have hm3 : M < w3.heap.size := Has.lt M3.out
          have C5 : Hid (Chg (fun _ => False) w w5) := chg_new C4.out k5 (by omega)
          have T5 : Hid (Two w5 P M (c + dc) (z + dz)) := ⟨Has.kept Q4.out k5 (fun e => HQ.out.ne e), q5, HQ.out.ne⟩
          have r5 : Has 39 w5 w3.heap.size [.int .i64 E, .int .i64 N, .int .i64 L, .string U] := Has.kept R4.out k5 (by omega)
          have R6 : Has 39 (w5.alloc (.cells #[.int .i64 E, .int .i64 N, .int .i64 L, .string U] 39)) w3.heap.size [.int .i64 E, .int .i64 N, .int .i64 L, .string U] := r5.alloc _
          have S6 : Has 39 (w5.alloc (.cells #[.int .i64 E, .int .i64 N, .int .i64 L, .string U] 39)) w5.heap.size [.int .i64 E, .int .i64 N, .int .i64 L, .string U] := Has.new _ _ _
          have C6 : Hid (Chg (fun _ => False) w (w5.alloc (.cells #[.int .i64 E, .int .i64 N, .int .i64 L, .string U] 39))) := C5.out.alloc _
          have T6 : Hid (Two (w5.alloc (.cells #[.int .i64 E, .int .i64 N, .int .i64 L, .string U] 39)) P M (c + dc) (z + dz)) := T5.out.kept ((Chg.refl _ _).alloc _)
          have v0 : (w5.alloc (.cells #[.int .i64 E, .int .i64 N, .int .i64 L, .string U] 39)).cell? ⟨w3.heap.size, 0, none⟩ = some (.int .i64 E) := R6.cell 0
          have v1 : (w5.alloc (.cells #[.int .i64 E, .int .i64 N, .int .i64 L, .string U] 39)).cell? ⟨w3.heap.size, 1, none⟩ = some (.int .i64 N) := R6.cell 1
          have v2 : (w5.alloc (.cells #[.int .i64 E, .int .i64 N, .int .i64 L, .string U] 39)).cell? ⟨w3.heap.size, 2, none⟩ = some (.int .i64 L) := R6.cell 2
          have v3 : (w5.alloc (.cells #[.int .i64 E, .int .i64 N, .int .i64 L, .string U] 39)).cell? ⟨w3.heap.size, 3, none⟩ = some (.string U) := R6.cell 3
          have v4 : (w5.alloc (.cells #[.int .i64 E, .int .i64 N, .int .i64 L, .string U] 39)).cell? ⟨w5.heap.size, 0, none⟩ = some (.int .i64 E) := S6.cell 0
          have v5 : (w5.alloc (.cells #[.int .i64 E, .int .i64 N, .int .i64 L, .string U] 39)).cell? ⟨w5.heap.size, 1, none⟩ = some (.int .i64 N) := S6.cell 1
          have v6 : (w5.alloc (.cells #[.int .i64 E, .int .i64 N, .int .i64 L, .string U] 39)).cell? ⟨w5.heap.size, 2, none⟩ = some (.int .i64 L) := S6.cell 2
          have v7 : (w5.alloc (.cells #[.int .i64 E, .int .i64 N, .int .i64 L, .string U] 39)).cell? ⟨w5.heap.size, 3, none⟩ = some (.string U) := S6.cell 3
          clear k5 q5 hp hn hs3 hm3 r5 R6 S6 d0 d1 d2 d3 d4 d5
          go_wp2_with fail
          refine (seen_true P M (c + dc) (z + dz) _ T6.out ⟨by omega, by omega⟩ ⟨by omega, by omega⟩ (HT.out.nil C6.out)).mono ?_; rintro e w7 ⟨rfl, h7, k7⟩
          have T7 : Hid (Two w7 P M (c + dc) (z + dz)) := h7
          have C7 : Hid (Chg (fun _ => False) w w7) := (C6.out.nil.trans (k7.up (B := w.heap.size) (by rintro k (e | e) <;> have := HP.out <;> omega))).mono (fun k hk e => by omega)
          clear h7 k7 v0 v1 v2 v3 v4 v5 v6 v7
          go_wp2_with fail
          have h42 : j < 4398046511104 := by assumption
          have hj := HJ.out.1
          have hn := HN.out.2
          go_roundg (len - (k + 1))
          case measure => omega
          case rel => exact ⟨k + 1, by omega, rfl, by omega, by rw [show ((k + 1 : Nat) : Int) = j + 1 by omega], c + dc, z + dz, T7.out, by omega, by omega, by omega, by omega, C7.out⟩
        · go_ret2
          exact ⟨⟨_, rfl⟩, HC.out⟩
      · have hjl : ¬ j < (len : Int) := by have := HJ.out.1; omega
        go_wp2_with fail
        go_ret2
        exact ⟨⟨_, rfl⟩, HC.out⟩
  · go_wp2_with fail
    have Q2 : Hid (Two w1 P M 0 0) := Q1.out
    have C2 : Hid (Chg (fun _ => False) w w1) := C1.out
    clear Q1 C1
    go_loopg [8] len (fun gk i wr => ∃ k : Nat, k ≤ len ∧ gk = len - k ∧ (k : Int) ≤ 4398046511104 ∧ i = .int .i64 k ∧ ∃ c z : Int, Two wr P M c z ∧ 0 ≤ c ∧ c ≤ k ∧ 0 ≤ z ∧ z ≤ k ∧ Chg (fun _ => False) w wr)
    case atStart => exact ⟨0, by omega, by omega, by omega, rfl, 0, 0, Q2.out, by omega, by omega, by omega, by omega, C2.out⟩
    case round =>
      obtain ⟨k, hk, rfl, hk2, rfl, c, z, hq, c0, c1, z0, z1, hC⟩ := hrel
      obtain ⟨j, hj⟩ : ∃ j : Int, (k : Int) = j := ⟨_, rfl⟩
      have HJ : Hid ((k : Int) = j ∧ k ≤ len) := ⟨hj, hk⟩
      have j0 : 0 ≤ j := by omega
      have j1 : j ≤ 9223372036854775806 := by omega
      rw [hj] at c1 z1 ⊢
      have j2 : j ≤ 4398046511104 := by omega
      clear hk hk2 hj hl
      have HQ : Hid (Two wr P M c z) := hq
      have HC : Hid (Chg (fun _ => False) w wr) := hC
      clear hq hC
      by_cases hkl : k < len
      · obtain ⟨kd, x, y, cc, s, t, hop⟩ := (Script.kept HS.out HC.out (fun h => h)) k hkl
        obtain ⟨_, _, _, _, _, _, h0⟩ := HS.out k hkl
        have hbw : b < w.heap.size := World.block_lt_of_cell? w _ h0.c0
        clear h0
        have ek : k = j.toNat := by have := HJ.out.1; omega
        rw [ek] at hop
        have d0 := hop.c0
        have d1 := hop.c1
        have d2 := hop.c2
        have d3 := hop.c3
        have d4 := hop.c4
        have d5 := hop.c5
        have D := fun w' (hq : Cv w' P c z) (ht : Tab w') => do_any P kd x y cc s t c z w' hop.x hq ⟨by omega, by omega⟩ ⟨by omega, by omega⟩ ht
        have DM := fun w' (hq : Cm w' M c z) => dom_any M kd x y cc s t c z w' hop.x hq ⟨by omega, by omega⟩ ⟨by omega, by omega⟩
        obtain ⟨g1, g2, g3, -, -⟩ := stepO_counts kd x y c z
        generalize (stepO kd x y c z).e = E at D DM
        generalize (stepO kd x y c z).n = N at D DM
        generalize (stepO kd x y c z).k = L at D DM
        generalize stepS kd c z = U at D DM
        generalize (stepO kd x y c z).dc = dc at D DM g1 g3
        generalize (stepO kd x y c z).dz = dz at D DM g2 g3
        unfold opV ansV at D DM
        have hjl : j < (len : Int) := by have := HJ.out.1; omega
        have HO : Hid (OpAt wr b (off + j.toNat * 6) kd x y cc s t) := hop
        have HD : Hid _ := D
        have HM : Hid _ := DM
        have HN : Hid (b < w.heap.size ∧ k < len) := ⟨hbw, hkl⟩
        clear hop D DM hbw hkl ek
        go_wp2_with fail
        · refine (HD.out _ HQ.out.x (HT.out.nil HC.out)).mono ?_; rintro e w3 ⟨rfl, q3, k3⟩
          have hp := HP.out
          have hn := HN.out
          have C3 : Hid (Chg (fun _ => False) w w3) := chg_new HC.out k3 (by omega)
          have o3 : OpAt w3 b (off + j.toNat * 6) kd x y cc s t := HO.out.kept k3 (by omega)
          have Q3 : Hid (Cv w3 P (c + dc) (z + dz)) := q3
          have M3 : Hid (Cm w3 M c z) := HQ.out.m.kept k3 (fun e => HQ.out.ne e.symm)
          have O3 : Hid (OpAt w3 b (off + j.toNat * 6) kd x y cc s t) := o3
          have o4 : OpAt (w3.alloc (.cells #[.int .i64 E, .int .i64 N, .int .i64 L, .string U] 39)) b (off + j.toNat * 6) kd x y cc s t := o3.kept ((Chg.refl (fun _ => False) w3).alloc _) (fun h => h)
          have d0 := o4.c0
          have d1 := o4.c1
          have d2 := o4.c2
          have d3 := o4.c3
          have d4 := o4.c4
          have d5 := o4.c5
          have C4 : Hid (Chg (fun _ => False) w (w3.alloc (.cells #[.int .i64 E, .int .i64 N, .int .i64 L, .string U] 39))) := C3.out.alloc _
          have Q4 : Hid (Cv (w3.alloc (.cells #[.int .i64 E, .int .i64 N, .int .i64 L, .string U] 39)) P (c + dc) (z + dz)) := Has.alloc Q3.out _
          have M4 : Hid (Cm (w3.alloc (.cells #[.int .i64 E, .int .i64 N, .int .i64 L, .string U] 39)) M c z) := Has.alloc M3.out _
          have R4 : Hid (Has 39 (w3.alloc (.cells #[.int .i64 E, .int .i64 N, .int .i64 L, .string U] 39)) w3.heap.size [.int .i64 E, .int .i64 N, .int .i64 L, .string U]) := Has.new _ _ _
          clear k3 q3 o3 hp hn o4
          go_wp2_with fail
          refine (HM.out _ M4.out).mono ?_; rintro e w5 ⟨rfl, q5, k5⟩
          have hp := HP.out
          have hn := HN.out
          have hs3 := C3.out.size
          have hm3 : M < w3.heap.size := Has.lt M3.out
          have C5 : Hid (Chg (fun _ => False) w w5) := chg_new C4.out k5 (by omega)
          have T5 : Hid (Two w5 P M (c + dc) (z + dz)) := ⟨Has.kept Q4.out k5 (fun e => HQ.out.ne e), q5, HQ.out.ne⟩
          have r5 : Has 39 w5 w3.heap.size [.int .i64 E, .int .i64 N, .int .i64 L, .string U] := Has.kept R4.out k5 (by omega)
          have R6 : Has 39 (w5.alloc (.cells #[.int .i64 E, .int .i64 N, .int .i64 L, .string U] 39)) w3.heap.size [.int .i64 E, .int .i64 N, .int .i64 L, .string U] := r5.alloc _
          have S6 : Has 39 (w5.alloc (.cells #[.int .i64 E, .int .i64 N, .int .i64 L, .string U] 39)) w5.heap.size [.int .i64 E, .int .i64 N, .int .i64 L, .string U] := Has.new _ _ _
          have C6 : Hid (Chg (fun _ => False) w (w5.alloc (.cells #[.int .i64 E, .int .i64 N, .int .i64 L, .string U] 39))) := C5.out.alloc _
          have T6 : Hid (Two (w5.alloc (.cells #[.int .i64 E, .int .i64 N, .int .i64 L, .string U] 39)) P M (c + dc) (z + dz)) := T5.out.kept ((Chg.refl _ _).alloc _)
          have v0 : (w5.alloc (.cells #[.int .i64 E, .int .i64 N, .int .i64 L, .string U] 39)).cell? ⟨w3.heap.size, 0, none⟩ = some (.int .i64 E) := R6.cell 0
          have v1 : (w5.alloc (.cells #[.int .i64 E, .int .i64 N, .int .i64 L, .string U] 39)).cell? ⟨w3.heap.size, 1, none⟩ = some (.int .i64 N) := R6.cell 1
          have v2 : (w5.alloc (.cells #[.int .i64 E, .int .i64 N, .int .i64 L, .string U] 39)).cell? ⟨w3.heap.size, 2, none⟩ = some (.int .i64 L) := R6.cell 2
          have v3 : (w5.alloc (.cells #[.int .i64 E, .int .i64 N, .int .i64 L, .string U] 39)).cell? ⟨w3.heap.size, 3, none⟩ = some (.string U) := R6.cell 3
          have v4 : (w5.alloc (.cells #[.int .i64 E, .int .i64 N, .int .i64 L, .string U] 39)).cell? ⟨w5.heap.size, 0, none⟩ = some (.int .i64 E) := S6.cell 0
          have v5 : (w5.alloc (.cells #[.int .i64 E, .int .i64 N, .int .i64 L, .string U] 39)).cell? ⟨w5.heap.size, 1, none⟩ = some (.int .i64 N) := S6.cell 1
          have v6 : (w5.alloc (.cells #[.int .i64 E, .int .i64 N, .int .i64 L, .string U] 39)).cell? ⟨w5.heap.size, 2, none⟩ = some (.int .i64 L) := S6.cell 2
          have v7 : (w5.alloc (.cells #[.int .i64 E, .int .i64 N, .int .i64 L, .string U] 39)).cell? ⟨w5.heap.size, 3, none⟩ = some (.string U) := S6.cell 3
          clear k5 q5 hp hn hs3 hm3 r5 R6 S6 d0 d1 d2 d3 d4 d5
          go_wp2_with fail
          have h42 : j < 4398046511104 := by assumption
          have hj := HJ.out.1
          have hn := HN.out.2
          go_roundg (len - (k + 1))
          case measure => omega
          case rel => exact ⟨k + 1, by omega, rfl, by omega, by rw [show ((k + 1 : Nat) : Int) = j + 1 by omega], c + dc, z + dz, T6.out, by omega, by omega, by omega, by omega, C6.out⟩
        · go_ret2
          exact ⟨⟨_, rfl⟩, HC.out⟩
      · have hjl : ¬ j < (len : Int) := by have := HJ.out.1; omega
        go_wp2_with fail
        go_ret2
        exact ⟨⟨_, rfl⟩, HC.out⟩

theorem walk_none (a : Option Addr) (cap : Nat) (quiet : Bool) (w : World) (ht : Tab w) :
    Calls Tryd.prog 36 #[.slice a 0 cap, .bool quiet] w fun e w' => (∃ n : Int, e = .returned (.tuple #[.int .i64 (-1), .int .i64 n])) ∧ Chg (fun _ => False) w w' := by
  have HT : Hid (Tab w) := ht
  clear ht
  go_enter Tryd.func36, Tryd.ntmps36
  go_wp2_with fail
  refine (new_any _).mono ?_; rintro e w0 ⟨rfl, q0, s0, c0⟩
  have Q0 : Hid (Cv w0 w.heap.size 0 0) := q0
  have C0 : Hid (Chg (fun _ => False) w w0) := c0
  have S0 : Hid (w.heap.size < w0.heap.size) := s0
  clear q0 s0 c0
  go_wp2_with fail
  refine (newm_any _).mono ?_; rintro e w1 ⟨rfl, q1, s1, c1⟩
  have Q1 : Hid (Two w1 w.heap.size w0.heap.size 0 0) := ⟨Has.kept Q0.out c1 (fun h => h), q1, Nat.ne_of_lt S0.out⟩
  have C1 : Hid (Chg (fun _ => False) w w1) := C0.out.trans c1
  clear q1 s1 c1
  cases quiet
  · go_wp2_with fail
    refine (seen_true w.heap.size w0.heap.size 0 0 _ Q1.out ⟨by omega, by omega⟩ ⟨by omega, by omega⟩ (HT.out.nil C1.out)).mono ?_; rintro e w2 ⟨rfl, h2, k2⟩
    have C2 : Hid (Chg (fun _ => False) w w2) := (C1.out.nil.trans (k2.up (B := w.heap.size) (by rintro k (e | e) <;> have := S0.out <;> omega))).mono (fun k hk e => by omega)
    clear h2 k2 Q1 C1
    go_wp2_with fail
    go_loopg [8] 0 (fun gk i wr => i = .int .i64 0 ∧ Chg (fun _ => False) w wr)
    case atStart => exact ⟨rfl, C2.out⟩
    case round =>
      obtain ⟨rfl, hC⟩ := hrel
      have HC : Hid (Chg (fun _ => False) w wr) := hC
      clear hC
      go_wp2_with fail
      go_ret2
      exact ⟨⟨_, rfl⟩, HC.out⟩
  · go_wp2_with fail
    go_loopg [8] 0 (fun gk i wr => i = .int .i64 0 ∧ Chg (fun _ => False) w wr)
    case atStart => exact ⟨rfl, C1.out⟩
    case round =>
      obtain ⟨rfl, hC⟩ := hrel
      have HC : Hid (Chg (fun _ => False) w wr) := hC
      clear hC
      go_wp2_with fail
      go_ret2
      exact ⟨⟨_, rfl⟩, HC.out⟩

theorem walk_any (a : Option Addr) (len cap : Nat) (quiet : Bool) (w : World) (hl : len ≤ maxLen) (hs : 0 < len → ∃ b off, a = some ⟨b, off, none⟩ ∧ Script w b off len) (ht : Tab w) :
    Calls Tryd.prog 36 #[.slice a len cap, .bool quiet] w fun e w' => (∃ n : Int, e = .returned (.tuple #[.int .i64 (-1), .int .i64 n])) ∧ Chg (fun _ => False) w w' := by
  rcases Nat.eq_zero_or_pos len with h | h
  · subst h; exact walk_none a cap quiet w ht
  · obtain ⟨b, off, rfl, h1⟩ := hs h
    exact walk_some b off len cap quiet w h1 hl ht

theorem refinesUpTo_any (a : Option Addr) (len cap : Nat) (w : World) (hl : len ≤ maxLen) (hs : 0 < len → ∃ b off, a = some ⟨b, off, none⟩ ∧ Script w b off len) (ht : Tab w) :
    Calls Tryd.prog 18 #[.slice a len cap] w fun e w' => e = .returned (.int .i64 (-1)) ∧ Chg (fun _ => False) w w' := by
  have H1 : Hid (len ≤ maxLen) := hl
  have H2 : Hid (0 < len → ∃ b off, a = some ⟨b, off, none⟩ ∧ Script w b off len) := hs
  have H3 : Hid (Tab w) := ht
  clear hl hs ht
  go_enter Tryd.func18, Tryd.ntmps18
  go_wp2_with fail
  refine (walk_any a len cap false w H1.out H2.out H3.out).mono ?_; rintro e w1 ⟨⟨n, rfl⟩, k1⟩
  have C1 : Hid (Chg (fun _ => False) w w1) := k1
  clear k1
  go_wp2_with fail
  go_ret
  exact ⟨rfl, C1.out⟩
theorem refines_walk (a : Option Addr) (len cap : Nat) (w : World) (hl : len ≤ maxLen) (hs : 0 < len → ∃ b off, a = some ⟨b, off, none⟩ ∧ Script w b off len) (ht : Tab w) :
    Calls Tryd.prog 4 #[.slice a len cap] w fun e w' => e = .returned (.bool true) ∧ Below w.heap.size w w' := by
  have H1 : Hid (len ≤ maxLen) := hl
  have H2 : Hid (0 < len → ∃ b off, a = some ⟨b, off, none⟩ ∧ Script w b off len) := hs
  have H3 : Hid (Tab w) := ht
  clear hl hs ht
  go_enter Tryd.func4, Tryd.ntmps4
  go_wp2_with fail
  refine (refinesUpTo_any a len cap w H1.out H2.out H3.out).mono ?_; rintro e w1 ⟨rfl, k1⟩
  have C1 : Hid (Chg (fun _ => False) w w1) := k1
  clear k1
  go_wp2_with fail
  go_ret
  exact ⟨rfl, C1.out.nil.fin⟩

theorem refinesQuietUpTo_any (a : Option Addr) (len cap : Nat) (w : World) (hl : len ≤ maxLen) (hs : 0 < len → ∃ b off, a = some ⟨b, off, none⟩ ∧ Script w b off len) (ht : Tab w) :
    Calls Tryd.prog 19 #[.slice a len cap] w fun e w' => e = .returned (.int .i64 (-1)) ∧ Chg (fun _ => False) w w' := by
  have H1 : Hid (len ≤ maxLen) := hl
  have H2 : Hid (0 < len → ∃ b off, a = some ⟨b, off, none⟩ ∧ Script w b off len) := hs
  have H3 : Hid (Tab w) := ht
  clear hl hs ht
  go_enter Tryd.func19, Tryd.ntmps19
  go_wp2_with fail
  refine (walk_any a len cap true w H1.out H2.out H3.out).mono ?_; rintro e w1 ⟨⟨n, rfl⟩, k1⟩
  have C1 : Hid (Chg (fun _ => False) w w1) := k1
  clear k1
  go_wp2_with fail
  go_ret
  exact ⟨rfl, C1.out⟩
theorem refinesQuiet_walk (a : Option Addr) (len cap : Nat) (w : World) (hl : len ≤ maxLen) (hs : 0 < len → ∃ b off, a = some ⟨b, off, none⟩ ∧ Script w b off len) (ht : Tab w) :
    Calls Tryd.prog 5 #[.slice a len cap] w fun e w' => e = .returned (.bool true) ∧ Below w.heap.size w w' := by
  have H1 : Hid (len ≤ maxLen) := hl
  have H2 : Hid (0 < len → ∃ b off, a = some ⟨b, off, none⟩ ∧ Script w b off len) := hs
  have H3 : Hid (Tab w) := ht
  clear hl hs ht
  go_enter Tryd.func5, Tryd.ntmps5
  go_wp2_with fail
  refine (refinesQuietUpTo_any a len cap w H1.out H2.out H3.out).mono ?_; rintro e w1 ⟨rfl, k1⟩
  have C1 : Hid (Chg (fun _ => False) w w1) := k1
  clear k1
  go_wp2_with fail
  go_ret
  exact ⟨rfl, C1.out.nil.fin⟩
end Go.Proofs.Qxb6500378aDoor

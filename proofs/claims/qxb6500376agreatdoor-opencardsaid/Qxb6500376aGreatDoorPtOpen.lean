/- OpenUpTo, Open of the pipeline (written by tools/genptopen.py). -/
import Derived.Test.Qxb6500376aGreatDoorPtLoose
namespace Go.Proofs.Qxb6500376aGreatDoor
set_option linter.unusedVariables false
set_option linter.unusedSimpArgs false
set_option maxHeartbeats 4000000
set_option maxRecDepth 100000
open Go.RowKit Go.Qu Ieee

theorem open_some (b off len cap : Nat) (w : World) (hs : Script w b off len) (hl : len ≤ maxLen) (ht : Tab w) :
    Calls Tryz.prog 8 #[.slice (some ⟨b, off, none⟩) len cap] w fun e w' => e = .returned (.int .i64 (-1)) ∧ Chg (fun _ => False) w w' := by
  unfold maxLen at hl
  have HS : Hid (Script w b off len) := hs
  have HT : Hid (Tab w) := ht
  clear hs ht
  go_enter Tryz.func8, Tryz.ntmps8
  go_wp2_with fail
  refine (pair_any _).mono ?_; rintro e w1 ⟨p, l, m, q, rfl, h1, ha, c1⟩
  have Q1 : Hid (Pr w1 p l m q g0) := h1
  have C1 : Hid (Chg (fun _ => False) w w1) := c1
  have HP : Hid (Apart w.heap.size p l m q ∧ ∀ i, i = p ∨ i = l.q → w.heap.size ≤ i) := ⟨ha, by have := ha.p; have := ha.lq; intro i e; omega⟩
  clear h1 c1 ha
  · go_wp2_with fail
    have Q2 : Hid (Pr w1 p l m q g0) := Q1.out
    have C2 : Hid (Chg (fun _ => False) w w1) := C1.out
    clear Q1 C1
    go_loopg [5] len (fun gk i wr => ∃ k : Nat, k ≤ len ∧ gk = len - k ∧ (k : Int) ≤ 4398046511104 ∧ i = .int .i64 k ∧ ∃ g : PS, Pr wr p l m q g ∧ Good g (2 * (k : Int)) ∧ Chg (fun _ => False) w wr)
    case atStart => exact ⟨0, by omega, by omega, by omega, rfl, g0, Q2.out, (by rw [show (2 * ((0 : Nat) : Int)) = 0 from rfl]; exact g0_good), C2.out⟩
    case round =>
      obtain ⟨k, hk, rfl, hk2, rfl, g, hq, hg, hC⟩ := hrel
      obtain ⟨j, hj⟩ : ∃ j : Int, (k : Int) = j := ⟨_, rfl⟩
      have HJ : Hid ((k : Int) = j ∧ k ≤ len) := ⟨hj, hk⟩
      have j0 : 0 ≤ j := by omega
      have j1 : j ≤ 9223372036854775806 := by omega
      rw [hj] at hg ⊢
      have j2 : j ≤ 4398046511104 := by omega
      clear hk hk2 hj hl
      have HQ : Hid (Pr wr p l m q g ∧ Good g (2 * j)) := ⟨hq, hg⟩
      have HC : Hid (Chg (fun _ => False) w wr) := hC
      clear hq hC hg
      by_cases hkl : k < len
      · obtain ⟨kd, x, y, cc, s, t, hop⟩ := (Script.kept HS.out HC.out (fun h => h)) k hkl
        obtain ⟨_, _, _, _, _, _, h0⟩ := HS.out k hkl
        have hbw : b < w.heap.size := World.block_lt_of_cell? w _ h0.c0
        clear h0
        have ek : k = j.toNat := by have := HJ.out.1; omega
        rw [ek] at hop
        have d0 := hop.c0
        have d1 := hop.c1
        have d2 := hop.c2
        have d3 := hop.c3
        have d4 := hop.c4
        have d5 := hop.c5
        have hg := HQ.out.2
        have D := fun w' (hq : Ap w' p l g) (ht : Tab w') => chdo_any p l g (2 * j) kd x y cc s t w' hg (by omega) hop.x hq ht
        have DM := fun w' (hq : Md w' m q g) => cmdo_any m q g (2 * j) kd x y cc s t w' hg (by omega) hop.x hop.y hq
        have hg2 := stepP_good hg kd hop.x y
        generalize (stepP g kd x y).2 = g' at D DM hg2
        generalize (stepP g kd x y).1.e = E at D DM
        generalize (stepP g kd x y).1.n = N at D DM
        generalize (stepP g kd x y).1.k = L at D DM
        generalize textS g kd = U at D DM
        have LL := fun w' (h : Pr w' p l m q g') => loose_any p m q l g' (2 * j + 1) w.heap.size kd x y cc s t w' h HP.out.1 hg2 (by omega)
        unfold opV ansV at D DM
        unfold opV at LL
        have hjl : j < (len : Int) := by have := HJ.out.1; omega
        have HO : Hid (OpAt wr b (off + j.toNat * 6) kd x y cc s t) := hop
        have HD : Hid (∀ w' (hq : Ap w' p l g) (ht : Tab w'), Calls _ _ _ _ _) := D
        have HM : Hid (∀ w' (hq : Md w' m q g), Calls _ _ _ _ _) := DM
        have HL : Hid (∀ w' (h : Pr w' p l m q g'), Calls _ _ _ _ _) := LL
        have HN : Hid (b < w.heap.size ∧ k < len ∧ Good g' (2 * j + 1)) := ⟨hbw, hkl, hg2⟩
        clear hop D DM LL hbw hkl ek hg hg2
        go_wp2_with fail
        · refine (HD.out _ HQ.out.1.x (HT.out.nil HC.out)).mono ?_; rintro e w3 ⟨rfl, q3, k3⟩
          have C3 : Hid (Chg (fun _ => False) w w3) := chg_old HC.out k3 HP.out.2
          have o3 : OpAt w3 b (off + j.toNat * 6) kd x y cc s t := HO.out.kept k3 (fun e => by have := HP.out.2 _ e; have := HN.out; omega)
          have Q3 : Hid (Ap w3 p l g' ∧ Md w3 m q g) := ⟨q3, HP.out.1.keepM HQ.out.1.m k3⟩
          have o4 : OpAt (w3.alloc (.cells #[.int .i64 E, .int .i64 N, .int .i64 L, .string U] 33)) b (off + j.toNat * 6) kd x y cc s t := o3.kept ((Chg.refl (fun _ => False) w3).alloc _) (fun h => h)
          have d0 := o4.c0
          have d1 := o4.c1
          have d2 := o4.c2
          have d3 := o4.c3
          have d4 := o4.c4
          have d5 := o4.c5
          have C4 : Hid (Chg (fun _ => False) w (w3.alloc (.cells #[.int .i64 E, .int .i64 N, .int .i64 L, .string U] 33))) := C3.out.alloc _
          have Q4 : Hid (Ap (w3.alloc (.cells #[.int .i64 E, .int .i64 N, .int .i64 L, .string U] 33)) p l g' ∧ Md (w3.alloc (.cells #[.int .i64 E, .int .i64 N, .int .i64 L, .string U] 33)) m q g) := ⟨ap_nil Q3.out.1 ((Chg.refl _ _).alloc _), Q3.out.2.nil ((Chg.refl _ _).alloc _)⟩
          have R4 : Hid (Has 33 (w3.alloc (.cells #[.int .i64 E, .int .i64 N, .int .i64 L, .string U] 33)) w3.heap.size [.int .i64 E, .int .i64 N, .int .i64 L, .string U]) := Has.new _ _ _
          have O4 : Hid (OpAt (w3.alloc (.cells #[.int .i64 E, .int .i64 N, .int .i64 L, .string U] 33)) b (off + j.toNat * 6) kd x y cc s t) := o4
          clear k3 q3 o3 o4
          go_wp2_with fail
          refine (HM.out _ Q4.out.2).mono ?_; rintro e w5 ⟨rfl, q5, k5⟩
          have hm3 := lowm_of Q3.out.2
          have C5 : Hid (Chg (fun _ => False) w w5) := chg_old C4.out k5 (by have := HP.out.1.m; have := HP.out.1.q; intro i e; omega)
          have T5 : Hid (Pr w5 p l m q g') := ⟨HP.out.1.keepX Q4.out.1 k5, q5⟩
          have r5 : Has 33 w5 w3.heap.size [.int .i64 E, .int .i64 N, .int .i64 L, .string U] := Has.kept R4.out k5 (by have := hm3.1; have := hm3.2; omega)
          have R6 : Has 33 (w5.alloc (.cells #[.int .i64 E, .int .i64 N, .int .i64 L, .string U] 33)) w3.heap.size [.int .i64 E, .int .i64 N, .int .i64 L, .string U] := r5.alloc _
          have S6 : Has 33 (w5.alloc (.cells #[.int .i64 E, .int .i64 N, .int .i64 L, .string U] 33)) w5.heap.size [.int .i64 E, .int .i64 N, .int .i64 L, .string U] := Has.new _ _ _
          have C6 : Hid (Chg (fun _ => False) w (w5.alloc (.cells #[.int .i64 E, .int .i64 N, .int .i64 L, .string U] 33))) := C5.out.alloc _
          have T6 : Hid (Pr (w5.alloc (.cells #[.int .i64 E, .int .i64 N, .int .i64 L, .string U] 33)) p l m q g') := T5.out.nil ((Chg.refl _ _).alloc _)
          have v0 : (w5.alloc (.cells #[.int .i64 E, .int .i64 N, .int .i64 L, .string U] 33)).cell? ⟨w3.heap.size, 0, none⟩ = some (.int .i64 E) := R6.cell 0
          have v1 : (w5.alloc (.cells #[.int .i64 E, .int .i64 N, .int .i64 L, .string U] 33)).cell? ⟨w3.heap.size, 1, none⟩ = some (.int .i64 N) := R6.cell 1
          have v2 : (w5.alloc (.cells #[.int .i64 E, .int .i64 N, .int .i64 L, .string U] 33)).cell? ⟨w3.heap.size, 2, none⟩ = some (.int .i64 L) := R6.cell 2
          have v3 : (w5.alloc (.cells #[.int .i64 E, .int .i64 N, .int .i64 L, .string U] 33)).cell? ⟨w3.heap.size, 3, none⟩ = some (.string U) := R6.cell 3
          have v4 : (w5.alloc (.cells #[.int .i64 E, .int .i64 N, .int .i64 L, .string U] 33)).cell? ⟨w5.heap.size, 0, none⟩ = some (.int .i64 E) := S6.cell 0
          have v5 : (w5.alloc (.cells #[.int .i64 E, .int .i64 N, .int .i64 L, .string U] 33)).cell? ⟨w5.heap.size, 1, none⟩ = some (.int .i64 N) := S6.cell 1
          have v6 : (w5.alloc (.cells #[.int .i64 E, .int .i64 N, .int .i64 L, .string U] 33)).cell? ⟨w5.heap.size, 2, none⟩ = some (.int .i64 L) := S6.cell 2
          have v7 : (w5.alloc (.cells #[.int .i64 E, .int .i64 N, .int .i64 L, .string U] 33)).cell? ⟨w5.heap.size, 3, none⟩ = some (.string U) := S6.cell 3
          have o6 : OpAt (w5.alloc (.cells #[.int .i64 E, .int .i64 N, .int .i64 L, .string U] 33)) b (off + j.toNat * 6) kd x y cc s t := (O4.out.kept k5 (by have := HP.out.1.m; have := HP.out.1.q; have := HN.out; omega)).kept ((Chg.refl (fun _ => False) w5).alloc _) (fun h => h)
          have d0 := o6.c0
          have d1 := o6.c1
          have d2 := o6.c2
          have d3 := o6.c3
          have d4 := o6.c4
          have d5 := o6.c5
          clear k5 q5 r5 R6 S6 hm3 o6
          go_wp2_with fail
          refine (HL.out _ T6.out).mono ?_; rintro e w7 ⟨rfl, ⟨g2, h7, hg7⟩, k7⟩
          have T7 : Hid (Pr w7 p l m q g2) := h7
          have G7 : Hid (Good g2 (2 * j + 1 + 1)) := hg7
          have C7 : Hid (Chg (fun _ => False) w w7) := chg_old C6.out k7 (fun i e => e)
          clear h7 hg7 k7 d0 d1 d2 d3 d4 d5 v0 v1 v2 v3 v4 v5 v6 v7
          go_wp2_with fail
          refine (seen_p p m q l g2 (2 * j + 1 + 1) w.heap.size _ T7.out HP.out.1 G7.out (by omega) (HT.out.nil C7.out)).mono ?_; rintro e w8 ⟨rfl, h8, k8⟩
          have T8 : Hid (Pr w8 p l m q g2) := h8
          have C8 : Hid (Chg (fun _ => False) w w8) := chg_old C7.out k8 (fun i e => e)
          clear h8 k8
          go_wp2_with fail
          have h42 : j < 4398046511104 := by assumption
          have hj := HJ.out.1
          have hn := HN.out.2.1
          go_roundg (len - (k + 1))
          case measure => omega
          case rel => exact ⟨k + 1, by omega, rfl, by omega, by rw [show ((k + 1 : Nat) : Int) = j + 1 by omega], g2, T8.out, by rw [show (2 * ((k + 1 : Nat) : Int)) = 2 * j + 1 + 1 by omega]; exact G7.out, C8.out⟩
        · go_ret
          exact ⟨rfl, HC.out⟩
      · have hjl : ¬ j < (len : Int) := by have := HJ.out.1; omega
        go_wp2_with fail
        go_ret
        exact ⟨rfl, HC.out⟩
theorem open_none (a : Option Addr) (cap : Nat) (w : World) (ht : Tab w) :
    Calls Tryz.prog 8 #[.slice a 0 cap] w fun e w' => e = .returned (.int .i64 (-1)) ∧ Chg (fun _ => False) w w' := by
  have HT : Hid (Tab w) := ht
  clear ht
  go_enter Tryz.func8, Tryz.ntmps8
  go_wp2_with fail
  refine (pair_any _).mono ?_; rintro e w1 ⟨p, l, m, q, rfl, h1, ha, c1⟩
  have Q1 : Hid (Pr w1 p l m q g0) := h1
  have C1 : Hid (Chg (fun _ => False) w w1) := c1
  have HP : Hid (Apart w.heap.size p l m q ∧ ∀ i, i = p ∨ i = l.q → w.heap.size ≤ i) := ⟨ha, by have := ha.p; have := ha.lq; intro i e; omega⟩
  clear h1 c1 ha
  go_wp2_with fail
  go_loopg [5] 0 (fun gk i wr => i = .int .i64 0 ∧ Chg (fun _ => False) w wr)
  case atStart => exact ⟨rfl, C1.out⟩
  case round =>
    obtain ⟨rfl, hC⟩ := hrel
    have HC : Hid (Chg (fun _ => False) w wr) := hC
    clear hC
    go_wp2_with fail
    go_ret
    exact ⟨rfl, HC.out⟩
theorem openUpTo_any (a : Option Addr) (len cap : Nat) (w : World) (hl : len ≤ maxLen) (hs : 0 < len → ∃ b off, a = some ⟨b, off, none⟩ ∧ Script w b off len) (ht : Tab w) :
    Calls Tryz.prog 8 #[.slice a len cap] w fun e w' => e = .returned (.int .i64 (-1)) ∧ Chg (fun _ => False) w w' := by
  rcases Nat.eq_zero_or_pos len with h | h
  · subst h; exact open_none a cap w ht
  · obtain ⟨b, off, rfl, h1⟩ := hs h
    exact open_some b off len cap w h1 hl ht
theorem open_walk (a : Option Addr) (len cap : Nat) (w : World) (hl : len ≤ maxLen) (hs : 0 < len → ∃ b off, a = some ⟨b, off, none⟩ ∧ Script w b off len) (ht : Tab w) :
    Calls Tryz.prog 5 #[.slice a len cap] w fun e w' => e = .returned (.bool true) ∧ Below w.heap.size w w' := by
  have H1 : Hid (len ≤ maxLen) := hl
  have H2 : Hid (0 < len → ∃ b off, a = some ⟨b, off, none⟩ ∧ Script w b off len) := hs
  have H3 : Hid (Tab w) := ht
  clear hl hs ht
  go_enter Tryz.func5, Tryz.ntmps5
  go_wp2_with fail
  refine (openUpTo_any a len cap w H1.out H2.out H3.out).mono ?_; rintro e w1 ⟨rfl, k1⟩
  have C1 : Hid (Chg (fun _ => False) w w1) := k1
  clear k1
  go_wp2_with fail
  go_ret
  exact ⟨rfl, C1.out.nil.fin⟩
end Go.Proofs.Qxb6500376aGreatDoor

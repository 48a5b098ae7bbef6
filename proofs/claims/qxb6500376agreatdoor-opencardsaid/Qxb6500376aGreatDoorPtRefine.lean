/- Pair, Seen, walk, Refines, RefinesQuiet of the pipeline (written by tools/genptref.py). -/
import Derived.Test.Qxb6500376aGreatDoorCmDo
import Derived.Test.Qxb6500376aGreatDoorPtRow
import Derived.Deep.LoopGhost
namespace Go.Proofs.Qxb6500376aGreatDoor
set_option linter.unusedVariables false
set_option linter.unusedSimpArgs false
set_option maxHeartbeats 4000000
set_option maxRecDepth 100000
open Go.RowKit Go.Qu Ieee

theorem chg_old {w w2 w3 : World} {S : Nat → Prop} (h : Chg (fun _ => False) w w2) (k : Chg S w2 w3) (hs : ∀ i, S i → w.heap.size ≤ i) : Chg (fun _ => False) w w3 := by
  have h1 : Chg (w.heap.size ≤ ·) w w2 := h.nil
  have h2 : Chg (w.heap.size ≤ ·) w2 w3 := k.up hs
  exact (h1.trans h2).mono (fun k hk e => by omega)

/-- the blocks of the two sides, apart, all above B0 -/
structure Apart (B0 p : Nat) (l : Lk) (m q : Nat) : Prop where
  low : ∃ B, Low B p l ∧ B ≤ m ∧ B ≤ q
  p : B0 ≤ p
  lq : B0 ≤ l.q
  m : B0 ≤ m
  q : B0 ≤ q
/-- the two sides -/
structure Pr (w : World) (p : Nat) (l : Lk) (m q : Nat) (g : PS) : Prop where
  x : Ap w p l g
  m : Md w m q g
theorem Pr.nil {w w' : World} {p m q : Nat} {l : Lk} {g : PS} (h : Pr w p l m q g) (hc : Chg (fun _ => False) w w') : Pr w' p l m q g := ⟨ap_nil h.x hc, h.m.nil hc⟩
theorem Apart.keepM {B0 p m q : Nat} {l : Lk} (a : Apart B0 p l m q) {w w' : World} {g : PS} (h : Md w m q g) (hc : Chg (fun k => k = p ∨ k = l.q) w w') : Md w' m q g := by
  obtain ⟨B, lo, b1, b2⟩ := a.low
  have := lo.p; have := lo.q
  exact h.kept hc (by omega) (by omega)
theorem Apart.keepX {B0 p m q : Nat} {l : Lk} (a : Apart B0 p l m q) {w w' : World} {g : PS} (h : Ap w p l g) (hc : Chg (fun k => k = m ∨ k = q) w w') : Ap w' p l g := by
  obtain ⟨B, lo, b1, b2⟩ := a.low
  exact ap_kept h lo hc (fun k e => by omega)

theorem ground_any (w : World) : Calls Tryz.prog 15 #[] w fun e w' => e = .returned (.pointer (some ⟨w.heap.size, 0, none⟩)) ∧ Has 92 w' w.heap.size [.int .i64 0, .int .i64 0] ∧ w.heap.size < w'.heap.size ∧ Chg (fun _ => False) w w' := by
  go_enter Tryz.func15, Tryz.ntmps15
  go_wp2_with fail
  refine (new_any _).mono ?_; rintro e w1 ⟨rfl, h1⟩
  have H1 : Hid (Has 92 w1 w.heap.size [.int .i64 0, .int .i64 0] ∧ w.heap.size < w1.heap.size ∧ Chg (fun _ => False) w w1) := h1
  clear h1
  go_wp2_with fail
  go_ret
  exact ⟨rfl, H1.out⟩
theorem pair_any (w : World) : Calls Tryz.prog 10 #[] w fun e w' => ∃ p l m q, e = .returned (.tuple #[.pointer (some ⟨p, 0, none⟩), .pointer (some ⟨m, 0, none⟩)]) ∧ Pr w' p l m q g0 ∧ Apart w.heap.size p l m q ∧ Chg (fun _ => False) w w' := by
  go_enter Tryz.func10, Tryz.ntmps10
  go_wp2_with fail
  refine (ground_any _).mono ?_; rintro e w1 ⟨rfl, q1, s1, c1⟩
  have Q1 : Hid (Has 92 w1 w.heap.size [.int .i64 0, .int .i64 0] ∧ w.heap.size < w1.heap.size ∧ Chg (fun _ => False) w w1) := ⟨q1, s1, c1⟩
  clear q1 s1 c1
  go_wp2_with fail
  refine (chnew_any w.heap.size 0 0 _ Q1.out.1).mono ?_; rintro e w2 ⟨p, l, rfl, h2, k1, k2, k3, k4, k5, k6, k7, c2⟩
  have H2 : Hid (CA w2 p l cs0 0 0 ∧ l.q = w.heap.size ∧ w1.heap.size ≤ p ∧ Chg (fun _ => False) w1 w2) := ⟨h2, k1, k2, c2⟩
  clear h2 k1 k2 k3 k4 k5 k6 k7 c2
  go_wp2_with fail
  refine (mfresh_any _).mono ?_; rintro e w3 ⟨m, q, rfl, h3, k1, k2, c3⟩
  have H3 : Hid (Md w3 m q g0 ∧ w2.heap.size ≤ m ∧ w2.heap.size ≤ q ∧ Chg (fun _ => False) w2 w3) := ⟨h3, k1, k2, c3⟩
  clear h3 k1 k2 c3
  go_wp2_with fail
  go_ret2
  obtain ⟨a1, a2, a3⟩ := Q1.out
  obtain ⟨b1, b2, b3, b4⟩ := H2.out
  obtain ⟨d1, d2, d3, d4⟩ := H3.out
  have hx : Ap w2 p l g0 := by unfold Ap; rw [g0_real]; exact b1
  have lo := low_of hx
  have hp := lo.p
  have hs := b4.size
  exact ⟨p, l, m, q, rfl, ⟨ap_nil hx d4, d1⟩, ⟨⟨w2.heap.size, lo, d2, d3⟩, by omega, by omega, by omega, by omega⟩, (a3.trans b4).trans d4⟩

theorem seen_p (p m q : Nat) (l : Lk) (g : PS) (n : Int) (B0 : Nat) (w : World) (h : Pr w p l m q g) (ha : Apart B0 p l m q) (hg : Good g n) (hn : n ≤ 4611686018427387904) (ht : Tab w) :
    Calls Tryz.prog 14 #[.pointer (some ⟨p, 0, none⟩), .pointer (some ⟨m, 0, none⟩)] w fun e w' => e = .returned (.bool true) ∧ Pr w' p l m q g ∧ Chg (fun k => B0 ≤ k) w w' := by
  have H : Hid (Pr w p l m q g) := h
  have HA : Hid (Apart B0 p l m q) := ha
  have HT : Hid (Tab w) := ht
  have HG : Hid (Good g n ∧ n ≤ 4611686018427387904) := ⟨hg, hn⟩
  have HU : Hid (∀ {w w' : World}, Chg (fun k => k = p ∨ k = l.q) w w' → Chg (fun k => B0 ≤ k) w w') := fun h => h.up (by have := ha.p; have := ha.lq; intro k e; omega)
  have HV : Hid (∀ {w w' : World}, Chg (fun k => k = m ∨ k = q) w w' → Chg (fun k => B0 ≤ k) w w') := fun h => h.up (by have := ha.m; have := ha.q; intro k e; omega)
  clear h ha ht hg hn
  generalize hs : textP g = s
  have HE : Hid (textP g = s) := hs
  clear hs
  go_enter Tryz.func14, Tryz.ntmps14
  go_wp2_with fail
  refine (ShowR p l g n _ HG.out.1 HG.out.2 H.out.x HT.out).mono ?_; rintro e w1 ⟨rfl, q1, k1⟩
  rw [HE.out]
  have H1 : Hid (Pr w1 p l m q g ∧ Chg (fun k => B0 ≤ k) w w1) := ⟨⟨q1, HA.out.keepM H.out.m k1⟩, HU.out k1⟩
  clear q1 k1
  go_wp2_with fail
  refine (ShowM m q g n _ HG.out.1 HG.out.2 H1.out.1.m).mono ?_; rintro e w2 ⟨rfl, q2, k2⟩
  rw [HE.out]
  have H2 : Hid (Pr w2 p l m q g ∧ Chg (fun k => B0 ≤ k) w w2) := ⟨⟨HA.out.keepX H1.out.1.x k2, q2⟩, H1.out.2.trans (HV.out k2)⟩
  clear q2 k2 H1
  go_wp2_with fail
  refine (CheckR p l g n _ HG.out.1 H2.out.1.x).mono ?_; rintro e w3 ⟨rfl, q3, k3⟩
  have H3 : Hid (Pr w3 p l m q g ∧ Chg (fun k => B0 ≤ k) w w3) := ⟨⟨q3, HA.out.keepM H2.out.1.m k3⟩, H2.out.2.trans (HU.out k3)⟩
  clear q3 k3 H2
  go_wp2_with fail
  refine (CheckM m q g n _ HG.out.1 H3.out.1.m).mono ?_; rintro e w4 ⟨rfl, q4, k4⟩
  have H4 : Hid (Pr w4 p l m q g ∧ Chg (fun k => B0 ≤ k) w w4) := ⟨⟨HA.out.keepX H3.out.1.x k4, q4⟩, H3.out.2.trans (HV.out k4)⟩
  clear q4 k4 H3
  go_wp2_with fail
  go_ret
  exact ⟨rfl, H4.out.1, H4.out.2⟩

theorem walk_some (b off len cap : Nat) (quiet : Bool) (w : World) (hs : Script w b off len) (hl : len ≤ maxLen) (ht : Tab w) :
    Calls Tryz.prog 9 #[.slice (some ⟨b, off, none⟩) len cap, .bool quiet] w fun e w' => (∃ n : Int, e = .returned (.tuple #[.int .i64 (-1), .int .i64 n])) ∧ Chg (fun _ => False) w w' := by
  unfold maxLen at hl
  have HS : Hid (Script w b off len) := hs
  have HT : Hid (Tab w) := ht
  clear hs ht
  go_enter Tryz.func9, Tryz.ntmps9
  go_wp2_with fail
  refine (pair_any _).mono ?_; rintro e w1 ⟨p, l, m, q, rfl, h1, ha, c1⟩
  have Q1 : Hid (Pr w1 p l m q g0) := h1
  have C1 : Hid (Chg (fun _ => False) w w1) := c1
  have HP : Hid (Apart w.heap.size p l m q ∧ ∀ i, i = p ∨ i = l.q → w.heap.size ≤ i) := ⟨ha, by have := ha.p; have := ha.lq; intro i e; omega⟩
  clear h1 c1 ha
  cases quiet
  · go_wp2_with fail
    refine (seen_p p m q l g0 0 w.heap.size _ Q1.out HP.out.1 g0_good (by omega) (HT.out.nil C1.out)).mono ?_; rintro e w2 ⟨rfl, h2, k2⟩
    have Q2 : Hid (Pr w2 p l m q g0) := h2
    have C2 : Hid (Chg (fun _ => False) w w2) := chg_old C1.out k2 (fun i e => e)
    clear h2 k2 Q1 C1
    go_wp2_with fail
    go_loopg [8] len (fun gk i wr => ∃ k : Nat, k ≤ len ∧ gk = len - k ∧ (k : Int) ≤ 4398046511104 ∧ i = .int .i64 k ∧ ∃ g : PS, Pr wr p l m q g ∧ Good g k ∧ Chg (fun _ => False) w wr)
    case atStart => exact ⟨0, by omega, by omega, by omega, rfl, g0, Q2.out, g0_good, C2.out⟩
    case round =>
      obtain ⟨k, hk, rfl, hk2, rfl, g, hq, hg, hC⟩ := hrel
      obtain ⟨j, hj⟩ : ∃ j : Int, (k : Int) = j := ⟨_, rfl⟩
      have HJ : Hid ((k : Int) = j ∧ k ≤ len) := ⟨hj, hk⟩
      have j0 : 0 ≤ j := by omega
      have j1 : j ≤ 9223372036854775806 := by omega
      rw [hj] at hg ⊢
      have j2 : j ≤ 4398046511104 := by omega
      clear hk hk2 hj hl
      have HQ : Hid (Pr wr p l m q g ∧ Good g j) := ⟨hq, hg⟩
      have HC : Hid (Chg (fun _ => False) w wr) := hC
      clear hq hC hg
      by_cases hkl : k < len
      · obtain ⟨kd, x, y, cc, s, t, hop⟩ := (Script.kept HS.out HC.out (fun h => h)) k hkl
        obtain ⟨_, _, _, _, _, _, h0⟩ := HS.out k hkl
        have hbw : b < w.heap.size := World.block_lt_of_cell? w _ h0.c0
        clear h0
        have ek : k = j.toNat := by have := HJ.out.1; omega
        rw [ek] at hop
        have d0 := hop.c0
        have d1 := hop.c1
        have d2 := hop.c2
        have d3 := hop.c3
        have d4 := hop.c4
        have d5 := hop.c5
        have hg := HQ.out.2
        have D := fun w' (hq : Ap w' p l g) (ht : Tab w') => chdo_any p l g j kd x y cc s t w' hg (by omega) hop.x hq ht
        have DM := fun w' (hq : Md w' m q g) => cmdo_any m q g j kd x y cc s t w' hg (by omega) hop.x hop.y hq
        have hg2 := stepP_good hg kd hop.x y
        generalize (stepP g kd x y).2 = g' at D DM hg2
        generalize (stepP g kd x y).1.e = E at D DM
        generalize (stepP g kd x y).1.n = N at D DM
        generalize (stepP g kd x y).1.k = L at D DM
        generalize textS g kd = U at D DM
        unfold opV ansV at D DM
        have hjl : j < (len : Int) := by have := HJ.out.1; omega
        have HO : Hid (OpAt wr b (off + j.toNat * 6) kd x y cc s t) := hop
        have HD : Hid (∀ w' (hq : Ap w' p l g) (ht : Tab w'), Calls _ _ _ _ _) := D
        have HM : Hid (∀ w' (hq : Md w' m q g), Calls _ _ _ _ _) := DM
        have HN : Hid (b < w.heap.size ∧ k < len ∧ Good g' (j + 1)) := ⟨hbw, hkl, hg2⟩
        clear hop D DM hbw hkl ek hg hg2
        go_wp2_with fail
        · refine (HD.out _ HQ.out.1.x (HT.out.nil HC.out)).mono ?_; rintro e w3 ⟨rfl, q3, k3⟩
          have C3 : Hid (Chg (fun _ => False) w w3) := chg_old HC.out k3 HP.out.2
          have o3 : OpAt w3 b (off + j.toNat * 6) kd x y cc s t := HO.out.kept k3 (fun e => by have := HP.out.2 _ e; have := HN.out; omega)
          have Q3 : Hid (Ap w3 p l g' ∧ Md w3 m q g) := ⟨q3, HP.out.1.keepM HQ.out.1.m k3⟩
          have o4 : OpAt (w3.alloc (.cells #[.int .i64 E, .int .i64 N, .int .i64 L, .string U] 33)) b (off + j.toNat * 6) kd x y cc s t := o3.kept ((Chg.refl (fun _ => False) w3).alloc _) (fun h => h)
          have d0 := o4.c0
          have d1 := o4.c1
          have d2 := o4.c2
          have d3 := o4.c3
          have d4 := o4.c4
          have d5 := o4.c5
          have C4 : Hid (Chg (fun _ => False) w (w3.alloc (.cells #[.int .i64 E, .int .i64 N, .int .i64 L, .string U] 33))) := C3.out.alloc _
          have Q4 : Hid (Ap (w3.alloc (.cells #[.int .i64 E, .int .i64 N, .int .i64 L, .string U] 33)) p l g' ∧ Md (w3.alloc (.cells #[.int .i64 E, .int .i64 N, .int .i64 L, .string U] 33)) m q g) := ⟨ap_nil Q3.out.1 ((Chg.refl _ _).alloc _), Q3.out.2.nil ((Chg.refl _ _).alloc _)⟩
          have R4 : Hid (Has 33 (w3.alloc (.cells #[.int .i64 E, .int .i64 N, .int .i64 L, .string U] 33)) w3.heap.size [.int .i64 E, .int .i64 N, .int .i64 L, .string U]) := Has.new _ _ _
          have O4 : Hid (OpAt (w3.alloc (.cells #[.int .i64 E, .int .i64 N, .int .i64 L, .string U] 33)) b (off + j.toNat * 6) kd x y cc s t) := o4
          clear k3 q3 o3 o4
          go_wp2_with fail
          refine (HM.out _ Q4.out.2).mono ?_; rintro e w5 ⟨rfl, q5, k5⟩
          have hm3 := lowm_of Q3.out.2
          have C5 : Hid (Chg (fun _ => False) w w5) := chg_old C4.out k5 (by have := HP.out.1.m; have := HP.out.1.q; intro i e; omega)
          have T5 : Hid (Pr w5 p l m q g') := ⟨HP.out.1.keepX Q4.out.1 k5, q5⟩
          have r5 : Has 33 w5 w3.heap.size [.int .i64 E, .int .i64 N, .int .i64 L, .string U] := Has.kept R4.out k5 (by have := hm3.1; have := hm3.2; omega)
          have R6 : Has 33 (w5.alloc (.cells #[.int .i64 E, .int .i64 N, .int .i64 L, .string U] 33)) w3.heap.size [.int .i64 E, .int .i64 N, .int .i64 L, .string U] := r5.alloc _
          have S6 : Has 33 (w5.alloc (.cells #[.int .i64 E, .int .i64 N, .int .i64 L, .string U] 33)) w5.heap.size [.int .i64 E, .int .i64 N, .int .i64 L, .string U] := Has.new _ _ _
          have C6 : Hid (Chg (fun _ => False) w (w5.alloc (.cells #[.int .i64 E, .int .i64 N, .int .i64 L, .string U] 33))) := C5.out.alloc _
          have T6 : Hid (Pr (w5.alloc (.cells #[.int .i64 E, .int .i64 N, .int .i64 L, .string U] 33)) p l m q g') := T5.out.nil ((Chg.refl _ _).alloc _)
          have v0 : (w5.alloc (.cells #[.int .i64 E, .int .i64 N, .int .i64 L, .string U] 33)).cell? ⟨w3.heap.size, 0, none⟩ = some (.int .i64 E) := R6.cell 0
          have v1 : (w5.alloc (.cells #[.int .i64 E, .int .i64 N, .int .i64 L, .string U] 33)).cell? ⟨w3.heap.size, 1, none⟩ = some (.int .i64 N) := R6.cell 1
          have v2 : (w5.alloc (.cells #[.int .i64 E, .int .i64 N, .int .i64 L, .string U] 33)).cell? ⟨w3.heap.size, 2, none⟩ = some (.int .i64 L) := R6.cell 2
          have v3 : (w5.alloc (.cells #[.int .i64 E, .int .i64 N, .int .i64 L, .string U] 33)).cell? ⟨w3.heap.size, 3, none⟩ = some (.string U) := R6.cell 3
          have v4 : (w5.alloc (.cells #[.int .i64 E, .int .i64 N, .int .i64 L, .string U] 33)).cell? ⟨w5.heap.size, 0, none⟩ = some (.int .i64 E) := S6.cell 0
          have v5 : (w5.alloc (.cells #[.int .i64 E, .int .i64 N, .int .i64 L, .string U] 33)).cell? ⟨w5.heap.size, 1, none⟩ = some (.int .i64 N) := S6.cell 1
          have v6 : (w5.alloc (.cells #[.int .i64 E, .int .i64 N, .int .i64 L, .string U] 33)).cell? ⟨w5.heap.size, 2, none⟩ = some (.int .i64 L) := S6.cell 2
          have v7 : (w5.alloc (.cells #[.int .i64 E, .int .i64 N, .int .i64 L, .string U] 33)).cell? ⟨w5.heap.size, 3, none⟩ = some (.string U) := S6.cell 3
          clear k5 q5 r5 R6 S6 hm3 d0 d1 d2 d3 d4 d5
          go_wp2_with fail
          refine (seen_p p m q l g' (j + 1) w.heap.size _ T6.out HP.out.1 HN.out.2.2 (by omega) (HT.out.nil C6.out)).mono ?_; rintro e w8 ⟨rfl, h8, k8⟩
          have T8 : Hid (Pr w8 p l m q g') := h8
          have C8 : Hid (Chg (fun _ => False) w w8) := chg_old C6.out k8 (fun i e => e)
          clear h8 k8 v0 v1 v2 v3 v4 v5 v6 v7
          go_wp2_with fail
          have h42 : j < 4398046511104 := by assumption
          have hj := HJ.out.1
          have hn := HN.out.2.1
          go_roundg (len - (k + 1))
          case measure => omega
          case rel => exact ⟨k + 1, by omega, rfl, by omega, by rw [show ((k + 1 : Nat) : Int) = j + 1 by omega], g', T8.out, by rw [show ((k + 1 : Nat) : Int) = j + 1 by omega]; exact HN.out.2.2, C8.out⟩
        · go_ret2
          exact ⟨⟨_, rfl⟩, HC.out⟩
      · have hjl : ¬ j < (len : Int) := by have := HJ.out.1; omega
        go_wp2_with fail
        go_ret2
        exact ⟨⟨_, rfl⟩, HC.out⟩
  · go_wp2_with fail
    have Q2 : Hid (Pr w1 p l m q g0) := Q1.out
    have C2 : Hid (Chg (fun _ => False) w w1) := C1.out
    clear Q1 C1
    go_loopg [8] len (fun gk i wr => ∃ k : Nat, k ≤ len ∧ gk = len - k ∧ (k : Int) ≤ 4398046511104 ∧ i = .int .i64 k ∧ ∃ g : PS, Pr wr p l m q g ∧ Good g k ∧ Chg (fun _ => False) w wr)
    case atStart => exact ⟨0, by omega, by omega, by omega, rfl, g0, Q2.out, g0_good, C2.out⟩
    case round =>
      obtain ⟨k, hk, rfl, hk2, rfl, g, hq, hg, hC⟩ := hrel
      obtain ⟨j, hj⟩ : ∃ j : Int, (k : Int) = j := ⟨_, rfl⟩
      have HJ : Hid ((k : Int) = j ∧ k ≤ len) := ⟨hj, hk⟩
      have j0 : 0 ≤ j := by omega
      have j1 : j ≤ 9223372036854775806 := by omega
      rw [hj] at hg ⊢
      have j2 : j ≤ 4398046511104 := by omega
      clear hk hk2 hj hl
      have HQ : Hid (Pr wr p l m q g ∧ Good g j) := ⟨hq, hg⟩
      have HC : Hid (Chg (fun _ => False) w wr) := hC
      clear hq hC hg
      by_cases hkl : k < len
      · obtain ⟨kd, x, y, cc, s, t, hop⟩ := (Script.kept HS.out HC.out (fun h => h)) k hkl
        obtain ⟨_, _, _, _, _, _, h0⟩ := HS.out k hkl
        have hbw : b < w.heap.size := World.block_lt_of_cell? w _ h0.c0
        clear h0
        have ek : k = j.toNat := by have := HJ.out.1; omega
        rw [ek] at hop
        have d0 := hop.c0
        have d1 := hop.c1
        have d2 := hop.c2
        have d3 := hop.c3
        have d4 := hop.c4
        have d5 := hop.c5
        have hg := HQ.out.2
        have D := fun w' (hq : Ap w' p l g) (ht : Tab w') => chdo_any p l g j kd x y cc s t w' hg (by omega) hop.x hq ht
        have DM := fun w' (hq : Md w' m q g) => cmdo_any m q g j kd x y cc s t w' hg (by omega) hop.x hop.y hq
        have hg2 := stepP_good hg kd hop.x y
        generalize (stepP g kd x y).2 = g' at D DM hg2
        generalize (stepP g kd x y).1.e = E at D DM
        generalize (stepP g kd x y).1.n = N at D DM
        generalize (stepP g kd x y).1.k = L at D DM
        generalize textS g kd = U at D DM
        unfold opV ansV at D DM
        have hjl : j < (len : Int) := by have := HJ.out.1; omega
        have HO : Hid (OpAt wr b (off + j.toNat * 6) kd x y cc s t) := hop
        have HD : Hid (∀ w' (hq : Ap w' p l g) (ht : Tab w'), Calls _ _ _ _ _) := D
        have HM : Hid (∀ w' (hq : Md w' m q g), Calls _ _ _ _ _) := DM
        have HN : Hid (b < w.heap.size ∧ k < len ∧ Good g' (j + 1)) := ⟨hbw, hkl, hg2⟩
        clear hop D DM hbw hkl ek hg hg2
        go_wp2_with fail
        · refine (HD.out _ HQ.out.1.x (HT.out.nil HC.out)).mono ?_; rintro e w3 ⟨rfl, q3, k3⟩
          have C3 : Hid (Chg (fun _ => False) w w3) := chg_old HC.out k3 HP.out.2
          have o3 : OpAt w3 b (off + j.toNat * 6) kd x y cc s t := HO.out.kept k3 (fun e => by have := HP.out.2 _ e; have := HN.out; omega)
          have Q3 : Hid (Ap w3 p l g' ∧ Md w3 m q g) := ⟨q3, HP.out.1.keepM HQ.out.1.m k3⟩
          have o4 : OpAt (w3.alloc (.cells #[.int .i64 E, .int .i64 N, .int .i64 L, .string U] 33)) b (off + j.toNat * 6) kd x y cc s t := o3.kept ((Chg.refl (fun _ => False) w3).alloc _) (fun h => h)
          have d0 := o4.c0
          have d1 := o4.c1
          have d2 := o4.c2
          have d3 := o4.c3
          have d4 := o4.c4
          have d5 := o4.c5
          have C4 : Hid (Chg (fun _ => False) w (w3.alloc (.cells #[.int .i64 E, .int .i64 N, .int .i64 L, .string U] 33))) := C3.out.alloc _
          have Q4 : Hid (Ap (w3.alloc (.cells #[.int .i64 E, .int .i64 N, .int .i64 L, .string U] 33)) p l g' ∧ Md (w3.alloc (.cells #[.int .i64 E, .int .i64 N, .int .i64 L, .string U] 33)) m q g) := ⟨ap_nil Q3.out.1 ((Chg.refl _ _).alloc _), Q3.out.2.nil ((Chg.refl _ _).alloc _)⟩
          have R4 : Hid (Has 33 (w3.alloc (.cells #[.int .i64 E, .int .i64 N, .int .i64 L, .string U] 33)) w3.heap.size [.int .i64 E, .int .i64 N, .int .i64 L, .string U]) := Has.new _ _ _
          have O4 : Hid (OpAt (w3.alloc (.cells #[.int .i64 E, .int .i64 N, .int .i64 L, .string U] 33)) b (off + j.toNat * 6) kd x y cc s t) := o4
          clear k3 q3 o3 o4
          go_wp2_with fail
          refine (HM.out _ Q4.out.2).mono ?_; rintro e w5 ⟨rfl, q5, k5⟩
          have hm3 := lowm_of Q3.out.2
          have C5 : Hid (Chg (fun _ => False) w w5) := chg_old C4.out k5 (by have := HP.out.1.m; have := HP.out.1.q; intro i e; omega)
          have T5 : Hid (Pr w5 p l m q g') := ⟨HP.out.1.keepX Q4.out.1 k5, q5⟩
          have r5 : Has 33 w5 w3.heap.size [.int .i64 E, .int .i64 N, .int .i64 L, .string U] := Has.kept R4.out k5 (by have := hm3.1; have := hm3.2; omega)
          have R6 : Has 33 (w5.alloc (.cells #[.int .i64 E, .int .i64 N, .int .i64 L, .string U] 33)) w3.heap.size [.int .i64 E, .int .i64 N, .int .i64 L, .string U] := r5.alloc _
          have S6 : Has 33 (w5.alloc (.cells #[.int .i64 E, .int .i64 N, .int .i64 L, .string U] 33)) w5.heap.size [.int .i64 E, .int .i64 N, .int .i64 L, .string U] := Has.new _ _ _
          have C6 : Hid (Chg (fun _ => False) w (w5.alloc (.cells #[.int .i64 E, .int .i64 N, .int .i64 L, .string U] 33))) := C5.out.alloc _
          have T6 : Hid (Pr (w5.alloc (.cells #[.int .i64 E, .int .i64 N, .int .i64 L, .string U] 33)) p l m q g') := T5.out.nil ((Chg.refl _ _).alloc _)
          have v0 : (w5.alloc (.cells #[.int .i64 E, .int .i64 N, .int .i64 L, .string U] 33)).cell? ⟨w3.heap.size, 0, none⟩ = some (.int .i64 E) := R6.cell 0
          have v1 : (w5.alloc (.cells #[.int .i64 E, .int .i64 N, .int .i64 L, .string U] 33)).cell? ⟨w3.heap.size, 1, none⟩ = some (.int .i64 N) := R6.cell 1
          have v2 : (w5.alloc (.cells #[.int .i64 E, .int .i64 N, .int .i64 L, .string U] 33)).cell? ⟨w3.heap.size, 2, none⟩ = some (.int .i64 L) := R6.cell 2
          have v3 : (w5.alloc (.cells #[.int .i64 E, .int .i64 N, .int .i64 L, .string U] 33)).cell? ⟨w3.heap.size, 3, none⟩ = some (.string U) := R6.cell 3
          have v4 : (w5.alloc (.cells #[.int .i64 E, .int .i64 N, .int .i64 L, .string U] 33)).cell? ⟨w5.heap.size, 0, none⟩ = some (.int .i64 E) := S6.cell 0
          have v5 : (w5.alloc (.cells #[.int .i64 E, .int .i64 N, .int .i64 L, .string U] 33)).cell? ⟨w5.heap.size, 1, none⟩ = some (.int .i64 N) := S6.cell 1
          have v6 : (w5.alloc (.cells #[.int .i64 E, .int .i64 N, .int .i64 L, .string U] 33)).cell? ⟨w5.heap.size, 2, none⟩ = some (.int .i64 L) := S6.cell 2
          have v7 : (w5.alloc (.cells #[.int .i64 E, .int .i64 N, .int .i64 L, .string U] 33)).cell? ⟨w5.heap.size, 3, none⟩ = some (.string U) := S6.cell 3
          clear k5 q5 r5 R6 S6 hm3 d0 d1 d2 d3 d4 d5
          go_wp2_with fail
          have h42 : j < 4398046511104 := by assumption
          have hj := HJ.out.1
          have hn := HN.out.2.1
          go_roundg (len - (k + 1))
          case measure => omega
          case rel => exact ⟨k + 1, by omega, rfl, by omega, by rw [show ((k + 1 : Nat) : Int) = j + 1 by omega], g', T6.out, by rw [show ((k + 1 : Nat) : Int) = j + 1 by omega]; exact HN.out.2.2, C6.out⟩
        · go_ret2
          exact ⟨⟨_, rfl⟩, HC.out⟩
      · have hjl : ¬ j < (len : Int) := by have := HJ.out.1; omega
        go_wp2_with fail
        go_ret2
        exact ⟨⟨_, rfl⟩, HC.out⟩

theorem walk_none (a : Option Addr) (cap : Nat) (quiet : Bool) (w : World) (ht : Tab w) :
    Calls Tryz.prog 9 #[.slice a 0 cap, .bool quiet] w fun e w' => (∃ n : Int, e = .returned (.tuple #[.int .i64 (-1), .int .i64 n])) ∧ Chg (fun _ => False) w w' := by
  have HT : Hid (Tab w) := ht
  clear ht
  go_enter Tryz.func9, Tryz.ntmps9
  go_wp2_with fail
  refine (pair_any _).mono ?_; rintro e w1 ⟨p, l, m, q, rfl, h1, ha, c1⟩
  have Q1 : Hid (Pr w1 p l m q g0) := h1
  have C1 : Hid (Chg (fun _ => False) w w1) := c1
  have HP : Hid (Apart w.heap.size p l m q ∧ ∀ i, i = p ∨ i = l.q → w.heap.size ≤ i) := ⟨ha, by have := ha.p; have := ha.lq; intro i e; omega⟩
  clear h1 c1 ha
  cases quiet
  · go_wp2_with fail
    refine (seen_p p m q l g0 0 w.heap.size _ Q1.out HP.out.1 g0_good (by omega) (HT.out.nil C1.out)).mono ?_; rintro e w2 ⟨rfl, h2, k2⟩
    have C2 : Hid (Chg (fun _ => False) w w2) := chg_old C1.out k2 (fun i e => e)
    clear h2 k2 Q1 C1
    go_wp2_with fail
    go_loopg [8] 0 (fun gk i wr => i = .int .i64 0 ∧ Chg (fun _ => False) w wr)
    case atStart => exact ⟨rfl, C2.out⟩
    case round =>
      obtain ⟨rfl, hC⟩ := hrel
      have HC : Hid (Chg (fun _ => False) w wr) := hC
      clear hC
      go_wp2_with fail
      go_ret2
      exact ⟨⟨_, rfl⟩, HC.out⟩
  · go_wp2_with fail
    go_loopg [8] 0 (fun gk i wr => i = .int .i64 0 ∧ Chg (fun _ => False) w wr)
    case atStart => exact ⟨rfl, C1.out⟩
    case round =>
      obtain ⟨rfl, hC⟩ := hrel
      have HC : Hid (Chg (fun _ => False) w wr) := hC
      clear hC
      go_wp2_with fail
      go_ret2
      exact ⟨⟨_, rfl⟩, HC.out⟩

theorem walk_any (a : Option Addr) (len cap : Nat) (quiet : Bool) (w : World) (hl : len ≤ maxLen) (hs : 0 < len → ∃ b off, a = some ⟨b, off, none⟩ ∧ Script w b off len) (ht : Tab w) :
    Calls Tryz.prog 9 #[.slice a len cap, .bool quiet] w fun e w' => (∃ n : Int, e = .returned (.tuple #[.int .i64 (-1), .int .i64 n])) ∧ Chg (fun _ => False) w w' := by
  rcases Nat.eq_zero_or_pos len with h | h
  · subst h; exact walk_none a cap quiet w ht
  · obtain ⟨b, off, rfl, h1⟩ := hs h
    exact walk_some b off len cap quiet w h1 hl ht

theorem refinesUpTo_any (a : Option Addr) (len cap : Nat) (w : World) (hl : len ≤ maxLen) (hs : 0 < len → ∃ b off, a = some ⟨b, off, none⟩ ∧ Script w b off len) (ht : Tab w) :
    Calls Tryz.prog 6 #[.slice a len cap] w fun e w' => e = .returned (.int .i64 (-1)) ∧ Chg (fun _ => False) w w' := by
  have H1 : Hid (len ≤ maxLen) := hl
  have H2 : Hid (0 < len → ∃ b off, a = some ⟨b, off, none⟩ ∧ Script w b off len) := hs
  have H3 : Hid (Tab w) := ht
  clear hl hs ht
  go_enter Tryz.func6, Tryz.ntmps6
  go_wp2_with fail
  refine (walk_any a len cap false w H1.out H2.out H3.out).mono ?_; rintro e w1 ⟨⟨n, rfl⟩, k1⟩
  have C1 : Hid (Chg (fun _ => False) w w1) := k1
  clear k1
  go_wp2_with fail
  go_ret
  exact ⟨rfl, C1.out⟩
theorem refines_walk (a : Option Addr) (len cap : Nat) (w : World) (hl : len ≤ maxLen) (hs : 0 < len → ∃ b off, a = some ⟨b, off, none⟩ ∧ Script w b off len) (ht : Tab w) :
    Calls Tryz.prog 3 #[.slice a len cap] w fun e w' => e = .returned (.bool true) ∧ Below w.heap.size w w' := by
  have H1 : Hid (len ≤ maxLen) := hl
  have H2 : Hid (0 < len → ∃ b off, a = some ⟨b, off, none⟩ ∧ Script w b off len) := hs
  have H3 : Hid (Tab w) := ht
  clear hl hs ht
  go_enter Tryz.func3, Tryz.ntmps3
  go_wp2_with fail
  refine (refinesUpTo_any a len cap w H1.out H2.out H3.out).mono ?_; rintro e w1 ⟨rfl, k1⟩
  have C1 : Hid (Chg (fun _ => False) w w1) := k1
  clear k1
  go_wp2_with fail
  go_ret
  exact ⟨rfl, C1.out.nil.fin⟩

theorem refinesQuietUpTo_any (a : Option Addr) (len cap : Nat) (w : World) (hl : len ≤ maxLen) (hs : 0 < len → ∃ b off, a = some ⟨b, off, none⟩ ∧ Script w b off len) (ht : Tab w) :
    Calls Tryz.prog 7 #[.slice a len cap] w fun e w' => e = .returned (.int .i64 (-1)) ∧ Chg (fun _ => False) w w' := by
  have H1 : Hid (len ≤ maxLen) := hl
  have H2 : Hid (0 < len → ∃ b off, a = some ⟨b, off, none⟩ ∧ Script w b off len) := hs
  have H3 : Hid (Tab w) := ht
  clear hl hs ht
  go_enter Tryz.func7, Tryz.ntmps7
  go_wp2_with fail
  refine (walk_any a len cap true w H1.out H2.out H3.out).mono ?_; rintro e w1 ⟨⟨n, rfl⟩, k1⟩
  have C1 : Hid (Chg (fun _ => False) w w1) := k1
  clear k1
  go_wp2_with fail
  go_ret
  exact ⟨rfl, C1.out⟩
theorem refinesQuiet_walk (a : Option Addr) (len cap : Nat) (w : World) (hl : len ≤ maxLen) (hs : 0 < len → ∃ b off, a = some ⟨b, off, none⟩ ∧ Script w b off len) (ht : Tab w) :
    Calls Tryz.prog 4 #[.slice a len cap] w fun e w' => e = .returned (.bool true) ∧ Below w.heap.size w w' := by
  have H1 : Hid (len ≤ maxLen) := hl
  have H2 : Hid (0 < len → ∃ b off, a = some ⟨b, off, none⟩ ∧ Script w b off len) := hs
  have H3 : Hid (Tab w) := ht
  clear hl hs ht
  go_enter Tryz.func4, Tryz.ntmps4
  go_wp2_with fail
  refine (refinesQuietUpTo_any a len cap w H1.out H2.out H3.out).mono ?_; rintro e w1 ⟨rfl, k1⟩
  have C1 : Hid (Chg (fun _ => False) w w1) := k1
  clear k1
  go_wp2_with fail
  go_ret
  exact ⟨rfl, C1.out.nil.fin⟩
end Go.Proofs.Qxb6500376aGreatDoor

/- KeepsQuiet: due, all kinds; the loop; the law (written by tools/genkql.py). -/
import Derived.Test.Qxb6500376aDoorKqDue
import Derived.Test.Qxb6500376aDoorKqDueB
import Derived.Test.Qxb6500376aDoorPtRow
import Derived.Deep.LoopGhost
namespace Go.Proofs.Qxb6500376aDoor
set_option linter.unusedVariables false
set_option linter.unusedSimpArgs false
set_option maxHeartbeats 4000000
set_option maxRecDepth 100000
open Go.RowKit Go.Qu Ieee

theorem due_any (p l : Nat) (g : PS) (n : Int) (kd a b cc : Int) (s t : ByteArray) (w : World) (hg : Good g n) (hn : n ≤ 4611686018427387904) (ha : I64 a) (hb : I64 b) (h : Sz w p l g) (ht : Tab w) :
    Calls Tryd.prog 20 #[.pointer (some ⟨l, 0, none⟩), .pointer (some ⟨p, 0, none⟩), opV kd a b cc s t] w fun e w' => e = .returned (ansV (stepP g kd a b).1.e (stepP g kd a b).1.n (stepP g kd a b).1.k (textS g kd)) ∧ Sz w' p l (stepP g kd a b).2 ∧ Chg (fun k => k = p ∨ k = l) w w' := by
  by_cases h1 : kd = 1
  · subst h1
    have e0 : stepP g 1 a b = tuneP g a b := rfl
    rw [e0]
    unfold tuneP
    by_cases x1 : a < 1
    · rw [if_pos (Or.inl x1)]; exact due_1a p l g n a b cc s t w hg hn ha hb h x1
    by_cases x2 : 32 < a
    · rw [if_pos (Or.inr x2)]; exact due_1b p l g n a b cc s t w hg hn ha hb h x2
    rw [if_neg (by omega)]
    by_cases x3 : b < 0
    · rw [if_pos (Or.inl x3)]; exact due_1c p l g n a b cc s t w hg hn ha hb h (by omega) (by omega) x3
    by_cases x4 : 3 < b
    · rw [if_pos (Or.inr x4)]; exact due_1d p l g n a b cc s t w hg hn ha hb h (by omega) (by omega) x4
    rw [if_neg (by omega)]; exact due_1e p l g n a b cc s t w hg hn ha hb h (by omega) (by omega) (by omega) (by omega)
  by_cases h2 : kd = 2
  · subst h2; exact due_2 p l g n a b cc s t w hg hn ha hb h
  by_cases h3 : kd = 3
  · subst h3; exact due_3 p l g n a b cc s t w hg hn ha hb h
  by_cases h4 : kd = 4
  · subst h4; exact due_4 p l g n a b cc s t w hg hn ha hb h
  by_cases h5 : kd = 5
  · subst h5; exact due_5 p l g n a b cc s t w hg hn ha hb h
  by_cases h6 : kd = 6
  · subst h6; exact due_6 p l g n a b cc s t w hg hn ha hb h
  by_cases h7 : kd = 7
  · subst h7; exact due_7 p l g n a b cc s t w hg hn ha hb h
  by_cases h8 : kd = 8
  · subst h8
    have e0 : (stepP g 8 a b).1.e = 0 := by show (spanP g).e = 0; unfold spanP; split <;> rfl
    rw [e0]; exact due_8 p l g n a b cc s t w hg hn ha hb h
  by_cases h9 : kd = 9
  · subst h9; exact due_9 p l g n a b cc s t w hg hn ha hb h
  by_cases h10 : kd = 10
  · subst h10
    have e0 : stepP g 10 a b = ditherP g a := rfl
    rw [e0]
    unfold ditherP
    by_cases x1 : a < 0
    · rw [if_pos (Or.inl x1)]; exact due_10a p l g n a b cc s t w hg hn ha hb h x1
    by_cases x2 : 8 ≤ a
    · rw [if_pos (Or.inr x2)]; exact due_10b p l g n a b cc s t w hg hn ha hb h x2
    rw [if_neg (by omega), show 6 * a = a * 6 by omega]; exact due_10c p l g n a b cc s t w hg hn ha hb h (by omega) (by omega)
  by_cases h11 : kd = 11
  · subst h11
    have e0 : stepP g 11 a b = squelchP g a := rfl
    rw [e0]
    unfold squelchP
    by_cases x1 : a % 4294967296 = 0
    · rw [if_pos (by rw [wrap32]; omega)]; exact due_11a p l g n a b cc s t w hg hn ha hb h x1
    · rw [if_neg (by rw [wrap32]; omega)]; exact due_11b p l g n a b cc s t w hg hn ha hb h x1
  by_cases h12 : kd = 12
  · subst h12; exact due_12 p l g n a b cc s t w hg hn ha hb h
  by_cases h13 : kd = 13
  · subst h13; exact due_13 p l g n a b cc s t w hg hn ha hb h
  by_cases h14 : kd = 14
  · subst h14; exact due_14 p l g n a b cc s t w hg hn ha hb h ht
  by_cases h15 : kd = 15
  · subst h15; exact due_15 p l g n a b cc s t w hg hn ha hb h
  by_cases h16 : kd = 16
  · subst h16; exact due_16 p l g n a b cc s t w hg hn ha hb h
  have e0 : stepP g kd a b = (⟨0, 0, 0⟩, g) := by unfold stepP; rw [if_neg h1, if_neg h2, if_neg h16, if_neg h3, if_neg h4, if_neg h5, if_neg h6, if_neg h7, if_neg h8, if_neg h9, if_neg h10, if_neg h11, if_neg h12, if_neg h13, if_neg h15]
  have e1 : textS g kd = ⟨#[]⟩ := by unfold textS; rw [if_neg h14]
  rw [e0, e1]
  exact due_0 p l g n kd a b cc s t w hg hn ha hb h h1 h2 h3 h4 h5 h6 h7 h8 h9 h10 h11 h12 h13 h14 h15 h16

/-- the blocks of the pipeline and of the shade, apart, all above B0 -/
structure ApartQ (B0 p : Nat) (l : Lk) (m q : Nat) : Prop where
  low : ∃ B, Low B p l ∧ B ≤ m ∧ B ≤ q
  p : B0 ≤ p
  lq : B0 ≤ l.q
  m : B0 ≤ m
  q : B0 ≤ q
structure Pq (w : World) (p : Nat) (l : Lk) (m q : Nat) (g : PS) : Prop where
  x : Ap w p l g
  m : Sz w m q g
theorem Pq.nil {w w' : World} {p m q : Nat} {l : Lk} {g : PS} (h : Pq w p l m q g) (hc : Chg (fun _ => False) w w') : Pq w' p l m q g := ⟨ap_nil h.x hc, h.m.nil hc⟩
theorem ApartQ.keepM {B0 p m q : Nat} {l : Lk} (a : ApartQ B0 p l m q) {w w' : World} {g : PS} (h : Sz w m q g) (hc : Chg (fun k => k = p ∨ k = l.q) w w') : Sz w' m q g := by
  obtain ⟨B, lo, b1, b2⟩ := a.low
  have := lo.p; have := lo.q
  exact h.kept hc (by omega) (by omega)
theorem ApartQ.keepX {B0 p m q : Nat} {l : Lk} (a : ApartQ B0 p l m q) {w w' : World} {g : PS} (h : Ap w p l g) (hc : Chg (fun k => k = m ∨ k = q) w w') : Ap w' p l g := by
  obtain ⟨B, lo, b1, b2⟩ := a.low
  exact ap_kept h lo hc (fun k e => by omega)
theorem lowz_of {w : World} {m q : Nat} {g : PS} (h : Sz w m q g) : m < w.heap.size ∧ q < w.heap.size := ⟨h.sh.obj.lt, Has.lt h.cv⟩

theorem kqUpTo_some (b off len cap : Nat) (w : World) (hs : Script w b off len) (hl : len ≤ maxLen) (ht : Tab w) :
    Calls Tryd.prog 7 #[.slice (some ⟨b, off, none⟩) len cap] w fun e w' => e = .returned (.int .i64 (-1)) ∧ Chg (fun _ => False) w w' := by
  unfold maxLen at hl
  have HS : Hid (Script w b off len) := hs
  have HT : Hid (Tab w) := ht
  clear hs ht
  go_enter Tryd.func7, Tryd.ntmps7
  go_wp2_with fail
  refine (ground_any _).mono ?_; rintro e w1 ⟨rfl, q1, s1, c1⟩
  have Q1 : Hid (Has 89 w1 w.heap.size [.int .i64 0, .int .i64 0] ∧ w.heap.size < w1.heap.size ∧ Chg (fun _ => False) w w1) := ⟨q1, s1, c1⟩
  clear q1 s1 c1
  go_wp2_with fail
  refine (chnew_any w.heap.size 0 0 _ Q1.out.1).mono ?_; rintro e w2 ⟨p, l, rfl, h2, k1, k2, k3, k4, k5, k6, k7, c2⟩
  have H2 : Hid (CA w2 p l cs0 0 0 ∧ l.q = w.heap.size ∧ w1.heap.size ≤ p ∧ Chg (fun _ => False) w1 w2) := ⟨h2, k1, k2, c2⟩
  clear h2 k1 k2 k3 k4 k5 k6 k7 c2
  go_wp2_with fail
  refine (ground_any _).mono ?_; rintro e w3 ⟨rfl, q3, s3, c3⟩
  have Q3 : Hid (Has 89 w3 w2.heap.size [.int .i64 0, .int .i64 0] ∧ w2.heap.size < w3.heap.size ∧ Chg (fun _ => False) w2 w3) := ⟨q3, s3, c3⟩
  clear q3 s3 c3
  go_wp2_with fail
  have Q2 : Hid (Pq (w3.alloc (.cells #[.int .i64 16, .int .i64 0, .int .i64 0, .int .i64 (-4503599627370496), .int .i64 9218868437227405312, .int .i64 0, .int .i64 0, .int .i64 0, .int .i64 0, .int .i64 0, .int .i64 0, .int .i64 0, .int .i64 0, .int .i64 0, .int .i64 0, .int .i64 0] 54)) p l w3.heap.size w2.heap.size g0 ∧ Chg (fun _ => False) w (w3.alloc (.cells #[.int .i64 16, .int .i64 0, .int .i64 0, .int .i64 (-4503599627370496), .int .i64 9218868437227405312, .int .i64 0, .int .i64 0, .int .i64 0, .int .i64 0, .int .i64 0, .int .i64 0, .int .i64 0, .int .i64 0, .int .i64 0, .int .i64 0, .int .i64 0] 54)) ∧ ApartQ w.heap.size p l w3.heap.size w2.heap.size) := by
    obtain ⟨a1, a2, a3⟩ := Q1.out
    obtain ⟨b1, b2, b3, b4⟩ := H2.out
    obtain ⟨d1, d2, d3⟩ := Q3.out
    have hx : Ap w2 p l g0 := by unfold Ap; rw [g0_real]; exact b1
    have lo := low_of hx
    have hp := lo.p
    have hs := b4.size
    exact ⟨⟨ap_nil hx (d3.alloc _), ⟨⟨rfl, Has.new _ _ _⟩, d1.alloc _, by omega⟩⟩, ((a3.trans b4).trans d3).alloc _, ⟨⟨w2.heap.size, lo, by omega, by omega⟩, by omega, by omega, by omega, by omega⟩⟩
  generalize w3.alloc (.cells #[.int .i64 16, .int .i64 0, .int .i64 0, .int .i64 (-4503599627370496), .int .i64 9218868437227405312, .int .i64 0, .int .i64 0, .int .i64 0, .int .i64 0, .int .i64 0, .int .i64 0, .int .i64 0, .int .i64 0, .int .i64 0, .int .i64 0, .int .i64 0] 54) = w4 at Q2 ⊢
  generalize w3.heap.size = m at Q2 ⊢
  generalize w2.heap.size = q at Q2 ⊢
  have C2 : Hid (Chg (fun _ => False) w w4) := Q2.out.2.1
  have HP : Hid (ApartQ w.heap.size p l m q ∧ ∀ i, i = p ∨ i = l.q → w.heap.size ≤ i) := ⟨Q2.out.2.2, by have := Q2.out.2.2.p; have := Q2.out.2.2.lq; intro i e; omega⟩
  replace Q2 : Hid (Pq w4 p l m q g0) := Q2.out.1
  clear Q1 H2 Q3
  go_loopg [7] len (fun gk i wr => ∃ k : Nat, k ≤ len ∧ gk = len - k ∧ (k : Int) ≤ 4398046511104 ∧ i = .int .i64 k ∧ ∃ g : PS, Pq wr p l m q g ∧ Good g k ∧ Chg (fun _ => False) w wr)
  case atStart => exact ⟨0, by omega, by omega, by omega, rfl, g0, Q2.out, g0_good, C2.out⟩
  case round =>
    obtain ⟨k, hk, rfl, hk2, rfl, g, hq, hg, hC⟩ := hrel
    obtain ⟨j, hj⟩ : ∃ j : Int, (k : Int) = j := ⟨_, rfl⟩
    have HJ : Hid ((k : Int) = j ∧ k ≤ len) := ⟨hj, hk⟩
    have j0 : 0 ≤ j := by omega
    have j1 : j ≤ 9223372036854775806 := by omega
    rw [hj] at hg ⊢
    have j2 : j ≤ 4398046511104 := by omega
    clear hk hk2 hj hl
    have HQ : Hid (Pq wr p l m q g ∧ Good g j) := ⟨hq, hg⟩
    have HC : Hid (Chg (fun _ => False) w wr) := hC
    clear hq hC hg
    by_cases hkl : k < len
    · obtain ⟨kd, x, y, cc, s, t, hop⟩ := (Script.kept HS.out HC.out (fun h => h)) k hkl
      obtain ⟨_, _, _, _, _, _, h0⟩ := HS.out k hkl
      have hbw : b < w.heap.size := World.block_lt_of_cell? w _ h0.c0
      clear h0
      have ek : k = j.toNat := by have := HJ.out.1; omega
      rw [ek] at hop
      have d0 := hop.c0
      have d1 := hop.c1
      have d2 := hop.c2
      have d3 := hop.c3
      have d4 := hop.c4
      have d5 := hop.c5
      have hg := HQ.out.2
      have D := fun w' (hq : Ap w' p l g) (ht : Tab w') => chdo_any p l g j kd x y cc s t w' hg (by omega) hop.x hq ht
      have DM := fun w' (hq : Sz w' m q g) (ht : Tab w') => due_any m q g j kd x y cc s t w' hg (by omega) hop.x hop.y hq ht
      have hg2 := stepP_good hg kd hop.x y
      generalize (stepP g kd x y).2 = g' at D DM hg2
      generalize (stepP g kd x y).1.e = E at D DM
      generalize (stepP g kd x y).1.n = N at D DM
      generalize (stepP g kd x y).1.k = L at D DM
      generalize textS g kd = U at D DM
      unfold opV ansV at D DM
      have hjl : j < (len : Int) := by have := HJ.out.1; omega
      have HO : Hid (OpAt wr b (off + j.toNat * 6) kd x y cc s t) := hop
      have HD : Hid (∀ w' (hq : Ap w' p l g) (ht : Tab w'), Calls _ _ _ _ _) := D
      have HM : Hid (∀ w' (hq : Sz w' m q g) (ht : Tab w'), Calls _ _ _ _ _) := DM
      have HN : Hid (b < w.heap.size ∧ k < len ∧ Good g' (j + 1)) := ⟨hbw, hkl, hg2⟩
      clear hop D DM hbw hkl ek hg hg2
      go_wp2_with fail
      · refine (HD.out _ HQ.out.1.x (HT.out.nil HC.out)).mono ?_; rintro e w3 ⟨rfl, q3, k3⟩
        have C3 : Hid (Chg (fun _ => False) w w3) := chg_old HC.out k3 HP.out.2
        have o3 : OpAt w3 b (off + j.toNat * 6) kd x y cc s t := HO.out.kept k3 (fun e => by have := HP.out.2 _ e; have := HN.out; omega)
        have Q3 : Hid (Ap w3 p l g' ∧ Sz w3 m q g) := ⟨q3, HP.out.1.keepM HQ.out.1.m k3⟩
        have o4 : OpAt (w3.alloc (.cells #[.int .i64 E, .int .i64 N, .int .i64 L, .string U] 47)) b (off + j.toNat * 6) kd x y cc s t := o3.kept ((Chg.refl (fun _ => False) w3).alloc _) (fun h => h)
        have d0 := o4.c0
        have d1 := o4.c1
        have d2 := o4.c2
        have d3 := o4.c3
        have d4 := o4.c4
        have d5 := o4.c5
        have C4 : Hid (Chg (fun _ => False) w (w3.alloc (.cells #[.int .i64 E, .int .i64 N, .int .i64 L, .string U] 47))) := C3.out.alloc _
        have Q4 : Hid (Ap (w3.alloc (.cells #[.int .i64 E, .int .i64 N, .int .i64 L, .string U] 47)) p l g' ∧ Sz (w3.alloc (.cells #[.int .i64 E, .int .i64 N, .int .i64 L, .string U] 47)) m q g) := ⟨ap_nil Q3.out.1 ((Chg.refl _ _).alloc _), Q3.out.2.nil ((Chg.refl _ _).alloc _)⟩
        have R4 : Hid (Has 47 (w3.alloc (.cells #[.int .i64 E, .int .i64 N, .int .i64 L, .string U] 47)) w3.heap.size [.int .i64 E, .int .i64 N, .int .i64 L, .string U]) := Has.new _ _ _
        have O4 : Hid (OpAt (w3.alloc (.cells #[.int .i64 E, .int .i64 N, .int .i64 L, .string U] 47)) b (off + j.toNat * 6) kd x y cc s t) := o4
        clear k3 q3 o3 o4
        go_wp2_with fail
        refine (HM.out _ Q4.out.2 (HT.out.nil C4.out)).mono ?_; rintro e w5 ⟨rfl, q5, k5⟩
        have hm3 := lowz_of Q3.out.2
        have C5 : Hid (Chg (fun _ => False) w w5) := chg_old C4.out k5 (by have := HP.out.1.m; have := HP.out.1.q; intro i e; omega)
        have T5 : Hid (Pq w5 p l m q g') := ⟨HP.out.1.keepX Q4.out.1 k5, q5⟩
        have r5 : Has 47 w5 w3.heap.size [.int .i64 E, .int .i64 N, .int .i64 L, .string U] := Has.kept R4.out k5 (by have := hm3.1; have := hm3.2; omega)
        have R6 : Has 47 (w5.alloc (.cells #[.int .i64 E, .int .i64 N, .int .i64 L, .string U] 47)) w3.heap.size [.int .i64 E, .int .i64 N, .int .i64 L, .string U] := r5.alloc _
        have S6 : Has 47 (w5.alloc (.cells #[.int .i64 E, .int .i64 N, .int .i64 L, .string U] 47)) w5.heap.size [.int .i64 E, .int .i64 N, .int .i64 L, .string U] := Has.new _ _ _
        have C6 : Hid (Chg (fun _ => False) w (w5.alloc (.cells #[.int .i64 E, .int .i64 N, .int .i64 L, .string U] 47))) := C5.out.alloc _
        have T6 : Hid (Pq (w5.alloc (.cells #[.int .i64 E, .int .i64 N, .int .i64 L, .string U] 47)) p l m q g') := T5.out.nil ((Chg.refl _ _).alloc _)
        have v0 : (w5.alloc (.cells #[.int .i64 E, .int .i64 N, .int .i64 L, .string U] 47)).cell? ⟨w3.heap.size, 0, none⟩ = some (.int .i64 E) := R6.cell 0
        have v1 : (w5.alloc (.cells #[.int .i64 E, .int .i64 N, .int .i64 L, .string U] 47)).cell? ⟨w3.heap.size, 1, none⟩ = some (.int .i64 N) := R6.cell 1
        have v2 : (w5.alloc (.cells #[.int .i64 E, .int .i64 N, .int .i64 L, .string U] 47)).cell? ⟨w3.heap.size, 2, none⟩ = some (.int .i64 L) := R6.cell 2
        have v3 : (w5.alloc (.cells #[.int .i64 E, .int .i64 N, .int .i64 L, .string U] 47)).cell? ⟨w3.heap.size, 3, none⟩ = some (.string U) := R6.cell 3
        have v4 : (w5.alloc (.cells #[.int .i64 E, .int .i64 N, .int .i64 L, .string U] 47)).cell? ⟨w5.heap.size, 0, none⟩ = some (.int .i64 E) := S6.cell 0
        have v5 : (w5.alloc (.cells #[.int .i64 E, .int .i64 N, .int .i64 L, .string U] 47)).cell? ⟨w5.heap.size, 1, none⟩ = some (.int .i64 N) := S6.cell 1
        have v6 : (w5.alloc (.cells #[.int .i64 E, .int .i64 N, .int .i64 L, .string U] 47)).cell? ⟨w5.heap.size, 2, none⟩ = some (.int .i64 L) := S6.cell 2
        have v7 : (w5.alloc (.cells #[.int .i64 E, .int .i64 N, .int .i64 L, .string U] 47)).cell? ⟨w5.heap.size, 3, none⟩ = some (.string U) := S6.cell 3
        clear k5 q5 r5 R6 S6 hm3 d0 d1 d2 d3 d4 d5
        go_wp2_with fail
        have h42 : j < 4398046511104 := by assumption
        have hj := HJ.out.1
        have hn := HN.out.2.1
        go_roundg (len - (k + 1))
        case measure => omega
        case rel => exact ⟨k + 1, by omega, rfl, by omega, by rw [show ((k + 1 : Nat) : Int) = j + 1 by omega], g', T6.out, by rw [show ((k + 1 : Nat) : Int) = j + 1 by omega]; exact HN.out.2.2, C6.out⟩
      · go_ret
        exact ⟨rfl, HC.out⟩
    · have hjl : ¬ j < (len : Int) := by have := HJ.out.1; omega
      go_wp2_with fail
      go_ret
      exact ⟨rfl, HC.out⟩

theorem kqUpTo_none (a : Option Addr) (cap : Nat) (w : World) (ht : Tab w) :
    Calls Tryd.prog 7 #[.slice a 0 cap] w fun e w' => e = .returned (.int .i64 (-1)) ∧ Chg (fun _ => False) w w' := by
  have HT : Hid (Tab w) := ht
  clear ht
  go_enter Tryd.func7, Tryd.ntmps7
  go_wp2_with fail
  refine (ground_any _).mono ?_; rintro e w1 ⟨rfl, q1, s1, c1⟩
  have Q1 : Hid (Has 89 w1 w.heap.size [.int .i64 0, .int .i64 0] ∧ w.heap.size < w1.heap.size ∧ Chg (fun _ => False) w w1) := ⟨q1, s1, c1⟩
  clear q1 s1 c1
  go_wp2_with fail
  refine (chnew_any w.heap.size 0 0 _ Q1.out.1).mono ?_; rintro e w2 ⟨p, l, rfl, h2, k1, k2, k3, k4, k5, k6, k7, c2⟩
  have H2 : Hid (CA w2 p l cs0 0 0 ∧ l.q = w.heap.size ∧ w1.heap.size ≤ p ∧ Chg (fun _ => False) w1 w2) := ⟨h2, k1, k2, c2⟩
  clear h2 k1 k2 k3 k4 k5 k6 k7 c2
  go_wp2_with fail
  refine (ground_any _).mono ?_; rintro e w3 ⟨rfl, q3, s3, c3⟩
  have Q3 : Hid (Has 89 w3 w2.heap.size [.int .i64 0, .int .i64 0] ∧ w2.heap.size < w3.heap.size ∧ Chg (fun _ => False) w2 w3) := ⟨q3, s3, c3⟩
  clear q3 s3 c3
  go_wp2_with fail
  have Q2 : Hid (Pq (w3.alloc (.cells #[.int .i64 16, .int .i64 0, .int .i64 0, .int .i64 (-4503599627370496), .int .i64 9218868437227405312, .int .i64 0, .int .i64 0, .int .i64 0, .int .i64 0, .int .i64 0, .int .i64 0, .int .i64 0, .int .i64 0, .int .i64 0, .int .i64 0, .int .i64 0] 54)) p l w3.heap.size w2.heap.size g0 ∧ Chg (fun _ => False) w (w3.alloc (.cells #[.int .i64 16, .int .i64 0, .int .i64 0, .int .i64 (-4503599627370496), .int .i64 9218868437227405312, .int .i64 0, .int .i64 0, .int .i64 0, .int .i64 0, .int .i64 0, .int .i64 0, .int .i64 0, .int .i64 0, .int .i64 0, .int .i64 0, .int .i64 0] 54)) ∧ ApartQ w.heap.size p l w3.heap.size w2.heap.size) := by
    obtain ⟨a1, a2, a3⟩ := Q1.out
    obtain ⟨b1, b2, b3, b4⟩ := H2.out
    obtain ⟨d1, d2, d3⟩ := Q3.out
    have hx : Ap w2 p l g0 := by unfold Ap; rw [g0_real]; exact b1
    have lo := low_of hx
    have hp := lo.p
    have hs := b4.size
    exact ⟨⟨ap_nil hx (d3.alloc _), ⟨⟨rfl, Has.new _ _ _⟩, d1.alloc _, by omega⟩⟩, ((a3.trans b4).trans d3).alloc _, ⟨⟨w2.heap.size, lo, by omega, by omega⟩, by omega, by omega, by omega, by omega⟩⟩
  generalize w3.alloc (.cells #[.int .i64 16, .int .i64 0, .int .i64 0, .int .i64 (-4503599627370496), .int .i64 9218868437227405312, .int .i64 0, .int .i64 0, .int .i64 0, .int .i64 0, .int .i64 0, .int .i64 0, .int .i64 0, .int .i64 0, .int .i64 0, .int .i64 0, .int .i64 0] 54) = w4 at Q2 ⊢
  generalize w3.heap.size = m at Q2 ⊢
  generalize w2.heap.size = q at Q2 ⊢
  have C2 : Hid (Chg (fun _ => False) w w4) := Q2.out.2.1
  have HP : Hid (ApartQ w.heap.size p l m q ∧ ∀ i, i = p ∨ i = l.q → w.heap.size ≤ i) := ⟨Q2.out.2.2, by have := Q2.out.2.2.p; have := Q2.out.2.2.lq; intro i e; omega⟩
  replace Q2 : Hid (Pq w4 p l m q g0) := Q2.out.1
  clear Q1 H2 Q3
  go_loopg [7] 0 (fun gk i wr => i = .int .i64 0 ∧ Chg (fun _ => False) w wr)
  case atStart => exact ⟨rfl, C2.out⟩
  case round =>
    obtain ⟨rfl, hC⟩ := hrel
    have HC : Hid (Chg (fun _ => False) w wr) := hC
    clear hC
    go_wp2_with fail
    go_ret
    exact ⟨rfl, HC.out⟩

theorem kqUpTo_any (a : Option Addr) (len cap : Nat) (w : World) (hl : len ≤ maxLen) (hs : 0 < len → ∃ b off, a = some ⟨b, off, none⟩ ∧ Script w b off len) (ht : Tab w) :
    Calls Tryd.prog 7 #[.slice a len cap] w fun e w' => e = .returned (.int .i64 (-1)) ∧ Chg (fun _ => False) w w' := by
  rcases Nat.eq_zero_or_pos len with h | h
  · subst h; exact kqUpTo_none a cap w ht
  · obtain ⟨b, off, rfl, h1⟩ := hs h
    exact kqUpTo_some b off len cap w h1 hl ht
theorem keepsQuiet_walk (a : Option Addr) (len cap : Nat) (w : World) (hl : len ≤ maxLen) (hs : 0 < len → ∃ b off, a = some ⟨b, off, none⟩ ∧ Script w b off len) (ht : Tab w) :
    Calls Tryd.prog 4 #[.slice a len cap] w fun e w' => e = .returned (.bool true) ∧ Below w.heap.size w w' := by
  have H1 : Hid (len ≤ maxLen) := hl
  have H2 : Hid (0 < len → ∃ b off, a = some ⟨b, off, none⟩ ∧ Script w b off len) := hs
  have H3 : Hid (Tab w) := ht
  clear hl hs ht
  go_enter Tryd.func4, Tryd.ntmps4
  go_wp2_with fail
  refine (kqUpTo_any a len cap w H1.out H2.out H3.out).mono ?_; rintro e w1 ⟨rfl, k1⟩
  have C1 : Hid (Chg (fun _ => False) w w1) := k1
  clear k1
  go_wp2_with fail
  go_ret
  exact ⟨rfl, C1.out.nil.fin⟩
end Go.Proofs.Qxb6500376aDoor

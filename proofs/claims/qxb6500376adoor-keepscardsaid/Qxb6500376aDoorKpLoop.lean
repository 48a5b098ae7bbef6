/- Keeps: the loop; the law (written by tools/genkpl.py). -/
import Derived.Test.Qxb6500376aDoorKpAny
import Derived.Deep.LoopGhost
namespace Go.Proofs.Qxb6500376aDoor
set_option linter.unusedVariables false
set_option linter.unusedSimpArgs false
set_option maxHeartbeats 4000000
set_option maxRecDepth 100000
open Go.RowKit Go.Qu Ieee

/-- the blocks of the pipeline, of the law's converter and of the ghost, apart, all above B0 -/
structure ApartK (B0 p : Nat) (l : Lk) (m q : Nat) : Prop where
  ne : m ≠ q
  low : ∃ B, Low B p l ∧ B ≤ m ∧ B ≤ q
  p : B0 ≤ p
  lq : B0 ≤ l.q
  m : B0 ≤ m
  q : B0 ≤ q
structure Pk (w : World) (p : Nat) (l : Lk) (m q : Nat) (g : PS) : Prop where
  x : Ap w p l g
  c : Cv w m g.c g.z
  h : Gh w q g
theorem Pk.nil {w w' : World} {p m q : Nat} {l : Lk} {g : PS} (h : Pk w p l m q g) (hc : Chg (fun _ => False) w w') : Pk w' p l m q g := ⟨ap_nil h.x hc, Has.kept h.c hc (fun h => h), h.h.nil hc⟩
theorem ApartK.keepM {B0 p m q : Nat} {l : Lk} (a : ApartK B0 p l m q) {w w' : World} {g : PS} (h : Cv w m g.c g.z ∧ Gh w q g) (hc : Chg (fun k => k = p ∨ k = l.q) w w') : Cv w' m g.c g.z ∧ Gh w' q g := by
  obtain ⟨B, lo, b1, b2⟩ := a.low
  have := lo.p; have := lo.q
  exact ⟨Has.kept h.1 hc (by omega), h.2.kept hc (by omega)⟩
theorem ApartK.keepX {B0 p m q : Nat} {l : Lk} (a : ApartK B0 p l m q) {w w' : World} {g : PS} (h : Ap w p l g) (hc : Chg (fun k => k = m ∨ k = q) w w') : Ap w' p l g := by
  obtain ⟨B, lo, b1, b2⟩ := a.low
  exact ap_kept h lo hc (fun k e => by omega)

theorem kUpTo_some (b off len cap : Nat) (w : World) (hs : Script w b off len) (hl : len ≤ maxLen) (ht : Tab w) :
    Calls Tryd.prog 6 #[.slice (some ⟨b, off, none⟩) len cap] w fun e w' => e = .returned (.int .i64 (-1)) ∧ Chg (fun _ => False) w w' := by
  unfold maxLen at hl
  have HS : Hid (Script w b off len) := hs
  have HT : Hid (Tab w) := ht
  clear hs ht
  go_enter Tryd.func6, Tryd.ntmps6
  go_wp2_with fail
  refine (ground_any _).mono ?_; rintro e w1 ⟨rfl, q1, s1, c1⟩
  have Q1 : Hid (Has 89 w1 w.heap.size [.int .i64 0, .int .i64 0] ∧ w.heap.size < w1.heap.size ∧ Chg (fun _ => False) w w1) := ⟨q1, s1, c1⟩
  clear q1 s1 c1
  go_wp2_with fail
  refine (chnew_any w.heap.size 0 0 _ Q1.out.1).mono ?_; rintro e w2 ⟨p, l, rfl, h2, k1, k2, k3, k4, k5, k6, k7, c2⟩
  have H2 : Hid (CA w2 p l cs0 0 0 ∧ l.q = w.heap.size ∧ w1.heap.size ≤ p ∧ Chg (fun _ => False) w1 w2) := ⟨h2, k1, k2, c2⟩
  clear h2 k1 k2 k3 k4 k5 k6 k7 c2
  go_wp2_with fail
  refine (ground_any _).mono ?_; rintro e w3 ⟨rfl, q3, s3, c3⟩
  have Q3 : Hid (Has 89 w3 w2.heap.size [.int .i64 0, .int .i64 0] ∧ w2.heap.size < w3.heap.size ∧ Chg (fun _ => False) w2 w3) := ⟨q3, s3, c3⟩
  clear q3 s3 c3
  go_wp2_with fail
  have Q2 : Hid (Pk (w3.alloc (.cells #[.int .i64 0, .int .i64 0, .int .i64 0, .int .i64 0, .int .i64 0, .int .i64 0, .int .i64 0, .int .i64 0, .int .i64 0, .int .i64 16, .int .i64 0] 42)) p l w2.heap.size w3.heap.size g0 ∧ Chg (fun _ => False) w (w3.alloc (.cells #[.int .i64 0, .int .i64 0, .int .i64 0, .int .i64 0, .int .i64 0, .int .i64 0, .int .i64 0, .int .i64 0, .int .i64 0, .int .i64 16, .int .i64 0] 42)) ∧ ApartK w.heap.size p l w2.heap.size w3.heap.size) := by
    obtain ⟨a1, a2, a3⟩ := Q1.out
    obtain ⟨b1, b2, b3, b4⟩ := H2.out
    obtain ⟨d1, d2, d3⟩ := Q3.out
    have hx : Ap w2 p l g0 := by unfold Ap; rw [g0_real]; exact b1
    have lo := low_of hx
    have hp := lo.p
    have hs := b4.size
    exact ⟨⟨ap_nil hx (d3.alloc _), d1.alloc _, ⟨rfl, Has.new _ _ _⟩⟩, ((a3.trans b4).trans d3).alloc _, ⟨by omega, ⟨w2.heap.size, lo, by omega, by omega⟩, by omega, by omega, by omega, by omega⟩⟩
  generalize w3.alloc (.cells #[.int .i64 0, .int .i64 0, .int .i64 0, .int .i64 0, .int .i64 0, .int .i64 0, .int .i64 0, .int .i64 0, .int .i64 0, .int .i64 16, .int .i64 0] 42) = w4 at Q2 ⊢
  generalize w3.heap.size = q at Q2 ⊢
  generalize w2.heap.size = m at Q2 ⊢
  have C2 : Hid (Chg (fun _ => False) w w4) := Q2.out.2.1
  have HP : Hid (ApartK w.heap.size p l m q ∧ ∀ i, i = p ∨ i = l.q → w.heap.size ≤ i) := ⟨Q2.out.2.2, by have := Q2.out.2.2.p; have := Q2.out.2.2.lq; intro i e; omega⟩
  replace Q2 : Hid (Pk w4 p l m q g0) := Q2.out.1
  clear Q1 H2 Q3
  go_loopg [7] len (fun gk i wr => ∃ k : Nat, k ≤ len ∧ gk = len - k ∧ (k : Int) ≤ 4398046511104 ∧ i = .int .i64 k ∧ ∃ g : PS, Pk wr p l m q g ∧ Good g k ∧ Chg (fun _ => False) w wr)
  case atStart => exact ⟨0, by omega, by omega, by omega, rfl, g0, Q2.out, g0_good, C2.out⟩
  case round =>
    obtain ⟨k, hk, rfl, hk2, rfl, g, hq, hg, hC⟩ := hrel
    obtain ⟨j, hj⟩ : ∃ j : Int, (k : Int) = j := ⟨_, rfl⟩
    have HJ : Hid ((k : Int) = j ∧ k ≤ len) := ⟨hj, hk⟩
    have j0 : 0 ≤ j := by omega
    have j1 : j ≤ 9223372036854775806 := by omega
    rw [hj] at hg ⊢
    have j2 : j ≤ 4398046511104 := by omega
    clear hk hk2 hj hl
    have HQ : Hid (Pk wr p l m q g ∧ Good g j) := ⟨hq, hg⟩
    have HC : Hid (Chg (fun _ => False) w wr) := hC
    clear hq hC hg
    by_cases hkl : k < len
    · obtain ⟨kd, x, y, cc, s, t, hop⟩ := (Script.kept HS.out HC.out (fun h => h)) k hkl
      obtain ⟨_, _, _, _, _, _, h0⟩ := HS.out k hkl
      have hbw : b < w.heap.size := World.block_lt_of_cell? w _ h0.c0
      clear h0
      have ek : k = j.toNat := by have := HJ.out.1; omega
      rw [ek] at hop
      have hg := HQ.out.2
      have LK := fun w' (hq : Ap w' p l g) => look_any p l g j w' hg hq
      have D := fun w' (hq : Ap w' p l g) (ht : Tab w') => chdo_any p l g j kd x y cc s t w' hg (by omega) hop.x hq ht
      have KE := fun w' (hx : Ap w' p l (stepP g kd x y).2) (hc : Cv w' m g.c g.z) (hh : Gh w' q g) => kept_any p m q l g j kd x y cc s t w' hg (by omega) hop.x hop.y hx hc hh HP.out.1.ne
      have hg2 := stepP_good hg kd hop.x y
      generalize (stepP g kd x y).2 = g' at D KE hg2
      generalize (stepP g kd x y).1.e = E at D KE
      generalize (stepP g kd x y).1.n = N at D KE
      generalize (stepP g kd x y).1.k = L at D KE
      generalize textS g kd = U at D KE
      unfold opV ansV at D KE
      unfold befV at LK KE
      generalize g.sum = b0 at LK KE
      generalize g.peak = b1 at LK KE
      generalize g.dip = b2 at LK KE
      generalize sumSq g.ring / 4294967296 = b3 at LK KE
      generalize sumSq g.ring % 4294967296 = b4 at LK KE
      generalize g.seq = b5 at LK KE
      generalize g.dropped = b6 at LK KE
      have hjl : j < (len : Int) := by have := HJ.out.1; omega
      have HO : Hid (OpAt wr b (off + j.toNat * 6) kd x y cc s t) := hop
      have HL : Hid (∀ w' (hq : Ap w' p l g), Calls _ _ _ _ _) := LK
      have HD : Hid (∀ w' (hq : Ap w' p l g) (ht : Tab w'), Calls _ _ _ _ _) := D
      have HM : Hid (∀ w' (hx : Ap w' p l g') (hc : Cv w' m g.c g.z) (hh : Gh w' q g), Calls _ _ _ _ _) := KE
      have HN : Hid (b < w.heap.size ∧ k < len ∧ Good g' (j + 1)) := ⟨hbw, hkl, hg2⟩
      clear hop LK D KE hbw hkl ek hg hg2
      go_wp2_with fail
      · refine (HL.out _ HQ.out.1.x).mono ?_; rintro e w3 ⟨rfl, k3⟩
        have C4 : Hid (Chg (fun _ => False) w (w3.alloc (.cells #[.int .i64 b0, .int .i64 b1, .int .i64 b2, .int .i64 b3, .int .i64 b4, .int .i64 b5, .int .i64 b6] 44))) := (HC.out.trans k3).alloc _
        have Q4 : Hid (Pk (w3.alloc (.cells #[.int .i64 b0, .int .i64 b1, .int .i64 b2, .int .i64 b3, .int .i64 b4, .int .i64 b5, .int .i64 b6] 44)) p l m q g) := HQ.out.1.nil (k3.alloc _)
        have o4 : OpAt (w3.alloc (.cells #[.int .i64 b0, .int .i64 b1, .int .i64 b2, .int .i64 b3, .int .i64 b4, .int .i64 b5, .int .i64 b6] 44)) b (off + j.toNat * 6) kd x y cc s t := HO.out.kept (k3.alloc _) (fun h => h)
        have O4 : Hid (OpAt (w3.alloc (.cells #[.int .i64 b0, .int .i64 b1, .int .i64 b2, .int .i64 b3, .int .i64 b4, .int .i64 b5, .int .i64 b6] 44)) b (off + j.toNat * 6) kd x y cc s t) := o4
        have R4 : Hid (Has 44 (w3.alloc (.cells #[.int .i64 b0, .int .i64 b1, .int .i64 b2, .int .i64 b3, .int .i64 b4, .int .i64 b5, .int .i64 b6] 44)) w3.heap.size [.int .i64 b0, .int .i64 b1, .int .i64 b2, .int .i64 b3, .int .i64 b4, .int .i64 b5, .int .i64 b6]) := Has.new _ _ _
        have d0 := o4.c0
        have d1 := o4.c1
        have d2 := o4.c2
        have d3 := o4.c3
        have d4 := o4.c4
        have d5 := o4.c5
        have HK3 : Hid (wr.heap.size ≤ w3.heap.size) := k3.size
        clear k3 o4
        go_wp2_with fail
        refine (HD.out _ Q4.out.x (HT.out.nil C4.out)).mono ?_; rintro e w5 ⟨rfl, q5, k5⟩
        have lo4 := low_of Q4.out.x
        have C6 : Hid (Chg (fun _ => False) w (w5.alloc (.cells #[.int .i64 E, .int .i64 N, .int .i64 L, .string U] 47))) := (chg_old C4.out k5 HP.out.2).alloc _
        have o6 : OpAt (w5.alloc (.cells #[.int .i64 E, .int .i64 N, .int .i64 L, .string U] 47)) b (off + j.toNat * 6) kd x y cc s t := (O4.out.kept k5 (fun e => by have := HP.out.2 _ e; have := HN.out; omega)).kept ((Chg.refl (fun _ => False) w5).alloc _) (fun h => h)
        have KM := HP.out.1.keepM ⟨Q4.out.c, Q4.out.h⟩ k5
        have T6 : Hid (Ap (w5.alloc (.cells #[.int .i64 E, .int .i64 N, .int .i64 L, .string U] 47)) p l g' ∧ Cv (w5.alloc (.cells #[.int .i64 E, .int .i64 N, .int .i64 L, .string U] 47)) m g.c g.z ∧ Gh (w5.alloc (.cells #[.int .i64 E, .int .i64 N, .int .i64 L, .string U] 47)) q g) := ⟨ap_nil q5 ((Chg.refl _ _).alloc _), KM.1.alloc _, KM.2.nil ((Chg.refl _ _).alloc _)⟩
        have hne : ¬ (w3.heap.size = p ∨ w3.heap.size = l.q) := by
          have h1 := (low_of HQ.out.1.x).p; have h2 := (low_of HQ.out.1.x).q; have h3 := HK3.out; omega
        have R6 : Has 44 (w5.alloc (.cells #[.int .i64 E, .int .i64 N, .int .i64 L, .string U] 47)) w3.heap.size [.int .i64 b0, .int .i64 b1, .int .i64 b2, .int .i64 b3, .int .i64 b4, .int .i64 b5, .int .i64 b6] := (Has.kept R4.out k5 hne).alloc _
        have S6 : Has 47 (w5.alloc (.cells #[.int .i64 E, .int .i64 N, .int .i64 L, .string U] 47)) w5.heap.size [.int .i64 E, .int .i64 N, .int .i64 L, .string U] := Has.new _ _ _
        have d0 := o6.c0
        have d1 := o6.c1
        have d2 := o6.c2
        have d3 := o6.c3
        have d4 := o6.c4
        have d5 := o6.c5
        have v0 : (w5.alloc (.cells #[.int .i64 E, .int .i64 N, .int .i64 L, .string U] 47)).cell? ⟨w3.heap.size, 0, none⟩ = some (.int .i64 b0) := R6.cell 0
        have v1 : (w5.alloc (.cells #[.int .i64 E, .int .i64 N, .int .i64 L, .string U] 47)).cell? ⟨w3.heap.size, 1, none⟩ = some (.int .i64 b1) := R6.cell 1
        have v2 : (w5.alloc (.cells #[.int .i64 E, .int .i64 N, .int .i64 L, .string U] 47)).cell? ⟨w3.heap.size, 2, none⟩ = some (.int .i64 b2) := R6.cell 2
        have v3 : (w5.alloc (.cells #[.int .i64 E, .int .i64 N, .int .i64 L, .string U] 47)).cell? ⟨w3.heap.size, 3, none⟩ = some (.int .i64 b3) := R6.cell 3
        have v4 : (w5.alloc (.cells #[.int .i64 E, .int .i64 N, .int .i64 L, .string U] 47)).cell? ⟨w3.heap.size, 4, none⟩ = some (.int .i64 b4) := R6.cell 4
        have v5 : (w5.alloc (.cells #[.int .i64 E, .int .i64 N, .int .i64 L, .string U] 47)).cell? ⟨w3.heap.size, 5, none⟩ = some (.int .i64 b5) := R6.cell 5
        have v6 : (w5.alloc (.cells #[.int .i64 E, .int .i64 N, .int .i64 L, .string U] 47)).cell? ⟨w3.heap.size, 6, none⟩ = some (.int .i64 b6) := R6.cell 6
        have u0 : (w5.alloc (.cells #[.int .i64 E, .int .i64 N, .int .i64 L, .string U] 47)).cell? ⟨w5.heap.size, 0, none⟩ = some (.int .i64 E) := S6.cell 0
        have u1 : (w5.alloc (.cells #[.int .i64 E, .int .i64 N, .int .i64 L, .string U] 47)).cell? ⟨w5.heap.size, 1, none⟩ = some (.int .i64 N) := S6.cell 1
        have u2 : (w5.alloc (.cells #[.int .i64 E, .int .i64 N, .int .i64 L, .string U] 47)).cell? ⟨w5.heap.size, 2, none⟩ = some (.int .i64 L) := S6.cell 2
        have u3 : (w5.alloc (.cells #[.int .i64 E, .int .i64 N, .int .i64 L, .string U] 47)).cell? ⟨w5.heap.size, 3, none⟩ = some (.string U) := S6.cell 3
        have O6 : Hid (OpAt (w5.alloc (.cells #[.int .i64 E, .int .i64 N, .int .i64 L, .string U] 47)) b (off + j.toNat * 6) kd x y cc s t) := o6
        have RR6 : Hid (Has 44 (w5.alloc (.cells #[.int .i64 E, .int .i64 N, .int .i64 L, .string U] 47)) w3.heap.size [.int .i64 b0, .int .i64 b1, .int .i64 b2, .int .i64 b3, .int .i64 b4, .int .i64 b5, .int .i64 b6]) := R6
        have SS6 : Hid (Has 47 (w5.alloc (.cells #[.int .i64 E, .int .i64 N, .int .i64 L, .string U] 47)) w5.heap.size [.int .i64 E, .int .i64 N, .int .i64 L, .string U]) := S6
        have HZ : Hid (m < w3.heap.size ∧ q < w3.heap.size ∧ w3.heap.size ≤ w5.heap.size) := by
          have h1 := Has.lt HQ.out.1.c; have h2 := HQ.out.1.h.lt; have h3 := HK3.out; have h4 := k5.size
          have h5 : w3.heap.size ≤ (w3.alloc (.cells #[.int .i64 b0, .int .i64 b1, .int .i64 b2, .int .i64 b3, .int .i64 b4, .int .i64 b5, .int .i64 b6] 44)).heap.size := by simp
          exact ⟨by omega, by omega, by omega⟩
        clear k5 q5 o6 KM hne R6 S6 lo4
        go_wp2_with fail
        generalize (w5.alloc (.cells #[.int .i64 E, .int .i64 N, .int .i64 L, .string U] 47)) = w6 at T6 C6 O6 RR6 SS6 d0 d1 d2 d3 d4 d5 v0 v1 v2 v3 v4 v5 v6 u0 u1 u2 u3 ⊢
        go_region_held3 (fun w' => w'.cell? ⟨b, off + j.toNat * 6, none⟩ = some (.int .i64 kd) ∧ w'.cell? ⟨b, off + j.toNat * 6 + 1, none⟩ = some (.int .i64 x) ∧ w'.cell? ⟨b, off + j.toNat * 6 + 2, none⟩ = some (.int .i64 y) ∧ w'.cell? ⟨b, off + j.toNat * 6 + 3, none⟩ = some (.int .i64 cc) ∧ w'.cell? ⟨b, off + j.toNat * 6 + 4, none⟩ = some (.string s) ∧ w'.cell? ⟨b, off + j.toNat * 6 + 5, none⟩ = some (.string t) ∧ w'.cell? ⟨w5.heap.size, 0, none⟩ = some (.int .i64 E) ∧ w'.cell? ⟨w5.heap.size, 1, none⟩ = some (.int .i64 N) ∧ w'.cell? ⟨w5.heap.size, 2, none⟩ = some (.int .i64 L) ∧ w'.cell? ⟨w5.heap.size, 3, none⟩ = some (.string U) ∧ w'.cell? ⟨w3.heap.size, 0, none⟩ = some (.int .i64 b0) ∧ w'.cell? ⟨w3.heap.size, 1, none⟩ = some (.int .i64 b1) ∧ w'.cell? ⟨w3.heap.size, 2, none⟩ = some (.int .i64 b2) ∧ w'.cell? ⟨w3.heap.size, 3, none⟩ = some (.int .i64 b3) ∧ w'.cell? ⟨w3.heap.size, 4, none⟩ = some (.int .i64 b4) ∧ w'.cell? ⟨w3.heap.size, 5, none⟩ = some (.int .i64 b5) ∧ w'.cell? ⟨w3.heap.size, 6, none⟩ = some (.int .i64 b6)) (first | (simp [go_sem, d0, d1, d2, d3, d4, d5, u0, u1, u2, u3, v0, v1, v2, v3, v4, v5, v6]; done) | exact ⟨by assumption, by assumption, by assumption, by assumption, by assumption, by assumption, by assumption, by assumption, by assumption, by assumption, by assumption, by assumption, by assumption, by assumption, by assumption, by assumption, by assumption⟩)
          (first | (go_at_call 19; refine (HM.out _ (by exact ap_nil T6.out.1 ((Chg.refl _ _).drew)) (by exact T6.out.2.1.drew) (by exact T6.out.2.2.drew)).mono ?_; rintro e w7 ⟨rfl, c7, h7, k7⟩; have z1 := HZ.out; have z2 := HN.out.1; have z3 := HP.out.1.m; have z4 := HP.out.1.q; have O7 : OpAt w7 b (off + j.toNat * 6) kd x y cc s t := (O6.out.kept ((Chg.refl (fun _ => False) _).drew) (fun h => h)).kept k7 (by omega); have R7 := RR6.out.drew.kept k7 (by omega); have S7 := SS6.out.drew.kept k7 (by omega); have C7 : Hid (Cv w7 m g'.c g'.z) := c7; have H7 : Hid (Gh w7 q g') := h7; have K7 : Hid (Chg (fun k => k = m ∨ k = q) w6.drew w7) := k7; have t0 : w7.cell? ⟨b, off + j.toNat * 6, none⟩ = some (.int .i64 kd) := O7.c0; have t1 : w7.cell? ⟨b, off + j.toNat * 6 + 1, none⟩ = some (.int .i64 x) := O7.c1; have t2 : w7.cell? ⟨b, off + j.toNat * 6 + 2, none⟩ = some (.int .i64 y) := O7.c2; have t3 : w7.cell? ⟨b, off + j.toNat * 6 + 3, none⟩ = some (.int .i64 cc) := O7.c3; have t4 : w7.cell? ⟨b, off + j.toNat * 6 + 4, none⟩ = some (.string s) := O7.c4; have t5 : w7.cell? ⟨b, off + j.toNat * 6 + 5, none⟩ = some (.string t) := O7.c5; have t6 : w7.cell? ⟨w5.heap.size, 0, none⟩ = some (.int .i64 E) := S7.cell 0; have t7 : w7.cell? ⟨w5.heap.size, 1, none⟩ = some (.int .i64 N) := S7.cell 1; have t8 : w7.cell? ⟨w5.heap.size, 2, none⟩ = some (.int .i64 L) := S7.cell 2; have t9 : w7.cell? ⟨w5.heap.size, 3, none⟩ = some (.string U) := S7.cell 3; have t10 : w7.cell? ⟨w3.heap.size, 0, none⟩ = some (.int .i64 b0) := R7.cell 0; have t11 : w7.cell? ⟨w3.heap.size, 1, none⟩ = some (.int .i64 b1) := R7.cell 1; have t12 : w7.cell? ⟨w3.heap.size, 2, none⟩ = some (.int .i64 b2) := R7.cell 2; have t13 : w7.cell? ⟨w3.heap.size, 3, none⟩ = some (.int .i64 b3) := R7.cell 3; have t14 : w7.cell? ⟨w3.heap.size, 4, none⟩ = some (.int .i64 b4) := R7.cell 4; have t15 : w7.cell? ⟨w3.heap.size, 5, none⟩ = some (.int .i64 b5) := R7.cell 5; have t16 : w7.cell? ⟨w3.heap.size, 6, none⟩ = some (.int .i64 b6) := R7.cell 6; clear c7 h7 k7 z1 z2 z3 z4 O7 R7 S7))
        have T8 : Hid (Pk w7 p l m q g') := ⟨HP.out.1.keepX (ap_nil T6.out.1 ((Chg.refl _ _).drew)) K7.out, C7.out, H7.out⟩
        have C8 : Hid (Chg (fun _ => False) w w7) := chg_old C6.out.drew K7.out (by have := HP.out.1.m; have := HP.out.1.q; intro i e; omega)
        clear K7 C7 H7 T6 C6 O6 RR6 SS6
        go_wp2_with fail
        have h42 : j < 4398046511104 := by assumption
        have hj := HJ.out.1
        have hn := HN.out.2.1
        go_roundg (len - (k + 1))
        case measure => omega
        case rel => exact ⟨k + 1, by omega, rfl, by omega, by rw [show ((k + 1 : Nat) : Int) = j + 1 by omega], g', T8.out, by rw [show ((k + 1 : Nat) : Int) = j + 1 by omega]; exact HN.out.2.2, C8.out⟩
      · go_ret
        exact ⟨rfl, HC.out⟩
    · have hjl : ¬ j < (len : Int) := by have := HJ.out.1; omega
      go_wp2_with fail
      go_ret
      exact ⟨rfl, HC.out⟩

theorem kUpTo_none (a : Option Addr) (cap : Nat) (w : World) (ht : Tab w) :
    Calls Tryd.prog 6 #[.slice a 0 cap] w fun e w' => e = .returned (.int .i64 (-1)) ∧ Chg (fun _ => False) w w' := by
  have HT : Hid (Tab w) := ht
  clear ht
  go_enter Tryd.func6, Tryd.ntmps6
  go_wp2_with fail
  refine (ground_any _).mono ?_; rintro e w1 ⟨rfl, q1, s1, c1⟩
  have Q1 : Hid (Has 89 w1 w.heap.size [.int .i64 0, .int .i64 0] ∧ w.heap.size < w1.heap.size ∧ Chg (fun _ => False) w w1) := ⟨q1, s1, c1⟩
  clear q1 s1 c1
  go_wp2_with fail
  refine (chnew_any w.heap.size 0 0 _ Q1.out.1).mono ?_; rintro e w2 ⟨p, l, rfl, h2, k1, k2, k3, k4, k5, k6, k7, c2⟩
  have H2 : Hid (CA w2 p l cs0 0 0 ∧ l.q = w.heap.size ∧ w1.heap.size ≤ p ∧ Chg (fun _ => False) w1 w2) := ⟨h2, k1, k2, c2⟩
  clear h2 k1 k2 k3 k4 k5 k6 k7 c2
  go_wp2_with fail
  refine (ground_any _).mono ?_; rintro e w3 ⟨rfl, q3, s3, c3⟩
  have Q3 : Hid (Has 89 w3 w2.heap.size [.int .i64 0, .int .i64 0] ∧ w2.heap.size < w3.heap.size ∧ Chg (fun _ => False) w2 w3) := ⟨q3, s3, c3⟩
  clear q3 s3 c3
  go_wp2_with fail
  have Q2 : Hid (Pk (w3.alloc (.cells #[.int .i64 0, .int .i64 0, .int .i64 0, .int .i64 0, .int .i64 0, .int .i64 0, .int .i64 0, .int .i64 0, .int .i64 0, .int .i64 16, .int .i64 0] 42)) p l w2.heap.size w3.heap.size g0 ∧ Chg (fun _ => False) w (w3.alloc (.cells #[.int .i64 0, .int .i64 0, .int .i64 0, .int .i64 0, .int .i64 0, .int .i64 0, .int .i64 0, .int .i64 0, .int .i64 0, .int .i64 16, .int .i64 0] 42)) ∧ ApartK w.heap.size p l w2.heap.size w3.heap.size) := by
    obtain ⟨a1, a2, a3⟩ := Q1.out
    obtain ⟨b1, b2, b3, b4⟩ := H2.out
    obtain ⟨d1, d2, d3⟩ := Q3.out
    have hx : Ap w2 p l g0 := by unfold Ap; rw [g0_real]; exact b1
    have lo := low_of hx
    have hp := lo.p
    have hs := b4.size
    exact ⟨⟨ap_nil hx (d3.alloc _), d1.alloc _, ⟨rfl, Has.new _ _ _⟩⟩, ((a3.trans b4).trans d3).alloc _, ⟨by omega, ⟨w2.heap.size, lo, by omega, by omega⟩, by omega, by omega, by omega, by omega⟩⟩
  generalize w3.alloc (.cells #[.int .i64 0, .int .i64 0, .int .i64 0, .int .i64 0, .int .i64 0, .int .i64 0, .int .i64 0, .int .i64 0, .int .i64 0, .int .i64 16, .int .i64 0] 42) = w4 at Q2 ⊢
  generalize w3.heap.size = q at Q2 ⊢
  generalize w2.heap.size = m at Q2 ⊢
  have C2 : Hid (Chg (fun _ => False) w w4) := Q2.out.2.1
  have HP : Hid (ApartK w.heap.size p l m q ∧ ∀ i, i = p ∨ i = l.q → w.heap.size ≤ i) := ⟨Q2.out.2.2, by have := Q2.out.2.2.p; have := Q2.out.2.2.lq; intro i e; omega⟩
  replace Q2 : Hid (Pk w4 p l m q g0) := Q2.out.1
  clear Q1 H2 Q3
  go_loopg [7] 0 (fun gk i wr => i = .int .i64 0 ∧ Chg (fun _ => False) w wr)
  case atStart => exact ⟨rfl, C2.out⟩
  case round =>
    obtain ⟨rfl, hC⟩ := hrel
    have HC : Hid (Chg (fun _ => False) w wr) := hC
    clear hC
    go_wp2_with fail
    go_ret
    exact ⟨rfl, HC.out⟩

theorem kUpTo_any (a : Option Addr) (len cap : Nat) (w : World) (hl : len ≤ maxLen) (hs : 0 < len → ∃ b off, a = some ⟨b, off, none⟩ ∧ Script w b off len) (ht : Tab w) :
    Calls Tryd.prog 6 #[.slice a len cap] w fun e w' => e = .returned (.int .i64 (-1)) ∧ Chg (fun _ => False) w w' := by
  rcases Nat.eq_zero_or_pos len with h | h
  · subst h; exact kUpTo_none a cap w ht
  · obtain ⟨b, off, rfl, h1⟩ := hs h
    exact kUpTo_some b off len cap w h1 hl ht
theorem keeps_walk (a : Option Addr) (len cap : Nat) (w : World) (hl : len ≤ maxLen) (hs : 0 < len → ∃ b off, a = some ⟨b, off, none⟩ ∧ Script w b off len) (ht : Tab w) :
    Calls Tryd.prog 3 #[.slice a len cap] w fun e w' => e = .returned (.bool true) ∧ Below w.heap.size w w' := by
  have H1 : Hid (len ≤ maxLen) := hl
  have H2 : Hid (0 < len → ∃ b off, a = some ⟨b, off, none⟩ ∧ Script w b off len) := hs
  have H3 : Hid (Tab w) := ht
  clear hl hs ht
  go_enter Tryd.func3, Tryd.ntmps3
  go_wp2_with fail
  refine (kUpTo_any a len cap w H1.out H2.out H3.out).mono ?_; rintro e w1 ⟨rfl, k1⟩
  have C1 : Hid (Chg (fun _ => False) w w1) := k1
  clear k1
  go_wp2_with fail
  go_ret
  exact ⟨rfl, C1.out.nil.fin⟩
end Go.Proofs.Qxb6500376aDoor

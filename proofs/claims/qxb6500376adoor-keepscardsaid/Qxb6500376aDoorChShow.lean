/- The pipeline's state as a text. -/
import Derived.Test.Qxb6500376aDoorQuShow
import Derived.Test.Qxb6500376aDoorChCheck
import Derived.Deep.RegionHeld3
namespace Go.Proofs.Qxb6500376aDoor
set_option linter.unusedVariables false
set_option linter.unusedSimpArgs false
open Go.RowKit Go.Qu

def shHead (s : CS) : List UInt8 := [100, 101, 112, 116, 104, 61] ++ Lib.itoa s.depth ++ [32, 109, 111, 100, 101, 61] ++ Lib.itoa s.mode ++ [32, 115, 117, 109, 61] ++ Lib.itoa s.sum ++ [32, 112, 101, 97, 107, 61] ++ Lib.itoa (wrap64 s.peak) ++ [32, 100, 105, 112, 61] ++ Lib.itoa (wrap64 s.dip) ++ [32, 97, 116, 61] ++ Lib.itoa s.at_
def shRing (r : List Int) : List UInt8 := (r.map fun v => [32] ++ Lib.itoa v).flatten
def shTail (s : CS) (c z : Int) : List UInt8 := [32, 115, 101, 113, 61] ++ Lib.itoa s.seq ++ [32, 100, 114, 111, 112, 112, 101, 100, 61] ++ Lib.itoa s.dropped ++ [32, 124, 32] ++ showQ c z
def showC (s : CS) (c z : Int) : List UInt8 := shHead s ++ shRing s.ring ++ shTail s c z
def bs (a : List UInt8) : ByteArray := ⟨a.toArray⟩
theorem run_cat2 (a b : List UInt8) (ha : a.length ≤ 5000) (hb : b.length ≤ 5000) (w : World) : (Op.stringOp .add (bs a) (bs b)).run Tryd.prog w = .ok (.string (bs (a ++ b))) w :=
  run_cat a b (by omega) w
theorem run_catR (a b : List UInt8) (ha : a.length ≤ 5000) (hb : b.length ≤ 5000) (w : World) : (Op.stringOp .add (bs a) ⟨b.toArray⟩).run Tryd.prog w = .ok (.string (bs (a ++ b))) w :=
  run_cat a b (by omega) w
theorem run_catL (a b : List UInt8) (ha : a.length ≤ 5000) (hb : b.length ≤ 5000) (w : World) : (Op.stringOp .add ⟨a.toArray⟩ (bs b)).run Tryd.prog w = .ok (.string (bs (a ++ b))) w :=
  run_cat a b (by omega) w
theorem len_of {v : Int} (h0 : -9223372036854775808 ≤ v) (h1 : v ≤ 9223372036854775807) : (Lib.itoa v).length ≤ 21 := Lib.itoa_length_le v h0 h1
def InI (v : Int) : Prop := -9223372036854775808 ≤ v ∧ v ≤ 9223372036854775807
theorem itoa_in (v : Int) (h : InI v) (w : World) (ht : Tab w) :
    Calls Tryd.prog 23 #[.int .i64 v] w fun e w' => e = .returned (.string (bs (Lib.itoa v))) ∧ Chg (fun _ => False) w w' := itoa_any v h.1 h.2 w ht
theorem inI_wrap (n : Int) : InI (wrap64 n) := by unfold InI wrap64; omega
theorem peak_is (v : Int) {p : Nat} {l : Lk} {s : CS} {c z : Int} {w : World} (hv : wrap64 s.peak = v) (h : CA w p l s c z) : Calls Tryd.prog 24 #[.pointer (some ⟨p, 0, none⟩)] w fun e w' => e = .returned (.int .i64 v) ∧ w' = w := hv ▸ peak_any p l s c z w h
theorem dip_is (v : Int) {p : Nat} {l : Lk} {s : CS} {c z : Int} {w : World} (hv : wrap64 s.dip = v) (h : CA w p l s c z) : Calls Tryd.prog 25 #[.pointer (some ⟨p, 0, none⟩)] w fun e w' => e = .returned (.int .i64 v) ∧ w' = w := hv ▸ dip_any p l s c z w h
theorem ring_cells {p : Nat} {l : Lk} {s : CS} {c z : Int} {w : World} (h : CA w p l s c z) {r0 r1 r2 r3 r4 r5 r6 r7 : Int} (er : s.ring = [r0, r1, r2, r3, r4, r5, r6, r7]) :
    ∀ j v, ([.int .i32 r0, .int .i32 r1, .int .i32 r2, .int .i32 r3, .int .i32 r4, .int .i32 r5, .int .i32 r6, .int .i32 r7] : List Value)[j]? = some v → w.cell? (Addr.add ⟨p, 6, none⟩ j) = some v := by
  intro j v hj
  have hj8 : j < 8 := by have := (List.getElem?_eq_some_iff.1 hj).1; simpa using this
  rw [show Addr.add ⟨p, 6, none⟩ j = ⟨p, 6 + j, none⟩ by unfold Addr.add; split <;> simp_all, h.ring j hj8, er]
  have : j = 0 ∨ j = 1 ∨ j = 2 ∨ j = 3 ∨ j = 4 ∨ j = 5 ∨ j = 6 ∨ j = 7 := by omega
  rcases this with rfl | rfl | rfl | rfl | rfl | rfl | rfl | rfl <;> exact hj
theorem show_bs {q : Nat} {c z : Int} {w : World} (hq : Has 89 w q [.int .i64 c, .int .i64 z]) (ht : Tab w) (hc : InI c) (hz : InI z) :
    Calls Tryd.prog 26 #[.pointer (some ⟨q, 0, none⟩)] w fun e w' => e = .returned (.string (bs (showQ c z))) ∧ Chg (fun _ => False) w w' := show_any q c z w hq ht hc.1 hc.2 hz.1 hz.2
/-- what a state must hold for its numbers to be Go's -/
structure Sized (s : CS) (c z : Int) : Prop where
  depth : InI s.depth
  mode : InI s.mode
  sum : -2147483648 ≤ s.sum ∧ s.sum ≤ 2147483647
  at_ : InI s.at_
  seq : InI s.seq
  dropped : InI s.dropped
  ring : ∀ r ∈ s.ring, -2147483648 ≤ r ∧ r ≤ 2147483647
  c : InI c
  z : InI z
set_option maxHeartbeats 0 in
set_option maxRecDepth 20000 in
theorem chShow_any (p : Nat) (l : Lk) (s : CS) (c z : Int) (w : World) (h : CA w p l s c z) (hs : Sized s c z) (ht : Tab w) :
    Calls Tryd.prog 14 #[.pointer (some ⟨p, 0, none⟩)] w fun e w' => e = .returned (.string (bs (showC s c z))) ∧ CA w' p l s c z ∧ Chg (fun _ => False) w w' := by
  have HC : Hid (CA w p l s c z) := h
  have HT : Hid (Tab w) := ht
  have HS : Hid (Sized s c z) := hs
  have g1 := h.c1
  have g2 := h.c2
  have g3 := h.c3
  have g14 := h.c14
  have i1 := len_of hs.depth.1 hs.depth.2
  have i2 := len_of hs.mode.1 hs.mode.2
  have i3 : (Lib.itoa s.sum).length ≤ 21 := len_of (by have := hs.sum; omega) (by have := hs.sum; omega)
  obtain ⟨pk, epk⟩ : ∃ x, wrap64 s.peak = x := ⟨_, rfl⟩
  obtain ⟨dk, edk⟩ : ∃ x, wrap64 s.dip = x := ⟨_, rfl⟩
  have i4 : (Lib.itoa pk).length ≤ 21 := by rw [← epk]; exact len_of (inI_wrap s.peak).1 (inI_wrap s.peak).2
  have i5 : (Lib.itoa dk).length ≤ 21 := by rw [← edk]; exact len_of (inI_wrap s.dip).1 (inI_wrap s.dip).2
  have Ppk : Hid (wrap64 s.peak = pk) := epk
  have Pdk : Hid (wrap64 s.dip = dk) := edk
  clear epk edk
  have i6 := len_of hs.at_.1 hs.at_.2
  have ws1 : IntKind.i64.wrap s.sum = s.sum := by rw [IntKind.wrap_i64]; have := hs.sum; omega
  have ws2 : wrap64 s.sum = s.sum := by unfold wrap64; have := hs.sum; omega
  obtain ⟨a1, ea1⟩ : ∃ x, x = [100, 101, 112, 116, 104, 61] ++ Lib.itoa s.depth := ⟨_, rfl⟩
  have la1 : a1.length ≤ 40 := by rw [ea1]; simp; omega
  have y1 := fun w => run_catL [100, 101, 112, 116, 104, 61] (Lib.itoa s.depth) (by decide) (by omega) w
  rw [← ea1] at y1
  obtain ⟨a2, ea2⟩ : ∃ x, x = a1 ++ [32, 109, 111, 100, 101, 61] := ⟨_, rfl⟩
  have la2 : a2.length ≤ 200 := by rw [ea2]; simp; omega
  have y2 := fun w => run_catR a1 [32, 109, 111, 100, 101, 61] (by omega) (by decide) w
  rw [← ea2] at y2
  obtain ⟨a3, ea3⟩ : ∃ x, x = a2 ++ Lib.itoa s.mode := ⟨_, rfl⟩
  have la3 : a3.length ≤ 300 := by rw [ea3]; simp; omega
  have y3 := fun w => run_cat2 a2 (Lib.itoa s.mode) (by omega) (by omega) w
  rw [← ea3] at y3
  obtain ⟨a4, ea4⟩ : ∃ x, x = a3 ++ [32, 115, 117, 109, 61] := ⟨_, rfl⟩
  have la4 : a4.length ≤ 400 := by rw [ea4]; simp; omega
  have y4 := fun w => run_catR a3 [32, 115, 117, 109, 61] (by omega) (by decide) w
  rw [← ea4] at y4
  obtain ⟨a5, ea5⟩ : ∃ x, x = a4 ++ Lib.itoa s.sum := ⟨_, rfl⟩
  have la5 : a5.length ≤ 500 := by rw [ea5]; simp; omega
  have y5 := fun w => run_cat2 a4 (Lib.itoa s.sum) (by omega) (by omega) w
  rw [← ea5] at y5
  obtain ⟨a6, ea6⟩ : ∃ x, x = a5 ++ [32, 112, 101, 97, 107, 61] := ⟨_, rfl⟩
  have la6 : a6.length ≤ 600 := by rw [ea6]; simp; omega
  have y6 := fun w => run_catR a5 [32, 112, 101, 97, 107, 61] (by omega) (by decide) w
  rw [← ea6] at y6
  obtain ⟨a7, ea7⟩ : ∃ x, x = a6 ++ Lib.itoa pk := ⟨_, rfl⟩
  have la7 : a7.length ≤ 700 := by rw [ea7]; simp; omega
  have y7 := fun w => run_cat2 a6 (Lib.itoa pk) (by omega) (by omega) w
  rw [← ea7] at y7
  obtain ⟨a8, ea8⟩ : ∃ x, x = a7 ++ [32, 100, 105, 112, 61] := ⟨_, rfl⟩
  have la8 : a8.length ≤ 800 := by rw [ea8]; simp; omega
  have y8 := fun w => run_catR a7 [32, 100, 105, 112, 61] (by omega) (by decide) w
  rw [← ea8] at y8
  obtain ⟨a9, ea9⟩ : ∃ x, x = a8 ++ Lib.itoa dk := ⟨_, rfl⟩
  have la9 : a9.length ≤ 900 := by rw [ea9]; simp; omega
  have y9 := fun w => run_cat2 a8 (Lib.itoa dk) (by omega) (by omega) w
  rw [← ea9] at y9
  obtain ⟨a10, ea10⟩ : ∃ x, x = a9 ++ [32, 97, 116, 61] := ⟨_, rfl⟩
  have la10 : a10.length ≤ 1000 := by rw [ea10]; simp; omega
  have y10 := fun w => run_catR a9 [32, 97, 116, 61] (by omega) (by decide) w
  rw [← ea10] at y10
  obtain ⟨a11, ea11⟩ : ∃ x, x = a10 ++ Lib.itoa s.at_ := ⟨_, rfl⟩
  have la11 : a11.length ≤ 1100 := by rw [ea11]; simp; omega
  have y11 := fun w => run_cat2 a10 (Lib.itoa s.at_) (by omega) (by omega) w
  rw [← ea11] at y11
  have eh : a11 = shHead s := by unfold shHead; rw [Ppk.out, Pdk.out, ea11, ea10, ea9, ea8, ea7, ea6, ea5, ea4, ea3, ea2, ea1]
  have EH : Hid (a11 = shHead s) := eh
  clear eh ea1 ea2 ea3 ea4 ea5 ea6 ea7 ea8 ea9 ea10 ea11
  obtain ⟨r0, r1, r2, r3, r4, r5, r6, r7, er⟩ := len8 h.len
  have hri := hs.ring
  rw [er] at hri
  simp only [List.mem_cons, List.not_mem_nil, or_false, forall_eq_or_imp, forall_eq] at hri
  obtain ⟨⟨j0a, j0b⟩, ⟨j1a, j1b⟩, ⟨j2a, j2b⟩, ⟨j3a, j3b⟩, ⟨j4a, j4b⟩, ⟨j5a, j5b⟩, ⟨j6a, j6b⟩, ⟨j7a, j7b⟩⟩ := hri
  have x0 : ∀ w, (Instr.index 57 (.agg #[.int .i32 r0, .int .i32 r1, .int .i32 r2, .int .i32 r3, .int .i32 r4, .int .i32 r5, .int .i32 r6, .int .i32 r7]) (.int .i64 0)).run Tryd.prog w = .ok (.int .i32 r0) w := fun _ => by kernel_rfl
  have v0 : InI r0 := ⟨by omega, by omega⟩
  have u0 : IntKind.i64.wrap r0 = r0 := by rw [IntKind.wrap_i64]; omega
  have lr0 := len_of v0.1 v0.2
  obtain ⟨q0, eq0⟩ : ∃ x, x = [32] ++ Lib.itoa r0 := ⟨_, rfl⟩
  have lq0 : q0.length ≤ 22 := by rw [eq0]; simp; omega
  have yq0 := fun w => run_catL [32] (Lib.itoa r0) (by decide) (by omega) w
  rw [← eq0] at yq0
  obtain ⟨a12, ea12⟩ : ∃ x, x = a11 ++ q0 := ⟨_, rfl⟩
  have la12 : a12.length ≤ 1200 := by rw [ea12]; simp; omega
  have y12 := fun w => run_cat2 a11 q0 (by omega) (by omega) w
  rw [← ea12] at y12
  have x1 : ∀ w, (Instr.index 57 (.agg #[.int .i32 r0, .int .i32 r1, .int .i32 r2, .int .i32 r3, .int .i32 r4, .int .i32 r5, .int .i32 r6, .int .i32 r7]) (.int .i64 1)).run Tryd.prog w = .ok (.int .i32 r1) w := fun _ => by kernel_rfl
  have v1 : InI r1 := ⟨by omega, by omega⟩
  have u1 : IntKind.i64.wrap r1 = r1 := by rw [IntKind.wrap_i64]; omega
  have lr1 := len_of v1.1 v1.2
  obtain ⟨q1, eq1⟩ : ∃ x, x = [32] ++ Lib.itoa r1 := ⟨_, rfl⟩
  have lq1 : q1.length ≤ 22 := by rw [eq1]; simp; omega
  have yq1 := fun w => run_catL [32] (Lib.itoa r1) (by decide) (by omega) w
  rw [← eq1] at yq1
  obtain ⟨a13, ea13⟩ : ∃ x, x = a12 ++ q1 := ⟨_, rfl⟩
  have la13 : a13.length ≤ 1300 := by rw [ea13]; simp; omega
  have y13 := fun w => run_cat2 a12 q1 (by omega) (by omega) w
  rw [← ea13] at y13
  have x2 : ∀ w, (Instr.index 57 (.agg #[.int .i32 r0, .int .i32 r1, .int .i32 r2, .int .i32 r3, .int .i32 r4, .int .i32 r5, .int .i32 r6, .int .i32 r7]) (.int .i64 2)).run Tryd.prog w = .ok (.int .i32 r2) w := fun _ => by kernel_rfl
  have v2 : InI r2 := ⟨by omega, by omega⟩
  have u2 : IntKind.i64.wrap r2 = r2 := by rw [IntKind.wrap_i64]; omega
  have lr2 := len_of v2.1 v2.2
  obtain ⟨q2, eq2⟩ : ∃ x, x = [32] ++ Lib.itoa r2 := ⟨_, rfl⟩
  have lq2 : q2.length ≤ 22 := by rw [eq2]; simp; omega
  have yq2 := fun w => run_catL [32] (Lib.itoa r2) (by decide) (by omega) w
  rw [← eq2] at yq2
  obtain ⟨a14, ea14⟩ : ∃ x, x = a13 ++ q2 := ⟨_, rfl⟩
  have la14 : a14.length ≤ 1400 := by rw [ea14]; simp; omega
  have y14 := fun w => run_cat2 a13 q2 (by omega) (by omega) w
  rw [← ea14] at y14
  have x3 : ∀ w, (Instr.index 57 (.agg #[.int .i32 r0, .int .i32 r1, .int .i32 r2, .int .i32 r3, .int .i32 r4, .int .i32 r5, .int .i32 r6, .int .i32 r7]) (.int .i64 3)).run Tryd.prog w = .ok (.int .i32 r3) w := fun _ => by kernel_rfl
  have v3 : InI r3 := ⟨by omega, by omega⟩
  have u3 : IntKind.i64.wrap r3 = r3 := by rw [IntKind.wrap_i64]; omega
  have lr3 := len_of v3.1 v3.2
  obtain ⟨q3, eq3⟩ : ∃ x, x = [32] ++ Lib.itoa r3 := ⟨_, rfl⟩
  have lq3 : q3.length ≤ 22 := by rw [eq3]; simp; omega
  have yq3 := fun w => run_catL [32] (Lib.itoa r3) (by decide) (by omega) w
  rw [← eq3] at yq3
  obtain ⟨a15, ea15⟩ : ∃ x, x = a14 ++ q3 := ⟨_, rfl⟩
  have la15 : a15.length ≤ 1500 := by rw [ea15]; simp; omega
  have y15 := fun w => run_cat2 a14 q3 (by omega) (by omega) w
  rw [← ea15] at y15
  have x4 : ∀ w, (Instr.index 57 (.agg #[.int .i32 r0, .int .i32 r1, .int .i32 r2, .int .i32 r3, .int .i32 r4, .int .i32 r5, .int .i32 r6, .int .i32 r7]) (.int .i64 4)).run Tryd.prog w = .ok (.int .i32 r4) w := fun _ => by kernel_rfl
  have v4 : InI r4 := ⟨by omega, by omega⟩
  have u4 : IntKind.i64.wrap r4 = r4 := by rw [IntKind.wrap_i64]; omega
  have lr4 := len_of v4.1 v4.2
  obtain ⟨q4, eq4⟩ : ∃ x, x = [32] ++ Lib.itoa r4 := ⟨_, rfl⟩
  have lq4 : q4.length ≤ 22 := by rw [eq4]; simp; omega
  have yq4 := fun w => run_catL [32] (Lib.itoa r4) (by decide) (by omega) w
  rw [← eq4] at yq4
  obtain ⟨a16, ea16⟩ : ∃ x, x = a15 ++ q4 := ⟨_, rfl⟩
  have la16 : a16.length ≤ 1600 := by rw [ea16]; simp; omega
  have y16 := fun w => run_cat2 a15 q4 (by omega) (by omega) w
  rw [← ea16] at y16
  have x5 : ∀ w, (Instr.index 57 (.agg #[.int .i32 r0, .int .i32 r1, .int .i32 r2, .int .i32 r3, .int .i32 r4, .int .i32 r5, .int .i32 r6, .int .i32 r7]) (.int .i64 5)).run Tryd.prog w = .ok (.int .i32 r5) w := fun _ => by kernel_rfl
  have v5 : InI r5 := ⟨by omega, by omega⟩
  have u5 : IntKind.i64.wrap r5 = r5 := by rw [IntKind.wrap_i64]; omega
  have lr5 := len_of v5.1 v5.2
  obtain ⟨q5, eq5⟩ : ∃ x, x = [32] ++ Lib.itoa r5 := ⟨_, rfl⟩
  have lq5 : q5.length ≤ 22 := by rw [eq5]; simp; omega
  have yq5 := fun w => run_catL [32] (Lib.itoa r5) (by decide) (by omega) w
  rw [← eq5] at yq5
  obtain ⟨a17, ea17⟩ : ∃ x, x = a16 ++ q5 := ⟨_, rfl⟩
  have la17 : a17.length ≤ 1700 := by rw [ea17]; simp; omega
  have y17 := fun w => run_cat2 a16 q5 (by omega) (by omega) w
  rw [← ea17] at y17
  have x6 : ∀ w, (Instr.index 57 (.agg #[.int .i32 r0, .int .i32 r1, .int .i32 r2, .int .i32 r3, .int .i32 r4, .int .i32 r5, .int .i32 r6, .int .i32 r7]) (.int .i64 6)).run Tryd.prog w = .ok (.int .i32 r6) w := fun _ => by kernel_rfl
  have v6 : InI r6 := ⟨by omega, by omega⟩
  have u6 : IntKind.i64.wrap r6 = r6 := by rw [IntKind.wrap_i64]; omega
  have lr6 := len_of v6.1 v6.2
  obtain ⟨q6, eq6⟩ : ∃ x, x = [32] ++ Lib.itoa r6 := ⟨_, rfl⟩
  have lq6 : q6.length ≤ 22 := by rw [eq6]; simp; omega
  have yq6 := fun w => run_catL [32] (Lib.itoa r6) (by decide) (by omega) w
  rw [← eq6] at yq6
  obtain ⟨a18, ea18⟩ : ∃ x, x = a17 ++ q6 := ⟨_, rfl⟩
  have la18 : a18.length ≤ 1800 := by rw [ea18]; simp; omega
  have y18 := fun w => run_cat2 a17 q6 (by omega) (by omega) w
  rw [← ea18] at y18
  have x7 : ∀ w, (Instr.index 57 (.agg #[.int .i32 r0, .int .i32 r1, .int .i32 r2, .int .i32 r3, .int .i32 r4, .int .i32 r5, .int .i32 r6, .int .i32 r7]) (.int .i64 7)).run Tryd.prog w = .ok (.int .i32 r7) w := fun _ => by kernel_rfl
  have v7 : InI r7 := ⟨by omega, by omega⟩
  have u7 : IntKind.i64.wrap r7 = r7 := by rw [IntKind.wrap_i64]; omega
  have lr7 := len_of v7.1 v7.2
  obtain ⟨q7, eq7⟩ : ∃ x, x = [32] ++ Lib.itoa r7 := ⟨_, rfl⟩
  have lq7 : q7.length ≤ 22 := by rw [eq7]; simp; omega
  have yq7 := fun w => run_catL [32] (Lib.itoa r7) (by decide) (by omega) w
  rw [← eq7] at yq7
  obtain ⟨a19, ea19⟩ : ∃ x, x = a18 ++ q7 := ⟨_, rfl⟩
  have la19 : a19.length ≤ 1900 := by rw [ea19]; simp; omega
  have y19 := fun w => run_cat2 a18 q7 (by omega) (by omega) w
  rw [← ea19] at y19
  have ering : a19 = a11 ++ shRing s.ring := by rw [er]; unfold shRing; rw [ea19, ea18, ea17, ea16, ea15, ea14, ea13, ea12, eq0, eq1, eq2, eq3, eq4, eq5, eq6, eq7]; simp
  have ER : Hid (a19 = a11 ++ shRing s.ring) := ering
  have ERI : Hid (s.ring = [r0, r1, r2, r3, r4, r5, r6, r7]) := er
  clear ering er ea12 ea13 ea14 ea15 ea16 ea17 ea18 ea19 eq0 eq1 eq2 eq3 eq4 eq5 eq6 eq7
  have l7 := len_of hs.seq.1 hs.seq.2
  have l8 := len_of hs.dropped.1 hs.dropped.2
  have l9 : (showQ c z).length ≤ 60 := by have e1 := len_of hs.c.1 hs.c.2; have e2 := len_of hs.z.1 hs.z.2; unfold showQ; simp; omega
  obtain ⟨a20, ea20⟩ : ∃ x, x = a19 ++ [32, 115, 101, 113, 61] := ⟨_, rfl⟩
  have la20 : a20.length ≤ 2000 := by rw [ea20]; simp; omega
  have y20 := fun w => run_catR a19 [32, 115, 101, 113, 61] (by omega) (by decide) w
  rw [← ea20] at y20
  obtain ⟨a21, ea21⟩ : ∃ x, x = a20 ++ Lib.itoa s.seq := ⟨_, rfl⟩
  have la21 : a21.length ≤ 2100 := by rw [ea21]; simp; omega
  have y21 := fun w => run_cat2 a20 (Lib.itoa s.seq) (by omega) (by omega) w
  rw [← ea21] at y21
  obtain ⟨a22, ea22⟩ : ∃ x, x = a21 ++ [32, 100, 114, 111, 112, 112, 101, 100, 61] := ⟨_, rfl⟩
  have la22 : a22.length ≤ 2200 := by rw [ea22]; simp; omega
  have y22 := fun w => run_catR a21 [32, 100, 114, 111, 112, 112, 101, 100, 61] (by omega) (by decide) w
  rw [← ea22] at y22
  obtain ⟨a23, ea23⟩ : ∃ x, x = a22 ++ Lib.itoa s.dropped := ⟨_, rfl⟩
  have la23 : a23.length ≤ 2300 := by rw [ea23]; simp; omega
  have y23 := fun w => run_cat2 a22 (Lib.itoa s.dropped) (by omega) (by omega) w
  rw [← ea23] at y23
  obtain ⟨a24, ea24⟩ : ∃ x, x = a23 ++ [32, 124, 32] := ⟨_, rfl⟩
  have la24 : a24.length ≤ 2400 := by rw [ea24]; simp; omega
  have y24 := fun w => run_catR a23 [32, 124, 32] (by omega) (by decide) w
  rw [← ea24] at y24
  obtain ⟨a25, ea25⟩ : ∃ x, x = a24 ++ showQ c z := ⟨_, rfl⟩
  have la25 : a25.length ≤ 2500 := by rw [ea25]; simp; omega
  have y25 := fun w => run_cat2 a24 (showQ c z) (by omega) (by omega) w
  rw [← ea25] at y25
  have eend : a25 = showC s c z := by unfold showC shTail; rw [ea25, ea24, ea23, ea22, ea21, ea20, ER.out, EH.out]; simp
  have EE : Hid (a25 = showC s c z) := eend
  clear eend ea20 ea21 ea22 ea23 ea24 ea25
  clear h ht hs
  go_enter Tryd.func14, Tryd.ntmps14
  go_wp2
  go_region_held3 (fun w' => w'.cell? ⟨p, 1, none⟩ = some (.int .i64 s.depth) ∧ w'.cell? ⟨p, 2, none⟩ = some (.int .i64 s.mode) ∧ w'.cell? ⟨p, 3, none⟩ = some (.int .i32 s.sum) ∧ w'.cell? ⟨p, 14, none⟩ = some (.int .i64 s.at_)) (first | (simp [go_sem, g1, g2, g3, g14]; done) | exact ⟨by assumption, by assumption, by assumption, by assumption⟩)
    (first
      | (go_at_call_of 23 s.depth; refine (itoa_in s.depth HS.out.depth _ (by exact HT.out.drew)).mono ?_; rintro e w1 ⟨rfl, k1⟩; have T1 : Hid (Tab w1) := (HT.out.drew).nil k1; have Q1 : Hid (CA w1 p l s c z) := (HC.out.drew).kept k1 id id id id id id id; have C1 : Hid (Chg (fun _ => False) _ w1) := k1; have b1Q1 := Q1.out.c1; have b2Q1 := Q1.out.c2; have b3Q1 := Q1.out.c3; have b14Q1 := Q1.out.c14; clear k1)
      | (go_at_call_of 23 s.mode; refine (itoa_in s.mode HS.out.mode _ (by exact T1.out)).mono ?_; rintro e w2 ⟨rfl, k2⟩; have T2 : Hid (Tab w2) := (T1.out).nil k2; have Q2 : Hid (CA w2 p l s c z) := (Q1.out).kept k2 id id id id id id id; have C2 : Hid (Chg (fun _ => False) _ w2) := k2; have b1Q2 := Q2.out.c1; have b2Q2 := Q2.out.c2; have b3Q2 := Q2.out.c3; have b14Q2 := Q2.out.c14; clear k2)
      | (go_at_call_of 23 s.sum; refine (itoa_in s.sum ⟨by have := HS.out.sum; omega, by have := HS.out.sum; omega⟩ _ (by exact T2.out)).mono ?_; rintro e w3 ⟨rfl, k3⟩; have T3 : Hid (Tab w3) := (T2.out).nil k3; have Q3 : Hid (CA w3 p l s c z) := (Q2.out).kept k3 id id id id id id id; have C3 : Hid (Chg (fun _ => False) _ w3) := k3; have b1Q3 := Q3.out.c1; have b2Q3 := Q3.out.c2; have b3Q3 := Q3.out.c3; have b14Q3 := Q3.out.c14; clear k3)
      | (go_at_call 24; refine (peak_is pk Ppk.out (by exact Q3.out)).mono ?_; rintro e w' ⟨rfl, rfl⟩)
      | (go_at_call_of 23 pk; refine (itoa_in pk (by rw [← Ppk.out]; exact inI_wrap _) _ (by exact T3.out)).mono ?_; rintro e w4 ⟨rfl, k4⟩; have T4 : Hid (Tab w4) := (T3.out).nil k4; have Q4 : Hid (CA w4 p l s c z) := (Q3.out).kept k4 id id id id id id id; have C4 : Hid (Chg (fun _ => False) _ w4) := k4; have b1Q4 := Q4.out.c1; have b2Q4 := Q4.out.c2; have b3Q4 := Q4.out.c3; have b14Q4 := Q4.out.c14; clear k4)
      | (go_at_call 25; refine (dip_is dk Pdk.out (by exact Q4.out)).mono ?_; rintro e w' ⟨rfl, rfl⟩)
      | (go_at_call_of 23 dk; refine (itoa_in dk (by rw [← Pdk.out]; exact inI_wrap _) _ (by exact T4.out)).mono ?_; rintro e w5 ⟨rfl, k5⟩; have T5 : Hid (Tab w5) := (T4.out).nil k5; have Q5 : Hid (CA w5 p l s c z) := (Q4.out).kept k5 id id id id id id id; have C5 : Hid (Chg (fun _ => False) _ w5) := k5; have b1Q5 := Q5.out.c1; have b2Q5 := Q5.out.c2; have b3Q5 := Q5.out.c3; have b14Q5 := Q5.out.c14; clear k5)
      | (go_at_call_of 23 s.at_; refine (itoa_in s.at_ HS.out.at_ _ (by exact T5.out)).mono ?_; rintro e w6 ⟨rfl, k6⟩; have T6 : Hid (Tab w6) := (T5.out).nil k6; have Q6 : Hid (CA w6 p l s c z) := (Q5.out).kept k6 id id id id id id id; have C6 : Hid (Chg (fun _ => False) _ w6) := k6; have b1Q6 := Q6.out.c1; have b2Q6 := Q6.out.c2; have b3Q6 := Q6.out.c3; have b14Q6 := Q6.out.c14; clear k6))
  go_wp2_with (refine wpList_load_off rfl 57 _ rfl ⟨p, 6, none⟩ rfl [.int .i32 r0, .int .i32 r1, .int .i32 r2, .int .i32 r3, .int .i32 r4, .int .i32 r5, .int .i32 r6, .int .i32 r7] _ (ring_cells Q6.out ERI.out) Tryd.underlying57 rfl (by kernel_rfl) ?_)
  refine wp_loop_rounds 9 ?_
  rw [rounds_succ]
  go_wp2_with (go_at_call 23; refine (itoa_in r0 v0 _ (by exact T6.out)).mono ?_; rintro e w7 ⟨rfl, k7⟩; have T7 : Hid (Tab w7) := T6.out.nil k7; have Q7 : Hid (CA w7 p l s c z) := Q6.out.kept k7 id id id id id id id; have C7 : Hid (Chg (fun _ => False) _ w7) := k7; clear k7)
  rw [rounds_succ]
  go_wp2_with (go_at_call 23; refine (itoa_in r1 v1 _ (by exact T7.out)).mono ?_; rintro e w8 ⟨rfl, k8⟩; have T8 : Hid (Tab w8) := T7.out.nil k8; have Q8 : Hid (CA w8 p l s c z) := Q7.out.kept k8 id id id id id id id; have C8 : Hid (Chg (fun _ => False) _ w8) := k8; clear k8)
  rw [rounds_succ]
  go_wp2_with (go_at_call 23; refine (itoa_in r2 v2 _ (by exact T8.out)).mono ?_; rintro e w9 ⟨rfl, k9⟩; have T9 : Hid (Tab w9) := T8.out.nil k9; have Q9 : Hid (CA w9 p l s c z) := Q8.out.kept k9 id id id id id id id; have C9 : Hid (Chg (fun _ => False) _ w9) := k9; clear k9)
  rw [rounds_succ]
  go_wp2_with (go_at_call 23; refine (itoa_in r3 v3 _ (by exact T9.out)).mono ?_; rintro e w10 ⟨rfl, k10⟩; have T10 : Hid (Tab w10) := T9.out.nil k10; have Q10 : Hid (CA w10 p l s c z) := Q9.out.kept k10 id id id id id id id; have C10 : Hid (Chg (fun _ => False) _ w10) := k10; clear k10)
  rw [rounds_succ]
  go_wp2_with (go_at_call 23; refine (itoa_in r4 v4 _ (by exact T10.out)).mono ?_; rintro e w11 ⟨rfl, k11⟩; have T11 : Hid (Tab w11) := T10.out.nil k11; have Q11 : Hid (CA w11 p l s c z) := Q10.out.kept k11 id id id id id id id; have C11 : Hid (Chg (fun _ => False) _ w11) := k11; clear k11)
  rw [rounds_succ]
  go_wp2_with (go_at_call 23; refine (itoa_in r5 v5 _ (by exact T11.out)).mono ?_; rintro e w12 ⟨rfl, k12⟩; have T12 : Hid (Tab w12) := T11.out.nil k12; have Q12 : Hid (CA w12 p l s c z) := Q11.out.kept k12 id id id id id id id; have C12 : Hid (Chg (fun _ => False) _ w12) := k12; clear k12)
  rw [rounds_succ]
  go_wp2_with (go_at_call 23; refine (itoa_in r6 v6 _ (by exact T12.out)).mono ?_; rintro e w13 ⟨rfl, k13⟩; have T13 : Hid (Tab w13) := T12.out.nil k13; have Q13 : Hid (CA w13 p l s c z) := Q12.out.kept k13 id id id id id id id; have C13 : Hid (Chg (fun _ => False) _ w13) := k13; clear k13)
  rw [rounds_succ]
  go_wp2_with (go_at_call 23; refine (itoa_in r7 v7 _ (by exact T13.out)).mono ?_; rintro e w14 ⟨rfl, k14⟩; have T14 : Hid (Tab w14) := T13.out.nil k14; have Q14 : Hid (CA w14 p l s c z) := Q13.out.kept k14 id id id id id id id; have C14 : Hid (Chg (fun _ => False) _ w14) := k14; clear k14)
  rw [rounds_succ]
  go_wp2
  have f17 := Q14.out.c17
  have f18 := Q14.out.c18
  have f0 := Q14.out.c0
  go_region_held3 (fun w' => w'.cell? ⟨p, 17, none⟩ = some (.int .i64 s.seq) ∧ w'.cell? ⟨p, 18, none⟩ = some (.int .i64 s.dropped) ∧ w'.cell? ⟨p, 0, none⟩ = some (.pointer (some ⟨l.q, 0, none⟩))) (first | (simp [go_sem, f17, f18, f0]; done) | exact ⟨by assumption, by assumption, by assumption⟩)
    (first
      | (go_at_call_of 23 s.seq; refine (itoa_in s.seq HS.out.seq _ (by exact T14.out.drew)).mono ?_; rintro e w15 ⟨rfl, k15⟩; have T15 : Hid (Tab w15) := (T14.out.drew).nil k15; have Q15 : Hid (CA w15 p l s c z) := (Q14.out.drew).kept k15 id id id id id id id; have C15 : Hid (Chg (fun _ => False) _ w15) := k15; have b17Q15 := Q15.out.c17; have b18Q15 := Q15.out.c18; have b0Q15 := Q15.out.c0; clear k15)
      | (go_at_call_of 23 s.dropped; refine (itoa_in s.dropped HS.out.dropped _ (by exact T15.out)).mono ?_; rintro e w16 ⟨rfl, k16⟩; have T16 : Hid (Tab w16) := (T15.out).nil k16; have Q16 : Hid (CA w16 p l s c z) := (Q15.out).kept k16 id id id id id id id; have C16 : Hid (Chg (fun _ => False) _ w16) := k16; have b17Q16 := Q16.out.c17; have b18Q16 := Q16.out.c18; have b0Q16 := Q16.out.c0; clear k16)
      | (go_at_call 26; refine (show_bs (Q16.out.qu) T16.out HS.out.c HS.out.z).mono ?_; rintro e w17 ⟨rfl, k17⟩; have Q17 : Hid (CA w17 p l s c z) := Q16.out.kept k17 id id id id id id id; have C17 : Hid (Chg (fun _ => False) _ w17) := k17; have b17Q17 := Q17.out.c17; have b18Q17 := Q17.out.c18; have b0Q17 := Q17.out.c0; clear k17))
  go_wp2
  go_simp
  go_ret
  exact ⟨by rw [EE.out]; rfl, Q17.out, ((((((((((((((((((Chg.refl (fun _ => False) w).drew.trans C1.out).trans C2.out).trans C3.out).trans C4.out).trans C5.out).trans C6.out).trans C7.out).trans C8.out).trans C9.out).trans C10.out).trans C11.out).trans C12.out).trans C13.out).trans C14.out).drew.trans C15.out).trans C16.out).trans C17.out)⟩
end Go.Proofs.Qxb6500376aDoor

/- The loose calls over the plain state; Adopt; loose. -/
import Derived.Test.Qxb6500376aGreatDoorPtRefine
import Derived.Test.Qxb6500376aGreatDoorChDitherI
namespace Go.Proofs.Qxb6500376aGreatDoor
set_option linter.unusedVariables false
set_option linter.unusedSimpArgs false
set_option maxHeartbeats 4000000
set_option maxRecDepth 100000
open Go.RowKit Go.Qu Ieee

theorem seq_up {g : PS} {n : Int} (hg : Good g n) (hn : n ≤ 4611686018427387904) : wrap64 ((realS g).seq + 1) = g.seq + 1 := by
  have := hg.q0; have := hg.q1; rw [wrap64]; show _ = _; unfold realS; dsimp only; omega
theorem up1_real {g : PS} {n : Int} (hg : Good g n) (hn : n ≤ 4611686018427387904) : up1 (realS g) = realS { g with seq := g.seq + 1 } := by
  unfold up1; rw [seq_up hg hn]; rfl
theorem StampLooseR (p : Nat) (l : Lk) (g : PS) (n : Int) (w : World) (hg : Good g n) (hn : n ≤ 4611686018427387904) (h : Ap w p l g) :
    Calls Tryz.prog 50 #[.pointer (some ⟨p, 0, none⟩)] w fun e w' => (∃ o, (o = g.seq ∨ o = g.seq + 1) ∧ e = .returned (.tuple #[.int .i64 o, .int .i64 (g.seq + 1)])) ∧ Ap w' p l { g with seq := g.seq + 1 } ∧ Chg (fun k => k = p ∨ k = l.q) w w' :=
  (stampLoose_any p l (realS g) g.c g.z w h).mono fun e w' ⟨⟨o, ho, he⟩, h1, h2⟩ => by
    have e1 := seq_up hg hn
    have q0 := hg.q0; have q1 := hg.q1
    rw [e1] at he h1 ho
    have ho' : o = g.seq ∨ o = g.seq + 1 := ho
    refine ⟨⟨o, ho', ?_⟩, h1, chg_p h2⟩
    rw [he]
    rw [show IntKind.i64.wrap (IntKind.i64.wrap (o + (g.seq + 1)) - (g.seq + 1)) = o by rw [IntKind.wrap_i64, IntKind.wrap_i64]; omega]
theorem DitherLooseI (p : Nat) (l : Lk) (g : PS) (n i : Int) (w : World) (hg : Good g n) (hn : n ≤ 4611686018427387904) (h : Ap w p l g) (i0 : 0 ≤ i) (i8 : i < 8) :
    Calls Tryz.prog 52 #[.pointer (some ⟨p, 0, none⟩), .int .i64 i] w fun e w' => e = .returned (.tuple #[.int .i64 0, .int .i64 (i * 6 + (g.seq + 1))]) ∧ Ap w' p l { g with seq := g.seq + 1 } ∧ Chg (fun k => k = p ∨ k = l.q) w w' := by
  obtain ⟨k, rfl⟩ : ∃ k : Nat, i = k := ⟨i.toNat, by omega⟩
  refine (ditherLoose_in p l (realS g) g.c g.z k ((k : Int) * 6 + (g.seq + 1)) w h (by omega) ?_).mono fun e w' ⟨he, h1, h2⟩ => ?_
  · rw [seq_up hg hn, IntKind.wrap_i64]; have := hg.q0; have := hg.q1; omega
  · rw [up1_real hg hn] at h1
    exact ⟨he, h1, chg_p h2⟩
theorem DitherLooseO (p : Nat) (l : Lk) (g : PS) (n i : Int) (w : World) (hg : Good g n) (hn : n ≤ 4611686018427387904) (h : Ap w p l g) (hi : i < 0 ∨ 8 ≤ i) :
    Calls Tryz.prog 52 #[.pointer (some ⟨p, 0, none⟩), .int .i64 i] w fun e w' => e = .returned (.tuple #[.int .i64 8, .int .i64 0]) ∧ (∃ t, (t = g.seq ∨ t = g.seq + 1) ∧ Ap w' p l { g with seq := t }) ∧ Chg (fun k => k = p ∨ k = l.q) w w' :=
  (ditherLoose_out p l (realS g) g.c g.z i w h hi).mono fun e w' ⟨he, h1, h2⟩ => by
    refine ⟨he, ?_, chg_p h2⟩
    rcases h1 with h1 | h1
    · exact ⟨g.seq, .inl rfl, h1⟩
    · rw [up1_real hg hn] at h1; exact ⟨g.seq + 1, .inr rfl, h1⟩
theorem SquelchLooseR (p : Nat) (l : Lk) (g : PS) (n v : Int) (w : World) (hg : Good g n) (hn : n ≤ 4611686018427387904) (h : Ap w p l g) :
    Calls Tryz.prog 53 #[.pointer (some ⟨p, 0, none⟩), .int .i64 v] w fun e w' => ∃ r : Int, (r = 1 ∨ (r = 0 ∧ v % 4294967296 ≠ 0)) ∧ e = .returned (.int .i64 r) ∧ Ap w' p l { g with dropped := g.dropped + r } ∧ Chg (fun k => k = p ∨ k = l.q) w w' := by
  have e2 : wrap64 ((realS g).dropped + 1) = g.dropped + 1 := by have := hg.r0; have := hg.r1; rw [wrap64]; show _ = _; unfold realS; dsimp only; omega
  have e3 : ({ g with dropped := g.dropped + 0 } : PS) = g := by rw [Int.add_zero]
  by_cases e1 : wrap32 v = 0
  · refine (squelchLoose_zero p l (realS g) g.c g.z v w h e1).mono fun e w' ⟨he, h1, h2⟩ => ?_
    rw [e2] at h1
    exact ⟨1, .inl rfl, he, h1, chg_p h2⟩
  · have e4 : v % 4294967296 ≠ 0 := by rw [wrap32] at e1; omega
    refine (squelchLoose_sound p l (realS g) g.c g.z v w h e1).mono fun e w' hh => ?_
    rcases hh with ⟨he, h1, h2⟩ | ⟨he, h1, h2⟩
    · rw [e2] at h1
      exact ⟨1, .inl rfl, he, h1, chg_p h2⟩
    · exact ⟨0, .inr ⟨rfl, e4⟩, he, by rw [e3]; exact h1, chg_p h2⟩
theorem AdoptM (m q : Nat) (g : PS) (a b : Int) (w : World) (h : Md w m q g) :
    Calls Tryz.prog 51 #[.pointer (some ⟨m, 0, none⟩), .int .i64 a, .int .i64 b] w fun e w' => e = .returned (.tuple #[]) ∧ Md w' m q { g with seq := a, dropped := b } ∧ Chg (fun k => k = m ∨ k = q) w w' := by
  have H : Hid (Md w m q g) := h
  have f1 := h.cell 15 (md_get q g h.len).2.2.2.2.2.2.2.1
  have f2 := h.cell 16 (md_get q g h.len).2.2.2.2.2.2.2.2
  have z1 := h.frozen 15
  have z2 := h.frozen 16
  clear h
  go_enter Tryz.func51, Tryz.ntmps51
  go_wp2
  go_end0
  have h1 := H.out.put 15 (.int .i64 a) (md_set q g H.out.len a).2.2.2.2.2.2.1 H.out.len rfl rfl
  exact ⟨rfl, h1.put 16 (.int .i64 b) (md_set q _ h1.len b).2.2.2.2.2.2.2 H.out.len rfl rfl, chg_p ((Chg.set1 w m 15 _).trans (Chg.set1 _ m 16 _))⟩
theorem seqM_is (v : Int) {m q : Nat} {g : PS} {w : World} (hv : g.seq = v) (h : Md w m q g) : Calls Tryz.prog 47 #[.pointer (some ⟨m, 0, none⟩)] w fun e w' => e = .returned (.int .i64 v) ∧ Md w' m q g ∧ Chg (fun k => k = m ∨ k = q) w w' := hv ▸ SeqM m q g w h
theorem dropM_is (v : Int) {m q : Nat} {g : PS} {w : World} (hv : g.dropped = v) (h : Md w m q g) : Calls Tryz.prog 46 #[.pointer (some ⟨m, 0, none⟩)] w fun e w' => e = .returned (.int .i64 v) ∧ Md w' m q g ∧ Chg (fun k => k = m ∨ k = q) w w' := hv ▸ DroppedM m q g w h

theorem good_set {g : PS} {n a b : Int} (hg : Good g n) (a0 : 0 ≤ a) (a1 : a ≤ n + 1) (b0 : 0 ≤ b) (b1 : b ≤ n + 1) : Good { g with seq := a, dropped := b } (n + 1) :=
  { hg with q0 := a0, q1 := a1, r0 := b0, r1 := b1, c1 := by have := hg.c1; show g.c ≤ n + 1; omega, z1 := by have := hg.z1; show g.z ≤ n + 1; omega }
/-- inside loose: the two sides, the step's copy -/
structure Lo (w W : World) (B0 p : Nat) (l : Lk) (m q : Nat) (gx gm : PS) (O : List Value) : Prop where
  x : Ap W p l gx
  md : Md W m q gm
  o : Has 36 W w.heap.size O
  chg : Chg (fun k => B0 ≤ k) w W
  ap : Apart B0 p l m q
  lt : p < w.heap.size ∧ l.q < w.heap.size ∧ m < w.heap.size ∧ q < w.heap.size
theorem Lo.start {w : World} {B0 p m q : Nat} {l : Lk} {g : PS} (h : Pr w p l m q g) (ha : Apart B0 p l m q) (O : List Value) : Lo w (w.alloc (.cells O.toArray 36)) B0 p l m q g g O :=
  ⟨ap_nil h.x ((Chg.refl _ _).alloc _), h.m.nil ((Chg.refl _ _).alloc _), Has.new _ _ _, (Chg.refl _ _).alloc _, ha, h.x.obj.lt, h.x.qu.lt, h.m.obj.lt, Has.lt h.m.qu⟩
theorem Lo.byX {w W W' : World} {B0 p m q : Nat} {l : Lk} {gx gm gx' : PS} {O : List Value} (h : Lo w W B0 p l m q gx gm O) (hx : Ap W' p l gx') (hc : Chg (fun k => k = p ∨ k = l.q) W W') : Lo w W' B0 p l m q gx' gm O :=
  ⟨hx, h.ap.keepM h.md hc, h.o.kept hc (by have := h.lt; omega), h.chg.trans (hc.up (by have := h.ap.p; have := h.ap.lq; intro k e; omega)), h.ap, h.lt⟩
theorem Lo.byM {w W W' : World} {B0 p m q : Nat} {l : Lk} {gx gm gm' : PS} {O : List Value} (h : Lo w W B0 p l m q gx gm O) (hx : Md W' m q gm') (hc : Chg (fun k => k = m ∨ k = q) W W') : Lo w W' B0 p l m q gx gm' O :=
  ⟨h.ap.keepX h.x hc, hx, h.o.kept hc (by have := h.lt; omega), h.chg.trans (hc.up (by have := h.ap.m; have := h.ap.q; intro k e; omega)), h.ap, h.lt⟩
theorem seqR_is (v : Int) {p : Nat} {l : Lk} {g : PS} {w : World} (hv : g.seq = v) (h : Ap w p l g) : Calls Tryz.prog 31 #[.pointer (some ⟨p, 0, none⟩)] w fun e w' => e = .returned (.int .i64 v) ∧ Ap w' p l g ∧ Chg (fun k => k = p ∨ k = l.q) w w' := hv ▸ SeqR p l g w h
theorem loose_21 (p m q : Nat) (l : Lk) (g : PS) (n : Int) (B0 : Nat) (x y cc : Int) (s t : ByteArray) (w : World) (h : Pr w p l m q g) (ha : Apart B0 p l m q) (hg : Good g n) (hn : n ≤ 4611686018427387904) :
    Calls Tryz.prog 13 #[.pointer (some ⟨p, 0, none⟩), .pointer (some ⟨m, 0, none⟩), opV 21 x y cc s t] w fun e w' => e = .returned (.bool true) ∧ (∃ g2, Pr w' p l m q g2 ∧ Good g2 (n + 1)) ∧ Chg (fun k => B0 ≤ k) w w' := by
  unfold opV
  have H0 : Hid (Lo w (w.alloc (.cells ([.int .i64 21, .int .i64 x, .int .i64 y, .int .i64 cc, .string s, .string t] : List Value).toArray 36)) B0 p l m q g g [.int .i64 21, .int .i64 x, .int .i64 y, .int .i64 cc, .string s, .string t]) := Lo.start h ha _
  have HG : Hid (Good g n ∧ n ≤ 4611686018427387904) := ⟨hg, hn⟩
  obtain ⟨S, hS⟩ : ∃ S, g.seq = S := ⟨_, rfl⟩
  obtain ⟨D, hD⟩ : ∃ D, g.dropped = D := ⟨_, rfl⟩
  have HS : Hid (g.seq = S) := hS
  have HD : Hid (g.dropped = D) := hD
  have q0 := hg.q0; have q1 := hg.q1; have r0 := hg.r0; have r1 := hg.r1
  rw [hS] at q0 q1
  rw [hD] at r0 r1
  clear h ha hg hS hD
  go_enter Tryz.func13, Tryz.ntmps13
  go_wp2_with fail
  refine (seqM_is S HS.out H0.out.md).mono ?_; rintro e w1 ⟨rfl, m1, c1⟩
  have H1 : Hid (Lo w w1 B0 p l m q g g [.int .i64 21, .int .i64 x, .int .i64 y, .int .i64 cc, .string s, .string t]) := H0.out.byM m1 c1
  clear m1 c1 H0
  go_wp2_with fail
  refine (dropM_is D HD.out H1.out.md).mono ?_; rintro e w2 ⟨rfl, m2, c2⟩
  have H2 : Hid (Lo w w2 B0 p l m q g g [.int .i64 21, .int .i64 x, .int .i64 y, .int .i64 cc, .string s, .string t]) := H1.out.byM m2 c2
  clear m2 c2 H1
  have o0 : w2.cell? ⟨w.heap.size, 0, none⟩ = some (.int .i64 21) := H2.out.o.cell 0
  have o1 : w2.cell? ⟨w.heap.size, 1, none⟩ = some (.int .i64 x) := H2.out.o.cell 1
  go_wp2_with fail
  refine (StampLooseR p l g n _ HG.out.1 HG.out.2 H2.out.x).mono ?_; rintro e w3 ⟨⟨o, ho, rfl⟩, x3, c3⟩
  rw [HS.out] at ho x3 ⊢
  have H3 : Hid (Lo w w3 B0 p l m q { g with seq := S + 1 } g [.int .i64 21, .int .i64 x, .int .i64 y, .int .i64 cc, .string s, .string t]) := H2.out.byX x3 c3
  clear x3 c3 H2 o0 o1
  go_wp2_with fail
  refine (AdoptM m q g (S + 1) D _ H3.out.md).mono ?_; rintro e w4 ⟨rfl, m4, c4⟩
  have H4 : Hid (Lo w w4 B0 p l m q { g with seq := S + 1 } { g with seq := S + 1, dropped := D } [.int .i64 21, .int .i64 x, .int .i64 y, .int .i64 cc, .string s, .string t]) := H3.out.byM m4 c4
  clear m4 c4 H3
  have HF : Hid (({ g with seq := S + 1 } : PS) = { g with seq := S + 1, dropped := D } ∧ Good { g with seq := S + 1, dropped := D } (n + 1)) := ⟨by show ({ g with seq := S + 1 } : PS) = { g with seq := S + 1, dropped := D }; rw [← HD.out], good_set HG.out.1 (by omega) (by omega) (by omega) (by omega)⟩
  rcases ho with rfl | rfl
  · go_wp2_with fail
    go_ret
    exact ⟨by first | rfl | simp, ⟨_, ⟨HF.out.1 ▸ H4.out.x, H4.out.md⟩, HF.out.2⟩, H4.out.chg⟩
  · go_wp2_with fail
    go_ret
    exact ⟨by first | rfl | simp, ⟨_, ⟨HF.out.1 ▸ H4.out.x, H4.out.md⟩, HF.out.2⟩, H4.out.chg⟩
theorem loose_22i (p m q : Nat) (l : Lk) (g : PS) (n : Int) (B0 : Nat) (x y cc : Int) (s t : ByteArray) (w : World) (h : Pr w p l m q g) (ha : Apart B0 p l m q) (hg : Good g n) (hn : n ≤ 4611686018427387904) (x0 : 0 ≤ x) (x8 : x < 8) :
    Calls Tryz.prog 13 #[.pointer (some ⟨p, 0, none⟩), .pointer (some ⟨m, 0, none⟩), opV 22 x y cc s t] w fun e w' => e = .returned (.bool true) ∧ (∃ g2, Pr w' p l m q g2 ∧ Good g2 (n + 1)) ∧ Chg (fun k => B0 ≤ k) w w' := by
  unfold opV
  have H0 : Hid (Lo w (w.alloc (.cells ([.int .i64 22, .int .i64 x, .int .i64 y, .int .i64 cc, .string s, .string t] : List Value).toArray 36)) B0 p l m q g g [.int .i64 22, .int .i64 x, .int .i64 y, .int .i64 cc, .string s, .string t]) := Lo.start h ha _
  have HG : Hid (Good g n ∧ n ≤ 4611686018427387904) := ⟨hg, hn⟩
  obtain ⟨S, hS⟩ : ∃ S, g.seq = S := ⟨_, rfl⟩
  obtain ⟨D, hD⟩ : ∃ D, g.dropped = D := ⟨_, rfl⟩
  have HS : Hid (g.seq = S) := hS
  have HD : Hid (g.dropped = D) := hD
  have q0 := hg.q0; have q1 := hg.q1; have r0 := hg.r0; have r1 := hg.r1
  rw [hS] at q0 q1
  rw [hD] at r0 r1
  clear h ha hg hS hD
  go_enter Tryz.func13, Tryz.ntmps13
  go_wp2_with fail
  refine (seqM_is S HS.out H0.out.md).mono ?_; rintro e w1 ⟨rfl, m1, c1⟩
  have H1 : Hid (Lo w w1 B0 p l m q g g [.int .i64 22, .int .i64 x, .int .i64 y, .int .i64 cc, .string s, .string t]) := H0.out.byM m1 c1
  clear m1 c1 H0
  go_wp2_with fail
  refine (dropM_is D HD.out H1.out.md).mono ?_; rintro e w2 ⟨rfl, m2, c2⟩
  have H2 : Hid (Lo w w2 B0 p l m q g g [.int .i64 22, .int .i64 x, .int .i64 y, .int .i64 cc, .string s, .string t]) := H1.out.byM m2 c2
  clear m2 c2 H1
  have o0 : w2.cell? ⟨w.heap.size, 0, none⟩ = some (.int .i64 22) := H2.out.o.cell 0
  have o1 : w2.cell? ⟨w.heap.size, 1, none⟩ = some (.int .i64 x) := H2.out.o.cell 1
  go_wp2_with fail
  refine (DitherLooseI p l g n x _ HG.out.1 HG.out.2 H2.out.x x0 x8).mono ?_; rintro e w3 ⟨rfl, x3, c3⟩
  rw [HS.out] at x3 ⊢
  rw [show x * 6 + (S + 1) = x * 6 + S + 1 by omega]
  have H3 : Hid (Lo w w3 B0 p l m q { g with seq := S + 1 } g [.int .i64 22, .int .i64 x, .int .i64 y, .int .i64 cc, .string s, .string t]) := H2.out.byX x3 c3
  clear x3 c3 H2 o0 o1
  have o1 : w3.cell? ⟨w.heap.size, 1, none⟩ = some (.int .i64 x) := H3.out.o.cell 1
  go_wp2_with fail
  refine (AdoptM m q g (S + 1) D _ H3.out.md).mono ?_; rintro e w4 ⟨rfl, m4, c4⟩
  have H4 : Hid (Lo w w4 B0 p l m q { g with seq := S + 1 } { g with seq := S + 1, dropped := D } [.int .i64 22, .int .i64 x, .int .i64 y, .int .i64 cc, .string s, .string t]) := H3.out.byM m4 c4
  clear m4 c4 H3 o1
  have o1 : w4.cell? ⟨w.heap.size, 1, none⟩ = some (.int .i64 x) := H4.out.o.cell 1
  have HF : Hid (({ g with seq := S + 1 } : PS) = { g with seq := S + 1, dropped := D } ∧ Good { g with seq := S + 1, dropped := D } (n + 1)) := ⟨by show ({ g with seq := S + 1 } : PS) = { g with seq := S + 1, dropped := D }; rw [← HD.out], good_set HG.out.1 (by omega) (by omega) (by omega) (by omega)⟩
  go_wp2_with fail
  go_ret
  exact ⟨by first | rfl | simp, ⟨_, ⟨HF.out.1 ▸ H4.out.x, H4.out.md⟩, HF.out.2⟩, H4.out.chg⟩
theorem loose_22n (p m q : Nat) (l : Lk) (g : PS) (n : Int) (B0 : Nat) (x y cc : Int) (s t : ByteArray) (w : World) (h : Pr w p l m q g) (ha : Apart B0 p l m q) (hg : Good g n) (hn : n ≤ 4611686018427387904) (x0 : x < 0) :
    Calls Tryz.prog 13 #[.pointer (some ⟨p, 0, none⟩), .pointer (some ⟨m, 0, none⟩), opV 22 x y cc s t] w fun e w' => e = .returned (.bool true) ∧ (∃ g2, Pr w' p l m q g2 ∧ Good g2 (n + 1)) ∧ Chg (fun k => B0 ≤ k) w w' := by
  unfold opV
  have H0 : Hid (Lo w (w.alloc (.cells ([.int .i64 22, .int .i64 x, .int .i64 y, .int .i64 cc, .string s, .string t] : List Value).toArray 36)) B0 p l m q g g [.int .i64 22, .int .i64 x, .int .i64 y, .int .i64 cc, .string s, .string t]) := Lo.start h ha _
  have HG : Hid (Good g n ∧ n ≤ 4611686018427387904) := ⟨hg, hn⟩
  obtain ⟨S, hS⟩ : ∃ S, g.seq = S := ⟨_, rfl⟩
  obtain ⟨D, hD⟩ : ∃ D, g.dropped = D := ⟨_, rfl⟩
  have HS : Hid (g.seq = S) := hS
  have HD : Hid (g.dropped = D) := hD
  have q0 := hg.q0; have q1 := hg.q1; have r0 := hg.r0; have r1 := hg.r1
  rw [hS] at q0 q1
  rw [hD] at r0 r1
  clear h ha hg hS hD
  go_enter Tryz.func13, Tryz.ntmps13
  go_wp2_with fail
  refine (seqM_is S HS.out H0.out.md).mono ?_; rintro e w1 ⟨rfl, m1, c1⟩
  have H1 : Hid (Lo w w1 B0 p l m q g g [.int .i64 22, .int .i64 x, .int .i64 y, .int .i64 cc, .string s, .string t]) := H0.out.byM m1 c1
  clear m1 c1 H0
  go_wp2_with fail
  refine (dropM_is D HD.out H1.out.md).mono ?_; rintro e w2 ⟨rfl, m2, c2⟩
  have H2 : Hid (Lo w w2 B0 p l m q g g [.int .i64 22, .int .i64 x, .int .i64 y, .int .i64 cc, .string s, .string t]) := H1.out.byM m2 c2
  clear m2 c2 H1
  have o0 : w2.cell? ⟨w.heap.size, 0, none⟩ = some (.int .i64 22) := H2.out.o.cell 0
  have o1 : w2.cell? ⟨w.heap.size, 1, none⟩ = some (.int .i64 x) := H2.out.o.cell 1
  go_wp2_with fail
  refine (DitherLooseO p l g n x _ HG.out.1 HG.out.2 H2.out.x (by omega)).mono ?_; rintro e w3 ⟨rfl, ⟨T, hT, x3⟩, c3⟩
  rw [HS.out] at hT
  have H3 : Hid (Lo w w3 B0 p l m q { g with seq := T } g [.int .i64 22, .int .i64 x, .int .i64 y, .int .i64 cc, .string s, .string t]) := H2.out.byX x3 c3
  clear x3 c3 H2 o0 o1
  have o1 : w3.cell? ⟨w.heap.size, 1, none⟩ = some (.int .i64 x) := H3.out.o.cell 1
  go_wp2_with fail
  refine (seqR_is T rfl H3.out.x).mono ?_; rintro e w4 ⟨rfl, x4, c4⟩
  have H4 : Hid (Lo w w4 B0 p l m q { g with seq := T } g [.int .i64 22, .int .i64 x, .int .i64 y, .int .i64 cc, .string s, .string t]) := H3.out.byX x4 c4
  clear x4 c4 H3 o1
  go_wp2_with fail
  refine (AdoptM m q g T D _ H4.out.md).mono ?_; rintro e w5 ⟨rfl, m5, c5⟩
  have H5 : Hid (Lo w w5 B0 p l m q { g with seq := T } { g with seq := T, dropped := D } [.int .i64 22, .int .i64 x, .int .i64 y, .int .i64 cc, .string s, .string t]) := H4.out.byM m5 c5
  clear m5 c5 H4
  have HF : Hid (({ g with seq := T } : PS) = { g with seq := T, dropped := D } ∧ Good { g with seq := T, dropped := D } (n + 1)) := ⟨by show ({ g with seq := T } : PS) = { g with seq := T, dropped := D }; rw [← HD.out], good_set HG.out.1 (by omega) (by omega) (by omega) (by omega)⟩
  rcases hT with rfl | rfl
  · go_wp2_with fail
    go_ret
    exact ⟨by first | rfl | simp, ⟨_, ⟨HF.out.1 ▸ H5.out.x, H5.out.md⟩, HF.out.2⟩, H5.out.chg⟩
  · go_wp2_with fail
    go_ret
    exact ⟨by first | rfl | simp, ⟨_, ⟨HF.out.1 ▸ H5.out.x, H5.out.md⟩, HF.out.2⟩, H5.out.chg⟩
theorem loose_22g (p m q : Nat) (l : Lk) (g : PS) (n : Int) (B0 : Nat) (x y cc : Int) (s t : ByteArray) (w : World) (h : Pr w p l m q g) (ha : Apart B0 p l m q) (hg : Good g n) (hn : n ≤ 4611686018427387904) (x0 : 8 ≤ x) :
    Calls Tryz.prog 13 #[.pointer (some ⟨p, 0, none⟩), .pointer (some ⟨m, 0, none⟩), opV 22 x y cc s t] w fun e w' => e = .returned (.bool true) ∧ (∃ g2, Pr w' p l m q g2 ∧ Good g2 (n + 1)) ∧ Chg (fun k => B0 ≤ k) w w' := by
  unfold opV
  have H0 : Hid (Lo w (w.alloc (.cells ([.int .i64 22, .int .i64 x, .int .i64 y, .int .i64 cc, .string s, .string t] : List Value).toArray 36)) B0 p l m q g g [.int .i64 22, .int .i64 x, .int .i64 y, .int .i64 cc, .string s, .string t]) := Lo.start h ha _
  have HG : Hid (Good g n ∧ n ≤ 4611686018427387904) := ⟨hg, hn⟩
  obtain ⟨S, hS⟩ : ∃ S, g.seq = S := ⟨_, rfl⟩
  obtain ⟨D, hD⟩ : ∃ D, g.dropped = D := ⟨_, rfl⟩
  have HS : Hid (g.seq = S) := hS
  have HD : Hid (g.dropped = D) := hD
  have q0 := hg.q0; have q1 := hg.q1; have r0 := hg.r0; have r1 := hg.r1
  rw [hS] at q0 q1
  rw [hD] at r0 r1
  clear h ha hg hS hD
  go_enter Tryz.func13, Tryz.ntmps13
  go_wp2_with fail
  refine (seqM_is S HS.out H0.out.md).mono ?_; rintro e w1 ⟨rfl, m1, c1⟩
  have H1 : Hid (Lo w w1 B0 p l m q g g [.int .i64 22, .int .i64 x, .int .i64 y, .int .i64 cc, .string s, .string t]) := H0.out.byM m1 c1
  clear m1 c1 H0
  go_wp2_with fail
  refine (dropM_is D HD.out H1.out.md).mono ?_; rintro e w2 ⟨rfl, m2, c2⟩
  have H2 : Hid (Lo w w2 B0 p l m q g g [.int .i64 22, .int .i64 x, .int .i64 y, .int .i64 cc, .string s, .string t]) := H1.out.byM m2 c2
  clear m2 c2 H1
  have o0 : w2.cell? ⟨w.heap.size, 0, none⟩ = some (.int .i64 22) := H2.out.o.cell 0
  have o1 : w2.cell? ⟨w.heap.size, 1, none⟩ = some (.int .i64 x) := H2.out.o.cell 1
  go_wp2_with fail
  refine (DitherLooseO p l g n x _ HG.out.1 HG.out.2 H2.out.x (by omega)).mono ?_; rintro e w3 ⟨rfl, ⟨T, hT, x3⟩, c3⟩
  rw [HS.out] at hT
  have H3 : Hid (Lo w w3 B0 p l m q { g with seq := T } g [.int .i64 22, .int .i64 x, .int .i64 y, .int .i64 cc, .string s, .string t]) := H2.out.byX x3 c3
  clear x3 c3 H2 o0 o1
  have o1 : w3.cell? ⟨w.heap.size, 1, none⟩ = some (.int .i64 x) := H3.out.o.cell 1
  go_wp2_with fail
  refine (seqR_is T rfl H3.out.x).mono ?_; rintro e w4 ⟨rfl, x4, c4⟩
  have H4 : Hid (Lo w w4 B0 p l m q { g with seq := T } g [.int .i64 22, .int .i64 x, .int .i64 y, .int .i64 cc, .string s, .string t]) := H3.out.byX x4 c4
  clear x4 c4 H3 o1
  go_wp2_with fail
  refine (AdoptM m q g T D _ H4.out.md).mono ?_; rintro e w5 ⟨rfl, m5, c5⟩
  have H5 : Hid (Lo w w5 B0 p l m q { g with seq := T } { g with seq := T, dropped := D } [.int .i64 22, .int .i64 x, .int .i64 y, .int .i64 cc, .string s, .string t]) := H4.out.byM m5 c5
  clear m5 c5 H4
  have HF : Hid (({ g with seq := T } : PS) = { g with seq := T, dropped := D } ∧ Good { g with seq := T, dropped := D } (n + 1)) := ⟨by show ({ g with seq := T } : PS) = { g with seq := T, dropped := D }; rw [← HD.out], good_set HG.out.1 (by omega) (by omega) (by omega) (by omega)⟩
  rcases hT with rfl | rfl
  · go_wp2_with fail
    go_ret
    exact ⟨by first | rfl | simp, ⟨_, ⟨HF.out.1 ▸ H5.out.x, H5.out.md⟩, HF.out.2⟩, H5.out.chg⟩
  · go_wp2_with fail
    go_ret
    exact ⟨by first | rfl | simp, ⟨_, ⟨HF.out.1 ▸ H5.out.x, H5.out.md⟩, HF.out.2⟩, H5.out.chg⟩
theorem loose_23 (p m q : Nat) (l : Lk) (g : PS) (n : Int) (B0 : Nat) (x y cc : Int) (s t : ByteArray) (w : World) (h : Pr w p l m q g) (ha : Apart B0 p l m q) (hg : Good g n) (hn : n ≤ 4611686018427387904) :
    Calls Tryz.prog 13 #[.pointer (some ⟨p, 0, none⟩), .pointer (some ⟨m, 0, none⟩), opV 23 x y cc s t] w fun e w' => e = .returned (.bool true) ∧ (∃ g2, Pr w' p l m q g2 ∧ Good g2 (n + 1)) ∧ Chg (fun k => B0 ≤ k) w w' := by
  unfold opV
  have H0 : Hid (Lo w (w.alloc (.cells ([.int .i64 23, .int .i64 x, .int .i64 y, .int .i64 cc, .string s, .string t] : List Value).toArray 36)) B0 p l m q g g [.int .i64 23, .int .i64 x, .int .i64 y, .int .i64 cc, .string s, .string t]) := Lo.start h ha _
  have HG : Hid (Good g n ∧ n ≤ 4611686018427387904) := ⟨hg, hn⟩
  obtain ⟨S, hS⟩ : ∃ S, g.seq = S := ⟨_, rfl⟩
  obtain ⟨D, hD⟩ : ∃ D, g.dropped = D := ⟨_, rfl⟩
  have HS : Hid (g.seq = S) := hS
  have HD : Hid (g.dropped = D) := hD
  have q0 := hg.q0; have q1 := hg.q1; have r0 := hg.r0; have r1 := hg.r1
  rw [hS] at q0 q1
  rw [hD] at r0 r1
  clear h ha hg hS hD
  have e5 := and32 x
  go_enter Tryz.func13, Tryz.ntmps13
  go_wp2_with fail
  refine (seqM_is S HS.out H0.out.md).mono ?_; rintro e w1 ⟨rfl, m1, c1⟩
  have H1 : Hid (Lo w w1 B0 p l m q g g [.int .i64 23, .int .i64 x, .int .i64 y, .int .i64 cc, .string s, .string t]) := H0.out.byM m1 c1
  clear m1 c1 H0
  go_wp2_with fail
  refine (dropM_is D HD.out H1.out.md).mono ?_; rintro e w2 ⟨rfl, m2, c2⟩
  have H2 : Hid (Lo w w2 B0 p l m q g g [.int .i64 23, .int .i64 x, .int .i64 y, .int .i64 cc, .string s, .string t]) := H1.out.byM m2 c2
  clear m2 c2 H1
  have o0 : w2.cell? ⟨w.heap.size, 0, none⟩ = some (.int .i64 23) := H2.out.o.cell 0
  have o1 : w2.cell? ⟨w.heap.size, 1, none⟩ = some (.int .i64 x) := H2.out.o.cell 1
  go_wp2_with fail
  refine (SquelchLooseR p l g n x _ HG.out.1 HG.out.2 H2.out.x).mono ?_; rintro e w3 ⟨R, hR, rfl, x3, c3⟩
  rw [HD.out] at x3
  have H3 : Hid (Lo w w3 B0 p l m q { g with dropped := D + R } g [.int .i64 23, .int .i64 x, .int .i64 y, .int .i64 cc, .string s, .string t]) := H2.out.byX x3 c3
  clear x3 c3 H2 o0 o1
  have o1 : w3.cell? ⟨w.heap.size, 1, none⟩ = some (.int .i64 x) := H3.out.o.cell 1
  have R0 : 0 ≤ R := by omega
  have R1 : R ≤ 1 := by omega
  go_wp2_with fail
  refine (AdoptM m q g S (D + R) _ H3.out.md).mono ?_; rintro e w4 ⟨rfl, m4, c4⟩
  have H4 : Hid (Lo w w4 B0 p l m q { g with dropped := D + R } { g with seq := S, dropped := D + R } [.int .i64 23, .int .i64 x, .int .i64 y, .int .i64 cc, .string s, .string t]) := H3.out.byM m4 c4
  clear m4 c4 H3 o1
  have o1 : w4.cell? ⟨w.heap.size, 1, none⟩ = some (.int .i64 x) := H4.out.o.cell 1
  have HF : Hid (({ g with dropped := D + R } : PS) = { g with seq := S, dropped := D + R } ∧ Good { g with seq := S, dropped := D + R } (n + 1)) := ⟨by show ({ g with dropped := D + R } : PS) = { g with seq := S, dropped := D + R }; rw [← HS.out], good_set HG.out.1 (by omega) (by omega) (by omega) (by omega)⟩
  rcases hR with rfl | ⟨rfl, hR⟩
  · by_cases hz : x % 4294967296 = 0
    · rw [hz] at e5
      go_wp2_with fail
      go_ret
      exact ⟨by first | rfl | simp, ⟨_, ⟨HF.out.1 ▸ H4.out.x, H4.out.md⟩, HF.out.2⟩, H4.out.chg⟩
    · have hz2 : (x % 4294967296 == 0) = false := by simpa using hz
      go_wp2_with fail
      go_ret
      exact ⟨by first | rfl | simp, ⟨_, ⟨HF.out.1 ▸ H4.out.x, H4.out.md⟩, HF.out.2⟩, H4.out.chg⟩
  · have hz2 : (x % 4294967296 == 0) = false := by simpa using hR
    go_wp2_with fail
    go_ret
    exact ⟨by first | rfl | simp, ⟨_, ⟨HF.out.1 ▸ H4.out.x, H4.out.md⟩, HF.out.2⟩, H4.out.chg⟩
theorem loose_0 (p m q : Nat) (l : Lk) (g : PS) (n : Int) (B0 : Nat) (kd x y cc : Int) (s t : ByteArray) (w : World) (h : Pr w p l m q g) (ha : Apart B0 p l m q) (hg : Good g n) (hn : n ≤ 4611686018427387904) (h21 : kd ≠ 21) (h22 : kd ≠ 22) (h23 : kd ≠ 23) :
    Calls Tryz.prog 13 #[.pointer (some ⟨p, 0, none⟩), .pointer (some ⟨m, 0, none⟩), opV kd x y cc s t] w fun e w' => e = .returned (.bool true) ∧ (∃ g2, Pr w' p l m q g2 ∧ Good g2 (n + 1)) ∧ Chg (fun k => B0 ≤ k) w w' := by
  unfold opV
  have H0 : Hid (Lo w (w.alloc (.cells ([.int .i64 kd, .int .i64 x, .int .i64 y, .int .i64 cc, .string s, .string t] : List Value).toArray 36)) B0 p l m q g g [.int .i64 kd, .int .i64 x, .int .i64 y, .int .i64 cc, .string s, .string t]) := Lo.start h ha _
  have HG : Hid (Good g n ∧ n ≤ 4611686018427387904) := ⟨hg, hn⟩
  obtain ⟨S, hS⟩ : ∃ S, g.seq = S := ⟨_, rfl⟩
  obtain ⟨D, hD⟩ : ∃ D, g.dropped = D := ⟨_, rfl⟩
  have HS : Hid (g.seq = S) := hS
  have HD : Hid (g.dropped = D) := hD
  have q0 := hg.q0; have q1 := hg.q1; have r0 := hg.r0; have r1 := hg.r1
  rw [hS] at q0 q1
  rw [hD] at r0 r1
  clear h ha hg hS hD
  have k21 : (kd == 21) = false := by simpa using h21
  have k22 : (kd == 22) = false := by simpa using h22
  have k23 : (kd == 23) = false := by simpa using h23
  clear h21 h22 h23
  go_enter Tryz.func13, Tryz.ntmps13
  go_wp2_with fail
  refine (seqM_is S HS.out H0.out.md).mono ?_; rintro e w1 ⟨rfl, m1, c1⟩
  have H1 : Hid (Lo w w1 B0 p l m q g g [.int .i64 kd, .int .i64 x, .int .i64 y, .int .i64 cc, .string s, .string t]) := H0.out.byM m1 c1
  clear m1 c1 H0
  go_wp2_with fail
  refine (dropM_is D HD.out H1.out.md).mono ?_; rintro e w2 ⟨rfl, m2, c2⟩
  have H2 : Hid (Lo w w2 B0 p l m q g g [.int .i64 kd, .int .i64 x, .int .i64 y, .int .i64 cc, .string s, .string t]) := H1.out.byM m2 c2
  clear m2 c2 H1
  have o0 : w2.cell? ⟨w.heap.size, 0, none⟩ = some (.int .i64 kd) := H2.out.o.cell 0
  have o1 : w2.cell? ⟨w.heap.size, 1, none⟩ = some (.int .i64 x) := H2.out.o.cell 1
  go_wp2_with fail
  go_ret
  exact ⟨rfl, ⟨g, ⟨H2.out.x, H2.out.md⟩, HG.out.1.up⟩, H2.out.chg⟩
theorem loose_any (p m q : Nat) (l : Lk) (g : PS) (n : Int) (B0 : Nat) (kd x y cc : Int) (s t : ByteArray) (w : World) (h : Pr w p l m q g) (ha : Apart B0 p l m q) (hg : Good g n) (hn : n ≤ 4611686018427387904) :
    Calls Tryz.prog 13 #[.pointer (some ⟨p, 0, none⟩), .pointer (some ⟨m, 0, none⟩), opV kd x y cc s t] w fun e w' => e = .returned (.bool true) ∧ (∃ g2, Pr w' p l m q g2 ∧ Good g2 (n + 1)) ∧ Chg (fun k => B0 ≤ k) w w' := by
  by_cases h21 : kd = 21
  · subst h21; exact loose_21 p m q l g n B0 x y cc s t w h ha hg hn
  by_cases h22 : kd = 22
  · subst h22
    by_cases x0 : x < 0
    · exact loose_22n p m q l g n B0 x y cc s t w h ha hg hn x0
    by_cases x8 : 8 ≤ x
    · exact loose_22g p m q l g n B0 x y cc s t w h ha hg hn x8
    exact loose_22i p m q l g n B0 x y cc s t w h ha hg hn (by omega) (by omega)
  by_cases h23 : kd = 23
  · subst h23; exact loose_23 p m q l g n B0 x y cc s t w h ha hg hn
  exact loose_0 p m q l g n B0 kd x y cc s t w h ha hg hn h21 h22 h23
end Go.Proofs.Qxb6500376aGreatDoor

/- The pipeline's small methods. -/
import Derived.Test.Qxb6500376aDoorQuNew
import Derived.Test.Qxb6500376aDoorChWalk
import Derived.BigRegion
namespace Go.Proofs.Qxb6500376aDoor
set_option linter.unusedVariables false
set_option linter.unusedSimpArgs false
open Go.RowKit Go.Qu

theorem fresh_any (w : World) : Calls Tryd.prog 8 #[] w fun e w' =>
    ∃ p l, e = .returned (.pointer (some ⟨p, 0, none⟩)) ∧ CA w' p l cs0 0 0 ∧ w.heap.size ≤ p ∧ w.heap.size ≤ l.q ∧ w.heap.size ≤ l.d ∧ w.heap.size ≤ l.k ∧ w.heap.size ≤ l.dr ∧ w.heap.size ≤ l.k0 ∧ w.heap.size ≤ l.d0 ∧ Chg (fun _ => False) w w' := by
  go_enter Tryd.func8, Tryd.ntmps8
  go_wp2_with (first | (go_at_call 15; go_in) | (go_at_call 27; refine (new_any _).mono ?_; rintro e w1 ⟨rfl, hq, hs, hc⟩))
  refine (chnew_any _ _ _ _ hq).mono ?_
  rintro e w2 ⟨p, l, rfl, hca, hlq, b1, b2, b3, b4, b5, b6, hc2⟩
  go_wp2
  go_ret
  have := hc.size
  exact ⟨p, l, rfl, hca, by omega, by omega, by omega, by omega, by omega, by omega, by omega, hc.trans hc2⟩

theorem next_any (p : Nat) (l : Lk) (s : CS) (c z : Int) (w : World) (h : CA w p l s c z) : Calls Tryd.prog 22 #[.pointer (some ⟨p, 0, none⟩)] w fun e w' =>
    e = .returned (.int .i64 (wrap64 (s.seq + 1))) ∧ CA w' p l { s with seq := wrap64 (s.seq + 1) } c z ∧ Chg (· = p) w w' := by
  have h1 := h.c17
  have h2 := h.frozen 17
  have H : Hid (CA w p l s c z) := h
  clear h
  go_enter Tryd.func22, Tryd.ntmps22
  go_wp2
  go_ret
  refine ⟨rfl, H.out.move H.out.len (Chg.set1 w p 17 _) ?_, Chg.set1 w p 17 _⟩
  rw [← chCells_set_seq l s H.out.len]; exact H.out.obj.setCell 17 _

theorem seq_any (p : Nat) (l : Lk) (s : CS) (c z : Int) (w : World) (h : CA w p l s c z) : Calls Tryd.prog 13 #[.pointer (some ⟨p, 0, none⟩)] w fun e w' =>
    e = .returned (.int .i64 s.seq) ∧ w' = w := by
  have h1 := h.c17
  clear h
  have y1 := x_f64bits
  go_enter Tryd.func13, Tryd.ntmps13
  go_wp2
  go_ret
  exact ⟨rfl, rfl⟩

theorem dropped_any (p : Nat) (l : Lk) (s : CS) (c z : Int) (w : World) (h : CA w p l s c z) : Calls Tryd.prog 31 #[.pointer (some ⟨p, 0, none⟩)] w fun e w' =>
    e = .returned (.int .i64 s.dropped) ∧ w' = w := by
  have h1 := h.c18
  clear h
  have y1 := x_f64bits
  go_enter Tryd.func31, Tryd.ntmps31
  go_wp2
  go_ret
  exact ⟨rfl, rfl⟩

theorem peak_any (p : Nat) (l : Lk) (s : CS) (c z : Int) (w : World) (h : CA w p l s c z) : Calls Tryd.prog 24 #[.pointer (some ⟨p, 0, none⟩)] w fun e w' =>
    e = .returned (.int .i64 (wrap64 s.peak)) ∧ w' = w := by
  have h1 := h.c4
  clear h
  have y1 := x_f64bits
  go_enter Tryd.func24, Tryd.ntmps24
  go_wp2
  go_ret
  exact ⟨rfl, rfl⟩

theorem dip_any (p : Nat) (l : Lk) (s : CS) (c z : Int) (w : World) (h : CA w p l s c z) : Calls Tryd.prog 25 #[.pointer (some ⟨p, 0, none⟩)] w fun e w' =>
    e = .returned (.int .i64 (wrap64 s.dip)) ∧ w' = w := by
  have h1 := h.c5
  clear h
  have y1 := x_f64bits
  go_enter Tryd.func25, Tryd.ntmps25
  go_wp2
  go_ret
  exact ⟨rfl, rfl⟩

theorem sum_any (p : Nat) (l : Lk) (s : CS) (c z : Int) (w : World) (h : CA w p l s c z) (b1 : -2147483648 ≤ s.sum) (b2 : s.sum ≤ 2147483647) : Calls Tryd.prog 12 #[.pointer (some ⟨p, 0, none⟩)] w fun e w' =>
    e = .returned (.int .i64 s.sum) ∧ w' = w := by
  have h1 := h.c3
  clear h
  go_enter Tryd.func12, Tryd.ntmps12
  go_wp2
  go_ret
  exact ⟨rfl, rfl⟩

theorem stamp_any (p : Nat) (l : Lk) (s : CS) (c z : Int) (w : World) (h : CA w p l s c z) : Calls Tryd.prog 11 #[.pointer (some ⟨p, 0, none⟩)] w fun e w' =>
    e = .returned (.tuple #[.int .i64 s.seq, .int .i64 (wrap64 (s.seq + 1))]) ∧ CA w' p l { s with seq := wrap64 (s.seq + 1) } c z ∧ Chg (· = p) w w' := by
  have h1 := h.c17
  have H : Hid (CA w p l s c z) := h
  clear h
  go_enter Tryd.func11, Tryd.ntmps11
  go_wp2_with (go_at_call 22; refine (next_any p l s c z _ H.out).mono ?_; rintro e w1 ⟨rfl, h2, c2⟩)
  go_ret2
  exact ⟨rfl, h2, c2⟩

theorem dither_out (p : Nat) (l : Lk) (s : CS) (c z i : Int) (w : World) (h : CA w p l s c z) (hi : i < 0 ∨ 8 ≤ i) : Calls Tryd.prog 35 #[.pointer (some ⟨p, 0, none⟩), .int .i64 i] w fun e w' =>
    e = .returned (.tuple #[.int .i64 10, .int .i64 0]) ∧ w' = w := by
  have h1 := h.c19
  clear h
  rcases hi with hi | hi
  · go_enter Tryd.func35, Tryd.ntmps35
    go_wp2
    go_ret2
    exact ⟨rfl, rfl⟩
  · have h0 : ¬ i < 0 := by omega
    go_enter Tryd.func35, Tryd.ntmps35
    go_wp2
    go_ret2
    exact ⟨rfl, rfl⟩

theorem ramp_get (i : Nat) (hi : i < 8) : ramp[i]? = some (.int .i32 (6 * i : Nat)) := by
  have : i = 0 ∨ i = 1 ∨ i = 2 ∨ i = 3 ∨ i = 4 ∨ i = 5 ∨ i = 6 ∨ i = 7 := by omega
  rcases this with rfl | rfl | rfl | rfl | rfl | rfl | rfl | rfl <;> rfl

theorem dither_in (p : Nat) (l : Lk) (s : CS) (c z : Int) (i : Nat) (w : World) (h : CA w p l s c z) (hi : i < 8) : Calls Tryd.prog 35 #[.pointer (some ⟨p, 0, none⟩), .int .i64 i] w fun e w' =>
    e = .returned (.tuple #[.int .i64 0, .int .i64 (wrap64 (6 * i + wrap64 (s.seq + 1)))]) ∧ CA w' p l { s with seq := wrap64 (s.seq + 1) } c z ∧ Chg (· = p) w w' := by
  have h1 := h.c19
  have h2 : w.cell? ⟨l.d, i, none⟩ = some (.int .i32 (6 * (i : Int))) := by rw [h.tab.cell i, ramp_get i hi]; simp
  have H : Hid (CA w p l s c z) := h
  have k0 : ¬ (i : Int) < 0 := by omega
  have k1 : ¬ (8 : Int) ≤ i := by omega
  have k2 : (i : Int) < 8 := by omega
  clear h
  go_enter Tryd.func35, Tryd.ntmps35
  go_wp2_with (go_at_call 22; refine (next_any p l s c z _ H.out).mono ?_; rintro e w1 ⟨rfl, h2, c2⟩)
  go_ret2
  exact ⟨rfl, h2, c2⟩

theorem dither_at (i : Nat) (n q : Int) {p : Nat} {l : Lk} {s : CS} {c z : Int} {w : World} (h : CA w p l s c z) (hi : i < 8) (hq : wrap64 (s.seq + 1) = q) (hn : wrap64 (6 * i + q) = n) : Calls Tryd.prog 35 #[.pointer (some ⟨p, 0, none⟩), .int .i64 i] w fun e w' =>
    e = .returned (.tuple #[.int .i64 0, .int .i64 n]) ∧ CA w' p l { s with seq := q } c z ∧ Chg (· = p) w w' := by
  have := dither_in p l s c z i w h hi
  rw [hq, hn] at this
  exact this
end Go.Proofs.Qxb6500376aDoor

/- api.Itoa computes Lib.itoa. -/
import Derived.Test.Qxb6500376aDoorKqBase
import Derived.Deep.LoopGhost
import Derived.Laws.IdiomStrings
import Derived.Lib.ItoaNum
import Derived.Lib.ItoaLen
namespace Go.Proofs.Qxb6500376aDoor
set_option linter.unusedVariables false
set_option linter.unusedSimpArgs false
set_option maxHeartbeats 4000000
set_option maxRecDepth 100000
open Go.RowKit Go.Qu Ieee

/-- the buffer's cells hold l at their end -/
structure Buf (w : World) (B : Nat) (l : List UInt8) : Prop where
  has : ∃ vs : List Value, vs.length = 24 ∧ Has 99 w B vs ∧ (∀ j (hj : j < l.length), vs[24 - l.length + j]? = some (.int .u8 (l[j].toNat : Int))) ∧ (∀ j, j < 24 → ∃ x : Int, vs[j]? = some (.int .u8 x))
  len : l.length ≤ 24
theorem Buf.cell {w : World} {B : Nat} {l : List UInt8} (h : Buf w B l) (j : Nat) (hj : j < 24) : ∃ x : Int, w.cell? ⟨B, j, none⟩ = some (.int .u8 x) := by
  obtain ⟨vs, h1, h2, h3, h4⟩ := h.has
  obtain ⟨x, hx⟩ := h4 j hj
  exact ⟨x, (h2.cell j).trans hx⟩
theorem Buf.frozen {w : World} {B : Nat} {l : List UInt8} (h : Buf w B l) (j : Nat) : w.frozen? ⟨B, j, none⟩ = false := by
  obtain ⟨vs, h1, h2, h3, h4⟩ := h.has
  exact h2.frozen j
theorem Buf.read {w : World} {B : Nat} {l : List UInt8} (h : Buf w B l) (j : Nat) (hj : j < l.length) : w.cell? ⟨B, 24 - l.length + j, none⟩ = some (.int .u8 (l[j].toNat : Int)) := by
  obtain ⟨vs, h1, h2, h3, h4⟩ := h.has
  exact (h2.cell _).trans (h3 j hj)
theorem Buf.put {w : World} {B : Nat} {l : List UInt8} (h : Buf w B l) (hl : l.length < 24) (d : UInt8) : Buf (w.setCell ⟨B, 24 - l.length - 1, none⟩ (.int .u8 (d.toNat : Int))) B (d :: l) := by
  obtain ⟨vs, h1, h2, h3, h4⟩ := h.has
  refine ⟨⟨vs.set (24 - l.length - 1) (.int .u8 (d.toNat : Int)), by simpa using h1, h2.setCell _ _, ?_, ?_⟩, by simp; omega⟩
  · intro j hj
    simp only [List.length_cons] at hj ⊢
    match j, hj with
    | 0, _ => rw [show 24 - (l.length + 1) + 0 = 24 - l.length - 1 by omega, List.getElem?_set_self (by omega)]; rfl
    | j + 1, hj =>
      rw [show 24 - (l.length + 1) + (j + 1) = 24 - l.length + j by omega, List.getElem?_set_ne (by omega)]
      exact h3 j (by omega)
  · intro j hj
    by_cases e : 24 - l.length - 1 = j
    · subst e; exact ⟨_, List.getElem?_set_self (by omega)⟩
    · obtain ⟨x, hx⟩ := h4 j hj
      exact ⟨x, by rw [List.getElem?_set_ne e]; exact hx⟩
theorem Buf.new (w : World) : Buf (w.alloc (.cells (Array.replicate 24 (.int .u8 0)) 99)) w.heap.size [] := by
  refine ⟨⟨List.replicate 24 (.int .u8 0), by simp, Has.new _ _ _, fun j hj => by simp at hj, fun j hj => ⟨0, by rw [List.getElem?_replicate, if_pos hj]⟩⟩, by simp⟩

theorem slice_buf (B : Nat) (v : Int) (h0 : 0 ≤ v) (h1 : v < 24) (w : World) : (Instr.sliceAt 99 (.pointer (some ⟨B, 0, none⟩)) (some (.int .i64 v)) none none).run Tryd.prog w = .ok (.slice (some ⟨B, v.toNat, none⟩) (24 - v.toNat) (24 - v.toNat)) w := by
  obtain ⟨k, rfl⟩ : ∃ k : Nat, v = k := ⟨v.toNat, by omega⟩
  simp [go_sem, Instr.sliceAt]
  rw [if_pos (by omega), if_neg (by omega)]
theorem Buf.text {w : World} {B : Nat} {l : List UInt8} (h : Buf w B l) {k : Nat} (hk : k + l.length = 24) : (convert 100 9 (.slice (some ⟨B, k, none⟩) (24 - k) (24 - k))).run Tryd.prog w = .ok (.string ⟨l.toArray⟩) w := by
  rw [show 24 - k = l.length by omega]
  refine run_convert_bytes_back w _ _ 5 _ _ l Tryd.underlying100 Tryd.underlying5 Tryd.underlying9 ?_
  intro j hj
  rw [Go.WideShapes.add_plain, show k + j = 24 - l.length + j by omega]
  exact h.read j hj

theorem itoa_zero (w : World) : Calls Tryd.prog 57 #[.int .i64 0] w fun e w' => e = .returned (.string ⟨(Lib.itoa 0).toArray⟩) ∧ Chg (fun _ => False) w w' := by
  go_enter Tryd.func57, Tryd.ntmps57
  go_wp2
  go_ret
  have e : Lib.itoa 0 = [48] := by decide +kernel
  rw [e]
  exact ⟨rfl, Chg.refl _ _⟩

theorem dec_step {u : Nat} {l : List UInt8} {D : List UInt8} (h0 : u ≠ 0) (h : D = Lib.decDigits u ++ l) : (u / 10 = 0 ∧ D = UInt8.ofNat (48 + u % 10) :: l) ∨ (u / 10 ≠ 0 ∧ D = Lib.decDigits (u / 10) ++ (UInt8.ofNat (48 + u % 10) :: l)) := by
  by_cases hu : u < 10
  · left
    refine ⟨by omega, ?_⟩
    rw [h, Lib.decDigits_one hu, show u % 10 = u by omega]; rfl
  · right
    refine ⟨by omega, ?_⟩
    rw [h, Lib.decDigits, dif_neg hu, List.append_assoc]; rfl

theorem dig_nat {k : Nat} (h : k < 10) : ((UInt8.ofNat (48 + k)).toNat : Int) = 48 + k := by
  rw [UInt8.toNat_ofNat_of_lt' (by show 48 + k < 2 ^ 8; omega)]; omega

theorem itoam_any (n : Int) (hn : I64 n) (w : World) : Calls Tryd.prog 57 #[.int .i64 n] w fun e w' => e = .returned (.string ⟨(Lib.itoa n).toArray⟩) ∧ Chg (fun _ => False) w w' := by
  by_cases h0 : n = 0
  · subst h0; exact itoa_zero w
  unfold I64 at hn
  have hL := Lib.itoa_length_le n hn.1 hn.2
  obtain ⟨N, hN⟩ : ∃ N : Nat, n.natAbs = N := ⟨_, rfl⟩
  obtain ⟨D, hD⟩ : ∃ D, Lib.decDigits N = D := ⟨_, rfl⟩
  have eI : Lib.itoa n = if n < 0 then 45 :: D else D := by
    unfold Lib.itoa
    rw [← hD, ← hN]
    by_cases h : n < 0
    · rw [if_pos h, if_pos h]
    · rw [if_neg h, if_neg h, show n.toNat = n.natAbs by omega]
  have hDl : D.length ≤ 21 := by
    rw [eI] at hL
    by_cases h : n < 0
    · rw [if_pos h] at hL; simp only [List.length_cons] at hL; omega
    · rw [if_neg h] at hL; exact hL
  obtain ⟨S, hS⟩ : ∃ S, Lib.itoa n = S := ⟨_, rfl⟩
  rw [hS] at eI hL ⊢
  have HH : Hid (S = (if n < 0 then 45 :: D else D) ∧ S.length ≤ 21 ∧ D.length ≤ 21 ∧ Lib.decDigits N = D ∧ n.natAbs = N) := ⟨eI, hL, hDl, hD, hN⟩
  have k0 : ¬ n = 0 := h0
  obtain ⟨n1, n2⟩ := hn
  clear eI hL hDl hD hN hS h0
  by_cases hneg : n < 0
  · have dneg : decide (n < 0) = true := decide_eq_true hneg
    go_enter Tryd.func57, Tryd.ntmps57
    go_wp2_with fail
    go_loopg [0, 4, 6] N (fun gk x i d wr => ∃ (u : Nat) (l : List UInt8) (nv iv : Int), gk = u ∧ x = .int .i64 nv ∧ i = .int .i64 iv ∧ nv = -(u : Int) ∧ u ≤ 9223372036854775808 ∧ iv = 24 - (l.length : Int) ∧ Buf wr w.heap.size l ∧ Chg (fun _ => False) w wr ∧ ((u ≠ 0 ∧ D = Lib.decDigits u ++ l) ∨ (u = 0 ∧ D = l)))
    case atStart => exact ⟨N, [], n, 24, rfl, rfl, rfl, by have := HH.out.2.2.2.2; omega, by have := HH.out.2.2.2.2; omega, by simp, by exact Buf.new w, (Chg.refl _ w).alloc _, .inl ⟨by have := HH.out.2.2.2.2; omega, by rw [HH.out.2.2.2.1]; simp⟩⟩
    case round =>
      obtain ⟨u, l, nv, iv, rfl, rfl, rfl, hnv, hu, hiv, hbuf, hchg, hcase⟩ := hrel
      have hh := HH.out
      rcases hcase with ⟨hu0, hD⟩ | ⟨hu0, hD⟩
      · have hlen : l.length < 21 := by
          have h1 : D.length = (Lib.decDigits gk).length + l.length := by rw [hD]; simp
          have h2 : 0 < (Lib.decDigits gk).length := by
            rw [Lib.decDigits]; split <;> simp
          omega
        obtain ⟨dd, hdd⟩ : ∃ dd : Int, nv.tmod 10 = dd := ⟨_, rfl⟩
        obtain ⟨qq, hqq⟩ : ∃ qq : Int, nv.tdiv 10 = qq := ⟨_, rfl⟩
        have hdv : dd = -((gk % 10 : Nat) : Int) := by rw [← hdd, hnv]; rw [Int.neg_tmod]; rfl
        have hqv : qq = -((gk / 10 : Nat) : Int) := by rw [← hqq, hnv]; rw [Int.neg_tdiv]; rfl
        have q1 : -9 ≤ dd := by omega
        have q2 : dd ≤ 0 := by omega
        have q3 : 4 ≤ iv := by omega
        have q4 : iv ≤ 24 := by omega
        have q5 : ¬ nv = 0 := by omega
        have q6 : -922337203685477581 ≤ qq := by omega
        have q7 : qq ≤ 922337203685477581 := by omega
        obtain ⟨x0, c0⟩ := hbuf.cell (iv.toNat - 1) (by omega)
        have f0 := hbuf.frozen (iv.toNat - 1)
        have HU : Hid (nv = -(gk : Int) ∧ gk ≠ 0 ∧ gk ≤ 9223372036854775808 ∧ iv = 24 - (l.length : Int) ∧ l.length < 21 ∧ D = Lib.decDigits gk ++ l ∧ dd = -((gk % 10 : Nat) : Int) ∧ qq = -((gk / 10 : Nat) : Int)) := ⟨hnv, hu0, hu, hiv, hlen, hD, hdv, hqv⟩
        have HB : Hid (Buf wr w.heap.size l) := hbuf
        have HC : Hid (Chg (fun _ => False) w wr) := hchg
        clear hnv hu hiv hbuf hchg hD hlen hh hdv hqv hu0
        go_wp2_with fail
        all_goals (have hU := HU.out)
        all_goals (obtain ⟨u1, u2, u3, u4, u5, u6, u7, u8⟩ := hU)
        all_goals go_roundg (gk / 10)
        all_goals first
          | (case measure => omega)
          | skip
        all_goals (
          refine ⟨gk / 10, UInt8.ofNat (48 + gk % 10) :: l, qq, iv - 1, rfl, rfl, rfl, u8, by omega, by simp only [List.length_cons]; omega, ?_, HC.out.setCell (Or.inr (Nat.le_refl _)) _, ?_⟩
          · have b1 := HB.out.put (by omega) (UInt8.ofNat (48 + gk % 10)); rw [dig_nat (Nat.mod_lt _ (by omega))] at b1
            rw [show iv.toNat - 1 = 24 - l.length - 1 by omega]
            first
              | (rw [show (48 : Int) + -dd = 48 + ((gk % 10 : Nat) : Int) by omega]; exact b1)
              | (rw [show (48 : Int) + dd = 48 + ((gk % 10 : Nat) : Int) by omega]; exact b1)
              | (have e0 : dd = 0 := by omega
                 have e1 : gk % 10 = 0 := by omega
                 rw [e1] at b1 ⊢
                 simpa [e0] using b1)
          · rcases dec_step u2 u6 with ⟨g1, g2⟩ | ⟨g1, g2⟩
            · exact .inr ⟨g1, g2⟩
            · exact .inl ⟨g1, g2⟩)
      · have hlen : l.length ≤ 20 := by
          have h1 := hh.1
          have h2 := hh.2.1
          rw [if_pos hneg, hD] at h1
          rw [h1] at h2
          simp only [List.length_cons] at h2; omega
        have q0 : nv = 0 := by omega
        subst q0
        have q3 : 3 ≤ iv := by omega
        have q4 : iv ≤ 24 := by omega
        obtain ⟨x0, c0⟩ := hbuf.cell (iv.toNat - 1) (by omega)
        have f0 := hbuf.frozen (iv.toNat - 1)
        have hne : 0 < l.length := by
          have h1 : 0 < D.length := by
            rw [← hh.2.2.2.1, Lib.decDigits]; split <;> simp
          rw [hD] at h1; exact h1
        have HU : Hid (iv = 24 - (l.length : Int) ∧ D = l ∧ l.length ≤ 21) := ⟨hiv, hD, by omega⟩
        have HB : Hid (Buf wr w.heap.size l) := hbuf
        have HC : Hid (Chg (fun _ => False) w wr) := hchg
        have b1 := hbuf.put (by omega) 45
        rw [show 24 - l.length - 1 = iv.toNat - 1 by omega, show ((45 : UInt8).toNat : Int) = 45 from rfl] at b1
        have y1 := slice_buf w.heap.size (iv - 1) (by omega) (by omega)
        have y2 := b1.text (k := (iv - 1).toNat) (by simp only [List.length_cons]; omega)
        have ey : (iv - 1).toNat = iv.toNat - 1 := by omega
        rw [ey] at y1 y2
        have hS : 45 :: l = S := by have := hh.1; rw [if_pos hneg, hD] at this; exact this.symm
        rw [hS] at y2
        have C1 : Hid (Chg (fun _ => False) w (wr.setCell ⟨w.heap.size, iv.toNat - 1, none⟩ (.int .u8 45))) := hchg.setCell (Or.inr (Nat.le_refl _)) _
        clear hnv hu hiv hbuf hchg hD hlen hh hu0 b1 hS hne ey HU HB HC
        go_wp2_with fail
        go_ret
        exact ⟨rfl, C1.out⟩
  · have dneg : decide (n < 0) = false := decide_eq_false hneg
    go_enter Tryd.func57, Tryd.ntmps57
    go_wp2_with fail
    go_loopg [0, 4, 6] N (fun gk x i d wr => ∃ (u : Nat) (l : List UInt8) (nv iv : Int), gk = u ∧ x = .int .i64 nv ∧ i = .int .i64 iv ∧ nv = (u : Int) ∧ u ≤ 9223372036854775808 ∧ iv = 24 - (l.length : Int) ∧ Buf wr w.heap.size l ∧ Chg (fun _ => False) w wr ∧ ((u ≠ 0 ∧ D = Lib.decDigits u ++ l) ∨ (u = 0 ∧ D = l)))
    case atStart => exact ⟨N, [], n, 24, rfl, rfl, rfl, by have := HH.out.2.2.2.2; omega, by have := HH.out.2.2.2.2; omega, by simp, by exact Buf.new w, (Chg.refl _ w).alloc _, .inl ⟨by have := HH.out.2.2.2.2; omega, by rw [HH.out.2.2.2.1]; simp⟩⟩
    case round =>
      obtain ⟨u, l, nv, iv, rfl, rfl, rfl, hnv, hu, hiv, hbuf, hchg, hcase⟩ := hrel
      have hh := HH.out
      rcases hcase with ⟨hu0, hD⟩ | ⟨hu0, hD⟩
      · have hlen : l.length < 21 := by
          have h1 : D.length = (Lib.decDigits gk).length + l.length := by rw [hD]; simp
          have h2 : 0 < (Lib.decDigits gk).length := by
            rw [Lib.decDigits]; split <;> simp
          omega
        obtain ⟨dd, hdd⟩ : ∃ dd : Int, nv.tmod 10 = dd := ⟨_, rfl⟩
        obtain ⟨qq, hqq⟩ : ∃ qq : Int, nv.tdiv 10 = qq := ⟨_, rfl⟩
        have hdv : dd = ((gk % 10 : Nat) : Int) := by rw [← hdd, hnv]; rfl
        have hqv : qq = ((gk / 10 : Nat) : Int) := by rw [← hqq, hnv]; rfl
        have q1 : 0 ≤ dd := by omega
        have q2 : dd ≤ 9 := by omega
        have q3 : 4 ≤ iv := by omega
        have q4 : iv ≤ 24 := by omega
        have q5 : ¬ nv = 0 := by omega
        have q6 : -922337203685477581 ≤ qq := by omega
        have q7 : qq ≤ 922337203685477581 := by omega
        obtain ⟨x0, c0⟩ := hbuf.cell (iv.toNat - 1) (by omega)
        have f0 := hbuf.frozen (iv.toNat - 1)
        have HU : Hid (nv = (gk : Int) ∧ gk ≠ 0 ∧ gk ≤ 9223372036854775808 ∧ iv = 24 - (l.length : Int) ∧ l.length < 21 ∧ D = Lib.decDigits gk ++ l ∧ dd = ((gk % 10 : Nat) : Int) ∧ qq = ((gk / 10 : Nat) : Int)) := ⟨hnv, hu0, hu, hiv, hlen, hD, hdv, hqv⟩
        have HB : Hid (Buf wr w.heap.size l) := hbuf
        have HC : Hid (Chg (fun _ => False) w wr) := hchg
        clear hnv hu hiv hbuf hchg hD hlen hh hdv hqv hu0
        go_wp2_with fail
        all_goals (have hU := HU.out)
        all_goals (obtain ⟨u1, u2, u3, u4, u5, u6, u7, u8⟩ := hU)
        all_goals go_roundg (gk / 10)
        all_goals first
          | (case measure => omega)
          | skip
        all_goals (
          refine ⟨gk / 10, UInt8.ofNat (48 + gk % 10) :: l, qq, iv - 1, rfl, rfl, rfl, u8, by omega, by simp only [List.length_cons]; omega, ?_, HC.out.setCell (Or.inr (Nat.le_refl _)) _, ?_⟩
          · have b1 := HB.out.put (by omega) (UInt8.ofNat (48 + gk % 10)); rw [dig_nat (Nat.mod_lt _ (by omega))] at b1
            rw [show iv.toNat - 1 = 24 - l.length - 1 by omega]
            first
              | (rw [show (48 : Int) + -dd = 48 + ((gk % 10 : Nat) : Int) by omega]; exact b1)
              | (rw [show (48 : Int) + dd = 48 + ((gk % 10 : Nat) : Int) by omega]; exact b1)
              | (have e0 : dd = 0 := by omega
                 have e1 : gk % 10 = 0 := by omega
                 rw [e1] at b1 ⊢
                 simpa [e0] using b1)
          · rcases dec_step u2 u6 with ⟨g1, g2⟩ | ⟨g1, g2⟩
            · exact .inr ⟨g1, g2⟩
            · exact .inl ⟨g1, g2⟩)
      · have hlen : l.length ≤ 21 := by
          have h1 := hh.1
          have h2 := hh.2.1
          rw [if_neg (by omega), hD] at h1
          rw [h1] at h2
          exact h2
        have q0 : nv = 0 := by omega
        subst q0
        have q3 : 3 ≤ iv := by omega
        have q4 : iv ≤ 24 := by omega
        obtain ⟨x0, c0⟩ := hbuf.cell (iv.toNat - 1) (by omega)
        have f0 := hbuf.frozen (iv.toNat - 1)
        have hne : 0 < l.length := by
          have h1 : 0 < D.length := by
            rw [← hh.2.2.2.1, Lib.decDigits]; split <;> simp
          rw [hD] at h1; exact h1
        have HU : Hid (iv = 24 - (l.length : Int) ∧ D = l ∧ l.length ≤ 21) := ⟨hiv, hD, by omega⟩
        have HB : Hid (Buf wr w.heap.size l) := hbuf
        have HC : Hid (Chg (fun _ => False) w wr) := hchg
        have y1 := slice_buf w.heap.size iv (by omega) (by omega)
        have y2 := hbuf.text (k := iv.toNat) (by omega)
        have hS : l = S := by have := hh.1; rw [if_neg (by omega), hD] at this; exact this.symm
        rw [hS] at y2
        clear hnv hu hiv hbuf hchg hD hlen hh hu0 hS hne HU HB
        go_wp2_with fail
        go_ret
        exact ⟨rfl, HC.out⟩
end Go.Proofs.Qxb6500376aDoor

/- The pipeline's model: Feed, Energy, Rms, Check. -/
import Derived.Test.Qxb6500376aGreatDoorCmFeed
import Derived.Deep.LoopGhost
import Derived.BigQuiet
namespace Go.Qu
set_option linter.unusedVariables false
set_option linter.unusedSimpArgs false
def sHi : List Int → Int
  | [] => 0
  | r :: l => r * r / 4294967296 + sHi l
def sLo : List Int → Int
  | [] => 0
  | r :: l => r * r % 4294967296 + sLo l
theorem sHiLo : ∀ l : List Int, sumSq l = sHi l * 4294967296 + sLo l
  | [] => rfl
  | r :: l => by have := sHiLo l; simp only [sumSq, sHi, sLo]; omega
theorem sHi_append : ∀ (l m : List Int), sHi (l ++ m) = sHi l + sHi m
  | [], m => by simp [sHi]
  | r :: l, m => by have := sHi_append l m; simp only [List.cons_append, sHi]; omega
theorem sLo_append : ∀ (l m : List Int), sLo (l ++ m) = sLo l + sLo m
  | [], m => by simp [sLo]
  | r :: l, m => by have := sLo_append l m; simp only [List.cons_append, sLo]; omega
theorem take_next {l : List Int} {k : Nat} (h : k < l.length) : l.take (k + 1) = l.take k ++ [l.getD k 0] := by
  rw [List.take_add_one, List.getElem?_eq_getElem h, List.getD_eq_getElem?_getD, List.getElem?_eq_getElem h]; rfl
theorem sLo_bound : ∀ l : List Int, 0 ≤ sLo l ∧ sLo l ≤ l.length * 4294967295
  | [] => by simp [sLo]
  | r :: l => by have := sLo_bound l; simp only [sLo, List.length_cons]; omega
theorem sHi_bound : ∀ l : List Int, (∀ r ∈ l, -2147483648 ≤ r ∧ r ≤ 2147483647) → 0 ≤ sHi l ∧ sHi l ≤ l.length * 1073741824
  | [], _ => by simp [sHi]
  | r :: l, h => by
    have := sHi_bound l (fun x hx => h x (by simp [hx]))
    have h2 := h r (by simp)
    have h3 := sq_bound h2.1 h2.2
    simp only [sHi, List.length_cons]; omega
end Go.Qu
namespace Go.Proofs.Qxb6500376aGreatDoor
set_option linter.unusedVariables false
set_option linter.unusedSimpArgs false
set_option maxHeartbeats 4000000
set_option maxRecDepth 100000
open Go.RowKit Go.Qu Ieee

theorem FeedM (p q : Nat) (g : PS) (n b : Int) (w : World) (hg : Good g n) (hn : n ≤ 4611686018427387904) (hb : I64 b) (h : Md w p q g) :
    Calls Tryz.prog 35 #[.pointer (some ⟨p, 0, none⟩), .int .i64 b] w fun e w' => e = .returned (.tuple #[.int .i64 (fedP g b (6 * g.at_)).1.e, .int .i64 (fedP g b (6 * g.at_)).1.n, .int .i64 (fedP g b (6 * g.at_)).1.k]) ∧ Md w' p q (fedP g b (6 * g.at_)).2 ∧ Chg (fun k => k = p ∨ k = q) w w' := by
  have f1 := h.cell 14 (md_get q g h.len).2.2.2.2.2.2.1
  have a0 := hg.a0
  have a8 := hg.a8
  have R := FeedWithM p q g n b (g.at_ * 6) w hg hn hb ⟨by omega, by omega⟩ h (6 * g.at_) (fun v v1 v2 => by rw [show wrap64 (v + g.at_ * 6) = v + 6 * g.at_ by rw [wrap64]; omega])
  have HR : Hid (Calls _ _ _ _ _) := R
  obtain ⟨A, hA⟩ : ∃ A, fedP g b (6 * g.at_) = A := ⟨_, rfl⟩
  rw [hA] at HR ⊢
  clear R hg hn hb h hA
  go_enter Tryz.func35, Tryz.ntmps35
  go_wp2_with fail
  refine Calls.mono HR.out ?_; rintro e w1 ⟨rfl, h1, c1⟩
  have H1 : Hid (Md w1 p q A.2 ∧ Chg (fun k => k = p ∨ k = q) w w1) := ⟨h1, c1⟩
  clear h1 c1
  go_wp2
  go_ret3
  exact ⟨rfl, H1.out.1, H1.out.2⟩
theorem CheckM (p q : Nat) (g : PS) (n : Int) (w : World) (hg : Good g n) (h : Md w p q g) :
    Calls Tryz.prog 49 #[.pointer (some ⟨p, 0, none⟩)] w fun e w' => e = .returned (.bool true) ∧ Md w' p q g ∧ Chg (fun k => k = p ∨ k = q) w w' := by
  have H : Hid (Md w p q g) := h
  have f1 := h.cell 1 (md_get q g h.len).2.1
  have f2 := h.cell 2 (md_get q g h.len).2.2.1
  have f3 := h.cell 14 (md_get q g h.len).2.2.2.2.2.2.1
  have d1 := hg.d1
  have d2 := hg.d2
  have m0 := hg.m0
  have m3 := hg.m3
  have a0 := hg.a0
  have a8 := hg.a8
  clear h hg
  go_enter Tryz.func49, Tryz.ntmps49
  go_wp2
  go_ret
  exact ⟨by simp, H.out, Chg.refl _ _⟩
theorem EnergyM (p q : Nat) (g : PS) (n : Int) (w : World) (hg : Good g n) (h : Md w p q g) :
    Calls Tryz.prog 40 #[.pointer (some ⟨p, 0, none⟩)] w fun e w' => e = .returned (.tuple #[.int .i64 (sumSq g.ring / 4294967296), .int .i64 (sumSq g.ring % 4294967296)]) ∧ Md w' p q g ∧ Chg (fun k => k = p ∨ k = q) w w' := by
  have H : Hid (Md w p q g) := h
  have HG : Hid (Good g n) := hg
  clear h hg
  go_enter Tryz.func40, Tryz.ntmps40
  go_wp2_with fail
  go_loopg [4, 5, 6] 8 (fun gk hi lo i wr => ∃ (k : Nat) (A B : Int), k ≤ 8 ∧ gk = 8 - k ∧ i = .int .i64 k ∧ hi = .int .i64 A ∧ lo = .int .i64 B ∧ A = sHi (g.ring.take k) ∧ B = sLo (g.ring.take k) ∧ Md wr p q g ∧ Chg (fun k => k = p ∨ k = q) w wr)
  case atStart => exact ⟨0, 0, 0, by omega, by omega, rfl, rfl, rfl, by simp [sHi], by simp [sLo], H.out, Chg.refl _ _⟩
  case round =>
    obtain ⟨k, A, B, hk, rfl, rfl, rfl, rfl, hA, hB, hm, hc⟩ := hrel
    have HM : Hid (Md wr p q g ∧ Chg (fun k => k = p ∨ k = q) w wr) := ⟨hm, hc⟩
    clear hm hc
    have hlen := HG.out.len
    have lt := List.length_take_le k g.ring
    have bA := sHi_bound (g.ring.take k) (fun r hr => HG.out.rg r (List.mem_of_mem_take hr))
    have bB := sLo_bound (g.ring.take k)
    rw [← hA] at bA
    rw [← hB] at bB
    have A0 : 0 ≤ A := bA.1
    have A1 : A ≤ 8589934592 := by have := bA.2; omega
    have B0 : 0 ≤ B := bB.1
    have B1 : B ≤ 34359738360 := by have := bB.2; omega
    by_cases h8 : k < 8
    · have f1 := HM.out.1.ring k h8
      have hr := HG.out.rg (g.ring.getD k 0) (by rw [List.getD_eq_getElem?_getD, List.getElem?_eq_getElem (by omega)]; simp)
      have hs := sq_bound hr.1 hr.2
      have nx := take_next (l := g.ring) (k := k) (by omega)
      have nA : sHi (g.ring.take (k + 1)) = A + g.ring.getD k 0 * g.ring.getD k 0 / 4294967296 := by rw [nx, sHi_append, ← hA]; simp [sHi]
      have nB : sLo (g.ring.take (k + 1)) = B + g.ring.getD k 0 * g.ring.getD k 0 % 4294967296 := by rw [nx, sLo_append, ← hB]; simp [sLo]
      obtain ⟨r, hrr⟩ : ∃ r, g.ring.getD k 0 = r := ⟨_, rfl⟩
      rw [hrr] at f1 hs nA nB
      have X0 := hs.1
      have X1 := hs.2
      have m1 : wrap64 (r * r) = r * r := by rw [wrap64]; omega
      have m2 : bits .and .i64 (r * r) 4294967295 = r * r % 4294967296 := and32 _
      have HN : Hid (sHi (g.ring.take (k + 1)) = A + r * r / 4294967296 ∧ sLo (g.ring.take (k + 1)) = B + r * r % 4294967296 ∧ k < 8) := ⟨nA, nB, h8⟩
      have k8 : (k : Int) < 8 := by omega
      clear hA hB hlen lt bA bB hr hs nx nA nB hrr hk h8
      go_wp2
      go_quiet (fail)
      go_wp2
      have hn := HN.out
      go_roundg (8 - (k + 1))
      case measure => omega
      case rel => exact ⟨k + 1, _, _, by omega, rfl, by simp, rfl, rfl, hn.1.symm, hn.2.1.symm, HM.out.1.drewN _, HM.out.2.drewN _⟩
    · have hk8 : k = 8 := by omega
      subst hk8
      have hAB : sumSq g.ring = A * 4294967296 + B := by rw [hA, hB, List.take_of_length_le (by omega)]; exact sHiLo _
      have m2 : bits .and .i64 B 4294967295 = B % 4294967296 := and32 _
      have HN : Hid (sumSq g.ring = A * 4294967296 + B) := hAB
      clear hA hB hlen lt bA bB hk h8 hAB
      go_wp2
      go_ret2
      refine ⟨?_, HM.out.1, HM.out.2⟩
      rw [HN.out, show (A * 4294967296 + B) / 4294967296 = A + B / 4294967296 by omega, show (A * 4294967296 + B) % 4294967296 = B % 4294967296 by omega]
      rfl
end Go.Proofs.Qxb6500376aGreatDoor

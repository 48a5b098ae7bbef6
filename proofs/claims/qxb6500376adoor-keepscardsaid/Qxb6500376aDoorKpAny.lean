/- Keeps: kept, all kinds. -/
import Derived.Test.Qxb6500376aDoorKpFedAny
import Derived.Test.Qxb6500376aDoorKpKept
import Derived.Test.Qxb6500376aDoorKpKeptB
import Derived.Test.Qxb6500376aDoorKpKeptC
import Derived.Test.Qxb6500376aDoorKpKeptD
namespace Go.Proofs.Qxb6500376aDoor
set_option linter.unusedVariables false
set_option linter.unusedSimpArgs false
set_option maxHeartbeats 4000000
open Go.RowKit Go.Qu Ieee

theorem fedP_num (g : PS) (a d : Int) (hx : ¬ 9218868437227405312 < mg a) : (fedP g a d).1.e = 0 ∧ (fedP g a d).1.n = (roundI a g.mode (-2147483648) 2147483647).1 ∧ (fedP g a d).2.c = g.c + (roundI a g.mode (-2147483648) 2147483647).2.toNat ∧ (fedP g a d).2.z = g.z := by
  unfold fedP
  rw [if_neg hx]
  split <;> exact ⟨rfl, rfl, rfl, rfl⟩
theorem stepP_same (g : PS) (kd a b : Int) (h1 : kd ≠ 1) (h2 : kd ≠ 2) (h9 : kd ≠ 9) (h10 : kd ≠ 10) (h11 : kd ≠ 11) (h16 : kd ≠ 16) : (stepP g kd a b).2 = g := by
  unfold stepP
  rw [if_neg h1, if_neg h2, if_neg h16]
  (repeat' split) <;> first | rfl | contradiction
theorem feed_any (kd d m : Int) (p zl gp : Nat) (l : Lk) (g : PS) (n : Int) (a b cc : Int) (s t : ByteArray) (w : World) (hg : Good g n) (hn : n ≤ 4611686018427387904) (hg' : Good (fedP g a d).2 (n + 1)) (ha : I64 a) (hb : I64 b) (hx : Ap w p l (fedP g a d).2) (hc : Cv w zl g.c g.z) (hh : Gh w gp g) (hzg : zl ≠ gp) (m1 : 0 ≤ m) (m2 : m ≤ 4294967295) (hd : ∀ v : Int, wrap32 (v + m) = wrap32 (v + d)) (hk : kd = 2 ∧ m = g.at_ * 6 ∨ kd = 16 ∧ m = b % 4294967296) :
    Calls Tryd.prog 19 #[.pointer (some ⟨p, 0, none⟩), .pointer (some ⟨zl, 0, none⟩), .pointer (some ⟨gp, 0, none⟩), opV kd a b cc s t, ansV (fedP g a d).1.e (fedP g a d).1.n (fedP g a d).1.k ⟨#[]⟩, befV g] w fun e w' => e = .returned (.bool true) ∧ Cv w' zl (fedP g a d).2.c (fedP g a d).2.z ∧ Gh w' gp (fedP g a d).2 ∧ Chg (fun k => k = zl ∨ k = gp) w w' := by
  by_cases hnan : 9218868437227405312 < mg a
  · have e0 : fedP g a d = (⟨4, 0, 0⟩, { g with z := g.z + 1 }) := by unfold fedP; rw [if_pos hnan]
    rw [e0] at hx hg' ⊢
    rcases hk with ⟨rfl, _⟩ | ⟨rfl, _⟩
    · exact kp_2n p zl gp l g n a b cc s t w hg hn hg' ha hb hx hc hh hzg (by omega)
    · exact kp_16n p zl gp l g n a b cc s t w hg hn hg' ha hb hx hc hh hzg (by omega)
  · obtain ⟨f1, f2, f3, f4⟩ := fedP_num g a d hnan
    have er : r32O a g.mode = ⟨0, (fedP g a d).1.n, 0, ((roundI a g.mode (-2147483648) 2147483647).2.toNat : Int), 0⟩ := by
      have := hg.m0; have := hg.m3
      unfold r32O
      rw [if_neg (by omega), if_neg hnan, f2]
    have hf := fun w' (h : Gh w' gp g) => fed_any gp g n a d m w' hg hn hnan m1 m2 hd h
    rw [f1]
    rcases hk with ⟨rfl, rfl⟩ | ⟨rfl, rfl⟩
    · exact kp_2f p zl gp l g (fedP g a d).2 n _ _ _ a b cc s t w hg hn hg' ha hb hx hc hh hzg (by omega) er f3 f4 hf
    · exact kp_16f p zl gp l g (fedP g a d).2 n _ _ _ a b cc s t w hg hn hg' ha hb hx hc hh hzg (by omega) er f3 f4 hf

theorem kept_any (p zl gp : Nat) (l : Lk) (g : PS) (n : Int) (kd a b cc : Int) (s t : ByteArray) (w : World) (hg : Good g n) (hn : n ≤ 4611686018427387904) (ha : I64 a) (hb : I64 b) (hx : Ap w p l (stepP g kd a b).2) (hc : Cv w zl g.c g.z) (hh : Gh w gp g) (hzg : zl ≠ gp) :
    Calls Tryd.prog 19 #[.pointer (some ⟨p, 0, none⟩), .pointer (some ⟨zl, 0, none⟩), .pointer (some ⟨gp, 0, none⟩), opV kd a b cc s t, ansV (stepP g kd a b).1.e (stepP g kd a b).1.n (stepP g kd a b).1.k (textS g kd), befV g] w fun e w' => e = .returned (.bool true) ∧ Cv w' zl (stepP g kd a b).2.c (stepP g kd a b).2.z ∧ Gh w' gp (stepP g kd a b).2 ∧ Chg (fun k => k = zl ∨ k = gp) w w' := by
  have G := stepP_good hg kd ha b
  by_cases h1 : kd = 1
  · subst h1
    have e0 : stepP g 1 a b = tuneP g a b := rfl
    rw [e0] at hx G ⊢
    unfold tuneP at hx G ⊢
    by_cases x1 : a < 1
    · rw [if_pos (Or.inl x1)] at hx G ⊢; exact kp_1a p zl gp l g n a b cc s t _ w hg hn G ha hb hx hc hh hzg x1
    by_cases x2 : 32 < a
    · rw [if_pos (Or.inr x2)] at hx G ⊢; exact kp_1b p zl gp l g n a b cc s t _ w hg hn G ha hb hx hc hh hzg x2
    rw [if_neg (by omega)] at hx G ⊢
    by_cases x3 : b < 0
    · rw [if_pos (Or.inl x3)] at hx G ⊢; exact kp_1c p zl gp l g n a b cc s t _ w hg hn G ha hb hx hc hh hzg (by omega) (by omega) x3
    by_cases x4 : 3 < b
    · rw [if_pos (Or.inr x4)] at hx G ⊢; exact kp_1d p zl gp l g n a b cc s t _ w hg hn G ha hb hx hc hh hzg (by omega) (by omega) x4
    rw [if_neg (by omega)] at hx G ⊢
    exact kp_1e p zl gp l g n a b cc s t _ w hg hn G ha hb hx hc hh hzg (by omega) (by omega) (by omega) (by omega)
  by_cases h2 : kd = 2
  · subst h2
    have A0 := hg.a0; have A8 := hg.a8
    exact feed_any 2 (6 * g.at_) (g.at_ * 6) p zl gp l g n a b cc s t w hg hn G ha hb hx hc hh hzg (by omega) (by omega) (fun v => by rw [show g.at_ * 6 = 6 * g.at_ by omega]) (Or.inl ⟨rfl, rfl⟩)
  by_cases h16 : kd = 16
  · subst h16
    exact feed_any 16 (wrap32 b) (b % 4294967296) p zl gp l g n a b cc s t w hg hn G ha hb hx hc hh hzg (by omega) (by omega) (fun v => by simp only [wrap32]; omega) (Or.inr ⟨rfl, rfl⟩)
  by_cases h7 : kd = 7
  · subst h7; exact kp_7 p zl gp l g n a b cc s t _ w hg hn G ha hb hx hc hh hzg
  by_cases h8 : kd = 8
  · subst h8
    have e0 : stepP g 8 a b = (spanP g, g) := rfl
    rw [e0] at hx G ⊢
    unfold spanP
    by_cases x1 : keyI g.peak < keyI (negI g.dip)
    · rw [if_pos x1]; exact kp_8b p zl gp l g n a b cc s t _ w hg hn G ha hb hx hc hh hzg (fun e => by rw [e] at x1; omega)
    · rw [if_neg x1]; exact kp_8a p zl gp l g n a b cc s t _ w hg hn G ha hb hx hc hh hzg
  by_cases h9 : kd = 9
  · subst h9; exact kp_9 p zl gp l g n a b cc s t _ w hg hn G ha hb hx hc hh hzg
  by_cases h10 : kd = 10
  · subst h10
    have e0 : stepP g 10 a b = ditherP g a := rfl
    rw [e0] at hx G ⊢
    unfold ditherP at hx G ⊢
    by_cases x1 : a < 0
    · rw [if_pos (Or.inl x1)] at hx G ⊢; exact kp_10a p zl gp l g n a b cc s t _ w hg hn G ha hb hx hc hh hzg x1
    by_cases x2 : 8 ≤ a
    · rw [if_pos (Or.inr x2)] at hx G ⊢; exact kp_10b p zl gp l g n a b cc s t _ w hg hn G ha hb hx hc hh hzg x2
    rw [if_neg (by omega)] at hx G ⊢
    rw [show 6 * a = a * 6 by omega]
    exact kp_10c p zl gp l g n a b cc s t _ w hg hn G ha hb hx hc hh hzg (by omega) (by omega)
  by_cases h11 : kd = 11
  · subst h11
    have e0 : stepP g 11 a b = squelchP g a := rfl
    rw [e0] at hx G ⊢
    unfold squelchP at hx G ⊢
    by_cases x1 : a % 4294967296 = 0
    · rw [if_pos (by rw [wrap32]; omega)] at hx G ⊢; exact kp_11a p zl gp l g n a b cc s t _ w hg hn G ha hb hx hc hh hzg x1
    · rw [if_neg (by rw [wrap32]; omega)] at hx G ⊢; exact kp_11b p zl gp l g n a b cc s t _ w hg hn G ha hb hx hc hh hzg x1
  have e2 := stepP_same g kd a b h1 h2 h9 h10 h11 h16
  rw [e2] at hx G ⊢
  exact kp_0 p zl gp l g n kd _ _ _ a b cc s t _ w hg hn G ha hb hx hc hh hzg h1 h2 h7 h8 h9 h10 h11 h16
end Go.Proofs.Qxb6500376aDoor

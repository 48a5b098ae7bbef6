/- KeepsQuiet: the shade, its rank and squares; the law's own converter. -/
import Derived.Test.Qxb6500376aDoorPtRow
import Derived.Test.Qxb6500376aDoorMoBits
import Derived.Deep.LoopGhost
import Derived.BigQuiet
namespace Go.Qu
set_option linter.unusedVariables false
set_option linter.unusedSimpArgs false
def sHi : List Int → Int
  | [] => 0
  | r :: l => r * r / 4294967296 + sHi l
def sLo : List Int → Int
  | [] => 0
  | r :: l => r * r % 4294967296 + sLo l
theorem sHiLo : ∀ l : List Int, sumSq l = sHi l * 4294967296 + sLo l
  | [] => rfl
  | r :: l => by have := sHiLo l; simp only [sumSq, sHi, sLo]; omega
theorem sHi_append : ∀ (l m : List Int), sHi (l ++ m) = sHi l + sHi m
  | [], m => by simp [sHi]
  | r :: l, m => by have := sHi_append l m; simp only [List.cons_append, sHi]; omega
theorem sLo_append : ∀ (l m : List Int), sLo (l ++ m) = sLo l + sLo m
  | [], m => by simp [sLo]
  | r :: l, m => by have := sLo_append l m; simp only [List.cons_append, sLo]; omega
theorem take_next {l : List Int} {k : Nat} (h : k < l.length) : l.take (k + 1) = l.take k ++ [l.getD k 0] := by
  rw [List.take_add_one, List.getElem?_eq_getElem h, List.getD_eq_getElem?_getD, List.getElem?_eq_getElem h]; rfl
theorem sLo_bound : ∀ l : List Int, 0 ≤ sLo l ∧ sLo l ≤ l.length * 4294967295
  | [] => by simp [sLo]
  | r :: l => by have := sLo_bound l; simp only [sLo, List.length_cons]; omega
theorem sHi_bound : ∀ l : List Int, (∀ r ∈ l, -2147483648 ≤ r ∧ r ≤ 2147483647) → 0 ≤ sHi l ∧ sHi l ≤ l.length * 1073741824
  | [], _ => by simp [sHi]
  | r :: l, h => by
    have := sHi_bound l (fun x hx => h x (by simp [hx]))
    have h2 := h r (by simp)
    have h3 := sq_bound h2.1 h2.2
    simp only [sHi, List.length_cons]; omega
end Go.Qu
namespace Go.Proofs.Qxb6500376aDoor
set_option linter.unusedVariables false
set_option linter.unusedSimpArgs false
set_option maxHeartbeats 4000000
set_option maxRecDepth 100000
open Go.RowKit Go.Qu Ieee

/-- a converter at p with these counts -/
abbrev Cv (w : World) (p : Nat) (c z : Int) : Prop := Has 89 w p [.int .i64 c, .int .i64 z]
def Sm (c : Int) : Prop := 0 ≤ c ∧ c ≤ 4611686018427387904
theorem bump_small {c : Int} (h : Sm c) (d : Bool) : bump c d = c + (d.toNat : Int) := by
  unfold Sm at h
  unfold bump
  cases d
  · simp
  · simp only [if_true]; rw [wrap64]; simp; omega
theorem wrap_inc {c : Int} (h : Sm c) : wrap64 (c + 1) = c + 1 := by
  unfold Sm at h
  rw [wrap64]; omega
theorem num_mg (b : Int) : num (u64 b) = decide (mg b ≤ 9218868437227405312) := by
  rw [Go.Qu.numR_iff, rung_u64, d_inf]

theorem round32_o (p : Nat) (b m c z : Int) (w : World) (hb : I64 b) (hq : Cv w p c z) (hc : Sm c) (hz : Sm z) :
    Calls Tryd.prog 38 #[.pointer (some ⟨p, 0, none⟩), .int .i64 b, .int .i64 m] w fun e w' => e = .returned (.tuple #[.int .i64 (r32O b m).e, .int .i64 (r32O b m).n]) ∧ Cv w' p (c + (r32O b m).dc) (z + (r32O b m).dz) ∧ Chg (· = p) w w' := by
  unfold r32O
  by_cases hm : m < 0 ∨ 3 < m
  · simp only [if_pos hm, Int.add_zero]
    exact (round32_mode p b m w hm).mono fun e w' ⟨he, hw⟩ => by subst hw; exact ⟨he, hq, Chg.refl _ _⟩
  · simp only [if_neg hm]
    by_cases hn : 9218868437227405312 < mg b
    · simp only [if_pos hn, Int.add_zero]
      refine (round32_nan p b m c z w (by omega) (by omega) (by rw [num_mg]; exact decide_eq_false (by omega)) hq).mono fun e w' ⟨he, hw⟩ => ?_
      subst hw
      rw [wrap_inc hz]
      exact ⟨he, hq.setCell 1 _, Chg.set1 w p 1 _⟩
    · simp only [if_neg hn, Int.add_zero]
      obtain ⟨h1, h2⟩ := round32_f (b := b) (m := m) hb (by rw [d_inf]; omega)
      refine (round32_num p b m c z _ w (by omega) (by omega) (by rw [num_mg]; exact decide_eq_true (by omega)) hq h1).mono fun e w' ⟨he, hw, hk⟩ => ?_
      rw [h2, bump_small hc] at hw
      exact ⟨he, hw, hk⟩

def g0 : PS := { depth := 16, mode := 0, sum := 0, peak := -4503599627370496, dip := 9218868437227405312, ring := [0, 0, 0, 0, 0, 0, 0, 0], at_ := 0, seq := 0, dropped := 0, c := 0, z := 0 }
theorem g0_good : Good g0 0 := { len := rfl, d1 := by decide, d2 := by decide, m0 := by decide, m3 := by decide, s1 := by decide, s2 := by decide, pk := ⟨by decide, by decide⟩, pn := by decide, dp := ⟨by decide, by decide⟩, dn := by decide, rg := by decide, a0 := by decide, a8 := by decide, q0 := by decide, q1 := by decide, r0 := by decide, r1 := by decide, c0 := by decide, c1 := by decide, z0 := by decide, z1 := by decide }
theorem g0_real : realS g0 = cs0 := by
  have e1 : u64 (-4503599627370496) = 18442240474082181120 := by decide +kernel
  have e2 : u64 9218868437227405312 = 9218868437227405312 := by decide +kernel
  unfold realS g0 cs0
  dsimp only
  rw [e1, e2]
  congr 1

theorem chg_old {w w2 w3 : World} {S : Nat → Prop} (h : Chg (fun _ => False) w w2) (k : Chg S w2 w3) (hs : ∀ i, S i → w.heap.size ≤ i) : Chg (fun _ => False) w w3 := by
  have h1 : Chg (w.heap.size ≤ ·) w w2 := h.nil
  have h2 : Chg (w.heap.size ≤ ·) w2 w3 := k.up hs
  exact (h1.trans h2).mono (fun k hk e => by omega)

theorem ground_any (w : World) : Calls Tryd.prog 15 #[] w fun e w' => e = .returned (.pointer (some ⟨w.heap.size, 0, none⟩)) ∧ Has 89 w' w.heap.size [.int .i64 0, .int .i64 0] ∧ w.heap.size < w'.heap.size ∧ Chg (fun _ => False) w w' := by
  go_enter Tryd.func15, Tryd.ntmps15
  go_wp2_with fail
  refine (new_any _).mono ?_; rintro e w1 ⟨rfl, h1⟩
  have H1 : Hid (Has 89 w1 w.heap.size [.int .i64 0, .int .i64 0] ∧ w.heap.size < w1.heap.size ∧ Chg (fun _ => False) w w1) := h1
  clear h1
  go_wp2_with fail
  go_ret
  exact ⟨rfl, H1.out⟩

def shCells (g : PS) : List Value :=
  [.int .i64 g.depth, .int .i64 g.mode, .int .i64 g.sum, .int .i64 g.peak, .int .i64 g.dip, .int .i64 g.at_, .int .i64 g.seq, .int .i64 g.dropped] ++ g.ring.map (fun v => .int .i64 v)
structure Sh (w : World) (p : Nat) (g : PS) : Prop where
  len : g.ring.length = 8
  obj : Has 54 w p (shCells g)
theorem sh_get (g : PS) (hr : g.ring.length = 8) : (shCells g)[0]? = some (.int .i64 g.depth) ∧ (shCells g)[1]? = some (.int .i64 g.mode) ∧ (shCells g)[2]? = some (.int .i64 g.sum) ∧ (shCells g)[3]? = some (.int .i64 g.peak) ∧ (shCells g)[4]? = some (.int .i64 g.dip) ∧ (shCells g)[5]? = some (.int .i64 g.at_) ∧ (shCells g)[6]? = some (.int .i64 g.seq) ∧ (shCells g)[7]? = some (.int .i64 g.dropped) := by
  obtain ⟨a0, a1, a2, a3, a4, a5, a6, a7, e⟩ := len8 hr
  unfold shCells; rw [e]; exact ⟨rfl, rfl, rfl, rfl, rfl, rfl, rfl, rfl⟩
theorem sh_ring (g : PS) (hr : g.ring.length = 8) (i : Nat) (hi : i < 8) : (shCells g)[8 + i]? = some (.int .i64 (g.ring.getD i 0)) := by
  obtain ⟨a0, a1, a2, a3, a4, a5, a6, a7, e⟩ := len8 hr
  unfold shCells; rw [e]
  have : i = 0 ∨ i = 1 ∨ i = 2 ∨ i = 3 ∨ i = 4 ∨ i = 5 ∨ i = 6 ∨ i = 7 := by omega
  rcases this with rfl | rfl | rfl | rfl | rfl | rfl | rfl | rfl <;> rfl
theorem sh_set (g : PS) (hr : g.ring.length = 8) (v : Int) :
    (shCells g).set 0 (.int .i64 v) = shCells { g with depth := v } ∧ (shCells g).set 1 (.int .i64 v) = shCells { g with mode := v } ∧ (shCells g).set 2 (.int .i64 v) = shCells { g with sum := v } ∧ (shCells g).set 3 (.int .i64 v) = shCells { g with peak := v } ∧ (shCells g).set 4 (.int .i64 v) = shCells { g with dip := v } ∧
    (shCells g).set 5 (.int .i64 v) = shCells { g with at_ := v } ∧ (shCells g).set 6 (.int .i64 v) = shCells { g with seq := v } ∧ (shCells g).set 7 (.int .i64 v) = shCells { g with dropped := v } := by
  obtain ⟨a0, a1, a2, a3, a4, a5, a6, a7, e⟩ := len8 hr
  unfold shCells; dsimp only; rw [e]; exact ⟨rfl, rfl, rfl, rfl, rfl, rfl, rfl, rfl⟩
theorem sh_setRing (g : PS) (hr : g.ring.length = 8) (i : Nat) (hi : i < 8) (v : Int) : (shCells g).set (8 + i) (.int .i64 v) = shCells { g with ring := g.ring.set i v } := by
  obtain ⟨a0, a1, a2, a3, a4, a5, a6, a7, e⟩ := len8 hr
  unfold shCells; dsimp only; rw [e]
  have : i = 0 ∨ i = 1 ∨ i = 2 ∨ i = 3 ∨ i = 4 ∨ i = 5 ∨ i = 6 ∨ i = 7 := by omega
  rcases this with rfl | rfl | rfl | rfl | rfl | rfl | rfl | rfl <;> rfl
theorem Sh.cell {w : World} {p : Nat} {g : PS} (h : Sh w p g) (i : Nat) {v : Value} (hv : (shCells g)[i]? = some v) : w.cell? ⟨p, i, none⟩ = some v := (h.obj.cell i).trans hv
theorem Sh.frozen {w : World} {p : Nat} {g : PS} (h : Sh w p g) (i : Nat) : w.frozen? ⟨p, i, none⟩ = false := h.obj.frozen i
theorem Sh.ring {w : World} {p : Nat} {g : PS} (h : Sh w p g) (i : Nat) (hi : i < 8) : w.cell? ⟨p, 8 + i, none⟩ = some (.int .i64 (g.ring.getD i 0)) := h.cell _ (sh_ring g h.len i hi)
theorem Sh.kept {w w' : World} {p : Nat} {g : PS} (h : Sh w p g) {S : Nat → Prop} (hc : Chg S w w') (h1 : ¬ S p) : Sh w' p g := ⟨h.len, h.obj.kept hc h1⟩
theorem Sh.nil {w w' : World} {p : Nat} {g : PS} (h : Sh w p g) (hc : Chg (fun _ => False) w w') : Sh w' p g := h.kept hc (fun h => h)
theorem Sh.drew {w : World} {p : Nat} {g : PS} (h : Sh w p g) : Sh w.drew p g := ⟨h.len, h.obj.drew⟩
theorem Sh.drewN {w : World} {p : Nat} {g : PS} (h : Sh w p g) (n : Nat) : Sh (w.drewN n) p g := ⟨h.len, h.obj.drewN n⟩
theorem Sh.put {w : World} {p : Nat} {g : PS} (h : Sh w p g) (i : Nat) (v : Value) {g' : PS} (he : (shCells g).set i v = shCells g') (hl : g'.ring.length = 8) : Sh (w.setCell ⟨p, i, none⟩ v) p g' := ⟨hl, by rw [← he]; exact h.obj.setCell i v⟩
theorem Sh.count {w : World} {p : Nat} {g : PS} (h : Sh w p g) (c z : Int) : Sh w p { g with c := c, z := z } := ⟨h.len, h.obj⟩
theorem Sh.setDepth {w : World} {p : Nat} {g : PS} (h : Sh w p g) (v : Int) : Sh (w.setCell ⟨p, 0, none⟩ (.int .i64 v)) p { g with depth := v } := h.put 0 _ (sh_set g h.len v).1 h.len
theorem Sh.setMode {w : World} {p : Nat} {g : PS} (h : Sh w p g) (v : Int) : Sh (w.setCell ⟨p, 1, none⟩ (.int .i64 v)) p { g with mode := v } := h.put 1 _ (sh_set g h.len v).2.1 h.len
theorem Sh.setSum {w : World} {p : Nat} {g : PS} (h : Sh w p g) (v : Int) : Sh (w.setCell ⟨p, 2, none⟩ (.int .i64 v)) p { g with sum := v } := h.put 2 _ (sh_set g h.len v).2.2.1 h.len
theorem Sh.setPeak {w : World} {p : Nat} {g : PS} (h : Sh w p g) (v : Int) : Sh (w.setCell ⟨p, 3, none⟩ (.int .i64 v)) p { g with peak := v } := h.put 3 _ (sh_set g h.len v).2.2.2.1 h.len
theorem Sh.setDip {w : World} {p : Nat} {g : PS} (h : Sh w p g) (v : Int) : Sh (w.setCell ⟨p, 4, none⟩ (.int .i64 v)) p { g with dip := v } := h.put 4 _ (sh_set g h.len v).2.2.2.2.1 h.len
theorem Sh.setAt {w : World} {p : Nat} {g : PS} (h : Sh w p g) (v : Int) : Sh (w.setCell ⟨p, 5, none⟩ (.int .i64 v)) p { g with at_ := v } := h.put 5 _ (sh_set g h.len v).2.2.2.2.2.1 h.len
theorem Sh.setSeq {w : World} {p : Nat} {g : PS} (h : Sh w p g) (v : Int) : Sh (w.setCell ⟨p, 6, none⟩ (.int .i64 v)) p { g with seq := v } := h.put 6 _ (sh_set g h.len v).2.2.2.2.2.2.1 h.len
theorem Sh.setDropped {w : World} {p : Nat} {g : PS} (h : Sh w p g) (v : Int) : Sh (w.setCell ⟨p, 7, none⟩ (.int .i64 v)) p { g with dropped := v } := h.put 7 _ (sh_set g h.len v).2.2.2.2.2.2.2 h.len
theorem Sh.setRing {w : World} {p : Nat} {g : PS} (h : Sh w p g) (i : Nat) (hi : i < 8) (v : Int) : Sh (w.setCell ⟨p, 8 + i, none⟩ (.int .i64 v)) p { g with ring := g.ring.set i v } := h.put (8 + i) _ (sh_setRing g h.len i hi v) (by simpa using h.len)

theorem xor_sign (d : Int) (h : I64 d) : bits .xor .i64 d (-9223372036854775808) = negI d := by
  unfold I64 at h
  unfold negI
  show IntKind.i64.wrap (((BitVec.ofInt 64 d ^^^ BitVec.ofInt 64 (-9223372036854775808 : Int)).toNat : Nat) : Int) = _
  rw [BitVec.toNat_xor, BitVec.toNat_ofInt, BitVec.toNat_ofInt, show ((-9223372036854775808 : Int) % ((2 ^ 64 : Nat) : Int)).toNat = 2 ^ 63 by decide]
  by_cases h0 : d < 0
  · rw [if_pos h0]
    have e : (d % ((2 ^ 64 : Nat) : Int)).toNat = 2 ^ 63 ^^^ (d + 9223372036854775808).toNat := by
      rw [Nat.xor_comm, xor_top (by omega)]; omega
    rw [e, Nat.xor_comm, ← Nat.xor_assoc, Nat.xor_self, Nat.zero_xor, IntKind.wrap_i64]
    omega
  · rw [if_neg h0, xor_top (by omega), IntKind.wrap_i64]
    omega
theorem rank_any (b : Int) (w : World) : Calls Tryd.prog 43 #[.int .i64 b] w fun e w' => e = .returned (.int .i64 (keyI b)) ∧ w' = w := by
  have e5 : bits .and .i64 b 9223372036854775807 = (mg b : Int) := by rw [and63]; unfold mg; omega
  have hm := mg_lt b
  obtain ⟨K, hK⟩ : ∃ K, keyI b = K := ⟨_, rfl⟩
  have HK : Hid (keyI b = K) := hK
  obtain ⟨m, hmm⟩ : ∃ m : Int, (mg b : Int) = m := ⟨_, rfl⟩
  have m0 : 0 ≤ m := by omega
  have m1 : m ≤ 9223372036854775807 := by omega
  have HM : Hid ((mg b : Int) = m) := hmm
  rw [hK]
  rw [hmm] at e5
  clear hK hm hmm
  go_enter Tryd.func43, Tryd.ntmps43
  go_wp2
  all_goals go_ret
  all_goals (
    refine ⟨congrArg (fun x => Ending.returned (.int .i64 x)) ?_, rfl⟩
    rw [← HK.out]
    unfold keyI
    rw [HM.out]
    split <;> first | rfl | (exfalso; omega) | omega)

theorem squares_any (p : Nat) (g : PS) (n : Int) (w : World) (hg : Good g n) (h : Sh w p g) :
    Calls Tryd.prog 42 #[.pointer (some ⟨p, 0, none⟩)] w fun e w' => e = .returned (.tuple #[.int .i64 (sumSq g.ring / 4294967296), .int .i64 (sumSq g.ring % 4294967296)]) ∧ Sh w' p g ∧ Chg (fun k => k = p) w w' := by
  have H : Hid (Sh w p g) := h
  have HG : Hid (Good g n) := hg
  clear h hg
  go_enter Tryd.func42, Tryd.ntmps42
  go_wp2_with fail
  go_loopg [4, 5, 6] 8 (fun gk hi lo i wr => ∃ (k : Nat) (A B : Int), k ≤ 8 ∧ gk = 8 - k ∧ i = .int .i64 k ∧ hi = .int .i64 A ∧ lo = .int .i64 B ∧ A = sHi (g.ring.take k) ∧ B = sLo (g.ring.take k) ∧ Sh wr p g ∧ Chg (fun k => k = p) w wr)
  case atStart => exact ⟨0, 0, 0, by omega, by omega, rfl, rfl, rfl, by simp [sHi], by simp [sLo], H.out, Chg.refl _ _⟩
  case round =>
    obtain ⟨k, A, B, hk, rfl, rfl, rfl, rfl, hA, hB, hm, hc⟩ := hrel
    have HM : Hid (Sh wr p g ∧ Chg (fun k => k = p) w wr) := ⟨hm, hc⟩
    clear hm hc
    have hlen := HG.out.len
    have lt := List.length_take_le k g.ring
    have bA := sHi_bound (g.ring.take k) (fun r hr => HG.out.rg r (List.mem_of_mem_take hr))
    have bB := sLo_bound (g.ring.take k)
    rw [← hA] at bA
    rw [← hB] at bB
    have A0 : 0 ≤ A := bA.1
    have A1 : A ≤ 8589934592 := by have := bA.2; omega
    have B0 : 0 ≤ B := bB.1
    have B1 : B ≤ 34359738360 := by have := bB.2; omega
    by_cases h8 : k < 8
    · have f1 := HM.out.1.ring k h8
      have hr := HG.out.rg (g.ring.getD k 0) (by rw [List.getD_eq_getElem?_getD, List.getElem?_eq_getElem (by omega)]; simp)
      have hs := sq_bound hr.1 hr.2
      have nx := take_next (l := g.ring) (k := k) (by omega)
      have nA : sHi (g.ring.take (k + 1)) = A + g.ring.getD k 0 * g.ring.getD k 0 / 4294967296 := by rw [nx, sHi_append, ← hA]; simp [sHi]
      have nB : sLo (g.ring.take (k + 1)) = B + g.ring.getD k 0 * g.ring.getD k 0 % 4294967296 := by rw [nx, sLo_append, ← hB]; simp [sLo]
      obtain ⟨r, hrr⟩ : ∃ r, g.ring.getD k 0 = r := ⟨_, rfl⟩
      rw [hrr] at f1 hs nA nB
      have X0 := hs.1
      have X1 := hs.2
      have m1 : wrap64 (r * r) = r * r := by rw [wrap64]; omega
      have m2 : bits .and .i64 (r * r) 4294967295 = r * r % 4294967296 := and32 _
      have HN : Hid (sHi (g.ring.take (k + 1)) = A + r * r / 4294967296 ∧ sLo (g.ring.take (k + 1)) = B + r * r % 4294967296 ∧ k < 8) := ⟨nA, nB, h8⟩
      have k8 : (k : Int) < 8 := by omega
      clear hA hB hlen lt bA bB hr hs nx nA nB hrr hk h8
      go_wp2
      go_quiet (fail)
      go_wp2
      have hn := HN.out
      go_roundg (8 - (k + 1))
      case measure => omega
      case rel => exact ⟨k + 1, _, _, by omega, rfl, by simp, rfl, rfl, hn.1.symm, hn.2.1.symm, HM.out.1.drewN _, HM.out.2.drewN _⟩
    · have hk8 : k = 8 := by omega
      subst hk8
      have hAB : sumSq g.ring = A * 4294967296 + B := by rw [hA, hB, List.take_of_length_le (by omega)]; exact sHiLo _
      have m2 : bits .and .i64 B 4294967295 = B % 4294967296 := and32 _
      have HN : Hid (sumSq g.ring = A * 4294967296 + B) := hAB
      clear hA hB hlen lt bA bB hk h8 hAB
      go_wp2
      go_ret2
      refine ⟨?_, HM.out.1, HM.out.2⟩
      rw [HN.out, show (A * 4294967296 + B) / 4294967296 = A + B / 4294967296 by omega, show (A * 4294967296 + B) % 4294967296 = B % 4294967296 by omega]
      rfl
end Go.Proofs.Qxb6500376aDoor

/- The pipeline's model: its memory, its small methods. -/
import Derived.Test.Qxb6500376aGreatDoorChStep2
import Derived.Test.Qxb6500376aGreatDoorMoRound
namespace Go.Proofs.Qxb6500376aGreatDoor
set_option linter.unusedVariables false
set_option linter.unusedSimpArgs false
set_option maxHeartbeats 2000000
open Go.RowKit Go.Qu Ieee

def mdCells (q : Nat) (g : PS) : List Value :=
  [.pointer (some ⟨q, 0, none⟩), .int .i64 g.depth, .int .i64 g.mode, .int .i64 g.sum, .int .i64 g.peak, .int .i64 g.dip] ++ g.ring.map (fun v => .int .i64 v) ++ [.int .i64 g.at_, .int .i64 g.seq, .int .i64 g.dropped]
structure Md (w : World) (p q : Nat) (g : PS) : Prop where
  len : g.ring.length = 8
  obj : Has 85 w p (mdCells q g)
  qu : Cm w q g.c g.z
  ne : p ≠ q
theorem md_get (q : Nat) (g : PS) (hr : g.ring.length = 8) : (mdCells q g)[0]? = some (.pointer (some ⟨q, 0, none⟩)) ∧ (mdCells q g)[1]? = some (.int .i64 g.depth) ∧ (mdCells q g)[2]? = some (.int .i64 g.mode) ∧ (mdCells q g)[3]? = some (.int .i64 g.sum) ∧ (mdCells q g)[4]? = some (.int .i64 g.peak) ∧ (mdCells q g)[5]? = some (.int .i64 g.dip) ∧ (mdCells q g)[14]? = some (.int .i64 g.at_) ∧ (mdCells q g)[15]? = some (.int .i64 g.seq) ∧ (mdCells q g)[16]? = some (.int .i64 g.dropped) := by
  obtain ⟨a0, a1, a2, a3, a4, a5, a6, a7, e⟩ := len8 hr
  unfold mdCells; rw [e]; exact ⟨rfl, rfl, rfl, rfl, rfl, rfl, rfl, rfl, rfl⟩
theorem md_ring (q : Nat) (g : PS) (hr : g.ring.length = 8) (i : Nat) (hi : i < 8) : (mdCells q g)[6 + i]? = some (.int .i64 (g.ring.getD i 0)) := by
  obtain ⟨a0, a1, a2, a3, a4, a5, a6, a7, e⟩ := len8 hr
  unfold mdCells; rw [e]
  have : i = 0 ∨ i = 1 ∨ i = 2 ∨ i = 3 ∨ i = 4 ∨ i = 5 ∨ i = 6 ∨ i = 7 := by omega
  rcases this with rfl | rfl | rfl | rfl | rfl | rfl | rfl | rfl <;> rfl
theorem md_set (q : Nat) (g : PS) (hr : g.ring.length = 8) (v : Int) :
    (mdCells q g).set 1 (.int .i64 v) = mdCells q { g with depth := v } ∧ (mdCells q g).set 2 (.int .i64 v) = mdCells q { g with mode := v } ∧ (mdCells q g).set 3 (.int .i64 v) = mdCells q { g with sum := v } ∧ (mdCells q g).set 4 (.int .i64 v) = mdCells q { g with peak := v } ∧ (mdCells q g).set 5 (.int .i64 v) = mdCells q { g with dip := v } ∧
    (mdCells q g).set 14 (.int .i64 v) = mdCells q { g with at_ := v } ∧ (mdCells q g).set 15 (.int .i64 v) = mdCells q { g with seq := v } ∧ (mdCells q g).set 16 (.int .i64 v) = mdCells q { g with dropped := v } := by
  obtain ⟨a0, a1, a2, a3, a4, a5, a6, a7, e⟩ := len8 hr
  unfold mdCells; dsimp only; rw [e]; exact ⟨rfl, rfl, rfl, rfl, rfl, rfl, rfl, rfl⟩
theorem md_setRing (q : Nat) (g : PS) (hr : g.ring.length = 8) (i : Nat) (hi : i < 8) (v : Int) : (mdCells q g).set (6 + i) (.int .i64 v) = mdCells q { g with ring := g.ring.set i v } := by
  obtain ⟨a0, a1, a2, a3, a4, a5, a6, a7, e⟩ := len8 hr
  unfold mdCells; dsimp only; rw [e]
  have : i = 0 ∨ i = 1 ∨ i = 2 ∨ i = 3 ∨ i = 4 ∨ i = 5 ∨ i = 6 ∨ i = 7 := by omega
  rcases this with rfl | rfl | rfl | rfl | rfl | rfl | rfl | rfl <;> rfl
theorem Md.cell {w : World} {p q : Nat} {g : PS} (h : Md w p q g) (i : Nat) {v : Value} (hv : (mdCells q g)[i]? = some v) : w.cell? ⟨p, i, none⟩ = some v := (h.obj.cell i).trans hv
theorem Md.frozen {w : World} {p q : Nat} {g : PS} (h : Md w p q g) (i : Nat) : w.frozen? ⟨p, i, none⟩ = false := h.obj.frozen i
theorem Md.ring {w : World} {p q : Nat} {g : PS} (h : Md w p q g) (i : Nat) (hi : i < 8) : w.cell? ⟨p, 6 + i, none⟩ = some (.int .i64 (g.ring.getD i 0)) := h.cell _ (md_ring q g h.len i hi)
theorem Md.kept {w w' : World} {p q : Nat} {g : PS} (h : Md w p q g) {S : Nat → Prop} (hc : Chg S w w') (h1 : ¬ S p) (h2 : ¬ S q) : Md w' p q g := ⟨h.len, h.obj.kept hc h1, h.qu.kept hc h2, h.ne⟩
theorem Md.nil {w w' : World} {p q : Nat} {g : PS} (h : Md w p q g) (hc : Chg (fun _ => False) w w') : Md w' p q g := h.kept hc (fun h => h) (fun h => h)
theorem Md.drew {w : World} {p q : Nat} {g : PS} (h : Md w p q g) : Md w.drew p q g := ⟨h.len, h.obj.drew, h.qu.drew, h.ne⟩
theorem Md.drewN {w : World} {p q : Nat} {g : PS} (h : Md w p q g) (n : Nat) : Md (w.drewN n) p q g := ⟨h.len, h.obj.drewN n, h.qu.drewN n, h.ne⟩
theorem Md.put {w : World} {p q : Nat} {g : PS} (h : Md w p q g) (i : Nat) (v : Value) {g' : PS} (he : (mdCells q g).set i v = mdCells q g') (hl : g'.ring.length = 8) (hc : g'.c = g.c) (hz : g'.z = g.z) : Md (w.setCell ⟨p, i, none⟩ v) p q g' :=
  ⟨hl, by rw [← he]; exact h.obj.setCell i v, by rw [hc, hz]; exact h.qu.setOther (by show p ≠ q; exact h.ne) v, h.ne⟩
theorem Md.count {w w' : World} {p q : Nat} {g : PS} (h : Md w p q g) {c z : Int} (hc : Chg (· = q) w w') (hq : Cm w' q c z) : Md w' p q { g with c := c, z := z } := ⟨h.len, h.obj.kept hc h.ne, hq, h.ne⟩

def g0 : PS := { depth := 16, mode := 0, sum := 0, peak := -4503599627370496, dip := 9218868437227405312, ring := [0, 0, 0, 0, 0, 0, 0, 0], at_ := 0, seq := 0, dropped := 0, c := 0, z := 0 }
theorem g0_good : Good g0 0 := { len := rfl, d1 := by decide, d2 := by decide, m0 := by decide, m3 := by decide, s1 := by decide, s2 := by decide, pk := ⟨by decide, by decide⟩, pn := by decide, dp := ⟨by decide, by decide⟩, dn := by decide, rg := by decide, a0 := by decide, a8 := by decide, q0 := by decide, q1 := by decide, r0 := by decide, r1 := by decide, c0 := by decide, c1 := by decide, z0 := by decide, z1 := by decide }
theorem g0_real : realS g0 = cs0 := by
  have e1 : u64 (-4503599627370496) = 18442240474082181120 := by decide +kernel
  have e2 : u64 9218868437227405312 = 9218868437227405312 := by decide +kernel
  unfold realS g0 cs0
  dsimp only
  rw [e1, e2]
  congr 1

theorem mnew_any (q : Nat) (w : World) (hq : Cm w q 0 0) : Calls Tryz.prog 58 #[.pointer (some ⟨q, 0, none⟩)] w fun e w' => e = .returned (.pointer (some ⟨w.heap.size, 0, none⟩)) ∧ Md w' w.heap.size q g0 ∧ Chg (fun _ => False) w w' := by
  have HQ : Hid (Cm w q 0 0) := hq
  clear hq
  go_enter Tryz.func58, Tryz.ntmps58
  go_wp2
  go_ret
  exact ⟨rfl, ⟨rfl, Has.new _ _ (mdCells q g0), Has.alloc HQ.out _, by have := Has.lt HQ.out; omega⟩, (Chg.refl _ _).alloc _⟩
theorem mfresh_any (w : World) : Calls Tryz.prog 17 #[] w fun e w' => ∃ p q, e = .returned (.pointer (some ⟨p, 0, none⟩)) ∧ Md w' p q g0 ∧ w.heap.size ≤ p ∧ w.heap.size ≤ q ∧ Chg (fun _ => False) w w' := by
  go_enter Tryz.func17, Tryz.ntmps17
  go_wp2_with fail
  refine (newm_any _).mono ?_; rintro e w1 ⟨rfl, q1, s1, c1⟩
  have Q1 : Hid (Cm w1 w.heap.size 0 0) := q1
  have C1 : Hid (Chg (fun _ => False) w w1) := c1
  clear q1 s1 c1
  go_wp2_with fail
  refine (mnew_any w.heap.size _ Q1.out).mono ?_; rintro e w2 ⟨rfl, h2, c2⟩
  have H2 : Hid (Md w2 w1.heap.size w.heap.size g0) := h2
  have C2 : Hid (Chg (fun _ => False) w w2) := C1.out.trans c2
  clear h2 c2
  go_wp2_with fail
  go_ret
  exact ⟨w1.heap.size, w.heap.size, rfl, H2.out, C1.out.size, Nat.le_refl _, C2.out⟩

theorem TuneM (p q : Nat) (g : PS) (d m : Int) (w : World) (h : Md w p q g) :
    Calls Tryz.prog 34 #[.pointer (some ⟨p, 0, none⟩), .int .i64 d, .int .i64 m] w fun e w' => e = .returned (.int .i64 (tuneP g d m).1.e) ∧ Md w' p q (tuneP g d m).2 ∧ Chg (fun k => k = p ∨ k = q) w w' := by
  have H : Hid (Md w p q g) := h
  have f1 := h.cell 1 (md_get q g h.len).2.1
  have f2 := h.cell 2 (md_get q g h.len).2.2.1
  have z1 := h.frozen 1
  have z2 := h.frozen 2
  clear h
  unfold tuneP
  by_cases e1 : d < 1
  · rw [if_pos (Or.inl e1)]
    go_enter Tryz.func34, Tryz.ntmps34
    go_wp2
    go_ret
    exact ⟨rfl, H.out, Chg.refl _ _⟩
  by_cases e2 : 32 < d
  · rw [if_pos (Or.inr e2)]
    go_enter Tryz.func34, Tryz.ntmps34
    go_wp2
    go_ret
    exact ⟨rfl, H.out, Chg.refl _ _⟩
  rw [if_neg (by omega)]
  by_cases e3 : m < 0
  · rw [if_pos (Or.inl e3)]
    go_enter Tryz.func34, Tryz.ntmps34
    go_wp2
    go_ret
    exact ⟨rfl, H.out, Chg.refl _ _⟩
  by_cases e4 : 3 < m
  · rw [if_pos (Or.inr e4)]
    go_enter Tryz.func34, Tryz.ntmps34
    go_wp2
    go_ret
    exact ⟨rfl, H.out, Chg.refl _ _⟩
  rw [if_neg (by omega)]
  go_enter Tryz.func34, Tryz.ntmps34
  go_wp2
  go_ret
  have h1 := H.out.put 1 (.int .i64 d) (md_set q g H.out.len d).1 H.out.len rfl rfl
  exact ⟨rfl, h1.put 2 (.int .i64 m) (md_set q _ h1.len m).2.1 H.out.len rfl rfl, chg_p ((Chg.set1 w p 1 _).trans (Chg.set1 _ p 2 _))⟩
theorem SumM (p q : Nat) (g : PS) (w : World) (h : Md w p q g) :
    Calls Tryz.prog 37 #[.pointer (some ⟨p, 0, none⟩)] w fun e w' => e = .returned (.int .i64 g.sum) ∧ Md w' p q g ∧ Chg (fun k => k = p ∨ k = q) w w' := by
  have H : Hid (Md w p q g) := h
  have f1 := h.cell 3 (md_get q g h.len).2.2.2.1
  clear h
  go_enter Tryz.func37, Tryz.ntmps37
  go_wp2
  go_ret
  exact ⟨rfl, H.out, Chg.refl _ _⟩
theorem PeakM (p q : Nat) (g : PS) (w : World) (h : Md w p q g) :
    Calls Tryz.prog 38 #[.pointer (some ⟨p, 0, none⟩)] w fun e w' => e = .returned (.int .i64 g.peak) ∧ Md w' p q g ∧ Chg (fun k => k = p ∨ k = q) w w' := by
  have H : Hid (Md w p q g) := h
  have f1 := h.cell 4 (md_get q g h.len).2.2.2.2.1
  clear h
  go_enter Tryz.func38, Tryz.ntmps38
  go_wp2
  go_ret
  exact ⟨rfl, H.out, Chg.refl _ _⟩
theorem DipM (p q : Nat) (g : PS) (w : World) (h : Md w p q g) :
    Calls Tryz.prog 39 #[.pointer (some ⟨p, 0, none⟩)] w fun e w' => e = .returned (.int .i64 g.dip) ∧ Md w' p q g ∧ Chg (fun k => k = p ∨ k = q) w w' := by
  have H : Hid (Md w p q g) := h
  have f1 := h.cell 5 (md_get q g h.len).2.2.2.2.2.1
  clear h
  go_enter Tryz.func39, Tryz.ntmps39
  go_wp2
  go_ret
  exact ⟨rfl, H.out, Chg.refl _ _⟩
theorem SeqM (p q : Nat) (g : PS) (w : World) (h : Md w p q g) :
    Calls Tryz.prog 47 #[.pointer (some ⟨p, 0, none⟩)] w fun e w' => e = .returned (.int .i64 g.seq) ∧ Md w' p q g ∧ Chg (fun k => k = p ∨ k = q) w w' := by
  have H : Hid (Md w p q g) := h
  have f1 := h.cell 15 (md_get q g h.len).2.2.2.2.2.2.2.1
  clear h
  go_enter Tryz.func47, Tryz.ntmps47
  go_wp2
  go_ret
  exact ⟨rfl, H.out, Chg.refl _ _⟩
theorem DroppedM (p q : Nat) (g : PS) (w : World) (h : Md w p q g) :
    Calls Tryz.prog 46 #[.pointer (some ⟨p, 0, none⟩)] w fun e w' => e = .returned (.int .i64 g.dropped) ∧ Md w' p q g ∧ Chg (fun k => k = p ∨ k = q) w w' := by
  have H : Hid (Md w p q g) := h
  have f1 := h.cell 16 (md_get q g h.len).2.2.2.2.2.2.2.2
  clear h
  go_enter Tryz.func46, Tryz.ntmps46
  go_wp2
  go_ret
  exact ⟨rfl, H.out, Chg.refl _ _⟩
theorem StampM (p q : Nat) (g : PS) (n : Int) (w : World) (hg : Good g n) (hn : n ≤ 4611686018427387904) (h : Md w p q g) :
    Calls Tryz.prog 43 #[.pointer (some ⟨p, 0, none⟩)] w fun e w' => e = .returned (.tuple #[.int .i64 g.seq, .int .i64 (g.seq + 1)]) ∧ Md w' p q { g with seq := g.seq + 1 } ∧ Chg (fun k => k = p ∨ k = q) w w' := by
  have H : Hid (Md w p q g) := h
  have f1 := h.cell 15 (md_get q g h.len).2.2.2.2.2.2.2.1
  have z1 := h.frozen 15
  have q0 := hg.q0
  have q1 : g.seq ≤ 4611686018427387904 := by have := hg.q1; omega
  obtain ⟨sq, hsq⟩ : ∃ sq, g.seq = sq := ⟨_, rfl⟩
  have HS : Hid (g.seq = sq) := hsq
  rw [hsq] at f1 q0 q1 ⊢
  clear h hsq hg hn
  go_enter Tryz.func43, Tryz.ntmps43
  go_wp2
  go_quiet (fail)
  go_wp2
  go_ret2
  have h1 := H.out.put 15 (.int .i64 (sq + 1)) (md_set q g H.out.len (sq + 1)).2.2.2.2.2.2.1 H.out.len rfl rfl
  exact ⟨by simp, h1.drewN nq, (chg_p (Chg.set1 w p 15 _)).drewN nq⟩
theorem DitherM (p q : Nat) (g : PS) (n i : Int) (w : World) (hg : Good g n) (hn : n ≤ 4611686018427387904) (h : Md w p q g) :
    Calls Tryz.prog 44 #[.pointer (some ⟨p, 0, none⟩), .int .i64 i] w fun e w' => e = .returned (.tuple #[.int .i64 (ditherP g i).1.e, .int .i64 (ditherP g i).1.n]) ∧ Md w' p q (ditherP g i).2 ∧ Chg (fun k => k = p ∨ k = q) w w' := by
  have H : Hid (Md w p q g) := h
  have f1 := h.cell 15 (md_get q g h.len).2.2.2.2.2.2.2.1
  have z1 := h.frozen 15
  have q0 := hg.q0
  have q1 : g.seq ≤ 4611686018427387904 := by have := hg.q1; omega
  unfold ditherP
  by_cases e1 : i < 0
  · rw [if_pos (Or.inl e1)]
    clear h hg hn
    go_enter Tryz.func44, Tryz.ntmps44
    go_wp2
    go_ret2
    exact ⟨rfl, H.out, Chg.refl _ _⟩
  by_cases e2 : 8 ≤ i
  · rw [if_pos (Or.inr e2)]
    clear h hg hn
    go_enter Tryz.func44, Tryz.ntmps44
    go_wp2
    go_ret2
    exact ⟨rfl, H.out, Chg.refl _ _⟩
  rw [if_neg (by omega)]
  obtain ⟨sq, hsq⟩ : ∃ sq, g.seq = sq := ⟨_, rfl⟩
  rw [hsq] at f1 q0 q1 ⊢
  clear h hsq hg hn
  go_enter Tryz.func44, Tryz.ntmps44
  go_wp2
  go_quiet (fail)
  go_wp2
  go_ret2
  have h1 := H.out.put 15 (.int .i64 (sq + 1)) (md_set q g H.out.len (sq + 1)).2.2.2.2.2.2.1 H.out.len rfl rfl
  refine ⟨?_, h1.drewN nq, (chg_p (Chg.set1 w p 15 _)).drewN nq⟩
  show Ending.returned (.tuple #[.int .i64 0, .int .i64 _]) = _
  rw [Int.mul_comm]
end Go.Proofs.Qxb6500376aGreatDoor

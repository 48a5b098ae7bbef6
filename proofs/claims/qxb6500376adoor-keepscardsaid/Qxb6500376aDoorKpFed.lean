/- Keeps: fed (written by tools/genfed.py). -/
import Derived.Test.Qxb6500376aDoorKpBase
namespace Go.Proofs.Qxb6500376aDoor
set_option linter.unusedVariables false
set_option linter.unusedSimpArgs false
set_option maxHeartbeats 4000000
set_option maxRecDepth 100000
open Go.RowKit Go.Qu Ieee

theorem fed_0a (gp : Nat) (g : PS) (b v m X D su pk dp hi lo sq dr pk' dp' : Int) (w : World) (h : Gh w gp g) (d1 : 1 ≤ g.depth) (d2 : g.depth ≤ 32) (v1 : -2147483648 ≤ v) (v2 : v ≤ 2147483647) (m1 : 0 ≤ m) (m2 : m ≤ 4294967295) (e7 : bits .and .i64 (v + m + 2147483648) 4294967295 = X) (e8 : X - 2147483648 = D) (D1 : -2147483648 ≤ D) (D2 : D ≤ 2147483647) (wd : D / 2 ^ (32 - g.depth).toNat = 0) (r0 : 0 ≤ dr) (r1 : dr ≤ 4611686018427387904) (hpk : pk' = pk) (hdp : dp' = dp) :
    Calls Tryd.prog 40 #[.pointer (some ⟨gp, 0, none⟩), .agg #[.int .i64 su, .int .i64 pk, .int .i64 dp, .int .i64 hi, .int .i64 lo, .int .i64 sq, .int .i64 dr], .agg #[.int .i64 su, .int .i64 pk', .int .i64 dp', .int .i64 hi, .int .i64 lo, .int .i64 sq, .int .i64 (dr + 1)], .int .i64 b, .int .i64 v, .int .i64 0, .int .i64 m] w fun e w' => e = .returned (.bool true) ∧ Gh w' gp g ∧ Chg (fun k => k = gp) w w' := by
  subst hpk
  subst hdp
  have H : Hid (Gh w gp g) := h
  have i9 : ∀ o1 o2 : Obj, ((w.alloc o1).alloc o2).cell? ⟨gp, 9, none⟩ = some (.int .i64 g.depth) := fun o1 o2 => (((h.obj.alloc o1).alloc o2).cell 9).trans (gh_get g h.len).2.1
  clear h
  go_enter Tryd.func40, Tryd.ntmps40
  go_wp2_with fail
  go_ret
  exact ⟨rfl, H.out.nil (((Chg.refl _ w).alloc _).alloc _), ((Chg.refl _ w).alloc _).alloc _⟩

theorem fed_0b (gp : Nat) (g : PS) (b v m X D su pk dp hi lo sq dr pk' dp' : Int) (w : World) (h : Gh w gp g) (d1 : 1 ≤ g.depth) (d2 : g.depth ≤ 32) (v1 : -2147483648 ≤ v) (v2 : v ≤ 2147483647) (m1 : 0 ≤ m) (m2 : m ≤ 4294967295) (e7 : bits .and .i64 (v + m + 2147483648) 4294967295 = X) (e8 : X - 2147483648 = D) (D1 : -2147483648 ≤ D) (D2 : D ≤ 2147483647) (wd : D / 2 ^ (32 - g.depth).toNat = 0) (r0 : 0 ≤ dr) (r1 : dr ≤ 4611686018427387904) (hpk : pk' = pk) (hdn : dp' ≠ dp) (hdp : dp' = b) :
    Calls Tryd.prog 40 #[.pointer (some ⟨gp, 0, none⟩), .agg #[.int .i64 su, .int .i64 pk, .int .i64 dp, .int .i64 hi, .int .i64 lo, .int .i64 sq, .int .i64 dr], .agg #[.int .i64 su, .int .i64 pk', .int .i64 dp', .int .i64 hi, .int .i64 lo, .int .i64 sq, .int .i64 (dr + 1)], .int .i64 b, .int .i64 v, .int .i64 0, .int .i64 m] w fun e w' => e = .returned (.bool true) ∧ Gh w' gp g ∧ Chg (fun k => k = gp) w w' := by
  subst hpk
  subst hdp
  have kd1 : (dp' == dp) = false := by simpa using hdn
  have H : Hid (Gh w gp g) := h
  have i9 : ∀ o1 o2 : Obj, ((w.alloc o1).alloc o2).cell? ⟨gp, 9, none⟩ = some (.int .i64 g.depth) := fun o1 o2 => (((h.obj.alloc o1).alloc o2).cell 9).trans (gh_get g h.len).2.1
  clear h
  go_enter Tryd.func40, Tryd.ntmps40
  go_wp2_with fail
  go_ret
  exact ⟨rfl, H.out.nil (((Chg.refl _ w).alloc _).alloc _), ((Chg.refl _ w).alloc _).alloc _⟩

theorem fed_0c (gp : Nat) (g : PS) (b v m X D su pk dp hi lo sq dr pk' dp' : Int) (w : World) (h : Gh w gp g) (d1 : 1 ≤ g.depth) (d2 : g.depth ≤ 32) (v1 : -2147483648 ≤ v) (v2 : v ≤ 2147483647) (m1 : 0 ≤ m) (m2 : m ≤ 4294967295) (e7 : bits .and .i64 (v + m + 2147483648) 4294967295 = X) (e8 : X - 2147483648 = D) (D1 : -2147483648 ≤ D) (D2 : D ≤ 2147483647) (wd : D / 2 ^ (32 - g.depth).toNat = 0) (r0 : 0 ≤ dr) (r1 : dr ≤ 4611686018427387904) (hpn : pk' ≠ pk) (hpk : pk' = b) (hdp : dp' = dp) :
    Calls Tryd.prog 40 #[.pointer (some ⟨gp, 0, none⟩), .agg #[.int .i64 su, .int .i64 pk, .int .i64 dp, .int .i64 hi, .int .i64 lo, .int .i64 sq, .int .i64 dr], .agg #[.int .i64 su, .int .i64 pk', .int .i64 dp', .int .i64 hi, .int .i64 lo, .int .i64 sq, .int .i64 (dr + 1)], .int .i64 b, .int .i64 v, .int .i64 0, .int .i64 m] w fun e w' => e = .returned (.bool true) ∧ Gh w' gp g ∧ Chg (fun k => k = gp) w w' := by
  subst hpk
  subst hdp
  have kp1 : (pk' == pk) = false := by simpa using hpn
  have H : Hid (Gh w gp g) := h
  have i9 : ∀ o1 o2 : Obj, ((w.alloc o1).alloc o2).cell? ⟨gp, 9, none⟩ = some (.int .i64 g.depth) := fun o1 o2 => (((h.obj.alloc o1).alloc o2).cell 9).trans (gh_get g h.len).2.1
  clear h
  go_enter Tryd.func40, Tryd.ntmps40
  go_wp2_with fail
  go_ret
  exact ⟨rfl, H.out.nil (((Chg.refl _ w).alloc _).alloc _), ((Chg.refl _ w).alloc _).alloc _⟩

theorem fed_0d (gp : Nat) (g : PS) (b v m X D su pk dp hi lo sq dr pk' dp' : Int) (w : World) (h : Gh w gp g) (d1 : 1 ≤ g.depth) (d2 : g.depth ≤ 32) (v1 : -2147483648 ≤ v) (v2 : v ≤ 2147483647) (m1 : 0 ≤ m) (m2 : m ≤ 4294967295) (e7 : bits .and .i64 (v + m + 2147483648) 4294967295 = X) (e8 : X - 2147483648 = D) (D1 : -2147483648 ≤ D) (D2 : D ≤ 2147483647) (wd : D / 2 ^ (32 - g.depth).toNat = 0) (r0 : 0 ≤ dr) (r1 : dr ≤ 4611686018427387904) (hpn : pk' ≠ pk) (hpk : pk' = b) (hdn : dp' ≠ dp) (hdp : dp' = b) :
    Calls Tryd.prog 40 #[.pointer (some ⟨gp, 0, none⟩), .agg #[.int .i64 su, .int .i64 pk, .int .i64 dp, .int .i64 hi, .int .i64 lo, .int .i64 sq, .int .i64 dr], .agg #[.int .i64 su, .int .i64 pk', .int .i64 dp', .int .i64 hi, .int .i64 lo, .int .i64 sq, .int .i64 (dr + 1)], .int .i64 b, .int .i64 v, .int .i64 0, .int .i64 m] w fun e w' => e = .returned (.bool true) ∧ Gh w' gp g ∧ Chg (fun k => k = gp) w w' := by
  subst hdp
  have kp1 : (pk' == pk) = false := by simpa using hpn
  subst hpk
  have kd1 : (pk' == dp) = false := by simpa using hdn
  have H : Hid (Gh w gp g) := h
  have i9 : ∀ o1 o2 : Obj, ((w.alloc o1).alloc o2).cell? ⟨gp, 9, none⟩ = some (.int .i64 g.depth) := fun o1 o2 => (((h.obj.alloc o1).alloc o2).cell 9).trans (gh_get g h.len).2.1
  clear h
  go_enter Tryd.func40, Tryd.ntmps40
  go_wp2_with fail
  go_ret
  exact ⟨rfl, H.out.nil (((Chg.refl _ w).alloc _).alloc _), ((Chg.refl _ w).alloc _).alloc _⟩

theorem fed_1a (gp : Nat) (g : PS) (b v m X D W su pk dp hi lo sq dr pk' dp' su' hi' lo' A' : Int) (w : World) (h : Gh w gp g) (d1 : 1 ≤ g.depth) (d2 : g.depth ≤ 32) (v1 : -2147483648 ≤ v) (v2 : v ≤ 2147483647) (m1 : 0 ≤ m) (m2 : m ≤ 4294967295) (e7 : bits .and .i64 (v + m + 2147483648) 4294967295 = X) (e8 : X - 2147483648 = D) (D1 : -2147483648 ≤ D) (D2 : D ≤ 2147483647) (wd : D / 2 ^ (32 - g.depth).toNat = W) (r0 : 0 ≤ dr) (r1 : dr ≤ 4611686018427387904) (n : Int) (hg : Good g n) (W0 : W ≠ 0) (w1 : -2147483648 ≤ W) (w2b : W ≤ 2147483647) (s1 : -2147483648 ≤ su) (s2 : su ≤ 2147483647) (s3 : -2147483648 ≤ su') (s4 : su' ≤ 2147483647) (eS : bits .and .i64 (su' - 31 * su - W) 4294967295 = 0) (eh : hi' = sumSq (g.ring.set g.at_.toNat W) / 4294967296) (el : lo' = sumSq (g.ring.set g.at_.toNat W) % 4294967296) (hpk : pk' = pk) (hdp : dp' = dp) :
    Calls Tryd.prog 40 #[.pointer (some ⟨gp, 0, none⟩), .agg #[.int .i64 su, .int .i64 pk, .int .i64 dp, .int .i64 hi, .int .i64 lo, .int .i64 sq, .int .i64 dr], .agg #[.int .i64 su', .int .i64 pk', .int .i64 dp', .int .i64 hi', .int .i64 lo', .int .i64 sq, .int .i64 dr], .int .i64 b, .int .i64 v, .int .i64 W, .int .i64 m] w fun e w' => e = .returned (.bool true) ∧ Gh w' gp { g with ring := g.ring.set g.at_.toNat W, at_ := (g.at_ + 1) % 8 } ∧ Chg (fun k => k = gp) w w' := by
  subst hpk
  subst hdp
  have H : Hid (Gh w gp g) := h
  have HG : Hid (Good g n) := hg
  have kW : (W == 0) = false := by simpa using W0
  obtain ⟨aN, haN⟩ : ∃ aN : Nat, g.at_ = aN := ⟨g.at_.toNat, by have := hg.a0; omega⟩
  have ha8 : aN < 8 := by have := hg.a8; omega
  have hatn : g.at_.toNat = aN := by omega
  have a8i : (aN : Int) < 8 := by omega
  rw [hatn] at eh el ⊢
  have HR : Hid ((g.ring.set aN W).length = 8 ∧ ∀ r ∈ g.ring.set aN W, -2147483648 ≤ r ∧ r ≤ 2147483647) := ⟨by simpa using hg.len, fun r hr => by
    rcases List.mem_or_eq_of_mem_set hr with h | h
    · exact hg.rg r h
    · subst h; exact ⟨w1, w2b⟩⟩
  obtain ⟨R, hR⟩ : ∃ R, g.ring.set aN W = R := ⟨_, rfl⟩
  obtain ⟨AT, hAT⟩ : ∃ AT, (g.at_ + 1) % 8 = AT := ⟨_, rfl⟩
  rw [hR] at eh el HR ⊢
  rw [hAT]
  have HE : Hid (hi' = sumSq R / 4294967296 ∧ lo' = sumSq R % 4294967296 ∧ aN < 8 ∧ g.at_ = aN ∧ g.ring.set aN W = R ∧ (g.at_ + 1) % 8 = AT) := ⟨eh, el, ha8, haN, hR, hAT⟩
  have i9 : ∀ o1 o2 : Obj, ((w.alloc o1).alloc o2).cell? ⟨gp, 9, none⟩ = some (.int .i64 g.depth) := fun o1 o2 => (((h.obj.alloc o1).alloc o2).cell 9).trans (gh_get g h.len).2.1
  have i8 : ∀ o1 o2 : Obj, ((w.alloc o1).alloc o2).cell? ⟨gp, 8, none⟩ = some (.int .i64 aN) := fun o1 o2 => by rw [← haN]; exact (((h.obj.alloc o1).alloc o2).cell 8).trans (gh_get g h.len).1
  clear h hg eh el ha8 haN hatn hR hAT
  go_enter Tryd.func40, Tryd.ntmps40
  go_wp2_with fail
  have H2 : Hid (Gh ((w.alloc (.cells #[.int .i64 su, .int .i64 pk', .int .i64 dp', .int .i64 hi, .int .i64 lo, .int .i64 sq, .int .i64 dr] 44)).alloc (.cells #[.int .i64 su', .int .i64 pk', .int .i64 dp', .int .i64 hi', .int .i64 lo', .int .i64 sq, .int .i64 dr] 44)) gp g) := H.out.nil (((Chg.refl _ w).alloc _).alloc _)
  have C2 : Hid (Chg (fun k => k = gp) w ((w.alloc (.cells #[.int .i64 su, .int .i64 pk', .int .i64 dp', .int .i64 hi, .int .i64 lo, .int .i64 sq, .int .i64 dr] 44)).alloc (.cells #[.int .i64 su', .int .i64 pk', .int .i64 dp', .int .i64 hi', .int .i64 lo', .int .i64 sq, .int .i64 dr] 44))) := ((Chg.refl _ w).alloc _).alloc _
  have B2 : Hid (Has 44 ((w.alloc (.cells #[.int .i64 su, .int .i64 pk', .int .i64 dp', .int .i64 hi, .int .i64 lo, .int .i64 sq, .int .i64 dr] 44)).alloc (.cells #[.int .i64 su', .int .i64 pk', .int .i64 dp', .int .i64 hi', .int .i64 lo', .int .i64 sq, .int .i64 dr] 44)) (w.heap.size + 1) [.int .i64 su', .int .i64 pk', .int .i64 dp', .int .i64 hi', .int .i64 lo', .int .i64 sq, .int .i64 dr]) := hasAt (by simp) [.int .i64 su', .int .i64 pk', .int .i64 dp', .int .i64 hi', .int .i64 lo', .int .i64 sq, .int .i64 dr]
  have LT : Hid (gp < w.heap.size) := H.out.lt
  clear H i9 i8
  generalize ((w.alloc (.cells #[.int .i64 su, .int .i64 pk', .int .i64 dp', .int .i64 hi, .int .i64 lo, .int .i64 sq, .int .i64 dr] 44)).alloc (.cells #[.int .i64 su', .int .i64 pk', .int .i64 dp', .int .i64 hi', .int .i64 lo', .int .i64 sq, .int .i64 dr] 44)) = w2 at H2 C2 B2 ⊢
  have i8 : w2.cell? ⟨gp, 8, none⟩ = some (.int .i64 aN) := by rw [← HE.out.2.2.2.1]; exact H2.out.cell 8 (gh_get g H2.out.len).1
  have z8 := H2.out.frozen 8
  have ir := H2.out.ring aN HE.out.2.2.1
  have zr := H2.out.frozen aN
  have k8 : ∀ (w : World) (v : Value), (w.setCell ⟨gp, aN, none⟩ v).cell? ⟨gp, 8, none⟩ = w.cell? ⟨gp, 8, none⟩ := fun w v => World.cell?_setCell_other w _ _ v (fun e => by have h1 := congrArg Addr.off e; have h2 := HE.out.2.2.1; simp only at h1; omega)
  go_region
  go_wp2_with fail
  have H3 : Gh (((w2.setCell ⟨gp, aN, none⟩ (.int .i64 W)).setCell ⟨gp, 8, none⟩ (.int .i64 (((aN : Int) + 1) % 8))).drew) gp { g with ring := R, at_ := AT } := by
    rw [← HE.out.2.2.2.2.1, ← HE.out.2.2.2.2.2, HE.out.2.2.2.1]; exact ((H2.out.setRing aN HE.out.2.2.1 W).setAt _).drew
  go_loopg [16, 17, 18] 8 (fun gk hi lo i wr => ∃ (k : Nat) (A B : Int), k ≤ 8 ∧ gk = 8 - k ∧ i = .int .i64 k ∧ hi = .int .i64 A ∧ lo = .int .i64 B ∧ A = sHi (R.take k) ∧ B = sLo (R.take k) ∧ Gh wr gp { g with ring := R, at_ := AT } ∧ Has 44 wr (w.heap.size + 1) [.int .i64 su', .int .i64 pk', .int .i64 dp', .int .i64 hi', .int .i64 lo', .int .i64 sq, .int .i64 dr] ∧ Chg (fun k => k = gp) w wr)
  case atStart => exact ⟨0, 0, 0, by omega, by omega, rfl, rfl, rfl, by simp [sHi], by simp [sLo], H3, (((B2.out.setOther (by show gp ≠ _; have := LT.out; omega) _).setOther (by show gp ≠ _; have := LT.out; omega) _).drew), ((C2.out.setCell (Or.inl rfl) _).setCell (Or.inl rfl) _).drew⟩
  case round =>
    obtain ⟨k, A, B, hk, rfl, rfl, rfl, rfl, hA, hB, hm, hb2, hc⟩ := hrel
    clear H3 H2 C2 B2 i8 z8 ir zr k8
    have HM : Hid (Gh wr gp { g with ring := R, at_ := AT } ∧ Has 44 wr (w.heap.size + 1) [.int .i64 su', .int .i64 pk', .int .i64 dp', .int .i64 hi', .int .i64 lo', .int .i64 sq, .int .i64 dr] ∧ Chg (fun k => k = gp) w wr) := ⟨hm, hb2, hc⟩
    clear hm hb2 hc
    have hlen := HR.out.1
    have lt := List.length_take_le k R
    have bA := sHi_bound (R.take k) (fun r hr => HR.out.2 r (List.mem_of_mem_take hr))
    have bB := sLo_bound (R.take k)
    rw [← hA] at bA
    rw [← hB] at bB
    have A0 : 0 ≤ A := bA.1
    have A1 : A ≤ 8589934592 := by have := bA.2; omega
    have B0 : 0 ≤ B := bB.1
    have B1 : B ≤ 34359738360 := by have := bB.2; omega
    by_cases h8 : k < 8
    · have f1 : wr.cell? ⟨gp, k, none⟩ = some (.int .i64 (R.getD k 0)) := HM.out.1.ring k h8
      have hr := HR.out.2 (R.getD k 0) (by rw [List.getD_eq_getElem?_getD, List.getElem?_eq_getElem (by omega)]; simp)
      have hs := sq_bound hr.1 hr.2
      have nx := take_next (l := R) (k := k) (by omega)
      have nA : sHi (R.take (k + 1)) = A + R.getD k 0 * R.getD k 0 / 4294967296 := by rw [nx, sHi_append, ← hA]; simp [sHi]
      have nB : sLo (R.take (k + 1)) = B + R.getD k 0 * R.getD k 0 % 4294967296 := by rw [nx, sLo_append, ← hB]; simp [sLo]
      obtain ⟨r, hrr⟩ : ∃ r, R.getD k 0 = r := ⟨_, rfl⟩
      rw [hrr] at f1 hs nA nB
      have X0 := hs.1
      have X1 := hs.2
      have m1 : wrap64 (r * r) = r * r := by rw [wrap64]; omega
      have m2 : bits .and .i64 (r * r) 4294967295 = r * r % 4294967296 := and32 _
      have HN : Hid (sHi (R.take (k + 1)) = A + r * r / 4294967296 ∧ sLo (R.take (k + 1)) = B + r * r % 4294967296 ∧ k < 8) := ⟨nA, nB, h8⟩
      have k8 : (k : Int) < 8 := by omega
      clear hA hB hlen lt bA bB hr hs nx nA nB hrr hk h8
      go_wp2
      go_quiet (fail)
      go_wp2
      have hn := HN.out
      go_roundg (8 - (k + 1))
      case measure => omega
      case rel => exact ⟨k + 1, _, _, by omega, rfl, by simp, rfl, rfl, hn.1.symm, hn.2.1.symm, HM.out.1.drewN _, HM.out.2.1.drewN _, HM.out.2.2.drewN _⟩
    · have hk8 : k = 8 := by omega
      subst hk8
      have hAB : sumSq R = A * 4294967296 + B := by rw [hA, hB, List.take_of_length_le (by omega)]; exact sHiLo _
      have t1 : A + B / 4294967296 = hi' := by rw [HE.out.1, hAB]; omega
      have t2 : bits .and .i64 B 4294967295 = lo' := by rw [HE.out.2.1, hAB, and32]; omega
      have y3 : wr.cell? ⟨w.heap.size + 1, 3, none⟩ = some (.int .i64 hi') := HM.out.2.1.cell 3
      have y4 : wr.cell? ⟨w.heap.size + 1, 4, none⟩ = some (.int .i64 lo') := HM.out.2.1.cell 4
      clear hA hB hlen lt bA bB hk h8 hAB
      go_wp2
      go_ret
      exact ⟨rfl, HM.out.1, HM.out.2.2⟩

theorem fed_1b (gp : Nat) (g : PS) (b v m X D W su pk dp hi lo sq dr pk' dp' su' hi' lo' A' : Int) (w : World) (h : Gh w gp g) (d1 : 1 ≤ g.depth) (d2 : g.depth ≤ 32) (v1 : -2147483648 ≤ v) (v2 : v ≤ 2147483647) (m1 : 0 ≤ m) (m2 : m ≤ 4294967295) (e7 : bits .and .i64 (v + m + 2147483648) 4294967295 = X) (e8 : X - 2147483648 = D) (D1 : -2147483648 ≤ D) (D2 : D ≤ 2147483647) (wd : D / 2 ^ (32 - g.depth).toNat = W) (r0 : 0 ≤ dr) (r1 : dr ≤ 4611686018427387904) (n : Int) (hg : Good g n) (W0 : W ≠ 0) (w1 : -2147483648 ≤ W) (w2b : W ≤ 2147483647) (s1 : -2147483648 ≤ su) (s2 : su ≤ 2147483647) (s3 : -2147483648 ≤ su') (s4 : su' ≤ 2147483647) (eS : bits .and .i64 (su' - 31 * su - W) 4294967295 = 0) (eh : hi' = sumSq (g.ring.set g.at_.toNat W) / 4294967296) (el : lo' = sumSq (g.ring.set g.at_.toNat W) % 4294967296) (hpk : pk' = pk) (hdn : dp' ≠ dp) (hdp : dp' = b) :
    Calls Tryd.prog 40 #[.pointer (some ⟨gp, 0, none⟩), .agg #[.int .i64 su, .int .i64 pk, .int .i64 dp, .int .i64 hi, .int .i64 lo, .int .i64 sq, .int .i64 dr], .agg #[.int .i64 su', .int .i64 pk', .int .i64 dp', .int .i64 hi', .int .i64 lo', .int .i64 sq, .int .i64 dr], .int .i64 b, .int .i64 v, .int .i64 W, .int .i64 m] w fun e w' => e = .returned (.bool true) ∧ Gh w' gp { g with ring := g.ring.set g.at_.toNat W, at_ := (g.at_ + 1) % 8 } ∧ Chg (fun k => k = gp) w w' := by
  subst hpk
  subst hdp
  have kd1 : (dp' == dp) = false := by simpa using hdn
  have H : Hid (Gh w gp g) := h
  have HG : Hid (Good g n) := hg
  have kW : (W == 0) = false := by simpa using W0
  obtain ⟨aN, haN⟩ : ∃ aN : Nat, g.at_ = aN := ⟨g.at_.toNat, by have := hg.a0; omega⟩
  have ha8 : aN < 8 := by have := hg.a8; omega
  have hatn : g.at_.toNat = aN := by omega
  have a8i : (aN : Int) < 8 := by omega
  rw [hatn] at eh el ⊢
  have HR : Hid ((g.ring.set aN W).length = 8 ∧ ∀ r ∈ g.ring.set aN W, -2147483648 ≤ r ∧ r ≤ 2147483647) := ⟨by simpa using hg.len, fun r hr => by
    rcases List.mem_or_eq_of_mem_set hr with h | h
    · exact hg.rg r h
    · subst h; exact ⟨w1, w2b⟩⟩
  obtain ⟨R, hR⟩ : ∃ R, g.ring.set aN W = R := ⟨_, rfl⟩
  obtain ⟨AT, hAT⟩ : ∃ AT, (g.at_ + 1) % 8 = AT := ⟨_, rfl⟩
  rw [hR] at eh el HR ⊢
  rw [hAT]
  have HE : Hid (hi' = sumSq R / 4294967296 ∧ lo' = sumSq R % 4294967296 ∧ aN < 8 ∧ g.at_ = aN ∧ g.ring.set aN W = R ∧ (g.at_ + 1) % 8 = AT) := ⟨eh, el, ha8, haN, hR, hAT⟩
  have i9 : ∀ o1 o2 : Obj, ((w.alloc o1).alloc o2).cell? ⟨gp, 9, none⟩ = some (.int .i64 g.depth) := fun o1 o2 => (((h.obj.alloc o1).alloc o2).cell 9).trans (gh_get g h.len).2.1
  have i8 : ∀ o1 o2 : Obj, ((w.alloc o1).alloc o2).cell? ⟨gp, 8, none⟩ = some (.int .i64 aN) := fun o1 o2 => by rw [← haN]; exact (((h.obj.alloc o1).alloc o2).cell 8).trans (gh_get g h.len).1
  clear h hg eh el ha8 haN hatn hR hAT
  go_enter Tryd.func40, Tryd.ntmps40
  go_wp2_with fail
  have H2 : Hid (Gh ((w.alloc (.cells #[.int .i64 su, .int .i64 pk', .int .i64 dp, .int .i64 hi, .int .i64 lo, .int .i64 sq, .int .i64 dr] 44)).alloc (.cells #[.int .i64 su', .int .i64 pk', .int .i64 dp', .int .i64 hi', .int .i64 lo', .int .i64 sq, .int .i64 dr] 44)) gp g) := H.out.nil (((Chg.refl _ w).alloc _).alloc _)
  have C2 : Hid (Chg (fun k => k = gp) w ((w.alloc (.cells #[.int .i64 su, .int .i64 pk', .int .i64 dp, .int .i64 hi, .int .i64 lo, .int .i64 sq, .int .i64 dr] 44)).alloc (.cells #[.int .i64 su', .int .i64 pk', .int .i64 dp', .int .i64 hi', .int .i64 lo', .int .i64 sq, .int .i64 dr] 44))) := ((Chg.refl _ w).alloc _).alloc _
  have B2 : Hid (Has 44 ((w.alloc (.cells #[.int .i64 su, .int .i64 pk', .int .i64 dp, .int .i64 hi, .int .i64 lo, .int .i64 sq, .int .i64 dr] 44)).alloc (.cells #[.int .i64 su', .int .i64 pk', .int .i64 dp', .int .i64 hi', .int .i64 lo', .int .i64 sq, .int .i64 dr] 44)) (w.heap.size + 1) [.int .i64 su', .int .i64 pk', .int .i64 dp', .int .i64 hi', .int .i64 lo', .int .i64 sq, .int .i64 dr]) := hasAt (by simp) [.int .i64 su', .int .i64 pk', .int .i64 dp', .int .i64 hi', .int .i64 lo', .int .i64 sq, .int .i64 dr]
  have LT : Hid (gp < w.heap.size) := H.out.lt
  clear H i9 i8
  generalize ((w.alloc (.cells #[.int .i64 su, .int .i64 pk', .int .i64 dp, .int .i64 hi, .int .i64 lo, .int .i64 sq, .int .i64 dr] 44)).alloc (.cells #[.int .i64 su', .int .i64 pk', .int .i64 dp', .int .i64 hi', .int .i64 lo', .int .i64 sq, .int .i64 dr] 44)) = w2 at H2 C2 B2 ⊢
  have i8 : w2.cell? ⟨gp, 8, none⟩ = some (.int .i64 aN) := by rw [← HE.out.2.2.2.1]; exact H2.out.cell 8 (gh_get g H2.out.len).1
  have z8 := H2.out.frozen 8
  have ir := H2.out.ring aN HE.out.2.2.1
  have zr := H2.out.frozen aN
  have k8 : ∀ (w : World) (v : Value), (w.setCell ⟨gp, aN, none⟩ v).cell? ⟨gp, 8, none⟩ = w.cell? ⟨gp, 8, none⟩ := fun w v => World.cell?_setCell_other w _ _ v (fun e => by have h1 := congrArg Addr.off e; have h2 := HE.out.2.2.1; simp only at h1; omega)
  go_region
  go_wp2_with fail
  have H3 : Gh (((w2.setCell ⟨gp, aN, none⟩ (.int .i64 W)).setCell ⟨gp, 8, none⟩ (.int .i64 (((aN : Int) + 1) % 8))).drew) gp { g with ring := R, at_ := AT } := by
    rw [← HE.out.2.2.2.2.1, ← HE.out.2.2.2.2.2, HE.out.2.2.2.1]; exact ((H2.out.setRing aN HE.out.2.2.1 W).setAt _).drew
  go_loopg [16, 17, 18] 8 (fun gk hi lo i wr => ∃ (k : Nat) (A B : Int), k ≤ 8 ∧ gk = 8 - k ∧ i = .int .i64 k ∧ hi = .int .i64 A ∧ lo = .int .i64 B ∧ A = sHi (R.take k) ∧ B = sLo (R.take k) ∧ Gh wr gp { g with ring := R, at_ := AT } ∧ Has 44 wr (w.heap.size + 1) [.int .i64 su', .int .i64 pk', .int .i64 dp', .int .i64 hi', .int .i64 lo', .int .i64 sq, .int .i64 dr] ∧ Chg (fun k => k = gp) w wr)
  case atStart => exact ⟨0, 0, 0, by omega, by omega, rfl, rfl, rfl, by simp [sHi], by simp [sLo], H3, (((B2.out.setOther (by show gp ≠ _; have := LT.out; omega) _).setOther (by show gp ≠ _; have := LT.out; omega) _).drew), ((C2.out.setCell (Or.inl rfl) _).setCell (Or.inl rfl) _).drew⟩
  case round =>
    obtain ⟨k, A, B, hk, rfl, rfl, rfl, rfl, hA, hB, hm, hb2, hc⟩ := hrel
    clear H3 H2 C2 B2 i8 z8 ir zr k8
    have HM : Hid (Gh wr gp { g with ring := R, at_ := AT } ∧ Has 44 wr (w.heap.size + 1) [.int .i64 su', .int .i64 pk', .int .i64 dp', .int .i64 hi', .int .i64 lo', .int .i64 sq, .int .i64 dr] ∧ Chg (fun k => k = gp) w wr) := ⟨hm, hb2, hc⟩
    clear hm hb2 hc
    have hlen := HR.out.1
    have lt := List.length_take_le k R
    have bA := sHi_bound (R.take k) (fun r hr => HR.out.2 r (List.mem_of_mem_take hr))
    have bB := sLo_bound (R.take k)
    rw [← hA] at bA
    rw [← hB] at bB
    have A0 : 0 ≤ A := bA.1
    have A1 : A ≤ 8589934592 := by have := bA.2; omega
    have B0 : 0 ≤ B := bB.1
    have B1 : B ≤ 34359738360 := by have := bB.2; omega
    by_cases h8 : k < 8
    · have f1 : wr.cell? ⟨gp, k, none⟩ = some (.int .i64 (R.getD k 0)) := HM.out.1.ring k h8
      have hr := HR.out.2 (R.getD k 0) (by rw [List.getD_eq_getElem?_getD, List.getElem?_eq_getElem (by omega)]; simp)
      have hs := sq_bound hr.1 hr.2
      have nx := take_next (l := R) (k := k) (by omega)
      have nA : sHi (R.take (k + 1)) = A + R.getD k 0 * R.getD k 0 / 4294967296 := by rw [nx, sHi_append, ← hA]; simp [sHi]
      have nB : sLo (R.take (k + 1)) = B + R.getD k 0 * R.getD k 0 % 4294967296 := by rw [nx, sLo_append, ← hB]; simp [sLo]
      obtain ⟨r, hrr⟩ : ∃ r, R.getD k 0 = r := ⟨_, rfl⟩
      rw [hrr] at f1 hs nA nB
      have X0 := hs.1
      have X1 := hs.2
      have m1 : wrap64 (r * r) = r * r := by rw [wrap64]; omega
      have m2 : bits .and .i64 (r * r) 4294967295 = r * r % 4294967296 := and32 _
      have HN : Hid (sHi (R.take (k + 1)) = A + r * r / 4294967296 ∧ sLo (R.take (k + 1)) = B + r * r % 4294967296 ∧ k < 8) := ⟨nA, nB, h8⟩
      have k8 : (k : Int) < 8 := by omega
      clear hA hB hlen lt bA bB hr hs nx nA nB hrr hk h8
      go_wp2
      go_quiet (fail)
      go_wp2
      have hn := HN.out
      go_roundg (8 - (k + 1))
      case measure => omega
      case rel => exact ⟨k + 1, _, _, by omega, rfl, by simp, rfl, rfl, hn.1.symm, hn.2.1.symm, HM.out.1.drewN _, HM.out.2.1.drewN _, HM.out.2.2.drewN _⟩
    · have hk8 : k = 8 := by omega
      subst hk8
      have hAB : sumSq R = A * 4294967296 + B := by rw [hA, hB, List.take_of_length_le (by omega)]; exact sHiLo _
      have t1 : A + B / 4294967296 = hi' := by rw [HE.out.1, hAB]; omega
      have t2 : bits .and .i64 B 4294967295 = lo' := by rw [HE.out.2.1, hAB, and32]; omega
      have y3 : wr.cell? ⟨w.heap.size + 1, 3, none⟩ = some (.int .i64 hi') := HM.out.2.1.cell 3
      have y4 : wr.cell? ⟨w.heap.size + 1, 4, none⟩ = some (.int .i64 lo') := HM.out.2.1.cell 4
      clear hA hB hlen lt bA bB hk h8 hAB
      go_wp2
      go_ret
      exact ⟨rfl, HM.out.1, HM.out.2.2⟩

theorem fed_1c (gp : Nat) (g : PS) (b v m X D W su pk dp hi lo sq dr pk' dp' su' hi' lo' A' : Int) (w : World) (h : Gh w gp g) (d1 : 1 ≤ g.depth) (d2 : g.depth ≤ 32) (v1 : -2147483648 ≤ v) (v2 : v ≤ 2147483647) (m1 : 0 ≤ m) (m2 : m ≤ 4294967295) (e7 : bits .and .i64 (v + m + 2147483648) 4294967295 = X) (e8 : X - 2147483648 = D) (D1 : -2147483648 ≤ D) (D2 : D ≤ 2147483647) (wd : D / 2 ^ (32 - g.depth).toNat = W) (r0 : 0 ≤ dr) (r1 : dr ≤ 4611686018427387904) (n : Int) (hg : Good g n) (W0 : W ≠ 0) (w1 : -2147483648 ≤ W) (w2b : W ≤ 2147483647) (s1 : -2147483648 ≤ su) (s2 : su ≤ 2147483647) (s3 : -2147483648 ≤ su') (s4 : su' ≤ 2147483647) (eS : bits .and .i64 (su' - 31 * su - W) 4294967295 = 0) (eh : hi' = sumSq (g.ring.set g.at_.toNat W) / 4294967296) (el : lo' = sumSq (g.ring.set g.at_.toNat W) % 4294967296) (hpn : pk' ≠ pk) (hpk : pk' = b) (hdp : dp' = dp) :
    Calls Tryd.prog 40 #[.pointer (some ⟨gp, 0, none⟩), .agg #[.int .i64 su, .int .i64 pk, .int .i64 dp, .int .i64 hi, .int .i64 lo, .int .i64 sq, .int .i64 dr], .agg #[.int .i64 su', .int .i64 pk', .int .i64 dp', .int .i64 hi', .int .i64 lo', .int .i64 sq, .int .i64 dr], .int .i64 b, .int .i64 v, .int .i64 W, .int .i64 m] w fun e w' => e = .returned (.bool true) ∧ Gh w' gp { g with ring := g.ring.set g.at_.toNat W, at_ := (g.at_ + 1) % 8 } ∧ Chg (fun k => k = gp) w w' := by
  subst hpk
  subst hdp
  have kp1 : (pk' == pk) = false := by simpa using hpn
  have H : Hid (Gh w gp g) := h
  have HG : Hid (Good g n) := hg
  have kW : (W == 0) = false := by simpa using W0
  obtain ⟨aN, haN⟩ : ∃ aN : Nat, g.at_ = aN := ⟨g.at_.toNat, by have := hg.a0; omega⟩
  have ha8 : aN < 8 := by have := hg.a8; omega
  have hatn : g.at_.toNat = aN := by omega
  have a8i : (aN : Int) < 8 := by omega
  rw [hatn] at eh el ⊢
  have HR : Hid ((g.ring.set aN W).length = 8 ∧ ∀ r ∈ g.ring.set aN W, -2147483648 ≤ r ∧ r ≤ 2147483647) := ⟨by simpa using hg.len, fun r hr => by
    rcases List.mem_or_eq_of_mem_set hr with h | h
    · exact hg.rg r h
    · subst h; exact ⟨w1, w2b⟩⟩
  obtain ⟨R, hR⟩ : ∃ R, g.ring.set aN W = R := ⟨_, rfl⟩
  obtain ⟨AT, hAT⟩ : ∃ AT, (g.at_ + 1) % 8 = AT := ⟨_, rfl⟩
  rw [hR] at eh el HR ⊢
  rw [hAT]
  have HE : Hid (hi' = sumSq R / 4294967296 ∧ lo' = sumSq R % 4294967296 ∧ aN < 8 ∧ g.at_ = aN ∧ g.ring.set aN W = R ∧ (g.at_ + 1) % 8 = AT) := ⟨eh, el, ha8, haN, hR, hAT⟩
  have i9 : ∀ o1 o2 : Obj, ((w.alloc o1).alloc o2).cell? ⟨gp, 9, none⟩ = some (.int .i64 g.depth) := fun o1 o2 => (((h.obj.alloc o1).alloc o2).cell 9).trans (gh_get g h.len).2.1
  have i8 : ∀ o1 o2 : Obj, ((w.alloc o1).alloc o2).cell? ⟨gp, 8, none⟩ = some (.int .i64 aN) := fun o1 o2 => by rw [← haN]; exact (((h.obj.alloc o1).alloc o2).cell 8).trans (gh_get g h.len).1
  clear h hg eh el ha8 haN hatn hR hAT
  go_enter Tryd.func40, Tryd.ntmps40
  go_wp2_with fail
  have H2 : Hid (Gh ((w.alloc (.cells #[.int .i64 su, .int .i64 pk, .int .i64 dp', .int .i64 hi, .int .i64 lo, .int .i64 sq, .int .i64 dr] 44)).alloc (.cells #[.int .i64 su', .int .i64 pk', .int .i64 dp', .int .i64 hi', .int .i64 lo', .int .i64 sq, .int .i64 dr] 44)) gp g) := H.out.nil (((Chg.refl _ w).alloc _).alloc _)
  have C2 : Hid (Chg (fun k => k = gp) w ((w.alloc (.cells #[.int .i64 su, .int .i64 pk, .int .i64 dp', .int .i64 hi, .int .i64 lo, .int .i64 sq, .int .i64 dr] 44)).alloc (.cells #[.int .i64 su', .int .i64 pk', .int .i64 dp', .int .i64 hi', .int .i64 lo', .int .i64 sq, .int .i64 dr] 44))) := ((Chg.refl _ w).alloc _).alloc _
  have B2 : Hid (Has 44 ((w.alloc (.cells #[.int .i64 su, .int .i64 pk, .int .i64 dp', .int .i64 hi, .int .i64 lo, .int .i64 sq, .int .i64 dr] 44)).alloc (.cells #[.int .i64 su', .int .i64 pk', .int .i64 dp', .int .i64 hi', .int .i64 lo', .int .i64 sq, .int .i64 dr] 44)) (w.heap.size + 1) [.int .i64 su', .int .i64 pk', .int .i64 dp', .int .i64 hi', .int .i64 lo', .int .i64 sq, .int .i64 dr]) := hasAt (by simp) [.int .i64 su', .int .i64 pk', .int .i64 dp', .int .i64 hi', .int .i64 lo', .int .i64 sq, .int .i64 dr]
  have LT : Hid (gp < w.heap.size) := H.out.lt
  clear H i9 i8
  generalize ((w.alloc (.cells #[.int .i64 su, .int .i64 pk, .int .i64 dp', .int .i64 hi, .int .i64 lo, .int .i64 sq, .int .i64 dr] 44)).alloc (.cells #[.int .i64 su', .int .i64 pk', .int .i64 dp', .int .i64 hi', .int .i64 lo', .int .i64 sq, .int .i64 dr] 44)) = w2 at H2 C2 B2 ⊢
  have i8 : w2.cell? ⟨gp, 8, none⟩ = some (.int .i64 aN) := by rw [← HE.out.2.2.2.1]; exact H2.out.cell 8 (gh_get g H2.out.len).1
  have z8 := H2.out.frozen 8
  have ir := H2.out.ring aN HE.out.2.2.1
  have zr := H2.out.frozen aN
  have k8 : ∀ (w : World) (v : Value), (w.setCell ⟨gp, aN, none⟩ v).cell? ⟨gp, 8, none⟩ = w.cell? ⟨gp, 8, none⟩ := fun w v => World.cell?_setCell_other w _ _ v (fun e => by have h1 := congrArg Addr.off e; have h2 := HE.out.2.2.1; simp only at h1; omega)
  go_region
  go_wp2_with fail
  have H3 : Gh (((w2.setCell ⟨gp, aN, none⟩ (.int .i64 W)).setCell ⟨gp, 8, none⟩ (.int .i64 (((aN : Int) + 1) % 8))).drew) gp { g with ring := R, at_ := AT } := by
    rw [← HE.out.2.2.2.2.1, ← HE.out.2.2.2.2.2, HE.out.2.2.2.1]; exact ((H2.out.setRing aN HE.out.2.2.1 W).setAt _).drew
  go_loopg [16, 17, 18] 8 (fun gk hi lo i wr => ∃ (k : Nat) (A B : Int), k ≤ 8 ∧ gk = 8 - k ∧ i = .int .i64 k ∧ hi = .int .i64 A ∧ lo = .int .i64 B ∧ A = sHi (R.take k) ∧ B = sLo (R.take k) ∧ Gh wr gp { g with ring := R, at_ := AT } ∧ Has 44 wr (w.heap.size + 1) [.int .i64 su', .int .i64 pk', .int .i64 dp', .int .i64 hi', .int .i64 lo', .int .i64 sq, .int .i64 dr] ∧ Chg (fun k => k = gp) w wr)
  case atStart => exact ⟨0, 0, 0, by omega, by omega, rfl, rfl, rfl, by simp [sHi], by simp [sLo], H3, (((B2.out.setOther (by show gp ≠ _; have := LT.out; omega) _).setOther (by show gp ≠ _; have := LT.out; omega) _).drew), ((C2.out.setCell (Or.inl rfl) _).setCell (Or.inl rfl) _).drew⟩
  case round =>
    obtain ⟨k, A, B, hk, rfl, rfl, rfl, rfl, hA, hB, hm, hb2, hc⟩ := hrel
    clear H3 H2 C2 B2 i8 z8 ir zr k8
    have HM : Hid (Gh wr gp { g with ring := R, at_ := AT } ∧ Has 44 wr (w.heap.size + 1) [.int .i64 su', .int .i64 pk', .int .i64 dp', .int .i64 hi', .int .i64 lo', .int .i64 sq, .int .i64 dr] ∧ Chg (fun k => k = gp) w wr) := ⟨hm, hb2, hc⟩
    clear hm hb2 hc
    have hlen := HR.out.1
    have lt := List.length_take_le k R
    have bA := sHi_bound (R.take k) (fun r hr => HR.out.2 r (List.mem_of_mem_take hr))
    have bB := sLo_bound (R.take k)
    rw [← hA] at bA
    rw [← hB] at bB
    have A0 : 0 ≤ A := bA.1
    have A1 : A ≤ 8589934592 := by have := bA.2; omega
    have B0 : 0 ≤ B := bB.1
    have B1 : B ≤ 34359738360 := by have := bB.2; omega
    by_cases h8 : k < 8
    · have f1 : wr.cell? ⟨gp, k, none⟩ = some (.int .i64 (R.getD k 0)) := HM.out.1.ring k h8
      have hr := HR.out.2 (R.getD k 0) (by rw [List.getD_eq_getElem?_getD, List.getElem?_eq_getElem (by omega)]; simp)
      have hs := sq_bound hr.1 hr.2
      have nx := take_next (l := R) (k := k) (by omega)
      have nA : sHi (R.take (k + 1)) = A + R.getD k 0 * R.getD k 0 / 4294967296 := by rw [nx, sHi_append, ← hA]; simp [sHi]
      have nB : sLo (R.take (k + 1)) = B + R.getD k 0 * R.getD k 0 % 4294967296 := by rw [nx, sLo_append, ← hB]; simp [sLo]
      obtain ⟨r, hrr⟩ : ∃ r, R.getD k 0 = r := ⟨_, rfl⟩
      rw [hrr] at f1 hs nA nB
      have X0 := hs.1
      have X1 := hs.2
      have m1 : wrap64 (r * r) = r * r := by rw [wrap64]; omega
      have m2 : bits .and .i64 (r * r) 4294967295 = r * r % 4294967296 := and32 _
      have HN : Hid (sHi (R.take (k + 1)) = A + r * r / 4294967296 ∧ sLo (R.take (k + 1)) = B + r * r % 4294967296 ∧ k < 8) := ⟨nA, nB, h8⟩
      have k8 : (k : Int) < 8 := by omega
      clear hA hB hlen lt bA bB hr hs nx nA nB hrr hk h8
      go_wp2
      go_quiet (fail)
      go_wp2
      have hn := HN.out
      go_roundg (8 - (k + 1))
      case measure => omega
      case rel => exact ⟨k + 1, _, _, by omega, rfl, by simp, rfl, rfl, hn.1.symm, hn.2.1.symm, HM.out.1.drewN _, HM.out.2.1.drewN _, HM.out.2.2.drewN _⟩
    · have hk8 : k = 8 := by omega
      subst hk8
      have hAB : sumSq R = A * 4294967296 + B := by rw [hA, hB, List.take_of_length_le (by omega)]; exact sHiLo _
      have t1 : A + B / 4294967296 = hi' := by rw [HE.out.1, hAB]; omega
      have t2 : bits .and .i64 B 4294967295 = lo' := by rw [HE.out.2.1, hAB, and32]; omega
      have y3 : wr.cell? ⟨w.heap.size + 1, 3, none⟩ = some (.int .i64 hi') := HM.out.2.1.cell 3
      have y4 : wr.cell? ⟨w.heap.size + 1, 4, none⟩ = some (.int .i64 lo') := HM.out.2.1.cell 4
      clear hA hB hlen lt bA bB hk h8 hAB
      go_wp2
      go_ret
      exact ⟨rfl, HM.out.1, HM.out.2.2⟩

theorem fed_1d (gp : Nat) (g : PS) (b v m X D W su pk dp hi lo sq dr pk' dp' su' hi' lo' A' : Int) (w : World) (h : Gh w gp g) (d1 : 1 ≤ g.depth) (d2 : g.depth ≤ 32) (v1 : -2147483648 ≤ v) (v2 : v ≤ 2147483647) (m1 : 0 ≤ m) (m2 : m ≤ 4294967295) (e7 : bits .and .i64 (v + m + 2147483648) 4294967295 = X) (e8 : X - 2147483648 = D) (D1 : -2147483648 ≤ D) (D2 : D ≤ 2147483647) (wd : D / 2 ^ (32 - g.depth).toNat = W) (r0 : 0 ≤ dr) (r1 : dr ≤ 4611686018427387904) (n : Int) (hg : Good g n) (W0 : W ≠ 0) (w1 : -2147483648 ≤ W) (w2b : W ≤ 2147483647) (s1 : -2147483648 ≤ su) (s2 : su ≤ 2147483647) (s3 : -2147483648 ≤ su') (s4 : su' ≤ 2147483647) (eS : bits .and .i64 (su' - 31 * su - W) 4294967295 = 0) (eh : hi' = sumSq (g.ring.set g.at_.toNat W) / 4294967296) (el : lo' = sumSq (g.ring.set g.at_.toNat W) % 4294967296) (hpn : pk' ≠ pk) (hpk : pk' = b) (hdn : dp' ≠ dp) (hdp : dp' = b) :
    Calls Tryd.prog 40 #[.pointer (some ⟨gp, 0, none⟩), .agg #[.int .i64 su, .int .i64 pk, .int .i64 dp, .int .i64 hi, .int .i64 lo, .int .i64 sq, .int .i64 dr], .agg #[.int .i64 su', .int .i64 pk', .int .i64 dp', .int .i64 hi', .int .i64 lo', .int .i64 sq, .int .i64 dr], .int .i64 b, .int .i64 v, .int .i64 W, .int .i64 m] w fun e w' => e = .returned (.bool true) ∧ Gh w' gp { g with ring := g.ring.set g.at_.toNat W, at_ := (g.at_ + 1) % 8 } ∧ Chg (fun k => k = gp) w w' := by
  subst hdp
  have kp1 : (pk' == pk) = false := by simpa using hpn
  subst hpk
  have kd1 : (pk' == dp) = false := by simpa using hdn
  have H : Hid (Gh w gp g) := h
  have HG : Hid (Good g n) := hg
  have kW : (W == 0) = false := by simpa using W0
  obtain ⟨aN, haN⟩ : ∃ aN : Nat, g.at_ = aN := ⟨g.at_.toNat, by have := hg.a0; omega⟩
  have ha8 : aN < 8 := by have := hg.a8; omega
  have hatn : g.at_.toNat = aN := by omega
  have a8i : (aN : Int) < 8 := by omega
  rw [hatn] at eh el ⊢
  have HR : Hid ((g.ring.set aN W).length = 8 ∧ ∀ r ∈ g.ring.set aN W, -2147483648 ≤ r ∧ r ≤ 2147483647) := ⟨by simpa using hg.len, fun r hr => by
    rcases List.mem_or_eq_of_mem_set hr with h | h
    · exact hg.rg r h
    · subst h; exact ⟨w1, w2b⟩⟩
  obtain ⟨R, hR⟩ : ∃ R, g.ring.set aN W = R := ⟨_, rfl⟩
  obtain ⟨AT, hAT⟩ : ∃ AT, (g.at_ + 1) % 8 = AT := ⟨_, rfl⟩
  rw [hR] at eh el HR ⊢
  rw [hAT]
  have HE : Hid (hi' = sumSq R / 4294967296 ∧ lo' = sumSq R % 4294967296 ∧ aN < 8 ∧ g.at_ = aN ∧ g.ring.set aN W = R ∧ (g.at_ + 1) % 8 = AT) := ⟨eh, el, ha8, haN, hR, hAT⟩
  have i9 : ∀ o1 o2 : Obj, ((w.alloc o1).alloc o2).cell? ⟨gp, 9, none⟩ = some (.int .i64 g.depth) := fun o1 o2 => (((h.obj.alloc o1).alloc o2).cell 9).trans (gh_get g h.len).2.1
  have i8 : ∀ o1 o2 : Obj, ((w.alloc o1).alloc o2).cell? ⟨gp, 8, none⟩ = some (.int .i64 aN) := fun o1 o2 => by rw [← haN]; exact (((h.obj.alloc o1).alloc o2).cell 8).trans (gh_get g h.len).1
  clear h hg eh el ha8 haN hatn hR hAT
  go_enter Tryd.func40, Tryd.ntmps40
  go_wp2_with fail
  have H2 : Hid (Gh ((w.alloc (.cells #[.int .i64 su, .int .i64 pk, .int .i64 dp, .int .i64 hi, .int .i64 lo, .int .i64 sq, .int .i64 dr] 44)).alloc (.cells #[.int .i64 su', .int .i64 pk', .int .i64 pk', .int .i64 hi', .int .i64 lo', .int .i64 sq, .int .i64 dr] 44)) gp g) := H.out.nil (((Chg.refl _ w).alloc _).alloc _)
  have C2 : Hid (Chg (fun k => k = gp) w ((w.alloc (.cells #[.int .i64 su, .int .i64 pk, .int .i64 dp, .int .i64 hi, .int .i64 lo, .int .i64 sq, .int .i64 dr] 44)).alloc (.cells #[.int .i64 su', .int .i64 pk', .int .i64 pk', .int .i64 hi', .int .i64 lo', .int .i64 sq, .int .i64 dr] 44))) := ((Chg.refl _ w).alloc _).alloc _
  have B2 : Hid (Has 44 ((w.alloc (.cells #[.int .i64 su, .int .i64 pk, .int .i64 dp, .int .i64 hi, .int .i64 lo, .int .i64 sq, .int .i64 dr] 44)).alloc (.cells #[.int .i64 su', .int .i64 pk', .int .i64 pk', .int .i64 hi', .int .i64 lo', .int .i64 sq, .int .i64 dr] 44)) (w.heap.size + 1) [.int .i64 su', .int .i64 pk', .int .i64 pk', .int .i64 hi', .int .i64 lo', .int .i64 sq, .int .i64 dr]) := hasAt (by simp) [.int .i64 su', .int .i64 pk', .int .i64 pk', .int .i64 hi', .int .i64 lo', .int .i64 sq, .int .i64 dr]
  have LT : Hid (gp < w.heap.size) := H.out.lt
  clear H i9 i8
  generalize ((w.alloc (.cells #[.int .i64 su, .int .i64 pk, .int .i64 dp, .int .i64 hi, .int .i64 lo, .int .i64 sq, .int .i64 dr] 44)).alloc (.cells #[.int .i64 su', .int .i64 pk', .int .i64 pk', .int .i64 hi', .int .i64 lo', .int .i64 sq, .int .i64 dr] 44)) = w2 at H2 C2 B2 ⊢
  have i8 : w2.cell? ⟨gp, 8, none⟩ = some (.int .i64 aN) := by rw [← HE.out.2.2.2.1]; exact H2.out.cell 8 (gh_get g H2.out.len).1
  have z8 := H2.out.frozen 8
  have ir := H2.out.ring aN HE.out.2.2.1
  have zr := H2.out.frozen aN
  have k8 : ∀ (w : World) (v : Value), (w.setCell ⟨gp, aN, none⟩ v).cell? ⟨gp, 8, none⟩ = w.cell? ⟨gp, 8, none⟩ := fun w v => World.cell?_setCell_other w _ _ v (fun e => by have h1 := congrArg Addr.off e; have h2 := HE.out.2.2.1; simp only at h1; omega)
  go_region
  go_wp2_with fail
  have H3 : Gh (((w2.setCell ⟨gp, aN, none⟩ (.int .i64 W)).setCell ⟨gp, 8, none⟩ (.int .i64 (((aN : Int) + 1) % 8))).drew) gp { g with ring := R, at_ := AT } := by
    rw [← HE.out.2.2.2.2.1, ← HE.out.2.2.2.2.2, HE.out.2.2.2.1]; exact ((H2.out.setRing aN HE.out.2.2.1 W).setAt _).drew
  go_loopg [16, 17, 18] 8 (fun gk hi lo i wr => ∃ (k : Nat) (A B : Int), k ≤ 8 ∧ gk = 8 - k ∧ i = .int .i64 k ∧ hi = .int .i64 A ∧ lo = .int .i64 B ∧ A = sHi (R.take k) ∧ B = sLo (R.take k) ∧ Gh wr gp { g with ring := R, at_ := AT } ∧ Has 44 wr (w.heap.size + 1) [.int .i64 su', .int .i64 pk', .int .i64 pk', .int .i64 hi', .int .i64 lo', .int .i64 sq, .int .i64 dr] ∧ Chg (fun k => k = gp) w wr)
  case atStart => exact ⟨0, 0, 0, by omega, by omega, rfl, rfl, rfl, by simp [sHi], by simp [sLo], H3, (((B2.out.setOther (by show gp ≠ _; have := LT.out; omega) _).setOther (by show gp ≠ _; have := LT.out; omega) _).drew), ((C2.out.setCell (Or.inl rfl) _).setCell (Or.inl rfl) _).drew⟩
  case round =>
    obtain ⟨k, A, B, hk, rfl, rfl, rfl, rfl, hA, hB, hm, hb2, hc⟩ := hrel
    clear H3 H2 C2 B2 i8 z8 ir zr k8
    have HM : Hid (Gh wr gp { g with ring := R, at_ := AT } ∧ Has 44 wr (w.heap.size + 1) [.int .i64 su', .int .i64 pk', .int .i64 pk', .int .i64 hi', .int .i64 lo', .int .i64 sq, .int .i64 dr] ∧ Chg (fun k => k = gp) w wr) := ⟨hm, hb2, hc⟩
    clear hm hb2 hc
    have hlen := HR.out.1
    have lt := List.length_take_le k R
    have bA := sHi_bound (R.take k) (fun r hr => HR.out.2 r (List.mem_of_mem_take hr))
    have bB := sLo_bound (R.take k)
    rw [← hA] at bA
    rw [← hB] at bB
    have A0 : 0 ≤ A := bA.1
    have A1 : A ≤ 8589934592 := by have := bA.2; omega
    have B0 : 0 ≤ B := bB.1
    have B1 : B ≤ 34359738360 := by have := bB.2; omega
    by_cases h8 : k < 8
    · have f1 : wr.cell? ⟨gp, k, none⟩ = some (.int .i64 (R.getD k 0)) := HM.out.1.ring k h8
      have hr := HR.out.2 (R.getD k 0) (by rw [List.getD_eq_getElem?_getD, List.getElem?_eq_getElem (by omega)]; simp)
      have hs := sq_bound hr.1 hr.2
      have nx := take_next (l := R) (k := k) (by omega)
      have nA : sHi (R.take (k + 1)) = A + R.getD k 0 * R.getD k 0 / 4294967296 := by rw [nx, sHi_append, ← hA]; simp [sHi]
      have nB : sLo (R.take (k + 1)) = B + R.getD k 0 * R.getD k 0 % 4294967296 := by rw [nx, sLo_append, ← hB]; simp [sLo]
      obtain ⟨r, hrr⟩ : ∃ r, R.getD k 0 = r := ⟨_, rfl⟩
      rw [hrr] at f1 hs nA nB
      have X0 := hs.1
      have X1 := hs.2
      have m1 : wrap64 (r * r) = r * r := by rw [wrap64]; omega
      have m2 : bits .and .i64 (r * r) 4294967295 = r * r % 4294967296 := and32 _
      have HN : Hid (sHi (R.take (k + 1)) = A + r * r / 4294967296 ∧ sLo (R.take (k + 1)) = B + r * r % 4294967296 ∧ k < 8) := ⟨nA, nB, h8⟩
      have k8 : (k : Int) < 8 := by omega
      clear hA hB hlen lt bA bB hr hs nx nA nB hrr hk h8
      go_wp2
      go_quiet (fail)
      go_wp2
      have hn := HN.out
      go_roundg (8 - (k + 1))
      case measure => omega
      case rel => exact ⟨k + 1, _, _, by omega, rfl, by simp, rfl, rfl, hn.1.symm, hn.2.1.symm, HM.out.1.drewN _, HM.out.2.1.drewN _, HM.out.2.2.drewN _⟩
    · have hk8 : k = 8 := by omega
      subst hk8
      have hAB : sumSq R = A * 4294967296 + B := by rw [hA, hB, List.take_of_length_le (by omega)]; exact sHiLo _
      have t1 : A + B / 4294967296 = hi' := by rw [HE.out.1, hAB]; omega
      have t2 : bits .and .i64 B 4294967295 = lo' := by rw [HE.out.2.1, hAB, and32]; omega
      have y3 : wr.cell? ⟨w.heap.size + 1, 3, none⟩ = some (.int .i64 hi') := HM.out.2.1.cell 3
      have y4 : wr.cell? ⟨w.heap.size + 1, 4, none⟩ = some (.int .i64 lo') := HM.out.2.1.cell 4
      clear hA hB hlen lt bA bB hk h8 hAB
      go_wp2
      go_ret
      exact ⟨rfl, HM.out.1, HM.out.2.2⟩

end Go.Proofs.Qxb6500376aDoor

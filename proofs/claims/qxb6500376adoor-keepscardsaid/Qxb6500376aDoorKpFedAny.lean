/- Keeps: fed, all cases. -/
import Derived.Test.Qxb6500376aDoorKpFed
namespace Go.Proofs.Qxb6500376aDoor
set_option linter.unusedVariables false
set_option linter.unusedSimpArgs false
set_option maxHeartbeats 4000000
open Go.RowKit Go.Qu Ieee

theorem peak_or (p b : Int) : peakI p b = p ∨ peakI p b = b := by unfold peakI; split <;> simp
theorem dip_or (p b : Int) : dipI p b = p ∨ dipI p b = b := by unfold dipI; split <;> simp
theorem sum_low (su W : Int) : bits .and .i64 (wrap32 (su * 31 + W) - 31 * su - W) 4294967295 = 0 := by rw [and32, wrap32]; omega
theorem fed_any (gp : Nat) (g : PS) (n b d m : Int) (w : World) (hg : Good g n) (hn : n ≤ 4611686018427387904) (hx : ¬ 9218868437227405312 < mg b) (m1 : 0 ≤ m) (m2 : m ≤ 4294967295) (hd : ∀ v : Int, wrap32 (v + m) = wrap32 (v + d)) (h : Gh w gp g) :
    Calls Tryd.prog 40 #[.pointer (some ⟨gp, 0, none⟩), befV g, befV (fedP g b d).2, .int .i64 b, .int .i64 (fedP g b d).1.n, .int .i64 (fedP g b d).1.k, .int .i64 m] w fun e w' => e = .returned (.bool true) ∧ Gh w' gp (fedP g b d).2 ∧ Chg (fun k => k = gp) w w' := by
  have rb := roundI_bounds b g.mode (-2147483648) 2147483647 (by decide)
  have hdv := hd (roundI b g.mode (-2147483648) 2147483647).1
  unfold fedP
  rw [if_neg hx]
  generalize (roundI b g.mode (-2147483648) 2147483647).1 = v at *
  generalize ((roundI b g.mode (-2147483648) 2147483647).2.toNat : Int) = dc at *
  have wb := wordP_bounds g v d
  obtain ⟨W, hW⟩ : ∃ W, wordP g v d = W := ⟨_, rfl⟩
  have hwd : wrap32 (v + d) / 2 ^ (32 - g.depth).toNat = W := hW
  rw [hW] at wb ⊢
  rw [← hdv] at hwd
  have e7 : bits .and .i64 (v + m + 2147483648) 4294967295 = (v + m + 2147483648) % 4294967296 := and32 _
  have e8 : (v + m + 2147483648) % 4294967296 - 2147483648 = wrap32 (v + m) := by rw [wrap32]
  have D1 := (wrap32_bounds (v + m)).1
  have D2 := (wrap32_bounds (v + m)).2
  have hr1 : g.dropped ≤ 4611686018427387904 := by have := hg.r1; omega
  unfold befV
  by_cases h0 : W = 0
  · subst h0
    rw [if_pos rfl]
    dsimp only
    by_cases hp : peakI g.peak b = g.peak
    · by_cases hq : dipI g.dip b = g.dip
      · exact (fed_0a gp g b v m _ _ _ _ _ _ _ _ _ _ _ w h hg.d1 hg.d2 rb.1 rb.2.1 m1 m2 e7 e8 D1 D2 hwd hg.r0 hr1 hp hq).mono fun e w' ⟨h1, h2, h3⟩ => ⟨h1, h2.same rfl rfl rfl rfl, h3⟩
      · exact (fed_0b gp g b v m _ _ _ _ _ _ _ _ _ _ _ w h hg.d1 hg.d2 rb.1 rb.2.1 m1 m2 e7 e8 D1 D2 hwd hg.r0 hr1 hp hq ((dip_or _ _).resolve_left hq)).mono fun e w' ⟨h1, h2, h3⟩ => ⟨h1, h2.same rfl rfl rfl rfl, h3⟩
    · by_cases hq : dipI g.dip b = g.dip
      · exact (fed_0c gp g b v m _ _ _ _ _ _ _ _ _ _ _ w h hg.d1 hg.d2 rb.1 rb.2.1 m1 m2 e7 e8 D1 D2 hwd hg.r0 hr1 hp ((peak_or _ _).resolve_left hp) hq).mono fun e w' ⟨h1, h2, h3⟩ => ⟨h1, h2.same rfl rfl rfl rfl, h3⟩
      · exact (fed_0d gp g b v m _ _ _ _ _ _ _ _ _ _ _ w h hg.d1 hg.d2 rb.1 rb.2.1 m1 m2 e7 e8 D1 D2 hwd hg.r0 hr1 hp ((peak_or _ _).resolve_left hp) hq ((dip_or _ _).resolve_left hq)).mono fun e w' ⟨h1, h2, h3⟩ => ⟨h1, h2.same rfl rfl rfl rfl, h3⟩
  · rw [if_neg h0]
    dsimp only
    have b1 := wrap32_bounds (g.sum * 31 + W)
    by_cases hp : peakI g.peak b = g.peak
    · by_cases hq : dipI g.dip b = g.dip
      · exact (fed_1a gp g b v m _ _ W _ _ _ _ _ _ _ _ _ _ _ _ 0 w h hg.d1 hg.d2 rb.1 rb.2.1 m1 m2 e7 e8 D1 D2 hwd hg.r0 hr1 n hg h0 wb.1 wb.2 hg.s1 hg.s2 b1.1 b1.2 (sum_low _ _) rfl rfl hp hq).mono fun e w' ⟨h1, h2, h3⟩ => ⟨h1, h2.same rfl rfl rfl rfl, h3⟩
      · exact (fed_1b gp g b v m _ _ W _ _ _ _ _ _ _ _ _ _ _ _ 0 w h hg.d1 hg.d2 rb.1 rb.2.1 m1 m2 e7 e8 D1 D2 hwd hg.r0 hr1 n hg h0 wb.1 wb.2 hg.s1 hg.s2 b1.1 b1.2 (sum_low _ _) rfl rfl hp hq ((dip_or _ _).resolve_left hq)).mono fun e w' ⟨h1, h2, h3⟩ => ⟨h1, h2.same rfl rfl rfl rfl, h3⟩
    · by_cases hq : dipI g.dip b = g.dip
      · exact (fed_1c gp g b v m _ _ W _ _ _ _ _ _ _ _ _ _ _ _ 0 w h hg.d1 hg.d2 rb.1 rb.2.1 m1 m2 e7 e8 D1 D2 hwd hg.r0 hr1 n hg h0 wb.1 wb.2 hg.s1 hg.s2 b1.1 b1.2 (sum_low _ _) rfl rfl hp ((peak_or _ _).resolve_left hp) hq).mono fun e w' ⟨h1, h2, h3⟩ => ⟨h1, h2.same rfl rfl rfl rfl, h3⟩
      · exact (fed_1d gp g b v m _ _ W _ _ _ _ _ _ _ _ _ _ _ _ 0 w h hg.d1 hg.d2 rb.1 rb.2.1 m1 m2 e7 e8 D1 D2 hwd hg.r0 hr1 n hg h0 wb.1 wb.2 hg.s1 hg.s2 b1.1 b1.2 (sum_low _ _) rfl rfl hp ((peak_or _ _).resolve_left hp) hq ((dip_or _ _).resolve_left hq)).mono fun e w' ⟨h1, h2, h3⟩ => ⟨h1, h2.same rfl rfl rfl rfl, h3⟩
end Go.Proofs.Qxb6500376aDoor

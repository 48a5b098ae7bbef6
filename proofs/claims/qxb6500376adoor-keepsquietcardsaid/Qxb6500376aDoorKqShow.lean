/- The shade as a text. -/
import Derived.Test.Qxb6500376aDoorKqItoa
namespace Go.Proofs.Qxb6500376aDoor
set_option linter.unusedVariables false
set_option linter.unusedSimpArgs false
set_option maxHeartbeats 0
set_option maxRecDepth 100000
open Go.RowKit Go.Qu Ieee

theorem itoam_bs (v : Int) (h : InI v) (w : World) : Calls Tryd.prog 57 #[.int .i64 v] w fun e w' => e = .returned (.string (bs (Lib.itoa v))) ∧ Chg (fun _ => False) w w' := itoam_any v h w
theorem show_split (g : PS) (hpk : I64 g.peak) (hdp : I64 g.dip) {r0 r1 r2 r3 r4 r5 r6 r7 : Int} (er : g.ring = [r0, r1, r2, r3, r4, r5, r6, r7]) :
    showC (realS g) g.c g.z = ((((((((((((((((([100, 101, 112, 116, 104, 61] ++ Lib.itoa g.depth) ++ ([32, 109, 111, 100, 101, 61] ++ Lib.itoa g.mode)) ++ ([32, 115, 117, 109, 61] ++ Lib.itoa g.sum)) ++ ([32, 112, 101, 97, 107, 61] ++ Lib.itoa g.peak)) ++ ([32, 100, 105, 112, 61] ++ Lib.itoa g.dip)) ++ ([32, 97, 116, 61] ++ Lib.itoa g.at_)) ++ ([32] ++ Lib.itoa r0)) ++ ([32] ++ Lib.itoa r1)) ++ ([32] ++ Lib.itoa r2)) ++ ([32] ++ Lib.itoa r3)) ++ ([32] ++ Lib.itoa r4)) ++ ([32] ++ Lib.itoa r5)) ++ ([32] ++ Lib.itoa r6)) ++ ([32] ++ Lib.itoa r7)) ++ ([32, 115, 101, 113, 61] ++ Lib.itoa g.seq)) ++ ([32, 100, 114, 111, 112, 112, 101, 100, 61] ++ Lib.itoa g.dropped)) ++ [32, 124, 32]) ++ showQ g.c g.z := by
  have e1 : wrap64 (realS g).peak = g.peak := back_bits hpk
  have e2 : wrap64 (realS g).dip = g.dip := back_bits hdp
  unfold showC shHead shTail shRing
  rw [e1, e2, show (realS g).ring = g.ring from rfl, er, show (realS g).depth = g.depth from rfl, show (realS g).mode = g.mode from rfl, show (realS g).sum = g.sum from rfl, show (realS g).at_ = g.at_ from rfl, show (realS g).seq = g.seq from rfl, show (realS g).dropped = g.dropped from rfl]
  simp
theorem shown_any (p l : Nat) (g : PS) (n : Int) (w : World) (hg : Good g n) (hn : n ≤ 4611686018427387904) (h : Sh w p g) (hq : Cv w l g.c g.z) (ht : Tab w) :
    Calls Tryd.prog 44 #[.pointer (some ⟨l, 0, none⟩), .pointer (some ⟨p, 0, none⟩)] w fun e w' => e = .returned (.string (textP g)) ∧ Sh w' p g ∧ Chg (fun _ => False) w w' := by
  obtain ⟨r0, r1, r2, r3, r4, r5, r6, r7, er⟩ := len8 hg.len
  have hri := hg.rg
  rw [er] at hri
  simp only [List.mem_cons, List.not_mem_nil, or_false, forall_eq_or_imp, forall_eq] at hri
  obtain ⟨⟨j0a, j0b⟩, ⟨j1a, j1b⟩, ⟨j2a, j2b⟩, ⟨j3a, j3b⟩, ⟨j4a, j4b⟩, ⟨j5a, j5b⟩, ⟨j6a, j6b⟩, ⟨j7a, j7b⟩⟩ := hri
  have d1 := hg.d1; have d2 := hg.d2; have m0 := hg.m0; have m3 := hg.m3; have s1 := hg.s1; have s2 := hg.s2; have a0 := hg.a0; have a8 := hg.a8; have q0 := hg.q0; have q1 := hg.q1; have R0 := hg.r0; have R1 := hg.r1; have c0 := hg.c0; have c1 := hg.c1; have z0 := hg.z0; have z1 := hg.z1; have pk := hg.pk; have dp := hg.dp
  unfold I64 at pk dp
  have v0 : InI g.depth := ⟨by omega, by omega⟩
  have v1 : InI g.mode := ⟨by omega, by omega⟩
  have v2 : InI g.sum := ⟨by omega, by omega⟩
  have v3 : InI g.peak := ⟨by omega, by omega⟩
  have v4 : InI g.dip := ⟨by omega, by omega⟩
  have v5 : InI g.at_ := ⟨by omega, by omega⟩
  have v6 : InI r0 := ⟨by omega, by omega⟩
  have v7 : InI r1 := ⟨by omega, by omega⟩
  have v8 : InI r2 := ⟨by omega, by omega⟩
  have v9 : InI r3 := ⟨by omega, by omega⟩
  have v10 : InI r4 := ⟨by omega, by omega⟩
  have v11 : InI r5 := ⟨by omega, by omega⟩
  have v12 : InI r6 := ⟨by omega, by omega⟩
  have v13 : InI r7 := ⟨by omega, by omega⟩
  have v14 : InI g.seq := ⟨by omega, by omega⟩
  have v15 : InI g.dropped := ⟨by omega, by omega⟩
  have vc : InI g.c := ⟨by omega, by omega⟩
  have vz : InI g.z := ⟨by omega, by omega⟩
  have l0 := len_of v0.1 v0.2
  have l1 := len_of v1.1 v1.2
  have l2 := len_of v2.1 v2.2
  have l3 := len_of v3.1 v3.2
  have l4 := len_of v4.1 v4.2
  have l5 := len_of v5.1 v5.2
  have l6 := len_of v6.1 v6.2
  have l7 := len_of v7.1 v7.2
  have l8 := len_of v8.1 v8.2
  have l9 := len_of v9.1 v9.2
  have l10 := len_of v10.1 v10.2
  have l11 := len_of v11.1 v11.2
  have l12 := len_of v12.1 v12.2
  have l13 := len_of v13.1 v13.2
  have l14 := len_of v14.1 v14.2
  have l15 := len_of v15.1 v15.2
  have lq : (showQ g.c g.z).length ≤ 60 := by have e1 := len_of vc.1 vc.2; have e2 := len_of vz.1 vz.2; unfold showQ; simp; omega
  have ES := show_split g hg.pk hg.dp er
  clear j0a j0b j1a j1b j2a j2b j3a j3b j4a j4b j5a j5b j6a j6b j7a j7b d1 d2 m0 m3 s1 s2 a0 a8 q0 q1 R0 R1 c0 c1 z0 z1 pk dp
  obtain ⟨t0, et0⟩ : ∃ x, x = [100, 101, 112, 116, 104, 61] ++ Lib.itoa g.depth := ⟨_, rfl⟩
  have lt0 : t0.length ≤ 40 := by rw [et0]; simp; omega
  have y0 := fun w => run_catL [100, 101, 112, 116, 104, 61] (Lib.itoa g.depth) (by decide) (by omega) w
  rw [← et0] at y0 ES
  obtain ⟨t1, et1⟩ : ∃ x, x = [32, 109, 111, 100, 101, 61] ++ Lib.itoa g.mode := ⟨_, rfl⟩
  have lt1 : t1.length ≤ 40 := by rw [et1]; simp; omega
  have y1 := fun w => run_catL [32, 109, 111, 100, 101, 61] (Lib.itoa g.mode) (by decide) (by omega) w
  rw [← et1] at y1 ES
  obtain ⟨u1, eu1⟩ : ∃ x, x = t0 ++ t1 := ⟨_, rfl⟩
  have lu1 : u1.length ≤ 80 := by rw [eu1]; simp; omega
  have x1 := fun w => run_cat2 t0 t1 (by omega) (by omega) w
  rw [← eu1] at x1 ES
  obtain ⟨t2, et2⟩ : ∃ x, x = [32, 115, 117, 109, 61] ++ Lib.itoa g.sum := ⟨_, rfl⟩
  have lt2 : t2.length ≤ 40 := by rw [et2]; simp; omega
  have y2 := fun w => run_catL [32, 115, 117, 109, 61] (Lib.itoa g.sum) (by decide) (by omega) w
  rw [← et2] at y2 ES
  obtain ⟨u2, eu2⟩ : ∃ x, x = u1 ++ t2 := ⟨_, rfl⟩
  have lu2 : u2.length ≤ 120 := by rw [eu2]; simp; omega
  have x2 := fun w => run_cat2 u1 t2 (by omega) (by omega) w
  rw [← eu2] at x2 ES
  obtain ⟨t3, et3⟩ : ∃ x, x = [32, 112, 101, 97, 107, 61] ++ Lib.itoa g.peak := ⟨_, rfl⟩
  have lt3 : t3.length ≤ 40 := by rw [et3]; simp; omega
  have y3 := fun w => run_catL [32, 112, 101, 97, 107, 61] (Lib.itoa g.peak) (by decide) (by omega) w
  rw [← et3] at y3 ES
  obtain ⟨u3, eu3⟩ : ∃ x, x = u2 ++ t3 := ⟨_, rfl⟩
  have lu3 : u3.length ≤ 160 := by rw [eu3]; simp; omega
  have x3 := fun w => run_cat2 u2 t3 (by omega) (by omega) w
  rw [← eu3] at x3 ES
  obtain ⟨t4, et4⟩ : ∃ x, x = [32, 100, 105, 112, 61] ++ Lib.itoa g.dip := ⟨_, rfl⟩
  have lt4 : t4.length ≤ 40 := by rw [et4]; simp; omega
  have y4 := fun w => run_catL [32, 100, 105, 112, 61] (Lib.itoa g.dip) (by decide) (by omega) w
  rw [← et4] at y4 ES
  obtain ⟨u4, eu4⟩ : ∃ x, x = u3 ++ t4 := ⟨_, rfl⟩
  have lu4 : u4.length ≤ 200 := by rw [eu4]; simp; omega
  have x4 := fun w => run_cat2 u3 t4 (by omega) (by omega) w
  rw [← eu4] at x4 ES
  obtain ⟨t5, et5⟩ : ∃ x, x = [32, 97, 116, 61] ++ Lib.itoa g.at_ := ⟨_, rfl⟩
  have lt5 : t5.length ≤ 40 := by rw [et5]; simp; omega
  have y5 := fun w => run_catL [32, 97, 116, 61] (Lib.itoa g.at_) (by decide) (by omega) w
  rw [← et5] at y5 ES
  obtain ⟨u5, eu5⟩ : ∃ x, x = u4 ++ t5 := ⟨_, rfl⟩
  have lu5 : u5.length ≤ 240 := by rw [eu5]; simp; omega
  have x5 := fun w => run_cat2 u4 t5 (by omega) (by omega) w
  rw [← eu5] at x5 ES
  obtain ⟨t6, et6⟩ : ∃ x, x = [32] ++ Lib.itoa r0 := ⟨_, rfl⟩
  have lt6 : t6.length ≤ 40 := by rw [et6]; simp; omega
  have y6 := fun w => run_catL [32] (Lib.itoa r0) (by decide) (by omega) w
  rw [← et6] at y6 ES
  obtain ⟨u6, eu6⟩ : ∃ x, x = u5 ++ t6 := ⟨_, rfl⟩
  have lu6 : u6.length ≤ 280 := by rw [eu6]; simp; omega
  have x6 := fun w => run_cat2 u5 t6 (by omega) (by omega) w
  rw [← eu6] at x6 ES
  obtain ⟨t7, et7⟩ : ∃ x, x = [32] ++ Lib.itoa r1 := ⟨_, rfl⟩
  have lt7 : t7.length ≤ 40 := by rw [et7]; simp; omega
  have y7 := fun w => run_catL [32] (Lib.itoa r1) (by decide) (by omega) w
  rw [← et7] at y7 ES
  obtain ⟨u7, eu7⟩ : ∃ x, x = u6 ++ t7 := ⟨_, rfl⟩
  have lu7 : u7.length ≤ 320 := by rw [eu7]; simp; omega
  have x7 := fun w => run_cat2 u6 t7 (by omega) (by omega) w
  rw [← eu7] at x7 ES
  obtain ⟨t8, et8⟩ : ∃ x, x = [32] ++ Lib.itoa r2 := ⟨_, rfl⟩
  have lt8 : t8.length ≤ 40 := by rw [et8]; simp; omega
  have y8 := fun w => run_catL [32] (Lib.itoa r2) (by decide) (by omega) w
  rw [← et8] at y8 ES
  obtain ⟨u8, eu8⟩ : ∃ x, x = u7 ++ t8 := ⟨_, rfl⟩
  have lu8 : u8.length ≤ 360 := by rw [eu8]; simp; omega
  have x8 := fun w => run_cat2 u7 t8 (by omega) (by omega) w
  rw [← eu8] at x8 ES
  obtain ⟨t9, et9⟩ : ∃ x, x = [32] ++ Lib.itoa r3 := ⟨_, rfl⟩
  have lt9 : t9.length ≤ 40 := by rw [et9]; simp; omega
  have y9 := fun w => run_catL [32] (Lib.itoa r3) (by decide) (by omega) w
  rw [← et9] at y9 ES
  obtain ⟨u9, eu9⟩ : ∃ x, x = u8 ++ t9 := ⟨_, rfl⟩
  have lu9 : u9.length ≤ 400 := by rw [eu9]; simp; omega
  have x9 := fun w => run_cat2 u8 t9 (by omega) (by omega) w
  rw [← eu9] at x9 ES
  obtain ⟨t10, et10⟩ : ∃ x, x = [32] ++ Lib.itoa r4 := ⟨_, rfl⟩
  have lt10 : t10.length ≤ 40 := by rw [et10]; simp; omega
  have y10 := fun w => run_catL [32] (Lib.itoa r4) (by decide) (by omega) w
  rw [← et10] at y10 ES
  obtain ⟨u10, eu10⟩ : ∃ x, x = u9 ++ t10 := ⟨_, rfl⟩
  have lu10 : u10.length ≤ 440 := by rw [eu10]; simp; omega
  have x10 := fun w => run_cat2 u9 t10 (by omega) (by omega) w
  rw [← eu10] at x10 ES
  obtain ⟨t11, et11⟩ : ∃ x, x = [32] ++ Lib.itoa r5 := ⟨_, rfl⟩
  have lt11 : t11.length ≤ 40 := by rw [et11]; simp; omega
  have y11 := fun w => run_catL [32] (Lib.itoa r5) (by decide) (by omega) w
  rw [← et11] at y11 ES
  obtain ⟨u11, eu11⟩ : ∃ x, x = u10 ++ t11 := ⟨_, rfl⟩
  have lu11 : u11.length ≤ 480 := by rw [eu11]; simp; omega
  have x11 := fun w => run_cat2 u10 t11 (by omega) (by omega) w
  rw [← eu11] at x11 ES
  obtain ⟨t12, et12⟩ : ∃ x, x = [32] ++ Lib.itoa r6 := ⟨_, rfl⟩
  have lt12 : t12.length ≤ 40 := by rw [et12]; simp; omega
  have y12 := fun w => run_catL [32] (Lib.itoa r6) (by decide) (by omega) w
  rw [← et12] at y12 ES
  obtain ⟨u12, eu12⟩ : ∃ x, x = u11 ++ t12 := ⟨_, rfl⟩
  have lu12 : u12.length ≤ 520 := by rw [eu12]; simp; omega
  have x12 := fun w => run_cat2 u11 t12 (by omega) (by omega) w
  rw [← eu12] at x12 ES
  obtain ⟨t13, et13⟩ : ∃ x, x = [32] ++ Lib.itoa r7 := ⟨_, rfl⟩
  have lt13 : t13.length ≤ 40 := by rw [et13]; simp; omega
  have y13 := fun w => run_catL [32] (Lib.itoa r7) (by decide) (by omega) w
  rw [← et13] at y13 ES
  obtain ⟨u13, eu13⟩ : ∃ x, x = u12 ++ t13 := ⟨_, rfl⟩
  have lu13 : u13.length ≤ 560 := by rw [eu13]; simp; omega
  have x13 := fun w => run_cat2 u12 t13 (by omega) (by omega) w
  rw [← eu13] at x13 ES
  obtain ⟨t14, et14⟩ : ∃ x, x = [32, 115, 101, 113, 61] ++ Lib.itoa g.seq := ⟨_, rfl⟩
  have lt14 : t14.length ≤ 40 := by rw [et14]; simp; omega
  have y14 := fun w => run_catL [32, 115, 101, 113, 61] (Lib.itoa g.seq) (by decide) (by omega) w
  rw [← et14] at y14 ES
  obtain ⟨u14, eu14⟩ : ∃ x, x = u13 ++ t14 := ⟨_, rfl⟩
  have lu14 : u14.length ≤ 600 := by rw [eu14]; simp; omega
  have x14 := fun w => run_cat2 u13 t14 (by omega) (by omega) w
  rw [← eu14] at x14 ES
  obtain ⟨t15, et15⟩ : ∃ x, x = [32, 100, 114, 111, 112, 112, 101, 100, 61] ++ Lib.itoa g.dropped := ⟨_, rfl⟩
  have lt15 : t15.length ≤ 40 := by rw [et15]; simp; omega
  have y15 := fun w => run_catL [32, 100, 114, 111, 112, 112, 101, 100, 61] (Lib.itoa g.dropped) (by decide) (by omega) w
  rw [← et15] at y15 ES
  obtain ⟨u15, eu15⟩ : ∃ x, x = u14 ++ t15 := ⟨_, rfl⟩
  have lu15 : u15.length ≤ 640 := by rw [eu15]; simp; omega
  have x15 := fun w => run_cat2 u14 t15 (by omega) (by omega) w
  rw [← eu15] at x15 ES
  obtain ⟨m1, em1⟩ : ∃ x, x = u15 ++ [32, 124, 32] := ⟨_, rfl⟩
  have lm1 : m1.length ≤ 800 := by rw [em1]; simp; omega
  have x16 := fun w => run_catR u15 [32, 124, 32] (by omega) (by decide) w
  rw [← em1] at x16 ES
  obtain ⟨m2, em2⟩ : ∃ x, x = m1 ++ showQ g.c g.z := ⟨_, rfl⟩
  have x17 := fun w => run_cat2 m1 (showQ g.c g.z) (by omega) (by omega) w
  rw [← em2] at x17 ES
  have ET : Hid (textP g = bs m2) := by show textP g = bs m2; unfold textP; rw [ES]
  rw [ET.out]
  clear ES em1 em2 et0 et1 et2 et3 et4 et5 et6 et7 et8 et9 et10 et11 et12 et13 et14 et15 eu1 eu2 eu3 eu4 eu5 eu6 eu7 eu8 eu9 eu10 eu11 eu12 eu13 eu14 eu15
  have ER : Hid (g.ring = [r0, r1, r2, r3, r4, r5, r6, r7]) := er
  have Q0 : Hid (Sh w p g ∧ Cv w l g.c g.z) := ⟨h, hq⟩
  have HT : Hid (Tab w) := ht
  have HC : Hid (InI g.c ∧ InI g.z) := ⟨vc, vz⟩
  have HB : Hid (0 ≤ g.c ∧ g.c ≤ 4611686018427387904 ∧ 0 ≤ g.z ∧ g.z ≤ 4611686018427387904) := ⟨hg.c0, by have := hg.c1; omega, hg.z0, by have := hg.z1; omega⟩
  have C0 : Hid (Chg (fun _ => False) w w) := Chg.refl _ _
  have HL := h.len
  have cg0 : ∀ {w' : World}, Sh w' p g → w'.cell? ⟨p, 8, none⟩ = some (.int .i64 r0) := fun hh => by have := hh.ring 0 (by omega); rw [er] at this; exact this
  have cg1 : ∀ {w' : World}, Sh w' p g → w'.cell? ⟨p, 9, none⟩ = some (.int .i64 r1) := fun hh => by have := hh.ring 1 (by omega); rw [er] at this; exact this
  have cg2 : ∀ {w' : World}, Sh w' p g → w'.cell? ⟨p, 10, none⟩ = some (.int .i64 r2) := fun hh => by have := hh.ring 2 (by omega); rw [er] at this; exact this
  have cg3 : ∀ {w' : World}, Sh w' p g → w'.cell? ⟨p, 11, none⟩ = some (.int .i64 r3) := fun hh => by have := hh.ring 3 (by omega); rw [er] at this; exact this
  have cg4 : ∀ {w' : World}, Sh w' p g → w'.cell? ⟨p, 12, none⟩ = some (.int .i64 r4) := fun hh => by have := hh.ring 4 (by omega); rw [er] at this; exact this
  have cg5 : ∀ {w' : World}, Sh w' p g → w'.cell? ⟨p, 13, none⟩ = some (.int .i64 r5) := fun hh => by have := hh.ring 5 (by omega); rw [er] at this; exact this
  have cg6 : ∀ {w' : World}, Sh w' p g → w'.cell? ⟨p, 14, none⟩ = some (.int .i64 r6) := fun hh => by have := hh.ring 6 (by omega); rw [er] at this; exact this
  have cg7 : ∀ {w' : World}, Sh w' p g → w'.cell? ⟨p, 15, none⟩ = some (.int .i64 r7) := fun hh => by have := hh.ring 7 (by omega); rw [er] at this; exact this
  have CG : Hid (_ ∧ _ ∧ _ ∧ _ ∧ _ ∧ _ ∧ _ ∧ _) := ⟨@cg0, @cg1, @cg2, @cg3, @cg4, @cg5, @cg6, @cg7⟩
  clear er h hq ht hg hn vc vz cg0 cg1 cg2 cg3 cg4 cg5 cg6 cg7
  have f0 := Q0.out.1.cell 0 (sh_get g HL).1
  go_enter Tryd.func44, Tryd.ntmps44
  go_wp2_with fail
  refine (itoam_bs g.depth v0 _).mono ?_; rintro e w1 ⟨rfl, k⟩; have Q1 : Hid (Sh w1 p g ∧ Cv w1 l g.c g.z) := ⟨Q0.out.1.nil k, Has.kept Q0.out.2 k (fun h => h)⟩; have C1 : Hid (Chg (fun _ => False) w w1) := C0.out.trans k; have f1 := Q1.out.1.cell 1 (sh_get g HL).2.1; clear k Q0 C0 f0 v0
  go_wp2_with fail
  refine (itoam_bs g.mode v1 _).mono ?_; rintro e w2 ⟨rfl, k⟩; have Q2 : Hid (Sh w2 p g ∧ Cv w2 l g.c g.z) := ⟨Q1.out.1.nil k, Has.kept Q1.out.2 k (fun h => h)⟩; have C2 : Hid (Chg (fun _ => False) w w2) := C1.out.trans k; have f2 := Q2.out.1.cell 2 (sh_get g HL).2.2.1; clear k Q1 C1 f1 v1
  go_wp2_with fail
  refine (itoam_bs g.sum v2 _).mono ?_; rintro e w3 ⟨rfl, k⟩; have Q3 : Hid (Sh w3 p g ∧ Cv w3 l g.c g.z) := ⟨Q2.out.1.nil k, Has.kept Q2.out.2 k (fun h => h)⟩; have C3 : Hid (Chg (fun _ => False) w w3) := C2.out.trans k; have f3 := Q3.out.1.cell 3 (sh_get g HL).2.2.2.1; clear k Q2 C2 f2 v2
  go_wp2_with fail
  refine (itoam_bs g.peak v3 _).mono ?_; rintro e w4 ⟨rfl, k⟩; have Q4 : Hid (Sh w4 p g ∧ Cv w4 l g.c g.z) := ⟨Q3.out.1.nil k, Has.kept Q3.out.2 k (fun h => h)⟩; have C4 : Hid (Chg (fun _ => False) w w4) := C3.out.trans k; have f4 := Q4.out.1.cell 4 (sh_get g HL).2.2.2.2.1; clear k Q3 C3 f3 v3
  go_wp2_with fail
  refine (itoam_bs g.dip v4 _).mono ?_; rintro e w5 ⟨rfl, k⟩; have Q5 : Hid (Sh w5 p g ∧ Cv w5 l g.c g.z) := ⟨Q4.out.1.nil k, Has.kept Q4.out.2 k (fun h => h)⟩; have C5 : Hid (Chg (fun _ => False) w w5) := C4.out.trans k; have f5 := Q5.out.1.cell 5 (sh_get g HL).2.2.2.2.2.1; clear k Q4 C4 f4 v4
  go_wp2_with fail
  refine (itoam_bs g.at_ v5 _).mono ?_; rintro e w6 ⟨rfl, k⟩; have Q6 : Hid (Sh w6 p g ∧ Cv w6 l g.c g.z) := ⟨Q5.out.1.nil k, Has.kept Q5.out.2 k (fun h => h)⟩; have C6 : Hid (Chg (fun _ => False) w w6) := C5.out.trans k; have f6 := CG.out.1 Q6.out.1; clear k Q5 C5 f5 v5
  go_wp2_with fail
  refine wp_loop_rounds 9 ?_
  rw [rounds_succ]
  go_wp2_with fail
  refine (itoam_bs r0 v6 _).mono ?_; rintro e w7 ⟨rfl, k⟩; have Q7 : Hid (Sh w7 p g ∧ Cv w7 l g.c g.z) := ⟨Q6.out.1.nil k, Has.kept Q6.out.2 k (fun h => h)⟩; have C7 : Hid (Chg (fun _ => False) w w7) := C6.out.trans k; have f7 := CG.out.2.1 Q7.out.1; clear k Q6 C6 f6 v6
  go_wp2_with fail
  rw [rounds_succ]
  go_wp2_with fail
  refine (itoam_bs r1 v7 _).mono ?_; rintro e w8 ⟨rfl, k⟩; have Q8 : Hid (Sh w8 p g ∧ Cv w8 l g.c g.z) := ⟨Q7.out.1.nil k, Has.kept Q7.out.2 k (fun h => h)⟩; have C8 : Hid (Chg (fun _ => False) w w8) := C7.out.trans k; have f8 := CG.out.2.2.1 Q8.out.1; clear k Q7 C7 f7 v7
  go_wp2_with fail
  rw [rounds_succ]
  go_wp2_with fail
  refine (itoam_bs r2 v8 _).mono ?_; rintro e w9 ⟨rfl, k⟩; have Q9 : Hid (Sh w9 p g ∧ Cv w9 l g.c g.z) := ⟨Q8.out.1.nil k, Has.kept Q8.out.2 k (fun h => h)⟩; have C9 : Hid (Chg (fun _ => False) w w9) := C8.out.trans k; have f9 := CG.out.2.2.2.1 Q9.out.1; clear k Q8 C8 f8 v8
  go_wp2_with fail
  rw [rounds_succ]
  go_wp2_with fail
  refine (itoam_bs r3 v9 _).mono ?_; rintro e w10 ⟨rfl, k⟩; have Q10 : Hid (Sh w10 p g ∧ Cv w10 l g.c g.z) := ⟨Q9.out.1.nil k, Has.kept Q9.out.2 k (fun h => h)⟩; have C10 : Hid (Chg (fun _ => False) w w10) := C9.out.trans k; have f10 := CG.out.2.2.2.2.1 Q10.out.1; clear k Q9 C9 f9 v9
  go_wp2_with fail
  rw [rounds_succ]
  go_wp2_with fail
  refine (itoam_bs r4 v10 _).mono ?_; rintro e w11 ⟨rfl, k⟩; have Q11 : Hid (Sh w11 p g ∧ Cv w11 l g.c g.z) := ⟨Q10.out.1.nil k, Has.kept Q10.out.2 k (fun h => h)⟩; have C11 : Hid (Chg (fun _ => False) w w11) := C10.out.trans k; have f11 := CG.out.2.2.2.2.2.1 Q11.out.1; clear k Q10 C10 f10 v10
  go_wp2_with fail
  rw [rounds_succ]
  go_wp2_with fail
  refine (itoam_bs r5 v11 _).mono ?_; rintro e w12 ⟨rfl, k⟩; have Q12 : Hid (Sh w12 p g ∧ Cv w12 l g.c g.z) := ⟨Q11.out.1.nil k, Has.kept Q11.out.2 k (fun h => h)⟩; have C12 : Hid (Chg (fun _ => False) w w12) := C11.out.trans k; have f12 := CG.out.2.2.2.2.2.2.1 Q12.out.1; clear k Q11 C11 f11 v11
  go_wp2_with fail
  rw [rounds_succ]
  go_wp2_with fail
  refine (itoam_bs r6 v12 _).mono ?_; rintro e w13 ⟨rfl, k⟩; have Q13 : Hid (Sh w13 p g ∧ Cv w13 l g.c g.z) := ⟨Q12.out.1.nil k, Has.kept Q12.out.2 k (fun h => h)⟩; have C13 : Hid (Chg (fun _ => False) w w13) := C12.out.trans k; have f13 := CG.out.2.2.2.2.2.2.2 Q13.out.1; clear k Q12 C12 f12 v12
  go_wp2_with fail
  rw [rounds_succ]
  go_wp2_with fail
  refine (itoam_bs r7 v13 _).mono ?_; rintro e w14 ⟨rfl, k⟩; have Q14 : Hid (Sh w14 p g ∧ Cv w14 l g.c g.z) := ⟨Q13.out.1.nil k, Has.kept Q13.out.2 k (fun h => h)⟩; have C14 : Hid (Chg (fun _ => False) w w14) := C13.out.trans k; have f14 := Q14.out.1.cell 6 (sh_get g HL).2.2.2.2.2.2.1; clear k Q13 C13 f13 v13
  go_wp2_with fail
  rw [rounds_succ]
  go_wp2_with fail
  refine (itoam_bs g.seq v14 _).mono ?_; rintro e w15 ⟨rfl, k⟩; have Q15 : Hid (Sh w15 p g ∧ Cv w15 l g.c g.z) := ⟨Q14.out.1.nil k, Has.kept Q14.out.2 k (fun h => h)⟩; have C15 : Hid (Chg (fun _ => False) w w15) := C14.out.trans k; have f15 := Q15.out.1.cell 7 (sh_get g HL).2.2.2.2.2.2.2; clear k Q14 C14 f14 v14
  go_wp2_with fail
  refine (itoam_bs g.dropped v15 _).mono ?_; rintro e w16 ⟨rfl, k⟩; have Q16 : Hid (Sh w16 p g ∧ Cv w16 l g.c g.z) := ⟨Q15.out.1.nil k, Has.kept Q15.out.2 k (fun h => h)⟩; have C16 : Hid (Chg (fun _ => False) w w16) := C15.out.trans k; clear k Q15 C15 f15 v15
  go_wp2_with fail
  refine (show_bs (Q16.out.2) (HT.out.nil C16.out) HC.out.1 HC.out.2).mono ?_; rintro e w17 ⟨rfl, k⟩
  have Q17 : Hid (Sh w17 p g) := Q16.out.1.nil k
  have C17 : Hid (Chg (fun _ => False) w w17) := C16.out.trans k
  clear k Q16 C16
  go_wp2_with fail
  go_ret
  exact ⟨rfl, Q17.out, C17.out⟩
end Go.Proofs.Qxb6500376aDoor

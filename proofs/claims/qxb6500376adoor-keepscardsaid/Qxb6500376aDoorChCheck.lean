/- Check answers true at a sound state. -/
import Derived.Test.Qxb6500376aDoorChClosed
import Derived.Deep.QuietTactic
namespace Go.Proofs.Qxb6500376aDoor
set_option linter.unusedVariables false
set_option linter.unusedSimpArgs false
open Go.RowKit Go.Qu
def enStep (a : Int × Int) (r : Int) : Int × Int := ((a.1 + (a.2 + r * r) / 18446744073709551616) % 18446744073709551616, (a.2 + r * r) % 18446744073709551616)
theorem run_neq_ptr_other {P : Program} (w : World) {tp te : TypeId} {j : TypeInfo} {a b : Addr} {ca cb : Array Value} {ta tb : TypeId} (hp : P.underlying tp = some (.pointer te)) (hte : P.info? te = some j) (hsz : j.size ≠ 0)
    (hne : a ≠ b) (ha : w.heap[a.block]? = some (.cells ca ta (0, 0))) (hb : w.heap[b.block]? = some (.cells cb tb (0, 0))) :
    (binOp .neq tp (.pointer (some a)) (.pointer (some b))).run P w = .ok (.bool true) w := by
  have h : ∀ d : Nat, (Op.equalIn (d + 1) tp (.pointer (some a)) (.pointer (some b))).run P w = .ok false w := fun d => by
    simp [Op.equalIn, run_underlying hp, sizeOf, typeInfo, hte, hsz, run_sameAddr_other w hne ha hb]
  simp only [binOp]
  simp [Op.equal, Op.maxDepth, h 9999]
theorem tag_neq {a b : Addr} (hne : a ≠ b) {w : World} {va vb : List Value} {ta tb : TypeId} (ha : Has ta w a.block va) (hb : Has tb w b.block vb) : (binOp .neq 60 (.pointer (some a)) (.pointer (some b))).run Tryd.prog w = .ok (.bool true) w := by
  have hs : (Tryd.prog.info? 70).map (·.size) = some 1 := by kernel_rfl
  obtain ⟨j, hj⟩ := Option.isSome_iff_exists.1 (show (Tryd.prog.info? 70).isSome = true by kernel_rfl)
  rw [hj] at hs
  have hs' : j.size = 1 := by simpa using hs
  exact run_neq_ptr_other w Tryd.underlying60 hj (by rw [hs']; decide) hne ha hb
theorem run_loadVar_off {P : Program} (w : World) (a : Addr) (ty : TypeId) (cs : List Value) (d : TypeDesc) (hc : ∀ j v, cs[j]? = some v → w.cell? (a.add j) = some v)
    (hu : P.underlying ty = some d) (hd : (match d with | .struct _ | .array _ _ => true | _ => false) = true) (hi : (P.info? ty).map (·.size) = some cs.length) :
    (loadVar ty a).run P w = .ok (.agg cs.toArray) w := by
  have hl := run_loadCells_list (P := P) w a cs hc
  cases hq : P.info? ty with
  | none => simp [hq] at hi
  | some i =>
    have hs : i.size = cs.length := by simpa [hq] using hi
    have hagg : (isAgg ty).run P w = .ok true w := by
      unfold isAgg
      rw [Sem.run_bind, run_underlying hu w]
      cases d <;> simp_all
    simp [loadVar, Sem.run_bind, hagg, sizeOf, typeInfo, hq, hs, hl]
theorem wpList_load_off {P : Program} {ops : Array Oper} {rest : List Oper} {o : Oper} {a : Act} {w : World} {Q : Exit → Act → World → Prop} (hgd : o.guard = none) (ty : TypeId) (x : Operand) (ho : o.op = .load ty x)
    (at_ : Addr) (hx : a.eval x = .pointer (some at_)) (cs : List Value) (d : TypeDesc) (hc : ∀ j v, cs[j]? = some v → w.cell? (at_.add j) = some v)
    (hu : P.underlying ty = some d) (hd : (match d with | .struct _ | .array _ _ => true | _ => false) = true) (hi : (P.info? ty).map (·.size) = some cs.length)
    (h : wpList P ops Q rest (a.put o.dst (.agg cs.toArray)) w) : wpList P ops Q (o :: rest) a w :=
  wpList_plain hgd fun _ hK => by
    unfold Oper.wp execOp
    simp only [ho, hx, Instr.loadAt, Instr.sureAddr, Sem.run_bind, Sem.run_pure, Result.andThen_ok, run_loadVar_off w at_ ty cs d hc hu hd hi]
    exact hK _ _ h
set_option maxRecDepth 20000 in
set_option maxHeartbeats 0 in
theorem check_true (p : Nat) (l : Lk) (s : CS) (c z : Int) (w : World) (h : CA w p l s c z) (d1 : 1 ≤ s.depth) (d2 : s.depth ≤ 32) (m0 : 0 ≤ s.mode) (m3 : s.mode ≤ 3) (hp : num s.peak = true) (hd : num s.dip = true)
    (hri : ∀ r ∈ s.ring, -2147483648 ≤ r ∧ r ≤ 2147483647) (hen : s.ring.foldl enStep (0, 0) = (s.hi, s.lo)) (a0 : 0 ≤ s.at_) (a8 : s.at_ < 8) :
    Calls Tryd.prog 37 #[.pointer (some ⟨p, 0, none⟩)] w fun e w' => e = .returned (.bool true) ∧ Chg (fun _ => False) w w' := by
  have k1 := h.c1
  have k2 := h.c2
  have k4 := h.c4
  have k5 := h.c5
  have k14 := h.c14
  have k15 := h.c15
  have k16 := h.c16
  have k19 := h.c19
  have k20 := h.c20
  have k21 := h.c21
  have n1 : (FloatKind.f64.format.order s.peak s.peak != some .eq) = false := by
    have := neq_self s.peak; rw [hp] at this; exact this
  have n2 : (FloatKind.f64.format.order s.dip s.dip != some .eq) = false := by
    have := neq_self s.dip; rw [hd] at this; exact this
  have t0 : w.cell? ⟨l.d, 0, none⟩ = some (.int .i32 0) := h.tab.cell 0
  have t1 : w.cell? ⟨l.d, 1, none⟩ = some (.int .i32 6) := h.tab.cell 1
  have t2 : w.cell? ⟨l.d, 2, none⟩ = some (.int .i32 12) := h.tab.cell 2
  have t3 : w.cell? ⟨l.d, 3, none⟩ = some (.int .i32 18) := h.tab.cell 3
  have t4 : w.cell? ⟨l.d, 4, none⟩ = some (.int .i32 24) := h.tab.cell 4
  have t5 : w.cell? ⟨l.d, 5, none⟩ = some (.int .i32 30) := h.tab.cell 5
  have t6 : w.cell? ⟨l.d, 6, none⟩ = some (.int .i32 36) := h.tab.cell 6
  have t7 : w.cell? ⟨l.d, 7, none⟩ = some (.int .i32 42) := h.tab.cell 7
  clear hp hd
  obtain ⟨r0, r1, r2, r3, r4, r5, r6, r7, er⟩ := len8 h.len
  have hr : ∀ w0 : World, (∀ a, w0.cell? a = w.cell? a) → ∀ j v, ([.int .i32 r0, .int .i32 r1, .int .i32 r2, .int .i32 r3, .int .i32 r4, .int .i32 r5, .int .i32 r6, .int .i32 r7] : List Value)[j]? = some v → w0.cell? (Addr.add ⟨p, 6, none⟩ j) = some v := by
    intro w0 hw j v hj
    have hj8 : j < 8 := by have := (List.getElem?_eq_some_iff.1 hj).1; simpa using this
    rw [show Addr.add ⟨p, 6, none⟩ j = ⟨p, 6 + j, none⟩ by unfold Addr.add; split <;> simp_all, hw, h.ring j hj8, er]
    have : j = 0 ∨ j = 1 ∨ j = 2 ∨ j = 3 ∨ j = 4 ∨ j = 5 ∨ j = 6 ∨ j = 7 := by omega
    rcases this with rfl | rfl | rfl | rfl | rfl | rfl | rfl | rfl <;> exact hj
  have HR : Hid (∀ j v, ([.int .i32 r0, .int .i32 r1, .int .i32 r2, .int .i32 r3, .int .i32 r4, .int .i32 r5, .int .i32 r6, .int .i32 r7] : List Value)[j]? = some v → w.cell? (Addr.add ⟨p, 6, none⟩ j) = some v) := hr w fun _ => rfl
  clear hr
  rw [er] at hen hri
  simp only [List.foldl_cons, List.foldl_nil, List.mem_cons, List.not_mem_nil, or_false, forall_eq_or_imp, forall_eq] at hen hri
  obtain ⟨⟨i0a, i0b⟩, ⟨i1a, i1b⟩, ⟨i2a, i2b⟩, ⟨i3a, i3b⟩, ⟨i4a, i4b⟩, ⟨i5a, i5b⟩, ⟨i6a, i6b⟩, ⟨i7a, i7b⟩⟩ := hri
  obtain ⟨c1, ec1⟩ : ∃ x, x = (0 + r0 * r0) / 18446744073709551616 := ⟨_, rfl⟩
  obtain ⟨l1, el1⟩ : ∃ x, x = (0 + r0 * r0) % 18446744073709551616 := ⟨_, rfl⟩
  obtain ⟨h1, eh1⟩ : ∃ x, x = (0 + c1) % 18446744073709551616 := ⟨_, rfl⟩
  have sa0 : 0 ≤ r0 * r0 := sq_nonneg r0
  have sb0 : r0 * r0 ≤ 4611686018427387904 := sq_le r0 i0a (by omega)
  have y0 := x_add64_0 0 (r0 * r0) (by omega) sa0
  rw [← ec1, ← el1] at y0
  have u0 : IntKind.u64.wrap (r0 * r0) = r0 * r0 := by rw [IntKind.wrap_u64]; omega
  have v0 : IntKind.u64.wrap c1 = h1 := by rw [IntKind.wrap_u64, eh1, Int.zero_add]
  obtain ⟨c2, ec2⟩ : ∃ x, x = (l1 + r1 * r1) / 18446744073709551616 := ⟨_, rfl⟩
  obtain ⟨l2, el2⟩ : ∃ x, x = (l1 + r1 * r1) % 18446744073709551616 := ⟨_, rfl⟩
  obtain ⟨h2, eh2⟩ : ∃ x, x = (h1 + c2) % 18446744073709551616 := ⟨_, rfl⟩
  have sa1 : 0 ≤ r1 * r1 := sq_nonneg r1
  have sb1 : r1 * r1 ≤ 4611686018427387904 := sq_le r1 i1a (by omega)
  have y1 := x_add64_0 l1 (r1 * r1) (by omega) sa1
  rw [← ec2, ← el2] at y1
  have u1 : IntKind.u64.wrap (r1 * r1) = r1 * r1 := by rw [IntKind.wrap_u64]; omega
  have v1 : IntKind.u64.wrap (h1 + c2) = h2 := by rw [IntKind.wrap_u64, eh2]
  obtain ⟨c3, ec3⟩ : ∃ x, x = (l2 + r2 * r2) / 18446744073709551616 := ⟨_, rfl⟩
  obtain ⟨l3, el3⟩ : ∃ x, x = (l2 + r2 * r2) % 18446744073709551616 := ⟨_, rfl⟩
  obtain ⟨h3, eh3⟩ : ∃ x, x = (h2 + c3) % 18446744073709551616 := ⟨_, rfl⟩
  have sa2 : 0 ≤ r2 * r2 := sq_nonneg r2
  have sb2 : r2 * r2 ≤ 4611686018427387904 := sq_le r2 i2a (by omega)
  have y2 := x_add64_0 l2 (r2 * r2) (by omega) sa2
  rw [← ec3, ← el3] at y2
  have u2 : IntKind.u64.wrap (r2 * r2) = r2 * r2 := by rw [IntKind.wrap_u64]; omega
  have v2 : IntKind.u64.wrap (h2 + c3) = h3 := by rw [IntKind.wrap_u64, eh3]
  obtain ⟨c4, ec4⟩ : ∃ x, x = (l3 + r3 * r3) / 18446744073709551616 := ⟨_, rfl⟩
  obtain ⟨l4, el4⟩ : ∃ x, x = (l3 + r3 * r3) % 18446744073709551616 := ⟨_, rfl⟩
  obtain ⟨h4, eh4⟩ : ∃ x, x = (h3 + c4) % 18446744073709551616 := ⟨_, rfl⟩
  have sa3 : 0 ≤ r3 * r3 := sq_nonneg r3
  have sb3 : r3 * r3 ≤ 4611686018427387904 := sq_le r3 i3a (by omega)
  have y3 := x_add64_0 l3 (r3 * r3) (by omega) sa3
  rw [← ec4, ← el4] at y3
  have u3 : IntKind.u64.wrap (r3 * r3) = r3 * r3 := by rw [IntKind.wrap_u64]; omega
  have v3 : IntKind.u64.wrap (h3 + c4) = h4 := by rw [IntKind.wrap_u64, eh4]
  obtain ⟨c5, ec5⟩ : ∃ x, x = (l4 + r4 * r4) / 18446744073709551616 := ⟨_, rfl⟩
  obtain ⟨l5, el5⟩ : ∃ x, x = (l4 + r4 * r4) % 18446744073709551616 := ⟨_, rfl⟩
  obtain ⟨h5, eh5⟩ : ∃ x, x = (h4 + c5) % 18446744073709551616 := ⟨_, rfl⟩
  have sa4 : 0 ≤ r4 * r4 := sq_nonneg r4
  have sb4 : r4 * r4 ≤ 4611686018427387904 := sq_le r4 i4a (by omega)
  have y4 := x_add64_0 l4 (r4 * r4) (by omega) sa4
  rw [← ec5, ← el5] at y4
  have u4 : IntKind.u64.wrap (r4 * r4) = r4 * r4 := by rw [IntKind.wrap_u64]; omega
  have v4 : IntKind.u64.wrap (h4 + c5) = h5 := by rw [IntKind.wrap_u64, eh5]
  obtain ⟨c6, ec6⟩ : ∃ x, x = (l5 + r5 * r5) / 18446744073709551616 := ⟨_, rfl⟩
  obtain ⟨l6, el6⟩ : ∃ x, x = (l5 + r5 * r5) % 18446744073709551616 := ⟨_, rfl⟩
  obtain ⟨h6, eh6⟩ : ∃ x, x = (h5 + c6) % 18446744073709551616 := ⟨_, rfl⟩
  have sa5 : 0 ≤ r5 * r5 := sq_nonneg r5
  have sb5 : r5 * r5 ≤ 4611686018427387904 := sq_le r5 i5a (by omega)
  have y5 := x_add64_0 l5 (r5 * r5) (by omega) sa5
  rw [← ec6, ← el6] at y5
  have u5 : IntKind.u64.wrap (r5 * r5) = r5 * r5 := by rw [IntKind.wrap_u64]; omega
  have v5 : IntKind.u64.wrap (h5 + c6) = h6 := by rw [IntKind.wrap_u64, eh6]
  obtain ⟨c7, ec7⟩ : ∃ x, x = (l6 + r6 * r6) / 18446744073709551616 := ⟨_, rfl⟩
  obtain ⟨l7, el7⟩ : ∃ x, x = (l6 + r6 * r6) % 18446744073709551616 := ⟨_, rfl⟩
  obtain ⟨h7, eh7⟩ : ∃ x, x = (h6 + c7) % 18446744073709551616 := ⟨_, rfl⟩
  have sa6 : 0 ≤ r6 * r6 := sq_nonneg r6
  have sb6 : r6 * r6 ≤ 4611686018427387904 := sq_le r6 i6a (by omega)
  have y6 := x_add64_0 l6 (r6 * r6) (by omega) sa6
  rw [← ec7, ← el7] at y6
  have u6 : IntKind.u64.wrap (r6 * r6) = r6 * r6 := by rw [IntKind.wrap_u64]; omega
  have v6 : IntKind.u64.wrap (h6 + c7) = h7 := by rw [IntKind.wrap_u64, eh7]
  obtain ⟨c8, ec8⟩ : ∃ x, x = (l7 + r7 * r7) / 18446744073709551616 := ⟨_, rfl⟩
  obtain ⟨l8, el8⟩ : ∃ x, x = (l7 + r7 * r7) % 18446744073709551616 := ⟨_, rfl⟩
  obtain ⟨h8, eh8⟩ : ∃ x, x = (h7 + c8) % 18446744073709551616 := ⟨_, rfl⟩
  have sa7 : 0 ≤ r7 * r7 := sq_nonneg r7
  have sb7 : r7 * r7 ≤ 4611686018427387904 := sq_le r7 i7a (by omega)
  have y7 := x_add64_0 l7 (r7 * r7) (by omega) sa7
  rw [← ec8, ← el8] at y7
  have u7 : IntKind.u64.wrap (r7 * r7) = r7 * r7 := by rw [IntKind.wrap_u64]; omega
  have v7 : IntKind.u64.wrap (h7 + c8) = h8 := by rw [IntKind.wrap_u64, eh8]
  have z0 : s.hi = h8 ∧ s.lo = l8 := by
    have := hen
    simp only [enStep, ← ec1, ← el1, ← eh1, ← ec2, ← el2, ← eh2, ← ec3, ← el3, ← eh3, ← ec4, ← el4, ← eh4, ← ec5, ← el5, ← eh5, ← ec6, ← el6, ← eh6, ← ec7, ← el7, ← eh7, ← ec8, ← el8, ← eh8] at this
    exact ⟨(congrArg Prod.fst this).symm, (congrArg Prod.snd this).symm⟩
  obtain ⟨z1, z2⟩ := z0
  clear hen ec1 el1 eh1 ec2 el2 eh2 ec3 el3 eh3 ec4 el4 eh4 ec5 el5 eh5 ec6 el6 eh6 ec7 el7 eh7 ec8 el8 eh8
  rw [z1] at k15
  rw [z2] at k16
  have x0 : ∀ w, (Instr.index 57 (.agg #[.int .i32 r0, .int .i32 r1, .int .i32 r2, .int .i32 r3, .int .i32 r4, .int .i32 r5, .int .i32 r6, .int .i32 r7]) (.int .i64 0)).run Tryd.prog w = .ok (.int .i32 r0) w := fun _ => by kernel_rfl
  have x1 : ∀ w, (Instr.index 57 (.agg #[.int .i32 r0, .int .i32 r1, .int .i32 r2, .int .i32 r3, .int .i32 r4, .int .i32 r5, .int .i32 r6, .int .i32 r7]) (.int .i64 1)).run Tryd.prog w = .ok (.int .i32 r1) w := fun _ => by kernel_rfl
  have x2 : ∀ w, (Instr.index 57 (.agg #[.int .i32 r0, .int .i32 r1, .int .i32 r2, .int .i32 r3, .int .i32 r4, .int .i32 r5, .int .i32 r6, .int .i32 r7]) (.int .i64 2)).run Tryd.prog w = .ok (.int .i32 r2) w := fun _ => by kernel_rfl
  have x3 : ∀ w, (Instr.index 57 (.agg #[.int .i32 r0, .int .i32 r1, .int .i32 r2, .int .i32 r3, .int .i32 r4, .int .i32 r5, .int .i32 r6, .int .i32 r7]) (.int .i64 3)).run Tryd.prog w = .ok (.int .i32 r3) w := fun _ => by kernel_rfl
  have x4 : ∀ w, (Instr.index 57 (.agg #[.int .i32 r0, .int .i32 r1, .int .i32 r2, .int .i32 r3, .int .i32 r4, .int .i32 r5, .int .i32 r6, .int .i32 r7]) (.int .i64 4)).run Tryd.prog w = .ok (.int .i32 r4) w := fun _ => by kernel_rfl
  have x5 : ∀ w, (Instr.index 57 (.agg #[.int .i32 r0, .int .i32 r1, .int .i32 r2, .int .i32 r3, .int .i32 r4, .int .i32 r5, .int .i32 r6, .int .i32 r7]) (.int .i64 5)).run Tryd.prog w = .ok (.int .i32 r5) w := fun _ => by kernel_rfl
  have x6 : ∀ w, (Instr.index 57 (.agg #[.int .i32 r0, .int .i32 r1, .int .i32 r2, .int .i32 r3, .int .i32 r4, .int .i32 r5, .int .i32 r6, .int .i32 r7]) (.int .i64 6)).run Tryd.prog w = .ok (.int .i32 r6) w := fun _ => by kernel_rfl
  have x7 : ∀ w, (Instr.index 57 (.agg #[.int .i32 r0, .int .i32 r1, .int .i32 r2, .int .i32 r3, .int .i32 r4, .int .i32 r5, .int .i32 r6, .int .i32 r7]) (.int .i64 7)).run Tryd.prog w = .ok (.int .i32 r7) w := fun _ => by kernel_rfl
  have ER : Hid (s.ring = [r0, r1, r2, r3, r4, r5, r6, r7]) := er
  clear er
  have kd := h.kdr
  have H : Hid (CA w p l s c z) := h
  clear h
  have j1 : ¬ s.depth < 1 := by omega
  have j2 : ¬ 32 < s.depth := by omega
  have j3 : ¬ s.mode < 0 := by omega
  have j4 : ¬ 3 < s.mode := by omega
  go_enter Tryd.func37, Tryd.ntmps37
  go_wp2
  go_quiet (fail)
  go_wp2
  refine wp_loop_rounds 9 ?_
  rw [rounds_succ]; go_wp2
  rw [rounds_succ]; go_wp2
  rw [rounds_succ]; go_wp2
  rw [rounds_succ]; go_wp2
  rw [rounds_succ]; go_wp2
  rw [rounds_succ]; go_wp2
  rw [rounds_succ]; go_wp2
  rw [rounds_succ]; go_wp2
  rw [rounds_succ]; go_wp2_with (refine wpList_load_off rfl 57 _ rfl ⟨p, 6, none⟩ rfl [.int .i32 r0, .int .i32 r1, .int .i32 r2, .int .i32 r3, .int .i32 r4, .int .i32 r5, .int .i32 r6, .int .i32 r7] _ HR.out Tryd.underlying57 rfl (by kernel_rfl) ?_)
  refine wp_loop_rounds 9 ?_
  rw [rounds_succ]; go_wp2
  rw [rounds_succ]; go_wp2
  rw [rounds_succ]; go_wp2
  rw [rounds_succ]; go_wp2
  rw [rounds_succ]; go_wp2
  rw [rounds_succ]; go_wp2
  rw [rounds_succ]; go_wp2
  rw [rounds_succ]; go_wp2
  rw [rounds_succ]; go_wp2
  have y9 : ∀ n, (binOp .neq 60 (.pointer (some ⟨l.k, 0, none⟩)) (.pointer (some ⟨l.dr, 0, none⟩))).run Tryd.prog (w.drewN n) = .ok (.bool true) (w.drewN n) :=
    fun n => tag_neq (a := ⟨l.k, 0, none⟩) (b := ⟨l.dr, 0, none⟩) (fun e => kd (congrArg Addr.block e)) (H.out.drewN n).k (H.out.drewN n).dr
  clear kd
  have a0' : decide (s.at_ ≥ 0) = true := decide_eq_true a0
  have a8' : decide (s.at_ < 8) = true := decide_eq_true a8
  go_quiet (fail)
  go_wp2
  go_ret
  exact ⟨rfl, (((Chg.refl _ w).drewN _).trans ((Chg.refl _ _).drewN _))⟩
def checkOk (s : CS) : Bool := decide (1 ≤ s.depth) && decide (s.depth ≤ 32) && decide (0 ≤ s.mode) && decide (s.mode ≤ 3) && num s.peak && num s.dip && s.ring.all (fun r => decide (-2147483648 ≤ r) && decide (r ≤ 2147483647)) && decide (s.ring.foldl enStep (0, 0) = (s.hi, s.lo)) && decide (0 ≤ s.at_) && decide (s.at_ < 8)
theorem check_at {p : Nat} {l : Lk} {s : CS} {c z : Int} {w : World} (h : CA w p l s c z) (hk : checkOk s = true) :
    Calls Tryd.prog 37 #[.pointer (some ⟨p, 0, none⟩)] w fun e w' => e = .returned (.bool true) ∧ CA w' p l s c z ∧ Chg (fun _ => False) w w' := by
  simp only [checkOk, Bool.and_eq_true, decide_eq_true_eq, List.all_eq_true] at hk
  obtain ⟨⟨⟨⟨⟨⟨⟨⟨⟨h1, h2⟩, h3⟩, h4⟩, h5⟩, h6⟩, h7⟩, h8⟩, h9⟩, h10⟩ := hk
  exact (check_true p l s c z w h h1 h2 h3 h4 h5 h6 h7 h8 h9 h10).mono fun e w' ⟨he, hc⟩ => ⟨he, h.kept hc id id id id id id id, hc⟩
end Go.Proofs.Qxb6500376aDoor

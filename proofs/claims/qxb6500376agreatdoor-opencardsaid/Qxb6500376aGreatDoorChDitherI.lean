/- DitherLoose inside its table (written by tools/gendlin.py). -/
import Derived.Test.Qxb6500376aGreatDoorChDitherL
namespace Go.Proofs.Qxb6500376aGreatDoor
set_option linter.unusedVariables false
set_option linter.unusedSimpArgs false
open Go.RowKit Go.Qu
theorem dl_idle (p q : Addr) (w : World) :
    CallsD Tryz.prog 74 #[.pointer (some p), .pointer (some q)] .returning w fun e u' w' => e = .returned (.tuple #[]) ∧ u' = .returning ∧ w' = w := by
  refine callsD_of_wpS Tryz.func74 rfl fun c₀ cs hu => ?_
  apply wpS_seq
  apply wpS_region
  simp [wpOpsS, go_sem, recoverD, hu, Tryz.ntmps74, Exit.thenS]
  have e0 : (#[Value.pointer (some p), Value.pointer (some q)] ++ ((Array.replicate 14 undef).setIfInBounds 3 Value.nilIface).setIfInBounds 0 Value.nilIface) = #[Value.pointer (some p), Value.pointer (some q), Value.nilIface, undef, undef, Value.nilIface, undef, undef, undef, undef, undef, undef, undef, undef, undef, undef] := rfl
  rw [e0]
  clear e0
  refine wpS_of_wp ?_
  go_wp2
  cases c₀
  simp_all [bodyPostS, results, Tryz.results74]
theorem DLW.zero {w W : World} {p : Nat} {l : Lk} {s : CS} {c z : Int} (D : DLW w W p l s c z) : Has 31 (W.setCell ⟨w.heap.size, 0, none⟩ (.int .i64 0)) w.heap.size [.int .i64 0] := by
  obtain ⟨x, hx⟩ := D.ea
  exact hx.setCell 0 _
theorem DLW.ends {w W : World} {p : Nat} {l : Lk} {s : CS} {c z N : Int} (D : DLW w W p l s c z) (h0 : Has 31 W w.heap.size [.int .i64 0])
    {t : Array Value} (h4 : t[4]? = some (.pointer (some ⟨w.heap.size, 0, none⟩))) (h5 : t[5]? = some (.pointer (some ⟨w.heap.size + 1, 0, none⟩))) :
    bodyPostD Tryz.prog Tryz.f52 (fun e w' => e = .returned (.tuple #[.int .i64 0, .int .i64 N]) ∧ CA w' p l s c z ∧ Chg (· = p) w w') Exit.ret
      { tmps := t, defers := [{ target := Target.fn (Fn.func 74) #[.pointer (some ⟨w.heap.size, 0, none⟩), .pointer (some ⟨w.heap.size + 1, 0, none⟩)], args := #[] }] } (W.setCell ⟨w.heap.size + 1, 0, none⟩ (.int .i64 N)) := by
  obtain ⟨ey, hb⟩ := D.eb
  obtain ⟨o1, o2, o3, o4, o5, o6, o7⟩ := D.old
  refine leaves_cons (f := 74) (args := #[.pointer (some ⟨w.heap.size, 0, none⟩), .pointer (some ⟨w.heap.size + 1, 0, none⟩)]) (by simp) (by simp [go_sem]) ?_
  refine (dl_idle ⟨w.heap.size, 0, none⟩ ⟨w.heap.size + 1, 0, none⟩ _).mono ?_
  rintro e u' w'' ⟨rfl, rfl, rfl⟩
  have e1 : (W.setCell ⟨w.heap.size + 1, 0, none⟩ (.int .i64 N)).cell? ⟨w.heap.size, 0, none⟩ = some (.int .i64 0) := (h0.setOther (a := ⟨w.heap.size + 1, 0, none⟩) (by show w.heap.size + 1 ≠ w.heap.size; omega) _).cell 0
  have e2 : (W.setCell ⟨w.heap.size + 1, 0, none⟩ (.int .i64 N)).cell? ⟨w.heap.size + 1, 0, none⟩ = some (.int .i64 N) := (hb.setCell 0 _).cell 0
  have hc : Chg (fun k => k = w.heap.size + 1) W (W.setCell ⟨w.heap.size + 1, 0, none⟩ (.int .i64 N)) := Chg.set1 W _ 0 _
  have hca := D.ca.kept hc (by omega) (by omega) (by omega) (by omega) (by omega) (by omega) (by omega)
  have hch : Chg (· = p) w (W.setCell ⟨w.heap.size + 1, 0, none⟩ (.int .i64 N)) := D.chg.setCell (p := ⟨w.heap.size + 1, 0, none⟩) (.inr (by show w.heap.size ≤ w.heap.size + 1; omega)) _
  simp [Leaves, settle, results, Tryz.results52, go_sem, h4, h5, e1, e2]
  exact ⟨hca, hch⟩
theorem DLW.tab {w W : World} {p : Nat} {l : Lk} {s : CS} {c z : Int} (D : DLW w W p l s c z) (i : Nat) (hi : i < 8) : W.cell? ⟨l.d, i, none⟩ = some (.int .i32 (6 * (i : Int))) := by rw [D.ca.tab.cell i, ramp_get i hi]; simp

set_option maxRecDepth 20000 in
set_option maxHeartbeats 2000000 in
theorem ditherLoose_in (p : Nat) (l : Lk) (s : CS) (c z : Int) (i : Nat) (N : Int) (w : World) (h : CA w p l s c z) (hi : i < 8) (hN : IntKind.i64.wrap (6 * (i : Int) + wrap64 (s.seq + 1)) = N) : Calls Tryz.prog 52 #[.pointer (some ⟨p, 0, none⟩), .int .i64 i] w fun e w' =>
    e = .returned (.tuple #[.int .i64 0, .int .i64 N]) ∧ CA w' p l (up1 s) c z ∧ Chg (· = p) w w' := by
  have hmf : ∀ (fn : Fn) (first cap : Array Value) (w : World), (Instr.makeFunc fn first cap).run Tryz.prog w = .ok (.func fn first cap) w := fun _ _ _ _ => rfl
  have D0 : DLW w (((w.alloc (.cells #[.int .i64 0] 31)).alloc (.cells #[.int .i64 0] 3)).drew) p l s c z := by
    have n1 := Has.new 31 w [.int .i64 0]
    have n2 := Has.new 3 (w.alloc (.cells #[.int .i64 0] 31)) [.int .i64 0]
    rw [World.size_alloc] at n2
    have hc : Chg (fun _ => False) w ((w.alloc (.cells #[.int .i64 0] 31)).alloc (.cells #[.int .i64 0] 3)).drew := (((Chg.refl _ w).alloc _).alloc _).drew
    exact ⟨h.kept hc id id id id id id id, ⟨0, (n1.alloc _).drew⟩, ⟨0, n2.drew⟩, hc.mono fun _ _ e => e.elim, h.obj.lt, h.qu.lt, h.tab.lt, h.k.lt, h.dr.lt, h.k0.lt, h.d0.lt⟩
  have HD : Hid (DLW w (((w.alloc (.cells #[.int .i64 0] 31)).alloc (.cells #[.int .i64 0] 3)).drew) p l s c z) := D0
  have k0 : ¬ (i : Int) < 0 := by omega
  have k1 : ¬ (8 : Int) ≤ i := by omega
  have k2 : (i : Int) < 8 := by omega
  have k3 : (0 : Int) ≤ i := by omega
  have y7 : IntKind.i64.wrap (6 * (i : Int)) = 6 * i := by rw [IntKind.wrap_i64]; omega
  have HI : Hid (i < 8) := hi
  have hx : ∀ w, (Instr.indexAt 58 (.slice (some ⟨l.d, 0, none⟩) 8 8) (.int .i64 i)).run Tryz.prog w = .ok (.pointer (some ⟨l.d, i, none⟩)) w := fun w => by go_simp
  obtain ⟨Q, hQ⟩ : ∃ Q, wrap64 (s.seq + 1) = Q := ⟨_, rfl⟩
  have HQ : Hid (wrap64 (s.seq + 1) = Q) := hQ
  rw [hQ] at hN
  clear h hi D0 hQ
  go_enter_defers Tryz.func52, Tryz.ntmps52
  go_wp2
  refine wp_region_any (by kernel_rfl) ?_
  change wpAny _ _ _ _ _ _ _ (World.drew _)
  generalize World.drew _ = W0 at HD ⊢
  refine wpAny_take (i := 0) (v := .pointer (some ⟨p, 0, none⟩)) rfl (by kernel_rfl) (by kernel_rfl) (by kernel_rfl) (fun c a w h => put_panic (res_dl 7 _ (by decide) (by decide)) c a w h) (Or.inl ⟨by rfl, fun w => by rfl⟩) ?_
  refine wpAny_take (i := 1) (v := .pointer (some ⟨p, 0, none⟩)) rfl (by kernel_rfl) (by kernel_rfl) (by kernel_rfl) (fun c a w h => put_panic (res_dl 8 _ (by decide) (by decide)) c a w h) (Or.inl ⟨by rfl, fun w => by go_simp⟩) ?_
  refine wpAny_take (i := 2) (v := .pointer (some ⟨p, 19, none⟩)) rfl (by kernel_rfl) (by kernel_rfl) (by kernel_rfl) (fun c a w h => put_panic (res_dl 9 _ (by decide) (by decide)) c a w h) (Or.inl ⟨by rfl, fun w => by go_simp⟩) ?_
  refine wpAny_take (i := 4) (v := .int .i64 i) rfl (by kernel_rfl) (by kernel_rfl) (by kernel_rfl) (fun c a w h => put_panic (res_dl 11 _ (by decide) (by decide)) c a w h) (Or.inl ⟨by rfl, fun w => by rfl⟩) ?_
  refine wpAny_take (i := 8) (v := .pointer (some ⟨p, 0, none⟩)) rfl (by kernel_rfl) (by kernel_rfl) (by kernel_rfl) (fun c a w h => put_panic (res_dl 15 _ (by decide) (by decide)) c a w h) (Or.inl ⟨by rfl, fun w => by rfl⟩) ?_
  refine wpAny_ready (rs := [3, 9]) (by kernel_rfl) (by simp) ?_
  refine AllReady.cons rfl (fun K hK => ?_) ?_
  · skip
    have h1 := HD.out.ca.c19
    go_simp
    refine hK _ _ ?_
    clear hK K h1
    refine wpAny_take (i := 5) (v := .pointer (some ⟨l.d, i, none⟩)) rfl (by kernel_rfl) (by kernel_rfl) (by kernel_rfl) (fun c a w h => put_panic (res_dl 12 _ (by decide) (by decide)) c a w h) (Or.inl ⟨by rfl, fun w => by go_simp⟩) ?_
    refine wpAny_ready (rs := [6, 9]) (by kernel_rfl) (by simp) ?_
    refine AllReady.cons rfl (fun K hK => ?_) ?_
    · skip
      have h1 := HD.out.tab i HI.out
      go_simp
      refine hK _ _ ?_
      clear hK K h1
      refine wpAny_take (i := 7) (v := .int .i64 (6 * (i : Int))) rfl (by kernel_rfl) (by kernel_rfl) (by kernel_rfl) (fun c a w h => put_panic (res_dl 14 _ (by decide) (by decide)) c a w h) (Or.inl ⟨by rfl, fun w => by go_simp⟩) ?_
      refine wpAny_ready (rs := [9]) (by kernel_rfl) (by simp) ?_
      refine AllReady.cons rfl (fun K hK => ?_) AllReady.nil
      · skip
        go_simp
        refine (next_any p l s c z W0 HD.out.ca).mono ?_
        rintro e W2 ⟨rfl, h2, c2⟩
        have D2 : Hid (DLW w W2 p l (up1 s) c z) := HD.out.called h2 c2
        clear h2 c2
        rw [HQ.out]
        refine hK _ _ ?_
        clear hK K
        refine wpAny_take (i := 10) (v := .int .i64 N) rfl (by kernel_rfl) (by kernel_rfl) (by kernel_rfl) (fun c a w h => put_panic (res_dl 17 _ (by decide) (by decide)) c a w h) (Or.inl ⟨by rfl, fun w => by go_simp⟩) ?_
        refine wpAny_ready (rs := [11]) (by kernel_rfl) (by simp) ?_
        refine AllReady.cons rfl (fun K hK => ?_) AllReady.nil
        · skip
          obtain ⟨x0, hx0⟩ := D2.out.ea
          have h1 := hx0.cell 0
          have h2 := hx0.frozen 0
          go_simp
          refine hK _ _ ?_
          clear hK K h1 h2 hx0
          have D3 : Hid (DLW w (W2.setCell ⟨w.heap.size, 0, none⟩ (.int .i64 0)) p l (up1 s) c z) := D2.out.put _
          have E3 : Hid (Has 31 (W2.setCell ⟨w.heap.size, 0, none⟩ (.int .i64 0)) w.heap.size [.int .i64 0]) := D2.out.zero
          generalize W2.setCell ⟨w.heap.size, 0, none⟩ (.int .i64 0) = W3 at D3 E3 ⊢
          refine wpAny_ready (rs := [12]) (by kernel_rfl) (by simp) ?_
          refine AllReady.cons rfl (fun K hK => ?_) AllReady.nil
          obtain ⟨y0, hy0⟩ := D3.out.eb
          have h1 := hy0.cell 0
          have h2 := hy0.frozen 0
          go_simp
          refine hK _ _ ?_
          clear hK K h1 h2 hy0
          refine wpAny_done (by kernel_rfl) ?_ _
          go_wp2
          exact DLW.ends D3.out E3.out rfl rfl
    refine AllReady.cons rfl (fun K hK => ?_) AllReady.nil
    · skip
      go_simp
      refine (next_any p l s c z W0 HD.out.ca).mono ?_
      rintro e W2 ⟨rfl, h2, c2⟩
      have D2 : Hid (DLW w W2 p l (up1 s) c z) := HD.out.called h2 c2
      clear h2 c2
      rw [HQ.out]
      refine hK _ _ ?_
      clear hK K
      refine wpAny_ready (rs := [6, 11]) (by kernel_rfl) (by simp) ?_
      refine AllReady.cons rfl (fun K hK => ?_) ?_
      · skip
        have h1 := D2.out.tab i HI.out
        go_simp
        refine hK _ _ ?_
        clear hK K h1
        refine wpAny_take (i := 7) (v := .int .i64 (6 * (i : Int))) rfl (by kernel_rfl) (by kernel_rfl) (by kernel_rfl) (fun c a w h => put_panic (res_dl 14 _ (by decide) (by decide)) c a w h) (Or.inl ⟨by rfl, fun w => by go_simp⟩) ?_
        refine wpAny_take (i := 10) (v := .int .i64 N) rfl (by kernel_rfl) (by kernel_rfl) (by kernel_rfl) (fun c a w h => put_panic (res_dl 17 _ (by decide) (by decide)) c a w h) (Or.inl ⟨by rfl, fun w => by go_simp⟩) ?_
        refine wpAny_ready (rs := [11]) (by kernel_rfl) (by simp) ?_
        refine AllReady.cons rfl (fun K hK => ?_) AllReady.nil
        · skip
          obtain ⟨x0, hx0⟩ := D2.out.ea
          have h1 := hx0.cell 0
          have h2 := hx0.frozen 0
          go_simp
          refine hK _ _ ?_
          clear hK K h1 h2 hx0
          have D3 : Hid (DLW w (W2.setCell ⟨w.heap.size, 0, none⟩ (.int .i64 0)) p l (up1 s) c z) := D2.out.put _
          have E3 : Hid (Has 31 (W2.setCell ⟨w.heap.size, 0, none⟩ (.int .i64 0)) w.heap.size [.int .i64 0]) := D2.out.zero
          generalize W2.setCell ⟨w.heap.size, 0, none⟩ (.int .i64 0) = W3 at D3 E3 ⊢
          refine wpAny_ready (rs := [12]) (by kernel_rfl) (by simp) ?_
          refine AllReady.cons rfl (fun K hK => ?_) AllReady.nil
          obtain ⟨y0, hy0⟩ := D3.out.eb
          have h1 := hy0.cell 0
          have h2 := hy0.frozen 0
          go_simp
          refine hK _ _ ?_
          clear hK K h1 h2 hy0
          refine wpAny_done (by kernel_rfl) ?_ _
          go_wp2
          exact DLW.ends D3.out E3.out rfl rfl
      refine AllReady.cons rfl (fun K hK => ?_) AllReady.nil
      · skip
        obtain ⟨x0, hx0⟩ := D2.out.ea
        have h1 := hx0.cell 0
        have h2 := hx0.frozen 0
        go_simp
        refine hK _ _ ?_
        clear hK K h1 h2 hx0
        have D3 : Hid (DLW w (W2.setCell ⟨w.heap.size, 0, none⟩ (.int .i64 0)) p l (up1 s) c z) := D2.out.put _
        have E3 : Hid (Has 31 (W2.setCell ⟨w.heap.size, 0, none⟩ (.int .i64 0)) w.heap.size [.int .i64 0]) := D2.out.zero
        generalize W2.setCell ⟨w.heap.size, 0, none⟩ (.int .i64 0) = W3 at D3 E3 ⊢
        refine wpAny_ready (rs := [6]) (by kernel_rfl) (by simp) ?_
        refine AllReady.cons rfl (fun K hK => ?_) AllReady.nil
        · skip
          have h1 := D3.out.tab i HI.out
          go_simp
          refine hK _ _ ?_
          clear hK K h1
          refine wpAny_take (i := 7) (v := .int .i64 (6 * (i : Int))) rfl (by kernel_rfl) (by kernel_rfl) (by kernel_rfl) (fun c a w h => put_panic (res_dl 14 _ (by decide) (by decide)) c a w h) (Or.inl ⟨by rfl, fun w => by go_simp⟩) ?_
          refine wpAny_take (i := 10) (v := .int .i64 N) rfl (by kernel_rfl) (by kernel_rfl) (by kernel_rfl) (fun c a w h => put_panic (res_dl 17 _ (by decide) (by decide)) c a w h) (Or.inl ⟨by rfl, fun w => by go_simp⟩) ?_
          refine wpAny_ready (rs := [12]) (by kernel_rfl) (by simp) ?_
          refine AllReady.cons rfl (fun K hK => ?_) AllReady.nil
          obtain ⟨y0, hy0⟩ := D3.out.eb
          have h1 := hy0.cell 0
          have h2 := hy0.frozen 0
          go_simp
          refine hK _ _ ?_
          clear hK K h1 h2 hy0
          refine wpAny_done (by kernel_rfl) ?_ _
          go_wp2
          exact DLW.ends D3.out E3.out rfl rfl
  refine AllReady.cons rfl (fun K hK => ?_) AllReady.nil
  · skip
    go_simp
    refine (next_any p l s c z W0 HD.out.ca).mono ?_
    rintro e W2 ⟨rfl, h2, c2⟩
    have D2 : Hid (DLW w W2 p l (up1 s) c z) := HD.out.called h2 c2
    clear h2 c2
    rw [HQ.out]
    refine hK _ _ ?_
    clear hK K
    refine wpAny_ready (rs := [3, 11]) (by kernel_rfl) (by simp) ?_
    refine AllReady.cons rfl (fun K hK => ?_) ?_
    · skip
      have h1 := D2.out.ca.c19
      go_simp
      refine hK _ _ ?_
      clear hK K h1
      refine wpAny_take (i := 5) (v := .pointer (some ⟨l.d, i, none⟩)) rfl (by kernel_rfl) (by kernel_rfl) (by kernel_rfl) (fun c a w h => put_panic (res_dl 12 _ (by decide) (by decide)) c a w h) (Or.inl ⟨by rfl, fun w => by go_simp⟩) ?_
      refine wpAny_ready (rs := [6, 11]) (by kernel_rfl) (by simp) ?_
      refine AllReady.cons rfl (fun K hK => ?_) ?_
      · skip
        have h1 := D2.out.tab i HI.out
        go_simp
        refine hK _ _ ?_
        clear hK K h1
        refine wpAny_take (i := 7) (v := .int .i64 (6 * (i : Int))) rfl (by kernel_rfl) (by kernel_rfl) (by kernel_rfl) (fun c a w h => put_panic (res_dl 14 _ (by decide) (by decide)) c a w h) (Or.inl ⟨by rfl, fun w => by go_simp⟩) ?_
        refine wpAny_take (i := 10) (v := .int .i64 N) rfl (by kernel_rfl) (by kernel_rfl) (by kernel_rfl) (fun c a w h => put_panic (res_dl 17 _ (by decide) (by decide)) c a w h) (Or.inl ⟨by rfl, fun w => by go_simp⟩) ?_
        refine wpAny_ready (rs := [11]) (by kernel_rfl) (by simp) ?_
        refine AllReady.cons rfl (fun K hK => ?_) AllReady.nil
        · skip
          obtain ⟨x0, hx0⟩ := D2.out.ea
          have h1 := hx0.cell 0
          have h2 := hx0.frozen 0
          go_simp
          refine hK _ _ ?_
          clear hK K h1 h2 hx0
          have D3 : Hid (DLW w (W2.setCell ⟨w.heap.size, 0, none⟩ (.int .i64 0)) p l (up1 s) c z) := D2.out.put _
          have E3 : Hid (Has 31 (W2.setCell ⟨w.heap.size, 0, none⟩ (.int .i64 0)) w.heap.size [.int .i64 0]) := D2.out.zero
          generalize W2.setCell ⟨w.heap.size, 0, none⟩ (.int .i64 0) = W3 at D3 E3 ⊢
          refine wpAny_ready (rs := [12]) (by kernel_rfl) (by simp) ?_
          refine AllReady.cons rfl (fun K hK => ?_) AllReady.nil
          obtain ⟨y0, hy0⟩ := D3.out.eb
          have h1 := hy0.cell 0
          have h2 := hy0.frozen 0
          go_simp
          refine hK _ _ ?_
          clear hK K h1 h2 hy0
          refine wpAny_done (by kernel_rfl) ?_ _
          go_wp2
          exact DLW.ends D3.out E3.out rfl rfl
      refine AllReady.cons rfl (fun K hK => ?_) AllReady.nil
      · skip
        obtain ⟨x0, hx0⟩ := D2.out.ea
        have h1 := hx0.cell 0
        have h2 := hx0.frozen 0
        go_simp
        refine hK _ _ ?_
        clear hK K h1 h2 hx0
        have D3 : Hid (DLW w (W2.setCell ⟨w.heap.size, 0, none⟩ (.int .i64 0)) p l (up1 s) c z) := D2.out.put _
        have E3 : Hid (Has 31 (W2.setCell ⟨w.heap.size, 0, none⟩ (.int .i64 0)) w.heap.size [.int .i64 0]) := D2.out.zero
        generalize W2.setCell ⟨w.heap.size, 0, none⟩ (.int .i64 0) = W3 at D3 E3 ⊢
        refine wpAny_ready (rs := [6]) (by kernel_rfl) (by simp) ?_
        refine AllReady.cons rfl (fun K hK => ?_) AllReady.nil
        · skip
          have h1 := D3.out.tab i HI.out
          go_simp
          refine hK _ _ ?_
          clear hK K h1
          refine wpAny_take (i := 7) (v := .int .i64 (6 * (i : Int))) rfl (by kernel_rfl) (by kernel_rfl) (by kernel_rfl) (fun c a w h => put_panic (res_dl 14 _ (by decide) (by decide)) c a w h) (Or.inl ⟨by rfl, fun w => by go_simp⟩) ?_
          refine wpAny_take (i := 10) (v := .int .i64 N) rfl (by kernel_rfl) (by kernel_rfl) (by kernel_rfl) (fun c a w h => put_panic (res_dl 17 _ (by decide) (by decide)) c a w h) (Or.inl ⟨by rfl, fun w => by go_simp⟩) ?_
          refine wpAny_ready (rs := [12]) (by kernel_rfl) (by simp) ?_
          refine AllReady.cons rfl (fun K hK => ?_) AllReady.nil
          obtain ⟨y0, hy0⟩ := D3.out.eb
          have h1 := hy0.cell 0
          have h2 := hy0.frozen 0
          go_simp
          refine hK _ _ ?_
          clear hK K h1 h2 hy0
          refine wpAny_done (by kernel_rfl) ?_ _
          go_wp2
          exact DLW.ends D3.out E3.out rfl rfl
    refine AllReady.cons rfl (fun K hK => ?_) AllReady.nil
    · skip
      obtain ⟨x0, hx0⟩ := D2.out.ea
      have h1 := hx0.cell 0
      have h2 := hx0.frozen 0
      go_simp
      refine hK _ _ ?_
      clear hK K h1 h2 hx0
      have D3 : Hid (DLW w (W2.setCell ⟨w.heap.size, 0, none⟩ (.int .i64 0)) p l (up1 s) c z) := D2.out.put _
      have E3 : Hid (Has 31 (W2.setCell ⟨w.heap.size, 0, none⟩ (.int .i64 0)) w.heap.size [.int .i64 0]) := D2.out.zero
      generalize W2.setCell ⟨w.heap.size, 0, none⟩ (.int .i64 0) = W3 at D3 E3 ⊢
      refine wpAny_ready (rs := [3]) (by kernel_rfl) (by simp) ?_
      refine AllReady.cons rfl (fun K hK => ?_) AllReady.nil
      · skip
        have h1 := D3.out.ca.c19
        go_simp
        refine hK _ _ ?_
        clear hK K h1
        refine wpAny_take (i := 5) (v := .pointer (some ⟨l.d, i, none⟩)) rfl (by kernel_rfl) (by kernel_rfl) (by kernel_rfl) (fun c a w h => put_panic (res_dl 12 _ (by decide) (by decide)) c a w h) (Or.inl ⟨by rfl, fun w => by go_simp⟩) ?_
        refine wpAny_ready (rs := [6]) (by kernel_rfl) (by simp) ?_
        refine AllReady.cons rfl (fun K hK => ?_) AllReady.nil
        · skip
          have h1 := D3.out.tab i HI.out
          go_simp
          refine hK _ _ ?_
          clear hK K h1
          refine wpAny_take (i := 7) (v := .int .i64 (6 * (i : Int))) rfl (by kernel_rfl) (by kernel_rfl) (by kernel_rfl) (fun c a w h => put_panic (res_dl 14 _ (by decide) (by decide)) c a w h) (Or.inl ⟨by rfl, fun w => by go_simp⟩) ?_
          refine wpAny_take (i := 10) (v := .int .i64 N) rfl (by kernel_rfl) (by kernel_rfl) (by kernel_rfl) (fun c a w h => put_panic (res_dl 17 _ (by decide) (by decide)) c a w h) (Or.inl ⟨by rfl, fun w => by go_simp⟩) ?_
          refine wpAny_ready (rs := [12]) (by kernel_rfl) (by simp) ?_
          refine AllReady.cons rfl (fun K hK => ?_) AllReady.nil
          obtain ⟨y0, hy0⟩ := D3.out.eb
          have h1 := hy0.cell 0
          have h2 := hy0.frozen 0
          go_simp
          refine hK _ _ ?_
          clear hK K h1 h2 hy0
          refine wpAny_done (by kernel_rfl) ?_ _
          go_wp2
          exact DLW.ends D3.out E3.out rfl rfl
end Go.Proofs.Qxb6500376aGreatDoor

/- DitherLoose beyond its table: Go's own bounds panic beside a call, caught at the boundary. -/
import Derived.Test.Qxb6500376aGreatDoorChLoose
import Derived.Test.Qxb6500376aGreatDoorDefer
import Derived.Laws.Panics
import Derived.LaidEql
namespace Go.Proofs.Qxb6500376aGreatDoor
set_option linter.unusedVariables false
set_option linter.unusedSimpArgs false
open Go.RowKit Go.Qu
theorem run_boundsPanic2 {P : Program} {α : Type} (k : IntKind) (x y : Int) (code : BoundsCode) (w : World) :
    ∃ s w', (boundsPanic k x y code : Sem α).run P w = .halt (.panic (boundsValue P (IntKind.i64.wrap x) y s code.toNat)) w' ∧ (w' = w ∨ w' = w.drew) := by
  unfold boundsPanic boundsValue
  split
  · refine ⟨_, _, by simp [runtimePanic, goPanic, go_sem]; rfl, Or.inr rfl⟩
  · refine ⟨_, _, by simp [runtimePanic, goPanic, go_sem]; rfl, Or.inl rfl⟩
theorem idx_out (d : Nat) (i : Int) (hi : i < 0 ∨ 8 ≤ i) (w : World) :
    ∃ s w', (Instr.indexAt 58 (.slice (some ⟨d, 0, none⟩) 8 8) (.int .i64 i)).run Tryz.prog w = .halt (.panic (boundsValue Tryz.prog (IntKind.i64.wrap i) 8 s 0)) w' ∧ (w' = w ∨ w' = w.drew) := by
  have e := run_indexAt_slice (P := Tryz.prog) (w := w) (t := 58) (k := .i64) (i := i) (a := ⟨d, 0, none⟩) (len := 8) (cap := 8) (h := (by kernel_rfl : Tryz.prog.underlying 58 = some (.slice (Tryz.prog.elem 58))))
  rw [e, if_neg (by omega)]
  exact run_boundsPanic2 .i64 i 8 .index w
theorem own_bounds (x y : Int) (s : Bool) (c : Nat) (w : World) : (Instr.typeAssert (boundsValue Tryz.prog x y s c) 20 88 true).run Tryz.prog w = .ok (.tuple #[boundsValue Tryz.prog x y s c, .bool true]) w := by kernel_rfl

theorem dl_catch (p q : Addr) (x y : Int) (u : TypeId) (pv : Value) (older : List PanicEntry) (w : World) (hc : w.cell? p = some (.int .i64 x)) (hz : w.frozen? p = false) (hc2 : w.cell? q = some (.int .i64 y)) (hz2 : w.frozen? q = false) (hpq : p ≠ q)
    (hta : ∀ w, (Instr.typeAssert (.iface u pv) 20 88 true).run Tryz.prog w = .ok (.tuple #[.iface u pv, .bool true]) w) :
    CallsD Tryz.prog 74 #[.pointer (some p), .pointer (some q)] (.panicking ({ v := .iface u pv, recovered := false } :: older)) w fun e u' w' =>
      e = .returned (.tuple #[]) ∧ u' = .panicking ({ v := .iface u pv, recovered := true } :: older) ∧ w' = (w.setCell p (.int .i64 8)).setCell q (.int .i64 0) := by
  have k1 : ∀ v, (w.setCell p v).cell? q = some (.int .i64 y) := fun v => by rw [World.cell?_setCell_other w p q v hpq, hc2]
  refine callsD_of_wpS Tryz.func74 rfl fun c₀ cs hu => ?_
  apply wpS_seq
  apply wpS_region
  simp [wpOpsS, go_sem, recoverD, hu, Tryz.ntmps74, Exit.thenS]
  have e0 : (#[Value.pointer (some p), Value.pointer (some q)] ++ ((Array.replicate 14 undef).setIfInBounds 3 (Value.iface u pv)).setIfInBounds 0 (Value.iface u pv)) = #[Value.pointer (some p), Value.pointer (some q), Value.iface u pv, undef, undef, Value.iface u pv, undef, undef, undef, undef, undef, undef, undef, undef, undef, undef] := rfl
  rw [e0]
  clear e0
  refine wpS_of_wp ?_
  go_wp2
  simp [bodyPostS, results, Tryz.results74]
theorem dl_dies {R : Ending → World → Prop} {a b : Nat} (hab : a ≠ b) {v : Value} {u : TypeId} {pv : Value} (hv : v = .iface u pv) (hta : ∀ w, (Instr.typeAssert (.iface u pv) 20 88 true).run Tryz.prog w = .ok (.tuple #[.iface u pv, .bool true]) w)
    {t : Array Value} (h4 : t[4]? = some (.pointer (some ⟨a, 0, none⟩))) (h5 : t[5]? = some (.pointer (some ⟨b, 0, none⟩))) {x y : Int} {w : World}
    (hc : w.cell? ⟨a, 0, none⟩ = some (.int .i64 x)) (hz : w.frozen? ⟨a, 0, none⟩ = false) (hc2 : w.cell? ⟨b, 0, none⟩ = some (.int .i64 y)) (hz2 : w.frozen? ⟨b, 0, none⟩ = false)
    (hR : R (.returned (.tuple #[.int .i64 8, .int .i64 0])) ((w.setCell ⟨a, 0, none⟩ (.int .i64 8)).setCell ⟨b, 0, none⟩ (.int .i64 0))) :
    bodyPostD Tryz.prog Tryz.f52 R (Exit.panic [{ v := v, recovered := false }]) { tmps := t, defers := [{ target := Target.fn (Fn.func 74) #[.pointer (some ⟨a, 0, none⟩), .pointer (some ⟨b, 0, none⟩)], args := #[] }] } w := by
  subst hv
  refine leaves_cons (f := 74) (args := #[.pointer (some ⟨a, 0, none⟩), .pointer (some ⟨b, 0, none⟩)]) (by simp) (by simp [go_sem]) ?_
  refine (dl_catch ⟨a, 0, none⟩ ⟨b, 0, none⟩ x y u pv [] w hc hz hc2 hz2 (fun e => hab (congrArg Addr.block e)) hta).mono ?_
  rintro e u' w'' ⟨rfl, rfl, rfl⟩
  have e1 : ((w.setCell ⟨a, 0, none⟩ (.int .i64 8)).setCell ⟨b, 0, none⟩ (.int .i64 0)).cell? ⟨a, 0, none⟩ = some (.int .i64 8) := by
    rw [World.cell?_setCell_other _ _ _ _ (fun e => hab (congrArg Addr.block e).symm)]
    exact World.cell?_setCell_same _ _ _ hc
  have e2 : ((w.setCell ⟨a, 0, none⟩ (.int .i64 8)).setCell ⟨b, 0, none⟩ (.int .i64 0)).cell? ⟨b, 0, none⟩ = some (.int .i64 0) :=
    World.cell?_setCell_same _ _ _ (by rw [World.cell?_setCell_other _ _ _ _ (fun e => hab (congrArg Addr.block e))]; exact hc2)
  simp [Leaves, settle, results, Tryz.results52, go_sem, h4, h5, e1, e2]
  exact hR

def up1 (s : CS) : CS := { s with seq := wrap64 (s.seq + 1) }
structure DLW (w W : World) (p : Nat) (l : Lk) (s : CS) (c z : Int) : Prop where
  ca : CA W p l s c z
  ea : ∃ x, Has 31 W w.heap.size [.int .i64 x]
  eb : ∃ y, Has 3 W (w.heap.size + 1) [.int .i64 y]
  chg : Chg (· = p) w W
  old : p < w.heap.size ∧ l.q < w.heap.size ∧ l.d < w.heap.size ∧ l.k < w.heap.size ∧ l.dr < w.heap.size ∧ l.k0 < w.heap.size ∧ l.d0 < w.heap.size
theorem DLW.drew {w W : World} {p : Nat} {l : Lk} {s : CS} {c z : Int} (D : DLW w W p l s c z) : DLW w W.drew p l s c z := ⟨D.ca.drew, D.ea, D.eb, D.chg.drew, D.old⟩
theorem DLW.put {w W : World} {p : Nat} {l : Lk} {s : CS} {c z : Int} (D : DLW w W p l s c z) (v : Int) : DLW w (W.setCell ⟨w.heap.size, 0, none⟩ (.int .i64 v)) p l s c z := by
  obtain ⟨ex, ha⟩ := D.ea
  obtain ⟨ey, hb⟩ := D.eb
  obtain ⟨o1, o2, o3, o4, o5, o6, o7⟩ := D.old
  have hc : Chg (fun k => k = w.heap.size) W (W.setCell ⟨w.heap.size, 0, none⟩ (.int .i64 v)) := Chg.set1 W _ 0 _
  exact ⟨D.ca.kept hc (by omega) (by omega) (by omega) (by omega) (by omega) (by omega) (by omega), ⟨v, ha.setCell 0 _⟩, ⟨ey, hb.kept hc (by omega)⟩, D.chg.setCell (p := ⟨w.heap.size, 0, none⟩) (.inr (Nat.le_refl _)) _, D.old⟩
theorem DLW.called {w W W2 : World} {p : Nat} {l : Lk} {s s2 : CS} {c z : Int} (D : DLW w W p l s c z) (h2 : CA W2 p l s2 c z) (c2 : Chg (· = p) W W2) : DLW w W2 p l s2 c z := by
  obtain ⟨ex, ha⟩ := D.ea
  obtain ⟨ey, hb⟩ := D.eb
  obtain ⟨o1, o2⟩ := D.old
  exact ⟨h2, ⟨ex, ha.kept c2 (by omega)⟩, ⟨ey, hb.kept c2 (by omega)⟩, D.chg.trans c2, D.old⟩
theorem DLW.dies {w W : World} {p : Nat} {l : Lk} {s s0 : CS} {c z : Int} (D : DLW w W p l s c z) (hs : s = s0 ∨ s = up1 s0) {W' : World} (hW : W' = W ∨ W' = W.drew) {x y : Int} {sg : Bool} {cd : Nat}
    {t : Array Value} (h4 : t[4]? = some (.pointer (some ⟨w.heap.size, 0, none⟩))) (h5 : t[5]? = some (.pointer (some ⟨w.heap.size + 1, 0, none⟩))) :
    bodyPostD Tryz.prog Tryz.f52 (fun e w' => e = .returned (.tuple #[.int .i64 8, .int .i64 0]) ∧ (CA w' p l s0 c z ∨ CA w' p l (up1 s0) c z) ∧ Chg (· = p) w w') (Exit.panic [{ v := boundsValue Tryz.prog x y sg cd, recovered := false }])
      { tmps := t, defers := [{ target := Target.fn (Fn.func 74) #[.pointer (some ⟨w.heap.size, 0, none⟩), .pointer (some ⟨w.heap.size + 1, 0, none⟩)], args := #[] }] } W' := by
  have D' : DLW w W' p l s c z := by rcases hW with rfl | rfl; exact D; exact D.drew
  obtain ⟨ex, ha⟩ := D'.ea
  obtain ⟨ey, hb⟩ := D'.eb
  obtain ⟨o1, o2, o3, o4, o5, o6, o7⟩ := D'.old
  refine dl_dies (a := w.heap.size) (b := w.heap.size + 1) (by omega) rfl (own_bounds x y sg cd) h4 h5 (ha.cell 0) (ha.frozen 0) (hb.cell 0) (hb.frozen 0) ?_
  have hc : Chg (fun k => w.heap.size ≤ k) W' ((W'.setCell ⟨w.heap.size, 0, none⟩ (.int .i64 8)).setCell ⟨w.heap.size + 1, 0, none⟩ (.int .i64 0)) :=
    ((Chg.refl _ W').setCell (p := ⟨w.heap.size, 0, none⟩) (.inl (Nat.le_refl _)) _).setCell (p := ⟨w.heap.size + 1, 0, none⟩) (.inl (by show w.heap.size ≤ w.heap.size + 1; omega)) _
  have hca := D'.ca.kept hc (by omega) (by omega) (by omega) (by omega) (by omega) (by omega) (by omega)
  refine ⟨rfl, ?_, ?_⟩
  · rcases hs with rfl | rfl
    · exact .inl hca
    · exact .inr hca
  · exact (D'.chg.setCell (p := ⟨w.heap.size, 0, none⟩) (.inr (Nat.le_refl _)) _).setCell (p := ⟨w.heap.size + 1, 0, none⟩) (.inr (by show w.heap.size ≤ w.heap.size + 1; omega)) _

theorem res_dl (d : Nat) (v : Value) (h6 : d ≠ 4) (h7 : d ≠ 5) (t : Array Value) : results Tryz.f52 (t.setIfInBounds d v) = results Tryz.f52 t := by
  have e : Tryz.f52.results = #[.cell 4 31, .cell 5 3] := by kernel_rfl
  unfold results
  rw [e]
  simp [Array.getD_eq_getD_getElem?, Array.getElem?_setIfInBounds, h6, h7]
set_option maxRecDepth 20000 in
theorem ditherLoose_out (p : Nat) (l : Lk) (s : CS) (c z i : Int) (w : World) (h : CA w p l s c z) (hi : i < 0 ∨ 8 ≤ i) : Calls Tryz.prog 52 #[.pointer (some ⟨p, 0, none⟩), .int .i64 i] w fun e w' =>
    e = .returned (.tuple #[.int .i64 8, .int .i64 0]) ∧ (CA w' p l s c z ∨ CA w' p l (up1 s) c z) ∧ Chg (· = p) w w' := by
  have hmf : ∀ (fn : Fn) (first cap : Array Value) (w : World), (Instr.makeFunc fn first cap).run Tryz.prog w = .ok (.func fn first cap) w := fun _ _ _ _ => rfl
  have HI : Hid (∀ w, ∃ s w', (Instr.indexAt 58 (.slice (some ⟨l.d, 0, none⟩) 8 8) (.int .i64 i)).run Tryz.prog w = .halt (.panic (boundsValue Tryz.prog (IntKind.i64.wrap i) 8 s 0)) w' ∧ (w' = w ∨ w' = w.drew)) := fun w => idx_out l.d i hi w
  have D0 : DLW w (((w.alloc (.cells #[.int .i64 0] 31)).alloc (.cells #[.int .i64 0] 3)).drew) p l s c z := by
    have n1 := Has.new 31 w [.int .i64 0]
    have n2 := Has.new 3 (w.alloc (.cells #[.int .i64 0] 31)) [.int .i64 0]
    rw [World.size_alloc] at n2
    have hc : Chg (fun _ => False) w ((w.alloc (.cells #[.int .i64 0] 31)).alloc (.cells #[.int .i64 0] 3)).drew := (((Chg.refl _ w).alloc _).alloc _).drew
    exact ⟨h.kept hc id id id id id id id, ⟨0, (n1.alloc _).drew⟩, ⟨0, n2.drew⟩, hc.mono fun _ _ e => e.elim, h.obj.lt, h.qu.lt, h.tab.lt, h.k.lt, h.dr.lt, h.k0.lt, h.d0.lt⟩
  have HD : Hid (DLW w (((w.alloc (.cells #[.int .i64 0] 31)).alloc (.cells #[.int .i64 0] 3)).drew) p l s c z) := D0
  clear h hi D0
  go_enter_defers Tryz.func52, Tryz.ntmps52
  go_wp2
  refine wp_region_any (by kernel_rfl) ?_
  change wpAny _ _ _ _ _ _ _ (World.drew _)
  generalize World.drew _ = W0 at HD ⊢
  refine wpAny_take (i := 0) (v := .pointer (some ⟨p, 0, none⟩)) rfl (by kernel_rfl) (by kernel_rfl) (by kernel_rfl) (fun c a w h => put_panic (res_dl 7 _ (by decide) (by decide)) c a w h) (Or.inl ⟨by rfl, fun w => by rfl⟩) ?_
  refine wpAny_take (i := 1) (v := .pointer (some ⟨p, 0, none⟩)) rfl (by kernel_rfl) (by kernel_rfl) (by kernel_rfl) (fun c a w h => put_panic (res_dl 8 _ (by decide) (by decide)) c a w h) (Or.inl ⟨by rfl, fun w => by go_simp⟩) ?_
  refine wpAny_take (i := 2) (v := .pointer (some ⟨p, 19, none⟩)) rfl (by kernel_rfl) (by kernel_rfl) (by kernel_rfl) (fun c a w h => put_panic (res_dl 9 _ (by decide) (by decide)) c a w h) (Or.inl ⟨by rfl, fun w => by go_simp⟩) ?_
  refine wpAny_take (i := 4) (v := .int .i64 i) rfl (by kernel_rfl) (by kernel_rfl) (by kernel_rfl) (fun c a w h => put_panic (res_dl 11 _ (by decide) (by decide)) c a w h) (Or.inl ⟨by rfl, fun w => by rfl⟩) ?_
  refine wpAny_take (i := 8) (v := .pointer (some ⟨p, 0, none⟩)) rfl (by kernel_rfl) (by kernel_rfl) (by kernel_rfl) (fun c a w h => put_panic (res_dl 15 _ (by decide) (by decide)) c a w h) (Or.inl ⟨by rfl, fun w => by rfl⟩) ?_
  refine wpAny_ready (rs := [3, 9]) (by kernel_rfl) (by simp) ?_
  refine AllReady.cons rfl (fun K hK => ?_) ?_
  · skip
    have h1 := HD.out.ca.c19
    go_simp
    refine hK _ _ ?_
    clear hK K h1
    refine wpAny_ready (rs := [5, 9]) (by kernel_rfl) (by simp) ?_
    refine AllReady.cons rfl (fun K hK => ?_) ?_
    · obtain ⟨sg, w9, he, hw⟩ := HI.out W0
      go_simp
      clear hK K
      exact DLW.dies HD.out (.inl rfl) hw rfl rfl
    refine AllReady.cons rfl (fun K hK => ?_) AllReady.nil
    · skip
      go_simp
      refine (next_any p l s c z W0 HD.out.ca).mono ?_
      rintro e W2 ⟨rfl, h2, c2⟩
      have D2 : Hid (DLW w W2 p l (up1 s) c z) := HD.out.called h2 c2
      clear h2 c2
      refine hK _ _ ?_
      clear hK K
      refine wpAny_ready (rs := [5, 11]) (by kernel_rfl) (by simp) ?_
      refine AllReady.cons rfl (fun K hK => ?_) ?_
      · obtain ⟨sg, w9, he, hw⟩ := HI.out W2
        go_simp
        clear hK K
        exact DLW.dies D2.out (.inr rfl) hw rfl rfl
      refine AllReady.cons rfl (fun K hK => ?_) AllReady.nil
      · skip
        obtain ⟨x0, hx0⟩ := D2.out.ea
        have h1 := hx0.cell 0
        have h2 := hx0.frozen 0
        go_simp
        refine hK _ _ ?_
        clear hK K h1 h2 hx0
        have D3 : Hid (DLW w (W2.setCell ⟨w.heap.size, 0, none⟩ (.int .i64 0)) p l (up1 s) c z) := D2.out.put _
        generalize W2.setCell ⟨w.heap.size, 0, none⟩ (.int .i64 0) = W3 at D3 ⊢
        refine wpAny_ready (rs := [5]) (by kernel_rfl) (by simp) ?_
        refine AllReady.cons rfl (fun K hK => ?_) AllReady.nil
        · obtain ⟨sg, w9, he, hw⟩ := HI.out W3
          go_simp
          clear hK K
          exact DLW.dies D3.out (.inr rfl) hw rfl rfl
  refine AllReady.cons rfl (fun K hK => ?_) AllReady.nil
  · skip
    go_simp
    refine (next_any p l s c z W0 HD.out.ca).mono ?_
    rintro e W2 ⟨rfl, h2, c2⟩
    have D2 : Hid (DLW w W2 p l (up1 s) c z) := HD.out.called h2 c2
    clear h2 c2
    refine hK _ _ ?_
    clear hK K
    refine wpAny_ready (rs := [3, 11]) (by kernel_rfl) (by simp) ?_
    refine AllReady.cons rfl (fun K hK => ?_) ?_
    · skip
      have h1 := D2.out.ca.c19
      go_simp
      refine hK _ _ ?_
      clear hK K h1
      refine wpAny_ready (rs := [5, 11]) (by kernel_rfl) (by simp) ?_
      refine AllReady.cons rfl (fun K hK => ?_) ?_
      · obtain ⟨sg, w9, he, hw⟩ := HI.out W2
        go_simp
        clear hK K
        exact DLW.dies D2.out (.inr rfl) hw rfl rfl
      refine AllReady.cons rfl (fun K hK => ?_) AllReady.nil
      · skip
        obtain ⟨x0, hx0⟩ := D2.out.ea
        have h1 := hx0.cell 0
        have h2 := hx0.frozen 0
        go_simp
        refine hK _ _ ?_
        clear hK K h1 h2 hx0
        have D3 : Hid (DLW w (W2.setCell ⟨w.heap.size, 0, none⟩ (.int .i64 0)) p l (up1 s) c z) := D2.out.put _
        generalize W2.setCell ⟨w.heap.size, 0, none⟩ (.int .i64 0) = W3 at D3 ⊢
        refine wpAny_ready (rs := [5]) (by kernel_rfl) (by simp) ?_
        refine AllReady.cons rfl (fun K hK => ?_) AllReady.nil
        · obtain ⟨sg, w9, he, hw⟩ := HI.out W3
          go_simp
          clear hK K
          exact DLW.dies D3.out (.inr rfl) hw rfl rfl
    refine AllReady.cons rfl (fun K hK => ?_) AllReady.nil
    · skip
      obtain ⟨x0, hx0⟩ := D2.out.ea
      have h1 := hx0.cell 0
      have h2 := hx0.frozen 0
      go_simp
      refine hK _ _ ?_
      clear hK K h1 h2 hx0
      have D3 : Hid (DLW w (W2.setCell ⟨w.heap.size, 0, none⟩ (.int .i64 0)) p l (up1 s) c z) := D2.out.put _
      generalize W2.setCell ⟨w.heap.size, 0, none⟩ (.int .i64 0) = W3 at D3 ⊢
      refine wpAny_ready (rs := [3]) (by kernel_rfl) (by simp) ?_
      refine AllReady.cons rfl (fun K hK => ?_) AllReady.nil
      · skip
        have h1 := D3.out.ca.c19
        go_simp
        refine hK _ _ ?_
        clear hK K h1
        refine wpAny_ready (rs := [5]) (by kernel_rfl) (by simp) ?_
        refine AllReady.cons rfl (fun K hK => ?_) AllReady.nil
        · obtain ⟨sg, w9, he, hw⟩ := HI.out W3
          go_simp
          clear hK K
          exact DLW.dies D3.out (.inr rfl) hw rfl rfl
end Go.Proofs.Qxb6500376aGreatDoor

/- The counts as a text. -/
import Derived.Test.Qxb6500376aDoorShelf
import Derived.Test.Qxb6500376aDoorQuNew
import Derived.Deep.RegionHeld3
import Derived.Lib.SmallJoins
import Derived.Lib.ItoaLen
namespace Go.Proofs.Qxb6500376aDoor
set_option linter.unusedVariables false
set_option linter.unusedSimpArgs false
open Go.RowKit Go.Qu

/-- the library's table of powers of ten lies as the program's text lays it -/
abbrev Tab (w : World) : Prop := Lib.TabIs Tryd.prog w "internal/strconv.uint64pow10" .u64 Lib.pow10Tab
theorem tab_global : ∃ g, Tryd.prog.globalNamed "internal/strconv.uint64pow10" = some g := Option.isSome_iff_exists.1 (by kernel_rfl)
theorem Tab.kept {w w' : World} (h : Tab w) (hb : Below w.heap.size w w') : Tab w' := by
  obtain ⟨g, hg⟩ := tab_global
  exact Joins.tab_stays hg h hb (Nat.le_refl _)
theorem Tab.nil {w w' : World} (h : Tab w) (hc : Chg (fun _ => False) w w') : Tab w' := h.kept (hc.below _ (Nat.le_refl _) fun _ _ e => e)
theorem Tab.drew {w : World} (h : Tab w) : Tab w.drew := h
theorem Tab.drewN {w : World} (h : Tab w) (n : Nat) : Tab (w.drewN n) := h

theorem itoa_any (n : Int) (h0 : -9223372036854775808 ≤ n) (h1 : n ≤ 9223372036854775807) (w : World) (ht : Tab w) :
    Calls Tryd.prog 23 #[.int .i64 n] w fun e w' => e = .returned (.string ⟨(Lib.itoa n).toArray⟩) ∧ Chg (fun _ => False) w w' :=
  (Tryd.strconv_Itoa n h0 h1 w ht).mono fun e w' ⟨he, k, os, hw⟩ => by subst hw; exact ⟨he, ((Chg.refl _ w).drewN k).grow os⟩

theorem bytes_append (a b : List UInt8) : ((⟨a.toArray⟩ : ByteArray) ++ (⟨b.toArray⟩ : ByteArray)) = ⟨(a ++ b).toArray⟩ := by
  apply ByteArray.ext
  simp
def showQ (c z : Int) : List UInt8 := [99, 108, 105, 112, 115, 61] ++ Lib.itoa c ++ [32, 110, 97, 110, 115, 61] ++ Lib.itoa z

def sA (c : Int) : ByteArray := ⟨([99, 108, 105, 112, 115, 61] ++ Lib.itoa c).toArray⟩
def sB (c : Int) : ByteArray := ⟨([99, 108, 105, 112, 115, 61] ++ Lib.itoa c ++ [32, 110, 97, 110, 115, 61]).toArray⟩
def sC (c z : Int) : ByteArray := ⟨(showQ c z).toArray⟩
/-- a sum of two texts, as lists of bytes -/
theorem run_cat (a b : List UInt8) (h : a.length + b.length ≤ 9223372036854775807) (w : World) : (Op.stringOp .add ⟨a.toArray⟩ ⟨b.toArray⟩).run Tryd.prog w = .ok (.string ⟨(a ++ b).toArray⟩) w := by
  rw [← bytes_append]
  exact run_string_add_sum w _ _ (by simpa [ByteArray.size] using h)
theorem cat1 (c : Int) (h : (Lib.itoa c).length ≤ 21) (w : World) : (Op.stringOp .add ⟨#[99, 108, 105, 112, 115, 61]⟩ ⟨(Lib.itoa c).toArray⟩).run Tryd.prog w = .ok (.string (sA c)) w :=
  run_cat [99, 108, 105, 112, 115, 61] _ (by simp; omega) w
theorem cat2 (c : Int) (h : (Lib.itoa c).length ≤ 21) (w : World) : (Op.stringOp .add (sA c) ⟨#[32, 110, 97, 110, 115, 61]⟩).run Tryd.prog w = .ok (.string (sB c)) w :=
  run_cat _ [32, 110, 97, 110, 115, 61] (by simp; omega) w
theorem cat3 (c z : Int) (h : (Lib.itoa c).length ≤ 21) (h' : (Lib.itoa z).length ≤ 21) (w : World) : (Op.stringOp .add (sB c) ⟨(Lib.itoa z).toArray⟩).run Tryd.prog w = .ok (.string (sC c z)) w :=
  run_cat _ _ (by simp; omega) w

set_option maxHeartbeats 1000000 in
theorem show_any (p : Nat) (c z : Int) (w : World) (hq : Has 89 w p [.int .i64 c, .int .i64 z]) (ht : Tab w) (c0 : -9223372036854775808 ≤ c) (c1 : c ≤ 9223372036854775807) (z0 : -9223372036854775808 ≤ z) (z1 : z ≤ 9223372036854775807) :
    Calls Tryd.prog 26 #[.pointer (some ⟨p, 0, none⟩)] w fun e w' => e = .returned (.string ⟨(showQ c z).toArray⟩) ∧ Chg (fun _ => False) w w' := by
  have h0 : w.cell? ⟨p, 0, none⟩ = some (.int .i64 c) := hq.cell 0
  have h1 : w.cell? ⟨p, 1, none⟩ = some (.int .i64 z) := hq.cell 1
  have HQ : Hid (Has 89 w p [.int .i64 c, .int .i64 z]) := hq
  have HT : Hid (Tab w) := ht
  have s1 := Lib.itoa_length_le c c0 c1
  have s2 := Lib.itoa_length_le z z0 z1
  have y1 := cat1 c s1
  have y2 := cat2 c s1
  have y3 := cat3 c z s1 s2
  clear hq ht s1 s2
  go_enter Tryd.func26, Tryd.ntmps26
  go_wp2
  go_region_held3 (fun w' => w'.cell? ⟨p, 0, none⟩ = some (.int .i64 c) ∧ w'.cell? ⟨p, 1, none⟩ = some (.int .i64 z)) (first | (simp [go_sem, h0, h1]; done) | exact ⟨by assumption, by assumption⟩)
    (first
      | (go_at_call_of 23 c; refine (itoa_any c c0 c1 _ (by exact HT.out.drew)).mono ?_; rintro e w1 ⟨rfl, k1⟩; have T1 : Hid (Tab w1) := HT.out.drew.nil k1; have Q1 : Hid (Has 89 w1 p [.int .i64 c, .int .i64 z]) := HQ.out.drew.kept k1 (fun e => e); have C1 : Hid (Chg (fun _ => False) w.drew w1) := k1; have a0 : w1.cell? ⟨p, 0, none⟩ = some (.int .i64 c) := Q1.out.cell 0; have a1 : w1.cell? ⟨p, 1, none⟩ = some (.int .i64 z) := Q1.out.cell 1; clear k1)
      | (go_at_call_of 23 z; refine (itoa_any z z0 z1 _ (by exact T1.out)).mono ?_; rintro e w2 ⟨rfl, k2⟩; have Q2 : Hid (Has 89 w2 p [.int .i64 c, .int .i64 z]) := Q1.out.kept k2 (fun e => e); have C2 : Hid (Chg (fun _ => False) w1 w2) := k2; have b0 : w2.cell? ⟨p, 0, none⟩ = some (.int .i64 c) := Q2.out.cell 0; have b1 : w2.cell? ⟨p, 1, none⟩ = some (.int .i64 z) := Q2.out.cell 1; clear k2))
  go_wp2
  go_simp
  go_ret
  exact ⟨rfl, ((Chg.drew (Chg.refl _ w)).trans C1.out).trans C2.out⟩
end Go.Proofs.Qxb6500376aDoor

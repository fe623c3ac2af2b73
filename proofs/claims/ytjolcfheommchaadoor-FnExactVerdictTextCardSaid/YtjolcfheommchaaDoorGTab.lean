/- The table of the powers of ten, as strconv reads it: where it lies, and that it stays. And the program's Decimal over it. -/
import Derived.Test.YtjolcfheommchaaDoorShelf
import Derived.Lib.LaidTab
import Derived.Lib.LaidU8
import Derived.Lib.SmallJoins
import Derived.Lib.AppendIntMem
import Derived.WalkKit
import Derived.Lib.Hide
namespace Go.Proofs.YtjolcfheommchaaDoor.G
set_option linter.unusedVariables false
open Go.RowKit Go.Lib Go.Sort Go.Joins
/-- The powers of ten lie in their variable. -/
def TabW (w : World) : Prop := Lib.TabIs Tryd.prog w "internal/strconv.uint64pow10" .u64 Lib.pow10Tab
theorem tab_named : Tryd.prog.globalNamed "internal/strconv.uint64pow10" = some 1 := by kernel_rfl
theorem tab_type : (Tryd.prog.globals[1]?).map (·.type) = some 138 := by kernel_rfl
theorem TabW.below {w w' : World} (h : TabW w) (hb : Below w.heap.size w w') : TabW w' := var_stays tab_named h hb (Nat.le_refl _)
theorem tabW_of {W : World} {D : DataW Unit} {l : List (String × DataW Unit)} (h : laidMet Tryd.prog l W) (hm : ("internal/strconv.uint64pow10", D) ∈ l) (hD : D = Lib.tabData .u64 Lib.pow10Tab) : TabW W := by
  subst hD
  obtain ⟨g, t, cs, fuel, p, hg, ht, hvar, hd⟩ := Lib.laidMet.reads h hm
  obtain rfl := Option.some.inj (tab_named.symm.trans hg)
  obtain rfl := Option.some.inj (tab_type.symm.trans ht)
  unfold TabW Lib.TabIs
  rw [hvar, ← Lib.cells_of_tab Tryd.underlying138 Tryd.underlying86 (by kernel_rfl) (by kernel_rfl) hd]
/-- A number's decimal form. -/
def decS (n : Int) : ByteArray := ⟨(Lib.itoa n).toArray⟩
def impl_Decimal.f (a0 : Int) : Option ByteArray := if -9223372036854775808 ≤ a0 ∧ a0 ≤ 9223372036854775807 then some (decS a0) else none
theorem impl_Decimal.calls (a0 : Int) (r : ByteArray) (w : World) (ht : TabW w) (h : impl_Decimal.f a0 = some r) :
    Calls Tryd.prog 32 #[.int .i64 a0] w fun e w' => e = .returned (.string r) ∧ Below w.heap.size w w' := by
  unfold impl_Decimal.f at h
  by_cases hc : -9223372036854775808 ≤ a0 ∧ a0 ≤ 9223372036854775807
  · rw [if_pos hc] at h
    cases h
    have HC := Lib.hid hc
    clear hc
    have HT := Lib.hid ht
    clear ht
    go_enter Tryd.func32, Tryd.ntmps32
    go_wp2_with (fail)
    refine (Tryd.strconv_FormatInt_10 a0 HC.out.1 HC.out.2 _ HT.out).mono ?_
    rintro e w' ⟨rfl, k, os, rfl⟩
    have HB := Lib.hid (below_grow w.heap.size w (Nat.le_refl _) k os)
    generalize grow (w.drewN k) os = w1 at HB ⊢
    go_wp2_with (fail)
    go_ret
    exact ⟨rfl, HB.out⟩
  · rw [if_neg hc] at h; cases h
end Go.Proofs.YtjolcfheommchaaDoor.G

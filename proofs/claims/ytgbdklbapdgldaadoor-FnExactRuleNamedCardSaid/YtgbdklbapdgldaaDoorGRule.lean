/- The error of the rules where it lies; errors.Is at it; the program's RuleNamed over it. -/
import Derived.Test.YtgbdklbapdgldaaDoorShelf
import Derived.Test.YtgbdklbapdgldaaDoorOAdjAx
import Derived.Lib.Hide
import Derived.Lib.SmallJoins
import Derived.LaidEql
import Derived.Stop.Asserts
import Derived.Stop.LaidErr
import Derived.WalkKit
namespace Go.Proofs.YtgbdklbapdgldaaDoor.G
set_option linter.unusedVariables false
set_option linter.unusedSimpArgs false
open Go.RowKit Go.Lib Go.Extern.Stop Go.Stop Go.Extern Go.Proofs.YtgbdklbapdgldaaDoorW.PrintWords Go.Proofs.YtgbdklbapdgldaaDoorW.PrintLast
/-- The error of the rules lies in its variable: a pointer that is not nil. -/
def ErrW (w : World) : Prop := ∃ a : Addr, w.cell? ⟨0, 0, none⟩ = some (.iface 49 (.pointer (some a)))
theorem ErrW.below {w w' : World} (h : ErrW w) (hb : Below w.heap.size w w') : ErrW w' := by
  obtain ⟨a, ha⟩ := h
  exact ⟨a, (Below.cell hb (World.block_lt_of_cell? w _ ha)).trans ha⟩
theorem err_named : Tryd.prog.globalNamed "loop.example/g00911/impl.errNoRule" = some 0 := by kernel_rfl
theorem err_type : (Tryd.prog.globals[0]?).map (·.type) = some 28 := by kernel_rfl
theorem err_star : "*" ++ "errors.errorString" = "*errors.errorString" := by decide
theorem err_row (u : TypeId) (h : Tryd.prog.typeName? 3 u = some "*errors.errorString") : u = 49 :=
  typeName_ptr_named (nm := "errors.errorString") (by rw [err_star]; kernel_rfl) (by kernel_rfl) (by decide) u (by rw [err_star]; exact h)
theorem err_cells1 : Tryd.prog.cellsOf 75 = 1 := by kernel_rfl
theorem err_cells2 : Tryd.prog.cellsOf 9 = 1 := by kernel_rfl
theorem errW_head {W : World} {text : List UInt8} {r : List (String × DataW Unit)} (h : laidMet Tryd.prog (("loop.example/g00911/impl.errNoRule", .iface "*errors.errorString" (.ptr (.agg [.lit (.string text)]))) :: r) W) : ErrW W := by
  obtain ⟨a, s, hv, _⟩ := laid_sentinel h err_named err_type Tryd.underlying28 err_row Tryd.underlying49 Tryd.underlying75 rfl rfl Tryd.underlying9 err_cells1 err_cells2
  exact ⟨a, World.var?_cell err_named hv 0⟩
theorem errW_of {W : World} {D : DataW Unit} {l : List (String × DataW Unit)} {text : List UInt8} (h : laidMet Tryd.prog l W) (hm : ("loop.example/g00911/impl.errNoRule", D) ∈ l) (hD : D = .iface "*errors.errorString" (.ptr (.agg [.lit (.string text)]))) : ErrW W := by
  subst hD
  induction l with
  | nil => cases hm
  | cons x l ih =>
    rcases List.mem_cons.1 hm with rfl | hm
    · exact errW_head h
    · exact ih h.tail hm
/-! ### errors.Is at it -/
theorem isTypeOf (v : Value) (w : World) : (Extern.ReflectliteType.typeOf #[.iface 49 v]).run Tryd.prog w = .ok (.iface 39 (.agg #[.pointer (some ⟨1, 49, none⟩)])) w := by kernel_rfl
open Go.Extern.ReflectliteType Go.Extern.Rtype in
def compM : TypeId → Sem Value := fun t => do noPackHeld "Comparable" t; pure (.bool (← typeInfo t).comparable)
theorem isComparable (w : World) : ((Extern.ReflectliteType.method compM) #[.agg #[.pointer (some ⟨1, 49, none⟩)]]).run Tryd.prog w = .ok (.bool true) w := by kernel_rfl
theorem isMethodComparable (v : Value) (w : World) : (Go.method 187 39 v "Comparable").run Tryd.prog w = .ok (31, v) w := by kernel_rfl
theorem isComp : (Tryd.prog.info? 49).map (·.comparable) = some true := by kernel_rfl
theorem isSize : (Tryd.prog.info? 75).map (·.size) = some 1 := by kernel_rfl

set_option maxRecDepth 100000 in
theorem is_same (a : Addr) (w : World) :
    Calls Tryd.prog 8 #[.iface 49 (.pointer (some a)), .iface 49 (.pointer (some a))] w fun e w' => e = .returned (.bool true) ∧ w' = w := by
  obtain ⟨i, hi, hcmp⟩ := Option.map_eq_some_iff.1 isComp
  obtain ⟨j, hj, hjs⟩ := Option.map_eq_some_iff.1 isSize
  have h8 := @run_callFunc_extern Tryd.prog 11 _ Extern.ReflectliteType.typeOf Tryd.func11 (by kernel_rfl) (by kernel_rfl) (by kernel_rfl) (by kernel_rfl)
  have h32 := @run_callFunc_extern Tryd.prog 31 _ (Extern.ReflectliteType.method compM) Tryd.func31 (by kernel_rfl) (by kernel_rfl) (by kernel_rfl) (by kernel_rfl)
  have tT := isTypeOf
  have cT := isComparable
  have mR := isMethodComparable
  have heq := run_eql_iface_ptr_same (P := Tryd.prog) w a Tryd.underlying28 Tryd.underlying49 hi hcmp hj
  go_enter Tryd.func8, Tryd.ntmps8
  go_wp2
  refine wp_loop_rounds 1 ?_
  rw [rounds_succ]
  go_wp2
  go_ret
  exact ⟨rfl, rfl⟩

set_option maxRecDepth 100000 in
theorem is_nil (b : Addr) (w : World) :
    Calls Tryd.prog 8 #[.nilIface, .iface 49 (.pointer (some b))] w fun e w' => e = .returned (.bool false) ∧ w' = w := by
  have hn := run_eql_iface_nil_left (P := Tryd.prog) w 49 (.pointer (some b)) Tryd.underlying28
  go_enter Tryd.func8, Tryd.ntmps8
  go_wp2
  go_ret
  exact ⟨rfl, rfl⟩
/-! ### the names -/
theorem names_at {w : World} {A : Option Addr} {xs : List ByteArray} (h : Kd.C Kd.string w A xs.length xs) (hx : 0 < xs.length) :
    ∃ b o, A = some ⟨b, o, none⟩ ∧ b < w.heap.size ∧ ∀ (j : Nat), j < xs.length → w.cell? ⟨b, o + j, none⟩ = some (.string (xs.getD j ByteArray.empty)) := by
  obtain ⟨ad, he, hc⟩ := h.2.2 hx
  have cell : ∀ (j : Nat), j < xs.length → w.cell? (ad.add j) = some (.string (xs.getD j ByteArray.empty)) := by
    intro j hj
    obtain ⟨c, hl, hK, hcell⟩ := hc j _ (List.getElem?_eq_getElem hj)
    have hK' : c = [.string xs[j]] := hK
    subst hK'
    have := hcell 0 _ rfl
    have hz : Kd.string.sz = 1 := rfl
    rw [hz, Nat.mul_one, Nat.add_zero] at this
    rw [this]; rw [List.getD_eq_getElem?_getD, List.getElem?_eq_getElem hj]; rfl
  have h0 := cell 0 hx
  have hs : ad.spot = none := by
    unfold World.cell? Addr.add at h0
    rw [if_pos rfl] at h0
    split at h0
    · split at h0
      · cases h0
      · rename_i hsp; simpa using hsp
    · cases h0
  obtain ⟨b, o, s⟩ := ad
  simp only at hs
  subst hs
  refine ⟨b, o, he, World.block_lt_of_cell? w _ h0, fun j hj => ?_⟩
  have := cell j hj
  unfold Addr.add at this
  by_cases hj0 : j = 0
  · subst hj0; rw [if_pos rfl] at this; exact this
  · rw [if_neg hj0] at this; exact this
def ruleNames : List ByteArray := [(⟨#[118, 111, 105, 100]⟩ : ByteArray), (⟨#[115, 105, 110, 103, 108, 101]⟩ : ByteArray), (⟨#[100, 111, 117, 98, 108, 101]⟩ : ByteArray), (⟨#[102, 105, 118, 101]⟩ : ByteArray)]
theorem ruleNames_f : OAdjA.impl_RuleNames.f = some ruleNames := rfl
theorem index_names (T : TypeId) (v0 : Value) (a0 : ByteArray) (b : Nat) (w : World) (hr : Kd.R Kd.string T w b (fun _ => True) v0 ruleNames) :
    Calls Tryd.prog 9 #[v0, .string a0] w fun e w' => e = .returned (.int .i64 (Lib.idxOfS ruleNames a0)) ∧ w' = w := by
  obtain ⟨A, c, rfl⟩ := Kd.R_slice hr
  have hC := (Kd.R_reads' hr).2.2
  obtain ⟨g, o, rfl, hlt, hcell⟩ := names_at hC (by decide)
  have := Tryd.slices_Index_string g o ruleNames.length c ruleNames a0 w (Nat.le_refl _) (by decide) hcell
  rwa [List.take_length] at this
def ruleOf (a : ByteArray) : Int × Int := if Lib.idxOfS ruleNames a < 0 then (0, 3) else (Lib.idxOfS ruleNames a, 0)
def impl_RuleNamed.f (a0 : ByteArray) : Option (Int × Int) := some (ruleOf a0)
theorem idxFromS_bounds : ∀ (zs : List ByteArray) (x : ByteArray) (k : Nat), -1 ≤ Lib.idxFromS zs x k ∧ Lib.idxFromS zs x k < max 0 ((k : Int) + zs.length)
  | [], x, k => by simp only [Lib.idxFromS, List.length_nil]; omega
  | z :: zs, x, k => by
    have := idxFromS_bounds zs x (k + 1)
    simp only [Lib.idxFromS, List.length_cons]
    split <;> omega
theorem idx_bounds (a : ByteArray) : -1 ≤ Lib.idxOfS ruleNames a ∧ Lib.idxOfS ruleNames a < 4 := by
  have := idxFromS_bounds ruleNames a 0
  have h4 : ruleNames.length = 4 := rfl
  unfold Lib.idxOfS
  rw [h4] at this
  omega
set_option maxHeartbeats 4000000 in
set_option maxRecDepth 100000 in
theorem ruleNamed_calls (a : ByteArray) (ea : Addr) (w : World) (he : w.cell? ⟨0, 0, none⟩ = some (.iface 49 (.pointer (some ea)))) :
    Calls Tryd.prog 7 #[.string a] w fun e w' => e = .returned (.tuple #[.int .i64 (ruleOf a).1, if Lib.idxOfS ruleNames a < 0 then .iface 49 (.pointer (some ea)) else .nilIface]) ∧ Below w.heap.size w w' := by
  have hb := idx_bounds a
  unfold ruleOf
  generalize hk : Lib.idxOfS ruleNames a = k at hb ⊢
  have HE := Lib.hid he
  clear he
  go_enter Tryd.func7, Tryd.ntmps7
  go_wp2_with (fail)
  refine (OAdjA.impl_RuleNames.calls ruleNames w ruleNames_f).mono ?_
  rintro e w1 ⟨v0, rfl, hr, hB⟩
  have HR := Lib.hid hr
  have HB := Lib.hid hB
  have he1 := (Below.cell hB (World.block_lt_of_cell? w _ HE.out)).trans HE.out
  clear hr hB
  go_wp2_with (fail)
  refine (index_names _ v0 a _ w1 HR.out).mono ?_
  rintro e w2 ⟨rfl, rfl⟩
  rw [hk]
  by_cases hn : k < 0
  · have hn1 : decide (k < 0) = true := decide_eq_true hn
    simp only [if_pos hn]
    go_wp2_with (fail)
    go_quiet (fail)
    go_wp2_with (fail)
    go_ret2
    exact ⟨rfl, pw_below_drewN HB.out _⟩
  · have hn1 : decide (k < 0) = false := decide_eq_false hn
    simp only [if_neg hn]
    go_wp2_with (fail)
    go_ret2
    exact ⟨rfl, HB.out⟩
set_option maxHeartbeats 4000000 in
set_option maxRecDepth 100000 in
theorem impl_RuleNamed.calls (a0 : ByteArray) (r1 r2 : Int) (w : World) (ht : ErrW w) (h : impl_RuleNamed.f a0 = some (r1, r2)) :
    Calls Tryd.prog 5 #[.string a0] w fun e w' => e = .returned (.tuple #[.int .i64 r1, .int .i64 r2]) ∧ Below w.heap.size w w' := by
  obtain ⟨ea, he⟩ := ht
  unfold impl_RuleNamed.f at h
  have HE := Lib.hid he
  clear he
  go_enter Tryd.func5, Tryd.ntmps5
  go_wp2_with (fail)
  refine (ruleNamed_calls a0 ea w HE.out).mono ?_
  rintro e w1 ⟨rfl, hB⟩
  have HB := Lib.hid hB
  have he1 := (Below.cell hB (World.block_lt_of_cell? w _ HE.out)).trans HE.out
  clear hB
  unfold ruleOf at h ⊢
  generalize Lib.idxOfS ruleNames a0 = k at h ⊢
  by_cases hn : k < 0
  · simp only [if_pos hn] at h ⊢
    cases h
    go_wp2_with (fail)
    refine (is_same ea w1).mono ?_
    rintro e w2 ⟨rfl, rfl⟩
    go_wp2_with (fail)
    go_ret2
    exact ⟨rfl, HB.out⟩
  · simp only [if_neg hn] at h ⊢
    cases h
    go_wp2_with (fail)
    refine (is_nil ea w1).mono ?_
    rintro e w2 ⟨rfl, rfl⟩
    go_wp2_with (fail)
    go_ret2
    exact ⟨rfl, HB.out⟩
end Go.Proofs.YtgbdklbapdgldaaDoor.G

/- The law FnExactAdjudicate: for every input that can be read it answers true, and each argument reads afterwards as before. Conditions: none beyond the statement. -/
import Derived.Test.YtjolcfheommchaaRows
import Derived.Test.YtjolcfheommchaaOFnExactAdjudicatex3
import Derived.Test.YtjolcfheommchaaOPureFnExactAdjudicate
import Derived.WalkKit
import Derived.ProofKit
import Derived.OpenShut
import Derived.ShutString
import Derived.ChangeOld
import Derived.Below
import Derived.SizedLaws
import Derived.Test.YtjolcfheommchaaWSized
namespace Go.Proofs.Ytjolcfheommchaa.fnExactAdjudicate
open Go.ChangeShapes Go.WideShapes Go.ChangeAt Go.RowKit
open Go.ChangeMaps (open_string shut_string)
set_option linter.unusedVariables false
theorem own : ownKnob Try.prog.godebug = none := by kernel_rfl
theorem laidOut : laidOutB Try.prog = true := by kernel_rfl
def IsRow (k : IntKind) (w : World) (a : Option Addr) (len cap : Nat) (zs : List Int) : Prop :=
  (a = none ∧ len = 0 ∧ cap = 0 ∧ zs = []) ∨
  ∃ x, a = some x ∧ len ≤ cap ∧ cap ≤ maxLen ∧ zs.length = cap ∧ (∀ i, i < zs.length → w.cell? (x.add i) = some (.int k (zs.getD i 0))) ∧ ∀ n ∈ zs, (Lit.int k n).wf = true
set_option maxRecDepth 100000 in
theorem lifted (os : Os) (started : os.Started) (H : Type) (enc : TypeId × Value → H) :
    ReturnsInHanded {} Try.checked os 5 .any (Rows.fnExactAdjudicateSpec.pre6 enc Try.prog Try.f5 Rows.fnExactAdjudicateRow.domain false) (Rows.fnExactAdjudicateSpec.post enc Try.prog Try.f5 false true false false) := by
  refine returnsInHanded_of_change_sized (C := Try.checked) own started (by kernel_rfl) Try.func5
    (ChangeSpec.witness6 (enc := enc) (C := Try.checked) false ⟨#[], #[.agg #[.slice none 0 0], .slice none 0 0], []⟩ 8 (by kernel_rfl) (by kernel_rfl) (by kernel_rfl) (by kernel_rfl)) ?_
  intro W base args ds gs before hval0 hW hcnd hsz0 _
  have hsz : (DataW.weightsEach Try.prog (Try.f5.params.toList ++ Rows.fnExactAdjudicateSpec.plain.varTypes Try.prog) (ds ++ gs)).all (· ≤ reachBytes) = true := hsz0
  have hval : ∀ (j : Nat) t v, Try.f5.params[j]? = some t → args[j]? = some v → Value.okWide Try.prog W .any base t v := hval0
  have hW' := hW
  obtain ⟨p, q, hA0, hV, rfl, hfz, hnd⟩ := hW
  have hA : DataW.TrodAll enc Try.prog W 0 (fun _ => true) true Try.f5.params.toList args.toList ds p := hA0
  rw [Try.params5] at hA hval hsz
  obtain ⟨v0, vs0, d0, ds0, p0, q0, hargs, rfl, rfl, h0, r0⟩ := trodAll_cons hA
  obtain ⟨v1, vs1, d1, ds1, p1, q1, rfl, rfl, rfl, h1, r1⟩ := trodAll_cons r0
  obtain ⟨rfl, rfl, rfl⟩ := trodAll_nil r1
  obtain rfl : args = #[v0, v1] := by cases args; simp_all
  obtain ⟨rfl, rfl⟩ := trodVars_none hV
  have k0 := h0
  have lt0 : ∀ x ∈ p0, x.block < W.heap.size := by obtain ⟨m, hm⟩ := k0; exact DataW.trod_lt m _ _ _ hm
  obtain ⟨cs0, rfl, _⟩ := okWide_struct Try.underlying32 (hval 0 32 v0 rfl rfl)
  obtain ⟨x0, K0, b0⟩ : ∃ x, OFnExactAdjudicate.k32.K W x cs0.toList ∧ OFnExactAdjudicate.B32 x := by obtain ⟨fuel, hf⟩ := h0; exact OFnExactAdjudicate.opens_32.2 hf
  obtain ⟨A0_0, c0_0, e0, hc0_0, hr0_0⟩ := OFnExactAdjudicate.k32_open K0
  obtain rfl : cs0 = #[.slice A0_0 x0.f0.length c0_0] := by cases cs0; simpa using e0
  have k1 := h1
  have lt1 : ∀ x ∈ p1, x.block < W.heap.size := by obtain ⟨m, hm⟩ := k1; exact DataW.trod_lt m _ _ _ hm
  obtain ⟨a1, len1, cap1, rfl⟩ := okWide_slice Try.underlying22 (hval 1 22 v1 rfl rfl)
  obtain ⟨x1, K1, b1⟩ : ∃ x, (Go.Proofs.YtjolcfheommchaaW.PrintWords.Kd.slice 9 Go.Proofs.YtjolcfheommchaaW.PrintWords.Kd.string).K W x [Value.slice a1 len1 cap1] ∧ (x.length ≤ 9223372036854775807 ∧ ∀ y0_ ∈ x, y0_.size ≤ 9223372036854775807) := by obtain ⟨fuel, hf⟩ := h1; exact OFnExactAdjudicate.opens_22.2 hf
  obtain ⟨A1_0, c1_0, e1, hc1_0, hr1_0⟩ := K1
  simp only [List.cons.injEq, Value.slice.injEq, and_true] at e1
  obtain ⟨rfl, rfl, rfl⟩ := e1
  clear hA0 hval0 hsz0 hsz
  refine (OFnExactAdjudicate.laws_FnExactAdjudicate.walk Pure.FnExactAdjudicate x0 _ _ x1 _ _ W b0 hr0_0 hc0_0 b1 hr1_0 hc1_0).mono fun e W' ⟨he, bel⟩ => ?_
  subst he
  exact ⟨_, rfl, _, _, _, [], _, [], hW', trodAll_mk1 (shut_bool Try.underlying4 _), (trodAll_cons_mk (Below.trod laidOut (by kernel_rfl) (of_decide_eq_true (by kernel_rfl)) k0 bel lt0) (trodAll_cons_mk (Below.trod laidOut (by kernel_rfl) (of_decide_eq_true (by kernel_rfl)) k1 bel lt1) trodAll_mk0)), rfl, bel.frame _, fun h => by cases h⟩
theorem over : Rows.fnExactAdjudicateRow.holds Try.pinned (OpenSpec.ofChange Rows.fnExactAdjudicateSpec) :=
  OpenClaim.holds_of_wide 5 Try.f5 rfl rfl rfl rfl rfl rfl rfl ⟨rfl, rfl, rfl, rfl, rfl⟩ rfl rfl rfl rfl rfl (by kernel_rfl) Try.func5 (by kernel_rfl)
    (of_decide_eq_true (by kernel_rfl)) (by unfold Func.isWrapper; first | (rw [if_pos (by decide +kernel)]; kernel_rfl) | (rw [if_neg (by decide +kernel)]; exact ⟨rfl, rfl⟩))
    (fun os started H enc _ => lifted os started H enc)
theorem proved : Rows.FnExactAdjudicateSaid := over
#print axioms proved
end Go.Proofs.Ytjolcfheommchaa.fnExactAdjudicate
namespace Go.Proofs.Ytjolcfheommchaa
/-- The row, under a short name, for the claim. -/
theorem fnExactAdjudicate_holds : Rows.FnExactAdjudicateSaid := fnExactAdjudicate.proved
end Go.Proofs.Ytjolcfheommchaa

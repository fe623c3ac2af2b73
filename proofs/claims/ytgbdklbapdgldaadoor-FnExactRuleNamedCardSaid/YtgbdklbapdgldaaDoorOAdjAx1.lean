/- Walks of the functions that a law reaches, printed by a program of this session. -/
import Derived.Test.YtgbdklbapdgldaaDoorOAdjAx0
namespace Go.Proofs.YtgbdklbapdgldaaDoor.OAdjA
open Go.RowKit Go.Proofs.YtgbdklbapdgldaaDoorW.PrintWords Go.Proofs.YtgbdklbapdgldaaDoorW.PrintLast Go.Proofs.YtgbdklbapdgldaaDoorW.PrintMore
attribute [local go_sem] max2_int min2_int max_two min_two max_three min_three max_four min_four   -- for this text's walks alone
open Go.Proofs.YtgbdklbapdgldaaDoor.Open
set_option linter.unusedVariables false
set_option linter.unusedSimpArgs false

/-! ### impl_RuleNames: function 10 -/
def impl_RuleNames.f  : Option (List ByteArray) := some (([(⟨#[118, 111, 105, 100]⟩ : ByteArray), (⟨#[115, 105, 110, 103, 108, 101]⟩ : ByteArray), (⟨#[100, 111, 117, 98, 108, 101]⟩ : ByteArray), (⟨#[102, 105, 118, 101]⟩ : ByteArray)] : List ByteArray))
set_option maxHeartbeats 8000000 in
set_option maxRecDepth 100000 in
theorem impl_RuleNames.calls  (r : List ByteArray) (w : World) (h : impl_RuleNames.f  = some r) :
    Calls Tryd.prog 10 #[] w fun e w' => ∃ v0_ : Value, e = .returned (v0_) ∧ Kd.R Kd.string 9 w' w.heap.size (fun _ => True) v0_ r ∧ Below w.heap.size w w' := by
  have HB := Aside0.mk (Below.refl w.heap.size w)
  have H : (some (([(⟨#[118, 111, 105, 100]⟩ : ByteArray), (⟨#[115, 105, 110, 103, 108, 101]⟩ : ByteArray), (⟨#[100, 111, 117, 98, 108, 101]⟩ : ByteArray), (⟨#[102, 105, 118, 101]⟩ : ByteArray)] : List ByteArray))) = some r := h
  clear h
  obtain ⟨y109, hy109⟩ : ∃ y_ : List ByteArray, y_ = (([(⟨#[118, 111, 105, 100]⟩ : ByteArray), (⟨#[115, 105, 110, 103, 108, 101]⟩ : ByteArray), (⟨#[100, 111, 117, 98, 108, 101]⟩ : ByteArray), (⟨#[102, 105, 118, 101]⟩ : ByteArray)] : List ByteArray)) := ⟨_, rfl⟩
  replace H : (some y109) = some r := by first | (rw [hy109]; with_reducible exact H) | (have H2_ := (Option.bind_some _ _).symm.trans H; rw [hy109]; with_reducible exact H2_) | (have H2_ := (Option.bind_some _ _).symm.trans H; with_reducible exact H2_) | with_reducible exact H | (rw [hy109]; exact H) | exact H
  have Ny109 := Aside0.mk hy109
  clear hy109
  obtain rfl := Option.some.inj H
  go_enter Tryd.func10, Tryd.ntmps10
  go_wp2_with (first | ((with_reducible refine gate_dst (N := 1) rfl ?_); refine Kd.R_lit Kd.string _ 9 ?hg (N := 1) ?hd (xs := ([(⟨#[118, 111, 105, 100]⟩ : ByteArray), (⟨#[115, 105, 110, 103, 108, 101]⟩ : ByteArray), (⟨#[100, 111, 117, 98, 108, 101]⟩ : ByteArray), (⟨#[102, 105, 118, 101]⟩ : ByteArray)] : List ByteArray)) (inner := [.string (⟨#[118, 111, 105, 100]⟩ : ByteArray), .string (⟨#[115, 105, 110, 103, 108, 101]⟩ : ByteArray), .string (⟨#[100, 111, 117, 98, 108, 101]⟩ : ByteArray), .string (⟨#[102, 105, 118, 101]⟩ : ByteArray)]) (ok := fun _ => True) (okp := fun _ => True) ?hr ?hp (fun _ hk => hk) trivial (Below.refl _ _) (Nat.le_refl _) (by simp) ?_; (case hd => rfl); (case hg => rfl); (case hr => first | (go_simp; done) | (go_simp; rfl)); (case hp => exact (Reps.one (show Kd.M Kd.string _ _ _ (⟨#[118, 111, 105, 100]⟩ : ByteArray) [.string (⟨#[118, 111, 105, 100]⟩ : ByteArray)] from rfl) (Reps.one (show Kd.M Kd.string _ _ _ (⟨#[115, 105, 110, 103, 108, 101]⟩ : ByteArray) [.string (⟨#[115, 105, 110, 103, 108, 101]⟩ : ByteArray)] from rfl) (Reps.one (show Kd.M Kd.string _ _ _ (⟨#[100, 111, 117, 98, 108, 101]⟩ : ByteArray) [.string (⟨#[100, 111, 117, 98, 108, 101]⟩ : ByteArray)] from rfl) (Reps.one (show Kd.M Kd.string _ _ _ (⟨#[102, 105, 118, 101]⟩ : ByteArray) [.string (⟨#[102, 105, 118, 101]⟩ : ByteArray)] from rfl) (Reps.none _ _)))))); intro v110 w1 ho2 hb hg_ hnew_; clear hg_ hnew_; (first | rw [← Ny109.out] at ho2 | (simp only [Int.reduceToNat] at ho2; rw [← Ny109.out] at ho2)); have n0_ := Aside0.mk (Kd.R_lower ho2 (below_size (by repeat (first | (with_reducible first | exact HB.out | apply below_alloc | apply pw_below_drewN | apply below_drew1) | exact HB.out)))); have n1_ := Aside0.mk (below_step (by repeat (first | (with_reducible first | exact HB.out | apply below_alloc | apply pw_below_drewN | apply below_drew1) | exact HB.out)) hb); clear HB; have HO111 := n0_; have HB := n1_; clear n0_ n1_; clear hb ho2))
  go_ret
  exact ⟨_, by first | rfl | (simp [errW_none, errW_some] <;> rfl) | (simp [*, errW_none, errW_some] <;> rfl), by (with_reducible repeat (first | apply Kd.R_alloc | apply Kd.R_drewN | apply Kd.R_drew)); exact HO111.out, by repeat (first | (with_reducible first | exact HB.out | apply below_alloc | apply pw_below_drewN | apply below_drew1) | exact HB.out)⟩

-- NOT PRINTED: function 7 (impl_ruleNamed)

-- NOT PRINTED: function 11 (reflectlite_TypeOf)

-- NOT PRINTED: function 12 (errors_is)

-- NOT PRINTED: function 8 (errors_Is)

-- NOT PRINTED: function 5 (impl_RuleNamed)

-- NOT PRINTED: function 3 (laws_FnExactRuleNamed)

end Go.Proofs.YtgbdklbapdgldaaDoor.OAdjA

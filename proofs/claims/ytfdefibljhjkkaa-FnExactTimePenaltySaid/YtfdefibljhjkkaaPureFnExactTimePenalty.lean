/- For every clock, the program's TimePenalty answers what the reference's TimePenalty answers. Conditions: none beyond the statement. -/
import Derived.Test.YtfdefibljhjkkaaPFnExactTimePenaltyx1
namespace Go.Proofs.Ytfdefibljhjkkaa.Pure
open Go.RowKit Go.Proofs.Ytfdefibljhjkkaa.PFnExactTimePenalty Go.Proofs.YtfdefibljhjkkaaW.PrintWords Go.Proofs.YtfdefibljhjkkaaW.PrintLast Go.Proofs.YtfdefibljhjkkaaW.PrintMore
set_option linter.unusedVariables false
set_option linter.unusedSimpArgs false
theorem evPos {α : Type} {c : Prop} [Decidable c] {f g : Nat → Option α} {r : α} (hc : c) (h : Ev f r) : Ev (fun k => if c then f k else g k) r := by
  simpa only [if_pos hc] using h
theorem evNeg {α : Type} {c : Prop} [Decidable c] {f g : Nat → Option α} {r : α} (hc : ¬ c) (h : Ev g r) : Ev (fun k => if c then f k else g k) r := by
  simpa only [if_neg hc] using h
theorem evBindC {α β : Type} {o : Option α} {a : α} {f : Nat → α → Option β} {r : β} (ho : o = some a) (h : Ev (fun k => f k a) r) : Ev (fun k => o.bind (f k)) r := by
  subst ho; exact h
theorem evBind {α β : Type} {g : Nat → Option α} {f : Nat → α → Option β} {a : α} {r : β} (h : Ev g a) (k : Ev (fun n => f n a) r) : Ev (fun n => (g n).bind (f n)) r := Ev.bind h k
theorem evNow {α : Type} {a r : α} (h : a = r) : Ev (fun _ => some a) r := h ▸ Ev.now a
theorem evStep {α : Type} {g : Nat → Option α} {r : α} (h : Ev (fun k => g (k + 1)) r) : Ev g r := Ev.step (fun _ => rfl) h
theorem evTo {α : Type} {g : Nat → Option α} {a r : α} (h : Ev g a) (e : a = r) : Ev g r := e ▸ h
theorem FnExactTimePenalty : laws_FnExactTimePenalty.Pure := by
  intro c hc
  unfold laws_FnExactTimePenalty.f
  have hw : ∀ a b d : Int, spec_l00In.f a b d = impl_within.f a b d := by
    intro a b d; unfold spec_l00In.f impl_within.f; simp only [ge_iff_le]
  by_cases h1 : -36000 ≤ c
  · by_cases h2 : c ≤ 36000
    · have e1 : spec_l00In.f c (-36000) 36000 = some true := by unfold spec_l00In.f; rw [if_pos h1]; simp [h2]
      have e3 : spec_l18Penalty.f c = impl_penalty.f c := by
        unfold spec_l18Penalty.f impl_penalty.f
        by_cases h3 : c ≥ 0
        · rw [if_pos h3, if_pos h3]
        · rw [if_neg h3, if_neg h3]
          have e : wrap64 (wrap64 (-c) + 59) = wrap64 (59 - c) := by unfold wrap64; omega
          rw [e]
      have e4 : ∃ r, impl_penalty.f c = some r := by unfold impl_penalty.f; split <;> exact ⟨_, rfl⟩
      obtain ⟨r, e4⟩ := e4
      have s1 : spec_TimePenalty.f c = some (r, 0) := by
        unfold spec_TimePenalty.f; rw [e1, e3, e4]; simp
      have s2 : impl_TimePenalty.f c = some (r, 0) := by
        unfold impl_TimePenalty.f; rw [← hw, e1, e4]; simp
      rw [s1, s2]; simp
    · have e1 : spec_l00In.f c (-36000) 36000 = some false := by unfold spec_l00In.f; rw [if_pos h1]; simp [h2]
      have s1 : spec_TimePenalty.f c = some (0, 2) := by unfold spec_TimePenalty.f; rw [e1]; simp
      have s2 : impl_TimePenalty.f c = some (0, 2) := by unfold impl_TimePenalty.f; rw [← hw, e1]; simp
      rw [s1, s2]; simp
  · have e1 : spec_l00In.f c (-36000) 36000 = some false := by unfold spec_l00In.f; rw [if_neg h1]
    have s1 : spec_TimePenalty.f c = some (0, 2) := by unfold spec_TimePenalty.f; rw [e1]; simp
    have s2 : impl_TimePenalty.f c = some (0, 2) := by unfold impl_TimePenalty.f; rw [← hw, e1]; simp
    rw [s1, s2]; simp

end Go.Proofs.Ytfdefibljhjkkaa.Pure

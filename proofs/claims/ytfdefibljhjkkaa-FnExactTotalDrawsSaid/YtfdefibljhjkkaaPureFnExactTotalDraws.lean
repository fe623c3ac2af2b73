/- For every two numbers, the program's TotalDraws answers what the reference's TotalDraws answers. Conditions: none beyond the statement. -/
import Derived.Test.YtfdefibljhjkkaaPFnExactTotalDrawsx1
namespace Go.Proofs.Ytfdefibljhjkkaa.Pure
open Go.RowKit Go.Proofs.Ytfdefibljhjkkaa.PFnExactTotalDraws Go.Proofs.YtfdefibljhjkkaaW.PrintWords Go.Proofs.YtfdefibljhjkkaaW.PrintLast Go.Proofs.YtfdefibljhjkkaaW.PrintMore
set_option linter.unusedVariables false
set_option linter.unusedSimpArgs false
theorem evPos {α : Type} {c : Prop} [Decidable c] {f g : Nat → Option α} {r : α} (hc : c) (h : Ev f r) : Ev (fun k => if c then f k else g k) r := by
  simpa only [if_pos hc] using h
theorem evNeg {α : Type} {c : Prop} [Decidable c] {f g : Nat → Option α} {r : α} (hc : ¬ c) (h : Ev g r) : Ev (fun k => if c then f k else g k) r := by
  simpa only [if_neg hc] using h
theorem evBindC {α β : Type} {o : Option α} {a : α} {f : Nat → α → Option β} {r : β} (ho : o = some a) (h : Ev (fun k => f k a) r) : Ev (fun k => o.bind (f k)) r := by
  subst ho; exact h
theorem evBind {α β : Type} {g : Nat → Option α} {f : Nat → α → Option β} {a : α} {r : β} (h : Ev g a) (k : Ev (fun n => f n a) r) : Ev (fun n => (g n).bind (f n)) r := Ev.bind h k
theorem evNow {α : Type} {a r : α} (h : a = r) : Ev (fun _ => some a) r := h ▸ Ev.now a
theorem evStep {α : Type} {g : Nat → Option α} {r : α} (h : Ev (fun k => g (k + 1)) r) : Ev g r := Ev.step (fun _ => rfl) h
theorem evTo {α : Type} {g : Nat → Option α} {a r : α} (h : Ev g a) (e : a = r) : Ev g r := e ▸ h
theorem spec_in (a b c : Int) : spec_l00In.f a b c = some (decide (b ≤ a) && decide (a ≤ c)) := by
  unfold spec_l00In.f; split <;> rename_i h
  · simp [show b ≤ a from h]
  · simp [show ¬ b ≤ a from h]
theorem impl_in (a b c : Int) : impl_within.f a b c = some (decide (b ≤ a) && decide (a ≤ c)) := by
  unfold impl_within.f; split <;> rename_i h <;> simp [h]
/-- Both loops answer the same, from one state on, and both end. -/
theorem both_choose (n k : Int) (hk : k ≤ 7) (d : Nat) : ∀ x i : Int, 1 ≤ i → i ≤ k + 1 → k + 1 - i = d →
    ∃ r, Ev (fun m => spec_l17Choose.l0 m n k x i) r ∧ Ev (fun m => impl_choose.l0 m n k x i) r := by
  induction d with
  | zero =>
    intro x i h0 h1 hd
    exact ⟨x, evStep (evNeg (by omega) (evNow rfl)), evStep (evNeg (by omega) (evNow rfl))⟩
  | succ d ih =>
    intro x i h0 h1 hd
    have ew : wrap64 (i + 1) = i + 1 := by unfold wrap64; omega
    obtain ⟨r, hs, hi⟩ := ih (wrap64 (Int.tdiv (wrap64 (x * (wrap64 ((wrap64 (n - k)) + i)))) i)) (i + 1) (by omega) (by omega) (by omega)
    refine ⟨r, evStep (evPos (by omega) (evNeg (by omega) ?_)), evStep (evPos (by omega) (evNeg (by omega) ?_))⟩
    · rw [ew]; exact hs
    · rw [ew]; exact hi
theorem td_yes (m : Nat) (n k : Int) : spec_TotalDraws.j0 (m + 1) n k true = some (0, 2) := by simp only [spec_TotalDraws.j0]; rfl
theorem td_no (m : Nat) (n k : Int) : spec_TotalDraws.j0 (m + 1) n k false = if k > n then some (0, 0) else (spec_l17Choose.f m n k).bind fun t => some (t, 0) := by simp only [spec_TotalDraws.j0]; rfl
theorem both_draws (n k : Int) : ∃ r, Ev (fun m => spec_TotalDraws.f m n k) r ∧ Ev (fun m => impl_TotalDraws.f m n k) r := by
  unfold spec_TotalDraws.f impl_TotalDraws.f
  have hs := spec_in n 0 120
  have hi := impl_in n 0 120
  have hs' := spec_in k 0 7
  have hi' := impl_in k 0 7
  cases h1 : (decide (0 ≤ n) && decide (n ≤ 120)) with
  | false =>
    rw [h1] at hs hi
    exact ⟨(0, 2), evBindC hs (evNeg (by simp) (Ev.step (fun m => td_yes m n k) (Ev.now _))), evBindC hi (evNeg (by simp) (evNow rfl))⟩
  | true =>
    rw [h1] at hs hi
    cases h2 : (decide (0 ≤ k) && decide (k ≤ 7)) with
    | false =>
      rw [h2] at hs' hi'
      exact ⟨(0, 2), evBindC hs (evPos rfl (evBindC hs' (Ev.step (fun m => td_yes m n k) (Ev.now _)))), evBindC hi (evPos rfl (evBindC hi' (evNeg (by simp) (evNow rfl))))⟩
    | true =>
      rw [h2] at hs' hi'
      simp only [Bool.and_eq_true, decide_eq_true_eq] at h1 h2
      by_cases h3 : k > n
      · exact ⟨(0, 0), evBindC hs (evPos rfl (evBindC hs' (Ev.step (fun m => td_no m n k) (evPos h3 (evNow rfl))))),
          evBindC hi (evPos rfl (evBindC hi' (evPos rfl (evBind (g := fun m => impl_choose.f m n k) (evPos h3 (evNow rfl)) (evNow rfl)))))⟩
      · obtain ⟨r, e1, e2⟩ := both_choose n k (by omega) k.toNat 1 1 (by omega) (by omega) (by omega)
        exact ⟨(r, 0), evBindC hs (evPos rfl (evBindC hs' (Ev.step (fun m => td_no m n k) (evNeg h3 (evBind (g := fun m => spec_l17Choose.f m n k) e1 (evNow rfl)))))),
          evBindC hi (evPos rfl (evBindC hi' (evPos rfl (evBind (g := fun m => impl_choose.f m n k) (evNeg h3 e2) (evNow rfl)))))⟩
theorem FnExactTotalDraws : laws_FnExactTotalDraws.Pure := by
  intro n k hn hk
  refine Ev.rounds (?_ : Ev (fun m => laws_FnExactTotalDraws.f m n k) true)
  obtain ⟨r, e1, e2⟩ := both_draws n k
  unfold laws_FnExactTotalDraws.f
  exact evBind e1 (evBind e2 (evPos rfl (evPos rfl (evNow rfl))))

end Go.Proofs.Ytfdefibljhjkkaa.Pure

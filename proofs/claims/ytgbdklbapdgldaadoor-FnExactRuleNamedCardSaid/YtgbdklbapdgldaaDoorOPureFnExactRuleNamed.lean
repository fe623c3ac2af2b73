/- For every text, the program's RuleNamed answers what the reference's RuleNamed answers. Conditions: none beyond the statement. -/
import Derived.Test.YtgbdklbapdgldaaDoorOFnExactRuleNamedx1
namespace Go.Proofs.YtgbdklbapdgldaaDoor.Pure
open Go.RowKit Go.Proofs.YtgbdklbapdgldaaDoor.OFnExactRuleNamed Go.Proofs.YtgbdklbapdgldaaDoorW.PrintWords Go.Proofs.YtgbdklbapdgldaaDoorW.PrintLast Go.Proofs.YtgbdklbapdgldaaDoorW.PrintMore Go.Proofs.YtgbdklbapdgldaaDoor.G
set_option linter.unusedVariables false
set_option linter.unusedSimpArgs false
theorem evPos {α : Type} {c : Prop} [Decidable c] {f g : Nat → Option α} {r : α} (hc : c) (h : Ev f r) : Ev (fun k => if c then f k else g k) r := by
  simpa only [if_pos hc] using h
theorem evNeg {α : Type} {c : Prop} [Decidable c] {f g : Nat → Option α} {r : α} (hc : ¬ c) (h : Ev g r) : Ev (fun k => if c then f k else g k) r := by
  simpa only [if_neg hc] using h
theorem evBindC {α β : Type} {o : Option α} {a : α} {f : Nat → α → Option β} {r : β} (ho : o = some a) (h : Ev (fun k => f k a) r) : Ev (fun k => o.bind (f k)) r := by
  subst ho; exact h
theorem evBind {α β : Type} {g : Nat → Option α} {f : Nat → α → Option β} {a : α} {r : β} (h : Ev g a) (k : Ev (fun n => f n a) r) : Ev (fun n => (g n).bind (f n)) r := Ev.bind h k
theorem evNow {α : Type} {a r : α} (h : a = r) : Ev (fun _ => some a) r := h ▸ Ev.now a
theorem evStep {α : Type} {g : Nat → Option α} {r : α} (h : Ev (fun k => g (k + 1)) r) : Ev g r := Ev.step (fun _ => rfl) h
theorem evTo {α : Type} {g : Nat → Option α} {a r : α} (h : Ev g a) (e : a = r) : Ev g r := e ▸ h
theorem baEq {a b : ByteArray} : a.toList = b.toList ↔ a = b := by
  constructor
  · intro h
    rw [ByteArray.toList_eq, ByteArray.toList_eq] at h
    cases a; cases b
    simp only [ByteArray.mk.injEq]
    exact Array.toList_inj.1 h
  · rintro rfl; rfl
theorem rdOf_get {α : Type} {d : α} (xs : List α) (i : Nat) (h : i < xs.length) : rdOf d xs (i : Int) = xs[i] := by
  unfold rdOf; rw [Int.toNat_natCast, List.getD_eq_getElem?_getD, List.getElem?_eq_getElem h]; rfl
theorem drop_rdOf {α : Type} (d : α) (xs : List α) (i : Int) (h0 : 0 ≤ i) (h : i < (xs.length : Int)) : xs.drop i.toNat = rdOf d xs i :: xs.drop (i + 1).toNat := by
  obtain ⟨n, rfl⟩ := Int.eq_ofNat_of_zero_le h0
  have hn : n < xs.length := by omega
  rw [rdOf_get xs n hn, Int.toNat_natCast, List.drop_eq_getElem_cons hn]
  congr 2
theorem drop_at_end {α : Type} (xs : List α) (i : Int) (h : (xs.length : Int) ≤ i) : xs.drop i.toNat = [] := List.drop_of_length_le (by omega)
theorem wrapIncL {i : Int} {n : Nat} (h0 : 0 ≤ i) (h : i < (n : Int)) (hn : n ≤ 9223372036854775807) : wrap64 (i + 1) = i + 1 := by
  unfold wrap64; omega
/-- What a name's place is. -/
def namedAs (x : Int) : Int × Int := if x < 0 then (0, 3) else (x, 0)
theorem named_from (zs : List ByteArray) (x : ByteArray) (hz : zs.length ≤ 1000) (rest : List ByteArray) : ∀ i : Nat, zs.drop i = rest → i ≤ zs.length →
    Ev (fun k => spec_RuleNamed.l0 k x zs (i : Int)) (namedAs (Lib.idxFromS rest x i)) := by
  induction rest with
  | nil =>
    intro i hd hi
    have : zs.length ≤ i := List.drop_eq_nil_iff.1 hd
    exact evStep (evNeg (by omega) (evNow rfl))
  | cons z rest ih =>
    intro i hd hi
    have hlt : i < zs.length := by
      rcases Nat.lt_or_ge i zs.length with h | h
      · exact h
      · rw [List.drop_of_length_le h] at hd; cases hd
    have hc := List.drop_eq_getElem_cons hlt
    rw [hd] at hc
    injection hc with hz1 hz2
    have ew : wrap64 ((i : Int) + 1) = ((i + 1 : Nat) : Int) := by unfold wrap64; omega
    refine evStep (evPos (by omega) (evPos (by omega) ?_))
    rw [rdOf_get zs i hlt, ← hz1]
    by_cases he : z = x
    · refine evPos (baEq.2 he) (evNow ?_)
      have e1 : Lib.idxFromS (z :: rest) x i = (i : Int) := by unfold Lib.idxFromS; rw [if_pos he]
      rw [e1]; unfold namedAs; rw [if_neg (by omega)]
    · refine evNeg (fun h => he (baEq.1 h)) ?_
      have e1 : Lib.idxFromS (z :: rest) x i = Lib.idxFromS rest x (i + 1) := by rw [Lib.idxFromS, if_neg he]
      rw [e1, ew]
      exact ih (i + 1) hz2.symm (by omega)
theorem named_ev (x : ByteArray) : Ev (fun k => spec_RuleNamed.f k x) (ruleOf x) := by
  unfold spec_RuleNamed.f
  refine evBindC (show spec_RuleNames.f = some ruleNames from rfl) ?_
  exact named_from ruleNames x (by decide) ruleNames 0 rfl (Nat.zero_le _)
theorem FnExactRuleNamed : laws_FnExactRuleNamed.Pure := by
  intro a ha
  refine Ev.rounds (?_ : Ev (fun k => laws_FnExactRuleNamed.f k a) true)
  unfold laws_FnExactRuleNamed.f
  by_cases h : (a.size : Int) > 1048576
  · exact evPos h (evNow rfl)
  · refine evNeg h (evBind (named_ev a) (evBindC (show impl_RuleNamed.f a = some (ruleOf a) from rfl) ?_))
    exact evPos rfl (evPos rfl (evNow rfl))

end Go.Proofs.YtgbdklbapdgldaaDoor.Pure

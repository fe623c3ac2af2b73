/- A laws' lemma more: a string above another one. -/
import Derived.Laws.Strings
import Derived.Tactics
namespace Go.Proofs.YtgbdklbapdgldaaDoor.Open
theorem bytesLess_gtr : ∀ x y : List UInt8, (!(Op.bytesLess x y || x == y)) = Op.bytesLess y x
  | [], [] => by simp [Op.bytesLess]
  | _ :: _, [] => by simp [Op.bytesLess]
  | [], _ :: _ => by simp [Op.bytesLess]
  | a :: x, b :: y => by
    have ih := bytesLess_gtr x y
    rw [Op.bytesLess, Op.bytesLess, ← ih]
    by_cases h1 : a < b
    · have h2 : ¬ b < a := fun h => absurd (UInt8.lt_trans h1 h) (UInt8.lt_irrefl _)
      have h3 : ¬ b = a := fun h => absurd (h ▸ h1) (UInt8.lt_irrefl _)
      simp [h1, h2, h3]
    · by_cases h3 : a = b
      · subst h3; simp
      · have h2 : b < a := by
          rcases UInt8.lt_or_lt_of_ne h3 with h | h
          · exact absurd h h1
          · exact h
        simp [h1, h2, h3]
@[go_sem] theorem binOp_string_gtr_own (t : TypeId) (a b : ByteArray) : binOp .gtr t (.string a) (.string b) = pure (.bool (Op.bytesLess b.toList a.toList)) := by
  rw [← bytesLess_gtr]; simp [binOp, Op.stringOp]
theorem bytesLess_leq (x y : List UInt8) : (Op.bytesLess x y || x == y) = !(Op.bytesLess y x) := by rw [← bytesLess_gtr x y, Bool.not_not]
@[go_sem high] theorem binOp_string_leq_own (t : TypeId) (a b : ByteArray) : binOp .leq t (.string a) (.string b) = pure (.bool !(Op.bytesLess b.toList a.toList)) := by
  rw [← bytesLess_leq]; simp [binOp, Op.stringOp]
@[go_sem high] theorem binOp_string_geq_own (t : TypeId) (a b : ByteArray) : binOp .geq t (.string a) (.string b) = pure (.bool !(Op.bytesLess a.toList b.toList)) := by simp [binOp, Op.stringOp]
end Go.Proofs.YtgbdklbapdgldaaDoor.Open

/- For every two moves, the program's CompareMoves answers what the reference's CompareMoves answers. Conditions: none beyond the statement. -/
import Derived.Test.YtfdefibljhjkkaaOFnExactCompareMovesx2
namespace Go.Proofs.Ytfdefibljhjkkaa.Pure
open Go.RowKit Go.Proofs.Ytfdefibljhjkkaa.OFnExactCompareMoves Go.Proofs.YtfdefibljhjkkaaW.PrintWords Go.Proofs.YtfdefibljhjkkaaW.PrintLast Go.Proofs.YtfdefibljhjkkaaW.PrintMore Go.Proofs.Ytfdefibljhjkkaa.G
set_option linter.unusedVariables false
set_option linter.unusedSimpArgs false
theorem evPos {α : Type} {c : Prop} [Decidable c] {f g : Nat → Option α} {r : α} (hc : c) (h : Ev f r) : Ev (fun k => if c then f k else g k) r := by
  simpa only [if_pos hc] using h
theorem evNeg {α : Type} {c : Prop} [Decidable c] {f g : Nat → Option α} {r : α} (hc : ¬ c) (h : Ev g r) : Ev (fun k => if c then f k else g k) r := by
  simpa only [if_neg hc] using h
theorem evBindC {α β : Type} {o : Option α} {a : α} {f : Nat → α → Option β} {r : β} (ho : o = some a) (h : Ev (fun k => f k a) r) : Ev (fun k => o.bind (f k)) r := by
  subst ho; exact h
theorem evBind {α β : Type} {g : Nat → Option α} {f : Nat → α → Option β} {a : α} {r : β} (h : Ev g a) (k : Ev (fun n => f n a) r) : Ev (fun n => (g n).bind (f n)) r := Ev.bind h k
theorem evNow {α : Type} {a r : α} (h : a = r) : Ev (fun _ => some a) r := h ▸ Ev.now a
theorem evStep {α : Type} {g : Nat → Option α} {r : α} (h : Ev (fun k => g (k + 1)) r) : Ev g r := Ev.step (fun _ => rfl) h
theorem evTo {α : Type} {g : Nat → Option α} {a r : α} (h : Ev g a) (e : a = r) : Ev g r := e ▸ h
def sgn (a b : Int) : Int := if a < b then -1 else if b < a then 1 else 0
def sgnS (a b : ByteArray) : Int := if Op.bytesLess a.toList b.toList = true then -1 else if Op.bytesLess b.toList a.toList = true then 1 else 0
theorem cmp_int (a b : Int) : cmp_Compare_int64.f a b = some (sgn a b) := by
  unfold cmp_Compare_int64.f cmp_isNaN_int64.f sgn
  simp only [bne_self_eq_false, Option.bind_some, Bool.false_eq_true, if_false, gt_iff_lt]
  repeat' split
  all_goals rfl
theorem cmp_str (a b : ByteArray) : cmp_Compare_string.f a b = some (sgnS a b) := by
  unfold cmp_Compare_string.f cmp_isNaN_string.f sgnS
  simp only [bne_self_eq_false, Option.bind_some, Bool.false_eq_true, if_false]
  repeat' split
  all_goals rfl
/-- The first of four that isn't 0. -/
def orI (l : List Int) : Int := match l with | [] => 0 | x :: l => if x = 0 then orI l else x
theorem orI_cons (x : Int) (l : List Int) : orI (x :: l) = if x = 0 then orI l else x := by rw [orI]
theorem or_from (l : List Int) (hl : l.length ≤ 1000) (d : Nat) : ∀ i : Int, 0 ≤ i → i ≤ l.length → (l.length : Int) - i = d → Ev (fun k => cmp_Or_int.l0 k 0 l (l.length : Int) i) (orI (l.drop i.toNat)) := by
  induction d with
  | zero =>
    intro i h0 h1 hd
    refine evStep (evNeg (by omega) (evNow ?_))
    rw [List.drop_of_length_le (by omega)]; rfl
  | succ d ih =>
    intro i h0 h1 hd
    have hlt : i < (l.length : Int) := by omega
    obtain ⟨n, rfl⟩ := Int.eq_ofNat_of_zero_le h0
    have hn : n < l.length := by omega
    have er : rd l (n : Int) = l[n] := by unfold rd; simp [List.getD, hn]
    refine evStep (evPos hlt (evPos h0 (evPos hlt ?_)))
    rw [Int.toNat_natCast, List.drop_eq_getElem_cons hn]
    by_cases hz : rd l (n : Int) = 0
    · refine evPos hz ?_
      have ew : wrap64 ((n : Int) + 1) = (n : Int) + 1 := by unfold wrap64; omega
      rw [ew]
      refine evTo (ih ((n : Int) + 1) (by omega) (by omega) (by omega)) ?_
      have e2 : ((n : Int) + 1).toNat = n + 1 := by omega
      rw [e2, orI_cons, if_pos (er.symm.trans hz)]
    · refine evNeg hz (evNow ?_)
      rw [orI_cons, if_neg (fun h => hz (er.trans h)), er]
theorem or_ev (l : List Int) (hl : l.length ≤ 1000) : Ev (fun k => cmp_Or_int.f k l) (orI l) := or_from l hl l.length 0 (by omega) (by omega) (by omega)
/-- How two plays compare. -/
def cmpP (a0 a1 : Int) (a2 : Bool) (a3 : ByteArray) (b0 b1 : Int) (b2 : Bool) (b3 : ByteArray) : Int :=
  if a2 = b2 then (if a0 = b0 then (if a1 = b1 then sgnS a3 b3 else sgn a1 b1) else sgn a0 b0) else if b2 = true then -1 else 1
theorem sgn_zero {a b : Int} : sgn a b = 0 ↔ a = b := by
  unfold sgn; split
  · omega
  · split <;> omega
theorem j0_eq (m : Nat) (d : Int) (a0 a1 : Int) (a2 : Bool) (a3 : ByteArray) (b0 b1 : Int) (b2 : Bool) (b3 : ByteArray) : impl_ComparePlays.j0 (m + 1) d a0 a1 a2 a3 b0 b1 b2 b3 = (cmp_Or_int.f m [d, sgn a0 b0, sgn a1 b1, sgnS a3 b3]).bind fun t => some t := by
  simp only [impl_ComparePlays.j0, cmp_int, cmp_str, Option.bind_some]
theorem impl_plays_ev (a0 a1 : Int) (a2 : Bool) (a3 : ByteArray) (b0 b1 : Int) (b2 : Bool) (b3 : ByteArray) : Ev (fun k => impl_ComparePlays.f k a0 a1 a2 a3 b0 b1 b2 b3) (cmpP a0 a1 a2 a3 b0 b1 b2 b3) := by
  have key : ∀ d r, orI [d, sgn a0 b0, sgn a1 b1, sgnS a3 b3] = r → Ev (fun k => impl_ComparePlays.j0 k d a0 a1 a2 a3 b0 b1 b2 b3) r := fun d r h =>
    Ev.step (fun m => j0_eq m d a0 a1 a2 a3 b0 b1 b2 b3) (evBind (or_ev [d, sgn a0 b0, sgn a1 b1, sgnS a3 b3] (by simp)) (evNow h))
  unfold impl_ComparePlays.f cmpP
  by_cases hd : a2 = b2
  · subst hd
    refine evNeg (by simp) (key 0 _ ?_)
    rw [if_pos rfl]
    by_cases h0 : a0 = b0
    · rw [if_pos h0]
      by_cases h1 : a1 = b1
      · rw [if_pos h1]
        simp only [orI_cons, sgn_zero.2 h0, sgn_zero.2 h1, if_true]
        split <;> rename_i h <;> simp [orI, h]
      · rw [if_neg h1]
        simp [orI, sgn_zero.2 h0, mt sgn_zero.1 h1]
    · rw [if_neg h0]
      simp [orI, mt sgn_zero.1 h0]
  · rw [if_neg hd]
    refine evPos (by simpa using hd) ?_
    cases ha : a2 with
    | true =>
      have hb : b2 = false := by cases hb : b2 with | true => exact absurd (ha.trans hb.symm) hd | false => rfl
      subst ha hb
      exact evPos rfl (key 1 _ (by simp [orI]))
    | false =>
      have hb : b2 = true := by cases hb : b2 with | false => exact absurd (ha.trans hb.symm) hd | true => rfl
      subst ha hb
      exact evNeg (by simp) (key (-1) _ (by simp [orI]))
theorem spec_plays (a0 a1 : Int) (a2 : Bool) (a3 : ByteArray) (b0 b1 : Int) (b2 : Bool) (b3 : ByteArray) : OCmpA.spec_l12Compare.f a0 a1 a2 a3 b0 b1 b2 b3 = some (cmpP a0 a1 a2 a3 b0 b1 b2 b3) := by
  have hs : ∀ a b : Int, OCmpA.spec_l12Sign.f a b = some (sgn a b) := by
    intro a b; unfold OCmpA.spec_l12Sign.f sgn; repeat' split
    all_goals first | rfl | omega
  unfold OCmpA.spec_l12Compare.f cmpP
  simp only [hs, Option.bind_some]
  by_cases hd : a2 = b2
  · subst hd
    rw [if_neg (by simp), if_pos rfl]
    by_cases h0 : a0 = b0
    · rw [if_pos h0, if_pos h0]
      by_cases h1 : a1 = b1
      · rw [if_pos h1, if_pos h1]; unfold sgnS; repeat' split
        all_goals rfl
      · rw [if_neg h1, if_neg h1]
    · rw [if_neg h0, if_neg h0]
  · rw [if_pos (by simpa using hd), if_neg hd]
    split <;> rfl
def cmpM (a0 a1 : Int) (a2 : Bool) (a3 : ByteArray) (a4 : Int) (b0 b1 : Int) (b2 : Bool) (b3 : ByteArray) (b4 : Int) : Int :=
  if a4 = b4 then cmpP a0 a1 a2 a3 b0 b1 b2 b3 else sgn b4 a4
theorem spec_moves (a0 a1 : Int) (a2 : Bool) (a3 : ByteArray) (a4 : Int) (b0 b1 : Int) (b2 : Bool) (b3 : ByteArray) (b4 : Int) : spec_CompareMoves.f a0 a1 a2 a3 a4 b0 b1 b2 b3 b4 = some (cmpM a0 a1 a2 a3 a4 b0 b1 b2 b3 b4) := by
  have hs : ∀ a b : Int, OCmpA.spec_l12Sign.f a b = some (sgn a b) := by
    intro a b; unfold OCmpA.spec_l12Sign.f sgn; repeat' split
    all_goals first | rfl | omega
  unfold spec_CompareMoves.f spec_l15Compare.f cmpM
  rw [spec_plays, hs]
  split <;> rfl
theorem impl_moves_ev (a0 a1 : Int) (a2 : Bool) (a3 : ByteArray) (a4 : Int) (b0 b1 : Int) (b2 : Bool) (b3 : ByteArray) (b4 : Int) : Ev (fun k => impl_CompareMoves.f k a0 a1 a2 a3 a4 b0 b1 b2 b3 b4) (cmpM a0 a1 a2 a3 a4 b0 b1 b2 b3 b4) := by
  unfold impl_CompareMoves.f cmpM
  by_cases h : a4 > b4
  · refine evPos h (evNow ?_)
    rw [if_neg (by omega)]; unfold sgn; rw [if_pos h]
  · refine evNeg h ?_
    by_cases h2 : a4 < b4
    · refine evPos h2 (evNow ?_)
      rw [if_neg (by omega)]; unfold sgn; rw [if_neg h, if_pos h2]
    · refine evNeg h2 (evBind (impl_plays_ev a0 a1 a2 a3 b0 b1 b2 b3) (evNow ?_))
      rw [if_pos (by omega)]
theorem FnExactCompareMoves : laws_FnExactCompareMoves.Pure := by
  rintro ⟨⟨a0, a1, a2, a3⟩, a4⟩ ⟨⟨b0, b1, b2, b3⟩, b4⟩ - -
  refine Ev.rounds (?_ : Ev (fun k => laws_FnExactCompareMoves.f k a0 a1 a2 a3 a4 b0 b1 b2 b3 b4) true)
  unfold laws_FnExactCompareMoves.f
  have sz : ∀ (a0 a1 : Int) (a2 : Bool) (a3 : ByteArray) (a4 c : Int), ∃ x, laws_szMove.f a0 a1 a2 a3 a4 c = some x := by
    intro a0 a1 a2 a3 a4 c
    unfold laws_szMove.f laws_szPlay.f
    by_cases h : wrap64 (c - a3.size) < 0
    · rw [if_pos h]; exact ⟨-1, rfl⟩
    · rw [if_neg h, Option.bind_some, if_neg h]; exact ⟨_, rfl⟩
  have tm : ∀ (a0 a1 : Int) (a2 : Bool) (a3 : ByteArray) (a4 : Int), laws_toMove.f a0 a1 a2 a3 a4 = some (a0, a1, a2, a3, a4) := fun _ _ _ _ _ => rfl
  obtain ⟨x, hx⟩ := sz a0 a1 a2 a3 a4 1048576
  refine evBindC hx ?_
  by_cases h1 : x < 0
  · exact evPos h1 (evNow rfl)
  refine evNeg h1 ?_
  obtain ⟨y, hy⟩ := sz b0 b1 b2 b3 b4 x
  refine evBindC hy ?_
  by_cases h2 : y < 0
  · exact evPos h2 (evNow rfl)
  refine evNeg h2 ?_
  exact evBindC (tm ..) <| evBindC (tm ..) <| evBindC (spec_moves ..) <| evBindC (tm ..) <| evBindC (tm ..) <| evBind (impl_moves_ev ..) <| evPos rfl <| evNow rfl

end Go.Proofs.Ytfdefibljhjkkaa.Pure

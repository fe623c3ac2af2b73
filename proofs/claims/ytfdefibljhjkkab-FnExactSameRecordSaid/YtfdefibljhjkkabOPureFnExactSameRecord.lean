/- For every two records, the program's SameRecord answers what the reference's SameRecord answers, and leaves its arguments as they were. Conditions: none beyond the statement. -/
import Derived.Test.YtfdefibljhjkkabOFnExactSameRecordx4
namespace Go.Proofs.Ytfdefibljhjkkab.Pure
open Go.RowKit Go.Proofs.Ytfdefibljhjkkab.OFnExactSameRecord Go.Proofs.YtfdefibljhjkkabW.PrintWords Go.Proofs.YtfdefibljhjkkabW.PrintLast Go.Proofs.YtfdefibljhjkkabW.PrintMore
set_option linter.unusedVariables false
set_option linter.unusedSimpArgs false
theorem evPos {α : Type} {c : Prop} [Decidable c] {f g : Nat → Option α} {r : α} (hc : c) (h : Ev f r) : Ev (fun k => if c then f k else g k) r := by
  simpa only [if_pos hc] using h
theorem evNeg {α : Type} {c : Prop} [Decidable c] {f g : Nat → Option α} {r : α} (hc : ¬ c) (h : Ev g r) : Ev (fun k => if c then f k else g k) r := by
  simpa only [if_neg hc] using h
theorem evBindC {α β : Type} {o : Option α} {a : α} {f : Nat → α → Option β} {r : β} (ho : o = some a) (h : Ev (fun k => f k a) r) : Ev (fun k => o.bind (f k)) r := by
  subst ho; exact h
theorem evBind {α β : Type} {g : Nat → Option α} {f : Nat → α → Option β} {a : α} {r : β} (h : Ev g a) (k : Ev (fun n => f n a) r) : Ev (fun n => (g n).bind (f n)) r := Ev.bind h k
theorem evNow {α : Type} {a r : α} (h : a = r) : Ev (fun _ => some a) r := h ▸ Ev.now a
theorem evStep {α : Type} {g : Nat → Option α} {r : α} (h : Ev (fun k => g (k + 1)) r) : Ev g r := Ev.step (fun _ => rfl) h
theorem evTo {α : Type} {g : Nat → Option α} {a r : α} (h : Ev g a) (e : a = r) : Ev g r := e ▸ h
def Sz (a : Int) (x : Int) : Prop := x < 0 ∨ (0 ≤ x ∧ x ≤ a)
theorem wrapSub {a n : Int} (h0 : 0 ≤ a) (h1 : a ≤ 1048576) (h2 : 0 ≤ n) (h3 : n ≤ 9223372036854775807) : wrap64 (a - n) = a - n := by unfold wrap64; omega
theorem sz_play (a0 a1 : Int) (a2 : Bool) (a3 : ByteArray) (hs : a3.size ≤ 9223372036854775807) (a : Int) (h0 : 0 ≤ a) (h1 : a ≤ 1048576) : ∃ x, laws_szPlay.f a0 a1 a2 a3 a = some x ∧ Sz a x := by
  unfold laws_szPlay.f
  rw [wrapSub h0 h1 (by omega) (by omega)]
  split <;> rename_i h
  · exact ⟨_, rfl, Or.inl (by omega)⟩
  · exact ⟨_, rfl, Or.inr ⟨by omega, by omega⟩⟩
theorem sz_action (x : S42) (hb : B42 x) (a : Int) (h0 : 0 ≤ a) (h1 : a ≤ 1048576) : ∃ r, laws_szAction.f x.f0 x.f1.f0 x.f1.f1 x.f1.f2 x.f1.f3 x.f2 x.f3 a = some r ∧ Sz a r := by
  unfold laws_szAction.f
  obtain ⟨y, hy, hz⟩ := sz_play x.f1.f0 x.f1.f1 x.f1.f2 x.f1.f3 hb.2.1.2.2.2 a h0 h1
  rw [hy, Option.bind_some]
  rcases hz with hz | hz
  · rw [if_pos hz]; exact ⟨_, rfl, Or.inl (by omega)⟩
  · rw [if_neg (by omega), wrapSub hz.1 (by omega) (by omega) (by have := hb.2.2.1; omega)]
    split <;> rename_i h
    · exact ⟨_, rfl, Or.inl (by omega)⟩
    · exact ⟨_, rfl, Or.inr ⟨by omega, by omega⟩⟩
theorem rd42 (l : List S42) (i : Nat) (h : i < l.length) : rd_T42 l (i : Int) = l[i] := by unfold rd_T42; simp [List.getD, h]
theorem rd36 (l : List S36) (i : Nat) (h : i < l.length) : rd_T36 l (i : Int) = l[i] := by unfold rd_T36; simp [List.getD, h]
theorem sz_from (l : List S42) (hb : ∀ y ∈ l, B42 y) (hl : (l.length : Int) ≤ 1048576) (n : Nat) : ∀ (i : Nat) (a : Int), i ≤ l.length → l.length - i = n → 0 ≤ a → a ≤ 1048576 → ∃ r, Ev (fun k => laws_szActionS.l0 k l a (i : Int)) r ∧ Sz a r := by
  induction n with
  | zero => intro i a h1 h2 h3 h4; exact ⟨a, evStep (evNeg (by omega) (evNow rfl)), Or.inr ⟨h3, Int.le_refl _⟩⟩
  | succ n ih =>
    intro i a h1 h2 h3 h4
    have hi : i < l.length := by omega
    obtain ⟨x, hx, hz⟩ := sz_action l[i] (hb _ (List.getElem_mem hi)) a h3 h4
    have ew : wrap64 ((i : Int) + 1) = ((i + 1 : Nat) : Int) := by unfold wrap64; omega
    rcases hz with hz | hz
    · refine ⟨-1, evStep (evPos (by omega) (evPos (by omega) ?_)), Or.inl (by omega)⟩
      rw [rd42 l i hi]
      exact evBindC hx (evPos hz (evNow rfl))
    · obtain ⟨r, hr, hz2⟩ := ih (i + 1) x (by omega) (by omega) hz.1 (by omega)
      refine ⟨r, evStep (evPos (by omega) (evPos (by omega) ?_)), ?_⟩
      · rw [rd42 l i hi, ew]
        exact evBindC hx (evNeg (by omega) hr)
      · rcases hz2 with h | h
        · exact Or.inl h
        · exact Or.inr ⟨h.1, by omega⟩
theorem sz_record (c : Int) (l : List S42) (hl : l.length ≤ 9223372036854775807) (hb : ∀ y ∈ l, B42 y) (a : Int) (h0 : 0 ≤ a) (h1 : a ≤ 1048576) :
    ∃ r, Ev (fun k => laws_szRecord.f k c l a) r ∧ (r < 0 ∨ (0 ≤ r ∧ r ≤ a ∧ l.length ≤ 1048576)) := by
  unfold laws_szRecord.f laws_szActionS.f
  rw [wrapSub h0 h1 (by omega) (by omega)]
  by_cases h : a - (l.length : Int) < 0
  · exact ⟨-1, evBind (evPos h (evNow rfl)) (evPos (by omega) (evNow rfl)), Or.inl (by omega)⟩
  · obtain ⟨r, hr, hz⟩ := sz_from l hb (by omega) l.length 0 (a - l.length) (by omega) (by omega) (by omega) (by omega)
    rcases hz with hz | hz
    · exact ⟨-1, evBind (evNeg h hr) (evPos hz (evNow rfl)), Or.inl (by omega)⟩
    · exact ⟨r, evBind (evNeg h hr) (evNeg (by omega) (evNow rfl)), Or.inr ⟨hz.1, by omega, by omega⟩⟩
def cv (x : S42) : S36 := ⟨x.f0, ⟨x.f1.f0, x.f1.f1, x.f1.f2, x.f1.f3⟩, x.f2, x.f3⟩
theorem to_from (l : List S42) (hl : l.length ≤ 1048576) (n : Nat) : ∀ (i : Nat) (out : List S36), i ≤ l.length → l.length - i = n → out.length = l.length → (∀ j, j < i → out[j]? = (l.map cv)[j]?) → Ev (fun k => laws_toActionS.l0 k l out (i : Int)) (l.map cv) := by
  induction n with
  | zero =>
    intro i out h1 h2 h3 h4
    refine evStep (evNeg (by omega) (evNow ?_))
    refine List.ext_getElem? fun j => ?_
    rcases Nat.lt_or_ge j i with h | h
    · exact h4 j h
    · rw [List.getElem?_eq_none (by omega), List.getElem?_eq_none (by rw [List.length_map]; omega)]
  | succ n ih =>
    intro i out h1 h2 h3 h4
    have hi : i < l.length := by omega
    have ew : wrap64 ((i : Int) + 1) = ((i + 1 : Nat) : Int) := by unfold wrap64; omega
    refine evStep (evPos (by omega) (evPos (by omega) ?_))
    rw [rd42 l i hi, ew]
    refine evBindC (a := (l[i].f0, l[i].f1.f0, l[i].f1.f1, l[i].f1.f2, l[i].f1.f3, l[i].f2, l[i].f3)) rfl (evPos (by omega) ?_)
    refine ih (i + 1) _ (by omega) (by omega) (by rw [List.length_set]; exact h3) fun j hj => ?_
    rw [Int.toNat_natCast]
    rcases Nat.lt_or_eq_of_le (Nat.le_of_lt_succ hj) with h | rfl
    · rw [List.getElem?_set_ne (by omega)]; exact h4 j h
    · rw [List.getElem?_set_self (by omega), List.getElem?_map, List.getElem?_eq_getElem hi]; rfl
theorem to_record (c : Int) (l : List S42) (hl : l.length ≤ 1048576) : Ev (fun k => laws_toRecord.f k c l) (c, l.map cv) := by
  unfold laws_toRecord.f laws_toActionS.f
  refine evBind (evPos (by omega) (evPos (by omega) (to_from l hl l.length 0 _ (by omega) (by omega) (by simp) (fun j hj => by omega)))) (evNow rfl)
theorem both_from (A B : List S36) (hA : A.length ≤ 1048576) (he : A.length = B.length) (a b : Int) (n : Nat) : ∀ i : Nat, i ≤ A.length → A.length - i = n → ∃ r, Ev (fun k => spec_SameRecord.l0 k (i : Int) a A b B) r ∧ Ev (fun k => impl_Action.l0 k A B (A.length : Int) (i : Int)) r := by
  induction n with
  | zero =>
    intro i h1 h2
    exact ⟨true, Ev.step (fun m => by rw [spec_SameRecord.l0]) (evNeg (by omega) (evNow rfl)), evStep (evNeg (by omega) (evNow rfl))⟩
  | succ n ih =>
    intro i h1 h2
    have ew : wrap64 ((i : Int) + 1) = ((i + 1 : Nat) : Int) := by unfold wrap64; omega
    obtain ⟨r, e1, e2⟩ := ih (i + 1) (by omega) (by omega)
    by_cases ht : (!(((rd_T36 A (i : Int)).f0) == ((rd_T36 B (i : Int)).f0)) || ((!(((rd_T36 A (i : Int)).f1.f0) == ((rd_T36 B (i : Int)).f1.f0)) || (!(((rd_T36 A (i : Int)).f1.f1) == ((rd_T36 B (i : Int)).f1.f1)) || (!(((rd_T36 A (i : Int)).f1.f2) == ((rd_T36 B (i : Int)).f1.f2)) || (!((((rd_T36 A (i : Int)).f1.f3).toList) == (((rd_T36 B (i : Int)).f1.f3).toList)))))) || (!((((rd_T36 A (i : Int)).f2).toList) == (((rd_T36 B (i : Int)).f2).toList)) || (!(((rd_T36 A (i : Int)).f3) == ((rd_T36 B (i : Int)).f3)))))) = true
    · refine ⟨false, Ev.step (fun m => by rw [spec_SameRecord.l0]) ?_, evStep ?_⟩
      · exact evPos (by omega) <| evPos (by omega) <| evPos (by omega) <| evPos ht <| evNow rfl
      · exact evPos (by omega) <| evPos (by omega) <| evPos (by omega) <| evPos (by omega) <| evPos ht <| evNow rfl
    · refine ⟨r, Ev.step (fun m => by rw [spec_SameRecord.l0]) ?_, evStep ?_⟩
      · refine evPos (by omega) <| evPos (by omega) <| evPos (by omega) <| evNeg ht ?_
        rw [ew]; exact e1
      · refine evPos (by omega) <| evPos (by omega) <| evPos (by omega) <| evPos (by omega) <| evNeg ht ?_
        rw [ew]; exact e2
theorem same_both (a b : Int) (A B : List S36) (hA : A.length ≤ 1048576) (hB : B.length ≤ 1048576) : ∃ r, Ev (fun k => spec_SameRecord.f k a A b B) r ∧ Ev (fun k => impl_SameRecord.f k a A b B) r := by
  unfold spec_SameRecord.f impl_SameRecord.f impl_Action.f
  have no : Ev (fun k => spec_SameRecord.j0 k true a A b B) false := Ev.step (fun m => by rw [spec_SameRecord.j0]) (evPos rfl (evNow rfl))
  by_cases h : a = b
  · by_cases he : A.length = B.length
    · obtain ⟨r, e1, e2⟩ := both_from A B hA he a b A.length 0 (by omega) (by omega)
      have hne : ((A.length : Int) != (B.length : Int)) = false := by rw [he]; simp
      refine ⟨r, evPos h ?_, evPos h (evBind (evPos (by omega) e2) (evNow rfl))⟩
      rw [hne]
      have e1' : Ev (fun k => spec_SameRecord.l0 k 0 a A b B) r := e1
      exact Ev.step (fun m => show spec_SameRecord.j0 (m + 1) false a A b B = spec_SameRecord.l0 m 0 a A b B by rw [spec_SameRecord.j0, if_neg (by simp)]) e1'
    · have hne : ((A.length : Int) != (B.length : Int)) = true := bne_iff_ne.2 (by omega)
      refine ⟨false, evPos h ?_, evPos h (evBind (evNeg (by omega) (evNow rfl)) (evNow rfl))⟩
      rw [hne]; exact no
  · exact ⟨false, evNeg h no, evNeg h (evNow rfl)⟩
theorem eq_from (A : List S36) (hA : A.length ≤ 1048576) (n : Nat) : ∀ i : Nat, i ≤ A.length → A.length - i = n → Ev (fun k => laws_eqActionS.l0 k A A (i : Int)) true := by
  induction n with
  | zero => intro i h1 h2; exact evStep (evNeg (by omega) (evNow rfl))
  | succ n ih =>
    intro i h1 h2
    have ew : wrap64 ((i : Int) + 1) = ((i + 1 : Nat) : Int) := by unfold wrap64; omega
    refine evStep (evPos (by omega) (evPos (by omega) (evPos (by omega) (evBindC (a := true) ?_ (evPos rfl ?_)))))
    · unfold laws_eqAction.f laws_eqPlay.f; simp
    · rw [ew]; exact ih (i + 1) (by omega) (by omega)
theorem eq_record (c : Int) (A : List S36) (hA : A.length ≤ 1048576) : Ev (fun k => laws_eqRecord.f k c A c A) true := by
  unfold laws_eqRecord.f laws_eqActionS.f
  exact evPos rfl (evBind (evPos rfl (eq_from A hA A.length 0 (by omega) (by omega))) (evPos rfl (evNow rfl)))
theorem FnExactSameRecord : laws_FnExactSameRecord.Pure := by
  rintro ⟨a, A⟩ ⟨b, B⟩ ⟨-, hA, hbA⟩ ⟨-, hB, hbB⟩
  refine Ev.rounds (?_ : Ev (fun k => laws_FnExactSameRecord.f k a A b B) true)
  unfold laws_FnExactSameRecord.f
  obtain ⟨x, hx, zx⟩ := sz_record a A hA hbA 1048576 (by omega) (by omega)
  refine evBind hx ?_
  rcases zx with zx | ⟨x0, x1, lA⟩
  · exact evPos zx (evNow rfl)
  refine evNeg (by omega) ?_
  obtain ⟨y, hy, zy⟩ := sz_record b B hB hbB x x0 x1
  refine evBind hy ?_
  rcases zy with zy | ⟨y0, y1, lB⟩
  · exact evPos zy (evNow rfl)
  refine evNeg (by omega) ?_
  have tA := to_record a A lA
  have tB := to_record b B lB
  have mA : (A.map cv).length ≤ 1048576 := by rw [List.length_map]; exact lA
  have mB : (B.map cv).length ≤ 1048576 := by rw [List.length_map]; exact lB
  obtain ⟨r, e1, e2⟩ := same_both a b (A.map cv) (B.map cv) mA mB
  exact evBind tA <| evBind tB <| evBind e1 <| evBind tA <| evBind tB <| evBind e2 <| evNeg (by simp) <| evBind tA <| evBind (eq_record a _ mA) <| evPos rfl <| evBind tB <| evBind (eq_record b _ mB) <| evPos rfl <| evNow rfl

end Go.Proofs.Ytfdefibljhjkkab.Pure

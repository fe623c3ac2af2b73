/- For every two verdicts, the program's SameVerdict answers what the reference's SameVerdict answers, and leaves its arguments as they were. Conditions: none beyond the statement. -/
import Derived.Test.YtfdefibljhjkkaaOFnExactSameVerdictx3
namespace Go.Proofs.Ytfdefibljhjkkaa.Pure
open Go.RowKit Go.Proofs.Ytfdefibljhjkkaa.OFnExactSameVerdict Go.Proofs.YtfdefibljhjkkaaW.PrintWords Go.Proofs.YtfdefibljhjkkaaW.PrintLast Go.Proofs.YtfdefibljhjkkaaW.PrintMore
set_option linter.unusedVariables false
set_option linter.unusedSimpArgs false
theorem evPos {α : Type} {c : Prop} [Decidable c] {f g : Nat → Option α} {r : α} (hc : c) (h : Ev f r) : Ev (fun k => if c then f k else g k) r := by
  simpa only [if_pos hc] using h
theorem evNeg {α : Type} {c : Prop} [Decidable c] {f g : Nat → Option α} {r : α} (hc : ¬ c) (h : Ev g r) : Ev (fun k => if c then f k else g k) r := by
  simpa only [if_neg hc] using h
theorem evBindC {α β : Type} {o : Option α} {a : α} {f : Nat → α → Option β} {r : β} (ho : o = some a) (h : Ev (fun k => f k a) r) : Ev (fun k => o.bind (f k)) r := by
  subst ho; exact h
theorem evBind {α β : Type} {g : Nat → Option α} {f : Nat → α → Option β} {a : α} {r : β} (h : Ev g a) (k : Ev (fun n => f n a) r) : Ev (fun n => (g n).bind (f n)) r := Ev.bind h k
theorem evNow {α : Type} {a r : α} (h : a = r) : Ev (fun _ => some a) r := h ▸ Ev.now a
theorem evStep {α : Type} {g : Nat → Option α} {r : α} (h : Ev (fun k => g (k + 1)) r) : Ev g r := Ev.step (fun _ => rfl) h
theorem evTo {α : Type} {g : Nat → Option α} {a r : α} (h : Ev g a) (e : a = r) : Ev g r := e ▸ h
theorem baEq {a b : ByteArray} : a.toList = b.toList ↔ a = b := by
  constructor
  · intro h
    rw [ByteArray.toList_eq, ByteArray.toList_eq] at h
    cases a; cases b
    simp only [ByteArray.mk.injEq]
    exact Array.toList_inj.1 h
  · rintro rfl; rfl
theorem rdOf_get {α : Type} {d : α} (xs : List α) (i : Nat) (h : i < xs.length) : rdOf d xs (i : Int) = xs[i] := by
  unfold rdOf; rw [Int.toNat_natCast, List.getD_eq_getElem?_getD, List.getElem?_eq_getElem h]; rfl
theorem drop_rdOf {α : Type} (d : α) (xs : List α) (i : Int) (h0 : 0 ≤ i) (h : i < (xs.length : Int)) : xs.drop i.toNat = rdOf d xs i :: xs.drop (i + 1).toNat := by
  obtain ⟨n, rfl⟩ := Int.eq_ofNat_of_zero_le h0
  have hn : n < xs.length := by omega
  rw [rdOf_get xs n hn, Int.toNat_natCast, List.drop_eq_getElem_cons hn]
  congr 2
theorem drop_at_end {α : Type} (xs : List α) (i : Int) (h : (xs.length : Int) ≤ i) : xs.drop i.toNat = [] := List.drop_of_length_le (by omega)
theorem wrapIncL {i : Int} {n : Nat} (h0 : 0 ≤ i) (h : i < (n : Int)) (hn : n ≤ 9223372036854775807) : wrap64 (i + 1) = i + 1 := by
  unfold wrap64; omega
/-- What the sizes' loop comes to from index i on: below 0, or what is left. -/
theorem szStrs_from (l : List ByteArray) (hl : l.length ≤ 9223372036854775807) (hs : ∀ s ∈ l, s.size ≤ 9223372036854775807) (d : Nat) : ∀ (i a : Int), 0 ≤ i → i ≤ l.length → (l.length : Int) - i = d → 0 ≤ a → a ≤ 1048576 →
    ∃ r, Ev (fun k => laws_szStringS.l0 k l a i) r ∧ (r < 0 ∨ (0 ≤ r ∧ r ≤ a ∧ ∀ s ∈ l.drop i.toNat, (s.size : Int) ≤ a)) := by
  induction d with
  | zero =>
    intro i a h0 h1 hd ha ha1
    refine ⟨a, evStep (evNeg (by omega) (evNow rfl)), .inr ⟨ha, Int.le_refl _, ?_⟩⟩
    rw [drop_at_end l i (by omega)]
    intro s hsm; cases hsm
  | succ d ih =>
    intro i a h0 h1 hd ha ha1
    have hlt : i < (l.length : Int) := by omega
    have hdr := drop_rdOf ByteArray.empty l i h0 hlt
    have hmem : rdOf ByteArray.empty l i ∈ l := by
      have : rdOf ByteArray.empty l i ∈ l.drop i.toNat := by rw [hdr]; exact List.mem_cons_self
      exact List.mem_of_mem_drop this
    have hz := hs _ hmem
    have ew : wrap64 (a - ((rdOf ByteArray.empty l i).size : Int)) = a - (rdOf ByteArray.empty l i).size := by unfold wrap64; omega
    by_cases hneg : a - ((rdOf ByteArray.empty l i).size : Int) < 0
    · exact ⟨-1, evStep (evPos hlt (evPos h0 (evPos (by rw [ew]; exact hneg) (evNow rfl)))), .inl (by omega)⟩
    · obtain ⟨r, he, hr⟩ := ih (i + 1) (a - (rdOf ByteArray.empty l i).size) (by omega) (by omega) (by omega) (by omega) (by omega)
      refine ⟨r, evStep (evPos hlt (evPos h0 (evNeg (by rw [ew]; exact hneg) ?_))), ?_⟩
      · rw [ew, wrapIncL h0 hlt hl]; exact he
      · rcases hr with hr | ⟨hr0, hr1, hr2⟩
        · exact .inl hr
        · refine .inr ⟨hr0, by omega, fun s hsm => ?_⟩
          rw [hdr] at hsm
          rcases List.mem_cons.1 hsm with rfl | hsm
          · omega
          · have := hr2 s hsm; omega
/-- The sizes of a list of strings: below 0 (too much), or what is left of a. -/
theorem szStrs (l : List ByteArray) (hl : l.length ≤ 9223372036854775807) (hs : ∀ s ∈ l, s.size ≤ 9223372036854775807) (a : Int) (ha : 0 ≤ a) (ha1 : a ≤ 1048576) :
    ∃ r, Ev (fun k => laws_szStringS.f k l a) r ∧ (r < 0 ∨ (0 ≤ r ∧ r ≤ a ∧ (l.length : Int) ≤ a ∧ ∀ s ∈ l, (s.size : Int) ≤ a)) := by
  have ew : wrap64 (a - (l.length : Int)) = a - l.length := by unfold wrap64; omega
  unfold laws_szStringS.f
  by_cases hneg : a - (l.length : Int) < 0
  · exact ⟨-1, evPos (by rw [ew]; exact hneg) (evNow rfl), .inl (by omega)⟩
  · obtain ⟨r, he, hr⟩ := szStrs_from l hl hs l.length 0 (a - l.length) (by omega) (by omega) (by omega) (by omega) (by omega)
    refine ⟨r, evNeg (by rw [ew]; exact hneg) (by rw [ew]; exact he), ?_⟩
    rcases hr with hr | ⟨hr0, hr1, hr2⟩
    · exact .inl hr
    · exact .inr ⟨hr0, by omega, by omega, fun s hsm => by have := hr2 s hsm; omega⟩
theorem copyStrs_from (l : List ByteArray) (hl : l.length ≤ 1048576) (d : Nat) : ∀ (i : Int) (o : List ByteArray), 0 ≤ i → i ≤ l.length → (l.length : Int) - i = d → o.length = l.length → o.take i.toNat = l.take i.toNat →
    Ev (fun k => laws_toStringS.l0 k l o i) l := by
  induction d with
  | zero =>
    intro i o h0 h1 hd ho he
    refine evStep (evNeg (by omega) (evNow ?_))
    rw [List.take_of_length_le (by omega), List.take_of_length_le (by omega)] at he
    exact he
  | succ d ih =>
    intro i o h0 h1 hd ho he
    have hlt : i < (l.length : Int) := by omega
    refine evStep (evPos hlt (evPos h0 (evPos (by omega) ?_)))
    rw [wrapIncL h0 hlt (by omega)]
    refine ih (i + 1) _ (by omega) (by omega) (by omega) (by simpa using ho) ?_
    obtain ⟨n, rfl⟩ := Int.eq_ofNat_of_zero_le h0
    have hn : n < l.length := by omega
    rw [show ((n : Int) + 1).toNat = n + 1 by omega, Int.toNat_natCast, rdOf_get l n hn]
    rw [Int.toNat_natCast] at he
    rw [List.take_succ_eq_append_getElem (by simp; omega), List.take_succ_eq_append_getElem hn, List.take_set_of_le (Nat.le_refl _), he]
    simp
/-- The copy of a list of strings is the list. -/
theorem copyStrs (l : List ByteArray) (hl : l.length ≤ 1048576) : Ev (fun k => laws_toStringS.f k l) l := by
  unfold laws_toStringS.f
  exact evPos (by omega) (evPos (by omega) (copyStrs_from l hl l.length 0 _ (by omega) (by omega) (by omega) (by simp) (by simp)))
/-- Two lists of strings are equal. -/
def strsB (a b : List ByteArray) : Bool := decide (a.map ByteArray.toList = b.map ByteArray.toList)
theorem strsB_iff {a b : List ByteArray} : strsB a b = true ↔ a = b := by
  unfold strsB
  rw [decide_eq_true_eq]
  exact ⟨fun h => (List.map_inj_right (fun x y h => baEq.1 h)).1 h, fun h => by rw [h]⟩
theorem strsB_refl (a : List ByteArray) : strsB a a = true := strsB_iff.2 rfl
theorem strsB_len {a b : List ByteArray} (h : ¬ (a.length : Int) = b.length) : strsB a b = false := by
  rw [Bool.eq_false_iff]; intro e; rw [strsB_iff] at e; exact h (by rw [e])
theorem strsB_drop {a b : List ByteArray} {i : Int} (h0 : 0 ≤ i) (ha : i < (a.length : Int)) (hb : i < (b.length : Int)) :
    strsB (a.drop i.toNat) (b.drop i.toNat) = (decide ((rdOf ByteArray.empty a i).toList = (rdOf ByteArray.empty b i).toList) && strsB (a.drop (i + 1).toNat) (b.drop (i + 1).toNat)) := by
  rw [drop_rdOf ByteArray.empty a i h0 ha, drop_rdOf ByteArray.empty b i h0 hb]
  unfold strsB
  simp only [List.map_cons, List.cons.injEq, Bool.decide_and]
theorem lawsEq_from (a b : List ByteArray) (hl : a.length = b.length) (hm : a.length ≤ 9223372036854775807) (d : Nat) : ∀ i : Int, 0 ≤ i → i ≤ a.length → (a.length : Int) - i = d →
    Ev (fun k => laws_eqStringS.l0 k a b i) (strsB (a.drop i.toNat) (b.drop i.toNat)) := by
  induction d with
  | zero =>
    intro i h0 h1 hd
    refine evStep (evNeg (by omega) (evNow ?_))
    rw [drop_at_end a i (by omega), drop_at_end b i (by omega)]; exact (strsB_refl _).symm
  | succ d ih =>
    intro i h0 h1 hd
    have hlt : i < (a.length : Int) := by omega
    rw [strsB_drop h0 hlt (by omega)]
    refine evStep (evPos hlt (evPos h0 (evPos (by omega) ?_)))
    by_cases he : (rdOf ByteArray.empty a i).toList = (rdOf ByteArray.empty b i).toList
    · refine evPos he ?_
      rw [wrapIncL h0 hlt hm, decide_eq_true he, Bool.true_and]
      exact ih (i + 1) (by omega) (by omega) (by omega)
    · exact evNeg he (evNow (by rw [decide_eq_false he, Bool.false_and]))
theorem lawsEq (a b : List ByteArray) (hm : a.length ≤ 9223372036854775807) : Ev (fun k => laws_eqStringS.f k a b) (strsB a b) := by
  unfold laws_eqStringS.f
  by_cases h : (a.length : Int) = b.length
  · exact evPos h (lawsEq_from a b (by omega) hm a.length 0 (by omega) (by omega) (by omega))
  · exact evNeg h (evNow (strsB_len h).symm)
theorem l05Eq_from (a b : List ByteArray) (hl : a.length = b.length) (hm : a.length ≤ 9223372036854775807) (d : Nat) : ∀ i : Int, 0 ≤ i → i ≤ a.length → (a.length : Int) - i = d →
    Ev (fun k => spec_l05Same.l0 k a b i) (strsB (a.drop i.toNat) (b.drop i.toNat)) := by
  induction d with
  | zero =>
    intro i h0 h1 hd
    refine evStep (evNeg (by omega) (evNow ?_))
    rw [drop_at_end a i (by omega), drop_at_end b i (by omega)]; exact (strsB_refl _).symm
  | succ d ih =>
    intro i h0 h1 hd
    have hlt : i < (a.length : Int) := by omega
    rw [strsB_drop h0 hlt (by omega)]
    refine evStep (evPos hlt (evPos h0 (evPos (by omega) ?_)))
    by_cases he : (rdOf ByteArray.empty a i).toList = (rdOf ByteArray.empty b i).toList
    · refine evPos he ?_
      rw [wrapIncL h0 hlt hm, decide_eq_true he, Bool.true_and]
      exact ih (i + 1) (by omega) (by omega) (by omega)
    · exact evNeg he (evNow (by rw [decide_eq_false he, Bool.false_and]))
theorem l05Eq (a b : List ByteArray) (hm : a.length ≤ 9223372036854775807) : Ev (fun k => spec_l05Same.f k a b) (strsB a b) := by
  unfold spec_l05Same.f
  by_cases h : (a.length : Int) = b.length
  · exact evPos h (l05Eq_from a b (by omega) hm a.length 0 (by omega) (by omega) (by omega))
  · exact evNeg h (evNow (strsB_len h).symm)
theorem slEq_from (a b : List ByteArray) (hl : a.length = b.length) (hm : a.length ≤ 9223372036854775807) (d : Nat) : ∀ i : Int, 0 ≤ i → i ≤ a.length → (a.length : Int) - i = d →
    Ev (fun k => slices_Equal_string_string.l0 k a b (a.length : Int) i) (strsB (a.drop i.toNat) (b.drop i.toNat)) := by
  induction d with
  | zero =>
    intro i h0 h1 hd
    refine evStep (evNeg (by omega) (evNow ?_))
    rw [drop_at_end a i (by omega), drop_at_end b i (by omega)]; exact (strsB_refl _).symm
  | succ d ih =>
    intro i h0 h1 hd
    have hlt : i < (a.length : Int) := by omega
    rw [strsB_drop h0 hlt (by omega)]
    refine evStep (evPos hlt (evPos h0 (evPos (by omega) (evPos (by omega) ?_))))
    by_cases he : (rdOf ByteArray.empty a i).toList = (rdOf ByteArray.empty b i).toList
    · refine evPos he ?_
      rw [wrapIncL h0 hlt hm, decide_eq_true he, Bool.true_and]
      exact ih (i + 1) (by omega) (by omega) (by omega)
    · exact evNeg he (evNow (by rw [decide_eq_false he, Bool.false_and]))
theorem slEq (a b : List ByteArray) (hm : a.length ≤ 9223372036854775807) : Ev (fun k => slices_Equal_string_string.f k a b) (strsB a b) := by
  unfold slices_Equal_string_string.f
  by_cases h : (a.length : Int) = b.length
  · exact evPos h (slEq_from a b (by omega) hm a.length 0 (by omega) (by omega) (by omega))
  · exact evNeg h (evNow (strsB_len h).symm)
theorem szVerdict_ev (x : S37) (hb : B37 x) (a : Int) (ha : 0 ≤ a) (ha1 : a ≤ 1048576) :
    ∃ r, Ev (fun k => laws_szVerdict.f k x.f0 x.f1 x.f2 x.f3 a) r ∧ (r < 0 ∨ (0 ≤ r ∧ r ≤ a ∧ x.f0.length ≤ 1048576 ∧ x.f1.length ≤ 1048576)) := by
  obtain ⟨⟨h0, h0s⟩, ⟨h1, h1s⟩, _, _⟩ := hb
  obtain ⟨r, e, hr⟩ := szStrs x.f0 h0 h0s a ha ha1
  unfold laws_szVerdict.f
  rcases hr with hr | ⟨hr0, hr1, hr2, _⟩
  · exact ⟨-1, evBind e (evPos hr (evNow rfl)), .inl (by omega)⟩
  · obtain ⟨r', e', hr'⟩ := szStrs x.f1 h1 h1s r hr0 (by omega)
    rcases hr' with hr' | ⟨hr0', hr1', hr2', _⟩
    · exact ⟨-1, evBind e (evNeg (by omega) (evBind e' (evPos hr' (evNow rfl)))), .inl (by omega)⟩
    · exact ⟨r', evBind e (evNeg (by omega) (evBind e' (evNeg (by omega) (evNow rfl)))), .inr ⟨hr0', by omega, by omega, by omega⟩⟩
theorem toVerdict_ev (x : S37) (h0 : x.f0.length ≤ 1048576) (h1 : x.f1.length ≤ 1048576) :
    Ev (fun k => laws_toVerdict.f k x.f0 x.f1 x.f2 x.f3) (x.f0, x.f1, x.f2, x.f3) := by
  unfold laws_toVerdict.f
  exact evBind (copyStrs _ h0) (evBind (copyStrs _ h1) (evNow rfl))
theorem eqVerdict_ev (x : S37) (h0 : x.f0.length ≤ 1048576) (h1 : x.f1.length ≤ 1048576) : Ev (fun k => laws_eqVerdict.f k x.f0 x.f1 x.f2 x.f3 x.f0 x.f1 x.f2 x.f3) true := by
  unfold laws_eqVerdict.f
  exact evBind (lawsEq _ _ (by omega)) (evPos (strsB_refl _) (evBind (lawsEq _ _ (by omega)) (evPos (strsB_refl _) (evNeg (by simp) (evPos rfl (evNow rfl))))))
theorem same_ev (x y : S37) (h0 : x.f0.length ≤ 1048576) (h1 : x.f1.length ≤ 1048576) :
    ∃ r, Ev (fun k => spec_SameVerdict.f k x.f0 x.f1 x.f2 x.f3 y.f0 y.f1 y.f2 y.f3) r ∧ Ev (fun k => impl_SameVerdict.f k x.f0 x.f1 x.f2 x.f3 y.f0 y.f1 y.f2 y.f3) r := by
  unfold spec_SameVerdict.f impl_SameVerdict.f
  by_cases e0 : strsB x.f0 y.f0 = true
  · by_cases e1 : strsB x.f1 y.f1 = true
    · by_cases e2 : (x.f2 == y.f2) = true
      · exact ⟨x.f3 == y.f3, evBind (l05Eq _ _ (by omega)) (evPos e0 (evBind (l05Eq _ _ (by omega)) (evPos e1 (evPos e2 (evNow rfl))))), evBind (slEq _ _ (by omega)) (evPos e0 (evBind (slEq _ _ (by omega)) (evPos e1 (evPos e2 (evNow rfl)))))⟩
      · exact ⟨false, evBind (l05Eq _ _ (by omega)) (evPos e0 (evBind (l05Eq _ _ (by omega)) (evPos e1 (evNeg e2 (evNow rfl))))), evBind (slEq _ _ (by omega)) (evPos e0 (evBind (slEq _ _ (by omega)) (evPos e1 (evNeg e2 (evNow rfl)))))⟩
    · exact ⟨false, evBind (l05Eq _ _ (by omega)) (evPos e0 (evBind (l05Eq _ _ (by omega)) (evNeg e1 (evNow rfl)))), evBind (slEq _ _ (by omega)) (evPos e0 (evBind (slEq _ _ (by omega)) (evNeg e1 (evNow rfl))))⟩
  · exact ⟨false, evBind (l05Eq _ _ (by omega)) (evNeg e0 (evNow rfl)), evBind (slEq _ _ (by omega)) (evNeg e0 (evNow rfl))⟩
theorem FnExactSameVerdict : laws_FnExactSameVerdict.Pure := by
  intro x y hx hy
  refine Ev.rounds (?_ : Ev (fun k => laws_FnExactSameVerdict.f k x.f0 x.f1 x.f2 x.f3 y.f0 y.f1 y.f2 y.f3) true)
  unfold laws_FnExactSameVerdict.f
  obtain ⟨r, e, hr⟩ := szVerdict_ev x hx 1048576 (by omega) (by omega)
  rcases hr with hr | ⟨hr0, hr1, hx0, hx1⟩
  · exact evBind e (evPos hr (evNow rfl))
  obtain ⟨r', e', hr'⟩ := szVerdict_ev y hy r hr0 (by omega)
  rcases hr' with hr' | ⟨hr0', hr1', hy0, hy1⟩
  · exact evBind e (evNeg (by omega) (evBind e' (evPos hr' (evNow rfl))))
  obtain ⟨q, es, ei⟩ := same_ev x y hx0 hx1
  have tx := toVerdict_ev x hx0 hx1
  have ty := toVerdict_ev y hy0 hy1
  exact evBind e <| evNeg (by omega) <| evBind e' <| evNeg (by omega) <| evBind tx <| evBind ty <| evBind es <| evBind tx <| evBind ty <| evBind ei <| evNeg (by simp) <|
    evBind tx <| evBind (eqVerdict_ev x hx0 hx1) <| evPos rfl <| evBind ty <| evBind (eqVerdict_ev y hy0 hy1) <| evPos rfl <| evNow rfl

end Go.Proofs.Ytfdefibljhjkkaa.Pure

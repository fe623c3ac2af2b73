/- For every draw of a name, a lexicon and words, the program's RuleNamed, RuleNames, Adjudicate and HasWord answer as the reference does. Conditions: none beyond the statement. -/
import Derived.Test.YtjolcfheommchaaDoorOFnRulesx4
namespace Go.Proofs.YtjolcfheommchaaDoor.Pure
open Go.RowKit Go.Proofs.YtjolcfheommchaaDoor.OFnRules Go.Proofs.YtjolcfheommchaaDoorW.PrintWords Go.Proofs.YtjolcfheommchaaDoorW.PrintLast Go.Proofs.YtjolcfheommchaaDoorW.PrintMore Go.Proofs.YtjolcfheommchaaDoor.G
set_option linter.unusedVariables false
set_option linter.unusedSimpArgs false
open Go.Proofs.YtjolcfheommchaaDoor.OAdjA (spec_l01Small.f spec_IsWord.f spec_IsWord.l0 spec_l05Long.f spec_l05First.f spec_l05First.l0 spec_l05Has.f impl_increasing.f impl_increasing.l0 impl_IsWord.f impl_isLong.f impl_ValidLexicon.f impl_ValidLexicon.j0 impl_ValidLexicon.l0 slices_BinarySearch_string_string.f slices_BinarySearch_string_string.l0 cmp_Less_string.f cmp_isNaN_string.f slices_isNaN_string.f impl_Lexicon_has.f spec_l00In.f)
theorem evPos {α : Type} {c : Prop} [Decidable c] {f g : Nat → Option α} {r : α} (hc : c) (h : Ev f r) : Ev (fun k => if c then f k else g k) r := by
  simpa only [if_pos hc] using h
theorem evNeg {α : Type} {c : Prop} [Decidable c] {f g : Nat → Option α} {r : α} (hc : ¬ c) (h : Ev g r) : Ev (fun k => if c then f k else g k) r := by
  simpa only [if_neg hc] using h
theorem evBindC {α β : Type} {o : Option α} {a : α} {f : Nat → α → Option β} {r : β} (ho : o = some a) (h : Ev (fun k => f k a) r) : Ev (fun k => o.bind (f k)) r := by
  subst ho; exact h
theorem evBind {α β : Type} {g : Nat → Option α} {f : Nat → α → Option β} {a : α} {r : β} (h : Ev g a) (k : Ev (fun n => f n a) r) : Ev (fun n => (g n).bind (f n)) r := Ev.bind h k
theorem evNow {α : Type} {a r : α} (h : a = r) : Ev (fun _ => some a) r := h ▸ Ev.now a
theorem evStep {α : Type} {g : Nat → Option α} {r : α} (h : Ev (fun k => g (k + 1)) r) : Ev g r := Ev.step (fun _ => rfl) h
theorem evTo {α : Type} {g : Nat → Option α} {a r : α} (h : Ev g a) (e : a = r) : Ev g r := e ▸ h
theorem baEq {a b : ByteArray} : a.toList = b.toList ↔ a = b := by
  constructor
  · intro h
    rw [ByteArray.toList_eq, ByteArray.toList_eq] at h
    cases a; cases b
    simp only [ByteArray.mk.injEq]
    exact Array.toList_inj.1 h
  · rintro rfl; rfl
theorem rdOf_get {α : Type} {d : α} (xs : List α) (i : Nat) (h : i < xs.length) : rdOf d xs (i : Int) = xs[i] := by
  unfold rdOf; rw [Int.toNat_natCast, List.getD_eq_getElem?_getD, List.getElem?_eq_getElem h]; rfl
theorem drop_rdOf {α : Type} (d : α) (xs : List α) (i : Int) (h0 : 0 ≤ i) (h : i < (xs.length : Int)) : xs.drop i.toNat = rdOf d xs i :: xs.drop (i + 1).toNat := by
  obtain ⟨n, rfl⟩ := Int.eq_ofNat_of_zero_le h0
  have hn : n < xs.length := by omega
  rw [rdOf_get xs n hn, Int.toNat_natCast, List.drop_eq_getElem_cons hn]
  congr 2
theorem drop_at_end {α : Type} (xs : List α) (i : Int) (h : (xs.length : Int) ≤ i) : xs.drop i.toNat = [] := List.drop_of_length_le (by omega)
theorem wrapIncL {i : Int} {n : Nat} (h0 : 0 ≤ i) (h : i < (n : Int)) (hn : n ≤ 9223372036854775807) : wrap64 (i + 1) = i + 1 := by
  unfold wrap64; omega
theorem wrapInc {i : Int} {n : Nat} (h0 : 0 ≤ i) (h : i < (n : Int)) (hn : n ≤ 140737488351232) : wrap64 (i + 1) = i + 1 := by
  unfold wrap64; omega
/-- Do all bytes from the n-th on meet p? -/
def allFrom (p : Int → Bool) (s : ByteArray) (n : Nat) : Bool := ((bytesOf s).drop n).all p
theorem allFrom_end (p : Int → Bool) (s : ByteArray) (n : Nat) (h : s.size ≤ n) : allFrom p s n = true := by
  unfold allFrom; rw [List.drop_of_length_le (by rw [bytesOf_length]; exact h)]; rfl
theorem bytesOf_drop (s : ByteArray) (n : Nat) (h : n < s.size) : (bytesOf s).drop n = bt s (n : Int) :: (bytesOf s).drop (n + 1) := by
  have hl : n < (bytesOf s).length := by rw [bytesOf_length]; exact h
  rw [List.drop_eq_getElem_cons hl]
  have e : (bytesOf s)[n] = bt s (n : Int) := by
    rw [← rd_bytesOf]; unfold rd; simp [List.getD, hl]
  rw [e]
theorem allFrom_step (p : Int → Bool) (s : ByteArray) (i : Int) (h0 : 0 ≤ i) (h : i < (s.size : Int)) : allFrom p s i.toNat = (p (bt s i) && allFrom p s (i + 1).toNat) := by
  obtain ⟨n, rfl⟩ := Int.eq_ofNat_of_zero_le h0
  have e : ((n : Int) + 1).toNat = n + 1 := by omega
  rw [e, Int.toNat_natCast]
  unfold allFrom
  rw [bytesOf_drop s n (by omega)]; rfl
theorem less_irrefl : ∀ x : List UInt8, Op.bytesLess x x = false
  | [] => by simp [Op.bytesLess]
  | a :: x => by rw [Op.bytesLess]; simp [less_irrefl x]
theorem less_cons (a b : UInt8) (x y : List UInt8) : Op.bytesLess (a :: x) (b :: y) = true ↔ a < b ∨ (a = b ∧ Op.bytesLess x y = true) := by
  rw [Op.bytesLess]; simp
theorem less_trans : ∀ x y z : List UInt8, Op.bytesLess x y = true → Op.bytesLess y z = true → Op.bytesLess x z = true
  | [], [], _, h, _ => by simp [Op.bytesLess] at h
  | _ :: _, [], _, h, _ => by simp [Op.bytesLess] at h
  | _, _ :: _, [], _, h => by simp [Op.bytesLess] at h
  | [], _ :: _, _ :: _, _, _ => by simp [Op.bytesLess]
  | a :: x, b :: y, c :: z, h1, h2 => by
    rw [less_cons] at h1 h2 ⊢
    rcases h1 with h1 | ⟨rfl, h1⟩
    · rcases h2 with h2 | ⟨rfl, h2⟩
      · exact .inl (UInt8.lt_trans h1 h2)
      · exact .inl h1
    · rcases h2 with h2 | ⟨rfl, h2⟩
      · exact .inl h2
      · exact .inr ⟨rfl, less_trans x y z h1 h2⟩
/-- A long word. -/
def longB (s : ByteArray) : Bool := smallS s && (decide (2 ≤ s.size) && decide (s.size ≤ 12))
theorem small_at (s : ByteArray) (h : ∀ j : Nat, j < s.size → smallB (bt s (j : Int)) = true) : smallS s = true := small_yes s h
theorem l01Small_eq (c : Int) : spec_l01Small.f c = some (smallB c) := by
  unfold spec_l01Small.f smallB
  by_cases h : c ≥ 97
  · rw [if_pos h, decide_eq_true (show 97 ≤ c from h)]; rfl
  · rw [if_neg h, decide_eq_false (show ¬ 97 ≤ c from h)]; rfl
theorem l00In_eq (a b c : Int) : spec_l00In.f a b c = some (decide (b ≤ a) && decide (a ≤ c)) := by
  unfold spec_l00In.f
  by_cases h : a ≥ b
  · rw [if_pos h, decide_eq_true (show b ≤ a from h)]; rfl
  · rw [if_neg h, decide_eq_false (show ¬ b ≤ a from h)]; rfl
theorem isWord_from (s : ByteArray) (hs : s.size ≤ 140737488351232) (d : Nat) : ∀ i : Nat, i + d = s.size → (∀ j : Nat, j < i → smallB (bt s (j : Int)) = true) →
    Ev (fun k => spec_IsWord.l0 k s (i : Int)) (smallS s && (decide (1 ≤ (s.size : Int)) && decide ((s.size : Int) ≤ 12))) := by
  induction d with
  | zero =>
    intro i hi h
    have hy : smallS s = true := small_yes s fun j hj => h j (by omega)
    refine evStep (evNeg (by omega) ?_)
    rw [l00In_eq, hy, Bool.true_and]
    exact evBindC rfl (evNow rfl)
  | succ d ih =>
    intro i hi h
    refine evStep (evPos (by omega) (evPos (by omega) ?_))
    refine evBindC (l01Small_eq _) ?_
    cases hb : smallB (bt s (i : Int)) with
    | true =>
      refine evPos rfl ?_
      have := ih (i + 1) (by omega) fun j hj => if hji : j < i then h j hji else by
        have : j = i := by omega
        subst this; exact hb
      rw [show wrap64 ((i : Int) + 1) = ((i + 1 : Nat) : Int) by unfold wrap64; omega]
      exact this
    | false =>
      refine evNeg (by simp) (evNow ?_)
      rw [small_no s i (by omega) hb]; rfl
theorem l05Long_ev (s : ByteArray) (hs : s.size ≤ 140737488351232) : Ev (fun k => spec_l05Long.f k s) (longB s) := by
  unfold spec_l05Long.f longB
  by_cases h : (s.size : Int) > 1
  · refine evPos h (evBind (isWord_from s hs s.size 0 (by omega) fun j hj => absurd hj (Nat.not_lt_zero j)) (evNow ?_))
    rw [decide_eq_true (show 1 ≤ (s.size : Int) by omega), decide_eq_true (show 2 ≤ s.size by omega)]
    congr 2
    rw [decide_eq_decide]; omega
  · refine evNeg h (evNow ?_)
    rw [decide_eq_false (show ¬ 2 ≤ s.size by omega)]; simp
theorem isLong_eq (s : ByteArray) (hs : s.size ≤ 1000000000000) : impl_isLong.f s = some (longB s) := by
  unfold impl_isLong.f impl_IsWord.f impl_onlySmall.f longB
  by_cases h : (s.size : Int) ≥ 2
  · rw [if_pos h, if_pos (show (s.size : Int) ≥ 1 by omega), decide_eq_true (show 2 ≤ s.size by omega)]
    by_cases h2 : (s.size : Int) ≤ 12
    · rw [if_pos h2, if_pos hs, decide_eq_true (show s.size ≤ 12 by omega)]; simp
    · rw [if_neg h2, decide_eq_false (show ¬ s.size ≤ 12 by omega)]; simp
  · rw [if_neg h, decide_eq_false (show ¬ 2 ≤ s.size by omega)]; simp
def lessA (l : List ByteArray) (i : Nat) : Bool := Op.bytesLess (strAt l (i - 1)).toList (strAt l i).toList
/-- A lexicon that is valid. -/
def lexP (l : List ByteArray) : Prop := l.length ≤ 200 ∧ ∀ i, i < l.length → longB (strAt l i) = true ∧ (i = 0 ∨ lessA l i = true)
theorem rdOf_strAt (l : List ByteArray) (i : Nat) : rdOf ByteArray.empty l (i : Int) = strAt l i := by unfold rdOf strAt; rw [Int.toNat_natCast]
theorem strAt_mem {l : List ByteArray} {i : Nat} (h : i < l.length) : strAt l i ∈ l := by
  unfold strAt; rw [List.getD_eq_getElem?_getD, List.getElem?_eq_getElem h]; exact List.getElem_mem h
theorem l05Loop_ev (l : List ByteArray) (hs : ∀ s ∈ l, s.size ≤ 140737488351232) (d : Nat) : ∀ i : Nat, i + d = l.length →
    ∃ b, Ev (fun k => l05Loop k l i d) b ∧ (b = true ↔ ∀ j, i ≤ j → j < l.length → longB (strAt l j) = true ∧ (j = 0 ∨ lessA l j = true)) := by
  induction d with
  | zero => intro i hi; exact ⟨true, evNow rfl, fun _ j h1 h2 => by omega, fun _ => rfl⟩
  | succ d ih =>
    intro i hi
    obtain ⟨b, hb, hb2⟩ := ih (i + 1) (by omega)
    have e := l05Long_ev (strAt l i) (hs _ (strAt_mem (by omega)))
    by_cases hc : longB (strAt l i) = true ∧ (i = 0 ∨ lessA l i = true)
    · refine ⟨b, ?_, ?_⟩
      · show Ev (fun k => (spec_l05Long.f k (strAt l i)).bind _) b
        refine evBind e ?_
        exact evPos hc hb
      · rw [hb2]
        constructor
        · intro h j h1 h2
          by_cases hj : j = i
          · subst hj; exact hc
          · exact h j (by omega) h2
        · intro h j h1 h2; exact h j (by omega) h2
    · refine ⟨false, ?_, ?_⟩
      · show Ev (fun k => (spec_l05Long.f k (strAt l i)).bind _) false
        refine evBind e ?_
        exact evNeg hc (evNow rfl)
      · constructor
        · intro h; cases h
        · intro h; exact absurd (h i (Nat.le_refl _) (by omega)) hc
theorem evMap {α β : Type} {g : Nat → Option α} {a : α} {f : α → β} (h : Ev g a) : Ev (fun k => (g k).map f) (f a) := by
  have e : (fun k => (g k).map f) = fun k => (g k).bind fun x => some (f x) := by
    funext k; cases g k <;> rfl
  rw [e]; exact evBind h (evNow rfl)
theorem l05Ok_ev (l : List ByteArray) (hs : ∀ s ∈ l, s.size ≤ 140737488351232) : ∃ b, Ev (fun k => spec_l05Ok.f k l) b ∧ (b = true ↔ lexP l) := by
  obtain ⟨b, hb, hb2⟩ := l05Loop_ev l hs l.length 0 (by omega)
  refine ⟨_, evMap hb, ?_⟩
  rw [Bool.and_eq_true, hb2, decide_eq_true_eq]
  unfold lexP
  constructor
  · rintro ⟨h1, h2⟩; exact ⟨by omega, fun i hi => h1 i (Nat.zero_le _) hi⟩
  · rintro ⟨h1, h2⟩; exact ⟨fun i _ hi => h2 i hi, by omega⟩
theorem increasing_from (l : List ByteArray) (hl : l.length ≤ 140737488351232) (d : Nat) : ∀ i : Nat, 1 ≤ i → l.length - i = d →
    ∃ b, Ev (fun k => impl_increasing.l0 k l (i : Int)) b ∧ (b = true ↔ ∀ j, i ≤ j → j < l.length → lessA l j = true) := by
  induction d with
  | zero =>
    intro i h1 hi
    exact ⟨true, evStep (evNeg (by omega) (evNow rfl)), fun _ j h1 h2 => by omega, fun _ => rfl⟩
  | succ d ih =>
    intro i h1 hi
    obtain ⟨b, hb, hb2⟩ := ih (i + 1) (by omega) (by omega)
    have ew : wrap64 ((i : Int) - 1) = ((i - 1 : Nat) : Int) := by unfold wrap64; omega
    have ew2 : wrap64 ((i : Int) + 1) = ((i + 1 : Nat) : Int) := by unfold wrap64; omega
    by_cases hc : lessA l i = true
    · refine ⟨b, evStep (evPos (by omega) ?_), ?_⟩
      · rw [ew, ew2]
        refine evPos (by omega) (evPos (by omega) (evPos (by omega) ?_))
        rw [rdOf_strAt, rdOf_strAt]
        exact evPos hc hb
      · rw [hb2]
        constructor
        · intro h j h1 h2
          by_cases hj : j = i
          · subst hj; exact hc
          · exact h j (by omega) h2
        · intro h j h1 h2; exact h j (by omega) h2
    · refine ⟨false, evStep (evPos (by omega) ?_), ?_⟩
      · rw [ew]
        refine evPos (by omega) (evPos (by omega) (evPos (by omega) ?_))
        rw [rdOf_strAt, rdOf_strAt]
        exact evNeg hc (evNow rfl)
      · constructor
        · intro h; cases h
        · intro h; exact absurd (h i (Nat.le_refl _) (by omega)) hc
theorem valid_eq (m : Nat) (l : List ByteArray) (x n i : Int) : impl_ValidLexicon.l0 (m + 1) l n i = if i < n then (if 0 ≤ i then (if i < (l.length : Int) then ((impl_isLong.f (rdOf ByteArray.empty l i)).bind fun t142 => (if t142 = true then (impl_ValidLexicon.l0 m l n (wrap64 (i + 1))) else (some false))) else (none)) else (none)) else (some true) := by rw [impl_ValidLexicon.l0]
theorem valid_from (l : List ByteArray) (hl : l.length ≤ 140737488351232) (hs : ∀ s ∈ l, s.size ≤ 1000000000000) (d : Nat) : ∀ i : Nat, i + d = l.length →
    ∃ b, Ev (fun k => impl_ValidLexicon.l0 k l (l.length : Int) (i : Int)) b ∧ (b = true ↔ ∀ j, i ≤ j → j < l.length → longB (strAt l j) = true) := by
  induction d with
  | zero =>
    intro i hi
    exact ⟨true, Ev.step (fun m => valid_eq m l 0 _ _) (evNeg (by omega) (evNow rfl)), fun _ j h1 h2 => by omega, fun _ => rfl⟩
  | succ d ih =>
    intro i hi
    obtain ⟨b, hb, hb2⟩ := ih (i + 1) (by omega)
    have ew2 : wrap64 ((i : Int) + 1) = ((i + 1 : Nat) : Int) := by unfold wrap64; omega
    have e := isLong_eq (strAt l i) (hs _ (strAt_mem (by omega)))
    by_cases hc : longB (strAt l i) = true
    · refine ⟨b, Ev.step (fun m => valid_eq m l 0 _ _) (evPos (by omega) (evPos (by omega) (evPos (by omega) ?_))), ?_⟩
      · rw [rdOf_strAt, ew2]
        refine evBindC e (evPos hc hb)
      · rw [hb2]
        constructor
        · intro h j h1 h2
          by_cases hj : j = i
          · subst hj; exact hc
          · exact h j (by omega) h2
        · intro h j h1 h2; exact h j (by omega) h2
    · refine ⟨false, Ev.step (fun m => valid_eq m l 0 _ _) (evPos (by omega) (evPos (by omega) (evPos (by omega) ?_))), ?_⟩
      · rw [rdOf_strAt]
        exact evBindC e (evNeg hc (evNow rfl))
      · constructor
        · intro h; cases h
        · intro h; exact absurd (h i (Nat.le_refl _) (by omega)) hc
theorem validLexicon_ev (l : List ByteArray) (hl : l.length ≤ 140737488351232) (hs : ∀ s ∈ l, s.size ≤ 1000000000000) : ∃ b, Ev (fun k => impl_ValidLexicon.f k l) b ∧ (b = true ↔ lexP l) := by
  have yes : Ev (fun k => impl_ValidLexicon.j0 k true l) false := Ev.step (fun m => by rw [impl_ValidLexicon.j0, if_pos rfl]) (evNow rfl)
  unfold impl_ValidLexicon.f
  by_cases h : (l.length : Int) > 200
  · exact ⟨false, evPos h yes, (fun h => by cases h), (fun h => by have := h.1; omega)⟩
  · obtain ⟨b, hb, hb2⟩ := increasing_from l hl (l.length - 1) 1 (Nat.le_refl _) rfl
    obtain ⟨c, hc, hc2⟩ := valid_from l hl hs l.length 0 (by omega)
    have hb' : Ev (fun k => impl_increasing.f k l) b := hb
    cases b with
    | false =>
      refine ⟨false, evNeg h (evBind hb' yes), (fun h => by cases h), (fun h => ?_)⟩
      exact absurd (hb2.2 fun j h1 h2 => (h.2 j h2).2.resolve_left (by omega)) (by simp)
    | true =>
      refine ⟨c, evNeg h (evBind hb' (Ev.step (fun m => by rw [Bool.not_true, impl_ValidLexicon.j0, if_neg (by simp)]; rfl) hc)), ?_⟩
      rw [hc2]
      constructor
      · intro hh
        refine ⟨by omega, fun i hi => ⟨hh i (Nat.zero_le _) hi, ?_⟩⟩
        by_cases h0 : i = 0
        · exact .inl h0
        · exact .inr (hb2.1 rfl i (by omega) hi)
      · intro hh j _ hj; exact (hh.2 j hj).1
theorem lex_less {l : List ByteArray} (h : lexP l) : ∀ d i, i + d < l.length → 0 < d → Op.bytesLess (strAt l i).toList (strAt l (i + d)).toList = true
  | 0, _, _, h0 => by omega
  | 1, i, hi, _ => by
    have := ((h.2 (i + 1) hi).2.resolve_left (by omega))
    unfold lessA at this
    rwa [show i + 1 - 1 = i by omega] at this
  | d + 2, i, hi, _ => by
    have h1 := lex_less h (d + 1) i (by omega) (by omega)
    have h2 := lex_less h 1 (i + (d + 1)) (by omega) (by omega)
    exact less_trans _ _ _ h1 h2
/-- How many words of a valid lexicon are less than a string. -/
structure Cut (l : List ByteArray) (s : ByteArray) (p : Nat) : Prop where
  le : p ≤ l.length
  less : ∀ i, i < p → Op.bytesLess (strAt l i).toList s.toList = true
  not : ∀ i, p ≤ i → i < l.length → Op.bytesLess (strAt l i).toList s.toList = false
theorem Cut.unique {l : List ByteArray} {s : ByteArray} {p q : Nat} (a : Cut l s p) (b : Cut l s q) : p = q := by
  rcases Nat.lt_trichotomy p q with h | h | h
  · have h1 := b.less p h
    have h2 := a.not p (Nat.le_refl _) (by have := b.le; omega)
    rw [h1] at h2; cases h2
  · exact h
  · have h1 := a.less q h
    have h2 := b.not q (Nat.le_refl _) (by have := a.le; omega)
    rw [h1] at h2; cases h2
theorem not_less_up {l : List ByteArray} (h : lexP l) {s : ByteArray} {i j : Nat} (hi : Op.bytesLess (strAt l i).toList s.toList = false) (hij : i ≤ j) (hj : j < l.length) : Op.bytesLess (strAt l j).toList s.toList = false := by
  by_cases he : i = j
  · subst he; exact hi
  · have := lex_less h (j - i) i (by omega) (by omega)
    rw [show i + (j - i) = j by omega] at this
    cases hb : Op.bytesLess (strAt l j).toList s.toList with
    | false => rfl
    | true => rw [less_trans _ _ _ this hb] at hi; cases hi
theorem less_down {l : List ByteArray} (h : lexP l) {s : ByteArray} {i j : Nat} (hj : Op.bytesLess (strAt l j).toList s.toList = true) (hij : i ≤ j) (hjl : j < l.length) : Op.bytesLess (strAt l i).toList s.toList = true := by
  cases hb : Op.bytesLess (strAt l i).toList s.toList with
  | true => rfl
  | false => rw [not_less_up h hb hij hjl] at hj; cases hj
theorem first_from {l : List ByteArray} (h : lexP l) (s : ByteArray) (d : Nat) : ∀ i : Nat, i + d = l.length → (∀ j, j < i → Op.bytesLess (strAt l j).toList s.toList = true) →
    ∃ p : Nat, Ev (fun k => spec_l05First.l0 k l s (i : Int)) (p : Int) ∧ Cut l s p := by
  have hl := h.1
  induction d with
  | zero =>
    intro i hi hj
    exact ⟨i, evStep (evNeg (by omega) (evNow rfl)), ⟨by omega, hj, fun j h1 h2 => by omega⟩⟩
  | succ d ih =>
    intro i hi hj
    cases hb : Op.bytesLess (strAt l i).toList s.toList with
    | true =>
      obtain ⟨p, e, c⟩ := ih (i + 1) (by omega) fun j hji => if hlt : j < i then hj j hlt else by
        have : j = i := by omega
        subst this; exact hb
      refine ⟨p, evStep (evPos (by omega) (evPos (by omega) ?_)), c⟩
      rw [rdOf_strAt, show wrap64 ((i : Int) + 1) = ((i + 1 : Nat) : Int) by unfold wrap64; omega]
      exact evPos hb e
    | false =>
      refine ⟨i, evStep (evPos (by omega) (evPos (by omega) ?_)), ⟨by omega, hj, fun j h1 h2 => not_less_up h hb h1 h2⟩⟩
      rw [rdOf_strAt]
      exact evNeg (by rw [hb]; simp) (evNow rfl)
/-- Has a lexicon a word? -/
def hasB (l : List ByteArray) (s : ByteArray) (p : Nat) : Bool := decide (p < l.length) && ((strAt l p).toList == s.toList)
theorem l05Has_ev {l : List ByteArray} (h : lexP l) (s : ByteArray) : ∃ p, Cut l s p ∧ Ev (fun k => spec_l05Has.f k l s) (hasB l s p) := by
  obtain ⟨p, e, c⟩ := first_from h s l.length 0 (by omega) fun j hj => absurd hj (Nat.not_lt_zero j)
  refine ⟨p, c, ?_⟩
  unfold spec_l05Has.f hasB
  refine evBind (show Ev (fun k => spec_l05First.f k l s) (p : Int) from e) ?_
  by_cases hp : p < l.length
  · refine evPos (by omega) (evPos (by omega) (evNow ?_))
    rw [rdOf_strAt, decide_eq_true hp, Bool.true_and]
  · refine evNeg (by omega) (evNow ?_)
    rw [decide_eq_false hp, Bool.false_and]
theorem nan_eq (s : ByteArray) : cmp_isNaN_string.f s = some false := by unfold cmp_isNaN_string.f; simp
theorem nan2_eq (s : ByteArray) : slices_isNaN_string.f s = some false := by unfold slices_isNaN_string.f; simp
theorem cless_eq (a b : ByteArray) : cmp_Less_string.f a b = some (Op.bytesLess a.toList b.toList) := by
  unfold cmp_Less_string.f; rw [nan_eq, Option.bind_some, if_neg (by simp)]
theorem half_eq {i j : Nat} (h : i < j) (hj : j ≤ 1000) : wrap64 ((IntKind.u64.wrap (wrap64 ((i : Int) + (j : Int)))) / 2) = (((i + j) / 2 : Nat) : Int) := by
  have e1 : wrap64 ((i : Int) + (j : Int)) = ((i + j : Nat) : Int) := by unfold wrap64; omega
  rw [e1, IntKind.wrap_u64]
  unfold wrap64; omega
theorem bin_from {l : List ByteArray} (h : lexP l) (s : ByteArray) (d : Nat) : ∀ i j : Nat, j - i ≤ d → i ≤ j → j ≤ l.length → (∀ q, q < i → Op.bytesLess (strAt l q).toList s.toList = true) → (∀ q, j ≤ q → q < l.length → Op.bytesLess (strAt l q).toList s.toList = false) →
    ∃ p : Nat, Cut l s p ∧ Ev (fun k => slices_BinarySearch_string_string.l0 k l s (l.length : Int) (i : Int) (j : Int)) ((p : Int), hasB l s p) := by
  have hl := h.1
  have last : ∀ i : Nat, i ≤ l.length → (∀ q, q < i → Op.bytesLess (strAt l q).toList s.toList = true) → (∀ q, i ≤ q → q < l.length → Op.bytesLess (strAt l q).toList s.toList = false) →
      ∃ p : Nat, Cut l s p ∧ Ev (fun k => slices_BinarySearch_string_string.l0 k l s (l.length : Int) (i : Int) (i : Int)) ((p : Int), hasB l s p) := by
    intro i hi h1 h2
    refine ⟨i, ⟨hi, h1, h2⟩, evStep (evNeg (by omega) ?_)⟩
    unfold hasB
    by_cases hp : i < l.length
    · refine evPos (by omega) (evPos (by omega) (evPos (by omega) ?_))
      rw [rdOf_strAt, decide_eq_true hp, Bool.true_and]
      by_cases he : (strAt l i).toList = s.toList
      · exact evPos he (evNow (by rw [beq_iff_eq.2 he]))
      · refine evNeg he ?_
        rw [nan2_eq]
        exact evBindC rfl (evNeg (by simp) (evNow (by rw [beq_eq_false_iff_ne.2 he])))
    · exact evNeg (by omega) (evNow (by rw [decide_eq_false hp, Bool.false_and]))
  induction d with
  | zero =>
    intro i j hd hij hj h1 h2
    have : i = j := by omega
    subst this
    exact last i hj h1 h2
  | succ d ih =>
    intro i j hd hij hj h1 h2
    by_cases hlt : i < j
    · have hm1 : i ≤ (i + j) / 2 := by omega
      have hm2 : (i + j) / 2 < j := by omega
      have eh := half_eq hlt (by omega)
      generalize (i + j) / 2 = m at hm1 hm2 eh
      cases hb : Op.bytesLess (strAt l m).toList s.toList with
      | true =>
        obtain ⟨p, c, e⟩ := ih (m + 1) j (by omega) (by omega) hj (fun q hq => less_down h hb (by omega) (by omega)) h2
        refine ⟨p, c, evStep (evPos (by omega) ?_)⟩
        rw [eh]
        refine evPos (by omega) (evPos (by omega) ?_)
        rw [rdOf_strAt]
        refine evBindC (cless_eq _ _) (evPos hb ?_)
        rw [show wrap64 ((m : Int) + 1) = ((m + 1 : Nat) : Int) by unfold wrap64; omega]
        exact e
      | false =>
        obtain ⟨p, c, e⟩ := ih i m (by omega) (by omega) (by omega) h1 (fun q hq hql => not_less_up h hb hq hql)
        refine ⟨p, c, evStep (evPos (by omega) ?_)⟩
        rw [eh]
        refine evPos (by omega) (evPos (by omega) ?_)
        rw [rdOf_strAt]
        exact evBindC (cless_eq _ _) (evNeg (by rw [hb]; simp) e)
    · have : i = j := by omega
      subst this
      exact last i hj h1 h2
theorem has_ev {l : List ByteArray} (h : lexP l) (s : ByteArray) : ∃ p, Cut l s p ∧ Ev (fun k => impl_Lexicon_has.f k l s) (hasB l s p) := by
  obtain ⟨p, c, e⟩ := bin_from h s l.length 0 l.length (by omega) (by omega) (Nat.le_refl _) (fun q hq => absurd hq (Nat.not_lt_zero q)) (fun q h1 h2 => by omega)
  refine ⟨p, c, ?_⟩
  unfold impl_Lexicon_has.f
  exact evBind (show Ev (fun k => slices_BinarySearch_string_string.f k l s) ((p : Int), hasB l s p) from e) (evNow rfl)
/-- The two tests answer the same. -/
theorem has_both {l : List ByteArray} (h : lexP l) (s : ByteArray) : ∃ b, Ev (fun k => spec_l05Has.f k l s) b ∧ Ev (fun k => impl_Lexicon_has.f k l s) b := by
  obtain ⟨p, c, e⟩ := l05Has_ev h s
  obtain ⟨q, c', e'⟩ := has_ev h s
  rw [c.unique c'] at e
  exact ⟨_, e, e'⟩
theorem byte_of (x : Int) : 0 ≤ wrap64 (Go.bits .and .u64 (IntKind.u64.wrap x / 1099511627776) 255) ∧ wrap64 (Go.bits .and .u64 (IntKind.u64.wrap x / 1099511627776) 255) ≤ 255 := by
  have hw : 0 ≤ IntKind.u64.wrap x ∧ IntKind.u64.wrap x < 18446744073709551616 := by rw [IntKind.wrap_u64]; omega
  have h := bits_mask .u64 64 (by decide) (fun n h0 h1 => by rw [IntKind.wrap_u64]; omega) 8 (by decide) (IntKind.u64.wrap x / 1099511627776) (by omega) (by omega)
  have e : (2 : Int) ^ 8 - 1 = 255 := by decide
  rw [e] at h
  rw [h]
  unfold wrap64; omega
/-- A source of draws: a byte is drawn, the place moves on by one. -/
theorem next_ok (l : List Int) (hl : l.length ≤ 4096) (hb : ∀ x ∈ l, 0 ≤ x ∧ x ≤ 255) (p s : Int) (h0 : 0 ≤ p) (h1 : p ≤ 1000000000000) :
    ∃ v q, spec_l00Src_next.f l p s = some (v, p + 1, q) ∧ 0 ≤ v ∧ v ≤ 255 := by
  have ew : wrap64 (p + 1) = p + 1 := by unfold wrap64; omega
  unfold spec_l00Src_next.f
  rw [ew]
  by_cases h : p < (l.length : Int)
  · obtain ⟨n, rfl⟩ := Int.eq_ofNat_of_zero_le h0
    have hn : n < l.length := by omega
    have er : rd l (n : Int) = l[n] := by unfold rd; simp [List.getD, hn]
    have hr := hb _ (List.getElem_mem hn)
    rw [if_pos h, if_pos h0]
    split
    · exact ⟨_, _, rfl, by rw [er]; unfold wrap64; omega, by rw [er]; unfold wrap64; omega⟩
    · exact ⟨_, _, rfl, (byte_of _).1, (byte_of _).2⟩
  · rw [if_neg h]
    split
    · exact ⟨_, _, rfl, by omega, by omega⟩
    · exact ⟨_, _, rfl, (byte_of _).1, (byte_of _).2⟩
/-- A number below a bound is picked. -/
theorem pick_ok (l : List Int) (hl : l.length ≤ 4096) (hb : ∀ x ∈ l, 0 ≤ x ∧ x ≤ 255) (p s a : Int) (h0 : 0 ≤ p) (h1 : p ≤ 999999999000) :
    ∃ v q t, spec_l00Src_pick.f l p s a = some (v, q, t) ∧ 0 ≤ v ∧ (1 ≤ a → v < a) ∧ p ≤ q ∧ q ≤ p + 2 := by
  unfold spec_l00Src_pick.f
  by_cases ha : a ≤ 1
  · rw [if_pos ha]; exact ⟨0, p, s, rfl, by omega, by omega, by omega, by omega⟩
  · rw [if_neg ha]
    obtain ⟨v, q, e, hv0, hv1⟩ := next_ok l hl hb p s h0 (by omega)
    rw [e, Option.bind_some]
    have hz : ¬ a = 0 := by omega
    by_cases h2 : a > 200
    · obtain ⟨v2, q2, e2, hu0, hu1⟩ := next_ok l hl hb (p + 1) q (by omega) (by omega)
      rw [if_pos h2, e2, Option.bind_some, if_neg hz]
      have ew : wrap64 (wrap64 (v * 256) + v2) = v * 256 + v2 := by unfold wrap64; omega
      refine ⟨_, p + 1 + 1, _, rfl, ?_, ?_, by omega, by omega⟩
      · show 0 ≤ Int.tmod (wrap64 (wrap64 (v * 256) + v2)) a
        rw [ew]; exact Int.tmod_nonneg _ (by omega)
      · intro _
        show Int.tmod (wrap64 (wrap64 (v * 256) + v2)) a < a
        exact Int.tmod_lt_of_pos _ (by omega)
    · rw [if_neg h2, if_neg hz]
      refine ⟨_, p + 1, _, rfl, Int.tmod_nonneg _ hv0, fun _ => Int.tmod_lt_of_pos _ (by omega), by omega, by omega⟩
/-- One of some texts is picked. -/
theorem text_ok (l : List Int) (hl : l.length ≤ 4096) (hb : ∀ x ∈ l, 0 ≤ x ∧ x ≤ 255) (p s : Int) (ts : List ByteArray) (h0 : 0 ≤ p) (h1 : p ≤ 999999999000) (ht : 1 ≤ ts.length) :
    ∃ v q t, spec_l00Src_text.f l p s ts = some (v, q, t) ∧ v ∈ ts ∧ p ≤ q ∧ q ≤ p + 2 := by
  unfold spec_l00Src_text.f
  obtain ⟨v, q, t, e, hv0, hv1, hq0, hq1⟩ := pick_ok l hl hb p s (ts.length : Int) h0 h1
  have hv := hv1 (by omega)
  obtain ⟨n, rfl⟩ := Int.eq_ofNat_of_zero_le hv0
  have hn : n < ts.length := by omega
  rw [e, Option.bind_some, if_pos hv0, if_pos hv]
  refine ⟨_, q, t, rfl, ?_, hq0, hq1⟩
  have er : rdOf ByteArray.empty ts (n : Int) = ts[n] := by unfold rdOf; simp [List.getD, hn]
  rw [er]; exact List.getElem_mem hn
theorem w64a (i n : Nat) (h : i + n ≤ 1000000000000) : wrap64 ((i : Int) + n) = (i : Int) + n := by unfold wrap64; omega
theorem w64s (i : Nat) (h : i ≤ 1000000000000) : wrap64 ((i : Int) + 1) = ((i + 1 : Nat) : Int) := by unfold wrap64; omega
theorem w64p (i : Nat) (h : 1 ≤ i) (h' : i ≤ 1000000000000) : wrap64 ((i : Int) - 1) = ((i - 1 : Nat) : Int) := by unfold wrap64; omega
theorem insert_from (xs : List ByteArray) (x : ByteArray) (hx : xs.length ≤ 10000000000) (i : Nat) : i ≤ xs.length →
    ∃ ys, Ev (fun k => spec_l03Insert.l0 k xs x (i : Int)) ys ∧ ys.length ≤ xs.length + 1 ∧ 1 ≤ ys.length ∧ (∀ y ∈ ys, y = x ∨ y ∈ xs) := by
  induction i with
  | zero =>
    intro _
    refine ⟨(([] ++ xs.take ((0 : Nat) : Int).toNat) ++ [x]) ++ xs.drop ((0 : Nat) : Int).toNat, ?_, ?_, ?_, ?_⟩
    · refine evStep ?_
      refine evNeg (by omega) ?_
      refine evBindC rfl ?_
      refine evPos (by omega) ?_
      refine evPos (by omega) ?_
      refine evBindC rfl ?_
      refine evPos (by simp) ?_
      refine evBindC rfl ?_
      refine evPos (by simp) ?_
      refine evBindC rfl ?_
      refine evBindC rfl ?_
      refine evPos (by simp; omega) ?_
      exact evNow rfl
    · simp
    · simp
    · intro y hy
      simp at hy
      exact hy
  | succ i ih =>
    intro hi
    have ew : wrap64 (((i + 1 : Nat) : Int) - 1) = (i : Int) := by unfold wrap64; omega
    by_cases h1 : (Op.bytesLess x.toList ((rdOf ByteArray.empty xs (i : Int)).toList)) = true
    · obtain ⟨ys, e, r⟩ := ih (by omega)
      refine ⟨ys, ?_, r⟩
      refine evStep ?_
      refine evPos (by omega) ?_
      rw [ew]
      refine evPos (by omega) ?_
      refine evPos (by omega) ?_
      refine evPos h1 ?_
      exact e
    · by_cases h2 : (rdOf ByteArray.empty xs (i : Int)).toList = x.toList
      · refine ⟨xs, ?_, by omega, by omega, fun y hy => .inr hy⟩
        refine evStep ?_
        refine evPos (by omega) ?_
        rw [ew]
        refine evPos (by omega) ?_
        refine evPos (by omega) ?_
        refine evNeg h1 ?_
        exact evPos h2 (evNow rfl)
      · refine ⟨(([] ++ xs.take ((i + 1 : Nat) : Int).toNat) ++ [x]) ++ xs.drop ((i + 1 : Nat) : Int).toNat, ?_, ?_, ?_, ?_⟩
        · refine evStep ?_
          refine evPos (by omega) ?_
          rw [ew]
          refine evPos (by omega) ?_
          refine evPos (by omega) ?_
          refine evNeg h1 ?_
          refine evNeg h2 ?_
          refine evBindC rfl ?_
          refine evPos (by omega) ?_
          refine evPos (by omega) ?_
          refine evBindC rfl ?_
          refine evPos (by simp only [List.length_nil, List.length_take]; omega) ?_
          refine evBindC rfl ?_
          refine evPos (by simp only [List.length_append, List.length_nil, List.length_take]; omega) ?_
          refine evBindC rfl ?_
          refine evBindC rfl ?_
          refine evPos (by simp only [List.length_append, List.length_nil, List.length_take, List.length_drop, List.length_singleton]; omega) ?_
          exact evNow rfl
        · simp only [List.length_append, List.length_nil, List.length_take, List.length_drop, List.length_singleton]; omega
        · simp only [List.length_append, List.length_nil, List.length_take, List.length_drop, List.length_singleton]; omega
        · intro y hy
          rw [List.nil_append, List.mem_append, List.mem_append, List.mem_singleton] at hy
          rcases hy with (hy | rfl) | hy
          · exact .inr (List.mem_of_mem_take hy)
          · exact .inl rfl
          · exact .inr (List.mem_of_mem_drop hy)
theorem insert_ok (xs : List ByteArray) (x : ByteArray) (hx : xs.length ≤ 10000000000) :
    ∃ ys, Ev (fun k => spec_l03Insert.f k xs x) ys ∧ ys.length ≤ xs.length + 1 ∧ 1 ≤ ys.length ∧ (∀ y ∈ ys, y = x ∨ y ∈ xs) :=
  insert_from xs x hx xs.length (Nat.le_refl _)
theorem one_ok (l : List Int) (hl : l.length ≤ 4096) (hb : ∀ x ∈ l, 0 ≤ x ∧ x ≤ 255) (p s a : Int) (h0 : 0 ≤ p) (h1 : p ≤ 999999999000) :
    ∃ b q t, spec_l00Src_one.f l p s a = some (b, q, t) ∧ p ≤ q ∧ q ≤ p + 2 := by
  obtain ⟨v, q, t, e, _, _, hq0, hq1⟩ := pick_ok l hl hb p s a h0 h1
  exact ⟨_, q, t, by unfold spec_l00Src_one.f; rw [e, Option.bind_some], hq0, hq1⟩
/-- A text is bent: whatever comes, it comes. -/
theorem spoil_ok (l : List Int) (hl : l.length ≤ 4096) (hb : ∀ x ∈ l, 0 ≤ x ∧ x ≤ 255) (p s : Int) (a : ByteArray) (h0 : 0 ≤ p) (h1 : p ≤ 1000000) (ha : a.size ≤ 1000) :
    ∃ r q t, spec_l01Spoil.f l p s a = some (r, q, t) := by
  unfold spec_l01Spoil.f
  obtain ⟨v, q, t, e, hv0, hv1, hq0, hq1⟩ := pick_ok l hl hb p s 5 h0 (by omega)
  rw [e, Option.bind_some]
  by_cases c0 : v = 0
  · rw [if_pos c0]
    have ew : wrap64 ((a.size : Int) + 1) = (a.size : Int) + 1 := by unfold wrap64; omega
    obtain ⟨u, q2, t2, e2, hu0, hu1, hq2, hq3⟩ := pick_ok l hl hb q t ((a.size : Int) + 1) (by omega) (by omega)
    have hu := hu1 (by omega)
    obtain ⟨m, q4, t4, e4, hm, hq4, hq5⟩ := text_ok l hl hb q2 t2 ([(⟨#[32]⟩ : ByteArray), (⟨#[48]⟩ : ByteArray), (⟨#[45]⟩ : ByteArray), (⟨#[120]⟩ : ByteArray), (⟨#[49]⟩ : ByteArray), (⟨#[57]⟩ : ByteArray), (⟨#[46]⟩ : ByteArray)] : List ByteArray) (by omega) (by omega) (by decide)
    have hm1 : m.size = 1 := by
      simp only [List.mem_cons, List.not_mem_nil, or_false] at hm
      rcases hm with rfl | rfl | rfl | rfl | rfl | rfl | rfl <;> rfl
    rw [ew, e2, Option.bind_some, if_pos hu0, if_pos (show u ≤ (a.size : Int) by omega), e4, Option.bind_some]
    rw [if_pos (by rw [ByteArray.size_extract, hm1]; omega), if_pos (by rw [ByteArray.size_append, ByteArray.size_extract, ByteArray.size_extract, hm1]; omega)]
    exact ⟨_, _, _, rfl⟩
  · rw [if_neg c0]
    by_cases c1 : v = 1
    · rw [if_pos c1]
      by_cases c2 : a.toList = ([] : List UInt8)
      · rw [if_pos c2]; exact ⟨_, _, _, rfl⟩
      · rw [if_neg c2]
        have hpos : 1 ≤ a.size := by
          rcases Nat.lt_or_ge a.size 1 with h | h
          · exfalso; apply c2
            rw [ByteArray.toList_eq]
            apply List.eq_nil_of_length_eq_zero
            show a.data.size = 0
            have : a.data.size = a.size := rfl
            omega
          · exact h
        obtain ⟨u, q2, t2, e2, hu0, hu1, hq2, hq3⟩ := pick_ok l hl hb q t (a.size : Int) (by omega) (by omega)
        have hu := hu1 (by omega)
        have ew : wrap64 (u + 1) = u + 1 := by unfold wrap64; omega
        rw [e2, Option.bind_some, if_pos hu0, if_pos (show u ≤ (a.size : Int) by omega), ew, if_pos (show 0 ≤ u + 1 by omega), if_pos (show u + 1 ≤ (a.size : Int) by omega), if_pos (by rw [ByteArray.size_extract, ByteArray.size_extract]; omega)]
        exact ⟨_, _, _, rfl⟩
    · rw [if_neg c1]; exact ⟨_, _, _, rfl⟩
theorem some_sizes : ∃ ws, spec_l05Some.f = some ws ∧ 1 ≤ ws.length ∧ ws.length ≤ 1000 ∧ ∀ y ∈ ws, y.size ≤ 20 := by
  refine ⟨_, rfl, by decide, by decide, ?_⟩
  intro y hy
  have h : ∀ (xs : List ByteArray), xs.all (fun y => decide (y.size ≤ 20)) = true → ∀ y ∈ xs, y.size ≤ 20 := fun xs h y hy => of_decide_eq_true (List.all_eq_true.1 h y hy)
  exact h _ (by decide) y hy
theorem draw5_from (l : List Int) (hl : l.length ≤ 4096) (hb : ∀ x ∈ l, 0 ≤ x ∧ x ≤ 255) (ws : List ByteArray) (hw1 : 1 ≤ ws.length) (hw2 : ws.length ≤ 1000) (hw : ∀ y ∈ ws, y.size ≤ 20) (n : Nat) :
    ∀ (xs : List ByteArray) (p s : Int), 0 ≤ p → p + 2 * n ≤ 999999990000 → xs.length + n ≤ 1000000 → (∀ y ∈ xs, y.size ≤ 20) →
    ∃ ys q t, Ev (fun k => spec_l05Draw.l0 k ws xs (n : Int) l p s) (ys, q, t) ∧ p ≤ q ∧ q ≤ p + 2 * n ∧ ys.length ≤ xs.length + n ∧ (∀ y ∈ ys, y.size ≤ 20) := by
  induction n with
  | zero => intro xs p s h0 h1 h2 h3; exact ⟨xs, p, s, evStep (evNeg (by omega) (evNow rfl)), by omega, by omega, by omega, h3⟩
  | succ n ih =>
    intro xs p s h0 h1 h2 h3
    have ew : wrap64 (((n + 1 : Nat) : Int) - 1) = (n : Int) := by unfold wrap64; omega
    obtain ⟨v, q, t, e, hv0, hv1, hq0, hq1⟩ := pick_ok l hl hb p s (ws.length : Int) h0 (by omega)
    have hv := hv1 (by omega)
    obtain ⟨m, rfl⟩ := Int.eq_ofNat_of_zero_le hv0
    have hm : m < ws.length := by omega
    obtain ⟨ys, ei, i1, i2, i3⟩ := insert_ok xs (rdOf ByteArray.empty ws (m : Int)) (by omega)
    have hsz : (rdOf ByteArray.empty ws (m : Int)).size ≤ 20 := by
      have : rdOf ByteArray.empty ws (m : Int) = ws[m] := by unfold rdOf; simp [List.getD, hm]
      rw [this]; exact hw _ (List.getElem_mem hm)
    obtain ⟨zs, q2, t2, e2, r0, r1, r2, r3⟩ := ih ys q t (by omega) (by omega) (by omega) (fun y hy => by rcases i3 y hy with rfl | h; exact hsz; exact h3 y h)
    refine ⟨zs, q2, t2, evStep (evPos (by omega) (evBindC e (evPos hv0 (evPos hv (evBind ei ?_))))), by omega, by omega, by omega, r3⟩
    rw [ew]; exact e2
theorem full5_from (n : Nat) (hn : n ≤ 100000) (d : Nat) : ∀ (xs : List ByteArray) (i : Nat), i + d = n → xs.length + d ≤ 1000000 → (∀ y ∈ xs, y.size ≤ 20) →
    ∃ ys, Ev (fun k => spec_l05Full.l0 k (n : Int) xs (i : Int)) ys ∧ ys.length ≤ xs.length + d ∧ (∀ y ∈ ys, y.size ≤ 20) := by
  induction d with
  | zero => intro xs i hi h1 h2; exact ⟨xs, evStep (evNeg (by omega) (evNow rfl)), by omega, h2⟩
  | succ d ih =>
    intro xs i hi h1 h2
    have ew : wrap64 ((i : Int) + 1) = ((i + 1 : Nat) : Int) := by unfold wrap64; omega
    obtain ⟨ys, e, r1, r2⟩ := ih (xs ++ [strOfNums (([(wrap64 (97 + (wrap64 (Int.tdiv (i : Int) 26)))) % 256, (wrap64 (97 + (Int.tmod (i : Int) 26))) % 256] : List Int))]) (i + 1) (by omega) (by rw [List.length_append, List.length_singleton]; omega)
      (fun y hy => by
        rw [List.mem_append, List.mem_singleton] at hy
        rcases hy with hy | rfl
        · exact h2 y hy
        · rw [strOfNums_size]; exact (by decide : (2 : Nat) ≤ 20))
    rw [List.length_append, List.length_singleton] at r1
    refine ⟨ys, evStep (evPos (by omega) (evPos (by omega) ?_)), by omega, r2⟩
    rw [ew]; exact e
/-- A lexicon is drawn, right or bent: short, of short words. -/
theorem bent5_ok (l : List Int) (hl : l.length ≤ 4096) (hb : ∀ x ∈ l, 0 ≤ x ∧ x ≤ 255) (p s : Int) (h0 : 0 ≤ p) (h1 : p ≤ 1000000) :
    ∃ r q t, Ev (fun k => spec_l05Bent.f k l p s) (r, q, t) ∧ p ≤ q ∧ q ≤ p + 100 ∧ r.length ≤ 300 ∧ (∀ y ∈ r, y.size ≤ 20) := by
  obtain ⟨ws, es, w1, w2, w3⟩ := some_sizes
  have ew : wrap64 (20 + 1) = 21 := by unfold wrap64; omega
  obtain ⟨v, q, t, e, hv0, hv1, hq0, hq1⟩ := pick_ok l hl hb p s 21 h0 (by omega)
  have hv := hv1 (by omega)
  obtain ⟨n, rfl⟩ := Int.eq_ofNat_of_zero_le hv0
  obtain ⟨xs, q2, t2, e2, x0, x1, x2, x3⟩ := draw5_from l hl hb ws w1 w2 w3 n [] q t (by omega) (by omega) (by rw [List.length_nil]; omega) (fun y hy => by cases hy)
  rw [List.length_nil] at x2
  have eD : Ev (fun k => spec_l05Draw.f k l p s 20) (xs, q2, t2) := by
    unfold spec_l05Draw.f
    refine evBindC es ?_
    rw [ew]
    exact evBindC e e2
  obtain ⟨u, q3, t3, e3, hu0, hu1, hq2, hq3⟩ := pick_ok l hl hb q2 t2 20 (by omega) (by omega)
  unfold spec_l05Bent.f
  by_cases c0 : u = 0
  · obtain ⟨x, q4, t4, e4, hx, hq4, hq5⟩ := text_ok l hl hb q3 t3 ([(⟨#[97]⟩ : ByteArray), (⟨#[97, 110]⟩ : ByteArray), (⟨#[122, 111, 111]⟩ : ByteArray), (⟨#[90, 111, 111]⟩ : ByteArray), (⟨#[122, 122, 122, 122, 122, 122, 122, 122, 122, 122, 122, 122, 122]⟩ : ByteArray)] : List ByteArray) (by omega) (by omega) (by decide)
    have hx1 : x.size ≤ 20 := by
      simp only [List.mem_cons, List.not_mem_nil, or_false] at hx
      rcases hx with rfl | rfl | rfl | rfl | rfl <;> decide
    refine ⟨xs ++ [x], q4, t4, evBind eD (evBindC e3 (evPos c0 (evBindC e4 (evPos (show xs.length < _ by omega) (evNow rfl))))), by omega, by omega, by rw [List.length_append, List.length_singleton]; omega, ?_⟩
    intro y hy
    rw [List.mem_append, List.mem_singleton] at hy
    rcases hy with hy | rfl
    · exact x3 y hy
    · exact hx1
  · by_cases c1 : u = 1
    · obtain ⟨x, q4, t4, e4, hx0, hx1, hq4, hq5⟩ := pick_ok l hl hb q3 t3 2 (by omega) (by omega)
      have hx := hx1 (by omega)
      obtain ⟨m, hm⟩ := Int.eq_ofNat_of_zero_le hx0
      have em : wrap64 (200 + x) = ((200 + m : Nat) : Int) := by unfold wrap64; omega
      obtain ⟨ys, e5, y1, y2⟩ := full5_from (200 + m) (by omega) (200 + m) [] 0 (by omega) (by rw [List.length_nil]; omega) (fun y hy => by cases hy)
      rw [List.length_nil] at y1
      have eF : Ev (fun k => spec_l05Full.f k (wrap64 (200 + x))) ys := by rw [em]; exact e5
      exact ⟨ys, q4, t4, evBind eD (evBindC e3 (evNeg c0 (evPos c1 (evBindC e4 (evBind eF (evNow rfl)))))), by omega, by omega, by omega, y2⟩
    · exact ⟨xs, q3, t3, evBind eD (evBindC e3 (evNeg c0 (evNeg c1 (evNow rfl)))), by omega, by omega, by omega, x3⟩
theorem word5_ok (l : List Int) (hl : l.length ≤ 4096) (hb : ∀ x ∈ l, 0 ≤ x ∧ x ≤ 255) (p s : Int) (h0 : 0 ≤ p) (h1 : p ≤ 1000000) :
    ∃ r q t, spec_l05Word.f l p s = some (r, q, t) ∧ p ≤ q ∧ q ≤ p + 4 ∧ r.size ≤ 20 := by
  obtain ⟨ws, es, w1, w2, w3⟩ := some_sizes
  obtain ⟨o, q, t, e, hq0, hq1⟩ := one_ok l hl hb p s 8 h0 (by omega)
  unfold spec_l05Word.f
  rw [e, Option.bind_some]
  by_cases c : o = true
  · obtain ⟨x, q2, t2, e2, hx, hq2, hq3⟩ := text_ok l hl hb q t ([(⟨#[]⟩ : ByteArray), (⟨#[97]⟩ : ByteArray), (⟨#[65, 110]⟩ : ByteArray), (⟨#[97, 98, 99, 100, 101, 102, 103, 104, 105, 106, 107, 108, 109]⟩ : ByteArray), (⟨#[122, 122]⟩ : ByteArray)] : List ByteArray) (by omega) (by omega) (by decide)
    have hx1 : x.size ≤ 20 := by
      simp only [List.mem_cons, List.not_mem_nil, or_false] at hx
      rcases hx with rfl | rfl | rfl | rfl | rfl <;> decide
    rw [if_pos c, e2, Option.bind_some]
    exact ⟨_, _, _, rfl, by show p ≤ q2; omega, by show q2 ≤ _; omega, hx1⟩
  · obtain ⟨x, q2, t2, e2, hx, hq2, hq3⟩ := text_ok l hl hb q t ws (by omega) (by omega) w1
    rw [if_neg c, es, Option.bind_some, e2, Option.bind_some]
    exact ⟨_, _, _, rfl, by show p ≤ q2; omega, by show q2 ≤ _; omega, w3 _ hx⟩
/-- What a name's place is. -/
def namedAs (x : Int) : Int × Int := if x < 0 then (0, 3) else (x, 0)
theorem named_from (zs : List ByteArray) (x : ByteArray) (hz : zs.length ≤ 1000) (rest : List ByteArray) : ∀ i : Nat, zs.drop i = rest → i ≤ zs.length →
    Ev (fun k => spec_RuleNamed.l0 k x zs (i : Int)) (namedAs (Lib.idxFromS rest x i)) := by
  induction rest with
  | nil =>
    intro i hd hi
    have : zs.length ≤ i := List.drop_eq_nil_iff.1 hd
    exact evStep (evNeg (by omega) (evNow rfl))
  | cons z rest ih =>
    intro i hd hi
    have hlt : i < zs.length := by
      rcases Nat.lt_or_ge i zs.length with h | h
      · exact h
      · rw [List.drop_of_length_le h] at hd; cases hd
    have hc := List.drop_eq_getElem_cons hlt
    rw [hd] at hc
    injection hc with hz1 hz2
    have ew : wrap64 ((i : Int) + 1) = ((i + 1 : Nat) : Int) := by unfold wrap64; omega
    refine evStep (evPos (by omega) (evPos (by omega) ?_))
    rw [rdOf_get zs i hlt, ← hz1]
    by_cases he : z = x
    · refine evPos (baEq.2 he) (evNow ?_)
      have e1 : Lib.idxFromS (z :: rest) x i = (i : Int) := by unfold Lib.idxFromS; rw [if_pos he]
      rw [e1]; unfold namedAs; rw [if_neg (by omega)]
    · refine evNeg (fun h => he (baEq.1 h)) ?_
      have e1 : Lib.idxFromS (z :: rest) x i = Lib.idxFromS rest x (i + 1) := by rw [Lib.idxFromS, if_neg he]
      rw [e1, ew]
      exact ih (i + 1) hz2.symm (by omega)
theorem named_ev (x : ByteArray) : Ev (fun k => spec_RuleNamed.f k x) (ruleOf x) := by
  unfold spec_RuleNamed.f
  refine evBindC (show spec_RuleNames.f = some ruleNames from rfl) ?_
  exact named_from ruleNames x (by decide) ruleNames 0 rfl (Nat.zero_le _)
/-- Two lists that are the same. -/
theorem f6same_from (a : List ByteArray) (ha : a.length ≤ 1000000000) (d : Nat) : ∀ i : Nat, i + d = a.length → Ev (fun k => laws_f6same.l0 k a a (i : Int)) true := by
  induction d with
  | zero => intro i hi; exact evStep (evNeg (by omega) (evNow rfl))
  | succ d ih =>
    intro i hi
    have ew : wrap64 ((i : Int) + 1) = ((i + 1 : Nat) : Int) := by unfold wrap64; omega
    refine evStep (evPos (by omega) (evPos (by omega) (evPos (by omega) (evPos rfl ?_))))
    rw [ew]; exact ih (i + 1) (by omega)
theorem f6same_ev (a : List ByteArray) (ha : a.length ≤ 1000000000) : Ev (fun k => laws_f6same.f k a a) true := by
  unfold laws_f6same.f
  exact evPos rfl (f6same_from a ha a.length 0 (by omega))
/-- Whether a list has a text. -/
def memB (x : ByteArray) (a : List ByteArray) : Bool := a.any fun y => decide (y = x)
theorem memB_iff {x : ByteArray} {a : List ByteArray} : memB x a = true ↔ x ∈ a := by
  unfold memB
  rw [List.any_eq_true]
  constructor
  · rintro ⟨y, hy, h⟩
    rw [decide_eq_true_eq] at h
    exact h ▸ hy
  · intro h; exact ⟨x, h, decide_eq_true rfl⟩
theorem memB_no {x : ByteArray} {a : List ByteArray} (h : ¬ x ∈ a) : memB x a = false := by
  rw [← Bool.not_eq_true, memB_iff]; exact h
theorem f6has_from (a : List ByteArray) (x : ByteArray) (ha : a.length ≤ 1000000000) (d : Nat) : ∀ i : Nat, i + d = a.length → (∀ j (h : j < a.length), j < i → a[j] ≠ x) → Ev (fun k => laws_f6has.l0 k a x (i : Int)) (memB (x) a) := by
  induction d with
  | zero =>
    intro i hi hn
    refine evStep (evNeg (by omega) (evNow ?_))
    refine (memB_no fun hm => ?_).symm
    obtain ⟨j, hj, he⟩ := List.mem_iff_getElem.1 hm
    exact hn j hj (by omega) he
  | succ d ih =>
    intro i hi hn
    have hlt : i < a.length := by omega
    have ew : wrap64 ((i : Int) + 1) = ((i + 1 : Nat) : Int) := by unfold wrap64; omega
    refine evStep (evPos (by omega) (evPos (by omega) ?_))
    rw [rdOf_get a i hlt]
    by_cases he : a[i] = x
    · refine evPos (baEq.2 he) (evNow ?_)
      refine (memB_iff.2 ?_).symm
      rw [← he]; exact List.getElem_mem hlt
    · refine evNeg (fun h => he (baEq.1 h)) ?_
      rw [ew]
      exact ih (i + 1) (by omega) fun j hj hji => if hq : j < i then hn j hj hq else by
        have : j = i := by omega
        subst this; exact he
theorem f6has_ev (a : List ByteArray) (x : ByteArray) (ha : a.length ≤ 1000000000) : Ev (fun k => laws_f6has.f k a x) (memB (x) a) :=
  f6has_from a x ha a.length 0 (by omega) (fun j _ h => absurd h (Nat.not_lt_zero j))
theorem drop_strAt (ws : List ByteArray) (i : Nat) (h : i < ws.length) : ws.drop i = strAt ws i :: ws.drop (i + 1) := by
  rw [List.drop_eq_getElem_cons h]; unfold strAt; rw [List.getD_eq_getElem?_getD, List.getElem?_eq_getElem h]; rfl
/-- The words that a test lacks. -/
theorem keep_filter (H : ByteArray → Bool) (F : Nat → ByteArray → Option Bool) (hF : ∀ s, Ev (fun k => F k s) (H s)) (ws : List ByteArray) (d : Nat) : ∀ (i : Nat) (out : List ByteArray), i + d = ws.length →
    Ev (fun k => keepLoop (F k) ws i d out) (out ++ (ws.drop i).filter (fun s => !H s)) := by
  induction d with
  | zero =>
    intro i out hi
    rw [List.drop_of_length_le (by omega), List.filter_nil, List.append_nil]
    exact evNow rfl
  | succ d ih =>
    intro i out hi
    rw [drop_strAt ws i (by omega)]
    show Ev (fun k => (F k (strAt ws i)).bind _) _
    refine evBind (hF _) ?_
    cases hb : H (strAt ws i) with
    | true =>
      rw [List.filter_cons_of_neg (by rw [hb]; simp)]
      exact evPos rfl (ih (i + 1) out (by omega))
    | false =>
      rw [List.filter_cons_of_pos (by rw [hb]; rfl)]
      have := ih (i + 1) (out ++ [strAt ws i]) (by omega)
      rw [List.append_assoc, List.singleton_append] at this
      exact evNeg (by simp) this
/-- Adjudicate and HasWord: the two sides answer the same, and each word of the list is missed or had. -/
theorem adj_all (l ws : List ByteArray) (hl : l.length ≤ 1048576) (hs : ∀ s ∈ l, s.size ≤ 1048576) (hw : ws.length ≤ 1048576) :
    ∃ r c, Ev (fun k => spec_Adjudicate.f k l ws) (r, c) ∧ Ev (fun k => impl_Adjudicate.f k l ws) (r, c) ∧ r.length ≤ ws.length ∧
      (c = 0 → ∀ x ∈ ws, Ev (fun k => impl_HasWord.f k l x) (!memB (x) r)) := by
  obtain ⟨b, e1, hb⟩ := l05Ok_ev l fun s h => by have := hs s h; omega
  obtain ⟨c, e2, hc⟩ := validLexicon_ev l (by omega) fun s h => by have := hs s h; omega
  have hbc : b = c := by rw [Bool.eq_iff_iff, hb, hc]
  subst hbc
  cases b with
  | false =>
    refine ⟨[], 1, ?_, ?_, Nat.zero_le _, fun h => by cases h⟩
    · unfold spec_Adjudicate.f adjWith; exact evBind e1 (evNeg (by simp) (evNow rfl))
    · unfold impl_Adjudicate.f adjWith; exact evBind e2 (evNeg (by simp) (evNow rfl))
  | true =>
    have hP := hb.1 rfl
    obtain ⟨H, hH⟩ := Classical.axiomOfChoice (fun s => has_both hP s)
    have f1 := keep_filter H (fun k => spec_l05Has.f k l) (fun s => (hH s).1) ws ws.length 0 [] (by omega)
    have f2 := keep_filter H (fun k => impl_Lexicon_has.f k l) (fun s => (hH s).2) ws ws.length 0 [] (by omega)
    rw [List.drop_zero, List.nil_append] at f1 f2
    refine ⟨ws.filter (fun s => !H s), 0, ?_, ?_, List.length_filter_le _ _, fun _ x hx => ?_⟩
    · unfold spec_Adjudicate.f adjWith
      exact evBind e1 (evPos rfl (evPos (by omega) (evBind f1 (evNow rfl))))
    · unfold impl_Adjudicate.f adjWith
      exact evBind e2 (evPos rfl (evPos (by omega) (evBind f2 (evNow rfl))))
    · unfold impl_HasWord.f
      refine evBind (show Ev (fun k => gValid.f k l) true from e2) (evPos rfl (evBind (show Ev (fun k => gHas.f k l x) (H x) from (hH x).2) (evNow ?_)))
      cases hHx : H x with
      | true =>
        have : ¬ x ∈ ws.filter (fun s => !H s) := fun h => by have := (List.mem_filter.1 h).2; rw [hHx] at this; cases this
        rw [memB_no this]; rfl
      | false =>
        have : x ∈ ws.filter (fun s => !H s) := List.mem_filter.2 ⟨hx, by rw [hHx]; rfl⟩
        rw [memB_iff.2 this]; rfl
theorem drawWords_from (l : List Int) (hl : l.length ≤ 4096) (hb : ∀ x ∈ l, 0 ≤ x ∧ x ≤ 255) (lx : List ByteArray) (n : Nat) : ∀ (xs : List ByteArray) (p s : Int), 0 ≤ p → p + 4 * n ≤ 100000 → xs.length + n ≤ 100000 →
    ∃ ys, Ev (fun k => spec_DrawAdjudicate.l0 k xs (n : Int) l p s lx) (lx, ys) ∧ ys.length ≤ xs.length + n := by
  induction n with
  | zero => intro xs p s h0 h1 h2; exact ⟨xs, evStep (evNeg (by omega) (evNow rfl)), by omega⟩
  | succ n ih =>
    intro xs p s h0 h1 h2
    have ew : wrap64 (((n + 1 : Nat) : Int) - 1) = (n : Int) := by unfold wrap64; omega
    obtain ⟨x, q, t, e, hq0, hq1, _⟩ := word5_ok l hl hb p s h0 (by omega)
    obtain ⟨ys, e2, y1⟩ := ih (xs ++ [x]) q t (by omega) (by omega) (by rw [List.length_append, List.length_singleton]; omega)
    rw [List.length_append, List.length_singleton] at y1
    refine ⟨ys, evStep (evPos (by omega) (evBindC e (evPos (by omega) ?_))), by omega⟩
    rw [ew]; exact e2
theorem drawAdj_ok (l : List Int) (hl : l.length ≤ 4096) (hb : ∀ x ∈ l, 0 ≤ x ∧ x ≤ 255) :
    ∃ lx ws, Ev (fun k => spec_DrawAdjudicate.f k l) (lx, ws) ∧ lx.length ≤ 300 ∧ (∀ y ∈ lx, y.size ≤ 20) ∧ ws.length ≤ 100 := by
  obtain ⟨lx, q, t, e, q0, q1, x1, x2⟩ := bent5_ok l hl hb 0 0 (by omega) (by omega)
  obtain ⟨u, q3, t3, e3, hu0, hu1, hq2, hq3⟩ := pick_ok l hl hb q t 6 (by omega) (by omega)
  have hu := hu1 (by omega)
  obtain ⟨n, rfl⟩ := Int.eq_ofNat_of_zero_le hu0
  obtain ⟨ws, e4, w1⟩ := drawWords_from l hl hb lx n [] q3 t3 (by omega) (by omega) (by rw [List.length_nil]; omega)
  rw [List.length_nil] at w1
  refine ⟨lx, ws, ?_, x1, x2, by omega⟩
  unfold spec_DrawAdjudicate.f
  exact evBindC (show spec_l00From.f l = some (l, 0, 0) from rfl) (evBind e (evBindC e3 e4))
theorem drawName_ok (l : List Int) (hl : l.length ≤ 4096) (hb : ∀ x ∈ l, 0 ≤ x ∧ x ≤ 255) : ∃ x, spec_DrawRuleNamed.f l = some x := by
  obtain ⟨m, q, t, e, hm, hq0, hq1⟩ := text_ok l hl hb 0 0 ruleNames (by omega) (by omega) (by decide)
  have hm1 : m.size ≤ 1000 := by
    unfold ruleNames at hm
    simp only [List.mem_cons, List.not_mem_nil, or_false] at hm
    rcases hm with rfl | rfl | rfl | rfl <;> decide
  obtain ⟨r, q2, t2, e2⟩ := spoil_ok l hl hb q t m (by omega) (by omega) hm1
  refine ⟨r, ?_⟩
  unfold spec_DrawRuleNamed.f
  rw [show spec_l00From.f l = some (l, 0, 0) from rfl, Option.bind_some, show spec_RuleNames.f = some ruleNames from rfl, Option.bind_some, e, Option.bind_some, e2, Option.bind_some]
theorem words_loop (lx ws r : List ByteArray) (c : Int) (hr : r.length ≤ 1000000) (hw : ws.length ≤ 1000000) (h : c = 0 → ∀ x ∈ ws, Ev (fun k => impl_HasWord.f k lx x) (!memB (x) r)) (d : Nat) : ∀ i : Nat, i + d = ws.length →
    Ev (fun k => laws_FnRules.l1 k ws r c (i : Int) lx) true := by
  have no : ∀ i : Int, Ev (fun k => laws_FnRules.j3 k ws r c i false lx) true := fun i => Ev.step (fun m => by rw [laws_FnRules.j3]) (evNeg (by simp) (evNow rfl))
  induction d with
  | zero =>
    intro i hi
    refine Ev.step (fun m => by rw [laws_FnRules.l1]) ?_
    by_cases hc : c = 0
    · refine evPos hc ?_
      rw [decide_eq_false (show ¬ ((i : Int) < (ws.length : Int)) by omega)]
      exact no _
    · exact evNeg hc (no _)
  | succ d ih =>
    intro i hi
    refine Ev.step (fun m => by rw [laws_FnRules.l1]) ?_
    by_cases hc : c = 0
    · have hlt : i < ws.length := by omega
      have ew : wrap64 ((i : Int) + 1) = ((i + 1 : Nat) : Int) := by unfold wrap64; omega
      refine evPos hc ?_
      rw [decide_eq_true (show ((i : Int) < (ws.length : Int)) by omega)]
      refine Ev.step (fun m => by rw [laws_FnRules.j3]) ?_
      refine evPos rfl (evPos (by omega) (evPos (by omega) ?_))
      rw [rdOf_get ws i hlt]
      refine evBind (f6has_ev r _ (by omega)) (evBind (h hc _ (List.getElem_mem hlt)) (evNeg (by cases memB (ws[i]) r <;> simp) ?_))
      rw [ew]; exact ih (i + 1) (by omega)
    · exact evNeg hc (no _)
theorem rule_at (i : Nat) (h : i < ruleNames.length) : ruleOf ruleNames[i] = ((i : Int), 0) := by
  have hl : ruleNames.length = 4 := rfl
  obtain rfl | rfl | rfl | rfl : i = 0 ∨ i = 1 ∨ i = 2 ∨ i = 3 := by omega
  all_goals first | rfl | kernel_rfl | decide +revert
theorem names_loop (lx ws r : List ByteArray) (c : Int) (hend : Ev (fun k => laws_FnRules.l1 k ws r c 0 lx) true) (d : Nat) : ∀ i : Nat, i + d = ruleNames.length →
    Ev (fun k => laws_FnRules.l0 k ws r c ruleNames (i : Int) lx) true := by
  have hl : ruleNames.length = 4 := rfl
  induction d with
  | zero =>
    intro i hi
    refine Ev.step (fun m => by rw [laws_FnRules.l0]) ?_
    exact evNeg (by omega) hend
  | succ d ih =>
    intro i hi
    have hlt : i < ruleNames.length := by omega
    have ew : wrap64 ((i : Int) + 1) = ((i + 1 : Nat) : Int) := by unfold wrap64; omega
    refine Ev.step (fun m => by rw [laws_FnRules.l0]) ?_
    refine evPos (by omega) (evPos (by omega) ?_)
    rw [rdOf_get ruleNames i hlt]
    refine evBindC (show impl_RuleNamed.f ruleNames[i] = some ((i : Int), 0) by unfold impl_RuleNamed.f; rw [rule_at i hlt]) (evPos rfl (evPos rfl ?_))
    rw [ew]; exact ih (i + 1) (by omega)
theorem FnRules : laws_FnRules.Pure := by
  intro l hl1 hl2 hb8
  have hb : ∀ x ∈ l, 0 ≤ x ∧ x ≤ 255 := fun x hx' => by
    have := hb8 x hx'
    have h : (decide (IntKind.u8.min ≤ x) && decide (x ≤ IntKind.u8.max)) = true := this
    rw [Bool.and_eq_true, decide_eq_true_eq, decide_eq_true_eq] at h
    exact h
  refine Ev.rounds (?_ : Ev (fun k => laws_FnRules.f k l) true)
  unfold laws_FnRules.f
  refine evBindC (show laws_f6big.f l = some (decide ((l.length : Int) > 4096)) from rfl) ?_
  by_cases hbig : (l.length : Int) > 4096
  · exact evPos (decide_eq_true hbig) (evNow rfl)
  refine evNeg (by rw [decide_eq_false hbig]; simp) ?_
  have hl : l.length ≤ 4096 := by omega
  obtain ⟨x, ex⟩ := drawName_ok l hl hb
  obtain ⟨lx, ws, ea, a1, a2, a3⟩ := drawAdj_ok l hl hb
  obtain ⟨r, c, v1, v2, v3, v4⟩ := adj_all lx ws (by omega) (fun s hs => by have := a2 s hs; omega) (by omega)
  refine evBindC ex (evBindC (show impl_RuleNamed.f x = some (ruleOf x) from rfl) (evBind (named_ev x) (evBind ea (evBind v2 (evBind v1 (evBindC (show impl_RuleNames.f = some ruleNames from rfl) ?_))))))
  refine evPos rfl (evPos rfl (evPos rfl (evBind (f6same_ev r (by omega)) (evPos rfl (evBindC (show spec_RuleNames.f = some ruleNames from rfl) (evBind (f6same_ev ruleNames (by decide)) ?_))))))
  refine Ev.step (fun m => by rw [laws_FnRules.j0]) ?_
  refine evNeg (by simp) ?_
  exact names_loop lx ws r c (words_loop lx ws r c (by omega) (by omega) v4 ws.length 0 (by omega)) ruleNames.length 0 (by omega)

end Go.Proofs.YtjolcfheommchaaDoor.Pure

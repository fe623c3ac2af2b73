/- For every lexicon and list of words, the program's Adjudicate answers what the reference's Adjudicate answers, shares no memory, and leaves its arguments as they were. Conditions: none beyond the statement. -/
import Derived.Test.YtjolcfheommchaaOFnExactAdjudicatex3
namespace Go.Proofs.Ytjolcfheommchaa.Pure
open Go.RowKit Go.Proofs.Ytjolcfheommchaa.OFnExactAdjudicate Go.Proofs.YtjolcfheommchaaW.PrintWords Go.Proofs.YtjolcfheommchaaW.PrintLast Go.Proofs.YtjolcfheommchaaW.PrintMore Go.Proofs.Ytjolcfheommchaa.G
set_option linter.unusedVariables false
set_option linter.unusedSimpArgs false
open Go.Proofs.Ytjolcfheommchaa.OAdjA (spec_l01Small.f spec_IsWord.f spec_IsWord.l0 spec_l05Long.f spec_l05First.f spec_l05First.l0 spec_l05Has.f impl_increasing.f impl_increasing.l0 impl_IsWord.f impl_isLong.f impl_ValidLexicon.f impl_ValidLexicon.j0 impl_ValidLexicon.l0 slices_BinarySearch_string_string.f slices_BinarySearch_string_string.l0 cmp_Less_string.f cmp_isNaN_string.f slices_isNaN_string.f impl_Lexicon_has.f spec_l00In.f)
theorem evPos {α : Type} {c : Prop} [Decidable c] {f g : Nat → Option α} {r : α} (hc : c) (h : Ev f r) : Ev (fun k => if c then f k else g k) r := by
  simpa only [if_pos hc] using h
theorem evNeg {α : Type} {c : Prop} [Decidable c] {f g : Nat → Option α} {r : α} (hc : ¬ c) (h : Ev g r) : Ev (fun k => if c then f k else g k) r := by
  simpa only [if_neg hc] using h
theorem evBindC {α β : Type} {o : Option α} {a : α} {f : Nat → α → Option β} {r : β} (ho : o = some a) (h : Ev (fun k => f k a) r) : Ev (fun k => o.bind (f k)) r := by
  subst ho; exact h
theorem evBind {α β : Type} {g : Nat → Option α} {f : Nat → α → Option β} {a : α} {r : β} (h : Ev g a) (k : Ev (fun n => f n a) r) : Ev (fun n => (g n).bind (f n)) r := Ev.bind h k
theorem evNow {α : Type} {a r : α} (h : a = r) : Ev (fun _ => some a) r := h ▸ Ev.now a
theorem evStep {α : Type} {g : Nat → Option α} {r : α} (h : Ev (fun k => g (k + 1)) r) : Ev g r := Ev.step (fun _ => rfl) h
theorem evTo {α : Type} {g : Nat → Option α} {a r : α} (h : Ev g a) (e : a = r) : Ev g r := e ▸ h
theorem baEq {a b : ByteArray} : a.toList = b.toList ↔ a = b := by
  constructor
  · intro h
    rw [ByteArray.toList_eq, ByteArray.toList_eq] at h
    cases a; cases b
    simp only [ByteArray.mk.injEq]
    exact Array.toList_inj.1 h
  · rintro rfl; rfl
theorem rdOf_get {α : Type} {d : α} (xs : List α) (i : Nat) (h : i < xs.length) : rdOf d xs (i : Int) = xs[i] := by
  unfold rdOf; rw [Int.toNat_natCast, List.getD_eq_getElem?_getD, List.getElem?_eq_getElem h]; rfl
theorem drop_rdOf {α : Type} (d : α) (xs : List α) (i : Int) (h0 : 0 ≤ i) (h : i < (xs.length : Int)) : xs.drop i.toNat = rdOf d xs i :: xs.drop (i + 1).toNat := by
  obtain ⟨n, rfl⟩ := Int.eq_ofNat_of_zero_le h0
  have hn : n < xs.length := by omega
  rw [rdOf_get xs n hn, Int.toNat_natCast, List.drop_eq_getElem_cons hn]
  congr 2
theorem drop_at_end {α : Type} (xs : List α) (i : Int) (h : (xs.length : Int) ≤ i) : xs.drop i.toNat = [] := List.drop_of_length_le (by omega)
theorem wrapIncL {i : Int} {n : Nat} (h0 : 0 ≤ i) (h : i < (n : Int)) (hn : n ≤ 9223372036854775807) : wrap64 (i + 1) = i + 1 := by
  unfold wrap64; omega
/-- What the sizes' loop comes to from index i on: below 0, or what is left. -/
theorem szStrs_from (l : List ByteArray) (hl : l.length ≤ 9223372036854775807) (hs : ∀ s ∈ l, s.size ≤ 9223372036854775807) (d : Nat) : ∀ (i a : Int), 0 ≤ i → i ≤ l.length → (l.length : Int) - i = d → 0 ≤ a → a ≤ 1048576 →
    ∃ r, Ev (fun k => laws_szStringS.l0 k l a i) r ∧ (r < 0 ∨ (0 ≤ r ∧ r ≤ a ∧ ∀ s ∈ l.drop i.toNat, (s.size : Int) ≤ a)) := by
  induction d with
  | zero =>
    intro i a h0 h1 hd ha ha1
    refine ⟨a, evStep (evNeg (by omega) (evNow rfl)), .inr ⟨ha, Int.le_refl _, ?_⟩⟩
    rw [drop_at_end l i (by omega)]
    intro s hsm; cases hsm
  | succ d ih =>
    intro i a h0 h1 hd ha ha1
    have hlt : i < (l.length : Int) := by omega
    have hdr := drop_rdOf ByteArray.empty l i h0 hlt
    have hmem : rdOf ByteArray.empty l i ∈ l := by
      have : rdOf ByteArray.empty l i ∈ l.drop i.toNat := by rw [hdr]; exact List.mem_cons_self
      exact List.mem_of_mem_drop this
    have hz := hs _ hmem
    have ew : wrap64 (a - ((rdOf ByteArray.empty l i).size : Int)) = a - (rdOf ByteArray.empty l i).size := by unfold wrap64; omega
    by_cases hneg : a - ((rdOf ByteArray.empty l i).size : Int) < 0
    · exact ⟨-1, evStep (evPos hlt (evPos h0 (evPos (by rw [ew]; exact hneg) (evNow rfl)))), .inl (by omega)⟩
    · obtain ⟨r, he, hr⟩ := ih (i + 1) (a - (rdOf ByteArray.empty l i).size) (by omega) (by omega) (by omega) (by omega) (by omega)
      refine ⟨r, evStep (evPos hlt (evPos h0 (evNeg (by rw [ew]; exact hneg) ?_))), ?_⟩
      · rw [ew, wrapIncL h0 hlt hl]; exact he
      · rcases hr with hr | ⟨hr0, hr1, hr2⟩
        · exact .inl hr
        · refine .inr ⟨hr0, by omega, fun s hsm => ?_⟩
          rw [hdr] at hsm
          rcases List.mem_cons.1 hsm with rfl | hsm
          · omega
          · have := hr2 s hsm; omega
/-- The sizes of a list of strings: below 0 (too much), or what is left of a. -/
theorem szStrs (l : List ByteArray) (hl : l.length ≤ 9223372036854775807) (hs : ∀ s ∈ l, s.size ≤ 9223372036854775807) (a : Int) (ha : 0 ≤ a) (ha1 : a ≤ 1048576) :
    ∃ r, Ev (fun k => laws_szStringS.f k l a) r ∧ (r < 0 ∨ (0 ≤ r ∧ r ≤ a ∧ (l.length : Int) ≤ a ∧ ∀ s ∈ l, (s.size : Int) ≤ a)) := by
  have ew : wrap64 (a - (l.length : Int)) = a - l.length := by unfold wrap64; omega
  unfold laws_szStringS.f
  by_cases hneg : a - (l.length : Int) < 0
  · exact ⟨-1, evPos (by rw [ew]; exact hneg) (evNow rfl), .inl (by omega)⟩
  · obtain ⟨r, he, hr⟩ := szStrs_from l hl hs l.length 0 (a - l.length) (by omega) (by omega) (by omega) (by omega) (by omega)
    refine ⟨r, evNeg (by rw [ew]; exact hneg) (by rw [ew]; exact he), ?_⟩
    rcases hr with hr | ⟨hr0, hr1, hr2⟩
    · exact .inl hr
    · exact .inr ⟨hr0, by omega, by omega, fun s hsm => by have := hr2 s hsm; omega⟩
theorem copyStrs_from (l : List ByteArray) (hl : l.length ≤ 1048576) (d : Nat) : ∀ (i : Int) (o : List ByteArray), 0 ≤ i → i ≤ l.length → (l.length : Int) - i = d → o.length = l.length → o.take i.toNat = l.take i.toNat →
    Ev (fun k => laws_toStringS.l0 k l o i) l := by
  induction d with
  | zero =>
    intro i o h0 h1 hd ho he
    refine evStep (evNeg (by omega) (evNow ?_))
    rw [List.take_of_length_le (by omega), List.take_of_length_le (by omega)] at he
    exact he
  | succ d ih =>
    intro i o h0 h1 hd ho he
    have hlt : i < (l.length : Int) := by omega
    refine evStep (evPos hlt (evPos h0 (evPos (by omega) ?_)))
    rw [wrapIncL h0 hlt (by omega)]
    refine ih (i + 1) _ (by omega) (by omega) (by omega) (by simpa using ho) ?_
    obtain ⟨n, rfl⟩ := Int.eq_ofNat_of_zero_le h0
    have hn : n < l.length := by omega
    rw [show ((n : Int) + 1).toNat = n + 1 by omega, Int.toNat_natCast, rdOf_get l n hn]
    rw [Int.toNat_natCast] at he
    rw [List.take_succ_eq_append_getElem (by simp; omega), List.take_succ_eq_append_getElem hn, List.take_set_of_le (Nat.le_refl _), he]
    simp
/-- The copy of a list of strings is the list. -/
theorem copyStrs (l : List ByteArray) (hl : l.length ≤ 1048576) : Ev (fun k => laws_toStringS.f k l) l := by
  unfold laws_toStringS.f
  exact evPos (by omega) (evPos (by omega) (copyStrs_from l hl l.length 0 _ (by omega) (by omega) (by omega) (by simp) (by simp)))
/-- Two lists of strings are equal. -/
def strsB (a b : List ByteArray) : Bool := decide (a.map ByteArray.toList = b.map ByteArray.toList)
theorem strsB_iff {a b : List ByteArray} : strsB a b = true ↔ a = b := by
  unfold strsB
  rw [decide_eq_true_eq]
  exact ⟨fun h => (List.map_inj_right (fun x y h => baEq.1 h)).1 h, fun h => by rw [h]⟩
theorem strsB_refl (a : List ByteArray) : strsB a a = true := strsB_iff.2 rfl
theorem strsB_len {a b : List ByteArray} (h : ¬ (a.length : Int) = b.length) : strsB a b = false := by
  rw [Bool.eq_false_iff]; intro e; rw [strsB_iff] at e; exact h (by rw [e])
theorem strsB_drop {a b : List ByteArray} {i : Int} (h0 : 0 ≤ i) (ha : i < (a.length : Int)) (hb : i < (b.length : Int)) :
    strsB (a.drop i.toNat) (b.drop i.toNat) = (decide ((rdOf ByteArray.empty a i).toList = (rdOf ByteArray.empty b i).toList) && strsB (a.drop (i + 1).toNat) (b.drop (i + 1).toNat)) := by
  rw [drop_rdOf ByteArray.empty a i h0 ha, drop_rdOf ByteArray.empty b i h0 hb]
  unfold strsB
  simp only [List.map_cons, List.cons.injEq, Bool.decide_and]
theorem lawsEq_from (a b : List ByteArray) (hl : a.length = b.length) (hm : a.length ≤ 9223372036854775807) (d : Nat) : ∀ i : Int, 0 ≤ i → i ≤ a.length → (a.length : Int) - i = d →
    Ev (fun k => laws_eqStringS.l0 k a b i) (strsB (a.drop i.toNat) (b.drop i.toNat)) := by
  induction d with
  | zero =>
    intro i h0 h1 hd
    refine evStep (evNeg (by omega) (evNow ?_))
    rw [drop_at_end a i (by omega), drop_at_end b i (by omega)]; exact (strsB_refl _).symm
  | succ d ih =>
    intro i h0 h1 hd
    have hlt : i < (a.length : Int) := by omega
    rw [strsB_drop h0 hlt (by omega)]
    refine evStep (evPos hlt (evPos h0 (evPos (by omega) ?_)))
    by_cases he : (rdOf ByteArray.empty a i).toList = (rdOf ByteArray.empty b i).toList
    · refine evPos he ?_
      rw [wrapIncL h0 hlt hm, decide_eq_true he, Bool.true_and]
      exact ih (i + 1) (by omega) (by omega) (by omega)
    · exact evNeg he (evNow (by rw [decide_eq_false he, Bool.false_and]))
theorem lawsEq (a b : List ByteArray) (hm : a.length ≤ 9223372036854775807) : Ev (fun k => laws_eqStringS.f k a b) (strsB a b) := by
  unfold laws_eqStringS.f
  by_cases h : (a.length : Int) = b.length
  · exact evPos h (lawsEq_from a b (by omega) hm a.length 0 (by omega) (by omega) (by omega))
  · exact evNeg h (evNow (strsB_len h).symm)
theorem wrapInc {i : Int} {n : Nat} (h0 : 0 ≤ i) (h : i < (n : Int)) (hn : n ≤ 140737488351232) : wrap64 (i + 1) = i + 1 := by
  unfold wrap64; omega
/-- Do all bytes from the n-th on meet p? -/
def allFrom (p : Int → Bool) (s : ByteArray) (n : Nat) : Bool := ((bytesOf s).drop n).all p
theorem allFrom_end (p : Int → Bool) (s : ByteArray) (n : Nat) (h : s.size ≤ n) : allFrom p s n = true := by
  unfold allFrom; rw [List.drop_of_length_le (by rw [bytesOf_length]; exact h)]; rfl
theorem bytesOf_drop (s : ByteArray) (n : Nat) (h : n < s.size) : (bytesOf s).drop n = bt s (n : Int) :: (bytesOf s).drop (n + 1) := by
  have hl : n < (bytesOf s).length := by rw [bytesOf_length]; exact h
  rw [List.drop_eq_getElem_cons hl]
  have e : (bytesOf s)[n] = bt s (n : Int) := by
    rw [← rd_bytesOf]; unfold rd; simp [List.getD, hl]
  rw [e]
theorem allFrom_step (p : Int → Bool) (s : ByteArray) (i : Int) (h0 : 0 ≤ i) (h : i < (s.size : Int)) : allFrom p s i.toNat = (p (bt s i) && allFrom p s (i + 1).toNat) := by
  obtain ⟨n, rfl⟩ := Int.eq_ofNat_of_zero_le h0
  have e : ((n : Int) + 1).toNat = n + 1 := by omega
  rw [e, Int.toNat_natCast]
  unfold allFrom
  rw [bytesOf_drop s n (by omega)]; rfl
theorem less_irrefl : ∀ x : List UInt8, Op.bytesLess x x = false
  | [] => by simp [Op.bytesLess]
  | a :: x => by rw [Op.bytesLess]; simp [less_irrefl x]
theorem less_cons (a b : UInt8) (x y : List UInt8) : Op.bytesLess (a :: x) (b :: y) = true ↔ a < b ∨ (a = b ∧ Op.bytesLess x y = true) := by
  rw [Op.bytesLess]; simp
theorem less_trans : ∀ x y z : List UInt8, Op.bytesLess x y = true → Op.bytesLess y z = true → Op.bytesLess x z = true
  | [], [], _, h, _ => by simp [Op.bytesLess] at h
  | _ :: _, [], _, h, _ => by simp [Op.bytesLess] at h
  | _, _ :: _, [], _, h => by simp [Op.bytesLess] at h
  | [], _ :: _, _ :: _, _, _ => by simp [Op.bytesLess]
  | a :: x, b :: y, c :: z, h1, h2 => by
    rw [less_cons] at h1 h2 ⊢
    rcases h1 with h1 | ⟨rfl, h1⟩
    · rcases h2 with h2 | ⟨rfl, h2⟩
      · exact .inl (UInt8.lt_trans h1 h2)
      · exact .inl h1
    · rcases h2 with h2 | ⟨rfl, h2⟩
      · exact .inl h2
      · exact .inr ⟨rfl, less_trans x y z h1 h2⟩
/-- A long word. -/
def longB (s : ByteArray) : Bool := smallS s && (decide (2 ≤ s.size) && decide (s.size ≤ 12))
theorem small_at (s : ByteArray) (h : ∀ j : Nat, j < s.size → smallB (bt s (j : Int)) = true) : smallS s = true := small_yes s h
theorem l01Small_eq (c : Int) : spec_l01Small.f c = some (smallB c) := by
  unfold spec_l01Small.f smallB
  by_cases h : c ≥ 97
  · rw [if_pos h, decide_eq_true (show 97 ≤ c from h)]; rfl
  · rw [if_neg h, decide_eq_false (show ¬ 97 ≤ c from h)]; rfl
theorem l00In_eq (a b c : Int) : spec_l00In.f a b c = some (decide (b ≤ a) && decide (a ≤ c)) := by
  unfold spec_l00In.f
  by_cases h : a ≥ b
  · rw [if_pos h, decide_eq_true (show b ≤ a from h)]; rfl
  · rw [if_neg h, decide_eq_false (show ¬ b ≤ a from h)]; rfl
theorem isWord_from (s : ByteArray) (hs : s.size ≤ 140737488351232) (d : Nat) : ∀ i : Nat, i + d = s.size → (∀ j : Nat, j < i → smallB (bt s (j : Int)) = true) →
    Ev (fun k => spec_IsWord.l0 k s (i : Int)) (smallS s && (decide (1 ≤ (s.size : Int)) && decide ((s.size : Int) ≤ 12))) := by
  induction d with
  | zero =>
    intro i hi h
    have hy : smallS s = true := small_yes s fun j hj => h j (by omega)
    refine evStep (evNeg (by omega) ?_)
    rw [l00In_eq, hy, Bool.true_and]
    exact evBindC rfl (evNow rfl)
  | succ d ih =>
    intro i hi h
    refine evStep (evPos (by omega) (evPos (by omega) ?_))
    refine evBindC (l01Small_eq _) ?_
    cases hb : smallB (bt s (i : Int)) with
    | true =>
      refine evPos rfl ?_
      have := ih (i + 1) (by omega) fun j hj => if hji : j < i then h j hji else by
        have : j = i := by omega
        subst this; exact hb
      rw [show wrap64 ((i : Int) + 1) = ((i + 1 : Nat) : Int) by unfold wrap64; omega]
      exact this
    | false =>
      refine evNeg (by simp) (evNow ?_)
      rw [small_no s i (by omega) hb]; rfl
theorem l05Long_ev (s : ByteArray) (hs : s.size ≤ 140737488351232) : Ev (fun k => spec_l05Long.f k s) (longB s) := by
  unfold spec_l05Long.f longB
  by_cases h : (s.size : Int) > 1
  · refine evPos h (evBind (isWord_from s hs s.size 0 (by omega) fun j hj => absurd hj (Nat.not_lt_zero j)) (evNow ?_))
    rw [decide_eq_true (show 1 ≤ (s.size : Int) by omega), decide_eq_true (show 2 ≤ s.size by omega)]
    congr 2
    rw [decide_eq_decide]; omega
  · refine evNeg h (evNow ?_)
    rw [decide_eq_false (show ¬ 2 ≤ s.size by omega)]; simp
theorem isLong_eq (s : ByteArray) (hs : s.size ≤ 1000000000000) : impl_isLong.f s = some (longB s) := by
  unfold impl_isLong.f impl_IsWord.f impl_onlySmall.f longB
  by_cases h : (s.size : Int) ≥ 2
  · rw [if_pos h, if_pos (show (s.size : Int) ≥ 1 by omega), decide_eq_true (show 2 ≤ s.size by omega)]
    by_cases h2 : (s.size : Int) ≤ 12
    · rw [if_pos h2, if_pos hs, decide_eq_true (show s.size ≤ 12 by omega)]; simp
    · rw [if_neg h2, decide_eq_false (show ¬ s.size ≤ 12 by omega)]; simp
  · rw [if_neg h, decide_eq_false (show ¬ 2 ≤ s.size by omega)]; simp
def lessA (l : List ByteArray) (i : Nat) : Bool := Op.bytesLess (strAt l (i - 1)).toList (strAt l i).toList
/-- A lexicon that is valid. -/
def lexP (l : List ByteArray) : Prop := l.length ≤ 200 ∧ ∀ i, i < l.length → longB (strAt l i) = true ∧ (i = 0 ∨ lessA l i = true)
theorem rdOf_strAt (l : List ByteArray) (i : Nat) : rdOf ByteArray.empty l (i : Int) = strAt l i := by unfold rdOf strAt; rw [Int.toNat_natCast]
theorem strAt_mem {l : List ByteArray} {i : Nat} (h : i < l.length) : strAt l i ∈ l := by
  unfold strAt; rw [List.getD_eq_getElem?_getD, List.getElem?_eq_getElem h]; exact List.getElem_mem h
theorem l05Loop_ev (l : List ByteArray) (hs : ∀ s ∈ l, s.size ≤ 140737488351232) (d : Nat) : ∀ i : Nat, i + d = l.length →
    ∃ b, Ev (fun k => l05Loop k l i d) b ∧ (b = true ↔ ∀ j, i ≤ j → j < l.length → longB (strAt l j) = true ∧ (j = 0 ∨ lessA l j = true)) := by
  induction d with
  | zero => intro i hi; exact ⟨true, evNow rfl, fun _ j h1 h2 => by omega, fun _ => rfl⟩
  | succ d ih =>
    intro i hi
    obtain ⟨b, hb, hb2⟩ := ih (i + 1) (by omega)
    have e := l05Long_ev (strAt l i) (hs _ (strAt_mem (by omega)))
    by_cases hc : longB (strAt l i) = true ∧ (i = 0 ∨ lessA l i = true)
    · refine ⟨b, ?_, ?_⟩
      · show Ev (fun k => (spec_l05Long.f k (strAt l i)).bind _) b
        refine evBind e ?_
        exact evPos hc hb
      · rw [hb2]
        constructor
        · intro h j h1 h2
          by_cases hj : j = i
          · subst hj; exact hc
          · exact h j (by omega) h2
        · intro h j h1 h2; exact h j (by omega) h2
    · refine ⟨false, ?_, ?_⟩
      · show Ev (fun k => (spec_l05Long.f k (strAt l i)).bind _) false
        refine evBind e ?_
        exact evNeg hc (evNow rfl)
      · constructor
        · intro h; cases h
        · intro h; exact absurd (h i (Nat.le_refl _) (by omega)) hc
theorem evMap {α β : Type} {g : Nat → Option α} {a : α} {f : α → β} (h : Ev g a) : Ev (fun k => (g k).map f) (f a) := by
  have e : (fun k => (g k).map f) = fun k => (g k).bind fun x => some (f x) := by
    funext k; cases g k <;> rfl
  rw [e]; exact evBind h (evNow rfl)
theorem l05Ok_ev (l : List ByteArray) (hs : ∀ s ∈ l, s.size ≤ 140737488351232) : ∃ b, Ev (fun k => spec_l05Ok.f k l) b ∧ (b = true ↔ lexP l) := by
  obtain ⟨b, hb, hb2⟩ := l05Loop_ev l hs l.length 0 (by omega)
  refine ⟨_, evMap hb, ?_⟩
  rw [Bool.and_eq_true, hb2, decide_eq_true_eq]
  unfold lexP
  constructor
  · rintro ⟨h1, h2⟩; exact ⟨by omega, fun i hi => h1 i (Nat.zero_le _) hi⟩
  · rintro ⟨h1, h2⟩; exact ⟨fun i _ hi => h2 i hi, by omega⟩
theorem increasing_from (l : List ByteArray) (hl : l.length ≤ 140737488351232) (d : Nat) : ∀ i : Nat, 1 ≤ i → l.length - i = d →
    ∃ b, Ev (fun k => impl_increasing.l0 k l (i : Int)) b ∧ (b = true ↔ ∀ j, i ≤ j → j < l.length → lessA l j = true) := by
  induction d with
  | zero =>
    intro i h1 hi
    exact ⟨true, evStep (evNeg (by omega) (evNow rfl)), fun _ j h1 h2 => by omega, fun _ => rfl⟩
  | succ d ih =>
    intro i h1 hi
    obtain ⟨b, hb, hb2⟩ := ih (i + 1) (by omega) (by omega)
    have ew : wrap64 ((i : Int) - 1) = ((i - 1 : Nat) : Int) := by unfold wrap64; omega
    have ew2 : wrap64 ((i : Int) + 1) = ((i + 1 : Nat) : Int) := by unfold wrap64; omega
    by_cases hc : lessA l i = true
    · refine ⟨b, evStep (evPos (by omega) ?_), ?_⟩
      · rw [ew, ew2]
        refine evPos (by omega) (evPos (by omega) (evPos (by omega) ?_))
        rw [rdOf_strAt, rdOf_strAt]
        exact evPos hc hb
      · rw [hb2]
        constructor
        · intro h j h1 h2
          by_cases hj : j = i
          · subst hj; exact hc
          · exact h j (by omega) h2
        · intro h j h1 h2; exact h j (by omega) h2
    · refine ⟨false, evStep (evPos (by omega) ?_), ?_⟩
      · rw [ew]
        refine evPos (by omega) (evPos (by omega) (evPos (by omega) ?_))
        rw [rdOf_strAt, rdOf_strAt]
        exact evNeg hc (evNow rfl)
      · constructor
        · intro h; cases h
        · intro h; exact absurd (h i (Nat.le_refl _) (by omega)) hc
theorem valid_eq (m : Nat) (l : List ByteArray) (x n i : Int) : impl_ValidLexicon.l0 (m + 1) l n i = if i < n then (if 0 ≤ i then (if i < (l.length : Int) then ((impl_isLong.f (rdOf ByteArray.empty l i)).bind fun t142 => (if t142 = true then (impl_ValidLexicon.l0 m l n (wrap64 (i + 1))) else (some false))) else (none)) else (none)) else (some true) := by rw [impl_ValidLexicon.l0]
theorem valid_from (l : List ByteArray) (hl : l.length ≤ 140737488351232) (hs : ∀ s ∈ l, s.size ≤ 1000000000000) (d : Nat) : ∀ i : Nat, i + d = l.length →
    ∃ b, Ev (fun k => impl_ValidLexicon.l0 k l (l.length : Int) (i : Int)) b ∧ (b = true ↔ ∀ j, i ≤ j → j < l.length → longB (strAt l j) = true) := by
  induction d with
  | zero =>
    intro i hi
    exact ⟨true, Ev.step (fun m => valid_eq m l 0 _ _) (evNeg (by omega) (evNow rfl)), fun _ j h1 h2 => by omega, fun _ => rfl⟩
  | succ d ih =>
    intro i hi
    obtain ⟨b, hb, hb2⟩ := ih (i + 1) (by omega)
    have ew2 : wrap64 ((i : Int) + 1) = ((i + 1 : Nat) : Int) := by unfold wrap64; omega
    have e := isLong_eq (strAt l i) (hs _ (strAt_mem (by omega)))
    by_cases hc : longB (strAt l i) = true
    · refine ⟨b, Ev.step (fun m => valid_eq m l 0 _ _) (evPos (by omega) (evPos (by omega) (evPos (by omega) ?_))), ?_⟩
      · rw [rdOf_strAt, ew2]
        refine evBindC e (evPos hc hb)
      · rw [hb2]
        constructor
        · intro h j h1 h2
          by_cases hj : j = i
          · subst hj; exact hc
          · exact h j (by omega) h2
        · intro h j h1 h2; exact h j (by omega) h2
    · refine ⟨false, Ev.step (fun m => valid_eq m l 0 _ _) (evPos (by omega) (evPos (by omega) (evPos (by omega) ?_))), ?_⟩
      · rw [rdOf_strAt]
        exact evBindC e (evNeg hc (evNow rfl))
      · constructor
        · intro h; cases h
        · intro h; exact absurd (h i (Nat.le_refl _) (by omega)) hc
theorem validLexicon_ev (l : List ByteArray) (hl : l.length ≤ 140737488351232) (hs : ∀ s ∈ l, s.size ≤ 1000000000000) : ∃ b, Ev (fun k => impl_ValidLexicon.f k l) b ∧ (b = true ↔ lexP l) := by
  have yes : Ev (fun k => impl_ValidLexicon.j0 k true l) false := Ev.step (fun m => by rw [impl_ValidLexicon.j0, if_pos rfl]) (evNow rfl)
  unfold impl_ValidLexicon.f
  by_cases h : (l.length : Int) > 200
  · exact ⟨false, evPos h yes, (fun h => by cases h), (fun h => by have := h.1; omega)⟩
  · obtain ⟨b, hb, hb2⟩ := increasing_from l hl (l.length - 1) 1 (Nat.le_refl _) rfl
    obtain ⟨c, hc, hc2⟩ := valid_from l hl hs l.length 0 (by omega)
    have hb' : Ev (fun k => impl_increasing.f k l) b := hb
    cases b with
    | false =>
      refine ⟨false, evNeg h (evBind hb' yes), (fun h => by cases h), (fun h => ?_)⟩
      exact absurd (hb2.2 fun j h1 h2 => (h.2 j h2).2.resolve_left (by omega)) (by simp)
    | true =>
      refine ⟨c, evNeg h (evBind hb' (Ev.step (fun m => by rw [Bool.not_true, impl_ValidLexicon.j0, if_neg (by simp)]; rfl) hc)), ?_⟩
      rw [hc2]
      constructor
      · intro hh
        refine ⟨by omega, fun i hi => ⟨hh i (Nat.zero_le _) hi, ?_⟩⟩
        by_cases h0 : i = 0
        · exact .inl h0
        · exact .inr (hb2.1 rfl i (by omega) hi)
      · intro hh j _ hj; exact (hh.2 j hj).1
theorem lex_less {l : List ByteArray} (h : lexP l) : ∀ d i, i + d < l.length → 0 < d → Op.bytesLess (strAt l i).toList (strAt l (i + d)).toList = true
  | 0, _, _, h0 => by omega
  | 1, i, hi, _ => by
    have := ((h.2 (i + 1) hi).2.resolve_left (by omega))
    unfold lessA at this
    rwa [show i + 1 - 1 = i by omega] at this
  | d + 2, i, hi, _ => by
    have h1 := lex_less h (d + 1) i (by omega) (by omega)
    have h2 := lex_less h 1 (i + (d + 1)) (by omega) (by omega)
    exact less_trans _ _ _ h1 h2
/-- How many words of a valid lexicon are less than a string. -/
structure Cut (l : List ByteArray) (s : ByteArray) (p : Nat) : Prop where
  le : p ≤ l.length
  less : ∀ i, i < p → Op.bytesLess (strAt l i).toList s.toList = true
  not : ∀ i, p ≤ i → i < l.length → Op.bytesLess (strAt l i).toList s.toList = false
theorem Cut.unique {l : List ByteArray} {s : ByteArray} {p q : Nat} (a : Cut l s p) (b : Cut l s q) : p = q := by
  rcases Nat.lt_trichotomy p q with h | h | h
  · have h1 := b.less p h
    have h2 := a.not p (Nat.le_refl _) (by have := b.le; omega)
    rw [h1] at h2; cases h2
  · exact h
  · have h1 := a.less q h
    have h2 := b.not q (Nat.le_refl _) (by have := a.le; omega)
    rw [h1] at h2; cases h2
theorem not_less_up {l : List ByteArray} (h : lexP l) {s : ByteArray} {i j : Nat} (hi : Op.bytesLess (strAt l i).toList s.toList = false) (hij : i ≤ j) (hj : j < l.length) : Op.bytesLess (strAt l j).toList s.toList = false := by
  by_cases he : i = j
  · subst he; exact hi
  · have := lex_less h (j - i) i (by omega) (by omega)
    rw [show i + (j - i) = j by omega] at this
    cases hb : Op.bytesLess (strAt l j).toList s.toList with
    | false => rfl
    | true => rw [less_trans _ _ _ this hb] at hi; cases hi
theorem less_down {l : List ByteArray} (h : lexP l) {s : ByteArray} {i j : Nat} (hj : Op.bytesLess (strAt l j).toList s.toList = true) (hij : i ≤ j) (hjl : j < l.length) : Op.bytesLess (strAt l i).toList s.toList = true := by
  cases hb : Op.bytesLess (strAt l i).toList s.toList with
  | true => rfl
  | false => rw [not_less_up h hb hij hjl] at hj; cases hj
theorem first_from {l : List ByteArray} (h : lexP l) (s : ByteArray) (d : Nat) : ∀ i : Nat, i + d = l.length → (∀ j, j < i → Op.bytesLess (strAt l j).toList s.toList = true) →
    ∃ p : Nat, Ev (fun k => spec_l05First.l0 k l s (i : Int)) (p : Int) ∧ Cut l s p := by
  have hl := h.1
  induction d with
  | zero =>
    intro i hi hj
    exact ⟨i, evStep (evNeg (by omega) (evNow rfl)), ⟨by omega, hj, fun j h1 h2 => by omega⟩⟩
  | succ d ih =>
    intro i hi hj
    cases hb : Op.bytesLess (strAt l i).toList s.toList with
    | true =>
      obtain ⟨p, e, c⟩ := ih (i + 1) (by omega) fun j hji => if hlt : j < i then hj j hlt else by
        have : j = i := by omega
        subst this; exact hb
      refine ⟨p, evStep (evPos (by omega) (evPos (by omega) ?_)), c⟩
      rw [rdOf_strAt, show wrap64 ((i : Int) + 1) = ((i + 1 : Nat) : Int) by unfold wrap64; omega]
      exact evPos hb e
    | false =>
      refine ⟨i, evStep (evPos (by omega) (evPos (by omega) ?_)), ⟨by omega, hj, fun j h1 h2 => not_less_up h hb h1 h2⟩⟩
      rw [rdOf_strAt]
      exact evNeg (by rw [hb]; simp) (evNow rfl)
/-- Has a lexicon a word? -/
def hasB (l : List ByteArray) (s : ByteArray) (p : Nat) : Bool := decide (p < l.length) && ((strAt l p).toList == s.toList)
theorem l05Has_ev {l : List ByteArray} (h : lexP l) (s : ByteArray) : ∃ p, Cut l s p ∧ Ev (fun k => spec_l05Has.f k l s) (hasB l s p) := by
  obtain ⟨p, e, c⟩ := first_from h s l.length 0 (by omega) fun j hj => absurd hj (Nat.not_lt_zero j)
  refine ⟨p, c, ?_⟩
  unfold spec_l05Has.f hasB
  refine evBind (show Ev (fun k => spec_l05First.f k l s) (p : Int) from e) ?_
  by_cases hp : p < l.length
  · refine evPos (by omega) (evPos (by omega) (evNow ?_))
    rw [rdOf_strAt, decide_eq_true hp, Bool.true_and]
  · refine evNeg (by omega) (evNow ?_)
    rw [decide_eq_false hp, Bool.false_and]
theorem nan_eq (s : ByteArray) : cmp_isNaN_string.f s = some false := by unfold cmp_isNaN_string.f; simp
theorem nan2_eq (s : ByteArray) : slices_isNaN_string.f s = some false := by unfold slices_isNaN_string.f; simp
theorem cless_eq (a b : ByteArray) : cmp_Less_string.f a b = some (Op.bytesLess a.toList b.toList) := by
  unfold cmp_Less_string.f; rw [nan_eq, Option.bind_some, if_neg (by simp)]
theorem half_eq {i j : Nat} (h : i < j) (hj : j ≤ 1000) : wrap64 ((IntKind.u64.wrap (wrap64 ((i : Int) + (j : Int)))) / 2) = (((i + j) / 2 : Nat) : Int) := by
  have e1 : wrap64 ((i : Int) + (j : Int)) = ((i + j : Nat) : Int) := by unfold wrap64; omega
  rw [e1, IntKind.wrap_u64]
  unfold wrap64; omega
theorem bin_from {l : List ByteArray} (h : lexP l) (s : ByteArray) (d : Nat) : ∀ i j : Nat, j - i ≤ d → i ≤ j → j ≤ l.length → (∀ q, q < i → Op.bytesLess (strAt l q).toList s.toList = true) → (∀ q, j ≤ q → q < l.length → Op.bytesLess (strAt l q).toList s.toList = false) →
    ∃ p : Nat, Cut l s p ∧ Ev (fun k => slices_BinarySearch_string_string.l0 k l s (l.length : Int) (i : Int) (j : Int)) ((p : Int), hasB l s p) := by
  have hl := h.1
  have last : ∀ i : Nat, i ≤ l.length → (∀ q, q < i → Op.bytesLess (strAt l q).toList s.toList = true) → (∀ q, i ≤ q → q < l.length → Op.bytesLess (strAt l q).toList s.toList = false) →
      ∃ p : Nat, Cut l s p ∧ Ev (fun k => slices_BinarySearch_string_string.l0 k l s (l.length : Int) (i : Int) (i : Int)) ((p : Int), hasB l s p) := by
    intro i hi h1 h2
    refine ⟨i, ⟨hi, h1, h2⟩, evStep (evNeg (by omega) ?_)⟩
    unfold hasB
    by_cases hp : i < l.length
    · refine evPos (by omega) (evPos (by omega) (evPos (by omega) ?_))
      rw [rdOf_strAt, decide_eq_true hp, Bool.true_and]
      by_cases he : (strAt l i).toList = s.toList
      · exact evPos he (evNow (by rw [beq_iff_eq.2 he]))
      · refine evNeg he ?_
        rw [nan2_eq]
        exact evBindC rfl (evNeg (by simp) (evNow (by rw [beq_eq_false_iff_ne.2 he])))
    · exact evNeg (by omega) (evNow (by rw [decide_eq_false hp, Bool.false_and]))
  induction d with
  | zero =>
    intro i j hd hij hj h1 h2
    have : i = j := by omega
    subst this
    exact last i hj h1 h2
  | succ d ih =>
    intro i j hd hij hj h1 h2
    by_cases hlt : i < j
    · have hm1 : i ≤ (i + j) / 2 := by omega
      have hm2 : (i + j) / 2 < j := by omega
      have eh := half_eq hlt (by omega)
      generalize (i + j) / 2 = m at hm1 hm2 eh
      cases hb : Op.bytesLess (strAt l m).toList s.toList with
      | true =>
        obtain ⟨p, c, e⟩ := ih (m + 1) j (by omega) (by omega) hj (fun q hq => less_down h hb (by omega) (by omega)) h2
        refine ⟨p, c, evStep (evPos (by omega) ?_)⟩
        rw [eh]
        refine evPos (by omega) (evPos (by omega) ?_)
        rw [rdOf_strAt]
        refine evBindC (cless_eq _ _) (evPos hb ?_)
        rw [show wrap64 ((m : Int) + 1) = ((m + 1 : Nat) : Int) by unfold wrap64; omega]
        exact e
      | false =>
        obtain ⟨p, c, e⟩ := ih i m (by omega) (by omega) (by omega) h1 (fun q hq hql => not_less_up h hb hq hql)
        refine ⟨p, c, evStep (evPos (by omega) ?_)⟩
        rw [eh]
        refine evPos (by omega) (evPos (by omega) ?_)
        rw [rdOf_strAt]
        exact evBindC (cless_eq _ _) (evNeg (by rw [hb]; simp) e)
    · have : i = j := by omega
      subst this
      exact last i hj h1 h2
theorem has_ev {l : List ByteArray} (h : lexP l) (s : ByteArray) : ∃ p, Cut l s p ∧ Ev (fun k => impl_Lexicon_has.f k l s) (hasB l s p) := by
  obtain ⟨p, c, e⟩ := bin_from h s l.length 0 l.length (by omega) (by omega) (Nat.le_refl _) (fun q hq => absurd hq (Nat.not_lt_zero q)) (fun q h1 h2 => by omega)
  refine ⟨p, c, ?_⟩
  unfold impl_Lexicon_has.f
  exact evBind (show Ev (fun k => slices_BinarySearch_string_string.f k l s) ((p : Int), hasB l s p) from e) (evNow rfl)
/-- The two tests answer the same. -/
theorem has_both {l : List ByteArray} (h : lexP l) (s : ByteArray) : ∃ b, Ev (fun k => spec_l05Has.f k l s) b ∧ Ev (fun k => impl_Lexicon_has.f k l s) b := by
  obtain ⟨p, c, e⟩ := l05Has_ev h s
  obtain ⟨q, c', e'⟩ := has_ev h s
  rw [c.unique c'] at e
  exact ⟨_, e, e'⟩
theorem mark_from (d : Nat) : ∀ (x : Int) (acc : ByteArray), 0 ≤ x → x ≤ 4000000000000 → x.toNat < 10 ^ d → acc.size + d ≤ 1000 → ∃ r, Ev (fun k => laws_markText.l0 k x acc) r := by
  induction d with
  | zero =>
    intro x acc h0 hm h1 h2
    have hx : x = 0 := by
      have : x.toNat < 1 := by simpa using h1
      omega
    subst hx
    exact ⟨_, evStep (evNeg (by omega) (evPos (by omega) (evNow rfl)))⟩
  | succ d ih =>
    intro x acc h0 hm h1 h2
    by_cases hx : x > 0
    · have ed : wrap64 (Int.tdiv x 10) = ((x.toNat / 10 : Nat) : Int) := by
        obtain ⟨n, rfl⟩ := Int.eq_ofNat_of_zero_le h0
        have : Int.tdiv (n : Int) 10 = ((n / 10 : Nat) : Int) := rfl
        rw [this, Int.toNat_natCast]
        unfold wrap64; omega
      have hlt : x.toNat / 10 < 10 ^ d := by
        rw [Nat.pow_succ] at h1
        exact Nat.div_lt_of_lt_mul (by rw [Nat.mul_comm]; exact h1)
      have hz : ∀ y : Int, (strOfNums [y] ++ acc).size = acc.size + 1 := fun y => by rw [ByteArray.size_append, strOfNums_size]; simp; omega
      obtain ⟨r, e⟩ := ih ((x.toNat / 10 : Nat) : Int) (strOfNums [(wrap64 (48 + (Int.tmod x 10))) % 256] ++ acc) (by omega) (by omega) (by rw [Int.toNat_natCast]; exact hlt) (by rw [hz]; omega)
      refine ⟨r, evStep (evPos hx (evBindC rfl (evPos (by rw [strOfNums_size]; simp; omega) ?_)))⟩
      rw [ed]; exact e
    · exact ⟨_, evStep (evNeg hx (evPos (by omega) (evNow rfl)))⟩
theorem mark_some (x : Int) (h0 : 0 ≤ x) (h1 : x ≤ 4000000000000) : ∃ r, Ev (fun k => laws_markText.f k x) r := by
  unfold laws_markText.f
  by_cases hx : x ≤ 0
  · exact ⟨_, evPos hx (evNow rfl)⟩
  · have hn : x.toNat < 10 ^ 13 := by
      have : x.toNat ≤ 4000000000000 := by omega
      exact Nat.lt_of_le_of_lt this (by decide)
    obtain ⟨r, e⟩ := mark_from 13 x (⟨#[]⟩ : ByteArray) h0 h1 hn (by decide)
    exact ⟨r, evNeg hx e⟩
/-- The text that marks a place. -/
noncomputable def markT (x : Int) : ByteArray := if h : 0 ≤ x ∧ x ≤ 4000000000000 then Classical.choose (mark_some x h.1 h.2) else ByteArray.empty
theorem markT_ev (x : Int) (h0 : 0 ≤ x) (h1 : x ≤ 4000000000000) : Ev (fun k => laws_markText.f k x) (markT x) := by
  unfold markT; rw [dif_pos ⟨h0, h1⟩]; exact Classical.choose_spec (mark_some x h0 h1)
theorem marks_from (d : Nat) : ∀ (i : Nat) (xs : List ByteArray) (a : Int), i + d = xs.length → 0 ≤ a → a + d ≤ 4000000000000 → xs.length ≤ 4000000000000 →
    ∃ ys, Ev (fun k => laws_markStringS.l0 k xs a (i : Int)) (a + d, ys) ∧ ys.length = xs.length ∧ (∀ j : Nat, j < i → rdOf ByteArray.empty ys (j : Int) = rdOf ByteArray.empty xs (j : Int)) ∧ ∀ j : Nat, i ≤ j → j < xs.length → rdOf ByteArray.empty ys (j : Int) = markT (a + ((j : Int) - i)) := by
  induction d with
  | zero =>
    intro i xs a hi h0 h1 h2
    exact ⟨xs, evStep (evNeg (by omega) (evNow (by simp))), rfl, fun _ _ => rfl, fun j h1 h2 => by omega⟩
  | succ d ih =>
    intro i xs a hi h0 h1 h2
    have ew1 : wrap64 (a + 1) = a + 1 := by unfold wrap64; omega
    have ew2 : wrap64 ((i : Int) + 1) = ((i + 1 : Nat) : Int) := by unfold wrap64; omega
    obtain ⟨ys, e, l1, l2, l3⟩ := ih (i + 1) (xs.set i (markT a)) (a + 1) (by rw [List.length_set]; omega) (by omega) (by omega) (by rw [List.length_set]; omega)
    rw [List.length_set] at l1 l3
    refine ⟨ys, evStep (evPos (by omega) (evBind (markT_ev a h0 (by omega)) (evPos (by omega) ?_))), l1, ?_, ?_⟩
    · rw [ew1, ew2, Int.toNat_natCast]
      refine evTo e ?_
      congr 1
      omega
    · intro j hj
      rw [l2 j (by omega)]
      unfold rdOf
      rw [Int.toNat_natCast, List.getD_eq_getElem?_getD, List.getD_eq_getElem?_getD, List.getElem?_set_ne (by omega)]
    · intro j hj hjl
      by_cases hji : j = i
      · subst hji
        rw [l2 j (by omega)]
        unfold rdOf
        rw [Int.toNat_natCast, List.getD_eq_getElem?_getD, List.getElem?_set_self (by omega)]
        simp
      · rw [l3 j (by omega) hjl]
        congr 1; omega
/-- Marking a list: each place has its own mark. -/
theorem marks_ev (xs : List ByteArray) (a : Int) (h0 : 0 ≤ a) (h1 : a + xs.length ≤ 4000000000000) :
    ∃ ys, Ev (fun k => laws_markStringS.f k xs a) (a + xs.length, ys) ∧ ys.length = xs.length ∧ ∀ j : Nat, j < xs.length → rdOf ByteArray.empty ys (j : Int) = markT (a + (j : Int)) := by
  obtain ⟨ys, e, l1, _, l3⟩ := marks_from xs.length 0 xs a (by omega) h0 h1 (by omega)
  refine ⟨ys, e, l1, fun j hj => ?_⟩
  rw [l3 j (Nat.zero_le _) hj]
  congr 1
theorem held_from (ys : List ByteArray) (b : Int) (hb : 0 ≤ b) (hy : ∀ j : Nat, j < ys.length → rdOf ByteArray.empty ys (j : Int) = markT (b + (j : Int))) (hl : b + ys.length ≤ 4000000000000) (d : Nat) : ∀ (i : Nat), i + d = ys.length →
    Ev (fun k => laws_heldStringS.l0 k ys (b + (i : Int)) (i : Int)) (b + ys.length) := by
  induction d with
  | zero =>
    intro i hi
    exact evStep (evNeg (by omega) (evNow (by rw [show i = ys.length by omega])))
  | succ d ih =>
    intro i hi
    have ew1 : wrap64 (b + (i : Int) + 1) = b + ((i + 1 : Nat) : Int) := by unfold wrap64; omega
    have ew2 : wrap64 ((i : Int) + 1) = ((i + 1 : Nat) : Int) := by unfold wrap64; omega
    refine evStep (evPos (by omega) (evPos (by omega) (evBind (markT_ev _ (by omega) (by omega)) (evPos (by rw [hy i (by omega)]) ?_))))
    rw [ew1, ew2]
    exact ih (i + 1) (by omega)
/-- The marks are found again. -/
theorem held_ev (ys : List ByteArray) (b : Int) (hb : 0 ≤ b) (hy : ∀ j : Nat, j < ys.length → rdOf ByteArray.empty ys (j : Int) = markT (b + (j : Int))) (hl : b + ys.length ≤ 4000000000000) : Ev (fun k => laws_heldStringS.f k ys b) (b + ys.length) := by
  have h := held_from ys b hb hy hl ys.length 0 (by omega)
  rw [show b + ((0 : Nat) : Int) = b by omega] at h
  exact h
theorem keep_both {l : List ByteArray} (h : lexP l) (ws : List ByteArray) (d : Nat) : ∀ (i : Nat) (out : List ByteArray), i + d = ws.length →
    ∃ r, Ev (fun k => keepLoop (spec_l05Has.f k l) ws i d out) r ∧ Ev (fun k => keepLoop (impl_Lexicon_has.f k l) ws i d out) r ∧ r.length ≤ out.length + d := by
  induction d with
  | zero => intro i out hi; exact ⟨out, evNow rfl, evNow rfl, by omega⟩
  | succ d ih =>
    intro i out hi
    obtain ⟨b, e1, e2⟩ := has_both h (strAt ws i)
    cases b with
    | true =>
      obtain ⟨r, f1, f2, f3⟩ := ih (i + 1) out (by omega)
      refine ⟨r, ?_, ?_, by omega⟩
      · show Ev (fun k => (spec_l05Has.f k l (strAt ws i)).bind _) r
        exact evBind e1 (evPos rfl f1)
      · show Ev (fun k => (impl_Lexicon_has.f k l (strAt ws i)).bind _) r
        exact evBind e2 (evPos rfl f2)
    | false =>
      obtain ⟨r, f1, f2, f3⟩ := ih (i + 1) (out ++ [strAt ws i]) (by omega)
      rw [List.length_append, List.length_singleton] at f3
      refine ⟨r, ?_, ?_, by omega⟩
      · show Ev (fun k => (spec_l05Has.f k l (strAt ws i)).bind _) r
        exact evBind e1 (evNeg (by simp) f1)
      · show Ev (fun k => (impl_Lexicon_has.f k l (strAt ws i)).bind _) r
        exact evBind e2 (evNeg (by simp) f2)
/-- Adjudicate: both answer the same. -/
theorem adj_both (l ws : List ByteArray) (hl : l.length ≤ 1048576) (hs : ∀ s ∈ l, s.size ≤ 1048576) (hw : ws.length ≤ 1048576) :
    ∃ V, Ev (fun k => spec_Adjudicate.f k l ws) V ∧ Ev (fun k => impl_Adjudicate.f k l ws) V ∧ V.1.length ≤ ws.length := by
  obtain ⟨b, e1, hb⟩ := l05Ok_ev l fun s h => by have := hs s h; omega
  obtain ⟨c, e2, hc⟩ := validLexicon_ev l (by omega) fun s h => by have := hs s h; omega
  have hbc : b = c := by rw [Bool.eq_iff_iff, hb, hc]
  subst hbc
  unfold spec_Adjudicate.f impl_Adjudicate.f adjWith
  cases b with
  | false => exact ⟨([], 1), evBind e1 (evNeg (by simp) (evNow rfl)), evBind e2 (evNeg (by simp) (evNow rfl)), Nat.zero_le _⟩
  | true =>
    obtain ⟨r, f1, f2, f3⟩ := keep_both (hb.1 rfl) ws ws.length 0 [] (by omega)
    rw [List.length_nil, Nat.zero_add] at f3
    exact ⟨(r, 0), evBind e1 (evPos rfl (evPos (by omega) (evBind f1 (evNow rfl)))), evBind e2 (evPos rfl (evPos (by omega) (evBind f2 (evNow rfl)))), f3⟩
theorem FnExactAdjudicate : laws_FnExactAdjudicate.Pure := by
  intro x ws hx hw
  refine Ev.rounds (?_ : Ev (fun k => laws_FnExactAdjudicate.f k x.f0 ws) true)
  obtain ⟨h0, h0s⟩ : x.f0.length ≤ 9223372036854775807 ∧ ∀ y ∈ x.f0, y.size ≤ 9223372036854775807 := hx
  obtain ⟨h1, h1s⟩ := hw
  unfold laws_FnExactAdjudicate.f
  obtain ⟨r, e, hr⟩ := szStrs x.f0 h0 h0s 1048576 (by omega) (by omega)
  have sz : ∀ V, (r < 0 → V = -1) → (¬ r < 0 → V = r) → Ev (fun k => laws_szLexicon.f k x.f0 1048576) V := by
    intro V v1 v2
    unfold laws_szLexicon.f
    by_cases hn : r < 0
    · rw [v1 hn]; exact evBind e (evPos hn (evNow rfl))
    · rw [v2 hn]; exact evBind e (evNeg hn (evNow rfl))
  rcases hr with hr | ⟨hr0, hr1, hr2, hr3⟩
  · exact evBind (sz (-1) (fun _ => rfl) (fun h => absurd hr h)) (evPos (by omega) (evNow rfl))
  refine evBind (sz r (fun h => by omega) (fun _ => rfl)) (evNeg (by omega) ?_)
  obtain ⟨q, eq, hq⟩ := szStrs ws h1 h1s r hr0 (by omega)
  rcases hq with hq | ⟨hq0, hq1, hq2, hq3⟩
  · exact evBind eq (evPos hq (evNow rfl))
  refine evBind eq (evNeg (by omega) ?_)
  have tl : Ev (fun k => laws_toLexicon.f k x.f0) x.f0 := by
    unfold laws_toLexicon.f; exact evBind (copyStrs _ (by omega)) (evNow rfl)
  have tw : Ev (fun k => laws_toStringS.f k ws) ws := copyStrs _ (by omega)
  obtain ⟨V, v1, v2, v3⟩ := adj_both x.f0 ws (by omega) (fun s hs => by have := hr3 s hs; omega) (by omega)
  have same : ∀ l : List ByteArray, l.length ≤ 9223372036854775807 → Ev (fun k => laws_eqStringS.f k l l) true := fun l hl => by
    have := lawsEq l l hl
    rwa [strsB_refl] at this
  refine evBind tl (evBind tw (evBind v1 (evBind tl (evBind tw (evBind v2 (evBind (same V.1 (by omega)) (evPos rfl ?_)))))))
  have hne : (V.2 != V.2) = false := by simp
  rw [hne]
  refine Ev.step (fun m => by rw [laws_FnExactAdjudicate.j0]) ?_
  refine evNeg (by simp) (evBind tl (evBind (?_ : Ev _ true) (evPos rfl (evBind tw (evBind (same ws (by omega)) (evPos rfl ?_))))))
  · unfold laws_eqLexicon.f
    exact evBind (same _ (by omega)) (evPos rfl (evNow rfl))
  obtain ⟨m0, e0, ml0, _⟩ := marks_ev x.f0 1 (by omega) (by omega)
  have em0 : Ev (fun k => laws_markLexicon.f k x.f0 1) (1 + (x.f0.length : Int), m0) := by
    unfold laws_markLexicon.f; exact evBind e0 (evNow rfl)
  obtain ⟨m1, e1, ml1, _⟩ := marks_ev ws (1 + (x.f0.length : Int)) (by omega) (by omega)
  refine evBind em0 (evBind e1 (evNeg (by show ¬ (1 + (x.f0.length : Int) + ws.length < 0); omega) (evBind (same V.1 (by omega)) (evPos rfl ?_))))
  rw [hne]
  obtain ⟨m2, e2, ml2, mm2⟩ := marks_ev V.1 1 (by omega) (by omega)
  have hh := held_ev m2 1 (by omega) (fun j hj => mm2 j (by omega)) (by omega)
  rw [ml2] at hh
  refine Ev.step (fun m => by rw [laws_FnExactAdjudicate.j1]) ?_
  refine evNeg (by simp) (evBind e2 (evBind hh (evNeg (by omega) (evPos rfl (evBind tl (evBind tw (evBind v2 (evBind (same V.1 (by omega)) (evPos rfl ?_)))))))))
  rw [hne]
  refine Ev.step (fun m => by rw [laws_FnExactAdjudicate.j2]) ?_
  exact evNeg (by simp) (evBind hh (evNeg (by omega) (evPos rfl (evNow rfl))))

end Go.Proofs.Ytjolcfheommchaa.Pure

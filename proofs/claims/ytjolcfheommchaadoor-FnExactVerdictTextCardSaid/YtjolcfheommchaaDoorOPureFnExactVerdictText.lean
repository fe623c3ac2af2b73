/- For every verdict, the program's VerdictText is the reference's, and the argument is left as it was. Conditions: none beyond the statement. -/
import Derived.Test.YtjolcfheommchaaDoorOFnExactVerdictTextx3
namespace Go.Proofs.YtjolcfheommchaaDoor.Pure
open Go.RowKit Go.Proofs.YtjolcfheommchaaDoor.OFnExactVerdictText Go.Proofs.YtjolcfheommchaaDoorW.PrintWords Go.Proofs.YtjolcfheommchaaDoorW.PrintLast Go.Proofs.YtjolcfheommchaaDoorW.PrintMore Go.Proofs.YtjolcfheommchaaDoor.G
set_option linter.unusedVariables false
set_option linter.unusedSimpArgs false
theorem evPos {α : Type} {c : Prop} [Decidable c] {f g : Nat → Option α} {r : α} (hc : c) (h : Ev f r) : Ev (fun k => if c then f k else g k) r := by
  simpa only [if_pos hc] using h
theorem evNeg {α : Type} {c : Prop} [Decidable c] {f g : Nat → Option α} {r : α} (hc : ¬ c) (h : Ev g r) : Ev (fun k => if c then f k else g k) r := by
  simpa only [if_neg hc] using h
theorem evBindC {α β : Type} {o : Option α} {a : α} {f : Nat → α → Option β} {r : β} (ho : o = some a) (h : Ev (fun k => f k a) r) : Ev (fun k => o.bind (f k)) r := by
  subst ho; exact h
theorem evBind {α β : Type} {g : Nat → Option α} {f : Nat → α → Option β} {a : α} {r : β} (h : Ev g a) (k : Ev (fun n => f n a) r) : Ev (fun n => (g n).bind (f n)) r := Ev.bind h k
theorem evNow {α : Type} {a r : α} (h : a = r) : Ev (fun _ => some a) r := h ▸ Ev.now a
theorem evStep {α : Type} {g : Nat → Option α} {r : α} (h : Ev (fun k => g (k + 1)) r) : Ev g r := Ev.step (fun _ => rfl) h
theorem evTo {α : Type} {g : Nat → Option α} {a r : α} (h : Ev g a) (e : a = r) : Ev g r := e ▸ h
theorem baEq {a b : ByteArray} : a.toList = b.toList ↔ a = b := by
  constructor
  · intro h
    rw [ByteArray.toList_eq, ByteArray.toList_eq] at h
    cases a; cases b
    simp only [ByteArray.mk.injEq]
    exact Array.toList_inj.1 h
  · rintro rfl; rfl
theorem rdOf_get {α : Type} {d : α} (xs : List α) (i : Nat) (h : i < xs.length) : rdOf d xs (i : Int) = xs[i] := by
  unfold rdOf; rw [Int.toNat_natCast, List.getD_eq_getElem?_getD, List.getElem?_eq_getElem h]; rfl
theorem drop_rdOf {α : Type} (d : α) (xs : List α) (i : Int) (h0 : 0 ≤ i) (h : i < (xs.length : Int)) : xs.drop i.toNat = rdOf d xs i :: xs.drop (i + 1).toNat := by
  obtain ⟨n, rfl⟩ := Int.eq_ofNat_of_zero_le h0
  have hn : n < xs.length := by omega
  rw [rdOf_get xs n hn, Int.toNat_natCast, List.drop_eq_getElem_cons hn]
  congr 2
theorem drop_at_end {α : Type} (xs : List α) (i : Int) (h : (xs.length : Int) ≤ i) : xs.drop i.toNat = [] := List.drop_of_length_le (by omega)
theorem wrapIncL {i : Int} {n : Nat} (h0 : 0 ≤ i) (h : i < (n : Int)) (hn : n ≤ 9223372036854775807) : wrap64 (i + 1) = i + 1 := by
  unfold wrap64; omega
/-- What the sizes' loop comes to from index i on: below 0, or what is left. -/
theorem szStrs_from (l : List ByteArray) (hl : l.length ≤ 9223372036854775807) (hs : ∀ s ∈ l, s.size ≤ 9223372036854775807) (d : Nat) : ∀ (i a : Int), 0 ≤ i → i ≤ l.length → (l.length : Int) - i = d → 0 ≤ a → a ≤ 1048576 →
    ∃ r, Ev (fun k => laws_szStringS.l0 k l a i) r ∧ (r < 0 ∨ (0 ≤ r ∧ r ≤ a ∧ ∀ s ∈ l.drop i.toNat, (s.size : Int) ≤ a)) := by
  induction d with
  | zero =>
    intro i a h0 h1 hd ha ha1
    refine ⟨a, evStep (evNeg (by omega) (evNow rfl)), .inr ⟨ha, Int.le_refl _, ?_⟩⟩
    rw [drop_at_end l i (by omega)]
    intro s hsm; cases hsm
  | succ d ih =>
    intro i a h0 h1 hd ha ha1
    have hlt : i < (l.length : Int) := by omega
    have hdr := drop_rdOf ByteArray.empty l i h0 hlt
    have hmem : rdOf ByteArray.empty l i ∈ l := by
      have : rdOf ByteArray.empty l i ∈ l.drop i.toNat := by rw [hdr]; exact List.mem_cons_self
      exact List.mem_of_mem_drop this
    have hz := hs _ hmem
    have ew : wrap64 (a - ((rdOf ByteArray.empty l i).size : Int)) = a - (rdOf ByteArray.empty l i).size := by unfold wrap64; omega
    by_cases hneg : a - ((rdOf ByteArray.empty l i).size : Int) < 0
    · exact ⟨-1, evStep (evPos hlt (evPos h0 (evPos (by rw [ew]; exact hneg) (evNow rfl)))), .inl (by omega)⟩
    · obtain ⟨r, he, hr⟩ := ih (i + 1) (a - (rdOf ByteArray.empty l i).size) (by omega) (by omega) (by omega) (by omega) (by omega)
      refine ⟨r, evStep (evPos hlt (evPos h0 (evNeg (by rw [ew]; exact hneg) ?_))), ?_⟩
      · rw [ew, wrapIncL h0 hlt hl]; exact he
      · rcases hr with hr | ⟨hr0, hr1, hr2⟩
        · exact .inl hr
        · refine .inr ⟨hr0, by omega, fun s hsm => ?_⟩
          rw [hdr] at hsm
          rcases List.mem_cons.1 hsm with rfl | hsm
          · omega
          · have := hr2 s hsm; omega
/-- The sizes of a list of strings: below 0 (too much), or what is left of a. -/
theorem szStrs (l : List ByteArray) (hl : l.length ≤ 9223372036854775807) (hs : ∀ s ∈ l, s.size ≤ 9223372036854775807) (a : Int) (ha : 0 ≤ a) (ha1 : a ≤ 1048576) :
    ∃ r, Ev (fun k => laws_szStringS.f k l a) r ∧ (r < 0 ∨ (0 ≤ r ∧ r ≤ a ∧ (l.length : Int) ≤ a ∧ ∀ s ∈ l, (s.size : Int) ≤ a)) := by
  have ew : wrap64 (a - (l.length : Int)) = a - l.length := by unfold wrap64; omega
  unfold laws_szStringS.f
  by_cases hneg : a - (l.length : Int) < 0
  · exact ⟨-1, evPos (by rw [ew]; exact hneg) (evNow rfl), .inl (by omega)⟩
  · obtain ⟨r, he, hr⟩ := szStrs_from l hl hs l.length 0 (a - l.length) (by omega) (by omega) (by omega) (by omega) (by omega)
    refine ⟨r, evNeg (by rw [ew]; exact hneg) (by rw [ew]; exact he), ?_⟩
    rcases hr with hr | ⟨hr0, hr1, hr2⟩
    · exact .inl hr
    · exact .inr ⟨hr0, by omega, by omega, fun s hsm => by have := hr2 s hsm; omega⟩
theorem copyStrs_from (l : List ByteArray) (hl : l.length ≤ 1048576) (d : Nat) : ∀ (i : Int) (o : List ByteArray), 0 ≤ i → i ≤ l.length → (l.length : Int) - i = d → o.length = l.length → o.take i.toNat = l.take i.toNat →
    Ev (fun k => laws_toStringS.l0 k l o i) l := by
  induction d with
  | zero =>
    intro i o h0 h1 hd ho he
    refine evStep (evNeg (by omega) (evNow ?_))
    rw [List.take_of_length_le (by omega), List.take_of_length_le (by omega)] at he
    exact he
  | succ d ih =>
    intro i o h0 h1 hd ho he
    have hlt : i < (l.length : Int) := by omega
    refine evStep (evPos hlt (evPos h0 (evPos (by omega) ?_)))
    rw [wrapIncL h0 hlt (by omega)]
    refine ih (i + 1) _ (by omega) (by omega) (by omega) (by simpa using ho) ?_
    obtain ⟨n, rfl⟩ := Int.eq_ofNat_of_zero_le h0
    have hn : n < l.length := by omega
    rw [show ((n : Int) + 1).toNat = n + 1 by omega, Int.toNat_natCast, rdOf_get l n hn]
    rw [Int.toNat_natCast] at he
    rw [List.take_succ_eq_append_getElem (by simp; omega), List.take_succ_eq_append_getElem hn, List.take_set_of_le (Nat.le_refl _), he]
    simp
/-- The copy of a list of strings is the list. -/
theorem copyStrs (l : List ByteArray) (hl : l.length ≤ 1048576) : Ev (fun k => laws_toStringS.f k l) l := by
  unfold laws_toStringS.f
  exact evPos (by omega) (evPos (by omega) (copyStrs_from l hl l.length 0 _ (by omega) (by omega) (by omega) (by simp) (by simp)))
/-- Two lists of strings are equal. -/
def strsB (a b : List ByteArray) : Bool := decide (a.map ByteArray.toList = b.map ByteArray.toList)
theorem strsB_iff {a b : List ByteArray} : strsB a b = true ↔ a = b := by
  unfold strsB
  rw [decide_eq_true_eq]
  exact ⟨fun h => (List.map_inj_right (fun x y h => baEq.1 h)).1 h, fun h => by rw [h]⟩
theorem strsB_refl (a : List ByteArray) : strsB a a = true := strsB_iff.2 rfl
theorem strsB_len {a b : List ByteArray} (h : ¬ (a.length : Int) = b.length) : strsB a b = false := by
  rw [Bool.eq_false_iff]; intro e; rw [strsB_iff] at e; exact h (by rw [e])
theorem strsB_drop {a b : List ByteArray} {i : Int} (h0 : 0 ≤ i) (ha : i < (a.length : Int)) (hb : i < (b.length : Int)) :
    strsB (a.drop i.toNat) (b.drop i.toNat) = (decide ((rdOf ByteArray.empty a i).toList = (rdOf ByteArray.empty b i).toList) && strsB (a.drop (i + 1).toNat) (b.drop (i + 1).toNat)) := by
  rw [drop_rdOf ByteArray.empty a i h0 ha, drop_rdOf ByteArray.empty b i h0 hb]
  unfold strsB
  simp only [List.map_cons, List.cons.injEq, Bool.decide_and]
theorem lawsEq_from (a b : List ByteArray) (hl : a.length = b.length) (hm : a.length ≤ 9223372036854775807) (d : Nat) : ∀ i : Int, 0 ≤ i → i ≤ a.length → (a.length : Int) - i = d →
    Ev (fun k => laws_eqStringS.l0 k a b i) (strsB (a.drop i.toNat) (b.drop i.toNat)) := by
  induction d with
  | zero =>
    intro i h0 h1 hd
    refine evStep (evNeg (by omega) (evNow ?_))
    rw [drop_at_end a i (by omega), drop_at_end b i (by omega)]; exact (strsB_refl _).symm
  | succ d ih =>
    intro i h0 h1 hd
    have hlt : i < (a.length : Int) := by omega
    rw [strsB_drop h0 hlt (by omega)]
    refine evStep (evPos hlt (evPos h0 (evPos (by omega) ?_)))
    by_cases he : (rdOf ByteArray.empty a i).toList = (rdOf ByteArray.empty b i).toList
    · refine evPos he ?_
      rw [wrapIncL h0 hlt hm, decide_eq_true he, Bool.true_and]
      exact ih (i + 1) (by omega) (by omega) (by omega)
    · exact evNeg he (evNow (by rw [decide_eq_false he, Bool.false_and]))
theorem lawsEq (a b : List ByteArray) (hm : a.length ≤ 9223372036854775807) : Ev (fun k => laws_eqStringS.f k a b) (strsB a b) := by
  unfold laws_eqStringS.f
  by_cases h : (a.length : Int) = b.length
  · exact evPos h (lawsEq_from a b (by omega) hm a.length 0 (by omega) (by omega) (by omega))
  · exact evNeg h (evNow (strsB_len h).symm)
/-- The digits of a number as numbers. -/
def decI (m : Nat) : List Int := (Lib.decDigits m).map fun b => (b.toNat : Int)
theorem strOfNums_app (a b : List Int) : strOfNums (a ++ b) = strOfNums a ++ strOfNums b := by
  apply ByteArray.ext
  apply Array.ext'
  rw [ByteArray.data_append, Array.toList_append, strOfNums_data, strOfNums_data, strOfNums_data, List.map_append]
theorem strOfNums_decI (m : Nat) : strOfNums (decI m) = ⟨(Lib.decDigits m).toArray⟩ := by
  apply ByteArray.ext
  apply Array.ext'
  rw [strOfNums_data]
  unfold decI
  rw [List.map_map]
  refine (List.map_congr_left (g := id) fun b _ => ?_).trans (by simp)
  simp
theorem decI_small {m : Nat} (h : m < 10) : decI m = [(48 + m : Int)] := by
  unfold decI
  rw [Lib.decDigits, dif_pos h, List.map_singleton, UInt8.toNat_ofNat', Nat.mod_eq_of_lt (by omega)]
  congr 1
theorem decI_big {m : Nat} (h : ¬ m < 10) : decI m = decI (m / 10) ++ [(48 + (m % 10 : Nat) : Int)] := by
  have e : Lib.decDigits m = Lib.decDigits (m / 10) ++ [UInt8.ofNat (48 + m % 10)] := by
    rw [Lib.decDigits, dif_neg h]
  unfold decI
  rw [e, List.map_append, List.map_singleton, UInt8.toNat_ofNat', Nat.mod_eq_of_lt (by omega)]
  congr 2
theorem decI_ne (m : Nat) : decI m ≠ [] := by
  by_cases h : m < 10
  · rw [decI_small h]; exact List.cons_ne_nil _ _
  · rw [decI_big h]; simp
theorem decI_len {m j : Nat} (h : m < 10 ^ (j + 1)) : (decI m).length ≤ j + 1 := by
  induction j generalizing m with
  | zero => rw [decI_small (by simpa using h)]; exact Nat.le_refl _
  | succ j ih =>
    by_cases hs : m < 10
    · rw [decI_small hs]; simp
    · rw [decI_big hs, List.length_append, List.length_singleton]
      have : m / 10 < 10 ^ (j + 1) := by
        rw [Nat.pow_succ] at h
        exact Nat.div_lt_of_lt_mul (by rw [Nat.mul_comm]; exact h)
      have := ih this
      omega
/-- The sign is put ahead. -/
def signed (n : Int) (l : List Int) : ByteArray := if n < 0 then (⟨#[45]⟩ : ByteArray) ++ strOfNums l else strOfNums l
theorem dec_step {k : Int} : ((Int.tmod k 10) < 0 → wrap64 (48 + (wrap64 (-(Int.tmod k 10)))) % 256 = 48 + ((k.natAbs % 10 : Nat) : Int)) ∧ (¬ (Int.tmod k 10) < 0 → wrap64 (48 + (Int.tmod k 10)) % 256 = 48 + ((k.natAbs % 10 : Nat) : Int)) := by
  rcases Int.lt_or_le k 0 with hk | hk
  · obtain ⟨m, hm⟩ : ∃ m : Nat, k = -(m : Int) := ⟨k.natAbs, by omega⟩
    subst hm
    have e : Int.tmod (-(m : Int)) 10 = -((m % 10 : Nat) : Int) := by rw [Int.neg_tmod]; rfl
    rw [e]
    have hn : (-(m : Int)).natAbs = m := by omega
    rw [hn]
    constructor
    · intro h; unfold wrap64; omega
    · intro h; unfold wrap64; omega
  · obtain ⟨m, rfl⟩ := Int.eq_ofNat_of_zero_le hk
    have e : Int.tmod (m : Int) 10 = ((m % 10 : Nat) : Int) := rfl
    rw [e, Int.natAbs_natCast]
    constructor
    · intro h; omega
    · intro h; unfold wrap64; omega
theorem dec_next {k : Int} (h : -9223372036854775808 ≤ k) (h' : k ≤ 9223372036854775807) : wrap64 (Int.tdiv k 10) = Int.tdiv k 10 ∧ (Int.tdiv k 10).natAbs = k.natAbs / 10 ∧ -9223372036854775808 ≤ Int.tdiv k 10 ∧ Int.tdiv k 10 ≤ 9223372036854775807 := by
  have hn : (Int.tdiv k 10).natAbs = k.natAbs / 10 := by rw [Int.natAbs_tdiv]; rfl
  have hb : -9223372036854775808 ≤ Int.tdiv k 10 ∧ Int.tdiv k 10 ≤ 9223372036854775807 := by omega
  exact ⟨by unfold wrap64; omega, hn, hb.1, hb.2⟩
theorem dec_from (x0 : Int) (j : Nat) : ∀ (k : Int) (out : List Int), -9223372036854775808 ≤ k → k ≤ 9223372036854775807 → k ≠ 0 → k.natAbs < 10 ^ (j + 1) → out.length + j ≤ 100 →
    Ev (fun n => spec_l01Dec.l0 n x0 out k) (signed x0 (decI k.natAbs ++ out)) := by
  induction j with
  | zero =>
    intro k out h0 h1 hk hm hl
    obtain ⟨d1, d2⟩ := @dec_step k
    obtain ⟨e1, e2, e3, e4⟩ := dec_next h0 h1
    have hm' : k.natAbs < 10 := by simpa using hm
    have hz : Int.tdiv k 10 = 0 := by omega
    have hfin : ∀ d : Int, d = 48 + ((k.natAbs % 10 : Nat) : Int) → Ev (fun n => spec_l01Dec.l0 n x0 ([d] ++ out) (wrap64 (Int.tdiv k 10))) (signed x0 (decI k.natAbs ++ out)) := by
      intro d hd
      rw [e1, hz, decI_small hm', hd, Nat.mod_eq_of_lt hm']
      refine evStep ?_
      refine evPos rfl ?_
      refine evNeg (by simp; omega) ?_
      unfold signed
      by_cases hx : x0 < 0
      · refine evTo ?_ (if_pos hx).symm
        exact evPos hx (evPos (by rw [strOfNums_size]; simp; omega) (evNow rfl))
      · refine evTo ?_ (if_neg hx).symm
        exact evNeg hx (evNow rfl)
    refine evStep ?_
    refine evNeg hk ?_
    by_cases hneg : Int.tmod k 10 < 0
    · refine evPos hneg ?_
      refine evBindC rfl ?_
      refine evPos (by simp; omega) ?_
      exact hfin _ (d1 hneg)
    · refine evNeg hneg ?_
      refine evBindC rfl ?_
      refine evPos (by simp; omega) ?_
      exact hfin _ (d2 hneg)
  | succ j ih =>
    intro k out h0 h1 hk hm hl
    obtain ⟨d1, d2⟩ := @dec_step k
    obtain ⟨e1, e2, e3, e4⟩ := dec_next h0 h1
    have hfin : ∀ d : Int, d = 48 + ((k.natAbs % 10 : Nat) : Int) → Ev (fun n => spec_l01Dec.l0 n x0 ([d] ++ out) (wrap64 (Int.tdiv k 10))) (signed x0 (decI k.natAbs ++ out)) := by
      intro d hd
      rw [e1]
      by_cases hm' : k.natAbs < 10
      · have hz : Int.tdiv k 10 = 0 := by omega
        rw [hz, decI_small hm', hd, Nat.mod_eq_of_lt hm']
        refine evStep ?_
        refine evPos rfl ?_
        refine evNeg (by simp; omega) ?_
        unfold signed
        by_cases hx : x0 < 0
        · refine evTo ?_ (if_pos hx).symm
          exact evPos hx (evPos (by rw [strOfNums_size]; simp; omega) (evNow rfl))
        · refine evTo ?_ (if_neg hx).symm
          exact evNeg hx (evNow rfl)
      · have := ih (Int.tdiv k 10) ([d] ++ out) e3 e4 (by omega) (by
          rw [e2]
          rw [Nat.pow_succ] at hm
          exact Nat.div_lt_of_lt_mul (by rw [Nat.mul_comm]; exact hm)) (by simp; omega)
        rw [decI_big hm', List.append_assoc, ← hd, ← e2]
        exact this
    refine evStep ?_
    refine evNeg hk ?_
    by_cases hneg : Int.tmod k 10 < 0
    · refine evPos hneg ?_
      refine evBindC rfl ?_
      refine evPos (by simp; omega) ?_
      exact hfin _ (d1 hneg)
    · refine evNeg hneg ?_
      refine evBindC rfl ?_
      refine evPos (by simp; omega) ?_
      exact hfin _ (d2 hneg)
/-- The reference's decimal form is the program's. -/
theorem l01Dec_ev (n : Int) (h0 : -9223372036854775808 ≤ n) (h1 : n ≤ 9223372036854775807) : Ev (fun k => spec_l01Dec.f k n) (decS n) := by
  by_cases hn : n = 0
  · subst hn
    show Ev (fun k => spec_l01Dec.l0 k 0 (([] : List Int)) 0) _
    refine evStep ?_
    refine evPos rfl ?_
    refine evPos rfl ?_
    refine evNow ?_
    have : Lib.decDigits 0 = [48] := by rw [Lib.decDigits]; rfl
    unfold decS Lib.itoa
    rw [if_neg (by omega), Int.toNat_zero, this]
  · have h := dec_from n 19 n [] h0 h1 hn (by have : n.natAbs ≤ 9223372036854775808 := by omega
                                              exact Nat.lt_of_le_of_lt this (by decide)) (by simp)
    refine evTo h ?_
    unfold signed decS Lib.itoa
    rw [List.append_nil, strOfNums_decI]
    by_cases hneg : n < 0
    · rw [if_pos hneg, if_pos hneg]
      apply ByteArray.ext
      apply Array.ext'
      rw [ByteArray.data_append, Array.toList_append]
      rfl
    · rw [if_neg hneg, if_neg hneg]
      have : n.natAbs = n.toNat := by omega
      rw [this]
theorem decS_size (n : Int) (h0 : -9223372036854775808 ≤ n) (h1 : n ≤ 9223372036854775807) : (decS n).size ≤ 30 := by
  have hl : (Lib.decDigits n.natAbs).length ≤ 20 := by
    have := decI_len (m := n.natAbs) (j := 19) (Nat.lt_of_le_of_lt (show n.natAbs ≤ 9223372036854775808 by omega) (by decide))
    unfold decI at this
    rwa [List.length_map] at this
  show (Lib.itoa n).toArray.size ≤ 30
  unfold Lib.itoa
  by_cases hneg : n < 0
  · rw [if_pos hneg]; simp; omega
  · rw [if_neg hneg]
    have : n.natAbs = n.toNat := by omega
    rw [this] at hl
    simp; omega
theorem join_nums (l : List ByteArray) (hs : ∀ s ∈ l, s.size ≤ 1048576) : (Lib.join (l.map (·.data.toList)) [32]).length ≤ l.length * 1048577 := by
  cases l with
  | nil => simp [Lib.join_nil]
  | cons x r =>
    rw [List.map_cons, Lib.join_cons, List.length_append]
    have hx := hs x (List.mem_cons_self ..)
    have hx' : x.data.toList.length = x.size := rfl
    have : ∀ r : List ByteArray, (∀ s ∈ r, s.size ≤ 1048576) → (Lib.joinTail [32] (r.map (·.data.toList))).length ≤ r.length * 1048577 := by
      intro r
      induction r with
      | nil => intro _; simp [Lib.joinTail]
      | cons y r ih =>
        intro h
        have h1 := ih fun s hs => h s (List.mem_cons_of_mem _ hs)
        have hy := h y (List.mem_cons_self ..)
        have hy' : y.data.toList.length = y.size := rfl
        unfold Lib.joinTail at h1 ⊢
        rw [List.map_cons, List.map_cons, List.flatten_cons, List.length_append, List.length_append, hy']
        simp only [List.length_cons, List.length_nil]
        rw [Nat.succ_mul]
        omega
    have := this r fun s hs' => hs s (List.mem_cons_of_mem _ hs')
    rw [List.length_cons, Nat.succ_mul, hx']
    omega
def baApp (a : ByteArray) (l : List UInt8) : ByteArray := ⟨(a.data.toList ++ l).toArray⟩
theorem baApp_data (a : ByteArray) (l : List UInt8) : (baApp a l).data.toList = a.data.toList ++ l := rfl
theorem ba_ext {a b : ByteArray} (h : a.data.toList = b.data.toList) : a = b := by
  apply ByteArray.ext; apply Array.ext'; exact h
theorem ba_app (a b : ByteArray) : (a ++ b).data.toList = a.data.toList ++ b.data.toList := by
  rw [ByteArray.data_append, Array.toList_append]
theorem l19_from (l : List ByteArray) (hl : l.length ≤ 1048576) (hs : ∀ s ∈ l, s.size ≤ 1048576) (d : Nat) : ∀ (i : Int) (acc : ByteArray), 1 ≤ i → i ≤ l.length → (l.length : Int) - i = d → acc.size + d * 1048577 ≤ 4000000000000 →
    Ev (fun k => spec_l19Join.l0 k l acc i) (baApp acc (Lib.joinTail [32] ((l.drop i.toNat).map (·.data.toList)))) := by
  induction d with
  | zero =>
    intro i acc h0 h1 hd ha
    refine evStep (evNeg (by omega) (evNow ?_))
    rw [drop_at_end l i (by omega)]
    apply ba_ext
    rw [baApp_data]; simp [Lib.joinTail]
  | succ d ih =>
    intro i acc h0 h1 hd ha
    rw [Nat.succ_mul] at ha
    have hlt : i < (l.length : Int) := by omega
    have hdr := drop_rdOf ByteArray.empty l i (by omega) hlt
    have hmem : rdOf ByteArray.empty l i ∈ l := by
      have : rdOf ByteArray.empty l i ∈ l.drop i.toNat := by rw [hdr]; exact List.mem_cons_self
      exact List.mem_of_mem_drop this
    have hz := hs _ hmem
    have hz1 : (acc ++ (⟨#[32]⟩ : ByteArray)).size = acc.size + 1 := by rw [ByteArray.size_append]; rfl
    have hz2 : ((acc ++ (⟨#[32]⟩ : ByteArray)) ++ rdOf ByteArray.empty l i).size = acc.size + 1 + (rdOf ByteArray.empty l i).size := by rw [ByteArray.size_append, hz1]
    refine evStep (evPos hlt (evPos (by omega) (evPos (by omega) (evPos (by omega) (evPos (by omega) ?_)))))
    rw [wrapIncL (by omega) hlt (by omega)]
    refine evTo (ih (i + 1) _ (by omega) (by omega) (by omega) (by omega)) ?_
    apply ba_ext
    rw [baApp_data, baApp_data, ba_app, ba_app, hdr]
    simp [Lib.joinTail]
theorem l19_ev (l : List ByteArray) (hl : l.length ≤ 1048576) (hs : ∀ s ∈ l, s.size ≤ 1048576) : Ev (fun k => spec_l19Join.f k l) (joinS l) := by
  cases l with
  | nil =>
    show Ev (fun k => spec_l19Join.l0 k ([] : List ByteArray) (⟨#[]⟩ : ByteArray) 0) _
    exact evStep (evNeg (by simp) (evNow rfl))
  | cons x r =>
    show Ev (fun k => spec_l19Join.l0 k (x :: r) (⟨#[]⟩ : ByteArray) 0) _
    have hx := hs x (List.mem_cons_self ..)
    have hr : rdOf ByteArray.empty (x :: r) 0 = x := rfl
    have z0 : (⟨#[]⟩ : ByteArray).size = 0 := rfl
    have hz : ((⟨#[]⟩ : ByteArray) ++ x).size = x.size := by rw [ByteArray.size_append, z0, Nat.zero_add]
    have hlen : (x :: r).length = r.length + 1 := rfl
    have hm : r.length * 1048577 ≤ 1048576 * 1048577 := Nat.mul_le_mul_right _ (by omega)
    refine evStep (evPos (by omega) (evNeg (by omega) (evPos (by omega) (evPos (by rw [hr, z0]; omega) ?_))))
    rw [show wrap64 (0 + 1) = 1 by unfold wrap64; omega, hr]
    refine evTo (l19_from (x :: r) hl hs r.length 1 _ (by omega) (by omega) (by omega) (by omega)) ?_
    apply ba_ext
    rw [baApp_data, ba_app]
    show _ = Lib.join ((x :: r).map (·.data.toList)) [32]
    rw [List.map_cons, Lib.join_cons]
    rfl
theorem joined_some (l : List ByteArray) (hl : l.length ≤ 1048576) (hs : ∀ s ∈ l, s.size ≤ 1048576) : impl_joined.f l = some (joinS l) ∧ (joinS l).size ≤ 2000000000000 := by
  have h := join_nums l hs
  have hm : l.length * 1048577 ≤ 1048576 * 1048577 := Nat.mul_le_mul_right _ hl
  refine ⟨?_, ?_⟩
  · unfold impl_joined.f; rw [if_pos ⟨by omega, by omega⟩]
  · show (Lib.join (l.map (·.data.toList)) [32]).toArray.size ≤ _
    rw [List.size_toArray]; omega
theorem wf_i64 {n : Int} (h : (Lit.int .i64 n).wf = true) : -9223372036854775808 ≤ n ∧ n ≤ 9223372036854775807 := by
  have h : (decide (IntKind.i64.min ≤ n) && decide (n ≤ IntKind.i64.max)) = true := h
  rw [Bool.and_eq_true, decide_eq_true_eq, decide_eq_true_eq] at h
  exact h
theorem szVerdict_ev (x : S24) (hb : B24 x) (a : Int) (ha : 0 ≤ a) (ha1 : a ≤ 1048576) :
    ∃ r, Ev (fun k => laws_szVerdict.f k x.f0 x.f1 x.f2 x.f3 a) r ∧ (r < 0 ∨ (0 ≤ r ∧ (x.f0.length ≤ 1048576 ∧ ∀ s ∈ x.f0, s.size ≤ 1048576) ∧ (x.f1.length ≤ 1048576 ∧ ∀ s ∈ x.f1, s.size ≤ 1048576))) := by
  obtain ⟨⟨h0, h0s⟩, ⟨h1, h1s⟩, _, _⟩ := hb
  obtain ⟨r, e, hr⟩ := szStrs x.f0 h0 h0s a ha ha1
  unfold laws_szVerdict.f
  rcases hr with hr | ⟨hr0, hr1, hr2, hr3⟩
  · exact ⟨-1, evBind e (evPos hr (evNow rfl)), .inl (by omega)⟩
  · obtain ⟨r', e', hr'⟩ := szStrs x.f1 h1 h1s r hr0 (by omega)
    rcases hr' with hr' | ⟨hr0', hr1', hr2', hr3'⟩
    · exact ⟨-1, evBind e (evNeg (by omega) (evBind e' (evPos hr' (evNow rfl)))), .inl (by omega)⟩
    · exact ⟨r', evBind e (evNeg (by omega) (evBind e' (evNeg (by omega) (evNow rfl)))), .inr ⟨hr0', ⟨by omega, fun s hs => by have := hr3 s hs; omega⟩, ⟨by omega, fun s hs => by have := hr3' s hs; omega⟩⟩⟩
theorem FnExactVerdictText : laws_FnExactVerdictText.Pure := by
  intro x hx
  refine Ev.rounds (?_ : Ev (fun k => laws_FnExactVerdictText.f k x.f0 x.f1 x.f2 x.f3) true)
  unfold laws_FnExactVerdictText.f
  obtain ⟨r, e, hr⟩ := szVerdict_ev x hx 1048576 (by omega) (by omega)
  refine evBind e ?_
  rcases hr with hr | ⟨hr0, ⟨h0, h0s⟩, ⟨h1, h1s⟩⟩
  · exact evPos hr (evNow rfl)
  refine evNeg (by omega) ?_
  have tx : Ev (fun k => laws_toVerdict.f k x.f0 x.f1 x.f2 x.f3) (x.f0, x.f1, x.f2, x.f3) := by
    unfold laws_toVerdict.f
    exact evBind (copyStrs _ h0) (evBind (copyStrs _ h1) (evNow rfl))
  have eq : Ev (fun k => laws_eqVerdict.f k x.f0 x.f1 x.f2 x.f3 x.f0 x.f1 x.f2 x.f3) true := by
    unfold laws_eqVerdict.f
    exact evBind (lawsEq _ _ (by omega)) (evPos (strsB_refl _) (evBind (lawsEq _ _ (by omega)) (evPos (strsB_refl _) (evNeg (by simp) (evPos rfl (evNow rfl))))))
  obtain ⟨n0, n1⟩ := wf_i64 hx.2.2.2
  have hd : impl_Decimal.f x.f3 = some (decS x.f3) := by unfold impl_Decimal.f; rw [if_pos ⟨n0, n1⟩]
  have hD := l01Dec_ev x.f3 n0 n1
  have hz := decS_size x.f3 n0 n1
  obtain ⟨j0, z0⟩ := joined_some x.f0 h0 h0s
  obtain ⟨j1, z1⟩ := joined_some x.f1 h1 h1s
  have c8 : ∀ j : ByteArray, ((⟨#[117, 112, 104, 101, 108, 100, 58, 32]⟩ : ByteArray) ++ j).size = 8 + j.size := fun j => by rw [ByteArray.size_append]; rfl
  have c9 : ∀ j : ByteArray, ((⟨#[114, 101, 102, 117, 115, 101, 100, 58, 32]⟩ : ByteArray) ++ j).size = 9 + j.size := fun j => by rw [ByteArray.size_append]; rfl
  have c8' : ∀ j : ByteArray, (((⟨#[117, 112, 104, 101, 108, 100, 58, 32]⟩ : ByteArray) ++ j) ++ (⟨#[58, 32]⟩ : ByteArray)).size = 8 + j.size + 2 := fun j => by rw [ByteArray.size_append, c8]; rfl
  have c9' : ∀ j : ByteArray, (((⟨#[114, 101, 102, 117, 115, 101, 100, 58, 32]⟩ : ByteArray) ++ j) ++ (⟨#[58, 32]⟩ : ByteArray)).size = 9 + j.size + 2 := fun j => by rw [ByteArray.size_append, c9]; rfl
  have both : ∃ V, Ev (fun k => spec_VerdictText.f k x.f0 x.f1 x.f2 x.f3) V ∧ impl_VerdictText.f x.f0 x.f1 x.f2 x.f3 = some V := by
    unfold spec_VerdictText.f impl_VerdictText.f
    by_cases hu : x.f2 = true
    · refine ⟨_, evPos hu <| evBind (l19_ev _ h1 h1s) <| evPos (by omega) <| evPos (by rw [c8]; omega) <| evBind hD <| evPos (by rw [c8']; omega) <| evNow rfl, ?_⟩
      rw [if_pos hu, j1, Option.bind_some, if_pos (by omega), if_pos (by rw [c8]; omega), hd, Option.bind_some, if_pos (by rw [c8']; omega)]
    · refine ⟨_, evNeg hu <| evBind (l19_ev _ h0 h0s) <| evPos (by omega) <| evPos (by rw [c9]; omega) <| evBind hD <| evPos (by rw [c9']; omega) <| evNow rfl, ?_⟩
      rw [if_neg hu, j0, Option.bind_some, if_pos (by omega), if_pos (by rw [c9]; omega), hd, Option.bind_some, if_pos (by rw [c9']; omega)]
  obtain ⟨V, v1, v2⟩ := both
  refine evBind tx ?_
  refine evBind v1 ?_
  refine evBind tx ?_
  refine evBindC v2 ?_
  refine evPos rfl ?_
  refine evBind tx ?_
  refine evBind eq ?_
  exact evPos rfl (evNow rfl)

end Go.Proofs.YtjolcfheommchaaDoor.Pure

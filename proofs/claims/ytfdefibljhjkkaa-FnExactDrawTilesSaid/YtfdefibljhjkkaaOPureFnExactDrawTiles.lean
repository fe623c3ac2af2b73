/- For every string and number, the program's DrawTiles answers what the reference's DrawTiles answers. Conditions: none beyond the statement. -/
import Derived.Test.YtfdefibljhjkkaaOFnExactDrawTilesx2
namespace Go.Proofs.Ytfdefibljhjkkaa.Pure
open Go.RowKit Go.Proofs.Ytfdefibljhjkkaa.OFnExactDrawTiles Go.Proofs.YtfdefibljhjkkaaW.PrintWords Go.Proofs.YtfdefibljhjkkaaW.PrintLast Go.Proofs.YtfdefibljhjkkaaW.PrintMore Go.Proofs.Ytfdefibljhjkkaa.G
set_option linter.unusedVariables false
set_option linter.unusedSimpArgs false
theorem evPos {α : Type} {c : Prop} [Decidable c] {f g : Nat → Option α} {r : α} (hc : c) (h : Ev f r) : Ev (fun k => if c then f k else g k) r := by
  simpa only [if_pos hc] using h
theorem evNeg {α : Type} {c : Prop} [Decidable c] {f g : Nat → Option α} {r : α} (hc : ¬ c) (h : Ev g r) : Ev (fun k => if c then f k else g k) r := by
  simpa only [if_neg hc] using h
theorem evBindC {α β : Type} {o : Option α} {a : α} {f : Nat → α → Option β} {r : β} (ho : o = some a) (h : Ev (fun k => f k a) r) : Ev (fun k => o.bind (f k)) r := by
  subst ho; exact h
theorem evBind {α β : Type} {g : Nat → Option α} {f : Nat → α → Option β} {a : α} {r : β} (h : Ev g a) (k : Ev (fun n => f n a) r) : Ev (fun n => (g n).bind (f n)) r := Ev.bind h k
theorem evNow {α : Type} {a r : α} (h : a = r) : Ev (fun _ => some a) r := h ▸ Ev.now a
theorem evStep {α : Type} {g : Nat → Option α} {r : α} (h : Ev (fun k => g (k + 1)) r) : Ev g r := Ev.step (fun _ => rfl) h
theorem evTo {α : Type} {g : Nat → Option α} {a r : α} (h : Ev g a) (e : a = r) : Ev g r := e ▸ h
theorem wrapInc {i : Int} {n : Nat} (h0 : 0 ≤ i) (h : i < (n : Int)) (hn : n ≤ 140737488351232) : wrap64 (i + 1) = i + 1 := by
  unfold wrap64; omega
/-- Do all bytes from the n-th on meet p? -/
def allFrom (p : Int → Bool) (s : ByteArray) (n : Nat) : Bool := ((bytesOf s).drop n).all p
theorem allFrom_end (p : Int → Bool) (s : ByteArray) (n : Nat) (h : s.size ≤ n) : allFrom p s n = true := by
  unfold allFrom; rw [List.drop_of_length_le (by rw [bytesOf_length]; exact h)]; rfl
theorem bytesOf_drop (s : ByteArray) (n : Nat) (h : n < s.size) : (bytesOf s).drop n = bt s (n : Int) :: (bytesOf s).drop (n + 1) := by
  have hl : n < (bytesOf s).length := by rw [bytesOf_length]; exact h
  rw [List.drop_eq_getElem_cons hl]
  have e : (bytesOf s)[n] = bt s (n : Int) := by
    rw [← rd_bytesOf]; unfold rd; simp [List.getD, hl]
  rw [e]
theorem allFrom_step (p : Int → Bool) (s : ByteArray) (i : Int) (h0 : 0 ≤ i) (h : i < (s.size : Int)) : allFrom p s i.toNat = (p (bt s i) && allFrom p s (i + 1).toNat) := by
  obtain ⟨n, rfl⟩ := Int.eq_ofNat_of_zero_le h0
  have e : ((n : Int) + 1).toNat = n + 1 := by omega
  rw [e, Int.toNat_natCast]
  unfold allFrom
  rw [bytesOf_drop s n (by omega)]; rfl
/-- A tile: a small letter or the blank. -/
def tileB (c : Int) : Bool := decide (c = 63) || (decide (97 ≤ c) && decide (c ≤ 122))
theorem spec_small (c : Int) : spec_l01Small.f c = some (decide (97 ≤ c) && decide (c ≤ 122)) := by
  unfold spec_l01Small.f; split <;> rename_i h
  · simp [show 97 ≤ c from h]
  · simp [show ¬ 97 ≤ c from h]
theorem spec_tile (c : Int) : spec_l03Tile.f c = some (tileB c) := by
  unfold spec_l03Tile.f tileB; split <;> rename_i h
  · simp [h]
  · rw [spec_small]; simp [h]
theorem impl_small_eq (c : Int) : impl_small.f c = some (decide (97 ≤ c) && decide (c ≤ 122)) := by
  unfold impl_small.f; split <;> rename_i h
  · simp [h]
  · simp [h]
/-- The index of a tile: 0 for the blank, 1 to 26 for the letters, -1 for what is none. -/
def plI (c : Int) : Int := if c = 63 then 0 else if 97 ≤ c ∧ c ≤ 122 then c - 96 else -1
theorem impl_place_eq (c : Int) : impl_place.f c = some (plI c) := by
  unfold impl_place.f plI; split <;> rename_i h
  · rfl
  · rw [impl_small_eq]; simp only [Option.bind_some, Bool.and_eq_true, decide_eq_true_eq]; split
    · simp only [Option.some.injEq]; omega
    · rfl
theorem plI_neg (c : Int) : plI c < 0 ↔ tileB c = false := by
  unfold plI tileB; split <;> rename_i h
  · simp [h]
  · split <;> rename_i h2 <;> simp <;> omega
theorem spec_ok_from (s : ByteArray) (hs : s.size ≤ 140737488351232) (d : Nat) : ∀ i : Int, 0 ≤ i → i ≤ s.size → (s.size : Int) - i = d →
    Ev (fun k => spec_l17Ok.l0 k s i) (allFrom tileB s i.toNat && decide ((s.size : Int) ≤ 120)) := by
  induction d with
  | zero =>
    intro i h0 h1 hd
    refine evStep (evNeg (by omega) (evNow ?_))
    rw [allFrom_end _ _ _ (by omega)]; rfl
  | succ d ih =>
    intro i h0 h1 hd
    refine evStep (evPos (by omega) (evPos h0 (evBindC (spec_tile _) ?_)))
    rw [allFrom_step _ _ _ h0 (by omega)]
    cases hb : tileB (bt s i) with
    | true =>
      refine evPos rfl ?_
      rw [wrapInc h0 (by omega) hs]
      exact ih (i + 1) (by omega) (by omega) (by omega)
    | false => exact evNeg (by simp) (evNow rfl)
theorem spec_l17Ok_ev (s : ByteArray) (hs : s.size ≤ 140737488351232) : Ev (fun k => spec_l17Ok.f k s) (allFrom tileB s 0 && decide ((s.size : Int) ≤ 120)) :=
  spec_ok_from s hs s.size 0 (by omega) (by omega) (by omega)
theorem impl_tiles_from (s : ByteArray) (hs : s.size ≤ 140737488351232) (d : Nat) : ∀ i : Int, 0 ≤ i → i ≤ s.size → (s.size : Int) - i = d →
    Ev (fun k => impl_onlyTiles.l0 k s i) (allFrom tileB s i.toNat) := by
  induction d with
  | zero =>
    intro i h0 h1 hd
    refine evStep (evNeg (by omega) (evNow ?_))
    rw [allFrom_end _ _ _ (by omega)]
  | succ d ih =>
    intro i h0 h1 hd
    refine evStep (evPos (by omega) (evPos h0 (evBindC (impl_place_eq _) ?_)))
    rw [allFrom_step _ _ _ h0 (by omega)]
    cases hb : tileB (bt s i) with
    | true =>
      refine evNeg (by rw [plI_neg, hb]; simp) ?_
      rw [wrapInc h0 (by omega) hs]
      exact ih (i + 1) (by omega) (by omega) (by omega)
    | false => exact evPos (by rw [plI_neg, hb]) (evNow rfl)
theorem impl_onlyTiles_ev (s : ByteArray) (hs : s.size ≤ 140737488351232) : Ev (fun k => impl_onlyTiles.f k s) (allFrom tileB s 0) :=
  impl_tiles_from s hs s.size 0 (by omega) (by omega) (by omega)
theorem impl_ValidBag_ev (s : ByteArray) (hs : s.size ≤ 140737488351232) : Ev (fun k => impl_ValidBag.f k s) (allFrom tileB s 0 && decide ((s.size : Int) ≤ 120)) := by
  unfold impl_ValidBag.f
  by_cases h : (s.size : Int) ≤ 120
  · refine evPos h (evBind (impl_onlyTiles_ev s hs) (evNow ?_)); simp [h]
  · refine evNeg h (evNow ?_); simp [h]
/-- Is a string a bag? -/
def bagB (s : ByteArray) : Bool := allFrom tileB s 0 && decide ((s.size : Int) ≤ 120)
theorem bagB_size {s : ByteArray} (h : bagB s = true) : s.size ≤ 120 := by
  unfold bagB at h; simp only [Bool.and_eq_true, decide_eq_true_eq] at h; omega
theorem allFrom_at {p : Int → Bool} {s : ByteArray} (h : allFrom p s 0 = true) (k : Nat) (hk : k < s.size) : p (bt s (k : Int)) = true := by
  unfold allFrom at h
  rw [List.drop_zero, List.all_eq_true] at h
  refine h _ ?_
  have hl : k < (bytesOf s).length := by rw [bytesOf_length]; exact hk
  have e : (bytesOf s)[k] = bt s (k : Int) := by rw [← rd_bytesOf]; unfold rd; simp [List.getD, hl]
  rw [← e]
  exact List.getElem_mem hl
theorem bag_tiles {s : ByteArray} (h : bagB s = true) : tilesOk s := by
  have hz := bagB_size h
  unfold bagB at h
  rw [Bool.and_eq_true] at h
  refine ⟨by omega, fun k hk => ?_⟩
  have ht := allFrom_at h.1 k hk
  have := plI_neg (bt s (k : Int))
  rw [ht] at this
  have h2 : ¬ plI (bt s (k : Int)) < 0 := fun h => absurd (this.1 h) (by simp)
  have e : plI (bt s (k : Int)) = placeI (bt s (k : Int)) := rfl
  omega
theorem sortBoth {s : ByteArray} (h : tilesOk s) : spec_l03Sort.f s = some (sortS s) ∧ impl_sorted.f s = some (sortS s) := by
  constructor
  · unfold spec_l03Sort.f; rw [if_pos (by have := h.1; omega)]
  · unfold impl_sorted.f; rw [if_pos h]
theorem bytesOf_extract (s : ByteArray) (a b : Nat) : bytesOf (s.extract a b) = ((bytesOf s).drop a).take (b - a) := by
  unfold bytesOf
  rw [ByteArray.data_extract, Array.toList_extract, List.extract_eq_take_drop, List.map_take, List.map_drop]
theorem bytesOf_append (s t : ByteArray) : bytesOf (s ++ t) = bytesOf s ++ bytesOf t := by
  unfold bytesOf
  rw [ByteArray.data_append, Array.toList_append, List.map_append]
theorem bt_mem (s : ByteArray) (k : Nat) (h : k < s.size) : bt s (k : Int) ∈ bytesOf s := by
  have hl : k < (bytesOf s).length := by rw [bytesOf_length]; exact h
  have e : (bytesOf s)[k] = bt s (k : Int) := by rw [← rd_bytesOf]; unfold rd; simp [List.getD, hl]
  rw [← e]; exact List.getElem_mem hl
theorem mem_bt (s : ByteArray) (x : Int) (h : x ∈ bytesOf s) : ∃ k : Nat, k < s.size ∧ x = bt s (k : Int) := by
  obtain ⟨k, hk, rfl⟩ := List.getElem_of_mem h
  refine ⟨k, by rw [← bytesOf_length]; exact hk, ?_⟩
  rw [← rd_bytesOf]; unfold rd; simp [List.getD, hk]
theorem tilesOk_iff (s : ByteArray) : tilesOk s ↔ s.size ≤ 1000000 ∧ ∀ x ∈ bytesOf s, 0 ≤ placeI x := by
  unfold tilesOk
  constructor
  · rintro ⟨h1, h2⟩
    refine ⟨h1, fun x hx => ?_⟩
    obtain ⟨k, hk, rfl⟩ := mem_bt s x hx
    exact h2 k hk
  · rintro ⟨h1, h2⟩
    exact ⟨h1, fun k hk => h2 _ (bt_mem s k hk)⟩
theorem size_extract_le (s : ByteArray) (a b : Nat) : (s.extract a b).size ≤ s.size := by rw [ByteArray.size_extract]; omega
theorem tilesOk_extract {s : ByteArray} (h : tilesOk s) (a b : Nat) : tilesOk (s.extract a b) := by
  rw [tilesOk_iff] at h ⊢
  refine ⟨Nat.le_trans (size_extract_le s a b) h.1, fun x hx => h.2 x ?_⟩
  rw [bytesOf_extract] at hx
  exact List.mem_of_mem_drop (List.mem_of_mem_take hx)
theorem tilesOk_append {s t : ByteArray} (h : tilesOk s) (h' : tilesOk t) (hz : s.size + t.size ≤ 1000000) : tilesOk (s ++ t) := by
  rw [tilesOk_iff] at h h' ⊢
  refine ⟨by rw [ByteArray.size_append]; exact hz, fun x hx => ?_⟩
  rw [bytesOf_append] at hx
  rcases List.mem_append.1 hx with hx | hx
  · exact h.2 x hx
  · exact h'.2 x hx
theorem spec_in (a b c : Int) : spec_l00In.f a b c = some (decide (b ≤ a) && decide (a ≤ c)) := by
  unfold spec_l00In.f; split <;> rename_i h
  · simp [show b ≤ a from h]
  · simp [show ¬ b ≤ a from h]
theorem impl_in (a b c : Int) : impl_within.f a b c = some (decide (b ≤ a) && decide (a ≤ c)) := by
  unfold impl_within.f; split <;> rename_i h <;> simp [h]
theorem FnExactDrawTiles : laws_FnExactDrawTiles.Pure := by
  intro s n hs hn
  refine Ev.rounds (?_ : Ev (fun k => laws_FnExactDrawTiles.f k s n) true)
  unfold laws_FnExactDrawTiles.f
  by_cases h : (s.size : Int) > 1048576
  · exact evPos h (evNow rfl)
  refine evNeg h ?_
  unfold spec_DrawTiles.f impl_DrawTiles.f
  have hv : Ev (fun k => spec_l17Ok.f k s) (bagB s) := spec_l17Ok_ev s hs
  have hi : Ev (fun k => impl_ValidBag.f k s) (bagB s) := impl_ValidBag_ev s hs
  by_cases hb : bagB s = true
  · have e1 := spec_in n 0 s.size
    have e2 := impl_in n 0 s.size
    cases hr : (decide (0 ≤ n) && decide (n ≤ (s.size : Int))) with
    | false =>
      rw [hr] at e1 e2
      exact evBind (evBind hv <| evPos hb <| evBindC e1 <| evNeg (by simp) <| evNow rfl) <| evBind (evBind hi <| evPos hb <| evBindC e2 <| evNeg (by simp) <| evNow rfl) <| evPos rfl <| evPos rfl <| evPos rfl <| evNow rfl
    | true =>
      rw [hr] at e1 e2
      simp only [Bool.and_eq_true, decide_eq_true_eq] at hr
      obtain ⟨f1, f2⟩ := sortBoth (tilesOk_extract (bag_tiles hb) 0 n.toNat)
      exact evBind (evBind hv <| evPos hb <| evBindC e1 <| evPos rfl <| evPos hr.1 <| evPos hr.2 <| evBindC f1 <| evNow rfl) <| evBind (evBind hi <| evPos hb <| evBindC e2 <| evPos rfl <| evPos hr.1 <| evPos hr.2 <| evBindC f2 <| evNow rfl) <| evPos rfl <| evPos rfl <| evPos rfl <| evNow rfl
  · exact evBind (evBind hv <| evNeg hb <| evNow rfl) <| evBind (evBind hi <| evNeg hb <| evNow rfl) <| evPos rfl <| evPos rfl <| evPos rfl <| evNow rfl

end Go.Proofs.Ytfdefibljhjkkaa.Pure

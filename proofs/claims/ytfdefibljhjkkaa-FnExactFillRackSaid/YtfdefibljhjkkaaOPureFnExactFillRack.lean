/- For every two strings, the program's FillRack answers what the reference's FillRack answers. Conditions: none beyond the statement. -/
import Derived.Test.YtfdefibljhjkkaaOFnExactFillRackx2
namespace Go.Proofs.Ytfdefibljhjkkaa.Pure
open Go.RowKit Go.Proofs.Ytfdefibljhjkkaa.OFnExactFillRack Go.Proofs.YtfdefibljhjkkaaW.PrintWords Go.Proofs.YtfdefibljhjkkaaW.PrintLast Go.Proofs.YtfdefibljhjkkaaW.PrintMore Go.Proofs.Ytfdefibljhjkkaa.G
set_option linter.unusedVariables false
set_option linter.unusedSimpArgs false
theorem evPos {α : Type} {c : Prop} [Decidable c] {f g : Nat → Option α} {r : α} (hc : c) (h : Ev f r) : Ev (fun k => if c then f k else g k) r := by
  simpa only [if_pos hc] using h
theorem evNeg {α : Type} {c : Prop} [Decidable c] {f g : Nat → Option α} {r : α} (hc : ¬ c) (h : Ev g r) : Ev (fun k => if c then f k else g k) r := by
  simpa only [if_neg hc] using h
theorem evBindC {α β : Type} {o : Option α} {a : α} {f : Nat → α → Option β} {r : β} (ho : o = some a) (h : Ev (fun k => f k a) r) : Ev (fun k => o.bind (f k)) r := by
  subst ho; exact h
theorem evBind {α β : Type} {g : Nat → Option α} {f : Nat → α → Option β} {a : α} {r : β} (h : Ev g a) (k : Ev (fun n => f n a) r) : Ev (fun n => (g n).bind (f n)) r := Ev.bind h k
theorem evNow {α : Type} {a r : α} (h : a = r) : Ev (fun _ => some a) r := h ▸ Ev.now a
theorem evStep {α : Type} {g : Nat → Option α} {r : α} (h : Ev (fun k => g (k + 1)) r) : Ev g r := Ev.step (fun _ => rfl) h
theorem evTo {α : Type} {g : Nat → Option α} {a r : α} (h : Ev g a) (e : a = r) : Ev g r := e ▸ h
theorem wrapInc {i : Int} {n : Nat} (h0 : 0 ≤ i) (h : i < (n : Int)) (hn : n ≤ 140737488351232) : wrap64 (i + 1) = i + 1 := by
  unfold wrap64; omega
/-- Do all bytes from the n-th on meet p? -/
def allFrom (p : Int → Bool) (s : ByteArray) (n : Nat) : Bool := ((bytesOf s).drop n).all p
theorem allFrom_end (p : Int → Bool) (s : ByteArray) (n : Nat) (h : s.size ≤ n) : allFrom p s n = true := by
  unfold allFrom; rw [List.drop_of_length_le (by rw [bytesOf_length]; exact h)]; rfl
theorem bytesOf_drop (s : ByteArray) (n : Nat) (h : n < s.size) : (bytesOf s).drop n = bt s (n : Int) :: (bytesOf s).drop (n + 1) := by
  have hl : n < (bytesOf s).length := by rw [bytesOf_length]; exact h
  rw [List.drop_eq_getElem_cons hl]
  have e : (bytesOf s)[n] = bt s (n : Int) := by
    rw [← rd_bytesOf]; unfold rd; simp [List.getD, hl]
  rw [e]
theorem allFrom_step (p : Int → Bool) (s : ByteArray) (i : Int) (h0 : 0 ≤ i) (h : i < (s.size : Int)) : allFrom p s i.toNat = (p (bt s i) && allFrom p s (i + 1).toNat) := by
  obtain ⟨n, rfl⟩ := Int.eq_ofNat_of_zero_le h0
  have e : ((n : Int) + 1).toNat = n + 1 := by omega
  rw [e, Int.toNat_natCast]
  unfold allFrom
  rw [bytesOf_drop s n (by omega)]; rfl
/-- A tile: a small letter or the blank. -/
def tileB (c : Int) : Bool := decide (c = 63) || (decide (97 ≤ c) && decide (c ≤ 122))
theorem spec_small (c : Int) : spec_l01Small.f c = some (decide (97 ≤ c) && decide (c ≤ 122)) := by
  unfold spec_l01Small.f; split <;> rename_i h
  · simp [show 97 ≤ c from h]
  · simp [show ¬ 97 ≤ c from h]
theorem spec_tile (c : Int) : spec_l03Tile.f c = some (tileB c) := by
  unfold spec_l03Tile.f tileB; split <;> rename_i h
  · simp [h]
  · rw [spec_small]; simp [h]
theorem impl_small_eq (c : Int) : impl_small.f c = some (decide (97 ≤ c) && decide (c ≤ 122)) := by
  unfold impl_small.f; split <;> rename_i h
  · simp [h]
  · simp [h]
/-- The index of a tile: 0 for the blank, 1 to 26 for the letters, -1 for what is none. -/
def plI (c : Int) : Int := if c = 63 then 0 else if 97 ≤ c ∧ c ≤ 122 then c - 96 else -1
theorem impl_place_eq (c : Int) : impl_place.f c = some (plI c) := by
  unfold impl_place.f plI; split <;> rename_i h
  · rfl
  · rw [impl_small_eq]; simp only [Option.bind_some, Bool.and_eq_true, decide_eq_true_eq]; split
    · simp only [Option.some.injEq]; omega
    · rfl
theorem plI_neg (c : Int) : plI c < 0 ↔ tileB c = false := by
  unfold plI tileB; split <;> rename_i h
  · simp [h]
  · split <;> rename_i h2 <;> simp <;> omega
theorem spec_ok_from (s : ByteArray) (hs : s.size ≤ 140737488351232) (d : Nat) : ∀ i : Int, 0 ≤ i → i ≤ s.size → (s.size : Int) - i = d →
    Ev (fun k => spec_l17Ok.l0 k s i) (allFrom tileB s i.toNat && decide ((s.size : Int) ≤ 120)) := by
  induction d with
  | zero =>
    intro i h0 h1 hd
    refine evStep (evNeg (by omega) (evNow ?_))
    rw [allFrom_end _ _ _ (by omega)]; rfl
  | succ d ih =>
    intro i h0 h1 hd
    refine evStep (evPos (by omega) (evPos h0 (evBindC (spec_tile _) ?_)))
    rw [allFrom_step _ _ _ h0 (by omega)]
    cases hb : tileB (bt s i) with
    | true =>
      refine evPos rfl ?_
      rw [wrapInc h0 (by omega) hs]
      exact ih (i + 1) (by omega) (by omega) (by omega)
    | false => exact evNeg (by simp) (evNow rfl)
theorem spec_l17Ok_ev (s : ByteArray) (hs : s.size ≤ 140737488351232) : Ev (fun k => spec_l17Ok.f k s) (allFrom tileB s 0 && decide ((s.size : Int) ≤ 120)) :=
  spec_ok_from s hs s.size 0 (by omega) (by omega) (by omega)
theorem impl_tiles_from (s : ByteArray) (hs : s.size ≤ 140737488351232) (d : Nat) : ∀ i : Int, 0 ≤ i → i ≤ s.size → (s.size : Int) - i = d →
    Ev (fun k => impl_onlyTiles.l0 k s i) (allFrom tileB s i.toNat) := by
  induction d with
  | zero =>
    intro i h0 h1 hd
    refine evStep (evNeg (by omega) (evNow ?_))
    rw [allFrom_end _ _ _ (by omega)]
  | succ d ih =>
    intro i h0 h1 hd
    refine evStep (evPos (by omega) (evPos h0 (evBindC (impl_place_eq _) ?_)))
    rw [allFrom_step _ _ _ h0 (by omega)]
    cases hb : tileB (bt s i) with
    | true =>
      refine evNeg (by rw [plI_neg, hb]; simp) ?_
      rw [wrapInc h0 (by omega) hs]
      exact ih (i + 1) (by omega) (by omega) (by omega)
    | false => exact evPos (by rw [plI_neg, hb]) (evNow rfl)
theorem impl_onlyTiles_ev (s : ByteArray) (hs : s.size ≤ 140737488351232) : Ev (fun k => impl_onlyTiles.f k s) (allFrom tileB s 0) :=
  impl_tiles_from s hs s.size 0 (by omega) (by omega) (by omega)
theorem impl_ValidBag_ev (s : ByteArray) (hs : s.size ≤ 140737488351232) : Ev (fun k => impl_ValidBag.f k s) (allFrom tileB s 0 && decide ((s.size : Int) ≤ 120)) := by
  unfold impl_ValidBag.f
  by_cases h : (s.size : Int) ≤ 120
  · refine evPos h (evBind (impl_onlyTiles_ev s hs) (evNow ?_)); simp [h]
  · refine evNeg h (evNow ?_); simp [h]
/-- Is a string a bag? -/
def bagB (s : ByteArray) : Bool := allFrom tileB s 0 && decide ((s.size : Int) ≤ 120)
theorem bagB_size {s : ByteArray} (h : bagB s = true) : s.size ≤ 120 := by
  unfold bagB at h; simp only [Bool.and_eq_true, decide_eq_true_eq] at h; omega
theorem allFrom_at {p : Int → Bool} {s : ByteArray} (h : allFrom p s 0 = true) (k : Nat) (hk : k < s.size) : p (bt s (k : Int)) = true := by
  unfold allFrom at h
  rw [List.drop_zero, List.all_eq_true] at h
  refine h _ ?_
  have hl : k < (bytesOf s).length := by rw [bytesOf_length]; exact hk
  have e : (bytesOf s)[k] = bt s (k : Int) := by rw [← rd_bytesOf]; unfold rd; simp [List.getD, hl]
  rw [← e]
  exact List.getElem_mem hl
theorem bag_tiles {s : ByteArray} (h : bagB s = true) : tilesOk s := by
  have hz := bagB_size h
  unfold bagB at h
  rw [Bool.and_eq_true] at h
  refine ⟨by omega, fun k hk => ?_⟩
  have ht := allFrom_at h.1 k hk
  have := plI_neg (bt s (k : Int))
  rw [ht] at this
  have h2 : ¬ plI (bt s (k : Int)) < 0 := fun h => absurd (this.1 h) (by simp)
  have e : plI (bt s (k : Int)) = placeI (bt s (k : Int)) := rfl
  omega
theorem sortBoth {s : ByteArray} (h : tilesOk s) : spec_l03Sort.f s = some (sortS s) ∧ impl_sorted.f s = some (sortS s) := by
  constructor
  · unfold spec_l03Sort.f; rw [if_pos (by have := h.1; omega)]
  · unfold impl_sorted.f; rw [if_pos h]
theorem bytesOf_extract (s : ByteArray) (a b : Nat) : bytesOf (s.extract a b) = ((bytesOf s).drop a).take (b - a) := by
  unfold bytesOf
  rw [ByteArray.data_extract, Array.toList_extract, List.extract_eq_take_drop, List.map_take, List.map_drop]
theorem bytesOf_append (s t : ByteArray) : bytesOf (s ++ t) = bytesOf s ++ bytesOf t := by
  unfold bytesOf
  rw [ByteArray.data_append, Array.toList_append, List.map_append]
theorem bt_mem (s : ByteArray) (k : Nat) (h : k < s.size) : bt s (k : Int) ∈ bytesOf s := by
  have hl : k < (bytesOf s).length := by rw [bytesOf_length]; exact h
  have e : (bytesOf s)[k] = bt s (k : Int) := by rw [← rd_bytesOf]; unfold rd; simp [List.getD, hl]
  rw [← e]; exact List.getElem_mem hl
theorem mem_bt (s : ByteArray) (x : Int) (h : x ∈ bytesOf s) : ∃ k : Nat, k < s.size ∧ x = bt s (k : Int) := by
  obtain ⟨k, hk, rfl⟩ := List.getElem_of_mem h
  refine ⟨k, by rw [← bytesOf_length]; exact hk, ?_⟩
  rw [← rd_bytesOf]; unfold rd; simp [List.getD, hk]
theorem tilesOk_iff (s : ByteArray) : tilesOk s ↔ s.size ≤ 1000000 ∧ ∀ x ∈ bytesOf s, 0 ≤ placeI x := by
  unfold tilesOk
  constructor
  · rintro ⟨h1, h2⟩
    refine ⟨h1, fun x hx => ?_⟩
    obtain ⟨k, hk, rfl⟩ := mem_bt s x hx
    exact h2 k hk
  · rintro ⟨h1, h2⟩
    exact ⟨h1, fun k hk => h2 _ (bt_mem s k hk)⟩
theorem size_extract_le (s : ByteArray) (a b : Nat) : (s.extract a b).size ≤ s.size := by rw [ByteArray.size_extract]; omega
theorem tilesOk_extract {s : ByteArray} (h : tilesOk s) (a b : Nat) : tilesOk (s.extract a b) := by
  rw [tilesOk_iff] at h ⊢
  refine ⟨Nat.le_trans (size_extract_le s a b) h.1, fun x hx => h.2 x ?_⟩
  rw [bytesOf_extract] at hx
  exact List.mem_of_mem_drop (List.mem_of_mem_take hx)
theorem tilesOk_append {s t : ByteArray} (h : tilesOk s) (h' : tilesOk t) (hz : s.size + t.size ≤ 1000000) : tilesOk (s ++ t) := by
  rw [tilesOk_iff] at h h' ⊢
  refine ⟨by rw [ByteArray.size_append]; exact hz, fun x hx => ?_⟩
  rw [bytesOf_append] at hx
  rcases List.mem_append.1 hx with hx | hx
  · exact h.2 x hx
  · exact h'.2 x hx
/-- Is each byte from the n-th on at least the one before it? -/
def ordAll : Nat → ByteArray → Nat → Bool
  | 0, _, _ => true
  | d + 1, s, n => !(decide (0 < n) && decide (bt s (n : Int) < bt s ((n : Int) - 1))) && ordAll d s (n + 1)
def ordFrom (s : ByteArray) (n : Nat) : Bool := ordAll (s.size - n) s n
theorem ordFrom_end (s : ByteArray) (n : Nat) (h : s.size ≤ n) : ordFrom s n = true := by
  unfold ordFrom; rw [show s.size - n = 0 by omega]; rfl
theorem ordFrom_step (s : ByteArray) (i : Int) (h0 : 0 ≤ i) (h : i < (s.size : Int)) : ordFrom s i.toNat = (!(decide (0 < i) && decide (bt s i < bt s (i - 1))) && ordFrom s (i + 1).toNat) := by
  obtain ⟨n, rfl⟩ := Int.eq_ofNat_of_zero_le h0
  have e : ((n : Int) + 1).toNat = n + 1 := by omega
  have e2 : s.size - n = (s.size - (n + 1)) + 1 := by omega
  rw [e, Int.toNat_natCast]
  unfold ordFrom
  rw [e2]
  simp only [ordAll, Int.natCast_pos]
theorem ordFrom_one (s : ByteArray) : ordFrom s 0 = ordFrom s 1 := by
  by_cases h : (0 : Int) < (s.size : Int)
  · have := ordFrom_step s 0 (by omega) h
    simpa using this
  · rw [ordFrom_end s 0 (by omega), ordFrom_end s 1 (by omega)]
/-- Is a string a pile? -/
def pileB (s : ByteArray) : Bool := allFrom tileB s 0 && ordFrom s 0 && decide ((s.size : Int) ≤ 120)
theorem spec_pile_from (s : ByteArray) (hs : s.size ≤ 140737488351232) (d : Nat) : ∀ i : Int, 0 ≤ i → i ≤ s.size → (s.size : Int) - i = d →
    Ev (fun k => spec_l03Pile.l0 k s i) (allFrom tileB s i.toNat && ordFrom s i.toNat && decide ((s.size : Int) ≤ 120)) := by
  induction d with
  | zero =>
    intro i h0 h1 hd
    refine evStep (evNeg (by omega) (evNow ?_))
    rw [allFrom_end _ _ _ (by omega), ordFrom_end _ _ (by omega)]; rfl
  | succ d ih =>
    intro i h0 h1 hd
    have hl : i < (s.size : Int) := by omega
    refine evStep (evPos hl (evPos h0 (evBindC (spec_tile _) ?_)))
    rw [allFrom_step _ _ _ h0 hl, ordFrom_step _ _ h0 hl]
    cases hb : tileB (bt s i) with
    | false => exact evNeg (by simp) (evNow (by simp))
    | true =>
      refine evPos rfl ?_
      rw [wrapInc h0 hl hs]
      have next := ih (i + 1) (by omega) (by omega) (by omega)
      by_cases hp : i > 0
      · have ew : wrap64 (i - 1) = i - 1 := by unfold wrap64; omega
        refine evPos hp ?_
        rw [ew]
        refine evPos (by omega) (evPos (by omega) ?_)
        by_cases hc : bt s i < bt s (i - 1)
        · exact evPos hc (evNow (by simp [hc, hp]))
        · refine evNeg hc (evTo next ?_)
          simp [hc]
      · refine evNeg hp (evTo next ?_)
        have : ¬ 0 < i := by omega
        simp [this]
theorem spec_l03Pile_ev (s : ByteArray) (hs : s.size ≤ 140737488351232) : Ev (fun k => spec_l03Pile.f k s) (pileB s) :=
  spec_pile_from s hs s.size 0 (by omega) (by omega) (by omega)
theorem impl_ord_eq (m : Nat) (s : ByteArray) (i : Int) : impl_ValidPile.l0 (m + 1) s i = if i < (s.size : Int) then (if 0 ≤ (wrap64 (i - 1)) then (if (wrap64 (i - 1)) < (s.size : Int) then (if 0 ≤ i then (if (bt s (wrap64 (i - 1))) > (bt s i) then (some false) else (impl_ValidPile.l0 m s (wrap64 (i + 1)))) else (none)) else (none)) else (none)) else (some true) := by
  simp only [impl_ValidPile.l0]
theorem impl_ord_from (s : ByteArray) (hs : s.size ≤ 140737488351232) (d : Nat) : ∀ i : Int, 1 ≤ i → (s.size : Int) - i ≤ d →
    Ev (fun k => impl_ValidPile.l0 k s i) (ordFrom s i.toNat) := by
  induction d with
  | zero =>
    intro i h0 hd
    refine Ev.step (fun m => impl_ord_eq m s i) (evNeg (by omega) (evNow ?_))
    rw [ordFrom_end _ _ (by omega)]
  | succ d ih =>
    intro i h0 hd
    by_cases hl : i < (s.size : Int)
    · have ew : wrap64 (i - 1) = i - 1 := by unfold wrap64; omega
      refine Ev.step (fun m => impl_ord_eq m s i) ?_
      refine evPos hl ?_
      rw [ew]
      refine evPos (by omega) <| evPos (by omega) <| evPos (by omega) ?_
      rw [ordFrom_step _ _ (by omega) hl]
      rw [wrapInc (by omega) hl hs]
      by_cases hc : bt s i < bt s (i - 1)
      · exact evPos hc (evNow (by have : 0 < i := by omega
                                  simp [hc, this]))
      · refine evNeg hc (evTo (ih (i + 1) (by omega) (by omega)) ?_)
        simp [hc]
    · refine Ev.step (fun m => impl_ord_eq m s i) (evNeg hl (evNow ?_))
      rw [ordFrom_end _ _ (by omega)]
theorem impl_ValidPile_ev (s : ByteArray) (hs : s.size ≤ 140737488351232) : Ev (fun k => impl_ValidPile.f k s) (pileB s) := by
  unfold impl_ValidPile.f
  by_cases h : (s.size : Int) > 120
  · refine evPos h (Ev.step (fun m => by simp only [impl_ValidPile.j0, if_true]; rfl) (evNow ?_))
    unfold pileB
    have : ¬ (s.size : Int) ≤ 120 := by omega
    simp [this]
  · refine evNeg h (evBind (impl_onlyTiles_ev s hs) ?_)
    unfold pileB
    have h' : (s.size : Int) ≤ 120 := by omega
    cases ht : allFrom tileB s 0 with
    | false => exact Ev.step (fun m => by simp only [impl_ValidPile.j0, Bool.not_false, if_true]; rfl) (evNow (by simp))
    | true =>
      refine Ev.step (fun m => by simp only [impl_ValidPile.j0, Bool.not_true, Bool.false_eq_true, if_false]; rfl) ?_
      refine evTo (impl_ord_from s hs s.size 1 (by omega) (by omega)) ?_
      rw [ordFrom_one]; simp [h']
theorem pile_tiles {s : ByteArray} (h : pileB s = true) : allFrom tileB s 0 = true := by
  unfold pileB at h; simp only [Bool.and_eq_true] at h; exact h.1.1
theorem pile_size {s : ByteArray} (h : pileB s = true) : s.size ≤ 120 := by
  unfold pileB at h; simp only [Bool.and_eq_true, decide_eq_true_eq] at h; omega
def rackB (s : ByteArray) : Bool := pileB s && decide ((s.size : Int) ≤ 7)
theorem spec_l03Rack_ev (s : ByteArray) (hs : s.size ≤ 140737488351232) : Ev (fun k => spec_l03Rack.f k s) (rackB s) := by
  unfold spec_l03Rack.f rackB
  refine evBind (spec_l03Pile_ev s hs) ?_
  cases pileB s with
  | true => exact evPos rfl (evNow (by simp))
  | false => exact evNeg (by simp) (evNow (by simp))
theorem impl_ValidRack_ev (s : ByteArray) (hs : s.size ≤ 140737488351232) : Ev (fun k => impl_ValidRack.f k s) (rackB s) := by
  unfold impl_ValidRack.f rackB
  by_cases h : (s.size : Int) ≤ 7
  · exact evPos h (evBind (impl_ValidPile_ev s hs) (evNow (by simp [h])))
  · exact evNeg h (evNow (by simp [h]))
theorem rack_pile {s : ByteArray} (h : rackB s = true) : pileB s = true := by
  unfold rackB at h; simp only [Bool.and_eq_true] at h; exact h.1
theorem rack_size {s : ByteArray} (h : rackB s = true) : s.size ≤ 7 := by
  unfold rackB at h; simp only [Bool.and_eq_true, decide_eq_true_eq] at h; omega
theorem pile_ok {s : ByteArray} (h : pileB s = true) : tilesOk s := by
  refine bag_tiles ?_
  unfold pileB at h; unfold bagB
  simp only [Bool.and_eq_true] at h ⊢
  exact ⟨h.1.1, h.2⟩
/-- How many tiles are drawn. -/
def fillN (b r : ByteArray) : Int := if (7 : Int) - r.size > b.size then b.size else 7 - r.size
theorem FnExactFillRack : laws_FnExactFillRack.Pure := by
  intro b r hb hr
  refine Ev.rounds (?_ : Ev (fun k => laws_FnExactFillRack.f k b r) true)
  unfold laws_FnExactFillRack.f
  by_cases h1 : (b.size : Int) > 1048576
  · exact evPos h1 (evNow rfl)
  refine evNeg h1 ?_
  by_cases h2 : (r.size : Int) > 1048576
  · exact evPos h2 (evNow rfl)
  refine evNeg h2 ?_
  unfold spec_FillRack.f impl_FillRack.f
  have hv : Ev (fun k => spec_l17Ok.f k b) (bagB b) := spec_l17Ok_ev b hb
  have hi : Ev (fun k => impl_ValidBag.f k b) (bagB b) := impl_ValidBag_ev b hb
  have s_yes : ∀ m, spec_FillRack.j0 (m + 1) b r true = some ((⟨#[]⟩ : ByteArray), (⟨#[]⟩ : ByteArray), 1) := fun m => by simp only [spec_FillRack.j0, if_true]
  have i_yes : ∀ m, impl_FillRack.j0 (m + 1) b r true = some ((⟨#[]⟩ : ByteArray), (⟨#[]⟩ : ByteArray), 1) := fun m => by simp only [impl_FillRack.j0, if_true]
  by_cases hB : bagB b = true
  · by_cases hR : rackB r = true
    · have zb := bagB_size hB
      have zr := rack_size hR
      have ew : wrap64 (7 - (r.size : Int)) = 7 - r.size := by unfold wrap64; omega
      have n0 : 0 ≤ fillN b r := by unfold fillN; split <;> omega
      have n1 : fillN b r ≤ (b.size : Int) := by unfold fillN; split <;> omega
      have es : spec_l17Fill.f b r = some (fillN b r) := by unfold spec_l17Fill.f fillN; rw [ew]; split <;> rfl
      have ei : impl_toDraw.f b r = some (fillN b r) := by unfold impl_toDraw.f fillN mn; rw [ew]
      have hz : r.size + (b.extract 0 (fillN b r).toNat).size ≤ 1000000 := by have := size_extract_le b 0 (fillN b r).toNat; omega
      obtain ⟨f1, f2⟩ := sortBoth (tilesOk_append (pile_ok (rack_pile hR)) (tilesOk_extract (bag_tiles hB) 0 (fillN b r).toNat) hz)
      have a1 : Ev (fun k => spec_FillRack.j0 k b r (!rackB r)) (sortS (r ++ b.extract 0 (fillN b r).toNat), b.extract (fillN b r).toNat b.size, 0) := by
        rw [hR]
        refine Ev.step (fun m => by simp only [spec_FillRack.j0, Bool.not_true, Bool.false_eq_true, if_false]; rfl) ?_
        exact evBindC es <| evPos n0 <| evPos n1 <| evPos (by omega) <| evBindC f1 <| evNow rfl
      have a2 : Ev (fun k => impl_FillRack.j0 k b r (!rackB r)) (sortS (r ++ b.extract 0 (fillN b r).toNat), b.extract (fillN b r).toNat b.size, 0) := by
        rw [hR]
        refine Ev.step (fun m => by simp only [impl_FillRack.j0, Bool.not_true, Bool.false_eq_true, if_false]; rfl) ?_
        exact evBindC ei <| evPos n0 <| evPos n1 <| evPos (by omega) <| evBindC f2 <| evNow rfl
      exact evBind (evBind hv <| evPos hB <| evBind (spec_l03Rack_ev r hr) a1) <| evBind (evBind hi <| evPos hB <| evBind (impl_ValidRack_ev r hr) a2) <| evPos rfl <| evPos rfl <| evPos rfl <| evNow rfl
    · have hR' : rackB r = false := Bool.eq_false_iff.mpr hR
      have a1 : Ev (fun k => spec_FillRack.j0 k b r (!rackB r)) ((⟨#[]⟩ : ByteArray), (⟨#[]⟩ : ByteArray), 1) := by
        rw [hR']; exact Ev.step (fun m => s_yes m) (Ev.now _)
      have a2 : Ev (fun k => impl_FillRack.j0 k b r (!rackB r)) ((⟨#[]⟩ : ByteArray), (⟨#[]⟩ : ByteArray), 1) := by
        rw [hR']; exact Ev.step (fun m => i_yes m) (Ev.now _)
      exact evBind (evBind hv <| evPos hB <| evBind (spec_l03Rack_ev r hr) a1) <| evBind (evBind hi <| evPos hB <| evBind (impl_ValidRack_ev r hr) a2) <| evPos rfl <| evPos rfl <| evPos rfl <| evNow rfl
  · exact evBind (evBind hv <| evNeg hB <| Ev.step (fun m => s_yes m) (Ev.now _)) <| evBind (evBind hi <| evNeg hB <| Ev.step (fun m => i_yes m) (Ev.now _)) <| evPos rfl <| evPos rfl <| evPos rfl <| evNow rfl

end Go.Proofs.Ytfdefibljhjkkaa.Pure

/- For every three strings, the program's ExchangeTiles answers what the reference's ExchangeTiles answers. Conditions: none beyond the statement. -/
import Derived.Test.YtjolcfheommchaaOFnExactExchangeTilesx2
namespace Go.Proofs.Ytjolcfheommchaa.Pure
open Go.RowKit Go.Proofs.Ytjolcfheommchaa.OFnExactExchangeTiles Go.Proofs.YtjolcfheommchaaW.PrintWords Go.Proofs.YtjolcfheommchaaW.PrintLast Go.Proofs.YtjolcfheommchaaW.PrintMore Go.Proofs.Ytjolcfheommchaa.G
set_option linter.unusedVariables false
set_option linter.unusedSimpArgs false
open Go.Proofs.Ytjolcfheommchaa.OExchA (impl_small.f impl_place.f impl_onlyTiles.l0 impl_onlyTiles.f impl_ValidPile.f impl_ValidPile.l0 impl_ValidPile.j0 impl_ValidRack.f impl_ValidBag.f)
theorem evPos {α : Type} {c : Prop} [Decidable c] {f g : Nat → Option α} {r : α} (hc : c) (h : Ev f r) : Ev (fun k => if c then f k else g k) r := by
  simpa only [if_pos hc] using h
theorem evNeg {α : Type} {c : Prop} [Decidable c] {f g : Nat → Option α} {r : α} (hc : ¬ c) (h : Ev g r) : Ev (fun k => if c then f k else g k) r := by
  simpa only [if_neg hc] using h
theorem evBindC {α β : Type} {o : Option α} {a : α} {f : Nat → α → Option β} {r : β} (ho : o = some a) (h : Ev (fun k => f k a) r) : Ev (fun k => o.bind (f k)) r := by
  subst ho; exact h
theorem evBind {α β : Type} {g : Nat → Option α} {f : Nat → α → Option β} {a : α} {r : β} (h : Ev g a) (k : Ev (fun n => f n a) r) : Ev (fun n => (g n).bind (f n)) r := Ev.bind h k
theorem evNow {α : Type} {a r : α} (h : a = r) : Ev (fun _ => some a) r := h ▸ Ev.now a
theorem evStep {α : Type} {g : Nat → Option α} {r : α} (h : Ev (fun k => g (k + 1)) r) : Ev g r := Ev.step (fun _ => rfl) h
theorem evTo {α : Type} {g : Nat → Option α} {a r : α} (h : Ev g a) (e : a = r) : Ev g r := e ▸ h
theorem wrapInc {i : Int} {n : Nat} (h0 : 0 ≤ i) (h : i < (n : Int)) (hn : n ≤ 140737488351232) : wrap64 (i + 1) = i + 1 := by
  unfold wrap64; omega
/-- Do all bytes from the n-th on meet p? -/
def allFrom (p : Int → Bool) (s : ByteArray) (n : Nat) : Bool := ((bytesOf s).drop n).all p
theorem allFrom_end (p : Int → Bool) (s : ByteArray) (n : Nat) (h : s.size ≤ n) : allFrom p s n = true := by
  unfold allFrom; rw [List.drop_of_length_le (by rw [bytesOf_length]; exact h)]; rfl
theorem bytesOf_drop (s : ByteArray) (n : Nat) (h : n < s.size) : (bytesOf s).drop n = bt s (n : Int) :: (bytesOf s).drop (n + 1) := by
  have hl : n < (bytesOf s).length := by rw [bytesOf_length]; exact h
  rw [List.drop_eq_getElem_cons hl]
  have e : (bytesOf s)[n] = bt s (n : Int) := by
    rw [← rd_bytesOf]; unfold rd; simp [List.getD, hl]
  rw [e]
theorem allFrom_step (p : Int → Bool) (s : ByteArray) (i : Int) (h0 : 0 ≤ i) (h : i < (s.size : Int)) : allFrom p s i.toNat = (p (bt s i) && allFrom p s (i + 1).toNat) := by
  obtain ⟨n, rfl⟩ := Int.eq_ofNat_of_zero_le h0
  have e : ((n : Int) + 1).toNat = n + 1 := by omega
  rw [e, Int.toNat_natCast]
  unfold allFrom
  rw [bytesOf_drop s n (by omega)]; rfl
/-- A tile: a small letter or the blank. -/
def tileB (c : Int) : Bool := decide (c = 63) || (decide (97 ≤ c) && decide (c ≤ 122))
theorem spec_small (c : Int) : spec_l01Small.f c = some (decide (97 ≤ c) && decide (c ≤ 122)) := by
  unfold spec_l01Small.f; split <;> rename_i h
  · simp [show 97 ≤ c from h]
  · simp [show ¬ 97 ≤ c from h]
theorem spec_tile (c : Int) : spec_l03Tile.f c = some (tileB c) := by
  unfold spec_l03Tile.f tileB; split <;> rename_i h
  · simp [h]
  · rw [spec_small]; simp [h]
theorem impl_small_eq (c : Int) : impl_small.f c = some (decide (97 ≤ c) && decide (c ≤ 122)) := by
  unfold impl_small.f; split <;> rename_i h
  · simp [h]
  · simp [h]
/-- The index of a tile: 0 for the blank, 1 to 26 for the letters, -1 for what is none. -/
def plI (c : Int) : Int := if c = 63 then 0 else if 97 ≤ c ∧ c ≤ 122 then c - 96 else -1
theorem impl_place_eq (c : Int) : impl_place.f c = some (plI c) := by
  unfold impl_place.f plI; split <;> rename_i h
  · rfl
  · rw [impl_small_eq]; simp only [Option.bind_some, Bool.and_eq_true, decide_eq_true_eq]; split
    · simp only [Option.some.injEq]; omega
    · rfl
theorem plI_neg (c : Int) : plI c < 0 ↔ tileB c = false := by
  unfold plI tileB; split <;> rename_i h
  · simp [h]
  · split <;> rename_i h2 <;> simp <;> omega
theorem impl_tiles_from (s : ByteArray) (hs : s.size ≤ 140737488351232) (d : Nat) : ∀ i : Int, 0 ≤ i → i ≤ s.size → (s.size : Int) - i = d →
    Ev (fun k => impl_onlyTiles.l0 k s i) (allFrom tileB s i.toNat) := by
  induction d with
  | zero =>
    intro i h0 h1 hd
    refine evStep (evNeg (by omega) (evNow ?_))
    rw [allFrom_end _ _ _ (by omega)]
  | succ d ih =>
    intro i h0 h1 hd
    refine evStep (evPos (by omega) (evPos h0 (evBindC (impl_place_eq _) ?_)))
    rw [allFrom_step _ _ _ h0 (by omega)]
    cases hb : tileB (bt s i) with
    | true =>
      refine evNeg (by rw [plI_neg, hb]; simp) ?_
      rw [wrapInc h0 (by omega) hs]
      exact ih (i + 1) (by omega) (by omega) (by omega)
    | false => exact evPos (by rw [plI_neg, hb]) (evNow rfl)
theorem impl_onlyTiles_ev (s : ByteArray) (hs : s.size ≤ 140737488351232) : Ev (fun k => impl_onlyTiles.f k s) (allFrom tileB s 0) :=
  impl_tiles_from s hs s.size 0 (by omega) (by omega) (by omega)
theorem spec_ok_from (s : ByteArray) (hs : s.size ≤ 140737488351232) (d : Nat) : ∀ i : Int, 0 ≤ i → i ≤ s.size → (s.size : Int) - i = d →
    Ev (fun k => spec_l17Ok.l0 k s i) (allFrom tileB s i.toNat && decide ((s.size : Int) ≤ 120)) := by
  induction d with
  | zero =>
    intro i h0 h1 hd
    refine evStep (evNeg (by omega) (evNow ?_))
    rw [allFrom_end _ _ _ (by omega)]; rfl
  | succ d ih =>
    intro i h0 h1 hd
    refine evStep (evPos (by omega) (evPos h0 (evBindC (spec_tile _) ?_)))
    rw [allFrom_step _ _ _ h0 (by omega)]
    cases hb : tileB (bt s i) with
    | true =>
      refine evPos rfl ?_
      rw [wrapInc h0 (by omega) hs]
      exact ih (i + 1) (by omega) (by omega) (by omega)
    | false => exact evNeg (by simp) (evNow rfl)
theorem spec_l17Ok_ev (s : ByteArray) (hs : s.size ≤ 140737488351232) : Ev (fun k => spec_l17Ok.f k s) (allFrom tileB s 0 && decide ((s.size : Int) ≤ 120)) :=
  spec_ok_from s hs s.size 0 (by omega) (by omega) (by omega)
theorem impl_ValidBag_ev (s : ByteArray) (hs : s.size ≤ 140737488351232) : Ev (fun k => impl_ValidBag.f k s) (allFrom tileB s 0 && decide ((s.size : Int) ≤ 120)) := by
  unfold impl_ValidBag.f
  by_cases h : (s.size : Int) ≤ 120
  · refine evPos h (evBind (impl_onlyTiles_ev s hs) (evNow ?_)); simp [h]
  · refine evNeg h (evNow ?_); simp [h]
/-- Is a string a bag? -/
def bagB (s : ByteArray) : Bool := allFrom tileB s 0 && decide ((s.size : Int) ≤ 120)
theorem bagB_size {s : ByteArray} (h : bagB s = true) : s.size ≤ 120 := by
  unfold bagB at h; simp only [Bool.and_eq_true, decide_eq_true_eq] at h; omega
theorem allFrom_at {p : Int → Bool} {s : ByteArray} (h : allFrom p s 0 = true) (k : Nat) (hk : k < s.size) : p (bt s (k : Int)) = true := by
  unfold allFrom at h
  rw [List.drop_zero, List.all_eq_true] at h
  refine h _ ?_
  have hl : k < (bytesOf s).length := by rw [bytesOf_length]; exact hk
  have e : (bytesOf s)[k] = bt s (k : Int) := by rw [← rd_bytesOf]; unfold rd; simp [List.getD, hl]
  rw [← e]
  exact List.getElem_mem hl
theorem bag_tiles {s : ByteArray} (h : bagB s = true) : tilesOk s := by
  have hz := bagB_size h
  unfold bagB at h
  rw [Bool.and_eq_true] at h
  refine ⟨by omega, fun k hk => ?_⟩
  have ht := allFrom_at h.1 k hk
  have := plI_neg (bt s (k : Int))
  rw [ht] at this
  have h2 : ¬ plI (bt s (k : Int)) < 0 := fun h => absurd (this.1 h) (by simp)
  have e : plI (bt s (k : Int)) = placeI (bt s (k : Int)) := rfl
  omega
theorem sortBoth {s : ByteArray} (h : tilesOk s) : spec_l03Sort.f s = some (sortS s) ∧ impl_sorted.f s = some (sortS s) := by
  constructor
  · unfold spec_l03Sort.f; rw [if_pos (by have := h.1; omega)]
  · unfold impl_sorted.f; rw [if_pos h]
/-- Is each byte from the n-th on at least the one before it? -/
def ordAll : Nat → ByteArray → Nat → Bool
  | 0, _, _ => true
  | d + 1, s, n => !(decide (0 < n) && decide (bt s (n : Int) < bt s ((n : Int) - 1))) && ordAll d s (n + 1)
def ordFrom (s : ByteArray) (n : Nat) : Bool := ordAll (s.size - n) s n
theorem ordFrom_end (s : ByteArray) (n : Nat) (h : s.size ≤ n) : ordFrom s n = true := by
  unfold ordFrom; rw [show s.size - n = 0 by omega]; rfl
theorem ordFrom_step (s : ByteArray) (i : Int) (h0 : 0 ≤ i) (h : i < (s.size : Int)) : ordFrom s i.toNat = (!(decide (0 < i) && decide (bt s i < bt s (i - 1))) && ordFrom s (i + 1).toNat) := by
  obtain ⟨n, rfl⟩ := Int.eq_ofNat_of_zero_le h0
  have e : ((n : Int) + 1).toNat = n + 1 := by omega
  have e2 : s.size - n = (s.size - (n + 1)) + 1 := by omega
  rw [e, Int.toNat_natCast]
  unfold ordFrom
  rw [e2]
  simp only [ordAll, Int.natCast_pos]
theorem ordFrom_one (s : ByteArray) : ordFrom s 0 = ordFrom s 1 := by
  by_cases h : (0 : Int) < (s.size : Int)
  · have := ordFrom_step s 0 (by omega) h
    simpa using this
  · rw [ordFrom_end s 0 (by omega), ordFrom_end s 1 (by omega)]
/-- Is a string a pile? -/
def pileB (s : ByteArray) : Bool := allFrom tileB s 0 && ordFrom s 0 && decide ((s.size : Int) ≤ 120)
theorem spec_pile_from (s : ByteArray) (hs : s.size ≤ 140737488351232) (d : Nat) : ∀ i : Int, 0 ≤ i → i ≤ s.size → (s.size : Int) - i = d →
    Ev (fun k => spec_l03Pile.l0 k s i) (allFrom tileB s i.toNat && ordFrom s i.toNat && decide ((s.size : Int) ≤ 120)) := by
  induction d with
  | zero =>
    intro i h0 h1 hd
    refine evStep (evNeg (by omega) (evNow ?_))
    rw [allFrom_end _ _ _ (by omega), ordFrom_end _ _ (by omega)]; rfl
  | succ d ih =>
    intro i h0 h1 hd
    have hl : i < (s.size : Int) := by omega
    refine evStep (evPos hl (evPos h0 (evBindC (spec_tile _) ?_)))
    rw [allFrom_step _ _ _ h0 hl, ordFrom_step _ _ h0 hl]
    cases hb : tileB (bt s i) with
    | false => exact evNeg (by simp) (evNow (by simp))
    | true =>
      refine evPos rfl ?_
      rw [wrapInc h0 hl hs]
      have next := ih (i + 1) (by omega) (by omega) (by omega)
      by_cases hp : i > 0
      · have ew : wrap64 (i - 1) = i - 1 := by unfold wrap64; omega
        refine evPos hp ?_
        rw [ew]
        refine evPos (by omega) (evPos (by omega) ?_)
        by_cases hc : bt s i < bt s (i - 1)
        · exact evPos hc (evNow (by simp [hc, hp]))
        · refine evNeg hc (evTo next ?_)
          simp [hc]
      · refine evNeg hp (evTo next ?_)
        have : ¬ 0 < i := by omega
        simp [this]
theorem spec_l03Pile_ev (s : ByteArray) (hs : s.size ≤ 140737488351232) : Ev (fun k => spec_l03Pile.f k s) (pileB s) :=
  spec_pile_from s hs s.size 0 (by omega) (by omega) (by omega)
theorem impl_ord_eq (m : Nat) (s : ByteArray) (i : Int) : impl_ValidPile.l0 (m + 1) s i = if i < (s.size : Int) then (if 0 ≤ (wrap64 (i - 1)) then (if (wrap64 (i - 1)) < (s.size : Int) then (if 0 ≤ i then (if (bt s (wrap64 (i - 1))) > (bt s i) then (some false) else (impl_ValidPile.l0 m s (wrap64 (i + 1)))) else (none)) else (none)) else (none)) else (some true) := by
  simp only [impl_ValidPile.l0]
theorem impl_ord_from (s : ByteArray) (hs : s.size ≤ 140737488351232) (d : Nat) : ∀ i : Int, 1 ≤ i → (s.size : Int) - i ≤ d →
    Ev (fun k => impl_ValidPile.l0 k s i) (ordFrom s i.toNat) := by
  induction d with
  | zero =>
    intro i h0 hd
    refine Ev.step (fun m => impl_ord_eq m s i) (evNeg (by omega) (evNow ?_))
    rw [ordFrom_end _ _ (by omega)]
  | succ d ih =>
    intro i h0 hd
    by_cases hl : i < (s.size : Int)
    · have ew : wrap64 (i - 1) = i - 1 := by unfold wrap64; omega
      refine Ev.step (fun m => impl_ord_eq m s i) ?_
      refine evPos hl ?_
      rw [ew]
      refine evPos (by omega) <| evPos (by omega) <| evPos (by omega) ?_
      rw [ordFrom_step _ _ (by omega) hl]
      rw [wrapInc (by omega) hl hs]
      by_cases hc : bt s i < bt s (i - 1)
      · exact evPos hc (evNow (by have : 0 < i := by omega
                                  simp [hc, this]))
      · refine evNeg hc (evTo (ih (i + 1) (by omega) (by omega)) ?_)
        simp [hc]
    · refine Ev.step (fun m => impl_ord_eq m s i) (evNeg hl (evNow ?_))
      rw [ordFrom_end _ _ (by omega)]
theorem impl_ValidPile_ev (s : ByteArray) (hs : s.size ≤ 140737488351232) : Ev (fun k => impl_ValidPile.f k s) (pileB s) := by
  unfold impl_ValidPile.f
  by_cases h : (s.size : Int) > 120
  · refine evPos h (Ev.step (fun m => by simp only [impl_ValidPile.j0, if_true]; rfl) (evNow ?_))
    unfold pileB
    have : ¬ (s.size : Int) ≤ 120 := by omega
    simp [this]
  · refine evNeg h (evBind (impl_onlyTiles_ev s hs) ?_)
    unfold pileB
    have h' : (s.size : Int) ≤ 120 := by omega
    cases ht : allFrom tileB s 0 with
    | false => exact Ev.step (fun m => by simp only [impl_ValidPile.j0, Bool.not_false, if_true]; rfl) (evNow (by simp))
    | true =>
      refine Ev.step (fun m => by simp only [impl_ValidPile.j0, Bool.not_true, Bool.false_eq_true, if_false]; rfl) ?_
      refine evTo (impl_ord_from s hs s.size 1 (by omega) (by omega)) ?_
      rw [ordFrom_one]; simp [h']
theorem pile_tiles {s : ByteArray} (h : pileB s = true) : allFrom tileB s 0 = true := by
  unfold pileB at h; simp only [Bool.and_eq_true] at h; exact h.1.1
theorem pile_size {s : ByteArray} (h : pileB s = true) : s.size ≤ 120 := by
  unfold pileB at h; simp only [Bool.and_eq_true, decide_eq_true_eq] at h; omega
theorem pile_ok {s : ByteArray} (h : pileB s = true) : tilesOk s := by
  refine bag_tiles ?_
  unfold pileB at h; unfold bagB
  simp only [Bool.and_eq_true] at h ⊢
  exact ⟨h.1.1, h.2⟩
def rackB (s : ByteArray) : Bool := pileB s && decide ((s.size : Int) ≤ 7)
theorem spec_l03Rack_ev (s : ByteArray) (hs : s.size ≤ 140737488351232) : Ev (fun k => spec_l03Rack.f k s) (rackB s) := by
  unfold spec_l03Rack.f rackB
  refine evBind (spec_l03Pile_ev s hs) ?_
  cases pileB s with
  | true => exact evPos rfl (evNow (by simp))
  | false => exact evNeg (by simp) (evNow (by simp))
theorem impl_ValidRack_ev (s : ByteArray) (hs : s.size ≤ 140737488351232) : Ev (fun k => impl_ValidRack.f k s) (rackB s) := by
  unfold impl_ValidRack.f rackB
  by_cases h : (s.size : Int) ≤ 7
  · exact evPos h (evBind (impl_ValidPile_ev s hs) (evNow (by simp [h])))
  · exact evNeg h (evNow (by simp [h]))
theorem rack_pile {s : ByteArray} (h : rackB s = true) : pileB s = true := by
  unfold rackB at h; simp only [Bool.and_eq_true] at h; exact h.1
theorem rack_size {s : ByteArray} (h : rackB s = true) : s.size ≤ 7 := by
  unfold rackB at h; simp only [Bool.and_eq_true, decide_eq_true_eq] at h; omega
theorem bytesOf_extract (s : ByteArray) (a b : Nat) : bytesOf (s.extract a b) = ((bytesOf s).drop a).take (b - a) := by
  unfold bytesOf
  rw [ByteArray.data_extract, Array.toList_extract, List.extract_eq_take_drop, List.map_take, List.map_drop]
theorem bytesOf_append (s t : ByteArray) : bytesOf (s ++ t) = bytesOf s ++ bytesOf t := by
  unfold bytesOf
  rw [ByteArray.data_append, Array.toList_append, List.map_append]
theorem bt_mem (s : ByteArray) (k : Nat) (h : k < s.size) : bt s (k : Int) ∈ bytesOf s := by
  have hl : k < (bytesOf s).length := by rw [bytesOf_length]; exact h
  have e : (bytesOf s)[k] = bt s (k : Int) := by rw [← rd_bytesOf]; unfold rd; simp [List.getD, hl]
  rw [← e]; exact List.getElem_mem hl
theorem mem_bt (s : ByteArray) (x : Int) (h : x ∈ bytesOf s) : ∃ k : Nat, k < s.size ∧ x = bt s (k : Int) := by
  obtain ⟨k, hk, rfl⟩ := List.getElem_of_mem h
  refine ⟨k, by rw [← bytesOf_length]; exact hk, ?_⟩
  rw [← rd_bytesOf]; unfold rd; simp [List.getD, hk]
theorem tilesOk_iff (s : ByteArray) : tilesOk s ↔ s.size ≤ 1000000 ∧ ∀ x ∈ bytesOf s, 0 ≤ placeI x := by
  unfold tilesOk
  constructor
  · rintro ⟨h1, h2⟩
    refine ⟨h1, fun x hx => ?_⟩
    obtain ⟨k, hk, rfl⟩ := mem_bt s x hx
    exact h2 k hk
  · rintro ⟨h1, h2⟩
    exact ⟨h1, fun k hk => h2 _ (bt_mem s k hk)⟩
theorem size_extract_le (s : ByteArray) (a b : Nat) : (s.extract a b).size ≤ s.size := by rw [ByteArray.size_extract]; omega
theorem tilesOk_extract {s : ByteArray} (h : tilesOk s) (a b : Nat) : tilesOk (s.extract a b) := by
  rw [tilesOk_iff] at h ⊢
  refine ⟨Nat.le_trans (size_extract_le s a b) h.1, fun x hx => h.2 x ?_⟩
  rw [bytesOf_extract] at hx
  exact List.mem_of_mem_drop (List.mem_of_mem_take hx)
theorem tilesOk_append {s t : ByteArray} (h : tilesOk s) (h' : tilesOk t) (hz : s.size + t.size ≤ 1000000) : tilesOk (s ++ t) := by
  rw [tilesOk_iff] at h h' ⊢
  refine ⟨by rw [ByteArray.size_append]; exact hz, fun x hx => ?_⟩
  rw [bytesOf_append] at hx
  rcases List.mem_append.1 hx with hx | hx
  · exact h.2 x hx
  · exact h'.2 x hx
theorem count_map_inj {α β : Type} [DecidableEq α] [DecidableEq β] (f : α → β) (hf : ∀ x y, f x = f y → x = y) (a : α) : ∀ l : List α, (l.map f).count (f a) = l.count a
  | [] => rfl
  | x :: l => by
    rw [List.map_cons, List.count_cons, List.count_cons, count_map_inj f hf a l]
    by_cases h : x = a
    · subst h; simp
    · have : ¬ f x = f a := fun e => h (hf _ _ e)
      simp [h, this]
theorem cnt_int {s : ByteArray} (h : tilesOk s) (j : Nat) (hj : j ≤ 26) : (cntTo s s.size).getD j 0 = ((bytesOf s).count (tileI j) : Int) := by
  rw [cnt_count s h.2 j hj s.size (Nat.le_refl _), ← tileU_toNat j hj, List.take_of_length_le (by rw [data_length]; exact Nat.le_refl _)]
  unfold bytesOf
  exact (congrArg Int.ofNat (count_map_inj (fun b : UInt8 => (b.toNat : Int)) (fun x y e => by
    have e' : ((x.toNat : Nat) : Int) = (y.toNat : Int) := e
    exact UInt8.toNat_inj.1 (by omega)) (tileU j) s.data.toList)).symm
theorem place_tileI {x : Int} (h : 0 ≤ placeI x) : ∃ j : Nat, j ≤ 26 ∧ placeI x = j ∧ x = tileI j := by
  unfold placeI at h ⊢
  by_cases h1 : x = 63
  · exact ⟨0, by omega, by rw [if_pos h1]; rfl, by rw [h1]; rfl⟩
  · rw [if_neg h1] at h ⊢
    by_cases h2 : 97 ≤ x ∧ x ≤ 122
    · refine ⟨(x - 96).toNat, by omega, by rw [if_pos h2]; omega, ?_⟩
      unfold tileI
      rw [if_neg (by omega)]; omega
    · rw [if_neg h2] at h; omega
theorem tileI_lt {i j : Nat} (hj : j ≤ 26) (h : i < j) : tileI i < tileI j := by
  unfold tileI; split <;> split <;> omega
theorem tileI_le_iff {i j : Nat} (hi : i ≤ 26) (hj : j ≤ 26) : tileI i ≤ tileI j ↔ i ≤ j := by
  constructor
  · intro h
    rcases Nat.lt_or_ge j i with h2 | h2
    · have := tileI_lt hi h2; omega
    · exact h2
  · intro h
    rcases Nat.lt_or_eq_of_le h with h2 | rfl
    · exact Int.le_of_lt (tileI_lt hj h2)
    · exact Int.le_refl _
theorem tileI_inj {i j : Nat} (hi : i ≤ 26) (hj : j ≤ 26) (h : tileI i = tileI j) : i = j := by
  have h1 := (tileI_le_iff hi hj).1 (Int.le_of_eq h)
  have h2 := (tileI_le_iff hj hi).1 (Int.le_of_eq h.symm)
  omega
/-- A pile's bytes ascend. -/
theorem ord_at {s : ByteArray} (h : ordFrom s 0 = true) : ∀ j : Nat, 0 < j → j < s.size → bt s ((j : Int) - 1) ≤ bt s (j : Int) := by
  have go : ∀ n : Nat, n ≤ s.size → ordFrom s n = true := by
    intro n
    induction n with
    | zero => intro _; exact h
    | succ n ih =>
      intro hn
      have := ih (by omega)
      have e := ordFrom_step s (n : Int) (by omega) (by omega)
      rw [Int.toNat_natCast, show ((n : Int) + 1).toNat = n + 1 by omega, this] at e
      have e2 := e.symm
      simp only [Bool.and_eq_true] at e2
      exact e2.2
  intro j h0 hj
  have e := ordFrom_step s (j : Int) (by omega) (by omega)
  rw [Int.toNat_natCast, go j (by omega)] at e
  have e2 := e.symm
  simp only [Bool.and_eq_true, Bool.not_eq_true', Bool.and_eq_false_iff, decide_eq_false_iff_not] at e2
  rcases e2.1 with h1 | h1 <;> omega
theorem ord_le {s : ByteArray} (h : ordFrom s 0 = true) (i : Nat) : ∀ j : Nat, i ≤ j → j < s.size → bt s (i : Int) ≤ bt s (j : Int) := by
  intro j
  induction j with
  | zero => intro h1 _; obtain rfl : i = 0 := by omega
            exact Int.le_refl _
  | succ j ih =>
    intro h1 h2
    rcases Nat.lt_or_eq_of_le h1 with h3 | rfl
    · have := ih (by omega) (by omega)
      have h4 := ord_at h (j + 1) (by omega) h2
      rw [show ((j + 1 : Nat) : Int) - 1 = (j : Int) by omega] at h4
      omega
    · exact Int.le_refl _
theorem get_bytes (s : ByteArray) (j : Nat) (h : j < (bytesOf s).length) : (bytesOf s)[j] = bt s (j : Int) := by
  rw [← rd_bytesOf]; unfold rd; simp [List.getD, h]
theorem ord_pairwise {s : ByteArray} (h : ordFrom s 0 = true) : (bytesOf s).Pairwise (· ≤ ·) := by
  rw [List.pairwise_iff_getElem]
  intro i j hi hj hij
  rw [get_bytes, get_bytes]
  rw [bytesOf_length] at hj
  exact ord_le h i j (by omega) hj
theorem pile_ord {s : ByteArray} (h : pileB s = true) : ordFrom s 0 = true := by
  unfold pileB at h; simp only [Bool.and_eq_true] at h; exact h.1.2
/-- Are the second list's members among the first's, taken in order? -/
def takeOk : List Int → List Int → Bool
  | [], b => b.isEmpty
  | _ :: a, [] => takeOk a []
  | x :: a, y :: b => if y = x then takeOk a b else takeOk a (y :: b)
theorem takeOk_cons (x y : Int) (a b : List Int) : takeOk (x :: a) (y :: b) = if y = x then takeOk a b else takeOk a (y :: b) := by rw [takeOk]
theorem takeOk_nil : ∀ a, takeOk a [] = true
  | [] => rfl
  | _ :: a => takeOk_nil a
theorem takeOk_le : ∀ a b, takeOk a b = true → ∀ z, b.count z ≤ a.count z
  | [], b, h, z => by
    have : b = [] := List.isEmpty_iff.1 h
    subst this; exact Nat.le_refl _
  | x :: a, [], h, z => by simp
  | x :: a, y :: b, h, z => by
    unfold takeOk at h
    by_cases e : y = x
    · rw [if_pos e] at h; subst e
      have := takeOk_le a b h z
      rw [List.count_cons, List.count_cons]; omega
    · rw [if_neg e] at h
      have := takeOk_le a (y :: b) h z
      rw [List.count_cons (l := a)]; omega
theorem takeOk_of : ∀ a b : List Int, a.Pairwise (· ≤ ·) → b.Pairwise (· ≤ ·) → (∀ z, b.count z ≤ a.count z) → takeOk a b = true
  | [], b, _, _, h => by
    cases b with
    | nil => rfl
    | cons y b => have := h y; simp at this
  | x :: a, [], _, _, _ => takeOk_nil _
  | x :: a, y :: b, ha, hb, h => by
    have ha' := (List.pairwise_cons.1 ha)
    have hb' := (List.pairwise_cons.1 hb)
    unfold takeOk
    by_cases e : y = x
    · subst e
      rw [if_pos rfl]
      refine takeOk_of a b ha'.2 hb'.2 fun z => ?_
      have := h z
      rw [List.count_cons, List.count_cons] at this
      omega
    · rw [if_neg e]
      refine takeOk_of a (y :: b) ha'.2 hb fun z => ?_
      have hz := h z
      have hy := h y
      rw [List.count_cons (l := a), show (x == y) = false from beq_eq_false_iff_ne.2 (fun h => e h.symm), List.count_cons_self] at hy
      have hm : y ∈ a := List.count_pos_iff.1 (by simpa using Nat.lt_of_lt_of_le (Nat.succ_pos _) hy)
      have hxy : x ≤ y := ha'.1 y hm
      by_cases hzx : z = x
      · subst hzx
        have : (y :: b).count z = 0 := List.count_eq_zero.2 fun hmem => by
          rcases List.mem_cons.1 hmem with rfl | hmem
          · exact e rfl
          · have := hb'.1 z hmem; omega
        omega
      · rw [List.count_cons (l := a), show (x == z) = false from beq_eq_false_iff_ne.2 (fun h => hzx h.symm)] at hz
        simpa using hz
theorem take_from (a b : ByteArray) (ha : a.size ≤ 140737488351232) (hb : b.size ≤ 140737488351232) (n : Nat) : ∀ (out : List Int) (i j : Int), 0 ≤ i → i ≤ b.size → 0 ≤ j → j ≤ a.size → (a.size : Int) - j = n → (out.length : Int) ≤ j →
    ∃ str, Ev (fun k => spec_l03Take.l0 k a b out i j) (str, takeOk ((bytesOf a).drop j.toNat) ((bytesOf b).drop i.toNat)) := by
  induction n with
  | zero =>
    intro out i j h0 h1 h2 h3 hd ho
    refine ⟨strOfNums out, evStep (evNeg (by omega) (evNow ?_))⟩
    rw [List.drop_of_length_le (by rw [bytesOf_length]; omega)]
    have : (i == (b.size : Int)) = takeOk [] ((bytesOf b).drop i.toNat) := by
      show _ = List.isEmpty _
      rw [Bool.eq_iff_iff, beq_iff_eq, List.isEmpty_iff, List.drop_eq_nil_iff, bytesOf_length]
      omega
    rw [this]
  | succ n ih =>
    intro out i j h0 h1 h2 h3 hd ho
    have hj : j < (a.size : Int) := by omega
    have ea : (bytesOf a).drop j.toNat = bt a j :: (bytesOf a).drop (j + 1).toNat := by
      have := bytesOf_drop a j.toNat (by omega)
      rw [show ((j.toNat : Nat) : Int) = j by omega] at this
      rw [this, show (j + 1).toNat = j.toNat + 1 by omega]
    rw [ea]
    have ej := wrapInc h2 hj ha
    by_cases hi : i < (b.size : Int)
    · have eb : (bytesOf b).drop i.toNat = bt b i :: (bytesOf b).drop (i + 1).toNat := by
        have := bytesOf_drop b i.toNat (by omega)
        rw [show ((i.toNat : Nat) : Int) = i by omega] at this
        rw [this, show (i + 1).toNat = i.toNat + 1 by omega]
      have ei := wrapInc h0 hi hb
      by_cases hc : bt b i = bt a j
      · obtain ⟨str, hs⟩ := ih out (i + 1) (j + 1) (by omega) (by omega) (by omega) (by omega) (by omega) (by omega)
        refine ⟨str, evStep (evPos hj (evPos hi (evPos h0 (evPos h2 (evPos hc ?_)))))⟩
        rw [ei, ej]
        refine evTo hs ?_
        rw [eb, takeOk_cons, if_pos hc]
      · obtain ⟨str, hs⟩ := ih (out ++ [bt a j]) i (j + 1) (by omega) (by omega) (by omega) (by omega) (by omega) (by rw [List.length_append, List.length_singleton]; omega)
        refine ⟨str, evStep (evPos hj (evPos hi (evPos h0 (evPos h2 (evNeg hc (evPos (by omega) ?_))))))⟩
        rw [ej]
        refine evTo hs ?_
        rw [eb, takeOk_cons, if_neg hc]
    · obtain ⟨str, hs⟩ := ih (out ++ [bt a j]) i (j + 1) (by omega) (by omega) (by omega) (by omega) (by omega) (by rw [List.length_append, List.length_singleton]; omega)
      refine ⟨str, evStep (evPos hj (evNeg hi (evPos h2 (evPos (by omega) ?_))))⟩
      rw [ej]
      refine evTo hs ?_
      have : (bytesOf b).drop i.toNat = [] := List.drop_of_length_le (by rw [bytesOf_length]; omega)
      rw [this]; rw [takeOk_nil, takeOk_nil]
theorem take_ev (a b : ByteArray) (ha : a.size ≤ 140737488351232) (hb : b.size ≤ 140737488351232) : ∃ str, Ev (fun k => spec_l03Take.f k a b) (str, takeOk (bytesOf a) (bytesOf b)) :=
  take_from a b ha hb a.size [] 0 0 (by omega) (by omega) (by omega) (by omega) (by omega) (by simp)
/-- What the taking leaves. -/
def restL : List Int → List Int → List Int
  | [], _ => []
  | x :: a, [] => x :: restL a []
  | x :: a, y :: b => if y = x then restL a b else x :: restL a (y :: b)
theorem restL_nil (x : Int) (a : List Int) : restL (x :: a) [] = x :: restL a [] := by rw [restL]
theorem restL_cons (x y : Int) (a b : List Int) : restL (x :: a) (y :: b) = if y = x then restL a b else x :: restL a (y :: b) := by rw [restL]
theorem restL_all : ∀ a, restL a [] = a
  | [] => rfl
  | x :: a => by rw [restL_nil, restL_all a]
theorem restL_mem : ∀ a b, ∀ z ∈ restL a b, z ∈ a
  | [], b, z, h => by simp [restL] at h
  | x :: a, [], z, h => by rw [restL_all] at h; exact h
  | x :: a, y :: b, z, h => by
    rw [restL_cons] at h
    by_cases e : y = x
    · rw [if_pos e] at h; exact List.mem_cons_of_mem _ (restL_mem a b z h)
    · rw [if_neg e] at h
      rcases List.mem_cons.1 h with rfl | h
      · exact List.mem_cons_self
      · exact List.mem_cons_of_mem _ (restL_mem a (y :: b) z h)
theorem restL_count : ∀ a b, takeOk a b = true → ∀ z, a.count z = b.count z + (restL a b).count z
  | [], b, h, z => by
    have : b = [] := List.isEmpty_iff.1 h
    subst this; rfl
  | x :: a, [], h, z => by rw [restL_all]; simp
  | x :: a, y :: b, h, z => by
    rw [takeOk_cons] at h
    rw [restL_cons]
    by_cases e : y = x
    · rw [if_pos e] at h ⊢; subst e
      have := restL_count a b h z
      rw [List.count_cons, List.count_cons]; omega
    · rw [if_neg e] at h ⊢
      have := restL_count a (y :: b) h z
      rw [List.count_cons (l := a), List.count_cons (l := restL a (y :: b))]; omega
theorem take_rest_from (a b : ByteArray) (ha : a.size ≤ 140737488351232) (hb : b.size ≤ 140737488351232) (n : Nat) : ∀ (out : List Int) (i j : Int), 0 ≤ i → i ≤ b.size → 0 ≤ j → j ≤ a.size → (a.size : Int) - j = n → (out.length : Int) ≤ j →
    Ev (fun k => spec_l03Take.l0 k a b out i j) (strOfNums (out ++ restL ((bytesOf a).drop j.toNat) ((bytesOf b).drop i.toNat)), takeOk ((bytesOf a).drop j.toNat) ((bytesOf b).drop i.toNat)) := by
  induction n with
  | zero =>
    intro out i j h0 h1 h2 h3 hd ho
    refine evStep (evNeg (by omega) (evNow ?_))
    rw [List.drop_of_length_le (by rw [bytesOf_length]; omega)]
    have : (i == (b.size : Int)) = takeOk [] ((bytesOf b).drop i.toNat) := by
      show _ = List.isEmpty _
      rw [Bool.eq_iff_iff, beq_iff_eq, List.isEmpty_iff, List.drop_eq_nil_iff, bytesOf_length]
      omega
    rw [this]; unfold restL; rw [List.append_nil]
  | succ n ih =>
    intro out i j h0 h1 h2 h3 hd ho
    have hj : j < (a.size : Int) := by omega
    have ea : (bytesOf a).drop j.toNat = bt a j :: (bytesOf a).drop (j + 1).toNat := by
      have := bytesOf_drop a j.toNat (by omega)
      rw [show ((j.toNat : Nat) : Int) = j by omega] at this
      rw [this, show (j + 1).toNat = j.toNat + 1 by omega]
    rw [ea]
    have ej := wrapInc h2 hj ha
    by_cases hi : i < (b.size : Int)
    · have eb : (bytesOf b).drop i.toNat = bt b i :: (bytesOf b).drop (i + 1).toNat := by
        have := bytesOf_drop b i.toNat (by omega)
        rw [show ((i.toNat : Nat) : Int) = i by omega] at this
        rw [this, show (i + 1).toNat = i.toNat + 1 by omega]
      have ei := wrapInc h0 hi hb
      by_cases hc : bt b i = bt a j
      · have hs := ih out (i + 1) (j + 1) (by omega) (by omega) (by omega) (by omega) (by omega) (by omega)
        refine evStep (evPos hj (evPos hi (evPos h0 (evPos h2 (evPos hc ?_)))))
        rw [ei, ej]
        refine evTo hs ?_
        rw [eb, takeOk_cons, if_pos hc, restL_cons, if_pos hc]
      · have hs := ih (out ++ [bt a j]) i (j + 1) (by omega) (by omega) (by omega) (by omega) (by omega) (by rw [List.length_append, List.length_singleton]; omega)
        refine evStep (evPos hj (evPos hi (evPos h0 (evPos h2 (evNeg hc (evPos (by omega) ?_))))))
        rw [ej]
        refine evTo hs ?_
        rw [eb, takeOk_cons, if_neg hc, restL_cons, if_neg hc, List.append_assoc]; rfl
    · have hs := ih (out ++ [bt a j]) i (j + 1) (by omega) (by omega) (by omega) (by omega) (by omega) (by rw [List.length_append, List.length_singleton]; omega)
      refine evStep (evPos hj (evNeg hi (evPos h2 (evPos (by omega) ?_))))
      rw [ej]
      refine evTo hs ?_
      have : (bytesOf b).drop i.toNat = [] := List.drop_of_length_le (by rw [bytesOf_length]; omega)
      rw [this, takeOk_nil, takeOk_nil, restL_nil, List.append_assoc]; rfl
theorem take_rest_ev (a b : ByteArray) (ha : a.size ≤ 140737488351232) (hb : b.size ≤ 140737488351232) : Ev (fun k => spec_l03Take.f k a b) (strOfNums (restL (bytesOf a) (bytesOf b)), takeOk (bytesOf a) (bytesOf b)) :=
  take_rest_from a b ha hb a.size [] 0 0 (by omega) (by omega) (by omega) (by omega) (by omega) (by simp)
theorem data_bytes (s : ByteArray) : s.data.toList = (bytesOf s).map fun n => UInt8.ofNat n.toNat := by
  unfold bytesOf
  rw [List.map_map]
  exact ((List.map_congr_left (g := id) fun b _ => by simp).trans (List.map_id _)).symm
theorem sortS_same {s t : ByteArray} (h : (bytesOf s).Perm (bytesOf t)) : sortS s = sortS t := by
  have hp : s.data.toList.Perm t.data.toList := by rw [data_bytes s, data_bytes t]; exact h.map _
  have := sortS_unique (s := t) (l := (sortS s).data.toList) ((sortS_perm s).trans hp) (sortS_sorted s)
  rw [← this]
theorem bytesOf_nums (l : List Int) (h : ∀ x ∈ l, 0 ≤ x ∧ x ≤ 255) : bytesOf (strOfNums l) = l := by
  unfold bytesOf
  rw [strOfNums_data, List.map_map]
  refine (List.map_congr_left (g := id) fun x hx => ?_).trans (List.map_id _)
  have := h x hx
  show ((UInt8.ofNat x.toNat).toNat : Int) = x
  rw [UInt8.toNat_ofNat', Nat.mod_eq_of_lt (by omega)]; omega
theorem lessB_iff {a b : ByteArray} (ta : tilesOk a) (tb : tilesOk b) (oa : ordFrom a 0 = true) (ob : ordFrom b 0 = true) : lessB (cntTo a a.size) (cntTo b b.size) = takeOk (bytesOf a) (bytesOf b) := by
  rw [Bool.eq_iff_iff]
  unfold lessB
  rw [List.all_eq_true]
  constructor
  · intro h
    refine takeOk_of _ _ (ord_pairwise oa) (ord_pairwise ob) fun z => ?_
    by_cases hz : z ∈ bytesOf b
    · obtain ⟨m, hm, e⟩ := mem_bt b z hz
      obtain ⟨q, hq, _, e2⟩ := place_tileI (tb.2 m hm)
      have := of_decide_eq_true (h q (List.mem_range.2 (by omega)))
      rw [cnt_int ta q hq, cnt_int tb q hq, ← e2, ← e] at this
      omega
    · rw [List.count_eq_zero.2 hz]; exact Nat.zero_le _
  · intro h j hj
    have hj' := List.mem_range.1 hj
    refine decide_eq_true ?_
    rw [cnt_int ta j (by omega), cnt_int tb j (by omega)]
    have := takeOk_le _ _ h (tileI j); omega
theorem rest_perm {a b : ByteArray} (ta : tilesOk a) (tb : tilesOk b) (oa : ordFrom a 0 = true) (ob : ordFrom b 0 = true) (h : takeOk (bytesOf a) (bytesOf b) = true) :
    (restL (bytesOf a) (bytesOf b)).Perm (bytesOf (restS a b)) := by
  rw [List.perm_iff_count]
  intro z
  have hc := restL_count _ _ h z
  have hL : lessL (cntTo a a.size) (cntTo b b.size) = subTo (cntTo a a.size) (cntTo b b.size) 27 := by unfold lessL; rw [lessB_iff ta tb oa ob, h]; rfl
  have hR : bytesOf (restS a b) = (pileTo (lessL (cntTo a a.size) (cntTo b b.size)) 27).map fun u : UInt8 => (u.toNat : Int) := rfl
  have inj : ∀ x y : UInt8, (x.toNat : Int) = (y.toNat : Int) → x = y := fun x y e => UInt8.toNat_inj.1 (by omega)
  by_cases hz : ∃ j : Nat, j ≤ 26 ∧ z = tileI j
  · obtain ⟨j, hj, rfl⟩ := hz
    rw [hR, ← tileU_toNat j hj, count_map_inj (fun u : UInt8 => (u.toNat : Int)) inj (tileU j), pile_count _ j hj 27 (Nat.le_refl _), if_pos (by omega), hL, subTo_get _ _ j (by rw [cntTo_length]; omega) 27, if_pos (by omega), cnt_int ta j hj, cnt_int tb j hj, ← tileU_toNat j hj]
    rw [← tileU_toNat j hj] at hc
    omega
  · have h1 : (bytesOf a).count z = 0 := List.count_eq_zero.2 fun hm => by
      obtain ⟨m, hm, e⟩ := mem_bt a z hm
      obtain ⟨q, hq, _, e2⟩ := place_tileI (ta.2 m hm)
      exact hz ⟨q, hq, e.trans e2⟩
    have h2 : (bytesOf (restS a b)).count z = 0 := List.count_eq_zero.2 fun hm => by
      rw [hR] at hm
      obtain ⟨u, hu, e⟩ := List.mem_map.1 hm
      obtain ⟨j, hj, e2⟩ := pile_mem _ _ u hu
      exact hz ⟨j, by omega, by rw [← e, e2, tileU_toNat j (by omega)]⟩
    omega
theorem takeOk_len : ∀ a b, takeOk a b = true → b.length + (restL a b).length = a.length
  | [], b, h => by
    have : b = [] := List.isEmpty_iff.1 h
    subst this; rfl
  | x :: a, [], h => by rw [restL_all]; simp
  | x :: a, y :: b, h => by
    rw [takeOk_cons] at h
    rw [restL_cons]
    by_cases e : y = x
    · rw [if_pos e] at h ⊢
      have := takeOk_len a b h
      simp only [List.length_cons]; omega
    · rw [if_neg e] at h ⊢
      have := takeOk_len a (y :: b) h
      simp only [List.length_cons] at this ⊢; omega
theorem exch_same {b r t : ByteArray} (zb : b.size ≤ 120) (zr : r.size ≤ 7) (tb : tilesOk b) (tr : tilesOk r) (tt : tilesOk t) (or_ : ordFrom r 0 = true) (ot : ordFrom t 0 = true) (hb : b.size ≤ 140737488351232) (hr : r.size ≤ 140737488351232) (ht : t.size ≤ 140737488351232) :
    ∃ V, Ev (fun k => spec_ExchangeTiles.j0 k b r t false) V ∧ exchTail b r t = some V := by
  have st : ∀ m, spec_ExchangeTiles.j0 (m + 1) b r t false = (if t.toList = ([] : List UInt8) then (some ((⟨#[]⟩ : ByteArray), (⟨#[]⟩ : ByteArray), 2)) else ((spec_l03Take.f m r t).bind fun bt117 => (if bt117.2 = true then (if (b.size : Int) < 7 then (some ((⟨#[]⟩ : ByteArray), (⟨#[]⟩ : ByteArray), 6)) else (if 0 ≤ (t.size : Int) then (if (t.size : Int) ≤ (b.size : Int) then (if bt117.1.size + (b.extract 0 ((t.size : Int) : Int).toNat).size ≤ 9223372036854775807 then ((spec_l03Sort.f (bt117.1 ++ (b.extract 0 ((t.size : Int) : Int).toNat))).bind fun t119 => (if (b.extract ((t.size : Int) : Int).toNat b.size).size + t.size ≤ 9223372036854775807 then (some (t119, (b.extract ((t.size : Int) : Int).toNat b.size) ++ t, 0)) else (none))) else (none)) else (none)) else (none))) else (some ((⟨#[]⟩ : ByteArray), (⟨#[]⟩ : ByteArray), 3))))) := fun m => by
    simp only [spec_ExchangeTiles.j0, Bool.false_eq_true, if_false]
  have hw : impl_without.f r t = some (restS r t, takeOk (bytesOf r) (bytesOf t)) := by unfold impl_without.f; rw [if_pos ⟨tr, tt⟩, lessB_iff tr tt or_ ot]
  by_cases he : t.toList = []
  · exact ⟨_, Ev.step st (evPos he (evNow rfl)), by unfold exchTail; rw [if_pos he]⟩
  have tk := take_rest_ev r t hr ht
  cases hk : takeOk (bytesOf r) (bytesOf t) with
  | false =>
    rw [hk] at tk hw
    exact ⟨_, Ev.step st (evNeg he (evBind tk (evNeg (by simp) (evNow rfl)))), by unfold exchTail; rw [if_neg he, hw]; rfl⟩
  | true =>
    rw [hk] at tk hw
    by_cases h7 : (b.size : Int) < 7
    · exact ⟨_, Ev.step st (evNeg he (evBind tk (evPos rfl (evPos h7 (evNow rfl))))), by unfold exchTail; rw [if_neg he, hw, Option.bind_some, if_pos rfl, if_pos h7]⟩
    · have hl := takeOk_len _ _ hk
      rw [bytesOf_length, bytesOf_length] at hl
      have hp := rest_perm tr tt or_ ot hk
      have hpl := hp.length_eq
      rw [bytesOf_length] at hpl
      have hrange : ∀ x ∈ restL (bytesOf r) (bytesOf t), 0 ≤ x ∧ x ≤ 255 := fun x hx => by
        obtain ⟨m, _, e⟩ := mem_bt r x (restL_mem _ _ x hx)
        rw [e]; exact bt_range r m
      have hbn := bytesOf_nums _ hrange
      have hsz : (strOfNums (restL (bytesOf r) (bytesOf t))).size = (restL (bytesOf r) (bytesOf t)).length := by rw [← bytesOf_length, hbn]
      have hmem : ∀ x ∈ restL (bytesOf r) (bytesOf t), 0 ≤ placeI x := fun x hx => ((tilesOk_iff r).1 tr).2 x (restL_mem _ _ x hx)
      have tS : tilesOk (strOfNums (restL (bytesOf r) (bytesOf t))) := (tilesOk_iff _).2 ⟨by omega, by rw [hbn]; exact hmem⟩
      have tR : tilesOk (restS r t) := (tilesOk_iff _).2 ⟨by omega, fun x hx => hmem x (hp.mem_iff.2 hx)⟩
      have tX := tilesOk_extract tb 0 t.size
      have zX := size_extract_le b 0 t.size
      obtain ⟨f1, _⟩ := sortBoth (tilesOk_append tS tX (by omega))
      obtain ⟨_, f2⟩ := sortBoth (tilesOk_append tR tX (by omega))
      have hs : sortS (strOfNums (restL (bytesOf r) (bytesOf t)) ++ b.extract 0 t.size) = sortS (restS r t ++ b.extract 0 t.size) := by
        refine sortS_same ?_
        rw [bytesOf_append, bytesOf_append, hbn]
        exact hp.append_right _
      rw [hs] at f1
      have zY := size_extract_le b t.size b.size
      refine ⟨(sortS (restS r t ++ b.extract 0 t.size), b.extract t.size b.size ++ t, 0), Ev.step st ?_, ?_⟩
      · rw [Int.toNat_natCast]
        exact evNeg he <| evBind tk <| evPos rfl <| evNeg h7 <| evPos (by omega) <| evPos (by omega) <| evPos (by show (strOfNums (restL (bytesOf r) (bytesOf t))).size + _ ≤ _; omega) <| evBindC f1 <| evPos (by omega) <| evNow rfl
      · unfold exchTail
        rw [if_neg he, hw, Option.bind_some, if_pos rfl, if_neg h7, if_pos ⟨by omega, by omega, by show (restS r t).size ≤ 1000; omega⟩]
        show (impl_sorted.f (restS r t ++ b.extract 0 t.size)).bind _ = _
        rw [f2]; rfl
theorem FnExactExchangeTiles : laws_FnExactExchangeTiles.Pure := by
  intro b r t hb hr ht
  refine Ev.rounds (?_ : Ev (fun k => laws_FnExactExchangeTiles.f k b r t) true)
  unfold laws_FnExactExchangeTiles.f
  by_cases h1 : (b.size : Int) > 1048576
  · exact evPos h1 (evNow rfl)
  refine evNeg h1 ?_
  by_cases h2 : (r.size : Int) > 1048576
  · exact evPos h2 (evNow rfl)
  refine evNeg h2 ?_
  by_cases h3 : (t.size : Int) > 1048576
  · exact evPos h3 (evNow rfl)
  refine evNeg h3 ?_
  unfold spec_ExchangeTiles.f impl_ExchangeTiles.f
  have s_yes : ∀ m, spec_ExchangeTiles.j0 (m + 1) b r t true = some ((⟨#[]⟩ : ByteArray), (⟨#[]⟩ : ByteArray), 1) := fun m => by simp only [spec_ExchangeTiles.j0, if_true]
  have hv : Ev (fun k => spec_l17Ok.f k b) (bagB b) := spec_l17Ok_ev b hb
  have hi : Ev (fun k => impl_ValidBag.f k b) (bagB b) := impl_ValidBag_ev b hb
  have no : Ev (fun k => spec_ExchangeTiles.j0 k b r t true) ((⟨#[]⟩ : ByteArray), (⟨#[]⟩ : ByteArray), 1) := Ev.step s_yes (Ev.now _)
  by_cases hB : bagB b = true
  · by_cases hR : rackB r = true
    · by_cases hT : pileB t = true
      · obtain ⟨V, e1, e2⟩ := exch_same (bagB_size hB) (rack_size hR) (bag_tiles hB) (pile_ok (rack_pile hR)) (pile_ok hT) (pile_ord (rack_pile hR)) (pile_ord hT) hb hr ht
        have e1' : Ev (fun k => spec_ExchangeTiles.j0 k b r t (!pileB t)) V := by rw [hT]; exact e1
        have e2' : Ev (fun _ => exchTail b r t) V := by rw [e2]; exact Ev.now _
        exact evBind (evBind hv <| evPos hB <| evBind (spec_l03Rack_ev r hr) <| evPos hR <| evBind (spec_l03Pile_ev t ht) e1') <| evBind (evBind hi <| evPos hB <| evBind (impl_ValidRack_ev r hr) <| evPos hR <| evBind (impl_ValidPile_ev t ht) <| evPos hT e2') <| evPos rfl <| evPos rfl <| evPos rfl <| evNow rfl
      · have hT' : pileB t = false := Bool.eq_false_iff.mpr hT
        have e1' : Ev (fun k => spec_ExchangeTiles.j0 k b r t (!pileB t)) ((⟨#[]⟩ : ByteArray), (⟨#[]⟩ : ByteArray), 1) := by rw [hT']; exact no
        exact evBind (evBind hv <| evPos hB <| evBind (spec_l03Rack_ev r hr) <| evPos hR <| evBind (spec_l03Pile_ev t ht) e1') <| evBind (evBind hi <| evPos hB <| evBind (impl_ValidRack_ev r hr) <| evPos hR <| evBind (impl_ValidPile_ev t ht) <| evNeg hT <| evNow rfl) <| evPos rfl <| evPos rfl <| evPos rfl <| evNow rfl
    · exact evBind (evBind hv <| evPos hB <| evBind (spec_l03Rack_ev r hr) <| evNeg hR no) <| evBind (evBind hi <| evPos hB <| evBind (impl_ValidRack_ev r hr) <| evNeg hR <| evNow rfl) <| evPos rfl <| evPos rfl <| evPos rfl <| evNow rfl
  · exact evBind (evBind hv <| evNeg hB no) <| evBind (evBind hi <| evNeg hB <| evNow rfl) <| evPos rfl <| evPos rfl <| evPos rfl <| evNow rfl

end Go.Proofs.Ytjolcfheommchaa.Pure

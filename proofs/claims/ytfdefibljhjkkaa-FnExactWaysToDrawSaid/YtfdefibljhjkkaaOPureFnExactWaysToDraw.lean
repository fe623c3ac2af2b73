/- For every two strings, the program's WaysToDraw answers what the reference's WaysToDraw answers. Conditions: none beyond the statement. -/
import Derived.Test.YtfdefibljhjkkaaOFnExactWaysToDrawx2
namespace Go.Proofs.Ytfdefibljhjkkaa.Pure
open Go.RowKit Go.Proofs.Ytfdefibljhjkkaa.OFnExactWaysToDraw Go.Proofs.YtfdefibljhjkkaaW.PrintWords Go.Proofs.YtfdefibljhjkkaaW.PrintLast Go.Proofs.YtfdefibljhjkkaaW.PrintMore Go.Proofs.Ytfdefibljhjkkaa.G
set_option linter.unusedVariables false
set_option linter.unusedSimpArgs false
open Go.Proofs.Ytfdefibljhjkkaa.OWaysA (impl_small.f impl_place.f impl_onlyTiles.l0 impl_onlyTiles.f impl_ValidPile.f impl_ValidPile.l0 impl_ValidPile.j0 impl_ValidRack.f impl_choose.f impl_choose.l0)
theorem evPos {α : Type} {c : Prop} [Decidable c] {f g : Nat → Option α} {r : α} (hc : c) (h : Ev f r) : Ev (fun k => if c then f k else g k) r := by
  simpa only [if_pos hc] using h
theorem evNeg {α : Type} {c : Prop} [Decidable c] {f g : Nat → Option α} {r : α} (hc : ¬ c) (h : Ev g r) : Ev (fun k => if c then f k else g k) r := by
  simpa only [if_neg hc] using h
theorem evBindC {α β : Type} {o : Option α} {a : α} {f : Nat → α → Option β} {r : β} (ho : o = some a) (h : Ev (fun k => f k a) r) : Ev (fun k => o.bind (f k)) r := by
  subst ho; exact h
theorem evBind {α β : Type} {g : Nat → Option α} {f : Nat → α → Option β} {a : α} {r : β} (h : Ev g a) (k : Ev (fun n => f n a) r) : Ev (fun n => (g n).bind (f n)) r := Ev.bind h k
theorem evNow {α : Type} {a r : α} (h : a = r) : Ev (fun _ => some a) r := h ▸ Ev.now a
theorem evStep {α : Type} {g : Nat → Option α} {r : α} (h : Ev (fun k => g (k + 1)) r) : Ev g r := Ev.step (fun _ => rfl) h
theorem evTo {α : Type} {g : Nat → Option α} {a r : α} (h : Ev g a) (e : a = r) : Ev g r := e ▸ h
theorem wrapInc {i : Int} {n : Nat} (h0 : 0 ≤ i) (h : i < (n : Int)) (hn : n ≤ 140737488351232) : wrap64 (i + 1) = i + 1 := by
  unfold wrap64; omega
/-- Do all bytes from the n-th on meet p? -/
def allFrom (p : Int → Bool) (s : ByteArray) (n : Nat) : Bool := ((bytesOf s).drop n).all p
theorem allFrom_end (p : Int → Bool) (s : ByteArray) (n : Nat) (h : s.size ≤ n) : allFrom p s n = true := by
  unfold allFrom; rw [List.drop_of_length_le (by rw [bytesOf_length]; exact h)]; rfl
theorem bytesOf_drop (s : ByteArray) (n : Nat) (h : n < s.size) : (bytesOf s).drop n = bt s (n : Int) :: (bytesOf s).drop (n + 1) := by
  have hl : n < (bytesOf s).length := by rw [bytesOf_length]; exact h
  rw [List.drop_eq_getElem_cons hl]
  have e : (bytesOf s)[n] = bt s (n : Int) := by
    rw [← rd_bytesOf]; unfold rd; simp [List.getD, hl]
  rw [e]
theorem allFrom_step (p : Int → Bool) (s : ByteArray) (i : Int) (h0 : 0 ≤ i) (h : i < (s.size : Int)) : allFrom p s i.toNat = (p (bt s i) && allFrom p s (i + 1).toNat) := by
  obtain ⟨n, rfl⟩ := Int.eq_ofNat_of_zero_le h0
  have e : ((n : Int) + 1).toNat = n + 1 := by omega
  rw [e, Int.toNat_natCast]
  unfold allFrom
  rw [bytesOf_drop s n (by omega)]; rfl
/-- A tile: a small letter or the blank. -/
def tileB (c : Int) : Bool := decide (c = 63) || (decide (97 ≤ c) && decide (c ≤ 122))
theorem spec_small (c : Int) : spec_l01Small.f c = some (decide (97 ≤ c) && decide (c ≤ 122)) := by
  unfold spec_l01Small.f; split <;> rename_i h
  · simp [show 97 ≤ c from h]
  · simp [show ¬ 97 ≤ c from h]
theorem spec_tile (c : Int) : spec_l03Tile.f c = some (tileB c) := by
  unfold spec_l03Tile.f tileB; split <;> rename_i h
  · simp [h]
  · rw [spec_small]; simp [h]
theorem impl_small_eq (c : Int) : impl_small.f c = some (decide (97 ≤ c) && decide (c ≤ 122)) := by
  unfold impl_small.f; split <;> rename_i h
  · simp [h]
  · simp [h]
/-- The index of a tile: 0 for the blank, 1 to 26 for the letters, -1 for what is none. -/
def plI (c : Int) : Int := if c = 63 then 0 else if 97 ≤ c ∧ c ≤ 122 then c - 96 else -1
theorem impl_place_eq (c : Int) : impl_place.f c = some (plI c) := by
  unfold impl_place.f plI; split <;> rename_i h
  · rfl
  · rw [impl_small_eq]; simp only [Option.bind_some, Bool.and_eq_true, decide_eq_true_eq]; split
    · simp only [Option.some.injEq]; omega
    · rfl
theorem plI_neg (c : Int) : plI c < 0 ↔ tileB c = false := by
  unfold plI tileB; split <;> rename_i h
  · simp [h]
  · split <;> rename_i h2 <;> simp <;> omega
theorem impl_tiles_from (s : ByteArray) (hs : s.size ≤ 140737488351232) (d : Nat) : ∀ i : Int, 0 ≤ i → i ≤ s.size → (s.size : Int) - i = d →
    Ev (fun k => impl_onlyTiles.l0 k s i) (allFrom tileB s i.toNat) := by
  induction d with
  | zero =>
    intro i h0 h1 hd
    refine evStep (evNeg (by omega) (evNow ?_))
    rw [allFrom_end _ _ _ (by omega)]
  | succ d ih =>
    intro i h0 h1 hd
    refine evStep (evPos (by omega) (evPos h0 (evBindC (impl_place_eq _) ?_)))
    rw [allFrom_step _ _ _ h0 (by omega)]
    cases hb : tileB (bt s i) with
    | true =>
      refine evNeg (by rw [plI_neg, hb]; simp) ?_
      rw [wrapInc h0 (by omega) hs]
      exact ih (i + 1) (by omega) (by omega) (by omega)
    | false => exact evPos (by rw [plI_neg, hb]) (evNow rfl)
theorem impl_onlyTiles_ev (s : ByteArray) (hs : s.size ≤ 140737488351232) : Ev (fun k => impl_onlyTiles.f k s) (allFrom tileB s 0) :=
  impl_tiles_from s hs s.size 0 (by omega) (by omega) (by omega)
/-- Is a string a bag? -/
def bagB (s : ByteArray) : Bool := allFrom tileB s 0 && decide ((s.size : Int) ≤ 120)
theorem bagB_size {s : ByteArray} (h : bagB s = true) : s.size ≤ 120 := by
  unfold bagB at h; simp only [Bool.and_eq_true, decide_eq_true_eq] at h; omega
theorem allFrom_at {p : Int → Bool} {s : ByteArray} (h : allFrom p s 0 = true) (k : Nat) (hk : k < s.size) : p (bt s (k : Int)) = true := by
  unfold allFrom at h
  rw [List.drop_zero, List.all_eq_true] at h
  refine h _ ?_
  have hl : k < (bytesOf s).length := by rw [bytesOf_length]; exact hk
  have e : (bytesOf s)[k] = bt s (k : Int) := by rw [← rd_bytesOf]; unfold rd; simp [List.getD, hl]
  rw [← e]
  exact List.getElem_mem hl
theorem bag_tiles {s : ByteArray} (h : bagB s = true) : tilesOk s := by
  have hz := bagB_size h
  unfold bagB at h
  rw [Bool.and_eq_true] at h
  refine ⟨by omega, fun k hk => ?_⟩
  have ht := allFrom_at h.1 k hk
  have := plI_neg (bt s (k : Int))
  rw [ht] at this
  have h2 : ¬ plI (bt s (k : Int)) < 0 := fun h => absurd (this.1 h) (by simp)
  have e : plI (bt s (k : Int)) = placeI (bt s (k : Int)) := rfl
  omega
theorem sortBoth {s : ByteArray} (h : tilesOk s) : spec_l03Sort.f s = some (sortS s) ∧ impl_sorted.f s = some (sortS s) := by
  constructor
  · unfold spec_l03Sort.f; rw [if_pos (by have := h.1; omega)]
  · unfold impl_sorted.f; rw [if_pos h]
/-- Is each byte from the n-th on at least the one before it? -/
def ordAll : Nat → ByteArray → Nat → Bool
  | 0, _, _ => true
  | d + 1, s, n => !(decide (0 < n) && decide (bt s (n : Int) < bt s ((n : Int) - 1))) && ordAll d s (n + 1)
def ordFrom (s : ByteArray) (n : Nat) : Bool := ordAll (s.size - n) s n
theorem ordFrom_end (s : ByteArray) (n : Nat) (h : s.size ≤ n) : ordFrom s n = true := by
  unfold ordFrom; rw [show s.size - n = 0 by omega]; rfl
theorem ordFrom_step (s : ByteArray) (i : Int) (h0 : 0 ≤ i) (h : i < (s.size : Int)) : ordFrom s i.toNat = (!(decide (0 < i) && decide (bt s i < bt s (i - 1))) && ordFrom s (i + 1).toNat) := by
  obtain ⟨n, rfl⟩ := Int.eq_ofNat_of_zero_le h0
  have e : ((n : Int) + 1).toNat = n + 1 := by omega
  have e2 : s.size - n = (s.size - (n + 1)) + 1 := by omega
  rw [e, Int.toNat_natCast]
  unfold ordFrom
  rw [e2]
  simp only [ordAll, Int.natCast_pos]
theorem ordFrom_one (s : ByteArray) : ordFrom s 0 = ordFrom s 1 := by
  by_cases h : (0 : Int) < (s.size : Int)
  · have := ordFrom_step s 0 (by omega) h
    simpa using this
  · rw [ordFrom_end s 0 (by omega), ordFrom_end s 1 (by omega)]
/-- Is a string a pile? -/
def pileB (s : ByteArray) : Bool := allFrom tileB s 0 && ordFrom s 0 && decide ((s.size : Int) ≤ 120)
theorem spec_pile_from (s : ByteArray) (hs : s.size ≤ 140737488351232) (d : Nat) : ∀ i : Int, 0 ≤ i → i ≤ s.size → (s.size : Int) - i = d →
    Ev (fun k => spec_l03Pile.l0 k s i) (allFrom tileB s i.toNat && ordFrom s i.toNat && decide ((s.size : Int) ≤ 120)) := by
  induction d with
  | zero =>
    intro i h0 h1 hd
    refine evStep (evNeg (by omega) (evNow ?_))
    rw [allFrom_end _ _ _ (by omega), ordFrom_end _ _ (by omega)]; rfl
  | succ d ih =>
    intro i h0 h1 hd
    have hl : i < (s.size : Int) := by omega
    refine evStep (evPos hl (evPos h0 (evBindC (spec_tile _) ?_)))
    rw [allFrom_step _ _ _ h0 hl, ordFrom_step _ _ h0 hl]
    cases hb : tileB (bt s i) with
    | false => exact evNeg (by simp) (evNow (by simp))
    | true =>
      refine evPos rfl ?_
      rw [wrapInc h0 hl hs]
      have next := ih (i + 1) (by omega) (by omega) (by omega)
      by_cases hp : i > 0
      · have ew : wrap64 (i - 1) = i - 1 := by unfold wrap64; omega
        refine evPos hp ?_
        rw [ew]
        refine evPos (by omega) (evPos (by omega) ?_)
        by_cases hc : bt s i < bt s (i - 1)
        · exact evPos hc (evNow (by simp [hc, hp]))
        · refine evNeg hc (evTo next ?_)
          simp [hc]
      · refine evNeg hp (evTo next ?_)
        have : ¬ 0 < i := by omega
        simp [this]
theorem spec_l03Pile_ev (s : ByteArray) (hs : s.size ≤ 140737488351232) : Ev (fun k => spec_l03Pile.f k s) (pileB s) :=
  spec_pile_from s hs s.size 0 (by omega) (by omega) (by omega)
theorem impl_ord_eq (m : Nat) (s : ByteArray) (i : Int) : impl_ValidPile.l0 (m + 1) s i = if i < (s.size : Int) then (if 0 ≤ (wrap64 (i - 1)) then (if (wrap64 (i - 1)) < (s.size : Int) then (if 0 ≤ i then (if (bt s (wrap64 (i - 1))) > (bt s i) then (some false) else (impl_ValidPile.l0 m s (wrap64 (i + 1)))) else (none)) else (none)) else (none)) else (some true) := by
  simp only [impl_ValidPile.l0]
theorem impl_ord_from (s : ByteArray) (hs : s.size ≤ 140737488351232) (d : Nat) : ∀ i : Int, 1 ≤ i → (s.size : Int) - i ≤ d →
    Ev (fun k => impl_ValidPile.l0 k s i) (ordFrom s i.toNat) := by
  induction d with
  | zero =>
    intro i h0 hd
    refine Ev.step (fun m => impl_ord_eq m s i) (evNeg (by omega) (evNow ?_))
    rw [ordFrom_end _ _ (by omega)]
  | succ d ih =>
    intro i h0 hd
    by_cases hl : i < (s.size : Int)
    · have ew : wrap64 (i - 1) = i - 1 := by unfold wrap64; omega
      refine Ev.step (fun m => impl_ord_eq m s i) ?_
      refine evPos hl ?_
      rw [ew]
      refine evPos (by omega) <| evPos (by omega) <| evPos (by omega) ?_
      rw [ordFrom_step _ _ (by omega) hl]
      rw [wrapInc (by omega) hl hs]
      by_cases hc : bt s i < bt s (i - 1)
      · exact evPos hc (evNow (by have : 0 < i := by omega
                                  simp [hc, this]))
      · refine evNeg hc (evTo (ih (i + 1) (by omega) (by omega)) ?_)
        simp [hc]
    · refine Ev.step (fun m => impl_ord_eq m s i) (evNeg hl (evNow ?_))
      rw [ordFrom_end _ _ (by omega)]
theorem impl_ValidPile_ev (s : ByteArray) (hs : s.size ≤ 140737488351232) : Ev (fun k => impl_ValidPile.f k s) (pileB s) := by
  unfold impl_ValidPile.f
  by_cases h : (s.size : Int) > 120
  · refine evPos h (Ev.step (fun m => by simp only [impl_ValidPile.j0, if_true]; rfl) (evNow ?_))
    unfold pileB
    have : ¬ (s.size : Int) ≤ 120 := by omega
    simp [this]
  · refine evNeg h (evBind (impl_onlyTiles_ev s hs) ?_)
    unfold pileB
    have h' : (s.size : Int) ≤ 120 := by omega
    cases ht : allFrom tileB s 0 with
    | false => exact Ev.step (fun m => by simp only [impl_ValidPile.j0, Bool.not_false, if_true]; rfl) (evNow (by simp))
    | true =>
      refine Ev.step (fun m => by simp only [impl_ValidPile.j0, Bool.not_true, Bool.false_eq_true, if_false]; rfl) ?_
      refine evTo (impl_ord_from s hs s.size 1 (by omega) (by omega)) ?_
      rw [ordFrom_one]; simp [h']
theorem pile_tiles {s : ByteArray} (h : pileB s = true) : allFrom tileB s 0 = true := by
  unfold pileB at h; simp only [Bool.and_eq_true] at h; exact h.1.1
theorem pile_size {s : ByteArray} (h : pileB s = true) : s.size ≤ 120 := by
  unfold pileB at h; simp only [Bool.and_eq_true, decide_eq_true_eq] at h; omega
theorem pile_ok {s : ByteArray} (h : pileB s = true) : tilesOk s := by
  refine bag_tiles ?_
  unfold pileB at h; unfold bagB
  simp only [Bool.and_eq_true] at h ⊢
  exact ⟨h.1.1, h.2⟩
def rackB (s : ByteArray) : Bool := pileB s && decide ((s.size : Int) ≤ 7)
theorem spec_l03Rack_ev (s : ByteArray) (hs : s.size ≤ 140737488351232) : Ev (fun k => spec_l03Rack.f k s) (rackB s) := by
  unfold spec_l03Rack.f rackB
  refine evBind (spec_l03Pile_ev s hs) ?_
  cases pileB s with
  | true => exact evPos rfl (evNow (by simp))
  | false => exact evNeg (by simp) (evNow (by simp))
theorem impl_ValidRack_ev (s : ByteArray) (hs : s.size ≤ 140737488351232) : Ev (fun k => impl_ValidRack.f k s) (rackB s) := by
  unfold impl_ValidRack.f rackB
  by_cases h : (s.size : Int) ≤ 7
  · exact evPos h (evBind (impl_ValidPile_ev s hs) (evNow (by simp [h])))
  · exact evNeg h (evNow (by simp [h]))
theorem rack_pile {s : ByteArray} (h : rackB s = true) : pileB s = true := by
  unfold rackB at h; simp only [Bool.and_eq_true] at h; exact h.1
theorem rack_size {s : ByteArray} (h : rackB s = true) : s.size ≤ 7 := by
  unfold rackB at h; simp only [Bool.and_eq_true, decide_eq_true_eq] at h; omega
theorem bytesOf_extract (s : ByteArray) (a b : Nat) : bytesOf (s.extract a b) = ((bytesOf s).drop a).take (b - a) := by
  unfold bytesOf
  rw [ByteArray.data_extract, Array.toList_extract, List.extract_eq_take_drop, List.map_take, List.map_drop]
theorem bytesOf_append (s t : ByteArray) : bytesOf (s ++ t) = bytesOf s ++ bytesOf t := by
  unfold bytesOf
  rw [ByteArray.data_append, Array.toList_append, List.map_append]
theorem bt_mem (s : ByteArray) (k : Nat) (h : k < s.size) : bt s (k : Int) ∈ bytesOf s := by
  have hl : k < (bytesOf s).length := by rw [bytesOf_length]; exact h
  have e : (bytesOf s)[k] = bt s (k : Int) := by rw [← rd_bytesOf]; unfold rd; simp [List.getD, hl]
  rw [← e]; exact List.getElem_mem hl
theorem mem_bt (s : ByteArray) (x : Int) (h : x ∈ bytesOf s) : ∃ k : Nat, k < s.size ∧ x = bt s (k : Int) := by
  obtain ⟨k, hk, rfl⟩ := List.getElem_of_mem h
  refine ⟨k, by rw [← bytesOf_length]; exact hk, ?_⟩
  rw [← rd_bytesOf]; unfold rd; simp [List.getD, hk]
theorem tilesOk_iff (s : ByteArray) : tilesOk s ↔ s.size ≤ 1000000 ∧ ∀ x ∈ bytesOf s, 0 ≤ placeI x := by
  unfold tilesOk
  constructor
  · rintro ⟨h1, h2⟩
    refine ⟨h1, fun x hx => ?_⟩
    obtain ⟨k, hk, rfl⟩ := mem_bt s x hx
    exact h2 k hk
  · rintro ⟨h1, h2⟩
    exact ⟨h1, fun k hk => h2 _ (bt_mem s k hk)⟩
theorem size_extract_le (s : ByteArray) (a b : Nat) : (s.extract a b).size ≤ s.size := by rw [ByteArray.size_extract]; omega
theorem tilesOk_extract {s : ByteArray} (h : tilesOk s) (a b : Nat) : tilesOk (s.extract a b) := by
  rw [tilesOk_iff] at h ⊢
  refine ⟨Nat.le_trans (size_extract_le s a b) h.1, fun x hx => h.2 x ?_⟩
  rw [bytesOf_extract] at hx
  exact List.mem_of_mem_drop (List.mem_of_mem_take hx)
theorem tilesOk_append {s t : ByteArray} (h : tilesOk s) (h' : tilesOk t) (hz : s.size + t.size ≤ 1000000) : tilesOk (s ++ t) := by
  rw [tilesOk_iff] at h h' ⊢
  refine ⟨by rw [ByteArray.size_append]; exact hz, fun x hx => ?_⟩
  rw [bytesOf_append] at hx
  rcases List.mem_append.1 hx with hx | hx
  · exact h.2 x hx
  · exact h'.2 x hx
theorem count_map_inj {α β : Type} [DecidableEq α] [DecidableEq β] (f : α → β) (hf : ∀ x y, f x = f y → x = y) (a : α) : ∀ l : List α, (l.map f).count (f a) = l.count a
  | [] => rfl
  | x :: l => by
    rw [List.map_cons, List.count_cons, List.count_cons, count_map_inj f hf a l]
    by_cases h : x = a
    · subst h; simp
    · have : ¬ f x = f a := fun e => h (hf _ _ e)
      simp [h, this]
theorem cnt_int {s : ByteArray} (h : tilesOk s) (j : Nat) (hj : j ≤ 26) : (cntTo s s.size).getD j 0 = ((bytesOf s).count (tileI j) : Int) := by
  rw [cnt_count s h.2 j hj s.size (Nat.le_refl _), ← tileU_toNat j hj, List.take_of_length_le (by rw [data_length]; exact Nat.le_refl _)]
  unfold bytesOf
  exact (congrArg Int.ofNat (count_map_inj (fun b : UInt8 => (b.toNat : Int)) (fun x y e => by
    have e' : ((x.toNat : Nat) : Int) = (y.toNat : Int) := e
    exact UInt8.toNat_inj.1 (by omega)) (tileU j) s.data.toList)).symm
theorem place_tileI {x : Int} (h : 0 ≤ placeI x) : ∃ j : Nat, j ≤ 26 ∧ placeI x = j ∧ x = tileI j := by
  unfold placeI at h ⊢
  by_cases h1 : x = 63
  · exact ⟨0, by omega, by rw [if_pos h1]; rfl, by rw [h1]; rfl⟩
  · rw [if_neg h1] at h ⊢
    by_cases h2 : 97 ≤ x ∧ x ≤ 122
    · refine ⟨(x - 96).toNat, by omega, by rw [if_pos h2]; omega, ?_⟩
      unfold tileI
      rw [if_neg (by omega)]; omega
    · rw [if_neg h2] at h; omega
theorem tileI_lt {i j : Nat} (hj : j ≤ 26) (h : i < j) : tileI i < tileI j := by
  unfold tileI; split <;> split <;> omega
theorem tileI_le_iff {i j : Nat} (hi : i ≤ 26) (hj : j ≤ 26) : tileI i ≤ tileI j ↔ i ≤ j := by
  constructor
  · intro h
    rcases Nat.lt_or_ge j i with h2 | h2
    · have := tileI_lt hi h2; omega
    · exact h2
  · intro h
    rcases Nat.lt_or_eq_of_le h with h2 | rfl
    · exact Int.le_of_lt (tileI_lt hj h2)
    · exact Int.le_refl _
theorem tileI_inj {i j : Nat} (hi : i ≤ 26) (hj : j ≤ 26) (h : tileI i = tileI j) : i = j := by
  have h1 := (tileI_le_iff hi hj).1 (Int.le_of_eq h)
  have h2 := (tileI_le_iff hj hi).1 (Int.le_of_eq h.symm)
  omega
/-- A pile's bytes ascend. -/
theorem ord_at {s : ByteArray} (h : ordFrom s 0 = true) : ∀ j : Nat, 0 < j → j < s.size → bt s ((j : Int) - 1) ≤ bt s (j : Int) := by
  have go : ∀ n : Nat, n ≤ s.size → ordFrom s n = true := by
    intro n
    induction n with
    | zero => intro _; exact h
    | succ n ih =>
      intro hn
      have := ih (by omega)
      have e := ordFrom_step s (n : Int) (by omega) (by omega)
      rw [Int.toNat_natCast, show ((n : Int) + 1).toNat = n + 1 by omega, this] at e
      have e2 := e.symm
      simp only [Bool.and_eq_true] at e2
      exact e2.2
  intro j h0 hj
  have e := ordFrom_step s (j : Int) (by omega) (by omega)
  rw [Int.toNat_natCast, go j (by omega)] at e
  have e2 := e.symm
  simp only [Bool.and_eq_true, Bool.not_eq_true', Bool.and_eq_false_iff, decide_eq_false_iff_not] at e2
  rcases e2.1 with h1 | h1 <;> omega
theorem ord_le {s : ByteArray} (h : ordFrom s 0 = true) (i : Nat) : ∀ j : Nat, i ≤ j → j < s.size → bt s (i : Int) ≤ bt s (j : Int) := by
  intro j
  induction j with
  | zero => intro h1 _; obtain rfl : i = 0 := by omega
            exact Int.le_refl _
  | succ j ih =>
    intro h1 h2
    rcases Nat.lt_or_eq_of_le h1 with h3 | rfl
    · have := ih (by omega) (by omega)
      have h4 := ord_at h (j + 1) (by omega) h2
      rw [show ((j + 1 : Nat) : Int) - 1 = (j : Int) by omega] at h4
      omega
    · exact Int.le_refl _
theorem get_bytes (s : ByteArray) (j : Nat) (h : j < (bytesOf s).length) : (bytesOf s)[j] = bt s (j : Int) := by
  rw [← rd_bytesOf]; unfold rd; simp [List.getD, h]
theorem ord_pairwise {s : ByteArray} (h : ordFrom s 0 = true) : (bytesOf s).Pairwise (· ≤ ·) := by
  rw [List.pairwise_iff_getElem]
  intro i j hi hj hij
  rw [get_bytes, get_bytes]
  rw [bytesOf_length] at hj
  exact ord_le h i j (by omega) hj
theorem pile_ord {s : ByteArray} (h : pileB s = true) : ordFrom s 0 = true := by
  unfold pileB at h; simp only [Bool.and_eq_true] at h; exact h.1.2
/-- Are the second list's members among the first's, taken in order? -/
def takeOk : List Int → List Int → Bool
  | [], b => b.isEmpty
  | _ :: a, [] => takeOk a []
  | x :: a, y :: b => if y = x then takeOk a b else takeOk a (y :: b)
theorem takeOk_cons (x y : Int) (a b : List Int) : takeOk (x :: a) (y :: b) = if y = x then takeOk a b else takeOk a (y :: b) := by rw [takeOk]
theorem takeOk_nil : ∀ a, takeOk a [] = true
  | [] => rfl
  | _ :: a => takeOk_nil a
theorem takeOk_le : ∀ a b, takeOk a b = true → ∀ z, b.count z ≤ a.count z
  | [], b, h, z => by
    have : b = [] := List.isEmpty_iff.1 h
    subst this; exact Nat.le_refl _
  | x :: a, [], h, z => by simp
  | x :: a, y :: b, h, z => by
    unfold takeOk at h
    by_cases e : y = x
    · rw [if_pos e] at h; subst e
      have := takeOk_le a b h z
      rw [List.count_cons, List.count_cons]; omega
    · rw [if_neg e] at h
      have := takeOk_le a (y :: b) h z
      rw [List.count_cons (l := a)]; omega
theorem takeOk_of : ∀ a b : List Int, a.Pairwise (· ≤ ·) → b.Pairwise (· ≤ ·) → (∀ z, b.count z ≤ a.count z) → takeOk a b = true
  | [], b, _, _, h => by
    cases b with
    | nil => rfl
    | cons y b => have := h y; simp at this
  | x :: a, [], _, _, _ => takeOk_nil _
  | x :: a, y :: b, ha, hb, h => by
    have ha' := (List.pairwise_cons.1 ha)
    have hb' := (List.pairwise_cons.1 hb)
    unfold takeOk
    by_cases e : y = x
    · subst e
      rw [if_pos rfl]
      refine takeOk_of a b ha'.2 hb'.2 fun z => ?_
      have := h z
      rw [List.count_cons, List.count_cons] at this
      omega
    · rw [if_neg e]
      refine takeOk_of a (y :: b) ha'.2 hb fun z => ?_
      have hz := h z
      have hy := h y
      rw [List.count_cons (l := a), show (x == y) = false from beq_eq_false_iff_ne.2 (fun h => e h.symm), List.count_cons_self] at hy
      have hm : y ∈ a := List.count_pos_iff.1 (by simpa using Nat.lt_of_lt_of_le (Nat.succ_pos _) hy)
      have hxy : x ≤ y := ha'.1 y hm
      by_cases hzx : z = x
      · subst hzx
        have : (y :: b).count z = 0 := List.count_eq_zero.2 fun hmem => by
          rcases List.mem_cons.1 hmem with rfl | hmem
          · exact e rfl
          · have := hb'.1 z hmem; omega
        omega
      · rw [List.count_cons (l := a), show (x == z) = false from beq_eq_false_iff_ne.2 (fun h => hzx h.symm)] at hz
        simpa using hz
theorem take_from (a b : ByteArray) (ha : a.size ≤ 140737488351232) (hb : b.size ≤ 140737488351232) (n : Nat) : ∀ (out : List Int) (i j : Int), 0 ≤ i → i ≤ b.size → 0 ≤ j → j ≤ a.size → (a.size : Int) - j = n → (out.length : Int) ≤ j →
    ∃ str, Ev (fun k => spec_l03Take.l0 k a b out i j) (str, takeOk ((bytesOf a).drop j.toNat) ((bytesOf b).drop i.toNat)) := by
  induction n with
  | zero =>
    intro out i j h0 h1 h2 h3 hd ho
    refine ⟨strOfNums out, evStep (evNeg (by omega) (evNow ?_))⟩
    rw [List.drop_of_length_le (by rw [bytesOf_length]; omega)]
    have : (i == (b.size : Int)) = takeOk [] ((bytesOf b).drop i.toNat) := by
      show _ = List.isEmpty _
      rw [Bool.eq_iff_iff, beq_iff_eq, List.isEmpty_iff, List.drop_eq_nil_iff, bytesOf_length]
      omega
    rw [this]
  | succ n ih =>
    intro out i j h0 h1 h2 h3 hd ho
    have hj : j < (a.size : Int) := by omega
    have ea : (bytesOf a).drop j.toNat = bt a j :: (bytesOf a).drop (j + 1).toNat := by
      have := bytesOf_drop a j.toNat (by omega)
      rw [show ((j.toNat : Nat) : Int) = j by omega] at this
      rw [this, show (j + 1).toNat = j.toNat + 1 by omega]
    rw [ea]
    have ej := wrapInc h2 hj ha
    by_cases hi : i < (b.size : Int)
    · have eb : (bytesOf b).drop i.toNat = bt b i :: (bytesOf b).drop (i + 1).toNat := by
        have := bytesOf_drop b i.toNat (by omega)
        rw [show ((i.toNat : Nat) : Int) = i by omega] at this
        rw [this, show (i + 1).toNat = i.toNat + 1 by omega]
      have ei := wrapInc h0 hi hb
      by_cases hc : bt b i = bt a j
      · obtain ⟨str, hs⟩ := ih out (i + 1) (j + 1) (by omega) (by omega) (by omega) (by omega) (by omega) (by omega)
        refine ⟨str, evStep (evPos hj (evPos hi (evPos h0 (evPos h2 (evPos hc ?_)))))⟩
        rw [ei, ej]
        refine evTo hs ?_
        rw [eb, takeOk_cons, if_pos hc]
      · obtain ⟨str, hs⟩ := ih (out ++ [bt a j]) i (j + 1) (by omega) (by omega) (by omega) (by omega) (by omega) (by rw [List.length_append, List.length_singleton]; omega)
        refine ⟨str, evStep (evPos hj (evPos hi (evPos h0 (evPos h2 (evNeg hc (evPos (by omega) ?_))))))⟩
        rw [ej]
        refine evTo hs ?_
        rw [eb, takeOk_cons, if_neg hc]
    · obtain ⟨str, hs⟩ := ih (out ++ [bt a j]) i (j + 1) (by omega) (by omega) (by omega) (by omega) (by omega) (by rw [List.length_append, List.length_singleton]; omega)
      refine ⟨str, evStep (evPos hj (evNeg hi (evPos h2 (evPos (by omega) ?_))))⟩
      rw [ej]
      refine evTo hs ?_
      have : (bytesOf b).drop i.toNat = [] := List.drop_of_length_le (by rw [bytesOf_length]; omega)
      rw [this]; rw [takeOk_nil, takeOk_nil]
theorem take_ev (a b : ByteArray) (ha : a.size ≤ 140737488351232) (hb : b.size ≤ 140737488351232) : ∃ str, Ev (fun k => spec_l03Take.f k a b) (str, takeOk (bytesOf a) (bytesOf b)) :=
  take_from a b ha hb a.size [] 0 0 (by omega) (by omega) (by omega) (by omega) (by omega) (by simp)
theorem both_choose (n k : Int) (hk : k ≤ 7) (d : Nat) : ∀ x i : Int, 1 ≤ i → i ≤ k + 1 → k + 1 - i = d →
    ∃ r, Ev (fun m => spec_l17Choose.l0 m n k x i) r ∧ Ev (fun m => impl_choose.l0 m n k x i) r := by
  induction d with
  | zero =>
    intro x i h0 h1 hd
    exact ⟨x, evStep (evNeg (by omega) (evNow rfl)), evStep (evNeg (by omega) (evNow rfl))⟩
  | succ d ih =>
    intro x i h0 h1 hd
    have ew : wrap64 (i + 1) = i + 1 := by unfold wrap64; omega
    obtain ⟨r, hs, hi⟩ := ih (wrap64 (Int.tdiv (wrap64 (x * (wrap64 ((wrap64 (n - k)) + i)))) i)) (i + 1) (by omega) (by omega) (by omega)
    refine ⟨r, evStep (evPos (by omega) (evNeg (by omega) ?_)), evStep (evPos (by omega) (evNeg (by omega) ?_))⟩
    · rw [ew]; exact hs
    · rw [ew]; exact hi
theorem ev_unique {α : Type} {f : Nat → Option α} {a b : α} (h : Ev f a) (h' : Ev f b) : a = b := by
  obtain ⟨m, h⟩ := h
  obtain ⟨m', h'⟩ := h'
  have := (h (max m m') (Nat.le_max_left _ _)).symm.trans (h' (max m m') (Nat.le_max_right _ _))
  simpa using this
open Classical in
/-- In how many ways k of n things can be chosen, as both loops say. -/
noncomputable def ch (n k : Int) : Int := if h : ∃ r, Ev (fun m => spec_l17Choose.f m n k) r ∧ Ev (fun m => impl_choose.l0 m n k 1 1) r then Classical.choose h else 0
theorem ch_ev (n k : Int) (h0 : 0 ≤ k) (hk : k ≤ 7) : Ev (fun m => spec_l17Choose.f m n k) (ch n k) ∧ Ev (fun m => impl_choose.l0 m n k 1 1) (ch n k) := by
  have h : ∃ r, Ev (fun m => spec_l17Choose.f m n k) r ∧ Ev (fun m => impl_choose.l0 m n k 1 1) r := both_choose n k hk k.toNat 1 1 (by omega) (by omega) (by omega)
  unfold ch
  rw [dif_pos h]
  exact Classical.choose_spec h
theorem ch_zero (n : Int) : ch n 0 = 1 := ev_unique (ch_ev n 0 (by omega) (by omega)).1 (show Ev (fun m => spec_l17Choose.l0 m n 0 1 1) 1 from evStep (evNeg (by omega) (evNow rfl)))
noncomputable def chI (n k : Int) : Int := if k > n then 0 else ch n k
theorem chI_ev (n k : Int) (h0 : 0 ≤ k) (hk : k ≤ 7) : Ev (fun m => impl_choose.f m n k) (chI n k) := by
  unfold impl_choose.f chI
  by_cases h : k > n
  · rw [if_pos h]; exact evPos h (evNow rfl)
  · rw [if_neg h]; exact evNeg h (ch_ev n k h0 hk).2
/-- The product over the first tiles. -/
noncomputable def wp (c d : List Int) : Nat → Int
  | 0 => 1
  | n + 1 => wrap64 (wp c d n * chI (c.getD n 0) (d.getD n 0))
theorem waysTo_ev (c d : List Int) (hd : ∀ n, 0 ≤ d.getD n 0 ∧ d.getD n 0 ≤ 7) : ∀ n, Ev (fun k => waysTo k c d n) (wp c d n)
  | 0 => evNow rfl
  | n + 1 => by
    unfold waysTo
    exact evBind (waysTo_ev c d hd n) (evBind (chI_ev _ _ (hd n).1 (hd n).2) (evNow rfl))
theorem wp_range (c d : List Int) : ∀ n, -9223372036854775808 ≤ wp c d n ∧ wp c d n ≤ 9223372036854775807
  | 0 => by unfold wp; omega
  | n + 1 => by unfold wp wrap64; omega
theorem wp_skip (c d : List Int) (n : Nat) (h0 : d.getD n 0 = 0) (hc : 0 ≤ c.getD n 0) : wp c d (n + 1) = wp c d n := by
  have hr := wp_range c d n
  have e : chI (c.getD n 0) (d.getD n 0) = 1 := by unfold chI; rw [h0, if_neg (by omega), ch_zero]
  show wrap64 (wp c d n * chI (c.getD n 0) (d.getD n 0)) = _
  rw [e, Int.mul_one]; unfold wrap64; omega
theorem wp_skips (c d : List Int) (hc : ∀ n, 0 ≤ c.getD n 0) (m : Nat) : ∀ n, m ≤ n → (∀ j, m ≤ j → j < n → d.getD j 0 = 0) → wp c d n = wp c d m := by
  intro n
  induction n with
  | zero => intro h _; obtain rfl : m = 0 := by omega
            rfl
  | succ n ih =>
    intro h hz
    rcases Nat.lt_or_eq_of_le h with h2 | h2
    · rw [wp_skip c d n (hz n (by omega) (by omega)) (hc n)]
      exact ih (by omega) fun j h1 h3 => hz j h1 (by omega)
    · rw [h2]
theorem wp_none (c d : List Int) (j : Nat) (h : d.getD j 0 > c.getD j 0) : ∀ n, j < n → wp c d n = 0 := by
  intro n
  induction n with
  | zero => intro h; omega
  | succ n ih =>
    intro hn
    by_cases e : j = n
    · subst e
      show wrap64 (wp c d j * chI (c.getD j 0) (d.getD j 0)) = 0
      rw [show chI (c.getD j 0) (d.getD j 0) = 0 by unfold chI; rw [if_pos h], Int.mul_zero]; unfold wrap64; omega
    · show wrap64 (wp c d n * chI (c.getD n 0) (d.getD n 0)) = 0
      rw [ih (by omega), Int.zero_mul]; unfold wrap64; omega
theorem count_from (s : ByteArray) (hs : s.size ≤ 140737488351232) (c : Int) (n : Nat) : ∀ acc i : Int, 0 ≤ i → i ≤ s.size → (s.size : Int) - i = n → 0 ≤ acc → acc ≤ i →
    Ev (fun k => spec_l17Count.l0 k s c acc i) (acc + (((bytesOf s).drop i.toNat).count c : Int)) := by
  induction n with
  | zero =>
    intro acc i h0 h1 hd h2 h3
    refine evStep (evNeg (by omega) (evNow ?_))
    rw [List.drop_of_length_le (by rw [bytesOf_length]; omega)]; simp
  | succ n ih =>
    intro acc i h0 h1 hd h2 h3
    have hl : i < (s.size : Int) := by omega
    have eb : (bytesOf s).drop i.toNat = bt s i :: (bytesOf s).drop (i + 1).toNat := by
      have := bytesOf_drop s i.toNat (by omega)
      rw [show ((i.toNat : Nat) : Int) = i by omega] at this
      rw [this, show (i + 1).toNat = i.toNat + 1 by omega]
    rw [eb, List.count_cons]
    refine evStep (evPos hl (evPos h0 ?_))
    by_cases hc : bt s i = c
    · refine evPos hc ?_
      rw [wrapInc h0 hl hs, show wrap64 (acc + 1) = acc + 1 by unfold wrap64; omega]
      refine evTo (ih (acc + 1) (i + 1) (by omega) (by omega) (by omega) (by omega) (by omega)) ?_
      simp [hc]; omega
    · refine evNeg hc ?_
      rw [wrapInc h0 hl hs]
      refine evTo (ih acc (i + 1) (by omega) (by omega) (by omega) (by omega) (by omega)) ?_
      simp [hc]
theorem count_ev (s : ByteArray) (hs : s.size ≤ 140737488351232) (c : Int) : Ev (fun k => spec_l17Count.f k s c) ((bytesOf s).count c : Int) :=
  evTo (count_from s hs c s.size 0 0 (by omega) (by omega) (by omega) (by omega) (by omega)) (by simp)
theorem ways_j_yes (m : Nat) (p d : ByteArray) (a i : Int) : spec_l17Ways.j1 (m + 1) p d a i true = if 0 ≤ i then (if i < (d.size : Int) then ((spec_l17Count.f m p (bt d i)).bind fun t113 => ((spec_l17Count.f m d (bt d i)).bind fun t114 => ((spec_l17Choose.f m t113 t114).bind fun t115 => (spec_l17Ways.l0 m p d (wrap64 (a * t115)) (wrap64 (i + 1)))))) else (none)) else (none) := by
  simp only [spec_l17Ways.j1, if_true]
theorem ways_j_no (m : Nat) (p d : ByteArray) (a i : Int) : spec_l17Ways.j1 (m + 1) p d a i false = spec_l17Ways.l0 m p d a (wrap64 (i + 1)) := by
  simp only [spec_l17Ways.j1, Bool.false_eq_true, if_false]
theorem ways_l (m : Nat) (p d : ByteArray) (a i : Int) : spec_l17Ways.l0 (m + 1) p d a i = if i < (d.size : Int) then (if i = 0 then (spec_l17Ways.j1 m p d a i true) else (if 0 ≤ i then (if 0 ≤ (wrap64 (i - 1)) then (if (wrap64 (i - 1)) < (d.size : Int) then (spec_l17Ways.j1 m p d a i ((bt d i) != (bt d (wrap64 (i - 1))))) else (none)) else (none)) else (none))) else (some a) := by
  simp only [spec_l17Ways.l0]
theorem cnt_zero {d : ByteArray} (td : tilesOk d) {k : Nat} (hk : k ≤ 26) (h : ∀ m : Nat, m < d.size → bt d (m : Int) ≠ tileI k) : (cntTo d d.size).getD k 0 = 0 := by
  rw [cnt_int td k hk, List.count_eq_zero.2]
  · rfl
  · intro hm
    obtain ⟨m, hm, e⟩ := mem_bt d _ hm
    exact h m hm e.symm
theorem cnt_nonneg {d : ByteArray} (td : tilesOk d) (k : Nat) : 0 ≤ (cntTo d d.size).getD k 0 := by
  by_cases hk : k ≤ 26
  · rw [cnt_int td k hk]; omega
  · rw [List.getD_eq_getElem?_getD, List.getElem?_eq_none (by rw [cntTo_length]; omega)]; simp
theorem cnt_size {d : ByteArray} (td : tilesOk d) (k : Nat) : (cntTo d d.size).getD k 0 ≤ (d.size : Int) := by
  by_cases hk : k ≤ 26
  · rw [cnt_int td k hk]
    have := List.count_le_length (a := tileI k) (l := bytesOf d)
    rw [bytesOf_length] at this; omega
  · rw [List.getD_eq_getElem?_getD, List.getElem?_eq_none (by rw [cntTo_length]; omega)]; simp
theorem ways_from (p d : ByteArray) (hp : p.size ≤ 140737488351232) (hs : d.size ≤ 7) (tp : tilesOk p) (td : tilesOk d) (od : ordFrom d 0 = true)
    (hsub : ∀ k : Nat, k ≤ 26 → (cntTo d d.size).getD k 0 ≤ (cntTo p p.size).getD k 0) (n : Nat) :
    ∀ (i T : Nat), i ≤ d.size → d.size - i = n → T ≤ 27 → (i = 0 → T = 0) → (∀ j : Nat, i = j + 1 → bt d (j : Int) = tileI ((T - 1 : Nat) : Int) ∧ 0 < T) →
      Ev (fun k => spec_l17Ways.l0 k p d (wp (cntTo p p.size) (cntTo d d.size) T) (i : Int)) (wp (cntTo p p.size) (cntTo d d.size) 27) := by
  have tile : ∀ m : Nat, m < d.size → ∃ q : Nat, q ≤ 26 ∧ bt d (m : Int) = tileI q := fun m hm => by
    obtain ⟨q, h1, _, h2⟩ := place_tileI (td.2 m hm)
    exact ⟨q, h1, h2⟩
  have before : ∀ (i T : Nat), i ≤ d.size → (∀ j : Nat, i = j + 1 → bt d (j : Int) = tileI ((T - 1 : Nat) : Int) ∧ 0 < T) → T ≤ 27 → ∀ m : Nat, m < i → ∀ k : Nat, T ≤ k → k ≤ 26 → bt d (m : Int) ≠ tileI k := by
    intro i T hi hT hT2 m hm k hk hk2 e
    obtain ⟨h1, h2⟩ := hT (i - 1) (by omega)
    have h3 := ord_le od m (i - 1) (by omega) (by omega)
    rw [e, h1, tileI_le_iff hk2 (by omega)] at h3
    omega
  induction n with
  | zero =>
    intro i T hi hd hT h0 hj
    refine Ev.step (fun m => ways_l m p d _ _) (evNeg (by omega) (evNow ?_))
    refine (wp_skips _ _ (cnt_nonneg tp) T 27 hT fun k h1 h2 => cnt_zero td (by omega) fun m hm => ?_).symm
    exact before i T hi hj hT m (by omega) k h1 (by omega)
  | succ n ih =>
    intro i T hi hd hT h0 hj
    have hil : i < d.size := by omega
    obtain ⟨q, hq, eq⟩ := tile i hil
    have ew : wrap64 ((i : Int) + 1) = ((i + 1 : Nat) : Int) := by unfold wrap64; omega
    have new : T ≤ q → Ev (fun k => spec_l17Ways.j1 k p d (wp (cntTo p p.size) (cntTo d d.size) T) (i : Int) true) (wp (cntTo p p.size) (cntTo d d.size) 27) := by
      intro hTq
      have e1 : wp (cntTo p p.size) (cntTo d d.size) q = wp (cntTo p p.size) (cntTo d d.size) T := by
        refine wp_skips _ _ (cnt_nonneg tp) T q hTq fun k h1 h2 => cnt_zero td (by omega) fun m hm => ?_
        rcases Nat.lt_or_ge m i with h3 | h3
        · exact before i T hi hj hT m h3 k h1 (by omega)
        · intro e
          have h4 := ord_le od i m h3 hm
          rw [e, eq, tileI_le_iff hq (by omega)] at h4
          omega
      refine Ev.step (fun m => ways_j_yes m p d _ _) ?_
      refine evPos (by omega) <| evPos (by omega) <| evBind (count_ev p hp _) <| evBind (count_ev d (by omega) _) ?_
      rw [eq, ← cnt_int tp q hq, ← cnt_int td q hq]
      refine evBind (ch_ev _ _ (cnt_nonneg td q) (by have := cnt_size td q; omega)).1 ?_
      have e2 : wrap64 (wp (cntTo p p.size) (cntTo d d.size) T * ch ((cntTo p p.size).getD q 0) ((cntTo d d.size).getD q 0)) = wp (cntTo p p.size) (cntTo d d.size) (q + 1) := by
        show _ = wrap64 (wp _ _ q * chI _ _)
        rw [e1]; unfold chI; rw [if_neg (by have := hsub q hq; omega)]
      rw [e2, ew]
      exact ih (i + 1) (q + 1) (by omega) (by omega) (by omega) (by omega) fun j hj => by
        obtain rfl : j = i := by omega
        exact ⟨eq, by omega⟩
    refine Ev.step (fun m => ways_l m p d _ _) (evPos (by omega) ?_)
    by_cases hi0 : i = 0
    · exact evPos (by omega) (new (by have := h0 hi0; omega))
    · refine evNeg (by omega) ?_
      have ew2 : wrap64 ((i : Int) - 1) = ((i - 1 : Nat) : Int) := by unfold wrap64; omega
      rw [ew2]
      obtain ⟨h1, h2⟩ := hj (i - 1) (by omega)
      have h3 := ord_le od (i - 1) i (by omega) hil
      rw [h1, eq, tileI_le_iff (by omega) hq] at h3
      refine evPos (by omega) <| evPos (by omega) <| evPos (by omega) ?_
      rw [eq, h1]
      by_cases he : T - 1 = q
      · have hb : (tileI q != tileI ((T - 1 : Nat) : Int)) = false := by rw [he]; simp
        rw [hb]
        refine Ev.step (fun m => ways_j_no m p d _ _) ?_
        rw [ew]
        exact ih (i + 1) T (by omega) (by omega) hT (by omega) fun j hj => by
          obtain rfl : j = i := by omega
          exact ⟨by rw [eq, he], h2⟩
      · have hb : (tileI q != tileI ((T - 1 : Nat) : Int)) = true := bne_iff_ne.2 fun e => he (tileI_inj hq (by omega) e).symm
        rw [hb]
        exact new (by omega)
theorem FnExactWaysToDraw : laws_FnExactWaysToDraw.Pure := by
  intro p d hp hd
  refine Ev.rounds (?_ : Ev (fun k => laws_FnExactWaysToDraw.f k p d) true)
  unfold laws_FnExactWaysToDraw.f
  by_cases h1 : (p.size : Int) > 1048576
  · exact evPos h1 (evNow rfl)
  refine evNeg h1 ?_
  by_cases h2 : (d.size : Int) > 1048576
  · exact evPos h2 (evNow rfl)
  refine evNeg h2 ?_
  unfold spec_WaysToDraw.f impl_WaysToDraw.f
  have s_yes : ∀ m, spec_WaysToDraw.j0 (m + 1) p d true = some (0, 1) := fun m => by simp only [spec_WaysToDraw.j0, if_true]
  have s_no : ∀ m, spec_WaysToDraw.j0 (m + 1) p d false = (spec_l03Take.f m p d).bind fun bt118 => (if bt118.2 = true then ((spec_l17Ways.f m p d).bind fun t120 => (some (t120, 0))) else (some (0, 0))) := fun m => by simp only [spec_WaysToDraw.j0, Bool.false_eq_true, if_false]
  by_cases hP : pileB p = true
  · by_cases hR : rackB d = true
    · have tp := pile_ok hP
      have td := pile_ok (rack_pile hR)
      have od := pile_ord (rack_pile hR)
      have zd := rack_size hR
      have e7 : ∀ n, 0 ≤ (cntTo d d.size).getD n 0 ∧ (cntTo d d.size).getD n 0 ≤ 7 := fun n => ⟨cnt_nonneg td n, by have := cnt_size td n; omega⟩
      have a2 : Ev (fun k => impl_WaysToDraw.f k p d) (wp (cntTo p p.size) (cntTo d d.size) 27, 0) :=
        evBind (impl_ValidPile_ev p hp) <| evPos hP <| evBind (impl_ValidRack_ev d hd) <| evPos hR <| evPos ⟨tp, td⟩ <| evBind (waysTo_ev _ _ e7 27) <| evNow rfl
      have a1 : Ev (fun k => spec_WaysToDraw.j0 k p d (!rackB d)) (wp (cntTo p p.size) (cntTo d d.size) 27, 0) := by
        rw [hR]
        refine Ev.step (fun m => s_no m) ?_
        obtain ⟨str, hs⟩ := take_ev p d hp hd
        refine evBind hs ?_
        cases ht : takeOk (bytesOf p) (bytesOf d) with
        | true =>
          have hsub : ∀ k : Nat, k ≤ 26 → (cntTo d d.size).getD k 0 ≤ (cntTo p p.size).getD k 0 := fun k hk => by
            rw [cnt_int td k hk, cnt_int tp k hk]
            have := takeOk_le _ _ ht (tileI k); omega
          exact evPos rfl <| evBind (ways_from p d hp zd tp td od hsub d.size 0 0 (by omega) (by omega) (by omega) (fun _ => rfl) (fun j hj => by omega)) (evNow rfl)
        | false =>
          refine evNeg (by simp) (evNow ?_)
          have : ¬ ∀ z, (bytesOf d).count z ≤ (bytesOf p).count z := fun h => by
            rw [takeOk_of _ _ (ord_pairwise (pile_ord hP)) (ord_pairwise od) h] at ht
            exact absurd ht (by simp)
          obtain ⟨z, hz⟩ := Classical.not_forall.1 this
          obtain ⟨m, hm, e⟩ := mem_bt d z (List.count_pos_iff.1 (by omega))
          obtain ⟨q, hq, _, e2⟩ := place_tileI (td.2 m hm)
          rw [e, e2] at hz
          rw [wp_none (cntTo p p.size) (cntTo d d.size) q (by rw [cnt_int td q hq, cnt_int tp q hq]; omega) 27 (by omega)]
      exact evBind (evBind (spec_l03Pile_ev p hp) <| evPos hP <| evBind (spec_l03Rack_ev d hd) a1) <| evBind a2 <| evPos rfl <| evPos rfl <| evNow rfl
    · have hR' : rackB d = false := Bool.eq_false_iff.mpr hR
      have a1 : Ev (fun k => spec_WaysToDraw.j0 k p d (!rackB d)) (0, 1) := by rw [hR']; exact Ev.step (fun m => s_yes m) (Ev.now _)
      exact evBind (evBind (spec_l03Pile_ev p hp) <| evPos hP <| evBind (spec_l03Rack_ev d hd) a1) <| evBind (evBind (impl_ValidPile_ev p hp) <| evPos hP <| evBind (impl_ValidRack_ev d hd) <| evNeg hR <| evNow rfl) <| evPos rfl <| evPos rfl <| evNow rfl
  · exact evBind (evBind (spec_l03Pile_ev p hp) <| evNeg hP <| Ev.step (fun m => s_yes m) (Ev.now _)) <| evBind (evBind (impl_ValidPile_ev p hp) <| evNeg hP <| evNow rfl) <| evPos rfl <| evPos rfl <| evNow rfl

end Go.Proofs.Ytfdefibljhjkkaa.Pure

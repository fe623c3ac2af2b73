/- For every two strings, the program's ReturnTiles answers what the reference's ReturnTiles answers. Conditions: none beyond the statement. -/
import Derived.Test.YtfdefibljhjkkaaOFnExactReturnTilesx1
namespace Go.Proofs.Ytfdefibljhjkkaa.Pure
open Go.RowKit Go.Proofs.Ytfdefibljhjkkaa.OFnExactReturnTiles Go.Proofs.YtfdefibljhjkkaaW.PrintWords Go.Proofs.YtfdefibljhjkkaaW.PrintLast Go.Proofs.YtfdefibljhjkkaaW.PrintMore
set_option linter.unusedVariables false
set_option linter.unusedSimpArgs false
theorem evPos {α : Type} {c : Prop} [Decidable c] {f g : Nat → Option α} {r : α} (hc : c) (h : Ev f r) : Ev (fun k => if c then f k else g k) r := by
  simpa only [if_pos hc] using h
theorem evNeg {α : Type} {c : Prop} [Decidable c] {f g : Nat → Option α} {r : α} (hc : ¬ c) (h : Ev g r) : Ev (fun k => if c then f k else g k) r := by
  simpa only [if_neg hc] using h
theorem evBindC {α β : Type} {o : Option α} {a : α} {f : Nat → α → Option β} {r : β} (ho : o = some a) (h : Ev (fun k => f k a) r) : Ev (fun k => o.bind (f k)) r := by
  subst ho; exact h
theorem evBind {α β : Type} {g : Nat → Option α} {f : Nat → α → Option β} {a : α} {r : β} (h : Ev g a) (k : Ev (fun n => f n a) r) : Ev (fun n => (g n).bind (f n)) r := Ev.bind h k
theorem evNow {α : Type} {a r : α} (h : a = r) : Ev (fun _ => some a) r := h ▸ Ev.now a
theorem evStep {α : Type} {g : Nat → Option α} {r : α} (h : Ev (fun k => g (k + 1)) r) : Ev g r := Ev.step (fun _ => rfl) h
theorem evTo {α : Type} {g : Nat → Option α} {a r : α} (h : Ev g a) (e : a = r) : Ev g r := e ▸ h
theorem wrapInc {i : Int} {n : Nat} (h0 : 0 ≤ i) (h : i < (n : Int)) (hn : n ≤ 140737488351232) : wrap64 (i + 1) = i + 1 := by
  unfold wrap64; omega
/-- Do all bytes from the n-th on meet p? -/
def allFrom (p : Int → Bool) (s : ByteArray) (n : Nat) : Bool := ((bytesOf s).drop n).all p
theorem allFrom_end (p : Int → Bool) (s : ByteArray) (n : Nat) (h : s.size ≤ n) : allFrom p s n = true := by
  unfold allFrom; rw [List.drop_of_length_le (by rw [bytesOf_length]; exact h)]; rfl
theorem bytesOf_drop (s : ByteArray) (n : Nat) (h : n < s.size) : (bytesOf s).drop n = bt s (n : Int) :: (bytesOf s).drop (n + 1) := by
  have hl : n < (bytesOf s).length := by rw [bytesOf_length]; exact h
  rw [List.drop_eq_getElem_cons hl]
  have e : (bytesOf s)[n] = bt s (n : Int) := by
    rw [← rd_bytesOf]; unfold rd; simp [List.getD, hl]
  rw [e]
theorem allFrom_step (p : Int → Bool) (s : ByteArray) (i : Int) (h0 : 0 ≤ i) (h : i < (s.size : Int)) : allFrom p s i.toNat = (p (bt s i) && allFrom p s (i + 1).toNat) := by
  obtain ⟨n, rfl⟩ := Int.eq_ofNat_of_zero_le h0
  have e : ((n : Int) + 1).toNat = n + 1 := by omega
  rw [e, Int.toNat_natCast]
  unfold allFrom
  rw [bytesOf_drop s n (by omega)]; rfl
/-- A tile: a small letter or the blank. -/
def tileB (c : Int) : Bool := decide (c = 63) || (decide (97 ≤ c) && decide (c ≤ 122))
theorem spec_small (c : Int) : spec_l01Small.f c = some (decide (97 ≤ c) && decide (c ≤ 122)) := by
  unfold spec_l01Small.f; split <;> rename_i h
  · simp [show 97 ≤ c from h]
  · simp [show ¬ 97 ≤ c from h]
theorem spec_tile (c : Int) : spec_l03Tile.f c = some (tileB c) := by
  unfold spec_l03Tile.f tileB; split <;> rename_i h
  · simp [h]
  · rw [spec_small]; simp [h]
theorem impl_small_eq (c : Int) : impl_small.f c = some (decide (97 ≤ c) && decide (c ≤ 122)) := by
  unfold impl_small.f; split <;> rename_i h
  · simp [h]
  · simp [h]
/-- The index of a tile: 0 for the blank, 1 to 26 for the letters, -1 for what is none. -/
def placeI (c : Int) : Int := if c = 63 then 0 else if 97 ≤ c ∧ c ≤ 122 then c - 96 else -1
theorem impl_place_eq (c : Int) : impl_place.f c = some (placeI c) := by
  unfold impl_place.f placeI; split <;> rename_i h
  · rfl
  · rw [impl_small_eq]; simp only [Option.bind_some, Bool.and_eq_true, decide_eq_true_eq]; split
    · simp only [Option.some.injEq]; omega
    · rfl
theorem placeI_neg (c : Int) : placeI c < 0 ↔ tileB c = false := by
  unfold placeI tileB; split <;> rename_i h
  · simp [h]
  · split <;> rename_i h2 <;> simp <;> omega
theorem spec_ok_from (s : ByteArray) (hs : s.size ≤ 140737488351232) (d : Nat) : ∀ i : Int, 0 ≤ i → i ≤ s.size → (s.size : Int) - i = d →
    Ev (fun k => spec_l17Ok.l0 k s i) (allFrom tileB s i.toNat && decide ((s.size : Int) ≤ 120)) := by
  induction d with
  | zero =>
    intro i h0 h1 hd
    refine evStep (evNeg (by omega) (evNow ?_))
    rw [allFrom_end _ _ _ (by omega)]; rfl
  | succ d ih =>
    intro i h0 h1 hd
    refine evStep (evPos (by omega) (evPos h0 (evBindC (spec_tile _) ?_)))
    rw [allFrom_step _ _ _ h0 (by omega)]
    cases hb : tileB (bt s i) with
    | true =>
      refine evPos rfl ?_
      rw [wrapInc h0 (by omega) hs]
      exact ih (i + 1) (by omega) (by omega) (by omega)
    | false => exact evNeg (by simp) (evNow rfl)
theorem spec_l17Ok_ev (s : ByteArray) (hs : s.size ≤ 140737488351232) : Ev (fun k => spec_l17Ok.f k s) (allFrom tileB s 0 && decide ((s.size : Int) ≤ 120)) :=
  spec_ok_from s hs s.size 0 (by omega) (by omega) (by omega)
theorem impl_tiles_from (s : ByteArray) (hs : s.size ≤ 140737488351232) (d : Nat) : ∀ i : Int, 0 ≤ i → i ≤ s.size → (s.size : Int) - i = d →
    Ev (fun k => impl_onlyTiles.l0 k s i) (allFrom tileB s i.toNat) := by
  induction d with
  | zero =>
    intro i h0 h1 hd
    refine evStep (evNeg (by omega) (evNow ?_))
    rw [allFrom_end _ _ _ (by omega)]
  | succ d ih =>
    intro i h0 h1 hd
    refine evStep (evPos (by omega) (evPos h0 (evBindC (impl_place_eq _) ?_)))
    rw [allFrom_step _ _ _ h0 (by omega)]
    cases hb : tileB (bt s i) with
    | true =>
      refine evNeg (by rw [placeI_neg, hb]; simp) ?_
      rw [wrapInc h0 (by omega) hs]
      exact ih (i + 1) (by omega) (by omega) (by omega)
    | false => exact evPos (by rw [placeI_neg, hb]) (evNow rfl)
theorem impl_onlyTiles_ev (s : ByteArray) (hs : s.size ≤ 140737488351232) : Ev (fun k => impl_onlyTiles.f k s) (allFrom tileB s 0) :=
  impl_tiles_from s hs s.size 0 (by omega) (by omega) (by omega)
theorem impl_ValidBag_ev (s : ByteArray) (hs : s.size ≤ 140737488351232) : Ev (fun k => impl_ValidBag.f k s) (allFrom tileB s 0 && decide ((s.size : Int) ≤ 120)) := by
  unfold impl_ValidBag.f
  by_cases h : (s.size : Int) ≤ 120
  · refine evPos h (evBind (impl_onlyTiles_ev s hs) (evNow ?_)); simp [h]
  · refine evNeg h (evNow ?_); simp [h]
/-- Is a string a bag? -/
def bagB (s : ByteArray) : Bool := allFrom tileB s 0 && decide ((s.size : Int) ≤ 120)
theorem bagB_size {s : ByteArray} (h : bagB s = true) : s.size ≤ 120 := by
  unfold bagB at h; simp only [Bool.and_eq_true, decide_eq_true_eq] at h; omega
/-- What both answer. -/
def back (b d : ByteArray) : ByteArray × Int :=
  if bagB b = true ∧ bagB d = true then (if (b.size : Int) + d.size > 120 then (⟨#[]⟩, 5) else (d ++ b, 0)) else (⟨#[]⟩, 1)
theorem spec_j_yes (m : Nat) (b d : ByteArray) : spec_ReturnTiles.j0 (m + 1) b d true = some (⟨#[]⟩, 1) := by simp only [spec_ReturnTiles.j0, Bool.false_eq_true, if_true, if_false]
theorem spec_j_no (m : Nat) (b d : ByteArray) : spec_ReturnTiles.j0 (m + 1) b d false = if wrap64 ((b.size : Int) + (d.size : Int)) > 120 then some (⟨#[]⟩, 5) else if d.size + b.size ≤ 9223372036854775807 then some (d ++ b, 0) else none := by simp only [spec_ReturnTiles.j0, Bool.false_eq_true, if_true, if_false]
theorem spec_back (b d : ByteArray) (hb : b.size ≤ 140737488351232) (hd : d.size ≤ 140737488351232) : Ev (fun k => spec_ReturnTiles.f k b d) (back b d) := by
  unfold spec_ReturnTiles.f
  have hvb : Ev (fun k => spec_l17Ok.f k b) (bagB b) := spec_l17Ok_ev b hb
  have hvd : Ev (fun k => spec_l17Ok.f k d) (bagB d) := spec_l17Ok_ev d hd
  refine evBind hvb ?_
  by_cases h1 : bagB b = true
  · refine evPos h1 (evBind hvd ?_)
    by_cases h2 : bagB d = true
    · have s1 := bagB_size h1
      have s2 := bagB_size h2
      rw [h2, Bool.not_true]
      have ew : wrap64 ((b.size : Int) + d.size) = (b.size : Int) + d.size := by unfold wrap64; omega
      refine Ev.step (fun m => spec_j_no m b d) ?_
      rw [ew]
      by_cases h3 : (b.size : Int) + d.size > 120
      · have e : back b d = (⟨#[]⟩, 5) := by unfold back; rw [if_pos ⟨h1, h2⟩, if_pos h3]
        rw [e]; exact evPos h3 (evNow rfl)
      · have e : back b d = (d ++ b, 0) := by unfold back; rw [if_pos ⟨h1, h2⟩, if_neg h3]
        rw [e]; exact evNeg h3 (evPos (by omega) (evNow rfl))
    · have e : back b d = (⟨#[]⟩, 1) := by unfold back; rw [if_neg (fun h => h2 h.2)]
      rw [e, Bool.eq_false_iff.mpr h2, Bool.not_false]
      exact Ev.step (fun m => spec_j_yes m b d) (Ev.now _)
  · have e : back b d = (⟨#[]⟩, 1) := by unfold back; rw [if_neg (fun h => h1 h.1)]
    rw [e]
    exact evNeg h1 (Ev.step (fun m => spec_j_yes m b d) (Ev.now _))
theorem impl_j_yes (m : Nat) (b d : ByteArray) : impl_ReturnTiles.j0 (m + 1) b d true = some (⟨#[]⟩, 1) := by simp only [impl_ReturnTiles.j0, Bool.false_eq_true, if_true, if_false]
theorem impl_j_no (m : Nat) (b d : ByteArray) : impl_ReturnTiles.j0 (m + 1) b d false = if wrap64 ((b.size : Int) + (d.size : Int)) > 120 then some (⟨#[]⟩, 5) else if d.size + b.size ≤ 9223372036854775807 then some (d ++ b, 0) else none := by simp only [impl_ReturnTiles.j0, Bool.false_eq_true, if_true, if_false]
theorem impl_back (b d : ByteArray) (hb : b.size ≤ 140737488351232) (hd : d.size ≤ 140737488351232) : Ev (fun k => impl_ReturnTiles.f k b d) (back b d) := by
  unfold impl_ReturnTiles.f
  have hvb : Ev (fun k => impl_ValidBag.f k b) (bagB b) := impl_ValidBag_ev b hb
  have hvd : Ev (fun k => impl_ValidBag.f k d) (bagB d) := impl_ValidBag_ev d hd
  refine evBind hvb ?_
  by_cases h1 : bagB b = true
  · refine evPos h1 (evBind hvd ?_)
    by_cases h2 : bagB d = true
    · have s1 := bagB_size h1
      have s2 := bagB_size h2
      rw [h2, Bool.not_true]
      have ew : wrap64 ((b.size : Int) + d.size) = (b.size : Int) + d.size := by unfold wrap64; omega
      refine Ev.step (fun m => impl_j_no m b d) ?_
      rw [ew]
      by_cases h3 : (b.size : Int) + d.size > 120
      · have e : back b d = (⟨#[]⟩, 5) := by unfold back; rw [if_pos ⟨h1, h2⟩, if_pos h3]
        rw [e]; exact evPos h3 (evNow rfl)
      · have e : back b d = (d ++ b, 0) := by unfold back; rw [if_pos ⟨h1, h2⟩, if_neg h3]
        rw [e]; exact evNeg h3 (evPos (by omega) (evNow rfl))
    · have e : back b d = (⟨#[]⟩, 1) := by unfold back; rw [if_neg (fun h => h2 h.2)]
      rw [e, Bool.eq_false_iff.mpr h2, Bool.not_false]
      exact Ev.step (fun m => impl_j_yes m b d) (Ev.now _)
  · have e : back b d = (⟨#[]⟩, 1) := by unfold back; rw [if_neg (fun h => h1 h.1)]
    rw [e]
    exact evNeg h1 (Ev.step (fun m => impl_j_yes m b d) (Ev.now _))
theorem FnExactReturnTiles : laws_FnExactReturnTiles.Pure := by
  intro b d hb hd
  refine Ev.rounds (?_ : Ev (fun k => laws_FnExactReturnTiles.f k b d) true)
  unfold laws_FnExactReturnTiles.f
  by_cases h1 : (b.size : Int) > 1048576
  · exact evPos h1 (evNow rfl)
  by_cases h2 : (d.size : Int) > 1048576
  · exact evNeg h1 (evPos h2 (evNow rfl))
  exact evNeg h1 (evNeg h2 (evBind (spec_back b d hb hd) (evBind (impl_back b d hb hd) (evPos rfl (evPos rfl (evNow rfl))))))

end Go.Proofs.Ytfdefibljhjkkaa.Pure

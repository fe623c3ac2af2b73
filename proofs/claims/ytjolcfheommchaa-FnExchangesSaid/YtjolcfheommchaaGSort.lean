/- Sorting the bytes of a string: the reference's insertion and the program's counting give the same. -/
import Derived.Test.YtjolcfheommchaaGSorted
import Derived.Deep.QuietTactic
import Derived.BigQuiet
set_option linter.unusedVariables false
set_option linter.unusedSimpArgs false
namespace Go.Proofs.Ytjolcfheommchaa.G
open Go.RowKit Go.Proofs.YtjolcfheommchaaW.PrintWords
theorem info_u8 : (Try.prog.info? 5).map (fun i => (i.zero, i.size, i.bytes)) = some (some (.int .u8 0), 1, 1) := by kernel_rfl
/-- Where a byte goes among sorted ones. -/
def SortInv (c : Int) (xs ys : List Int) (j : Nat) : Prop := j ≤ xs.length ∧ ys.length = xs.length + 1 ∧ ys.take j = xs.take j ∧ ys.drop (j + 1) = xs.drop j ∧ ∀ y ∈ xs.drop j, c < y
theorem SortInv.start (c : Int) (xs : List Int) : SortInv c xs (xs ++ [c]) xs.length := ⟨Nat.le_refl _, by simp, by simp, by simp, by simp⟩
theorem SortInv.read {c : Int} {xs ys : List Int} {j : Nat} (h : SortInv c xs ys (j + 1)) : rd ys (j : Int) = xs.getD j 0 := by
  obtain ⟨h1, h2, h3, _, _⟩ := h
  have e : (ys.take (j + 1))[j]? = (xs.take (j + 1))[j]? := by rw [h3]
  rw [List.getElem?_take, List.getElem?_take, if_pos (by omega), if_pos (by omega)] at e
  unfold rd
  rw [Int.toNat_natCast, List.getD_eq_getElem?_getD, List.getD_eq_getElem?_getD, e]
theorem SortInv.step {c : Int} {xs ys : List Int} {j : Nat} (h : SortInv c xs ys (j + 1)) (hc : c < rd ys (j : Int)) : SortInv c xs (ys.set (j + 1) (rd ys (j : Int))) j := by
  have er := h.read
  obtain ⟨h1, h2, h3, h4, h5⟩ := h
  have hj : j < xs.length := by omega
  have ex : xs.getD j 0 = xs[j] := by rw [List.getD_eq_getElem?_getD, List.getElem?_eq_getElem hj]; rfl
  rw [er, ex] at hc ⊢
  refine ⟨by omega, by simpa using h2, ?_, ?_, ?_⟩
  · rw [List.take_set_of_le (by omega)]
    have := congrArg (List.take j) h3
    rwa [List.take_take, List.take_take, Nat.min_eq_left (by omega)] at this
  · rw [List.drop_eq_getElem_cons (by simp; omega), List.getElem_set_self, List.drop_set_of_lt (by omega), h4, ← List.drop_eq_getElem_cons hj]
  · intro y hy
    rw [List.drop_eq_getElem_cons hj] at hy
    rcases List.mem_cons.1 hy with rfl | hy
    · exact hc
    · exact h5 y hy
theorem SortInv.done {c : Int} {xs ys : List Int} {j : Nat} (h : SortInv c xs ys j) (ho : xs.Pairwise (· ≤ ·)) (hz : j = 0 ∨ ∃ i : Nat, j = i + 1 ∧ rd ys (i : Int) ≤ c) :
    (ys.set j c).Perm (c :: xs) ∧ (ys.set j c).Pairwise (· ≤ ·) := by
  have h' := h
  obtain ⟨h1, h2, h3, h4, h5⟩ := h
  have e : ys.set j c = xs.take j ++ c :: xs.drop j := by rw [← h4, ← h3, List.set_eq_take_append_cons_drop, if_pos (by omega)]
  rw [e]
  refine ⟨List.perm_middle.trans (by rw [List.take_append_drop]), ?_⟩
  have h12 := ho
  rw [← List.take_append_drop j xs, List.pairwise_append] at h12
  refine List.pairwise_append.2 ⟨h12.1, List.pairwise_cons.2 ⟨fun y hy => Int.le_of_lt (h5 y hy), h12.2.1⟩, fun a ha b hb => ?_⟩
  rcases List.mem_cons.1 hb with rfl | hb
  · rcases hz with rfl | ⟨i, rfl, hle⟩
    · simp at ha
    · rw [h'.read, List.getD_eq_getElem?_getD, List.getElem?_eq_getElem (show i < xs.length by omega)] at hle
      refine Int.le_trans ?_ hle
      obtain ⟨m, hm, rfl⟩ := List.getElem_of_mem ha
      rw [List.getElem_take]
      rw [List.length_take] at hm
      rcases Nat.lt_or_ge m i with hmj | hmj
      · exact List.pairwise_iff_getElem.1 ho m i (by omega) (by omega) hmj
      · have : m = i := by omega
        subst this; exact Int.le_refl _
  · exact h12.2.2 a ha b hb
theorem take_bytes (s : ByteArray) (k : Nat) (h : k < s.size) : (bytesOf s).take (k + 1) = (bytesOf s).take k ++ [bt s (k : Int)] := by
  have hn : k < (bytesOf s).length := by rw [bytesOf_length]; exact h
  rw [List.take_succ_eq_append_getElem hn]
  have hb : (bytesOf s)[k] = bt s (k : Int) := by rw [← rd_bytesOf]; unfold rd; simp [List.getD, hn]
  rw [hb]
set_option maxHeartbeats 4000000 in
set_option maxRecDepth 100000 in
theorem l03Sort_calls (s : ByteArray) (w : World) (hs : s.size ≤ 1100000) :
    Calls Try.prog 77 #[.string s] w fun e w' => (∃ xs : List Int, e = .returned (.string (strOfNums xs)) ∧ xs.Perm (bytesOf s) ∧ xs.Pairwise (· ≤ ·)) ∧ Below w.heap.size w w' := by
  go_enter Try.func77, Try.ntmps77
  go_wp2_with (fail)
  go_loopw [3, 4] (fun v i wr => ∃ k : Nat, k ≤ s.size ∧ i = .int .i64 k ∧ ∃ xs : List Int, Aside0 (xs.Perm ((bytesOf s).take k)) ∧ Aside0 (xs.Pairwise (· ≤ ·)) ∧ Aside0 (wr.ownsRow w.heap.size 5 1 v xs.length (nums .u8 xs)) ∧ Aside0 (Below w.heap.size w wr)) (fun _ i _ => s.size - (intOf i).toNat)
  case atStart =>
    refine ⟨0, Nat.zero_le _, rfl, [], ⟨by simp⟩, ⟨List.Pairwise.nil⟩, ⟨?_⟩, ⟨(Below.refl _ w).alloc (Nat.le_refl _) _⟩⟩
    exact own_lit w w.heap.size 5 .u8 [] (Nat.le_refl _) (by simp)
  case round =>
    obtain ⟨k, hk, rfl, xs, HP, HO, HR, HB⟩ := hrel
    have hxl : xs.length ≤ k ∧ k ≤ xs.length := by
      have := HP.out.length_eq
      rw [List.length_take, bytesOf_length] at this
      omega
    obtain ⟨A, c0, rfl⟩ := own_slice HR.out
    by_cases hkl : k < s.size
    · have hbt : ((s[k]'hkl).toNat : Int) = bt s (k : Int) := bt_at s (k : Int) (by simpa using hkl)
      have HBT := Lib.hid hbt
      clear hbt
      go_wp2_with (at_builtin; refine print_append_num (w0 := w) w.heap.size rfl (.tmp 15) (.tmp 19) 41 5 .u8 1 rfl Try.underlying41 info_u8 (by decide) _ xs _ rfl rfl HR.out HB.out HB.out.size (by omega) ?_; intro v1 w1 hown hB1 hg hat)
      obtain ⟨g, cap, rfl⟩ : ∃ g cap, v1 = .slice (some ⟨g, 0, none⟩) (xs.length + 1) cap := by
        rcases hown.2 with ⟨_, h0⟩ | ⟨g, cap, cur, hv, _⟩
        · simp [nums] at h0
        · exact ⟨g, cap, by rw [hv]; simp⟩
      have HR1 := Aside0.mk hown
      have HB1 := Aside0.mk hB1
      clear hown hB1 hg hat
      have hsz1 := HB1.out.size
      have hgb : w.heap.size ≤ g := own_base HR1.out g rfl
      go_loopw [5] (fun j wr' => ∃ m : Nat, m ≤ xs.length ∧ j = .int .i64 m ∧ ∃ ys : List Int, Aside0 (SortInv (↑(s[k]'hkl).toNat) xs ys m) ∧ Aside0 (wr'.ownsRow w.heap.size 5 1 (.slice (some ⟨g, 0, none⟩) (xs.length + 1) cap) (xs.length + 1) (nums .u8 ys)) ∧ Aside0 (Below w.heap.size w wr')) (fun j _ => (intOf j).toNat)
      case atStart => exact ⟨xs.length, Nat.le_refl _, rfl, xs ++ [((s[k]'hkl).toNat : Int)], ⟨SortInv.start _ xs⟩, ⟨by simpa using HR1.out⟩, HB1⟩
      case round =>
        obtain ⟨m, hm, rfl, ys, HS, HR2, HB2⟩ := hrel
        have hyl : ys.length ≤ xs.length + 1 ∧ xs.length + 1 ≤ ys.length := by have := HS.out.2.1; omega
        have hdone : ∀ (hz : m = 0 ∨ ∃ i : Nat, m = i + 1 ∧ rd ys (i : Int) ≤ ((s[k]'hkl).toNat : Int)), (ys.set m ((s[k]'hkl).toNat : Int)).Perm ((bytesOf s).take (k + 1)) ∧ (ys.set m ((s[k]'hkl).toNat : Int)).Pairwise (· ≤ ·) := fun hz => by
          obtain ⟨h1, h2⟩ := HS.out.done HO.out hz
          refine ⟨h1.trans ?_, h2⟩
          rw [take_bytes s k hkl, ← HBT.out]
          exact (List.Perm.cons _ HP.out).trans (List.perm_append_singleton _ _).symm
        have HD := Lib.hid hdone
        clear hdone
        obtain ⟨hcm, hfm⟩ := own_at HR2.out (m : Int) (by omega) (by omega)
        rw [Int.toNat_natCast] at hcm hfm
        by_cases hm0 : 0 < m
        · obtain ⟨j, rfl⟩ : ∃ j, m = j + 1 := ⟨m - 1, by omega⟩
          obtain ⟨hcj, hfj⟩ := own_at HR2.out (j : Int) (by omega) (by omega)
          rw [Int.toNat_natCast] at hcj hfj
          have hd0 : decide (0 < ((j + 1 : Nat) : Int)) = true := decide_eq_true (by omega)
          have hwr : IntKind.i64.wrap (((j + 1 : Nat) : Int) - 1) = (j : Int) := by rw [IntKind.wrap_i64]; omega
          go_wp2_with (fail)
          go_quiet (fail)
          go_wp2_with (fail)
          · have hlt : ((s[k]'hkl).toNat : Int) < rd ys (j : Int) := by assumption
            go_roundw
            case rel =>
              refine ⟨j, by omega, by go_num, _, ⟨HS.out.step hlt⟩, ⟨?_⟩, ⟨?_⟩⟩
              · have := (own_store (pw_own_below HR2.out (pw_below_drewN (Below.refl _ _) nq)) ((j + 1 : Nat) : Int) (rd ys (j : Int))).1
                rw [Int.toNat_natCast] at this
                exact this
              · exact (pw_below_drewN HB2.out nq).setCell (p := ⟨g, j + 1, none⟩) hgb _
            case measure => simp [intOf]
          · have hle : rd ys (j : Int) ≤ ((s[k]'hkl).toNat : Int) := by first | assumption | omega
            obtain ⟨hd1, hd2⟩ := HD.out (.inr ⟨j, rfl, hle⟩)
            go_roundw
            case rel =>
              refine ⟨k + 1, by omega, by go_num, _, ⟨hd1⟩, ⟨hd2⟩, ⟨?_⟩, ⟨?_⟩⟩
              · have := (own_store (pw_own_below HR2.out (pw_below_drewN (Below.refl _ _) nq)) ((j + 1 : Nat) : Int) ((s[k]'hkl).toNat : Int)).1
                rw [Int.toNat_natCast] at this
                rw [List.length_set, HS.out.2.1]
                exact this
              · exact (pw_below_drewN HB2.out nq).setCell (p := ⟨g, j + 1, none⟩) hgb _
            case measure => simp [intOf]; omega
        · obtain rfl : m = 0 := by omega
          have hd0 : decide (0 < ((0 : Nat) : Int)) = false := rfl
          go_wp2_with (fail)
          go_quiet (fail)
          go_wp2_with (fail)
          obtain ⟨hd1, hd2⟩ := HD.out (by first | exact .inl rfl | exact .inl trivial)
          go_roundw
          case rel =>
            refine ⟨k + 1, by omega, by go_num, _, ⟨hd1⟩, ⟨hd2⟩, ⟨?_⟩, ⟨?_⟩⟩
            · have := (own_store (pw_own_below HR2.out (pw_below_drewN (Below.refl _ _) nq)) ((0 : Nat) : Int) ((s[k]'hkl).toNat : Int)).1
              rw [Int.toNat_natCast] at this
              rw [List.length_set, HS.out.2.1]
              exact this
            · exact (pw_below_drewN HB2.out nq).setCell (p := ⟨g, 0, none⟩) hgb _
          case measure => simp [intOf]; omega
    · have hcv := fun W (h : W = wr) => own_string (dst := 9) (P := Try.prog) Try.underlying41 Try.underlying5 Try.underlying9 HR.out
      go_wp2_with (fail)
      go_ret
      exact ⟨⟨xs, rfl, by rw [List.take_of_length_le (by rw [bytesOf_length]; omega)] at HP; exact HP.out, HO.out⟩, HB.out⟩
theorem tileU_nat (j : Nat) (h : j ≤ 26) : (tileU j).toNat = if j = 0 then 63 else 96 + j := by
  have := tileU_toNat j h
  unfold tileI at this
  split <;> split at this <;> omega
theorem tileU_inj {i j : Nat} (hi : i ≤ 26) (hj : j ≤ 26) (h : tileU i = tileU j) : i = j := by
  have e : (tileU i).toNat = (tileU j).toNat := by rw [h]
  rw [tileU_nat i hi, tileU_nat j hj] at e
  split at e <;> split at e <;> omega
theorem tileU_mono {i j : Nat} (hi : i < j) (hj : j ≤ 26) : (tileU i).toNat ≤ (tileU j).toNat := by
  rw [tileU_nat i (by omega), tileU_nat j hj]
  split <;> split <;> omega
theorem bt_eq (s : ByteArray) (k : Nat) (h : k < s.size) : bt s (k : Int) = ((s.data.toList[k]'(by rw [data_length]; exact h)).toNat : Int) := by
  have := bt_at s (k : Int) (by simpa using h)
  rw [← this]
  rfl
theorem place_tile {c : UInt8} {j : Nat} (hj : j ≤ 26) (h0 : 0 ≤ placeI (c.toNat : Int)) : (placeI (c.toNat : Int)).toNat = j ↔ c = tileU j := by
  have hn := tileU_nat j hj
  constructor
  · intro h
    apply UInt8.toNat_inj.1
    rw [hn]
    unfold placeI at h h0
    split at h <;> rename_i h1
    · rw [if_pos (by simpa using h.symm)]; omega
    · rw [if_neg h1] at h0
      split at h <;> rename_i h2
      · split <;> omega
      · rw [if_neg h2] at h0; omega
  · rintro rfl
    rw [hn]
    unfold placeI
    split <;> split <;> first | omega | (split <;> omega)
theorem cnt_count (s : ByteArray) (ht : ∀ k : Nat, k < s.size → 0 ≤ placeI (bt s (k : Int))) (j : Nat) (hj : j ≤ 26) : ∀ k, k ≤ s.size → (cntTo s k).getD j 0 = ((s.data.toList.take k).count (tileU j) : Int)
  | 0, _ => by
    unfold cntTo
    rw [List.getD_eq_getElem?_getD, List.getElem?_replicate, if_pos (by omega)]
    simp
  | k + 1, hk => by
    have ih := cnt_count s ht j hj k (by omega)
    have hlt : k < s.data.toList.length := by rw [data_length]; omega
    have hp := ht k (by omega)
    rw [bt_eq s k (by omega)] at hp
    have hpt := place_tile (c := s.data.toList[k]) hj hp
    have hl := cntTo_length s k
    rw [List.take_succ_eq_append_getElem hlt, List.count_append, List.count_singleton]
    unfold cntTo bump
    rw [bt_eq s k (by omega), List.getD_eq_getElem?_getD, List.getElem?_set]
    by_cases e : (placeI (s.data.toList[k].toNat : Int)).toNat = j
    · rw [if_pos e, if_pos (by omega)]
      have e2 := hpt.1 e
      rw [if_pos (by simpa using e2), Option.getD_some, e, ih]
      omega
    · rw [if_neg e, ← List.getD_eq_getElem?_getD, ih]
      have e2 : ¬ s.data.toList[k] = tileU j := fun h => e (hpt.2 h)
      rw [if_neg (by simpa using e2)]
      omega
theorem pile_count (cs : List Int) (j : Nat) (hj : j ≤ 26) : ∀ k, k ≤ 27 → (pileTo cs k).count (tileU j) = if j < k then (cs.getD j 0).toNat else 0
  | 0, _ => by simp [pileTo]
  | k + 1, hk => by
    have ih := pile_count cs j hj k (by omega)
    unfold pileTo
    rw [List.count_append, ih, List.count_replicate]
    by_cases e : j = k
    · subst e
      rw [if_neg (Nat.lt_irrefl _), if_pos (by simp), if_pos (by omega)]; omega
    · have e2 : ¬ tileU k = tileU j := fun h => e (tileU_inj (by omega) hj h).symm
      rw [if_neg (show ¬ (tileU k == tileU j) = true by simpa using e2)]
      by_cases e3 : j < k
      · rw [if_pos e3, if_pos (by omega)]; omega
      · rw [if_neg e3, if_neg (by omega)]
theorem pile_mem (cs : List Int) : ∀ k, ∀ b ∈ pileTo cs k, ∃ j, j < k ∧ b = tileU j
  | 0 => by intro b hb; cases hb
  | k + 1 => by
    intro b hb
    unfold pileTo at hb
    rcases List.mem_append.1 hb with h | h
    · obtain ⟨j, h1, h2⟩ := pile_mem cs k b h; exact ⟨j, by omega, h2⟩
    · exact ⟨k, by omega, List.eq_of_mem_replicate h⟩
theorem pile_sorted (cs : List Int) : ∀ k, k ≤ 27 → (pileTo cs k).Pairwise (fun a b => a.toNat ≤ b.toNat)
  | 0, _ => List.Pairwise.nil
  | k + 1, hk => by
    unfold pileTo
    refine List.pairwise_append.2 ⟨pile_sorted cs k (by omega), ?_, fun a ha b hb => ?_⟩
    · exact List.pairwise_replicate.2 (Or.inr (Nat.le_refl _))
    · obtain ⟨j, h1, rfl⟩ := pile_mem cs k a ha
      rw [List.eq_of_mem_replicate hb]
      exact tileU_mono h1 (by omega)
theorem tile_of (s : ByteArray) (ht : ∀ k : Nat, k < s.size → 0 ≤ placeI (bt s (k : Int))) : ∀ b ∈ s.data.toList, ∃ j, j ≤ 26 ∧ b = tileU j := by
  intro b hb
  obtain ⟨k, hk, rfl⟩ := List.getElem_of_mem hb
  have hp := ht k (by rw [← data_length]; exact hk)
  rw [bt_eq s k (by rw [← data_length]; exact hk)] at hp
  refine ⟨(placeI (s.data.toList[k].toNat : Int)).toNat, ?_, ?_⟩
  · unfold placeI; split
    · simp
    · split <;> omega
  · refine (place_tile ?_ hp).1 rfl
    unfold placeI; split
    · simp
    · split <;> omega
/-- The pile of the counts has just the bytes of the string. -/
theorem pile_perm (s : ByteArray) (ht : ∀ k : Nat, k < s.size → 0 ≤ placeI (bt s (k : Int))) : (pileTo (cntTo s s.size) 27).Perm s.data.toList := by
  rw [List.perm_iff_count]
  intro b
  by_cases hb : ∃ j, j ≤ 26 ∧ b = tileU j
  · obtain ⟨j, hj, rfl⟩ := hb
    rw [pile_count _ j hj 27 (Nat.le_refl _), if_pos (by omega), cnt_count s ht j hj s.size (Nat.le_refl _), List.take_of_length_le (by rw [data_length]; omega)]
    omega
  · rw [List.count_eq_zero_of_not_mem, List.count_eq_zero_of_not_mem]
    · intro h; exact hb (tile_of s ht b h)
    · intro h; obtain ⟨j, h1, h2⟩ := pile_mem _ 27 b h; exact hb ⟨j, by omega, h2⟩

/-- The bytes of a string in ascending order. -/
def sortS (s : ByteArray) : ByteArray := ⟨(s.data.toList.mergeSort (fun a b => decide (a.toNat ≤ b.toNat))).toArray⟩
theorem sortS_perm (s : ByteArray) : (sortS s).data.toList.Perm s.data.toList := by
  unfold sortS; simpa using List.mergeSort_perm _ _
theorem sortS_sorted (s : ByteArray) : (sortS s).data.toList.Pairwise (fun a b => a.toNat ≤ b.toNat) := by
  unfold sortS
  have := List.pairwise_mergeSort (le := fun a b : UInt8 => decide (a.toNat ≤ b.toNat)) (fun a b c h1 h2 => by simp at *; omega) (fun a b => by simp; omega) s.data.toList
  simpa using this
theorem sortS_size (s : ByteArray) : (sortS s).size = s.size := by
  have := (sortS_perm s).length_eq
  rwa [data_length, data_length] at this
theorem sortS_unique {s : ByteArray} {l : List UInt8} (h : l.Perm s.data.toList) (ho : l.Pairwise (fun a b => a.toNat ≤ b.toNat)) : (⟨l.toArray⟩ : ByteArray) = sortS s := by
  have e : l = (sortS s).data.toList :=
    List.Perm.eq_of_pairwise (le := fun a b => a.toNat ≤ b.toNat) (fun a b _ _ hab hba => UInt8.toNat_inj.1 (Nat.le_antisymm hab hba)) ho (sortS_sorted s) (h.trans (sortS_perm s).symm)
  rw [e]
theorem sortS_nums {s : ByteArray} {ys : List Int} (h1 : ys.Perm (bytesOf s)) (h2 : ys.Pairwise (· ≤ ·)) : strOfNums ys = sortS s := by
  unfold strOfNums
  refine sortS_unique ?_ ?_
  · refine (h1.map _).trans ?_
    unfold bytesOf
    rw [List.map_map]
    have : ((fun n : Int => UInt8.ofNat n.toNat) ∘ fun b : UInt8 => (b.toNat : Int)) = id := by
      funext b; simp
    rw [this, List.map_id]
  · rw [List.pairwise_map]
    refine List.Pairwise.imp_of_mem (fun {a b} ha hb hab => ?_) h2
    have ra : ∀ a ∈ ys, 0 ≤ a ∧ a ≤ 255 := by
      intro a ha
      have := h1.mem_iff.1 ha
      unfold bytesOf at this
      obtain ⟨c, _, rfl⟩ := List.mem_map.1 this
      have := c.toNat_lt
      omega
    have h1 := ra a ha
    have h2 := ra b hb
    rw [UInt8.toNat_ofNat', UInt8.toNat_ofNat', Nat.mod_eq_of_lt (by omega), Nat.mod_eq_of_lt (by omega)]
    omega
/-- Only tiles, and not too many. -/
def tilesOk (s : ByteArray) : Prop := s.size ≤ 1000000 ∧ ∀ k : Nat, k < s.size → 0 ≤ placeI (bt s (k : Int))
instance (s : ByteArray) : Decidable (tilesOk s) := by unfold tilesOk; infer_instance
/-- The program's sorted: the pile of a string of tiles. -/
def impl_sorted.f (a0 : ByteArray) : Option ByteArray := if tilesOk a0 then some (sortS a0) else none
theorem cntTo_le (s : ByteArray) (h : s.size ≤ 1000000) : ∀ x ∈ cntTo s s.size, 0 ≤ x ∧ x ≤ 1000000 := fun x hx => by
  have := cntTo_range s s.size x hx
  omega
set_option maxHeartbeats 1000000 in
theorem impl_sorted.calls (a0 : ByteArray) (r : ByteArray) (w : World) (h : impl_sorted.f a0 = some r) :
    Calls Try.prog 81 #[.string a0] w fun e w' => e = .returned (.string r) ∧ Below w.heap.size w w' := by
  unfold impl_sorted.f at h
  split at h
  · rename_i hok
    have hr : r = ⟨(pileTo (cntTo a0 a0.size) 27).toArray⟩ := by
      rw [← Option.some.inj h]
      exact (sortS_unique (pile_perm a0 hok.2) (pile_sorted _ 27 (Nat.le_refl _))).symm
    have HR := Lib.hid hr
    clear h hr
    go_enter Try.func81, Try.ntmps81
    go_wp2_with (first | (go_at_call 96; refine (countsOf_calls a0 _ hok.1 hok.2).mono ?_; rintro e w1 ⟨rfl, hb1⟩) | (go_at_call 140; refine (pile_calls (cntTo a0 a0.size) _ (cntTo_length _ _) (cntTo_le a0 hok.1)).mono ?_; rintro e w2 ⟨rfl, hb2⟩))
    go_ret
    exact ⟨by rw [HR.out]; rfl, hb1.trans (hb2.mono hb1.size)⟩
  · cases h
/-- The reference's sort. -/
def spec_l03Sort.f (a0 : ByteArray) : Option ByteArray := if a0.size ≤ 1100000 then some (sortS a0) else none
theorem spec_l03Sort.calls (a0 : ByteArray) (r : ByteArray) (w : World) (h : spec_l03Sort.f a0 = some r) :
    Calls Try.prog 77 #[.string a0] w fun e w' => e = .returned (.string r) ∧ Below w.heap.size w w' := by
  unfold spec_l03Sort.f at h
  split at h
  · rename_i hok
    refine (l03Sort_calls a0 w hok).mono ?_
    rintro e w' ⟨⟨xs, rfl, h1, h2⟩, hb⟩
    rw [sortS_nums h1 h2, Option.some.inj h]
    exact ⟨rfl, hb⟩
  · cases h
end Go.Proofs.Ytjolcfheommchaa.G

/- A pile without another one's tiles: the program's less and without, walked. -/
import Derived.Test.YtjolcfheommchaaGSort
import Derived.Test.YtjolcfheommchaaWMore
namespace Go.Proofs.Ytjolcfheommchaa.G
set_option linter.unusedVariables false
set_option linter.unusedSimpArgs false
open Go.RowKit Go.Proofs.YtjolcfheommchaaW.PrintWords Go.Proofs.YtjolcfheommchaaW.PrintLast
/-- The first k counts less the others. -/
def subTo (c d : List Int) : Nat → List Int
  | 0 => c
  | k + 1 => (subTo c d k).set k (c.getD k 0 - d.getD k 0)
theorem subTo_length (c d : List Int) : ∀ k, (subTo c d k).length = c.length
  | 0 => rfl
  | k + 1 => by unfold subTo; rw [List.length_set, subTo_length c d k]
theorem subTo_get (c d : List Int) (j : Nat) (hj : j < c.length) : ∀ k, (subTo c d k).getD j 0 = if j < k then c.getD j 0 - d.getD j 0 else c.getD j 0
  | 0 => rfl
  | k + 1 => by
    unfold subTo
    rw [List.getD_eq_getElem?_getD, List.getElem?_set]
    by_cases e : k = j
    · subst e
      rw [if_pos rfl, if_pos (by rw [subTo_length]; exact hj), if_pos (by omega)]; rfl
    · rw [if_neg e, ← List.getD_eq_getElem?_getD, subTo_get c d j hj k]
      by_cases h : j < k
      · rw [if_pos h, if_pos (by omega)]
      · rw [if_neg h, if_neg (by omega)]
def lessB (c d : List Int) : Bool := (List.range 27).all fun j => decide (d.getD j 0 ≤ c.getD j 0)
def lessL (c d : List Int) : List Int := if lessB c d = true then subTo c d 27 else List.replicate 27 0
set_option maxHeartbeats 4000000 in
set_option maxRecDepth 100000 in
theorem less_calls (c d : List Int) (w : World) (hc : c.length = 27) (hd : d.length = 27) (xc : ∀ j, 0 ≤ c.getD j 0 ∧ c.getD j 0 ≤ 1000000) (xd : ∀ j, 0 ≤ d.getD j 0 ∧ d.getD j 0 ≤ 1000000) :
    Calls Try.prog 139 #[.agg (encI c), .agg (encI d)] w fun e w' => e = .returned (.tuple #[.agg (encI (lessL c d)), .bool (lessB c d)]) ∧ Below w.heap.size w w' := by
  have hi : ∀ l : List Int, l.length = 27 → (Try.prog.info? 121).map (·.size) = some (encI l).size := fun l h => by rw [encI_size, h]; kernel_rfl
  have HI := Lib.hid hi
  have HC := Lib.hid hc
  have HD := Lib.hid hd
  have XC := Lib.hid xc
  have XD := Lib.hid xd
  clear hi hc hd xc xd
  go_enter Try.func139, Try.ntmps139
  go_wp2_with (with_reducible refine wpList_load_row rfl 121 (.tmp 3) rfl (w.heap.size + 1) rfl 121 _ (0, 0) _ (blk_alloc (heap_alloc2_new _ _ _) _) Try.underlying121 rfl (HI.out _ HD.out) ?_)
  go_loopw [9] (fun i wr => ∃ k : Nat, k ≤ 27 ∧ i = .int .i64 k ∧ Aside0 (∀ j, j < k → d.getD j 0 ≤ c.getD j 0) ∧ Aside0 (wr.heap[w.heap.size]? = some (.cells (encI (subTo c d k)) 121 (0, 0))) ∧ Aside0 (wr.heap[w.heap.size + 2]? = some (.cells (encI (List.replicate 27 0)) 121 (0, 0))) ∧ Aside0 (Below w.heap.size w wr)) (fun i _ => 27 - (intOf i).toNat)
  case atStart =>
    refine ⟨0, Nat.zero_le _, rfl, ⟨fun j h => absurd h (Nat.not_lt_zero _)⟩, ⟨blk_alloc (heap_alloc2_old _ _ _) _⟩, ⟨?_⟩, ⟨below_alloc (below_alloc (below_alloc (Below.refl _ _) _) _) _⟩⟩
    have e : ∀ X Y : Obj, ((w.alloc X).alloc Y).heap.size = w.heap.size + 2 := fun X Y => by rw [World.size_alloc, World.size_alloc]
    rw [← e]
    exact blk_new _ _
  case round =>
    obtain ⟨k, hk, rfl, HS, B0, B2, HB⟩ := hrel
    by_cases hkl : k < 27
    · have hd27 : decide ((k : Int) < 27) = true := decide_eq_true (by omega)
      have hix := run_index_encI d k wr HD.out hkl
      have hgk : (subTo c d k).getD k 0 = c.getD k 0 := by rw [subTo_get c d k (by rw [HC.out]; exact hkl) k, if_neg (Nat.lt_irrefl k)]
      have hcell : wr.cell? ⟨w.heap.size, k, none⟩ = some (.int .i64 (c.getD k 0)) := by
        rw [cell_of_row _ _ _ _ _ _ B0.out, encI_get _ _ (by rw [subTo_length, HC.out]; exact hkl), hgk]
      have hfr : wr.frozen? ⟨w.heap.size, k, none⟩ = false := frozen_of_row _ _ _ _ _ B0.out
      have hxc := XC.out k
      have hxd := XD.out k
      obtain ⟨x, hx⟩ : ∃ x, x = c.getD k 0 := ⟨_, rfl⟩
      obtain ⟨y, hy⟩ : ∃ y, y = d.getD k 0 := ⟨_, rfl⟩
      rw [← hx] at hcell hxc
      rw [← hy] at hix hxd
      have hw : IntKind.i64.wrap (x - y) = x - y := by rw [i64_w]; unfold wrap64; omega
      have h0 := heap_setCell_same wr w.heap.size k _ _ (.int .i64 (x - y)) B0.out
      rw [encI_set] at h0
      have h0' : (wr.setCell ⟨w.heap.size, k, none⟩ (.int .i64 (x - y))).heap[w.heap.size]? = some (.cells (encI (subTo c d (k + 1))) 121 (0, 0)) := by
        rw [h0]; show _ = some (Obj.cells (encI ((subTo c d k).set k (c.getD k 0 - d.getD k 0))) _ _); rw [hx, hy]
      have h2 : (wr.setCell ⟨w.heap.size, k, none⟩ (.int .i64 (x - y))).heap[w.heap.size + 2]? = some (.cells (encI (List.replicate 27 0)) 121 (0, 0)) := by
        rw [heap_setCell_other _ _ _ _ (by simp)]; exact B2.out
      have hcell2 : (wr.setCell ⟨w.heap.size, k, none⟩ (.int .i64 (x - y))).cell? ⟨w.heap.size, k, none⟩ = some (.int .i64 (x - y)) := by
        rw [cell_of_row _ _ _ _ _ _ h0', encI_get _ _ (by rw [subTo_length, HC.out]; exact hkl), subTo_get c d k (by rw [HC.out]; exact hkl), if_pos (Nat.lt_succ_self k), hx, hy]
      have hb2 : Below w.heap.size w (wr.setCell ⟨w.heap.size, k, none⟩ (.int .i64 (x - y))) := HB.out.setCell (by simp) _
      have H0 := Lib.hid h0'
      have H2 := Lib.hid h2
      have HB2 := Lib.hid hb2
      have HX := Lib.hid hx
      have HY := Lib.hid hy
      clear h0 h0' h2 hb2 hx hy hgk
      by_cases hneg : x - y < 0
      · have hn : decide (x - y < 0) = true := decide_eq_true hneg
        have hz : (encI (List.replicate 27 0)).size = 27 := rfl
        have e1 : lessB c d = false := by
          unfold lessB
          rw [List.all_eq_false]
          exact ⟨k, by simp [hkl], by rw [← HX.out, ← HY.out]; simp; omega⟩
        have e2 : lessL c d = List.replicate 27 0 := by unfold lessL; rw [e1]; rfl
        have E1 := Lib.hid e1
        have E2 := Lib.hid e2
        clear e1 e2
        have HI0 := HI.out (List.replicate 27 0) rfl
        go_wp2_with (with_reducible refine wpList_store_row rfl 121 (.tmp 4) (.tmp 23) rfl (w.heap.size + 2) (encI (List.replicate 27 0)) rfl rfl 121 _ H2.out HI0 rfl (encI_one _) ?_)
        refine bodyPost_ret (results_ct rfl _ _ (w.heap.size + 2) 121 _ (0, 0) _ rfl (setRow_heap _ _ _ _ _ _ H2.out) Try.underlying121 rfl HI0) rfl ⟨by rw [E1.out, E2.out]; rfl, ?_⟩
        exact below_setRow HB2.out _ (by omega) _
      · have hn : decide (x - y < 0) = false := decide_eq_false hneg
        go_wp2_with (fail)
        go_roundw
        case rel =>
          refine ⟨k + 1, by omega, by go_num, ⟨fun j hj => ?_⟩, ⟨H0.out⟩, ⟨H2.out⟩, ⟨HB2.out⟩⟩
          rcases Nat.lt_or_eq_of_le (Nat.le_of_lt_succ hj) with h | rfl
          · exact HS.out j h
          · rw [← HX.out, ← HY.out]; omega
        case measure => simp [intOf]; omega
    · obtain rfl : k = 27 := by omega
      have e1 : lessB c d = true := by
        unfold lessB
        rw [List.all_eq_true]
        intro j hj
        exact decide_eq_true (HS.out j (List.mem_range.1 hj))
      have e2 : lessL c d = subTo c d 27 := by unfold lessL; rw [e1]; rfl
      have E1 := Lib.hid e1
      have E2 := Lib.hid e2
      clear e1 e2
      have HI0 := HI.out (subTo c d 27) (by rw [subTo_length, HC.out])
      have HL0 := Lib.hid (show (encI (List.replicate 27 0)).size = (encI (subTo c d 27)).size by rw [encI_size, encI_size, subTo_length, HC.out]; rfl)
      go_wp2_with (first | (with_reducible refine wpList_load_row rfl 121 (.tmp 2) rfl w.heap.size rfl 121 _ (0, 0) _ B0.out Try.underlying121 rfl HI0 ?_) | (with_reducible refine wpList_store_row rfl 121 (.tmp 4) (.tmp 25) rfl (w.heap.size + 2) _ rfl rfl 121 _ B2.out HI0 HL0.out (encI_one _) ?_))
      refine bodyPost_ret (results_ct rfl _ _ (w.heap.size + 2) 121 _ (0, 0) _ rfl (setRow_heap _ _ _ _ _ _ B2.out) Try.underlying121 rfl HI0) rfl ⟨by rw [E1.out, E2.out]; rfl, ?_⟩
      exact below_setRow HB.out _ (by omega) _
theorem lessL_length (c d : List Int) (hc : c.length = 27) : (lessL c d).length = 27 := by
  unfold lessL; split
  · rw [subTo_length, hc]
  · simp
theorem subTo_range (c d : List Int) (n : Nat) (hc : c.length = n) (hle : ∀ j, j < n → d.getD j 0 ≤ c.getD j 0) (xc : ∀ j, 0 ≤ c.getD j 0 ∧ c.getD j 0 ≤ 1000000) (xd : ∀ j, 0 ≤ d.getD j 0) : ∀ x ∈ subTo c d n, 0 ≤ x ∧ x ≤ 1000000 := by
  intro x hx
  obtain ⟨j, hj, e⟩ := List.getElem_of_mem hx
  have hj' : j < n := by rw [subTo_length, hc] at hj; exact hj
  have e2 : (subTo c d n)[j] = (subTo c d n).getD j 0 := by rw [List.getD_eq_getElem?_getD, List.getElem?_eq_getElem hj]; rfl
  rw [← e, e2, subTo_get c d j (by omega) n, if_pos hj']
  have h1 := hle j hj'
  have h2 := xc j
  have h3 := xd j
  omega
theorem lessL_range (c d : List Int) (hc : c.length = 27) (xc : ∀ j, 0 ≤ c.getD j 0 ∧ c.getD j 0 ≤ 1000000) (xd : ∀ j, 0 ≤ d.getD j 0) : ∀ x ∈ lessL c d, 0 ≤ x ∧ x ≤ 1000000 := by
  intro x hx
  unfold lessL at hx
  by_cases h : lessB c d = true
  · rw [if_pos h] at hx
    refine subTo_range c d 27 hc (fun j hj => ?_) xc xd x hx
    unfold lessB at h
    rw [List.all_eq_true] at h
    exact of_decide_eq_true (h j (List.mem_range.2 hj))
  · rw [if_neg h] at hx
    have : x = 0 := List.eq_of_mem_replicate hx
    omega
theorem getD_range {l : List Int} {M : Int} (hM : 0 ≤ M) (h : ∀ x ∈ l, 0 ≤ x ∧ x ≤ M) (j : Nat) : 0 ≤ l.getD j 0 ∧ l.getD j 0 ≤ M := by
  rw [List.getD_eq_getElem?_getD]
  rcases e : l[j]? with _ | y
  · simp; exact hM
  · exact h y (List.mem_of_getElem? e)
def restS (a b : ByteArray) : ByteArray := ⟨(pileTo (lessL (cntTo a a.size) (cntTo b b.size)) 27).toArray⟩
def impl_without.f (a0 a1 : ByteArray) : Option (ByteArray × Bool) := if tilesOk a0 ∧ tilesOk a1 then some (restS a0 a1, lessB (cntTo a0 a0.size) (cntTo a1 a1.size)) else none
set_option maxHeartbeats 4000000 in
set_option maxRecDepth 100000 in
theorem impl_without.calls (a0 a1 : ByteArray) (r1 : ByteArray) (r2 : Bool) (w : World) (h : impl_without.f a0 a1 = some (r1, r2)) :
    Calls Try.prog 80 #[.string a0, .string a1] w fun e w' => e = .returned (.tuple #[.string r1, .bool r2]) ∧ Below w.heap.size w w' := by
  unfold impl_without.f at h
  by_cases ht : tilesOk a0 ∧ tilesOk a1
  · rw [if_pos ht] at h
    simp only [Option.some.injEq, Prod.mk.injEq] at h
    obtain ⟨rfl, rfl⟩ := h
    have HT := Lib.hid ht
    clear ht
    have l0 := Lib.hid (cntTo_length a0 a0.size)
    have l1 := Lib.hid (cntTo_length a1 a1.size)
    have x0 := Lib.hid (getD_range (show (0 : Int) ≤ 1000000 by decide) (cntTo_le a0 HT.out.1.1))
    have x1 := Lib.hid (getD_range (show (0 : Int) ≤ 1000000 by decide) (cntTo_le a1 HT.out.2.1))
    have hL := Lib.hid (lessL_length _ (cntTo a1 a1.size) l0.out)
    have hR := Lib.hid (lessL_range _ (cntTo a1 a1.size) l0.out x0.out (fun j => (x1.out j).1))
    have hi : (Try.prog.info? 121).map (·.size) = some (encI (lessL (cntTo a0 a0.size) (cntTo a1 a1.size))).size := by rw [encI_size, hL.out]; kernel_rfl
    have HI := Lib.hid hi
    clear hi
    have hsz := Lib.hid (show (encI (List.replicate 27 0)).size = (encI (lessL (cntTo a0 a0.size) (cntTo a1 a1.size))).size by rw [encI_size, encI_size, hL.out]; rfl)
    unfold restS
    generalize hl : lessL (cntTo a0 a0.size) (cntTo a1 a1.size) = ls at hL hR HI hsz
    have HL := Lib.hid hl
    clear hl
    go_enter Try.func80, Try.ntmps80
    go_wp2_with (fail)
    refine (countsOf_calls a0 _ HT.out.1.1 HT.out.1.2).mono ?_
    rintro e w1 ⟨rfl, hb1⟩
    go_wp2_with (fail)
    refine (countsOf_calls a1 _ HT.out.2.1 HT.out.2.2).mono ?_
    rintro e w2 ⟨rfl, hb2⟩
    have hb2 : Below w.heap.size w w2 := below_step hb1 hb2
    clear hb1
    go_wp2_with (fail)
    refine (less_calls _ _ _ l0.out l1.out x0.out x1.out).mono ?_
    rintro e w3 ⟨rfl, hb3⟩
    have HB := Lib.hid (below_step hb2 hb3)
    clear hb2 hb3
    rw [HL.out]
    go_wp2_with (first | (with_reducible refine wpList_store_row rfl 121 (.tmp 6) (.tmp 14) rfl w3.heap.size (encI ls) rfl rfl 121 (encI (List.replicate 27 0)) (blk_new w3 _) HI.out hsz.out (encI_one _) ?_) | (with_reducible refine wpList_load_row rfl 121 (.tmp 6) rfl w3.heap.size rfl 121 (encI ls) (0, 0) _ (setRow_heap _ _ _ _ _ _ (blk_new w3 _)) Try.underlying121 rfl HI.out ?_))
    refine (pile_calls ls _ hL.out hR.out).mono ?_
    rintro e w4 ⟨rfl, hb4⟩
    have hb5 : Below w.heap.size w w4 := below_step (below_setRow (below_alloc HB.out _) _ HB.out.size _) hb4
    go_wp2_with (fail)
    go_ret2
    exact ⟨rfl, hb5⟩
  · rw [if_neg ht] at h
    exact absurd h (by simp)
end Go.Proofs.Ytjolcfheommchaa.G

/- The reference's CompareMoves: two moves laid apart, compared through their addresses. -/
import Derived.Test.YtfdefibljhjkkaaOCmpAx
import Derived.Lib.Hide
namespace Go.Proofs.Ytfdefibljhjkkaa.G
set_option linter.unusedVariables false
set_option linter.unusedSimpArgs false
open Go.RowKit Go.Proofs.YtfdefibljhjkkaaW.PrintWords Go.Proofs.YtfdefibljhjkkaaW.PrintLast Go.Proofs.Ytfdefibljhjkkaa.OCmpA

theorem alloc_size (w : World) (o : Obj) : (w.alloc o).heap.size = w.heap.size + 1 := World.size_alloc w o
def moveAt (w : World) (g o : Nat) (a0 : Int) (a1 : Int) (a2 : Bool) (a3 : ByteArray) (a4 : Int) : Prop := w.cell? ⟨g, o, none⟩ = some (.int .i64 a0) ∧ w.cell? ⟨g, o + 1, none⟩ = some (.int .i64 a1) ∧ w.cell? ⟨g, o + 2, none⟩ = some (.bool a2) ∧ w.cell? ⟨g, o + 3, none⟩ = some (.string a3) ∧ w.cell? ⟨g, o + 4, none⟩ = some (.int .i64 a4)
theorem moveAt_below {w w' : World} {g o : Nat} {a0 a1 : Int} {a2 : Bool} {a3 : ByteArray} {a4 : Int} (h : moveAt w g o a0 a1 a2 a3 a4) (hb : Below w.heap.size w w') : moveAt w' g o a0 a1 a2 a3 a4 := by
  obtain ⟨h0, h1, h2, h3, h4⟩ := h
  exact ⟨(hb.cell (World.block_lt_of_cell? _ _ h0)).trans h0, (hb.cell (World.block_lt_of_cell? _ _ h1)).trans h1, (hb.cell (World.block_lt_of_cell? _ _ h2)).trans h2, (hb.cell (World.block_lt_of_cell? _ _ h3)).trans h3, (hb.cell (World.block_lt_of_cell? _ _ h4)).trans h4⟩
def spec_l15Compare.f (a0 : Int) (a1 : Int) (a2 : Bool) (a3 : ByteArray) (a4 : Int) (b0 : Int) (b1 : Int) (b2 : Bool) (b3 : ByteArray) (b4 : Int) : Option Int := if a4 = b4 then spec_l12Compare.f a0 a1 a2 a3 b0 b1 b2 b3 else spec_l12Sign.f b4 a4
set_option maxHeartbeats 4000000 in
set_option maxRecDepth 100000 in
theorem spec_l15Compare.calls (ga oa gb ob : Nat) (a0 : Int) (a1 : Int) (a2 : Bool) (a3 : ByteArray) (a4 : Int) (b0 : Int) (b1 : Int) (b2 : Bool) (b3 : ByteArray) (b4 : Int) (r : Int) (w : World) (hA : moveAt w ga oa a0 a1 a2 a3 a4) (hB : moveAt w gb ob b0 b1 b2 b3 b4) (h : spec_l15Compare.f a0 a1 a2 a3 a4 b0 b1 b2 b3 b4 = some r) :
    Calls Try.prog 60 #[.pointer (some ⟨ga, oa, none⟩), .pointer (some ⟨gb, ob, none⟩)] w fun e w' => e = .returned (.int .i64 r) ∧ Below w.heap.size w w' := by
  have hu55 := Try.underlying55
  have hu53 := Try.underlying53
  have hS0 := Aside0.mk (And.intro hA hB)
  obtain ⟨s0, s1, s2, s3, s4⟩ := hA
  obtain ⟨t0, t1, t2, t3, t4⟩ := hB
  unfold spec_l15Compare.f at h
  by_cases c : a4 = b4
  · rw [if_pos c] at h
    have cb : (a4 == b4) = true := beq_iff_eq.mpr c
    have cb1 : (a4 != b4) = false := bne_eq_false_iff_eq.mpr c
    have h := Aside0.mk h
    clear c
    go_enter Try.func60, Try.ntmps60
    go_wp2_with (fail)
    go_quiet (fail)
    go_wp2_with (fail)
    have HBq : Aside0 (Below w.heap.size w (w.drewN nq).drew) := ⟨below_drew1 (pw_below_drewN (Below.refl _ _) _)⟩
    have hS1 : moveAt (w.drewN nq).drew ga oa a0 a1 a2 a3 a4 ∧ moveAt (w.drewN nq).drew gb ob b0 b1 b2 b3 b4 := hS0.out
    refine start_ (n := 10) (S := fun w' => moveAt w' ga oa a0 a1 a2 a3 a4 ∧ moveAt w' gb ob b0 b1 b2 b3 b4) (ds := []) #[false, false, false, false, false, false, false, false, false, false] (by kernel_rfl) rfl rfl hS1 (fun hHeld => ?_)
    refine pure_ (i := 0) (N := some 23) (v := ?_) (a' := ?_) #[true, false, false, false, false, false, false, false, false, false] rfl rfl (by kernel_rfl) (fun _ _ _ h => h) (Or.inl ⟨by rfl, ?_⟩) ?_ ?_
    rotate_left
    · intro w'
      go_simp
      with_reducible rfl
    rotate_left
    · simp only [Act.put, List.setIfInBounds_toArray, List.set_cons_zero, List.set_cons_succ, i64_w, i32_w]
      rfl
    refine pure_ (i := 1) (N := some 24) (v := ?_) (a' := ?_) #[true, true, false, false, false, false, false, false, false, false] rfl rfl (by kernel_rfl) (fun _ _ _ h => h) (Or.inl ⟨by rfl, ?_⟩) ?_ ?_
    rotate_left
    · intro w'
      go_simp
      with_reducible rfl
    rotate_left
    · simp only [Act.put, List.setIfInBounds_toArray, List.set_cons_zero, List.set_cons_succ, i64_w, i32_w]
      rfl
    refine pure_ (i := 2) (N := some 25) (v := ?_) (a' := ?_) #[true, true, true, false, false, false, false, false, false, false] rfl rfl (by kernel_rfl) (fun _ _ _ h => h) (Or.inl ⟨by rfl, ?_⟩) ?_ ?_
    rotate_left
    · intro w'
      go_simp
      with_reducible rfl
    rotate_left
    · simp only [Act.put, List.setIfInBounds_toArray, List.set_cons_zero, List.set_cons_succ, i64_w, i32_w]
      rfl
    refine pure_ (i := 4) (N := some 27) (v := ?_) (a' := ?_) #[true, true, true, false, true, false, false, false, false, false] rfl rfl (by kernel_rfl) (fun _ _ _ h => h) (Or.inl ⟨by rfl, ?_⟩) ?_ ?_
    rotate_left
    · intro w'
      go_simp
      with_reducible rfl
    rotate_left
    · simp only [Act.put, List.setIfInBounds_toArray, List.set_cons_zero, List.set_cons_succ, i64_w, i32_w]
      rfl
    refine pure_ (i := 5) (N := some 28) (v := ?_) (a' := ?_) #[true, true, true, false, true, true, false, false, false, false] rfl rfl (by kernel_rfl) (fun _ _ _ h => h) (Or.inl ⟨by rfl, ?_⟩) ?_ ?_
    rotate_left
    · intro w'
      go_simp
      with_reducible rfl
    rotate_left
    · simp only [Act.put, List.setIfInBounds_toArray, List.set_cons_zero, List.set_cons_succ, i64_w, i32_w]
      rfl
    refine pure_ (i := 6) (N := some 29) (v := ?_) (a' := ?_) #[true, true, true, false, true, true, true, false, false, false] rfl rfl (by kernel_rfl) (fun _ _ _ h => h) (Or.inl ⟨by rfl, ?_⟩) ?_ ?_
    rotate_left
    · intro w'
      go_simp
      with_reducible rfl
    rotate_left
    · simp only [Act.put, List.setIfInBounds_toArray, List.set_cons_zero, List.set_cons_succ, i64_w, i32_w]
      rfl
    refine take_ (i := 3) (N := some 26) (v := ?_) (a' := ?_) #[true, true, true, true, true, true, true, false, false, false] rfl rfl (by kernel_rfl) (fun _ _ _ h => h) (Or.inl ⟨by rfl, ?_⟩) hHeld ?_ ?_
    rotate_left
    · intro w' hS
      obtain ⟨⟨s0, s1, s2, s3, s4⟩, t0, t1, t2, t3, t4⟩ := hS; go_simp
      with_reducible rfl
    rotate_left
    · simp only [Act.put, List.setIfInBounds_toArray, List.set_cons_zero, List.set_cons_succ, i64_w, i32_w]
      rfl
    refine take_ (i := 7) (N := some 30) (v := ?_) (a' := ?_) #[true, true, true, true, true, true, true, true, false, false] rfl rfl (by kernel_rfl) (fun _ _ _ h => h) (Or.inl ⟨by rfl, ?_⟩) hHeld ?_ ?_
    rotate_left
    · intro w' hS
      obtain ⟨⟨s0, s1, s2, s3, s4⟩, t0, t1, t2, t3, t4⟩ := hS; go_simp
      with_reducible rfl
    rotate_left
    · simp only [Act.put, List.setIfInBounds_toArray, List.set_cons_zero, List.set_cons_succ, i64_w, i32_w]
      rfl
    refine one_ (i := 8) (N := some 31) #[true, true, true, true, true, true, true, true, true, false] rfl rfl (by kernel_rfl) (by decide) (fun K hK => ?_)
    refine goes_ Try.func77 (by kernel_rfl) rfl #[.agg #[.int .i64 a0, .int .i64 a1, .bool a2, .string a3], .agg #[.int .i64 b0, .int .i64 b1, .bool b2, .string b3]] (by rfl) rfl rfl (by (try simp only [List.map_toArray, List.map_cons, List.map_nil]); first | done | rfl) ?_
    with_reducible refine (spec_l12Compare.calls a0 a1 a2 a3 b0 b1 b2 b3 r _ h.out).mono ?_
    rintro e w1 ⟨rfl, hb⟩
    refine ⟨_, rfl, ?_⟩
    have hb' : Below w.heap.size w w1 := below_step HBq.out hb
    refine hK.out _ _ ⟨moveAt_below hHeld.1 hb, moveAt_below hHeld.2 hb⟩ (fun hHeld => ?_)
    clear hK K
    refine norm_ (a' := ?_) ?_ ?_
    rotate_left
    · show Act.put _ (some 31) _ = _
      simp only [Act.put, List.setIfInBounds_toArray, List.set_cons_zero, List.set_cons_succ, i64_w, i32_w]
      rfl
    refine pure_ (i := 9) (N := some 4) (v := ?_) (a' := ?_) #[true, true, true, true, true, true, true, true, true, true] rfl rfl (by kernel_rfl) (fun _ _ _ h => h) (Or.inl ⟨by rfl, ?_⟩) ?_ ?_
    rotate_left
    · intro w'
      go_simp
      with_reducible rfl
    rotate_left
    · simp only [Act.put, List.setIfInBounds_toArray, List.set_cons_zero, List.set_cons_succ, i64_w, i32_w]
      rfl
    refine done_ (by kernel_rfl) ?_
    go_wp2
    go_ret
    exact ⟨rfl, hb'⟩
  · rw [if_neg c] at h
    have cb : (a4 == b4) = false := beq_eq_false_iff_ne.mpr c
    have cb1 : (a4 != b4) = true := bne_iff_ne.mpr c
    have h := Aside0.mk h
    clear c
    go_enter Try.func60, Try.ntmps60
    go_wp2_with (fail)
    go_quiet (fail)
    go_wp2_with (fail)
    have HBq : Aside0 (Below w.heap.size w (w.drewN nq).drew) := ⟨below_drew1 (pw_below_drewN (Below.refl _ _) _)⟩
    have hS1 : moveAt (w.drewN nq).drew ga oa a0 a1 a2 a3 a4 ∧ moveAt (w.drewN nq).drew gb ob b0 b1 b2 b3 b4 := hS0.out
    refine start_ (n := 10) (S := fun w' => moveAt w' ga oa a0 a1 a2 a3 a4 ∧ moveAt w' gb ob b0 b1 b2 b3 b4) (ds := []) #[false, false, false, false, false, false, false, false, false, false] (by kernel_rfl) rfl rfl hS1 (fun hHeld => ?_)
    refine pure_ (i := 0) (N := some 14) (v := ?_) (a' := ?_) #[true, false, false, false, false, false, false, false, false, false] rfl rfl (by kernel_rfl) (fun _ _ _ h => h) (Or.inl ⟨by rfl, ?_⟩) ?_ ?_
    rotate_left
    · intro w'
      go_simp
      with_reducible rfl
    rotate_left
    · simp only [Act.put, List.setIfInBounds_toArray, List.set_cons_zero, List.set_cons_succ, i64_w, i32_w]
      rfl
    refine pure_ (i := 1) (N := some 15) (v := ?_) (a' := ?_) #[true, true, false, false, false, false, false, false, false, false] rfl rfl (by kernel_rfl) (fun _ _ _ h => h) (Or.inl ⟨by rfl, ?_⟩) ?_ ?_
    rotate_left
    · intro w'
      go_simp
      with_reducible rfl
    rotate_left
    · simp only [Act.put, List.setIfInBounds_toArray, List.set_cons_zero, List.set_cons_succ, i64_w, i32_w]
      rfl
    refine pure_ (i := 2) (N := some 16) (v := ?_) (a' := ?_) #[true, true, true, false, false, false, false, false, false, false] rfl rfl (by kernel_rfl) (fun _ _ _ h => h) (Or.inl ⟨by rfl, ?_⟩) ?_ ?_
    rotate_left
    · intro w'
      go_simp
      with_reducible rfl
    rotate_left
    · simp only [Act.put, List.setIfInBounds_toArray, List.set_cons_zero, List.set_cons_succ, i64_w, i32_w]
      rfl
    refine pure_ (i := 4) (N := some 18) (v := ?_) (a' := ?_) #[true, true, true, false, true, false, false, false, false, false] rfl rfl (by kernel_rfl) (fun _ _ _ h => h) (Or.inl ⟨by rfl, ?_⟩) ?_ ?_
    rotate_left
    · intro w'
      go_simp
      with_reducible rfl
    rotate_left
    · simp only [Act.put, List.setIfInBounds_toArray, List.set_cons_zero, List.set_cons_succ, i64_w, i32_w]
      rfl
    refine pure_ (i := 5) (N := some 19) (v := ?_) (a' := ?_) #[true, true, true, false, true, true, false, false, false, false] rfl rfl (by kernel_rfl) (fun _ _ _ h => h) (Or.inl ⟨by rfl, ?_⟩) ?_ ?_
    rotate_left
    · intro w'
      go_simp
      with_reducible rfl
    rotate_left
    · simp only [Act.put, List.setIfInBounds_toArray, List.set_cons_zero, List.set_cons_succ, i64_w, i32_w]
      rfl
    refine pure_ (i := 6) (N := some 20) (v := ?_) (a' := ?_) #[true, true, true, false, true, true, true, false, false, false] rfl rfl (by kernel_rfl) (fun _ _ _ h => h) (Or.inl ⟨by rfl, ?_⟩) ?_ ?_
    rotate_left
    · intro w'
      go_simp
      with_reducible rfl
    rotate_left
    · simp only [Act.put, List.setIfInBounds_toArray, List.set_cons_zero, List.set_cons_succ, i64_w, i32_w]
      rfl
    refine take_ (i := 3) (N := some 17) (v := ?_) (a' := ?_) #[true, true, true, true, true, true, true, false, false, false] rfl rfl (by kernel_rfl) (fun _ _ _ h => h) (Or.inl ⟨by rfl, ?_⟩) hHeld ?_ ?_
    rotate_left
    · intro w' hS
      obtain ⟨⟨s0, s1, s2, s3, s4⟩, t0, t1, t2, t3, t4⟩ := hS; go_simp
      with_reducible rfl
    rotate_left
    · simp only [Act.put, List.setIfInBounds_toArray, List.set_cons_zero, List.set_cons_succ, i64_w, i32_w]
      rfl
    refine take_ (i := 7) (N := some 21) (v := ?_) (a' := ?_) #[true, true, true, true, true, true, true, true, false, false] rfl rfl (by kernel_rfl) (fun _ _ _ h => h) (Or.inl ⟨by rfl, ?_⟩) hHeld ?_ ?_
    rotate_left
    · intro w' hS
      obtain ⟨⟨s0, s1, s2, s3, s4⟩, t0, t1, t2, t3, t4⟩ := hS; go_simp
      with_reducible rfl
    rotate_left
    · simp only [Act.put, List.setIfInBounds_toArray, List.set_cons_zero, List.set_cons_succ, i64_w, i32_w]
      rfl
    refine one_ (i := 8) (N := some 22) #[true, true, true, true, true, true, true, true, true, false] rfl rfl (by kernel_rfl) (by decide) (fun K hK => ?_)
    refine goes_ Try.func76 (by kernel_rfl) rfl #[.int .i64 b4, .int .i64 a4] (by rfl) rfl rfl (by (try simp only [List.map_toArray, List.map_cons, List.map_nil]); first | done | rfl) ?_
    with_reducible refine (spec_l12Sign.calls b4 a4 r _ h.out).mono ?_
    rintro e w1 ⟨rfl, hb⟩
    refine ⟨_, rfl, ?_⟩
    have hb' : Below w.heap.size w w1 := below_step HBq.out hb.below
    refine hK.out _ _ ⟨moveAt_below hHeld.1 hb.below, moveAt_below hHeld.2 hb.below⟩ (fun hHeld => ?_)
    clear hK K
    refine norm_ (a' := ?_) ?_ ?_
    rotate_left
    · show Act.put _ (some 22) _ = _
      simp only [Act.put, List.setIfInBounds_toArray, List.set_cons_zero, List.set_cons_succ, i64_w, i32_w]
      rfl
    refine pure_ (i := 9) (N := some 4) (v := ?_) (a' := ?_) #[true, true, true, true, true, true, true, true, true, true] rfl rfl (by kernel_rfl) (fun _ _ _ h => h) (Or.inl ⟨by rfl, ?_⟩) ?_ ?_
    rotate_left
    · intro w'
      go_simp
      with_reducible rfl
    rotate_left
    · simp only [Act.put, List.setIfInBounds_toArray, List.set_cons_zero, List.set_cons_succ, i64_w, i32_w]
      rfl
    refine done_ (by kernel_rfl) ?_
    go_wp2
    go_ret
    exact ⟨rfl, hb'⟩
def spec_CompareMoves.f (a0 : Int) (a1 : Int) (a2 : Bool) (a3 : ByteArray) (a4 : Int) (b0 : Int) (b1 : Int) (b2 : Bool) (b3 : ByteArray) (b4 : Int) : Option Int := spec_l15Compare.f a0 a1 a2 a3 a4 b0 b1 b2 b3 b4
set_option maxHeartbeats 4000000 in
set_option maxRecDepth 100000 in
theorem spec_CompareMoves.calls (a0 : Int) (a1 : Int) (a2 : Bool) (a3 : ByteArray) (a4 : Int) (b0 : Int) (b1 : Int) (b2 : Bool) (b3 : ByteArray) (b4 : Int) (r : Int) (w : World) (h : spec_CompareMoves.f a0 a1 a2 a3 a4 b0 b1 b2 b3 b4 = some r) :
    Calls Try.prog 37 #[.agg #[.int .i64 a0, .int .i64 a1, .bool a2, .string a3, .int .i64 a4], .agg #[.int .i64 b0, .int .i64 b1, .bool b2, .string b3, .int .i64 b4]] w fun e w' => e = .returned (.int .i64 r) ∧ Below w.heap.size w w' := by
  have hu55 := Try.underlying55
  have h := Aside0.mk h
  go_enter Try.func37, Try.ntmps37
  go_wp2_with (fail)
  have hA : ((w.alloc (.cells #[.int .i64 a0, .int .i64 a1, .bool a2, .string a3, .int .i64 a4] 55 (0, 0))).alloc (.cells #[.int .i64 b0, .int .i64 b1, .bool b2, .string b3, .int .i64 b4] 55 (0, 0))).heap[w.heap.size]? = some (.cells #[.int .i64 a0, .int .i64 a1, .bool a2, .string a3, .int .i64 a4] 55 (0, 0)) := blk_alloc (blk_new w _) _
  have eB : (w.alloc (.cells #[.int .i64 a0, .int .i64 a1, .bool a2, .string a3, .int .i64 a4] 55 (0, 0))).heap.size = w.heap.size + 1 := alloc_size _ _
  have hB : ((w.alloc (.cells #[.int .i64 a0, .int .i64 a1, .bool a2, .string a3, .int .i64 a4] 55 (0, 0))).alloc (.cells #[.int .i64 b0, .int .i64 b1, .bool b2, .string b3, .int .i64 b4] 55 (0, 0))).heap[w.heap.size + 1]? = some (.cells #[.int .i64 b0, .int .i64 b1, .bool b2, .string b3, .int .i64 b4] 55 (0, 0)) := by rw [← eB]; exact blk_new _ _
  have hb3 : Below w.heap.size w ((w.alloc (.cells #[.int .i64 a0, .int .i64 a1, .bool a2, .string a3, .int .i64 a4] 55 (0, 0))).alloc (.cells #[.int .i64 b0, .int .i64 b1, .bool b2, .string b3, .int .i64 b4] 55 (0, 0))) := below_alloc (below_alloc (Below.refl _ _) _) _
  refine (spec_l15Compare.calls w.heap.size 0 (w.heap.size + 1) 0 a0 a1 a2 a3 a4 b0 b1 b2 b3 b4 r _ ⟨(blk_cell hA 0).trans rfl, (blk_cell hA 1).trans rfl, (blk_cell hA 2).trans rfl, (blk_cell hA 3).trans rfl, (blk_cell hA 4).trans rfl⟩ ⟨(blk_cell hB 0).trans rfl, (blk_cell hB 1).trans rfl, (blk_cell hB 2).trans rfl, (blk_cell hB 3).trans rfl, (blk_cell hB 4).trans rfl⟩ h.out).mono ?_
  rintro e w3 ⟨rfl, hb4⟩
  go_wp2
  go_ret
  exact ⟨rfl, below_step hb3 hb4⟩
end Go.Proofs.Ytfdefibljhjkkaa.G

/- Walks of the functions that a law reaches, printed by a program of this session. -/
import Derived.Test.YtfdefibljhjkkaaOFnExactDrawTilesx0
import Derived.Test.YtfdefibljhjkkaaOFnExactDrawTilesx1
namespace Go.Proofs.Ytfdefibljhjkkaa.OFnExactDrawTiles
open Go.RowKit Go.Proofs.YtfdefibljhjkkaaW.PrintWords Go.Proofs.YtfdefibljhjkkaaW.PrintLast Go.Proofs.YtfdefibljhjkkaaW.PrintMore
attribute [local go_sem] max2_int min2_int max_two min_two max_three min_three max_four min_four   -- for this text's walks alone
open Go.Proofs.Ytfdefibljhjkkaa.Open
open Go.Proofs.Ytfdefibljhjkkaa.G
set_option linter.unusedVariables false
set_option linter.unusedSimpArgs false

/-! ### laws_FnExactDrawTiles: function 10 -/
def laws_FnExactDrawTiles.f (k : Nat) (a0 : ByteArray) (a1 : Int) : Option (Bool) := if (a0.size : Int) > 1048576 then (some true) else ((spec_DrawTiles.f k a0 a1).bind fun bt112 => ((impl_DrawTiles.f k a0 a1).bind fun bt115 => (if bt115.1.toList = bt112.1.toList then (if bt115.2.1.toList = bt112.2.1.toList then (if bt115.2.2 = bt112.2.2 then (some true) else (none)) else (none)) else (none))))
theorem laws_FnExactDrawTiles.mono : ∀ a0 a1 k, LeO (laws_FnExactDrawTiles.f k a0 a1) (laws_FnExactDrawTiles.f (k + 1) a0 a1) := by
  intro a0 a1 k
  unfold laws_FnExactDrawTiles.f
  repeat' first
      | (with_reducible exact impl_DrawTiles.mono _ _ _)
      | (with_reducible exact spec_DrawTiles.mono _ _ _)
      | (with_reducible exact LeO.refl _)
      | (with_reducible exact LeO.none _)
      | (with_reducible refine LeO.ite ?_ ?_)
      | (with_reducible refine LeO.bind ?_ (fun _ => ?_))
      | exact impl_DrawTiles.mono _ _ _
      | exact spec_DrawTiles.mono _ _ _
      | exact LeO.none _
      | refine LeO.ite ?_ ?_
      | refine LeO.bind ?_ (fun _ => ?_)
set_option maxHeartbeats 8000000 in
set_option maxRecDepth 100000 in
theorem laws_FnExactDrawTiles.calls (k : Nat) (a0 : ByteArray) (a1 : Int) (r : Bool) (w : World) (h : laws_FnExactDrawTiles.f k a0 a1 = some r) :
    Calls Try.prog 10 #[.string a0, .int .i64 a1] w fun e w' => e = .returned (.bool r) ∧ Below w.heap.size w w' := by
  have HB := Aside0.mk (Below.refl w.heap.size w)
  have H : (if (a0.size : Int) > 1048576 then (some true) else ((spec_DrawTiles.f k a0 a1).bind fun bt112 => ((impl_DrawTiles.f k a0 a1).bind fun bt115 => (if bt115.1.toList = bt112.1.toList then (if bt115.2.1.toList = bt112.2.1.toList then (if bt115.2.2 = bt112.2.2 then (some true) else (none)) else (none)) else (none))))) = some r := h
  clear h
  by_cases c3 : (a0.size : Int) > 1048576
  · rw [if_pos c3] at H
    have c3b0 : decide (1048576 < (a0.size : Int)) = true := decide_eq_true c3
    have c3b1 : decide (1048576 < a0.size) = true := decide_eq_true (by omega)
    clear c3
    obtain rfl := Option.some.inj H
    go_enter Try.func10, Try.ntmps10
    go_wp2
    go_ret
    exact ⟨by first | rfl | (simp [errW_none, errW_some] <;> rfl) | (simp [*, errW_none, errW_some] <;> rfl), by repeat (first | (with_reducible first | exact HB.out | apply below_alloc | apply pw_below_drewN | apply below_drew1) | exact HB.out)⟩
  · rw [if_neg c3] at H
    have c3b0 : decide (1048576 < (a0.size : Int)) = false := decide_eq_false c3
    have c3b1 : decide (1048576 < a0.size) = false := decide_eq_false (by omega)
    clear c3
    replace H := Option.bind_eq_some_iff.mp H
    obtain ⟨⟨t112, t113, t114⟩, A40, H⟩ := H
    replace H : ((impl_DrawTiles.f k a0 a1).bind fun bt115 => (if bt115.1.toList = t112.toList then (if bt115.2.1.toList = t113.toList then (if bt115.2.2 = t114 then (some true) else (none)) else (none)) else (none))) = some r := H
    have A4 := Aside0.mk A40
    clear A40
    replace H := Option.bind_eq_some_iff.mp H
    obtain ⟨⟨t115, t116, t117⟩, A50, H⟩ := H
    replace H : (if t115.toList = t112.toList then (if t116.toList = t113.toList then (if t117 = t114 then (some true) else (none)) else (none)) else (none)) = some r := H
    have A5 := Aside0.mk A50
    clear A50
    by_cases c6 : t115.toList = t112.toList
    · rw [if_pos c6] at H
      have c6b0 : (t115.toList == t112.toList) = true := beq_iff_eq.mpr c6
      have c6b1 : (t115.toList != t112.toList) = false := bne_eq_false_iff_eq.mpr c6
      clear c6
      by_cases c7 : t116.toList = t113.toList
      · rw [if_pos c7] at H
        have c7b0 : (t116.toList == t113.toList) = true := beq_iff_eq.mpr c7
        have c7b1 : (t116.toList != t113.toList) = false := bne_eq_false_iff_eq.mpr c7
        clear c7
        by_cases c8 : t117 = t114
        · rw [if_pos c8] at H
          have c8b0 : (t117 == t114) = true := beq_iff_eq.mpr c8
          have c8b1 : (t117 != t114) = false := bne_eq_false_iff_eq.mpr c8
          clear c8
          obtain rfl := Option.some.inj H
          go_enter Try.func10, Try.ntmps10
          go_wp2_with (first | ((with_reducible refine gate_callee (f := 34) rfl ?_); refine goesL_ (some 17) rfl rfl Try.func34 (by kernel_rfl) rfl #[.string a0, .int .i64 a1] rfl (by (try simp only [List.map_toArray, List.map_cons, List.map_nil]); first | done | rfl | (simp only [List.length_drop, List.length_take]; rfl)) ?_; (with_reducible refine (spec_DrawTiles.calls k a0 a1 t112 t113 t114 _ A4.out).mono ?_); rintro e w9 ⟨rfl, hb⟩; refine ⟨_, rfl, ?_⟩; have n0_ := Aside0.mk (below_step (by repeat (first | (with_reducible first | exact HB.out | apply below_alloc | apply pw_below_drewN | apply below_drew1) | exact HB.out)) hb); clear HB; have HB := n0_; clear n0_; (try clear hb); (try clear hb2); (try clear hk); (try clear hi)) | ((with_reducible refine gate_callee (f := 35) rfl ?_); refine goesL_ (some 24) rfl rfl Try.func35 (by kernel_rfl) rfl #[.string a0, .int .i64 a1] rfl (by (try simp only [List.map_toArray, List.map_cons, List.map_nil]); first | done | rfl | (simp only [List.length_drop, List.length_take]; rfl)) ?_; (with_reducible refine (impl_DrawTiles.calls k a0 a1 t115 t116 t117 _ A5.out).mono ?_); rintro e w10 ⟨rfl, hb⟩; refine ⟨_, rfl, ?_⟩; have n0_ := Aside0.mk (below_step (by repeat (first | (with_reducible first | exact HB.out | apply below_alloc | apply pw_below_drewN | apply below_drew1) | exact HB.out)) hb); clear HB; have HB := n0_; clear n0_; (try clear hb); (try clear hb2); (try clear hk); (try clear hi)))
          go_ret
          exact ⟨by first | rfl | (simp [errW_none, errW_some] <;> rfl) | (simp [*, errW_none, errW_some] <;> rfl), by repeat (first | (with_reducible first | exact HB.out | apply below_alloc | apply pw_below_drewN | apply below_drew1) | exact HB.out)⟩
        · rw [if_neg c8] at H
          exact absurd H (by simp)
      · rw [if_neg c7] at H
        exact absurd H (by simp)
    · rw [if_neg c6] at H
      exact absurd H (by simp)

/-- THE ONE PURE STATEMENT of laws_FnExactDrawTiles: yours. -/
def laws_FnExactDrawTiles.Pure : Prop := ∀ (a0 : ByteArray) (a1 : Int), a0.size ≤ 140737488351232 → (Lit.int .i64 a1).wf = true → ∃ k, laws_FnExactDrawTiles.f k a0 a1 = some true
theorem laws_FnExactDrawTiles.walk (P : laws_FnExactDrawTiles.Pure) (a0 : ByteArray) (a1 : Int) (w : World) (w0 : a0.size ≤ 140737488351232) (w1 : (Lit.int .i64 a1).wf = true) :
    Calls Try.prog 10 #[.string a0, .int .i64 a1] w fun e w' => e = .returned (.bool true) ∧ Below w.heap.size w w' := by
  obtain ⟨k, h⟩ := P a0 a1 w0 w1
  refine (laws_FnExactDrawTiles.calls k a0 a1 true w h).mono ?_
  rintro e w' ⟨rfl, hd⟩
  exact ⟨rfl, hd⟩

end Go.Proofs.Ytfdefibljhjkkaa.OFnExactDrawTiles

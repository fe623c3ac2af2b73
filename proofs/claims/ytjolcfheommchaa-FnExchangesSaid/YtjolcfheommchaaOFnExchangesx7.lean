/- Walks of the functions that a law reaches, printed by a program of this session. -/
import Derived.Test.YtjolcfheommchaaOFnExchangesx0
import Derived.Test.YtjolcfheommchaaOFnExchangesx1
import Derived.Test.YtjolcfheommchaaOFnExchangesx2
import Derived.Test.YtjolcfheommchaaOFnExchangesx5
import Derived.Test.YtjolcfheommchaaOFnExchangesx6
namespace Go.Proofs.Ytjolcfheommchaa.OFnExchanges
open Go.RowKit Go.Proofs.YtjolcfheommchaaW.PrintWords Go.Proofs.YtjolcfheommchaaW.PrintLast Go.Proofs.YtjolcfheommchaaW.PrintMore
attribute [local go_sem] max2_int min2_int max_two min_two max_three min_three max_four min_four   -- for this text's walks alone
open Go.Proofs.Ytjolcfheommchaa.Open
open Go.Proofs.Ytjolcfheommchaa.G
set_option linter.unusedVariables false
set_option linter.unusedSimpArgs false

/-! ### spec_ReturnTiles: function 47 -/
def spec_ReturnTiles.j0 : Nat → ByteArray → ByteArray → Bool → Option (ByteArray × Int)
  | 0, _, _, _ => none
  | k + 1, x0, x1, x13 => if x13 = true then (some ((⟨#[]⟩ : ByteArray), 1)) else (if (wrap64 ((x0.size : Int) + (x1.size : Int))) > 120 then (some ((⟨#[]⟩ : ByteArray), 5)) else (if x1.size + x0.size ≤ 9223372036854775807 then (some (x1 ++ x0, 0)) else (none)))
def spec_ReturnTiles.f (k : Nat) (a0 : ByteArray) (a1 : ByteArray) : Option (ByteArray × Int) := (spec_l17Ok.f k a0).bind fun t309 => (if t309 = true then ((spec_l17Ok.f k a1).bind fun t310 => (spec_ReturnTiles.j0 k a0 a1 (!t310))) else (spec_ReturnTiles.j0 k a0 a1 true))
theorem spec_ReturnTiles.mono_l : ∀ k, (∀ y0 y1 y2, LeO (spec_ReturnTiles.j0 k y0 y1 y2) (spec_ReturnTiles.j0 (k + 1) y0 y1 y2))
  | 0 => fun _ _ _ r h => by simp [spec_ReturnTiles.j0] at h
  | k + 1 => by
    have ih0 := spec_ReturnTiles.mono_l k
    · intro y0 y1 y2
      unfold spec_ReturnTiles.j0
      repeat' first
      | (with_reducible exact ih0 _ _ _)
      | (with_reducible exact spec_l17Ok.mono _ _)
      | (with_reducible exact LeO.refl _)
      | (with_reducible exact LeO.none _)
      | (with_reducible refine LeO.ite ?_ ?_)
      | (with_reducible refine LeO.bind ?_ (fun _ => ?_))
      | exact ih0 _ _ _
      | exact spec_l17Ok.mono _ _
      | exact LeO.none _
      | refine LeO.ite ?_ ?_
      | refine LeO.bind ?_ (fun _ => ?_)
theorem spec_ReturnTiles.mono : ∀ a0 a1 k, LeO (spec_ReturnTiles.f k a0 a1) (spec_ReturnTiles.f (k + 1) a0 a1) := by
  intro a0 a1 k
  have ih0 := spec_ReturnTiles.mono_l k
  unfold spec_ReturnTiles.f
  repeat' first
      | (with_reducible exact ih0 _ _ _)
      | (with_reducible exact spec_l17Ok.mono _ _)
      | (with_reducible exact LeO.refl _)
      | (with_reducible exact LeO.none _)
      | (with_reducible refine LeO.ite ?_ ?_)
      | (with_reducible refine LeO.bind ?_ (fun _ => ?_))
      | exact ih0 _ _ _
      | exact spec_l17Ok.mono _ _
      | exact LeO.none _
      | refine LeO.ite ?_ ?_
      | refine LeO.bind ?_ (fun _ => ?_)
set_option maxHeartbeats 8000000 in
set_option maxRecDepth 100000 in
theorem spec_ReturnTiles.calls (k : Nat) (a0 : ByteArray) (a1 : ByteArray) (r1 : ByteArray) (r2 : Int) (w : World) (h : spec_ReturnTiles.f k a0 a1 = some (r1, r2)) :
    Calls Try.prog 47 #[.string a0, .string a1] w fun e w' => e = .returned (.tuple #[.string r1, .int .i64 r2]) ∧ Drawn0 w w' := by
  have H : ((spec_l17Ok.f k a0).bind fun t309 => (if t309 = true then ((spec_l17Ok.f k a1).bind fun t310 => (spec_ReturnTiles.j0 k a0 a1 (!t310))) else (spec_ReturnTiles.j0 k a0 a1 true))) = some (r1, r2) := h
  clear h
  have HC3 := Aside0.mk H
  clear H
  go_enter Try.func47, Try.ntmps47
  go_upto_region 1 with (fail)
  go_cut [13] (fun v13 wc => ∃ (kq : Nat) (x13_2 : Bool), v13 = .bool x13_2 ∧ Aside0 (spec_ReturnTiles.j0 kq a0 a1 x13_2 = some (r1, r2)) ∧ Aside0 (kq ≤ k) ∧ Drawn0 w wc)
  case first =>
    have H := HC3.out
    clear HC3
    replace H := Option.bind_eq_some_iff.mp H
    obtain ⟨t309, A40, H⟩ := H
    replace H : (if t309 = true then ((spec_l17Ok.f k a1).bind fun t310 => (spec_ReturnTiles.j0 k a0 a1 (!t310))) else (spec_ReturnTiles.j0 k a0 a1 true)) = some (r1, r2) := H
    have A4 := Aside0.mk A40
    clear A40
    by_cases c5 : t309 = true
    · subst c5
      have H1 : ((spec_l17Ok.f k a1).bind fun t310 => (spec_ReturnTiles.j0 k a0 a1 (!t310))) = some (r1, r2) := by rw [if_pos rfl] at H; exact H
      clear H
      have H := H1
      clear H1
      replace H := Option.bind_eq_some_iff.mp H
      obtain ⟨t310, A60, H⟩ := H
      replace H : (spec_ReturnTiles.j0 k a0 a1 (!t310)) = some (r1, r2) := H
      have A6 := Aside0.mk A60
      clear A60
      have H' := Aside0.mk H
      clear H
      go_wp2_with (first | ((with_reducible refine gate_callee (f := 74) rfl ?_); refine goesL_ (some 7) rfl rfl Try.func74 (by kernel_rfl) rfl #[.string a0] rfl (by (try simp only [List.map_toArray, List.map_cons, List.map_nil]); first | done | rfl | (simp only [List.length_drop, List.length_take]; rfl)) ?_; (with_reducible refine (spec_l17Ok.calls k a0 true _ A4.out).mono ?_); rintro e w' ⟨rfl, ⟨nd, rfl⟩⟩; refine ⟨_, rfl, ?_⟩) | (go_at_call 74; (with_reducible refine (spec_l17Ok.calls k a1 t310 _ A6.out).mono ?_); rintro e w' ⟨rfl, ⟨nd, rfl⟩⟩))
      go_meet
      case rel => exact ⟨_, (!t310), (by first | rfl | (simp; done) | (simp [*]; done) | (simp [i64_w, i32_w]; done)), H', ⟨by first | omega | exact Nat.le_refl _⟩, by repeat (first | exact Drawn0.refl _ | apply Drawn0.step)⟩
    · replace c5 := Bool.eq_false_iff.mpr c5
      subst c5
      have H1 : (spec_ReturnTiles.j0 k a0 a1 true) = some (r1, r2) := by rw [if_neg (show ¬ (false = true) by decide)] at H; exact H
      clear H
      have H := H1
      clear H1
      have H' := Aside0.mk H
      clear H
      go_wp2_with (first | ((with_reducible refine gate_callee (f := 74) rfl ?_); refine goesL_ (some 7) rfl rfl Try.func74 (by kernel_rfl) rfl #[.string a0] rfl (by (try simp only [List.map_toArray, List.map_cons, List.map_nil]); first | done | rfl | (simp only [List.length_drop, List.length_take]; rfl)) ?_; (with_reducible refine (spec_l17Ok.calls k a0 false _ A4.out).mono ?_); rintro e w' ⟨rfl, ⟨nd, rfl⟩⟩; refine ⟨_, rfl, ?_⟩))
      go_meet
      case rel => exact ⟨_, (true), (by first | rfl | (simp; done) | (simp [*]; done) | (simp [i64_w, i32_w]; done)), H', ⟨by first | omega | exact Nat.le_refl _⟩, by repeat (first | exact Drawn0.refl _ | apply Drawn0.step)⟩
  case rest =>
    clear HC3
    try clear p2
    try clear c4
    try clear c5
    obtain ⟨kq, x13_2, rfl, HA, HJ2, ⟨mc2, rfl⟩⟩ := hcut
    cases kq with
    | zero => exact absurd HA.out (by simp [spec_ReturnTiles.j0])
    | succ kj2 =>
      have H := HA.out
      clear HA
      simp only [spec_ReturnTiles.j0] at H
      by_cases c7 : x13_2 = true
      · subst c7
        have H1 : (some ((⟨#[]⟩ : ByteArray), 1)) = some (r1, r2) := by rw [if_pos rfl] at H; exact H
        clear H
        have H := H1
        clear H1
        simp only [Option.some.injEq, Prod.mk.injEq] at H
        obtain ⟨rfl, rfl⟩ := H
        go_wp2
        go_ret2
        exact ⟨by first | rfl | (simp; done) | (simp [*]; done), by repeat (first | exact Drawn0.refl _ | apply Drawn0.step)⟩
      · replace c7 := Bool.eq_false_iff.mpr c7
        subst c7
        have H1 : (if (wrap64 ((a0.size : Int) + (a1.size : Int))) > 120 then (some ((⟨#[]⟩ : ByteArray), 5)) else (if a1.size + a0.size ≤ 9223372036854775807 then (some (a1 ++ a0, 0)) else (none))) = some (r1, r2) := by rw [if_neg (show ¬ (false = true) by decide)] at H; exact H
        clear H
        have H := H1
        clear H1
        by_cases c8 : (wrap64 ((a0.size : Int) + (a1.size : Int))) > 120
        · rw [if_pos c8] at H
          have c8b0 : decide (120 < (wrap64 ((a0.size : Int) + (a1.size : Int)))) = true := decide_eq_true c8
          clear c8
          simp only [Option.some.injEq, Prod.mk.injEq] at H
          obtain ⟨rfl, rfl⟩ := H
          go_wp2
          go_ret2
          exact ⟨by first | rfl | (simp; done) | (simp [*]; done), by repeat (first | exact Drawn0.refl _ | apply Drawn0.step)⟩
        · rw [if_neg c8] at H
          have c8b0 : decide (120 < (wrap64 ((a0.size : Int) + (a1.size : Int)))) = false := decide_eq_false c8
          clear c8
          by_cases c9 : a1.size + a0.size ≤ 9223372036854775807
          · rw [if_pos c9] at H
            have c9b0 := eq_true c9
            have c9b1 : decide (a1.size + a0.size ≤ 9223372036854775807) = true := decide_eq_true c9
            try have c9b2 : (9223372036854775807 < a1.size + a0.size) = False := eq_false (Nat.not_lt.2 c9)
            try have c8b9 : decide (120 < (a0.size : Int) + (a1.size : Int)) = false := (by rw [← c8b0]; congr 1; unfold wrap64; rw [eq_iff_iff]; omega)
            simp only [Option.some.injEq, Prod.mk.injEq] at H
            obtain ⟨rfl, rfl⟩ := H
            go_wp2
            go_ret2
            exact ⟨by first | rfl | (simp; done) | (simp [*]; done), by repeat (first | exact Drawn0.refl _ | apply Drawn0.step)⟩
          · rw [if_neg c9] at H
            exact absurd H (by simp)

/-! ### impl_SortTiles: function 48 -/
def impl_SortTiles.f (k : Nat) (a0 : ByteArray) : Option (ByteArray × Int) := (impl_onlyTiles.f k a0).bind fun t311 => (if t311 = true then (if (a0.size : Int) > 120 then (some ((⟨#[]⟩ : ByteArray), 5)) else ((impl_sorted.f a0).bind fun t312 => (some (t312, 0)))) else (some ((⟨#[]⟩ : ByteArray), 7)))
theorem impl_SortTiles.mono : ∀ a0 k, LeO (impl_SortTiles.f k a0) (impl_SortTiles.f (k + 1) a0) := by
  intro a0 k
  unfold impl_SortTiles.f
  repeat' first
      | (with_reducible exact impl_onlyTiles.mono _ _)
      | (with_reducible exact LeO.refl _)
      | (with_reducible exact LeO.none _)
      | (with_reducible refine LeO.ite ?_ ?_)
      | (with_reducible refine LeO.bind ?_ (fun _ => ?_))
      | exact impl_onlyTiles.mono _ _
      | exact LeO.none _
      | refine LeO.ite ?_ ?_
      | refine LeO.bind ?_ (fun _ => ?_)
set_option maxHeartbeats 8000000 in
set_option maxRecDepth 100000 in
theorem impl_SortTiles.calls (k : Nat) (a0 : ByteArray) (r1 : ByteArray) (r2 : Int) (w : World) (h : impl_SortTiles.f k a0 = some (r1, r2)) :
    Calls Try.prog 48 #[.string a0] w fun e w' => e = .returned (.tuple #[.string r1, .int .i64 r2]) ∧ Below w.heap.size w w' := by
  have HB := Aside0.mk (Below.refl w.heap.size w)
  have H : ((impl_onlyTiles.f k a0).bind fun t311 => (if t311 = true then (if (a0.size : Int) > 120 then (some ((⟨#[]⟩ : ByteArray), 5)) else ((impl_sorted.f a0).bind fun t312 => (some (t312, 0)))) else (some ((⟨#[]⟩ : ByteArray), 7)))) = some (r1, r2) := h
  clear h
  replace H := Option.bind_eq_some_iff.mp H
  obtain ⟨t311, A20, H⟩ := H
  replace H : (if t311 = true then (if (a0.size : Int) > 120 then (some ((⟨#[]⟩ : ByteArray), 5)) else ((impl_sorted.f a0).bind fun t312 => (some (t312, 0)))) else (some ((⟨#[]⟩ : ByteArray), 7))) = some (r1, r2) := H
  have A2 := Aside0.mk A20
  clear A20
  by_cases c3 : t311 = true
  · subst c3
    have H1 : (if (a0.size : Int) > 120 then (some ((⟨#[]⟩ : ByteArray), 5)) else ((impl_sorted.f a0).bind fun t312 => (some (t312, 0)))) = some (r1, r2) := by rw [if_pos rfl] at H; exact H
    clear H
    have H := H1
    clear H1
    by_cases c4 : (a0.size : Int) > 120
    · rw [if_pos c4] at H
      have c4b0 : decide (120 < (a0.size : Int)) = true := decide_eq_true c4
      have c4b1 : decide (120 < a0.size) = true := decide_eq_true (by omega)
      clear c4
      simp only [Option.some.injEq, Prod.mk.injEq] at H
      obtain ⟨rfl, rfl⟩ := H
      go_enter Try.func48, Try.ntmps48
      go_wp2_with (first | ((with_reducible refine gate_callee (f := 111) rfl ?_); refine goesL_ (some 5) rfl rfl Try.func111 (by kernel_rfl) rfl #[.string a0] rfl (by (try simp only [List.map_toArray, List.map_cons, List.map_nil]); first | done | rfl | (simp only [List.length_drop, List.length_take]; rfl)) ?_; (with_reducible refine (impl_onlyTiles.calls k a0 true _ A2.out).mono ?_); rintro e w' ⟨rfl, ⟨nd, rfl⟩⟩; refine ⟨_, rfl, ?_⟩))
      go_ret2
      exact ⟨by first | rfl | (simp [errW_none, errW_some] <;> rfl) | (simp [*, errW_none, errW_some] <;> rfl), by repeat (first | (with_reducible first | exact HB.out | apply below_alloc | apply pw_below_drewN | apply below_drew1) | exact HB.out)⟩
    · rw [if_neg c4] at H
      have c4b0 : decide (120 < (a0.size : Int)) = false := decide_eq_false c4
      have c4b1 : decide (120 < a0.size) = false := decide_eq_false (by omega)
      clear c4
      replace H := Option.bind_eq_some_iff.mp H
      obtain ⟨t312, A50, H⟩ := H
      replace H : (some (t312, 0)) = some (r1, r2) := H
      have A5 := Aside0.mk A50
      clear A50
      simp only [Option.some.injEq, Prod.mk.injEq] at H
      obtain ⟨rfl, rfl⟩ := H
      go_enter Try.func48, Try.ntmps48
      go_wp2_with (first | ((with_reducible refine gate_callee (f := 111) rfl ?_); refine goesL_ (some 5) rfl rfl Try.func111 (by kernel_rfl) rfl #[.string a0] rfl (by (try simp only [List.map_toArray, List.map_cons, List.map_nil]); first | done | rfl | (simp only [List.length_drop, List.length_take]; rfl)) ?_; (with_reducible refine (impl_onlyTiles.calls k a0 true _ A2.out).mono ?_); rintro e w' ⟨rfl, ⟨nd, rfl⟩⟩; refine ⟨_, rfl, ?_⟩) | ((with_reducible refine gate_callee (f := 81) rfl ?_); refine goesL_ (some 11) rfl rfl Try.func81 (by kernel_rfl) rfl #[.string a0] rfl (by (try simp only [List.map_toArray, List.map_cons, List.map_nil]); first | done | rfl | (simp only [List.length_drop, List.length_take]; rfl)) ?_; (with_reducible refine (impl_sorted.calls a0 t312 _ A5.out).mono ?_); rintro e w6 ⟨rfl, hb⟩; refine ⟨_, rfl, ?_⟩; have n0_ := Aside0.mk (below_step (by repeat (first | (with_reducible first | exact HB.out | apply below_alloc | apply pw_below_drewN | apply below_drew1) | exact HB.out)) hb); clear HB; have HB := n0_; clear n0_; (try clear hb); (try clear hb2); (try clear hk); (try clear hi)))
      go_ret2
      exact ⟨by first | rfl | (simp [errW_none, errW_some] <;> rfl) | (simp [*, errW_none, errW_some] <;> rfl), by repeat (first | (with_reducible first | exact HB.out | apply below_alloc | apply pw_below_drewN | apply below_drew1) | exact HB.out)⟩
  · replace c3 := Bool.eq_false_iff.mpr c3
    subst c3
    have H1 : (some ((⟨#[]⟩ : ByteArray), 7)) = some (r1, r2) := by rw [if_neg (show ¬ (false = true) by decide)] at H; exact H
    clear H
    have H := H1
    clear H1
    simp only [Option.some.injEq, Prod.mk.injEq] at H
    obtain ⟨rfl, rfl⟩ := H
    go_enter Try.func48, Try.ntmps48
    go_wp2_with (first | ((with_reducible refine gate_callee (f := 111) rfl ?_); refine goesL_ (some 5) rfl rfl Try.func111 (by kernel_rfl) rfl #[.string a0] rfl (by (try simp only [List.map_toArray, List.map_cons, List.map_nil]); first | done | rfl | (simp only [List.length_drop, List.length_take]; rfl)) ?_; (with_reducible refine (impl_onlyTiles.calls k a0 false _ A2.out).mono ?_); rintro e w' ⟨rfl, ⟨nd, rfl⟩⟩; refine ⟨_, rfl, ?_⟩))
    go_ret2
    exact ⟨by first | rfl | (simp [errW_none, errW_some] <;> rfl) | (simp [*, errW_none, errW_some] <;> rfl), by repeat (first | (with_reducible first | exact HB.out | apply below_alloc | apply pw_below_drewN | apply below_drew1) | exact HB.out)⟩

/-! ### laws_FnExchanges: function 8 -/
mutual
def laws_FnExchanges.j0 : Nat → ByteArray → ByteArray → ByteArray → ByteArray → Int → ByteArray → ByteArray → ByteArray → ByteArray → Int → Bool → Option (Bool)
  | 0, _, _, _, _, _, _, _, _, _, _, _ => none
  | k + 1, x3, x4, x6, x7, x8, x12, x13, x14, x15, x16, x131 => if x131 = true then (none) else (if x16 = 0 then (if x12.size + x13.size ≤ 9223372036854775807 then ((impl_SortTiles.f k (x12 ++ x13)).bind fun bt337 => (if x14.size + x15.size ≤ 9223372036854775807 then ((impl_SortTiles.f k (x14 ++ x15)).bind fun bt339 => (if bt337.2 = bt339.2 then (if bt337.1.toList = bt339.1.toList then (if (x14.size : Int) < 7 then (if x15.toList = ([] : List UInt8) then (laws_FnExchanges.j1 k x3 x4 x6 x7 x8) else (none)) else (laws_FnExchanges.j1 k x3 x4 x6 x7 x8)) else (none)) else (none))) else (none))) else (none)) else (laws_FnExchanges.j1 k x3 x4 x6 x7 x8))
def laws_FnExchanges.j1 : Nat → ByteArray → ByteArray → ByteArray → ByteArray → Int → Option (Bool)
  | 0, _, _, _, _, _ => none
  | k + 1, x3, x4, x6, x7, x8 => if x8 = 0 then (if x3.size + x4.size ≤ 9223372036854775807 then ((impl_SortTiles.f k (x3 ++ x4)).bind fun bt341 => (if x6.size + x7.size ≤ 9223372036854775807 then ((impl_SortTiles.f k (x6 ++ x7)).bind fun bt343 => (if bt341.2 = bt343.2 then (if bt341.1.toList = bt343.1.toList then (if (x6.size : Int) = (x4.size : Int) then (some ((x7.size : Int) == (x3.size : Int))) else (none)) else (none)) else (none))) else (none))) else (none)) else (some true)
end
def laws_FnExchanges.f (k : Nat) (l0 : List Int) : Option (Bool) := (laws_f6big.f l0).bind fun t313 => (if t313 = true then (some true) else ((spec_DrawExchangeTiles.f k l0).bind fun bt314 => ((impl_ExchangeTiles.f k bt314.1 bt314.2.1 bt314.2.2).bind fun bt317 => ((spec_ExchangeTiles.f k bt314.1 bt314.2.1 bt314.2.2).bind fun bt320 => ((spec_DrawFillRack.f k l0).bind fun bt323 => ((impl_FillRack.f k bt323.1 bt323.2).bind fun bt325 => ((spec_FillRack.f k bt323.1 bt323.2).bind fun bt328 => ((spec_DrawReturnTiles.f k l0).bind fun bt331 => ((impl_ReturnTiles.f k bt331.1 bt331.2).bind fun bt333 => ((spec_ReturnTiles.f k bt331.1 bt331.2).bind fun bt335 => (if bt317.2.2 = bt320.2.2 then (if bt317.1.toList = bt320.1.toList then (if bt317.2.1.toList = bt320.2.1.toList then (if bt325.2.2 = bt328.2.2 then (if bt325.1.toList = bt328.1.toList then (if bt325.2.1.toList = bt328.2.1.toList then (if bt333.2 = bt335.2 then (laws_FnExchanges.j0 k bt314.1 bt314.2.1 bt317.1 bt317.2.1 bt317.2.2 bt323.1 bt323.2 bt325.1 bt325.2.1 bt325.2.2 (bt333.1.toList != bt335.1.toList)) else (laws_FnExchanges.j0 k bt314.1 bt314.2.1 bt317.1 bt317.2.1 bt317.2.2 bt323.1 bt323.2 bt325.1 bt325.2.1 bt325.2.2 true)) else (laws_FnExchanges.j0 k bt314.1 bt314.2.1 bt317.1 bt317.2.1 bt317.2.2 bt323.1 bt323.2 bt325.1 bt325.2.1 bt325.2.2 true)) else (laws_FnExchanges.j0 k bt314.1 bt314.2.1 bt317.1 bt317.2.1 bt317.2.2 bt323.1 bt323.2 bt325.1 bt325.2.1 bt325.2.2 true)) else (laws_FnExchanges.j0 k bt314.1 bt314.2.1 bt317.1 bt317.2.1 bt317.2.2 bt323.1 bt323.2 bt325.1 bt325.2.1 bt325.2.2 true)) else (laws_FnExchanges.j0 k bt314.1 bt314.2.1 bt317.1 bt317.2.1 bt317.2.2 bt323.1 bt323.2 bt325.1 bt325.2.1 bt325.2.2 true)) else (laws_FnExchanges.j0 k bt314.1 bt314.2.1 bt317.1 bt317.2.1 bt317.2.2 bt323.1 bt323.2 bt325.1 bt325.2.1 bt325.2.2 true)) else (laws_FnExchanges.j0 k bt314.1 bt314.2.1 bt317.1 bt317.2.1 bt317.2.2 bt323.1 bt323.2 bt325.1 bt325.2.1 bt325.2.2 true))))))))))))
theorem laws_FnExchanges.mono_l : ∀ k, (∀ y0 y1 y2 y3 y4 y5 y6 y7 y8 y9 y10, LeO (laws_FnExchanges.j0 k y0 y1 y2 y3 y4 y5 y6 y7 y8 y9 y10) (laws_FnExchanges.j0 (k + 1) y0 y1 y2 y3 y4 y5 y6 y7 y8 y9 y10)) ∧ (∀ y0 y1 y2 y3 y4, LeO (laws_FnExchanges.j1 k y0 y1 y2 y3 y4) (laws_FnExchanges.j1 (k + 1) y0 y1 y2 y3 y4))
  | 0 => ⟨fun _ _ _ _ _ _ _ _ _ _ _ r h => by simp [laws_FnExchanges.j0] at h, fun _ _ _ _ _ r h => by simp [laws_FnExchanges.j1] at h⟩
  | k + 1 => by
    obtain ⟨ih0, ih1⟩ := laws_FnExchanges.mono_l k
    refine ⟨?_, ?_⟩
    · intro y0 y1 y2 y3 y4 y5 y6 y7 y8 y9 y10
      unfold laws_FnExchanges.j0
      repeat' first
      | (with_reducible exact ih0 _ _ _ _ _ _ _ _ _ _ _)
      | (with_reducible exact ih1 _ _ _ _ _)
      | (with_reducible exact impl_ExchangeTiles.mono _ _ _ _)
      | (with_reducible exact impl_FillRack.mono _ _ _)
      | (with_reducible exact impl_ReturnTiles.mono _ _ _)
      | (with_reducible exact impl_SortTiles.mono _ _)
      | (with_reducible exact spec_DrawExchangeTiles.mono _ _)
      | (with_reducible exact spec_DrawFillRack.mono _ _)
      | (with_reducible exact spec_DrawReturnTiles.mono _ _)
      | (with_reducible exact spec_ExchangeTiles.mono _ _ _ _)
      | (with_reducible exact spec_FillRack.mono _ _ _)
      | (with_reducible exact spec_ReturnTiles.mono _ _ _)
      | (with_reducible exact LeO.refl _)
      | (with_reducible exact LeO.none _)
      | (with_reducible refine LeO.ite ?_ ?_)
      | (with_reducible refine LeO.bind ?_ (fun _ => ?_))
      | exact ih0 _ _ _ _ _ _ _ _ _ _ _
      | exact ih1 _ _ _ _ _
      | exact impl_ExchangeTiles.mono _ _ _ _
      | exact impl_FillRack.mono _ _ _
      | exact impl_ReturnTiles.mono _ _ _
      | exact impl_SortTiles.mono _ _
      | exact spec_DrawExchangeTiles.mono _ _
      | exact spec_DrawFillRack.mono _ _
      | exact spec_DrawReturnTiles.mono _ _
      | exact spec_ExchangeTiles.mono _ _ _ _
      | exact spec_FillRack.mono _ _ _
      | exact spec_ReturnTiles.mono _ _ _
      | exact LeO.none _
      | refine LeO.ite ?_ ?_
      | refine LeO.bind ?_ (fun _ => ?_)
    · intro y0 y1 y2 y3 y4
      unfold laws_FnExchanges.j1
      repeat' first
      | (with_reducible exact ih0 _ _ _ _ _ _ _ _ _ _ _)
      | (with_reducible exact ih1 _ _ _ _ _)
      | (with_reducible exact impl_ExchangeTiles.mono _ _ _ _)
      | (with_reducible exact impl_FillRack.mono _ _ _)
      | (with_reducible exact impl_ReturnTiles.mono _ _ _)
      | (with_reducible exact impl_SortTiles.mono _ _)
      | (with_reducible exact spec_DrawExchangeTiles.mono _ _)
      | (with_reducible exact spec_DrawFillRack.mono _ _)
      | (with_reducible exact spec_DrawReturnTiles.mono _ _)
      | (with_reducible exact spec_ExchangeTiles.mono _ _ _ _)
      | (with_reducible exact spec_FillRack.mono _ _ _)
      | (with_reducible exact spec_ReturnTiles.mono _ _ _)
      | (with_reducible exact LeO.refl _)
      | (with_reducible exact LeO.none _)
      | (with_reducible refine LeO.ite ?_ ?_)
      | (with_reducible refine LeO.bind ?_ (fun _ => ?_))
      | exact ih0 _ _ _ _ _ _ _ _ _ _ _
      | exact ih1 _ _ _ _ _
      | exact impl_ExchangeTiles.mono _ _ _ _
      | exact impl_FillRack.mono _ _ _
      | exact impl_ReturnTiles.mono _ _ _
      | exact impl_SortTiles.mono _ _
      | exact spec_DrawExchangeTiles.mono _ _
      | exact spec_DrawFillRack.mono _ _
      | exact spec_DrawReturnTiles.mono _ _
      | exact spec_ExchangeTiles.mono _ _ _ _
      | exact spec_FillRack.mono _ _ _
      | exact spec_ReturnTiles.mono _ _ _
      | exact LeO.none _
      | refine LeO.ite ?_ ?_
      | refine LeO.bind ?_ (fun _ => ?_)
theorem laws_FnExchanges.mono : ∀ a0 k, LeO (laws_FnExchanges.f k a0) (laws_FnExchanges.f (k + 1) a0) := by
  intro a0 k
  obtain ⟨ih0, ih1⟩ := laws_FnExchanges.mono_l k
  unfold laws_FnExchanges.f
  repeat' first
      | (with_reducible exact ih0 _ _ _ _ _ _ _ _ _ _ _)
      | (with_reducible exact ih1 _ _ _ _ _)
      | (with_reducible exact impl_ExchangeTiles.mono _ _ _ _)
      | (with_reducible exact impl_FillRack.mono _ _ _)
      | (with_reducible exact impl_ReturnTiles.mono _ _ _)
      | (with_reducible exact impl_SortTiles.mono _ _)
      | (with_reducible exact spec_DrawExchangeTiles.mono _ _)
      | (with_reducible exact spec_DrawFillRack.mono _ _)
      | (with_reducible exact spec_DrawReturnTiles.mono _ _)
      | (with_reducible exact spec_ExchangeTiles.mono _ _ _ _)
      | (with_reducible exact spec_FillRack.mono _ _ _)
      | (with_reducible exact spec_ReturnTiles.mono _ _ _)
      | (with_reducible exact LeO.refl _)
      | (with_reducible exact LeO.none _)
      | (with_reducible refine LeO.ite ?_ ?_)
      | (with_reducible refine LeO.bind ?_ (fun _ => ?_))
      | exact ih0 _ _ _ _ _ _ _ _ _ _ _
      | exact ih1 _ _ _ _ _
      | exact impl_ExchangeTiles.mono _ _ _ _
      | exact impl_FillRack.mono _ _ _
      | exact impl_ReturnTiles.mono _ _ _
      | exact impl_SortTiles.mono _ _
      | exact spec_DrawExchangeTiles.mono _ _
      | exact spec_DrawFillRack.mono _ _
      | exact spec_DrawReturnTiles.mono _ _
      | exact spec_ExchangeTiles.mono _ _ _ _
      | exact spec_FillRack.mono _ _ _
      | exact spec_ReturnTiles.mono _ _ _
      | exact LeO.none _
      | refine LeO.ite ?_ ?_
      | refine LeO.bind ?_ (fun _ => ?_)
set_option maxHeartbeats 8000000 in
set_option maxRecDepth 100000 in
theorem laws_FnExchanges.calls (k : Nat) (A0 : Option Addr) (c0 : Nat) (l0 : List Int) (r : Bool) (w : World) (hr0 : Kd.C (Kd.int .u8) w A0 l0.length l0) (hc0 : l0.length ≤ c0) (h : laws_FnExchanges.f k l0 = some r) :
    Calls Try.prog 8 #[.slice A0 l0.length c0] w fun e w' => e = .returned (.bool r) ∧ Below w.heap.size w w' := by
  have HR0 := Aside0.mk hr0
  have HC0 := Aside0.mk hc0
  clear hr0 hc0
  have HB := Aside0.mk (Below.refl w.heap.size w)
  have H : ((laws_f6big.f l0).bind fun t313 => (if t313 = true then (some true) else ((spec_DrawExchangeTiles.f k l0).bind fun bt314 => ((impl_ExchangeTiles.f k bt314.1 bt314.2.1 bt314.2.2).bind fun bt317 => ((spec_ExchangeTiles.f k bt314.1 bt314.2.1 bt314.2.2).bind fun bt320 => ((spec_DrawFillRack.f k l0).bind fun bt323 => ((impl_FillRack.f k bt323.1 bt323.2).bind fun bt325 => ((spec_FillRack.f k bt323.1 bt323.2).bind fun bt328 => ((spec_DrawReturnTiles.f k l0).bind fun bt331 => ((impl_ReturnTiles.f k bt331.1 bt331.2).bind fun bt333 => ((spec_ReturnTiles.f k bt331.1 bt331.2).bind fun bt335 => (if bt317.2.2 = bt320.2.2 then (if bt317.1.toList = bt320.1.toList then (if bt317.2.1.toList = bt320.2.1.toList then (if bt325.2.2 = bt328.2.2 then (if bt325.1.toList = bt328.1.toList then (if bt325.2.1.toList = bt328.2.1.toList then (if bt333.2 = bt335.2 then (laws_FnExchanges.j0 k bt314.1 bt314.2.1 bt317.1 bt317.2.1 bt317.2.2 bt323.1 bt323.2 bt325.1 bt325.2.1 bt325.2.2 (bt333.1.toList != bt335.1.toList)) else (laws_FnExchanges.j0 k bt314.1 bt314.2.1 bt317.1 bt317.2.1 bt317.2.2 bt323.1 bt323.2 bt325.1 bt325.2.1 bt325.2.2 true)) else (laws_FnExchanges.j0 k bt314.1 bt314.2.1 bt317.1 bt317.2.1 bt317.2.2 bt323.1 bt323.2 bt325.1 bt325.2.1 bt325.2.2 true)) else (laws_FnExchanges.j0 k bt314.1 bt314.2.1 bt317.1 bt317.2.1 bt317.2.2 bt323.1 bt323.2 bt325.1 bt325.2.1 bt325.2.2 true)) else (laws_FnExchanges.j0 k bt314.1 bt314.2.1 bt317.1 bt317.2.1 bt317.2.2 bt323.1 bt323.2 bt325.1 bt325.2.1 bt325.2.2 true)) else (laws_FnExchanges.j0 k bt314.1 bt314.2.1 bt317.1 bt317.2.1 bt317.2.2 bt323.1 bt323.2 bt325.1 bt325.2.1 bt325.2.2 true)) else (laws_FnExchanges.j0 k bt314.1 bt314.2.1 bt317.1 bt317.2.1 bt317.2.2 bt323.1 bt323.2 bt325.1 bt325.2.1 bt325.2.2 true)) else (laws_FnExchanges.j0 k bt314.1 bt314.2.1 bt317.1 bt317.2.1 bt317.2.2 bt323.1 bt323.2 bt325.1 bt325.2.1 bt325.2.2 true))))))))))))) = some r := h
  clear h
  replace H := Option.bind_eq_some_iff.mp H
  obtain ⟨t313, A20, H⟩ := H
  replace H : (if t313 = true then (some true) else ((spec_DrawExchangeTiles.f k l0).bind fun bt314 => ((impl_ExchangeTiles.f k bt314.1 bt314.2.1 bt314.2.2).bind fun bt317 => ((spec_ExchangeTiles.f k bt314.1 bt314.2.1 bt314.2.2).bind fun bt320 => ((spec_DrawFillRack.f k l0).bind fun bt323 => ((impl_FillRack.f k bt323.1 bt323.2).bind fun bt325 => ((spec_FillRack.f k bt323.1 bt323.2).bind fun bt328 => ((spec_DrawReturnTiles.f k l0).bind fun bt331 => ((impl_ReturnTiles.f k bt331.1 bt331.2).bind fun bt333 => ((spec_ReturnTiles.f k bt331.1 bt331.2).bind fun bt335 => (if bt317.2.2 = bt320.2.2 then (if bt317.1.toList = bt320.1.toList then (if bt317.2.1.toList = bt320.2.1.toList then (if bt325.2.2 = bt328.2.2 then (if bt325.1.toList = bt328.1.toList then (if bt325.2.1.toList = bt328.2.1.toList then (if bt333.2 = bt335.2 then (laws_FnExchanges.j0 k bt314.1 bt314.2.1 bt317.1 bt317.2.1 bt317.2.2 bt323.1 bt323.2 bt325.1 bt325.2.1 bt325.2.2 (bt333.1.toList != bt335.1.toList)) else (laws_FnExchanges.j0 k bt314.1 bt314.2.1 bt317.1 bt317.2.1 bt317.2.2 bt323.1 bt323.2 bt325.1 bt325.2.1 bt325.2.2 true)) else (laws_FnExchanges.j0 k bt314.1 bt314.2.1 bt317.1 bt317.2.1 bt317.2.2 bt323.1 bt323.2 bt325.1 bt325.2.1 bt325.2.2 true)) else (laws_FnExchanges.j0 k bt314.1 bt314.2.1 bt317.1 bt317.2.1 bt317.2.2 bt323.1 bt323.2 bt325.1 bt325.2.1 bt325.2.2 true)) else (laws_FnExchanges.j0 k bt314.1 bt314.2.1 bt317.1 bt317.2.1 bt317.2.2 bt323.1 bt323.2 bt325.1 bt325.2.1 bt325.2.2 true)) else (laws_FnExchanges.j0 k bt314.1 bt314.2.1 bt317.1 bt317.2.1 bt317.2.2 bt323.1 bt323.2 bt325.1 bt325.2.1 bt325.2.2 true)) else (laws_FnExchanges.j0 k bt314.1 bt314.2.1 bt317.1 bt317.2.1 bt317.2.2 bt323.1 bt323.2 bt325.1 bt325.2.1 bt325.2.2 true)) else (laws_FnExchanges.j0 k bt314.1 bt314.2.1 bt317.1 bt317.2.1 bt317.2.2 bt323.1 bt323.2 bt325.1 bt325.2.1 bt325.2.2 true)))))))))))) = some r := H
  have A2 := Aside0.mk A20
  clear A20
  by_cases c3 : t313 = true
  · subst c3
    have H1 : (some true) = some r := by rw [if_pos rfl] at H; exact H
    clear H
    have H := H1
    clear H1
    obtain rfl := Option.some.inj H
    go_enter Try.func8, Try.ntmps8
    go_wp2_with (first | ((with_reducible refine gate_callee (f := 27) rfl ?_); refine goesL_ (some 35) rfl rfl Try.func27 (by kernel_rfl) rfl #[.slice A0 l0.length c0] rfl (by (try simp only [List.map_toArray, List.map_cons, List.map_nil]); first | done | rfl | (simp only [List.length_drop, List.length_take]; rfl)) ?_; (with_reducible refine (laws_f6big.calls _ _ l0 true _ ?side1 ?side2 A2.out).mono ?_); (case side1 => repeat (first | exact HR0.out | (with_reducible refine Kd.C_alloc ?_ _) | (with_reducible refine Kd.C_drewN ?_ _) | (with_reducible refine Kd.C_drew ?_))); (case side2 => exact HC0.out); rintro e w' ⟨rfl, ⟨nd, rfl⟩⟩; refine ⟨_, rfl, ?_⟩))
    go_ret
    exact ⟨by first | rfl | (simp [errW_none, errW_some] <;> rfl) | (simp [*, errW_none, errW_some] <;> rfl), by repeat (first | (with_reducible first | exact HB.out | apply below_alloc | apply pw_below_drewN | apply below_drew1) | exact HB.out)⟩
  · replace c3 := Bool.eq_false_iff.mpr c3
    subst c3
    have H1 : ((spec_DrawExchangeTiles.f k l0).bind fun bt314 => ((impl_ExchangeTiles.f k bt314.1 bt314.2.1 bt314.2.2).bind fun bt317 => ((spec_ExchangeTiles.f k bt314.1 bt314.2.1 bt314.2.2).bind fun bt320 => ((spec_DrawFillRack.f k l0).bind fun bt323 => ((impl_FillRack.f k bt323.1 bt323.2).bind fun bt325 => ((spec_FillRack.f k bt323.1 bt323.2).bind fun bt328 => ((spec_DrawReturnTiles.f k l0).bind fun bt331 => ((impl_ReturnTiles.f k bt331.1 bt331.2).bind fun bt333 => ((spec_ReturnTiles.f k bt331.1 bt331.2).bind fun bt335 => (if bt317.2.2 = bt320.2.2 then (if bt317.1.toList = bt320.1.toList then (if bt317.2.1.toList = bt320.2.1.toList then (if bt325.2.2 = bt328.2.2 then (if bt325.1.toList = bt328.1.toList then (if bt325.2.1.toList = bt328.2.1.toList then (if bt333.2 = bt335.2 then (laws_FnExchanges.j0 k bt314.1 bt314.2.1 bt317.1 bt317.2.1 bt317.2.2 bt323.1 bt323.2 bt325.1 bt325.2.1 bt325.2.2 (bt333.1.toList != bt335.1.toList)) else (laws_FnExchanges.j0 k bt314.1 bt314.2.1 bt317.1 bt317.2.1 bt317.2.2 bt323.1 bt323.2 bt325.1 bt325.2.1 bt325.2.2 true)) else (laws_FnExchanges.j0 k bt314.1 bt314.2.1 bt317.1 bt317.2.1 bt317.2.2 bt323.1 bt323.2 bt325.1 bt325.2.1 bt325.2.2 true)) else (laws_FnExchanges.j0 k bt314.1 bt314.2.1 bt317.1 bt317.2.1 bt317.2.2 bt323.1 bt323.2 bt325.1 bt325.2.1 bt325.2.2 true)) else (laws_FnExchanges.j0 k bt314.1 bt314.2.1 bt317.1 bt317.2.1 bt317.2.2 bt323.1 bt323.2 bt325.1 bt325.2.1 bt325.2.2 true)) else (laws_FnExchanges.j0 k bt314.1 bt314.2.1 bt317.1 bt317.2.1 bt317.2.2 bt323.1 bt323.2 bt325.1 bt325.2.1 bt325.2.2 true)) else (laws_FnExchanges.j0 k bt314.1 bt314.2.1 bt317.1 bt317.2.1 bt317.2.2 bt323.1 bt323.2 bt325.1 bt325.2.1 bt325.2.2 true)) else (laws_FnExchanges.j0 k bt314.1 bt314.2.1 bt317.1 bt317.2.1 bt317.2.2 bt323.1 bt323.2 bt325.1 bt325.2.1 bt325.2.2 true))))))))))) = some r := by rw [if_neg (show ¬ (false = true) by decide)] at H; exact H
    clear H
    have H := H1
    clear H1
    replace H := Option.bind_eq_some_iff.mp H
    obtain ⟨⟨t314, t315, t316⟩, A40, H⟩ := H
    replace H : ((impl_ExchangeTiles.f k t314 t315 t316).bind fun bt317 => ((spec_ExchangeTiles.f k t314 t315 t316).bind fun bt320 => ((spec_DrawFillRack.f k l0).bind fun bt323 => ((impl_FillRack.f k bt323.1 bt323.2).bind fun bt325 => ((spec_FillRack.f k bt323.1 bt323.2).bind fun bt328 => ((spec_DrawReturnTiles.f k l0).bind fun bt331 => ((impl_ReturnTiles.f k bt331.1 bt331.2).bind fun bt333 => ((spec_ReturnTiles.f k bt331.1 bt331.2).bind fun bt335 => (if bt317.2.2 = bt320.2.2 then (if bt317.1.toList = bt320.1.toList then (if bt317.2.1.toList = bt320.2.1.toList then (if bt325.2.2 = bt328.2.2 then (if bt325.1.toList = bt328.1.toList then (if bt325.2.1.toList = bt328.2.1.toList then (if bt333.2 = bt335.2 then (laws_FnExchanges.j0 k t314 t315 bt317.1 bt317.2.1 bt317.2.2 bt323.1 bt323.2 bt325.1 bt325.2.1 bt325.2.2 (bt333.1.toList != bt335.1.toList)) else (laws_FnExchanges.j0 k t314 t315 bt317.1 bt317.2.1 bt317.2.2 bt323.1 bt323.2 bt325.1 bt325.2.1 bt325.2.2 true)) else (laws_FnExchanges.j0 k t314 t315 bt317.1 bt317.2.1 bt317.2.2 bt323.1 bt323.2 bt325.1 bt325.2.1 bt325.2.2 true)) else (laws_FnExchanges.j0 k t314 t315 bt317.1 bt317.2.1 bt317.2.2 bt323.1 bt323.2 bt325.1 bt325.2.1 bt325.2.2 true)) else (laws_FnExchanges.j0 k t314 t315 bt317.1 bt317.2.1 bt317.2.2 bt323.1 bt323.2 bt325.1 bt325.2.1 bt325.2.2 true)) else (laws_FnExchanges.j0 k t314 t315 bt317.1 bt317.2.1 bt317.2.2 bt323.1 bt323.2 bt325.1 bt325.2.1 bt325.2.2 true)) else (laws_FnExchanges.j0 k t314 t315 bt317.1 bt317.2.1 bt317.2.2 bt323.1 bt323.2 bt325.1 bt325.2.1 bt325.2.2 true)) else (laws_FnExchanges.j0 k t314 t315 bt317.1 bt317.2.1 bt317.2.2 bt323.1 bt323.2 bt325.1 bt325.2.1 bt325.2.2 true)))))))))) = some r := H
    have A4 := Aside0.mk A40
    clear A40
    replace H := Option.bind_eq_some_iff.mp H
    obtain ⟨⟨t317, t318, t319⟩, A50, H⟩ := H
    replace H : ((spec_ExchangeTiles.f k t314 t315 t316).bind fun bt320 => ((spec_DrawFillRack.f k l0).bind fun bt323 => ((impl_FillRack.f k bt323.1 bt323.2).bind fun bt325 => ((spec_FillRack.f k bt323.1 bt323.2).bind fun bt328 => ((spec_DrawReturnTiles.f k l0).bind fun bt331 => ((impl_ReturnTiles.f k bt331.1 bt331.2).bind fun bt333 => ((spec_ReturnTiles.f k bt331.1 bt331.2).bind fun bt335 => (if t319 = bt320.2.2 then (if t317.toList = bt320.1.toList then (if t318.toList = bt320.2.1.toList then (if bt325.2.2 = bt328.2.2 then (if bt325.1.toList = bt328.1.toList then (if bt325.2.1.toList = bt328.2.1.toList then (if bt333.2 = bt335.2 then (laws_FnExchanges.j0 k t314 t315 t317 t318 t319 bt323.1 bt323.2 bt325.1 bt325.2.1 bt325.2.2 (bt333.1.toList != bt335.1.toList)) else (laws_FnExchanges.j0 k t314 t315 t317 t318 t319 bt323.1 bt323.2 bt325.1 bt325.2.1 bt325.2.2 true)) else (laws_FnExchanges.j0 k t314 t315 t317 t318 t319 bt323.1 bt323.2 bt325.1 bt325.2.1 bt325.2.2 true)) else (laws_FnExchanges.j0 k t314 t315 t317 t318 t319 bt323.1 bt323.2 bt325.1 bt325.2.1 bt325.2.2 true)) else (laws_FnExchanges.j0 k t314 t315 t317 t318 t319 bt323.1 bt323.2 bt325.1 bt325.2.1 bt325.2.2 true)) else (laws_FnExchanges.j0 k t314 t315 t317 t318 t319 bt323.1 bt323.2 bt325.1 bt325.2.1 bt325.2.2 true)) else (laws_FnExchanges.j0 k t314 t315 t317 t318 t319 bt323.1 bt323.2 bt325.1 bt325.2.1 bt325.2.2 true)) else (laws_FnExchanges.j0 k t314 t315 t317 t318 t319 bt323.1 bt323.2 bt325.1 bt325.2.1 bt325.2.2 true))))))))) = some r := H
    have A5 := Aside0.mk A50
    clear A50
    replace H := Option.bind_eq_some_iff.mp H
    obtain ⟨⟨t320, t321, t322⟩, A60, H⟩ := H
    replace H : ((spec_DrawFillRack.f k l0).bind fun bt323 => ((impl_FillRack.f k bt323.1 bt323.2).bind fun bt325 => ((spec_FillRack.f k bt323.1 bt323.2).bind fun bt328 => ((spec_DrawReturnTiles.f k l0).bind fun bt331 => ((impl_ReturnTiles.f k bt331.1 bt331.2).bind fun bt333 => ((spec_ReturnTiles.f k bt331.1 bt331.2).bind fun bt335 => (if t319 = t322 then (if t317.toList = t320.toList then (if t318.toList = t321.toList then (if bt325.2.2 = bt328.2.2 then (if bt325.1.toList = bt328.1.toList then (if bt325.2.1.toList = bt328.2.1.toList then (if bt333.2 = bt335.2 then (laws_FnExchanges.j0 k t314 t315 t317 t318 t319 bt323.1 bt323.2 bt325.1 bt325.2.1 bt325.2.2 (bt333.1.toList != bt335.1.toList)) else (laws_FnExchanges.j0 k t314 t315 t317 t318 t319 bt323.1 bt323.2 bt325.1 bt325.2.1 bt325.2.2 true)) else (laws_FnExchanges.j0 k t314 t315 t317 t318 t319 bt323.1 bt323.2 bt325.1 bt325.2.1 bt325.2.2 true)) else (laws_FnExchanges.j0 k t314 t315 t317 t318 t319 bt323.1 bt323.2 bt325.1 bt325.2.1 bt325.2.2 true)) else (laws_FnExchanges.j0 k t314 t315 t317 t318 t319 bt323.1 bt323.2 bt325.1 bt325.2.1 bt325.2.2 true)) else (laws_FnExchanges.j0 k t314 t315 t317 t318 t319 bt323.1 bt323.2 bt325.1 bt325.2.1 bt325.2.2 true)) else (laws_FnExchanges.j0 k t314 t315 t317 t318 t319 bt323.1 bt323.2 bt325.1 bt325.2.1 bt325.2.2 true)) else (laws_FnExchanges.j0 k t314 t315 t317 t318 t319 bt323.1 bt323.2 bt325.1 bt325.2.1 bt325.2.2 true)))))))) = some r := H
    have A6 := Aside0.mk A60
    clear A60
    replace H := Option.bind_eq_some_iff.mp H
    obtain ⟨⟨t323, t324⟩, A70, H⟩ := H
    replace H : ((impl_FillRack.f k t323 t324).bind fun bt325 => ((spec_FillRack.f k t323 t324).bind fun bt328 => ((spec_DrawReturnTiles.f k l0).bind fun bt331 => ((impl_ReturnTiles.f k bt331.1 bt331.2).bind fun bt333 => ((spec_ReturnTiles.f k bt331.1 bt331.2).bind fun bt335 => (if t319 = t322 then (if t317.toList = t320.toList then (if t318.toList = t321.toList then (if bt325.2.2 = bt328.2.2 then (if bt325.1.toList = bt328.1.toList then (if bt325.2.1.toList = bt328.2.1.toList then (if bt333.2 = bt335.2 then (laws_FnExchanges.j0 k t314 t315 t317 t318 t319 t323 t324 bt325.1 bt325.2.1 bt325.2.2 (bt333.1.toList != bt335.1.toList)) else (laws_FnExchanges.j0 k t314 t315 t317 t318 t319 t323 t324 bt325.1 bt325.2.1 bt325.2.2 true)) else (laws_FnExchanges.j0 k t314 t315 t317 t318 t319 t323 t324 bt325.1 bt325.2.1 bt325.2.2 true)) else (laws_FnExchanges.j0 k t314 t315 t317 t318 t319 t323 t324 bt325.1 bt325.2.1 bt325.2.2 true)) else (laws_FnExchanges.j0 k t314 t315 t317 t318 t319 t323 t324 bt325.1 bt325.2.1 bt325.2.2 true)) else (laws_FnExchanges.j0 k t314 t315 t317 t318 t319 t323 t324 bt325.1 bt325.2.1 bt325.2.2 true)) else (laws_FnExchanges.j0 k t314 t315 t317 t318 t319 t323 t324 bt325.1 bt325.2.1 bt325.2.2 true)) else (laws_FnExchanges.j0 k t314 t315 t317 t318 t319 t323 t324 bt325.1 bt325.2.1 bt325.2.2 true))))))) = some r := H
    have A7 := Aside0.mk A70
    clear A70
    replace H := Option.bind_eq_some_iff.mp H
    obtain ⟨⟨t325, t326, t327⟩, A80, H⟩ := H
    replace H : ((spec_FillRack.f k t323 t324).bind fun bt328 => ((spec_DrawReturnTiles.f k l0).bind fun bt331 => ((impl_ReturnTiles.f k bt331.1 bt331.2).bind fun bt333 => ((spec_ReturnTiles.f k bt331.1 bt331.2).bind fun bt335 => (if t319 = t322 then (if t317.toList = t320.toList then (if t318.toList = t321.toList then (if t327 = bt328.2.2 then (if t325.toList = bt328.1.toList then (if t326.toList = bt328.2.1.toList then (if bt333.2 = bt335.2 then (laws_FnExchanges.j0 k t314 t315 t317 t318 t319 t323 t324 t325 t326 t327 (bt333.1.toList != bt335.1.toList)) else (laws_FnExchanges.j0 k t314 t315 t317 t318 t319 t323 t324 t325 t326 t327 true)) else (laws_FnExchanges.j0 k t314 t315 t317 t318 t319 t323 t324 t325 t326 t327 true)) else (laws_FnExchanges.j0 k t314 t315 t317 t318 t319 t323 t324 t325 t326 t327 true)) else (laws_FnExchanges.j0 k t314 t315 t317 t318 t319 t323 t324 t325 t326 t327 true)) else (laws_FnExchanges.j0 k t314 t315 t317 t318 t319 t323 t324 t325 t326 t327 true)) else (laws_FnExchanges.j0 k t314 t315 t317 t318 t319 t323 t324 t325 t326 t327 true)) else (laws_FnExchanges.j0 k t314 t315 t317 t318 t319 t323 t324 t325 t326 t327 true)))))) = some r := H
    have A8 := Aside0.mk A80
    clear A80
    replace H := Option.bind_eq_some_iff.mp H
    obtain ⟨⟨t328, t329, t330⟩, A90, H⟩ := H
    replace H : ((spec_DrawReturnTiles.f k l0).bind fun bt331 => ((impl_ReturnTiles.f k bt331.1 bt331.2).bind fun bt333 => ((spec_ReturnTiles.f k bt331.1 bt331.2).bind fun bt335 => (if t319 = t322 then (if t317.toList = t320.toList then (if t318.toList = t321.toList then (if t327 = t330 then (if t325.toList = t328.toList then (if t326.toList = t329.toList then (if bt333.2 = bt335.2 then (laws_FnExchanges.j0 k t314 t315 t317 t318 t319 t323 t324 t325 t326 t327 (bt333.1.toList != bt335.1.toList)) else (laws_FnExchanges.j0 k t314 t315 t317 t318 t319 t323 t324 t325 t326 t327 true)) else (laws_FnExchanges.j0 k t314 t315 t317 t318 t319 t323 t324 t325 t326 t327 true)) else (laws_FnExchanges.j0 k t314 t315 t317 t318 t319 t323 t324 t325 t326 t327 true)) else (laws_FnExchanges.j0 k t314 t315 t317 t318 t319 t323 t324 t325 t326 t327 true)) else (laws_FnExchanges.j0 k t314 t315 t317 t318 t319 t323 t324 t325 t326 t327 true)) else (laws_FnExchanges.j0 k t314 t315 t317 t318 t319 t323 t324 t325 t326 t327 true)) else (laws_FnExchanges.j0 k t314 t315 t317 t318 t319 t323 t324 t325 t326 t327 true))))) = some r := H
    have A9 := Aside0.mk A90
    clear A90
    replace H := Option.bind_eq_some_iff.mp H
    obtain ⟨⟨t331, t332⟩, A100, H⟩ := H
    replace H : ((impl_ReturnTiles.f k t331 t332).bind fun bt333 => ((spec_ReturnTiles.f k t331 t332).bind fun bt335 => (if t319 = t322 then (if t317.toList = t320.toList then (if t318.toList = t321.toList then (if t327 = t330 then (if t325.toList = t328.toList then (if t326.toList = t329.toList then (if bt333.2 = bt335.2 then (laws_FnExchanges.j0 k t314 t315 t317 t318 t319 t323 t324 t325 t326 t327 (bt333.1.toList != bt335.1.toList)) else (laws_FnExchanges.j0 k t314 t315 t317 t318 t319 t323 t324 t325 t326 t327 true)) else (laws_FnExchanges.j0 k t314 t315 t317 t318 t319 t323 t324 t325 t326 t327 true)) else (laws_FnExchanges.j0 k t314 t315 t317 t318 t319 t323 t324 t325 t326 t327 true)) else (laws_FnExchanges.j0 k t314 t315 t317 t318 t319 t323 t324 t325 t326 t327 true)) else (laws_FnExchanges.j0 k t314 t315 t317 t318 t319 t323 t324 t325 t326 t327 true)) else (laws_FnExchanges.j0 k t314 t315 t317 t318 t319 t323 t324 t325 t326 t327 true)) else (laws_FnExchanges.j0 k t314 t315 t317 t318 t319 t323 t324 t325 t326 t327 true)))) = some r := H
    have A10 := Aside0.mk A100
    clear A100
    replace H := Option.bind_eq_some_iff.mp H
    obtain ⟨⟨t333, t334⟩, A110, H⟩ := H
    replace H : ((spec_ReturnTiles.f k t331 t332).bind fun bt335 => (if t319 = t322 then (if t317.toList = t320.toList then (if t318.toList = t321.toList then (if t327 = t330 then (if t325.toList = t328.toList then (if t326.toList = t329.toList then (if t334 = bt335.2 then (laws_FnExchanges.j0 k t314 t315 t317 t318 t319 t323 t324 t325 t326 t327 (t333.toList != bt335.1.toList)) else (laws_FnExchanges.j0 k t314 t315 t317 t318 t319 t323 t324 t325 t326 t327 true)) else (laws_FnExchanges.j0 k t314 t315 t317 t318 t319 t323 t324 t325 t326 t327 true)) else (laws_FnExchanges.j0 k t314 t315 t317 t318 t319 t323 t324 t325 t326 t327 true)) else (laws_FnExchanges.j0 k t314 t315 t317 t318 t319 t323 t324 t325 t326 t327 true)) else (laws_FnExchanges.j0 k t314 t315 t317 t318 t319 t323 t324 t325 t326 t327 true)) else (laws_FnExchanges.j0 k t314 t315 t317 t318 t319 t323 t324 t325 t326 t327 true)) else (laws_FnExchanges.j0 k t314 t315 t317 t318 t319 t323 t324 t325 t326 t327 true))) = some r := H
    have A11 := Aside0.mk A110
    clear A110
    replace H := Option.bind_eq_some_iff.mp H
    obtain ⟨⟨t335, t336⟩, A120, H⟩ := H
    replace H : (if t319 = t322 then (if t317.toList = t320.toList then (if t318.toList = t321.toList then (if t327 = t330 then (if t325.toList = t328.toList then (if t326.toList = t329.toList then (if t334 = t336 then (laws_FnExchanges.j0 k t314 t315 t317 t318 t319 t323 t324 t325 t326 t327 (t333.toList != t335.toList)) else (laws_FnExchanges.j0 k t314 t315 t317 t318 t319 t323 t324 t325 t326 t327 true)) else (laws_FnExchanges.j0 k t314 t315 t317 t318 t319 t323 t324 t325 t326 t327 true)) else (laws_FnExchanges.j0 k t314 t315 t317 t318 t319 t323 t324 t325 t326 t327 true)) else (laws_FnExchanges.j0 k t314 t315 t317 t318 t319 t323 t324 t325 t326 t327 true)) else (laws_FnExchanges.j0 k t314 t315 t317 t318 t319 t323 t324 t325 t326 t327 true)) else (laws_FnExchanges.j0 k t314 t315 t317 t318 t319 t323 t324 t325 t326 t327 true)) else (laws_FnExchanges.j0 k t314 t315 t317 t318 t319 t323 t324 t325 t326 t327 true)) = some r := H
    have A12 := Aside0.mk A120
    clear A120
    have HC13 := Aside0.mk H
    clear H
    go_enter Try.func8, Try.ntmps8
    go_upto_region 12 with (first | ((with_reducible refine gate_callee (f := 27) rfl ?_); refine goesL_ (some 35) rfl rfl Try.func27 (by kernel_rfl) rfl #[.slice A0 l0.length c0] rfl (by (try simp only [List.map_toArray, List.map_cons, List.map_nil]); first | done | rfl | (simp only [List.length_drop, List.length_take]; rfl)) ?_; (with_reducible refine (laws_f6big.calls _ _ l0 false _ ?side1 ?side2 A2.out).mono ?_); (case side1 => repeat (first | exact HR0.out | (with_reducible refine Kd.C_alloc ?_ _) | (with_reducible refine Kd.C_drewN ?_ _) | (with_reducible refine Kd.C_drew ?_))); (case side2 => exact HC0.out); rintro e w' ⟨rfl, ⟨nd, rfl⟩⟩; refine ⟨_, rfl, ?_⟩) | ((with_reducible refine gate_callee (f := 41) rfl ?_); refine goesL_ (some 38) rfl rfl Try.func41 (by kernel_rfl) rfl #[.slice A0 l0.length c0] rfl (by (try simp only [List.map_toArray, List.map_cons, List.map_nil]); first | done | rfl | (simp only [List.length_drop, List.length_take]; rfl)) ?_; (with_reducible refine (spec_DrawExchangeTiles.calls k _ _ l0 t314 t315 t316 _ ?side1 ?side2 A4.out).mono ?_); (case side1 => repeat (first | exact HR0.out | (with_reducible refine Kd.C_alloc ?_ _) | (with_reducible refine Kd.C_drewN ?_ _) | (with_reducible refine Kd.C_drew ?_))); (case side2 => exact HC0.out); rintro e w14 ⟨rfl, hb⟩; refine ⟨_, rfl, ?_⟩; have n0_ := Aside0.mk (below_step (by repeat (first | (with_reducible first | exact HB.out | apply below_alloc | apply pw_below_drewN | apply below_drew1) | exact HB.out)) hb); clear HB; have HB := n0_; clear n0_; (try clear hb); (try clear hb2); (try clear hk); (try clear hi)) | ((with_reducible refine gate_callee (f := 18) rfl ?_); refine goesL_ (some 46) rfl rfl Try.func18 (by kernel_rfl) rfl #[.string t314, .string t315, .string t316] rfl (by (try simp only [List.map_toArray, List.map_cons, List.map_nil]); first | done | rfl | (simp only [List.length_drop, List.length_take]; rfl)) ?_; (with_reducible refine (impl_ExchangeTiles.calls k t314 t315 t316 t317 t318 t319 _ A5.out).mono ?_); rintro e w15 ⟨rfl, hb⟩; refine ⟨_, rfl, ?_⟩; have n0_ := Aside0.mk (below_step (by repeat (first | (with_reducible first | exact HB.out | apply below_alloc | apply pw_below_drewN | apply below_drew1) | exact HB.out)) hb); clear HB; have HB := n0_; clear n0_; (try clear hb); (try clear hb2); (try clear hk); (try clear hi)) | ((with_reducible refine gate_callee (f := 17) rfl ?_); refine goesL_ (some 54) rfl rfl Try.func17 (by kernel_rfl) rfl #[.string t314, .string t315, .string t316] rfl (by (try simp only [List.map_toArray, List.map_cons, List.map_nil]); first | done | rfl | (simp only [List.length_drop, List.length_take]; rfl)) ?_; (with_reducible refine (spec_ExchangeTiles.calls k t314 t315 t316 t320 t321 t322 _ A6.out).mono ?_); rintro e w16 ⟨rfl, hb⟩; refine ⟨_, rfl, ?_⟩; have n0_ := Aside0.mk (below_step (by repeat (first | (with_reducible first | exact HB.out | apply below_alloc | apply pw_below_drewN | apply below_drew1) | exact HB.out)) hb); clear HB; have HB := n0_; clear n0_; (try clear hb); (try clear hb2); (try clear hk); (try clear hi)) | ((with_reducible refine gate_callee (f := 42) rfl ?_); refine goesL_ (some 60) rfl rfl Try.func42 (by kernel_rfl) rfl #[.slice A0 l0.length c0] rfl (by (try simp only [List.map_toArray, List.map_cons, List.map_nil]); first | done | rfl | (simp only [List.length_drop, List.length_take]; rfl)) ?_; (with_reducible refine (spec_DrawFillRack.calls k _ _ l0 t323 t324 _ ?side1 ?side2 A7.out).mono ?_); (case side1 => repeat (first | exact (Kd.C_below HR0.out HB.out) | (with_reducible refine Kd.C_alloc ?_ _) | (with_reducible refine Kd.C_drewN ?_ _) | (with_reducible refine Kd.C_drew ?_))); (case side2 => exact HC0.out); rintro e w17 ⟨rfl, hb⟩; refine ⟨_, rfl, ?_⟩; have n0_ := Aside0.mk (below_step (by repeat (first | (with_reducible first | exact HB.out | apply below_alloc | apply pw_below_drewN | apply below_drew1) | exact HB.out)) hb); clear HB; have HB := n0_; clear n0_; (try clear hb); (try clear hb2); (try clear hk); (try clear hi)) | ((with_reducible refine gate_callee (f := 43) rfl ?_); refine goesL_ (some 66) rfl rfl Try.func43 (by kernel_rfl) rfl #[.string t323, .string t324] rfl (by (try simp only [List.map_toArray, List.map_cons, List.map_nil]); first | done | rfl | (simp only [List.length_drop, List.length_take]; rfl)) ?_; (with_reducible refine (impl_FillRack.calls k t323 t324 t325 t326 t327 _ A8.out).mono ?_); rintro e w18 ⟨rfl, hb⟩; refine ⟨_, rfl, ?_⟩; have n0_ := Aside0.mk (below_step (by repeat (first | (with_reducible first | exact HB.out | apply below_alloc | apply pw_below_drewN | apply below_drew1) | exact HB.out)) hb); clear HB; have HB := n0_; clear n0_; (try clear hb); (try clear hb2); (try clear hk); (try clear hi)) | ((with_reducible refine gate_callee (f := 44) rfl ?_); refine goesL_ (some 73) rfl rfl Try.func44 (by kernel_rfl) rfl #[.string t323, .string t324] rfl (by (try simp only [List.map_toArray, List.map_cons, List.map_nil]); first | done | rfl | (simp only [List.length_drop, List.length_take]; rfl)) ?_; (with_reducible refine (spec_FillRack.calls k t323 t324 t328 t329 t330 _ A9.out).mono ?_); rintro e w19 ⟨rfl, hb⟩; refine ⟨_, rfl, ?_⟩; have n0_ := Aside0.mk (below_step (by repeat (first | (with_reducible first | exact HB.out | apply below_alloc | apply pw_below_drewN | apply below_drew1) | exact HB.out)) hb); clear HB; have HB := n0_; clear n0_; (try clear hb); (try clear hb2); (try clear hk); (try clear hi)) | ((with_reducible refine gate_callee (f := 45) rfl ?_); refine goesL_ (some 79) rfl rfl Try.func45 (by kernel_rfl) rfl #[.slice A0 l0.length c0] rfl (by (try simp only [List.map_toArray, List.map_cons, List.map_nil]); first | done | rfl | (simp only [List.length_drop, List.length_take]; rfl)) ?_; (with_reducible refine (spec_DrawReturnTiles.calls k _ _ l0 t331 t332 _ ?side1 ?side2 A10.out).mono ?_); (case side1 => repeat (first | exact (Kd.C_below HR0.out HB.out) | (with_reducible refine Kd.C_alloc ?_ _) | (with_reducible refine Kd.C_drewN ?_ _) | (with_reducible refine Kd.C_drew ?_))); (case side2 => exact HC0.out); rintro e w20 ⟨rfl, hb⟩; refine ⟨_, rfl, ?_⟩; have n0_ := Aside0.mk (below_step (by repeat (first | (with_reducible first | exact HB.out | apply below_alloc | apply pw_below_drewN | apply below_drew1) | exact HB.out)) hb); clear HB; have HB := n0_; clear n0_; (try clear hb); (try clear hb2); (try clear hk); (try clear hi)) | ((with_reducible refine gate_callee (f := 46) rfl ?_); refine goesL_ (some 85) rfl rfl Try.func46 (by kernel_rfl) rfl #[.string t331, .string t332] rfl (by (try simp only [List.map_toArray, List.map_cons, List.map_nil]); first | done | rfl | (simp only [List.length_drop, List.length_take]; rfl)) ?_; (with_reducible refine (impl_ReturnTiles.calls k t331 t332 t333 t334 _ A11.out).mono ?_); rintro e w' ⟨rfl, ⟨nd, rfl⟩⟩; refine ⟨_, rfl, ?_⟩) | ((with_reducible refine gate_callee (f := 47) rfl ?_); refine goesL_ (some 91) rfl rfl Try.func47 (by kernel_rfl) rfl #[.string t331, .string t332] rfl (by (try simp only [List.map_toArray, List.map_cons, List.map_nil]); first | done | rfl | (simp only [List.length_drop, List.length_take]; rfl)) ?_; (with_reducible refine (spec_ReturnTiles.calls k t331 t332 t335 t336 _ A12.out).mono ?_); rintro e w' ⟨rfl, ⟨nd, rfl⟩⟩; refine ⟨_, rfl, ?_⟩))
    (try simp only [Act.put, List.setIfInBounds_toArray, List.set_cons_zero, List.set_cons_succ])
    go_cut [131] (fun v131 wc => ∃ (kq : Nat) (x131_12 : Bool), v131 = .bool x131_12 ∧ Aside0 (laws_FnExchanges.j0 kq t314 t315 t317 t318 t319 t323 t324 t325 t326 t327 x131_12 = some r) ∧ Aside0 (kq ≤ k) ∧ Aside0 (Below w.heap.size w wc))
    case first =>
      have H := HC13.out
      clear HC13
      by_cases c21 : t319 = t322
      · rw [if_pos c21] at H
        have c21b0 : (t319 == t322) = true := beq_iff_eq.mpr c21
        have c21b1 : (t319 != t322) = false := bne_eq_false_iff_eq.mpr c21
        clear c21
        (first | rw [c21b0] | (simp only [i64_w, i32_w]; rw [c21b0]) | skip)
        by_cases c22 : t317.toList = t320.toList
        · rw [if_pos c22] at H
          have c22b0 : (t317.toList == t320.toList) = true := beq_iff_eq.mpr c22
          have c22b1 : (t317.toList != t320.toList) = false := bne_eq_false_iff_eq.mpr c22
          clear c22
          by_cases c23 : t318.toList = t321.toList
          · rw [if_pos c23] at H
            have c23b0 : (t318.toList == t321.toList) = true := beq_iff_eq.mpr c23
            have c23b1 : (t318.toList != t321.toList) = false := bne_eq_false_iff_eq.mpr c23
            clear c23
            by_cases c24 : t327 = t330
            · rw [if_pos c24] at H
              have c24b0 : (t327 == t330) = true := beq_iff_eq.mpr c24
              have c24b1 : (t327 != t330) = false := bne_eq_false_iff_eq.mpr c24
              clear c24
              by_cases c25 : t325.toList = t328.toList
              · rw [if_pos c25] at H
                have c25b0 : (t325.toList == t328.toList) = true := beq_iff_eq.mpr c25
                have c25b1 : (t325.toList != t328.toList) = false := bne_eq_false_iff_eq.mpr c25
                clear c25
                by_cases c26 : t326.toList = t329.toList
                · rw [if_pos c26] at H
                  have c26b0 : (t326.toList == t329.toList) = true := beq_iff_eq.mpr c26
                  have c26b1 : (t326.toList != t329.toList) = false := bne_eq_false_iff_eq.mpr c26
                  clear c26
                  by_cases c27 : t334 = t336
                  · rw [if_pos c27] at H
                    have c27b0 : (t334 == t336) = true := beq_iff_eq.mpr c27
                    have c27b1 : (t334 != t336) = false := bne_eq_false_iff_eq.mpr c27
                    clear c27
                    have H' := Aside0.mk H
                    clear H
                    go_wp2
                    go_meet
                    case rel => exact ⟨_, ((t333.toList != t335.toList)), (by first | rfl | (simp; done) | (simp [*]; done) | (simp [i64_w, i32_w]; done)), H', ⟨by first | omega | exact Nat.le_refl _⟩, ⟨by repeat (first | (with_reducible first | exact HB.out | apply below_alloc | apply pw_below_drewN | apply below_drew1) | exact HB.out)⟩⟩
                  · rw [if_neg c27] at H
                    have c27b0 : (t334 == t336) = false := beq_eq_false_iff_ne.mpr c27
                    have c27b1 : (t334 != t336) = true := bne_iff_ne.mpr c27
                    have H' := Aside0.mk H
                    clear H
                    go_wp2
                    go_meet
                    case rel => exact ⟨_, (true), (by first | rfl | (simp; done) | (simp [*]; done) | (simp [i64_w, i32_w]; done)), H', ⟨by first | omega | exact Nat.le_refl _⟩, ⟨by repeat (first | (with_reducible first | exact HB.out | apply below_alloc | apply pw_below_drewN | apply below_drew1) | exact HB.out)⟩⟩
                · rw [if_neg c26] at H
                  have c26b0 : (t326.toList == t329.toList) = false := beq_eq_false_iff_ne.mpr c26
                  have c26b1 : (t326.toList != t329.toList) = true := bne_iff_ne.mpr c26
                  have H' := Aside0.mk H
                  clear H
                  go_wp2
                  go_meet
                  case rel => exact ⟨_, (true), (by first | rfl | (simp; done) | (simp [*]; done) | (simp [i64_w, i32_w]; done)), H', ⟨by first | omega | exact Nat.le_refl _⟩, ⟨by repeat (first | (with_reducible first | exact HB.out | apply below_alloc | apply pw_below_drewN | apply below_drew1) | exact HB.out)⟩⟩
              · rw [if_neg c25] at H
                have c25b0 : (t325.toList == t328.toList) = false := beq_eq_false_iff_ne.mpr c25
                have c25b1 : (t325.toList != t328.toList) = true := bne_iff_ne.mpr c25
                have H' := Aside0.mk H
                clear H
                go_wp2
                go_meet
                case rel => exact ⟨_, (true), (by first | rfl | (simp; done) | (simp [*]; done) | (simp [i64_w, i32_w]; done)), H', ⟨by first | omega | exact Nat.le_refl _⟩, ⟨by repeat (first | (with_reducible first | exact HB.out | apply below_alloc | apply pw_below_drewN | apply below_drew1) | exact HB.out)⟩⟩
            · rw [if_neg c24] at H
              have c24b0 : (t327 == t330) = false := beq_eq_false_iff_ne.mpr c24
              have c24b1 : (t327 != t330) = true := bne_iff_ne.mpr c24
              have H' := Aside0.mk H
              clear H
              go_wp2
              go_meet
              case rel => exact ⟨_, (true), (by first | rfl | (simp; done) | (simp [*]; done) | (simp [i64_w, i32_w]; done)), H', ⟨by first | omega | exact Nat.le_refl _⟩, ⟨by repeat (first | (with_reducible first | exact HB.out | apply below_alloc | apply pw_below_drewN | apply below_drew1) | exact HB.out)⟩⟩
          · rw [if_neg c23] at H
            have c23b0 : (t318.toList == t321.toList) = false := beq_eq_false_iff_ne.mpr c23
            have c23b1 : (t318.toList != t321.toList) = true := bne_iff_ne.mpr c23
            have H' := Aside0.mk H
            clear H
            go_wp2
            go_meet
            case rel => exact ⟨_, (true), (by first | rfl | (simp; done) | (simp [*]; done) | (simp [i64_w, i32_w]; done)), H', ⟨by first | omega | exact Nat.le_refl _⟩, ⟨by repeat (first | (with_reducible first | exact HB.out | apply below_alloc | apply pw_below_drewN | apply below_drew1) | exact HB.out)⟩⟩
        · rw [if_neg c22] at H
          have c22b0 : (t317.toList == t320.toList) = false := beq_eq_false_iff_ne.mpr c22
          have c22b1 : (t317.toList != t320.toList) = true := bne_iff_ne.mpr c22
          have H' := Aside0.mk H
          clear H
          go_wp2
          go_meet
          case rel => exact ⟨_, (true), (by first | rfl | (simp; done) | (simp [*]; done) | (simp [i64_w, i32_w]; done)), H', ⟨by first | omega | exact Nat.le_refl _⟩, ⟨by repeat (first | (with_reducible first | exact HB.out | apply below_alloc | apply pw_below_drewN | apply below_drew1) | exact HB.out)⟩⟩
      · rw [if_neg c21] at H
        have c21b0 : (t319 == t322) = false := beq_eq_false_iff_ne.mpr c21
        have c21b1 : (t319 != t322) = true := bne_iff_ne.mpr c21
        (first | rw [c21b0] | (simp only [i64_w, i32_w]; rw [c21b0]) | skip)
        have H' := Aside0.mk H
        clear H
        go_wp2
        go_meet
        case rel => exact ⟨_, (true), (by first | rfl | (simp; done) | (simp [*]; done) | (simp [i64_w, i32_w]; done)), H', ⟨by first | omega | exact Nat.le_refl _⟩, ⟨by repeat (first | (with_reducible first | exact HB.out | apply below_alloc | apply pw_below_drewN | apply below_drew1) | exact HB.out)⟩⟩
    case rest =>
      clear HC13
      try clear c1
      try clear c2
      try clear p2
      try clear c3
      try clear c4
      try clear c8
      try clear c17
      try clear c18
      try clear c21
      try clear c21b0
      try clear c21b1
      try clear c22
      try clear c22b0
      try clear c22b1
      try clear c23
      try clear c23b0
      try clear c23b1
      try clear c24
      try clear c24b0
      try clear c24b1
      try clear c25
      try clear c25b0
      try clear c25b1
      try clear c26
      try clear c26b0
      try clear c26b1
      try clear c27
      try clear c27b0
      try clear c27b1
      obtain ⟨kq, x131_12, rfl, HA, HJ12, HB⟩ := hcut
      cases kq with
      | zero => exact absurd HA.out (by simp [laws_FnExchanges.j0])
      | succ kj12 =>
        have H := HA.out
        clear HA
        simp only [laws_FnExchanges.j0] at H
        by_cases c28 : x131_12 = true
        · subst c28
          have H1 : (none) = some r := by rw [if_pos rfl] at H; exact H
          clear H
          have H := H1
          clear H1
          exact absurd H (by simp)
        · replace c28 := Bool.eq_false_iff.mpr c28
          subst c28
          have H1 : (if t327 = 0 then (if t323.size + t324.size ≤ 9223372036854775807 then ((impl_SortTiles.f kj12 (t323 ++ t324)).bind fun bt337 => (if t325.size + t326.size ≤ 9223372036854775807 then ((impl_SortTiles.f kj12 (t325 ++ t326)).bind fun bt339 => (if bt337.2 = bt339.2 then (if bt337.1.toList = bt339.1.toList then (if (t325.size : Int) < 7 then (if t326.toList = ([] : List UInt8) then (laws_FnExchanges.j1 kj12 t314 t315 t317 t318 t319) else (none)) else (laws_FnExchanges.j1 kj12 t314 t315 t317 t318 t319)) else (none)) else (none))) else (none))) else (none)) else (laws_FnExchanges.j1 kj12 t314 t315 t317 t318 t319)) = some r := by rw [if_neg (show ¬ (false = true) by decide)] at H; exact H
          clear H
          have H := H1
          clear H1
          have HC29 := Aside0.mk H
          clear H
          go_upto_if 133 with (fail)
          go_cut [] (fun wc => ∃ (kq : Nat), Aside0 (laws_FnExchanges.j1 kq t314 t315 t317 t318 t319 = some r) ∧ Aside0 (kq ≤ kj12) ∧ Aside0 (Below w.heap.size w wc))
          case first =>
            have H := HC29.out
            clear HC29
            by_cases c30 : t327 = 0
            · rw [if_pos c30] at H
              have c30b0 : (t327 == 0) = true := beq_iff_eq.mpr c30
              have c30b1 : (t327 != 0) = false := bne_eq_false_iff_eq.mpr c30
              clear c30
              (first | rw [c30b0] | (simp only [i64_w, i32_w]; rw [c30b0]) | skip)
              by_cases c31 : t323.size + t324.size ≤ 9223372036854775807
              · rw [if_pos c31] at H
                have c31b0 := eq_true c31
                have c31b1 : decide (t323.size + t324.size ≤ 9223372036854775807) = true := decide_eq_true c31
                try have c31b2 : (9223372036854775807 < t323.size + t324.size) = False := eq_false (Nat.not_lt.2 c31)
                replace H := Option.bind_eq_some_iff.mp H
                obtain ⟨⟨t337, t338⟩, A320, H⟩ := H
                replace H : (if t325.size + t326.size ≤ 9223372036854775807 then ((impl_SortTiles.f kj12 (t325 ++ t326)).bind fun bt339 => (if t338 = bt339.2 then (if t337.toList = bt339.1.toList then (if (t325.size : Int) < 7 then (if t326.toList = ([] : List UInt8) then (laws_FnExchanges.j1 kj12 t314 t315 t317 t318 t319) else (none)) else (laws_FnExchanges.j1 kj12 t314 t315 t317 t318 t319)) else (none)) else (none))) else (none)) = some r := H
                have A32 := Aside0.mk A320
                clear A320
                by_cases c33 : t325.size + t326.size ≤ 9223372036854775807
                · rw [if_pos c33] at H
                  have c33b0 := eq_true c33
                  have c33b1 : decide (t325.size + t326.size ≤ 9223372036854775807) = true := decide_eq_true c33
                  try have c33b2 : (9223372036854775807 < t325.size + t326.size) = False := eq_false (Nat.not_lt.2 c33)
                  replace H := Option.bind_eq_some_iff.mp H
                  obtain ⟨⟨t339, t340⟩, A340, H⟩ := H
                  replace H : (if t338 = t340 then (if t337.toList = t339.toList then (if (t325.size : Int) < 7 then (if t326.toList = ([] : List UInt8) then (laws_FnExchanges.j1 kj12 t314 t315 t317 t318 t319) else (none)) else (laws_FnExchanges.j1 kj12 t314 t315 t317 t318 t319)) else (none)) else (none)) = some r := H
                  have A34 := Aside0.mk A340
                  clear A340
                  by_cases c35 : t338 = t340
                  · rw [if_pos c35] at H
                    have c35b0 : (t338 == t340) = true := beq_iff_eq.mpr c35
                    have c35b1 : (t338 != t340) = false := bne_eq_false_iff_eq.mpr c35
                    clear c35
                    by_cases c36 : t337.toList = t339.toList
                    · rw [if_pos c36] at H
                      have c36b0 : (t337.toList == t339.toList) = true := beq_iff_eq.mpr c36
                      have c36b1 : (t337.toList != t339.toList) = false := bne_eq_false_iff_eq.mpr c36
                      clear c36
                      by_cases c37 : (t325.size : Int) < 7
                      · rw [if_pos c37] at H
                        have c37b0 : decide ((t325.size : Int) < 7) = true := decide_eq_true c37
                        have c37b1 : decide (t325.size < 7) = true := decide_eq_true (by omega)
                        clear c37
                        by_cases c38 : t326.toList = ([] : List UInt8)
                        · rw [if_pos c38] at H
                          have c38b0 : (t326.toList == ([] : List UInt8)) = true := beq_iff_eq.mpr c38
                          have c38b1 : (t326.toList != ([] : List UInt8)) = false := bne_eq_false_iff_eq.mpr c38
                          clear c38
                          have H' := Aside0.mk H
                          clear H
                          go_wp2_with (first | ((with_reducible refine gate_callee (f := 48) rfl ?_); refine goesL_ (some 138) rfl rfl Try.func48 (by kernel_rfl) rfl #[.string (t323 ++ t324)] rfl (by (try simp only [List.map_toArray, List.map_cons, List.map_nil]); first | done | rfl | (simp only [List.length_drop, List.length_take]; rfl)) ?_; (with_reducible refine (impl_SortTiles.calls kj12 (t323 ++ t324) t337 t338 _ A32.out).mono ?_); rintro e w39 ⟨rfl, hb⟩; refine ⟨_, rfl, ?_⟩; have n0_ := Aside0.mk (below_step (by repeat (first | (with_reducible first | exact HB.out | apply below_alloc | apply pw_below_drewN | apply below_drew1) | exact HB.out)) hb); clear HB; have HB := n0_; clear n0_; (try clear hb); (try clear hb2); (try clear hk); (try clear hi)) | ((with_reducible refine gate_callee (f := 48) rfl ?_); refine goesL_ (some 145) rfl rfl Try.func48 (by kernel_rfl) rfl #[.string (t325 ++ t326)] rfl (by (try simp only [List.map_toArray, List.map_cons, List.map_nil]); first | done | rfl | (simp only [List.length_drop, List.length_take]; rfl)) ?_; (with_reducible refine (impl_SortTiles.calls kj12 (t325 ++ t326) t339 t340 _ A34.out).mono ?_); rintro e w40 ⟨rfl, hb⟩; refine ⟨_, rfl, ?_⟩; have n0_ := Aside0.mk (below_step (by repeat (first | (with_reducible first | exact HB.out | apply below_alloc | apply pw_below_drewN | apply below_drew1) | exact HB.out)) hb); clear HB; have HB := n0_; clear n0_; (try clear hb); (try clear hb2); (try clear hk); (try clear hi)))
                          go_meet
                          case rel => exact ⟨_, H', ⟨by have := HJ12.out; first | omega | exact Nat.le_refl _⟩, ⟨by repeat (first | (with_reducible first | exact HB.out | apply below_alloc | apply pw_below_drewN | apply below_drew1) | exact HB.out)⟩⟩
                        · rw [if_neg c38] at H
                          exact absurd H (by simp)
                      · rw [if_neg c37] at H
                        have c37b0 : decide ((t325.size : Int) < 7) = false := decide_eq_false c37
                        have c37b1 : decide (t325.size < 7) = false := decide_eq_false (by omega)
                        clear c37
                        have H' := Aside0.mk H
                        clear H
                        go_wp2_with (first | ((with_reducible refine gate_callee (f := 48) rfl ?_); refine goesL_ (some 138) rfl rfl Try.func48 (by kernel_rfl) rfl #[.string (t323 ++ t324)] rfl (by (try simp only [List.map_toArray, List.map_cons, List.map_nil]); first | done | rfl | (simp only [List.length_drop, List.length_take]; rfl)) ?_; (with_reducible refine (impl_SortTiles.calls kj12 (t323 ++ t324) t337 t338 _ A32.out).mono ?_); rintro e w41 ⟨rfl, hb⟩; refine ⟨_, rfl, ?_⟩; have n0_ := Aside0.mk (below_step (by repeat (first | (with_reducible first | exact HB.out | apply below_alloc | apply pw_below_drewN | apply below_drew1) | exact HB.out)) hb); clear HB; have HB := n0_; clear n0_; (try clear hb); (try clear hb2); (try clear hk); (try clear hi)) | ((with_reducible refine gate_callee (f := 48) rfl ?_); refine goesL_ (some 145) rfl rfl Try.func48 (by kernel_rfl) rfl #[.string (t325 ++ t326)] rfl (by (try simp only [List.map_toArray, List.map_cons, List.map_nil]); first | done | rfl | (simp only [List.length_drop, List.length_take]; rfl)) ?_; (with_reducible refine (impl_SortTiles.calls kj12 (t325 ++ t326) t339 t340 _ A34.out).mono ?_); rintro e w42 ⟨rfl, hb⟩; refine ⟨_, rfl, ?_⟩; have n0_ := Aside0.mk (below_step (by repeat (first | (with_reducible first | exact HB.out | apply below_alloc | apply pw_below_drewN | apply below_drew1) | exact HB.out)) hb); clear HB; have HB := n0_; clear n0_; (try clear hb); (try clear hb2); (try clear hk); (try clear hi)))
                        go_meet
                        case rel => exact ⟨_, H', ⟨by have := HJ12.out; first | omega | exact Nat.le_refl _⟩, ⟨by repeat (first | (with_reducible first | exact HB.out | apply below_alloc | apply pw_below_drewN | apply below_drew1) | exact HB.out)⟩⟩
                    · rw [if_neg c36] at H
                      exact absurd H (by simp)
                  · rw [if_neg c35] at H
                    exact absurd H (by simp)
                · rw [if_neg c33] at H
                  exact absurd H (by simp)
              · rw [if_neg c31] at H
                exact absurd H (by simp)
            · rw [if_neg c30] at H
              have c30b0 : (t327 == 0) = false := beq_eq_false_iff_ne.mpr c30
              have c30b1 : (t327 != 0) = true := bne_iff_ne.mpr c30
              (first | rw [c30b0] | (simp only [i64_w, i32_w]; rw [c30b0]) | skip)
              have H' := Aside0.mk H
              clear H
              go_wp2
              go_meet
              case rel => exact ⟨_, H', ⟨by have := HJ12.out; first | omega | exact Nat.le_refl _⟩, ⟨by repeat (first | (with_reducible first | exact HB.out | apply below_alloc | apply pw_below_drewN | apply below_drew1) | exact HB.out)⟩⟩
          case rest =>
            clear HC29
            try clear c1
            try clear c2
            try clear p2
            try clear c3
            try clear c4
            try clear c8
            try clear c17
            try clear c18
            try clear c21
            try clear c21b0
            try clear c21b1
            try clear c22
            try clear c22b0
            try clear c22b1
            try clear c23
            try clear c23b0
            try clear c23b1
            try clear c24
            try clear c24b0
            try clear c24b1
            try clear c25
            try clear c25b0
            try clear c25b1
            try clear c26
            try clear c26b0
            try clear c26b1
            try clear c27
            try clear c27b0
            try clear c27b1
            try clear c28
            try clear c30
            try clear c30b0
            try clear c30b1
            try clear c31
            try clear c31b0
            try clear c31b1
            try clear c31b2
            try clear c33
            try clear c33b0
            try clear c33b1
            try clear c33b2
            try clear c35
            try clear c35b0
            try clear c35b1
            try clear c36
            try clear c36b0
            try clear c36b1
            try clear c37
            try clear c37b0
            try clear c37b1
            try clear c38
            try clear c38b0
            try clear c38b1
            try clear c41
            try clear c42
            try clear p2
            obtain ⟨kq, HA, HJ28, HB⟩ := hcut
            cases kq with
            | zero => exact absurd HA.out (by simp [laws_FnExchanges.j1])
            | succ kj28 =>
              have H := HA.out
              clear HA
              simp only [laws_FnExchanges.j1] at H
              by_cases c43 : t319 = 0
              · rw [if_pos c43] at H
                have c43b0 : (t319 == 0) = true := beq_iff_eq.mpr c43
                have c43b1 : (t319 != 0) = false := bne_eq_false_iff_eq.mpr c43
                clear c43
                by_cases c44 : t314.size + t315.size ≤ 9223372036854775807
                · rw [if_pos c44] at H
                  have c44b0 := eq_true c44
                  have c44b1 : decide (t314.size + t315.size ≤ 9223372036854775807) = true := decide_eq_true c44
                  try have c44b2 : (9223372036854775807 < t314.size + t315.size) = False := eq_false (Nat.not_lt.2 c44)
                  replace H := Option.bind_eq_some_iff.mp H
                  obtain ⟨⟨t341, t342⟩, A450, H⟩ := H
                  replace H : (if t317.size + t318.size ≤ 9223372036854775807 then ((impl_SortTiles.f kj28 (t317 ++ t318)).bind fun bt343 => (if t342 = bt343.2 then (if t341.toList = bt343.1.toList then (if (t317.size : Int) = (t315.size : Int) then (some ((t318.size : Int) == (t314.size : Int))) else (none)) else (none)) else (none))) else (none)) = some r := H
                  have A45 := Aside0.mk A450
                  clear A450
                  by_cases c46 : t317.size + t318.size ≤ 9223372036854775807
                  · rw [if_pos c46] at H
                    have c46b0 := eq_true c46
                    have c46b1 : decide (t317.size + t318.size ≤ 9223372036854775807) = true := decide_eq_true c46
                    try have c46b2 : (9223372036854775807 < t317.size + t318.size) = False := eq_false (Nat.not_lt.2 c46)
                    replace H := Option.bind_eq_some_iff.mp H
                    obtain ⟨⟨t343, t344⟩, A470, H⟩ := H
                    replace H : (if t342 = t344 then (if t341.toList = t343.toList then (if (t317.size : Int) = (t315.size : Int) then (some ((t318.size : Int) == (t314.size : Int))) else (none)) else (none)) else (none)) = some r := H
                    have A47 := Aside0.mk A470
                    clear A470
                    by_cases c48 : t342 = t344
                    · rw [if_pos c48] at H
                      have c48b0 : (t342 == t344) = true := beq_iff_eq.mpr c48
                      have c48b1 : (t342 != t344) = false := bne_eq_false_iff_eq.mpr c48
                      clear c48
                      by_cases c49 : t341.toList = t343.toList
                      · rw [if_pos c49] at H
                        have c49b0 : (t341.toList == t343.toList) = true := beq_iff_eq.mpr c49
                        have c49b1 : (t341.toList != t343.toList) = false := bne_eq_false_iff_eq.mpr c49
                        clear c49
                        by_cases c50 : (t317.size : Int) = (t315.size : Int)
                        · rw [if_pos c50] at H
                          have c50b0 : ((t317.size : Int) == (t315.size : Int)) = true := beq_iff_eq.mpr c50
                          have c50b1 : ((t317.size : Int) != (t315.size : Int)) = false := bne_eq_false_iff_eq.mpr c50
                          have c50b2 : (t317.size == t315.size) = true := by first | simpa using c50 | (simp at c50 ⊢; omega)
                          clear c50
                          obtain rfl := Option.some.inj H
                          go_wp2_with (first | ((with_reducible refine gate_callee (f := 48) rfl ?_); refine goesL_ (some 171) rfl rfl Try.func48 (by kernel_rfl) rfl #[.string (t314 ++ t315)] rfl (by (try simp only [List.map_toArray, List.map_cons, List.map_nil]); first | done | rfl | (simp only [List.length_drop, List.length_take]; rfl)) ?_; (with_reducible refine (impl_SortTiles.calls kj28 (t314 ++ t315) t341 t342 _ A45.out).mono ?_); rintro e w51 ⟨rfl, hb⟩; refine ⟨_, rfl, ?_⟩; have n0_ := Aside0.mk (below_step (by repeat (first | (with_reducible first | exact HB.out | apply below_alloc | apply pw_below_drewN | apply below_drew1) | exact HB.out)) hb); clear HB; have HB := n0_; clear n0_; (try clear hb); (try clear hb2); (try clear hk); (try clear hi)) | ((with_reducible refine gate_callee (f := 48) rfl ?_); refine goesL_ (some 178) rfl rfl Try.func48 (by kernel_rfl) rfl #[.string (t317 ++ t318)] rfl (by (try simp only [List.map_toArray, List.map_cons, List.map_nil]); first | done | rfl | (simp only [List.length_drop, List.length_take]; rfl)) ?_; (with_reducible refine (impl_SortTiles.calls kj28 (t317 ++ t318) t343 t344 _ A47.out).mono ?_); rintro e w52 ⟨rfl, hb⟩; refine ⟨_, rfl, ?_⟩; have n0_ := Aside0.mk (below_step (by repeat (first | (with_reducible first | exact HB.out | apply below_alloc | apply pw_below_drewN | apply below_drew1) | exact HB.out)) hb); clear HB; have HB := n0_; clear n0_; (try clear hb); (try clear hb2); (try clear hk); (try clear hi)))
                          go_ret
                          exact ⟨by first | rfl | (simp [errW_none, errW_some] <;> rfl) | (simp [*, errW_none, errW_some] <;> rfl), by repeat (first | (with_reducible first | exact HB.out | apply below_alloc | apply pw_below_drewN | apply below_drew1) | exact HB.out)⟩
                        · rw [if_neg c50] at H
                          exact absurd H (by simp)
                      · rw [if_neg c49] at H
                        exact absurd H (by simp)
                    · rw [if_neg c48] at H
                      exact absurd H (by simp)
                  · rw [if_neg c46] at H
                    exact absurd H (by simp)
                · rw [if_neg c44] at H
                  exact absurd H (by simp)
              · rw [if_neg c43] at H
                have c43b0 : (t319 == 0) = false := beq_eq_false_iff_ne.mpr c43
                have c43b1 : (t319 != 0) = true := bne_iff_ne.mpr c43
                obtain rfl := Option.some.inj H
                go_wp2
                go_ret
                exact ⟨by first | rfl | (simp [errW_none, errW_some] <;> rfl) | (simp [*, errW_none, errW_some] <;> rfl), by repeat (first | (with_reducible first | exact HB.out | apply below_alloc | apply pw_below_drewN | apply below_drew1) | exact HB.out)⟩

/-- THE ONE PURE STATEMENT of laws_FnExchanges: yours. -/
def laws_FnExchanges.Pure : Prop := ∀ (l0 : List Int), l0.length ≤ maxLen → l0.length * 1 ≤ 140737488351232 → (∀ x ∈ l0, (Lit.int .u8 x).wf = true) → ∃ k, laws_FnExchanges.f k l0 = some true
theorem laws_FnExchanges.walk (P : laws_FnExchanges.Pure) (a0 : Option Addr) (len0 cap0 : Nat) (z0 : List Int) (w : World) (w0 : (a0 = none ∧ len0 = 0 ∧ cap0 = 0 ∧ z0 = []) ∨ ∃ x, a0 = some x ∧ len0 ≤ cap0 ∧ cap0 ≤ maxLen ∧ z0.length = cap0 ∧ (∀ i, i < z0.length → w.cell? (x.add i) = some (.int .u8 (z0.getD i 0))) ∧ ∀ n ∈ z0, (Lit.int .u8 n).wf = true) (y0 : len0 * 1 ≤ 140737488351232) :
    Calls Try.prog 8 #[.slice a0 len0 cap0] w fun e w' => e = .returned (.bool true) ∧ Below w.heap.size w w' := by
  obtain ⟨l0, rfl, hr0, hm0, hw0, hc0⟩ := ReadsInt.ofRowC w0
  obtain ⟨k, h⟩ := P l0 hm0 y0 hw0
  refine (laws_FnExchanges.calls k _ _ l0 true w (Kd.C_of_reads (d := (0 : Int)) (h1 := fun _ => rfl) hr0) hc0 h).mono ?_
  rintro e w' ⟨rfl, hd⟩
  exact ⟨rfl, hd⟩

end Go.Proofs.Ytjolcfheommchaa.OFnExchanges

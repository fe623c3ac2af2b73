/- The program's onlySmall: a string's bytes, looked at one after the other. -/
import Derived.Test.YtjolcfheommchaaDoorWWords
import Derived.Test.YtjolcfheommchaaDoorWLast
import Derived.Test.YtjolcfheommchaaDoorProg
import Derived.Lib.ConvBytes
import Derived.Lib.Hide
import Derived.WalkKit
import Derived.LoopTactic
import Derived.Below
namespace Go.Proofs.YtjolcfheommchaaDoor.G
set_option linter.unusedVariables false
set_option linter.unusedSimpArgs false
open Go.RowKit Go.Lib Go.Proofs.YtjolcfheommchaaDoorW.PrintWords Go.Proofs.YtjolcfheommchaaDoorW.PrintLast
/-- Is a byte a small letter? -/
def smallB (c : Int) : Bool := decide (97 ≤ c) && decide (c ≤ 122)
/-- Does a string consist of small letters? -/
def smallS (s : ByteArray) : Bool := (bytesOf s).all smallB
def impl_onlySmall.f (a0 : ByteArray) : Option Bool := if a0.size ≤ 1000000000000 then some (smallS a0) else none
set_option maxHeartbeats 1000000 in
theorem small_calls (c : Int) (w : World) (h0 : 0 ≤ c) (h1 : c ≤ 255) :
    Calls Tryd.prog 102 #[.int .u8 c] w fun e w' => e = .returned (.bool (smallB c)) ∧ w = w' := by
  by_cases h2 : 97 ≤ c
  · by_cases h3 : c ≤ 122
    · have e : smallB c = true := by unfold smallB; rw [decide_eq_true h2, decide_eq_true h3]; rfl
      rw [e]; clear e
      go_enter Tryd.func102, Tryd.ntmps102
      go_wp2
      go_ret
      exact ⟨by simp <;> omega, rfl⟩
    · have e : smallB c = false := by unfold smallB; rw [decide_eq_true h2, decide_eq_false h3]; rfl
      rw [e]; clear e
      go_enter Tryd.func102, Tryd.ntmps102
      go_wp2
      go_ret
      exact ⟨by simp <;> omega, rfl⟩
  · have e : smallB c = false := by unfold smallB; rw [decide_eq_false h2]; rfl
    rw [e]; clear e
    go_enter Tryd.func102, Tryd.ntmps102
    go_wp2
    go_ret
    exact ⟨rfl, rfl⟩
theorem bytes_get (s : ByteArray) (k : Nat) (h : k < s.size) : ((s.data.toList.getD k 0).toNat : Int) = bt s (k : Int) := by
  rw [← bt_at s (k : Int) (by simpa using h)]
  have hl : k < s.data.toList.length := by rw [data_length]; exact h
  rw [List.getD_eq_getElem?_getD, List.getElem?_eq_getElem hl]
  rfl
theorem get_bytesOf (s : ByteArray) (k : Nat) (h : k < (bytesOf s).length) : (bytesOf s)[k] = bt s (k : Int) := by
  rw [← rd_bytesOf]; unfold rd; simp [List.getD, h]
theorem small_yes (s : ByteArray) (h : ∀ j : Nat, j < s.size → smallB (bt s (j : Int)) = true) : smallS s = true := by
  unfold smallS
  rw [List.all_eq_true]
  intro x hx
  obtain ⟨k, hk, rfl⟩ := List.getElem_of_mem hx
  rw [get_bytesOf s k hk]
  exact h k (by rwa [bytesOf_length] at hk)
theorem small_no (s : ByteArray) (k : Nat) (hk : k < s.size) (h : smallB (bt s (k : Int)) = false) : smallS s = false := by
  unfold smallS
  rw [List.all_eq_false]
  have hl : k < (bytesOf s).length := by rw [bytesOf_length]; exact hk
  exact ⟨(bytesOf s)[k], List.getElem_mem hl, by rw [get_bytesOf s k hl, h]; simp⟩
set_option maxHeartbeats 1000000 in
set_option maxRecDepth 100000 in
theorem impl_onlySmall.calls (a0 : ByteArray) (r : Bool) (w : World) (h : impl_onlySmall.f a0 = some r) :
    Calls Tryd.prog 90 #[.string a0] w fun e w' => e = .returned (.bool r) ∧ Below w.heap.size w w' := by
  unfold impl_onlySmall.f at h
  by_cases hz : a0.size ≤ 1000000000000
  · rw [if_pos hz] at h
    cases h
    have kb := fun W => print_bytes (P := Tryd.prog) 9 31 5 Tryd.underlying9 Tryd.underlying31 Tryd.underlying5 a0 W
    have HB := Lib.hid (bytes_below (Below.refl w.heap.size w) (Nat.le_refl _) 5 a0)
    have HC := Lib.hid (fun j hj => Lib.bytesWorld_cell w 5 a0 j hj)
    go_enter Tryd.func90, Tryd.ntmps90
    go_wp2_with (fail)
    clear kb
    generalize Lib.bytesWorld w 5 a0 = w1 at HB HC ⊢
    generalize grownCap w a0.size 0 5 = cp
    go_loop [8] (fun i => ∃ k : Nat, k ≤ a0.size ∧ i = .int .i64 k ∧ Hid (∀ j : Nat, j < k → smallB (bt a0 (j : Int)) = true)) (fun i => a0.size - (intOf i).toNat)
    case atStart => exact ⟨0, Nat.zero_le _, rfl, Lib.hid fun j hj => absurd hj (Nat.not_lt_zero j)⟩
    case round =>
      obtain ⟨k, hk, rfl, HS⟩ := hrel
      by_cases hlt : k < a0.size
      · have hc := HC.out k hlt
        rw [bytes_get a0 k hlt] at hc
        have hr := bt_range a0 (k : Int)
        obtain ⟨c, HE⟩ : ∃ c, Hid (c = bt a0 (k : Int)) := ⟨_, Lib.hid rfl⟩
        rw [← HE.out] at hc hr
        obtain ⟨hr0, hr1⟩ := hr
        cases hb : smallB c with
        | true =>
          have HB2 := Lib.hid hb
          clear hb
          go_wp2_with (fail)
          refine (small_calls c _ hr0 hr1).mono ?_
          rintro e w' ⟨rfl, rfl⟩
          rw [HB2.out]
          go_wp2_with (fail)
          go_round
          case rel => exact ⟨k + 1, by omega, by go_num, Lib.hid fun j hj => if h : j < k then HS.out j h else by rw [show j = k by omega, ← HE.out]; exact HB2.out⟩
          case measure => simp [intOf]; omega
        | false =>
          have HB2 := Lib.hid hb
          clear hb
          go_wp2_with (fail)
          refine (small_calls c _ hr0 hr1).mono ?_
          rintro e w' ⟨rfl, rfl⟩
          rw [HB2.out]
          go_wp2_with (fail)
          go_ret
          exact ⟨by rw [small_no a0 k hlt (by rw [← HE.out]; exact HB2.out)]; rfl, HB.out⟩
      · go_wp2_with (fail)
        go_ret
        exact ⟨by rw [small_yes a0 fun j hj => HS.out j (by omega)]; rfl, HB.out⟩
  · rw [if_neg hz] at h; cases h
end Go.Proofs.YtjolcfheommchaaDoor.G

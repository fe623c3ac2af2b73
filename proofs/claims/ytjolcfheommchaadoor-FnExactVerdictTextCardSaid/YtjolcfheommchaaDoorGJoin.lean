/- The program's joined: words with single blanks between them. -/
import Derived.Test.YtjolcfheommchaaDoorShelf
import Derived.Test.YtjolcfheommchaaDoorWWords
import Derived.WalkKit
import Derived.Lib.Hide
namespace Go.Proofs.YtjolcfheommchaaDoor.G
set_option linter.unusedVariables false
open Go.RowKit Go.Lib Go.Proofs.YtjolcfheommchaaDoorW.PrintWords
def joinS (l : List ByteArray) : ByteArray := ⟨(Lib.join (l.map (·.data.toList)) [32]).toArray⟩
def impl_joined.f (l0 : List ByteArray) : Option ByteArray := if l0.length ≤ 140737488355328 ∧ (Lib.join (l0.map (·.data.toList)) [32]).length ≤ 140737488355328 then some (joinS l0) else none
theorem strs_cells {w : World} {A : Option Addr} {xs : List ByteArray} (h : Kd.C Kd.string w A xs.length xs) (hx : xs ≠ []) :
    ∃ b o, A = some ⟨b, o, none⟩ ∧ b < w.heap.size ∧ ∀ (j : Nat) x, xs[j]? = some x → w.cell? ⟨b, o + j, none⟩ = some (.string x) := by
  have hpos : 0 < xs.length := List.length_pos_iff.2 hx
  obtain ⟨ad, he, hc⟩ := h.2.2 hpos
  have cell : ∀ (j : Nat) x, xs[j]? = some x → w.cell? (ad.add j) = some (.string x) := by
    intro j x hj
    obtain ⟨c, hl, hK, hcell⟩ := hc j x hj
    have hK' : c = [.string x] := hK
    subst hK'
    have := hcell 0 _ rfl
    have hz : Kd.string.sz = 1 := rfl
    rwa [hz, Nat.mul_one, Nat.add_zero] at this
  have h0 := cell 0 xs[0] (List.getElem?_eq_getElem hpos)
  have hs : ad.spot = none := by
    unfold World.cell? Addr.add at h0
    rw [if_pos rfl] at h0
    split at h0
    · split at h0
      · cases h0
      · rename_i hsp; simpa using hsp
    · cases h0
  obtain ⟨b, o, s⟩ := ad
  simp only at hs
  subst hs
  refine ⟨b, o, he, World.block_lt_of_cell? w _ h0, fun j x hj => ?_⟩
  have := cell j x hj
  unfold Addr.add at this
  by_cases hj0 : j = 0
  · subst hj0; rw [if_pos rfl] at this; exact this
  · rw [if_neg hj0] at this; exact this
theorem impl_joined.calls (A0 : Option Addr) (c0 : Nat) (l0 : List ByteArray) (r : ByteArray) (w : World) (hr0 : Kd.C Kd.string w A0 l0.length l0) (hc0 : l0.length ≤ c0) (h : impl_joined.f l0 = some r) :
    Calls Tryd.prog 31 #[.slice A0 l0.length c0] w fun e w' => e = .returned (.string r) ∧ Below w.heap.size w w' := by
  unfold impl_joined.f at h
  by_cases hc : l0.length ≤ 140737488355328 ∧ (Lib.join (l0.map (·.data.toList)) [32]).length ≤ 140737488355328
  · rw [if_pos hc] at h
    cases h
    by_cases hx : l0 = []
    · subst hx
      clear hc hc0 hr0
      go_enter Tryd.func31, Tryd.ntmps31
      go_wp2_with (fail)
      refine (Tryd.strings_Join_none _ _ _ _).mono ?_
      rintro e w' ⟨rfl, rfl⟩
      go_wp2_with (fail)
      go_ret
      exact ⟨rfl, Below.refl _ _⟩
    · obtain ⟨b, o, rfl, hb, hcells⟩ := strs_cells hr0 hx
      have H1 := Lib.hid hc
      have H2 := Lib.hid hcells
      have H3 := Lib.hid hb
      have H4 := Lib.hid hc0
      clear hc hcells hb hc0 hr0 hx
      go_enter Tryd.func31, Tryd.ntmps31
      go_wp2_with (fail)
      refine (Tryd.strings_Join b o c0 l0 _ _ H2.out H3.out H1.out.1 H4.out H1.out.2).mono ?_
      rintro e w' ⟨rfl, hb⟩
      have HB := Lib.hid hb
      clear hb
      go_wp2_with (fail)
      go_ret
      exact ⟨rfl, HB.out⟩
  · rw [if_neg hc] at h; cases h
end Go.Proofs.YtjolcfheommchaaDoor.G

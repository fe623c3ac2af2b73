/- The reference's test of a lexicon behind a pointer, walked. -/
import Derived.Test.YtjolcfheommchaaDoorOAdjAx
import Derived.Lib.Hide
namespace Go.Proofs.YtjolcfheommchaaDoor.G
set_option linter.unusedVariables false
set_option linter.unusedSimpArgs false
open Go.RowKit Go.Lib Go.Proofs.YtjolcfheommchaaDoorW.PrintWords Go.Proofs.YtjolcfheommchaaDoorW.PrintLast Go.Proofs.YtjolcfheommchaaDoor.Open
def strAt (xs : List ByteArray) (i : Nat) : ByteArray := xs.getD i ByteArray.empty
def l05Loop (k : Nat) (xs : List ByteArray) : Nat → Nat → Option Bool
  | _, 0 => some true
  | i, d + 1 => (OAdjA.spec_l05Long.f k (strAt xs i)).bind fun b => if b = true ∧ (i = 0 ∨ Op.bytesLess (strAt xs (i - 1)).toList (strAt xs i).toList = true) then l05Loop k xs (i + 1) d else some false
def spec_l05Ok.f (k : Nat) (l0 : List ByteArray) : Option Bool := (l05Loop k l0 0 l0.length).map fun b => b && decide ((l0.length : Int) ≤ 200)
theorem l05Loop_mono (xs : List ByteArray) (k : Nat) : ∀ d i, LeO (l05Loop k xs i d) (l05Loop (k + 1) xs i d)
  | 0, _ => LeO.refl _
  | d + 1, i => by
    unfold l05Loop
    exact LeO.bind (OAdjA.spec_l05Long.mono _ _) fun b => LeO.ite (l05Loop_mono xs k d (i + 1)) (LeO.refl _)
theorem spec_l05Ok.mono : ∀ l0 k, LeO (spec_l05Ok.f k l0) (spec_l05Ok.f (k + 1) l0) := by
  intro l0 k r h
  unfold spec_l05Ok.f at h ⊢
  rw [Option.map_eq_some_iff] at h ⊢
  obtain ⟨b, hb, hr⟩ := h
  exact ⟨b, l05Loop_mono l0 k _ _ b hb, hr⟩
theorem strs_at {w : World} {A : Option Addr} {xs : List ByteArray} (h : Kd.C Kd.string w A xs.length xs) (hx : 0 < xs.length) :
    ∃ b o, A = some ⟨b, o, none⟩ ∧ b < w.heap.size ∧ ∀ (j : Nat), j < xs.length → w.cell? ⟨b, o + j, none⟩ = some (.string (strAt xs j)) := by
  obtain ⟨ad, he, hc⟩ := h.2.2 hx
  have cell : ∀ (j : Nat), j < xs.length → w.cell? (ad.add j) = some (.string (strAt xs j)) := by
    intro j hj
    obtain ⟨c, hl, hK, hcell⟩ := hc j _ (List.getElem?_eq_getElem hj)
    have hK' : c = [.string xs[j]] := hK
    subst hK'
    have := hcell 0 _ rfl
    have hz : Kd.string.sz = 1 := rfl
    rw [hz, Nat.mul_one, Nat.add_zero] at this
    rw [this]; unfold strAt; rw [List.getD_eq_getElem?_getD, List.getElem?_eq_getElem hj]; rfl
  have h0 := cell 0 hx
  have hs : ad.spot = none := by
    unfold World.cell? Addr.add at h0
    rw [if_pos rfl] at h0
    split at h0
    · split at h0
      · cases h0
      · rename_i hsp; simpa using hsp
    · cases h0
  obtain ⟨b, o, s⟩ := ad
  simp only at hs
  subst hs
  refine ⟨b, o, he, World.block_lt_of_cell? w _ h0, fun j hj => ?_⟩
  have := cell j hj
  unfold Addr.add at this
  by_cases hj0 : j = 0
  · subst hj0; rw [if_pos rfl] at this; exact this
  · rw [if_neg hj0] at this; exact this
theorem quiet_drawn {P : Program} {f : FuncId} {args : Array Value} {w : World} {n : Nat} {v : Value} (h : Calls P f args (w.drewN n) fun e w' => e = .returned v ∧ Drawn0 (w.drewN n) w') :
    Calls P f args (w.drewN n) fun e w'' => e = .returned v ∧ ∃ m, w'' = w.drewN m :=
  h.mono fun _ _ ⟨he, ⟨⟨m, hm⟩⟩⟩ => ⟨he, n + m, by rw [hm, World.drewN_drewN]⟩
set_option maxHeartbeats 4000000 in
set_option maxRecDepth 100000 in
theorem l05Ok_calls (k : Nat) (g : Addr) (A0 : Option Addr) (c0 : Nat) (l0 : List ByteArray) (r : Bool) (w : World) (hg : w.cell? g = some (.slice A0 l0.length c0)) (hr0 : Kd.C Kd.string w A0 l0.length l0) (hc0 : l0.length ≤ c0) (h : spec_l05Ok.f k l0 = some r) :
    Calls Tryd.prog 46 #[.pointer (some g)] w fun e w' => e = .returned (.bool r) ∧ Drawn0 w w' := by
  unfold spec_l05Ok.f at h
  obtain ⟨b, hb, rfl⟩ := Option.map_eq_some_iff.1 h
  clear h
  have hm : l0.length ≤ 9223372036854775807 := hr0.2.1
  have HL := Lib.hid hb
  clear hb
  have HR := Lib.hid hr0
  clear hr0
  go_enter Tryd.func46, Tryd.ntmps46
  go_wp2_with (fail)
  go_loopw [3] (fun i wr => ∃ kk : Nat, kk ≤ l0.length ∧ i = .int .i64 kk ∧ (∃ n, wr = w.drewN n) ∧ Hid (l05Loop k l0 kk (l0.length - kk) = some b)) (fun i _ => l0.length - (intOf i).toNat)
  case atStart => exact ⟨0, Nat.zero_le _, rfl, ⟨0, (World.drewN_zero _).symm⟩, HL⟩
  case round =>
    obtain ⟨kk, hk, rfl, ⟨n, rfl⟩, HS⟩ := hrel
    by_cases hlt : kk < l0.length
    · obtain ⟨bb, o, rfl, hbb, hcell⟩ := strs_at HR.out (by omega)
      have hc1 := hcell kk hlt
      have HH := HS.out
      rw [show l0.length - kk = (l0.length - (kk + 1)) + 1 by omega] at HH
      obtain ⟨q, hq, hq2⟩ := Option.bind_eq_some_iff.1 HH
      have HQ := Lib.hid hq
      have HQ2 := Lib.hid hq2
      clear HH hq hq2
      have hc1' : (w.drewN n).cell? ⟨bb, o + kk, none⟩ = some (.string (strAt l0 kk)) := hc1
      have hg' : (w.drewN n).cell? g = some (.slice (some ⟨bb, o, none⟩) l0.length c0) := hg
      have HD := Lib.hid (show ∃ m, w.drewN n = w.drewN m from ⟨n, rfl⟩)
      generalize w.drewN n = wr at hc1' hg' HD ⊢
      cases q with
      | false =>
        go_wp2_with (fail)
        go_quiet ((go_at_call 66; exact quiet_drawn (OAdjA.spec_l05Long.calls k _ _ _ HQ.out)))
        go_wp2_with (fail)
        go_ret
        have hbb2 : b = false := by have h := HQ2.out; rw [if_neg (by simp)] at h; exact (Option.some.inj h).symm
        subst hbb2
        obtain ⟨m, rfl⟩ := HD.out
        exact ⟨rfl, by rw [World.drewN_drewN]; exact ⟨⟨_, rfl⟩⟩⟩
      | true =>
        by_cases hk0 : kk = 0
        · have hd0 : decide (0 < (kk : Int)) = false := decide_eq_false (by omega)
          have hd1 : decide (0 < kk) = false := decide_eq_false (by omega)
          have HK0 := Lib.hid hk0
          clear hk0
          go_wp2_with (fail)
          go_quiet ((go_at_call 66; exact quiet_drawn (OAdjA.spec_l05Long.calls k _ _ _ HQ.out)))
          go_wp2_with (fail)
          go_roundw
          case rel =>
            obtain ⟨m, rfl⟩ := HD.out
            exact ⟨kk + 1, by omega, by go_num, ⟨_, World.drewN_drewN _ _ _⟩, Lib.hid (by have h := HQ2.out; rw [if_pos ⟨by first | rfl | trivial, .inl HK0.out⟩] at h; exact h)⟩
          case measure => simp [intOf]; omega
        · obtain ⟨j, rfl⟩ : ∃ j, kk = j + 1 := ⟨kk - 1, by omega⟩
          have hd0 : decide (0 < ((j + 1 : Nat) : Int)) = true := decide_eq_true (by omega)
          have hwr : IntKind.i64.wrap (((j + 1 : Nat) : Int) - 1) = (j : Int) := by rw [IntKind.wrap_i64]; omega
          have hj1 : decide ((j : Int) < (l0.length : Int)) = true := decide_eq_true (by omega)
          have hc2' : wr.cell? ⟨bb, o + j, none⟩ = some (.string (strAt l0 j)) := by
            obtain ⟨m, hm⟩ := HD.out
            rw [hm]; exact hcell j (by omega)
          have HCe := Lib.hid hcell
          clear hcell hc1 hg
          cases hless : Op.bytesLess (strAt l0 j).toList (strAt l0 (j + 1)).toList with
          | true =>
            go_wp2_with (fail)
            go_quiet ((go_at_call 66; exact quiet_drawn (OAdjA.spec_l05Long.calls k _ _ _ HQ.out)))
            go_wp2_with (fail)
            go_roundw
            case rel =>
              obtain ⟨m, rfl⟩ := HD.out
              exact ⟨j + 1 + 1, by omega, by go_num, ⟨_, World.drewN_drewN _ _ _⟩, Lib.hid (by have h := HQ2.out; rw [if_pos ⟨by first | rfl | trivial, .inr hless⟩] at h; exact h)⟩
            case measure => simp [intOf]; omega
          | false =>
            go_wp2_with (fail)
            go_quiet ((go_at_call 66; exact quiet_drawn (OAdjA.spec_l05Long.calls k _ _ _ HQ.out)))
            go_wp2_with (fail)
            go_ret
            have hbb2 : b = false := by
              have h := HQ2.out
              rw [if_neg (by rintro ⟨_, h | h⟩; · omega
                             · rw [show j + 1 - 1 = j by omega, hless] at h; cases h)] at h
              exact (Option.some.inj h).symm
            subst hbb2
            obtain ⟨m, rfl⟩ := HD.out
            exact ⟨rfl, by rw [World.drewN_drewN]; exact ⟨⟨_, rfl⟩⟩⟩
    · have hbb2 : b = true := by
        have h := HS.out
        rw [show l0.length - kk = 0 by omega] at h
        exact (Option.some.inj h).symm
      subst hbb2
      have hkl : kk = l0.length := by omega
      clear hlt
      subst hkl
      go_wp2_with (fail)
      go_ret
      exact ⟨by simp, ⟨⟨_, rfl⟩⟩⟩
end Go.Proofs.YtjolcfheommchaaDoor.G

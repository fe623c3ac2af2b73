/- Adjudicate of the reference and of the program (with its closure), walked. -/
import Derived.Test.YtjolcfheommchaaDoorGOk5
namespace Go.Proofs.YtjolcfheommchaaDoor.G
set_option linter.unusedVariables false
set_option linter.unusedSimpArgs false
open Go.RowKit Go.Lib Go.Proofs.YtjolcfheommchaaDoorW.PrintWords Go.Proofs.YtjolcfheommchaaDoorW.PrintLast Go.Proofs.YtjolcfheommchaaDoor.Open
theorem info_str : (Tryd.prog.info? 9).map (fun i => (i.zero, i.size, i.bytes)) = some (some (.string ⟨#[]⟩), 1, 16) := by kernel_rfl
/-- The words for which a test says no, from i on. -/
def keepLoop (has : ByteArray → Option Bool) (ws : List ByteArray) : Nat → Nat → List ByteArray → Option (List ByteArray)
  | _, 0, out => some out
  | i, d + 1, out => (has (strAt ws i)).bind fun b => if b = true then keepLoop has ws (i + 1) d out else keepLoop has ws (i + 1) d (out ++ [strAt ws i])
theorem keepLoop_mono {h h' : ByteArray → Option Bool} (hm : ∀ x, LeO (h x) (h' x)) (ws : List ByteArray) : ∀ d i out, LeO (keepLoop h ws i d out) (keepLoop h' ws i d out)
  | 0, _, _ => LeO.refl _
  | d + 1, i, out => by
    unfold keepLoop
    exact LeO.bind (hm _) fun b => LeO.ite (keepLoop_mono hm ws d (i + 1) _) (keepLoop_mono hm ws d (i + 1) _)
def adjWith (ok : Option Bool) (has : ByteArray → Option Bool) (ws : List ByteArray) : Option (List ByteArray × Int) :=
  ok.bind fun b => if b = true then (if ws.length ≤ 4000000000000 then (keepLoop has ws 0 ws.length []).bind fun o => some (o, (0 : Int)) else none) else some (([] : List ByteArray), (1 : Int))
theorem adjWith_mono {ok ok' : Option Bool} {h h' : ByteArray → Option Bool} (ho : LeO ok ok') (hm : ∀ x, LeO (h x) (h' x)) (ws : List ByteArray) : LeO (adjWith ok h ws) (adjWith ok' h' ws) := by
  unfold adjWith
  exact LeO.bind ho fun b => LeO.ite (LeO.ite (LeO.bind (keepLoop_mono hm ws _ _ _) fun _ => LeO.refl _) (LeO.refl _)) (LeO.refl _)
def spec_Adjudicate.f (k : Nat) (l0_0 : List ByteArray) (l1 : List ByteArray) : Option (List ByteArray × Int) := adjWith (spec_l05Ok.f k l0_0) (OAdjA.spec_l05Has.f k l0_0) l1
theorem spec_Adjudicate.mono : ∀ l0_0 l1 k, LeO (spec_Adjudicate.f k l0_0 l1) (spec_Adjudicate.f (k + 1) l0_0 l1) := fun l0_0 l1 k => adjWith_mono (spec_l05Ok.mono _ _) (fun x => OAdjA.spec_l05Has.mono _ _ _) l1
set_option maxHeartbeats 4000000 in
set_option maxRecDepth 100000 in
theorem spec_adj_ok (k : Nat) (A0 : Option Addr) (c0 : Nat) (l0 : List ByteArray) (A1 : Option Addr) (c1 : Nat) (l1 : List ByteArray) (r1 : List ByteArray) (w : World) (hr0 : Kd.C Kd.string w A0 l0.length l0) (hc0 : l0.length ≤ c0) (hr1 : Kd.C Kd.string w A1 l1.length l1) (hc1 : l1.length ≤ c1)
    (H1 : Hid (spec_l05Ok.f k l0 = some true)) (H2 : Hid (keepLoop (OAdjA.spec_l05Has.f k l0) l1 0 l1.length [] = some r1)) (hz : l1.length ≤ 4000000000000) :
    Calls Tryd.prog 17 #[.agg #[.slice A0 l0.length c0], .slice A1 l1.length c1] w fun e w' => ∃ v0_ : Value, e = .returned (.tuple #[v0_, .int .i64 0]) ∧ Kd.R Kd.string 9 w' w.heap.size (fun _ => True) v0_ r1 ∧ Below w.heap.size w w' := by
  have hu := Tryd.underlying37
  have HR0 := Lib.hid hr0
  have HR1 := Lib.hid hr1
  clear hr0 hr1
  go_enter Tryd.func17, Tryd.ntmps17
  go_wp2_with (fail)
  refine (l05Ok_calls k _ A0 c0 l0 true _ ?c1 ?c2 hc0 H1.out).mono ?_
  case c1 => go_simp
  case c2 => exact Kd.C_alloc HR0.out _
  rintro e w1 ⟨rfl, ⟨⟨nd, rfl⟩⟩⟩
  have hbx : ((w.alloc (.cells #[.slice A0 l0.length c0] 37 (0, 0))).drewN nd).heap[w.heap.size]? = some (.cells #[.slice A0 l0.length c0] 37 (0, 0)) := blk_drewN (blk_new _ _) _
  have HB := Lib.hid (show Below w.heap.size w ((w.alloc (.cells #[.slice A0 l0.length c0] 37 (0, 0))).drewN nd) from pw_below_drewN (below_alloc (Below.refl _ _) _) nd)
  generalize (w.alloc (.cells #[.slice A0 l0.length c0] 37 (0, 0))).drewN nd = w2 at hbx HB ⊢
  have HX := Lib.hid hbx
  clear hbx
  go_wp2_with (fail)
  have hm := HR1.out.2.1
  go_loopw [6, 7] (fun v i wr => ∃ (kk : Nat) (out : List ByteArray), kk ≤ l1.length ∧ i = .int .i64 kk ∧ out.length ≤ kk ∧ Aside0 (Kd.R Kd.string 9 wr w.heap.size (fun _ => True) v out) ∧ Aside0 (Below w.heap.size w wr) ∧ Hid (wr.heap[w.heap.size]? = some (.cells #[.slice A0 l0.length c0] 37 (0, 0))) ∧ Hid (keepLoop (OAdjA.spec_l05Has.f k l0) l1 kk (l1.length - kk) out = some r1)) (fun _ i _ => l1.length - (intOf i).toNat)
  case atStart =>
    refine ⟨0, [], Nat.zero_le _, rfl, Nat.le_refl _, ⟨⟨fun _ _ => trivial, ?_⟩⟩, ⟨below_alloc HB.out _⟩, Lib.hid (blk_alloc HX.out _), H2⟩
    exact OwnRow.lit (ps := ([] : List ByteArray)) w2 w.heap.size (inner := []) (Reps.none _ _) HB.out.size (by simp)
  case round =>
    obtain ⟨kk, out, hk, rfl, ho, HO, HB1, HX1, HS⟩ := hrel
    obtain ⟨Av, cv, rfl⟩ := Kd.R_slice HO.out
    by_cases hlt : kk < l1.length
    · obtain ⟨bb, o, rfl, hbb, hcell⟩ := strs_at (Kd.C_below HR1.out HB1.out) (by omega)
      have hc1' := hcell kk hlt
      have HCE := Lib.hid hcell
      clear hcell
      have hb0 : wr.cell? ⟨w.heap.size, 0, none⟩ = some (.slice A0 l0.length c0) := (blk_cell HX1.out 0).trans rfl
      have HH := HS.out
      rw [show l1.length - kk = (l1.length - (kk + 1)) + 1 by omega] at HH
      obtain ⟨q, hq, hq2⟩ := Option.bind_eq_some_iff.1 HH
      have HQ := Lib.hid hq
      have HQ2 := Lib.hid hq2
      clear HH hq hq2
      have HRL := Lib.hid (Kd.C_below HR0.out HB1.out)
      have HC0 := Lib.hid hc0
      cases q with
      | true =>
        go_wp2_with (fail)
        go_quiet ((go_at_call 47; exact quiet_drawn (OAdjA.spec_l05Has.calls k _ _ l0 _ _ _ (Kd.C_drewN HRL.out _) HC0.out HQ.out)))
        go_wp2_with (fail)
        go_roundw
        case rel =>
          exact ⟨kk + 1, out, by omega, by go_num, by omega, ⟨Kd.R_drewN HO.out _⟩, ⟨pw_below_drewN HB1.out _⟩, Lib.hid (blk_drewN HX1.out _), Lib.hid (by have h := HQ2.out; rw [if_pos (by first | rfl | trivial)] at h; exact h)⟩
        case measure => simp [intOf]; omega
      | false =>
        go_wp2_with (fail)
        go_quiet ((go_at_call 47; exact quiet_drawn (OAdjA.spec_l05Has.calls k _ _ l0 _ _ _ (Kd.C_drewN HRL.out _) HC0.out HQ.out)))
        go_wp2_with (first | ((with_reducible refine gate_builtin (b := .append) (xs := #[.tmp 25, .tmp 30]) rfl ?_); at_builtin; refine Kd.R_append Kd.string (w0 := w) w.heap.size rfl (.tmp 25) (.tmp 30) 22 9 (.string ⟨#[]⟩) 16 rfl Tryd.underlying22 info_str rfl (by decide) (by omega) (.slice Av out.length cv) out (strAt l1 kk) [.string (strAt l1 kk)] (fun _ => True) (fun _ => False) rfl rfl rfl (fun _ hk => hk.elim) (fun _ _ => trivial) (Kd.R_drewN HO.out _) (pw_below_drewN HB1.out _) (pw_below_drewN HB1.out _).size (by omega) ?_; intro v1 w3 ho3 hb3 hg3 hat3; have HO3 := Aside0.mk ho3; have HB3 := Aside0.mk hb3; have HX3 := Lib.hid (blk_grown (blk_drewN HX1.out _) hg3 (fun he => by obtain ⟨cs_, hcs_⟩ := Kd.R_typed HO.out _ he.symm; rw [HX1.out] at hcs_; simp at hcs_)); clear ho3 hb3 hg3 hat3))
        go_roundw
        case rel =>
          exact ⟨kk + 1, out ++ [strAt l1 kk], by omega, by go_num, by rw [List.length_append, List.length_singleton]; omega, HO3, HB3, HX3, Lib.hid (by have h := HQ2.out; rw [if_neg (by simp)] at h; exact h)⟩
        case measure => simp [intOf]; omega
    · go_wp2_with (fail)
      have hout : out = r1 := by
        have h := HS.out
        rw [show l1.length - kk = 0 by omega] at h
        exact Option.some.inj h
      subst hout
      go_ret2
      exact ⟨_, rfl, HO.out, HB1.out⟩
set_option maxHeartbeats 4000000 in
set_option maxRecDepth 100000 in
theorem spec_adj_no (k : Nat) (A0 : Option Addr) (c0 : Nat) (l0 : List ByteArray) (A1 : Option Addr) (c1 : Nat) (l1 : List ByteArray) (w : World) (hr0 : Kd.C Kd.string w A0 l0.length l0) (hc0 : l0.length ≤ c0)
    (H1 : Hid (spec_l05Ok.f k l0 = some false)) :
    Calls Tryd.prog 17 #[.agg #[.slice A0 l0.length c0], .slice A1 l1.length c1] w fun e w' => ∃ v0_ : Value, e = .returned (.tuple #[v0_, .int .i64 1]) ∧ Kd.R Kd.string 9 w' w.heap.size (fun _ => True) v0_ [] ∧ Below w.heap.size w w' := by
  have hu := Tryd.underlying37
  have HR0 := Lib.hid hr0
  clear hr0
  go_enter Tryd.func17, Tryd.ntmps17
  go_wp2_with (fail)
  refine (l05Ok_calls k _ A0 c0 l0 false _ ?c1 ?c2 hc0 H1.out).mono ?_
  case c1 => go_simp
  case c2 => exact Kd.C_alloc HR0.out _
  rintro e w1 ⟨rfl, ⟨⟨nd, rfl⟩⟩⟩
  go_wp2_with (fail)
  go_ret2
  exact ⟨_, rfl, Kd.R_nil _ _ _ _ _, pw_below_drewN (below_alloc (Below.refl _ _) _) _⟩
theorem spec_Adjudicate.calls (k : Nat) (A0_0 : Option Addr) (c0_0 : Nat) (l0_0 : List ByteArray) (A1 : Option Addr) (c1 : Nat) (l1 : List ByteArray) (r1 : List ByteArray) (r2 : Int) (w : World) (hr0_0 : Kd.C Kd.string w A0_0 l0_0.length l0_0) (hc0_0 : l0_0.length ≤ c0_0) (hr1 : Kd.C Kd.string w A1 l1.length l1) (hc1 : l1.length ≤ c1) (h : spec_Adjudicate.f k l0_0 l1 = some (r1, r2)) :
    Calls Tryd.prog 17 #[.agg #[.slice A0_0 l0_0.length c0_0], .slice A1 l1.length c1] w fun e w' => ∃ v0_ : Value, e = .returned (.tuple #[v0_, .int .i64 r2]) ∧ Kd.R Kd.string 9 w' w.heap.size (fun _ => True) v0_ r1 ∧ Below w.heap.size w w' := by
  unfold spec_Adjudicate.f adjWith at h
  obtain ⟨b, hb, h⟩ := Option.bind_eq_some_iff.1 h
  cases b with
  | false =>
    rw [if_neg (by simp)] at h
    cases h
    exact spec_adj_no k _ _ _ _ _ _ w hr0_0 hc0_0 (Lib.hid hb)
  | true =>
    rw [if_pos rfl] at h
    by_cases hz : l1.length ≤ 4000000000000
    · rw [if_pos hz] at h
      obtain ⟨o, ho, h⟩ := Option.bind_eq_some_iff.1 h
      cases h
      exact spec_adj_ok k _ _ _ _ _ _ _ w hr0_0 hc0_0 hr1 hc1 (Lib.hid hb) (Lib.hid ho) hz
    · rw [if_neg hz] at h; cases h
/-! ### The program's: the closure asks the lexicon that it captured -/
set_option maxHeartbeats 4000000 in
set_option maxRecDepth 100000 in
theorem adj_closure (k : Nat) (g : Nat) (A0 : Option Addr) (c0 : Nat) (l0 : List ByteArray) (x : ByteArray) (b : Bool) (w : World) (hbx : w.heap[g]? = some (.cells #[.slice A0 l0.length c0] 37 (0, 0))) (hr0 : Kd.C Kd.string w A0 l0.length l0) (hc0 : l0.length ≤ c0) (h : OAdjA.impl_Lexicon_has.f k l0 x = some b) :
    Calls Tryd.prog 44 #[.string x, .pointer (some ⟨g, 0, none⟩)] w fun e w' => e = .returned (.bool (!b)) ∧ Below w.heap.size w w' := by
  have hu := Tryd.underlying37
  have HR0 := Lib.hid hr0
  have HH := Lib.hid h
  have hb0 : w.cell? ⟨g, 0, none⟩ = some (.slice A0 l0.length c0) := (blk_cell hbx 0).trans rfl
  clear hr0 h
  go_enter Tryd.func44, Tryd.ntmps44
  go_wp2_with (fail)
  refine (OAdjA.impl_Lexicon_has.calls k _ _ l0 _ b _ HR0.out hc0 HH.out).mono ?_
  rintro e w1 ⟨rfl, hB⟩
  have HB := Lib.hid hB
  clear hB
  go_wp2_with (fail)
  go_ret
  exact ⟨rfl, HB.out⟩
set_option maxHeartbeats 4000000 in
set_option maxRecDepth 100000 in
theorem selected_calls (k : Nat) (g : Nat) (A0 : Option Addr) (c0 : Nat) (l0 : List ByteArray) (A1 : Option Addr) (c1 : Nat) (l1 : List ByteArray) (r1 : List ByteArray) (w : World) (hbx : w.heap[g]? = some (.cells #[.slice A0 l0.length c0] 37 (0, 0))) (hr0 : Kd.C Kd.string w A0 l0.length l0) (hc0 : l0.length ≤ c0) (hr1 : Kd.C Kd.string w A1 l1.length l1) (hc1 : l1.length ≤ c1)
    (H2 : Hid (keepLoop (OAdjA.impl_Lexicon_has.f k l0) l1 0 l1.length [] = some r1)) (hz : l1.length ≤ 4000000000000) :
    Calls Tryd.prog 43 #[.slice A1 l1.length c1, .func (Fn.func 44) #[] #[.pointer (some ⟨g, 0, none⟩)]] w fun e w' => ∃ v0_ : Value, e = .returned v0_ ∧ Kd.R Kd.string 9 w' w.heap.size (fun _ => True) v0_ r1 ∧ Below w.heap.size w w' := by
  have HR0 := Lib.hid hr0
  have HR1 := Lib.hid hr1
  have HX := Lib.hid hbx
  have HC0 := Lib.hid hc0
  clear hr0 hr1 hbx hc0
  have hm := HR1.out.2.1
  go_enter Tryd.func43, Tryd.ntmps43
  go_wp2_with (fail)
  go_loopw [5, 11] (fun v i wr => ∃ (kk : Nat) (out : List ByteArray), kk ≤ l1.length ∧ i = .int .i64 kk ∧ out.length ≤ kk ∧ Aside0 (Kd.R Kd.string 9 wr w.heap.size (fun _ => True) v out) ∧ Aside0 (Below w.heap.size w wr) ∧ Hid (wr.heap[g]? = some (.cells #[.slice A0 l0.length c0] 37 (0, 0))) ∧ Hid (keepLoop (OAdjA.impl_Lexicon_has.f k l0) l1 kk (l1.length - kk) out = some r1)) (fun _ i _ => l1.length - (intOf i).toNat)
  case atStart =>
    refine ⟨0, [], Nat.zero_le _, rfl, Nat.le_refl _, ⟨⟨fun _ _ => trivial, ?_⟩⟩, ⟨below_alloc (Below.refl _ _) _⟩, Lib.hid (blk_alloc HX.out _), H2⟩
    exact OwnRow.lit (ps := ([] : List ByteArray)) w w.heap.size (inner := []) (Reps.none _ _) (Nat.le_refl _) (by simp)
  case round =>
    obtain ⟨kk, out, hk, rfl, ho, HO, HB1, HX1, HS⟩ := hrel
    obtain ⟨Av, cv, rfl⟩ := Kd.R_slice HO.out
    by_cases hlt : kk < l1.length
    · obtain ⟨bb, o, rfl, hbb, hcell⟩ := strs_at (Kd.C_below HR1.out HB1.out) (by omega)
      have hc1' := hcell kk hlt
      clear hcell
      have HH := HS.out
      rw [show l1.length - kk = (l1.length - (kk + 1)) + 1 by omega] at HH
      obtain ⟨q, hq, hq2⟩ := Option.bind_eq_some_iff.1 HH
      have HQ := Lib.hid hq
      have HQ2 := Lib.hid hq2
      clear HH hq hq2
      go_wp2_with (fail)
      refine (adj_closure k g A0 c0 l0 _ q _ HX1.out (Kd.C_below HR0.out HB1.out) HC0.out HQ.out).mono ?_
      rintro e w2 ⟨rfl, hB2⟩
      have HB2 := Aside0.mk (below_step HB1.out hB2)
      have HX2 := Lib.hid (blk_below HX1.out hB2)
      have HO2 := Aside0.mk (Kd.R_below HO.out hB2)
      clear hB2
      cases q with
      | true =>
        go_wp2_with (fail)
        go_roundw
        case rel =>
          exact ⟨kk + 1, out, by omega, by go_num, by omega, HO2, HB2, HX2, Lib.hid (by have h := HQ2.out; rw [if_pos (by first | rfl | trivial)] at h; exact h)⟩
        case measure => simp [intOf]; omega
      | false =>
        go_wp2_with (first | ((with_reducible refine gate_builtin (b := .append) (xs := #[.tmp 18, .tmp 20]) rfl ?_); at_builtin; refine Kd.R_append Kd.string (w0 := w) w.heap.size rfl (.tmp 18) (.tmp 20) 22 9 (.string ⟨#[]⟩) 16 rfl Tryd.underlying22 info_str rfl (by decide) (by omega) (.slice Av out.length cv) out (strAt l1 kk) [.string (strAt l1 kk)] (fun _ => True) (fun _ => False) rfl rfl rfl (fun _ hk => hk.elim) (fun _ _ => trivial) HO2.out HB2.out HB2.out.size (by omega) ?_; intro v1 w3 ho3 hb3 hg3 hat3; have HO3 := Aside0.mk ho3; have HB3 := Aside0.mk hb3; have HX3 := Lib.hid (blk_grown HX2.out hg3 (fun he => by obtain ⟨cs_, hcs_⟩ := Kd.R_typed HO2.out _ he.symm; rw [HX2.out] at hcs_; simp at hcs_)); clear ho3 hb3 hg3 hat3))
        go_roundw
        case rel =>
          exact ⟨kk + 1, out ++ [strAt l1 kk], by omega, by go_num, by rw [List.length_append, List.length_singleton]; omega, HO3, HB3, HX3, Lib.hid (by have h := HQ2.out; rw [if_neg (by simp)] at h; exact h)⟩
        case measure => simp [intOf]; omega
    · go_wp2_with (fail)
      have hout : out = r1 := by
        have h := HS.out
        rw [show l1.length - kk = 0 by omega] at h
        exact Option.some.inj h
      subst hout
      go_ret
      exact ⟨_, rfl, HO.out, HB1.out⟩
set_option maxHeartbeats 4000000 in
set_option maxRecDepth 100000 in
theorem impl_adj_ok (k : Nat) (A0 : Option Addr) (c0 : Nat) (l0 : List ByteArray) (A1 : Option Addr) (c1 : Nat) (l1 : List ByteArray) (r1 : List ByteArray) (w : World) (hr0 : Kd.C Kd.string w A0 l0.length l0) (hc0 : l0.length ≤ c0) (hr1 : Kd.C Kd.string w A1 l1.length l1) (hc1 : l1.length ≤ c1)
    (H1 : Hid (OAdjA.impl_ValidLexicon.f k l0 = some true)) (H2 : Hid (keepLoop (OAdjA.impl_Lexicon_has.f k l0) l1 0 l1.length [] = some r1)) (hz : l1.length ≤ 4000000000000) :
    Calls Tryd.prog 16 #[.agg #[.slice A0 l0.length c0], .slice A1 l1.length c1] w fun e w' => ∃ v0_ : Value, e = .returned (.tuple #[v0_, .int .i64 0]) ∧ Kd.R Kd.string 9 w' w.heap.size (fun _ => True) v0_ r1 ∧ Below w.heap.size w w' := by
  have hu := Tryd.underlying37
  have HR0 := Lib.hid hr0
  have HR1 := Lib.hid hr1
  clear hr0 hr1
  go_enter Tryd.func16, Tryd.ntmps16
  go_wp2_with (fail)
  refine (OAdjA.impl_ValidLexicon.calls k _ _ l0 true _ (Kd.C_alloc HR0.out _) hc0 H1.out).mono ?_
  rintro e w1 ⟨rfl, hB⟩
  have hbx : w1.heap[w.heap.size]? = some (.cells #[.slice A0 l0.length c0] 37 (0, 0)) := blk_below (blk_new _ _) hB
  have HB := Lib.hid (show Below w.heap.size w w1 from below_step (below_alloc (Below.refl _ _) _) hB)
  have HX := Lib.hid hbx
  clear hbx hB
  go_wp2_with (fail)
  refine (selected_calls k w.heap.size A0 c0 l0 A1 c1 l1 r1 w1 HX.out (Kd.C_below HR0.out HB.out) hc0 (Kd.C_below HR1.out HB.out) hc1 H2 hz).mono ?_
  rintro e w2 ⟨v0, rfl, hR, hB⟩
  have HR := Lib.hid (Kd.R_lower hR HB.out.size)
  have HB2 := Lib.hid (below_step HB.out hB)
  clear hR hB
  obtain ⟨Av, cv, rfl⟩ := Kd.R_slice HR.out
  go_wp2_with (fail)
  go_ret2
  exact ⟨_, rfl, HR.out, HB2.out⟩
set_option maxHeartbeats 4000000 in
set_option maxRecDepth 100000 in
theorem impl_adj_no (k : Nat) (A0 : Option Addr) (c0 : Nat) (l0 : List ByteArray) (A1 : Option Addr) (c1 : Nat) (l1 : List ByteArray) (w : World) (hr0 : Kd.C Kd.string w A0 l0.length l0) (hc0 : l0.length ≤ c0)
    (H1 : Hid (OAdjA.impl_ValidLexicon.f k l0 = some false)) :
    Calls Tryd.prog 16 #[.agg #[.slice A0 l0.length c0], .slice A1 l1.length c1] w fun e w' => ∃ v0_ : Value, e = .returned (.tuple #[v0_, .int .i64 1]) ∧ Kd.R Kd.string 9 w' w.heap.size (fun _ => True) v0_ [] ∧ Below w.heap.size w w' := by
  have hu := Tryd.underlying37
  have HR0 := Lib.hid hr0
  clear hr0
  go_enter Tryd.func16, Tryd.ntmps16
  go_wp2_with (fail)
  refine (OAdjA.impl_ValidLexicon.calls k _ _ l0 false _ (Kd.C_alloc HR0.out _) hc0 H1.out).mono ?_
  rintro e w1 ⟨rfl, hB⟩
  have HB := Lib.hid (show Below w.heap.size w w1 from below_step (below_alloc (Below.refl _ _) _) hB)
  clear hB
  go_wp2_with (fail)
  go_ret2
  exact ⟨_, rfl, Kd.R_nil _ _ _ _ _, HB.out⟩
def impl_Adjudicate.f (k : Nat) (l0_0 : List ByteArray) (l1 : List ByteArray) : Option (List ByteArray × Int) := adjWith (OAdjA.impl_ValidLexicon.f k l0_0) (OAdjA.impl_Lexicon_has.f k l0_0) l1
theorem impl_Adjudicate.mono : ∀ l0_0 l1 k, LeO (impl_Adjudicate.f k l0_0 l1) (impl_Adjudicate.f (k + 1) l0_0 l1) := fun l0_0 l1 k => adjWith_mono (OAdjA.impl_ValidLexicon.mono _ _) (fun x => OAdjA.impl_Lexicon_has.mono _ _ _) l1
theorem impl_Adjudicate.calls (k : Nat) (A0_0 : Option Addr) (c0_0 : Nat) (l0_0 : List ByteArray) (A1 : Option Addr) (c1 : Nat) (l1 : List ByteArray) (r1 : List ByteArray) (r2 : Int) (w : World) (hr0_0 : Kd.C Kd.string w A0_0 l0_0.length l0_0) (hc0_0 : l0_0.length ≤ c0_0) (hr1 : Kd.C Kd.string w A1 l1.length l1) (hc1 : l1.length ≤ c1) (h : impl_Adjudicate.f k l0_0 l1 = some (r1, r2)) :
    Calls Tryd.prog 16 #[.agg #[.slice A0_0 l0_0.length c0_0], .slice A1 l1.length c1] w fun e w' => ∃ v0_ : Value, e = .returned (.tuple #[v0_, .int .i64 r2]) ∧ Kd.R Kd.string 9 w' w.heap.size (fun _ => True) v0_ r1 ∧ Below w.heap.size w w' := by
  unfold impl_Adjudicate.f adjWith at h
  obtain ⟨b, hb, h⟩ := Option.bind_eq_some_iff.1 h
  cases b with
  | false =>
    rw [if_neg (by simp)] at h
    cases h
    exact impl_adj_no k _ _ _ _ _ _ w hr0_0 hc0_0 (Lib.hid hb)
  | true =>
    rw [if_pos rfl] at h
    by_cases hz : l1.length ≤ 4000000000000
    · rw [if_pos hz] at h
      obtain ⟨o, ho, h⟩ := Option.bind_eq_some_iff.1 h
      cases h
      exact impl_adj_ok k _ _ _ _ _ _ _ w hr0_0 hc0_0 hr1 hc1 (Lib.hid hb) (Lib.hid ho) hz
    · rw [if_neg hz] at h; cases h
/-! ### the first print's walks of ValidLexicon and has, under names that a later print takes as given -/
abbrev gValid.f := @OAdjA.impl_ValidLexicon.f
theorem gValid.mono : ∀ a0 k, LeO (gValid.f k a0) (gValid.f (k + 1) a0) := OAdjA.impl_ValidLexicon.mono
theorem gValid.calls : type_of% @OAdjA.impl_ValidLexicon.calls := @OAdjA.impl_ValidLexicon.calls
abbrev gHas.f := @OAdjA.impl_Lexicon_has.f
theorem gHas.mono : ∀ a0 a1 k, LeO (gHas.f k a0 a1) (gHas.f (k + 1) a0 a1) := OAdjA.impl_Lexicon_has.mono
theorem gHas.calls : type_of% @OAdjA.impl_Lexicon_has.calls := @OAdjA.impl_Lexicon_has.calls
end Go.Proofs.YtjolcfheommchaaDoor.G

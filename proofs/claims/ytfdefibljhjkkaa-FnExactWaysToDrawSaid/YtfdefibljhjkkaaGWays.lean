/- The ways to draw tiles: the program's WaysToDraw, walked over the counts of the pile's and of the drawn tiles. -/
import Derived.Test.YtfdefibljhjkkaaOWaysAx
import Derived.Test.YtfdefibljhjkkaaGSort
namespace Go.Proofs.Ytfdefibljhjkkaa.G
set_option linter.unusedVariables false
set_option linter.unusedSimpArgs false
open Go.RowKit Go.Proofs.YtfdefibljhjkkaaW.PrintWords Go.Proofs.YtfdefibljhjkkaaW.PrintLast
/-- The product over the first n tiles. -/
def waysTo (k : Nat) (c d : List Int) : Nat → Option Int
  | 0 => some 1
  | n + 1 => (waysTo k c d n).bind fun acc => (OWaysA.impl_choose.f k (c.getD n 0) (d.getD n 0)).bind fun t => some (wrap64 (acc * t))
theorem waysTo_mono (k : Nat) (c d : List Int) : ∀ n, LeO (waysTo k c d n) (waysTo (k + 1) c d n)
  | 0 => LeO.refl _
  | n + 1 => by
    unfold waysTo
    exact LeO.bind (waysTo_mono k c d n) fun _ => LeO.bind (OWaysA.impl_choose.mono _ _ _) fun _ => LeO.refl _
theorem waysTo_less {k : Nat} {c d : List Int} {n m : Nat} (h : n ≤ m) : ∀ {r}, waysTo k c d m = some r → ∃ x, waysTo k c d n = some x := by
  induction m with
  | zero => intro r hr; obtain rfl : n = 0 := by omega
            exact ⟨r, hr⟩
  | succ m ih =>
    intro r hr
    by_cases e : n = m + 1
    · subst e; exact ⟨r, hr⟩
    · unfold waysTo at hr
      obtain ⟨x, hx, _⟩ := Option.bind_eq_some_iff.1 hr
      exact ih (by omega) hx
set_option maxHeartbeats 2000000 in
set_option maxRecDepth 100000 in
theorem waysToDraw_calls (K : Nat) (cs : List Int) (s : ByteArray) (r : Int) (w : World) (hl : cs.length = 27) (hs : tilesOk s) (h : waysTo K cs (cntTo s s.size) 27 = some r) :
    Calls Try.prog 69 #[.agg (encI cs), .string s] w fun e w' => e = .returned (.int .i64 r) ∧ Below w.heap.size w w' := by
  have hi : (Try.prog.info? 76).map (·.size) = some (encI cs).size := by rw [encI_size, hl]; kernel_rfl
  have HI := Lib.hid hi
  have HL := Lib.hid hl
  have HR := Lib.hid h
  clear hi hl h
  have hlen := cntTo_length s s.size
  generalize hds : cntTo s s.size = ds at HR hlen
  have HD := Lib.hid hds
  have HN := Lib.hid hlen
  clear hds hlen
  go_enter Try.func69, Try.ntmps69
  go_wp2_with (fail)
  refine (countsOf_calls s _ hs.1 hs.2).mono ?_
  rintro e w1 ⟨rfl, hb⟩
  rw [HD.out]
  have B1 : Aside0 (w1.heap[w.heap.size]? = some (.cells (encI cs) 76 (0, 0))) := ⟨blk_below (blk_new w _) hb⟩
  have HB : Aside0 (Below w.heap.size w w1) := ⟨below_step (below_alloc (Below.refl _ _) _) hb⟩
  clear hb
  go_wp2_with (fail)
  go_loopw [5, 10] (fun v i wr => ∃ (k : Nat) (acc : Int), k ≤ 27 ∧ v = .int .i64 acc ∧ i = .int .i64 k ∧ Aside0 (waysTo K cs ds k = some acc) ∧ Aside0 (wr.heap[w.heap.size]? = some (.cells (encI cs) 76 (0, 0))) ∧ Aside0 (Below w.heap.size w wr)) (fun _ i _ => 27 - (intOf i).toNat)
  case atStart => exact ⟨0, 1, Nat.zero_le _, rfl, rfl, ⟨rfl⟩, B1, HB⟩
  case round =>
    obtain ⟨k, acc, hk, rfl, rfl, HA, B, HB⟩ := hrel
    by_cases hkl : k < 27
    · have hd27 : decide ((k : Int) < 27) = true := decide_eq_true (by omega)
      have hix := run_index_encI ds k wr HN.out hkl
      have hcell : wr.cell? ⟨w.heap.size, k, none⟩ = some (.int .i64 (cs.getD k 0)) := by
        rw [cell_of_row _ _ _ _ _ _ B.out, encI_get _ _ (by rw [HL.out]; exact hkl)]
      obtain ⟨y, hy⟩ := waysTo_less (show k + 1 ≤ 27 by omega) HR.out
      have hy2 := hy
      unfold waysTo at hy2
      rw [HA.out, Option.bind_some] at hy2
      obtain ⟨t, ht, hty⟩ := Option.bind_eq_some_iff.1 hy2
      have HY := Lib.hid hy
      have HT := Lib.hid ht
      have HTY := Lib.hid hty
      clear hy hy2 ht hty
      go_wp2_with (fail)
      refine (OWaysA.impl_choose.calls K _ _ t _ HT.out).mono ?_
      rintro e w2 ⟨rfl, ⟨nd, rfl⟩⟩
      go_wp2_with (fail)
      go_roundw
      case rel => exact ⟨k + 1, wrap64 (acc * t), by omega, by simp [i64_w], by go_num, ⟨HY.out.trans HTY.out.symm⟩, ⟨blk_drewN B.out _⟩, ⟨pw_below_drewN HB.out _⟩⟩
      case measure => simp [intOf]; omega
    · obtain rfl : k = 27 := by omega
      obtain rfl : acc = r := by have := HA.out.symm.trans HR.out; simpa using this
      go_wp2_with (fail)
      go_ret
      exact ⟨rfl, HB.out⟩
def impl_WaysToDraw.f (k : Nat) (a0 a1 : ByteArray) : Option (Int × Int) :=
  (OWaysA.impl_ValidPile.f k a0).bind fun p => if p = true then ((OWaysA.impl_ValidRack.f k a1).bind fun q => if q = true then (if tilesOk a0 ∧ tilesOk a1 then ((waysTo k (cntTo a0 a0.size) (cntTo a1 a1.size) 27).bind fun t => some (t, 0)) else none) else some (0, 1)) else some (0, 1)
theorem impl_WaysToDraw.mono : ∀ a0 a1 k, LeO (impl_WaysToDraw.f k a0 a1) (impl_WaysToDraw.f (k + 1) a0 a1) := by
  intro a0 a1 k
  unfold impl_WaysToDraw.f
  refine LeO.bind (OWaysA.impl_ValidPile.mono _ _) fun _ => LeO.ite (LeO.bind (OWaysA.impl_ValidRack.mono _ _) fun _ => LeO.ite (LeO.ite (LeO.bind (waysTo_mono _ _ _ _) fun _ => LeO.refl _) (LeO.refl _)) (LeO.refl _)) (LeO.refl _)
set_option maxHeartbeats 2000000 in
set_option maxRecDepth 100000 in
theorem impl_WaysToDraw.calls (k : Nat) (a0 a1 : ByteArray) (r1 r2 : Int) (w : World) (h : impl_WaysToDraw.f k a0 a1 = some (r1, r2)) :
    Calls Try.prog 41 #[.string a0, .string a1] w fun e w' => e = .returned (.tuple #[.int .i64 r1, .int .i64 r2]) ∧ Below w.heap.size w w' := by
  unfold impl_WaysToDraw.f at h
  obtain ⟨p, hp, h⟩ := Option.bind_eq_some_iff.1 h
  have HP := Lib.hid hp
  clear hp
  cases p with
  | false =>
    rw [if_neg (by simp)] at h
    simp only [Option.some.injEq, Prod.mk.injEq] at h
    obtain ⟨rfl, rfl⟩ := h
    go_enter Try.func41, Try.ntmps41
    go_wp2_with (fail)
    refine (OWaysA.impl_ValidPile.calls k a0 false _ HP.out).mono ?_
    rintro e w1 ⟨rfl, ⟨nd, rfl⟩⟩
    go_wp2_with (fail)
    go_ret2
    exact ⟨rfl, pw_below_drewN (Below.refl _ _) _⟩
  | true =>
    rw [if_pos rfl] at h
    obtain ⟨q, hq, h⟩ := Option.bind_eq_some_iff.1 h
    have HQ := Lib.hid hq
    clear hq
    cases q with
    | false =>
      rw [if_neg (by simp)] at h
      simp only [Option.some.injEq, Prod.mk.injEq] at h
      obtain ⟨rfl, rfl⟩ := h
      go_enter Try.func41, Try.ntmps41
      go_wp2_with (fail)
      refine (OWaysA.impl_ValidPile.calls k a0 true _ HP.out).mono ?_
      rintro e w1 ⟨rfl, ⟨nd, rfl⟩⟩
      go_wp2_with (fail)
      refine (OWaysA.impl_ValidRack.calls k a1 false _ HQ.out).mono ?_
      rintro e w2 ⟨rfl, ⟨nd2, rfl⟩⟩
      go_wp2_with (fail)
      go_ret2
      exact ⟨rfl, pw_below_drewN (Below.refl _ _) _⟩
    | true =>
      rw [if_pos rfl] at h
      by_cases ht : tilesOk a0 ∧ tilesOk a1
      · rw [if_pos ht] at h
        obtain ⟨t, htt, h⟩ := Option.bind_eq_some_iff.1 h
        simp only [Option.some.injEq, Prod.mk.injEq] at h
        obtain ⟨rfl, rfl⟩ := h
        have HT := Lib.hid htt
        have HTT := Lib.hid ht
        clear htt ht
        go_enter Try.func41, Try.ntmps41
        go_wp2_with (fail)
        refine (OWaysA.impl_ValidPile.calls k a0 true _ HP.out).mono ?_
        rintro e w1 ⟨rfl, ⟨nd, rfl⟩⟩
        go_wp2_with (fail)
        refine (OWaysA.impl_ValidRack.calls k a1 true _ HQ.out).mono ?_
        rintro e w2 ⟨rfl, ⟨nd2, rfl⟩⟩
        go_wp2_with (fail)
        refine (countsOf_calls a0 _ HTT.out.1.1 HTT.out.1.2).mono ?_
        rintro e w3 ⟨rfl, hb⟩
        have hb1 : Below w.heap.size w w3 := below_step (pw_below_drewN (Below.refl _ _) _) hb
        go_wp2_with (fail)
        refine (waysToDraw_calls k _ a1 t _ (cntTo_length _ _) HTT.out.2 HT.out).mono ?_
        rintro e w4 ⟨rfl, hb2⟩
        go_wp2_with (fail)
        go_ret2
        exact ⟨rfl, below_step hb1 hb2⟩
      · rw [if_neg ht] at h
        exact absurd h (by simp)
end Go.Proofs.Ytfdefibljhjkkaa.G

/- The program's ExchangeTiles, walked: the checks, the rest of the rack, the new bag laid in a made row. -/
import Derived.Test.YtjolcfheommchaaOExchAx
import Derived.Test.YtjolcfheommchaaGWithout
import Derived.Lib.BufferWrite
namespace Go.Proofs.Ytjolcfheommchaa.G
set_option linter.unusedVariables false
set_option linter.unusedSimpArgs false
open Go.RowKit Go.Proofs.YtjolcfheommchaaW.PrintWords Go.Proofs.YtjolcfheommchaaW.PrintLast
def exchTail (a0 a1 a2 : ByteArray) : Option (ByteArray × ByteArray × Int) :=
  if a2.toList = [] then some ((⟨#[]⟩ : ByteArray), (⟨#[]⟩ : ByteArray), 2) else (impl_without.f a1 a2).bind fun r => if r.2 = true then (if (a0.size : Int) < 7 then some ((⟨#[]⟩ : ByteArray), (⟨#[]⟩ : ByteArray), 6) else if a2.size ≤ 7 ∧ a0.size ≤ 1000 ∧ r.1.size ≤ 1000 then ((impl_sorted.f (r.1 ++ a0.extract 0 a2.size)).bind fun s => some (s, a0.extract a2.size a0.size ++ a2, 0)) else none) else some ((⟨#[]⟩ : ByteArray), (⟨#[]⟩ : ByteArray), 3)
def impl_ExchangeTiles.f (k : Nat) (a0 a1 a2 : ByteArray) : Option (ByteArray × ByteArray × Int) :=
  (OExchA.impl_ValidBag.f k a0).bind fun p => if p = true then ((OExchA.impl_ValidRack.f k a1).bind fun q => if q = true then ((OExchA.impl_ValidPile.f k a2).bind fun t => if t = true then exchTail a0 a1 a2 else some ((⟨#[]⟩ : ByteArray), (⟨#[]⟩ : ByteArray), 1)) else some ((⟨#[]⟩ : ByteArray), (⟨#[]⟩ : ByteArray), 1)) else some ((⟨#[]⟩ : ByteArray), (⟨#[]⟩ : ByteArray), 1)
theorem conv_row (w' : World) (g : Nat) (l : List UInt8) (n : Nat) (hn : l.length = n) (h : w'.heap[g]? = some (.cells (Lib.byteCells l).toArray 5 (0, 0))) :
    (convert 41 9 (.slice (some ⟨g, 0, none⟩) n n)).run Try.prog w' = .ok (.string ⟨l.toArray⟩) w' := by
  have hr := run_convert_bytes_arg (P := Try.prog) w' 41 5 Try.underlying41 Try.underlying5 g 0 n n (l.map fun b => (b.toNat : Int)) (by rw [List.length_map]; exact hn) (fun i hi => by
    rw [Nat.zero_add, cell_of_row _ _ _ _ _ _ h]
    simp only [Lib.byteCells, List.getElem?_toArray, List.getElem?_map, List.getD_eq_getElem?_getD]
    rw [List.getElem?_eq_getElem (by omega)]; rfl) 9 Try.underlying9
  rw [hr]
  have e : strOfNums (l.map fun b => (b.toNat : Int)) = ⟨l.toArray⟩ := by
    apply ByteArray.ext
    apply Array.ext'
    rw [strOfNums_data, List.map_map]
    refine (List.map_congr_left (g := id) fun b _ => ?_).trans (List.map_id _)
    simp
  rw [e]
theorem impl_ExchangeTiles.mono : ∀ a0 a1 a2 k, LeO (impl_ExchangeTiles.f k a0 a1 a2) (impl_ExchangeTiles.f (k + 1) a0 a1 a2) := by
  intro a0 a1 a2 k
  unfold impl_ExchangeTiles.f
  refine LeO.bind (OExchA.impl_ValidBag.mono _ _) fun _ => LeO.ite (LeO.bind (OExchA.impl_ValidRack.mono _ _) fun _ => LeO.ite (LeO.bind (OExchA.impl_ValidPile.mono _ _) fun _ => LeO.ite (LeO.refl _) (LeO.refl _)) (LeO.refl _)) (LeO.refl _)
set_option maxHeartbeats 4000000 in
set_option maxRecDepth 100000 in
theorem exch_no1 (k : Nat) (a0 a1 a2 : ByteArray) (w : World) (HP : Hid (OExchA.impl_ValidBag.f k a0 = some false)) :
    Calls Try.prog 18 #[.string a0, .string a1, .string a2] w fun e w' => e = .returned (.tuple #[.string ⟨#[]⟩, .string ⟨#[]⟩, .int .i64 1]) ∧ Below w.heap.size w w' := by
  go_enter Try.func18, Try.ntmps18
  go_wp2_with (fail)
  refine (OExchA.impl_ValidBag.calls k a0 false _ HP.out).mono ?_
  rintro e w1 ⟨rfl, ⟨nd, rfl⟩⟩
  go_wp2_with (fail)
  go_ret3
  exact ⟨rfl, pw_below_drewN (Below.refl _ _) _⟩
set_option maxHeartbeats 4000000 in
set_option maxRecDepth 100000 in
theorem exch_no2 (k : Nat) (a0 a1 a2 : ByteArray) (w : World) (HP : Hid (OExchA.impl_ValidBag.f k a0 = some true)) (HQ : Hid (OExchA.impl_ValidRack.f k a1 = some false)) :
    Calls Try.prog 18 #[.string a0, .string a1, .string a2] w fun e w' => e = .returned (.tuple #[.string ⟨#[]⟩, .string ⟨#[]⟩, .int .i64 1]) ∧ Below w.heap.size w w' := by
  go_enter Try.func18, Try.ntmps18
  go_wp2_with (fail)
  refine (OExchA.impl_ValidBag.calls k a0 true _ HP.out).mono ?_
  rintro e w1 ⟨rfl, ⟨nd, rfl⟩⟩
  go_wp2_with (fail)
  refine (OExchA.impl_ValidRack.calls k a1 false _ HQ.out).mono ?_
  rintro e w1 ⟨rfl, ⟨nd, rfl⟩⟩
  go_wp2_with (fail)
  go_ret3
  exact ⟨rfl, pw_below_drewN (Below.refl _ _) _⟩
set_option maxHeartbeats 4000000 in
set_option maxRecDepth 100000 in
theorem exch_no3 (k : Nat) (a0 a1 a2 : ByteArray) (w : World) (HP : Hid (OExchA.impl_ValidBag.f k a0 = some true)) (HQ : Hid (OExchA.impl_ValidRack.f k a1 = some true)) (HT : Hid (OExchA.impl_ValidPile.f k a2 = some false)) :
    Calls Try.prog 18 #[.string a0, .string a1, .string a2] w fun e w' => e = .returned (.tuple #[.string ⟨#[]⟩, .string ⟨#[]⟩, .int .i64 1]) ∧ Below w.heap.size w w' := by
  go_enter Try.func18, Try.ntmps18
  go_wp2_with (fail)
  refine (OExchA.impl_ValidBag.calls k a0 true _ HP.out).mono ?_
  rintro e w1 ⟨rfl, ⟨nd, rfl⟩⟩
  go_wp2_with (fail)
  refine (OExchA.impl_ValidRack.calls k a1 true _ HQ.out).mono ?_
  rintro e w1 ⟨rfl, ⟨nd, rfl⟩⟩
  go_wp2_with (fail)
  refine (OExchA.impl_ValidPile.calls k a2 false _ HT.out).mono ?_
  rintro e w1 ⟨rfl, ⟨nd, rfl⟩⟩
  go_wp2_with (fail)
  go_ret3
  exact ⟨rfl, pw_below_drewN (Below.refl _ _) _⟩
set_option maxHeartbeats 4000000 in
set_option maxRecDepth 100000 in
theorem exch_empty (k : Nat) (a0 a1 a2 : ByteArray) (w : World) (HP : Hid (OExchA.impl_ValidBag.f k a0 = some true)) (HQ : Hid (OExchA.impl_ValidRack.f k a1 = some true)) (HT : Hid (OExchA.impl_ValidPile.f k a2 = some true)) (he : a2.toList = []) :
    Calls Try.prog 18 #[.string a0, .string a1, .string a2] w fun e w' => e = .returned (.tuple #[.string ⟨#[]⟩, .string ⟨#[]⟩, .int .i64 2]) ∧ Below w.heap.size w w' := by
  have he1 : (a2.toList == []) = true := beq_iff_eq.mpr he
  clear he
  go_enter Try.func18, Try.ntmps18
  go_wp2_with (fail)
  refine (OExchA.impl_ValidBag.calls k a0 true _ HP.out).mono ?_
  rintro e w1 ⟨rfl, ⟨nd, rfl⟩⟩
  go_wp2_with (fail)
  refine (OExchA.impl_ValidRack.calls k a1 true _ HQ.out).mono ?_
  rintro e w1 ⟨rfl, ⟨nd, rfl⟩⟩
  go_wp2_with (fail)
  refine (OExchA.impl_ValidPile.calls k a2 true _ HT.out).mono ?_
  rintro e w1 ⟨rfl, ⟨nd, rfl⟩⟩
  go_wp2_with (fail)
  go_ret3
  exact ⟨rfl, pw_below_drewN (Below.refl _ _) _⟩
set_option maxHeartbeats 4000000 in
set_option maxRecDepth 100000 in
theorem exch_none (k : Nat) (a0 a1 a2 r1 : ByteArray) (w : World) (HP : Hid (OExchA.impl_ValidBag.f k a0 = some true)) (HQ : Hid (OExchA.impl_ValidRack.f k a1 = some true)) (HT : Hid (OExchA.impl_ValidPile.f k a2 = some true)) (he : ¬ a2.toList = []) (HW : Hid (impl_without.f a1 a2 = some (r1, false))) :
    Calls Try.prog 18 #[.string a0, .string a1, .string a2] w fun e w' => e = .returned (.tuple #[.string ⟨#[]⟩, .string ⟨#[]⟩, .int .i64 3]) ∧ Below w.heap.size w w' := by
  have he1 : (a2.toList == []) = false := beq_eq_false_iff_ne.mpr he
  clear he
  go_enter Try.func18, Try.ntmps18
  go_wp2_with (fail)
  refine (OExchA.impl_ValidBag.calls k a0 true _ HP.out).mono ?_
  rintro e w1 ⟨rfl, ⟨nd, rfl⟩⟩
  go_wp2_with (fail)
  refine (OExchA.impl_ValidRack.calls k a1 true _ HQ.out).mono ?_
  rintro e w1 ⟨rfl, ⟨nd, rfl⟩⟩
  go_wp2_with (fail)
  refine (OExchA.impl_ValidPile.calls k a2 true _ HT.out).mono ?_
  rintro e w1 ⟨rfl, ⟨nd, rfl⟩⟩
  go_wp2_with (fail)
  refine (impl_without.calls a1 a2 r1 false _ HW.out).mono ?_
  rintro e w2 ⟨rfl, hb⟩
  have HB := Lib.hid (show Below w.heap.size w w2 from below_step (pw_below_drewN (Below.refl _ _) _) hb)
  clear hb
  go_wp2_with (fail)
  go_ret3
  exact ⟨rfl, HB.out⟩
set_option maxHeartbeats 4000000 in
set_option maxRecDepth 100000 in
theorem exch_few (k : Nat) (a0 a1 a2 r1 : ByteArray) (w : World) (HP : Hid (OExchA.impl_ValidBag.f k a0 = some true)) (HQ : Hid (OExchA.impl_ValidRack.f k a1 = some true)) (HT : Hid (OExchA.impl_ValidPile.f k a2 = some true)) (he : ¬ a2.toList = []) (HW : Hid (impl_without.f a1 a2 = some (r1, true))) (hf : (a0.size : Int) < 7) :
    Calls Try.prog 18 #[.string a0, .string a1, .string a2] w fun e w' => e = .returned (.tuple #[.string ⟨#[]⟩, .string ⟨#[]⟩, .int .i64 6]) ∧ Below w.heap.size w w' := by
  have he1 : (a2.toList == []) = false := beq_eq_false_iff_ne.mpr he
  clear he
  have hf1 : decide ((a0.size : Int) < 7) = true := decide_eq_true hf
  have hf2 : decide (a0.size < 7) = true := decide_eq_true (by omega)
  clear hf
  go_enter Try.func18, Try.ntmps18
  go_wp2_with (fail)
  refine (OExchA.impl_ValidBag.calls k a0 true _ HP.out).mono ?_
  rintro e w1 ⟨rfl, ⟨nd, rfl⟩⟩
  go_wp2_with (fail)
  refine (OExchA.impl_ValidRack.calls k a1 true _ HQ.out).mono ?_
  rintro e w1 ⟨rfl, ⟨nd, rfl⟩⟩
  go_wp2_with (fail)
  refine (OExchA.impl_ValidPile.calls k a2 true _ HT.out).mono ?_
  rintro e w1 ⟨rfl, ⟨nd, rfl⟩⟩
  go_wp2_with (fail)
  refine (impl_without.calls a1 a2 r1 true _ HW.out).mono ?_
  rintro e w2 ⟨rfl, hb⟩
  have HB := Lib.hid (show Below w.heap.size w w2 from below_step (pw_below_drewN (Below.refl _ _) _) hb)
  clear hb
  go_wp2_with (fail)
  go_ret3
  exact ⟨rfl, HB.out⟩
set_option maxHeartbeats 4000000 in
set_option maxRecDepth 100000 in
theorem exch_ok (k : Nat) (a0 a1 a2 r1 s : ByteArray) (w : World) (HP : Hid (OExchA.impl_ValidBag.f k a0 = some true)) (HQ : Hid (OExchA.impl_ValidRack.f k a1 = some true)) (HT : Hid (OExchA.impl_ValidPile.f k a2 = some true)) (he : ¬ a2.toList = []) (HW : Hid (impl_without.f a1 a2 = some (r1, true))) (h7 : 7 ≤ a0.size) (h2 : a2.size ≤ 7) (h0 : a0.size ≤ 1000) (hr : r1.size ≤ 1000) (HS : Hid (impl_sorted.f (r1 ++ a0.extract 0 a2.size) = some s)) :
    Calls Try.prog 18 #[.string a0, .string a1, .string a2] w fun e w' => e = .returned (.tuple #[.string s, .string (a0.extract a2.size a0.size ++ a2), .int .i64 0]) ∧ Below w.heap.size w w' := by
  have he1 : (a2.toList == []) = false := beq_eq_false_iff_ne.mpr he
  have h20 : a2.size ≠ 0 := fun h => he (by rw [Lib.toList_data]; exact List.length_eq_zero_iff.1 h)
  clear he
  have hf1 : decide ((a0.size : Int) < 7) = false := decide_eq_false (by omega)
  have hf2 : decide (a0.size < 7) = false := decide_eq_false (by omega)
  go_enter Try.func18, Try.ntmps18
  go_wp2_with (fail)
  refine (OExchA.impl_ValidBag.calls k a0 true _ HP.out).mono ?_
  rintro e w1 ⟨rfl, ⟨nd, rfl⟩⟩
  go_wp2_with (fail)
  refine (OExchA.impl_ValidRack.calls k a1 true _ HQ.out).mono ?_
  rintro e w1 ⟨rfl, ⟨nd, rfl⟩⟩
  go_wp2_with (fail)
  refine (OExchA.impl_ValidPile.calls k a2 true _ HT.out).mono ?_
  rintro e w1 ⟨rfl, ⟨nd, rfl⟩⟩
  go_wp2_with (fail)
  refine (impl_without.calls a1 a2 r1 true _ HW.out).mono ?_
  rintro e w2 ⟨rfl, hb⟩
  have HB := Lib.hid (show Below w.heap.size w w2 from below_step (pw_below_drewN (Below.refl _ _) _) hb)
  clear hb
  have hi3 : (Try.prog.info? 5).map (fun i => (i.zero, i.size, i.bytes)) = some (some (.int .u8 0), 1, 1) := info_u8
  obtain ⟨cur, hcur, hmk⟩ : ∃ cur : Array Value, cur.size = a0.size ∧ (Instr.makeSlice 41 (.int .i64 (a0.size : Int)) (.int .i64 (a0.size : Int))).run Try.prog w2 = .ok (.slice (some ⟨w2.heap.size, 0, none⟩) a0.size a0.size) (w2.alloc (.cells cur 5 (0, 0))) := by
    obtain ⟨i, hi, hz⟩ := Option.map_eq_some_iff.1 hi3
    have hz1 : i.zero = some (.int .u8 0) := congrArg (fun x => x.1) hz
    have hz2 : i.size = 1 := congrArg (fun x => x.2.1) hz
    have hz3 : i.bytes = 1 := congrArg (fun x => x.2.2) hz
    have hm := run_make w2 41 5 i (.int .u8 0) Try.underlying41 hi hz1 .i64 .i64 (a0.size : Int) (a0.size : Int) (by omega) (Int.le_refl _) (by rw [hz3]; omega) (by omega)
    rw [Int.toNat_natCast] at hm
    exact ⟨_, by rw [size_madeCells, hz2, Nat.mul_one], hm⟩
  have hc1 : (Try.prog.info? 5).map (·.size) = some 1 := by
    obtain ⟨i, hi, hz⟩ := Option.map_eq_some_iff.1 hi3
    rw [hi]; exact congrArg (fun x => some x.2.1) hz
  clear hi3
  have hg0 : (w2.alloc (.cells cur 5 (0, 0))).heap[w2.heap.size]? = some (.cells cur 5 (0, 0)) := blk_new _ _
  have hB0 : Below w.heap.size w (w2.alloc (.cells cur 5 (0, 0))) := below_alloc HB.out _
  generalize w2.alloc (.cells cur 5 (0, 0)) = W0 at hmk hg0 hB0
  obtain ⟨n, hn⟩ : ∃ n, n + a2.size = a0.size := ⟨a0.size - a2.size, by omega⟩
  have hX : (a0.extract a2.size a0.size).size = n := by rw [ByteArray.size_extract]; omega
  have hgs : w.heap.size ≤ w2.heap.size := HB.out.size
  obtain ⟨W1, C1, hC1s, hC1t, hg1, hB1, hcp1⟩ : ∃ (W1 : World) (C1 : Array Value), C1.size = a0.size ∧ C1.toList.take n = Lib.byteCells (a0.extract a2.size a0.size).data.toList ∧ W1.heap[w2.heap.size]? = some (.cells C1 5 (0, 0)) ∧ Below w.heap.size w W1 ∧
      (Builtin.copy_ #[41, 9] 3 #[.slice (some ⟨w2.heap.size, 0, none⟩) a0.size a0.size, .string (a0.extract a2.size a0.size)]).run Try.prog W0 = .ok (.int .i64 (n : Int)) W1 := by
    have h := Lib.run_copy_row_string W0 41 9 3 5 w2.heap.size 0 a0.size a0.size (a0.extract a2.size a0.size) cur 5 Try.underlying41 hc1 hg0 (by omega) (by omega)
    rw [hX] at h
    refine ⟨_, _, ?_, ?_, setRow_heap _ _ _ _ _ _ hg0, below_setRow hB0 _ hgs _, h⟩
    · have hl : (Lib.byteCells (a0.extract a2.size a0.size).data.toList).length = n := by rw [Lib.byteCells_length, ← hX]; rfl
      simp only [List.size_toArray, List.length_append, List.length_take, List.length_drop, hl, Array.length_toList, hcur]; omega
    · have hl : (Lib.byteCells (a0.extract a2.size a0.size).data.toList).length = n := by rw [Lib.byteCells_length, ← hX]; rfl
      show List.take n ((cur.toList.take 0 ++ _ ++ _)) = _
      rw [List.take_zero, List.nil_append, List.take_append_of_le_length (by omega), List.take_of_length_le (by omega)]
  obtain ⟨W2, hg2, hB2, hcp2⟩ : ∃ W2 : World, W2.heap[w2.heap.size]? = some (.cells (Lib.byteCells (a0.extract a2.size a0.size).data.toList ++ Lib.byteCells a2.data.toList).toArray 5 (0, 0)) ∧ Below w.heap.size w W2 ∧
      (Builtin.copy_ #[41, 9] 3 #[.slice (some ⟨w2.heap.size, n, none⟩) a2.size a2.size, .string a2]).run Try.prog W1 = .ok (.int .i64 (a2.size : Int)) W2 := by
    have h := Lib.run_copy_row_string W1 41 9 3 5 w2.heap.size n a2.size a2.size a2 C1 5 Try.underlying41 hc1 hg1 (Nat.le_refl _) (by omega)
    refine ⟨_, ?_, below_setRow hB1 _ hgs _, h⟩
    rw [setRow_heap _ _ _ _ _ _ hg1, hC1t, List.drop_of_length_le (by rw [Array.length_toList]; omega), List.append_nil]
  have hsl : a0.size - n = a2.size := by omega
  have hn1 : ((n : Int) ≤ (a0.size : Int)) = True := eq_true (by omega)
  have hn2 : (n ≤ a0.size) = True := eq_true (by omega)
  have hn3 : ((a2.size : Int) ≤ (a0.size : Int)) = True := eq_true (by omega)
  have hn4 : (a2.size ≤ a0.size) = True := eq_true (by omega)
  have hne : (a0.size = n) = False := eq_false (by omega)
  have FG := Lib.hid hg2
  have FB := Lib.hid hB2
  have FN := Lib.hid hn
  clear hg2 hB2 hg1 hB1 hg0 hB0 hC1s hC1t hcur hc1 hX hn h7 h0 h20
  go_wp2_with (fail)
  have hgD : W2.drew.heap[w2.heap.size]? = some (.cells (Lib.byteCells ((a0.extract a2.size a0.size).data.toList ++ a2.data.toList)).toArray 5 (0, 0)) := by
    have e : Lib.byteCells ((a0.extract a2.size a0.size).data.toList ++ a2.data.toList) = Lib.byteCells (a0.extract a2.size a0.size).data.toList ++ Lib.byteCells a2.data.toList := by unfold Lib.byteCells; rw [List.map_append]
    rw [e]; exact blk_drew FG.out
  have hlen : ((a0.extract a2.size a0.size).data.toList ++ a2.data.toList).length = a0.size := by
    have h1 := FN.out
    rw [List.length_append, Array.length_toList, Array.length_toList]
    show (a0.extract a2.size a0.size).size + a2.size = a0.size
    rw [ByteArray.size_extract]; omega
  have hct : (⟨((a0.extract a2.size a0.size).data.toList ++ a2.data.toList).toArray⟩ : ByteArray) = a0.extract a2.size a0.size ++ a2 := by
    apply ByteArray.ext
    rw [ByteArray.data_append]
    apply Array.ext'
    simp
  have hs1 : (9223372036854775807 < r1.size + min a2.size a0.size) = False := eq_false (by omega)
  have hs2 : (9223372036854775807 < r1.size + a2.size) = False := eq_false (by omega)
  refine start_ (n := 12) (S := fun w' => w'.heap[w2.heap.size]? = some (.cells (Lib.byteCells ((a0.extract a2.size a0.size).data.toList ++ a2.data.toList)).toArray 5 (0, 0))) (ds := []) #[false, false, false, false, false, false, false, false, false, false, false, false] (by kernel_rfl) rfl rfl hgD (fun hHeld => ?_)
  refine pure_ (i := 0) (N := some 57) (v := ?_) (a' := ?_) #[true, false, false, false, false, false, false, false, false, false, false, false] rfl rfl (by kernel_rfl) (fun _ _ _ h => h) (Or.inl ⟨by rfl, ?_⟩) ?_ ?_
  rotate_left
  · intro w'
    go_simp
    with_reducible rfl
  rotate_left
  · simp only [Act.put, List.setIfInBounds_toArray, List.set_cons_zero, List.set_cons_succ, i64_w, i32_w]
    rfl
  refine pure_ (i := 1) (N := some 58) (v := ?_) (a' := ?_) #[true, true, false, false, false, false, false, false, false, false, false, false] rfl rfl (by kernel_rfl) (fun _ _ _ h => h) (Or.inl ⟨by rfl, ?_⟩) ?_ ?_
  rotate_left
  · intro w'
    go_simp
    with_reducible rfl
  rotate_left
  · simp only [Act.put, List.setIfInBounds_toArray, List.set_cons_zero, List.set_cons_succ, i64_w, i32_w]
    rfl
  refine pure_ (i := 2) (N := some 59) (v := ?_) (a' := ?_) #[true, true, true, false, false, false, false, false, false, false, false, false] rfl rfl (by kernel_rfl) (fun _ _ _ h => h) (Or.inl ⟨by rfl, ?_⟩) ?_ ?_
  rotate_left
  · intro w'
    go_simp
    with_reducible rfl
  rotate_left
  · simp only [Act.put, List.setIfInBounds_toArray, List.set_cons_zero, List.set_cons_succ, i64_w, i32_w]
    rfl
  refine pure_ (i := 3) (N := some 60) (v := ?_) (a' := ?_) #[true, true, true, true, false, false, false, false, false, false, false, false] rfl rfl (by kernel_rfl) (fun _ _ _ h => h) (Or.inl ⟨by rfl, ?_⟩) ?_ ?_
  rotate_left
  · intro w'
    go_simp
    with_reducible rfl
  rotate_left
  · simp only [Act.put, List.setIfInBounds_toArray, List.set_cons_zero, List.set_cons_succ, i64_w, i32_w]
    rfl
  refine pure_ (i := 4) (N := some 61) (v := ?_) (a' := ?_) #[true, true, true, true, true, false, false, false, false, false, false, false] rfl rfl (by kernel_rfl) (fun _ _ _ h => h) (Or.inl ⟨by rfl, ?_⟩) ?_ ?_
  rotate_left
  · intro w'
    go_simp
    with_reducible rfl
  rotate_left
  · simp only [Act.put, List.setIfInBounds_toArray, List.set_cons_zero, List.set_cons_succ, i64_w, i32_w]
    rfl
  refine pure_ (i := 5) (N := some 62) (v := ?_) (a' := ?_) #[true, true, true, true, true, true, false, false, false, false, false, false] rfl rfl (by kernel_rfl) (fun _ _ _ h => h) (Or.inl ⟨by rfl, ?_⟩) ?_ ?_
  rotate_left
  · intro w'
    go_simp
    with_reducible rfl
  rotate_left
  · simp only [Act.put, List.setIfInBounds_toArray, List.set_cons_zero, List.set_cons_succ, i64_w, i32_w]
    rfl
  refine pure_ (i := 7) (N := some 64) (v := ?_) (a' := ?_) #[true, true, true, true, true, true, false, true, false, false, false, false] rfl rfl (by kernel_rfl) (fun _ _ _ h => h) (Or.inl ⟨by rfl, ?_⟩) ?_ ?_
  rotate_left
  · intro w'
    go_simp
    with_reducible rfl
  rotate_left
  · simp only [Act.put, List.setIfInBounds_toArray, List.set_cons_zero, List.set_cons_succ, i64_w, i32_w]
    rfl
  refine take_ (i := 8) (N := some 65) (v := ?_) (a' := ?_) #[true, true, true, true, true, true, false, true, true, false, false, false] rfl rfl (by kernel_rfl) (fun _ _ _ h => h) (Or.inl ⟨by rfl, ?_⟩) hHeld ?_ ?_
  rotate_left
  · intro w' hS
    have hcv := conv_row w' w2.heap.size _ a0.size hlen hS; rw [hct] at hcv; go_simp
    with_reducible rfl
  rotate_left
  · simp only [Act.put, List.setIfInBounds_toArray, List.set_cons_zero, List.set_cons_succ, i64_w, i32_w]
    rfl
  refine one_ (i := 6) (N := some 63) #[true, true, true, true, true, true, true, true, true, false, false, false] rfl rfl (by kernel_rfl) (by decide) (fun K hK => ?_)
  refine goes_ Try.func81 (by kernel_rfl) rfl #[.string (r1 ++ a0.extract 0 a2.size)] (by rfl) rfl rfl (by (try simp only [List.map_toArray, List.map_cons, List.map_nil]); first | done | rfl) ?_
  with_reducible refine (impl_sorted.calls (r1 ++ a0.extract 0 a2.size) s _ HS.out).mono ?_
  rintro e w3 ⟨rfl, hb⟩
  refine ⟨_, rfl, ?_⟩
  have hb3 : Below w.heap.size w w3 := below_step (below_drew1 FB.out) hb
  refine hK.out _ _ (blk_below hHeld hb) (fun hHeld => ?_)
  clear hK K
  refine norm_ (a' := ?_) ?_ ?_
  rotate_left
  · show Act.put _ (some 63) _ = _
    simp only [Act.put, List.setIfInBounds_toArray, List.set_cons_zero, List.set_cons_succ, i64_w, i32_w]
    rfl
  refine pure_ (i := 9) (N := some 6) (v := ?_) (a' := ?_) #[true, true, true, true, true, true, true, true, true, true, false, false] rfl rfl (by kernel_rfl) (fun _ _ _ h => h) (Or.inl ⟨by rfl, ?_⟩) ?_ ?_
  rotate_left
  · intro w'
    go_simp
    with_reducible rfl
  rotate_left
  · simp only [Act.put, List.setIfInBounds_toArray, List.set_cons_zero, List.set_cons_succ, i64_w, i32_w]
    rfl
  refine pure_ (i := 10) (N := some 7) (v := ?_) (a' := ?_) #[true, true, true, true, true, true, true, true, true, true, true, false] rfl rfl (by kernel_rfl) (fun _ _ _ h => h) (Or.inl ⟨by rfl, ?_⟩) ?_ ?_
  rotate_left
  · intro w'
    go_simp
    with_reducible rfl
  rotate_left
  · simp only [Act.put, List.setIfInBounds_toArray, List.set_cons_zero, List.set_cons_succ, i64_w, i32_w]
    rfl
  refine pure_ (i := 11) (N := some 8) (v := ?_) (a' := ?_) #[true, true, true, true, true, true, true, true, true, true, true, true] rfl rfl (by kernel_rfl) (fun _ _ _ h => h) (Or.inl ⟨by rfl, ?_⟩) ?_ ?_
  rotate_left
  · intro w'
    go_simp
    with_reducible rfl
  rotate_left
  · simp only [Act.put, List.setIfInBounds_toArray, List.set_cons_zero, List.set_cons_succ, i64_w, i32_w]
    rfl
  refine done_ (by kernel_rfl) ?_
  go_wp2
  go_ret3
  exact ⟨rfl, hb3⟩
theorem impl_ExchangeTiles.calls (k : Nat) (a0 a1 a2 : ByteArray) (r1 r2 : ByteArray) (r3 : Int) (w : World) (h : impl_ExchangeTiles.f k a0 a1 a2 = some (r1, r2, r3)) :
    Calls Try.prog 18 #[.string a0, .string a1, .string a2] w fun e w' => e = .returned (.tuple #[.string r1, .string r2, .int .i64 r3]) ∧ Below w.heap.size w w' := by
  unfold impl_ExchangeTiles.f at h
  obtain ⟨p, hp, h⟩ := Option.bind_eq_some_iff.1 h
  cases p with
  | false =>
    rw [if_neg (by simp)] at h
    simp only [Option.some.injEq, Prod.mk.injEq] at h
    obtain ⟨rfl, rfl, rfl⟩ := h
    exact exch_no1 k a0 a1 a2 w (Lib.hid hp)
  | true =>
    rw [if_pos rfl] at h
    obtain ⟨q, hq, h⟩ := Option.bind_eq_some_iff.1 h
    cases q with
    | false =>
      rw [if_neg (by simp)] at h
      simp only [Option.some.injEq, Prod.mk.injEq] at h
      obtain ⟨rfl, rfl, rfl⟩ := h
      exact exch_no2 k a0 a1 a2 w (Lib.hid hp) (Lib.hid hq)
    | true =>
      rw [if_pos rfl] at h
      obtain ⟨t, ht, h⟩ := Option.bind_eq_some_iff.1 h
      cases t with
      | false =>
        rw [if_neg (by simp)] at h
        simp only [Option.some.injEq, Prod.mk.injEq] at h
        obtain ⟨rfl, rfl, rfl⟩ := h
        exact exch_no3 k a0 a1 a2 w (Lib.hid hp) (Lib.hid hq) (Lib.hid ht)
      | true =>
        rw [if_pos rfl] at h
        unfold exchTail at h
        by_cases he : a2.toList = []
        · rw [if_pos he] at h
          simp only [Option.some.injEq, Prod.mk.injEq] at h
          obtain ⟨rfl, rfl, rfl⟩ := h
          exact exch_empty k a0 a1 a2 w (Lib.hid hp) (Lib.hid hq) (Lib.hid ht) he
        · rw [if_neg he] at h
          obtain ⟨⟨x, b⟩, hw, h⟩ := Option.bind_eq_some_iff.1 h
          cases b with
          | false =>
            rw [if_neg (by simp)] at h
            simp only [Option.some.injEq, Prod.mk.injEq] at h
            obtain ⟨rfl, rfl, rfl⟩ := h
            exact exch_none k a0 a1 a2 x w (Lib.hid hp) (Lib.hid hq) (Lib.hid ht) he (Lib.hid hw)
          | true =>
            rw [if_pos rfl] at h
            by_cases hf : (a0.size : Int) < 7
            · rw [if_pos hf] at h
              simp only [Option.some.injEq, Prod.mk.injEq] at h
              obtain ⟨rfl, rfl, rfl⟩ := h
              exact exch_few k a0 a1 a2 x w (Lib.hid hp) (Lib.hid hq) (Lib.hid ht) he (Lib.hid hw) hf
            · rw [if_neg hf] at h
              by_cases hz : a2.size ≤ 7 ∧ a0.size ≤ 1000 ∧ x.size ≤ 1000
              · rw [if_pos hz] at h
                obtain ⟨s, hs, h⟩ := Option.bind_eq_some_iff.1 h
                simp only [Option.some.injEq, Prod.mk.injEq] at h
                obtain ⟨rfl, rfl, rfl⟩ := h
                exact exch_ok k a0 a1 a2 x s w (Lib.hid hp) (Lib.hid hq) (Lib.hid ht) he (Lib.hid hw) (by omega) hz.1 hz.2.1 hz.2.2 (Lib.hid hs)
              · rw [if_neg hz] at h
                exact absurd h (by simp)
end Go.Proofs.Ytjolcfheommchaa.G

/- The tiles of a string counted, and the pile of counts: the program's countsOf, pile and sorted, walked. -/
import Derived.Test.YtjolcfheommchaaGBuilder
import Derived.Test.YtjolcfheommchaaWWords
import Derived.Test.YtjolcfheommchaaShelf
import Derived.Deep.LoopGhost
import Derived.Lib.Hide
namespace Go.Proofs.Ytjolcfheommchaa.G
set_option linter.unusedVariables false
set_option linter.unusedSimpArgs false
open Go.RowKit Go.Proofs.YtjolcfheommchaaW.PrintWords

theorem below_setRow {B : Nat} {w W : World} (h : Below B w W) (g : Nat) (hg : B ≤ g) (cs : Array Value) : Below B w (W.setRow g cs) :=
  ⟨h.os, h.tape, h.output, by rw [size_setRow]; exact h.size, fun i hi => by
    rw [← h.block i hi]
    simp only [World.setRow, Array.getElem?_modify]
    rw [if_neg (by omega)]⟩
def encI (cs : List Int) : Array Value := (cs.map (Value.int .i64)).toArray
theorem ret_int {k : IntKind} {a b : Int} (h : a = b) : Ending.returned (.int k a) = .returned (.int k b) := by rw [h]
theorem encI_size (cs : List Int) : (encI cs).size = cs.length := by simp [encI]
theorem encI_one (cs : List Int) : (encI cs).all (·.oneCell') = true := by simp [encI, Value.oneCell']
theorem encI_get (cs : List Int) (j : Nat) (h : j < cs.length) : (encI cs)[j]? = some (.int .i64 (cs.getD j 0)) := by simp [encI, h]
theorem encI_set (cs : List Int) (j : Nat) (x : Int) : (encI cs).setIfInBounds j (.int .i64 x) = encI (cs.set j x) := by simp [encI, List.map_set]
def placeI (c : Int) : Int := if c = 63 then 0 else if 97 ≤ c ∧ c ≤ 122 then c - 96 else -1

set_option maxHeartbeats 1000000 in
set_option maxRecDepth 100000 in
theorem place_calls (c : Int) (w : World) (h0 : 0 ≤ c) (h1 : c ≤ 255) :
    Calls Try.prog 150 #[.int .u8 c] w fun e w' => e = .returned (.int .i64 (placeI c)) ∧ w = w' := by
  by_cases h : c = 63
  · subst h
    go_enter Try.func150, Try.ntmps150
    go_wp2
    go_ret
    exact ⟨rfl, rfl⟩
  · have hn : (c == 63) = false := beq_eq_false_iff_ne.2 h
    by_cases h2 : 97 ≤ c
    · by_cases h3 : c ≤ 122
      · have e : placeI c = c - 96 := by unfold placeI; rw [if_neg h, if_pos ⟨h2, h3⟩]
        rw [e]; clear e
        go_enter Try.func150, Try.ntmps150
        go_wp2
        go_ret
        exact ⟨ret_int (by omega), rfl⟩
      · have e : placeI c = -1 := by unfold placeI; rw [if_neg h, if_neg (fun x => h3 x.2)]
        rw [e]; clear e
        go_enter Try.func150, Try.ntmps150
        go_wp2
        go_ret
        exact ⟨rfl, rfl⟩
    · have e : placeI c = -1 := by unfold placeI; rw [if_neg h, if_neg (fun x => h2 x.1)]
      rw [e]; clear e
      go_enter Try.func150, Try.ntmps150
      go_wp2
      go_ret
      exact ⟨rfl, rfl⟩

/-- One more at an index. -/
def bump (cs : List Int) (j : Nat) : List Int := cs.set j (cs.getD j 0 + 1)
/-- How often each tile is among the first k bytes. -/
def cntTo (s : ByteArray) : Nat → List Int
  | 0 => List.replicate 27 0
  | k + 1 => bump (cntTo s k) (placeI (bt s (k : Int))).toNat
theorem cntTo_length (s : ByteArray) : ∀ k, (cntTo s k).length = 27
  | 0 => rfl
  | k + 1 => by unfold cntTo bump; rw [List.length_set]; exact cntTo_length s k
theorem cntTo_range (s : ByteArray) : ∀ k, ∀ x ∈ cntTo s k, 0 ≤ x ∧ x ≤ k
  | 0 => by
    intro x hx
    have : x = 0 := List.eq_of_mem_replicate hx
    omega
  | k + 1 => by
    intro x hx
    have ih := cntTo_range s k
    unfold cntTo bump at hx
    rcases List.mem_or_eq_of_mem_set hx with h | rfl
    · have := ih x h; omega
    · have : 0 ≤ (cntTo s k).getD (placeI (bt s (k : Int))).toNat 0 ∧ (cntTo s k).getD (placeI (bt s (k : Int))).toNat 0 ≤ k := by
        rw [List.getD_eq_getElem?_getD]
        rcases h : (cntTo s k)[(placeI (bt s (k : Int))).toNat]? with _ | y
        · simp
        · exact ih y (List.mem_of_getElem? h)
      omega

set_option maxHeartbeats 2000000 in
set_option maxRecDepth 100000 in
theorem countsOf_calls (s : ByteArray) (w : World) (hs : s.size ≤ 1000000) (ht : ∀ k : Nat, k < s.size → 0 ≤ placeI (bt s (k : Int))) :
    Calls Try.prog 96 #[.string s] w fun e w' => e = .returned (.agg (encI (cntTo s s.size))) ∧ Below w.heap.size w w' := by
  go_enter Try.func96, Try.ntmps96
  go_wp2
  go_loopw [4] (fun i wr => ∃ k : Nat, k ≤ s.size ∧ i = .int .i64 k ∧ Aside0 (wr.heap[w.heap.size]? = some (.cells (encI (List.replicate 27 0)) 121 (0, 0))) ∧ Aside0 (wr.heap[w.heap.size + 1]? = some (.cells (encI (cntTo s k)) 121 (0, 0))) ∧ Aside0 (Below w.heap.size w wr)) (fun i _ => s.size - (intOf i).toNat)
  case atStart =>
    refine ⟨0, Nat.zero_le _, rfl, ⟨?_⟩, ⟨?_⟩, ⟨?_⟩⟩
    · exact heap_alloc2_old _ _ _
    · exact heap_alloc2_new _ _ _
    · exact ((Below.refl _ w).alloc (Nat.le_refl _) _).alloc (by simp) _
  case round =>
    obtain ⟨k, hk, rfl, B0, B1, HB⟩ := hrel
    by_cases hkl : k < s.size
    · have hp := ht k hkl
      have hp2 : placeI (bt s (k : Int)) ≤ 26 := by unfold placeI; split; omega; split <;> omega
      have hb := bt_range s (k : Int)
      have hbt : ((s[k]'hkl).toNat : Int) = bt s (k : Int) := bt_at s (k : Int) (by simpa using hkl)
      have hby : ((s[k]'hkl).toNat : Int) ≤ 255 := by rw [hbt]; exact hb.2
      have HBT := Lib.hid hbt
      clear hbt
      have hl := cntTo_length s k
      generalize hpe : placeI (bt s (k : Int)) = p at hp hp2
      have hcell : wr.cell? ⟨w.heap.size + 1, p.toNat, none⟩ = some (.int .i64 ((cntTo s k).getD p.toNat 0)) := by
        rw [cell_of_row _ _ _ _ _ _ B1.out, encI_get _ _ (by omega)]
      have hfr : wr.frozen? ⟨w.heap.size + 1, p.toNat, none⟩ = false := frozen_of_row _ _ _ _ _ B1.out
      have hrg : 0 ≤ (cntTo s k).getD p.toNat 0 ∧ (cntTo s k).getD p.toNat 0 ≤ k := by
        rw [List.getD_eq_getElem?_getD]
        rcases h : (cntTo s k)[p.toNat]? with _ | y
        · simp
        · exact cntTo_range s k y (List.mem_of_getElem? h)
      obtain ⟨x, hx⟩ : ∃ x, x = (cntTo s k).getD p.toNat 0 := ⟨_, rfl⟩
      rw [← hx] at hcell hrg
      have HX := Lib.hid hx
      have HP := Lib.hid hpe
      clear hx hpe
      go_wp2_with (go_at_call 150; refine (place_calls _ _ (by omega) (by omega)).mono ?_; rintro e w1 ⟨rfl, rfl⟩; rw [HBT.out, HP.out])
      go_roundw
      case rel =>
        refine ⟨k + 1, by omega, by go_num, ⟨?_⟩, ⟨?_⟩, ⟨?_⟩⟩
        · rw [heap_setCell_other _ _ _ _ (by simp)]; exact B0.out
        · rw [heap_setCell_same _ _ _ _ _ _ B1.out]
          show _ = some (Obj.cells (encI (bump (cntTo s k) (placeI (bt s (k : Int))).toNat)) 121)
          rw [HP.out, encI_set, HX.out]; rfl
        · exact HB.out.setCell (by simp) _
      case measure => simp [intOf]; omega
    · obtain rfl : k = s.size := by omega
      have hsz : (encI (cntTo s s.size)).size = 27 := by rw [encI_size, cntTo_length]
      have hi : (Try.prog.info? 121).map (·.size) = some (encI (cntTo s s.size)).size := by rw [hsz]; kernel_rfl
      have HI := Lib.hid hi
      clear hi hsz
      go_wp2_with (first | (with_reducible refine wpList_load_row rfl 121 (.tmp 3) rfl (w.heap.size + 1) rfl 121 _ (0, 0) _ B1.out Try.underlying121 rfl HI.out ?_) | (with_reducible refine wpList_store_row rfl 121 (.tmp 2) (.tmp 19) rfl w.heap.size _ rfl rfl 121 _ B0.out HI.out ?_ (encI_one _) ?_))
      case refine_1 => rw [encI_size, encI_size, cntTo_length]; rfl
      refine bodyPost_ret (v := .agg (encI (cntTo s s.size))) (results_cell_row rfl _ _ w.heap.size 121 _ (0, 0) _ rfl (setRow_heap _ _ _ _ _ _ B0.out) Try.underlying121 rfl HI.out) rfl ⟨rfl, ?_⟩
      exact below_setRow HB.out _ (Nat.le_refl _) _

/-- The tile with an index. -/
def tileI (k : Int) : Int := if k = 0 then 63 else 96 + k
def tileU (k : Nat) : UInt8 := UInt8.ofNat (if k = 0 then 63 else 96 + k)
theorem tileU_toNat (k : Nat) (h : k ≤ 26) : ((tileU k).toNat : Int) = tileI k := by
  unfold tileU tileI
  have e : (if k = 0 then 63 else 96 + k) < 256 := by split <;> omega
  rw [UInt8.toNat_ofNat', Nat.mod_eq_of_lt e]
  split <;> split <;> omega
theorem run_index_encI (cs : List Int) (k : Nat) (w : World) (hl : cs.length = 27) (hk : k < 27) :
    (Instr.index 121 (.agg (encI cs)) (.int .i64 k)).run Try.prog w = .ok (.int .i64 (cs.getD k 0)) w := by
  have hg := encI_get cs k (by omega)
  have h3 : (Try.prog.info? 3).map (fun i => i.size) = some 1 := by kernel_rfl
  obtain ⟨i, hi, h1⟩ := Option.map_eq_some_iff.1 h3
  simp [Instr.index, asIntOf, run_underlying Try.underlying121, Sem.run_bind, part, sizeOf, typeInfo, hk, hi, h1, hg]
theorem tileAt_calls (k : Int) (w : World) (h0 : 0 ≤ k) (h1 : k ≤ 26) :
    Calls Try.prog 170 #[.int .i64 k] w fun e w' => e = .returned (.int .u8 (tileI k)) ∧ w = w' := by
  by_cases h : k = 0
  · subst h
    go_enter Try.func170, Try.ntmps170
    go_wp2
    go_ret
    exact ⟨rfl, rfl⟩
  · have hn : (k == 0) = false := beq_eq_false_iff_ne.2 h
    have e : tileI k = 96 + k := if_neg h
    rw [e]; clear e
    go_enter Try.func170, Try.ntmps170
    go_wp2
    go_ret
    exact ⟨ret_int (by omega), rfl⟩
/-- The pile of the counts of the tiles before k. -/
def pileTo (cs : List Int) : Nat → List UInt8
  | 0 => []
  | k + 1 => pileTo cs k ++ List.replicate (cs.getD k 0).toNat (tileU k)
theorem pileTo_len (cs : List Int) (M : Nat) (h : ∀ x ∈ cs, 0 ≤ x ∧ x ≤ M) : ∀ k, (pileTo cs k).length ≤ k * M
  | 0 => by simp [pileTo]
  | k + 1 => by
    have ih := pileTo_len cs M h k
    have hx : (cs.getD k 0).toNat ≤ M := by
      rw [List.getD_eq_getElem?_getD]
      rcases e : cs[k]? with _ | y
      · simp
      · have := h y (List.mem_of_getElem? e); simp; omega
    unfold pileTo
    rw [List.length_append, List.length_replicate, Nat.succ_mul]
    omega
set_option maxHeartbeats 2000000 in
set_option maxRecDepth 100000 in
theorem pile_calls (cs : List Int) (w : World) (hl : cs.length = 27) (hx : ∀ x ∈ cs, 0 ≤ x ∧ x ≤ 1000000) :
    Calls Try.prog 140 #[.agg (encI cs)] w fun e w' => e = .returned (.string ⟨(pileTo cs 27).toArray⟩) ∧ Below w.heap.size w w' := by
  have hi : (Try.prog.info? 121).map (·.size) = some (encI cs).size := by rw [encI_size, hl]; kernel_rfl
  have HI := Lib.hid hi
  have HL := Lib.hid hl
  clear hi hl
  go_enter Try.func140, Try.ntmps140
  go_wp2_with (with_reducible refine wpList_load_row rfl 121 (.tmp 1) rfl w.heap.size rfl 121 _ (0, 0) _ (heap_alloc2_old _ _ _) Try.underlying121 rfl HI.out ?_)
  go_loopw [7] (fun i wr => ∃ k : Nat, k ≤ 27 ∧ i = .int .i64 k ∧ Aside0 (Lib.IsBuilder 177 5 w.heap.size (w.heap.size + 1) (Lib.byteCells (pileTo cs k)) wr) ∧ Aside0 (Below w.heap.size w wr)) (fun i _ => 27 - (intOf i).toNat)
  case atStart =>
    refine ⟨0, Nat.zero_le _, rfl, ⟨.inl ⟨by omega, .slice none 0 0, heap_alloc2_new _ _ _, ?_, by simp [Value.ownBlock]⟩⟩, ⟨((Below.refl _ w).alloc (Nat.le_refl _) _).alloc (by simp) _⟩⟩
    exact own_nil _ _ _ _
  case round =>
    obtain ⟨k, hk, rfl, B1, HB⟩ := hrel
    by_cases hkl : k < 27
    · have hd27 : decide ((k : Int) < 27) = true := decide_eq_true (by omega)
      have hix := run_index_encI cs k wr HL.out hkl
      have hxx : 0 ≤ cs.getD k 0 ∧ cs.getD k 0 ≤ 1000000 := by
        rw [List.getD_eq_getElem?_getD]
        rcases e : cs[k]? with _ | y
        · simp
        · exact hx y (List.mem_of_getElem? e)
      have hlen := pileTo_len cs 1000000 hx k
      obtain ⟨x, hxe⟩ : ∃ x : Nat, cs.getD k 0 = (x : Int) := ⟨(cs.getD k 0).toNat, by omega⟩
      rw [hxe] at hix hxx
      have HX := Lib.hid hxe
      clear hxe
      go_wp2_with (fail)
      go_loopw [5] (fun v wr' => ∃ n : Nat, n ≤ x ∧ v = .int .i64 n ∧ Aside0 (Lib.IsBuilder 177 5 w.heap.size (w.heap.size + 1) (Lib.byteCells (pileTo cs k ++ List.replicate (x - n) (tileU k))) wr') ∧ Aside0 (Below w.heap.size w wr')) (fun v _ => (intOf v).toNat)
      case atStart => exact ⟨x, Nat.le_refl _, rfl, ⟨by rw [Nat.sub_self]; simpa using B1.out⟩, HB⟩
      case round =>
        obtain ⟨n, hn, rfl, B2, HB2⟩ := hrel
        by_cases hn0 : 0 < n
        · go_wp2_with (first | (go_at_call 170; refine (tileAt_calls _ _ (by omega) (by omega)).mono ?_; rintro e w1 ⟨rfl, rfl⟩))
          have hlb : (Lib.byteCells (pileTo cs k ++ List.replicate (x - n) (tileU k))).length + 1 ≤ 140737488355328 := by
            rw [Lib.byteCells_length, List.length_append, List.length_replicate]; omega
          refine (writeByte w.heap.size (w.heap.size + 1) _ _ _ B2.out hlb HB2.out.size).mono ?_
          rintro e w2 ⟨rfl, hB3, hb3⟩
          go_wp2_with (fail)
          go_roundw
          case rel =>
            refine ⟨n - 1, by omega, by go_num, ⟨.inr ?_⟩, ⟨HB2.out.trans hb3⟩⟩
            have e : Lib.byteCells (pileTo cs k ++ List.replicate (x - (n - 1)) (tileU k)) = Lib.byteCells (pileTo cs k ++ List.replicate (x - n) (tileU k)) ++ [.int .u8 (tileI k)] := by
              rw [show x - (n - 1) = (x - n) + 1 by omega, List.replicate_succ', ← List.append_assoc]
              unfold Lib.byteCells
              rw [List.map_append]
              congr 1
              simp [tileU_toNat k (by omega)]
            rw [e]; exact hB3
          case measure => simp [intOf]; omega
        · obtain rfl : n = 0 := by omega
          go_wp2_with (fail)
          go_roundw
          case rel =>
            refine ⟨k + 1, by omega, by go_num, ⟨?_⟩, HB2⟩
            have e : pileTo cs (k + 1) = pileTo cs k ++ List.replicate (x - 0) (tileU k) := by
              show pileTo cs k ++ List.replicate (cs.getD k 0).toNat (tileU k) = _
              rw [HX.out]; rfl
            rw [e]; exact B2.out
          case measure => simp [intOf]; omega
    · obtain rfl : k = 27 := by omega
      go_wp2_with (go_at_call 156; refine (Try.Builder_String_any w.heap.size (w.heap.size + 1) (pileTo cs 27) _ B1.out HB.out.size).mono ?_; rintro e w2 ⟨rfl, hb3⟩)
      go_ret
      exact ⟨rfl, HB.out.trans hb3⟩

end Go.Proofs.Ytjolcfheommchaa.G

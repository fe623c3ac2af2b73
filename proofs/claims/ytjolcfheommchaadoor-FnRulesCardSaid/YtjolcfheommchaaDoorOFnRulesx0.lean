/- Walks of the functions that a law reaches, printed by a program of this session. -/
import Derived.Test.YtjolcfheommchaaDoorProg
import Derived.Below
import Derived.Deep.Draws
import Derived.Deep.AppendLies
import Derived.Maps.AppendAt
import Derived.OwnWalk
import Derived.Laws.BytesArg
import Derived.Laws.MakeOwn
import Derived.Laws.OwnMore
import Derived.Deep.OwnRows
import Derived.Tactics
import Derived.Lib.ConvBytes
import Derived.Laws.Slices
import Derived.WalkKit
import Derived.KernelRfl
import Derived.RowKit3
import Derived.Deep.LoopGhost
import Derived.Deep.QuietTactic
import Derived.BigQuiet
import Derived.WideLaws
import Derived.Deep.DeepCutAuto
import Derived.Deep.CutBlock
import Derived.Deep.RegionHeld3
import Derived.Laws.Rows
import Derived.Lib.AppendStr
import Derived.ArgAppend
import Derived.Laws.IdiomCopy
import Derived.OrdersHeld
import Derived.Laws.BitsLemmas
import Derived.RowKit
import Derived.Test.YtjolcfheommchaaDoorOpen
import Derived.Test.YtjolcfheommchaaDoorCover
import Derived.Test.YtjolcfheommchaaDoorGAdj
import Derived.Test.YtjolcfheommchaaDoorGRule
import Derived.Test.YtjolcfheommchaaDoorWWords
import Derived.Test.YtjolcfheommchaaDoorWLast
import Derived.Test.YtjolcfheommchaaDoorWTab
import Derived.Test.YtjolcfheommchaaDoorWFour
import Derived.Test.YtjolcfheommchaaDoorWQPut
import Derived.Test.YtjolcfheommchaaDoorWApart
import Derived.Test.YtjolcfheommchaaDoorWArr
import Derived.Test.YtjolcfheommchaaDoorWZeros
import Derived.Test.YtjolcfheommchaaDoorWFoot
import Derived.Test.YtjolcfheommchaaDoorWKept
import Derived.Test.YtjolcfheommchaaDoorWShare
import Derived.Test.YtjolcfheommchaaDoorWN
import Derived.Test.YtjolcfheommchaaDoorWFootNe
import Derived.Test.YtjolcfheommchaaDoorWAt
import Derived.Test.YtjolcfheommchaaDoorWEqStruct
import Derived.Test.YtjolcfheommchaaDoorWRepsOne
import Derived.Test.YtjolcfheommchaaDoorWInv
import Derived.Test.YtjolcfheommchaaDoorWInvWords
import Derived.Test.YtjolcfheommchaaDoorWGuard
import Derived.Test.YtjolcfheommchaaDoorWNEv
import Derived.Test.YtjolcfheommchaaDoorWMore
namespace Go.Proofs.YtjolcfheommchaaDoor.OFnRules
open Go.RowKit Go.Proofs.YtjolcfheommchaaDoorW.PrintWords Go.Proofs.YtjolcfheommchaaDoorW.PrintLast Go.Proofs.YtjolcfheommchaaDoorW.PrintMore
attribute [local go_sem] max2_int min2_int max_two min_two max_three min_three max_four min_four   -- for this text's walks alone
open Go.Proofs.YtjolcfheommchaaDoor.Open
open Go.Proofs.YtjolcfheommchaaDoor.G
set_option linter.unusedVariables false
set_option linter.unusedSimpArgs false



def errW : Option Int → Value
  | none => .nilIface
  | some c => .iface 0 (.int .i64 c)
theorem errW_none : errW none = .nilIface := rfl
theorem errW_some (c : Int) : errW (some c) = .iface 0 (.int .i64 c) := rfl

theorem info5 : (Tryd.prog.info? 5).map (fun i => (i.zero, i.size, i.bytes)) = some (some (.int .u8 0), 1, 1) := by kernel_rfl
theorem info9 : (Tryd.prog.info? 9).map (fun i => (i.zero, i.size, i.bytes)) = some (some (.string ⟨#[]⟩), 1, 16) := by kernel_rfl
-- the values' own types
def rd_L3 (xs : List (List ByteArray)) (i : Int) : (List ByteArray) := xs.getD i.toNat ([] : List ByteArray)
theorem at_L3 {w : World} {A : Option Addr} {n : Nat} {xs : List (List ByteArray)} (h : Kd.C (Kd.slice 9 Kd.string) w A n xs) (i : Int) (h0 : 0 ≤ i) (h1 : i < n) : ∃ ad A0 c0, A = some ad ∧ w.cell? (ad.add i.toNat) = some (.slice A0 (rd_L3 xs i).length c0) ∧ (rd_L3 xs i).length ≤ c0 ∧ Kd.string.C w A0 (rd_L3 xs i).length (rd_L3 xs i) := by
  obtain ⟨ad, c, e, _, hK, hc0⟩ := Kd.C_get h ([] : List ByteArray) i h0 h1
  have hc : ∀ j u, c[j]? = some u → w.cell? (ad.add (i.toNat * 1 + j)) = some u := hc0
  obtain ⟨A0, c0, rfl, l0, g0⟩ := hK
  exact ⟨ad, A0, c0, e, by have hq := hc 0 _ rfl; rwa [Nat.mul_one, Nat.add_zero] at hq, l0, g0⟩

/-! #### struct type 37 -/
structure S37 where
  f0 : (List ByteArray)
def z37 : S37 := ⟨([] : List ByteArray)⟩
def k37 : Kd S37 := Kd.iso (Kd.slice 9 Kd.string) (fun x : S37 => x.f0)
theorem k37_open {w : World} {x : S37} {cs : List Value} (h : k37.K w x cs) : ∃ A0 c0, cs = [.slice A0 x.f0.length c0] ∧ x.f0.length ≤ c0 ∧ Kd.string.C w A0 x.f0.length x.f0 := by
  obtain ⟨A0, c0, rfl, l0, g0⟩ := h
  exact ⟨A0, c0, rfl, l0, g0⟩
theorem k37_openM {w : World} {base : Nat} {ok : Nat → Prop} {x : S37} {cs : List Value} (h : k37.M w base ok x cs) : ∃ v0, cs = [v0] ∧ Kd.string.R 9 w base ok v0 x.f0 := by
  obtain ⟨v0, rfl, g0⟩ := h
  exact ⟨v0, rfl, g0⟩
theorem k37_mk (w : World) (x : S37) {A0 : Option Addr} {c0 : Nat} (l0 : x.f0.length ≤ c0) (g0 : Kd.string.C w A0 x.f0.length x.f0) : k37.K w x [.slice A0 x.f0.length c0] := ⟨A0, c0, rfl, l0, g0⟩
theorem k37_mkM (w : World) (base : Nat) (ok : Nat → Prop) (x : S37) {v0 : Value} (g0 : Kd.string.R 9 w base ok v0 x.f0) : k37.M w base ok x [v0] := ⟨v0, rfl, g0⟩
def rd_T37 (xs : List S37) (i : Int) : S37 := xs.getD i.toNat z37
theorem at_T37 {w : World} {A : Option Addr} {n : Nat} {xs : List S37} (h : Kd.C k37 w A n xs) (i : Int) (h0 : 0 ≤ i) (h1 : i < n) : ∃ ad A0 c0, A = some ad ∧ w.cell? (ad.add i.toNat) = some (.slice A0 (rd_T37 xs i).f0.length c0) ∧ (rd_T37 xs i).f0.length ≤ c0 ∧ Kd.string.C w A0 (rd_T37 xs i).f0.length (rd_T37 xs i).f0 := by
  obtain ⟨ad, c, e, _, hK, hc0⟩ := Kd.C_get h z37 i h0 h1
  have hc : ∀ j u, c[j]? = some u → w.cell? (ad.add (i.toNat * 1 + j)) = some u := hc0
  obtain ⟨A0, c0, rfl, l0, g0⟩ := k37_open hK
  exact ⟨ad, A0, c0, e, by have hq := hc 0 _ rfl; rwa [Nat.mul_one, Nat.add_zero] at hq, l0, g0⟩


end Go.Proofs.YtjolcfheommchaaDoor.OFnRules

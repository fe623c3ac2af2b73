/- What can be read as data opens to plain values: by kinds, for the rows of laws whose arguments are structs and slices of structs. -/
import Derived.Test.YtgbdklbapdgldaaDoorWWords
import Derived.ChangeArms
import Derived.Deep.Slices
import Derived.WideShapes
import Derived.DataReads
namespace Go.Proofs.YtgbdklbapdgldaaDoor.Open
open Go.RowKit Go.WideShapes Go.Deep Go.Proofs.YtgbdklbapdgldaaDoorW.PrintWords

/-- The readable data of type t open to values of kind d, of which B holds. -/
def Opens (P : Program) {α : Type} (t : TypeId) (d : Kd α) (B : α → Prop) : Prop :=
  P.cellsOf t = d.sz ∧ ∀ {H : Type} {enc : TypeId × Value → H} {w : World} {base : Nat} {sp : Nat → Bool} {held : Bool} {fuel : Nat} {cs : List Value} {x : DataW H × List MemPlace},
    DataW.trod enc P w base sp held fuel t cs = some x → ∃ a, d.K w a cs ∧ B a

variable {P : Program}

theorem opens_int {t : TypeId} {k : IntKind} (ht : P.underlying t = some (.int k)) (hc : P.cellsOf t = 1) : Opens P t (Kd.int k) (fun n => (Lit.int k n).wf = true) :=
  ⟨hc, fun h => by obtain ⟨n, rfl, _, hw⟩ := DataW.trod_int ht h; exact ⟨n, rfl, hw⟩⟩

theorem opens_bool {t : TypeId} (ht : P.underlying t = some .bool) (hc : P.cellsOf t = 1) : Opens P t Kd.bool (fun _ => True) :=
  ⟨hc, fun h => by obtain ⟨b, rfl, _⟩ := DataW.trod_bool ht h; exact ⟨b, rfl, trivial⟩⟩

theorem opens_string {t : TypeId} (ht : P.underlying t = some .string) (hc : P.cellsOf t = 1) : Opens P t Kd.string (fun s => s.size ≤ 9223372036854775807) :=
  ⟨hc, fun h => by obtain ⟨s, rfl, _, hs⟩ := DataW.trod_string ht h; exact ⟨s, rfl, by unfold maxLen at hs; omega⟩⟩

theorem list_of {α : Type} {p : Nat → α → Prop} : ∀ n : Nat, (∀ i, i < n → ∃ a, p i a) → ∃ xs : List α, xs.length = n ∧ ∀ i a, xs[i]? = some a → p i a
  | 0, _ => ⟨[], rfl, fun i a h => by simp at h⟩
  | n + 1, h => by
    obtain ⟨xs, hl, hp⟩ := list_of n (fun i hi => h i (by omega))
    obtain ⟨a, ha⟩ := h n (by omega)
    refine ⟨xs ++ [a], by simp [hl], fun i b hb => ?_⟩
    by_cases hi : i < n
    · rw [List.getElem?_append_left (by omega)] at hb
      exact hp i b hb
    · rw [List.getElem?_append_right (by omega)] at hb
      have e : i - xs.length = 0 := by
        rcases Nat.eq_zero_or_pos (i - xs.length) with h0 | h0
        · exact h0
        · rw [List.getElem?_eq_none (by simp; omega)] at hb
          cases hb
      rw [e] at hb
      have e2 : i = n := by omega
      subst e2
      have : a = b := by simpa using hb
      exact this ▸ ha

theorem opens_slice {α : Type} {t e : TypeId} {d : Kd α} {B : α → Prop} (ht : P.underlying t = some (.slice e)) (hc : P.cellsOf t = 1) (he : Opens P e d B) :
    Opens P t (Kd.slice e d) (fun xs => xs.length ≤ 9223372036854775807 ∧ ∀ x ∈ xs, B x) :=
  ⟨hc, fun {H enc w base sp held fuel cs x} h => by
    rcases open_slice ht h with ⟨rfl, _⟩ | ⟨a, len, cap, m, n, D, Pl, rfl, _, hl, hm, hmm, _, hx⟩
    · exact ⟨[], ⟨none, 0, rfl, Nat.le_refl _, rfl, Nat.zero_le _, fun h0 => absurd h0 (Nat.lt_irrefl _)⟩, Nat.zero_le _, fun x hx => by cases hx⟩
    · have hle : len ≤ m := by rw [hmm]; split <;> omega
      have hmx : len ≤ 9223372036854775807 := by unfold maxLen at hm; omega
      have each : ∀ i, i < len → ∃ y : α, (∃ c, c.length = d.sz ∧ d.K w y c ∧ ∀ j u, c[j]? = some u → w.cell? (a.add (i * d.sz + j)) = some u) ∧ B y := fun i hi => by
        obtain ⟨c, h1, h2⟩ := hx i (by omega)
        rw [he.1] at h1
        obtain ⟨y, hK, hB⟩ := he.2 h2
        obtain ⟨_, hlc, hcell⟩ := World.cells?_some h1
        refine ⟨y, ⟨c, hlc, hK, fun j u hu => ?_⟩, hB⟩
        have hj : j < d.sz := by
          rcases Nat.lt_or_ge j d.sz with hj | hj
          · exact hj
          · rw [List.getElem?_eq_none (by omega)] at hu
            cases hu
        have := hcell j hj
        rw [hu] at this
        rw [← this, Go.Deep.add_add]
      obtain ⟨xs, hlx, hp⟩ := list_of len each
      subst hlx
      exact ⟨xs, ⟨some a, cap, rfl, hl, rfl, hmx, fun _ => ⟨a, rfl, fun j p hj => (hp j p hj).1⟩⟩, hmx, fun x hxm => by
        obtain ⟨j, hj⟩ := List.getElem?_of_mem hxm
        exact (hp j x hj).2⟩⟩

/-- The fields of a struct from one offset on, as cells in line. -/
def Fields (P : Program) {α : Type} (off : Nat) (fs : List Field) (d : Kd α) (B : α → Prop) : Prop :=
  ∀ {H : Type} {enc : TypeId × Value → H} {w : World} {base : Nat} {sp : Nat → Bool} {held : Bool} {fuel : Nat} {cs : List Value},
    cs.length = off + d.sz → (∀ f, f ∈ fs → ∃ x : DataW H × List MemPlace, DataW.trod enc P w base sp held fuel f.type ((cs.drop f.offset).take (P.cellsOf f.type)) = some x) → ∃ a, d.K w a (cs.drop off) ∧ B a

theorem fields_one {α : Type} {off : Nat} {f : Field} {d : Kd α} {B : α → Prop} (ho : f.offset = off) (h : Opens P f.type d B) : Fields P off [f] d B := by
  intro H enc w base sp held fuel cs hl hx
  obtain ⟨x, hx⟩ := hx f (List.mem_singleton.2 rfl)
  rw [ho, h.1, List.take_of_length_le (by simp; omega)] at hx
  exact h.2 hx

theorem fields_cons {α β : Type} {off off' : Nat} {f : Field} {fs : List Field} {d : Kd α} {d' : Kd β} {B : α → Prop} {B' : β → Prop} (ho : f.offset = off) (h : Opens P f.type d B) (ho' : off + d.sz = off') (h' : Fields P off' fs d' B') :
    Fields P off (f :: fs) (Kd.pair d d') (fun x => B x.1 ∧ B' x.2) := by
  intro H enc w base sp held fuel cs hl hx
  have hsz : (Kd.pair d d').sz = d.sz + d'.sz := rfl
  obtain ⟨x, hx0⟩ := hx f (List.mem_cons_self)
  rw [ho, h.1] at hx0
  obtain ⟨a, hK, hB⟩ := h.2 hx0
  obtain ⟨b, hK', hB'⟩ := h' (cs := cs) (by rw [hl, hsz]; omega) (fun g hg => hx g (List.mem_cons_of_mem _ hg))
  refine ⟨(a, b), ⟨(cs.drop off).take d.sz, cs.drop off', ?_, hK, hK'⟩, hB, hB'⟩
  rw [← ho', ← List.drop_drop, List.take_append_drop]

theorem opens_struct {α β : Type} {t : TypeId} {fs : Array Field} {d : Kd β} {B : β → Prop} {proj : α → β} (ht : P.underlying t = some (.struct fs)) (hc : P.cellsOf t = d.sz) (hf : Fields P 0 fs.toList d B)
    (inv : β → α) (hi : ∀ b, proj (inv b) = b) : Opens P t (Kd.iso d proj) (fun x => B (proj x)) :=
  ⟨hc, fun {H enc w base sp held fuel cs x} h => by
    obtain ⟨xs, n, rfl, _, hl, hxl, hx⟩ := DataW.trod_struct ht h
    obtain ⟨b, hK, hB⟩ := hf (enc := enc) (w := w) (base := base) (sp := sp) (held := held) (fuel := n) (cs := cs) (by rw [hl, hc]; omega) (fun f hfm => by
      obtain ⟨i, hi⟩ := List.getElem?_of_mem hfm
      rw [Array.getElem?_toList] at hi
      have := hx i f hi
      have hlt : i < xs.length := by
        rw [hxl]
        rcases Nat.lt_or_ge i fs.size with h | h
        · exact h
        · rw [Array.getElem?_eq_none h] at hi
          cases hi
      rw [List.getElem?_eq_getElem hlt] at this
      exact ⟨_, this⟩)
    refine ⟨inv b, ?_, ?_⟩
    · show d.K w (proj (inv b)) cs
      rw [hi]
      simpa using hK
    · show B (proj (inv b))
      rw [hi]
      exact hB⟩

theorem opens_imp {α : Type} {t : TypeId} {d : Kd α} {B B' : α → Prop} (h : Opens P t d B) (hi : ∀ a, B a → B' a) : Opens P t d B' :=
  ⟨h.1, fun hx => by obtain ⟨a, hK, hB⟩ := h.2 hx; exact ⟨a, hK, hi a hB⟩⟩
end Go.Proofs.YtgbdklbapdgldaaDoor.Open

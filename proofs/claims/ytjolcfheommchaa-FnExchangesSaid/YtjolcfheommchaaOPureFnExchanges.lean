/- For every draw of bags, racks and tiles, exchanging, filling and returning answer as the reference does, and keep all tiles. Conditions: none beyond the statement. -/
import Derived.Test.YtjolcfheommchaaOFnExchangesx7
namespace Go.Proofs.Ytjolcfheommchaa.Pure
open Go.RowKit Go.Proofs.Ytjolcfheommchaa.OFnExchanges Go.Proofs.YtjolcfheommchaaW.PrintWords Go.Proofs.YtjolcfheommchaaW.PrintLast Go.Proofs.YtjolcfheommchaaW.PrintMore Go.Proofs.Ytjolcfheommchaa.G
set_option linter.unusedVariables false
set_option linter.unusedSimpArgs false
theorem evPos {α : Type} {c : Prop} [Decidable c] {f g : Nat → Option α} {r : α} (hc : c) (h : Ev f r) : Ev (fun k => if c then f k else g k) r := by
  simpa only [if_pos hc] using h
theorem evNeg {α : Type} {c : Prop} [Decidable c] {f g : Nat → Option α} {r : α} (hc : ¬ c) (h : Ev g r) : Ev (fun k => if c then f k else g k) r := by
  simpa only [if_neg hc] using h
theorem evBindC {α β : Type} {o : Option α} {a : α} {f : Nat → α → Option β} {r : β} (ho : o = some a) (h : Ev (fun k => f k a) r) : Ev (fun k => o.bind (f k)) r := by
  subst ho; exact h
theorem evBind {α β : Type} {g : Nat → Option α} {f : Nat → α → Option β} {a : α} {r : β} (h : Ev g a) (k : Ev (fun n => f n a) r) : Ev (fun n => (g n).bind (f n)) r := Ev.bind h k
theorem evNow {α : Type} {a r : α} (h : a = r) : Ev (fun _ => some a) r := h ▸ Ev.now a
theorem evStep {α : Type} {g : Nat → Option α} {r : α} (h : Ev (fun k => g (k + 1)) r) : Ev g r := Ev.step (fun _ => rfl) h
theorem evTo {α : Type} {g : Nat → Option α} {a r : α} (h : Ev g a) (e : a = r) : Ev g r := e ▸ h
theorem wrapInc {i : Int} {n : Nat} (h0 : 0 ≤ i) (h : i < (n : Int)) (hn : n ≤ 140737488351232) : wrap64 (i + 1) = i + 1 := by
  unfold wrap64; omega
/-- Do all bytes from the n-th on meet p? -/
def allFrom (p : Int → Bool) (s : ByteArray) (n : Nat) : Bool := ((bytesOf s).drop n).all p
theorem allFrom_end (p : Int → Bool) (s : ByteArray) (n : Nat) (h : s.size ≤ n) : allFrom p s n = true := by
  unfold allFrom; rw [List.drop_of_length_le (by rw [bytesOf_length]; exact h)]; rfl
theorem bytesOf_drop (s : ByteArray) (n : Nat) (h : n < s.size) : (bytesOf s).drop n = bt s (n : Int) :: (bytesOf s).drop (n + 1) := by
  have hl : n < (bytesOf s).length := by rw [bytesOf_length]; exact h
  rw [List.drop_eq_getElem_cons hl]
  have e : (bytesOf s)[n] = bt s (n : Int) := by
    rw [← rd_bytesOf]; unfold rd; simp [List.getD, hl]
  rw [e]
theorem allFrom_step (p : Int → Bool) (s : ByteArray) (i : Int) (h0 : 0 ≤ i) (h : i < (s.size : Int)) : allFrom p s i.toNat = (p (bt s i) && allFrom p s (i + 1).toNat) := by
  obtain ⟨n, rfl⟩ := Int.eq_ofNat_of_zero_le h0
  have e : ((n : Int) + 1).toNat = n + 1 := by omega
  rw [e, Int.toNat_natCast]
  unfold allFrom
  rw [bytesOf_drop s n (by omega)]; rfl
theorem byte_of (x : Int) : 0 ≤ wrap64 (Go.bits .and .u64 (IntKind.u64.wrap x / 1099511627776) 255) ∧ wrap64 (Go.bits .and .u64 (IntKind.u64.wrap x / 1099511627776) 255) ≤ 255 := by
  have hw : 0 ≤ IntKind.u64.wrap x ∧ IntKind.u64.wrap x < 18446744073709551616 := by rw [IntKind.wrap_u64]; omega
  have h := bits_mask .u64 64 (by decide) (fun n h0 h1 => by rw [IntKind.wrap_u64]; omega) 8 (by decide) (IntKind.u64.wrap x / 1099511627776) (by omega) (by omega)
  have e : (2 : Int) ^ 8 - 1 = 255 := by decide
  rw [e] at h
  rw [h]
  unfold wrap64; omega
/-- A source of draws: a byte is drawn, the place moves on by one. -/
theorem next_ok (l : List Int) (hl : l.length ≤ 4096) (hb : ∀ x ∈ l, 0 ≤ x ∧ x ≤ 255) (p s : Int) (h0 : 0 ≤ p) (h1 : p ≤ 1000000000000) :
    ∃ v q, spec_l00Src_next.f l p s = some (v, p + 1, q) ∧ 0 ≤ v ∧ v ≤ 255 := by
  have ew : wrap64 (p + 1) = p + 1 := by unfold wrap64; omega
  unfold spec_l00Src_next.f
  rw [ew]
  by_cases h : p < (l.length : Int)
  · obtain ⟨n, rfl⟩ := Int.eq_ofNat_of_zero_le h0
    have hn : n < l.length := by omega
    have er : rd l (n : Int) = l[n] := by unfold rd; simp [List.getD, hn]
    have hr := hb _ (List.getElem_mem hn)
    rw [if_pos h, if_pos h0]
    split
    · exact ⟨_, _, rfl, by rw [er]; unfold wrap64; omega, by rw [er]; unfold wrap64; omega⟩
    · exact ⟨_, _, rfl, (byte_of _).1, (byte_of _).2⟩
  · rw [if_neg h]
    split
    · exact ⟨_, _, rfl, by omega, by omega⟩
    · exact ⟨_, _, rfl, (byte_of _).1, (byte_of _).2⟩
/-- A number below a bound is picked. -/
theorem pick_ok (l : List Int) (hl : l.length ≤ 4096) (hb : ∀ x ∈ l, 0 ≤ x ∧ x ≤ 255) (p s a : Int) (h0 : 0 ≤ p) (h1 : p ≤ 999999999000) :
    ∃ v q t, spec_l00Src_pick.f l p s a = some (v, q, t) ∧ 0 ≤ v ∧ (1 ≤ a → v < a) ∧ p ≤ q ∧ q ≤ p + 2 := by
  unfold spec_l00Src_pick.f
  by_cases ha : a ≤ 1
  · rw [if_pos ha]; exact ⟨0, p, s, rfl, by omega, by omega, by omega, by omega⟩
  · rw [if_neg ha]
    obtain ⟨v, q, e, hv0, hv1⟩ := next_ok l hl hb p s h0 (by omega)
    rw [e, Option.bind_some]
    have hz : ¬ a = 0 := by omega
    by_cases h2 : a > 200
    · obtain ⟨v2, q2, e2, hu0, hu1⟩ := next_ok l hl hb (p + 1) q (by omega) (by omega)
      rw [if_pos h2, e2, Option.bind_some, if_neg hz]
      have ew : wrap64 (wrap64 (v * 256) + v2) = v * 256 + v2 := by unfold wrap64; omega
      refine ⟨_, p + 1 + 1, _, rfl, ?_, ?_, by omega, by omega⟩
      · show 0 ≤ Int.tmod (wrap64 (wrap64 (v * 256) + v2)) a
        rw [ew]; exact Int.tmod_nonneg _ (by omega)
      · intro _
        show Int.tmod (wrap64 (wrap64 (v * 256) + v2)) a < a
        exact Int.tmod_lt_of_pos _ (by omega)
    · rw [if_neg h2, if_neg hz]
      refine ⟨_, p + 1, _, rfl, Int.tmod_nonneg _ hv0, fun _ => Int.tmod_lt_of_pos _ (by omega), by omega, by omega⟩
/-- One of some texts is picked. -/
theorem text_ok (l : List Int) (hl : l.length ≤ 4096) (hb : ∀ x ∈ l, 0 ≤ x ∧ x ≤ 255) (p s : Int) (ts : List ByteArray) (h0 : 0 ≤ p) (h1 : p ≤ 999999999000) (ht : 1 ≤ ts.length) :
    ∃ v q t, spec_l00Src_text.f l p s ts = some (v, q, t) ∧ v ∈ ts ∧ p ≤ q ∧ q ≤ p + 2 := by
  unfold spec_l00Src_text.f
  obtain ⟨v, q, t, e, hv0, hv1, hq0, hq1⟩ := pick_ok l hl hb p s (ts.length : Int) h0 h1
  have hv := hv1 (by omega)
  obtain ⟨n, rfl⟩ := Int.eq_ofNat_of_zero_le hv0
  have hn : n < ts.length := by omega
  rw [e, Option.bind_some, if_pos hv0, if_pos hv]
  refine ⟨_, q, t, rfl, ?_, hq0, hq1⟩
  have er : rdOf ByteArray.empty ts (n : Int) = ts[n] := by unfold rdOf; simp [List.getD, hn]
  rw [er]; exact List.getElem_mem hn
/-- A byte, again and again. -/
theorem repeat_from (c : Int) (n : Nat) : ∀ xs : List Int, n + xs.length ≤ 1000000 → Ev (fun k => spec_l02Repeat.l0 k c (n : Int) xs) (strOfNums (xs ++ List.replicate n c)) := by
  induction n with
  | zero => intro xs _; exact evStep (evNeg (by omega) (evNow (by simp)))
  | succ n ih =>
    intro xs hx
    have ew : wrap64 (((n + 1 : Nat) : Int) - 1) = (n : Int) := by unfold wrap64; omega
    refine evStep (evPos (by omega) (evPos (by omega) ?_))
    rw [ew]
    refine evTo (ih (xs ++ [c]) (by rw [List.length_append, List.length_singleton]; omega)) ?_
    rw [List.append_assoc]; rfl
theorem repeat_ok (c x : Int) (h0 : 0 ≤ x) (h1 : x ≤ 1000) : ∃ r, Ev (fun k => spec_l02Repeat.f k c x) r ∧ r.size = x.toNat := by
  obtain ⟨n, rfl⟩ := Int.eq_ofNat_of_zero_le h0
  exact ⟨_, repeat_from c n [] (by rw [List.length_nil]; omega), by rw [strOfNums_size, List.nil_append, List.length_replicate]; omega⟩
theorem bag_from (l : List Int) (hl : l.length ≤ 4096) (hb : ∀ x ∈ l, 0 ≤ x ∧ x ≤ 255) (n : Nat) : ∀ (x5 : ByteArray) (p s : Int), 0 ≤ p → p + 2 * n ≤ 999999990000 → x5.size + n ≤ 1000000 →
    ∃ r q t, Ev (fun k => spec_l17Bag.l0 k x5 (n : Int) l p s) (r, q, t) ∧ p ≤ q ∧ q ≤ p + 2 * n ∧ r.size = x5.size + n := by
  induction n with
  | zero => intro x5 p s h0 h1 h2; exact ⟨x5, p, s, evStep (evNeg (by omega) (evNow rfl)), by omega, by omega, by omega⟩
  | succ n ih =>
    intro x5 p s h0 h1 h2
    have ew : wrap64 (((n + 1 : Nat) : Int) - 1) = (n : Int) := by unfold wrap64; omega
    obtain ⟨v, q, t, e, hv, hq0, hq1⟩ := text_ok l hl hb p s ([(⟨#[97]⟩ : ByteArray), (⟨#[101]⟩ : ByteArray), (⟨#[110]⟩ : ByteArray), (⟨#[116]⟩ : ByteArray), (⟨#[115]⟩ : ByteArray), (⟨#[63]⟩ : ByteArray), (⟨#[114]⟩ : ByteArray), (⟨#[113]⟩ : ByteArray)] : List ByteArray) h0 (by omega) (by decide)
    have hv1 : v.size = 1 := by
      simp only [List.mem_cons, List.not_mem_nil, or_false] at hv
      rcases hv with rfl | rfl | rfl | rfl | rfl | rfl | rfl | rfl <;> rfl
    have hz : (x5 ++ v).size = x5.size + 1 := by rw [ByteArray.size_append, hv1]
    obtain ⟨r, q2, t2, e2, hr0, hr1, hr2⟩ := ih (x5 ++ v) q t (by omega) (by omega) (by omega)
    refine ⟨r, q2, t2, evStep (evPos (by omega) (evBindC e (evPos (by show x5.size + v.size ≤ _; omega) ?_))), by omega, by omega, by omega⟩
    rw [ew]; exact e2
/-- A bag's string is drawn, right or bent: short enough. -/
theorem bent17_ok (l : List Int) (hl : l.length ≤ 4096) (hb : ∀ x ∈ l, 0 ≤ x ∧ x ≤ 255) (p s : Int) (h0 : 0 ≤ p) (h1 : p ≤ 1000000) :
    ∃ r q t, Ev (fun k => spec_l17Bent.f k l p s) (r, q, t) ∧ p ≤ q ∧ q ≤ p + 100 ∧ r.size ≤ 200 := by
  unfold spec_l17Bent.f spec_l17Bag.f
  have ew : wrap64 (20 + 1) = 21 := by unfold wrap64; omega
  obtain ⟨v, q, t, e, hv0, hv1, hq0, hq1⟩ := pick_ok l hl hb p s 21 h0 (by omega)
  have hv := hv1 (by omega)
  obtain ⟨n, rfl⟩ := Int.eq_ofNat_of_zero_le hv0
  have z0 : (⟨#[]⟩ : ByteArray).size = 0 := rfl
  obtain ⟨r, q2, t2, e2, hr0, hr1, hr2⟩ := bag_from l hl hb n ⟨#[]⟩ q t (by omega) (by omega) (by omega)
  obtain ⟨u, q3, t3, e3, hu0, hu1, hq2, hq3⟩ := pick_ok l hl hb q2 t2 20 (by omega) (by omega)
  have eB : Ev (fun k => (spec_l00Src_pick.f l p s (wrap64 (20 + 1))).bind fun bt167 => (spec_l17Bag.l0 k (⟨#[]⟩ : ByteArray) bt167.1 l bt167.2.1 bt167.2.2)) (r, q2, t2) := by
    rw [ew]; exact evBindC e e2
  by_cases hu : u = 0
  · obtain ⟨x, q4, t4, e4, hx, hq4, hq5⟩ := text_ok l hl hb q3 t3 ([(⟨#[65]⟩ : ByteArray), (⟨#[32]⟩ : ByteArray), (⟨#[49]⟩ : ByteArray)] : List ByteArray) (by omega) (by omega) (by decide)
    have hx1 : x.size = 1 := by
      simp only [List.mem_cons, List.not_mem_nil, or_false] at hx
      rcases hx with rfl | rfl | rfl <;> rfl
    have hz : (r ++ x).size = r.size + 1 := by rw [ByteArray.size_append, hx1]
    refine ⟨r ++ x, q4, t4, ?_, by omega, by omega, by omega⟩
    refine evBind eB ?_
    refine evBindC e3 ?_
    refine evPos hu ?_
    refine evBindC e4 ?_
    exact evPos (show r.size + x.size ≤ 9223372036854775807 by omega) (evNow rfl)
  · by_cases hu2 : u = 1
    · obtain ⟨x, q4, t4, e4, hx0, hx1, hq4, hq5⟩ := pick_ok l hl hb q3 t3 2 (by omega) (by omega)
      have hx := hx1 (by omega)
      have em : wrap64 (120 + x) = 120 + x := by unfold wrap64; omega
      obtain ⟨y, hy, hyz⟩ := repeat_ok 101 (120 + x) (by omega) (by omega)
      have hR : Ev (fun k => spec_l02Repeat.f k 101 (wrap64 (120 + x))) y := by rw [em]; exact hy
      refine ⟨y, q4, t4, ?_, by omega, by omega, by omega⟩
      refine evBind eB ?_
      refine evBindC e3 ?_
      refine evNeg hu ?_
      refine evPos hu2 ?_
      refine evBindC e4 ?_
      refine evBind hR ?_
      exact evNow rfl
    · refine ⟨r, q3, t3, ?_, by omega, by omega, by omega⟩
      refine evBind eB ?_
      refine evBindC e3 ?_
      refine evNeg hu ?_
      exact evNeg hu2 (evNow rfl)
theorem draw3_from (l : List Int) (hl : l.length ≤ 4096) (hb : ∀ x ∈ l, 0 ≤ x ∧ x ≤ 255) (n : Nat) : ∀ (x5 : ByteArray) (p s : Int), 0 ≤ p → p + 2 * n ≤ 999999990000 → x5.size + n ≤ 1000000 →
    ∃ r q t, Ev (fun k => spec_l03Draw.l0 k x5 (n : Int) l p s) (r, q, t) ∧ p ≤ q ∧ q ≤ p + 2 * n ∧ r.size = x5.size + n := by
  induction n with
  | zero =>
    intro x5 p s h0 h1 h2
    have hs : spec_l03Sort.f x5 = some (sortS x5) := by unfold spec_l03Sort.f; rw [if_pos (by omega)]
    refine ⟨sortS x5, p, s, ?_, by omega, by omega, by rw [sortS_size]; rfl⟩
    refine evStep ?_
    refine evNeg (by omega) ?_
    exact evBindC hs (evNow rfl)
  | succ n ih =>
    intro x5 p s h0 h1 h2
    have ew : wrap64 (((n + 1 : Nat) : Int) - 1) = (n : Int) := by unfold wrap64; omega
    obtain ⟨v, q, t, e, hv, hq0, hq1⟩ := text_ok l hl hb p s ([(⟨#[97]⟩ : ByteArray), (⟨#[101]⟩ : ByteArray), (⟨#[101]⟩ : ByteArray), (⟨#[110]⟩ : ByteArray), (⟨#[114]⟩ : ByteArray), (⟨#[115]⟩ : ByteArray), (⟨#[116]⟩ : ByteArray), (⟨#[98]⟩ : ByteArray), (⟨#[63]⟩ : ByteArray)] : List ByteArray) h0 (by omega) (by decide)
    have hv1 : v.size = 1 := by
      simp only [List.mem_cons, List.not_mem_nil, or_false] at hv
      rcases hv with rfl | rfl | rfl | rfl | rfl | rfl | rfl | rfl | rfl <;> rfl
    have hz : (x5 ++ v).size = x5.size + 1 := by rw [ByteArray.size_append, hv1]
    obtain ⟨r, q2, t2, e2, hr0, hr1, hr2⟩ := ih (x5 ++ v) q t (by omega) (by omega) (by omega)
    refine ⟨r, q2, t2, ?_, by omega, by omega, by omega⟩
    refine evStep ?_
    refine evPos (by omega) ?_
    refine evBindC e ?_
    refine evPos (show x5.size + v.size ≤ 9223372036854775807 by omega) ?_
    rw [ew]; exact e2
/-- A pile's string is drawn, right or bent. -/
theorem bent3_ok (l : List Int) (hl : l.length ≤ 4096) (hb : ∀ x ∈ l, 0 ≤ x ∧ x ≤ 255) (p s a : Int) (h0 : 0 ≤ p) (h1 : p ≤ 1000000) (ha0 : 0 ≤ a) (ha1 : a ≤ 40) :
    ∃ r q t, Ev (fun k => spec_l03Bent.f k l p s a) (r, q, t) ∧ p ≤ q ∧ q ≤ p + 100 ∧ r.size ≤ 200 := by
  unfold spec_l03Bent.f spec_l03Draw.f
  have ew : wrap64 (a + 1) = a + 1 := by unfold wrap64; omega
  obtain ⟨v, q, t, e, hv0, hv1, hq0, hq1⟩ := pick_ok l hl hb p s (a + 1) h0 (by omega)
  have hv := hv1 (by omega)
  obtain ⟨n, rfl⟩ := Int.eq_ofNat_of_zero_le hv0
  have z0 : (⟨#[]⟩ : ByteArray).size = 0 := rfl
  obtain ⟨r, q2, t2, e2, hr0, hr1, hr2⟩ := draw3_from l hl hb n ⟨#[]⟩ q t (by omega) (by omega) (by omega)
  obtain ⟨u, q3, t3, e3, hu0, hu1, hq2, hq3⟩ := pick_ok l hl hb q2 t2 20 (by omega) (by omega)
  have eB : Ev (fun k => (spec_l00Src_pick.f l p s (wrap64 (a + 1))).bind fun bt132 => (spec_l03Draw.l0 k (⟨#[]⟩ : ByteArray) bt132.1 l bt132.2.1 bt132.2.2)) (r, q2, t2) := by
    rw [ew]; exact evBindC e e2
  by_cases hu : u = 0
  · obtain ⟨x, q4, t4, e4, hx, hq4, hq5⟩ := text_ok l hl hb q3 t3 ([(⟨#[97]⟩ : ByteArray), (⟨#[63]⟩ : ByteArray), (⟨#[65]⟩ : ByteArray), (⟨#[49]⟩ : ByteArray)] : List ByteArray) (by omega) (by omega) (by decide)
    have hx1 : x.size = 1 := by
      simp only [List.mem_cons, List.not_mem_nil, or_false] at hx
      rcases hx with rfl | rfl | rfl | rfl <;> rfl
    have hz : (r ++ x).size = r.size + 1 := by rw [ByteArray.size_append, hx1]
    refine ⟨r ++ x, q4, t4, ?_, by omega, by omega, by omega⟩
    refine evBind eB ?_
    refine evBindC e3 ?_
    refine evPos hu ?_
    refine evBindC e4 ?_
    exact evPos (show r.size + x.size ≤ 9223372036854775807 by omega) (evNow rfl)
  · by_cases hu2 : u = 1
    · obtain ⟨x, q4, t4, e4, hx0, hx1, hq4, hq5⟩ := pick_ok l hl hb q3 t3 2 (by omega) (by omega)
      have hx := hx1 (by omega)
      have em : wrap64 (120 + x) = 120 + x := by unfold wrap64; omega
      obtain ⟨y, hy, hyz⟩ := repeat_ok 101 (120 + x) (by omega) (by omega)
      have hR : Ev (fun k => spec_l02Repeat.f k 101 (wrap64 (120 + x))) y := by rw [em]; exact hy
      refine ⟨y, q4, t4, ?_, by omega, by omega, by omega⟩
      refine evBind eB ?_
      refine evBindC e3 ?_
      refine evNeg hu ?_
      refine evPos hu2 ?_
      refine evBindC e4 ?_
      refine evBind hR ?_
      exact evNow rfl
    · refine ⟨r, q3, t3, ?_, by omega, by omega, by omega⟩
      refine evBind eB ?_
      refine evBindC e3 ?_
      refine evNeg hu ?_
      exact evNeg hu2 (evNow rfl)
theorem one_ok (l : List Int) (hl : l.length ≤ 4096) (hb : ∀ x ∈ l, 0 ≤ x ∧ x ≤ 255) (p s a : Int) (h0 : 0 ≤ p) (h1 : p ≤ 999999999000) :
    ∃ b q t, spec_l00Src_one.f l p s a = some (b, q, t) ∧ p ≤ q ∧ q ≤ p + 2 := by
  obtain ⟨v, q, t, e, _, _, hq0, hq1⟩ := pick_ok l hl hb p s a h0 h1
  exact ⟨_, q, t, by unfold spec_l00Src_one.f; rw [e, Option.bind_some], hq0, hq1⟩
theorem w64a (i n : Nat) (h : i + n ≤ 1000000000000) : wrap64 ((i : Int) + n) = (i : Int) + n := by unfold wrap64; omega
theorem w64s (i : Nat) (h : i ≤ 1000000000000) : wrap64 ((i : Int) + 1) = ((i + 1 : Nat) : Int) := by unfold wrap64; omega
theorem w64p (i : Nat) (h : 1 ≤ i) (h' : i ≤ 1000000000000) : wrap64 ((i : Int) - 1) = ((i - 1 : Nat) : Int) := by unfold wrap64; omega
theorem insert_from (xs : List ByteArray) (x : ByteArray) (hx : xs.length ≤ 10000000000) (i : Nat) : i ≤ xs.length →
    ∃ ys, Ev (fun k => spec_l03Insert.l0 k xs x (i : Int)) ys ∧ ys.length ≤ xs.length + 1 ∧ 1 ≤ ys.length ∧ (∀ y ∈ ys, y = x ∨ y ∈ xs) := by
  induction i with
  | zero =>
    intro _
    refine ⟨(([] ++ xs.take ((0 : Nat) : Int).toNat) ++ [x]) ++ xs.drop ((0 : Nat) : Int).toNat, ?_, ?_, ?_, ?_⟩
    · refine evStep ?_
      refine evNeg (by omega) ?_
      refine evBindC rfl ?_
      refine evPos (by omega) ?_
      refine evPos (by omega) ?_
      refine evBindC rfl ?_
      refine evPos (by simp) ?_
      refine evBindC rfl ?_
      refine evPos (by simp) ?_
      refine evBindC rfl ?_
      refine evBindC rfl ?_
      refine evPos (by simp; omega) ?_
      exact evNow rfl
    · simp
    · simp
    · intro y hy
      simp at hy
      exact hy
  | succ i ih =>
    intro hi
    have ew : wrap64 (((i + 1 : Nat) : Int) - 1) = (i : Int) := by unfold wrap64; omega
    by_cases h1 : (Op.bytesLess x.toList ((rdOf ByteArray.empty xs (i : Int)).toList)) = true
    · obtain ⟨ys, e, r⟩ := ih (by omega)
      refine ⟨ys, ?_, r⟩
      refine evStep ?_
      refine evPos (by omega) ?_
      rw [ew]
      refine evPos (by omega) ?_
      refine evPos (by omega) ?_
      refine evPos h1 ?_
      exact e
    · by_cases h2 : (rdOf ByteArray.empty xs (i : Int)).toList = x.toList
      · refine ⟨xs, ?_, by omega, by omega, fun y hy => .inr hy⟩
        refine evStep ?_
        refine evPos (by omega) ?_
        rw [ew]
        refine evPos (by omega) ?_
        refine evPos (by omega) ?_
        refine evNeg h1 ?_
        exact evPos h2 (evNow rfl)
      · refine ⟨(([] ++ xs.take ((i + 1 : Nat) : Int).toNat) ++ [x]) ++ xs.drop ((i + 1 : Nat) : Int).toNat, ?_, ?_, ?_, ?_⟩
        · refine evStep ?_
          refine evPos (by omega) ?_
          rw [ew]
          refine evPos (by omega) ?_
          refine evPos (by omega) ?_
          refine evNeg h1 ?_
          refine evNeg h2 ?_
          refine evBindC rfl ?_
          refine evPos (by omega) ?_
          refine evPos (by omega) ?_
          refine evBindC rfl ?_
          refine evPos (by simp only [List.length_nil, List.length_take]; omega) ?_
          refine evBindC rfl ?_
          refine evPos (by simp only [List.length_append, List.length_nil, List.length_take]; omega) ?_
          refine evBindC rfl ?_
          refine evBindC rfl ?_
          refine evPos (by simp only [List.length_append, List.length_nil, List.length_take, List.length_drop, List.length_singleton]; omega) ?_
          exact evNow rfl
        · simp only [List.length_append, List.length_nil, List.length_take, List.length_drop, List.length_singleton]; omega
        · simp only [List.length_append, List.length_nil, List.length_take, List.length_drop, List.length_singleton]; omega
        · intro y hy
          rw [List.nil_append, List.mem_append, List.mem_append, List.mem_singleton] at hy
          rcases hy with (hy | rfl) | hy
          · exact .inr (List.mem_of_mem_take hy)
          · exact .inl rfl
          · exact .inr (List.mem_of_mem_drop hy)
theorem insert_ok (xs : List ByteArray) (x : ByteArray) (hx : xs.length ≤ 10000000000) :
    ∃ ys, Ev (fun k => spec_l03Insert.f k xs x) ys ∧ ys.length ≤ xs.length + 1 ∧ 1 ≤ ys.length ∧ (∀ y ∈ ys, y = x ∨ y ∈ xs) :=
  insert_from xs x hx xs.length (Nat.le_refl _)
theorem subs_f_eq (m : Nat) (a : ByteArray) (n : Int) : spec_l03Subs.f (m + 1) a n = if n = 0 then (some (([(⟨#[]⟩ : ByteArray)] : List ByteArray))) else (spec_l03Subs.l0 m a n (([] : List ByteArray)) 0) := by rw [spec_l03Subs.f]
theorem subs_j_yes (m : Nat) (a : ByteArray) (n : Int) (acc : List ByteArray) (i : Int) : spec_l03Subs.j1 (m + 1) a n acc i true = spec_l03Subs.l0 m a n acc (wrap64 (i + 1)) := by rw [spec_l03Subs.j1, if_pos rfl]
theorem subs_j_no (m : Nat) (a : ByteArray) (n : Int) (acc : List ByteArray) (i : Int) : spec_l03Subs.j1 (m + 1) a n acc i false = (if 0 ≤ (wrap64 (i + 1)) then (if (wrap64 (i + 1)) ≤ (a.size : Int) then ((spec_l03Subs.f m (a.extract ((wrap64 (i + 1)) : Int).toNat a.size) (wrap64 (n - 1))).bind fun t240 => (spec_l03Subs.l1 m a n acc i t240 0)) else (none)) else (none)) := by rw [spec_l03Subs.j1, if_neg (by simp)]
theorem subs_l1_eq (m : Nat) (x0 : ByteArray) (x1 : Int) (x5 : List ByteArray) (x6 : Int) (x7 : List ByteArray) (x8 : Int) : spec_l03Subs.l1 (m + 1) x0 x1 x5 x6 x7 x8 = if x8 < (x7.length : Int) then (if 0 ≤ x6 then (if x6 ≤ (wrap64 (x6 + 1)) then (if (wrap64 (x6 + 1)) ≤ (x0.size : Int) then (if 0 ≤ x8 then (if (x0.extract (x6 : Int).toNat ((wrap64 (x6 + 1)) : Int).toNat).size + (rdOf ByteArray.empty x7 x8).size ≤ 9223372036854775807 then ((spec_l03Insert.f m x5 ((x0.extract (x6 : Int).toNat ((wrap64 (x6 + 1)) : Int).toNat) ++ (rdOf ByteArray.empty x7 x8))).bind fun t244 => (spec_l03Subs.l1 m x0 x1 t244 x6 x7 (wrap64 (x8 + 1)))) else (none)) else (none)) else (none)) else (none)) else (none)) else (spec_l03Subs.l0 m x0 x1 x5 (wrap64 (x6 + 1))) := by rw [spec_l03Subs.l1]
theorem subs_l0_eq (k : Nat) (x0 : ByteArray) (x1 : Int) (x5 : List ByteArray) (x6 : Int) : spec_l03Subs.l0 (k + 1) x0 x1 x5 x6 = if (wrap64 (x6 + x1)) ≤ (x0.size : Int) then (if x6 > 0 then (if 0 ≤ x6 then (if x6 < (x0.size : Int) then (if 0 ≤ (wrap64 (x6 - 1)) then (if (wrap64 (x6 - 1)) < (x0.size : Int) then (spec_l03Subs.j1 k x0 x1 x5 x6 ((bt x0 x6) == (bt x0 (wrap64 (x6 - 1))))) else (none)) else (none)) else (none)) else (none)) else (spec_l03Subs.j1 k x0 x1 x5 x6 false)) else (some x5) := by rw [spec_l03Subs.l0]
/-- The strings of one letter more are put in, one after the other; then it goes on. -/
theorem subs_in (a : ByteArray) (n i : Int) (zs : List ByteArray) (M : Nat) (hM : M ≤ 100) (hz : ∀ y ∈ zs, y.size + 1 ≤ M) (h0 : 0 ≤ i) (h1 : i < a.size) (ha : a.size ≤ 1000) (hzl : zs.length ≤ 1000000000) (d : Nat) : ∀ (j : Nat) (acc : List ByteArray), j + d = zs.length → acc.length + d ≤ 10000000000 → (∀ y ∈ acc, y.size ≤ M) →
    ∃ acc', (∀ R, Ev (fun k => spec_l03Subs.l0 k a n acc' (wrap64 (i + 1))) R → Ev (fun k => spec_l03Subs.l1 k a n acc i zs (j : Int)) R) ∧ acc'.length ≤ acc.length + d ∧ (∀ y ∈ acc', y.size ≤ M) ∧ (1 ≤ acc.length ∨ 1 ≤ d → 1 ≤ acc'.length) := by
  induction d with
  | zero =>
    intro j acc hj hl hs
    refine ⟨acc, fun R hR => ?_, by omega, hs, by omega⟩
    refine Ev.step (fun m => subs_l1_eq m _ _ _ _ _ _) ?_
    refine evNeg (by omega) ?_
    exact hR
  | succ d ih =>
    intro j acc hj hl hs
    have ew : wrap64 (i + 1) = i + 1 := by unfold wrap64; omega
    have ew2 : wrap64 ((j : Int) + 1) = ((j + 1 : Nat) : Int) := by unfold wrap64; omega
    have hjl : j < zs.length := by omega
    have er : rdOf ByteArray.empty zs (j : Int) = zs[j] := by unfold rdOf; simp [List.getD, hjl]
    have hy := hz _ (List.getElem_mem hjl)
    have hx1 : (a.extract i.toNat (wrap64 (i + 1)).toNat).size = 1 := by rw [ew, ByteArray.size_extract]; omega
    obtain ⟨ys, e, q1, q2, q3⟩ := insert_ok acc ((a.extract i.toNat (wrap64 (i + 1)).toNat) ++ (rdOf ByteArray.empty zs (j : Int))) (by omega)
    have hsz : ((a.extract i.toNat (wrap64 (i + 1)).toNat) ++ (rdOf ByteArray.empty zs (j : Int))).size ≤ M := by rw [ByteArray.size_append, hx1, er]; omega
    obtain ⟨acc', f1, f2, f3, f4⟩ := ih (j + 1) ys (by omega) (by omega) (fun y hy => by rcases q3 y hy with rfl | h; exact hsz; exact hs y h)
    refine ⟨acc', fun R hR => ?_, by omega, f3, fun _ => f4 (.inl q2)⟩
    refine Ev.step (fun m => subs_l1_eq m _ _ _ _ _ _) ?_
    refine evPos (by omega) ?_
    refine evPos h0 ?_
    refine evPos (by omega) ?_
    refine evPos (by omega) ?_
    refine evPos (by omega) ?_
    refine evPos (by rw [hx1, er]; omega) ?_
    refine evBind e ?_
    rw [ew2]
    exact f1 R hR
/-- All piles of n tiles of a pile: there is one at least, and they are not many. -/
theorem subs_ok (L : Nat) : L ≤ 8 → ∀ (a : ByteArray) (n : Nat), a.size ≤ L → n ≤ a.size →
    ∃ zs, Ev (fun k => spec_l03Subs.f k a (n : Int)) zs ∧ 1 ≤ zs.length ∧ zs.length ≤ 9 ^ L ∧ (∀ y ∈ zs, y.size ≤ n) := by
  induction L with
  | zero =>
    intro _ a n h1 h2
    obtain rfl : n = 0 := by omega
    refine ⟨[(⟨#[]⟩ : ByteArray)], ?_, Nat.le_refl _, Nat.le_refl _, ?_⟩
    · refine Ev.step (fun m => subs_f_eq m _ _) ?_
      exact evPos (by omega) (evNow rfl)
    · intro y hy; rw [List.mem_singleton] at hy; subst hy; exact Nat.le_refl _
  | succ L ih =>
    intro hL a n h1 h2
    have hP0 : 1 ≤ 9 ^ L := Nat.one_le_pow _ _ (by omega)
    have hP1 : 9 ^ L ≤ 4782969 := by
      have : 9 ^ L ≤ 9 ^ 7 := Nat.pow_le_pow_right (by omega) (by omega)
      simpa using this
    have hP2 : 9 ^ (L + 1) = 9 * 9 ^ L := by rw [Nat.pow_succ, Nat.mul_comm]
    rw [hP2]
    generalize 9 ^ L = P at hP0 hP1 hP2 ih ⊢
    by_cases hn : n = 0
    · subst hn
      refine ⟨[(⟨#[]⟩ : ByteArray)], ?_, Nat.le_refl _, by simp; omega, ?_⟩
      · refine Ev.step (fun m => subs_f_eq m _ _) ?_
        exact evPos (by omega) (evNow rfl)
      · intro y hy; rw [List.mem_singleton] at hy; subst hy; exact Nat.le_refl _
    have loop : ∀ (d : Nat) (i : Nat) (acc : List ByteArray), i + d = a.size → acc.length + d * P ≤ 1000000000 → (∀ y ∈ acc, y.size ≤ n) → (1 ≤ acc.length ∨ i = 0) →
        ∃ zs, Ev (fun k => spec_l03Subs.l0 k a (n : Int) acc (i : Int)) zs ∧ 1 ≤ zs.length ∧ zs.length ≤ acc.length + d * P ∧ (∀ y ∈ zs, y.size ≤ n) := by
      intro d
      induction d with
      | zero =>
        intro i acc hi hl hs ha
        refine ⟨acc, ?_, by omega, by omega, hs⟩
        refine Ev.step (fun m => subs_l0_eq m _ _ _ _) ?_
        exact evNeg (by rw [w64a i n (by omega)]; omega) (evNow rfl)
      | succ d ihd =>
        intro i acc hi hl hs ha
        rw [Nat.succ_mul] at hl ⊢
        by_cases hfit : i + n ≤ a.size
        · have skip : 1 ≤ acc.length → ∃ zs, Ev (fun k => spec_l03Subs.j1 k a (n : Int) acc (i : Int) true) zs ∧ 1 ≤ zs.length ∧ zs.length ≤ acc.length + (d * P + P) ∧ (∀ y ∈ zs, y.size ≤ n) := by
            intro hacc
            obtain ⟨zs, e, q1, q2, q3⟩ := ihd (i + 1) acc (by omega) (by omega) hs (.inl hacc)
            refine ⟨zs, ?_, q1, by omega, q3⟩
            refine Ev.step (fun m => subs_j_yes m _ _ _ _) ?_
            rw [w64s i (by omega)]; exact e
          have take : ∃ zs, Ev (fun k => spec_l03Subs.j1 k a (n : Int) acc (i : Int) false) zs ∧ 1 ≤ zs.length ∧ zs.length ≤ acc.length + (d * P + P) ∧ (∀ y ∈ zs, y.size ≤ n) := by
            have hxs : (a.extract (i + 1) a.size).size = a.size - (i + 1) := by rw [ByteArray.size_extract]; omega
            obtain ⟨zs, e, q1, q2, q3⟩ := ih (by omega) (a.extract (i + 1) a.size) (n - 1) (by omega) (by omega)
            obtain ⟨acc', f1, f2, f3, f4⟩ := subs_in a (n : Int) (i : Int) zs n (by omega) (fun y hy => by have := q3 y hy; omega) (by omega) (by omega) (by omega) (by omega) zs.length 0 acc (by omega) (by omega) hs
            obtain ⟨R, e2, r1, r2, r3⟩ := ihd (i + 1) acc' (by omega) (by omega) f3 (.inl (f4 (.inr q1)))
            refine ⟨R, ?_, r1, by omega, r3⟩
            refine Ev.step (fun m => subs_j_no m _ _ _ _) ?_
            rw [w64s i (by omega)]
            refine evPos (by omega) ?_
            refine evPos (by omega) ?_
            rw [w64p n (by omega) (by omega), Int.toNat_natCast]
            refine evBind e ?_
            refine f1 R ?_
            rw [w64s i (by omega)]; exact e2
          have go : ∀ b : Bool, (b = true → 1 ≤ acc.length) → ∃ zs, Ev (fun k => spec_l03Subs.j1 k a (n : Int) acc (i : Int) b) zs ∧ 1 ≤ zs.length ∧ zs.length ≤ acc.length + (d * P + P) ∧ (∀ y ∈ zs, y.size ≤ n) := by
            intro b hb
            cases b
            · exact take
            · exact skip (hb rfl)
          by_cases hi0 : i = 0
          · obtain ⟨zs, e, q1, q2, q3⟩ := take
            refine ⟨zs, ?_, q1, q2, q3⟩
            refine Ev.step (fun m => subs_l0_eq m _ _ _ _) ?_
            refine evPos (by rw [w64a i n (by omega)]; omega) ?_
            exact evNeg (by omega) e
          · obtain ⟨zs, e, q1, q2, q3⟩ := go ((bt a (i : Int)) == (bt a (wrap64 ((i : Int) - 1)))) (fun _ => by omega)
            refine ⟨zs, ?_, q1, q2, q3⟩
            refine Ev.step (fun m => subs_l0_eq m _ _ _ _) ?_
            refine evPos (by rw [w64a i n (by omega)]; omega) ?_
            refine evPos (by omega) ?_
            refine evPos (by omega) ?_
            refine evPos (by omega) ?_
            refine evPos (by rw [w64p i (by omega) (by omega)]; omega) ?_
            refine evPos (by rw [w64p i (by omega) (by omega)]; omega) ?_
            exact e
        · refine ⟨acc, ?_, by omega, by omega, hs⟩
          refine Ev.step (fun m => subs_l0_eq m _ _ _ _) ?_
          exact evNeg (by rw [w64a i n (by omega)]; omega) (evNow rfl)
    have hdP : a.size * P ≤ 9 * P := Nat.mul_le_mul_right _ (by omega)
    obtain ⟨zs, e, q1, q2, q3⟩ := loop a.size 0 [] (by omega) (by rw [List.length_nil]; omega) (fun y hy => by cases hy) (.inr rfl)
    refine ⟨zs, ?_, q1, ?_, q3⟩
    · refine Ev.step (fun m => subs_f_eq m _ _) ?_
      exact evNeg (by omega) e
    · rw [List.length_nil] at q2; omega
/-- A tile: a small letter or the blank. -/
def tileB (c : Int) : Bool := decide (c = 63) || (decide (97 ≤ c) && decide (c ≤ 122))
theorem spec_small (c : Int) : spec_l01Small.f c = some (decide (97 ≤ c) && decide (c ≤ 122)) := by
  unfold spec_l01Small.f; split <;> rename_i h
  · simp [show 97 ≤ c from h]
  · simp [show ¬ 97 ≤ c from h]
theorem spec_tile (c : Int) : spec_l03Tile.f c = some (tileB c) := by
  unfold spec_l03Tile.f tileB; split <;> rename_i h
  · simp [h]
  · rw [spec_small]; simp [h]
theorem impl_small_eq (c : Int) : impl_small.f c = some (decide (97 ≤ c) && decide (c ≤ 122)) := by
  unfold impl_small.f; split <;> rename_i h
  · simp [h]
  · simp [h]
/-- The index of a tile: 0 for the blank, 1 to 26 for the letters, -1 for what is none. -/
def plI (c : Int) : Int := if c = 63 then 0 else if 97 ≤ c ∧ c ≤ 122 then c - 96 else -1
theorem impl_place_eq (c : Int) : impl_place.f c = some (plI c) := by
  unfold impl_place.f plI; split <;> rename_i h
  · rfl
  · rw [impl_small_eq]; simp only [Option.bind_some, Bool.and_eq_true, decide_eq_true_eq]; split
    · simp only [Option.some.injEq]; omega
    · rfl
theorem plI_neg (c : Int) : plI c < 0 ↔ tileB c = false := by
  unfold plI tileB; split <;> rename_i h
  · simp [h]
  · split <;> rename_i h2 <;> simp <;> omega
theorem impl_tiles_from (s : ByteArray) (hs : s.size ≤ 140737488351232) (d : Nat) : ∀ i : Int, 0 ≤ i → i ≤ s.size → (s.size : Int) - i = d →
    Ev (fun k => impl_onlyTiles.l0 k s i) (allFrom tileB s i.toNat) := by
  induction d with
  | zero =>
    intro i h0 h1 hd
    refine evStep (evNeg (by omega) (evNow ?_))
    rw [allFrom_end _ _ _ (by omega)]
  | succ d ih =>
    intro i h0 h1 hd
    refine evStep (evPos (by omega) (evPos h0 (evBindC (impl_place_eq _) ?_)))
    rw [allFrom_step _ _ _ h0 (by omega)]
    cases hb : tileB (bt s i) with
    | true =>
      refine evNeg (by rw [plI_neg, hb]; simp) ?_
      rw [wrapInc h0 (by omega) hs]
      exact ih (i + 1) (by omega) (by omega) (by omega)
    | false => exact evPos (by rw [plI_neg, hb]) (evNow rfl)
theorem impl_onlyTiles_ev (s : ByteArray) (hs : s.size ≤ 140737488351232) : Ev (fun k => impl_onlyTiles.f k s) (allFrom tileB s 0) :=
  impl_tiles_from s hs s.size 0 (by omega) (by omega) (by omega)
theorem spec_ok_from (s : ByteArray) (hs : s.size ≤ 140737488351232) (d : Nat) : ∀ i : Int, 0 ≤ i → i ≤ s.size → (s.size : Int) - i = d →
    Ev (fun k => spec_l17Ok.l0 k s i) (allFrom tileB s i.toNat && decide ((s.size : Int) ≤ 120)) := by
  induction d with
  | zero =>
    intro i h0 h1 hd
    refine evStep (evNeg (by omega) (evNow ?_))
    rw [allFrom_end _ _ _ (by omega)]; rfl
  | succ d ih =>
    intro i h0 h1 hd
    refine evStep (evPos (by omega) (evPos h0 (evBindC (spec_tile _) ?_)))
    rw [allFrom_step _ _ _ h0 (by omega)]
    cases hb : tileB (bt s i) with
    | true =>
      refine evPos rfl ?_
      rw [wrapInc h0 (by omega) hs]
      exact ih (i + 1) (by omega) (by omega) (by omega)
    | false => exact evNeg (by simp) (evNow rfl)
theorem spec_l17Ok_ev (s : ByteArray) (hs : s.size ≤ 140737488351232) : Ev (fun k => spec_l17Ok.f k s) (allFrom tileB s 0 && decide ((s.size : Int) ≤ 120)) :=
  spec_ok_from s hs s.size 0 (by omega) (by omega) (by omega)
theorem impl_ValidBag_ev (s : ByteArray) (hs : s.size ≤ 140737488351232) : Ev (fun k => impl_ValidBag.f k s) (allFrom tileB s 0 && decide ((s.size : Int) ≤ 120)) := by
  unfold impl_ValidBag.f
  by_cases h : (s.size : Int) ≤ 120
  · refine evPos h (evBind (impl_onlyTiles_ev s hs) (evNow ?_)); simp [h]
  · refine evNeg h (evNow ?_); simp [h]
/-- Is a string a bag? -/
def bagB (s : ByteArray) : Bool := allFrom tileB s 0 && decide ((s.size : Int) ≤ 120)
theorem bagB_size {s : ByteArray} (h : bagB s = true) : s.size ≤ 120 := by
  unfold bagB at h; simp only [Bool.and_eq_true, decide_eq_true_eq] at h; omega
theorem allFrom_at {p : Int → Bool} {s : ByteArray} (h : allFrom p s 0 = true) (k : Nat) (hk : k < s.size) : p (bt s (k : Int)) = true := by
  unfold allFrom at h
  rw [List.drop_zero, List.all_eq_true] at h
  refine h _ ?_
  have hl : k < (bytesOf s).length := by rw [bytesOf_length]; exact hk
  have e : (bytesOf s)[k] = bt s (k : Int) := by rw [← rd_bytesOf]; unfold rd; simp [List.getD, hl]
  rw [← e]
  exact List.getElem_mem hl
theorem bag_tiles {s : ByteArray} (h : bagB s = true) : tilesOk s := by
  have hz := bagB_size h
  unfold bagB at h
  rw [Bool.and_eq_true] at h
  refine ⟨by omega, fun k hk => ?_⟩
  have ht := allFrom_at h.1 k hk
  have := plI_neg (bt s (k : Int))
  rw [ht] at this
  have h2 : ¬ plI (bt s (k : Int)) < 0 := fun h => absurd (this.1 h) (by simp)
  have e : plI (bt s (k : Int)) = placeI (bt s (k : Int)) := rfl
  omega
theorem sortBoth {s : ByteArray} (h : tilesOk s) : spec_l03Sort.f s = some (sortS s) ∧ impl_sorted.f s = some (sortS s) := by
  constructor
  · unfold spec_l03Sort.f; rw [if_pos (by have := h.1; omega)]
  · unfold impl_sorted.f; rw [if_pos h]
/-- Is each byte from the n-th on at least the one before it? -/
def ordAll : Nat → ByteArray → Nat → Bool
  | 0, _, _ => true
  | d + 1, s, n => !(decide (0 < n) && decide (bt s (n : Int) < bt s ((n : Int) - 1))) && ordAll d s (n + 1)
def ordFrom (s : ByteArray) (n : Nat) : Bool := ordAll (s.size - n) s n
theorem ordFrom_end (s : ByteArray) (n : Nat) (h : s.size ≤ n) : ordFrom s n = true := by
  unfold ordFrom; rw [show s.size - n = 0 by omega]; rfl
theorem ordFrom_step (s : ByteArray) (i : Int) (h0 : 0 ≤ i) (h : i < (s.size : Int)) : ordFrom s i.toNat = (!(decide (0 < i) && decide (bt s i < bt s (i - 1))) && ordFrom s (i + 1).toNat) := by
  obtain ⟨n, rfl⟩ := Int.eq_ofNat_of_zero_le h0
  have e : ((n : Int) + 1).toNat = n + 1 := by omega
  have e2 : s.size - n = (s.size - (n + 1)) + 1 := by omega
  rw [e, Int.toNat_natCast]
  unfold ordFrom
  rw [e2]
  simp only [ordAll, Int.natCast_pos]
theorem ordFrom_one (s : ByteArray) : ordFrom s 0 = ordFrom s 1 := by
  by_cases h : (0 : Int) < (s.size : Int)
  · have := ordFrom_step s 0 (by omega) h
    simpa using this
  · rw [ordFrom_end s 0 (by omega), ordFrom_end s 1 (by omega)]
/-- Is a string a pile? -/
def pileB (s : ByteArray) : Bool := allFrom tileB s 0 && ordFrom s 0 && decide ((s.size : Int) ≤ 120)
theorem spec_pile_from (s : ByteArray) (hs : s.size ≤ 140737488351232) (d : Nat) : ∀ i : Int, 0 ≤ i → i ≤ s.size → (s.size : Int) - i = d →
    Ev (fun k => spec_l03Pile.l0 k s i) (allFrom tileB s i.toNat && ordFrom s i.toNat && decide ((s.size : Int) ≤ 120)) := by
  induction d with
  | zero =>
    intro i h0 h1 hd
    refine evStep (evNeg (by omega) (evNow ?_))
    rw [allFrom_end _ _ _ (by omega), ordFrom_end _ _ (by omega)]; rfl
  | succ d ih =>
    intro i h0 h1 hd
    have hl : i < (s.size : Int) := by omega
    refine evStep (evPos hl (evPos h0 (evBindC (spec_tile _) ?_)))
    rw [allFrom_step _ _ _ h0 hl, ordFrom_step _ _ h0 hl]
    cases hb : tileB (bt s i) with
    | false => exact evNeg (by simp) (evNow (by simp))
    | true =>
      refine evPos rfl ?_
      rw [wrapInc h0 hl hs]
      have next := ih (i + 1) (by omega) (by omega) (by omega)
      by_cases hp : i > 0
      · have ew : wrap64 (i - 1) = i - 1 := by unfold wrap64; omega
        refine evPos hp ?_
        rw [ew]
        refine evPos (by omega) (evPos (by omega) ?_)
        by_cases hc : bt s i < bt s (i - 1)
        · exact evPos hc (evNow (by simp [hc, hp]))
        · refine evNeg hc (evTo next ?_)
          simp [hc]
      · refine evNeg hp (evTo next ?_)
        have : ¬ 0 < i := by omega
        simp [this]
theorem spec_l03Pile_ev (s : ByteArray) (hs : s.size ≤ 140737488351232) : Ev (fun k => spec_l03Pile.f k s) (pileB s) :=
  spec_pile_from s hs s.size 0 (by omega) (by omega) (by omega)
theorem impl_ord_eq (m : Nat) (s : ByteArray) (i : Int) : impl_ValidPile.l0 (m + 1) s i = if i < (s.size : Int) then (if 0 ≤ (wrap64 (i - 1)) then (if (wrap64 (i - 1)) < (s.size : Int) then (if 0 ≤ i then (if (bt s (wrap64 (i - 1))) > (bt s i) then (some false) else (impl_ValidPile.l0 m s (wrap64 (i + 1)))) else (none)) else (none)) else (none)) else (some true) := by
  simp only [impl_ValidPile.l0]
theorem impl_ord_from (s : ByteArray) (hs : s.size ≤ 140737488351232) (d : Nat) : ∀ i : Int, 1 ≤ i → (s.size : Int) - i ≤ d →
    Ev (fun k => impl_ValidPile.l0 k s i) (ordFrom s i.toNat) := by
  induction d with
  | zero =>
    intro i h0 hd
    refine Ev.step (fun m => impl_ord_eq m s i) (evNeg (by omega) (evNow ?_))
    rw [ordFrom_end _ _ (by omega)]
  | succ d ih =>
    intro i h0 hd
    by_cases hl : i < (s.size : Int)
    · have ew : wrap64 (i - 1) = i - 1 := by unfold wrap64; omega
      refine Ev.step (fun m => impl_ord_eq m s i) ?_
      refine evPos hl ?_
      rw [ew]
      refine evPos (by omega) <| evPos (by omega) <| evPos (by omega) ?_
      rw [ordFrom_step _ _ (by omega) hl]
      rw [wrapInc (by omega) hl hs]
      by_cases hc : bt s i < bt s (i - 1)
      · exact evPos hc (evNow (by have : 0 < i := by omega
                                  simp [hc, this]))
      · refine evNeg hc (evTo (ih (i + 1) (by omega) (by omega)) ?_)
        simp [hc]
    · refine Ev.step (fun m => impl_ord_eq m s i) (evNeg hl (evNow ?_))
      rw [ordFrom_end _ _ (by omega)]
theorem impl_ValidPile_ev (s : ByteArray) (hs : s.size ≤ 140737488351232) : Ev (fun k => impl_ValidPile.f k s) (pileB s) := by
  unfold impl_ValidPile.f
  by_cases h : (s.size : Int) > 120
  · refine evPos h (Ev.step (fun m => by simp only [impl_ValidPile.j0, if_true]; rfl) (evNow ?_))
    unfold pileB
    have : ¬ (s.size : Int) ≤ 120 := by omega
    simp [this]
  · refine evNeg h (evBind (impl_onlyTiles_ev s hs) ?_)
    unfold pileB
    have h' : (s.size : Int) ≤ 120 := by omega
    cases ht : allFrom tileB s 0 with
    | false => exact Ev.step (fun m => by simp only [impl_ValidPile.j0, Bool.not_false, if_true]; rfl) (evNow (by simp))
    | true =>
      refine Ev.step (fun m => by simp only [impl_ValidPile.j0, Bool.not_true, Bool.false_eq_true, if_false]; rfl) ?_
      refine evTo (impl_ord_from s hs s.size 1 (by omega) (by omega)) ?_
      rw [ordFrom_one]; simp [h']
theorem pile_tiles {s : ByteArray} (h : pileB s = true) : allFrom tileB s 0 = true := by
  unfold pileB at h; simp only [Bool.and_eq_true] at h; exact h.1.1
theorem pile_size {s : ByteArray} (h : pileB s = true) : s.size ≤ 120 := by
  unfold pileB at h; simp only [Bool.and_eq_true, decide_eq_true_eq] at h; omega
theorem pile_ok {s : ByteArray} (h : pileB s = true) : tilesOk s := by
  refine bag_tiles ?_
  unfold pileB at h; unfold bagB
  simp only [Bool.and_eq_true] at h ⊢
  exact ⟨h.1.1, h.2⟩
def rackB (s : ByteArray) : Bool := pileB s && decide ((s.size : Int) ≤ 7)
theorem spec_l03Rack_ev (s : ByteArray) (hs : s.size ≤ 140737488351232) : Ev (fun k => spec_l03Rack.f k s) (rackB s) := by
  unfold spec_l03Rack.f rackB
  refine evBind (spec_l03Pile_ev s hs) ?_
  cases pileB s with
  | true => exact evPos rfl (evNow (by simp))
  | false => exact evNeg (by simp) (evNow (by simp))
theorem impl_ValidRack_ev (s : ByteArray) (hs : s.size ≤ 140737488351232) : Ev (fun k => impl_ValidRack.f k s) (rackB s) := by
  unfold impl_ValidRack.f rackB
  by_cases h : (s.size : Int) ≤ 7
  · exact evPos h (evBind (impl_ValidPile_ev s hs) (evNow (by simp [h])))
  · exact evNeg h (evNow (by simp [h]))
theorem rack_pile {s : ByteArray} (h : rackB s = true) : pileB s = true := by
  unfold rackB at h; simp only [Bool.and_eq_true] at h; exact h.1
theorem rack_size {s : ByteArray} (h : rackB s = true) : s.size ≤ 7 := by
  unfold rackB at h; simp only [Bool.and_eq_true, decide_eq_true_eq] at h; omega
theorem bytesOf_extract (s : ByteArray) (a b : Nat) : bytesOf (s.extract a b) = ((bytesOf s).drop a).take (b - a) := by
  unfold bytesOf
  rw [ByteArray.data_extract, Array.toList_extract, List.extract_eq_take_drop, List.map_take, List.map_drop]
theorem bytesOf_append (s t : ByteArray) : bytesOf (s ++ t) = bytesOf s ++ bytesOf t := by
  unfold bytesOf
  rw [ByteArray.data_append, Array.toList_append, List.map_append]
theorem bt_mem (s : ByteArray) (k : Nat) (h : k < s.size) : bt s (k : Int) ∈ bytesOf s := by
  have hl : k < (bytesOf s).length := by rw [bytesOf_length]; exact h
  have e : (bytesOf s)[k] = bt s (k : Int) := by rw [← rd_bytesOf]; unfold rd; simp [List.getD, hl]
  rw [← e]; exact List.getElem_mem hl
theorem mem_bt (s : ByteArray) (x : Int) (h : x ∈ bytesOf s) : ∃ k : Nat, k < s.size ∧ x = bt s (k : Int) := by
  obtain ⟨k, hk, rfl⟩ := List.getElem_of_mem h
  refine ⟨k, by rw [← bytesOf_length]; exact hk, ?_⟩
  rw [← rd_bytesOf]; unfold rd; simp [List.getD, hk]
theorem tilesOk_iff (s : ByteArray) : tilesOk s ↔ s.size ≤ 1000000 ∧ ∀ x ∈ bytesOf s, 0 ≤ placeI x := by
  unfold tilesOk
  constructor
  · rintro ⟨h1, h2⟩
    refine ⟨h1, fun x hx => ?_⟩
    obtain ⟨k, hk, rfl⟩ := mem_bt s x hx
    exact h2 k hk
  · rintro ⟨h1, h2⟩
    exact ⟨h1, fun k hk => h2 _ (bt_mem s k hk)⟩
theorem size_extract_le (s : ByteArray) (a b : Nat) : (s.extract a b).size ≤ s.size := by rw [ByteArray.size_extract]; omega
theorem tilesOk_extract {s : ByteArray} (h : tilesOk s) (a b : Nat) : tilesOk (s.extract a b) := by
  rw [tilesOk_iff] at h ⊢
  refine ⟨Nat.le_trans (size_extract_le s a b) h.1, fun x hx => h.2 x ?_⟩
  rw [bytesOf_extract] at hx
  exact List.mem_of_mem_drop (List.mem_of_mem_take hx)
theorem tilesOk_append {s t : ByteArray} (h : tilesOk s) (h' : tilesOk t) (hz : s.size + t.size ≤ 1000000) : tilesOk (s ++ t) := by
  rw [tilesOk_iff] at h h' ⊢
  refine ⟨by rw [ByteArray.size_append]; exact hz, fun x hx => ?_⟩
  rw [bytesOf_append] at hx
  rcases List.mem_append.1 hx with hx | hx
  · exact h.2 x hx
  · exact h'.2 x hx
theorem count_map_inj {α β : Type} [DecidableEq α] [DecidableEq β] (f : α → β) (hf : ∀ x y, f x = f y → x = y) (a : α) : ∀ l : List α, (l.map f).count (f a) = l.count a
  | [] => rfl
  | x :: l => by
    rw [List.map_cons, List.count_cons, List.count_cons, count_map_inj f hf a l]
    by_cases h : x = a
    · subst h; simp
    · have : ¬ f x = f a := fun e => h (hf _ _ e)
      simp [h, this]
theorem cnt_int {s : ByteArray} (h : tilesOk s) (j : Nat) (hj : j ≤ 26) : (cntTo s s.size).getD j 0 = ((bytesOf s).count (tileI j) : Int) := by
  rw [cnt_count s h.2 j hj s.size (Nat.le_refl _), ← tileU_toNat j hj, List.take_of_length_le (by rw [data_length]; exact Nat.le_refl _)]
  unfold bytesOf
  exact (congrArg Int.ofNat (count_map_inj (fun b : UInt8 => (b.toNat : Int)) (fun x y e => by
    have e' : ((x.toNat : Nat) : Int) = (y.toNat : Int) := e
    exact UInt8.toNat_inj.1 (by omega)) (tileU j) s.data.toList)).symm
theorem place_tileI {x : Int} (h : 0 ≤ placeI x) : ∃ j : Nat, j ≤ 26 ∧ placeI x = j ∧ x = tileI j := by
  unfold placeI at h ⊢
  by_cases h1 : x = 63
  · exact ⟨0, by omega, by rw [if_pos h1]; rfl, by rw [h1]; rfl⟩
  · rw [if_neg h1] at h ⊢
    by_cases h2 : 97 ≤ x ∧ x ≤ 122
    · refine ⟨(x - 96).toNat, by omega, by rw [if_pos h2]; omega, ?_⟩
      unfold tileI
      rw [if_neg (by omega)]; omega
    · rw [if_neg h2] at h; omega
theorem tileI_lt {i j : Nat} (hj : j ≤ 26) (h : i < j) : tileI i < tileI j := by
  unfold tileI; split <;> split <;> omega
theorem tileI_le_iff {i j : Nat} (hi : i ≤ 26) (hj : j ≤ 26) : tileI i ≤ tileI j ↔ i ≤ j := by
  constructor
  · intro h
    rcases Nat.lt_or_ge j i with h2 | h2
    · have := tileI_lt hi h2; omega
    · exact h2
  · intro h
    rcases Nat.lt_or_eq_of_le h with h2 | rfl
    · exact Int.le_of_lt (tileI_lt hj h2)
    · exact Int.le_refl _
theorem tileI_inj {i j : Nat} (hi : i ≤ 26) (hj : j ≤ 26) (h : tileI i = tileI j) : i = j := by
  have h1 := (tileI_le_iff hi hj).1 (Int.le_of_eq h)
  have h2 := (tileI_le_iff hj hi).1 (Int.le_of_eq h.symm)
  omega
/-- A pile's bytes ascend. -/
theorem ord_at {s : ByteArray} (h : ordFrom s 0 = true) : ∀ j : Nat, 0 < j → j < s.size → bt s ((j : Int) - 1) ≤ bt s (j : Int) := by
  have go : ∀ n : Nat, n ≤ s.size → ordFrom s n = true := by
    intro n
    induction n with
    | zero => intro _; exact h
    | succ n ih =>
      intro hn
      have := ih (by omega)
      have e := ordFrom_step s (n : Int) (by omega) (by omega)
      rw [Int.toNat_natCast, show ((n : Int) + 1).toNat = n + 1 by omega, this] at e
      have e2 := e.symm
      simp only [Bool.and_eq_true] at e2
      exact e2.2
  intro j h0 hj
  have e := ordFrom_step s (j : Int) (by omega) (by omega)
  rw [Int.toNat_natCast, go j (by omega)] at e
  have e2 := e.symm
  simp only [Bool.and_eq_true, Bool.not_eq_true', Bool.and_eq_false_iff, decide_eq_false_iff_not] at e2
  rcases e2.1 with h1 | h1 <;> omega
theorem ord_le {s : ByteArray} (h : ordFrom s 0 = true) (i : Nat) : ∀ j : Nat, i ≤ j → j < s.size → bt s (i : Int) ≤ bt s (j : Int) := by
  intro j
  induction j with
  | zero => intro h1 _; obtain rfl : i = 0 := by omega
            exact Int.le_refl _
  | succ j ih =>
    intro h1 h2
    rcases Nat.lt_or_eq_of_le h1 with h3 | rfl
    · have := ih (by omega) (by omega)
      have h4 := ord_at h (j + 1) (by omega) h2
      rw [show ((j + 1 : Nat) : Int) - 1 = (j : Int) by omega] at h4
      omega
    · exact Int.le_refl _
theorem get_bytes (s : ByteArray) (j : Nat) (h : j < (bytesOf s).length) : (bytesOf s)[j] = bt s (j : Int) := by
  rw [← rd_bytesOf]; unfold rd; simp [List.getD, h]
theorem ord_pairwise {s : ByteArray} (h : ordFrom s 0 = true) : (bytesOf s).Pairwise (· ≤ ·) := by
  rw [List.pairwise_iff_getElem]
  intro i j hi hj hij
  rw [get_bytes, get_bytes]
  rw [bytesOf_length] at hj
  exact ord_le h i j (by omega) hj
theorem pile_ord {s : ByteArray} (h : pileB s = true) : ordFrom s 0 = true := by
  unfold pileB at h; simp only [Bool.and_eq_true] at h; exact h.1.2
/-- Are the second list's members among the first's, taken in order? -/
def takeOk : List Int → List Int → Bool
  | [], b => b.isEmpty
  | _ :: a, [] => takeOk a []
  | x :: a, y :: b => if y = x then takeOk a b else takeOk a (y :: b)
theorem takeOk_cons (x y : Int) (a b : List Int) : takeOk (x :: a) (y :: b) = if y = x then takeOk a b else takeOk a (y :: b) := by rw [takeOk]
theorem takeOk_nil : ∀ a, takeOk a [] = true
  | [] => rfl
  | _ :: a => takeOk_nil a
theorem takeOk_le : ∀ a b, takeOk a b = true → ∀ z, b.count z ≤ a.count z
  | [], b, h, z => by
    have : b = [] := List.isEmpty_iff.1 h
    subst this; exact Nat.le_refl _
  | x :: a, [], h, z => by simp
  | x :: a, y :: b, h, z => by
    unfold takeOk at h
    by_cases e : y = x
    · rw [if_pos e] at h; subst e
      have := takeOk_le a b h z
      rw [List.count_cons, List.count_cons]; omega
    · rw [if_neg e] at h
      have := takeOk_le a (y :: b) h z
      rw [List.count_cons (l := a)]; omega
theorem takeOk_of : ∀ a b : List Int, a.Pairwise (· ≤ ·) → b.Pairwise (· ≤ ·) → (∀ z, b.count z ≤ a.count z) → takeOk a b = true
  | [], b, _, _, h => by
    cases b with
    | nil => rfl
    | cons y b => have := h y; simp at this
  | x :: a, [], _, _, _ => takeOk_nil _
  | x :: a, y :: b, ha, hb, h => by
    have ha' := (List.pairwise_cons.1 ha)
    have hb' := (List.pairwise_cons.1 hb)
    unfold takeOk
    by_cases e : y = x
    · subst e
      rw [if_pos rfl]
      refine takeOk_of a b ha'.2 hb'.2 fun z => ?_
      have := h z
      rw [List.count_cons, List.count_cons] at this
      omega
    · rw [if_neg e]
      refine takeOk_of a (y :: b) ha'.2 hb fun z => ?_
      have hz := h z
      have hy := h y
      rw [List.count_cons (l := a), show (x == y) = false from beq_eq_false_iff_ne.2 (fun h => e h.symm), List.count_cons_self] at hy
      have hm : y ∈ a := List.count_pos_iff.1 (by simpa using Nat.lt_of_lt_of_le (Nat.succ_pos _) hy)
      have hxy : x ≤ y := ha'.1 y hm
      by_cases hzx : z = x
      · subst hzx
        have : (y :: b).count z = 0 := List.count_eq_zero.2 fun hmem => by
          rcases List.mem_cons.1 hmem with rfl | hmem
          · exact e rfl
          · have := hb'.1 z hmem; omega
        omega
      · rw [List.count_cons (l := a), show (x == z) = false from beq_eq_false_iff_ne.2 (fun h => hzx h.symm)] at hz
        simpa using hz
theorem take_from (a b : ByteArray) (ha : a.size ≤ 140737488351232) (hb : b.size ≤ 140737488351232) (n : Nat) : ∀ (out : List Int) (i j : Int), 0 ≤ i → i ≤ b.size → 0 ≤ j → j ≤ a.size → (a.size : Int) - j = n → (out.length : Int) ≤ j →
    ∃ str, Ev (fun k => spec_l03Take.l0 k a b out i j) (str, takeOk ((bytesOf a).drop j.toNat) ((bytesOf b).drop i.toNat)) := by
  induction n with
  | zero =>
    intro out i j h0 h1 h2 h3 hd ho
    refine ⟨strOfNums out, evStep (evNeg (by omega) (evNow ?_))⟩
    rw [List.drop_of_length_le (by rw [bytesOf_length]; omega)]
    have : (i == (b.size : Int)) = takeOk [] ((bytesOf b).drop i.toNat) := by
      show _ = List.isEmpty _
      rw [Bool.eq_iff_iff, beq_iff_eq, List.isEmpty_iff, List.drop_eq_nil_iff, bytesOf_length]
      omega
    rw [this]
  | succ n ih =>
    intro out i j h0 h1 h2 h3 hd ho
    have hj : j < (a.size : Int) := by omega
    have ea : (bytesOf a).drop j.toNat = bt a j :: (bytesOf a).drop (j + 1).toNat := by
      have := bytesOf_drop a j.toNat (by omega)
      rw [show ((j.toNat : Nat) : Int) = j by omega] at this
      rw [this, show (j + 1).toNat = j.toNat + 1 by omega]
    rw [ea]
    have ej := wrapInc h2 hj ha
    by_cases hi : i < (b.size : Int)
    · have eb : (bytesOf b).drop i.toNat = bt b i :: (bytesOf b).drop (i + 1).toNat := by
        have := bytesOf_drop b i.toNat (by omega)
        rw [show ((i.toNat : Nat) : Int) = i by omega] at this
        rw [this, show (i + 1).toNat = i.toNat + 1 by omega]
      have ei := wrapInc h0 hi hb
      by_cases hc : bt b i = bt a j
      · obtain ⟨str, hs⟩ := ih out (i + 1) (j + 1) (by omega) (by omega) (by omega) (by omega) (by omega) (by omega)
        refine ⟨str, evStep (evPos hj (evPos hi (evPos h0 (evPos h2 (evPos hc ?_)))))⟩
        rw [ei, ej]
        refine evTo hs ?_
        rw [eb, takeOk_cons, if_pos hc]
      · obtain ⟨str, hs⟩ := ih (out ++ [bt a j]) i (j + 1) (by omega) (by omega) (by omega) (by omega) (by omega) (by rw [List.length_append, List.length_singleton]; omega)
        refine ⟨str, evStep (evPos hj (evPos hi (evPos h0 (evPos h2 (evNeg hc (evPos (by omega) ?_))))))⟩
        rw [ej]
        refine evTo hs ?_
        rw [eb, takeOk_cons, if_neg hc]
    · obtain ⟨str, hs⟩ := ih (out ++ [bt a j]) i (j + 1) (by omega) (by omega) (by omega) (by omega) (by omega) (by rw [List.length_append, List.length_singleton]; omega)
      refine ⟨str, evStep (evPos hj (evNeg hi (evPos h2 (evPos (by omega) ?_))))⟩
      rw [ej]
      refine evTo hs ?_
      have : (bytesOf b).drop i.toNat = [] := List.drop_of_length_le (by rw [bytesOf_length]; omega)
      rw [this]; rw [takeOk_nil, takeOk_nil]
theorem take_ev (a b : ByteArray) (ha : a.size ≤ 140737488351232) (hb : b.size ≤ 140737488351232) : ∃ str, Ev (fun k => spec_l03Take.f k a b) (str, takeOk (bytesOf a) (bytesOf b)) :=
  take_from a b ha hb a.size [] 0 0 (by omega) (by omega) (by omega) (by omega) (by omega) (by simp)
/-- What the taking leaves. -/
def restL : List Int → List Int → List Int
  | [], _ => []
  | x :: a, [] => x :: restL a []
  | x :: a, y :: b => if y = x then restL a b else x :: restL a (y :: b)
theorem restL_nil (x : Int) (a : List Int) : restL (x :: a) [] = x :: restL a [] := by rw [restL]
theorem restL_cons (x y : Int) (a b : List Int) : restL (x :: a) (y :: b) = if y = x then restL a b else x :: restL a (y :: b) := by rw [restL]
theorem restL_all : ∀ a, restL a [] = a
  | [] => rfl
  | x :: a => by rw [restL_nil, restL_all a]
theorem restL_mem : ∀ a b, ∀ z ∈ restL a b, z ∈ a
  | [], b, z, h => by simp [restL] at h
  | x :: a, [], z, h => by rw [restL_all] at h; exact h
  | x :: a, y :: b, z, h => by
    rw [restL_cons] at h
    by_cases e : y = x
    · rw [if_pos e] at h; exact List.mem_cons_of_mem _ (restL_mem a b z h)
    · rw [if_neg e] at h
      rcases List.mem_cons.1 h with rfl | h
      · exact List.mem_cons_self
      · exact List.mem_cons_of_mem _ (restL_mem a (y :: b) z h)
theorem restL_count : ∀ a b, takeOk a b = true → ∀ z, a.count z = b.count z + (restL a b).count z
  | [], b, h, z => by
    have : b = [] := List.isEmpty_iff.1 h
    subst this; rfl
  | x :: a, [], h, z => by rw [restL_all]; simp
  | x :: a, y :: b, h, z => by
    rw [takeOk_cons] at h
    rw [restL_cons]
    by_cases e : y = x
    · rw [if_pos e] at h ⊢; subst e
      have := restL_count a b h z
      rw [List.count_cons, List.count_cons]; omega
    · rw [if_neg e] at h ⊢
      have := restL_count a (y :: b) h z
      rw [List.count_cons (l := a), List.count_cons (l := restL a (y :: b))]; omega
theorem take_rest_from (a b : ByteArray) (ha : a.size ≤ 140737488351232) (hb : b.size ≤ 140737488351232) (n : Nat) : ∀ (out : List Int) (i j : Int), 0 ≤ i → i ≤ b.size → 0 ≤ j → j ≤ a.size → (a.size : Int) - j = n → (out.length : Int) ≤ j →
    Ev (fun k => spec_l03Take.l0 k a b out i j) (strOfNums (out ++ restL ((bytesOf a).drop j.toNat) ((bytesOf b).drop i.toNat)), takeOk ((bytesOf a).drop j.toNat) ((bytesOf b).drop i.toNat)) := by
  induction n with
  | zero =>
    intro out i j h0 h1 h2 h3 hd ho
    refine evStep (evNeg (by omega) (evNow ?_))
    rw [List.drop_of_length_le (by rw [bytesOf_length]; omega)]
    have : (i == (b.size : Int)) = takeOk [] ((bytesOf b).drop i.toNat) := by
      show _ = List.isEmpty _
      rw [Bool.eq_iff_iff, beq_iff_eq, List.isEmpty_iff, List.drop_eq_nil_iff, bytesOf_length]
      omega
    rw [this]; unfold restL; rw [List.append_nil]
  | succ n ih =>
    intro out i j h0 h1 h2 h3 hd ho
    have hj : j < (a.size : Int) := by omega
    have ea : (bytesOf a).drop j.toNat = bt a j :: (bytesOf a).drop (j + 1).toNat := by
      have := bytesOf_drop a j.toNat (by omega)
      rw [show ((j.toNat : Nat) : Int) = j by omega] at this
      rw [this, show (j + 1).toNat = j.toNat + 1 by omega]
    rw [ea]
    have ej := wrapInc h2 hj ha
    by_cases hi : i < (b.size : Int)
    · have eb : (bytesOf b).drop i.toNat = bt b i :: (bytesOf b).drop (i + 1).toNat := by
        have := bytesOf_drop b i.toNat (by omega)
        rw [show ((i.toNat : Nat) : Int) = i by omega] at this
        rw [this, show (i + 1).toNat = i.toNat + 1 by omega]
      have ei := wrapInc h0 hi hb
      by_cases hc : bt b i = bt a j
      · have hs := ih out (i + 1) (j + 1) (by omega) (by omega) (by omega) (by omega) (by omega) (by omega)
        refine evStep (evPos hj (evPos hi (evPos h0 (evPos h2 (evPos hc ?_)))))
        rw [ei, ej]
        refine evTo hs ?_
        rw [eb, takeOk_cons, if_pos hc, restL_cons, if_pos hc]
      · have hs := ih (out ++ [bt a j]) i (j + 1) (by omega) (by omega) (by omega) (by omega) (by omega) (by rw [List.length_append, List.length_singleton]; omega)
        refine evStep (evPos hj (evPos hi (evPos h0 (evPos h2 (evNeg hc (evPos (by omega) ?_))))))
        rw [ej]
        refine evTo hs ?_
        rw [eb, takeOk_cons, if_neg hc, restL_cons, if_neg hc, List.append_assoc]; rfl
    · have hs := ih (out ++ [bt a j]) i (j + 1) (by omega) (by omega) (by omega) (by omega) (by omega) (by rw [List.length_append, List.length_singleton]; omega)
      refine evStep (evPos hj (evNeg hi (evPos h2 (evPos (by omega) ?_))))
      rw [ej]
      refine evTo hs ?_
      have : (bytesOf b).drop i.toNat = [] := List.drop_of_length_le (by rw [bytesOf_length]; omega)
      rw [this, takeOk_nil, takeOk_nil, restL_nil, List.append_assoc]; rfl
theorem take_rest_ev (a b : ByteArray) (ha : a.size ≤ 140737488351232) (hb : b.size ≤ 140737488351232) : Ev (fun k => spec_l03Take.f k a b) (strOfNums (restL (bytesOf a) (bytesOf b)), takeOk (bytesOf a) (bytesOf b)) :=
  take_rest_from a b ha hb a.size [] 0 0 (by omega) (by omega) (by omega) (by omega) (by omega) (by simp)
theorem data_bytes (s : ByteArray) : s.data.toList = (bytesOf s).map fun n => UInt8.ofNat n.toNat := by
  unfold bytesOf
  rw [List.map_map]
  exact ((List.map_congr_left (g := id) fun b _ => by simp).trans (List.map_id _)).symm
theorem sortS_same {s t : ByteArray} (h : (bytesOf s).Perm (bytesOf t)) : sortS s = sortS t := by
  have hp : s.data.toList.Perm t.data.toList := by rw [data_bytes s, data_bytes t]; exact h.map _
  have := sortS_unique (s := t) (l := (sortS s).data.toList) ((sortS_perm s).trans hp) (sortS_sorted s)
  rw [← this]
theorem bytesOf_nums (l : List Int) (h : ∀ x ∈ l, 0 ≤ x ∧ x ≤ 255) : bytesOf (strOfNums l) = l := by
  unfold bytesOf
  rw [strOfNums_data, List.map_map]
  refine (List.map_congr_left (g := id) fun x hx => ?_).trans (List.map_id _)
  have := h x hx
  show ((UInt8.ofNat x.toNat).toNat : Int) = x
  rw [UInt8.toNat_ofNat', Nat.mod_eq_of_lt (by omega)]; omega
theorem lessB_iff {a b : ByteArray} (ta : tilesOk a) (tb : tilesOk b) (oa : ordFrom a 0 = true) (ob : ordFrom b 0 = true) : lessB (cntTo a a.size) (cntTo b b.size) = takeOk (bytesOf a) (bytesOf b) := by
  rw [Bool.eq_iff_iff]
  unfold lessB
  rw [List.all_eq_true]
  constructor
  · intro h
    refine takeOk_of _ _ (ord_pairwise oa) (ord_pairwise ob) fun z => ?_
    by_cases hz : z ∈ bytesOf b
    · obtain ⟨m, hm, e⟩ := mem_bt b z hz
      obtain ⟨q, hq, _, e2⟩ := place_tileI (tb.2 m hm)
      have := of_decide_eq_true (h q (List.mem_range.2 (by omega)))
      rw [cnt_int ta q hq, cnt_int tb q hq, ← e2, ← e] at this
      omega
    · rw [List.count_eq_zero.2 hz]; exact Nat.zero_le _
  · intro h j hj
    have hj' := List.mem_range.1 hj
    refine decide_eq_true ?_
    rw [cnt_int ta j (by omega), cnt_int tb j (by omega)]
    have := takeOk_le _ _ h (tileI j); omega
theorem rest_perm {a b : ByteArray} (ta : tilesOk a) (tb : tilesOk b) (oa : ordFrom a 0 = true) (ob : ordFrom b 0 = true) (h : takeOk (bytesOf a) (bytesOf b) = true) :
    (restL (bytesOf a) (bytesOf b)).Perm (bytesOf (restS a b)) := by
  rw [List.perm_iff_count]
  intro z
  have hc := restL_count _ _ h z
  have hL : lessL (cntTo a a.size) (cntTo b b.size) = subTo (cntTo a a.size) (cntTo b b.size) 27 := by unfold lessL; rw [lessB_iff ta tb oa ob, h]; rfl
  have hR : bytesOf (restS a b) = (pileTo (lessL (cntTo a a.size) (cntTo b b.size)) 27).map fun u : UInt8 => (u.toNat : Int) := rfl
  have inj : ∀ x y : UInt8, (x.toNat : Int) = (y.toNat : Int) → x = y := fun x y e => UInt8.toNat_inj.1 (by omega)
  by_cases hz : ∃ j : Nat, j ≤ 26 ∧ z = tileI j
  · obtain ⟨j, hj, rfl⟩ := hz
    rw [hR, ← tileU_toNat j hj, count_map_inj (fun u : UInt8 => (u.toNat : Int)) inj (tileU j), pile_count _ j hj 27 (Nat.le_refl _), if_pos (by omega), hL, subTo_get _ _ j (by rw [cntTo_length]; omega) 27, if_pos (by omega), cnt_int ta j hj, cnt_int tb j hj, ← tileU_toNat j hj]
    rw [← tileU_toNat j hj] at hc
    omega
  · have h1 : (bytesOf a).count z = 0 := List.count_eq_zero.2 fun hm => by
      obtain ⟨m, hm, e⟩ := mem_bt a z hm
      obtain ⟨q, hq, _, e2⟩ := place_tileI (ta.2 m hm)
      exact hz ⟨q, hq, e.trans e2⟩
    have h2 : (bytesOf (restS a b)).count z = 0 := List.count_eq_zero.2 fun hm => by
      rw [hR] at hm
      obtain ⟨u, hu, e⟩ := List.mem_map.1 hm
      obtain ⟨j, hj, e2⟩ := pile_mem _ _ u hu
      exact hz ⟨j, by omega, by rw [← e, e2, tileU_toNat j (by omega)]⟩
    omega
/-- The tiles to be exchanged are drawn: all three strings are short. -/
theorem drawExchange_ok (l : List Int) (hl : l.length ≤ 4096) (hb : ∀ x ∈ l, 0 ≤ x ∧ x ≤ 255) :
    ∃ b r t, Ev (fun k => spec_DrawExchangeTiles.f k l) (b, r, t) ∧ b.size ≤ 200 ∧ r.size ≤ 200 ∧ t.size ≤ 200 := by
  obtain ⟨b, p1, s1, e1, h1, h1', z1⟩ := bent17_ok l hl hb 0 0 (by omega) (by omega)
  obtain ⟨r, p2, s2, e2, h2, h2', z2⟩ := bent3_ok l hl hb p1 s1 7 (by omega) (by omega) (by omega) (by omega)
  obtain ⟨t, p3, s3, e3, h3, h3', z3⟩ := bent3_ok l hl hb p2 s2 3 (by omega) (by omega) (by omega) (by omega)
  obtain ⟨o, p4, s4, e4, h4, h4'⟩ := one_ok l hl hb p3 s3 2 (by omega) (by omega)
  have no : Ev (fun k => spec_DrawExchangeTiles.j0 k b r t false l p4 s4) (b, r, t) := Ev.step (fun m => by simp only [spec_DrawExchangeTiles.j0, Bool.false_eq_true, if_false]) (Ev.now _)
  have start : ∀ V, (Ev (fun k => if o = true then ((spec_l03Rack.f k r).bind fun t263 => (spec_DrawExchangeTiles.j0 k b r t t263 l p4 s4)) else (spec_DrawExchangeTiles.j0 k b r t false l p4 s4)) V) → Ev (fun k => spec_DrawExchangeTiles.f k l) V := by
    intro V h
    unfold spec_DrawExchangeTiles.f
    refine evBindC (show spec_l00From.f l = some (l, 0, 0) from rfl) ?_
    refine evBind e1 ?_
    refine evBind e2 ?_
    refine evBind e3 ?_
    refine evBindC e4 ?_
    exact h
  by_cases ho : o = true
  · by_cases hr : rackB r = true
    · have zr := rack_size hr
      obtain ⟨n, p5, s5, e5, hn0, hn1, h5, h5'⟩ := pick_ok l hl hb p4 s4 ((r.size : Int) + 1) (by omega) (by omega)
      have hn := hn1 (by omega)
      obtain ⟨m, rfl⟩ := Int.eq_ofNat_of_zero_le hn0
      obtain ⟨zs, e6, q1, q2, q3⟩ := subs_ok 7 (by omega) r m (by omega) (by omega)
      obtain ⟨v, p7, s7, e7, hv0, hv1, h7, h7'⟩ := pick_ok l hl hb p5 s5 (zs.length : Int) (by omega) (by omega)
      have hv := hv1 (by omega)
      obtain ⟨j, rfl⟩ := Int.eq_ofNat_of_zero_le hv0
      have hj : j < zs.length := by omega
      have er : rdOf ByteArray.empty zs (j : Int) = zs[j] := by unfold rdOf; simp [List.getD, hj]
      have hz := q3 _ (List.getElem_mem hj)
      refine ⟨b, r, rdOf ByteArray.empty zs (j : Int), start _ ?_, z1, z2, by rw [er]; omega⟩
      refine evPos ho ?_
      refine evBind (spec_l03Rack_ev r (by omega)) ?_
      rw [hr]
      refine Ev.step (fun m => by simp only [spec_DrawExchangeTiles.j0, if_true]; rfl) ?_
      rw [w64s r.size (by omega)]
      refine evBindC e5 ?_
      refine evBind e6 ?_
      refine evBindC e7 ?_
      refine evPos hv0 ?_
      exact evPos hv (evNow rfl)
    · refine ⟨b, r, t, start _ ?_, z1, z2, z3⟩
      refine evPos ho ?_
      refine evBind (spec_l03Rack_ev r (by omega)) ?_
      rw [Bool.eq_false_iff.mpr hr]; exact no
  · exact ⟨b, r, t, start _ (evNeg ho no), z1, z2, z3⟩
theorem drawFill_ok (l : List Int) (hl : l.length ≤ 4096) (hb : ∀ x ∈ l, 0 ≤ x ∧ x ≤ 255) : ∃ b r, Ev (fun k => spec_DrawFillRack.f k l) (b, r) ∧ b.size ≤ 200 ∧ r.size ≤ 200 := by
  obtain ⟨b, p1, s1, e1, h1, h1', z1⟩ := bent17_ok l hl hb 0 0 (by omega) (by omega)
  obtain ⟨r, p2, s2, e2, h2, h2', z2⟩ := bent3_ok l hl hb p1 s1 8 (by omega) (by omega) (by omega) (by omega)
  refine ⟨b, r, ?_, z1, z2⟩
  unfold spec_DrawFillRack.f
  refine evBindC (show spec_l00From.f l = some (l, 0, 0) from rfl) ?_
  refine evBind e1 ?_
  refine evBind e2 ?_
  exact evNow rfl
theorem drawReturn_ok (l : List Int) (hl : l.length ≤ 4096) (hb : ∀ x ∈ l, 0 ≤ x ∧ x ≤ 255) : ∃ b r, Ev (fun k => spec_DrawReturnTiles.f k l) (b, r) ∧ b.size ≤ 200 ∧ r.size ≤ 200 := by
  obtain ⟨b, p1, s1, e1, h1, h1', z1⟩ := bent17_ok l hl hb 0 0 (by omega) (by omega)
  obtain ⟨r, p2, s2, e2, h2, h2', z2⟩ := bent17_ok l hl hb p1 s1 (by omega) (by omega)
  refine ⟨b, r, ?_, z1, z2⟩
  unfold spec_DrawReturnTiles.f
  refine evBindC (show spec_l00From.f l = some (l, 0, 0) from rfl) ?_
  refine evBind e1 ?_
  refine evBind e2 ?_
  exact evNow rfl
/-- The checks of the walked ExchangeTiles are the printed ones. -/
theorem same_tiles : ∀ k s i, OExchA.impl_onlyTiles.l0 k s i = impl_onlyTiles.l0 k s i
  | 0, _, _ => rfl
  | k + 1, s, i => by
    have hp : OExchA.impl_place.f (bt s i) = impl_place.f (bt s i) := rfl
    rw [OExchA.impl_onlyTiles.l0, impl_onlyTiles.l0, hp]
    simp only [same_tiles k]
theorem same_only (k : Nat) (s : ByteArray) : OExchA.impl_onlyTiles.f k s = impl_onlyTiles.f k s := same_tiles k s 0
theorem same_bag (k : Nat) (s : ByteArray) : OExchA.impl_ValidBag.f k s = impl_ValidBag.f k s := by
  unfold OExchA.impl_ValidBag.f impl_ValidBag.f; rw [same_only]
theorem same_ord : ∀ k s i, OExchA.impl_ValidPile.l0 k s i = impl_ValidPile.l0 k s i
  | 0, _, _ => by rw [OExchA.impl_ValidPile.l0, impl_ValidPile.l0]
  | k + 1, s, i => by rw [OExchA.impl_ValidPile.l0, impl_ValidPile.l0]; simp only [same_ord k]
theorem same_j0 : ∀ k s b, OExchA.impl_ValidPile.j0 k s b = impl_ValidPile.j0 k s b
  | 0, _, _ => by rw [OExchA.impl_ValidPile.j0, impl_ValidPile.j0]
  | k + 1, s, b => by rw [OExchA.impl_ValidPile.j0, impl_ValidPile.j0]; simp only [same_ord k]
theorem same_pile (k : Nat) (s : ByteArray) : OExchA.impl_ValidPile.f k s = impl_ValidPile.f k s := by
  unfold OExchA.impl_ValidPile.f impl_ValidPile.f; simp only [same_only, same_j0]
theorem same_rack (k : Nat) (s : ByteArray) : OExchA.impl_ValidRack.f k s = impl_ValidRack.f k s := by
  unfold OExchA.impl_ValidRack.f impl_ValidRack.f; rw [same_pile]
theorem takeOk_len : ∀ a b, takeOk a b = true → b.length + (restL a b).length = a.length
  | [], b, h => by
    have : b = [] := List.isEmpty_iff.1 h
    subst this; rfl
  | x :: a, [], h => by rw [restL_all]; simp
  | x :: a, y :: b, h => by
    rw [takeOk_cons] at h
    rw [restL_cons]
    by_cases e : y = x
    · rw [if_pos e] at h ⊢
      have := takeOk_len a b h
      simp only [List.length_cons]; omega
    · rw [if_neg e] at h ⊢
      have := takeOk_len a (y :: b) h
      simp only [List.length_cons] at this ⊢; omega
/-- Tiles are kept: what comes out, together, is what went in. -/
def kept (b r x y : ByteArray) : Prop := tilesOk (b ++ r) ∧ tilesOk (x ++ y) ∧ (bytesOf (b ++ r)).Perm (bytesOf (x ++ y))
theorem sortS_bytes (s : ByteArray) : (bytesOf (sortS s)).Perm (bytesOf s) := (sortS_perm s).map _
theorem tilesOk_perm {s t : ByteArray} (h : tilesOk s) (p : (bytesOf s).Perm (bytesOf t)) : tilesOk t := by
  rw [tilesOk_iff] at h ⊢
  have := p.length_eq
  rw [bytesOf_length, bytesOf_length] at this
  exact ⟨by omega, fun x hx => h.2 x (p.mem_iff.2 hx)⟩
theorem exch_same {b r t : ByteArray} (zb : b.size ≤ 120) (zr : r.size ≤ 7) (tb : tilesOk b) (tr : tilesOk r) (tt : tilesOk t) (or_ : ordFrom r 0 = true) (ot : ordFrom t 0 = true) (hb : b.size ≤ 140737488351232) (hr : r.size ≤ 140737488351232) (ht : t.size ≤ 140737488351232) :
    ∃ V, Ev (fun k => spec_ExchangeTiles.j0 k b r t false) V ∧ exchTail b r t = some V ∧ (V.2.2 = 0 → kept b r V.1 V.2.1 ∧ V.1.size = r.size ∧ V.2.1.size = b.size) := by
  have st : ∀ m, spec_ExchangeTiles.j0 (m + 1) b r t false = (if t.toList = ([] : List UInt8) then (some ((⟨#[]⟩ : ByteArray), (⟨#[]⟩ : ByteArray), 2)) else ((spec_l03Take.f m r t).bind fun bt117 => (if bt117.2 = true then (if (b.size : Int) < 7 then (some ((⟨#[]⟩ : ByteArray), (⟨#[]⟩ : ByteArray), 6)) else (if 0 ≤ (t.size : Int) then (if (t.size : Int) ≤ (b.size : Int) then (if bt117.1.size + (b.extract 0 ((t.size : Int) : Int).toNat).size ≤ 9223372036854775807 then ((spec_l03Sort.f (bt117.1 ++ (b.extract 0 ((t.size : Int) : Int).toNat))).bind fun t119 => (if (b.extract ((t.size : Int) : Int).toNat b.size).size + t.size ≤ 9223372036854775807 then (some (t119, (b.extract ((t.size : Int) : Int).toNat b.size) ++ t, 0)) else (none))) else (none)) else (none)) else (none))) else (some ((⟨#[]⟩ : ByteArray), (⟨#[]⟩ : ByteArray), 3))))) := fun m => by
    simp only [spec_ExchangeTiles.j0, Bool.false_eq_true, if_false]
  have hw : impl_without.f r t = some (restS r t, takeOk (bytesOf r) (bytesOf t)) := by unfold impl_without.f; rw [if_pos ⟨tr, tt⟩, lessB_iff tr tt or_ ot]
  by_cases he : t.toList = []
  · exact ⟨_, Ev.step st (evPos he (evNow rfl)), by unfold exchTail; rw [if_pos he], fun h => by cases h⟩
  have tk := take_rest_ev r t hr ht
  cases hk : takeOk (bytesOf r) (bytesOf t) with
  | false =>
    rw [hk] at tk hw
    exact ⟨_, Ev.step st (evNeg he (evBind tk (evNeg (by simp) (evNow rfl)))), by unfold exchTail; rw [if_neg he, hw]; rfl, fun h => by cases h⟩
  | true =>
    rw [hk] at tk hw
    by_cases h7 : (b.size : Int) < 7
    · exact ⟨_, Ev.step st (evNeg he (evBind tk (evPos rfl (evPos h7 (evNow rfl))))), by unfold exchTail; rw [if_neg he, hw, Option.bind_some, if_pos rfl, if_pos h7], fun h => by cases h⟩
    · have hl := takeOk_len _ _ hk
      rw [bytesOf_length, bytesOf_length] at hl
      have hp := rest_perm tr tt or_ ot hk
      have hpl := hp.length_eq
      rw [bytesOf_length] at hpl
      have hrange : ∀ x ∈ restL (bytesOf r) (bytesOf t), 0 ≤ x ∧ x ≤ 255 := fun x hx => by
        obtain ⟨m, _, e⟩ := mem_bt r x (restL_mem _ _ x hx)
        rw [e]; exact bt_range r m
      have hbn := bytesOf_nums _ hrange
      have hsz : (strOfNums (restL (bytesOf r) (bytesOf t))).size = (restL (bytesOf r) (bytesOf t)).length := by rw [← bytesOf_length, hbn]
      have hmem : ∀ x ∈ restL (bytesOf r) (bytesOf t), 0 ≤ placeI x := fun x hx => ((tilesOk_iff r).1 tr).2 x (restL_mem _ _ x hx)
      have tS : tilesOk (strOfNums (restL (bytesOf r) (bytesOf t))) := (tilesOk_iff _).2 ⟨by omega, by rw [hbn]; exact hmem⟩
      have tR : tilesOk (restS r t) := (tilesOk_iff _).2 ⟨by omega, fun x hx => hmem x (hp.mem_iff.2 hx)⟩
      have tX := tilesOk_extract tb 0 t.size
      have zX := size_extract_le b 0 t.size
      obtain ⟨f1, _⟩ := sortBoth (tilesOk_append tS tX (by omega))
      obtain ⟨_, f2⟩ := sortBoth (tilesOk_append tR tX (by omega))
      have hs : sortS (strOfNums (restL (bytesOf r) (bytesOf t)) ++ b.extract 0 t.size) = sortS (restS r t ++ b.extract 0 t.size) := by
        refine sortS_same ?_
        rw [bytesOf_append, bytesOf_append, hbn]
        exact hp.append_right _
      rw [hs] at f1
      have zY := size_extract_le b t.size b.size
      refine ⟨(sortS (restS r t ++ b.extract 0 t.size), b.extract t.size b.size ++ t, 0), Ev.step st ?_, ?_, fun _ => ⟨⟨?_, ?_, ?_⟩, ?_, ?_⟩⟩
      · rw [Int.toNat_natCast]
        exact evNeg he <| evBind tk <| evPos rfl <| evNeg h7 <| evPos (by omega) <| evPos (by omega) <| evPos (by show (strOfNums (restL (bytesOf r) (bytesOf t))).size + _ ≤ _; omega) <| evBindC f1 <| evPos (by omega) <| evNow rfl
      · unfold exchTail
        rw [if_neg he, hw, Option.bind_some, if_pos rfl, if_neg h7, if_pos ⟨by omega, by omega, by show (restS r t).size ≤ 1000; omega⟩]
        show (impl_sorted.f (restS r t ++ b.extract 0 t.size)).bind _ = _
        rw [f2]; rfl
      · exact tilesOk_append tb tr (by omega)
      · refine tilesOk_append (tilesOk_perm (tilesOk_append tR tX (by omega)) (sortS_bytes _).symm) (tilesOk_append (tilesOk_extract tb _ _) tt (by omega)) ?_
        rw [sortS_size, ByteArray.size_append, ByteArray.size_append]; omega
      · -- the tiles are the same
        have hcut : bytesOf b = bytesOf (b.extract 0 t.size) ++ bytesOf (b.extract t.size b.size) := by
          rw [bytesOf_extract, bytesOf_extract, List.drop_zero, Nat.sub_zero, List.take_of_length_le (l := (bytesOf b).drop t.size) (by rw [List.length_drop, bytesOf_length]; omega), List.take_append_drop]
        have hr2 : (bytesOf r).Perm (bytesOf t ++ bytesOf (restS r t)) := by
          refine List.Perm.trans ?_ ((List.Perm.refl (bytesOf t)).append hp)
          rw [List.perm_iff_count]
          intro z
          rw [List.count_append]
          exact restL_count _ _ hk z
        rw [List.perm_iff_count]
        intro z
        have q1 := (List.perm_iff_count.1 hr2) z
        have q2 := (List.perm_iff_count.1 (sortS_bytes (restS r t ++ b.extract 0 t.size))) z
        rw [bytesOf_append, bytesOf_append, List.count_append, List.count_append, q2, q1, bytesOf_append, bytesOf_append, hcut]
        simp only [List.count_append]
        omega
      · rw [sortS_size, ByteArray.size_append, ByteArray.size_extract]; omega
      · rw [ByteArray.size_append, ByteArray.size_extract]; omega
/-- ExchangeTiles: both answer the same, and the tiles are kept. -/
theorem exch_both (b r t : ByteArray) (hb : b.size ≤ 140737488351232) (hr : r.size ≤ 140737488351232) (ht : t.size ≤ 140737488351232) :
    ∃ V, Ev (fun k => spec_ExchangeTiles.f k b r t) V ∧ Ev (fun k => impl_ExchangeTiles.f k b r t) V ∧ (V.2.2 = 0 → kept b r V.1 V.2.1 ∧ V.1.size = r.size ∧ V.2.1.size = b.size) := by
  unfold spec_ExchangeTiles.f impl_ExchangeTiles.f
  simp only [same_bag, same_rack, same_pile]
  have s_yes : ∀ m, spec_ExchangeTiles.j0 (m + 1) b r t true = some ((⟨#[]⟩ : ByteArray), (⟨#[]⟩ : ByteArray), 1) := fun m => by simp only [spec_ExchangeTiles.j0, if_true]
  have hv : Ev (fun k => spec_l17Ok.f k b) (bagB b) := spec_l17Ok_ev b hb
  have hi : Ev (fun k => impl_ValidBag.f k b) (bagB b) := impl_ValidBag_ev b hb
  have no : Ev (fun k => spec_ExchangeTiles.j0 k b r t true) ((⟨#[]⟩ : ByteArray), (⟨#[]⟩ : ByteArray), 1) := Ev.step s_yes (Ev.now _)
  by_cases hB : bagB b = true
  · by_cases hR : rackB r = true
    · by_cases hT : pileB t = true
      · obtain ⟨V, e1, e2, e3⟩ := exch_same (bagB_size hB) (rack_size hR) (bag_tiles hB) (pile_ok (rack_pile hR)) (pile_ok hT) (pile_ord (rack_pile hR)) (pile_ord hT) hb hr ht
        have e1' : Ev (fun k => spec_ExchangeTiles.j0 k b r t (!pileB t)) V := by rw [hT]; exact e1
        have e2' : Ev (fun _ => exchTail b r t) V := by rw [e2]; exact Ev.now _
        exact ⟨V, evBind hv <| evPos hB <| evBind (spec_l03Rack_ev r hr) <| evPos hR <| evBind (spec_l03Pile_ev t ht) e1', evBind hi <| evPos hB <| evBind (impl_ValidRack_ev r hr) <| evPos hR <| evBind (impl_ValidPile_ev t ht) <| evPos hT e2', e3⟩
      · have hT' : pileB t = false := Bool.eq_false_iff.mpr hT
        have e1' : Ev (fun k => spec_ExchangeTiles.j0 k b r t (!pileB t)) ((⟨#[]⟩ : ByteArray), (⟨#[]⟩ : ByteArray), 1) := by rw [hT']; exact no
        exact ⟨_, evBind hv <| evPos hB <| evBind (spec_l03Rack_ev r hr) <| evPos hR <| evBind (spec_l03Pile_ev t ht) e1', evBind hi <| evPos hB <| evBind (impl_ValidRack_ev r hr) <| evPos hR <| evBind (impl_ValidPile_ev t ht) <| evNeg hT <| evNow rfl, fun h => by cases h⟩
    · exact ⟨_, evBind hv <| evPos hB <| evBind (spec_l03Rack_ev r hr) <| evNeg hR no, evBind hi <| evPos hB <| evBind (impl_ValidRack_ev r hr) <| evNeg hR <| evNow rfl, fun h => by cases h⟩
  · exact ⟨_, evBind hv <| evNeg hB no, evBind hi <| evNeg hB <| evNow rfl, fun h => by cases h⟩
/-- How many tiles are drawn. -/
def fillN (b r : ByteArray) : Int := if (7 : Int) - r.size > b.size then b.size else 7 - r.size
/-- FillRack: both answer the same, and the tiles are kept. -/
theorem fill_both (b r : ByteArray) (hb : b.size ≤ 140737488351232) (hr : r.size ≤ 140737488351232) :
    ∃ V, Ev (fun k => spec_FillRack.f k b r) V ∧ Ev (fun k => impl_FillRack.f k b r) V ∧ (V.2.2 = 0 → kept b r V.1 V.2.1 ∧ ((V.1.size : Int) < 7 → V.2.1.toList = []) ∧ V.1.size + V.2.1.size ≤ 1000) := by
  unfold spec_FillRack.f impl_FillRack.f
  have hv : Ev (fun k => spec_l17Ok.f k b) (bagB b) := spec_l17Ok_ev b hb
  have hi : Ev (fun k => impl_ValidBag.f k b) (bagB b) := impl_ValidBag_ev b hb
  have s_yes : ∀ m, spec_FillRack.j0 (m + 1) b r true = some ((⟨#[]⟩ : ByteArray), (⟨#[]⟩ : ByteArray), 1) := fun m => by simp only [spec_FillRack.j0, if_true]
  have i_yes : ∀ m, impl_FillRack.j0 (m + 1) b r true = some ((⟨#[]⟩ : ByteArray), (⟨#[]⟩ : ByteArray), 1) := fun m => by simp only [impl_FillRack.j0, if_true]
  by_cases hB : bagB b = true
  · by_cases hR : rackB r = true
    · have zb := bagB_size hB
      have zr := rack_size hR
      have ew : wrap64 (7 - (r.size : Int)) = 7 - r.size := by unfold wrap64; omega
      have n0 : 0 ≤ fillN b r := by unfold fillN; split <;> omega
      have n1 : fillN b r ≤ (b.size : Int) := by unfold fillN; split <;> omega
      have n2 : fillN b r = (b.size : Int) ∨ fillN b r = 7 - (r.size : Int) := by unfold fillN; split; exact .inl rfl; exact .inr rfl
      have es : spec_l17Fill.f b r = some (fillN b r) := by unfold spec_l17Fill.f fillN; rw [ew]; split <;> rfl
      have ei : impl_toDraw.f b r = some (fillN b r) := by unfold impl_toDraw.f fillN mn; rw [ew]
      clear ew
      obtain ⟨n, hn⟩ := Int.eq_ofNat_of_zero_le n0
      have hz : r.size + (b.extract 0 (fillN b r).toNat).size ≤ 1000000 := by have := size_extract_le b 0 (fillN b r).toNat; omega
      have tX := tilesOk_append (pile_ok (rack_pile hR)) (tilesOk_extract (bag_tiles hB) 0 (fillN b r).toNat) hz
      obtain ⟨f1, f2⟩ := sortBoth tX
      have a1 : Ev (fun k => spec_FillRack.j0 k b r (!rackB r)) (sortS (r ++ b.extract 0 (fillN b r).toNat), b.extract (fillN b r).toNat b.size, 0) := by
        rw [hR]
        refine Ev.step (fun m => by simp only [spec_FillRack.j0, Bool.not_true, Bool.false_eq_true, if_false]; rfl) ?_
        exact evBindC es <| evPos n0 <| evPos n1 <| evPos (by omega) <| evBindC f1 <| evNow rfl
      have a2 : Ev (fun k => impl_FillRack.j0 k b r (!rackB r)) (sortS (r ++ b.extract 0 (fillN b r).toNat), b.extract (fillN b r).toNat b.size, 0) := by
        rw [hR]
        refine Ev.step (fun m => by simp only [impl_FillRack.j0, Bool.not_true, Bool.false_eq_true, if_false]; rfl) ?_
        exact evBindC ei <| evPos n0 <| evPos n1 <| evPos (by omega) <| evBindC f2 <| evNow rfl
      refine ⟨_, evBind hv <| evPos hB <| evBind (spec_l03Rack_ev r hr) a1, evBind hi <| evPos hB <| evBind (impl_ValidRack_ev r hr) a2, fun _ => ⟨⟨?_, ?_, ?_⟩, ?_, ?_⟩⟩
      · exact tilesOk_append (bag_tiles hB) (pile_ok (rack_pile hR)) (by omega)
      · refine tilesOk_append (tilesOk_perm tX (sortS_bytes _).symm) (tilesOk_extract (bag_tiles hB) _ _) ?_
        have := size_extract_le b (fillN b r).toNat b.size
        show (sortS (r ++ b.extract 0 (fillN b r).toNat)).size + (b.extract (fillN b r).toNat b.size).size ≤ 1000000
        rw [sortS_size, ByteArray.size_append]
        have := size_extract_le b 0 (fillN b r).toNat
        omega
      · have hcut : bytesOf b = bytesOf (b.extract 0 (fillN b r).toNat) ++ bytesOf (b.extract (fillN b r).toNat b.size) := by
          rw [bytesOf_extract, bytesOf_extract, List.drop_zero, Nat.sub_zero, List.take_of_length_le (l := (bytesOf b).drop (fillN b r).toNat) (by rw [List.length_drop, bytesOf_length]; omega), List.take_append_drop]
        rw [List.perm_iff_count]
        intro z
        have q2 := (List.perm_iff_count.1 (sortS_bytes (r ++ b.extract 0 (fillN b r).toNat))) z
        rw [bytesOf_append, bytesOf_append, List.count_append, List.count_append, q2, bytesOf_append, hcut]
        simp only [List.count_append]
        omega
      · intro h
        rw [sortS_size, ByteArray.size_append, ByteArray.size_extract] at h
        rw [Lib.toList_data]
        refine List.length_eq_zero_iff.1 ?_
        have e : ((b.extract (fillN b r).toNat b.size).data.toList).length = (b.extract (fillN b r).toNat b.size).size := data_length _
        rw [e, ByteArray.size_extract]; omega
      · rw [sortS_size, ByteArray.size_append, ByteArray.size_extract, ByteArray.size_extract]; omega
    · have hR' : rackB r = false := Bool.eq_false_iff.mpr hR
      have a1 : Ev (fun k => spec_FillRack.j0 k b r (!rackB r)) ((⟨#[]⟩ : ByteArray), (⟨#[]⟩ : ByteArray), 1) := by
        rw [hR']; exact Ev.step (fun m => s_yes m) (Ev.now _)
      have a2 : Ev (fun k => impl_FillRack.j0 k b r (!rackB r)) ((⟨#[]⟩ : ByteArray), (⟨#[]⟩ : ByteArray), 1) := by
        rw [hR']; exact Ev.step (fun m => i_yes m) (Ev.now _)
      exact ⟨_, evBind hv <| evPos hB <| evBind (spec_l03Rack_ev r hr) a1, evBind hi <| evPos hB <| evBind (impl_ValidRack_ev r hr) a2, fun h => by cases h⟩
  · exact ⟨_, evBind hv <| evNeg hB <| Ev.step (fun m => s_yes m) (Ev.now _), evBind hi <| evNeg hB <| Ev.step (fun m => i_yes m) (Ev.now _), fun h => by cases h⟩
/-- ReturnTiles: both answer the same. -/
theorem ret_both (b d : ByteArray) (hb : b.size ≤ 140737488351232) (hd : d.size ≤ 140737488351232) :
    ∃ V, Ev (fun k => spec_ReturnTiles.f k b d) V ∧ Ev (fun k => impl_ReturnTiles.f k b d) V := by
  unfold spec_ReturnTiles.f impl_ReturnTiles.f
  have sb : Ev (fun k => spec_l17Ok.f k b) (bagB b) := spec_l17Ok_ev b hb
  have sd : Ev (fun k => spec_l17Ok.f k d) (bagB d) := spec_l17Ok_ev d hd
  have ib : Ev (fun k => impl_ValidBag.f k b) (bagB b) := impl_ValidBag_ev b hb
  have id_ : Ev (fun k => impl_ValidBag.f k d) (bagB d) := impl_ValidBag_ev d hd
  have s_yes : Ev (fun k => spec_ReturnTiles.j0 k b d true) (⟨#[]⟩, 1) := Ev.step (fun m => by simp only [spec_ReturnTiles.j0, if_true]) (Ev.now _)
  have i_yes : Ev (fun k => impl_ReturnTiles.j0 k b d true) (⟨#[]⟩, 1) := Ev.step (fun m => by simp only [impl_ReturnTiles.j0, if_true]) (Ev.now _)
  by_cases h1 : bagB b = true
  · by_cases h2 : bagB d = true
    · have s1 := bagB_size h1
      have s2 := bagB_size h2
      have ew : wrap64 ((b.size : Int) + d.size) = (b.size : Int) + d.size := w64a _ _ (by omega)
      by_cases h3 : (b.size : Int) + d.size > 120
      · refine ⟨(⟨#[]⟩, 5), evBind sb <| evPos h1 <| evBind sd ?_, evBind ib <| evPos h1 <| evBind id_ ?_⟩
        · rw [h2]
          refine Ev.step (fun m => by simp only [spec_ReturnTiles.j0, Bool.not_true, Bool.false_eq_true, if_false]; rfl) ?_
          rw [ew]; exact evPos h3 (evNow rfl)
        · rw [h2]
          refine Ev.step (fun m => by simp only [impl_ReturnTiles.j0, Bool.not_true, Bool.false_eq_true, if_false]; rfl) ?_
          rw [ew]; exact evPos h3 (evNow rfl)
      · refine ⟨(d ++ b, 0), evBind sb <| evPos h1 <| evBind sd ?_, evBind ib <| evPos h1 <| evBind id_ ?_⟩
        · rw [h2]
          refine Ev.step (fun m => by simp only [spec_ReturnTiles.j0, Bool.not_true, Bool.false_eq_true, if_false]; rfl) ?_
          rw [ew]; exact evNeg h3 (evPos (by clear ew; omega) (evNow rfl))
        · rw [h2]
          refine Ev.step (fun m => by simp only [impl_ReturnTiles.j0, Bool.not_true, Bool.false_eq_true, if_false]; rfl) ?_
          rw [ew]; exact evNeg h3 (evPos (by clear ew; omega) (evNow rfl))
    · exact ⟨_, evBind sb <| evPos h1 <| evBind sd <| by rw [Bool.eq_false_iff.mpr h2]; exact s_yes, evBind ib <| evPos h1 <| evBind id_ <| by rw [Bool.eq_false_iff.mpr h2]; exact i_yes⟩
  · exact ⟨_, evBind sb <| evNeg h1 s_yes, evBind ib <| evNeg h1 i_yes⟩
theorem allTile {s : ByteArray} (h : tilesOk s) : allFrom tileB s 0 = true := by
  unfold allFrom
  rw [List.drop_zero, List.all_eq_true]
  intro x hx
  have := ((tilesOk_iff s).1 h).2 x hx
  have e : plI x = placeI x := rfl
  have := plI_neg x
  cases ht : tileB x with
  | true => rfl
  | false => have := this.2 ht; omega
/-- SortTiles of tiles, whatever their order. -/
def sortT (s : ByteArray) : ByteArray × Int := if (s.size : Int) > 120 then (⟨#[]⟩, 5) else (sortS s, 0)
theorem sortTiles_ev {s : ByteArray} (h : tilesOk s) : Ev (fun k => impl_SortTiles.f k s) (sortT s) := by
  unfold impl_SortTiles.f sortT
  have h1 := h.1
  refine evBind (impl_onlyTiles_ev s (by omega)) ?_
  refine evPos (allTile h) ?_
  by_cases hz : (s.size : Int) > 120
  · exact evTo (evPos hz (evNow rfl)) (if_pos hz).symm
  · exact evTo (evNeg hz (evBindC (sortBoth h).2 (evNow rfl))) (if_neg hz).symm
theorem sortT_same {s t : ByteArray} (p : (bytesOf s).Perm (bytesOf t)) : sortT s = sortT t := by
  have := p.length_eq
  rw [bytesOf_length, bytesOf_length] at this
  unfold sortT
  rw [sortS_same p, this]
theorem FnExchanges : laws_FnExchanges.Pure := by
  intro l hm hl1 hx
  have hb : ∀ x ∈ l, 0 ≤ x ∧ x ≤ 255 := fun x hx' => by
    have := hx x hx'
    have h : (decide (IntKind.u8.min ≤ x) && decide (x ≤ IntKind.u8.max)) = true := this
    rw [Bool.and_eq_true, decide_eq_true_eq, decide_eq_true_eq] at h
    exact h
  refine Ev.rounds (?_ : Ev (fun k => laws_FnExchanges.f k l) true)
  unfold laws_FnExchanges.f
  by_cases hbig : (l.length : Int) > 4096
  · refine evBindC (show laws_f6big.f l = some true by unfold laws_f6big.f; rw [decide_eq_true hbig]) ?_
    exact evPos rfl (evNow rfl)
  have hl : l.length ≤ 4096 := by omega
  refine evBindC (show laws_f6big.f l = some false by unfold laws_f6big.f; rw [decide_eq_false hbig]) ?_
  refine evNeg (by simp) ?_
  obtain ⟨b, r, t, d1, zb, zr, zt⟩ := drawExchange_ok l hl hb
  obtain ⟨V, v1, v2, v3⟩ := exch_both b r t (by omega) (by omega) (by omega)
  obtain ⟨c, s, d2, zc, zs⟩ := drawFill_ok l hl hb
  obtain ⟨U, u1, u2, u3⟩ := fill_both c s (by omega) (by omega)
  obtain ⟨p, q, d3, zp, zq⟩ := drawReturn_ok l hl hb
  obtain ⟨X, x1, x2⟩ := ret_both p q (by omega) (by omega)
  refine evBind d1 ?_
  refine evBind v2 ?_
  refine evBind v1 ?_
  refine evBind d2 ?_
  refine evBind u2 ?_
  refine evBind u1 ?_
  refine evBind d3 ?_
  refine evBind x2 ?_
  refine evBind x1 ?_
  refine evPos rfl (evPos rfl (evPos rfl (evPos rfl (evPos rfl (evPos rfl (evPos rfl ?_))))))
  show Ev (fun k => laws_FnExchanges.j0 k b r V.1 V.2.1 V.2.2 c s U.1 U.2.1 U.2.2 (X.1.toList != X.1.toList)) true
  have last : Ev (fun k => laws_FnExchanges.j1 k b r V.1 V.2.1 V.2.2) true := by
    by_cases h0 : V.2.2 = 0
    · obtain ⟨⟨k1, k2, k3⟩, k4, k5⟩ := v3 h0
      refine Ev.step (fun m => by rw [laws_FnExchanges.j1]) ?_
      refine evPos h0 ?_
      refine evPos (by omega) ?_
      refine evBind (sortTiles_ev k1) ?_
      refine evPos (by omega) ?_
      refine evBind (sortTiles_ev k2) ?_
      rw [sortT_same k3]
      refine evPos rfl (evPos rfl ?_)
      refine evPos (by omega) ?_
      rw [k5]
      exact evNow (by simp)
    · refine Ev.step (fun m => by rw [laws_FnExchanges.j1]) ?_
      exact evNeg h0 (evNow rfl)
  refine Ev.step (fun m => by rw [laws_FnExchanges.j0]) ?_
  refine evNeg (by simp) ?_
  by_cases h0 : U.2.2 = 0
  · obtain ⟨⟨k1, k2, k3⟩, k4, k5⟩ := u3 h0
    refine evPos h0 ?_
    refine evPos (by omega) ?_
    refine evBind (sortTiles_ev k1) ?_
    refine evPos (by omega) ?_
    refine evBind (sortTiles_ev k2) ?_
    rw [sortT_same k3]
    refine evPos rfl (evPos rfl ?_)
    by_cases h7 : (U.1.size : Int) < 7
    · exact evPos h7 (evPos (k4 h7) last)
    · exact evNeg h7 last
  · exact evNeg h0 last

end Go.Proofs.Ytjolcfheommchaa.Pure

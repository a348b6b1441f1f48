/- Part of a proof: rules that its law uses. -/
import Derived.Test.YtgonajfngmeanaaDoorFw3
import Derived.ProofKit
import Derived.Deep.Slices
import Derived.OpenShut
namespace Go.Fw
open Go Go.RowKit Go.Deep
theorem list_of {α : Type} {Q : Nat → α → Prop} : ∀ (n : Nat), (∀ i, i < n → ∃ x, Q i x) → ∃ xs : List α, xs.length = n ∧ ∀ i x, xs[i]? = some x → Q i x
  | 0, _ => ⟨[], rfl, fun i x h => by simp at h⟩
  | n + 1, h => by
    obtain ⟨xs, hl, hx⟩ := list_of n (fun i hi => h i (by omega))
    obtain ⟨x, hq⟩ := h n (by omega)
    refine ⟨xs ++ [x], by simp [hl], fun i y hy => ?_⟩
    rcases Nat.lt_or_ge i n with hi | hi
    · rw [List.getElem?_append_left (by omega)] at hy
      exact hx i y hy
    · rw [List.getElem?_append_right (by omega)] at hy
      have h0 : i = n := by
        have := (List.getElem?_eq_some_iff.1 hy).1
        simp at this; omega
      subst h0
      simp [hl] at hy
      exact hy ▸ hq
theorem mapM_some_get {α β : Type} (f : α → Option β) : ∀ (l : List α) (r : List β), l.mapM f = some r → r.length = l.length ∧ ∀ (i : Nat) x, l[i]? = some x → f x = r[i]?
  | [], r, h => by
    simp at h
    subst h
    exact ⟨rfl, fun i x hx => by simp at hx⟩
  | y :: l, r, h => by
    simp only [List.mapM_cons, Option.bind_eq_bind, Option.bind_eq_some_iff, Option.pure_def, Option.some.injEq] at h
    obtain ⟨b, hb, bs, hbs, rfl⟩ := h
    obtain ⟨h1, h2⟩ := mapM_some_get f l bs hbs
    refine ⟨by simp [h1], fun i x hx => ?_⟩
    cases i with
    | zero => simp at hx; subst hx; simp [hb]
    | succ i => simp at hx ⊢; exact h2 i x hx
theorem flatMap_get {α : Type} (cells : α → List Value) (s : Nat) (hs : 0 < s) : ∀ (xs : List α), (∀ x ∈ xs, (cells x).length = s) → ∀ (k : Nat) (u : Value), (xs.flatMap cells)[k]? = some u → ∃ x, xs[k / s]? = some x ∧ (cells x)[k % s]? = some u
  | [], _, k, u, h => by simp at h
  | x :: xs, hx, k, u, h => by
    have hl := hx x (List.mem_cons_self ..)
    rw [List.flatMap_cons] at h
    rcases Nat.lt_or_ge k s with hk | hk
    · rw [List.getElem?_append_left (by omega)] at h
      rw [Nat.div_eq_of_lt hk, Nat.mod_eq_of_lt hk]
      exact ⟨x, rfl, h⟩
    · rw [List.getElem?_append_right (by omega), hl] at h
      obtain ⟨y, h1, h2⟩ := flatMap_get cells s hs xs (fun z hz => hx z (List.mem_cons_of_mem _ hz)) (k - s) u h
      refine ⟨y, ?_, ?_⟩
      · have : k / s = (k - s) / s + 1 := by rw [← Nat.sub_add_cancel hk, Nat.add_div_right _ hs, Nat.sub_add_cancel hk]
        rw [this]; simpa using h1
      · rw [Nat.mod_eq_sub_mod hk]; exact h2
section
variable {H : Type} {enc : TypeId × Value → H} {P : Program} {W : World} {t e : TypeId} {v : Value}
abbrev reads (enc : TypeId × Value → H) (P : Program) (W : World) (fuel : Nat) (t : TypeId) (cs : List Value) : Option (DataW H × List MemPlace) := DataW.trod enc P W 0 (fun _ => true) true fuel t cs
theorem reads_slice {α : Type} (cells : α → List Value) (R : α → Prop) (wt : α → Nat) (bulk : DataW H → Nat) (s : Nat) (hs : P.cellsOf e = s) (hpos : 0 < s) (hbs : ∀ el sp : List (DataW H), (el.map bulk).sum + 1 ≤ bulk (.slice el sp)) (hb1 : ∀ d, 1 ≤ bulk d)
    (hel : ∀ n cs r, cs.length = s → reads enc P W n e cs = some r → ∃ x, cs = cells x ∧ R x ∧ wt x ≤ bulk r.1) (ht : P.underlying t = some (.slice e)) {fuel : Nat} {r : DataW H × List MemPlace} (h : reads enc P W fuel t [v] = some r) :
    ∃ (A : Option Addr) (cap : Nat) (xs : List α), v = .slice A xs.length cap ∧ xs.length ≤ cap ∧ cap ≤ maxLen ∧ (A = none → cap = 0) ∧ (∀ x ∈ xs, R x ∧ (cells x).length = s) ∧ Rd W A (xs.flatMap cells) ∧ (xs.map wt).sum + 1 ≤ bulk r.1 := by
  rcases open_slice ht h with ⟨hv, rfl⟩ | ⟨a, len, cap, m, n, D, Pl, hv, _, hle, hmax, hm, rfl, hall⟩
  · simp at hv
    subst hv
    exact ⟨none, 0, [], rfl, Nat.le_refl _, Nat.zero_le _, fun _ => rfl, (fun x hx => by cases hx), Rd.nil _ _, by simpa using hb1 _⟩
  · simp at hv
    subst hv
    simp at hm
    subst hm
    obtain ⟨xs, hlen, hx⟩ := list_of (Q := fun i x => W.cells? 0 (a.add (i * s)) s = some (cells x) ∧ R x ∧ wt x ≤ bulk (D i) ∧ (cells x).length = s) len (fun i hi => by
      obtain ⟨cs', h1, h2⟩ := hall i (by omega)
      rw [hs] at h1
      have hl : cs'.length = s := by
        unfold World.cells? at h1
        rw [if_pos (Nat.zero_le _)] at h1
        simpa using (mapM_some_get _ _ _ h1).1
      obtain ⟨x, rfl, h3, h4⟩ := hel n cs' _ hl h2
      exact ⟨x, h1, h3, h4, hl⟩)
    refine ⟨some a, m, xs, by rw [hlen], by omega, hmax, (fun h => by cases h), fun x hxm => ?_, ⟨fun _ => rfl, fun k u hk => ?_⟩, ?_⟩
    · obtain ⟨i, hi⟩ := List.getElem?_of_mem hxm
      exact ⟨(hx i x hi).2.1, (hx i x hi).2.2.2⟩
    · have hcl : ∀ x ∈ xs, (cells x).length = s := fun x hxm => by
        obtain ⟨i, hi⟩ := List.getElem?_of_mem hxm
        exact (hx i x hi).2.2.2
      obtain ⟨x, h1, h2⟩ := flatMap_get cells s hpos xs hcl k u hk
      obtain ⟨h3, _⟩ := hx _ x h1
      unfold World.cells? at h3
      rw [if_pos (Nat.zero_le _)] at h3
      have := (mapM_some_get _ _ _ h3).2 (k % s) (k % s) (by rw [List.getElem?_range (Nat.mod_lt _ hpos)])
      rw [h2, Addr.add_add] at this
      have hk2 : k / s * s + k % s = k := by rw [Nat.mul_comm]; exact Nat.div_add_mod k s
      rw [hk2] at this
      simpa using this
    · refine Nat.le_trans ?_ (hbs _ _)
      have : (xs.map wt).sum ≤ (((List.range len).map D).map bulk).sum := by
        have key : ∀ (ys : List α) (o : Nat), (∀ i y, ys[i]? = some y → wt y ≤ bulk (D (o + i))) → (ys.map wt).sum ≤ (((List.range' o ys.length).map D).map bulk).sum := by
          intro ys
          induction ys with
          | nil => intro o _; simp
          | cons y ys ih =>
            intro o hy
            have h0 := hy 0 y rfl
            have h1 := ih (o + 1) (fun i z hz => by have := hy (i + 1) z (by simpa using hz); rwa [show o + (i + 1) = o + 1 + i by omega] at this)
            simp only [List.map_cons, List.sum_cons, List.length_cons, List.range'_succ]
            simp only [Nat.add_zero] at h0
            omega
        have := key xs 0 (fun i y hy => by rw [Nat.zero_add]; exact (hx i y hy).2.2.1)
        rw [hlen, ← List.range_eq_range'] at this
        exact this
      omega
theorem reads_int {k : IntKind} (ht : P.underlying t = some (.int k)) {fuel : Nat} {cs : List Value} {r : DataW H × List MemPlace} (h : reads enc P W fuel t cs = some r) : ∃ n : Int, cs = [.int k n] ∧ (Lit.int k n).wf = true := by
  obtain ⟨n, h1, _, h2⟩ := DataW.trod_int ht h
  exact ⟨n, h1, h2⟩
theorem reads_u8 (ht : P.underlying t = some (.int .u8)) {fuel : Nat} {cs : List Value} {r : DataW H × List MemPlace} (h : reads enc P W fuel t cs = some r) : ∃ x : BitVec 8, cs = [U8 x] := by
  obtain ⟨n, rfl, hw⟩ := reads_int ht h
  simp only [Lit.wf, Bool.and_eq_true, decide_eq_true_eq] at hw
  have e1 : IntKind.u8.min = 0 := by decide
  have e2 : IntKind.u8.max = 255 := by decide
  rw [e1, e2] at hw
  refine ⟨BitVec.ofInt 8 n, ?_⟩
  simp only [U8, BitVec.toNat_ofInt]
  congr 2
  omega
theorem reads_u32 (ht : P.underlying t = some (.int .u32)) {fuel : Nat} {cs : List Value} {r : DataW H × List MemPlace} (h : reads enc P W fuel t cs = some r) : ∃ x : BitVec 32, cs = [U32 x] := by
  obtain ⟨n, rfl, hw⟩ := reads_int ht h
  simp only [Lit.wf, Bool.and_eq_true, decide_eq_true_eq] at hw
  have e1 : IntKind.u32.min = 0 := by decide
  have e2 : IntKind.u32.max = 4294967295 := by decide
  rw [e1, e2] at hw
  refine ⟨BitVec.ofInt 32 n, ?_⟩
  simp only [U32, BitVec.toNat_ofInt]
  congr 2
  omega
theorem reads_u64 (ht : P.underlying t = some (.int .u64)) {fuel : Nat} {cs : List Value} {r : DataW H × List MemPlace} (h : reads enc P W fuel t cs = some r) : ∃ x : BitVec 64, cs = [U64 x] := by
  obtain ⟨n, rfl, hw⟩ := reads_int ht h
  simp only [Lit.wf, Bool.and_eq_true, decide_eq_true_eq] at hw
  have e1 : IntKind.u64.min = 0 := by decide
  have e2 : IntKind.u64.max = 18446744073709551615 := by decide
  rw [e1, e2] at hw
  refine ⟨BitVec.ofInt 64 n, ?_⟩
  simp only [U64, BitVec.toNat_ofInt]
  congr 2
  omega
end
end Go.Fw

/- Part of a proof: rules that its law uses. -/
import Derived.Test.YtgonajfngmeanaaDoorFw7
import Derived.Test.YtgonajfngmeanaaDoorFw4
import Derived.SizedLaws
import Derived.Below
namespace Go.Fw
open Go Go.RowKit Go.Deep Go.WideShapes
set_option linter.unusedVariables false
def Els {H : Type} (d : DataW H) (el sp : List (DataW H)) : Prop := (d = .nil ∧ el = [] ∧ sp = []) ∨ d = .slice el sp
section
variable {H : Type} {enc : TypeId × Value → H} {P : Program} {W : World} {t e : TypeId} {v : Value}
def Fits (P : Program) (t : TypeId) (d : DataW H) : Prop := ∀ n ∈ d.weights P t, n ≤ reachBytes
theorem Fits.of_each {ts : List TypeId} {ds : List (DataW H)} (h : (DataW.weightsEach P ts ds).all (· ≤ reachBytes) = true) {j : Nat} {t : TypeId} {d : DataW H} (ht : ts[j]? = some t) (hd : ds[j]? = some d) : Fits P t d := fun n hn => by
  simpa using List.all_eq_true.1 h n (DataW.weights_mem_each ht hd n hn)
theorem weightsAll_mem {l : List (DataW H)} {d : DataW H} (hd : d ∈ l) {n : Nat} (hn : n ∈ d.weights P e) : n ∈ DataW.weightsAll P e l := by
  induction l with
  | nil => cases hd
  | cons x r ih =>
    simp only [DataW.weightsAll, List.mem_append]
    cases List.mem_cons.1 hd with
    | inl h => subst h; exact Or.inl hn
    | inr h => exact Or.inr (ih h)
theorem Fits.slice (ht : P.underlying t = some (.slice e)) {d : DataW H} {el sp : List (DataW H)} (h : Fits P t d) (hd : Els d el sp) : (el.length + sp.length) * P.bytesOf e ≤ reachBytes ∧ ∀ x ∈ el, Fits P e x := by
  rcases hd with ⟨rfl, rfl, rfl⟩ | rfl
  · exact ⟨by simp, fun x hx => by cases hx⟩
  · refine ⟨h _ (by simp [DataW.weights, ht]), fun x hx n hn => h n ?_⟩
    simp only [DataW.weights, ht]
    exact List.mem_cons_of_mem _ (List.mem_append_left _ (weightsAll_mem hx hn))
theorem weightsEach_mem {l : List (DataW H)} {ts : List TypeId} {j : Nat} {d : DataW H} (hd : l[j]? = some d) (ht : ts[j]? = some t) {n : Nat} (hn : n ∈ d.weights P t) : n ∈ DataW.weightsEach P ts l := DataW.weights_mem_each ht hd n hn
theorem Fits.struct {fs : Array Field} (ht : P.underlying t = some (.struct fs)) {ds : List (DataW H)} (h : Fits P t (.agg ds)) {j : Nat} {f : Field} {d : DataW H} (hf : fs[j]? = some f) (hd : ds[j]? = some d) : Fits P f.type d := fun n hn => h n (by
  simp only [DataW.weights, ht]
  exact weightsEach_mem (ts := fs.toList.map (·.type)) hd (by simp [hf]) hn)
theorem Fits.ptr (ht : P.underlying t = some (.pointer e)) {d : DataW H} (h : Fits P t (.ptr d)) : Fits P e d := fun n hn => h n (by simpa only [DataW.weights, ht] using hn)
theorem Fits.array {k : Nat} (ht : P.underlying t = some (.array k e)) {ds : List (DataW H)} (h : Fits P t (.agg ds)) {d : DataW H} (hd : d ∈ ds) : Fits P e d := fun n hn => h n (by
  simp only [DataW.weights, ht]; exact weightsAll_mem hd hn)
theorem cells_of_slice {α : Type} (cells : α → List Value) (R : α → DataW H → Prop) (s : Nat) (hs : P.cellsOf e = s) (hpos : 0 < s)
    (hel : ∀ n cs r, cs.length = s → reads enc P W n e cs = some r → ∃ x, cs = cells x ∧ R x r.1) (ht : P.underlying t = some (.slice e)) {fuel : Nat} {r : DataW H × List MemPlace} (h : reads enc P W fuel t [v] = some r) :
    ∃ (A : Option Addr) (cap : Nat) (xs : List α) (el sp : List (DataW H)), v = .slice A xs.length cap ∧ xs.length ≤ cap ∧ cap ≤ maxLen ∧ (A = none → cap = 0) ∧ (∀ x ∈ xs, (cells x).length = s) ∧ Rd W A (xs.flatMap cells) ∧
      Els r.1 el sp ∧ el.length = xs.length ∧ el.length + sp.length = cap ∧ ∀ (i : Nat) (x : α) (d : DataW H), xs[i]? = some x → el[i]? = some d → R x d := by
  rcases open_slice ht h with ⟨hv, rfl⟩ | ⟨a, len, cap, m, n, D, Pl, hv, _, hle, hmax, hm, rfl, hall⟩
  · simp at hv
    subst hv
    exact ⟨none, 0, [], [], [], rfl, Nat.le_refl _, Nat.zero_le _, fun _ => rfl, (fun x hx => by cases hx), Rd.nil _ _, .inl ⟨rfl, rfl, rfl⟩, rfl, rfl, fun i x d hx => by simp at hx⟩
  · simp at hv
    subst hv
    simp at hm
    subst hm
    obtain ⟨xs, hlen, hx⟩ := list_of (Q := fun i x => W.cells? 0 (a.add (i * s)) s = some (cells x) ∧ R x (D i) ∧ (cells x).length = s) len (fun i hi => by
      obtain ⟨cs', h1, h2⟩ := hall i (by omega)
      rw [hs] at h1
      have hl : cs'.length = s := by
        unfold World.cells? at h1
        rw [if_pos (Nat.zero_le _)] at h1
        simpa using (mapM_some_get _ _ _ h1).1
      obtain ⟨x, rfl, h3⟩ := hel n cs' _ hl h2
      exact ⟨x, h1, h3, hl⟩)
    have hcl : ∀ x ∈ xs, (cells x).length = s := fun x hxm => by
      obtain ⟨i, hi⟩ := List.getElem?_of_mem hxm
      exact (hx i x hi).2.2
    refine ⟨some a, m, xs, (List.range len).map D, (List.range (m - len)).map fun j => D (len + j), by rw [hlen], by omega, hmax, (fun h => by cases h), hcl, ⟨fun _ => rfl, fun k u hk => ?_⟩, .inr rfl, by simp [hlen], by simp; omega, fun i x d h1 h2 => ?_⟩
    · obtain ⟨x, h1, h2⟩ := flatMap_get cells s hpos xs hcl k u hk
      obtain ⟨h3, _⟩ := hx _ x h1
      unfold World.cells? at h3
      rw [if_pos (Nat.zero_le _)] at h3
      have := (mapM_some_get _ _ _ h3).2 (k % s) (k % s) (by rw [List.getElem?_range (Nat.mod_lt _ hpos)])
      rw [h2, Addr.add_add] at this
      have hk2 : k / s * s + k % s = k := by rw [Nat.mul_comm]; exact Nat.div_add_mod k s
      rw [hk2] at this
      simpa using this
    · have hi : i < xs.length := (List.getElem?_eq_some_iff.1 h1).1
      rw [List.getElem?_map, List.getElem?_range (by omega)] at h2
      simp at h2
      exact h2 ▸ (hx i x h1).2.1
theorem arg_slice {α : Type} (cells : α → List Value) (R : α → DataW H → Prop) (s : Nat) (ht : P.underlying t = some (.slice e)) (hs : P.cellsOf e = s) (hpos : 0 < s)
    (hel : ∀ n cs r, cs.length = s → reads enc P W n e cs = some r → ∃ x, cs = cells x ∧ R x r.1) {b0 : Nat} (hval : Value.okWide P W .any b0 t v) {d : DataW H} {ps : List MemPlace} (h : DataW.Trod enc P W 0 (fun _ => true) true t v d ps) :
    ∃ (A : Option Addr) (cap : Nat) (xs : List α) (el sp : List (DataW H)), v = .slice A xs.length cap ∧ xs.length ≤ cap ∧ cap ≤ maxLen ∧ (A = none → cap = 0) ∧ (∀ x ∈ xs, (cells x).length = s) ∧ Rd W A (xs.flatMap cells) ∧
      Els d el sp ∧ el.length = xs.length ∧ el.length + sp.length = cap ∧ ∀ (i : Nat) (x : α) (d : DataW H), xs[i]? = some x → el[i]? = some d → R x d := by
  obtain ⟨a, l, c, rfl⟩ := okWide_slice ht hval
  obtain ⟨fuel, hf⟩ := h
  exact cells_of_slice cells R s hs hpos hel ht (r := (d, ps)) (by simpa [Value.cells] using hf)
theorem flat1 {α β : Type} (f : α → β) : ∀ l : List α, (l.flatMap fun x => [f x]) = l.map f
  | [] => rfl
  | x :: l => by simp [flat1 f l]
theorem arg_u8s (ht : P.underlying t = some (.slice e)) (he : P.underlying e = some (.int .u8)) (hs : P.cellsOf e = 1) (hb : P.bytesOf e = 1) {b0 : Nat} (hval : Value.okWide P W .any b0 t v) {d : DataW H} {ps : List MemPlace} (h : DataW.Trod enc P W 0 (fun _ => true) true t v d ps) (hz : Fits P t d) :
    ∃ (A : Option Addr) (cap : Nat) (xs : List (BitVec 8)) (el sp : List (DataW H)), v = .slice A xs.length cap ∧ xs.length ≤ cap ∧ (A = none → cap = 0) ∧ Rd W A (u8s xs) ∧ Els d el sp ∧ el.length = xs.length ∧ el.length + sp.length = cap ∧ cap ≤ 140737488351232 := by
  obtain ⟨A, cap, xs, el, sp, h1, h2, h3, h4, h5, h6, h7, h8, h9, h10⟩ := arg_slice (α := BitVec 8) (fun x => [U8 x]) (fun _ _ => True) 1 ht hs (by omega) (fun n cs r _ hr => by
    obtain ⟨x, rfl⟩ := reads_u8 he hr; exact ⟨x, rfl, trivial⟩) hval h
  rw [flat1] at h6
  have := (hz.slice ht h7).1
  rw [hb, h9] at this
  exact ⟨A, cap, xs, el, sp, h1, h2, h4, h6, h7, h8, h9, by simpa [reachBytes] using this⟩
theorem arg_i64s (ht : P.underlying t = some (.slice e)) (he : P.underlying e = some (.int .i64)) (hs : P.cellsOf e = 1) (hb : P.bytesOf e = 8) {b0 : Nat} (hval : Value.okWide P W .any b0 t v) {d : DataW H} {ps : List MemPlace} (h : DataW.Trod enc P W 0 (fun _ => true) true t v d ps) (hz : Fits P t d) :
    ∃ (A : Option Addr) (cap : Nat) (xs : List Int) (el sp : List (DataW H)), v = .slice A xs.length cap ∧ xs.length ≤ cap ∧ (A = none → cap = 0) ∧ Rd W A (i64s xs) ∧ Els d el sp ∧ el.length = xs.length ∧ el.length + sp.length = cap ∧ cap * 8 ≤ 140737488351232 ∧ ∀ x ∈ xs, -9223372036854775808 ≤ x ∧ x ≤ 9223372036854775807 := by
  obtain ⟨A, cap, xs, el, sp, h1, h2, h3, h4, h5, h6, h7, h8, h9, h10⟩ := arg_slice (α := Int) (fun x => [.int .i64 x]) (fun x _ => (Lit.int .i64 x).wf = true) 1 ht hs (by omega) (fun n cs r _ hr => by
    obtain ⟨x, rfl, hw⟩ := reads_int he hr; exact ⟨x, rfl, hw⟩) hval h
  rw [flat1] at h6
  have := (hz.slice ht h7).1
  rw [hb, h9] at this
  refine ⟨A, cap, xs, el, sp, h1, h2, h4, h6, h7, h8, h9, by simpa [reachBytes] using this, fun x hx => ?_⟩
  obtain ⟨i, hi⟩ := List.getElem?_of_mem hx
  have hlt := (List.getElem?_eq_some_iff.1 hi).1
  have := h10 i x (el[i]'(by omega)) hi (by simp)
  exact wf_i64_in this
theorem arg_u64s (ht : P.underlying t = some (.slice e)) (he : P.underlying e = some (.int .u64)) (hs : P.cellsOf e = 1) (hb : P.bytesOf e = 8) {b0 : Nat} (hval : Value.okWide P W .any b0 t v) {d : DataW H} {ps : List MemPlace} (h : DataW.Trod enc P W 0 (fun _ => true) true t v d ps) (hz : Fits P t d) :
    ∃ (A : Option Addr) (cap : Nat) (xs : List (BitVec 64)) (el sp : List (DataW H)), v = .slice A xs.length cap ∧ xs.length ≤ cap ∧ (A = none → cap = 0) ∧ Rd W A (u64s xs) ∧ Els d el sp ∧ el.length = xs.length ∧ el.length + sp.length = cap ∧ cap * 8 ≤ 140737488351232 := by
  obtain ⟨A, cap, xs, el, sp, h1, h2, h3, h4, h5, h6, h7, h8, h9, h10⟩ := arg_slice (α := BitVec 64) (fun x => [U64 x]) (fun _ _ => True) 1 ht hs (by omega) (fun n cs r _ hr => by
    obtain ⟨x, rfl⟩ := reads_u64 he hr; exact ⟨x, rfl, trivial⟩) hval h
  rw [flat1] at h6
  have := (hz.slice ht h7).1
  rw [hb, h9] at this
  exact ⟨A, cap, xs, el, sp, h1, h2, h4, h6, h7, h8, h9, by simpa [reachBytes] using this⟩
end
theorem Rd.someOf {α : Type} {f : α → Value} {w : World} {A : Option Addr} {xs : List α} (h : Rd w A (xs.map f)) {i : Nat} (hi : i < xs.length) : A.isSome = true := h.1 (fun e => by
  have := congrArg List.length e
  rw [List.length_map] at this
  simp only [List.length_nil] at this
  omega)
end Go.Fw
namespace Go.Fw
set_option linter.unusedVariables false
theorem set_left {α : Type} {l r : List α} {i : Nat} {v : α} (h : i < l.length) : (l ++ r).set (0 + i) v = l.set i v ++ r := by
  rw [Nat.zero_add, List.set_append_left _ _ h]
theorem i64s_set_left {l : List Int} {r : List Value} {i : Nat} {v : Int} (h : i < l.length) : (i64s l ++ r).set (0 + i) (.int .i64 v) = i64s (l.set i v) ++ r := by
  rw [set_left (by rw [i64s, List.length_map]; exact h)]; congr 1; simp [i64s, List.map_set]
theorem u8s_set_left {l : List (BitVec 8)} {r : List Value} {i : Nat} {v : BitVec 8} (h : i < l.length) : (u8s l ++ r).set (0 + i) (U8 v) = u8s (l.set i v) ++ r := by
  rw [set_left (by rw [u8s_length]; exact h), u8s_set']
theorem spl_front (l vs : List Value) (h : vs.length ≤ l.length) : spl l 0 vs = vs ++ l.drop vs.length := by simp [spl]
theorem set_end (vs r : List Value) (u v : Value) {n : Nat} (h : n = vs.length) : (vs ++ u :: r).set (0 + n) v = vs ++ v :: r := by
  subst h; rw [Nat.zero_add, List.set_append_right _ _ (Nat.le_refl _)]; simp
theorem make_copy0 (vs : List Value) (z : Value) {n m : Nat} (hn : vs.length = n) (hm : m = n) : spl (List.replicate (n + 1) z) 0 (vs.take m) = vs ++ [z] := by
  subst hn hm
  rw [List.take_length, spl_front _ _ (by simp), List.drop_replicate, show vs.length + 1 - vs.length = 1 by omega]; rfl
theorem make_copy (vs : List Value) (z v : Value) {n m : Nat} (hn : vs.length = n) (hm : m = n) : (spl (List.replicate (n + 1) z) 0 (vs.take m)).set (0 + n) v = vs ++ [v] := by
  subst hn hm
  rw [List.take_length, spl_front _ _ (by simp), List.drop_replicate, show vs.length + 1 - vs.length = 1 by omega]
  exact set_end vs [] z v rfl
end Go.Fw

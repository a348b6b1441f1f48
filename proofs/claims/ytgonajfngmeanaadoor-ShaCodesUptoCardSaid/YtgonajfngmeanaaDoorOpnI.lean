/- Part of a proof: rules that its law uses. -/
import Derived.Test.YtgonajfngmeanaaDoorOpnL
import Derived.ChangeArms
namespace Go.Fw
open Go Go.RowKit Go.Deep Go.WideShapes
set_option linter.unusedVariables false
theorem Reps.of_list {α T : Type} {R : List Value → T → Prop} (cells : α → List Value) (pr : α → T) : ∀ (l : List α), (∀ x ∈ l, R (cells x) (pr x)) → Reps R (l.flatMap cells) (l.map pr)
  | [], _ => .nil
  | x :: l, h => by
    rw [List.flatMap_cons, List.map_cons]
    exact .cons (h x (List.mem_cons_self ..)) (Reps.of_list cells pr l (fun y hy => h y (List.mem_cons_of_mem _ hy)))
section
variable {H : Type} {enc : TypeId × Value → H} {P : Program} {W : World} {t e e2 : TypeId} {v : Value}
theorem reads_bs (ht : P.underlying e = some (.slice e2)) (he : P.underlying e2 = some (.int .u8)) (hs : P.cellsOf e2 = 1) (hb : P.bytesOf e2 = 1) {n : Nat} {u : Value} {r : DataW H × List MemPlace} (h : reads enc P W n e [u] = some r) (hz : Fits P e r.1) :
    ∃ (A : Option Addr) (cap : Nat) (x : List (BitVec 8)), u = .slice A x.length cap ∧ View (fun w => Mem W w []) A x.length cap 1 (u8s x) ∧ x.length ≤ 140737488351232 ∧ ∃ el sp, Els r.1 el sp ∧ el.length = x.length := by
  obtain ⟨A, cap, xs, el, sp, h1, h2, h3, h4, h5, h6, h7, h8, h9, h10⟩ := cells_of_slice (α := BitVec 8) (fun x => [U8 x]) (fun _ _ => True) 1 hs (by omega) (fun n cs r _ hr => by
    obtain ⟨x, rfl⟩ := reads_u8 he hr; exact ⟨x, rfl, trivial⟩) ht h
  rw [flat1] at h6
  have hw := (hz.slice ht h7).1
  rw [hb, h9] at hw
  have hc : cap ≤ 140737488351232 := by simpa [reachBytes] using hw
  exact ⟨A, cap, xs, h1, View.of8 h6 h2 hc, by omega, el, sp, h7, h8⟩
theorem arg_bss (ht : P.underlying t = some (.slice e)) (hse : P.cellsOf e = 1) (hbe : P.bytesOf e = 24) (he : P.underlying e = some (.slice e2)) (he2 : P.underlying e2 = some (.int .u8)) (hs : P.cellsOf e2 = 1) (hb : P.bytesOf e2 = 1) {b0 : Nat} (hval : Value.okWide P W .any b0 t v)
    {d : DataW H} {ps : List MemPlace} (h : DataW.Trod enc P W 0 (fun _ => true) true t v d ps) (hz : Fits P t d) :
    ∃ (A : Option Addr) (cap : Nat) (cells : List Value) (xs : List (List (BitVec 8))) (el sp : List (DataW H)), v = .slice A xs.length cap ∧ View (fun w => Mem W w []) A xs.length cap 1 cells ∧ Reps (BsRd (fun w => Mem W w [])) cells xs ∧
      Els d el sp ∧ el.length = xs.length ∧ xs.length * 24 ≤ 140737488351232 ∧ (∀ x ∈ xs, x.length ≤ 140737488351232) ∧ ∀ (i : Nat) x d, xs[i]? = some x → el[i]? = some d → ∃ el2 sp2, Els d el2 sp2 ∧ el2.length = x.length := by
  obtain ⟨A, cap, ys, el, sp, h1, h2, h3, h4, h5, h6, h7, h8, h9, h10⟩ := arg_slice (α := Value) (fun u => [u]) (fun u d => ∃ n ps, reads enc P W n e [u] = some (d, ps)) 1 ht hse (by omega) (fun n cs r hl hr => by
    match cs, hl with
    | [u], _ => exact ⟨u, rfl, n, r.2, hr⟩) hval h
  have hw := hz.slice ht h7
  rw [hbe, h9] at hw
  have hall : ∀ i, i < ys.length → ∃ q : Option Addr × Nat × List (BitVec 8), ∃ u d, ys[i]? = some u ∧ el[i]? = some d ∧ u = .slice q.1 q.2.2.length q.2.1 ∧ View (fun w => Mem W w []) q.1 q.2.2.length q.2.1 1 (u8s q.2.2) ∧ q.2.2.length ≤ 140737488351232 ∧ ∃ el2 sp2, Els d el2 sp2 ∧ el2.length = q.2.2.length := fun i hi => by
    have hu : ys[i]? = some ys[i] := List.getElem?_eq_getElem hi
    have hd : el[i]? = some (el[i]'(by omega)) := List.getElem?_eq_getElem (by omega)
    obtain ⟨n, ps', hr⟩ := h10 i _ _ hu hd
    obtain ⟨A', c', x, e1, e2', e3, e4⟩ := reads_bs he he2 hs hb hr (hw.2 _ (List.mem_of_getElem? hd))
    exact ⟨(A', c', x), _, _, hu, hd, e1, e2', e3, e4⟩
  obtain ⟨qs, hlen, hq⟩ := list_of ys.length hall
  have hcells : qs.flatMap (fun q => [Value.slice q.1 q.2.2.length q.2.1]) = ys := by
    rw [flat1]
    apply List.ext_getElem?
    intro i
    rcases Nat.lt_or_ge i ys.length with hi | hi
    · have hqi : qs[i]? = some (qs[i]'(by omega)) := List.getElem?_eq_getElem (by omega)
      obtain ⟨u, d, e1, _, e3, _⟩ := hq i _ hqi
      rw [List.getElem?_map, hqi, e1, e3]; rfl
    · rw [List.getElem?_eq_none (by simp; omega), List.getElem?_eq_none hi]
  rw [flat1, List.map_id'] at h6
  have hmem : ∀ q ∈ qs, View (fun w => Mem W w []) q.1 q.2.2.length q.2.1 1 (u8s q.2.2) ∧ q.2.2.length ≤ 140737488351232 := fun q hqm => by
    obtain ⟨i, hi⟩ := List.getElem?_of_mem hqm
    obtain ⟨u, d, _, _, _, e4, e5, _⟩ := hq i q hi
    exact ⟨e4, e5⟩
  have hc : cap * 24 ≤ 140737488351232 := by simpa [reachBytes] using hw.1
  refine ⟨A, cap, ys, qs.map (·.2.2), el, sp, by rw [List.length_map, hlen]; exact h1, View.of_rd h6 (by simp [hlen]) (by simp [hlen]; omega) (by omega), ?_, h7, by simp [hlen, h8], by simp [hlen]; omega, fun x hx => ?_, fun i x d hx hd => ?_⟩
  · have := Reps.of_list (R := BsRd (fun w => Mem W w [])) (fun q : Option Addr × Nat × List (BitVec 8) => [Value.slice q.1 q.2.2.length q.2.1]) (fun q => q.2.2) qs (fun q hqm => ⟨q.1, q.2.1, rfl, (hmem q hqm).1⟩)
    rwa [hcells] at this
  · obtain ⟨q, hqm, rfl⟩ := List.mem_map.1 hx
    exact (hmem q hqm).2
  · rw [List.getElem?_map] at hx
    obtain ⟨q, hqi, rfl⟩ := Option.map_eq_some_iff.1 hx
    obtain ⟨u, d', _, e2', _, _, _, e6⟩ := hq i q hqi
    obtain rfl : d = d' := Option.some.inj (hd.symm.trans e2')
    exact e6
end
end Go.Fw

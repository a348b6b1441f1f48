/- Part of a proof over Ytgdohhccpghofaa: rules and contracts that the law's text uses. No condition. -/
import Derived.Test.YtgdohhccpghofaaFw10
namespace Go.Fw
open Go Go.RowKit Go.Deep Go.WideShapes
set_option linter.unusedVariables false
/-! Arguments that are arrays, or lists of arrays. -/
section
variable {H : Type} {enc : TypeId × Value → H} {P : Program} {W : World} {t e : TypeId} {v : Value}
theorem okWide_agg {n : Nat} {b0 : Nat} (ht : P.underlying t = some (.array n e)) (h : Value.okWide P W .any b0 t v) : ∃ xs : Array Value, v = .agg xs := by
  simp only [Value.okWide, ht] at h
  obtain ⟨cs, h1, _⟩ := h
  exact ⟨cs, h1⟩
theorem okWide_st {fs : Array Field} {b0 : Nat} (ht : P.underlying t = some (.struct fs)) (h : Value.okWide P W .any b0 t v) : ∃ xs : Array Value, v = .agg xs := by
  simp only [Value.okWide, ht] at h
  obtain ⟨cs, h1, _⟩ := h
  exact ⟨cs, h1⟩
/-- An array of cells, read. -/
theorem reads_arr {α : Type} (f : α → Value) {n : Nat} (ht : P.underlying t = some (.array n e)) (hs : P.cellsOf e = 1) (hct : P.cellsOf t = n)
    (hel : ∀ m c r, reads enc P W m e [c] = some r → ∃ x : α, c = f x) {fuel : Nat} {cs : List Value} {r : DataW H × List MemPlace} (h : reads enc P W fuel t cs = some r) : ∃ xs : List α, cs = xs.map f ∧ xs.length = n := by
  cases fuel with
  | zero => simp [reads, DataW.trod] at h
  | succ fuel =>
    simp only [reads, DataW.trod, ht, hs, hct, Nat.mul_one] at h
    split at h
    · rename_i hl
      obtain ⟨ys, hm, _⟩ := Option.map_eq_some_iff.1 h
      obtain ⟨xs, hlen, hx⟩ := list_of (Q := fun i x => cs[i]? = some (f x)) n (fun i hi => by
        have h1 := (mapM_some_get _ _ _ hm).2 i i (by rw [List.getElem?_range hi])
        have h2 : (cs.drop i).take 1 = [cs[i]] := by rw [List.drop_eq_getElem_cons (by omega)]; rfl
        rw [h2] at h1
        have hy : i < ys.length := by rw [(mapM_some_get _ _ _ hm).1, List.length_range]; exact hi
        rw [List.getElem?_eq_getElem hy] at h1
        obtain ⟨x, hx⟩ := hel fuel _ _ h1
        exact ⟨x, by rw [List.getElem?_eq_getElem (by omega), hx]⟩)
      refine ⟨xs, ?_, hlen⟩
      apply List.ext_getElem?
      intro i
      by_cases hi : i < n
      · rw [List.getElem?_map, List.getElem?_eq_getElem (by omega), List.getElem?_eq_getElem (by omega)]
        have h3 := hx i xs[i] (List.getElem?_eq_getElem (by omega))
        rw [List.getElem?_eq_getElem (by omega)] at h3
        exact h3
      · rw [List.getElem?_eq_none (by omega), List.getElem?_eq_none (by rw [List.length_map]; omega)]
    · cases h
theorem reads_arr8 {n : Nat} (ht : P.underlying t = some (.array n e)) (he : P.underlying e = some (.int .u8)) (hs : P.cellsOf e = 1) (hct : P.cellsOf t = n) {fuel : Nat} {cs : List Value} {r : DataW H × List MemPlace} (h : reads enc P W fuel t cs = some r) : ∃ xs : List (BitVec 8), cs = u8s xs ∧ xs.length = n :=
  reads_arr U8 ht hs hct (fun m c r hr => by
    obtain ⟨x, e⟩ := reads_u8 he hr
    exact ⟨x, by simpa using e⟩) h
theorem reads_arr64 {n : Nat} (ht : P.underlying t = some (.array n e)) (he : P.underlying e = some (.int .u64)) (hs : P.cellsOf e = 1) (hct : P.cellsOf t = n) {fuel : Nat} {cs : List Value} {r : DataW H × List MemPlace} (h : reads enc P W fuel t cs = some r) : ∃ xs : List (BitVec 64), cs = u64s xs ∧ xs.length = n :=
  reads_arr U64 ht hs hct (fun m c r hr => by
    obtain ⟨x, e⟩ := reads_u64 he hr
    exact ⟨x, by simpa using e⟩) h
theorem reads_arr32 {n : Nat} (ht : P.underlying t = some (.array n e)) (he : P.underlying e = some (.int .u32)) (hs : P.cellsOf e = 1) (hct : P.cellsOf t = n) {fuel : Nat} {cs : List Value} {r : DataW H × List MemPlace} (h : reads enc P W fuel t cs = some r) : ∃ xs : List (BitVec 32), cs = u32s xs ∧ xs.length = n :=
  reads_arr U32 ht hs hct (fun m c r hr => by
    obtain ⟨x, e⟩ := reads_u32 he hr
    exact ⟨x, by simpa using e⟩) h
theorem arg_arr8 {n : Nat} (ht : P.underlying t = some (.array n e)) (he : P.underlying e = some (.int .u8)) (hs : P.cellsOf e = 1) (hct : P.cellsOf t = n) {b0 : Nat} (hval : Value.okWide P W .any b0 t v) {d : DataW H} {ps : List MemPlace} (h : DataW.Trod enc P W 0 (fun _ => true) true t v d ps) : ∃ xs : List (BitVec 8), v = .agg (u8s xs).toArray ∧ xs.length = n := by
  obtain ⟨cs, rfl⟩ := okWide_agg ht hval
  obtain ⟨fuel, hf⟩ := h
  obtain ⟨xs, e, hl⟩ := reads_arr8 ht he hs hct (r := (d, ps)) (by simpa [Value.cells] using hf)
  exact ⟨xs, by rw [← e], hl⟩
theorem arg_arr64 {n : Nat} (ht : P.underlying t = some (.array n e)) (he : P.underlying e = some (.int .u64)) (hs : P.cellsOf e = 1) (hct : P.cellsOf t = n) {b0 : Nat} (hval : Value.okWide P W .any b0 t v) {d : DataW H} {ps : List MemPlace} (h : DataW.Trod enc P W 0 (fun _ => true) true t v d ps) : ∃ xs : List (BitVec 64), v = .agg (u64s xs).toArray ∧ xs.length = n := by
  obtain ⟨cs, rfl⟩ := okWide_agg ht hval
  obtain ⟨fuel, hf⟩ := h
  obtain ⟨xs, e, hl⟩ := reads_arr64 ht he hs hct (r := (d, ps)) (by simpa [Value.cells] using hf)
  exact ⟨xs, by rw [← e], hl⟩
theorem arg_arr32 {n : Nat} (ht : P.underlying t = some (.array n e)) (he : P.underlying e = some (.int .u32)) (hs : P.cellsOf e = 1) (hct : P.cellsOf t = n) {b0 : Nat} (hval : Value.okWide P W .any b0 t v) {d : DataW H} {ps : List MemPlace} (h : DataW.Trod enc P W 0 (fun _ => true) true t v d ps) : ∃ xs : List (BitVec 32), v = .agg (u32s xs).toArray ∧ xs.length = n := by
  obtain ⟨cs, rfl⟩ := okWide_agg ht hval
  obtain ⟨fuel, hf⟩ := h
  obtain ⟨xs, e, hl⟩ := reads_arr32 ht he hs hct (r := (d, ps)) (by simpa [Value.cells] using hf)
  exact ⟨xs, by rw [← e], hl⟩
/-- A list of arrays of bytes. -/
theorem arg_arrs8 {n eb : Nat} {e2 : TypeId} (ht : P.underlying t = some (.slice e)) (he : P.underlying e = some (.array n e2)) (he2 : P.underlying e2 = some (.int .u8)) (hs2 : P.cellsOf e2 = 1) (hs : P.cellsOf e = n) (hpos : 0 < n) (hb : P.bytesOf e = eb) {b0 : Nat} (hval : Value.okWide P W .any b0 t v) {d : DataW H} {ps : List MemPlace} (h : DataW.Trod enc P W 0 (fun _ => true) true t v d ps) (hz : Fits P t d) :
    ∃ (A : Option Addr) (cap : Nat) (xs : List (List (BitVec 8))) (el sp : List (DataW H)), v = .slice A xs.length cap ∧ xs.length ≤ cap ∧ (A = none → cap = 0) ∧ Rd W A (xs.flatMap u8s) ∧ Els d el sp ∧ el.length = xs.length ∧ el.length + sp.length = cap ∧ cap * eb ≤ 140737488351232 ∧ ∀ x ∈ xs, x.length = n := by
  obtain ⟨A, cap, xs, el, sp, h1, h2, h3, h4, h5, h6, h7, h8, h9, h10⟩ := arg_slice (α := List (BitVec 8)) u8s (fun x _ => x.length = n) n ht hs hpos (fun m cs r _ hr => by
    obtain ⟨x, rfl, hl⟩ := reads_arr8 he he2 hs2 hs hr; exact ⟨x, rfl, hl⟩) hval h
  have := (hz.slice ht h7).1
  rw [hb, h9] at this
  refine ⟨A, cap, xs, el, sp, h1, h2, h4, h6, h7, h8, h9, by simpa [reachBytes] using this, fun x hx => ?_⟩
  obtain ⟨i, hi⟩ := List.getElem?_of_mem hx
  have hlt := (List.getElem?_eq_some_iff.1 hi).1
  exact h10 i x (el[i]'(by omega)) hi (by simp)
end
theorem u32s_set' (l : List (BitVec 32)) (i : Nat) (v : BitVec 32) : (u32s l).set i (U32 v) = u32s (l.set i v) := by simp [u32s, List.map_set]
theorem u64s_set' (l : List (BitVec 64)) (i : Nat) (v : BitVec 64) : (u64s l).set i (U64 v) = u64s (l.set i v) := by simp [u64s, List.map_set]
section
variable {P : Program} [Types P] {n : Nat} {ops : Array Oper} {Q : Exit → Act → World → Prop} {w0 : World} {L : Slots} {M : List Ent} {rest : List Oper} {t e ty1 : TypeId} {pos : String} {aft : Array Edge} {d : Nat} {x y : Operand} {v : Value}
/-- append(x, y) where y is a new slice of one element, which nobody asks for again. -/
theorem OW.app1 {i : TI} {z : Value} {ob : Option Nat} {b len cap : Nat} {l r : List Value} (hx : ev L x = some (sl ob 0 len cap)) (hy : ev L y = some (sl (some b) 0 1 1)) (h1 : v.oneCell' = true) (ht : tyU P t = some (.slice e)) (hi : ty P e = some i) (hs : i.sz = 1) (hz : i.z.cells = #[z])
    (hl : l.length = len) (hr : (l ++ r).length = cap) (hn : ob = none → cap = 0) (h63 : len + 1 ≤ 9223372036854775807) (hb : (len + 1) * i.bytes ≤ 140737488355328) (hd : Nat.blt d n = true)
    (k : ∀ (ob' : Option Nat) (r' : List Value) (cap' : Nat), (l ++ [v] ++ r').length = cap' → (ob' = none → cap' = 0) → OW P n ops Q w0 rest ((d, sl ob' 0 (len + 1) cap') :: L) ((ob', blk (l ++ [v] ++ r') e) :: M)) :
    OW P n ops Q w0 (⟨some d, .call ⟨.builtin .append, #[x, y], #[t, t]⟩, ty1, pos, aft, none⟩ :: rest) L ((some b, blk [v] e) :: (ob, blk (l ++ r) e) :: M) := by
  refine OW.rot1 (OW.append (P := P) (vs := [v]) (s := 1) hx hy ht hi hs ht (by omega) (by omega) hn ?_ rfl (fun u hu => by simp at hu; exact hu ▸ h1) (fun h => nomatch h) (by omega) h63 hb (by rw [hz]; rfl) hd (fun ob' r' cap' h2 h3 => ?_))
  · intro w m
    exact m.rdl (List.Mem.tail _ (List.Mem.head _)) (fun h => nomatch h)
  · exact OW.drop1 (k ob' r' cap' (by omega) h3)
end
end Go.Fw

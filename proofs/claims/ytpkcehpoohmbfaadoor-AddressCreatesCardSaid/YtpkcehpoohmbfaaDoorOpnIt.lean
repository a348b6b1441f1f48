/- Part of a proof: rules that its law uses. -/
import Derived.Test.YtpkcehpoohmbfaaDoorOpnI
namespace Go.Fw
open Go Go.RowKit Go.Deep Go.WideShapes
set_option linter.unusedVariables false
section
variable {H : Type} {enc : TypeId × Value → H} {P : Program} {W : World}
structure ItTypes (P : Program) (tI tS tB t8 tL : TypeId) where
  fs : Array Field
  f0 : Field
  f1 : Field
  f2 : Field
  hI : P.underlying tI = some (.struct fs)
  h0 : fs[0]? = some f0
  h1 : fs[1]? = some f1
  h2 : fs[2]? = some f2
  o0 : f0.offset = 0
  o1 : f1.offset = 1
  o2 : f2.offset = 2
  y0 : f0.type = tL
  y1 : f1.type = tB
  y2 : f2.type = tS
  uL : P.underlying tL = some .bool
  uB : P.underlying tB = some (.slice t8)
  u8 : P.underlying t8 = some (.int .u8)
  uS : P.underlying tS = some (.slice tI)
  cL : P.cellsOf tL = 1
  cB : P.cellsOf tB = 1
  cS : P.cellsOf tS = 1
  c8 : P.cellsOf t8 = 1
  cI : P.cellsOf tI = 3
  b8 : P.bytesOf t8 = 1
  bI : P.bytesOf tI = 56
theorem els_size {d : DataW H} {el sp : List (DataW H)} (h : Els d el sp) {x : DataW H} (hx : x ∈ el) : SizeOf.sizeOf x < SizeOf.sizeOf d := by
  rcases h with ⟨_, rfl, _⟩ | rfl
  · cases hx
  · have := List.sizeOf_lt_of_mem hx
    simp only [DataW.slice.sizeOf_spec]
    omega
theorem items_view {tI tS tB t8 tL : TypeId} (T : ItTypes P tI tS tB t8 tL) {n : Nat} {u : Value} {r : DataW H × List MemPlace} (h : reads enc P W n tS [u] = some r) (hz : Fits P tS r.1)
    (ih : ∀ d, SizeOf.sizeOf d < SizeOf.sizeOf r.1 → ∀ n cs ps, cs.length = 3 → reads enc P W n tI cs = some (d, ps) → Fits P tI d → ∃ it, ItRd (fun w => Mem W w []) cs it) :
    ∃ (A : Option Addr) (cap : Nat) (cells : List Value) (its : List It), u = .slice A its.length cap ∧ View (fun w => Mem W w []) A its.length cap 3 cells ∧ Reps (ItRd (fun w => Mem W w [])) cells its ∧ its.length * 56 ≤ 140737488351232 := by
  obtain ⟨A, cap, ys, el, sp, h1, h2, h3, h4, h5, h6, h7, h8, h9, h10⟩ := cells_of_slice (α := List Value) (fun u => u) (fun cs d => ∃ n ps, cs.length = 3 ∧ reads enc P W n tI cs = some (d, ps)) 3 T.cI (by omega) (fun n cs r hl hr => ⟨cs, rfl, n, r.2, hl, hr⟩) T.uS h
  have hw := hz.slice T.uS h7
  rw [T.bI, h9] at hw
  obtain ⟨its, hlen, hq⟩ := list_of (Q := fun i it => ∃ cs, ys[i]? = some cs ∧ ItRd (fun w => Mem W w []) cs it) ys.length (fun i hi => by
    have hu : ys[i]? = some ys[i] := List.getElem?_eq_getElem hi
    have hd : el[i]? = some (el[i]'(by omega)) := List.getElem?_eq_getElem (by omega)
    obtain ⟨n, ps', hl, hr⟩ := h10 i _ _ hu hd
    have hm := List.mem_of_getElem? hd
    obtain ⟨it, hit⟩ := ih _ (els_size h7 hm) n _ ps' hl hr (hw.2 _ hm)
    exact ⟨it, _, hu, hit⟩)
  have hreps : ∀ (ys : List (List Value)) (its : List It), its.length = ys.length → (∀ (i : Nat) (it : It), its[i]? = some it → ∃ cs, ys[i]? = some cs ∧ ItRd (fun w => Mem W w []) cs it) → Reps (ItRd (fun w => Mem W w [])) (ys.flatMap fun u => u) its := by
    intro ys
    induction ys with
    | nil => intro its hl _; cases its with | nil => exact .nil | cons _ _ => simp at hl
    | cons y ys ih =>
      intro its hl hq
      cases its with
      | nil => simp at hl
      | cons it its =>
        obtain ⟨cs, e1, e2⟩ := hq 0 it rfl
        simp at e1
        subst e1
        rw [List.flatMap_cons]
        exact .cons e2 (ih its (by simpa using hl) (fun i x hx => by simpa using hq (i + 1) x (by simpa using hx)))
  have hc : cap * 56 ≤ 140737488351232 := by simpa [reachBytes] using hw.1
  have hR := hreps ys its hlen hq
  refine ⟨A, cap, _, its, by rw [hlen]; exact h1, View.of_rd h6 (hR.len ItRd.len) (by omega) (by omega), hR, by omega⟩
theorem reads_it {tI tS tB t8 tL : TypeId} (T : ItTypes P tI tS tB t8 tL) : ∀ (k : Nat) (d : DataW H), SizeOf.sizeOf d ≤ k → ∀ n cs ps, cs.length = 3 → reads enc P W n tI cs = some (d, ps) → Fits P tI d → ∃ it, ItRd (fun w => Mem W w []) cs it := by
  intro k
  induction k with
  | zero => intro d hd; have : 0 < SizeOf.sizeOf d := by cases d <;> simp <;> omega
            omega
  | succ k ih =>
    intro d hd n cs ps hl hr hz
    obtain ⟨xs, m, hn, hx, hcl, hxl, hf⟩ := DataW.trod_struct T.hI hr
    obtain ⟨c0, c1, c2, rfl⟩ : ∃ a b c, cs = [a, b, c] := by
      match cs, hl with
      | [a, b, c], _ => exact ⟨a, b, c, rfl⟩
    have g0 := hf 0 T.f0 T.h0
    have g1 := hf 1 T.f1 T.h1
    have g2 := hf 2 T.f2 T.h2
    rw [T.o0, T.y0, T.cL] at g0
    rw [T.o1, T.y1, T.cB] at g1
    rw [T.o2, T.y2, T.cS] at g2
    simp only [List.drop_zero, List.drop_succ_cons, List.take_succ_cons, List.take_zero] at g0 g1 g2
    have hsz : 2 < T.fs.size := (Array.getElem?_eq_some_iff.1 T.h2).1
    obtain ⟨x0, e0⟩ : ∃ x, xs[0]? = some x := ⟨_, List.getElem?_eq_getElem (by omega)⟩
    obtain ⟨x1, e1⟩ : ∃ x, xs[1]? = some x := ⟨_, List.getElem?_eq_getElem (by omega)⟩
    obtain ⟨x2, e2⟩ : ∃ x, xs[2]? = some x := ⟨_, List.getElem?_eq_getElem (by omega)⟩
    rw [e0] at g0; rw [e1] at g1; rw [e2] at g2
    obtain ⟨b, hb, _⟩ := DataW.trod_bool T.uL g0
    simp at hb
    subst hb
    have hd2 : d = .agg (xs.map (·.1)) := congrArg Prod.fst hx
    subst hd2
    have hz1 : Fits P tB x1.1 := by have := Fits.struct T.hI hz T.h1 (d := x1.1) (by simp [e1]); rwa [T.y1] at this
    have hz2 : Fits P tS x2.1 := by have := Fits.struct T.hI hz T.h2 (d := x2.1) (by simp [e2]); rwa [T.y2] at this
    obtain ⟨A, cap, x, rfl, hv, _⟩ := reads_bs T.uB T.u8 T.c8 T.b8 g1 hz1
    have hs2 : SizeOf.sizeOf x2.1 < SizeOf.sizeOf (DataW.agg (xs.map (·.1))) := by
      have hm : x2.1 ∈ xs.map (·.1) := List.mem_map.2 ⟨x2, List.mem_of_getElem? e2, rfl⟩
      have := List.sizeOf_lt_of_mem hm
      simp only [DataW.agg.sizeOf_spec]
      omega
    obtain ⟨B, e, cells, its, rfl, hv2, hR, _⟩ := items_view T g2 hz2 (fun d' hd' n' cs' ps' hl' hr' hz' => ih d' (by omega) n' cs' ps' hl' hr' hz')
    exact ⟨.mk b x its, .mk hv hv2 hR⟩
theorem arg_it {tI tS tB t8 tL : TypeId} (T : ItTypes P tI tS tB t8 tL) {b0 : Nat} {v : Value} (hval : Value.okWide P W .any b0 tI v) {d : DataW H} {ps : List MemPlace} (h : DataW.Trod enc P W 0 (fun _ => true) true tI v d ps) (hz : Fits P tI d) :
    ∃ (cs : List Value) (it : It), v = .agg cs.toArray ∧ ItRd (fun w => Mem W w []) cs it := by
  obtain ⟨xs, rfl⟩ := okWide_st T.hI hval
  obtain ⟨fuel, hf⟩ := h
  have hr : reads enc P W fuel tI xs.toList = some (d, ps) := by simpa [Value.cells] using hf
  obtain ⟨_, _, _, _, hcl, _⟩ := DataW.trod_struct T.hI hr
  rw [T.cI] at hcl
  obtain ⟨it, hit⟩ := reads_it T _ d (Nat.le_refl _) fuel xs.toList ps hcl hr hz
  exact ⟨xs.toList, it, by simp, hit⟩
theorem arg_its {tI tS tB t8 tL : TypeId} (T : ItTypes P tI tS tB t8 tL) {b0 : Nat} {v : Value} (hval : Value.okWide P W .any b0 tS v) {d : DataW H} {ps : List MemPlace} (h : DataW.Trod enc P W 0 (fun _ => true) true tS v d ps) (hz : Fits P tS d) :
    ∃ (A : Option Addr) (cap : Nat) (cells : List Value) (its : List It), v = .slice A its.length cap ∧ View (fun w => Mem W w []) A its.length cap 3 cells ∧ Reps (ItRd (fun w => Mem W w [])) cells its ∧ its.length * 56 ≤ 140737488351232 := by
  obtain ⟨a, l, c, rfl⟩ := okWide_slice T.uS hval
  obtain ⟨fuel, hf⟩ := h
  have hr : reads enc P W fuel tS [.slice a l c] = some (d, ps) := by simpa [Value.cells] using hf
  exact items_view T hr hz (fun d' _ n cs ps' hl hr' hz' => reads_it T _ d' (Nat.le_refl _) n cs ps' hl hr' hz')
end
end Go.Fw

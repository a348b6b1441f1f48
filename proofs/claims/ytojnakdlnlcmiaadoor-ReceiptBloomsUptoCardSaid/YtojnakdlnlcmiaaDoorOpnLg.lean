/- Part of a proof: rules that its law uses. -/
import Derived.Test.YtojnakdlnlcmiaaDoorOpnI
import Derived.Test.YtojnakdlnlcmiaaDoorRcL
import Derived.Test.YtojnakdlnlcmiaaDoorOpnM
namespace Go.Fw
open Go Go.RowKit Go.Deep Go.WideShapes
set_option linter.unusedVariables false
structure BulkFn {H : Type} (ub : DataW H → Nat) (uba : List (DataW H) → Nat) : Prop where
  h0 : uba [] = 0
  h1 : ∀ d r, uba (d :: r) = ub d + uba r
  hs : ∀ el sp, ub (.slice el sp) = uba el + uba sp + 1
  ha : ∀ l, ub (.agg l) = uba l + 1
  hp : ∀ d : DataW H, 1 ≤ ub d
namespace BulkFn
variable {H : Type} {ub : DataW H → Nat} {uba : List (DataW H) → Nat} (B : BulkFn ub uba)
include B
theorem mem {d : DataW H} : ∀ {l : List (DataW H)}, d ∈ l → ub d ≤ uba l
  | x :: l, h => by
    rw [B.h1]
    rcases List.mem_cons.1 h with rfl | h
    · omega
    · have := mem h; omega
theorem els {d : DataW H} {el sp : List (DataW H)} (h : Els d el sp) : uba el ≤ ub d := by
  rcases h with ⟨_, rfl, _⟩ | rfl
  · rw [B.h0]; omega
  · rw [B.hs]; omega
theorem len {d : DataW H} {el sp : List (DataW H)} (h : Els d el sp) : el.length ≤ ub d := bulk_len ub uba B.h0 B.h1 B.hs B.hp h
theorem sum {α : Type} (f : α → Nat) : ∀ (xs : List α) (el : List (DataW H)), el.length = xs.length → (∀ (i : Nat) x d, xs[i]? = some x → el[i]? = some d → f x ≤ ub d) → (xs.map f).sum ≤ uba el
  | [], el, hl, h => by simp
  | x :: xs, [], hl, h => by simp at hl
  | x :: xs, d :: el, hl, h => by
    rw [List.map_cons, List.sum_cons, B.h1]
    have h1 := h 0 x d rfl rfl
    have h2 := sum f xs el (by simpa using hl) (fun i y e hy he => h (i + 1) y e (by simpa using hy) (by simpa using he))
    omega
end BulkFn
section
variable {H : Type} {enc : TypeId × Value → H} {P : Program} {W : World} {t e e2 : TypeId}
theorem reads_hs {n : Nat} (ht : P.underlying t = some (.slice e)) (he : P.underlying e = some (.array n e2)) (he2 : P.underlying e2 = some (.int .u8)) (hs2 : P.cellsOf e2 = 1) (hs : P.cellsOf e = n) (hpos : 0 < n) (hb : P.bytesOf e = n) {m : Nat} {u : Value} {r : DataW H × List MemPlace} (h : reads enc P W m t [u] = some r) (hz : Fits P t r.1) :
    ∃ (A : Option Addr) (cap : Nat) (cells : List Value) (xs : List (Vector (BitVec 8) n)), u = .slice A xs.length cap ∧ View (fun w => Mem W w []) A xs.length cap n cells ∧ Reps (Ar8Rd (fun w => Mem W w [])) cells xs ∧ (∃ el sp, Els r.1 el sp ∧ el.length = xs.length) ∧ xs.length * n ≤ 140737488351232 := by
  obtain ⟨A, cap, xs, el, sp, h1, h2, h3, h4, h5, h6, h7, h8, h9, h10⟩ := cells_of_slice (α := Vector (BitVec 8) n) (fun x => u8s x.toList) (fun _ _ => True) n hs hpos (fun k cs r hl hr => by
    obtain ⟨x, rfl, hl⟩ := reads_arr8 he he2 hs2 hs hr
    exact ⟨⟨x.toArray, by simpa using hl⟩, rfl, trivial⟩) ht h
  have hw := (hz.slice ht h7).1
  rw [hb, h9] at hw
  have hc : cap * n ≤ 140737488351232 := by simpa [reachBytes] using hw
  have hle : xs.length * n ≤ cap * n := Nat.mul_le_mul_right n h2
  have hcap : cap ≤ cap * n := Nat.le_mul_of_pos_right _ hpos
  have hlen : ∀ l : List (Vector (BitVec 8) n), (l.flatMap fun x => u8s x.toList).length = l.length * n := fun l => by
    induction l with
    | nil => simp
    | cons x l ih => rw [List.flatMap_cons, List.length_append, ih, u8s_length, Vector.length_toList, List.length_cons, Nat.add_mul]; omega
  refine ⟨A, cap, _, xs, h1, View.of_rd h6 (hlen xs) h2 (by omega), ?_, ⟨el, sp, h7, h8⟩, by omega⟩
  have := Reps.of_list (R := Ar8Rd (n := n) (fun w => Mem W w [])) (fun x : Vector (BitVec 8) n => u8s x.toList) (fun x => x) xs (fun x _ => rfl)
  rwa [List.map_id'] at this
structure LogTypes (P : Program) (tL tA tS tH tB t8 : TypeId) where
  fs : Array Field
  f0 : Field
  f1 : Field
  f2 : Field
  hL : P.underlying tL = some (.struct fs)
  h0 : fs[0]? = some f0
  h1 : fs[1]? = some f1
  h2 : fs[2]? = some f2
  o0 : f0.offset = 0
  o1 : f1.offset = 20
  o2 : f2.offset = 21
  y0 : f0.type = tA
  y1 : f1.type = tS
  y2 : f2.type = tB
  uA : P.underlying tA = some (.array 20 t8)
  uS : P.underlying tS = some (.slice tH)
  uH : P.underlying tH = some (.array 32 t8)
  uB : P.underlying tB = some (.slice t8)
  u8 : P.underlying t8 = some (.int .u8)
  cA : P.cellsOf tA = 20
  cS : P.cellsOf tS = 1
  cH : P.cellsOf tH = 32
  cB : P.cellsOf tB = 1
  c8 : P.cellsOf t8 = 1
  cL : P.cellsOf tL = 22
  b8 : P.bytesOf t8 = 1
  bH : P.bytesOf tH = 32
  bL : P.bytesOf tL = 72
def LogD (d : DataW H) (x : Log) : Prop := ∃ ds d1 el sp, d = .agg ds ∧ d1 ∈ ds ∧ Els d1 el sp ∧ el.length = x.topics.length
theorem LogD.bulk {ub : DataW H → Nat} {uba : List (DataW H) → Nat} (B : BulkFn ub uba) {d : DataW H} {x : Log} (h : LogD d x) : x.topics.length + 1 ≤ ub d := by
  obtain ⟨ds, d1, el, sp, rfl, hm, he, hl⟩ := h
  have h1 := B.len he
  have h2 := B.mem hm
  rw [B.ha]
  omega
variable {tL tA tS tH tB t8 : TypeId}
theorem reads_log (T : LogTypes P tL tA tS tH tB t8) {n : Nat} {cs : List Value} {d : DataW H} {ps : List MemPlace} (hl : cs.length = 22) (hr : reads enc P W n tL cs = some (d, ps)) (hz : Fits P tL d) :
    ∃ x : Log, LogRd (fun w => Mem W w []) cs x ∧ LogD d x ∧ x.topics.length * 32 ≤ 140737488351232 ∧ x.data.length ≤ 140737488351232 := by
  obtain ⟨xs, m, hn, hx, hcl, hxl, hf⟩ := DataW.trod_struct T.hL hr
  have g0 := hf 0 T.f0 T.h0
  have g1 := hf 1 T.f1 T.h1
  have g2 := hf 2 T.f2 T.h2
  rw [T.o0, T.y0, T.cA] at g0
  rw [T.o1, T.y1, T.cS] at g1
  rw [T.o2, T.y2, T.cB] at g2
  have hsz : 2 < T.fs.size := (Array.getElem?_eq_some_iff.1 T.h2).1
  obtain ⟨x0, e0⟩ : ∃ x, xs[0]? = some x := ⟨_, List.getElem?_eq_getElem (by omega)⟩
  obtain ⟨x1, e1⟩ : ∃ x, xs[1]? = some x := ⟨_, List.getElem?_eq_getElem (by omega)⟩
  obtain ⟨x2, e2⟩ : ∃ x, xs[2]? = some x := ⟨_, List.getElem?_eq_getElem (by omega)⟩
  rw [e0, List.drop_zero] at g0; rw [e1] at g1; rw [e2] at g2
  have hd2 : d = .agg (xs.map (·.1)) := congrArg Prod.fst hx
  subst hd2
  have hz1 : Fits P tS x1.1 := by have := Fits.struct T.hL hz T.h1 (d := x1.1) (by simp [e1]); rwa [T.y1] at this
  have hz2 : Fits P tB x2.1 := by have := Fits.struct T.hL hz T.h2 (d := x2.1) (by simp [e2]); rwa [T.y2] at this
  obtain ⟨ad, ea, la⟩ := reads_arr8 T.uA T.u8 T.c8 T.cA g0
  obtain ⟨u1, hu1⟩ : ∃ u, (cs.drop 20).take 1 = [u] := List.length_eq_one_iff.1 (by rw [List.length_take, List.length_drop]; omega)
  obtain ⟨u2, hu2⟩ : ∃ u, (cs.drop 21).take 1 = [u] := List.length_eq_one_iff.1 (by rw [List.length_take, List.length_drop]; omega)
  rw [hu1] at g1; rw [hu2] at g2
  obtain ⟨A1, c1, cells1, ts, rfl, v1, r1, ⟨el, sp, hel, hlen⟩, m1⟩ := reads_hs T.uS T.uH T.u8 T.c8 T.cH (by decide) T.bH g1 hz1
  obtain ⟨A2, c2, x, rfl, v2, m2, _⟩ := reads_bs T.uB T.u8 T.c8 T.b8 g2 hz2
  obtain ⟨av, rfl⟩ : ∃ v : Vector (BitVec 8) 20, ad = v.toList := ⟨⟨ad.toArray, by simpa using la⟩, rfl⟩
  have hcs : cs = (⟨av, .slice A1 ts.length c1, .slice A2 x.length c2⟩ : LogC).C := by
    have h1 : cs = cs.take 20 ++ ((cs.drop 20).take 1 ++ (cs.drop 21).take 1) := by
      have h2 : (cs.drop 21).take 1 = cs.drop 21 := List.take_of_length_le (by rw [List.length_drop]; omega)
      have h3 : cs.drop 21 = (cs.drop 20).drop 1 := by rw [List.drop_drop]
      rw [h2, h3, List.take_append_drop, List.take_append_drop]
    rw [h1, ea, hu1, hu2]
    rfl
  refine ⟨⟨av, ts, x⟩, ?_, ⟨_, x1.1, el, sp, rfl, List.mem_map.2 ⟨x1, List.mem_of_getElem? e1, rfl⟩, hel, hlen⟩, m1, m2⟩
  rw [hcs]
  exact LogRd.mk v1 r1 v2
theorem reads_logs {tLs : TypeId} (T : LogTypes P tL tA tS tH tB t8) (uL : P.underlying tLs = some (.slice tL)) {n : Nat} {u : Value} {r : DataW H × List MemPlace} (h : reads enc P W n tLs [u] = some r) (hz : Fits P tLs r.1) :
    ∃ (A : Option Addr) (cap : Nat) (cells : List Value) (xs : List Log) (el sp : List (DataW H)), u = .slice A xs.length cap ∧ View (fun w => Mem W w []) A xs.length cap 22 cells ∧ Reps (LogRd (fun w => Mem W w [])) cells xs ∧ Els r.1 el sp ∧ el.length = xs.length ∧ xs.length * 72 ≤ 140737488351232 ∧
      (∀ x ∈ xs, x.topics.length * 32 ≤ 140737488351232 ∧ x.data.length ≤ 140737488351232) ∧ ∀ (i : Nat) x d, xs[i]? = some x → el[i]? = some d → LogD d x := by
  obtain ⟨A, cap, ys, el, sp, h1, h2, h3, h4, h5, h6, h7, h8, h9, h10⟩ := cells_of_slice (α := List Value) (fun u => u) (fun cs d => ∃ n ps, cs.length = 22 ∧ reads enc P W n tL cs = some (d, ps)) 22 T.cL (by omega) (fun n cs r hl hr => ⟨cs, rfl, n, r.2, hl, hr⟩) uL h
  have hw := hz.slice uL h7
  rw [T.bL, h9] at hw
  obtain ⟨xs, hlen, hq⟩ := list_of (Q := fun i x => ∃ cs d, ys[i]? = some cs ∧ el[i]? = some d ∧ LogRd (fun w => Mem W w []) cs x ∧ LogD d x ∧ x.topics.length * 32 ≤ 140737488351232 ∧ x.data.length ≤ 140737488351232) ys.length (fun i hi => by
    have hu : ys[i]? = some ys[i] := List.getElem?_eq_getElem hi
    have hd : el[i]? = some (el[i]'(by omega)) := List.getElem?_eq_getElem (by omega)
    obtain ⟨n, ps', hl, hr⟩ := h10 i _ _ hu hd
    obtain ⟨x, e1, e2, e3, e4⟩ := reads_log T hl hr (hw.2 _ (List.mem_of_getElem? hd))
    exact ⟨x, _, _, hu, hd, e1, e2, e3, e4⟩)
  have hreps : ∀ (ys : List (List Value)) (xs : List Log), xs.length = ys.length → (∀ (i : Nat) (x : Log), xs[i]? = some x → ∃ cs, ys[i]? = some cs ∧ LogRd (fun w => Mem W w []) cs x) → Reps (LogRd (fun w => Mem W w [])) (ys.flatMap fun u => u) xs := by
    intro ys
    induction ys with
    | nil => intro its hl _; cases its with | nil => exact .nil | cons _ _ => simp at hl
    | cons y ys ih =>
      intro its hl hq
      cases its with
      | nil => simp at hl
      | cons it its =>
        obtain ⟨cs, e1, e2⟩ := hq 0 it rfl
        simp at e1
        subst e1
        rw [List.flatMap_cons]
        exact .cons e2 (ih its (by simpa using hl) (fun i x hx => by simpa using hq (i + 1) x (by simpa using hx)))
  have hc : cap * 72 ≤ 140737488351232 := by simpa [reachBytes] using hw.1
  have hR := hreps ys xs hlen (fun i x hx => by obtain ⟨cs, d, e1, _, e3, _⟩ := hq i x hx; exact ⟨cs, e1, e3⟩)
  refine ⟨A, cap, _, xs, el, sp, by rw [hlen]; exact h1, View.of_rd h6 (hR.len LogRd.len) (by omega) (by omega), hR, h7, by omega, by omega, fun x hx => ?_, fun i x d hx hd => ?_⟩
  · obtain ⟨i, hi⟩ := List.getElem?_of_mem hx
    obtain ⟨_, _, _, _, _, _, e5, e6⟩ := hq i x hi
    exact ⟨e5, e6⟩
  · obtain ⟨cs, d', _, e2', _, e4, _⟩ := hq i x hx
    obtain rfl : d = d' := Option.some.inj (hd.symm.trans e2')
    exact e4
theorem arg_logs {tLs : TypeId} (T : LogTypes P tL tA tS tH tB t8) (uL : P.underlying tLs = some (.slice tL)) {b0 : Nat} {v : Value} (hval : Value.okWide P W .any b0 tLs v) {d : DataW H} {ps : List MemPlace} (h : DataW.Trod enc P W 0 (fun _ => true) true tLs v d ps) (hz : Fits P tLs d) :
    ∃ (A : Option Addr) (cap : Nat) (cells : List Value) (xs : List Log) (el sp : List (DataW H)), v = .slice A xs.length cap ∧ View (fun w => Mem W w []) A xs.length cap 22 cells ∧ Reps (LogRd (fun w => Mem W w [])) cells xs ∧ Els d el sp ∧ el.length = xs.length ∧ xs.length * 72 ≤ 140737488351232 ∧
      (∀ x ∈ xs, x.topics.length * 32 ≤ 140737488351232 ∧ x.data.length ≤ 140737488351232) ∧ ∀ (i : Nat) x d, xs[i]? = some x → el[i]? = some d → LogD d x := by
  obtain ⟨a, l, c, rfl⟩ := okWide_slice uL hval
  obtain ⟨fuel, hf⟩ := h
  have hr : reads enc P W fuel tLs [.slice a l c] = some (d, ps) := by simpa [Value.cells] using hf
  exact reads_logs T uL hr hz
end
end Go.Fw

/- Part of a proof: rules that its law uses. -/
import Derived.Test.YtojnakdlnlcmiaaDoorT2
namespace Go.Fw
open Go Go.RowKit Go.Deep Go.WideShapes
set_option linter.unusedVariables false
section
variable {H : Type} {enc : TypeId × Value → H} {P : Program} {W : World} {t e e2 : TypeId}
theorem reads_hs {n : Nat} (ht : P.underlying t = some (.slice e)) (he : P.underlying e = some (.array n e2)) (he2 : P.underlying e2 = some (.int .u8)) (hs2 : P.cellsOf e2 = 1) (hs : P.cellsOf e = n) (hpos : 0 < n) (hb : P.bytesOf e = n) {m : Nat} {u : Value} {r : DataW H × List MemPlace} (h : reads enc P W m t [u] = some r) (hz : Fits P t r.1) :
    ∃ (A : Option Addr) (cap : Nat) (cells : List Value) (xs : List (Vector (BitVec 8) n)), u = .slice A xs.length cap ∧ View (fun w => Mem W w []) A xs.length cap n cells ∧ Reps (Ar8Rd (fun w => Mem W w [])) cells xs ∧ (∃ el sp, Els r.1 el sp ∧ el.length = xs.length) ∧ xs.length * n ≤ 140737488351232 := by
  obtain ⟨A, cap, xs, el, sp, h1, h2, h3, h4, h5, h6, h7, h8, h9, h10⟩ := cells_of_slice (α := Vector (BitVec 8) n) (fun x => u8s x.toList) (fun _ _ => True) n hs hpos (fun k cs r hl hr => by
    obtain ⟨x, rfl, hl⟩ := reads_arr8 he he2 hs2 hs hr
    exact ⟨⟨x.toArray, by simpa using hl⟩, rfl, trivial⟩) ht h
  have hw := (hz.slice ht h7).1
  rw [hb, h9] at hw
  have hc : cap * n ≤ 140737488351232 := by simpa [reachBytes] using hw
  have hle : xs.length * n ≤ cap * n := Nat.mul_le_mul_right n h2
  have hcap : cap ≤ cap * n := Nat.le_mul_of_pos_right _ hpos
  have hlen : ∀ l : List (Vector (BitVec 8) n), (l.flatMap fun x => u8s x.toList).length = l.length * n := fun l => by
    induction l with
    | nil => simp
    | cons x l ih => rw [List.flatMap_cons, List.length_append, ih, u8s_length, Vector.length_toList, List.length_cons, Nat.add_mul]; omega
  refine ⟨A, cap, _, xs, h1, View.of_rd h6 (hlen xs) h2 (by omega), ?_, ⟨el, sp, h7, h8⟩, by omega⟩
  have := Reps.of_list (R := Ar8Rd (n := n) (fun w => Mem W w [])) (fun x : Vector (BitVec 8) n => u8s x.toList) (fun x => x) xs (fun x _ => rfl)
  rwa [List.map_id'] at this
structure LogTypes (P : Program) (tL tA tS tH tB t8 : TypeId) where
  fs : Array Field
  f0 : Field
  f1 : Field
  f2 : Field
  hL : P.underlying tL = some (.struct fs)
  h0 : fs[0]? = some f0
  h1 : fs[1]? = some f1
  h2 : fs[2]? = some f2
  o0 : f0.offset = 0
  o1 : f1.offset = 20
  o2 : f2.offset = 21
  y0 : f0.type = tA
  y1 : f1.type = tS
  y2 : f2.type = tB
  uA : P.underlying tA = some (.array 20 t8)
  uS : P.underlying tS = some (.slice tH)
  uH : P.underlying tH = some (.array 32 t8)
  uB : P.underlying tB = some (.slice t8)
  u8 : P.underlying t8 = some (.int .u8)
  cA : P.cellsOf tA = 20
  cS : P.cellsOf tS = 1
  cH : P.cellsOf tH = 32
  cB : P.cellsOf tB = 1
  c8 : P.cellsOf t8 = 1
  cL : P.cellsOf tL = 22
  b8 : P.bytesOf t8 = 1
  bH : P.bytesOf tH = 32
  bL : P.bytesOf tL = 72
def LogD (d : DataW H) (x : Log) : Prop := ∃ ds d0 d1 d2 el sp el2 sp2, d = .agg (d0 :: d1 :: d2 :: ds) ∧ Els d1 el sp ∧ el.length = x.topics.length ∧ Els d2 el2 sp2 ∧ el2.length = x.data.length
theorem LogD.bulk2 {ub : DataW H → Nat} {uba : List (DataW H) → Nat} (B : BulkFn ub uba) {d : DataW H} {x : Log} (h : LogD d x) : x.topics.length + x.data.length + 1 ≤ ub d := by
  obtain ⟨ds, d0, d1, d2, el, sp, el2, sp2, rfl, he, hl, he2, hl2⟩ := h
  have h1 := B.len he
  have h2 := B.len he2
  rw [B.ha, B.h1, B.h1, B.h1]
  omega
theorem LogD.bulk {ub : DataW H → Nat} {uba : List (DataW H) → Nat} (B : BulkFn ub uba) {d : DataW H} {x : Log} (h : LogD d x) : x.topics.length + 1 ≤ ub d := by
  have := h.bulk2 B; omega
variable {tL tA tS tH tB t8 : TypeId}
theorem reads_log (T : LogTypes P tL tA tS tH tB t8) {n : Nat} {cs : List Value} {d : DataW H} {ps : List MemPlace} (hl : cs.length = 22) (hr : reads enc P W n tL cs = some (d, ps)) (hz : Fits P tL d) :
    ∃ x : Log, LogRd (fun w => Mem W w []) cs x ∧ LogD d x ∧ x.topics.length * 32 ≤ 140737488351232 ∧ x.data.length ≤ 140737488351232 := by
  obtain ⟨xs, m, hn, hx, hcl, hxl, hf⟩ := DataW.trod_struct T.hL hr
  have g0 := hf 0 T.f0 T.h0
  have g1 := hf 1 T.f1 T.h1
  have g2 := hf 2 T.f2 T.h2
  rw [T.o0, T.y0, T.cA] at g0
  rw [T.o1, T.y1, T.cS] at g1
  rw [T.o2, T.y2, T.cB] at g2
  have hsz : 2 < T.fs.size := (Array.getElem?_eq_some_iff.1 T.h2).1
  obtain ⟨x0, e0⟩ : ∃ x, xs[0]? = some x := ⟨_, List.getElem?_eq_getElem (by omega)⟩
  obtain ⟨x1, e1⟩ : ∃ x, xs[1]? = some x := ⟨_, List.getElem?_eq_getElem (by omega)⟩
  obtain ⟨x2, e2⟩ : ∃ x, xs[2]? = some x := ⟨_, List.getElem?_eq_getElem (by omega)⟩
  rw [e0, List.drop_zero] at g0; rw [e1] at g1; rw [e2] at g2
  have hd2 : d = .agg (xs.map (·.1)) := congrArg Prod.fst hx
  subst hd2
  have hz1 : Fits P tS x1.1 := by have := Fits.struct T.hL hz T.h1 (d := x1.1) (by simp [e1]); rwa [T.y1] at this
  have hz2 : Fits P tB x2.1 := by have := Fits.struct T.hL hz T.h2 (d := x2.1) (by simp [e2]); rwa [T.y2] at this
  obtain ⟨ad, ea, la⟩ := reads_arr8 T.uA T.u8 T.c8 T.cA g0
  obtain ⟨u1, hu1⟩ : ∃ u, (cs.drop 20).take 1 = [u] := List.length_eq_one_iff.1 (by rw [List.length_take, List.length_drop]; omega)
  obtain ⟨u2, hu2⟩ : ∃ u, (cs.drop 21).take 1 = [u] := List.length_eq_one_iff.1 (by rw [List.length_take, List.length_drop]; omega)
  rw [hu1] at g1; rw [hu2] at g2
  obtain ⟨A1, c1, cells1, ts, rfl, v1, r1, ⟨el, sp, hel, hlen⟩, m1⟩ := reads_hs T.uS T.uH T.u8 T.c8 T.cH (by decide) T.bH g1 hz1
  obtain ⟨A2, c2, x, rfl, v2, m2, el2, sp2, hel2, hlen2⟩ := reads_bs T.uB T.u8 T.c8 T.b8 g2 hz2
  obtain ⟨av, rfl⟩ : ∃ v : Vector (BitVec 8) 20, ad = v.toList := ⟨⟨ad.toArray, by simpa using la⟩, rfl⟩
  have hcs : cs = (⟨av, .slice A1 ts.length c1, .slice A2 x.length c2⟩ : LogC).C := by
    have h1 : cs = cs.take 20 ++ ((cs.drop 20).take 1 ++ (cs.drop 21).take 1) := by
      have h2 : (cs.drop 21).take 1 = cs.drop 21 := List.take_of_length_le (by rw [List.length_drop]; omega)
      have h3 : cs.drop 21 = (cs.drop 20).drop 1 := by rw [List.drop_drop]
      rw [h2, h3, List.take_append_drop, List.take_append_drop]
    rw [h1, ea, hu1, hu2]
    rfl
  have hD : LogD (H := H) (.agg (xs.map (·.1))) ⟨av, ts, x⟩ := by
    match xs, e0, e1, e2 with
    | [], e, _, _ => simp at e
    | [_], _, e, _ => simp at e
    | [_, _], _, _, e => simp at e
    | y0 :: y1 :: y2 :: r, _, e1, e2 =>
      simp at e1 e2
      subst e1 e2
      exact ⟨r.map (·.1), y0.1, _, _, el, sp, el2, sp2, rfl, hel, hlen, hel2, hlen2⟩
  refine ⟨⟨av, ts, x⟩, ?_, hD, m1, m2⟩
  rw [hcs]
  exact LogRd.mk v1 r1 v2
theorem reads_logs {tLs : TypeId} (T : LogTypes P tL tA tS tH tB t8) (uL : P.underlying tLs = some (.slice tL)) {n : Nat} {u : Value} {r : DataW H × List MemPlace} (h : reads enc P W n tLs [u] = some r) (hz : Fits P tLs r.1) :
    ∃ (A : Option Addr) (cap : Nat) (cells : List Value) (xs : List Log) (el sp : List (DataW H)), u = .slice A xs.length cap ∧ View (fun w => Mem W w []) A xs.length cap 22 cells ∧ Reps (LogRd (fun w => Mem W w [])) cells xs ∧ Els r.1 el sp ∧ el.length = xs.length ∧ xs.length * 72 ≤ 140737488351232 ∧
      (∀ x ∈ xs, x.topics.length * 32 ≤ 140737488351232 ∧ x.data.length ≤ 140737488351232) ∧ ∀ (i : Nat) x d, xs[i]? = some x → el[i]? = some d → LogD d x := by
  obtain ⟨A, cap, ys, el, sp, h1, h2, h3, h4, h5, h6, h7, h8, h9, h10⟩ := cells_of_slice (α := List Value) (fun u => u) (fun cs d => ∃ n ps, cs.length = 22 ∧ reads enc P W n tL cs = some (d, ps)) 22 T.cL (by omega) (fun n cs r hl hr => ⟨cs, rfl, n, r.2, hl, hr⟩) uL h
  have hw := hz.slice uL h7
  rw [T.bL, h9] at hw
  obtain ⟨xs, hlen, hq⟩ := list_of (Q := fun i x => ∃ cs d, ys[i]? = some cs ∧ el[i]? = some d ∧ LogRd (fun w => Mem W w []) cs x ∧ LogD d x ∧ x.topics.length * 32 ≤ 140737488351232 ∧ x.data.length ≤ 140737488351232) ys.length (fun i hi => by
    have hu : ys[i]? = some ys[i] := List.getElem?_eq_getElem hi
    have hd : el[i]? = some (el[i]'(by omega)) := List.getElem?_eq_getElem (by omega)
    obtain ⟨n, ps', hl, hr⟩ := h10 i _ _ hu hd
    obtain ⟨x, e1, e2, e3, e4⟩ := reads_log T hl hr (hw.2 _ (List.mem_of_getElem? hd))
    exact ⟨x, _, _, hu, hd, e1, e2, e3, e4⟩)
  have hreps : ∀ (ys : List (List Value)) (xs : List Log), xs.length = ys.length → (∀ (i : Nat) (x : Log), xs[i]? = some x → ∃ cs, ys[i]? = some cs ∧ LogRd (fun w => Mem W w []) cs x) → Reps (LogRd (fun w => Mem W w [])) (ys.flatMap fun u => u) xs := by
    intro ys
    induction ys with
    | nil => intro its hl _; cases its with | nil => exact .nil | cons _ _ => simp at hl
    | cons y ys ih =>
      intro its hl hq
      cases its with
      | nil => simp at hl
      | cons it its =>
        obtain ⟨cs, e1, e2⟩ := hq 0 it rfl
        simp at e1
        subst e1
        rw [List.flatMap_cons]
        exact .cons e2 (ih its (by simpa using hl) (fun i x hx => by simpa using hq (i + 1) x (by simpa using hx)))
  have hc : cap * 72 ≤ 140737488351232 := by simpa [reachBytes] using hw.1
  have hR := hreps ys xs hlen (fun i x hx => by obtain ⟨cs, d, e1, _, e3, _⟩ := hq i x hx; exact ⟨cs, e1, e3⟩)
  refine ⟨A, cap, _, xs, el, sp, by rw [hlen]; exact h1, View.of_rd h6 (hR.len LogRd.len) (by omega) (by omega), hR, h7, by omega, by omega, fun x hx => ?_, fun i x d hx hd => ?_⟩
  · obtain ⟨i, hi⟩ := List.getElem?_of_mem hx
    obtain ⟨_, _, _, _, _, _, e5, e6⟩ := hq i x hi
    exact ⟨e5, e6⟩
  · obtain ⟨cs, d', _, e2', _, e4, _⟩ := hq i x hx
    obtain rfl : d = d' := Option.some.inj (hd.symm.trans e2')
    exact e4
end
end Go.Fw
namespace Go.Fw
open Go
set_option linter.unusedVariables false
set_option maxRecDepth 10000
abbrev hs32 (l : List (Vector (BitVec 8) 32)) : List Value := l.flatMap fun x => u8s x.toList
theorem hs32_length (l : List (Vector (BitVec 8) 32)) : (hs32 l).length = l.length * 32 := by
  induction l with
  | nil => rfl
  | cons x l ih => rw [hs32, List.flatMap_cons, List.length_append, u8s_length, Vector.length_toList, List.length_cons, Nat.add_mul, show (l.flatMap fun x => u8s x.toList).length = l.length * 32 from ih]; omega
theorem hs32_one (l : List (Vector (BitVec 8) 32)) : ∀ u ∈ hs32 l, u.oneCell' = true := by
  intro u hu
  obtain ⟨x, _, hx⟩ := List.mem_flatMap.1 hu
  exact u8s_one _ u hx
theorem hs32_reps {Φ : Ctx} (l : List (Vector (BitVec 8) 32)) : Reps (Ar8Rd Φ) (hs32 l) l := by
  have := Reps.of_list (R := Ar8Rd (n := 32) Φ) (fun x : Vector (BitVec 8) 32 => u8s x.toList) (fun x => x) l (fun x _ => rfl)
  rwa [List.map_id'] at this
theorem hs32_of {Φ : Ctx} : ∀ {cs : List Value} {l : List (Vector (BitVec 8) 32)}, Reps (Ar8Rd Φ) cs l → cs = hs32 l
  | _, [], h => by cases h; rfl
  | _, x :: l, h => by
    cases h with
    | cons h1 h2 =>
      have e1 : _ = u8s x.toList := h1
      rw [e1, hs32_of h2]
      rfl
structure Lg where
  a : Vector (BitVec 8) 20
  tb : Option Nat
  t : List (Vector (BitVec 8) 32)
  tc : Nat
  tr : List Value
  db : Option Nat
  d : List (BitVec 8)
  dc : Nat
  dr : List Value
def Lg.val (g : Lg) : Log := ⟨g.a, g.t, g.d⟩
def Lg.cell (g : Lg) : LogC := ⟨g.a, sl g.tb 0 g.t.length g.tc, sl g.db 0 g.d.length g.dc⟩
def Lg.cells (g : Lg) : List Value := g.cell.C
def Lg.ents (tH tB : TypeId) (g : Lg) : List Ent := [(g.tb, blk (hs32 g.t ++ g.tr) tH), (g.db, blk (u8s g.d ++ g.dr) tB)]
structure Lg.Ok (g : Lg) : Prop where
  t : OwnS g.tb g.t.length g.tc 32 (hs32 g.t) g.tr
  d : OwnS g.db g.d.length g.dc 1 (u8s g.d) g.dr
theorem Lg.cells_length (g : Lg) : g.cells.length = 22 := LogC.C_length _
theorem Lg.cells_one (g : Lg) : ∀ u ∈ g.cells, u.oneCell' = true := LogC.C_one _ rfl rfl
theorem Lg.rd {w0 : World} {Φ : Ctx} {tH tB : TypeId} {g : Lg} (ok : g.Ok) (h : ∀ w, Φ w → Mem w0 w (g.ents tH tB)) : LogRd Φ g.cells g.val := by
  have h1 := ok.t.view (te := tH) (w0 := w0) (Ψ := Φ) (by decide) (fun w q => (h w q).sublist (by unfold Lg.ents; exact List.Sublist.cons_cons _ (List.nil_sublist _)))
  have h2 := ok.d.view (te := tB) (w0 := w0) (Ψ := Φ) (by decide) (fun w q => (h w q).tail)
  exact LogRd.mk h1 (hs32_reps _) h2
def lgs (tH tB : TypeId) (l : List Lg) : List Ent := l.flatMap (Lg.ents tH tB)
def lgC (l : List Lg) : List Value := l.flatMap Lg.cells
theorem lgC_length (l : List Lg) : (lgC l).length = l.length * 22 := by
  induction l with
  | nil => rfl
  | cons x l ih => rw [lgC, List.flatMap_cons, List.length_append, Lg.cells_length, List.length_cons, Nat.add_mul, show (l.flatMap Lg.cells).length = l.length * 22 from ih]; omega
theorem lgC_app (a b : List Lg) : lgC (a ++ b) = lgC a ++ lgC b := List.flatMap_append ..
theorem lgC_one1 (g : Lg) : lgC [g] = g.cells := by simp [lgC]
theorem lgs_app (tH tB : TypeId) (a b : List Lg) : lgs tH tB (a ++ b) = lgs tH tB a ++ lgs tH tB b := List.flatMap_append ..
theorem lgs_one1 (tH tB : TypeId) (g : Lg) : lgs tH tB [g] = g.ents tH tB := by simp [lgs]
theorem lgs_reps {w0 : World} {Φ : Ctx} {tH tB : TypeId} : ∀ {l : List Lg}, (∀ g ∈ l, g.Ok) → (∀ w, Φ w → Mem w0 w (lgs tH tB l)) → Reps (LogRd Φ) (lgC l) (l.map Lg.val)
  | [], _, _ => .nil
  | g :: l, ok, h => by
    have h1 : LogRd Φ g.cells g.val := Lg.rd (tH := tH) (tB := tB) (ok g (List.mem_cons_self ..)) (fun w q => (h w q).appL)
    have h2 := lgs_reps (l := l) (fun x hx => ok x (List.mem_cons_of_mem _ hx)) (fun w q => (h w q).appR)
    exact .cons h1 h2
theorem lgs_snoc {w0 w : World} {tH tB : TypeId} {l : List Lg} {g : Lg} {X K : List Ent} (m : Mem w0 w (X ++ (g.ents tH tB ++ (lgs tH tB l ++ K)))) : Mem w0 w (X ++ (lgs tH tB (l ++ [g]) ++ K)) := by
  refine m.perm (List.Perm.append_left X ?_)
  rw [lgs_app, lgs_one1, ← List.append_assoc]
  exact List.Perm.append_right K List.perm_append_comm
end Go.Fw
namespace Go.Fw
set_option linter.unusedVariables false
def Log.zero : Log := ⟨Vector.replicate 20 0#8, [], []⟩
def Rdr.bd (r : Rdr) : Prop := 0 ≤ r.err ∧ r.err ≤ 1000
def Rcpt.zero : Rcpt := ⟨0, false, Vector.replicate 32 0#8, 0#64, 0#64, Vector.replicate 256 0#8, []⟩
abbrev RcptZ : RcptC := ⟨0, false, Vector.replicate 32 0#8, 0#64, 0#64, Vector.replicate 256 0#8, .slice none 0 0⟩
end Go.Fw
namespace Go.Fw.Tryd
open Go Go.Proofs Go.Fw
set_option maxRecDepth 100000
set_option linter.unusedVariables false
set_option maxHeartbeats 1000000
def DecO (w0 : World) (x : Rcpt) (e : Int) : Value → List Ent → Prop := fun v G => ∃ (gs : List Lg) (ob : Option Nat) (c : Nat) (r : List Value) (B : List Ent), (∀ g ∈ gs, g.Ok) ∧ OwnS ob gs.length c 22 (lgC gs) r ∧ gs.map Lg.val = x.logs ∧ (-9223372036854775808 ≤ e ∧ e ≤ 9223372036854775807) ∧ (-9223372036854775808 ≤ x.kind ∧ x.kind ≤ 9223372036854775807) ∧
 v = .tuple #[.agg (⟨x.kind, x.rooted, x.root, x.status, x.used, x.bloom, sl ob 0 gs.length c⟩ : RcptC).C.toArray, .int .i64 e] ∧ G = (ob, blk (lgC gs ++ r) 63) :: (lgs 24 5 gs ++ B)
theorem DecO.zero {w0 : World} {e : Int} (he : -9223372036854775808 ≤ e ∧ e ≤ 9223372036854775807) (B : List Ent) : DecO w0 Rcpt.zero e (.tuple #[.agg RcptZ.C.toArray, .int .i64 e]) ((none, blk [] 63) :: B) :=
 ⟨[], none, 0, [], B, (fun g hg => by cases hg), OwnS.nil, rfl, he, (by show _ ≤ (0 : Int) ∧ (0 : Int) ≤ _; omega), rfl, rfl⟩
theorem DecO.rd {w0 : World} {Φ : Ctx} {x : Rcpt} {e : Int} {v : Value} {G : List Ent} (h : DecO w0 x e v G) : ∃ B : List Ent, ∃ cr0 : List Value, RcptRd (More w0 Φ B) cr0 x ∧ (-9223372036854775808 ≤ e ∧ e ≤ 9223372036854775807) ∧ v = .tuple #[.agg cr0.toArray, .int .i64 e] ∧ G = B := by
 obtain ⟨gs, ob, c, r, B, hok, ho, hv, he, hk, rfl, rfl⟩ := h
 refine ⟨_, _, ?_, he, rfl, rfl⟩
 have hvl := ho.view (te := 63) (w0 := w0) (Ψ := More w0 Φ ((ob, blk (lgC gs ++ r) 63) :: (lgs 24 5 gs ++ B))) (by decide) (fun w q => q.2.sublist (List.singleton_sublist.2 (List.mem_cons_self ..)))
 have hrl := lgs_reps (w0 := w0) (Φ := More w0 Φ ((ob, blk (lgC gs ++ r) 63) :: (lgs 24 5 gs ++ B))) (tH := 24) (tB := 5) hok (fun w q => q.2.tail.appL)
 obtain ⟨k, ro, rt, st, us, bl, lg⟩ := x
 dsimp only at hv hk ⊢
 subst hv
 have hvl2 : View (More w0 Φ ((ob, blk (lgC gs ++ r) 63) :: (lgs 24 5 gs ++ B))) (ob.map fun k => ⟨k, 0, none⟩) (gs.map Lg.val).length c 22 (lgC gs) := by rw [List.length_map]; exact hvl
 have := RcptRd.mk (kind := k) (rooted := ro) (root := rt) (status := st) (used := us) (bloom := bl) (logs := gs.map Lg.val) hk hvl2 hrl
 rw [List.length_map] at this
 exact this
end Go.Fw.Tryd
namespace Go.Fw
set_option linter.unusedVariables false
set_option maxRecDepth 100000
def waybillref02_filled.l1 : Nat → (List (BitVec 8)) → Option ((List (BitVec 8)))
  | 0, _ => none
  | k41 + 1, l36 => (if (l36.length % 136) = 0 then (some (l36)) else (if l36.length + ([0#8] : List (BitVec 8)).length ≤ 140737488355328 then (waybillref02_filled.l1 k41 (l36 ++ ([0#8] : List (BitVec 8)))) else none))
def waybillref02_filled (a0 : List (BitVec 8)) (a1 : BitVec 8) : Option ((List (BitVec 8))) := (if a0.length + ([a1] : List (BitVec 8)).length ≤ 140737488355328 then (((waybillref02_filled.l1 140 (a0 ++ ([a1] : List (BitVec 8)))) : Option ((List (BitVec 8)))).bind fun l17 => (if 0 ≤ (((l17.length : Nat) : Int) - (1 : Int)) then (l17[((((l17.length : Nat) : Int) - (1 : Int))).toNat]?).bind fun x29 => (l17[((((l17.length : Nat) : Int) - (1 : Int))).toNat]?).bind fun x32 => (some (l17.set (((((l17.length : Nat) : Int) - (1 : Int))).toNat) (x29 ||| 128#8))) else none)) else none)
def waybillref02_joined.l1 (a0 : List (List (BitVec 8))) : Nat → (List (BitVec 8)) → (Nat) → Option ((List (BitVec 8)))
  | 0, _, _ => none
  | k22 + 1, l15, n20 => (if n20 < a0.length then (a0[n20]?).bind fun x31 => (if l15.length + x31.length ≤ 140737488355328 then (waybillref02_joined.l1 a0 k22 (l15 ++ x31) (n20 + 1)) else none) else (some (l15)))
def waybillref02_joined (a0 : List (List (BitVec 8))) : Option ((List (BitVec 8))) := (((waybillref02_joined.l1 a0 (a0.length - 0 + 2) ([] : List (BitVec 8)) 0) : Option ((List (BitVec 8)))).bind fun l4 => (some l4))
def waybillref02_Digest.l1 (w18 : Vector (BitVec 64) 25) : Nat → (Nat) → (Vector (BitVec 8) 32) → Option ((Vector (BitVec 8) 32))
  | 0, _, _ => none
  | k36 + 1, n33, w35 => (if n33 < 32 then (if (n33 / 8) < 25 then (w18[(n33 / 8)]?).bind fun x45 => (waybillref02_Digest.l1 w18 k36 (n33 + 1) (w35.setIfInBounds n33 ((x45 >>> (BitVec.ofNat 64 (8 * (n33 % 8))).toNat).setWidth 8))) else none) else (some (w35)))
def waybillref02_Digest.l3 (x4 : List (BitVec 8)) (n47 : Nat) : Nat → (Nat) → (Vector (BitVec 64) 25) → Option ((Vector (BitVec 64) 25))
  | 0, _, _ => none
  | k75 + 1, n72, w74 => (if n72 < 136 then (if (n72 / 8) < 25 then (w74[(n72 / 8)]?).bind fun x85 => (x4[(n47 + n72)]?).bind fun x87 => (waybillref02_Digest.l3 x4 n47 k75 (n72 + 1) (w74.setIfInBounds (n72 / 8) (x85 ^^^ ((x87.setWidth 64) <<< (BitVec.ofNat 64 (8 * (n72 % 8))).toNat)))) else none) else (some (w74)))
def waybillref02_Digest.l2 (x4 : List (BitVec 8)) : Nat → (Nat) → (Vector (BitVec 64) 25) → Option ((Vector (BitVec 64) 25))
  | 0, _, _ => none
  | k50 + 1, n47, w49 => (if n47 < x4.length then (((waybillref02_Digest.l3 x4 n47 (136 - 0 + 2) 0 w49) : Option ((Vector (BitVec 64) 25))).bind fun w61 => ((keccak_Permute w61).bind fun x69 => (waybillref02_Digest.l2 x4 k50 (n47 + 136) x69))) else (some (w49)))
def waybillref02_Digest (a0 : List (BitVec 8)) (a1 : BitVec 8) : Option ((Vector (BitVec 8) 32)) := ((waybillref02_filled a0 a1).bind fun x4 => (((waybillref02_Digest.l2 x4 (x4.length - 0 + 2) 0 (Vector.replicate 25 0#64)) : Option ((Vector (BitVec 64) 25))).bind fun w18 => (((waybillref02_Digest.l1 w18 (32 - 0 + 2) 0 (Vector.replicate 32 0#8)) : Option ((Vector (BitVec 8) 32))).bind fun w27 => (some w27))))
def waybillref02_Sum (a0 : List (List (BitVec 8))) : Option ((Vector (BitVec 8) 32)) := ((waybillref02_joined a0).bind fun x4 => ((waybillref02_Digest x4 (1#8)).bind fun x17 => (some x17)))
end Go.Fw
namespace Go.Fw
set_option linter.unusedVariables false
set_option maxRecDepth 100000
def waybillref10_Places.l1 (x9 : Vector (BitVec 8) 32) : Nat → (Nat) → (Vector (Int) 3) → Option ((Vector (Int) 3))
  | 0, _, _ => none
  | k25 + 1, n22, w24 => (if n22 < 3 then (if (2 * n22) < 32 then (x9[(2 * n22)]?).bind fun x34 => (if ((2 * n22) + 1) < 32 then (x9[((2 * n22) + 1)]?).bind fun x38 => (waybillref10_Places.l1 x9 k25 (n22 + 1) (w24.setIfInBounds n22 ((((256 * x34.toNat) + x38.toNat) % 2048 : Nat) : Int))) else none) else none) else (some (w24)))
def waybillref10_Places (a0 : List (BitVec 8)) : Option ((Vector (Int) 3)) := ((waybillref02_Sum ([a0] : List (List (BitVec 8)))).bind fun x9 => (((waybillref10_Places.l1 x9 (3 - 0 + 2) 0 (Vector.replicate 3 0)) : Option ((Vector (Int) 3))).bind fun w16 => (some w16)))
def waybillref10_set (a0 : Vector (BitVec 8) 256) (a1 : Int) : Option ((Vector (BitVec 8) 256)) := (if 0 ≤ a1 then (if 0 ≤ ((255 : Int) - (((a1).toNat / 8 : Nat) : Int)) then (if (((255 : Int) - (((a1).toNat / 8 : Nat) : Int))).toNat < 256 then (a0[(((255 : Int) - (((a1).toNat / 8 : Nat) : Int))).toNat]?).bind fun x6 => (some (a0.setIfInBounds ((((255 : Int) - (((a1).toNat / 8 : Nat) : Int))).toNat) (x6 ||| (1#8 <<< (BitVec.ofNat 64 ((a1).toNat % 8)).toNat)))) else none) else none) else none)
def waybillref10_Add (a0 : Vector (BitVec 8) 256) (a1 : List (BitVec 8)) : Option ((Vector (BitVec 8) 256)) := ((waybillref10_Places a1).bind fun x5 => (if -9223372036854775808 ≤ x5[0] ∧ x5[0] ≤ 9223372036854775807 then ((waybillref10_set a0 (x5[0])).bind fun x11 => (if -9223372036854775808 ≤ x5[1] ∧ x5[1] ≤ 9223372036854775807 then ((waybillref10_set x11 (x5[1])).bind fun x16 => (if -9223372036854775808 ≤ x5[2] ∧ x5[2] ≤ 9223372036854775807 then ((waybillref10_set x16 (x5[2])).bind fun x21 => (some x21)) else none)) else none)) else none))
def waybillref10_Of.l1 (a0 : List (List (BitVec 8))) : Nat → (Nat) → (Vector (BitVec 8) 256) → Option ((Vector (BitVec 8) 256))
  | 0, _, _ => none
  | k15 + 1, n12, w14 => (if n12 < a0.length then (a0[n12]?).bind fun x23 => ((waybillref10_Add w14 x23).bind fun x35 => (waybillref10_Of.l1 a0 k15 (n12 + 1) x35)) else (some (w14)))
def waybillref10_Of (a0 : List (List (BitVec 8))) : Option ((Vector (BitVec 8) 256)) := (((waybillref10_Of.l1 a0 (a0.length - 0 + 2) 0 (Vector.replicate 256 0#8)) : Option ((Vector (BitVec 8) 256))).bind fun w6 => (some w6))
end Go.Fw
namespace Go.Fw
set_option linter.unusedVariables false
set_option maxRecDepth 100000
def waybillref17_text (a0 : List (BitVec 8)) : Option ((It)) := (some (It.mk false a0 ([] : List (It))))
def waybillref17_logItem.l1 (a0 : Log) : Nat → (Nat) → (Bool) → (List (BitVec 8)) → (List (It)) → Option ((Bool) × (List (BitVec 8)) × (List (It)))
  | 0, _, _, _, _ => none
  | k115 + 1, n100, p102, l103, l108 => (if n100 < a0.topics.length then (a0.topics[n100]?).bind fun x125 => ((waybillref17_text x125.toList).bind fun x136 => (if (l108.length + ([x136] : List (It)).length) * 56 ≤ 140737488355328 then (waybillref17_logItem.l1 a0 k115 (n100 + 1) (p102) l103 (l108 ++ ([x136] : List (It)))) else none)) else (some (((p102), l103, l108))))
def waybillref17_logItem (a0 : Log) : Option ((It)) := (((waybillref17_logItem.l1 a0 (a0.topics.length - 0 + 2) 0 true ([] : List (BitVec 8)) ([] : List (It))) : Option ((Bool) × (List (BitVec 8)) × (List (It)))).bind fun (p20, l21, l26) => ((waybillref17_text a0.address.toList).bind fun x47 => ((waybillref17_text a0.data).bind fun x70 => (some (It.mk true ([] : List (BitVec 8)) ([x47, (It.mk (p20) l21 l26), x70] : List (It)))))))
def waybillref17_BloomOf.l2 (a0 : List (Log)) (n34 : Nat) : Nat → (List (List (BitVec 8))) → (Nat) → Option ((List (List (BitVec 8))))
  | 0, _, _ => none
  | k130 + 1, l121, n128 => (a0[n34]?).bind fun x138 => (if n128 < x138.topics.length then (a0[n34]?).bind fun x157 => (x157.topics[n128]?).bind fun x175 => ((waybillref17_text x175.toList).bind fun x186 => (if (l121.length + ([x186.data] : List (List (BitVec 8))).length) * 24 ≤ 140737488355328 then (waybillref17_BloomOf.l2 a0 n34 k130 (l121 ++ ([x186.data] : List (List (BitVec 8)))) (n128 + 1)) else none)) else (some (l121)))
def waybillref17_BloomOf.l1 (a0 : List (Log)) : Nat → (List (List (BitVec 8))) → (Nat) → Option ((List (List (BitVec 8))))
  | 0, _, _ => none
  | k36 + 1, l27, n34 => (if n34 < a0.length then (a0[n34]?).bind fun x45 => ((waybillref17_text x45.address.toList).bind fun x68 => (if (l27.length + ([x68.data] : List (List (BitVec 8))).length) * 24 ≤ 140737488355328 then (((waybillref17_BloomOf.l2 a0 n34 (((a0[n34]?)).elim 2 fun x132 => (x132.topics.length - 0 + 2)) (l27 ++ ([x68.data] : List (List (BitVec 8)))) 0) : Option ((List (List (BitVec 8))))).bind fun l106 => (waybillref17_BloomOf.l1 a0 k36 l106 (n34 + 1))) else none)) else (some (l27)))
def waybillref17_BloomOf (a0 : List (Log)) : Option ((Vector (BitVec 8) 256)) := (((waybillref17_BloomOf.l1 a0 (a0.length - 0 + 2) ([] : List (List (BitVec 8))) 0) : Option ((List (List (BitVec 8))))).bind fun l7 => ((waybillref10_Of l7).bind fun x22 => (some x22)))
def waybillref17_Check.l1 (a0 : Rcpt) : Nat → (Nat) → Option (Lp ((Nat)) (Unit))
  | 0, _ => none
  | k52 + 1, n50 => (if n50 < a0.logs.length then (a0.logs[n50]?).bind fun x60 => (if 4 < x60.topics.length then (some (Lp.ret (some 174))) else (waybillref17_Check.l1 a0 k52 (n50 + 1))) else (some (Lp.go ())))
def waybillref17_Check (a0 : Rcpt) : Option ((Nat)) := (((if a0.kind < (0 : Int) then (some (true)) else (some ((decide ((4 : Int) < a0.kind))))) : Option ((Bool))).bind fun p13 => (if p13 = true then (some 170) else (((if a0.rooted = true then (if a0.kind = (0 : Int) then (some ((!decide (a0.status = 0#64)))) else (some (true))) else (some (false))) : Option ((Bool))).bind fun p22 => (if p22 = true then (some 172) else (((if a0.rooted = true then (some (false)) else (if a0.root = (Vector.replicate 32 0#8) then (some ((decide (1 < a0.status.toNat)))) else (some (true)))) : Option ((Bool))).bind fun p31 => (if p31 = true then (some 172) else (((waybillref17_Check.l1 a0 (a0.logs.length - 0 + 2) 0) : Option (Lp ((Nat)) (Unit))).bind fun | .ret o => o | .go () => ((waybillref17_BloomOf a0.logs).bind fun x46 => (if a0.bloom = x46 then (some 0) else (some 173))))))))))
def waybillref17_item.l1 (a0 : Rcpt) : Nat → (Nat) → (Bool) → (List (BitVec 8)) → (List (It)) → Option ((Bool) × (List (BitVec 8)) × (List (It)))
  | 0, _, _, _, _ => none
  | k159 + 1, n144, p146, l147, l152 => (if n144 < a0.logs.length then (a0.logs[n144]?).bind fun x169 => ((waybillref17_logItem x169).bind fun x188 => (if (l152.length + ([x188] : List (It)).length) * 56 ≤ 140737488355328 then (waybillref17_item.l1 a0 k159 (n144 + 1) (p146) l147 (l152 ++ ([x188] : List (It)))) else none)) else (some (((p146), l147, l152))))
def waybillref17_item (a0 : Rcpt) : Option ((It)) := ((waybillref07_Small a0.status).bind fun x14 => (((if a0.rooted = true then ((waybillref17_text a0.root.toList).bind fun x228 => (some (((x228.list), x228.data, x228.items)))) else (some (((x14.list), x14.data, x14.items)))) : Option ((Bool) × (List (BitVec 8)) × (List (It)))).bind fun (p41, l42, l46) => (((waybillref17_item.l1 a0 (a0.logs.length - 0 + 2) 0 true ([] : List (BitVec 8)) ([] : List (It))) : Option ((Bool) × (List (BitVec 8)) × (List (It)))).bind fun (p65, l66, l71) => ((waybillref07_Small a0.used).bind fun x91 => ((waybillref17_text a0.bloom.toList).bind fun x114 => (some (It.mk true ([] : List (BitVec 8)) ([(It.mk (p41) l42 l46), x91, x114, (It.mk (p65) l66 l71)] : List (It)))))))))
def waybillref17_Encode (a0 : Rcpt) : Option ((List (BitVec 8)) × (Nat)) := ((waybillref17_Check a0).bind fun x12 => (if x12 = 0 then ((waybillref17_item a0).bind fun x18 => ((waybillref07_Encode x18).bind fun (x41, x42) => (((if x42 = 0 then (if (0 : Int) < a0.kind then (some ((decide (16777216 < (x41.length + 1))))) else (some (false))) else (some (true))) : Option ((Bool))).bind fun p56 => (if p56 = true then (some (([] : List (BitVec 8)), 2)) else (((if (0 : Int) < a0.kind then (some (([(BitVec.ofInt 8 a0.kind)] : List (BitVec 8)))) else (some (([] : List (BitVec 8))))) : Option ((List (BitVec 8)))).bind fun l66 => (if l66.length + x41.length ≤ 140737488355328 then (some ((l66 ++ x41), 0)) else none)))))) else (some (([] : List (BitVec 8)), x12))))
end Go.Fw
namespace Go.Fw
set_option linter.unusedVariables false
set_option maxRecDepth 100000
def waybilllaw17_still.l1 (a0 : List (BitVec 8)) (a1 : List (BitVec 8)) : Nat → (Nat) → Option (Lp ((Bool)) (Unit))
  | 0, _ => none
  | k17 + 1, n15 => (if n15 < ((a0 ++ List.replicate 70 195#8).take (a1.length + 70)).length then (((if n15 < a1.length then (((a0 ++ List.replicate 70 195#8).take (a1.length + 70))[n15]?).bind fun x35 => (a1[n15]?).bind fun x38 => (if x35 = x38 then (if a1.length ≤ n15 then (((a0 ++ List.replicate 70 195#8).take (a1.length + 70))[n15]?).bind fun x43 => (some ((!decide (x43 = 195#8)))) else (some (false))) else (some (true))) else (if a1.length ≤ n15 then (((a0 ++ List.replicate 70 195#8).take (a1.length + 70))[n15]?).bind fun x47 => (some ((!decide (x47 = 195#8)))) else (some (false)))) : Option ((Bool))).bind fun p27 => (if p27 = true then (some (Lp.ret (some false))) else (waybilllaw17_still.l1 a0 a1 k17 (n15 + 1)))) else (some (Lp.go ())))
def waybilllaw17_still (a0 : List (BitVec 8)) (a1 : List (BitVec 8)) : Option ((Bool)) := (if a0.length = a1.length then (if (a1.length + 70) ≤ (a0 ++ List.replicate 70 195#8).length then (((waybilllaw17_still.l1 a0 a1 ((((a0 ++ List.replicate 70 195#8).take (a1.length + 70)).length) - 0 + 2) 0) : Option (Lp ((Bool)) (Unit))).bind fun | .ret o => o | .go () => (some true)) else none) else (some false))
end Go.Fw
namespace Go.Fw
open Go
set_option linter.unusedVariables false
set_option maxRecDepth 10000
def mk20 : Vector (BitVec 8) 20 := (Vector.replicate 20 0#8).setIfInBounds 0 195#8
def mk32 : Vector (BitVec 8) 32 := (Vector.replicate 32 0#8).setIfInBounds 0 195#8
abbrev LogZ0 : LogC := ⟨Vector.replicate 20 0#8, .slice none 0 0, .slice none 0 0⟩
abbrev LgMk : LogC := ⟨mk20, .slice none 0 0, .slice none 0 0⟩
theorem OwnS.full {ob : Option Nat} {len cap s : Nat} {cells r : List Value} (h : OwnS ob len cap s cells r) (hm : cap ≤ 140737488355328) : OwnS ob cap cap s (cells ++ r) [] := ⟨h.hr, by rw [List.append_nil]; exact h.hr, h.hn, hm⟩
structure LgM (g : Lg) : Prop where
  ok : g.Ok
  tc : g.tc = g.t.length + 1
  tr : g.tr = u8s mk32.toList
  dc : g.dc = g.d.length + 70
  dr : g.dr = u8s (List.replicate 70 195#8) ++ []
  tm : g.t.length + 1 ≤ 140737488355328
  dm : g.d.length + 70 ≤ 140737488355328
def LmRd (Φ : Ctx) (cs : List Value) (x : Log) : Prop := ∃ (A1 A2 : Option Addr), cs = (⟨x.address, .slice A1 x.topics.length (x.topics.length + 1), .slice A2 x.data.length (x.data.length + 70)⟩ : LogC).C ∧
  View Φ A1 (x.topics.length + 1) (x.topics.length + 1) 32 (hs32 x.topics ++ u8s mk32.toList) ∧ View Φ A2 (x.data.length + 70) (x.data.length + 70) 1 (u8s (x.data ++ List.replicate 70 195#8))
theorem LmRd.mono {Φ Ψ : Ctx} (hh : ∀ w, Ψ w → Φ w) (cs : List Value) (x : Log) : LmRd Φ cs x → LmRd Ψ cs x := fun ⟨A1, A2, e, v1, v2⟩ => ⟨A1, A2, e, v1.mono hh, v2.mono hh⟩
theorem LmRd.len {Φ : Ctx} (cs : List Value) (x : Log) (h : LmRd Φ cs x) : cs.length = 22 := by
  obtain ⟨A1, A2, e, _, _⟩ := h
  rw [e]; exact LogC.C_length _
theorem LmRd.one {Φ : Ctx} (cs : List Value) (x : Log) (h : LmRd Φ cs x) : ∀ u ∈ cs, u.oneCell' = true := by
  obtain ⟨A1, A2, e, _, _⟩ := h
  rw [e]; exact LogC.C_one _ rfl rfl
theorem LmRd.log {Φ : Ctx} (cs : List Value) (x : Log) (h : LmRd Φ cs x) : LogRd Φ cs x := by
  obtain ⟨A1, A2, rfl, v1, v2⟩ := h
  have h1 := v1.hi (k := x.topics.length) (by omega)
  rw [List.take_append_of_le_length (by rw [hs32_length]; omega), List.take_of_length_le (by rw [hs32_length]; omega)] at h1
  have h2 := v2.hi (k := x.data.length) (by omega)
  rw [Nat.mul_one, show (u8s (x.data ++ List.replicate 70 195#8)).take x.data.length = u8s x.data by simp [u8s]] at h2
  exact LogRd.mk h1 (hs32_reps _) h2
theorem LgM.rd {w0 : World} {Φ : Ctx} {tH tB : TypeId} {g : Lg} (h : LgM g) (hm : ∀ w, Φ w → Mem w0 w (g.ents tH tB)) : LmRd Φ g.cells g.val := by
  obtain ⟨a, tb, t, tc, tr, db, d, dc, dr⟩ := g
  obtain ⟨ok, e1, e2, e3, e4, m1, m2⟩ := h
  obtain ⟨ok1, ok2⟩ := ok
  dsimp only at e1 e2 e3 e4 m1 m2 ok1 ok2
  subst e1 e2 e3 e4
  refine ⟨_, _, rfl, ?_, ?_⟩
  · have := (ok1.full m1).view (te := tH) (w0 := w0) (Ψ := Φ) (by decide) (fun w q => by rw [List.append_nil]; exact (hm w q).sublist (by unfold Lg.ents; exact List.Sublist.cons_cons _ (List.nil_sublist _)))
    exact this
  · have := (ok2.full m2).view (te := tB) (w0 := w0) (Ψ := Φ) (by decide) (fun w q => by rw [List.append_nil]; exact (hm w q).tail)
    rw [List.append_nil, u8s_app] at this
    exact this
theorem lgm_reps {w0 : World} {Φ : Ctx} {tH tB : TypeId} : ∀ {l : List Lg}, (∀ g ∈ l, LgM g) → (∀ w, Φ w → Mem w0 w (lgs tH tB l)) → Reps (LmRd Φ) (lgC l) (l.map Lg.val)
  | [], _, _ => .nil
  | g :: l, ok, h => by
    have h1 : LmRd Φ g.cells g.val := LgM.rd (tH := tH) (tB := tB) (ok g (List.mem_cons_self ..)) (fun w q => (h w q).appL)
    have h2 := lgm_reps (l := l) (fun x hx => ok x (List.mem_cons_of_mem _ hx)) (fun w q => (h w q).appR)
    exact .cons h1 h2
def LRooms (Φ : Ctx) (A : Option Addr) (c : Nat) (x : List Log) : Prop := ∃ cs : List Value, View Φ A (x.length + 1) c 22 (cs ++ LgMk.C) ∧ Reps (LmRd Φ) cs x
theorem LRooms.mono {Φ Ψ : Ctx} {A : Option Addr} {c : Nat} {x : List Log} (h : LRooms Φ A c x) (hh : ∀ w, Ψ w → Φ w) : LRooms Ψ A c x := by
  obtain ⟨cs, v, r⟩ := h
  exact ⟨cs, v.mono hh, r.mono (LmRd.mono hh)⟩
theorem LRooms.opn {Φ : Ctx} {A : Option Addr} {c : Nat} {x : List Log} (h : LRooms Φ A c x) : ∃ cs : List Value, View Φ A (x.length + 1) c 22 (cs ++ LgMk.C) ∧ View Φ A x.length c 22 cs ∧ Reps (LmRd Φ) cs x := by
  obtain ⟨cs, v, r⟩ := h
  have h1 := v.hi (k := x.length) (by omega)
  have hl := r.len LmRd.len
  rw [List.take_append_of_le_length (by omega), List.take_of_length_le (by omega)] at h1
  exact ⟨cs, v, h1, r⟩
theorem LRooms.mk {Φ : Ctx} {A : Option Addr} {c : Nat} {x : List Log} {cs : List Value} (v : View Φ A (x.length + 1) c 22 (cs ++ LgMk.C)) (r : Reps (LmRd Φ) cs x) : LRooms Φ A c x := ⟨cs, v, r⟩
def twfit (l : List Log) : Bool := l.all (fun x => decide (x.topics.length * 32 ≤ 140737488355328 ∧ x.data.length + 70 ≤ 140737488355328)) && decide (l.length * 72 ≤ 140737488355328)
def waybilllaw17_twin (l : List Log) : Option (List Log) := if twfit l = true then some l else none
def zc (k : Nat) : List Value := (List.replicate k LogZ0.C).flatten
theorem zc_length (k : Nat) : (zc k).length = k * 22 := by
  rw [zc, List.length_flatten, List.map_replicate, List.sum_replicate_nat, LogC.C_length]
theorem zc_succ (k : Nat) : zc (k + 1) = LogZ0.C ++ zc k := by simp [zc, List.replicate_succ]
theorem zc_snoc (k : Nat) : zc (k + 1) = zc k ++ LogZ0.C := by simp [zc, List.replicate_succ']
theorem tw_mark (k : Nat) : spl (zc (k + 1)) (k * 22) LgMk.C = zc k ++ LgMk.C := by
  have h1 : (zc k ++ LogZ0.C).length = k * 22 + 22 := by rw [List.length_append, zc_length, LogC.C_length]
  rw [zc_snoc]
  unfold spl
  rw [List.take_append_of_le_length (by rw [zc_length]; omega), List.take_of_length_le (by rw [zc_length]; omega), LogC.C_length, List.drop_of_length_le (by omega), List.append_nil]
theorem tw_set {gs : List Lg} {g : Lg} {m off : Nat} {X : List Value} (h : off = gs.length * 22) : spl (lgC gs ++ (zc (m + 1) ++ X)) off g.cells = lgC (gs ++ [g]) ++ (zc m ++ X) := by
  subst h
  have h1 : (lgC gs).length = gs.length * 22 := lgC_length _
  have h2 : LogZ0.C.length = 22 := LogC.C_length _
  unfold spl
  rw [zc_succ, Lg.cells_length, List.take_append_of_le_length (by omega), List.take_of_length_le (by omega), List.append_assoc LogZ0.C, ← List.append_assoc (lgC gs), List.drop_append, List.drop_of_length_le (by rw [List.length_append]; omega), List.length_append, h1, h2, Nat.sub_self, List.drop_zero, List.nil_append, lgC_app, lgC_one1]
theorem tw_topic (t : List (Vector (BitVec 8) 32)) (zs : List Value) (hz : zs.length = 32) : spl (hs32 t ++ zs) (t.length * 32) (u8s mk32.toList) = hs32 t ++ u8s mk32.toList := by
  unfold spl
  have h1 := hs32_length t
  have h2 : (u8s mk32.toList).length = 32 := (u8s_length _).trans Vector.length_toList
  rw [List.take_append_of_le_length (by omega), List.take_of_length_le (by omega), h2, List.drop_of_length_le (by rw [List.length_append]; omega), List.append_nil]
end Go.Fw
namespace Go.Fw
set_option linter.unusedVariables false
set_option linter.unusedSimpArgs false
set_option maxRecDepth 10000
theorem same17_to (a b : List (BitVec 8)) : ∀ (k i : Nat), waybilllaw17_same.l1 a b k i = some (Lp.go ()) → ∀ j, i ≤ j → j < a.length → a[j]? = b[j]?
  | 0, i, h => by cases h
  | k + 1, i, h => by
    rw [waybilllaw17_same.l1] at h
    intro j hj hl
    rw [if_pos (by omega)] at h
    obtain ⟨x, hx, h⟩ := Option.bind_eq_some_iff.1 h
    obtain ⟨y, hy, h⟩ := Option.bind_eq_some_iff.1 h
    by_cases e : x = y
    · rw [if_pos e] at h
      rcases Nat.eq_or_lt_of_le hj with rfl | hj
      · rw [hx, hy, e]
      · exact same17_to a b k (i + 1) h j hj hl
    · rw [if_neg e] at h; cases h
theorem same17_true {a b : List (BitVec 8)} (h : waybilllaw17_same a b = some true) : a = b := by
  unfold waybilllaw17_same at h
  by_cases hl : a.length = b.length
  · rw [if_pos hl] at h
    obtain ⟨o, ho, h⟩ := Option.bind_eq_some_iff.1 h
    cases o with
    | ret o =>
      exfalso
      have : ∀ (k i : Nat) o, waybilllaw17_same.l1 a b k i = some (Lp.ret o) → o = some false := by
        intro k
        induction k with
        | zero => intro i o h; cases h
        | succ k ih =>
          intro i o h
          rw [waybilllaw17_same.l1] at h
          by_cases hi : i < a.length
          · rw [if_pos hi] at h
            obtain ⟨x, hx, h⟩ := Option.bind_eq_some_iff.1 h
            obtain ⟨y, hy, h⟩ := Option.bind_eq_some_iff.1 h
            by_cases e : x = y
            · rw [if_pos e] at h; exact ih _ _ h
            · rw [if_neg e] at h; simp only [Option.some.injEq, Lp.ret.injEq] at h; exact h.symm
          · rw [if_neg hi] at h; cases h
      have := this _ _ _ ho
      dsimp only at h
      rw [this] at h
      cases h
    | go u =>
      apply List.ext_getElem?
      intro j
      by_cases hj : j < a.length
      · exact same17_to a b _ 0 ho j (by omega) hj
      · rw [List.getElem?_eq_none (by omega), List.getElem?_eq_none (by omega)]
  · rw [if_neg hl] at h; cases h
theorem sameLog_ret {a b : Log} : ∀ (k i : Nat) o, waybilllaw17_sameLog.l1 a b k i = some (Lp.ret o) → o = some false := by
  intro k
  induction k with
  | zero => intro i o h; cases h
  | succ k ih =>
    intro i o h
    rw [waybilllaw17_sameLog.l1] at h
    by_cases hi : i < a.topics.length
    · rw [if_pos hi] at h
      obtain ⟨x, hx, h⟩ := Option.bind_eq_some_iff.1 h
      obtain ⟨y, hy, h⟩ := Option.bind_eq_some_iff.1 h
      by_cases e : x = y
      · rw [if_pos e] at h; exact ih _ _ h
      · rw [if_neg e] at h; simp only [Option.some.injEq, Lp.ret.injEq] at h; exact h.symm
    · rw [if_neg hi] at h; cases h
theorem sameLog_to (a b : Log) : ∀ (k i : Nat), waybilllaw17_sameLog.l1 a b k i = some (Lp.go ()) → ∀ j, i ≤ j → j < a.topics.length → a.topics[j]? = b.topics[j]?
  | 0, i, h => by cases h
  | k + 1, i, h => by
    rw [waybilllaw17_sameLog.l1] at h
    intro j hj hl
    rw [if_pos (by omega)] at h
    obtain ⟨x, hx, h⟩ := Option.bind_eq_some_iff.1 h
    obtain ⟨y, hy, h⟩ := Option.bind_eq_some_iff.1 h
    by_cases e : x = y
    · rw [if_pos e] at h
      rcases Nat.eq_or_lt_of_le hj with rfl | hj
      · rw [hx, hy, e]
      · exact sameLog_to a b k (i + 1) h j hj hl
    · rw [if_neg e] at h; cases h
theorem sameLog_true {a b : Log} (h : waybilllaw17_sameLog a b = some true) : a = b := by
  unfold waybilllaw17_sameLog at h
  by_cases ha : a.address = b.address
  · rw [if_pos ha, Option.bind_some] at h
    by_cases hl : a.topics.length = b.topics.length
    · rw [if_neg (by simp [hl])] at h
      obtain ⟨o, ho, h⟩ := Option.bind_eq_some_iff.1 h
      cases o with
      | ret o =>
        have := sameLog_ret _ _ _ ho
        dsimp only at h
        rw [this] at h
        cases h
      | go u =>
        dsimp only at h
        obtain ⟨r, hr, h⟩ := Option.bind_eq_some_iff.1 h
        obtain rfl := Option.some.inj h
        have ht : a.topics = b.topics := by
          apply List.ext_getElem?
          intro j
          by_cases hj : j < a.topics.length
          · exact sameLog_to a b _ 0 ho j (by omega) hj
          · rw [List.getElem?_eq_none (by omega), List.getElem?_eq_none (by omega)]
        have hd := same17_true hr
        obtain ⟨a1, a2, a3⟩ := a
        obtain ⟨b1, b2, b3⟩ := b
        dsimp only at ha ht hd
        rw [ha, ht, hd]
    · rw [if_pos (by simp [hl])] at h; cases h
  · rw [if_neg ha, Option.bind_some, if_pos rfl] at h; cases h
theorem sameLogs_ret {a b : List Log} : ∀ (k i : Nat) o, waybilllaw17_sameLogs.l1 a b k i = some (Lp.ret o) → o = some false := by
  intro k
  induction k with
  | zero => intro i o h; cases h
  | succ k ih =>
    intro i o h
    rw [waybilllaw17_sameLogs.l1] at h
    by_cases hi : i < a.length
    · rw [if_pos hi] at h
      obtain ⟨x, hx, h⟩ := Option.bind_eq_some_iff.1 h
      obtain ⟨y, hy, h⟩ := Option.bind_eq_some_iff.1 h
      obtain ⟨r, hr, h⟩ := Option.bind_eq_some_iff.1 h
      by_cases e : r = true
      · rw [if_pos e] at h; exact ih _ _ h
      · rw [if_neg e] at h; simp only [Option.some.injEq, Lp.ret.injEq] at h; exact h.symm
    · rw [if_neg hi] at h; cases h
theorem sameLogs_to (a b : List Log) : ∀ (k i : Nat), waybilllaw17_sameLogs.l1 a b k i = some (Lp.go ()) → ∀ j, i ≤ j → j < a.length → a[j]? = b[j]?
  | 0, i, h => by cases h
  | k + 1, i, h => by
    rw [waybilllaw17_sameLogs.l1] at h
    intro j hj hl
    rw [if_pos (by omega)] at h
    obtain ⟨x, hx, h⟩ := Option.bind_eq_some_iff.1 h
    obtain ⟨y, hy, h⟩ := Option.bind_eq_some_iff.1 h
    obtain ⟨r, hr, h⟩ := Option.bind_eq_some_iff.1 h
    by_cases e : r = true
    · rw [if_pos e] at h
      subst e
      rcases Nat.eq_or_lt_of_le hj with rfl | hj
      · rw [hx, hy, sameLog_true hr]
      · exact sameLogs_to a b k (i + 1) h j hj hl
    · rw [if_neg e] at h; cases h
theorem sameLogs_true {a b : List Log} (h : waybilllaw17_sameLogs a b = some true) : a = b := by
  unfold waybilllaw17_sameLogs at h
  by_cases hl : a.length = b.length
  · rw [if_pos hl] at h
    obtain ⟨o, ho, h⟩ := Option.bind_eq_some_iff.1 h
    cases o with
    | ret o =>
      have := sameLogs_ret _ _ _ ho
      dsimp only at h
      rw [this] at h
      cases h
    | go u =>
      apply List.ext_getElem?
      intro j
      by_cases hj : j < a.length
      · exact sameLogs_to a b _ 0 ho j (by omega) hj
      · rw [List.getElem?_eq_none (by omega), List.getElem?_eq_none (by omega)]
  · rw [if_neg hl] at h; cases h
def waybilllaw17_stillLogs (x y : List Log) : Option Bool := (waybilllaw17_sameLogs x y).bind fun r => if r = true then some true else none
theorem stillLogs_true {x y : List Log} {r : Bool} (h : waybilllaw17_stillLogs x y = some r) : x = y ∧ r = true ∧ waybilllaw17_sameLogs x y = some true := by
  unfold waybilllaw17_stillLogs at h
  obtain ⟨q, hq, h⟩ := Option.bind_eq_some_iff.1 h
  by_cases e : q = true
  · rw [if_pos e] at h
    subst e
    exact ⟨sameLogs_true hq, (Option.some.inj h).symm, hq⟩
  · rw [if_neg e] at h; cases h
end Go.Fw
namespace Go.Fw
set_option linter.unusedVariables false
set_option maxRecDepth 10000
theorem still17_loop (a : List (BitVec 8)) : ∀ (d i k : Nat), i + d = a.length + 70 → d < k → waybilllaw17_still.l1 a a k i = some (Lp.go ())
  | 0, i, k, h, hk => by
    obtain ⟨k, rfl⟩ : ∃ m, k = m + 1 := ⟨k - 1, by omega⟩
    rw [waybilllaw17_still.l1, if_neg (by rw [List.length_take, List.length_append, List.length_replicate]; omega)]
  | d + 1, i, k, h, hk => by
    obtain ⟨k, rfl⟩ : ∃ m, k = m + 1 := ⟨k - 1, by omega⟩
    have hT : (a ++ List.replicate 70 195#8).take (a.length + 70) = a ++ List.replicate 70 195#8 := List.take_of_length_le (by rw [List.length_append, List.length_replicate]; omega)
    have hl : (a ++ List.replicate 70 195#8).length = a.length + 70 := by rw [List.length_append, List.length_replicate]
    rw [waybilllaw17_still.l1, hT, if_pos (by omega)]
    by_cases h1 : i < a.length
    · rw [if_pos h1, List.getElem?_append_left h1, List.getElem?_eq_getElem h1, Option.bind_some, Option.bind_some, if_pos rfl, if_neg (by omega), Option.bind_some, if_neg (by decide)]
      exact still17_loop a d (i + 1) k (by omega) (by omega)
    · rw [if_neg h1, if_pos (by omega), List.getElem?_append_right (by omega), List.getElem?_replicate, if_pos (by omega), Option.bind_some, decide_eq_true rfl, Option.bind_some, if_neg (by decide)]
      exact still17_loop a d (i + 1) k (by omega) (by omega)
theorem still17_eq (a : List (BitVec 8)) : waybilllaw17_still a a = some true := by
  have hT : ((a ++ List.replicate 70 195#8).take (a.length + 70)).length = a.length + 70 := by rw [List.length_take, List.length_append, List.length_replicate]; omega
  have hl : (a ++ List.replicate 70 195#8).length = a.length + 70 := by rw [List.length_append, List.length_replicate]
  unfold waybilllaw17_still
  rw [if_pos rfl, if_pos (by omega), still17_loop a (a.length + 70) 0 _ (by omega) (by rw [hT]; omega), Option.bind_some]
end Go.Fw
namespace Go.Fw
set_option linter.unusedVariables false
set_option maxRecDepth 100000
def waybilllaw17_ReceiptWrites.l1 : Nat → (List (BitVec 8)) → (Nat) → Option ((List (BitVec 8)))
  | 0, _, _ => none
  | k148 + 1, l141, n146 => (if n146 < 99 then (if l141.length + ([2#8] : List (BitVec 8)).length ≤ 140737488355328 then (waybilllaw17_ReceiptWrites.l1 k148 (l141 ++ ([2#8] : List (BitVec 8))) (n146 + 1)) else none) else (some (l141)))
def waybilllaw17_ReceiptWrites.l2 : Nat → (List (BitVec 8)) → (Nat) → Option ((List (BitVec 8)))
  | 0, _, _ => none
  | k174 + 1, l167, n172 => (if n172 < l167.length then (l167[n172]?).bind fun x185 => (waybilllaw17_ReceiptWrites.l2 k174 (l167.set n172 (1#8)) (n172 + 1)) else (some (l167)))
def waybilllaw17_ReceiptWrites (a0 : Rcpt) : Option ((Bool)) := ((waybilllaw17_twin a0.logs).bind fun x13 => ((receipt_Encode (Rcpt.mk a0.kind (a0.rooted) a0.root a0.status a0.used a0.bloom x13)).bind fun (x31, x32) => ((receipt_Encode (Rcpt.mk a0.kind (a0.rooted) a0.root a0.status a0.used a0.bloom x13)).bind fun (x46, x47) => ((waybillref17_Encode a0).bind fun (x60, x61) => ((((waybilllaw17_same x31 x60).bind fun x190 => (if x190 = true then ((waybilllaw17_same x46 x60).bind fun x195 => (if x195 = true then ((waybilllaw17_num ((x32 : Nat) : Int)).bind fun x200 => (if x200 = ((x61 : Nat) : Int) then ((receipt_Check (Rcpt.mk a0.kind (a0.rooted) a0.root a0.status a0.used a0.bloom x13)).bind fun x207 => ((waybilllaw17_num ((x207 : Nat) : Int)).bind fun x212 => ((waybillref17_Check a0).bind fun x217 => (if x212 = ((x217 : Nat) : Int) then ((waybilllaw17_stillLogs x13 a0.logs).bind fun x223 => (some ((!x223)))) else (some (true)))))) else (some (true)))) else (some (true)))) else (some (true)))) : Option ((Bool))).bind fun p75 => (if p75 = true then (some false) else (((waybilllaw17_ReceiptWrites.l2 (x31.length - 0 + 2) x31 0) : Option ((List (BitVec 8)))).bind fun l87 => (if l87.length + ([2#8] : List (BitVec 8)).length ≤ 140737488355328 then (((waybilllaw17_ReceiptWrites.l1 (99 - 0 + 2) (l87 ++ ([2#8] : List (BitVec 8))) 0) : Option ((List (BitVec 8)))).bind fun l110 => ((((waybilllaw17_same x46 x60).bind fun x132 => (if x132 = true then (if l110.length = (l87.length + 100) then ((waybilllaw17_stillLogs x13 a0.logs).bind fun x138 => (some ((x138)))) else (some (false))) else (some (false)))) : Option ((Bool))).bind fun p125 => (some (p125)))) else none))))))))
end Go.Fw

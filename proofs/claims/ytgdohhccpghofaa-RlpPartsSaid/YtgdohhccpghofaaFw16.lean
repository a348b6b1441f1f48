/- Part of a proof over Ytgdohhccpghofaa: rules and contracts that the law's text uses. No condition. -/
import Derived.Test.YtgdohhccpghofaaFw15
namespace Go.Fw
open Go Go.RowKit
set_option linter.unusedVariables false
set_option linter.unusedSectionVars false
/-! Contracts: what is handed over (E), what stays (N), what is new (G). -/
theorem Mem.sinkAt {w0 w : World} {N A N2 B M0 : List Ent} (m : Mem w0 w N) (j k : Nat) (h1 : N.drop j = A ++ N2) (h2 : N2.drop k = B ++ M0) : Mem w0 w (N.take j ++ (N2.take k ++ ((A ++ B) ++ M0))) := by
  refine m.perm ?_
  have e1 : N = N.take j ++ (A ++ (N2.take k ++ (B ++ M0))) := by rw [← h2, List.take_append_drop, ← h1, List.take_append_drop]
  have h : (A ++ (N2.take k ++ (B ++ M0))).Perm (N2.take k ++ ((A ++ B) ++ M0)) := by
    have h1 := (List.perm_append_comm (l₁ := A) (l₂ := N2.take k)).append_right (B ++ M0)
    simpa only [List.append_assoc] using h1
  have h3 := List.Perm.append_left (N.take j) h
  rwa [← e1] at h3
theorem Mem.graft {w0 w w' : World} {G M : List Ent} (m : Mem w0 w' (G ++ allEnts w0 w)) (mM : Mem w0 w M) : Mem w0 w' (G ++ M) := by
  have hin : ∀ e ∈ M, ∀ b, e.1 = some b → ((some b, e.2) : Ent) ∈ allEnts w0 w := fun e he b hb => by
    obtain ⟨h1, h2⟩ := mM.ents e he b hb
    have hlt : b < w.heap.size := (Array.getElem?_eq_some_iff.1 h2).1
    refine List.mem_map.2 ⟨b - w0.heap.size, List.mem_range.2 (by omega), ?_⟩
    have e1 : w0.heap.size + (b - w0.heap.size) = b := by omega
    simp [e1, h2]
  have hap := List.pairwise_append.1 m.apart
  refine ⟨m.os, m.tape, m.output, m.size, m.old, fun e he b hb => ?_, List.pairwise_append.2 ⟨hap.1, mM.apart, fun g hg e he b hb hb' => hap.2.2 g hg _ (hin e he b hb') b hb rfl⟩⟩
  rcases List.mem_append.1 he with he | he
  · exact m.ents e (List.mem_append_left _ he) b hb
  · exact m.ents _ (List.mem_append_right _ (hin e he b hb)) b rfl

/-- From memory E ++ N it answers some v and leaves G ++ N, such that R. -/
def DoesG (P : Program) (f : FuncId) (args : List Value) (w0 : World) (E N : List Ent) (R : Value → List Ent → Prop) : Prop :=
  DoesJ P f args w0 (E ++ N) (fun v M' => ∃ G, R v G ∧ M' = G ++ N)

section
variable {P : Program} {n : Nat} {Q : Exit → Act → World → Prop} {w0 : World} {L : Slots} {M E N : List Ent} {f : FuncId} {args : List Value} {R R' : Value → List Ent → Prop}
theorem DoesG.of_mem (h : ∀ w, Mem w0 w (E ++ N) → DoesG P f args w0 E N R) : DoesG P f args w0 E N R := DoesJ.of_mem h
theorem DoesG.mono (h : DoesG P f args w0 E N R) (hh : ∀ v G, R v G → R' v G) : DoesG P f args w0 E N R' := DoesJ.mono h (fun v M' ⟨G, h1, h2⟩ => ⟨G, hh v G h1, h2⟩)
theorem Does.toG {v : Value} (h : Does P f args w0 N (τ := Unit) (fun _ => True) (fun _ => v) (fun _ => N)) : DoesG P f args w0 [] N (fun u G => u = v ∧ G = []) :=
  (Does.toJ h).mono fun u M' ⟨_, _, h1, h2⟩ => ⟨[], ⟨h1, rfl⟩, h2⟩
theorem DoesG.law {W : World} (h : DoesG P f args W [] [] R) (hR : ∀ v G, R v G → v = .bool true) : Calls P f args.toArray W fun e W' => e = .returned (.bool true) ∧ Below W.heap.size W W' :=
  DoesJ.law h (fun v M' ⟨G, h1, _⟩ => hR v G h1)
/-- An answer that is known. -/
theorem DoesG.to (h : DoesG P f args w0 [] N R) (v : Value) (hh : ∀ u G, R u G → u = v) : Does P f args w0 N (τ := Unit) (fun _ => True) (fun _ => v) (fun _ => N) :=
  DoesJ.to (M := N) h v (fun u M' ⟨G, h1, h2⟩ => ⟨hh u G h1, fun w m => by rw [h2] at m; exact m.appR⟩)
theorem DoesG.enter {fn : Func} {c : Code} (hf : P.funcs[f]? = some fn) (hb : fn.body = some c) (hn : fn.ntmps = n) (ha : Nat.ble args.length n = true) {M : List Ent} (hE : E ++ N = M)
    (h : CW P n (bodyPost P fn (EndsJ w0 (fun v M' => ∃ G, R v G ∧ M' = G ++ N))) w0 c (slotsFrom 0 args) M) : DoesG P f args w0 E N R := by
  subst hE
  exact DoesJ.enter hf hb hn ha h

/-! ### Return -/
def ResOk (P : Program) [Types P] (L : Slots) (M : List Ent) : List ResultVar → List Value → Prop
  | [], [] => True
  | .tmp t :: rs, v :: vs => lk L t = some v ∧ ResOk P L M rs vs
  | .cell p ty :: rs, v :: vs => (∃ b l te u, lk L p = some (ptr (some b) 0) ∧ (some b, blk l te) ∈ M ∧ tyU P ty = some u ∧ TypeDesc.agg u = true ∧ tyS P ty = some l.length ∧ v = .agg l.toArray) ∧ ResOk P L M rs vs
  | _, _ => False
def resF (tmps : Array Value) : ResultVar → Sem Value
  | .tmp t => pure (tmps.getD t undef)
  | .cell a t => do loadVar t (← asAddr (tmps.getD a undef))
theorem ResOk.run [Types P] {a : Act} {w : World} (f : Fr n L a) (m : Mem w0 w M) : ∀ (rs : List ResultVar) (vs : List Value), ResOk P L M rs vs →
    (rs.mapM (resF a.tmps)).run P w = .ok vs w
  | [], [], _ => by simp
  | [], _ :: _, h => by cases h
  | .tmp t :: rs, [], h => by cases h
  | .cell p ty :: rs, [], h => by cases h
  | .tmp t :: rs, v :: vs, h => by
    have ih := ResOk.run f m rs vs h.2
    have ht := f.get t v h.1
    have h1 : (resF a.tmps (.tmp t)).run P w = .ok v w := by simp [resF, ht]
    simp only [List.mapM_cons, Sem.run_bind, h1, ih, Result.andThen, Sem.run_pure]
  | .cell p ty :: rs, v :: vs, h => by
    obtain ⟨⟨b, l, te, u, h1, h2, h3, h4, h5, rfl⟩, h6⟩ := h
    have ih := ResOk.run f m rs vs h6
    have hp := f.get p _ h1
    have hload := loadVar_run (P := P) m h2 rfl h3 h4 h5 rfl
    simp only [Option.getD_some] at hload
    have h1 : (resF a.tmps (.cell p ty)).run P w = .ok (.agg l.toArray) w := by simp [resF, hp, ptr, asAddr, hload]
    simp only [List.mapM_cons, Sem.run_bind, h1, ih, Result.andThen, Sem.run_pure]
theorem ResOk.len [Types P] : ∀ (rs : List ResultVar) (vs : List Value), ResOk P L M rs vs → vs.length = rs.length
  | [], [], _ => rfl
  | [], _ :: _, h => by cases h
  | .tmp t :: rs, [], h => by cases h
  | .cell p ty :: rs, [], h => by cases h
  | .tmp t :: rs, v :: vs, h => by simp [ResOk.len rs vs h.2]
  | .cell p ty :: rs, v :: vs, h => by simp [ResOk.len rs vs h.2]
def tup : List Value → Value
  | [v] => v
  | vs => .tuple vs.toArray
theorem results_run {fn : Func} {rs : List ResultVar} {tmps : Array Value} {vs : List Value} {w : World} (hr : fn.results = rs.toArray) (h : (rs.mapM (resF tmps)).run P w = .ok vs w) : (results fn tmps).run P w = .ok (tup vs) w := by
  have e : results fn tmps = (do let vs ← fn.results.mapM (resF tmps); pure (if h : vs.size = 1 then vs[0] else .tuple vs)) := by
    unfold results
    congr 1
  rw [e, hr]
  simp [h, Result.andThen]
  split
  · rename_i h1
    match vs, h1 with
    | [v], _ => rfl
  · rename_i h1
    match vs, h1 with
    | [], _ => rfl
    | [v], h1 => exact absurd rfl h1
    | _ :: _ :: _, _ => rfl
theorem QW.retG [Types P] {fn : Func} {rs : List ResultVar} (vs : List Value) {v : Value} (G : List Ent) (hr : fn.results = rs.toArray) (hok : ResOk P L M rs vs) (hv : tup vs = v) (hR : R v G) (hM : ∀ w, Mem w0 w M → Mem w0 w (G ++ N)) (e : Exit) (he : e = .ret ∨ e = .normal) :
    QW n (bodyPost P fn (EndsJ w0 (fun v M' => ∃ G, R v G ∧ M' = G ++ N))) w0 e L M := QW.intro fun a w f m => by
  have hrun := results_run (tmps := a.tmps) hr (ResOk.run (P := P) f m rs vs hok)
  rw [hv] at hrun
  have key : bodyPost P fn (EndsJ w0 (fun v M' => ∃ G, R v G ∧ M' = G ++ N)) .ret a w := ⟨f.nd, v, hrun, (v, G ++ N), ⟨G, hR, rfl⟩, rfl, hM w m⟩
  rcases he with rfl | rfl
  · exact key
  · exact key
end
end Go.Fw

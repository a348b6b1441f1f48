/- Part of a proof over YtogfjkomkpbjpaaDoor: rules and contracts that the law's text uses. No condition. -/
import Derived.Test.YtogfjkomkpbjpaaDoorFw30
namespace Go.Fw
open Go Go.RowKit
set_option linter.unusedVariables false
set_option linter.unusedSectionVars false
/-! A block handed over in a region that draws its order. -/
def others (w0 w : World) (b : Nat) : List Ent := (allEnts w0 w).filter (fun e => decide (e.1 ≠ some b))
theorem Mem.graftE {w0 w w' : World} {G M : List Ent} {b : Nat} (m : Mem w0 w' (G ++ others w0 w b)) (mM : Mem w0 w M) (hb : ∀ e ∈ M, e.1 ≠ some b) : Mem w0 w' (G ++ M) := by
  have hin : ∀ e ∈ M, ∀ b', e.1 = some b' → ((some b', e.2) : Ent) ∈ others w0 w b := fun e he b' hb' => by
    obtain ⟨h1, h2⟩ := mM.ents e he b' hb'
    have hlt : b' < w.heap.size := (Array.getElem?_eq_some_iff.1 h2).1
    have hall : ((some b', e.2) : Ent) ∈ allEnts w0 w := by
      refine List.mem_map.2 ⟨b' - w0.heap.size, List.mem_range.2 (by omega), ?_⟩
      have e1 : w0.heap.size + (b' - w0.heap.size) = b' := by omega
      simp [e1, h2]
    exact List.mem_filter.2 ⟨hall, decide_eq_true (by have := hb e he; rw [hb'] at this; exact this)⟩
  have hap := List.pairwise_append.1 m.apart
  refine ⟨m.os, m.tape, m.output, m.size, m.old, fun e he b' hb' => ?_, List.pairwise_append.2 ⟨hap.1, mM.apart, fun g hg e he b' hb1 hb2 => hap.2.2 g hg _ (hin e he b' hb2) b' hb1 rfl⟩⟩
  rcases List.mem_append.1 he with he | he
  · exact m.ents e (List.mem_append_left _ he) b' hb'
  · exact m.ents _ (List.mem_append_right _ (hin e he b' hb')) b' rfl
theorem Mem.others {w0 w : World} {b : Nat} {o : Obj} {M : List Ent} (m : Mem w0 w ((some b, o) :: M)) : Mem w0 w ((some b, o) :: others w0 w b) := by
  have ma := m.all
  have hf : ∀ e ∈ Go.Fw.others w0 w b, e.1 ≠ some b := fun e he => of_decide_eq_true (List.mem_filter.1 he).2
  refine ⟨m.os, m.tape, m.output, m.size, m.old, fun e he b' hb' => ?_, List.pairwise_cons.2 ⟨fun e he b' h1 h2 => ?_, ma.apart.sublist List.filter_sublist⟩⟩
  · rcases List.mem_cons.1 he with rfl | he
    · exact m.ents _ (List.mem_cons_self ..) b' hb'
    · exact ma.ents e (List.mem_filter.1 he).1 b' hb'
  · exact hf e he (h2.trans h1.symm)
section
variable {P : Program} {n : Nat} {Q : Exit → Act → World → Prop} {w0 : World} {L : Slots} {M R : List Ent}
variable {ops : Array Oper} {hard : List Nat} {f : Nat} {done : Array Bool} {op : Op} {ty : TypeId} {pos : String} {aft : Array Edge} {g : Option (Nat × Bool)} {d : Nat} {v : Value}
theorem XW.callE (i : Nat) {fn : FuncId} {xs : List Operand} {ats : Array TypeId} {args : List Value} {Rr : Value → List Ent → Prop} {b : Nat} {o : Obj} (ho : ops[i]? = some ⟨some d, .call ⟨.value (.func fn), xs.toArray, ats⟩, ty, pos, aft, g⟩) (hr : (Region.ready .any ops done == [i] && hard.contains i) = true) (hw : Wt ops L g = true)
    (hc : ∀ (args : Array Value) (w : World), (callFunc fn args).run P w = .ok (.enter fn args) w) (hxs : evs L xs = some args) (hdo : ∀ N, (∀ w, Mem w0 w N → Mem w0 w M) → DoesG P fn args w0 [(some b, o)] N Rr) (hMR : ∀ w, Mem w0 w M → Mem w0 w R)
    (hd : Nat.blt d n = true) (k : ∀ v G, Rr v G → XW P n ops Q w0 R hard f (done.setIfInBounds i true) ((d, v) :: L) (G ++ M)) : XW P n ops Q w0 R hard (f + 1) done L ((some b, o) :: M) := by
  unfold XW at *
  intro hR hB inv a w fr mm
  simp only [Bool.and_eq_true, beq_iff_eq] at hr
  obtain ⟨hr, hi⟩ := hr
  have him : i < ops.size := (Array.getElem?_eq_some_iff.1 ho).1
  have hne : ∀ e ∈ M, e.1 ≠ some b := fun e he h => (List.pairwise_cons.1 mm.apart).1 e he b rfl h
  refine ⟨by rw [hr]; simp, fun j hj => ?_⟩
  rw [hr] at hj
  obtain rfl : j = i := by simpa using hj
  refine ⟨him, _, ho, .inl ⟨wt_spec fr hw, ?_⟩⟩
  have hev := evs_map (fun x u hx => fr.eval hx) xs args hxs
  have hrun : (execOp a.eval ⟨some d, .call ⟨.value (.func fn), xs.toArray, ats⟩, ty, pos, aft, g⟩).run P w = .ok (.enter fn args.toArray) w := by
    simp [execOp, resolve, Deferred.ofValue, Act.eval, invoke, hev, hc]
  rw [hrun]
  refine (hdo (others w0 w b) (fun w2 m2 => by have := Mem.graftE (G := []) m2 mm.tail hne; exact this) w (by simpa using mm.others)).mono ?_
  rintro e w2 ⟨q, ⟨G, h1, h2⟩, rfl, m'⟩
  have m' : Mem w0 w2 (G ++ others w0 w b) := by have m2 := m'; rwa [show (fun q : Value × List Ent => q.2) q = G ++ others w0 w b from h2] at m2
  have m3 := m'.graftE mm.tail hne
  refine ⟨_, rfl, ?_, (k q.1 G h1) (fun w m => hMR w m.appR) hB (inv.set (by rw [hr]; simp) him) _ _ (fr.put hd _) m3⟩
  unfold Rl
  rw [if_pos hi]
  exact fun _ => hMR _ m3.appR
end
end Go.Fw

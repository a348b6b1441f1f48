/- Part of a proof: rules that its law uses. -/
import Derived.Test.YtgonajfngmeanaaDoorFw8
import Derived.Test.YtgonajfngmeanaaDoorFw6
namespace Go.Fw
open Go Go.RowKit
set_option linter.unusedVariables false
def Upw (w0 w w' : World) : Prop := ∀ M, Mem w0 w M → Mem w0 w' M
theorem Upw.refl (w0 w : World) : Upw w0 w w := fun _ h => h
theorem Upw.trans {w0 a b c : World} (h : Upw w0 a b) (k : Upw w0 b c) : Upw w0 a c := fun M m => k M (h M m)
theorem Upw.alloc (w0 w : World) (o : Obj) : Upw w0 w (w.alloc o) := fun M m => (m.alloc o).tail
def allEnts (w0 w : World) : List Ent := (List.range (w.heap.size - w0.heap.size)).map fun k => (some (w0.heap.size + k), (w.heap[w0.heap.size + k]?).getD default)
theorem Mem.all {w0 w : World} {M : List Ent} (m : Mem w0 w M) : Mem w0 w (allEnts w0 w) := by
  refine ⟨m.os, m.tape, m.output, m.size, m.old, fun e he b hb => ?_, ?_⟩
  · obtain ⟨k, hk, rfl⟩ := List.mem_map.1 he
    have hk' := List.mem_range.1 hk
    simp at hb
    subst hb
    refine ⟨by omega, ?_⟩
    have h : w0.heap.size + k < w.heap.size := by omega
    simp [h]
  · unfold allEnts
    rw [List.pairwise_map]
    refine List.Pairwise.imp ?_ (List.pairwise_lt_range (n := w.heap.size - w0.heap.size))
    intro a b hab x hx hy
    simp at hx hy
    omega
theorem Upw.of_all {w0 w w' : World} (h : Mem w0 w' (allEnts w0 w)) : Upw w0 w w' := fun M m => by
  refine ⟨h.os, h.tape, h.output, h.size, h.old, fun e he b hb => ?_, m.apart⟩
  obtain ⟨h1, h2⟩ := m.ents e he b hb
  refine ⟨h1, ?_⟩
  have hlt : b < w.heap.size := (Array.getElem?_eq_some_iff.1 h2).1
  have hm : ((some b, e.2) : Ent) ∈ allEnts w0 w := by
    refine List.mem_map.2 ⟨b - w0.heap.size, List.mem_range.2 (by omega), ?_⟩
    have e1 : w0.heap.size + (b - w0.heap.size) = b := by omega
    simp [e1, h2]
  exact (h.ents _ hm b rfl).2
section
variable {P : Program} {ops : Array Oper} {md : Region.Mode}
def stp (P : Program) (r : Result Next) (K : Value → World → Prop) : Prop := match r with
  | .ok (.value u) w2 => K u w2
  | .ok .skip w2 => K undef w2
  | .ok (.enter f args) w1 => Calls P f args w1 fun e w2 => ∃ u, e = .returned u ∧ K u w2
  | _ => False
theorem stp.mono {r : Result Next} {K K' : Value → World → Prop} (h : ∀ u w, K u w → K' u w) (hh : stp P r K) : stp P r K' := by
  unfold stp at *
  split at hh
  · exact h _ _ hh
  · exact h _ _ hh
  · exact hh.mono fun e w2 ⟨u, h1, h2⟩ => ⟨u, h1, h _ _ h2⟩
  · exact hh.elim
theorem stp.wp {o : Oper} {a : Act} {w : World} {K : Value → World → Prop} {K' : Act → World → Prop} {Q : Exit → Act → World → Prop} (h : ∀ u w2, K u w2 → K' (a.put o.dst u) w2) (hh : stp P ((execOp a.eval o).run P w) K) : o.wp P a w K' Q := by
  unfold Oper.wp
  generalize (execOp a.eval o).run P w = r at *
  unfold stp at hh
  split at hh
  · exact h _ _ hh
  · exact h _ _ hh
  · refine hh.mono fun e w2 ⟨u, h1, h2⟩ => ?_
    subst h1
    exact h _ _ h2
  · exact hh.elim
def UH (P : Program) (md : Region.Mode) (ops : Array Oper) (n : Nat) (w0 : World) (E : Array Bool → Act → World → Prop) : Nat → Array Bool → Act → World → Prop
  | 0, done, a, w => ∀ w', Upw w0 w w' → E done a w'
  | f + 1, done, a, w => ∀ w', Upw w0 w w' → Region.ready md ops done ≠ [] ∧ ∀ i, i ∈ Region.ready md ops done → i < n ∧ ∃ o, ops[i]? = some o ∧
      ((Region.wanted o (yielded ops a.tmps) = true ∧ stp P ((execOp a.eval o).run P w') (fun u w2 => Upw w0 w' w2 ∧ UH P md ops n w0 E f (done.setIfInBounds i true) (a.put o.dst u) w2)) ∨
       (Region.wanted o (yielded ops a.tmps) = false ∧ UH P md ops n w0 E f (done.setIfInBounds i true) (a.put o.dst undef) w'))
theorem UH.up {n : Nat} {w0 : World} {E : Array Bool → Act → World → Prop} {f : Nat} {done : Array Bool} {a : Act} {w w' : World} (h : UH P md ops n w0 E f done a w) (hu : Upw w0 w w') : UH P md ops n w0 E f done a w' := by
  cases f with
  | zero => exact fun w2 h2 => h w2 (hu.trans h2)
  | succ f => exact fun w2 h2 => h w2 (hu.trans h2)
theorem UH.any {n g : Nat} {w0 : World} {E : Array Bool → Act → World → Prop} {Q : Exit → Act → World → Prop} (hE : ∀ done a w, E done a w → wpAny P md ops Q g done a w) :
    ∀ (f : Nat) (done : Array Bool) (a : Act) (w : World), UH P md ops n w0 E f done a w → wpAny P md ops Q (f + g) done a w
  | 0, done, a, w, h => by simpa using hE done a w (h w (Upw.refl _ _))
  | f + 1, done, a, w, h => by
    have hfg : f + 1 + g = (f + g) + 1 := by omega
    rw [hfg]
    obtain ⟨h1, h2⟩ := h w (Upw.refl _ _)
    refine ⟨fun e => absurd e h1, fun i hi => ?_⟩
    obtain ⟨_, o, ho, h3⟩ := h2 i hi
    unfold wpOp
    simp only [ho]
    rcases h3 with ⟨hw, hs⟩ | ⟨hw, hs⟩
    · rw [if_pos hw]
      exact .inl (hs.wp fun u w2 ⟨_, q⟩ => UH.any hE f _ _ _ q)
    · rw [if_neg (by simp [hw])]
      exact UH.any hE f _ _ _ hs
def Yu (P : Program) (ops : Array Oper) (w0 : World) (C : World → Prop) (o : Oper) (v : Value) (a : Act) : Prop :=
  (Region.wanted o (yielded ops a.tmps) = true ∧ ∀ w, C w → stp P ((execOp a.eval o).run P w) (fun u w2 => u = v ∧ Upw w0 w w2)) ∨
  (Region.wanted o (yielded ops a.tmps) = false ∧ v = undef)
theorem UH.take {n i : Nat} {w0 : World} {oi : Oper} {v : Value} {C : World → Prop} {E : Array Bool → Act → World → Prop} (hC : ∀ w w', C w → Upw w0 w w' → C w') (hi : ops[i]? = some oi) (hsel : ∀ (j : Nat) (o : Oper) cs b, ops[j]? = some o → o.op ≠ .select cs b)
    (hT : n = ops.size ∨ (Region.sinkB md ops n = true ∧ Region.chainB md ops n = true ∧ n < ops.size)) (hin : i < n) (hE : ∀ done a w, E done a w → ∀ j ∈ Region.ready md ops done, n ≤ j) :
    ∀ (f : Nat) (done : Array Bool) (a : Act) (w : World), C w → HeadInv md ops n done →
      (∀ j oj, ops[j]? = some oj → j ≠ i → done.getD j true = false → (∀ e ∈ oj.after, Region.binds md e = true → e.on ≠ i) → oi.apart ops oj = true) →
      i ∈ Region.ready md ops done → Yu P ops w0 C oi v a → UH P md ops n w0 E f (done.setIfInBounds i true) (a.put oi.dst v) w → UH P md ops n w0 E (f + 1) done a w := by
  have hlt : ∀ (done : Array Bool), HeadInv md ops n done → i ∈ Region.ready md ops done → ∀ j ∈ Region.ready md ops done, j < n := fun done inv hr j hj => by
    rcases hT with rfl | ⟨hs, hc, hn⟩
    · obtain ⟨_, oj, hoj, _⟩ := mem_ready.1 hj
      exact (Array.getElem?_eq_some_iff.1 hoj).1
    · exact Nat.lt_of_not_le fun hle => tail_waits hs hc hn inv _ i rfl hin (mem_ready.1 hr).1 j hle hj
  have self : ∀ (f : Nat) (done : Array Bool) (a : Act) (w w' : World), C w → Upw w0 w w' → Yu P ops w0 C oi v a → UH P md ops n w0 E f (done.setIfInBounds i true) (a.put oi.dst v) w →
      ∃ o, ops[i]? = some o ∧ ((Region.wanted o (yielded ops a.tmps) = true ∧ stp P ((execOp a.eval o).run P w') (fun u w2 => Upw w0 w' w2 ∧ UH P md ops n w0 E f (done.setIfInBounds i true) (a.put o.dst u) w2)) ∨
       (Region.wanted o (yielded ops a.tmps) = false ∧ UH P md ops n w0 E f (done.setIfInBounds i true) (a.put o.dst undef) w')) := by
    intro f done a w w' hw hu hy H
    refine ⟨oi, hi, ?_⟩
    rcases hy with ⟨h1, h2⟩ | ⟨h1, rfl⟩
    · exact .inl ⟨h1, (h2 w' (hC w w' hw hu)).mono fun u w2 ⟨e, q⟩ => ⟨q, by subst e; exact H.up (hu.trans q)⟩⟩
    · exact .inr ⟨h1, H.up hu⟩
  intro f
  induction f with
  | zero =>
    intro done a w hw inv _ hr hy H w' hu
    refine ⟨(fun e => by rw [e] at hr; cases hr), fun j hj => ⟨hlt done inv hr j hj, ?_⟩⟩
    by_cases e : j = i
    · subst e; exact self 0 done a w w' hw hu hy H
    · have := hE _ _ _ (H w (Upw.refl _ _)) j (ready_mono hj e)
      have := hlt done inv hr j hj
      omega
  | succ f ih =>
    intro done a w hw inv hfree hr hy H w' hu
    refine ⟨(fun e => by rw [e] at hr; cases hr), fun j hj => ⟨hlt done inv hr j hj, ?_⟩⟩
    by_cases e : j = i
    · subst e; exact self (f + 1) done a w w' hw hu hy H
    · obtain ⟨hju, oj, hoj, hall⟩ := mem_ready.1 hj
      have hno : ∀ e ∈ oj.after, Region.binds md e = true → e.on ≠ i := fun x hx hb hxi => by
        have q := hall x hx hb
        rw [hxi, getD_both (mem_ready.1 hr).1] at q
        cases q
      obtain ⟨h1, h2, h3⟩ := Oper.apart_spec (hfree j oj hoj e hju hno)
      have hsi : ∀ cs b, oi.op ≠ .select cs b := fun cs b => hsel i oi cs b hi
      have hsj : ∀ cs b, oj.op ≠ .select cs b := fun cs b => hsel j oj cs b hoj
      have keep : ∀ u, Yu P ops w0 C oi v (a.put oj.dst u) := fun u => by
        unfold Yu at *
        rw [execOp_put oi hsi a oj.dst u h3, wanted_put oi a oj.dst u h3]
        exact hy
      obtain ⟨_, o', ho', step⟩ := (H w' hu).2 j (ready_mono hj e)
      obtain rfl : oj = o' := Option.some.inj (hoj.symm.trans ho')
      rw [wanted_put oj a oi.dst v h1, execOp_put oj hsj a oi.dst v h1] at step
      have next : ∀ (u : Value) (w2 : World), Upw w0 w' w2 → UH P md ops n w0 E f ((done.setIfInBounds i true).setIfInBounds j true) ((a.put oi.dst v).put oj.dst u) w2 → UH P md ops n w0 E (f + 1) (done.setIfInBounds j true) (a.put oj.dst u) w2 := fun u w2 hu2 q => by
        refine ih _ _ _ (hC w w2 hw (hu.trans hu2)) (inv.set hj (hlt done inv hr j hj)) (fun k ok hk hki hku hnk => hfree k ok hk hki ?_ hnk) (ready_mono hr (Ne.symm e)) (keep u) ?_
        · by_cases hjk : j = k
          · subst hjk; exact hju
          · rwa [getD_set_ne true hjk] at hku
        · rw [Array.setIfInBounds_comm _ _ e, ← Act.put_comm a v u h2]
          exact q
      refine ⟨oj, hoj, ?_⟩
      rcases step with ⟨hw', hs⟩ | ⟨hw', hs⟩
      · exact .inl ⟨hw', hs.mono fun u w2 ⟨q1, q2⟩ => ⟨q1, next u w2 q1 q2⟩⟩
      · exact .inr ⟨hw', next undef w' (Upw.refl _ _) hs⟩
end
section
variable {P : Program} {n : Nat} {Q : Exit → Act → World → Prop} {w0 : World} {L : Slots} {M : List Ent}
def UE (P : Program) (ops : Array Oper) (Q : Exit → Act → World → Prop) (m : Nat) (tail : List Oper) (done : Array Bool) (a : Act) (w : World) : Prop := Region.seqB .any ops tail.length m done = true ∧ wpList P ops Q tail a w
def UB (ops : Array Oper) (m : Nat) : Bool := Region.noSelect ops && (decide (m = ops.size) || (Region.sinkB .any ops m && Region.chainB .any ops m && decide (m < ops.size)))
def UW (P : Program) (n : Nat) (ops : Array Oper) (Q : Exit → Act → World → Prop) (w0 : World) (tail : List Oper) (m f : Nat) (done : Array Bool) (L : Slots) (M : List Ent) : Prop :=
  UB ops m = true → HeadInv .any ops m done → ∀ a w, Fr n L a → Mem w0 w M → UH P .any ops m w0 (UE P ops Q m tail) f done a w
theorem CW.drawsU {id : Nat} {l : List Oper} (k : Nat) (hm : P.follows .mixedOrders = true) (hB : UB l.toArray k = true) (hl : Nat.ble k l.length = true) (h : UW P n l.toArray Q w0 (l.drop k) k k (Array.replicate l.length false) L M) : CW P n Q w0 (.region id l.toArray true) L M :=
  CW.intro fun a w f m => by
    have hk : k ≤ l.length := by simpa using hl
    have inv : HeadInv .any l.toArray k (Array.replicate l.length false) :=
      ⟨by simp, (fun j oj _ q => by rw [getD_replicate_false] at q; cases q), fun t _ ht => getD_in (by simpa using ht) (getD_replicate_false _ _)⟩
    have H := h hB inv a _ f (m.like (w' := { w with drawn := w.drawn + 1 }) rfl rfl rfl rfl)
    refine wp_region_any hm ?_
    have R := UH.any (Q := Q) (g := l.length - k) (fun done a' w' q => by
      have s := wpAny_of_seq (md := .any) (Q' := Q) (l.drop k) k done a' w' (fun j => by simp [List.getElem?_drop]) q.1 q.2
      rwa [List.length_drop] at s) _ _ _ _ H
    rw [show k + (l.length - k) = l.length by omega] at R
    simpa using R
variable {ops : Array Oper} {tail : List Oper} {m f : Nat} {done : Array Bool} {op : Op} {ty : TypeId} {pos : String} {aft : Array Edge} {g : Option (Nat × Bool)} {d : Nat} {v : Value}
theorem UW.nil (hs : Region.seqB .any ops tail.length m done = true) (h : OW P n ops Q w0 tail L M) : UW P n ops Q w0 tail m 0 done L M := fun _ _ a w fr mm w' hu => ⟨hs, h.elim a w' fr (hu _ mm)⟩
def UR (ops : Array Oper) (m : Nat) (done : Array Bool) (i : Nat) : Bool := (Region.ready .any ops done).contains i && Region.free .any ops done i && Nat.blt i m
theorem UW.take (i : Nat) {o : Oper} {C : World → Prop} (hC : ∀ w w', C w → Upw w0 w w' → C w') (hMC : ∀ w, Mem w0 w M → C w) (hr : UR ops m done i = true) (ho : ops[i]? = some o) (v : Value) (hy : ∀ a, Fr n L a → Yu P ops w0 C o v a)
    (k : ∀ a w, Fr n L a → Mem w0 w M → UB ops m = true → HeadInv .any ops m (done.setIfInBounds i true) → UH P .any ops m w0 (UE P ops Q m tail) f (done.setIfInBounds i true) (a.put o.dst v) w) : UW P n ops Q w0 tail m (f + 1) done L M := fun hB inv a w fr mm => by
  simp only [UR, Bool.and_eq_true] at hr
  obtain ⟨⟨h1, h2⟩, h3⟩ := hr
  have hr' : i ∈ Region.ready .any ops done := by simpa using h1
  have him : i < m := by simpa using h3
  have hB' := hB
  simp only [UB, Bool.and_eq_true, Bool.or_eq_true, decide_eq_true_eq] at hB'
  exact UH.take (n := m) hC ho (Region.noSelect_spec hB'.1) (hB'.2.imp id fun ⟨⟨a, b⟩, c⟩ => ⟨a, b, c⟩) him (fun done' a' w' q => seqB_ready q.1) f done a w (hMC w mm) inv (Region.free_spec ho h2) hr' (hy a fr) (k a w fr mm hB (inv.set hr' him))
def Wt (ops : Array Oper) (L : Slots) : Option (Nat × Bool) → Bool
  | none => true
  | some (j, b) => match yl ops L j with | some (.bool c) => c == b | _ => false
def Sk (ops : Array Oper) (L : Slots) : Option (Nat × Bool) → Bool
  | none => false
  | some (j, b) => match yl ops L j with | some (.bool c) => !(c == b) | some _ => true | none => false
theorem wt_spec {a : Act} (fr : Fr n L a) (h : Wt ops L g = true) : Region.wanted ⟨some d, op, ty, pos, aft, g⟩ (yielded ops a.tmps) = true := by
  unfold Wt at h
  split at h
  · rfl
  · split at h
    · rename_i c hy
      simp [Region.wanted, yielded_of fr hy]
      simpa using h
    · cases h
theorem sk_spec {a : Act} (fr : Fr n L a) (h : Sk ops L g = true) : Region.wanted ⟨some d, op, ty, pos, aft, g⟩ (yielded ops a.tmps) = false := by
  unfold Sk at h
  split at h
  · cases h
  · split at h
    · rename_i c hy
      simp [Region.wanted, yielded_of fr hy]
      simpa using h
    · rename_i y hn hy
      simp only [Region.wanted, yielded_of fr hy]
      cases y <;> simp_all
    · cases h
theorem UW.rv (i : Nat) (ho : ops[i]? = some ⟨some d, op, ty, pos, aft, g⟩) (hr : UR ops m done i = true) (hw : Wt ops L g = true) (hop : RV P w0 L M op v) (hd : Nat.blt d n = true) (k : UW P n ops Q w0 tail m f (done.setIfInBounds i true) ((d, v) :: L) M) : UW P n ops Q w0 tail m (f + 1) done L M :=
  UW.take i (C := fun w => Mem w0 w M) (fun w w' h u => u _ h) (fun _ h => h) hr ho v (fun a fr => .inl ⟨wt_spec fr hw, fun w mm => by rw [hop a.eval w (fun x u hx => fr.eval hx) mm _ rfl]; exact ⟨rfl, Upw.refl _ _⟩⟩) (fun a w fr mm hB inv => k hB inv _ _ (fr.put hd v) mm)
theorem UW.skip (i : Nat) (ho : ops[i]? = some ⟨some d, op, ty, pos, aft, g⟩) (hr : UR ops m done i = true) (hw : Sk ops L g = true) (hd : Nat.blt d n = true) (k : UW P n ops Q w0 tail m f (done.setIfInBounds i true) ((d, undef) :: L) M) : UW P n ops Q w0 tail m (f + 1) done L M :=
  UW.take i (C := fun w => Mem w0 w M) (fun w w' h u => u _ h) (fun _ h => h) hr ho undef (fun a fr => .inr ⟨sk_spec fr hw, rfl⟩) (fun a w fr mm hB inv => k hB inv _ _ (fr.put hd undef) mm)
theorem UW.call (i : Nat) {fn : FuncId} {xs : List Operand} {ats : Array TypeId} {args : List Value} {τ : Type} {I : τ → Prop} {u : τ → Value} (v : Value) (ho : ops[i]? = some ⟨some d, .call ⟨.value (.func fn), xs.toArray, ats⟩, ty, pos, aft, g⟩) (hr : UR ops m done i = true) (hw : Wt ops L g = true)
    (hc : ∀ (args : Array Value) (w : World), (callFunc fn args).run P w = .ok (.enter fn args) w) (hxs : evs L xs = some args) (hdo : ∀ M', (∀ w, Mem w0 w M' → Mem w0 w M) → Does P fn args w0 M' I u (fun _ => M')) (hu : ∀ x, I x → u x = v)
    (hd : Nat.blt d n = true) (k : UW P n ops Q w0 tail m f (done.setIfInBounds i true) ((d, v) :: L) M) : UW P n ops Q w0 tail m (f + 1) done L M :=
  UW.take i (C := fun w => Mem w0 w M) (fun w w' h u => u _ h) (fun _ h => h) hr ho v (fun a fr => .inl ⟨wt_spec fr hw, fun w mm => by
    have hev := evs_map (fun x u hx => fr.eval hx) xs args hxs
    have hrun : (execOp a.eval ⟨some d, .call ⟨.value (.func fn), xs.toArray, ats⟩, ty, pos, aft, g⟩).run P w = .ok (.enter fn args.toArray) w := by
      simp [execOp, resolve, Deferred.ofValue, Act.eval, invoke, hev, hc]
    rw [hrun]
    refine (hdo (allEnts w0 w) (fun w2 m2 => Upw.of_all m2 _ mm) w mm.all).mono ?_
    rintro e w' ⟨x, hI, rfl, m'⟩
    exact ⟨_, rfl, hu x hI, Upw.of_all m'⟩⟩) (fun a w fr mm hB inv => k hB inv _ _ (fr.put hd v) mm)
def NV (P : Program) (w0 : World) (L : Slots) (M : List Ent) (op : Op) (fv : Nat → Value) (l : List Value) (te : TypeId) : Prop :=
  ∀ (ρ : Operand → Value) (w : World), (∀ x u, ev L x = some u → ρ x = u) → Mem w0 w M → ∀ o : Oper, o.op = op → (execOp ρ o).run P w = .ok (.value (fv w.heap.size)) (w.alloc (blk l te))
theorem UW.new (i : Nat) {l : List Value} {te : TypeId} {fv : Nat → Value} (ho : ops[i]? = some ⟨some d, op, ty, pos, aft, g⟩) (hr : (Region.ready .any ops done == [i] && Nat.blt i m) = true) (hw : Wt ops L g = true) (hop : NV P w0 L M op fv l te) (hd : Nat.blt d n = true)
    (k : ∀ b : Nat, UW P n ops Q w0 tail m f (done.setIfInBounds i true) ((d, fv b) :: L) ((some b, blk l te) :: M)) : UW P n ops Q w0 tail m (f + 1) done L M := fun hB inv a w fr mm w' hu => by
  simp only [Bool.and_eq_true, beq_iff_eq] at hr
  obtain ⟨hr, hi⟩ := hr
  have hi' : i < m := by simpa using hi
  refine ⟨by rw [hr]; simp, fun j hj => ?_⟩
  rw [hr] at hj
  obtain rfl : j = i := by simpa using hj
  refine ⟨hi', _, ho, .inl ⟨wt_spec fr hw, ?_⟩⟩
  rw [hop a.eval w' (fun x u hx => fr.eval hx) (hu _ mm) _ rfl]
  exact ⟨Upw.alloc _ _ _, k _ hB (inv.set (by rw [hr]; simp) hi') _ _ (fr.put hd _) ((hu _ mm).alloc _)⟩
theorem UW.elim (h : UW P n ops Q w0 tail m f done L M) : UB ops m = true → HeadInv .any ops m done → ∀ a w, Fr n L a → Mem w0 w M → UH P .any ops m w0 (UE P ops Q m tail) f done a w := h
attribute [irreducible] UW
end
section
variable {P : Program} [Types P] {w0 : World} {L : Slots} {M : List Ent} {t e : TypeId} {x : Operand} {v : Value}
theorem NV.bs {i : TI} {len : Nat} {parts : Array (Nat × Operand)} {vs : List (Nat × Value)} {cs : List Value} (hp : ∀ ρ : Operand → Value, (∀ x u, ev L x = some u → ρ x = u) → parts.toList.map (fun p => (p.1, ρ p.2)) = vs) (ht : tyU P t = some (.slice e)) (hi : ty P e = some i) (hpos : 0 < len * i.sz) (hle : len * i.sz ≤ 16777216)
    (hf : Instr.fill (fun j => some (j * i.sz, i.sz)) (madeCells i.z.cells (len * i.sz)) vs = some cs.toArray) : NV P w0 L M (.buildSlice t len parts) (fun b => sl (some b) 0 len len) cs e := fun ρ w hρ m o ho => by
  obtain ⟨_, ti, h1, h2, h3, h4⟩ := ty_ok hi
  have e1 := hp ρ hρ
  have e2 : ¬ (16777216 < len * i.sz) := by omega
  have e3 : ¬ (len * i.sz = 0) := by omega
  unfold madeCells at hf
  simp [execOp, ho, Instr.buildSlice, tyU_run ht, Go.sizeOf, typeInfo, zeroValue, h1, h2, h4, e1, e2, e3, hf, newRow, sl, blk]
theorem NV.bs1 {i : TI} {z : Value} (hx : ev L x = some v) (h1 : v.oneCell' = true) (ht : tyU P t = some (.slice e)) (hi : ty P e = some i) (hs : i.sz = 1) (hz : i.z.cells = #[z]) : NV P w0 L M (.buildSlice t 1 #[(0, x)]) (fun b => sl (some b) 0 1 1) [v] e :=
  NV.bs (i := i) (vs := [(0, v)]) (cs := [v]) (fun ρ hρ => by simp [hρ x v hx]) ht hi (by rw [hs]; decide) (by rw [hs]; decide) (by
    rw [hs, hz]
    have : madeCells #[z] (1 * 1) = #[z] := by
      apply Array.ext'
      rw [toList_madeCells_one]
      rfl
    rw [this]
    simp [Instr.fill, cells_one h1])
theorem NV.bsN {i : TI} {z : Value} {len : Nat} {ps : List (Nat × Operand)} {vs : List Value} (hp : evN L 0 ps = some vs) (h1 : vs.all (·.oneCell') = true) (hlen : vs.length = len) (hpos : 0 < len) (hle : len ≤ 16777216) (ht : tyU P t = some (.slice e)) (hi : ty P e = some i) (hs : i.sz = 1) (hz : i.z.cells = #[z]) :
    NV P w0 L M (.buildSlice t len ps.toArray) (fun b => sl (some b) 0 len len) vs e := fun ρ w hρ m o ho => by
  obtain ⟨_, ti, g1, g2, g3, g4⟩ := ty_ok hi
  have e2 : ¬ (16777216 < len) := by omega
  have e3 : ¬ (len = 0) := by omega
  have hf := fill_one (L := L) ps vs 0 (madeCells #[z] len) ρ hρ hp (by simpa using h1) (by simp [size_madeCells, hlen])
  unfold madeCells at hf
  simp at hf
  simp [execOp, ho, Instr.buildSlice, tyU_run ht, Go.sizeOf, typeInfo, zeroValue, g1, g2, g4, hs, hz, e2, e3, hf, newRow, sl, blk]
end
end Go.Fw

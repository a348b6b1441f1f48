/- Part of a proof: rules that its law uses. -/
import Derived.Test.YtgonajfngmeanaaDoorFwB
import Derived.Laws.Externs
namespace Go.Fw
open Go Go.RowKit
set_option linter.unusedVariables false
set_option linter.unusedSectionVars false
def Rl (w0 : World) (R : List Ent) (h : Bool) (w w2 : World) : Prop := if h then (Mem w0 w R → Mem w0 w2 R) else Upw w0 w w2
theorem Rl.base {w0 : World} {R : List Ent} {h : Bool} {w w2 : World} (r : Rl w0 R h w w2) : Mem w0 w R → Mem w0 w2 R := by
  unfold Rl at r
  split at r
  · exact r
  · exact r R
section
variable {P : Program} {ops : Array Oper} {md : Region.Mode}
def XH (P : Program) (md : Region.Mode) (ops : Array Oper) (n : Nat) (w0 : World) (R : List Ent) (hard : List Nat) (E : Array Bool → Act → World → Prop) : Nat → Array Bool → Act → World → Prop
  | 0, done, a, w => E done a w
  | f + 1, done, a, w => Region.ready md ops done ≠ [] ∧ ∀ i, i ∈ Region.ready md ops done → i < n ∧ ∃ o, ops[i]? = some o ∧
      ((Region.wanted o (yielded ops a.tmps) = true ∧ stp P ((execOp a.eval o).run P w) (fun u w2 => Rl w0 R (hard.contains i) w w2 ∧ XH P md ops n w0 R hard E f (done.setIfInBounds i true) (a.put o.dst u) w2)) ∨
       (Region.wanted o (yielded ops a.tmps) = false ∧ XH P md ops n w0 R hard E f (done.setIfInBounds i true) (a.put o.dst undef) w))
theorem XH.any {n g : Nat} {w0 : World} {R : List Ent} {hard : List Nat} {E : Array Bool → Act → World → Prop} {Q : Exit → Act → World → Prop} (hE : ∀ done a w, E done a w → wpAny P md ops Q g done a w) :
    ∀ (f : Nat) (done : Array Bool) (a : Act) (w : World), XH P md ops n w0 R hard E f done a w → wpAny P md ops Q (f + g) done a w
  | 0, done, a, w, h => by simpa using hE done a w h
  | f + 1, done, a, w, h => by
    have hfg : f + 1 + g = (f + g) + 1 := by omega
    rw [hfg]
    obtain ⟨h1, h2⟩ := h
    refine ⟨fun e => absurd e h1, fun i hi => ?_⟩
    obtain ⟨_, o, ho, h3⟩ := h2 i hi
    unfold wpOp
    simp only [ho]
    rcases h3 with ⟨hw, hs⟩ | ⟨hw, hs⟩
    · rw [if_pos hw]
      exact .inl (hs.wp fun u w2 ⟨_, q⟩ => XH.any hE f _ _ _ q)
    · rw [if_neg (by simp [hw])]
      exact XH.any hE f _ _ _ hs
def Yx (P : Program) (ops : Array Oper) (C : World → Prop) (o : Oper) (v : Value) (a : Act) : Prop :=
  (Region.wanted o (yielded ops a.tmps) = true ∧ ∀ w, C w → (execOp a.eval o).run P w = .ok (.value v) w) ∨ (Region.wanted o (yielded ops a.tmps) = false ∧ v = undef)
theorem XH.take {n i : Nat} {w0 : World} {R : List Ent} {hard : List Nat} {oi : Oper} {v : Value} {C : World → Prop} {E : Array Bool → Act → World → Prop} (hi : ops[i]? = some oi) (hsel : ∀ (j : Nat) (o : Oper) cs b, ops[j]? = some o → o.op ≠ .select cs b)
    (hC : ∀ j oj, ops[j]? = some oj → j ≠ i → (∀ e ∈ oj.after, Region.binds md e = true → e.on ≠ i) → ∀ w w2, C w → Rl w0 R (hard.contains j) w w2 → C w2)
    (hn : n = ops.size) (hE : ∀ done a w, E done a w → ∀ j ∈ Region.ready md ops done, n ≤ j) :
    ∀ (f : Nat) (done : Array Bool) (a : Act) (w : World), C w → HeadInv md ops n done →
      (∀ j oj, ops[j]? = some oj → j ≠ i → done.getD j true = false → (∀ e ∈ oj.after, Region.binds md e = true → e.on ≠ i) → oi.apart ops oj = true) →
      i ∈ Region.ready md ops done → Yx P ops C oi v a → XH P md ops n w0 R hard E f (done.setIfInBounds i true) (a.put oi.dst v) w → XH P md ops n w0 R hard E (f + 1) done a w := by
  have hlt : ∀ (done : Array Bool), ∀ j ∈ Region.ready md ops done, j < n := fun done j hj => by
    subst hn
    obtain ⟨_, oj, hoj, _⟩ := mem_ready.1 hj
    exact (Array.getElem?_eq_some_iff.1 hoj).1
  have self : ∀ (f : Nat) (done : Array Bool) (a : Act) (w : World), C w → Yx P ops C oi v a → XH P md ops n w0 R hard E f (done.setIfInBounds i true) (a.put oi.dst v) w →
      ∃ o, ops[i]? = some o ∧ ((Region.wanted o (yielded ops a.tmps) = true ∧ stp P ((execOp a.eval o).run P w) (fun u w2 => Rl w0 R (hard.contains i) w w2 ∧ XH P md ops n w0 R hard E f (done.setIfInBounds i true) (a.put o.dst u) w2)) ∨
       (Region.wanted o (yielded ops a.tmps) = false ∧ XH P md ops n w0 R hard E f (done.setIfInBounds i true) (a.put o.dst undef) w)) := by
    intro f done a w hw hy H
    refine ⟨oi, hi, ?_⟩
    rcases hy with ⟨h1, h2⟩ | ⟨h1, rfl⟩
    · refine .inl ⟨h1, ?_⟩
      rw [h2 w hw]
      refine ⟨?_, H⟩
      unfold Rl
      split
      · exact fun m => m
      · exact Upw.refl _ _
    · exact .inr ⟨h1, H⟩
  intro f
  induction f with
  | zero =>
    intro done a w hw inv _ hr hy H
    refine ⟨(fun e => by rw [e] at hr; cases hr), fun j hj => ⟨hlt done j hj, ?_⟩⟩
    by_cases e : j = i
    · subst e; exact self 0 done a w hw hy H
    · have := hE _ _ _ H j (ready_mono hj e)
      have := hlt done j hj
      omega
  | succ f ih =>
    intro done a w hw inv hfree hr hy H
    refine ⟨(fun e => by rw [e] at hr; cases hr), fun j hj => ⟨hlt done j hj, ?_⟩⟩
    by_cases e : j = i
    · subst e; exact self (f + 1) done a w hw hy H
    · obtain ⟨hju, oj, hoj, hall⟩ := mem_ready.1 hj
      have hno : ∀ e ∈ oj.after, Region.binds md e = true → e.on ≠ i := fun x hx hb hxi => by
        have q := hall x hx hb
        rw [hxi, getD_both (mem_ready.1 hr).1] at q
        cases q
      obtain ⟨h1, h2, h3⟩ := Oper.apart_spec (hfree j oj hoj e hju hno)
      have hsi : ∀ cs b, oi.op ≠ .select cs b := fun cs b => hsel i oi cs b hi
      have hsj : ∀ cs b, oj.op ≠ .select cs b := fun cs b => hsel j oj cs b hoj
      have keep : ∀ u, Yx P ops C oi v (a.put oj.dst u) := fun u => by
        unfold Yx at *
        rw [execOp_put oi hsi a oj.dst u h3, wanted_put oi a oj.dst u h3]
        exact hy
      obtain ⟨_, o', ho', step⟩ := H.2 j (ready_mono hj e)
      obtain rfl : oj = o' := Option.some.inj (hoj.symm.trans ho')
      rw [wanted_put oj a oi.dst v h1, execOp_put oj hsj a oi.dst v h1] at step
      have next : ∀ (u : Value) (w2 : World), C w2 → XH P md ops n w0 R hard E f ((done.setIfInBounds i true).setIfInBounds j true) ((a.put oi.dst v).put oj.dst u) w2 → XH P md ops n w0 R hard E (f + 1) (done.setIfInBounds j true) (a.put oj.dst u) w2 := fun u w2 hw2 q => by
        refine ih _ _ _ hw2 (inv.set hj (hlt done j hj)) (fun k ok hk hki hku hnk => hfree k ok hk hki ?_ hnk) (ready_mono hr (Ne.symm e)) (keep u) ?_
        · by_cases hjk : j = k
          · subst hjk; exact hju
          · rwa [getD_set_ne true hjk] at hku
        · rw [Array.setIfInBounds_comm _ _ e, ← Act.put_comm a v u h2]
          exact q
      refine ⟨oj, hoj, ?_⟩
      rcases step with ⟨hw', hs⟩ | ⟨hw', hs⟩
      · exact .inl ⟨hw', hs.mono fun u w2 ⟨q1, q2⟩ => ⟨q1, next u w2 (hC j oj hoj e hno w w2 hw q1) q2⟩⟩
      · exact .inr ⟨hw', next undef w hw hs⟩
end
section
variable {P : Program} {n : Nat} {Q : Exit → Act → World → Prop} {w0 : World} {L : Slots} {M R : List Ent}
def XW (P : Program) (n : Nat) (ops : Array Oper) (Q : Exit → Act → World → Prop) (w0 : World) (R : List Ent) (hard : List Nat) (f : Nat) (done : Array Bool) (L : Slots) (M : List Ent) : Prop :=
  (∀ w, Mem w0 w M → Mem w0 w R) → Region.noSelect ops = true → HeadInv .any ops ops.size done → ∀ a w, Fr n L a → Mem w0 w M → XH P .any ops ops.size w0 R hard (UE P ops Q ops.size []) f done a w
theorem CW.drawsX {id : Nat} {l : List Oper} (R : List Ent) (hard : List Nat) (hMR : ∀ w, Mem w0 w M → Mem w0 w R) (hm : P.follows .mixedOrders = true) (hB : Region.noSelect l.toArray = true) (h : XW P n l.toArray Q w0 R hard l.length (Array.replicate l.length false) L M) : CW P n Q w0 (.region id l.toArray true) L M :=
  CW.intro fun a w f m => by
    have inv : HeadInv .any l.toArray l.toArray.size (Array.replicate l.length false) :=
      ⟨by simp, (fun j oj _ q => by rw [getD_replicate_false] at q; cases q), fun t h1 h2 => absurd h1 (by simp at h2; simp; omega)⟩
    have H := h hMR hB inv a _ f (m.like (w' := { w with drawn := w.drawn + 1 }) rfl rfl rfl rfl)
    refine wp_region_any hm ?_
    have R := XH.any (Q := Q) (g := 0) (fun done a' w' q => by
      have s := wpAny_of_seq (md := .any) (Q' := Q) [] l.toArray.size done a' w' (fun j => by simp) q.1 q.2
      simpa using s) _ _ _ _ H
    simpa using R
variable {ops : Array Oper} {hard : List Nat} {f : Nat} {done : Array Bool} {op : Op} {ty : TypeId} {pos : String} {aft : Array Edge} {g : Option (Nat × Bool)} {d : Nat} {v : Value}
theorem XW.nil (hs : Region.seqB .any ops 0 ops.size done = true) (h : QW n Q w0 .normal L M) : XW P n ops Q w0 R hard 0 done L M := fun _ _ _ a w fr mm => ⟨hs, (OW.nil (P := P) (ops := ops) h).elim a w fr mm⟩
def XR (ops : Array Oper) (done : Array Bool) (i : Nat) : Bool := (Region.ready .any ops done).contains i && Region.free .any ops done i
def XS (ops : Array Oper) (hard : List Nat) (i : Nat) : Bool := hard.all fun j => match ops[j]? with
  | some o => o.after.any fun e => Region.binds .any e && Nat.beq e.on i
  | none => true
theorem XW.take (i : Nat) {o : Oper} {C : World → Prop} (hC : ∀ j oj, ops[j]? = some oj → j ≠ i → (∀ e ∈ oj.after, Region.binds .any e = true → e.on ≠ i) → ∀ w w2, C w → Rl w0 R (hard.contains j) w w2 → C w2) (hMC : (∀ w, Mem w0 w M → Mem w0 w R) → ∀ w, Mem w0 w M → C w) (hr : XR ops done i = true) (ho : ops[i]? = some o) (v : Value) (hy : ∀ a, Fr n L a → Yx P ops C o v a)
    (k : (∀ w, Mem w0 w M → Mem w0 w R) → ∀ a w, Fr n L a → Mem w0 w M → Region.noSelect ops = true → HeadInv .any ops ops.size (done.setIfInBounds i true) → XH P .any ops ops.size w0 R hard (UE P ops Q ops.size []) f (done.setIfInBounds i true) (a.put o.dst v) w) : XW P n ops Q w0 R hard (f + 1) done L M := fun hR hB inv a w fr mm => by
  simp only [XR, Bool.and_eq_true] at hr
  obtain ⟨h1, h2⟩ := hr
  have hr' : i ∈ Region.ready .any ops done := by simpa using h1
  have him : i < ops.size := (Array.getElem?_eq_some_iff.1 ho).1
  exact XH.take ho (Region.noSelect_spec hB) hC rfl (fun done' a' w' q => seqB_ready q.1) f done a w (hMC hR w mm) inv (Region.free_spec ho h2) hr' (hy a fr) (k hR a w fr mm hB (inv.set hr' him))
theorem XW.rv (i : Nat) (ho : ops[i]? = some ⟨some d, op, ty, pos, aft, g⟩) (hr : XR ops done i = true) (hw : Wt ops L g = true) (hS : XS ops hard i = true) (hop : RV P w0 L M op v) (hd : Nat.blt d n = true) (k : XW P n ops Q w0 R hard f (done.setIfInBounds i true) ((d, v) :: L) M) : XW P n ops Q w0 R hard (f + 1) done L M :=
  XW.take i (C := fun w => Mem w0 w M) (fun j oj hj hne hno w w2 m r => by
    unfold Rl at r
    split at r
    · rename_i hh
      have h1 := List.all_eq_true.1 hS j (by simpa using hh)
      rw [hj] at h1
      obtain ⟨e, he, h2⟩ := Array.any_eq_true'.1 h1
      simp only [Bool.and_eq_true, Nat.beq_eq] at h2
      exact absurd h2.2 (hno e he h2.1)
    · exact r _ m) (fun _ _ h => h) hr ho v (fun a fr => .inl ⟨wt_spec fr hw, fun w mm => hop a.eval w (fun x u hx => fr.eval hx) mm _ rfl⟩) (fun hR a w fr mm hB inv => k hR hB inv _ _ (fr.put hd v) mm)
theorem XW.rs (i : Nat) (ho : ops[i]? = some ⟨some d, op, ty, pos, aft, g⟩) (hr : XR ops done i = true) (hw : Wt ops L g = true) (hop : RV P w0 L R op v) (hd : Nat.blt d n = true) (k : XW P n ops Q w0 R hard f (done.setIfInBounds i true) ((d, v) :: L) M) : XW P n ops Q w0 R hard (f + 1) done L M :=
  XW.take i (C := fun w => Mem w0 w R) (fun j oj hj hne hno w w2 m r => r.base m) (fun hR w h => hR w h) hr ho v (fun a fr => .inl ⟨wt_spec fr hw, fun w mm => hop a.eval w (fun x u hx => fr.eval hx) mm _ rfl⟩) (fun hR a w fr mm hB inv => k hR hB inv _ _ (fr.put hd v) mm)
theorem XW.skip (i : Nat) (ho : ops[i]? = some ⟨some d, op, ty, pos, aft, g⟩) (hr : XR ops done i = true) (hw : Sk ops L g = true) (hd : Nat.blt d n = true) (k : XW P n ops Q w0 R hard f (done.setIfInBounds i true) ((d, undef) :: L) M) : XW P n ops Q w0 R hard (f + 1) done L M :=
  XW.take i (C := fun w => Mem w0 w R) (fun j oj hj hne hno w w2 m r => r.base m) (fun hR w h => hR w h) hr ho undef (fun a fr => .inr ⟨sk_spec fr hw, rfl⟩) (fun hR a w fr mm hB inv => k hR hB inv _ _ (fr.put hd undef) mm)
theorem XW.sv (i : Nat) {M' : List Ent} (ho : ops[i]? = some ⟨none, op, ty, pos, aft, none⟩) (hr : (Region.ready .any ops done == [i] && hard.contains i) = true) (hop : SV P w0 L M op M') (hMR : ∀ w, Mem w0 w M' → Mem w0 w R) (k : XW P n ops Q w0 R hard f (done.setIfInBounds i true) L M') : XW P n ops Q w0 R hard (f + 1) done L M := fun hR hB inv a w fr mm => by
  simp only [Bool.and_eq_true, beq_iff_eq] at hr
  obtain ⟨hr, hi⟩ := hr
  have him : i < ops.size := (Array.getElem?_eq_some_iff.1 ho).1
  refine ⟨by rw [hr]; simp, fun j hj => ?_⟩
  rw [hr] at hj
  obtain rfl : j = i := by simpa using hj
  refine ⟨him, _, ho, .inl ⟨by simp [Region.wanted], ?_⟩⟩
  obtain ⟨w', hrun, m'⟩ := hop a.eval w (fun x u hx => fr.eval hx) mm ⟨none, op, ty, pos, aft, none⟩ rfl
  rw [hrun]
  refine ⟨?_, k hMR hB (inv.set (by rw [hr]; simp) him) _ _ fr m'⟩
  unfold Rl
  rw [if_pos hi]
  exact fun _ => hMR _ m'
theorem XW.mem {M' : List Ent} (hs : ∀ w, Mem w0 w M → Mem w0 w M') (hMR : ∀ w, Mem w0 w M' → Mem w0 w R) (k : XW P n ops Q w0 R hard f done L M') : XW P n ops Q w0 R hard f done L M := fun _ hB inv a w fr mm => k hMR hB inv a w fr (hs w mm)
theorem XW.slot (v' : Value) (hv : v = v') (k : XW P n ops Q w0 R hard f done ((d, v') :: L) M) : XW P n ops Q w0 R hard f done ((d, v) :: L) M := by subst hv; exact k
theorem XW.cells {ob : Option Nat} {l : List Value} {t : TypeId} (l' : List Value) (e : l = l') (k : XW P n ops Q w0 R hard f done L ((ob, blk l' t) :: M)) : XW P n ops Q w0 R hard f done L ((ob, blk l t) :: M) := by subst e; exact k
theorem XW.callG (i : Nat) {fn : FuncId} {xs : List Operand} {ats : Array TypeId} {args : List Value} {Rr : Value → List Ent → Prop} (ho : ops[i]? = some ⟨some d, .call ⟨.value (.func fn), xs.toArray, ats⟩, ty, pos, aft, g⟩) (hr : (Region.ready .any ops done == [i]) = true) (hw : Wt ops L g = true)
    (hc : ∀ (args : Array Value) (w : World), (callFunc fn args).run P w = .ok (.enter fn args) w) (hxs : evs L xs = some args) (hdo : ∀ N, (∀ w, Mem w0 w N → Mem w0 w M) → DoesG P fn args w0 [] N Rr)
    (hd : Nat.blt d n = true) (k : ∀ v G, Rr v G → XW P n ops Q w0 R hard f (done.setIfInBounds i true) ((d, v) :: L) (G ++ M)) : XW P n ops Q w0 R hard (f + 1) done L M := fun hR hB inv a w fr mm => by
  simp only [beq_iff_eq] at hr
  have him : i < ops.size := (Array.getElem?_eq_some_iff.1 ho).1
  refine ⟨by rw [hr]; simp, fun j hj => ?_⟩
  rw [hr] at hj
  obtain rfl : j = i := by simpa using hj
  refine ⟨him, _, ho, .inl ⟨wt_spec fr hw, ?_⟩⟩
  have hev := evs_map (fun x u hx => fr.eval hx) xs args hxs
  have hrun : (execOp a.eval ⟨some d, .call ⟨.value (.func fn), xs.toArray, ats⟩, ty, pos, aft, g⟩).run P w = .ok (.enter fn args.toArray) w := by
    simp [execOp, resolve, Deferred.ofValue, Act.eval, invoke, hev, hc]
  rw [hrun]
  refine (hdo (allEnts w0 w) (fun w2 m2 => Upw.of_all m2 _ mm) w mm.all).mono ?_
  rintro e w2 ⟨q, ⟨G, h1, h2⟩, rfl, m'⟩
  have m' : Mem w0 w2 (G ++ allEnts w0 w) := by have m2 := m'; rwa [show (fun q : Value × List Ent => q.2) q = G ++ allEnts w0 w from h2] at m2
  refine ⟨_, rfl, ?_, (k q.1 G h1) (fun w m => hR w m.appR) hB (inv.set (by rw [hr]; simp) him) _ _ (fr.put hd _) (m'.graft mm)⟩
  have hu := Upw.of_all m'.appR
  unfold Rl
  split
  · exact hu R
  · exact hu
theorem XW.new (i : Nat) {l : List Value} {te : TypeId} {fv : Nat → Value} (ho : ops[i]? = some ⟨some d, op, ty, pos, aft, g⟩) (hr : (Region.ready .any ops done == [i]) = true) (hw : Wt ops L g = true) (hop : NV P w0 L M op fv l te) (hd : Nat.blt d n = true)
    (k : ∀ b : Nat, XW P n ops Q w0 R hard f (done.setIfInBounds i true) ((d, fv b) :: L) ((some b, blk l te) :: M)) : XW P n ops Q w0 R hard (f + 1) done L M := fun hR hB inv a w fr mm => by
  simp only [beq_iff_eq] at hr
  have him : i < ops.size := (Array.getElem?_eq_some_iff.1 ho).1
  refine ⟨by rw [hr]; simp, fun j hj => ?_⟩
  rw [hr] at hj
  obtain rfl : j = i := by simpa using hj
  refine ⟨him, _, ho, .inl ⟨wt_spec fr hw, ?_⟩⟩
  rw [hop a.eval w (fun x u hx => fr.eval hx) mm _ rfl]
  refine ⟨?_, k _ (fun w m => hR w m.tail) hB (inv.set (by rw [hr]; simp) him) _ _ (fr.put hd _) (mm.alloc _)⟩
  unfold Rl
  split
  · exact Upw.alloc _ _ _ R
  · exact Upw.alloc _ _ _
attribute [irreducible] XW
end
end Go.Fw
namespace Go.Fw
theorem Mem.shrink {w0 w : World} {B B' M M0 : List Ent} (hs : B.Sublist B') (m : Mem w0 w M) (j : Nat) (h : M.drop j = B' ++ M0) : Mem w0 w (M.take j ++ (B ++ M0)) := by
  have e : M = M.take j ++ (B' ++ M0) := by rw [← h, List.take_append_drop]
  rw [e] at m
  exact m.sublist (List.Sublist.append (List.Sublist.refl _) (List.Sublist.append hs (List.Sublist.refl _)))
end Go.Fw
namespace Go.Fw
set_option maxRecDepth 100000
def lenTable : ByteArray := { data := List.toArray (List.append (List.append [0, 1, 2, 2, 3, 3, 3, 3, 4, 4, 4, 4, 4, 4, 4, 4, 5, 5, 5, 5, 5, 5, 5, 5, 5, 5, 5, 5, 5, 5, 5, 5, 6, 6, 6, 6, 6, 6, 6, 6, 6, 6, 6, 6, 6, 6, 6, 6, 6, 6, 6, 6, 6, 6, 6, 6, 6, 6, 6, 6, 6, 6, 6, 6] [7, 7, 7, 7, 7, 7, 7, 7, 7, 7, 7, 7, 7, 7, 7, 7, 7, 7, 7, 7, 7, 7, 7, 7, 7, 7, 7, 7, 7, 7, 7, 7, 7, 7, 7, 7, 7, 7, 7, 7, 7, 7, 7, 7, 7, 7, 7, 7, 7, 7, 7, 7, 7, 7, 7, 7, 7, 7, 7, 7, 7, 7, 7, 7]) (List.append [8, 8, 8, 8, 8, 8, 8, 8, 8, 8, 8, 8, 8, 8, 8, 8, 8, 8, 8, 8, 8, 8, 8, 8, 8, 8, 8, 8, 8, 8, 8, 8, 8, 8, 8, 8, 8, 8, 8, 8, 8, 8, 8, 8, 8, 8, 8, 8, 8, 8, 8, 8, 8, 8, 8, 8, 8, 8, 8, 8, 8, 8, 8, 8] [8, 8, 8, 8, 8, 8, 8, 8, 8, 8, 8, 8, 8, 8, 8, 8, 8, 8, 8, 8, 8, 8, 8, 8, 8, 8, 8, 8, 8, 8, 8, 8, 8, 8, 8, 8, 8, 8, 8, 8, 8, 8, 8, 8, 8, 8, 8, 8, 8, 8, 8, 8, 8, 8, 8, 8, 8, 8, 8, 8, 8, 8, 8, 8])) }
def lenB (x : BitVec 8) : Nat := if x = 0#8 then 0 else x.toNat.log2 + 1
theorem lenB_le (x : BitVec 8) : lenB x ≤ 8 := by
  unfold lenB
  split
  · omega
  · have h := x.isLt
    have : x.toNat.log2 < 8 := (Nat.log2_lt (by intro e; exact ‹¬ x = 0#8› (BitVec.eq_of_toNat_eq e))).2 h
    omega
theorem len_all : ∀ (x : Fin 256), ((lenTable[x.val]?).map (fun c => c.toNat) == some (lenB (BitVec.ofFin (w := 8) x))) = true := by decide +kernel
theorem len_table (x : BitVec 8) : (Option.map (fun c => c.toNat) (lenTable[x.toNat]?)) = some (BitVec.ofNat 8 (lenB x)).toNat := by
  have h2 : (BitVec.ofNat 8 (lenB x)).toNat = lenB x := by have := lenB_le x; rw [BitVec.toNat_ofNat]; omega
  rw [h2]
  have := len_all x.toFin
  simpa using this
end Go.Fw
namespace Go.Fw
open Go Go.RowKit
set_option linter.unusedVariables false
set_option linter.unusedSectionVars false
section
variable {P : Program} [Types P] {w0 : World} {L : Slots} {M : List Ent} {t e : TypeId} {x y z : Operand} {idx idx' : Int} {k k' : IntKind}
theorem RV.arr_lo {A : Addr} {n s : Nat} (a : Nat) (hx : ev L x = some (.pointer (some A))) (hy : ev L y = some (.int k idx)) (hj : idx = (a : Int)) (ht : tyU P t = some (.array n e)) (hs : tyS P e = some s) (h1 : idx ≤ n) :
    RV P w0 L M (.slice t x (some y) none none) (.slice (subA (some A) n a s) (n - a) (n - a)) := fun ρ w hρ m o ho => by
  subst hj
  have h2 : a ≤ n := by omega
  by_cases hc : n = a
  · subst hc; simp [execOp, ho, hρ x _ hx, hρ y _ hy, Instr.sliceAt, Instr.slice, Instr.sliceBounds, sliceBound_run w h2, tyU_run ht, tyS_run hs, subA, Instr.sureAddr, asAddr]
  simp [execOp, ho, hρ x _ hx, hρ y _ hy, Instr.sliceAt, Instr.slice, Instr.sliceBounds, sliceBound_run w h2, tyU_run ht, tyS_run hs, subA, Instr.sureAddr, asAddr, hc]
theorem RV.arr_hi {A : Addr} {n s : Nat} (h : Nat) (hx : ev L x = some (.pointer (some A))) (hy : ev L y = some (.int k idx)) (hj : idx = (h : Int)) (ht : tyU P t = some (.array n e)) (hs : tyS P e = some s) (h1 : idx ≤ n) :
    RV P w0 L M (.slice t x none (some y) none) (.slice (some A) h n) := fun ρ w hρ m o ho => by
  subst hj
  have h2 : h ≤ n := by omega
  by_cases hc : n = 0
  · subst hc
    simp [execOp, ho, hρ x _ hx, hρ y _ hy, Instr.sliceAt, Instr.slice, Instr.sliceBounds, sliceBound_run w h2, tyU_run ht, tyS_run hs, Instr.sureAddr, asAddr]
  · simp [execOp, ho, hρ x _ hx, hρ y _ hy, Instr.sliceAt, Instr.slice, Instr.sliceBounds, sliceBound_run w h2, tyU_run ht, tyS_run hs, Instr.sureAddr, asAddr, hc, Addr.add]
theorem RV.arr_all {A : Addr} {n s : Nat} (hx : ev L x = some (.pointer (some A))) (ht : tyU P t = some (.array n e)) (hs : tyS P e = some s) :
    RV P w0 L M (.slice t x none none none) (.slice (some A) n n) := fun ρ w hρ m o ho => by
  by_cases hc : n = 0
  · subst hc
    simp [execOp, ho, hρ x _ hx, Instr.sliceAt, Instr.slice, Instr.sliceBounds, tyU_run ht, tyS_run hs, Instr.sureAddr, asAddr]
  · simp [execOp, ho, hρ x _ hx, Instr.sliceAt, Instr.slice, Instr.sliceBounds, tyU_run ht, tyS_run hs, Instr.sureAddr, asAddr, hc, Addr.add]
end
theorem View.arr {α : Type} {w0 : World} {Ψ : Ctx} {b n : Nat} {f : α → Value} {v : Vector α n} {te : TypeId} (hΨ : ∀ w, Ψ w → Mem w0 w [(some b, blk (v.toList.map f) te)]) (hn : n ≤ 140737488355328) : View Ψ (some ⟨b, 0, none⟩) v.toList.length n 1 (v.toList.map f) :=
  ⟨fun w q => by
    have := (hΨ w q).rdl (List.mem_cons_self ..) (fun e => by cases e)
    simpa using this, fun _ => rfl, by simp, by simp, by simpa using hn⟩
end Go.Fw

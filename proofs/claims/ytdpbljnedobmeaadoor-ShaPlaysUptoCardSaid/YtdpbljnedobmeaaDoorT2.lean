/- Part of a proof: rules that its law uses. -/
import Derived.Laws.Externs
import Derived.Scope
import Derived.Test.YtdpbljnedobmeaaDoorT1
set_option linter.unusedVariables false
set_option linter.unusedSimpArgs false
set_option linter.unusedSectionVars false
set_option maxRecDepth 100000
set_option maxHeartbeats 1000000
namespace Go.Fw
open Go Go.RowKit
def Rl (w0 : World) (R : List Ent) (h : Bool) (w w2 : World) : Prop := if h then (Mem w0 w R → Mem w0 w2 R) else Upw w0 w w2
theorem Rl.base {w0 : World} {R : List Ent} {h : Bool} {w w2 : World} (r : Rl w0 R h w w2) : Mem w0 w R → Mem w0 w2 R := by
 unfold Rl at r
 split at r
 ·exact r
 ·exact r R
section
variable {P : Program} {ops : Array Oper} {md : Region.Mode}
def XH (P : Program) (md : Region.Mode) (ops : Array Oper) (n : Nat) (w0 : World) (R : List Ent) (hard : List Nat) (E : Array Bool → Act → World → Prop) : Nat → Array Bool → Act → World → Prop
 | 0, done, a, w => E done a w
 | f + 1, done, a, w => Region.ready md ops done ≠ [] ∧ ∀ i, i ∈ Region.ready md ops done → i < n ∧ ∃ o, ops[i]? = some o ∧
     ((Region.wanted o (yielded ops a.tmps) = true ∧ stp P ((execOp a.eval o).run P w) (fun u w2 => Rl w0 R (hard.contains i) w w2 ∧ XH P md ops n w0 R hard E f (done.setIfInBounds i true) (a.put o.dst u) w2)) ∨
      (Region.wanted o (yielded ops a.tmps) = false ∧ XH P md ops n w0 R hard E f (done.setIfInBounds i true) (a.put o.dst undef) w))
theorem XH.any {n g : Nat} {w0 : World} {R : List Ent} {hard : List Nat} {E : Array Bool → Act → World → Prop} {Q : Exit → Act → World → Prop} (hE : ∀ done a w, E done a w → wpAny P md ops Q g done a w) :
    ∀ (f : Nat) (done : Array Bool) (a : Act) (w : World), XH P md ops n w0 R hard E f done a w → wpAny P md ops Q (f + g) done a w
 | 0, done, a, w, h => by simpa using hE done a w h
 | f + 1, done, a, w, h => by
  have hfg : f + 1 + g = (f + g) + 1 := by omega
  rw [hfg]
  obtain ⟨h1, h2⟩ := h
  refine ⟨fun e => absurd e h1, fun i hi => ?_⟩
  obtain ⟨_, o, ho, h3⟩ := h2 i hi
  unfold wpOp
  simp only [ho]
  rcases h3 with ⟨hw, hs⟩ | ⟨hw, hs⟩
  ·rw [if_pos hw]
   exact .inl (hs.wp fun u w2 ⟨_, q⟩ => XH.any hE f _ _ _ q)
  ·rw [if_neg (by simp [hw])]
   exact XH.any hE f _ _ _ hs
def Yx (P : Program) (ops : Array Oper) (C : World → Prop) (o : Oper) (v : Value) (a : Act) : Prop :=
 (Region.wanted o (yielded ops a.tmps) = true ∧ ∀ w, C w → (execOp a.eval o).run P w = .ok (.value v) w) ∨ (Region.wanted o (yielded ops a.tmps) = false ∧ v = undef)
theorem XH.take {n i : Nat} {w0 : World} {R : List Ent} {hard : List Nat} {oi : Oper} {v : Value} {C : World → Prop} {E : Array Bool → Act → World → Prop} (hi : ops[i]? = some oi) (hsel : ∀ (j : Nat) (o : Oper) cs b, ops[j]? = some o → o.op ≠ .select cs b)
    (hC : ∀ j oj, ops[j]? = some oj → j ≠ i → (∀ e ∈ oj.after, Region.binds md e = true → e.on ≠ i) → ∀ w w2, C w → Rl w0 R (hard.contains j) w w2 → C w2)
    (hn : n = ops.size) (hE : ∀ done a w, E done a w → ∀ j ∈ Region.ready md ops done, n ≤ j) :
    ∀ (f : Nat) (done : Array Bool) (a : Act) (w : World), C w → HeadInv md ops n done →
     (∀ j oj, ops[j]? = some oj → j ≠ i → done.getD j true = false → (∀ e ∈ oj.after, Region.binds md e = true → e.on ≠ i) → oi.apart ops oj = true) →
     i ∈ Region.ready md ops done → Yx P ops C oi v a → XH P md ops n w0 R hard E f (done.setIfInBounds i true) (a.put oi.dst v) w → XH P md ops n w0 R hard E (f + 1) done a w := by
 have hlt : ∀ (done : Array Bool), ∀ j ∈ Region.ready md ops done, j < n := fun done j hj => by
  subst hn
  obtain ⟨_, oj, hoj, _⟩ := mem_ready.1 hj
  exact (Array.getElem?_eq_some_iff.1 hoj).1
 have self : ∀ (f : Nat) (done : Array Bool) (a : Act) (w : World), C w → Yx P ops C oi v a → XH P md ops n w0 R hard E f (done.setIfInBounds i true) (a.put oi.dst v) w →
     ∃ o, ops[i]? = some o ∧ ((Region.wanted o (yielded ops a.tmps) = true ∧ stp P ((execOp a.eval o).run P w) (fun u w2 => Rl w0 R (hard.contains i) w w2 ∧ XH P md ops n w0 R hard E f (done.setIfInBounds i true) (a.put o.dst u) w2)) ∨
      (Region.wanted o (yielded ops a.tmps) = false ∧ XH P md ops n w0 R hard E f (done.setIfInBounds i true) (a.put o.dst undef) w)) := by
  intro f done a w hw hy H
  refine ⟨oi, hi, ?_⟩
  rcases hy with ⟨h1, h2⟩ | ⟨h1, rfl⟩
  ·refine .inl ⟨h1, ?_⟩
   rw [h2 w hw]
   refine ⟨?_, H⟩
   unfold Rl
   split
   ·exact fun m => m
   ·exact Upw.refl _ _
  ·exact .inr ⟨h1, H⟩
 intro f
 induction f with
 | zero =>
  intro done a w hw inv _ hr hy H
  refine ⟨(fun e => by rw [e] at hr; cases hr), fun j hj => ⟨hlt done j hj, ?_⟩⟩
  by_cases e : j = i
  ·subst e; exact self 0 done a w hw hy H
  ·have := hE _ _ _ H j (ready_mono hj e)
   have := hlt done j hj
   omega
 | succ f ih =>
  intro done a w hw inv hfree hr hy H
  refine ⟨(fun e => by rw [e] at hr; cases hr), fun j hj => ⟨hlt done j hj, ?_⟩⟩
  by_cases e : j = i
  ·subst e; exact self (f + 1) done a w hw hy H
  ·obtain ⟨hju, oj, hoj, hall⟩ := mem_ready.1 hj
   have hno : ∀ e ∈ oj.after, Region.binds md e = true → e.on ≠ i := fun x hx hb hxi => by
    have q := hall x hx hb
    rw [hxi, getD_both (mem_ready.1 hr).1] at q
    cases q
   obtain ⟨h1, h2, h3⟩ := Oper.apart_spec (hfree j oj hoj e hju hno)
   have hsi : ∀ cs b, oi.op ≠ .select cs b := fun cs b => hsel i oi cs b hi
   have hsj : ∀ cs b, oj.op ≠ .select cs b := fun cs b => hsel j oj cs b hoj
   have keep : ∀ u, Yx P ops C oi v (a.put oj.dst u) := fun u => by
    unfold Yx at *
    rw [execOp_put oi hsi a oj.dst u h3, wanted_put oi a oj.dst u h3]
    exact hy
   obtain ⟨_, o', ho', step⟩ := H.2 j (ready_mono hj e)
   obtain rfl : oj = o' := Zi (hoj.symm.trans ho')
   rw [wanted_put oj a oi.dst v h1, execOp_put oj hsj a oi.dst v h1] at step
   have next : ∀ (u : Value) (w2 : World), C w2 → XH P md ops n w0 R hard E f ((done.setIfInBounds i true).setIfInBounds j true) ((a.put oi.dst v).put oj.dst u) w2 → XH P md ops n w0 R hard E (f + 1) (done.setIfInBounds j true) (a.put oj.dst u) w2 := fun u w2 hw2 q => by
    refine ih _ _ _ hw2 (inv.set hj (hlt done j hj)) (fun k ok hk hki hku hnk => hfree k ok hk hki ?_ hnk) (ready_mono hr (Ne.symm e)) (keep u) ?_
    ·by_cases hjk : j = k
     ·subst hjk; exact hju
     ·rwa [getD_set_ne true hjk] at hku
    ·rw [Array.setIfInBounds_comm _ _ e, ← Act.put_comm a v u h2]
     exact q
   refine ⟨oj, hoj, ?_⟩
   rcases step with ⟨hw', hs⟩ | ⟨hw', hs⟩
   ·exact .inl ⟨hw', hs.mono fun u w2 ⟨q1, q2⟩ => ⟨q1, next u w2 (hC j oj hoj e hno w w2 hw q1) q2⟩⟩
   ·exact .inr ⟨hw', next undef w hw hs⟩
end
section
variable {P : Program} {n : Nat} {Q : Exit → Act → World → Prop} {w0 : World} {L : Z109} {M R : List Ent}
def XW (P : Program) (n : Nat) (ops : Array Oper) (Q : Exit → Act → World → Prop) (w0 : World) (R : List Ent) (hard : List Nat) (f : Nat) (done : Array Bool) (L : Z109) (M : List Ent) : Prop :=
 (∀ w, Mem w0 w M → Mem w0 w R) → Region.noSelect ops = true → HeadInv .any ops ops.size done → ∀ a w, Fr n L a → Mem w0 w M → XH P .any ops ops.size w0 R hard (UE P ops Q ops.size []) f done a w
theorem CW.drawsX {id : Nat} {l : List Oper} (R : List Ent) (hard : List Nat) (hMR : ∀ w, Mem w0 w M → Mem w0 w R) (hm : P.follows .mixedOrders = true) (hB : Region.noSelect l.toArray = true) (h : XW P n l.toArray Q w0 R hard l.length (Array.replicate l.length false) L M) : CW P n Q w0 (.region id l.toArray true) L M :=
 CW.intro fun a w f m => by
  have inv : HeadInv .any l.toArray l.toArray.size (Array.replicate l.length false) :=
   ⟨by simp, (fun j oj _ q => by rw [getD_replicate_false] at q; cases q), fun t h1 h2 => absurd h1 (by simp at h2; simp; omega)⟩
  have H := h hMR hB inv a _ f (m.like (w' := { w with drawn := w.drawn + 1 }) rfl rfl rfl rfl)
  refine wp_region_any hm ?_
  have R := XH.any (Q := Q) (g := 0) (fun done a' w' q => by
   have s := wpAny_of_seq (md := .any) (Q' := Q) [] l.toArray.size done a' w' (fun j => by simp) q.1 q.2
   simpa using s) _ _ _ _ H
  simpa using R
variable {ops : Array Oper} {hard : List Nat} {f : Nat} {done : Array Bool} {op : Op} {ty : TypeId} {pos : String} {aft : Array Edge} {g : Option (Nat × Bool)} {d : Nat} {v : Value}
theorem XW.nil (hs : Region.seqB .any ops 0 ops.size done = true) (h : QW n Q w0 .normal L M) : XW P n ops Q w0 R hard 0 done L M := fun _ _ _ a w fr mm => ⟨hs, (Z6 (P := P) (ops := ops) h).elim a w fr mm⟩
def XR (ops : Array Oper) (done : Array Bool) (i : Nat) : Bool := (Region.ready .any ops done).contains i && Region.free .any ops done i
def XS (ops : Array Oper) (hard : List Nat) (i : Nat) : Bool := hard.all fun j => match ops[j]? with
 | some o => o.after.any fun e => Region.binds .any e && Nat.beq e.on i
 | none => true
theorem XW.take (i : Nat) {o : Oper} {C : World → Prop} (hC : ∀ j oj, ops[j]? = some oj → j ≠ i → (∀ e ∈ oj.after, Region.binds .any e = true → e.on ≠ i) → ∀ w w2, C w → Rl w0 R (hard.contains j) w w2 → C w2) (hMC : (∀ w, Mem w0 w M → Mem w0 w R) → ∀ w, Mem w0 w M → C w) (hr : XR ops done i = true) (ho : ops[i]? = some o) (v : Value) (hy : ∀ a, Fr n L a → Yx P ops C o v a)
    (k : (∀ w, Mem w0 w M → Mem w0 w R) → ∀ a w, Fr n L a → Mem w0 w M → Region.noSelect ops = true → HeadInv .any ops ops.size (done.setIfInBounds i true) → XH P .any ops ops.size w0 R hard (UE P ops Q ops.size []) f (done.setIfInBounds i true) (a.put o.dst v) w) : XW P n ops Q w0 R hard (f + 1) done L M := fun hR hB inv a w fr mm => by
 simp only [XR, Bool.and_eq_true] at hr
 obtain ⟨h1, h2⟩ := hr
 have hr' : i ∈ Region.ready .any ops done := by simpa using h1
 have him : i < ops.size := (Array.getElem?_eq_some_iff.1 ho).1
 exact XH.take ho (Region.noSelect_spec hB) hC rfl (fun done' a' w' q => seqB_ready q.1) f done a w (hMC hR w mm) inv (Region.free_spec ho h2) hr' (hy a fr) (k hR a w fr mm hB (inv.set hr' him))
theorem XW.rv (i : Nat) (ho : ops[i]? = some ⟨some d, op, ty, pos, aft, g⟩) (hr : XR ops done i = true) (hw : Wt ops L g = true) (hS : XS ops hard i = true) (hop : RV P w0 L M op v) (hd : Nat.blt d n = true) (k : XW P n ops Q w0 R hard f (done.setIfInBounds i true) ((d, v) :: L) M) : XW P n ops Q w0 R hard (f + 1) done L M :=
 XW.take i (C := fun w => Mem w0 w M) (fun j oj hj hne hno w w2 m r => by
  unfold Rl at r
  split at r
  ·rename_i hh
   have h1 := List.all_eq_true.1 hS j (by simpa using hh)
   rw [hj] at h1
   obtain ⟨e, he, h2⟩ := Array.any_eq_true'.1 h1
   simp only [Bool.and_eq_true, Nat.beq_eq] at h2
   exact absurd h2.2 (hno e he h2.1)
  ·exact r _ m) (fun _ _ h => h) hr ho v (fun a fr => .inl ⟨wt_spec fr hw, fun w mm => hop a.eval w (fun x u hx => fr.eval hx) mm _ rfl⟩) (fun hR a w fr mm hB inv => k hR hB inv _ _ (fr.put hd v) mm)
theorem Z10 (i : Nat) (ho : ops[i]? = some ⟨some d, op, ty, pos, aft, g⟩) (hr : XR ops done i = true) (hw : Wt ops L g = true) (hop : RV P w0 L R op v) (hd : Nat.blt d n = true) (k : XW P n ops Q w0 R hard f (done.setIfInBounds i true) ((d, v) :: L) M) : XW P n ops Q w0 R hard (f + 1) done L M :=
 XW.take i (C := fun w => Mem w0 w R) (fun j oj hj hne hno w w2 m r => r.base m) (fun hR w h => hR w h) hr ho v (fun a fr => .inl ⟨wt_spec fr hw, fun w mm => hop a.eval w (fun x u hx => fr.eval hx) mm _ rfl⟩) (fun hR a w fr mm hB inv => k hR hB inv _ _ (fr.put hd v) mm)
theorem XW.skip (i : Nat) (ho : ops[i]? = some ⟨some d, op, ty, pos, aft, g⟩) (hr : XR ops done i = true) (hw : Sk ops L g = true) (hd : Nat.blt d n = true) (k : XW P n ops Q w0 R hard f (done.setIfInBounds i true) ((d, undef) :: L) M) : XW P n ops Q w0 R hard (f + 1) done L M :=
 XW.take i (C := fun w => Mem w0 w R) (fun j oj hj hne hno w w2 m r => r.base m) (fun hR w h => hR w h) hr ho undef (fun a fr => .inr ⟨sk_spec fr hw, rfl⟩) (fun hR a w fr mm hB inv => k hR hB inv _ _ (fr.put hd undef) mm)
theorem XW.sv (i : Nat) {M' : List Ent} (ho : ops[i]? = some ⟨none, op, ty, pos, aft, none⟩) (hr : (Region.ready .any ops done == [i] && hard.contains i) = true) (hop : SV P w0 L M op M') (hMR : ∀ w, Mem w0 w M' → Mem w0 w R) (k : XW P n ops Q w0 R hard f (done.setIfInBounds i true) L M') : XW P n ops Q w0 R hard (f + 1) done L M := fun hR hB inv a w fr mm => by
 simp only [Bool.and_eq_true, beq_iff_eq] at hr
 obtain ⟨hr, hi⟩ := hr
 have him : i < ops.size := (Array.getElem?_eq_some_iff.1 ho).1
 refine ⟨by rw [hr]; simp, fun j hj => ?_⟩
 rw [hr] at hj
 obtain rfl : j = i := by simpa using hj
 refine ⟨him, _, ho, .inl ⟨by simp [Region.wanted], ?_⟩⟩
 obtain ⟨w', hrun, m'⟩ := hop a.eval w (fun x u hx => fr.eval hx) mm ⟨none, op, ty, pos, aft, none⟩ rfl
 rw [hrun]
 refine ⟨?_, k hMR hB (inv.set (by rw [hr]; simp) him) _ _ fr m'⟩
 unfold Rl
 rw [if_pos hi]
 exact fun _ => hMR _ m'
theorem Z19 {M' : List Ent} (hs : ∀ w, Mem w0 w M → Mem w0 w M') (hMR : ∀ w, Mem w0 w M' → Mem w0 w R) (k : XW P n ops Q w0 R hard f done L M') : XW P n ops Q w0 R hard f done L M := fun _ hB inv a w fr mm => k hMR hB inv a w fr (hs w mm)
theorem XW.slot (v' : Value) (hv : v = v') (k : XW P n ops Q w0 R hard f done ((d, v') :: L) M) : XW P n ops Q w0 R hard f done ((d, v) :: L) M := by subst hv; exact k
theorem XW.cells {ob : Option Nat} {l : List Value} {t : TypeId} (l' : List Value) (e : l = l') (k : XW P n ops Q w0 R hard f done L ((ob, blk l' t) :: M)) : XW P n ops Q w0 R hard f done L ((ob, blk l t) :: M) := by subst e; exact k
theorem Z11 (i : Nat) {fn : FuncId} {xs : List Operand} {ats : Array TypeId} {args : List Value} {Rr : Value → List Ent → Prop} (ho : ops[i]? = some ⟨some d, .call ⟨.value (.func fn), xs.toArray, ats⟩, ty, pos, aft, g⟩) (hr : (Region.ready .any ops done == [i]) = true) (hw : Wt ops L g = true)
    (hc : ∀ (args : Array Value) (w : World), (callFunc fn args).run P w = .ok (.enter fn args) w) (hxs : evs L xs = some args) (hdo : ∀ N, (∀ w, Mem w0 w N → Mem w0 w M) → DoesG P fn args w0 [] N Rr)
    (hd : Nat.blt d n = true) (k : ∀ v G, Rr v G → XW P n ops Q w0 R hard f (done.setIfInBounds i true) ((d, v) :: L) (G ++ M)) : XW P n ops Q w0 R hard (f + 1) done L M := fun hR hB inv a w fr mm => by
 simp only [beq_iff_eq] at hr
 have him : i < ops.size := (Array.getElem?_eq_some_iff.1 ho).1
 refine ⟨by rw [hr]; simp, fun j hj => ?_⟩
 rw [hr] at hj
 obtain rfl : j = i := by simpa using hj
 refine ⟨him, _, ho, .inl ⟨wt_spec fr hw, ?_⟩⟩
 have hev := evs_map (fun x u hx => fr.eval hx) xs args hxs
 have hrun : (execOp a.eval ⟨some d, .call ⟨.value (.func fn), xs.toArray, ats⟩, ty, pos, aft, g⟩).run P w = .ok (.enter fn args.toArray) w := by
  simp [execOp, resolve, Deferred.ofValue, Act.eval, invoke, hev, hc]
 rw [hrun]
 refine (hdo (allEnts w0 w) (fun w2 m2 => Upw.of_all m2 _ mm) w mm.all).mono ?_
 rintro e w2 ⟨q, ⟨G, h1, h2⟩, rfl, m'⟩
 have m' : Mem w0 w2 (G ++ allEnts w0 w) := by have m2 := m'; rwa [show (fun q : Value × List Ent => q.2) q = G ++ allEnts w0 w from h2] at m2
 refine ⟨_, rfl, ?_, (k q.1 G h1) (fun w m => hR w m.appR) hB (inv.set (by rw [hr]; simp) him) _ _ (fr.put hd _) (m'.graft mm)⟩
 have hu := Upw.of_all m'.appR
 unfold Rl
 split
 ·exact hu R
 ·exact hu
theorem XW.new (i : Nat) {l : List Value} {te : TypeId} {fv : Nat → Value} (ho : ops[i]? = some ⟨some d, op, ty, pos, aft, g⟩) (hr : (Region.ready .any ops done == [i]) = true) (hw : Wt ops L g = true) (hop : NV P w0 L M op fv l te) (hd : Nat.blt d n = true)
    (k : ∀ b : Nat, XW P n ops Q w0 R hard f (done.setIfInBounds i true) ((d, fv b) :: L) ((some b, blk l te) :: M)) : XW P n ops Q w0 R hard (f + 1) done L M := fun hR hB inv a w fr mm => by
 simp only [beq_iff_eq] at hr
 have him : i < ops.size := (Array.getElem?_eq_some_iff.1 ho).1
 refine ⟨by rw [hr]; simp, fun j hj => ?_⟩
 rw [hr] at hj
 obtain rfl : j = i := by simpa using hj
 refine ⟨him, _, ho, .inl ⟨wt_spec fr hw, ?_⟩⟩
 rw [hop a.eval w (fun x u hx => fr.eval hx) mm _ rfl]
 refine ⟨?_, k _ (fun w m => hR w m.tail) hB (inv.set (by rw [hr]; simp) him) _ _ (fr.put hd _) (mm.alloc _)⟩
 unfold Rl
 split
 ·exact Upw.alloc _ _ _ R
 ·exact Upw.alloc _ _ _
attribute [irreducible] XW
end
end Go.Fw
namespace Go.Fw
end Go.Fw
namespace Go.Fw
def rotr (x : BitVec 32) (n : Nat) : BitVec 32 := x >>> n ||| x <<< (32 - n)
def sg0 (x : BitVec 32) : BitVec 32 := rotr x 7 ^^^ rotr x 18 ^^^ x >>> 3
def sg1 (x : BitVec 32) : BitVec 32 := rotr x 17 ^^^ rotr x 19 ^^^ x >>> 10
def bs0 (x : BitVec 32) : BitVec 32 := rotr x 2 ^^^ rotr x 13 ^^^ rotr x 22
def bs1 (x : BitVec 32) : BitVec 32 := rotr x 6 ^^^ rotr x 11 ^^^ rotr x 25
def zx (l : List (BitVec 8)) (i : Nat) : BitVec 32 := (l.getD i 0#8).setWidth 32
def pw (l : List (BitVec 8)) (i : Nat) : Nat → BitVec 32
 | 0 => 0#32
 | j + 1 => pw l i j <<< 8 ||| zx l (4 * i + j)
theorem pw_all (l : List (BitVec 8)) (i : Nat) : pw l i 4 = zx l (4 * i) <<< 24 ||| zx l (4 * i + 1) <<< 16 ||| zx l (4 * i + 2) <<< 8 ||| zx l (4 * i + 3) := by
 simp only [pw, BitVec.shiftLeft_or_distrib, ← BitVec.shiftLeft_add, Nat.add_zero]
 simp
def firstW (l : List (BitVec 8)) (n : Nat) : List (BitVec 32) := (List.range n).map fun i => pw l i 4
@[simp] theorem firstW_length (l : List (BitVec 8)) (n : Nat) : (firstW l n).length = n := by simp [firstW]
theorem firstW_succ (l : List (BitVec 8)) (n : Nat) : firstW l (n + 1) = firstW l n ++ [pw l n 4] := by simp [firstW, List.range_succ]
def wnext (l : List (BitVec 32)) (t : Nat) : BitVec 32 := sg1 (l.getD (t - 2) 0#32) + l.getD (t - 7) 0#32 + sg0 (l.getD (t - 15) 0#32) + l.getD (t - 16) 0#32
def wTo (l : List (BitVec 8)) : Nat → List (BitVec 32)
 | 0 => firstW l 16
 | k + 1 => wTo l k ++ [wnext (wTo l k) (16 + k)]
@[simp] theorem wTo_length (l : List (BitVec 8)) : ∀ k, (wTo l k).length = 16 + k
 | 0 => by simp [wTo]
 | k + 1 => by simp [wTo, wTo_length l k]; omega
theorem wTo_zero (l : List (BitVec 8)) : wTo l 0 = firstW l 16 := rfl
theorem wTo_succ (l : List (BitVec 8)) (k : Nat) : wTo l (k + 1) = wTo l k ++ [wnext (wTo l k) (16 + k)] := rfl
theorem set_mid {α : Type} (A R : List α) (p q : α) {i : Nat} (h : A.length = i) : (A ++ p :: R).set i q = A ++ q :: R := by
 subst h; simp
theorem getD_left {α : Type} {A R : List α} {i : Nat} {z : α} (h : i < A.length) : (A ++ R).getD i z = A.getD i z := by simp [List.getD, List.getElem?_append_left h]
structure St where
 a : BitVec 32
 b : BitVec 32
 c : BitVec 32
 d : BitVec 32
 e : BitVec 32
 f : BitVec 32
 g : BitVec 32
 h : BitVec 32
def St.toL (s : St) : List (BitVec 32) := [s.a, s.b, s.c, s.d, s.e, s.f, s.g, s.h]
def St.of (l : List (BitVec 32)) : St := ⟨l.getD 0 0#32, l.getD 1 0#32, l.getD 2 0#32, l.getD 3 0#32, l.getD 4 0#32, l.getD 5 0#32, l.getD 6 0#32, l.getD 7 0#32⟩
theorem St.of_toL {l : List (BitVec 32)} (h : l.length = 8) : (St.of l).toL = l := by
 match l, h with
 | [_, _, _, _, _, _, _, _], _ => rfl
def St.t1 (s : St) (k w : BitVec 32) : BitVec 32 := s.h + bs1 s.e + ((s.e &&& s.f) ^^^ (~~~ s.e &&& s.g)) + k + w
def St.t2 (s : St) : BitVec 32 := bs0 s.a + ((s.a &&& s.b) ^^^ (s.a &&& s.c) ^^^ (s.b &&& s.c))
def St.step (s : St) (k w : BitVec 32) : St := ⟨s.t1 k w + s.t2, s.a, s.b, s.c, s.d + s.t1 k w, s.e, s.f, s.g⟩
def runTo (K W : List (BitVec 32)) (s : St) : Nat → St
 | 0 => s
 | t + 1 => (runTo K W s t).step (K.getD t 0#32) (W.getD t 0#32)
def addL (x y : List (BitVec 32)) : List (BitVec 32) := List.zipWith (· + ·) x y
def behindL (K s : List (BitVec 32)) (blk : List (BitVec 8)) : List (BitVec 32) := addL s (runTo K (wTo blk 48) (St.of s) 64).toL
theorem behindL_length {K s : List (BitVec 32)} {blk : List (BitVec 8)} (h : s.length = 8) : (behindL K s blk).length = 8 := by simp [behindL, addL, h, St.toL]
def z8 : List (BitVec 32) := List.replicate 8 0#32
theorem addL_comm (x y : List (BitVec 32)) : addL x y = addL y x := by
 unfold addL; rw [List.zipWith_comm]; congr 1; funext a b; exact BitVec.add_comm _ _
def addTo (s v : List (BitVec 32)) (i : Nat) : List (BitVec 32) := (addL s v).take i ++ s.drop i
theorem addTo_zero (s v : List (BitVec 32)) : addTo s v 0 = s := by simp [addTo]
theorem addTo_length {s v : List (BitVec 32)} (hs : s.length = 8) (hv : v.length = 8) (i : Nat) : (addTo s v i).length = 8 := by
 simp [addTo, addL, hs, hv]; omega
theorem addTo_all {s v : List (BitVec 32)} (hs : s.length = 8) (hv : v.length = 8) : addTo s v 8 = addL s v := by
 rw [addTo, List.take_of_length_le (by simp [addL, hs, hv]), List.drop_of_length_le (by omega), List.append_nil]
theorem addTo_get {s v : List (BitVec 32)} (hs : s.length = 8) (hv : v.length = 8) {i : Nat} (h : i < 8) : (addTo s v i).getD i 0#32 = s.getD i 0#32 := by
 have hl : ((addL s v).take i).length = i := by simp [addL, hs, hv]; omega
 simp only [addTo, List.getD]
 rw [List.getElem?_append_right (by omega), hl, List.getElem?_drop, Nat.sub_self, Nat.add_zero]
theorem addTo_set {s v : List (BitVec 32)} (hs : s.length = 8) (hv : v.length = 8) {i : Nat} (h : i < 8) : (addTo s v i).set i (s.getD i 0#32 + v.getD i 0#32) = addTo s v (i + 1) := by
 have hl : ((addL s v).take i).length = i := by simp [addL, hs, hv]; omega
 have e : s.drop i = s[i] :: s.drop (i + 1) := List.drop_eq_getElem_cons (by omega)
 have hj1 : i < (addL s v).length := by simp [addL, hs, hv]; omega
 rw [addTo, addTo, e, set_mid _ _ _ _ hl, List.take_add_one, List.append_assoc]
 have hi : i < s.length := by omega
 have hi2 : i < v.length := by omega
 rw [List.getElem?_eq_getElem hj1]
 simp [addL, List.getD, hi, hi2]
end Go.Fw
namespace Go.Fw.Tryd
open Go Go.Proofs
theorem rotl_does (w0 : World) (M : List Ent) (x : BitVec 32) (k : Int) (n : Nat) (h1 : (BitVec.ofInt 64 k &&& 31#64).toNat = 32 - n) (h2 : (32#64 - (BitVec.ofInt 64 k &&& 31#64)).toNat = n) : Does Tryd.prog 74 [U32 x, .int .i64 k] w0 M (τ := Unit) (fun _ => True) (fun _ => U32 (rotr x n)) (fun _ => M) := by
 refine Does.enter Tryd.func74 rfl Tryd.ntmps74 rfl (Z4 (Z2 (Z0 (Z5 rfl) rfl (Z6 ?_))))
 (refine Z1 ?_; refine Z4 ?_)
 refine Z2 (Z0 (Z3 rfl) rfl (Z0 (RV.conv_i64 rfl rfl rfl) rfl (Z0 (RV.and64 rfl rfl rfl (lit64 _ rfl)) rfl (Z0 (Z5 rfl) rfl (Z6 ?_)))))
 (refine Z1 ?_; refine Z4 ?_)
 refine Z2 (Z0 (Z3 rfl) rfl (Z0 (Z3 rfl) rfl (Z0 (RV.shl32 rfl rfl rfl rfl) rfl (Z0 (Z3 rfl) rfl (Z0 (Z3 rfl) rfl (Z0 (RV.sub64 rfl (lit64 _ rfl) rfl rfl) rfl (Z0 (RV.shr32 rfl rfl rfl rfl) rfl ?_)))))))
 refine Z0 (RV.or32 rfl rfl rfl rfl) rfl (Z0 (Z5 rfl) rfl (Z6 ?_))
 (refine Z1 ?_; refine CW.ret ?_)
 refine QW.ret1 rfl () trivial ?_ (fun _ m => m)
 have e : x <<< (BitVec.ofInt 64 k &&& 31#64).toNat ||| x >>> (32#64 - (BitVec.ofInt 64 k &&& 31#64)).toNat = rotr x n := by rw [h1, h2, BitVec.or_comm]; rfl
 rw [← e]; rfl
theorem Z116 (w0 : World) (M : List Ent) (x : BitVec 32) (k : BitVec 64) (n : Nat) (h1 : k.toNat = n) (h2 : (32#64 - k).toNat = 32 - n) : Does Tryd.prog 105 [U32 x, U64 k] w0 M (τ := Unit) (fun _ => True) (fun _ => U32 (rotr x n)) (fun _ => M) := by
 refine Does.enter Tryd.func105 rfl Tryd.ntmps105 rfl (Z4 (Z2 (Z0 (Z5 rfl) rfl (Z6 ?_))))
 (refine Z1 ?_; refine Z4 ?_)
 refine Z2 (Z0 (Z3 rfl) rfl (Z0 (Z3 rfl) rfl (Z0 (RV.shr32 rfl rfl rfl rfl) rfl (Z0 (Z3 rfl) rfl (Z0 (Z3 rfl) rfl (Z0 (RV.sub64 rfl (lit64 _ rfl) rfl rfl) rfl (Z0 (RV.shl32 rfl rfl rfl rfl) rfl ?_)))))))
 refine Z0 (RV.or32 rfl rfl rfl rfl) rfl (Z0 (Z5 rfl) rfl (Z6 ?_))
 (refine Z1 ?_; refine CW.ret ?_)
 refine QW.ret1 rfl () trivial ?_ (fun _ m => m)
 have e : x >>> k.toNat ||| x <<< (32#64 - k).toNat = rotr x n := by rw [h1, h2]; rfl
 rw [← e]; rfl
theorem words_does (w0 : World) (M : List Ent) (A : Option Addr) (ca : Nat) (bs : List (BitVec 8)) (hA : Mem.Says w0 M (fun w => Rd w A (u8s bs))) (hl : bs.length = 64) (hca : 64 ≤ ca) :
  Does Tryd.prog 73 [.slice A 64 ca] w0 M (τ := Unit) (fun _ => True) (fun _ => .agg (u32s (wTo bs 48)).toArray) (fun _ => M) := by
 refine Does.of_mem fun w1 m1 => ?_
 have sA : A.isSome = true := Rd.someOf (f := U8) (hA w1 m1) (i := 0) (by omega)
 refine Does.enter Tryd.func73 rfl Tryd.ntmps73 rfl (Z4 (Z2 (OW.alloc (l := u32s (List.replicate 64 0#32)) rfl (by rw [← Z123]; rfl) rfl (fun b2 => (Z6 ?_)))))
 (refine Z1 ?_; refine Z4 ?_)
 refine Z2 (OW.alloc (l := u32s (List.replicate 64 0#32)) rfl (by rw [← Z123]; rfl) rfl (fun b3 => (Z6 ?_)))
 (refine Z1 ?_; refine Z4 ?_; refine Z4 ?_)
 refine Z2 (Z0 (Z3 rfl) rfl (Z6 ?_))
 (refine Z1 ?_; refine CW.block ?_)
 refine CW.loop (σ := Nat) (fun i => i ≤ 16) (fun i => [(0, .slice A 64 ca), (2, ptr (some b2) 0), (3, ptr (some b3) 0), (12, .int .i64 (i : Int))])
  (fun i => (some b3, blk (u32s (firstW bs i ++ List.replicate (64 - i) 0#32)) 109) :: (some b2, blk (u32s (List.replicate 64 0#32)) 109) :: M) (fun i => 16 - i) 0 (by omega) ⟨rfl, rfl, rfl, rfl, trivial⟩ (fun _ m => m) ?_
 ·intro i hi
  refine Z4 (Z2 (Z0 (RV.lss rfl rfl) rfl (Z6 ?_)))
  (refine Z1 ?_; refine Z4 ?_)
  refine Z104 rfl (fun hlt => ?_) (fun hlt => ?_)
  ·have hi2 : i < 16 := by omega
   (refine CW.skip ?_; refine Z1 ?_; refine Z4 ?_; refine CW.block ?_; refine Z4 ?_)
   refine Z2 (Z0 (Z3 rfl) rfl (Z0 (Z5 rfl) rfl (Z6 ?_)))
   (refine Z1 ?_; refine Z4 ?_)
   refine Z2 (Z0 (Z3 rfl) rfl (Z0 (Z3 rfl) rfl (Z0 (RV.mul rfl rfl (by omega)) rfl (Z0 (Z3 rfl) rfl (Z0 (RV.mul rfl rfl (by omega)) rfl (Z0 (RV.add rfl rfl (by omega)) rfl (Z0 (RV.cut_both (4 * i) (4 * i + 4) rfl rfl rfl rfl rfl rfl rfl (by omega) (by omega)) rfl ?_)))))))
   refine Z0 (RV.len rfl rfl) rfl (Z0 (Z3 rfl) rfl (Z6 ?_))
   (refine Z1 ?_; refine CW.block ?_)
   have hsub : Mem.Says w0 M (fun w => Rd w (subA A ca (4 * i) 1) ((u8s bs).drop (4 * i * 1))) := fun w m => (hA w m).sub (by rw [Z102]; omega)
   have sB : (subA A ca (4 * i) 1).isSome = true := (hsub w1 m1).1 (fun e => by have := congrArg List.length e; rw [List.length_drop, Z102] at this; simp only [List.length_nil] at this; omega)
   refine CW.loop (σ := Nat) (fun j => j ≤ 4) (fun j => [(0, .slice A 64 ca), (2, ptr (some b2) 0), (3, ptr (some b3) 0), (4, .int .i64 (i : Int)), (12, .int .i64 (i : Int)), (21, .slice (subA A ca (4 * i) 1) (4 * i + 4 - 4 * i) (ca - 4 * i)), (22, .int .i64 ((4 * i + 4 - 4 * i : Nat) : Int)), (23, .int .i64 (j : Int))])
    (fun j => (some b3, blk (u32s (firstW bs i ++ pw bs i j :: List.replicate (63 - i) 0#32)) 109) :: (some b2, blk (u32s (List.replicate 64 0#32)) 109) :: M) (fun j => 4 - j) 0 (by omega) ⟨rfl, rfl, rfl, rfl, rfl, rfl, rfl, rfl, trivial⟩ (fun _ m => by
     have e : List.replicate (64 - i) 0#32 = 0#32 :: List.replicate (63 - i) 0#32 := by rw [show 64 - i = (63 - i) + 1 by omega, List.replicate_succ]
     rw [e] at m; exact m) ?_
   intro j hj
   refine Z4 (Z2 (Z0 (RV.lss rfl rfl) rfl (Z6 ?_)))
   (refine Z1 ?_; refine Z4 ?_)
   refine Z104 rfl (fun hjlt => ?_) (fun hjlt => ?_)
   ·have hj2 : j < 4 := by omega
    have l1 : Mem.Says w0 M (fun w => w.cell? (((subA A ca (4 * i) 1).getD default).add j) = some (U8 (bs.getD (4 * i + j) 0#8))) := fun w m => (hsub w m).cell (by rw [List.getElem?_drop, Nat.mul_one]; exact u8s_get (by omega))
    have hll : (firstW bs i ++ pw bs i j :: List.replicate (63 - i) 0#32).length = 64 := by simp; omega
    have g1 : (u32s (firstW bs i ++ pw bs i j :: List.replicate (63 - i) 0#32))[0 + i]? = some (U32 (pw bs i j)) := by
     rw [Nat.zero_add, u32s, List.getElem?_map, List.getElem?_append_right (by simp)]; simp
    have hl2 : 0 + i < (u32s (firstW bs i ++ pw bs i j :: List.replicate (63 - i) 0#32)).length := by rw [Z100, hll]; omega
    (refine CW.skip ?_; refine Z1 ?_; refine Z4 ?_; refine CW.block ?_; refine Z4 ?_)
    refine Z2 (Z0 (Z127 _ rfl rfl rfl rfl rfl (by assumption) (by omega)) rfl ?_)
    refine Z0 (Z21 rfl rfl rfl (by (refine Mem.Says.cons ?_; refine Mem.Says.cons ?_; assumption); done)) rfl ?_
    refine Z0 (Z5 rfl) rfl (Z6 (Z1 (Z2 (Z0 (Z3 rfl) rfl (Z0 (Z3 rfl) rfl (Z0 (Z103 _ rfl rfl rfl rfl rfl (by omega)) rfl ?_))))))
    refine Z0 (Z29 rfl (by exact List.Mem.head _; done) rfl rfl rfl (by assumption)) rfl ?_
    refine Z0 (RV.shl32 rfl rfl rfl rfl) rfl (Z0 (Z3 rfl) rfl (Z0 (RV.conv8_32 rfl rfl rfl rfl) rfl (Z0 (RV.or32 rfl rfl rfl rfl) rfl (Z0 (Z103 _ rfl rfl rfl rfl rfl (by omega)) rfl (Z28 (SV.store rfl rfl rfl rfl rfl (by assumption)) (Z6 ?_))))))
    (refine Z27 ?_; refine Z1 ?_)
    refine Z2 (Z0 (RV.add rfl rfl (by omega)) rfl (Z0 (Z3 rfl) rfl (Z6 (Z108 (j + 1) (by omega) (by omega) ⟨rfl, rfl, rfl, rfl, rfl, rfl, rfl, rfl, trivial⟩ (fun _ m => ?_)))))
    have e : (u32s (firstW bs i ++ pw bs i j :: List.replicate (63 - i) 0#32)).set (0 + i) (U32 (pw bs i j <<< (8#64).toNat ||| (bs.getD (4 * i + j) 0#8).setWidth 32)) = u32s (firstW bs i ++ pw bs i (j + 1) :: List.replicate (63 - i) 0#32) := by
     rw [Nat.zero_add, u32s_set', set_mid _ _ _ _ (firstW_length bs i)]; rfl
    rw [← e]; exact m
   ·have hj4 : j = 4 := by omega
    subst hj4
    (refine CW.exit ?_; refine Z9 ?_; refine Z9 ?_; refine Z15 ?_; refine Z27 ?_; refine Z1 ?_)
    refine Z2 (Z0 (RV.add rfl rfl (by omega)) rfl (Z0 (Z3 rfl) rfl (Z6 (Z108 (i + 1) (by omega) (by omega) ⟨rfl, rfl, rfl, rfl, trivial⟩ (fun _ m => ?_)))))
    rw [firstW_succ, List.append_assoc, show 64 - (i + 1) = 63 - i by omega]; exact m
  ·have hi2 : i = 16 := by omega
   subst hi2
   (repeat (first | refine Z4 ?_ | refine Z1 ?_ | refine CW.block ?_ | refine CW.ret ?_ | refine CW.skip ?_ | refine CW.exit ?_ | refine Z9 ?_ | refine Z8 ?_ | refine Z27 ?_ | refine Z15 ?_ | refine QW.block_xn rfl ?_ | refine Z16 ?_))
   refine Z2 (Z0 (Z5 rfl) rfl (Z6 ?_))
   (refine Z1 ?_; refine CW.block ?_)
   refine CW.loop (σ := Nat) (fun k => k ≤ 48) (fun k => [(2, ptr (some b2) 0), (3, ptr (some b3) 0), (7, .int .i64 ((16 + k : Nat) : Int))])
    (fun k => (some b3, blk (u32s (wTo bs k ++ List.replicate (48 - k) 0#32)) 109) :: (some b2, blk (u32s (List.replicate 64 0#32)) 109) :: M) (fun k => 48 - k) 0 (by omega) ⟨rfl, rfl, rfl, trivial⟩ (fun _ m => m) ?_
   intro k hk
   (refine Z4 ?_; refine Z4 ?_)
   refine Z2 (Z0 (Z3 rfl) rfl (Z0 (RV.lss rfl rfl) rfl (Z6 (Z1 ?_))))
   refine Z104 rfl (fun hklt => ?_) (fun hklt => ?_)
   ·have hk2 : k < 48 := by omega
    have hwl := wTo_length bs k
    have gt : ∀ p : Nat, p ≤ 16 → 1 ≤ p → (u32s (wTo bs k ++ List.replicate (48 - k) 0#32))[0 + (((16 + k : Nat) : Int) - (p : Int)).toNat]? = some (U32 ((wTo bs k).getD (16 + k - p) 0#32)) := fun p hp hp1 => by
     rw [show 0 + (((16 + k : Nat) : Int) - (p : Int)).toNat = 16 + k - p by omega, Z124 (by simp; omega), getD_left (by omega)]
    have g15 := gt 15 (by omega) (by omega)
    have g2 := gt 2 (by omega) (by omega)
    have g7 := gt 7 (by omega) (by omega)
    have g16 := gt 16 (by omega) (by omega)
    have hl2 : 0 + (16 + k) < (u32s (wTo bs k ++ List.replicate (48 - k) 0#32)).length := by simp; omega
    (refine CW.skip ?_; refine Z1 ?_; refine Z4 ?_; refine CW.block ?_; refine Z4 ?_)
    refine CW.draws mixed (by kernel_rfl) (DW.rv (Z3 rfl) rfl (DW.rv (RV.sub rfl rfl (by omega)) rfl (DW.rv (RV.idx_az rfl rfl (by omega) rfl rfl (by omega)) rfl ?_)))
    refine DW.rv (Z29 rfl (by exact List.Mem.head _; done) rfl rfl rfl (by assumption)) rfl ?_
    refine DW.rv (Z3 rfl) rfl (DW.rv (RV.sub rfl rfl (by omega)) rfl (DW.rv (RV.idx_az rfl rfl (by omega) rfl rfl (by omega)) rfl ?_))
    refine DW.rv (Z29 rfl (by exact List.Mem.head _; done) rfl rfl rfl (by assumption)) rfl ?_
    refine DW.rv (Z5 rfl) rfl (DW.rv (Z5 rfl) rfl (DW.nil ?_))
    (refine Z1 ?_; refine Z4 ?_)
    refine Z2 (Z0 (Z3 rfl) rfl (OW.call Tryd.call74 rfl (rotl_does w0 _ _ (-7) 7 (by decide) (by decide)) rfl (fun u hu => (Z0 (Z3 rfl) rfl (OW.call Tryd.call74 rfl (rotl_does w0 _ _ (-18) 18 (by decide) (by decide)) rfl (fun u hu => (Z0 (Z111 rfl rfl rfl rfl) rfl (Z0 (Z3 rfl) rfl (Z0 (RV.shr32 rfl rfl rfl rfl) rfl ?_)))))))))
    refine Z0 (Z111 rfl rfl rfl rfl) rfl (Z0 (Z5 rfl) rfl (Z6 ?_))
    (refine Z1 ?_; refine Z4 ?_)
    refine Z2 (Z0 (Z3 rfl) rfl (OW.call Tryd.call74 rfl (rotl_does w0 _ _ (-17) 17 (by decide) (by decide)) rfl (fun u hu => (Z0 (Z3 rfl) rfl (OW.call Tryd.call74 rfl (rotl_does w0 _ _ (-19) 19 (by decide) (by decide)) rfl (fun u hu => (Z0 (Z111 rfl rfl rfl rfl) rfl (Z0 (Z3 rfl) rfl (Z0 (RV.shr32 rfl rfl rfl rfl) rfl ?_)))))))))
    refine Z0 (Z111 rfl rfl rfl rfl) rfl (Z0 (Z5 rfl) rfl (Z6 (Z1 (CW.drawsT 15 mixed (by kernel_rfl) (TW.rv (Z3 rfl) rfl (TW.rv (Z3 rfl) rfl (TW.rv (Z3 rfl) rfl (TW.rv (RV.sub rfl rfl (by omega)) rfl ?_))))))))
    refine TW.rv (RV.idx_az rfl rfl (by omega) rfl rfl (by omega)) rfl ?_
    refine TW.rv (Z29 rfl (by exact List.Mem.head _; done) rfl rfl rfl (by assumption)) rfl ?_
    refine TW.rv (Z112 rfl rfl rfl rfl) rfl (TW.rv (Z3 rfl) rfl (TW.rv (Z112 rfl rfl rfl rfl) rfl (TW.rv (Z3 rfl) rfl (TW.rv (RV.sub rfl rfl (by omega)) rfl (TW.rv (RV.idx_az rfl rfl (by omega) rfl rfl (by omega)) rfl ?_)))))
    refine TW.rv (Z29 rfl (by exact List.Mem.head _; done) rfl rfl rfl (by assumption)) rfl ?_
    refine TW.rv (Z112 rfl rfl rfl rfl) rfl (TW.rv (Z103 _ rfl rfl rfl rfl rfl (by omega)) rfl (TW.nil (Z28 (SV.store rfl rfl rfl rfl rfl (by assumption)) (Z6 ?_))))
    (refine Z27 ?_; refine Z1 ?_)
    refine Z2 (Z0 (Z3 rfl) rfl (Z0 (RV.add rfl rfl (by omega)) rfl (Z0 (Z5 rfl) rfl (Z6 (Z108 (k + 1) (by omega) (by omega) ⟨rfl, rfl, rfl, trivial⟩ (fun _ m => ?_))))))
    have e : (u32s (wTo bs k ++ List.replicate (48 - k) 0#32)).set (0 + (16 + k)) (U32 (wnext (wTo bs k) (16 + k))) = u32s (wTo bs (k + 1) ++ List.replicate (48 - (k + 1)) 0#32) := by
     rw [Nat.zero_add, u32s_set', show 48 - k = (48 - (k + 1)) + 1 by omega, List.replicate_succ, set_mid _ _ _ _ hwl]
     simp [wTo]
    rw [← e]; exact m
   ·have hk2 : k = 48 := by omega
    subst hk2
    refine CW.mem (M' := (some b3, blk (u32s (wTo bs 48)) 109) :: (some b2, blk (u32s (List.replicate 64 0#32)) 109) :: M) (fun _ m => by simpa using m) ?_
    have hwl : (wTo bs 48).length = 64 := wTo_length bs 48
    generalize wTo bs 48 = W at hwl ⊢
    (refine CW.exit ?_; refine Z9 ?_; refine Z9 ?_; refine Z15 ?_; refine Z1 ?_; refine Z4 ?_)
    refine Z2 ?_
    refine Z0 (Z22 rfl (by exact List.Mem.head _; done) rfl rfl rfl rfl ((Z100 _).trans (by assumption))) rfl ?_
    refine OW.rot1 ?_; refine Z28 (Z105 rfl rfl rfl (Z120 _) rfl ((Z100 _).trans (List.length_replicate ..)) ((Z100 _).trans (by assumption))) ?_
    refine Z6 ?_
    (refine Z1 ?_; refine CW.ret ?_)
    exact QW.retC1 rfl () trivial rfl Zh rfl rfl rfl rfl ((Z100 _).trans hwl) rfl (fun _ m => m.tail.tail)
end Go.Fw.Tryd
namespace Go.Fw.Tryd
open Go Go.Proofs
attribute [local irreducible] wTo
def TabAt (w0 : World) (g : Nat) (K : List (BitVec 32)) : Prop := ∀ j u, (u32s K)[j]? = some u → w0.cell? ((⟨g, 0, none⟩ : Addr).add j) = some u
theorem TabAt.says {w0 : World} {g : Nat} {K : List (BitVec 32)} (h : TabAt w0 g K) {M : List Ent} : Mem.Says w0 M (fun w => ∀ j u, (u32s K)[j]? = some u → w.cell? ((⟨g, 0, none⟩ : Addr).add j) = some u) := fun w m j u hj => m.oldSome (h j u hj)
theorem words_is (w0 : World) (M : List Ent) (A : Option Addr) (ca : Nat) (bs : List (BitVec 8)) (hA : Mem.Says w0 M (fun w => Rd w A (u8s bs))) (hl : bs.length = 64) (hca : 64 ≤ ca) {W : List (BitVec 32)} (hW : wTo bs 48 = W) :
  Does Tryd.prog 73 [.slice A 64 ca] w0 M (τ := Unit) (fun _ => True) (fun _ => .agg (u32s W).toArray) (fun _ => M) := hW ▸ words_does w0 M A ca bs hA hl hca
theorem behind_does (w0 : World) (M : List Ent) (K : List (BitVec 32)) (hK : TabAt w0 2 K) (hKl : K.length = 64) (s : List (BitVec 32)) (hs : s.length = 8) (A : Option Addr) (ca : Nat) (bs : List (BitVec 8)) (hA : Mem.Says w0 M (fun w => Rd w A (u8s bs))) (hl : bs.length = 64) (hca : 64 ≤ ca) :
  Does Tryd.prog 50 [.agg (u32s s).toArray, .slice A 64 ca] w0 M (τ := Unit) (fun _ => True) (fun _ => .agg (u32s (behindL K s bs)).toArray) (fun _ => M) := by
 have hKs := hK.says (M := M)
 have hW : behindL K s bs = addL s (runTo K (wTo bs 48) (St.of s) 64).toL := rfl
 obtain ⟨W, hWe⟩ : ∃ W, wTo bs 48 = W := ⟨_, rfl⟩
 have hwl : W.length = 64 := by rw [← hWe]; exact wTo_length bs 48
 rw [hWe] at hW
 refine Does.enter Tryd.func50 rfl Tryd.ntmps50 rfl (Z4 (Z2 (OW.boxA rfl rfl (fun b2 => (OW.alloc (l := u32s (List.replicate 8 0#32)) rfl (by rw [← Z123]; rfl) rfl (fun b4 => (Z6 ?_)))))))
 (refine Z1 ?_; refine Z4 ?_)
 refine Z2 (Z0 (Z3 rfl) rfl (OW.call Tryd.call73 rfl (words_is w0 _ A ca bs (Mem.Says.cons (Mem.Says.cons hA)) hl hca hWe) rfl (fun u hu => (OW.alloc (l := u32s (List.replicate 64 0#32)) rfl (by rw [← Z123]; rfl) rfl (fun b5 => (Z28 (Z105 rfl rfl rfl (Z120 _) rfl ((Z100 _).trans (List.length_replicate ..)) ((Z100 _).trans (by assumption))) (Z6 ?_)))))))
 (refine Z1 ?_; refine Z4 ?_)
 have gs : ∀ p, p < 8 → (u32s s)[0 + p]? = some (U32 (s.getD p 0#32)) := fun p hp => by rw [Nat.zero_add]; exact Z124 (by omega)
 have gs0 := gs 0 (by decide)
 have gs1 := gs 1 (by decide)
 have gs2 := gs 2 (by decide)
 have gs3 := gs 3 (by decide)
 have gs4 := gs 4 (by decide)
 have gs5 := gs 5 (by decide)
 have gs6 := gs 6 (by decide)
 have gs7 := gs 7 (by decide)
 refine CW.draws mixed (by kernel_rfl) (DW.rv (Z103 _ rfl rfl rfl rfl rfl (by omega)) rfl ?_)
 refine DW.rv (Z29 rfl (by (refine List.Mem.tail _ ?_; refine List.Mem.tail _ ?_; exact List.Mem.head _); done) rfl rfl rfl (by assumption)) rfl ?_
 refine DW.rv (Z103 _ rfl rfl rfl rfl rfl (by omega)) rfl ?_
 refine DW.rv (Z29 rfl (by (refine List.Mem.tail _ ?_; refine List.Mem.tail _ ?_; exact List.Mem.head _); done) rfl rfl rfl (by assumption)) rfl ?_
 refine DW.rv (Z103 _ rfl rfl rfl rfl rfl (by omega)) rfl ?_
 refine DW.rv (Z29 rfl (by (refine List.Mem.tail _ ?_; refine List.Mem.tail _ ?_; exact List.Mem.head _); done) rfl rfl rfl (by assumption)) rfl ?_
 refine DW.rv (Z103 _ rfl rfl rfl rfl rfl (by omega)) rfl ?_
 refine DW.rv (Z29 rfl (by (refine List.Mem.tail _ ?_; refine List.Mem.tail _ ?_; exact List.Mem.head _); done) rfl rfl rfl (by assumption)) rfl ?_
 refine DW.rv (Z103 _ rfl rfl rfl rfl rfl (by omega)) rfl ?_
 refine DW.rv (Z29 rfl (by (refine List.Mem.tail _ ?_; refine List.Mem.tail _ ?_; exact List.Mem.head _); done) rfl rfl rfl (by assumption)) rfl ?_
 refine DW.rv (Z103 _ rfl rfl rfl rfl rfl (by omega)) rfl ?_
 refine DW.rv (Z29 rfl (by (refine List.Mem.tail _ ?_; refine List.Mem.tail _ ?_; exact List.Mem.head _); done) rfl rfl rfl (by assumption)) rfl ?_
 refine DW.rv (Z103 _ rfl rfl rfl rfl rfl (by omega)) rfl ?_
 refine DW.rv (Z29 rfl (by (refine List.Mem.tail _ ?_; refine List.Mem.tail _ ?_; exact List.Mem.head _); done) rfl rfl rfl (by assumption)) rfl ?_
 refine DW.rv (Z103 _ rfl rfl rfl rfl rfl (by omega)) rfl ?_
 refine DW.rv (Z29 rfl (by (refine List.Mem.tail _ ?_; refine List.Mem.tail _ ?_; exact List.Mem.head _); done) rfl rfl rfl (by assumption)) rfl ?_
 refine DW.rv (Z5 rfl) rfl (DW.rv (Z5 rfl) rfl (DW.rv (Z5 rfl) rfl (DW.rv (Z5 rfl) rfl (DW.rv (Z5 rfl) rfl (DW.rv (Z5 rfl) rfl (DW.rv (Z5 rfl) rfl (DW.rv (Z5 rfl) rfl ?_)))))))
 refine DW.nil ?_
 (refine Z1 ?_; refine Z4 ?_; refine Z4 ?_)
 refine Z2 ?_
 refine Z0 (RV.loadAs rfl rfl rfl rfl (by (refine Mem.Says.cons ?_; refine Mem.Says.cons ?_; refine Mem.Says.cons ?_; assumption); done) ((Z100 _).trans (by assumption))) rfl ?_
 refine Z0 (Z3 rfl) rfl (Z6 ?_)
 (refine Z1 ?_; refine CW.block ?_)
 refine CW.loop (σ := Nat) (fun t => t ≤ 64) (fun t => [(2, ptr (some b2) 0), (4, ptr (some b4) 0), (5, ptr (some b5) 0), (6, U32 (runTo K W (St.of s) t).a), (7, U32 (runTo K W (St.of s) t).b), (8, U32 (runTo K W (St.of s) t).c), (9, U32 (runTo K W (St.of s) t).d), (10, U32 (runTo K W (St.of s) t).e), (11, U32 (runTo K W (St.of s) t).f), (12, U32 (runTo K W (St.of s) t).g), (13, U32 (runTo K W (St.of s) t).h), (38, .agg (u32s K).toArray), (39, .int .i64 (t : Int))])
  (fun t => (some b5, blk (u32s W) 109) :: (some b4, blk (u32s z8) 26) :: (some b2, blk (u32s s) 26) :: M) (fun t => 64 - t) 0 (by omega) ⟨rfl, rfl, rfl, rfl, rfl, rfl, rfl, rfl, rfl, rfl, rfl, rfl, rfl, trivial⟩ (fun _ m => m) ?_
 ·intro t ht
  refine Z4 (Z2 (Z0 (RV.lss rfl rfl) rfl (Z6 ?_)))
  (refine Z1 ?_; refine Z4 ?_)
  refine Z104 rfl (fun hlt => ?_) (fun hlt => ?_)
  ·have ht2 : t < 64 := by omega
   have gk : (u32s K)[t]? = some (U32 (K.getD t 0#32)) := Z124 (by omega)
   have gw : (u32s W)[0 + t]? = some (U32 (W.getD t 0#32)) := by rw [Nat.zero_add]; exact Z124 (by omega)
   (refine CW.skip ?_; refine Z1 ?_; refine Z4 ?_; refine CW.block ?_; refine Z4 ?_)
   refine Z2 (Z0 (Z3 rfl) rfl (Z0 (RV.indexV _ rfl rfl rfl rfl rfl rfl rfl (by omega) (by assumption)) rfl (Z0 (Z5 rfl) rfl (Z0 (Z5 rfl) rfl (Z6 ?_)))))
   (refine Z1 ?_; refine Z4 ?_)
   refine CW.draws mixed (by kernel_rfl) (DW.rv (Z3 rfl) rfl (DW.rv (Z3 rfl) rfl (DW.call _ Tryd.call74 rfl (rotl_does w0 _ _ (-6) 6 (by decide) (by decide)) (fun _ _ => rfl) (fun _ _ _ m => m) rfl (DW.rv (Z3 rfl) rfl (DW.call _ Tryd.call74 rfl (rotl_does w0 _ _ (-11) 11 (by decide) (by decide)) (fun _ _ => rfl) (fun _ _ _ m => m) rfl (DW.rv (Z111 rfl rfl rfl rfl) rfl (DW.rv (Z3 rfl) rfl ?_)))))))
   refine DW.call _ Tryd.call74 rfl (rotl_does w0 _ _ (-25) 25 (by decide) (by decide)) (fun _ _ => rfl) (fun _ _ _ m => m) rfl (DW.rv (Z111 rfl rfl rfl rfl) rfl (DW.rv (Z112 rfl rfl rfl rfl) rfl (DW.rv (Z3 rfl) rfl (DW.rv (Z3 rfl) rfl (DW.rv (RV.and32 rfl rfl rfl rfl) rfl (DW.rv (Z3 rfl) rfl (DW.rv (RV.compl32 rfl rfl) rfl ?_)))))))
   refine DW.rv (Z3 rfl) rfl (DW.rv (RV.and32 rfl rfl rfl rfl) rfl (DW.rv (Z111 rfl rfl rfl rfl) rfl (DW.rv (Z112 rfl rfl rfl rfl) rfl (DW.rv (Z3 rfl) rfl (DW.rv (Z112 rfl rfl rfl rfl) rfl (DW.rv (Z3 rfl) rfl (DW.rv (Z103 _ rfl rfl rfl rfl rfl (by omega)) rfl ?_)))))))
   refine DW.rv (Z29 rfl (by exact List.Mem.head _; done) rfl rfl rfl (by assumption)) rfl ?_
   refine DW.rv (Z112 rfl rfl rfl rfl) rfl (DW.rv (Z5 rfl) rfl (DW.nil ?_))
   (refine Z1 ?_; refine Z4 ?_)
   refine Z2 (Z0 (Z3 rfl) rfl (OW.call Tryd.call74 rfl (rotl_does w0 _ _ (-2) 2 (by decide) (by decide)) rfl (fun u hu => (Z0 (Z3 rfl) rfl (OW.call Tryd.call74 rfl (rotl_does w0 _ _ (-13) 13 (by decide) (by decide)) rfl (fun u hu => (Z0 (Z111 rfl rfl rfl rfl) rfl (Z0 (Z3 rfl) rfl (OW.call Tryd.call74 rfl (rotl_does w0 _ _ (-22) 22 (by decide) (by decide)) rfl (fun u hu => ?_))))))))))
   refine Z0 (Z111 rfl rfl rfl rfl) rfl (Z0 (Z3 rfl) rfl (Z0 (Z3 rfl) rfl (Z0 (RV.and32 rfl rfl rfl rfl) rfl (Z0 (Z3 rfl) rfl (Z0 (Z3 rfl) rfl (Z0 (RV.and32 rfl rfl rfl rfl) rfl (Z0 (Z111 rfl rfl rfl rfl) rfl ?_)))))))
   refine Z0 (Z3 rfl) rfl (Z0 (Z3 rfl) rfl (Z0 (RV.and32 rfl rfl rfl rfl) rfl (Z0 (Z111 rfl rfl rfl rfl) rfl (Z0 (Z112 rfl rfl rfl rfl) rfl (Z0 (Z5 rfl) rfl (Z6 (Z1 (Z2 (Z0 (Z3 rfl) rfl ?_)))))))))
   refine Z0 (Z3 rfl) rfl (Z0 (Z3 rfl) rfl (Z0 (Z3 rfl) rfl (Z0 (Z3 rfl) rfl (Z0 (Z112 rfl rfl rfl rfl) rfl (Z0 (Z3 rfl) rfl (Z0 (Z3 rfl) rfl (Z0 (Z3 rfl) rfl ?_)))))))
   refine Z0 (Z3 rfl) rfl (Z0 (Z3 rfl) rfl (Z0 (Z112 rfl rfl rfl rfl) rfl (Z0 (Z5 rfl) rfl (Z0 (Z5 rfl) rfl (Z0 (Z5 rfl) rfl (Z0 (Z5 rfl) rfl (Z0 (Z5 rfl) rfl ?_)))))))
   refine Z0 (Z5 rfl) rfl (Z0 (Z5 rfl) rfl (Z0 (Z5 rfl) rfl (Z6 ?_)))
   (refine Z27 ?_; refine Z1 ?_)
   refine Z2 (Z0 (RV.add rfl rfl (by omega)) rfl (Z0 (Z3 rfl) rfl (Z6 ?_)))
   have hstep : runTo K W (St.of s) (t + 1) = (runTo K W (St.of s) t).step (K.getD t 0#32) (W.getD t 0#32) := rfl
   generalize runTo K W (St.of s) t = S at hstep ⊢
   refine Z108 (t + 1) (by omega) (by omega) ?_ (fun _ m => m)
   rw [hstep]
   exact ⟨rfl, rfl, rfl, rfl, rfl, rfl, rfl, rfl, rfl, rfl, rfl, rfl, rfl, trivial⟩
  ·have ht2 : t = 64 := by omega
   subst ht2
   generalize runTo K W (St.of s) 64 = S at hW ⊢
   (repeat (first | refine Z4 ?_ | refine Z1 ?_ | refine CW.block ?_ | refine CW.ret ?_ | refine CW.skip ?_ | refine CW.exit ?_ | refine Z9 ?_ | refine Z8 ?_ | refine Z27 ?_ | refine Z15 ?_ | refine QW.block_xn rfl ?_ | refine Z16 ?_))
   refine Z2 (Z0 (Z3 rfl) rfl (Z0 (Z3 rfl) rfl (Z0 (Z3 rfl) rfl (Z0 (Z3 rfl) rfl (Z0 (Z3 rfl) rfl (Z0 (Z3 rfl) rfl (Z0 (Z3 rfl) rfl ?_)))))))
   refine Z0 (Z3 rfl) rfl (Z0 (RV.buildA (l := u32s (List.replicate 8 0#32)) (cs := u32s S.toL) rfl rfl rfl (by rw [← Z123]; rfl) rfl rfl rfl) rfl (Z0 (Z3 rfl) rfl (Z6 ?_)))
   (refine Z1 ?_; refine CW.block ?_)
   have hv : S.toL.length = 8 := rfl
   rw [hW]
   generalize S.toL = V at hv ⊢
   refine CW.loop (σ := Nat) (fun i => i ≤ 8) (fun i => [(2, ptr (some b2) 0), (4, ptr (some b4) 0), (109, .agg (u32s V).toArray), (110, .int .i64 (i : Int))])
    (fun i => (some b2, blk (u32s (addTo s V i)) 26) :: (some b4, blk (u32s z8) 26) :: M) (fun i => 8 - i) 0 (by omega) ⟨rfl, rfl, rfl, rfl, trivial⟩ (fun _ m => by rw [addTo_zero]; exact m.tail.rot1) ?_
   intro i hi
   have hal := addTo_length hs hv i
   refine Z4 (Z2 (Z0 (RV.lss rfl rfl) rfl (Z6 ?_)))
   (refine Z1 ?_; refine Z4 ?_)
   refine Z104 rfl (fun hilt => ?_) (fun hilt => ?_)
   ·have hi2 : i < 8 := by omega
    have gv : (u32s V)[i]? = some (U32 (V.getD i 0#32)) := Z124 (by omega)
    have ga : (u32s (addTo s V i))[0 + i]? = some (U32 (s.getD i 0#32)) := by rw [Nat.zero_add, Z124 (by omega), addTo_get hs hv hi2]
    have hl2 : 0 + i < (u32s (addTo s V i)).length := by rw [Z100]; omega
    (refine CW.skip ?_; refine Z1 ?_; refine Z4 ?_; refine CW.block ?_; refine Z4 ?_)
    refine Z2 (Z0 (Z3 rfl) rfl (Z0 (RV.indexV _ rfl rfl rfl rfl rfl rfl rfl (by omega) (by assumption)) rfl (Z0 (Z5 rfl) rfl (Z0 (Z5 rfl) rfl (Z6 (Z1 (Z2 (Z0 (Z3 rfl) rfl (Z0 (Z103 _ rfl rfl rfl rfl rfl (by omega)) rfl ?_)))))))))
    refine Z0 (Z29 rfl (by exact List.Mem.head _; done) rfl rfl rfl (by assumption)) rfl ?_
    refine Z0 (Z3 rfl) rfl (Z0 (Z112 rfl rfl rfl rfl) rfl (Z0 (Z103 _ rfl rfl rfl rfl rfl (by omega)) rfl (Z28 (SV.store rfl rfl rfl rfl rfl (by assumption)) (Z6 ?_))))
    (refine Z27 ?_; refine Z1 ?_)
    refine Z2 (Z0 (RV.add rfl rfl (by omega)) rfl (Z0 (Z3 rfl) rfl (Z6 (Z108 (i + 1) (by omega) (by omega) ⟨rfl, rfl, rfl, rfl, trivial⟩ (fun _ m => ?_)))))
    rw [Nat.zero_add, u32s_set', addTo_set hs hv hi2] at m
    exact m
   ·have hi2 : i = 8 := by omega
    subst hi2
    rw [addTo_all hs hv] at hal ⊢
    (refine CW.exit ?_; refine Z9 ?_; refine Z9 ?_; refine Z15 ?_; refine Z1 ?_; refine Z4 ?_)
    refine Z2 ?_
    refine Z0 (Z22 rfl (by exact List.Mem.head _; done) rfl rfl rfl rfl ((Z100 _).trans (by assumption))) rfl ?_
    refine OW.rot1 ?_; refine Z28 (Z105 rfl rfl rfl (Z120 _) rfl ((Z100 _).trans (List.length_replicate ..)) ((Z100 _).trans (by assumption))) ?_
    refine Z6 ?_
    (refine Z1 ?_; refine CW.ret ?_)
    exact QW.retC1 rfl () trivial rfl Zh rfl rfl rfl rfl ((Z100 _).trans hal) rfl (fun _ m => m.tail.tail)
end Go.Fw.Tryd
namespace Go.Fw
def vt (l : List Int) : Nat → Int
 | 0 => 0
 | k + 1 => vt l k + l.getD k 0 * 65536 ^ k
theorem vt_succ (l : List Int) (k : Nat) : vt l (k + 1) = vt l k + l.getD k 0 * 65536 ^ k := rfl
theorem vt_0 (l : List Int) : vt l 0 = 0 := rfl
def Norm (l : List Int) : Prop := l.length = 16 ∧ ∀ k, 0 ≤ l.getD k 0 ∧ l.getD k 0 < 65536
theorem pow_pos' (k : Nat) : (0 : Int) < 65536 ^ k := Int.pow_pos (by decide)
theorem pow_mono {i k : Nat} (h : i ≤ k) : (65536 : Int) ^ i ≤ 65536 ^ k := by
 induction k with
 | zero => have : i = 0 := by omega
           subst this; exact Int.le_refl _
 | succ k ih =>
  by_cases e : i = k + 1
  ·subst e; exact Int.le_refl _
  ·have a := ih (by omega)
   have b := pow_pos' k
   have c : (65536 : Int) ^ (k + 1) = 65536 ^ k * 65536 := Int.pow_succ ..
   omega
theorem vt_bound {l : List Int} (h : ∀ k, 0 ≤ l.getD k 0 ∧ l.getD k 0 < 65536) : ∀ k, 0 ≤ vt l k ∧ vt l k < 65536 ^ k
 | 0 => by simp [vt]
 | k + 1 => by
  obtain ⟨h1, h2⟩ := vt_bound h k
  obtain ⟨a, b⟩ := h k
  have hp := pow_pos' k
  have h3 : l.getD k 0 * 65536 ^ k ≤ 65535 * 65536 ^ k := Int.mul_le_mul_of_nonneg_right (by omega) (by omega)
  have h4 : 0 ≤ l.getD k 0 * 65536 ^ k := Int.mul_nonneg a (by omega)
  have h5 : (65536 : Int) ^ (k + 1) = 65536 ^ k * 65536 := Int.pow_succ ..
  simp only [vt]
  omega
theorem vt_set {l : List Int} {p : Nat} {v : Int} (hp : p < l.length) : ∀ k, vt (l.set p v) k = vt l k + (if p < k then (v - l.getD p 0) * 65536 ^ p else 0)
 | 0 => by simp [vt]
 | k + 1 => by
  simp only [vt]
  rw [vt_set hp k]
  by_cases h : p = k
  ·subst h
   have e : (l.set p v).getD p 0 = v := by simp [List.getD, hp]
   rw [e, if_neg (Nat.lt_irrefl _), if_pos (Nat.lt_succ_self _)]
   grind
  ·have e : (l.set p v).getD k 0 = l.getD k 0 := by simp [List.getD, List.getElem?_set, h]
   rw [e]
   by_cases h2 : p < k
   ·rw [if_pos h2, if_pos (by omega)]; grind
   ·rw [if_neg h2, if_neg (by omega)]; grind
theorem vt_congr {x y : List Int} : ∀ {i n : Nat}, i ≤ n → (∀ k, i ≤ k → k < n → x.getD k 0 = y.getD k 0) → vt x n - vt y n = vt x i - vt y i := by
 intro i n
 induction n with
 | zero => intro h _; have : i = 0 := by omega
           subst this; rfl
 | succ n ih =>
  intro h hk
  by_cases e : i = n + 1
  ·subst e; rfl
  ·have := ih (by omega) (fun k h1 h2 => hk k h1 (by omega))
   simp only [vt]
   rw [hk n (by omega) (by omega)]
   omega
theorem vt_zero {l : List Int} {i n : Nat} (h : i ≤ n) (hz : ∀ k, i ≤ k → k < n → l.getD k 0 = 0) : vt l n = vt l i := by
 have := vt_congr (x := l) (y := []) h (fun k h1 h2 => by rw [hz k h1 h2]; rfl)
 have e : ∀ k, vt [] k = 0 := fun k => by
  induction k with
  | zero => rfl
  | succ k ih => simp [vt, ih]
 rw [e, e] at this
 omega
theorem Norm.set {l : List Int} (h : Norm l) {p : Nat} {v : Int} (hv : 0 ≤ v ∧ v < 65536) : Norm (l.set p v) := by
 refine ⟨by rw [List.length_set]; exact h.1, fun k => ?_⟩
 simp only [List.getD, List.getElem?_set]
 by_cases e : p = k
 ·rw [if_pos e]
  by_cases hp : p < l.length
  ·rw [if_pos hp]; exact hv
  ·rw [if_neg hp]; exact ⟨by decide, by decide⟩
 ·rw [if_neg e]; exact h.2 k
def zL : List Int := List.replicate 16 0
theorem zL_getD (k : Nat) : zL.getD k 0 = 0 := by
 simp only [zL, List.getD, List.getElem?_replicate]; split <;> rfl
theorem zL_norm : Norm zL := ⟨List.length_replicate .., fun k => by rw [zL_getD]; decide⟩
theorem zL_vt : ∀ k, vt zL k = 0
 | 0 => rfl
 | k + 1 => by simp only [vt, zL_vt k, zL_getD]; simp
theorem small_limbs {l : List Int} (h : Norm l) {i : Nat} (hi : i ≤ 16) (hv : vt l 16 < 65536 ^ i) : ∀ k, i ≤ k → l.getD k 0 = 0 := by
 intro k hk
 by_cases h16 : k < 16
 ·by_cases hz : l.getD k 0 = 0
  ·exact hz
  ·exfalso
   have h1 : vt l (k + 1) ≤ vt l 16 := by
    have : ∀ n, k + 1 ≤ n → vt l (k + 1) ≤ vt l n := by
     intro n
     induction n with
     | zero => intro h; omega
     | succ n ih =>
      intro hn
      by_cases e : k = n
      ·subst e; exact Int.le_refl _
      ·have a := ih (by omega)
       have b := Int.mul_nonneg (h.2 n).1 (Int.le_of_lt (pow_pos' n))
       simp only [vt] at a ⊢
       omega
    exact this 16 (by omega)
   have h2 : (65536 : Int) ^ i ≤ 65536 ^ k := pow_mono hk
   have h3 : 1 * (65536 : Int) ^ k ≤ l.getD k 0 * 65536 ^ k := Int.mul_le_mul_of_nonneg_right (by have := (h.2 k).1; omega) (Int.le_of_lt (pow_pos' k))
   have h4 := (vt_bound h.2 k).1
   generalize vt l 16 = V at hv h1
   simp only [vt] at h1
   omega
 ·simp [List.getD, List.getElem?_eq_none (show l.length ≤ k by rw [h.1]; omega)]
theorem cmp_limbs {x y : List Int} (hx : Norm x) (hy : Norm y) {i : Nat} (hi : i < 16) (he : ∀ k, i < k → k < 16 → x.getD k 0 = y.getD k 0) (hne : x.getD i 0 ≠ y.getD i 0) : (vt x 16 ≤ vt y 16) ↔ x.getD i 0 < y.getD i 0 := by
 have h := vt_congr (x := x) (y := y) (i := i + 1) (n := 16) (by omega) (fun k h1 h2 => he k (by omega) h2)
 simp only [vt] at h
 obtain ⟨a1, a2⟩ := vt_bound hx.2 i
 obtain ⟨b1, b2⟩ := vt_bound hy.2 i
 have hp := pow_pos' i
 simp only [vt] at h ⊢
 constructor
 ·intro hle
  by_cases hlt : x.getD i 0 < y.getD i 0
  ·exact hlt
  ·exfalso
   have h3 : (y.getD i 0 + 1) * (65536 : Int) ^ i ≤ x.getD i 0 * 65536 ^ i := Int.mul_le_mul_of_nonneg_right (by omega) (by omega)
   rw [Int.add_mul] at h3
   omega
 ·intro hlt
  have h3 : (x.getD i 0 + 1) * (65536 : Int) ^ i ≤ y.getD i 0 * 65536 ^ i := Int.mul_le_mul_of_nonneg_right (by omega) (by omega)
  rw [Int.add_mul] at h3
  omega
def primeB (n : Nat) : Bool := !((List.range n).any fun d => decide (2 ≤ d) && (decide (d * d ≤ n) && decide (n % d = 0)))
theorem primeB_no {n d : Nat} (hd : 2 ≤ d) (hdd : d * d ≤ n) (hm : n % d = 0) : primeB n = false := by
 have hlt : d < n := by
  have : d * 2 ≤ d * d := Nat.mul_le_mul_left d hd
  omega
 unfold primeB
 rw [Bool.not_eq_false', List.any_eq_true]
 exact ⟨d, List.mem_range.2 hlt, by simp [hd, hdd, hm]⟩
theorem primeB_yes {n d : Nat} (hdd : n < d * d) (h : ∀ e, 2 ≤ e → e < d → n % e ≠ 0) : primeB n = true := by
 unfold primeB
 rw [Bool.not_eq_true', List.any_eq_false]
 intro e he
 simp only [Bool.and_eq_true, decide_eq_true_eq, not_and]
 intro h2 h3
 refine h e h2 ?_
 rcases Nat.lt_or_ge e d with h4 | h4
 ·exact h4
 ·have := Nat.mul_le_mul h4 h4
  omega
def primesTo (n : Nat) : List Nat := (List.range n).filter fun p => decide (2 ≤ p) && primeB p
theorem primesTo_succ (n : Nat) : primesTo (n + 1) = if (decide (2 ≤ n) && primeB n) = true then primesTo n ++ [n] else primesTo n := by
 unfold primesTo
 rw [List.range_succ, List.filter_append]
 cases h : (decide (2 ≤ n) && primeB n) <;> simp [h]
theorem primesTo_prefix {n top : Nat} (h : n ≤ top) : ∃ ext, primesTo top = primesTo n ++ ext := by
 induction top with
 | zero => exact ⟨[], by have : n = 0 := by omega
                         subst this; rfl⟩
 | succ t ih =>
  by_cases e : n = t + 1
  ·subst e; exact ⟨[], by simp⟩
  ·obtain ⟨ext, he⟩ := ih (by omega)
   rw [primesTo_succ]
   split
   ·exact ⟨ext ++ [t], by rw [he, List.append_assoc]⟩
   ·exact ⟨ext, he⟩
def rtGo (k N : Nat) : Nat → Nat → Nat → Nat
 | 0, lo, _ => lo
 | f + 1, lo, hi => if hi - lo ≤ 1 then lo else if ((lo + hi) / 2) ^ k ≤ N then rtGo k N f ((lo + hi) / 2) hi else rtGo k N f lo ((lo + hi) / 2)
def rt (k p : Nat) : Nat := rtGo k (p * 2 ^ (32 * k)) 50 0 (2 ^ 48)
def certB (k n : Nat) : Bool := (primesTo n).all fun p => decide (rt k p ^ k ≤ p * 2 ^ (32 * k)) && decide (p * 2 ^ (32 * k) < (rt k p + 1) ^ k)
theorem cert2 : certB 2 20 = true := by decide +kernel
theorem cert3 : certB 3 312 = true := by decide +kernel
theorem len2 : (primesTo 20).length = 8 := by decide +kernel
theorem len3 : (primesTo 312).length = 64 := by decide +kernel
theorem root_unique {a b k N : Nat} (h1 : a ^ k ≤ N) (h2 : N < (b + 1) ^ k) : a ≤ b := by
 rcases Nat.lt_or_ge b a with h | h
 ·have := Nat.pow_le_pow_left (show b + 1 ≤ a by omega) k
  omega
 ·exact h
def rootW (k p : Nat) : BitVec 32 := BitVec.ofNat 32 (rt k p)
def startL : List (BitVec 32) := [0x6a09e667#32, 0xbb67ae85#32, 0x3c6ef372#32, 0xa54ff53a#32, 0x510e527f#32, 0x9b05688c#32, 0x1f83d9ab#32, 0x5be0cd19#32]
theorem start_roots : (primesTo 20).map (rootW 2) = startL := by decide +kernel
def constL : List (BitVec 32) := [1116352408#32, 1899447441#32, 3049323471#32, 3921009573#32, 961987163#32, 1508970993#32, 2453635748#32, 2870763221#32, 3624381080#32, 310598401#32, 607225278#32, 1426881987#32, 1925078388#32, 2162078206#32, 2614888103#32, 3248222580#32, 3835390401#32, 4022224774#32, 264347078#32, 604807628#32, 770255983#32, 1249150122#32, 1555081692#32, 1996064986#32, 2554220882#32, 2821834349#32, 2952996808#32, 3210313671#32, 3336571891#32, 3584528711#32, 113926993#32, 338241895#32, 666307205#32, 773529912#32, 1294757372#32, 1396182291#32, 1695183700#32, 1986661051#32, 2177026350#32, 2456956037#32, 2730485921#32, 2820302411#32, 3259730800#32, 3345764771#32, 3516065817#32, 3600352804#32, 4094571909#32, 275423344#32, 430227734#32, 506948616#32, 659060556#32, 883997877#32, 958139571#32, 1322822218#32, 1537002063#32, 1747873779#32, 1955562222#32, 2024104815#32, 2227730452#32, 2361852424#32, 2428436474#32, 2756734187#32, 3204031479#32, 3329325298#32]
theorem const_roots : (primesTo 312).map (rootW 3) = constL := by decide +kernel
end Go.Fw
namespace Go.Fw
def padLen (n : Int) : Nat := (9 + (64 - (n % 64 + 9) % 64) % 64).toNat
def padAt (L : Nat) (x : BitVec 64) (i : Nat) : List (BitVec 8) :=
 (List.range L).map fun k => if k = 0 then 128#8 else if L - 1 - k < i then (x >>> (8 * (L - 1 - k))).setWidth 8 else 0#8
def padL (n : Int) : List (BitVec 8) := padAt (padLen n) (BitVec.ofInt 64 n * 8#64) 8
@[simp] theorem padAt_length (L : Nat) (x : BitVec 64) (i : Nat) : (padAt L x i).length = L := by simp [padAt]
theorem padAt_step {L : Nat} {x : BitVec 64} {i : Nat} (hi : i < 8) (hL : 9 ≤ L) : (padAt L x i).set (L - 1 - i) ((x >>> (8 * i)).setWidth 8) = padAt L x (i + 1) := by
 apply List.ext_getElem?
 intro k
 simp only [padAt, List.getElem?_set, List.getElem?_map, List.length_map, List.length_range]
 by_cases hk : k < L
 ·by_cases h1 : L - 1 - i = k
  ·subst h1
   have h2 : L - 1 - i < L := by omega
   have h3 : ¬ (L - 1 - i = 0) := by omega
   have h4 : L - 1 - (L - 1 - i) = i := by omega
   simp [h2, h3, h4]
  ·rw [if_neg h1]
   rw [List.getElem?_range hk]
   simp only [Option.map_some]
   by_cases h0 : k = 0
   ·simp [h0]
   ·have : (L - 1 - k < i) ↔ (L - 1 - k < i + 1) := by omega
    simp [h0, this]
 ·have : (List.range L)[k]? = none := by simp; omega
  rw [this]
  have h1 : ¬ (L - 1 - i = k) := by omega
  simp [h1]
theorem padAt_zero {L : Nat} {x : BitVec 64} (hL : 0 < L) : (List.replicate L (0#8)).set 0 128#8 = padAt L x 0 := by
 apply List.ext_getElem?
 intro k
 simp only [padAt, List.getElem?_set, List.getElem?_map, List.length_replicate, List.getElem?_replicate]
 by_cases hk : k < L
 ·rw [List.getElem?_range hk]
  by_cases h0 : 0 = k
  ·subst h0; simp [hk]
  ·have : ¬ k = 0 := by omega
   simp [h0, hk, this]
 ·have : (List.range L)[k]? = none := by simp; omega
  rw [this]
  have h1 : ¬ (0 = k) := by omega
  simp [h1, hk]
theorem u8s_set (l : List (BitVec 8)) (i : Nat) (v : BitVec 8) : (u8s l).set i (U8 v) = u8s (l.set i v) := by simp [u8s, List.map_set]
theorem u8s_rep (n : Nat) : List.replicate n (Value.int .u8 0) = u8s (List.replicate n 0#8) := by simp [u8s, U8]
@[simp] theorem padL_length (n : Int) : (padL n).length = padLen n := padAt_length _ _ _
theorem padL_get {n : Int} {k : Nat} (h : k < padLen n) : (padL n)[k]? = some (if k = 0 then 128#8 else if padLen n - 1 - k < 8 then ((BitVec.ofInt 64 n * 8#64) >>> (8 * (padLen n - 1 - k))).setWidth 8 else 0#8) := by
 simp [padL, padAt, List.getElem?_range h]
def beL (x : BitVec 64) (k : Nat) : List (BitVec 8) := (List.range k).map fun j => (x >>> (8 * (7 - j))).setWidth 8
theorem beL_succ (x : BitVec 64) (k : Nat) : beL x (k + 1) = beL x k ++ [(x >>> (8 * (7 - k))).setWidth 8] := by simp [beL, List.range_succ]
theorem padL_parts {n : Int} (hL : 9 ≤ padLen n) : 128#8 :: List.replicate (padLen n - 9) 0#8 ++ beL (BitVec.ofInt 64 n * 8#64) 8 = padL n := by
 apply List.ext_getElem?
 intro k
 have hlen : (128#8 :: List.replicate (padLen n - 9) 0#8).length = padLen n - 8 := by simp; omega
 by_cases hk : k < padLen n
 ·rw [padL_get hk]
  by_cases h1 : k < padLen n - 8
  ·rw [List.getElem?_append_left (by omega)]
   cases k with
   | zero => simp
   | succ k =>
    have h2 : k < padLen n - 9 := by omega
    have h3 : ¬ (padLen n - 1 - (k + 1) < 8) := by omega
    simp [h2, h3]
  ·rw [List.getElem?_append_right (by omega), hlen]
   have h2 : k - (padLen n - 8) < 8 := by omega
   have h3 : ¬ k = 0 := by omega
   have h4 : padLen n - 1 - k < 8 := by omega
   have h5 : 7 - (k - (padLen n - 8)) = padLen n - 1 - k := by omega
   simp [beL, List.getElem?_range h2, h3, h4, h5]
 ·rw [List.getElem?_eq_none (by simp [beL]; omega), List.getElem?_eq_none (by simp; omega)]
end Go.Fw
namespace Go.Fw
open Go
section
variable {P : Program} {n : Nat} {Q : Exit → Act → World → Prop} {w0 : World} {L : Z109} {M : List Ent} {ops : Array Oper} {f : Nat} {done : Array Bool} {d : Nat} {op : Op} {ty : TypeId} {pos : String} {aft : Array Edge} {v : Value}
def AW (P : Program) (n : Nat) (ops : Array Oper) (Q : Exit → Act → World → Prop) (w0 : World) (f : Nat) (done : Array Bool) (L : Z109) (M : List Ent) : Prop :=
 ∀ a w, Fr n L a → Mem w0 w M → wpAny P .any ops Q f done a w
def AO (P : Program) (n : Nat) (ops : Array Oper) (Q : Exit → Act → World → Prop) (w0 : World) (i f : Nat) (done : Array Bool) (L : Z109) (M : List Ent) : Prop :=
 ∀ a w, Fr n L a → Mem w0 w M → wpOp P ops Q i (wpAny P .any ops Q f done) a w
theorem AW.nil (hr : Region.ready .any ops done = []) (h : QW n Q w0 .normal L M) : AW P n ops Q w0 0 done L M := fun a w fr m => ⟨hr, h.elim a w fr m⟩
theorem AW.one (i : Nat) (hr : Region.ready .any ops done = [i]) (h : AO P n ops Q w0 i f (done.setIfInBounds i true) L M) : AW P n ops Q w0 (f + 1) done L M := fun a w fr m =>
 ⟨(fun e => by rw [hr] at e; cases e), (fun j hj => by rw [hr] at hj; obtain rfl : j = i := by simpa using hj
                                                       exact h a w fr m)⟩
theorem AO.rv {i : Nat} (ho : ops[i]? = some ⟨some d, op, ty, pos, aft, none⟩) (hop : RV P w0 L M op v) (hd : Nat.blt d n = true) (k : AW P n ops Q w0 f done ((d, v) :: L) M) : AO P n ops Q w0 i f done L M := fun a w fr m => by
 unfold wpOp
 rw [ho]
 refine (if_pos (by simp [Region.wanted])).mpr (.inl ?_)
 unfold Oper.wp
 rw [hop a.eval w (fun x u hx => fr.eval hx) m _ rfl]
 exact k _ _ (fr.put hd v) m
theorem AO.sv {i : Nat} {M' : List Ent} (ho : ops[i]? = some ⟨none, op, ty, pos, aft, none⟩) (hop : SV P w0 L M op M') (k : AW P n ops Q w0 f done L M') : AO P n ops Q w0 i f done L M := fun a w fr m => by
 unfold wpOp
 rw [ho]
 obtain ⟨w', hr, m'⟩ := hop a.eval w (fun x u hx => fr.eval hx) m ⟨none, op, ty, pos, aft, none⟩ rfl
 refine (if_pos (by simp [Region.wanted])).mpr (.inl ?_)
 unfold Oper.wp
 rw [hr]
 exact k _ _ fr m'
theorem AO.av {i : Nat} {τ : Type} {I : τ → Prop} {v : τ → Value} {M' : τ → List Ent} (ho : ops[i]? = some ⟨some d, op, ty, pos, aft, none⟩) (hop : AV P w0 L M op I v M') (hd : Nat.blt d n = true) (k : ∀ x, I x → AW P n ops Q w0 f done ((d, v x) :: L) (M' x)) : AO P n ops Q w0 i f done L M := fun a w fr m => by
 unfold wpOp
 rw [ho]
 obtain ⟨x, w', hI, hr, m'⟩ := hop a.eval w (fun x u hx => fr.eval hx) m ⟨some d, op, ty, pos, aft, none⟩ rfl
 refine (if_pos (by simp [Region.wanted])).mpr (.inl ?_)
 unfold Oper.wp
 rw [hr]
 exact k x hI _ _ (fr.put hd _) m'
theorem AO.alloc [Types P] {i : Nat} {e ty1 : TypeId} {ti : TI} {l : List Value} (ho : ops[i]? = some ⟨some d, .alloc e, ty1, pos, aft, none⟩) (hi : Fw.ty P e = some ti) (hl : ti.z.cells = l.toArray) (hd : Nat.blt d n = true) (k : ∀ b : Nat, AW P n ops Q w0 f done ((d, ptr (some b) 0) :: L) ((some b, blk l e) :: M)) : AO P n ops Q w0 i f done L M :=
 AO.av (τ := Nat) (I := fun _ => True) (v := fun b => ptr (some b) 0) (M' := fun b => (some b, blk l e) :: M) ho (fun ρ w hρ m o ho => ⟨w.heap.size, w.alloc (blk l e), trivial, by
  obtain ⟨_, ti, h1, h2, h3, h4⟩ := ty_ok hi
  simp [execOp, ho, Instr.alloc, zeroValue, typeInfo, h1, h4, newVar, newRow, ptr, blk, hl], m.alloc _⟩) hd (fun b _ => k b)
end
end Go.Fw
namespace Go.Fw
open Go Go.RowKit
section
variable {P : Program} [Types P] {w0 : World} {L : Z109} {M : List Ent} {t e : TypeId} {x y z : Operand} {idx idx' : Int} {k k' : IntKind}
end
def cpV {α : Type} {n : Nat} (v : Vector α n) (lo : Nat) (l : List α) : Vector α n :=
 if h : lo + l.length ≤ n then ⟨(v.toList.take lo ++ l ++ v.toList.drop (lo + l.length)).toArray, by simp; omega⟩ else v
end Go.Fw
namespace Go.Fw
open Go Go.RowKit
section
variable {P : Program} [Types P] {n : Nat} {Q : Exit → Act → World → Prop} {w0 : World} {L : Z109} {M : List Ent} {ops : Array Oper} {rest : List Oper} {t e ty1 : TypeId} {x : Operand} {pos : String} {aft : Array Edge}
theorem OW.clear {b off len cap : Nat} {l : List Value} {te : TypeId} {i : TI} {z : Value} (hx : ev L x = some (sl (some b) off len cap)) (ht : tyU P t = some (.slice e)) (hi : Fw.ty P e = some i) (hz : i.z.cells = #[z]) (h1 : z.oneCell' = true) (hp : 0 < len) (hl : off + len ≤ l.length)
    (k : OW P n ops Q w0 rest L ((some b, blk (spl l off (List.replicate len z)) te) :: M)) :
    OW P n ops Q w0 (⟨none, .call ⟨.builtin .clear, #[x], #[t]⟩, ty1, pos, aft, none⟩ :: rest) L ((some b, blk l te) :: M) := by
 refine OW.av_none (τ := Unit) (I := fun _ => True) (v := fun _ => .tuple #[]) (M' := fun _ => (some b, blk (spl l off (List.replicate len z)) te) :: M) (fun ρ w hρ mm o ho => ?_) (fun _ _ => k)
 obtain ⟨_, ti, h1', h2, h3, h4⟩ := ty_ok hi
 have hv : ∀ w, (zeroValue e).run P w = .ok i.z w := fun w => by simp [zeroValue, typeInfo, h1', h4]
 have hzc : (Builtin.zeroCells i.z.cells len).toList = List.replicate len z := by
  rw [hz]
  simp [Builtin.zeroCells]
  apply List.ext_getElem
  ·simp
  ·intro i h1 h2
   simp [Nat.mod_one]
 have hm := mm.ents _ (List.mem_cons_self ..) b rfl
 have hst := run_storeCells_at (P := P) b off te (List.replicate len z) 0 l.toArray w hm.2 (by simpa using hl) (fun v hv => by rw [List.eq_of_mem_replicate hv]; exact h1)
 simp only [Nat.add_zero] at hst
 obtain ⟨m, rfl⟩ : ∃ m, len = m + 1 := ⟨len - 1, by omega⟩
 refine ⟨(), _, trivial, ?_, mm.turned (w' := w.setRow b (l.toArray.toList.take off ++ List.replicate (m + 1) z ++ l.toArray.toList.drop (off + (List.replicate (m + 1) z).length)).toArray) rfl rfl rfl (by simp [World.setRow]) ?_ ?_⟩
 ·simp [execOp, ho, resolve, hρ x _ hx, invoke, builtin, Builtin.clear_, Z114 ht, sl, hv, hzc, hst]
 ·intro b' hb'
  cases hb'
  rw [setRow_heap w b l.toArray _ te (0, 0) hm.2]
  simp [blk, spl]
 ·intro kk hk
  exact setRow_other _ _ _ _ (fun e => hk (by rw [e]))
end
end Go.Fw
namespace Go.Fw
end Go.Fw
namespace Go.Fw
open Go Go.RowKit
section
variable {P : Program} [Types P] {n : Nat} {Q : Exit → Act → World → Prop} {w0 : World} {L : Z109} {M R : List Ent} {x y : Operand} {t e : TypeId}
theorem AV.append {i : TI} {ob : Option Nat} {len cap m c s : Nat} {l r vs : List Value} {B : Option Addr} {t2 e2 : TypeId} (hx : ev L x = some (sl ob 0 len cap)) (hy : ev L y = some (.slice B m c)) (ht : tyU P t = some (.slice e)) (hi : ty P e = some i) (hs : i.sz = s) (ht2 : tyU P t2 = some (.slice e2))
    (hl : l.length = len * s) (hr : (l ++ r).length = cap * s) (hn : ob = none → cap = 0) (hR : Mem.Says w0 ((ob, blk (l ++ r) e) :: M) (fun w => Rd w B vs)) (hvl : vs.length = m * s) (hv1 : ∀ u ∈ vs, u.oneCell' = true) (hB : B = none → m = 0) (hspos : 0 < s)
    (h63 : len + m ≤ 9223372036854775807) (hb : (len + m) * i.bytes ≤ 140737488355328) (hz : i.z.cells.size = s) :
    AV P w0 L ((ob, blk (l ++ r) e) :: M) (.call ⟨.builtin .append, #[x, y], #[t, t2]⟩) (τ := Option Nat × List Value × Nat) (fun q => (l ++ vs ++ q.2.1).length = q.2.2 * s ∧ (q.1 = none → q.2.2 = 0)) (fun q => sl q.1 0 (len + m) q.2.2) (fun q => (q.1, blk (l ++ vs ++ q.2.1) e) :: M) := by
 intro ρ w hρ mm o ho
 obtain ⟨hu, ti, g1, g2, g3, g4⟩ := ty_ok hi
 have hrd := hR w mm
 have hsrc : Src P ti.size t2 (.slice B m c) m vs w := by rw [g2, hs]; exact rd_src ht2 hrd hvl hv1 hB
 have hrun : ∀ (v' : Value) (w' : World), (Builtin.append_ #[t, t2] o.type #[sl ob 0 len cap, .slice B m c]).run P w = .ok v' w' → (execOp ρ o).run P w = .ok (.value v') w' := fun v' w' hh => by
  simp [execOp, ho, resolve, hρ x _ hx, hρ y _ hy, invoke, builtin, hh]
 have hsz : ti.size = s := by rw [g2, hs]
 by_cases hroom : len + m ≤ cap
 ·-- it fits
  cases ob with
  | none =>
   have hc0 := hn rfl
   subst hc0
   have hm0 : m = 0 := by omega
   have hl0 : len = 0 := by omega
   subst hm0 hl0
   have hv0 : vs = [] := List.length_eq_zero_iff.1 (by simpa using hvl)
   subst hv0
   have e1 : l = [] := List.length_eq_zero_iff.1 (by simpa using hl)
   subst e1
   refine ⟨(none, r, 0), w, ⟨by simpa using hr, fun _ => rfl⟩, hrun _ _ ?_, ?_⟩
   ·exact run_append_nothing w t t2 o.type e ti (tyU_ok ht) g1 none 0 0 (Nat.le_refl _) _ hsrc
   ·exact mm.tail.nil_ent _
  | some b =>
   have hm := mm.ents _ (List.mem_cons_self ..) b rfl
   have hlen : l.length + vs.length ≤ (l ++ r).length := by rw [hl, hvl, hr, ← Nat.add_mul]; exact Nat.mul_le_mul_right _ hroom
   have hra := run_append_room_src (P := P) w t t2 o.type e ti (tyU_ok ht) g1 b 0 len cap (.slice B m c) m vs hsrc hroom (fun j hj => by
       rw [mm.cell (List.mem_cons_self ..), hsz]
       have : 0 + len * s + j < (l ++ r).length := by omega
       rw [List.getElem?_eq_getElem this]; rfl) (fun j hj => mm.notFrozen (List.mem_cons_self ..) _)
   rw [hsz] at hra
   have hset : w.setCells b (0 + len * s) vs = w.setRow b ((l ++ r).toArray.toList.take (0 + len * s) ++ vs ++ (l ++ r).toArray.toList.drop (0 + len * s + vs.length)).toArray := by
    have q1 := run_storeCells_at (P := P) b (0 + len * s) e vs 0 (l ++ r).toArray w hm.2 (by simp; simp at hlen; omega) hv1
    have q2 := run_storeCells_cells (P := P) b (0 + len * s) vs 0 w (fun j hj => by
     rw [mm.cell (List.mem_cons_self ..)]
     have : 0 + len * s + 0 + j < (l ++ r).length := by omega
     rw [List.getElem?_eq_getElem this]; rfl) (fun j hj => mm.notFrozen (List.mem_cons_self ..) _) hv1
    rw [q1] at q2
    simp only [Nat.add_zero] at q2
    injection q2 with _ q3
    exact q3.symm
   rw [hset] at hra
   refine ⟨(some b, r.drop vs.length, cap), _, ⟨?_, fun h => by cases h⟩, hrun _ _ (by simpa [sl] using hra), mm.turned (w' := w.setRow b _) rfl rfl rfl (by simp [World.setRow]) ?_ ?_⟩
   ·rw [← hr]; simp at hlen ⊢; omega
   ·intro b' hb'
    cases hb'
    rw [setRow_heap w b (l ++ r).toArray _ e (0, 0) hm.2]
    simp only [blk]
    simp [← hl, List.drop_append]
   ·intro kk hk
    exact setRow_other _ _ _ _ (fun e => hk (by rw [e]))
 ·-- it grows
  have hold : (Builtin.firstCells ti.size len (sl ob 0 len cap)).run P w.drew = .ok l.toArray w.drew := by
   cases ob with
   | none =>
    have hc0 := hn rfl
    have e0 : (l ++ r).length = 0 := by rw [hr, hc0]; simp
    have e1 : l = [] := by cases l with | nil => rfl | cons a b => simp at e0
    subst e1
    simp [sl, Builtin.firstCells]
   | some b =>
    have := run_firstCells_some (P := P) w.drew ti.size len ⟨b, 0, none⟩ len cap l (by rw [hsz]; exact hl) (fun j u hj => by
     rw [Z107, (mm.drew).cell (List.mem_cons_self ..)]
     have hj' : j < l.length := (List.getElem?_eq_some_iff.1 hj).1
     rw [Nat.zero_add, List.getElem?_append_left hj']; exact hj)
    exact this
  have hg := run_append_grow_src (P := P) w t t2 o.type e ti i.z (tyU_ok ht) g1 g4 (ob.map fun k => ⟨k, 0, none⟩) len cap l hold (.slice B m c) m vs hsrc (by omega) (by omega)
   (growslice_fits (by omega) (by rw [g3]; exact hb))
  refine ⟨(some w.heap.size, (Builtin.zeroCells i.z.cells (grownCap w (len + m) cap e - (len + m))).toList, grownCap w (len + m) cap e), _, ⟨?_, fun h => by cases h⟩, hrun _ _ (by simpa [sl] using hg), ?_⟩
  ·have hge := grownCap_ge w (len + m) cap e
   simp only [List.length_append, Array.length_toList, size_zeroCells, hz, hl, hvl]
   rw [← Nat.add_mul, ← Nat.add_mul]
   congr 1; omega
  ·have := mm.drew.tail.alloc (blk (l ++ vs ++ (Builtin.zeroCells i.z.cells (grownCap w (len + m) cap e - (len + m))).toList) e)
   have e3 : (.cells ((l ++ vs).toArray ++ Builtin.zeroCells i.z.cells (grownCap w (len + m) cap e - (len + m))) e : Obj) = blk (l ++ vs ++ (Builtin.zeroCells i.z.cells (grownCap w (len + m) cap e - (len + m))).toList) e := by
    unfold blk
    congr 1
    apply Array.ext'
    simp
   rw [e3]
   exact this
theorem AV.appendOwn {i : TI} {ob : Option Nat} {len cap m c s : Nat} {l r vs : List Value} {B : Option Addr} {t2 e2 : TypeId} (hx : ev L x = some (sl ob 0 len cap)) (hy : ev L y = some (.slice B m c)) (ht : tyU P t = some (.slice e)) (hi : ty P e = some i) (hs : i.sz = s) (ht2 : tyU P t2 = some (.slice e2))
    (hl : OwnS ob len cap s l r) (hR : Mem.Says w0 ((ob, blk (l ++ r) e) :: M) (fun w => Rd w B vs)) (hvl : vs.length = m * s) (hv1 : ∀ u ∈ vs, u.oneCell' = true) (hB : B = none → m = 0) (hspos : 0 < s)
    (hby : 0 < i.bytes) (hb : (len + m) * i.bytes ≤ 140737488355328) (hz : i.z.cells.size = s) (len' : Nat) (l' : List Value) (hlen : len + m = len') (hcs : l ++ vs = l') :
    AV P w0 L ((ob, blk (l ++ r) e) :: M) (.call ⟨.builtin .append, #[x, y], #[t, t2]⟩) (τ := Option Nat × List Value × Nat) (fun q => OwnS q.1 len' q.2.2 s l' q.2.1) (fun q => sl q.1 0 len' q.2.2) (fun q => (q.1, blk (l' ++ q.2.1) e) :: M) := by
 have hm : len + m ≤ (len + m) * i.bytes := Nat.le_mul_of_pos_right _ hby
 subst hlen hcs
 intro ρ w hρ mm o ho
 obtain ⟨q, w', h1, h2, h3⟩ := AV.append (P := P) hx hy ht hi hs ht2 hl.n hl.hr hl.hn hR hvl hv1 hB hspos (by omega) hb hz ρ w hρ mm o ho
 exact ⟨q, w', ⟨by rw [List.length_append, hl.n, hvl, Nat.add_mul], h1.1, h1.2, by omega⟩, h2, h3⟩
variable {ops : Array Oper} {hard : List Nat} {f : Nat} {done : Array Bool} {op : Op} {ty : TypeId} {pos : String} {aft : Array Edge} {d : Nat}
theorem XW.av (i : Nat) {τ : Type} {I : τ → Prop} {v : τ → Value} {M' : τ → List Ent} (ho : ops[i]? = some ⟨some d, op, ty, pos, aft, none⟩) (hr : (Region.ready .any ops done == [i] && hard.contains i) = true) (hop : AV P w0 L M op I v M') (hMR : ∀ x, I x → ∀ w, Mem w0 w (M' x) → Mem w0 w R) (hd : Nat.blt d n = true)
    (k : ∀ x, I x → XW P n ops Q w0 R hard f (done.setIfInBounds i true) ((d, v x) :: L) (M' x)) : XW P n ops Q w0 R hard (f + 1) done L M := by
 unfold XW at *
 intro hR hB inv a w fr mm
 simp only [Bool.and_eq_true, beq_iff_eq] at hr
 obtain ⟨hr, hi⟩ := hr
 have him : i < ops.size := (Array.getElem?_eq_some_iff.1 ho).1
 refine ⟨by rw [hr]; simp, fun j hj => ?_⟩
 rw [hr] at hj
 obtain rfl : j = i := by simpa using hj
 refine ⟨him, _, ho, .inl ⟨by simp [Region.wanted], ?_⟩⟩
 obtain ⟨x, w', hI, hrun, m'⟩ := hop a.eval w (fun x u hx => fr.eval hx) mm ⟨some d, op, ty, pos, aft, none⟩ rfl
 rw [hrun]
 refine ⟨?_, k x hI (hMR x hI) hB (inv.set (by rw [hr]; simp) him) _ _ (fr.put hd _) m'⟩
 unfold Rl
 rw [if_pos hi]
 exact fun _ => hMR x hI _ m'
theorem XW.appendOwn (i : Nat) {ti : TI} {ob : Option Nat} {len cap m c s : Nat} {l r vs : List Value} {B : Option Addr} {t2 e2 : TypeId} (ho : ops[i]? = some ⟨some d, .call ⟨.builtin .append, #[x, y], #[t, t2]⟩, ty, pos, aft, none⟩) (hr : (Region.ready .any ops done == [i] && hard.contains i) = true)
    (hx : ev L x = some (sl ob 0 len cap)) (hy : ev L y = some (.slice B m c)) (ht : tyU P t = some (.slice e)) (hi : Fw.ty P e = some ti) (hs : ti.sz = s) (ht2 : tyU P t2 = some (.slice e2))
    (hl : OwnS ob len cap s l r) (hR : Mem.Says w0 ((ob, blk (l ++ r) e) :: M) (fun w => Rd w B vs)) (hvl : vs.length = m * s) (hv1 : ∀ u ∈ vs, u.oneCell' = true) (hB : B = none → m = 0) (hspos : 0 < s)
    (hby : 0 < ti.bytes) (hb : (len + m) * ti.bytes ≤ 140737488355328) (hz : ti.z.cells.size = s) (len' : Nat) (l' : List Value) (hlen : len + m = len') (hcs : l ++ vs = l') (hMR : ∀ w, Mem w0 w M → Mem w0 w R) (hd : Nat.blt d n = true)
    (k : ∀ (ob' : Option Nat) (r' : List Value) (cap' : Nat), OwnS ob' len' cap' s l' r' → XW P n ops Q w0 R hard f (done.setIfInBounds i true) ((d, sl ob' 0 len' cap') :: L) ((ob', blk (l' ++ r') e) :: M)) : XW P n ops Q w0 R hard (f + 1) done L ((ob, blk (l ++ r) e) :: M) :=
 XW.av i ho hr (AV.appendOwn hx hy ht hi hs ht2 hl hR hvl hv1 hB hspos hby hb hz len' l' hlen hcs) (fun q _ w m => hMR w m.tail) hd (fun q hq => k q.1 q.2.1 q.2.2 hq)
end
end Go.Fw
namespace Go.Fw
open Go
theorem MRoom.view {Φ : Ctx} {A : Option Addr} {c : Nat} {x y : List (BitVec 8)} (h : View Φ A (x ++ y).length c 1 (u8s (x ++ y))) : View Φ A x.length c 1 (u8s x) := by
 have h1 := h.hi (k := x.length) (by rw [List.length_append]; omega)
 rwa [Nat.mul_one, show (u8s (x ++ y)).take x.length = u8s x by simp [u8s]] at h1
theorem OwnS.mroom {w0 : World} {ob : Option Nat} {len cap : Nat} {x y : List (BitVec 8)} {r : List Value} {te : TypeId} (h : OwnS ob len cap 1 (u8s x) (u8s y ++ r)) {Ψ : Ctx} (hΨ : ∀ w, Ψ w → Mem w0 w [(ob, blk (u8s x ++ (u8s y ++ r)) te)]) (hm : x.length + y.length ≤ 140737488355328) : View Ψ (ob.map fun k => ⟨k, 0, none⟩) (x ++ y).length cap 1 (u8s (x ++ y)) := by
 have h1 := h.hr
 have o : OwnS ob (x ++ y).length cap 1 (u8s (x ++ y)) r := ⟨by rw [Z102]; omega, by rw [← u8s_app, List.append_assoc]; exact h1, h.hn, by rw [List.length_append]; exact hm⟩
 refine o.view (w0 := w0) (te := te) (by decide) (fun w q => ?_)
 rw [← u8s_app, List.append_assoc]
 exact hΨ w q
theorem OwnS.shrink8 {ob : Option Nat} {cap k : Nat} {t y : List (BitVec 8)} {r : List Value} (h : OwnS ob t.length cap 1 (u8s t) r) (hk : k ≤ t.length) (g : t.drop k = y) : OwnS ob (t.take k).length cap 1 (u8s (t.take k)) (u8s y ++ r) := by
 have h1 := h.hr
 have h2 := h.mx
 refine ⟨by rw [Z102]; omega, ?_, h.hn, by rw [List.length_take]; omega⟩
 rw [← g, ← List.append_assoc, u8s_app, List.take_append_drop]
 exact h1
theorem shrink8 {k : Nat} {t y : List (BitVec 8)} {r : List Value} (g : t.drop k = y) : u8s t ++ r = u8s (t.take k) ++ (u8s y ++ r) := by
 rw [← g, ← List.append_assoc, u8s_app, List.take_append_drop]
theorem shrink_mx {k n M : Nat} {t : List (BitVec 8)} {m : BitVec 8} (g : t.drop k = List.replicate n m) (hm : t.length ≤ M) (hk : k ≤ t.length) : (t.take k).length + n ≤ M := by
 have := congrArg List.length g
 rw [List.length_drop, List.length_replicate] at this
 rw [List.length_take]
 omega
end Go.Fw
namespace Go.Fw
open Go
def soakS : Nat → List (BitVec 8) → List (BitVec 32) → List (BitVec 32)
 | 0, _, s => s
 | n + 1, l, s => soakS n (l.drop 64) (behindL constL s (l.take 64))
theorem soakS_snoc : ∀ (n : Nat) (l : List (BitVec 8)) (a : List (BitVec 32)), soakS (n + 1) l a = behindL constL (soakS n l a) ((l.drop (64 * n)).take 64)
 | 0, l, a => by rw [soakS, soakS, soakS, Nat.mul_zero, List.drop_zero]
 | n + 1, l, a => by
  rw [soakS, soakS_snoc n, soakS, List.drop_drop]
  congr 3
  omega
theorem soakS_congr : ∀ (n : Nat) (l l' : List (BitVec 8)) (a : List (BitVec 32)), l.take (64 * n) = l'.take (64 * n) → soakS n l a = soakS n l' a
 | 0, l, l', a, h => rfl
 | n + 1, l, l', a, h => by
  rw [soakS_snoc, soakS_snoc]
  have h1 : l.take (64 * n) = l'.take (64 * n) := by
   have := congrArg (List.take (64 * n)) h
   rwa [List.take_take, List.take_take, Nat.min_eq_left (by omega)] at this
  have h2 : (l.drop (64 * n)).take 64 = (l'.drop (64 * n)).take 64 := by
   have := congrArg (List.drop (64 * n)) h
   rwa [List.drop_take, List.drop_take, show 64 * (n + 1) - 64 * n = 64 by omega] at this
  rw [h2, soakS_congr n l l' a h1]
theorem soakS_length : ∀ (n : Nat) (l : List (BitVec 8)) (a : List (BitVec 32)), a.length = 8 → (soakS n l a).length = 8
 | 0, _, a, h => h
 | n + 1, l, a, h => soakS_length n _ _ (behindL_length h)
structure HT (s : List (BitVec 32)) (rest : List (BitVec 8)) (n : Int) (t : List (BitVec 8)) : Prop where
 n : n = (t.length : Int)
 rest : rest = t.drop (64 * (t.length / 64))
 st : 64 ≤ t.length → s = soakS (t.length / 64) t startL
 sl : s.length = 8
def nowS (t : List (BitVec 8)) : List (BitVec 32) := soakS (t.length / 64) t startL
theorem Z117 (t : List (BitVec 8)) : (nowS t).length = 8 := soakS_length _ _ _ rfl
theorem nowS_short {t : List (BitVec 8)} (h : t.length < 64) : nowS t = startL := by
 unfold nowS
 rw [Nat.div_eq_of_lt h]
 rfl
theorem rest_len (t : List (BitVec 8)) : (t.drop (64 * (t.length / 64))).length = t.length % 64 := by rw [List.length_drop]; omega
theorem nowS_step (t d : List (BitVec 8)) (k : Nat) (hk : k = 64 - t.length % 64) (hd : k ≤ d.length) : nowS (t ++ d.take k) = behindL constL (nowS t) (t.drop (64 * (t.length / 64)) ++ d.take k) ∧ (t ++ d.take k).length / 64 = t.length / 64 + 1 ∧ (t ++ d.take k).length % 64 = 0 := by
 have hm : t.length % 64 < 64 := Nat.mod_lt _ (by decide)
 have hq : t.length = 64 * (t.length / 64) + t.length % 64 := (Nat.div_add_mod _ _).symm
 have hl : (t ++ d.take k).length = t.length + k := by rw [List.length_append, List.length_take]; omega
 have h1 : (t ++ d.take k).length / 64 = t.length / 64 + 1 := by omega
 refine ⟨?_, h1, by omega⟩
 unfold nowS
 have hT : (t.drop (64 * (t.length / 64)) ++ d.take k).take 64 = t.drop (64 * (t.length / 64)) ++ d.take k := List.take_of_length_le (by rw [List.length_append, List.length_drop, List.length_take]; omega)
 rw [h1, soakS_snoc, List.drop_append_of_le_length (by omega), hT]
 congr 1
 exact soakS_congr _ _ _ _ (by rw [List.take_append_of_le_length (by omega)])
theorem nowS_more (t d : List (BitVec 8)) (h : t.length % 64 + d.length < 64) : nowS (t ++ d) = nowS t ∧ (t ++ d).drop (64 * ((t ++ d).length / 64)) = t.drop (64 * (t.length / 64)) ++ d := by
 have hq : t.length = 64 * (t.length / 64) + t.length % 64 := (Nat.div_add_mod _ _).symm
 have h1 : (t ++ d).length / 64 = t.length / 64 := by rw [List.length_append]; omega
 refine ⟨?_, ?_⟩
 ·unfold nowS
  rw [h1]
  exact soakS_congr _ _ _ _ (by rw [List.take_append_of_le_length (by omega)])
 ·rw [h1, List.drop_append_of_le_length (by omega)]
def sqS (s : List (BitVec 32)) : List (BitVec 8) := (List.range 32).map fun k => ((s.getD (k / 4) 0#32) >>> (24 - 8 * (k % 4))).setWidth 8
theorem sqS_length (s : List (BitVec 32)) : (sqS s).length = 32 := by simp [sqS]
theorem sqS_get (s : List (BitVec 32)) {k : Nat} (h : k < 32) : (sqS s)[k]? = some (((s.getD (k / 4) 0#32) >>> (24 - 8 * (k % 4))).setWidth 8) := by simp [sqS, h]
def sqTo (s : List (BitVec 32)) (k : Nat) : List (BitVec 8) := (sqS s).take k ++ List.replicate (32 - k) 0#8
theorem sqTo_length (s : List (BitVec 32)) {k : Nat} (h : k ≤ 32) : (sqTo s k).length = 32 := by simp [sqTo, sqS_length]; omega
theorem sqTo_all (s : List (BitVec 32)) : sqTo s 32 = sqS s := by simp [sqTo, List.take_of_length_le (Nat.le_of_eq (sqS_length s))]
theorem sqTo_set (s : List (BitVec 32)) {k : Nat} (h : k < 32) (v : BitVec 8) (hv : v = ((s.getD (k / 4) 0#32) >>> (24 - 8 * (k % 4))).setWidth 8) : (sqTo s k).set k v = sqTo s (k + 1) := by
 have hl : ((sqS s).take k).length = k := by rw [List.length_take, sqS_length]; omega
 unfold sqTo
 rw [List.set_append_right _ _ (by omega), hl, Nat.sub_self, show 32 - k = (32 - (k + 1)) + 1 by omega, List.replicate_succ, List.set_cons_zero, List.take_add_one, sqS_get s h, ← hv, List.append_assoc]
 rfl
def shaR (t : List (BitVec 8)) : List (BitVec 8) := sqS (soakS ((t ++ padL (t.length : Int)).length / 64) (t ++ padL (t.length : Int)) startL)
theorem hs_len {s : List (BitVec 32)} (h : s.length = 8) (u v : Value) : (u32s s ++ [u, v]).length = 10 := by rw [List.length_append, Z100, h]; rfl
theorem hs_at8 {s : List (BitVec 32)} (h : s.length = 8) (u v : Value) : (u32s s ++ [u, v])[0 + 8]? = some u := by
 rw [List.getElem?_append_right (by rw [Z100]; omega), Z100, h]; rfl
theorem hs_at9 {s : List (BitVec 32)} (h : s.length = 8) (u v : Value) : (u32s s ++ [u, v])[0 + 9]? = some v := by
 rw [List.getElem?_append_right (by rw [Z100]; omega), Z100, h]; rfl
theorem hs_set8 {s : List (BitVec 32)} (h : s.length = 8) (u v u' : Value) : (u32s s ++ [u, v]).set (0 + 8) u' = u32s s ++ [u', v] := by
 rw [List.set_append_right _ _ (by rw [Z100]; omega), Z100, h]; rfl
theorem hs_set9 {s : List (BitVec 32)} (h : s.length = 8) (u v v' : Value) : (u32s s ++ [u, v]).set (0 + 9) v' = u32s s ++ [u, v'] := by
 rw [List.set_append_right _ _ (by rw [Z100]; omega), Z100, h]; rfl
theorem hs_ld0 {s : List (BitVec 32)} (h : s.length = 8) (u v : Value) : ∀ j x, (u32s s)[j]? = some x → (u32s s ++ [u, v])[0 + 0 + j]? = some x := by
 intro j x hj
 have : j < (u32s s).length := (List.getElem?_eq_some_iff.1 hj).1
 rw [show 0 + 0 + j = j by omega, List.getElem?_append_left this]; exact hj
theorem hs_spl0 {s s' : List (BitVec 32)} (h : s.length = 8) (h' : s'.length = 8) (u v : Value) : spl (u32s s ++ [u, v]) (0 + 0) (u32s s') = u32s s' ++ [u, v] := by
 unfold spl
 rw [Nat.add_zero, List.take_zero, List.nil_append, Nat.zero_add, Z100, h', List.drop_left' (by rw [Z100, h])]
theorem shaR_length (t : List (BitVec 8)) : (shaR t).length = 32 := sqS_length _
def shaV (t : List (BitVec 8)) : Vector (BitVec 8) 32 := ⟨(shaR t).toArray, by simp [shaR_length]⟩
theorem shaV_list (t : List (BitVec 8)) : (shaV t).toList = shaR t := rfl
def toV8 (s : List (BitVec 32)) : Vector (BitVec 32) 8 := if h : s.length = 8 then ⟨s.toArray, by simpa using h⟩ else Vector.replicate 8 0#32
theorem toV8_list {s : List (BitVec 32)} (h : s.length = 8) : (toV8 s).toList = s := by unfold toV8; rw [dif_pos h]; rfl
end Go.Fw
namespace Go.Fw.Tryd
open Go Go.Proofs
theorem now_does (w0 : World) (N : List Ent) (hS : TabAt w0 1 startL) (b : Nat) (v : Value) (s : List (BitVec 32)) (rest : List (BitVec 8)) (n : Int) (t : List (BitVec 8)) (h : HT s rest n t) (hmx : t.length ≤ 4611686018427387904) :
  DoesG Tryd.prog 48 [ptr (some b) 0] w0 [(some b, blk (u32s s ++ [v, .int .i64 n]) 29)] N (fun u G => u = .agg (u32s (nowS t)).toArray ∧ G = [(some b, blk (u32s s ++ [v, .int .i64 n]) 29)]) := by
 have hSs := hS.says (M := (some b, blk (u32s (List.replicate 8 0#32)) 26) :: [])
 have hn := h.n
 have hsl := h.sl
 refine DoesG.enter Tryd.func48 rfl Tryd.ntmps48 rfl (M := (some b, blk (u32s s ++ [v, .int .i64 n]) 29) :: N) rfl (Z4 (Z2 (OW.alloc (l := u32s (List.replicate 8 0#32)) rfl (by rw [← Z123]; rfl) rfl (fun b2 => (Z6 (Z1 (Z4 (Z4 (Z2 (Z0 (Z3 rfl) rfl (Z0 (RV.nilCheck rfl) rfl (Z0 (Z30 (ob := some b) (off := 0) rfl rfl rfl rfl) rfl (Z0 (Z29 rfl (List.Mem.tail _ Zh) rfl rfl rfl (hs_at9 hsl v (.int .i64 n))) rfl ?_)))))))))))))
 refine Z0 (RV.lss rfl rfl) rfl (Z7 (.bool (decide (t.length < 64))) (congrArg Value.bool (decide_eq_decide.2 (by omega))) (Z6 (Z1 ?_)))
 by_cases h1 : t.length < 64
 ·refine Z13 rfl (decide_eq_true h1) (Z4 (Z2 (Z0 (RV.loadAs (a := ⟨1, 0, none⟩) (vs := u32s startL) rfl rfl rfl rfl (fun w m => hS.says (M := (some b2, blk (u32s (List.replicate 8 0#32)) 26) :: (some b, blk (u32s s ++ [v, .int .i64 n]) 29) :: N) w m) (Z100 _)) rfl (Z28 (Z105 rfl rfl rfl (Z120 _) rfl ((Z100 _).trans (List.length_replicate ..)) (Z100 _)) (Z6 (Z1 (CW.ret (Z8 ?_))))))))
  refine Z110 (rs := [.cell 2 26]) [.agg (u32s startL).toArray] [(some b, blk (u32s s ++ [v, .int .i64 n]) 29)] rfl ?_ rfl ?_ ?_ _ (.inl rfl)
  ·exact ⟨⟨_, _, _, _, rfl, Zh, rfl, rfl, rfl, rfl⟩, trivial⟩
  ·exact ⟨by rw [nowS_short h1]; rfl, rfl⟩
  ·exact (fun w m => m.tail)
 ·refine Z14 rfl (decide_eq_false h1) (CW.skip (Z1 (Z4 (Z2 (Z0 (Z3 rfl) rfl (Z0 (RV.nilCheck rfl) rfl (Z0 (Z30 (ob := some b) (off := 0) rfl rfl rfl rfl) rfl (Z0 (RV.loadAo (vs := u32s s) rfl (List.Mem.tail _ Zh) rfl rfl rfl rfl (hs_ld0 hsl v (.int .i64 n)) ((Z100 _).trans hsl)) rfl (Z28 (Z105 rfl rfl rfl (Z120 _) rfl ((Z100 _).trans (List.length_replicate ..)) ((Z100 _).trans hsl)) (Z6 (Z1 (CW.ret ?_))))))))))))
  refine Z110 (rs := [.cell 2 26]) [.agg (u32s s).toArray] [(some b, blk (u32s s ++ [v, .int .i64 n]) 29)] rfl ?_ rfl ?_ ?_ _ (.inl rfl)
  ·exact ⟨⟨_, _, _, _, rfl, Zh, rfl, rfl, congrArg some ((Z100 _).trans hsl).symm, rfl⟩, trivial⟩
  ·exact ⟨by rw [h.st (by omega)]; rfl, rfl⟩
  ·exact (fun w m => m.tail)
end Go.Fw.Tryd
namespace Go.Fw.Tryd
open Go Go.Proofs
theorem Write_does (w0 : World) (Φ : Ctx) (N : List Ent) (hΦ : ∀ w, Mem w0 w N → Φ w) (hK : TabAt w0 2 constL) (hS : TabAt w0 1 startL) (b : Nat) (ob : Option Nat) (c : Nat) (r : List Value) (s : List (BitVec 32)) (rest : List (BitVec 8)) (n : Int) (t : List (BitVec 8)) (h : HT s rest n t) (ho : OwnS ob rest.length c 1 (u8s rest) r)
  (A : Option Addr) (cA : Nat) (data : List (BitVec 8)) (va : View Φ A data.length cA 1 (u8s data)) (hmx : t.length + data.length ≤ 4611686018427387904) :
  DoesG Tryd.prog 43 [ptr (some b) 0, .slice A data.length cA] w0 [(some b, blk (u32s s ++ [sl ob 0 rest.length c, .int .i64 n]) 29), (ob, blk (u8s rest ++ r) 5)] N
   (fun u G => ∃ (ob' : Option Nat) (c' : Nat) (r' : List Value) (s' : List (BitVec 32)) (rest' : List (BitVec 8)) (n' : Int), HT s' rest' n' (t ++ data) ∧ OwnS ob' rest'.length c' 1 (u8s rest') r' ∧ u = .tuple #[] ∧ G = [(some b, blk (u32s s' ++ [sl ob' 0 rest'.length c', .int .i64 n']) 29), (ob', blk (u8s rest' ++ r') 5)]) := by
 have hn0 := h.n
 subst hn0
 refine DoesG.enter Tryd.func43 rfl Tryd.ntmps43 rfl (M := (some b, blk (u32s s ++ [sl ob 0 rest.length c, .int .i64 (t.length : Int)]) 29) :: (ob, blk (u8s rest ++ r) 5) :: N) rfl (Z4 (Z4 (Z2 (Z0 (Z3 rfl) rfl (Z0 (RV.eqlS rfl rfl rfl) rfl (Z6 (Z1 (Z14 rfl rfl (CW.skip (Z1 (Z4 (Z2 (Z0 (Z3 rfl) rfl ?_)))))))))))))
 refine Z12 Tryd.call48 rfl (now_does w0 ((ob, blk (u8s rest ++ r) 5) :: N) hS b (sl ob 0 rest.length c) s rest _ t h (by omega)) rfl rfl ?_
 rintro L1 M1 ⟨e1, e2⟩
 rw [e1, e2]
 clear e1 e2 L1 M1
 refine OW.alloc (l := u32s (List.replicate 8 0#32)) rfl (by rw [← Z123]; rfl) rfl (fun b4 => (Z28 (Z105 rfl rfl rfl (Z120 _) rfl ((Z100 _).trans (List.length_replicate ..)) ((Z100 _).trans (Z117 t))) (Z6 (Z1 (Z4 ?_)))))
 refine CW.cutJ (fun L' M' => ∃ (t1 d1 : List (BitVec 8)) (A1 : Option Addr) (c1 : Nat) (s1 : List (BitVec 32)) (ob1 : Option Nat) (c2 : Nat) (r1 : List Value) (rest1 : List (BitVec 8)), t1 ++ d1 = t ++ data ∧ s1.length = 8 ∧ rest1 = t1.drop (64 * (t1.length / 64)) ∧ t1.length % 64 + d1.length < 64 ∧ View Φ A1 d1.length c1 1 (u8s d1) ∧ OwnS ob1 rest1.length c2 1 (u8s rest1) r1 ∧
   L' = [(0, ptr (some b) 0), (1, .slice A1 d1.length c1), (4, ptr (some b4) 0)] ∧ M' = (ob1, blk (u8s rest1 ++ r1) 5) :: (some b, blk (u32s s1 ++ [sl ob1 0 rest1.length c2, .int .i64 (t1.length : Int)]) 29) :: (some b4, blk (u32s (nowS t1)) 26) :: N) ?_ ?_
 ·rintro L' M' ⟨t1, d1, A1, c1, s1, ob1, c2, r1, rest1, htd, hs1, hrest, hshort, v1, o1, rfl, rfl⟩
  have hlen := congrArg List.length htd
  rw [List.length_append, List.length_append] at hlen
  have m1 := v1.mx
  have m2 := o1.mx
  have hrl := rest_len t1
  rw [← hrest] at hrl
  obtain ⟨hn1, hn2⟩ := nowS_more t1 d1 hshort
  refine Z1 (Z4 (Z2 (Z0 (Z3 rfl) rfl (Z0 (Z3 rfl) rfl (Z0 (RV.nilCheck rfl) rfl (Z0 (Z30 (ob := some b) (off := 0) rfl rfl rfl rfl) rfl (Z0 (Z29 rfl (List.Mem.tail _ Zh) rfl rfl rfl (hs_at8 hs1 _ _)) rfl (Z0 (Z3 rfl) rfl (OW.appendOwn (s := 1) rfl rfl rfl rfl rfl rfl o1 (fun w m => v1.rd w (hΦ w (m.drop 3))) v1.n (u8s_one _) (v1.zero (by decide)) (by decide) (by decide) (show (rest1.length + d1.length) * 1 ≤ _ by omega) rfl rfl ((rest1 ++ d1).length) (u8s (rest1 ++ d1)) (List.length_append ..).symm (u8s_app _ _) (fun ob2 r2 c3 o2 => ?_))))))))))
  refine Z0 (RV.nilCheck rfl) rfl (Z0 (Z30 (ob := some b) (off := 0) rfl rfl rfl rfl) rfl (OW.rot1 ?_))
  refine Z28 (SV.store rfl rfl rfl rfl rfl (by rw [hs_len hs1]; decide)) ?_
  refine OW.cells (u32s s1 ++ [sl ob2 0 (rest1 ++ d1).length c3, .int .i64 (t1.length : Int)]) (hs_set8 hs1 _ _ _) (Z6 (Z1 (Z4 (Z2 (Z0 (Z3 rfl) rfl (Z0 (RV.nilCheck rfl) rfl (Z0 (Z30 (ob := some b) (off := 0) rfl rfl rfl rfl) rfl (Z0 (Z29 rfl Zh rfl rfl rfl (hs_at9 hs1 _ _)) rfl (Z0 (Z3 rfl) rfl (Z0 (RV.len rfl rfl) rfl ?_))))))))))
  refine Z0 (RV.add rfl rfl (by omega)) rfl ?_
  refine Z7 (.int .i64 (((t1 ++ d1).length : Nat) : Int)) (by congr 1; rw [List.length_append]; omega) ?_
  refine Z0 (RV.nilCheck rfl) rfl (Z0 (Z30 (ob := some b) (off := 0) rfl rfl rfl rfl) rfl ?_)
  refine Z28 (SV.store rfl rfl rfl rfl rfl (by rw [hs_len hs1]; decide)) ?_
  refine OW.cells (u32s s1 ++ [sl ob2 0 (rest1 ++ d1).length c3, .int .i64 (((t1 ++ d1).length : Nat) : Int)]) (hs_set9 hs1 _ _ _) (Z6 (Z1 (Z2 (Z0 (Z3 rfl) rfl (Z0 (Z22 rfl (List.Mem.tail _ (List.Mem.tail _ Zh)) rfl rfl rfl rfl ((Z100 _).trans (Z117 _))) rfl (Z0 (RV.nilCheck rfl) rfl (Z0 (Z30 (ob := some b) (off := 0) rfl rfl rfl rfl) rfl ?_)))))))
  refine Z28 (SV.storeAs rfl rfl rfl (Z120 _) rfl ((Z100 _).trans (Z117 _)) (by rw [hs_len hs1]; decide)) ?_
  refine OW.cells (u32s (nowS t1) ++ [sl ob2 0 (rest1 ++ d1).length c3, .int .i64 (((t1 ++ d1).length : Nat) : Int)]) (hs_spl0 hs1 (Z117 _) _ _) (Z6 ?_)
  refine Z110 (rs := []) [] [(some b, blk (u32s (nowS t1) ++ [sl ob2 0 (rest1 ++ d1).length c3, .int .i64 (((t1 ++ d1).length : Nat) : Int)]) 29), (ob2, blk (u8s (rest1 ++ d1) ++ r2) 5)] rfl ?_ rfl ?_ ?_ _ (.inr rfl)
  ·exact trivial
  ·refine ⟨ob2, c3, r2, nowS t1, rest1 ++ d1, _, ⟨?_, ?_, ?_, Z117 _⟩, o2, rfl, rfl⟩
   ·rw [htd]
   ·rw [← htd, hn2, hrest]
   ·intro _
    rw [← htd, ← hn1]
    rfl
  ·exact (fun w m => m.pick [0, 1] 3 rfl rfl)
 ·refine CW.block ?_
  refine Z121 (fun k L' M' => ∃ (t1 d1 : List (BitVec 8)) (A1 : Option Addr) (c1 : Nat) (s1 : List (BitVec 32)) (ob1 : Option Nat) (c2 : Nat) (r1 : List Value) (rest1 : List (BitVec 8)), k = d1.length ∧ t1 ++ d1 = t ++ data ∧ s1.length = 8 ∧ rest1 = t1.drop (64 * (t1.length / 64)) ∧ View Φ A1 d1.length c1 1 (u8s d1) ∧ OwnS ob1 rest1.length c2 1 (u8s rest1) r1 ∧
   L' = [(0, ptr (some b) 0), (1, .slice A1 d1.length c1), (4, ptr (some b4) 0)] ∧ M' = (ob1, blk (u8s rest1 ++ r1) 5) :: (some b, blk (u32s s1 ++ [sl ob1 0 rest1.length c2, .int .i64 (t1.length : Int)]) 29) :: (some b4, blk (u32s (nowS t1)) 26) :: N)
   (k0 := data.length) ⟨t, data, A, cA, s, ob, c, r, rest, rfl, rfl, h.sl, h.rest, va, ho, rfl, rfl⟩ ⟨rfl, rfl, rfl, trivial⟩ (fun w m => m.pick [2, 1, 0] 3 rfl rfl) ?_
  rintro k L' M' ⟨t1, d1, A1, c1, s1, ob1, c2, r1, rest1, rfl, htd, hs1, hrest, v1, o1, rfl, rfl⟩
  have hlen := congrArg List.length htd
  rw [List.length_append, List.length_append] at hlen
  have m1 := v1.mx
  have m2 := o1.mx
  have hrl := rest_len t1
  rw [← hrest] at hrl
  have hmod : t1.length % 64 < 64 := Nat.mod_lt _ (by decide)
  refine Z4 (Z4 (Z2 (Z0 (Z3 rfl) rfl (Z0 (RV.nilCheck rfl) rfl (Z0 (Z30 (ob := some b) (off := 0) rfl rfl rfl rfl) rfl (Z0 (Z29 rfl (List.Mem.tail _ Zh) rfl rfl rfl (hs_at8 hs1 _ _)) rfl (Z0 (RV.len rfl rfl) rfl (Z0 (Z3 rfl) rfl (Z0 (RV.len rfl rfl) rfl ?_)))))))))
  refine Z0 (RV.add rfl rfl (by omega)) rfl (Z0 (RV.geq rfl rfl) rfl (Z7 (.bool (decide (64 ≤ rest1.length + d1.length))) (congrArg Value.bool (decide_eq_decide.2 (by omega))) (Z6 (Z1 ?_))))
  by_cases h1 : 64 ≤ rest1.length + d1.length
  ·refine Z13 rfl (decide_eq_true h1) (CW.skip (Z1 (CW.block (Z4 (Z2 (Z0 (Z3 rfl) rfl (Z0 (RV.nilCheck rfl) rfl (Z0 (Z30 (ob := some b) (off := 0) rfl rfl rfl rfl) rfl (Z0 (Z29 rfl (List.Mem.tail _ Zh) rfl rfl rfl (hs_at8 hs1 _ _)) rfl (Z0 (RV.len rfl rfl) rfl (Z0 (RV.sub rfl rfl (by omega)) rfl ?_)))))))))))
   refine Z7 (.int .i64 (((64 - rest1.length : Nat)) : Int)) (by congr 1; omega) (Z0 (Z5 rfl) rfl (Z6 (Z1 ?_)))
   generalize hk : 64 - rest1.length = k
   have hkd : k ≤ d1.length := by omega
   have htk : (d1.take k).length = k := by rw [List.length_take]; omega
   have hfull : (rest1 ++ d1.take k).length = 64 := by rw [List.length_append, htk]; omega
   have hle := v1.le
   obtain ⟨hst1, hst2, hst3⟩ := nowS_step t1 d1 k (by omega) hkd
   have vk : View Φ A1 (d1.take k).length c1 1 (u8s (d1.take k)) := v1.hi8 hkd
   have vd : View Φ (subA A1 c1 k 1) (d1.drop k).length (c1 - k) 1 (u8s (d1.drop k)) := v1.lo8 hkd
   refine Z4 (CW.drawsX ((some b4, blk (u32s (nowS t1)) 26) :: N) [8, 11] (fun w m => m.drop 2) mixed (by kernel_rfl) (Z10 0 rfl (by kernel_rfl) rfl (Z3 rfl) rfl (Z10 1 rfl (by kernel_rfl) rfl (Z3 rfl) rfl (Z10 2 rfl (by kernel_rfl) rfl (RV.nilCheck rfl) rfl (Z10 3 rfl (by kernel_rfl) rfl (Z30 (ob := some b) (off := 0) rfl rfl rfl rfl) rfl (XW.rv 4 rfl (by kernel_rfl) rfl (by kernel_rfl) (Z29 rfl (List.Mem.tail _ Zh) rfl rfl rfl (hs_at8 hs1 _ _)) rfl (Z10 5 rfl (by kernel_rfl) rfl (Z3 rfl) rfl ?_)))))))
   refine Z10 6 rfl (by kernel_rfl) rfl (Z3 rfl) rfl (Z10 7 rfl (by kernel_rfl) rfl (RV.cut_hi (k) rfl rfl rfl rfl rfl (by omega)) rfl (XW.slot (.slice A1 (d1.take k).length c1) (by rw [htk]) (XW.appendOwn 8 (s := 1) rfl (by kernel_rfl) rfl rfl rfl rfl rfl rfl o1 (fun w m => vk.rd w (hΦ w (m.drop 3))) vk.n (u8s_one _) (vk.zero (by decide)) (by decide) (by decide) (show (rest1.length + (d1.take k).length) * 1 ≤ _ by omega) rfl ((rest1 ++ d1.take k).length) (u8s (rest1 ++ d1.take k)) (List.length_append ..).symm (u8s_app _ _) (fun w m => m.drop 1) rfl (fun ob2 r2 c3 o2 => (Z10 9 rfl (by kernel_rfl) rfl (RV.nilCheck rfl) rfl (Z10 10 rfl (by kernel_rfl) rfl (Z30 (ob := some b) (off := 0) rfl rfl rfl rfl) rfl (Z19 (M' := ((some b, blk (u32s s1 ++ [sl ob1 0 rest1.length c2, .int .i64 (t1.length : Int)]) 29) :: (ob2, blk (u8s (rest1 ++ d1.take k) ++ r2) 5) :: (some b4, blk (u32s (nowS t1)) 26) :: N)) (fun w m => m.pick [1, 0] 2 rfl rfl) (fun w m => m.drop 2) ?_)))))))
   refine XW.sv 11 rfl (by kernel_rfl) (SV.store rfl rfl rfl rfl rfl (by rw [hs_len hs1]; decide)) (fun w m => m.drop 2) ?_
   refine XW.cells (u32s s1 ++ [sl ob2 0 (rest1 ++ d1.take k).length c3, .int .i64 (t1.length : Int)]) (hs_set8 hs1 _ _ _) (XW.nil (by kernel_rfl) (Z1 (Z4 (CW.drawsX ((some b, blk (u32s s1 ++ [sl ob2 0 (rest1 ++ d1.take k).length c3, .int .i64 (t1.length : Int)]) 29) :: (ob2, blk (u8s (rest1 ++ d1.take k) ++ r2) 5) :: N) [6] (fun w m => m.pick [0, 1] 3 rfl rfl) mixed (by kernel_rfl) (XW.rv 0 rfl (by kernel_rfl) rfl (by kernel_rfl) (Z22 rfl (List.Mem.tail _ (List.Mem.tail _ Zh)) rfl rfl rfl rfl ((Z100 _).trans (Z117 _))) rfl (Z10 1 rfl (by kernel_rfl) rfl (Z3 rfl) rfl (Z10 2 rfl (by kernel_rfl) rfl (RV.nilCheck rfl) rfl (Z10 3 rfl (by kernel_rfl) rfl (Z30 (ob := some b) (off := 0) rfl rfl rfl rfl) rfl ?_))))))))
   refine Z10 4 rfl (by kernel_rfl) rfl (Z29 rfl Zh rfl rfl rfl (hs_at8 hs1 _ _)) rfl (XW.slot (sl ob2 0 64 c3) (by rw [hfull]) ?_)
   have hca : 64 ≤ c3 := by have := o2.le (by decide); omega
   refine Z11 5 rfl (by kernel_rfl) rfl Tryd.call50 rfl (fun N' hN' => Does.toG (behind_does w0 N' constL hK rfl (nowS t1) (Z117 _) (ob2.map fun k => ⟨k, 0, none⟩) c3 (rest1 ++ d1.take k) (fun w m => (hN' w m).rd0 (List.Mem.tail _ Zh) (fun e => o2.nilc (by decide) e)) hfull hca)) rfl ?_
   rintro u G ⟨e1, e2⟩
   rw [e1, e2]
   clear e1 e2 u G
   refine Z19 (M' := ((some b4, blk (u32s (nowS t1)) 26) :: (some b, blk (u32s s1 ++ [sl ob2 0 (rest1 ++ d1.take k).length c3, .int .i64 (t1.length : Int)]) 29) :: (ob2, blk (u8s (rest1 ++ d1.take k) ++ r2) 5) :: N)) (fun w m => m.pick [2, 0, 1] 3 rfl rfl) (fun w m => m.drop 1) (XW.sv 6 rfl (by kernel_rfl) (Z105 rfl rfl rfl (Z120 _) rfl ((Z100 _).trans (Z117 _)) ((Z100 _).trans (behindL_length (Z117 _)))) (fun w m => m.drop 1) (XW.nil (by kernel_rfl) (Z1 (Z4 (CW.drawsX ((ob2, blk (u8s ([] : List (BitVec 8)) ++ (u8s (rest1 ++ d1.take k) ++ r2)) 5) :: (some b4, blk (u32s (behindL constL (nowS t1) (rest1 ++ d1.take k))) 26) :: N) [11] (fun w m => m.pick [2, 0] 3 rfl rfl) mixed (by kernel_rfl) (Z10 0 rfl (by kernel_rfl) rfl (Z3 rfl) rfl (Z10 1 rfl (by kernel_rfl) rfl (Z3 rfl) rfl (Z10 2 rfl (by kernel_rfl) rfl (RV.nilCheck rfl) rfl ?_))))))))
   refine Z10 3 rfl (by kernel_rfl) rfl (Z30 (ob := some b) (off := 0) rfl rfl rfl rfl) rfl (XW.rv 4 rfl (by kernel_rfl) rfl (by kernel_rfl) (Z29 rfl (List.Mem.tail _ Zh) rfl rfl rfl (hs_at8 hs1 _ _)) rfl (Z10 5 rfl (by kernel_rfl) rfl (RV.cut_o (0) rfl rfl rfl rfl rfl (by omega)) rfl (Z10 6 rfl (by kernel_rfl) rfl (Z3 rfl) rfl (Z10 7 rfl (by kernel_rfl) rfl (Z3 rfl) rfl (Z10 8 rfl (by kernel_rfl) rfl (RV.cut_lo (s := 1) (k) rfl rfl rfl rfl rfl (by omega)) rfl (XW.slot (.slice (subA A1 c1 k 1) (d1.drop k).length (c1 - k)) (by rw [List.length_drop]) (Z10 9 rfl (by kernel_rfl) rfl (RV.nilCheck rfl) rfl ?_)))))))
   refine Z10 10 rfl (by kernel_rfl) rfl (Z30 (ob := some b) (off := 0) rfl rfl rfl rfl) rfl (Z19 (M' := ((some b, blk (u32s s1 ++ [sl ob2 0 (rest1 ++ d1.take k).length c3, .int .i64 (t1.length : Int)]) 29) :: (ob2, blk (u8s ([] : List (BitVec 8)) ++ (u8s (rest1 ++ d1.take k) ++ r2)) 5) :: (some b4, blk (u32s (behindL constL (nowS t1) (rest1 ++ d1.take k))) 26) :: N)) (fun w m => m.pick [1, 2, 0] 3 rfl rfl) (fun w m => m.drop 1) ?_)
   refine XW.sv 11 rfl (by kernel_rfl) (SV.store rfl rfl rfl rfl rfl (by rw [hs_len hs1]; decide)) (fun w m => m.drop 1) ?_
   refine XW.cells (u32s s1 ++ [sl ob2 0 0 c3, .int .i64 (t1.length : Int)]) (hs_set8 hs1 _ _ _) (Z10 12 rfl (by kernel_rfl) rfl (Z5 rfl) rfl (XW.nil (by kernel_rfl) (Z1 (Z2 (Z0 (Z3 rfl) rfl (Z0 (RV.nilCheck rfl) rfl (Z0 (Z30 (ob := some b) (off := 0) rfl rfl rfl rfl) rfl (Z0 (Z29 rfl Zh rfl rfl rfl (hs_at9 hs1 _ _)) rfl ?_))))))))
   refine Z0 (Z3 rfl) rfl (Z0 (RV.add rfl rfl (by omega)) rfl ?_)
   refine Z7 (.int .i64 (((t1 ++ d1.take k).length : Nat) : Int)) (by congr 1; rw [List.length_append, htk]; omega) ?_
   refine Z0 (RV.nilCheck rfl) rfl (Z0 (Z30 (ob := some b) (off := 0) rfl rfl rfl rfl) rfl ?_)
   refine Z28 (SV.store rfl rfl rfl rfl rfl (by rw [hs_len hs1]; decide)) ?_
   refine OW.cells (u32s s1 ++ [sl ob2 0 0 c3, .int .i64 (((t1 ++ d1.take k).length : Nat) : Int)]) (hs_set9 hs1 _ _ _) (Z6 (Z27 ?_))
   have hrest2 : ([] : List (BitVec 8)) = (t1 ++ d1.take k).drop (64 * ((t1 ++ d1.take k).length / 64)) := by
    rw [List.drop_eq_nil_of_le]
    have := Nat.div_add_mod (t1 ++ d1.take k).length 64
    omega
   have hns : nowS (t1 ++ d1.take k) = behindL constL (nowS t1) (rest1 ++ d1.take k) := by rw [hst1, hrest]
   have o3 : OwnS ob2 ([] : List (BitVec 8)).length c3 1 (u8s []) (u8s (rest1 ++ d1.take k) ++ r2) := ⟨rfl, o2.hr, o2.hn, by simp⟩
   exact Z113 (k' := (d1.drop k).length) (by rw [List.length_drop]; omega) ⟨t1 ++ d1.take k, d1.drop k, _, _, s1, ob2, c3, u8s (rest1 ++ d1.take k) ++ r2, [], rfl, by rw [List.append_assoc, List.take_append_drop]; exact htd, hs1, hrest2, vd, o3, rfl, rfl⟩ ⟨rfl, rfl, rfl, trivial⟩ (fun w m => by rw [hns]; exact m.pick [1, 0, 2] 3 rfl rfl)
  ·refine Z14 rfl (decide_eq_false h1) (CW.exit (Z9 (Z9 (Z15 ?_))))
   exact QW.join ⟨t1, d1, A1, c1, s1, ob1, c2, r1, rest1, htd, hs1, hrest, by omega, v1, o1, rfl, rfl⟩ ⟨rfl, rfl, rfl, trivial⟩ (fun w m => m)
end Go.Fw.Tryd
namespace Go.Fw.Tryd
open Go Go.Proofs
theorem pad_does (w0 : World) (M : List Ent) (n : Int) (h : 0 ≤ n) (hm : n ≤ 9223372036854775807) : Does Tryd.prog 49 [.int .i64 n] w0 M (τ := Nat) (fun _ => True) (fun b => .tuple #[sl (some b) 0 (padLen n) (padLen n), .int .i64 0]) (fun b => (some b, blk (u8s (padL n)) 5) :: M) := by
 refine Does.enter Tryd.func49 rfl Tryd.ntmps49 rfl ?_
 have hL : (padLen n : Int) = 9 + (64 - (n % 64 + 9) % 64) % 64 := by unfold padLen; omega
 have hL9 : 9 ≤ padLen n := by omega
 have hL72 : padLen n ≤ 72 := by omega
 refine Z4 (Z2 (Z0 (Z5 rfl) rfl (Z0 (Z5 rfl) rfl (Z6 ?_))))
 (refine Z1 ?_; refine Z4 ?_; refine Z4 ?_)
 refine Z2 (Z0 (Z3 rfl) rfl (Z0 (RV.lss_f rfl rfl (by omega)) rfl (Z6 (Z1 (Z118 rfl ?_)))))
 (refine CW.skip ?_; refine Z1 ?_; refine Z4 ?_)
 refine Z2 (Z0 (Z3 rfl) rfl (Z0 (RV.rem rfl rfl (by omega) (by omega)) rfl (Z0 (RV.add rfl rfl (by omega)) rfl (Z0 (RV.rem rfl rfl (by omega) (by omega)) rfl (Z0 (RV.sub rfl rfl (by omega)) rfl (Z0 (RV.rem rfl rfl (by omega) (by omega)) rfl (Z0 (Z5 rfl) rfl ?_)))))))
 refine Z6 ?_
 (refine Z1 ?_; refine Z4 ?_)
 refine Z2 (Z0 (Z3 rfl) rfl (Z0 (RV.add rfl rfl (by omega)) rfl (OW.make (padLen n) (padLen n) rfl (by omega) rfl (by omega) rfl rfl rfl rfl (by omega) (by simp only [i5]; omega) (by omega) rfl (fun b18 => (Z0 (Z5 rfl) rfl (Z6 ?_))))))
 (refine Z1 ?_; refine Z4 ?_)
 refine Z2 (Z0 (Z3 rfl) rfl (Z0 (Z119 _ rfl rfl rfl rfl rfl rfl (by omega)) rfl (Z28 (SV.store rfl rfl rfl rfl rfl (by (simp; omega))) (Z6 ?_))))
 (refine Z1 ?_; refine Z4 ?_)
 refine Z2 (Z0 (Z3 rfl) rfl (Z0 (RV.conv_i64 rfl rfl rfl) rfl (Z0 (RV.mul64 rfl rfl rfl (lit64 _ rfl)) rfl (Z0 (Z5 rfl) rfl (Z6 ?_)))))
 (refine Z1 ?_; refine Z4 ?_; refine Z4 ?_)
 refine Z2 (Z0 (Z3 rfl) rfl (Z6 ?_))
 (refine Z1 ?_; refine CW.block ?_)
 have e0 : (List.replicate (padLen n) (Value.int .u8 0)).set (0 + 0) (Value.int .u8 128) = u8s (padAt (padLen n) (BitVec.ofInt 64 n * 8#64) 0) := by
  rw [u8s_rep, ← padAt_zero (by omega)]; exact u8s_set _ _ 128#8
 refine CW.loop (σ := Nat) (fun i => i ≤ 8) (fun i => [(5, sl (some b18) 0 (padLen n) (padLen n)), (6, U64 (BitVec.ofInt 64 n * 8#64)), (24, .int .i64 (i : Int))]) (fun i => (some b18, blk (u8s (padAt (padLen n) (BitVec.ofInt 64 n * 8#64) i)) 5) :: M) (fun i => 8 - i) 0 (by omega) ⟨rfl, rfl, rfl, trivial⟩ (fun _ m => by rw [← e0]; exact m) ?_
 intro i hi
 refine Z4 (Z2 (Z0 (RV.lss rfl rfl) rfl (Z6 ?_)))
 (refine Z1 ?_; refine Z4 ?_)
 refine Z104 rfl (fun hlt => ?_) (fun hlt => ?_)
 ·(refine CW.skip ?_; refine Z1 ?_; refine Z4 ?_; refine CW.block ?_; refine Z4 ?_)
  refine Z2 (Z0 (Z3 rfl) rfl (Z0 (Z5 rfl) rfl (Z6 (Z1 ?_))))
  have hl : 0 + ((padLen n : Int) - 1 - (i : Int)).toNat < (u8s (padAt (padLen n) (BitVec.ofInt 64 n * 8#64) i)).length := by rw [Z102, padAt_length]; omega
  refine Z2 (Z0 (Z3 rfl) rfl (Z0 (Z3 rfl) rfl (Z0 (RV.len rfl rfl) rfl (Z0 (RV.sub rfl rfl (by omega)) rfl (Z0 (Z3 rfl) rfl (Z0 (RV.sub rfl rfl (by omega)) rfl (Z0 (Z3 rfl) rfl ?_)))))))
  refine Z0 (Z3 rfl) rfl (Z0 (RV.mul rfl rfl (by omega)) rfl (Z0 (RV.shr64 rfl rfl rfl rfl) rfl (Z0 (RV.conv64_8 rfl rfl rfl rfl) rfl (Z0 (RV.idx_oz rfl rfl (by omega) rfl rfl rfl (by omega)) rfl (Z28 (SV.store rfl rfl rfl rfl rfl (by assumption)) (Z6 ?_))))))
  (refine Z27 ?_; refine Z1 ?_)
  refine Z2 (Z0 (RV.add rfl rfl (by omega)) rfl (Z0 (Z3 rfl) rfl (Z6 ?_)))
  have e1 : 0 + ((padLen n : Int) - 1 - (i : Int)).toNat = padLen n - 1 - i := by omega
  refine Z108 (i + 1) (by omega) (by omega) ⟨rfl, rfl, rfl, trivial⟩ (fun _ m => ?_)
  rw [e1, u8s_set, padAt_step (by omega) hL9] at m
  exact m
 ·obtain rfl : i = 8 := by omega
  (refine CW.exit ?_; refine Z9 ?_; refine Z9 ?_; refine Z15 ?_; refine Z1 ?_; refine Z4 ?_)
  refine Z2 (Z0 (Z3 rfl) rfl (Z0 (Z5 rfl) rfl (Z0 (Z5 rfl) rfl (Z6 ?_))))
  (refine Z1 ?_; refine CW.ret ?_)
  exact QW.ret2 rfl b18 trivial rfl rfl rfl (fun _ m => m)
theorem padL_len (n : Nat) : (padL (n : Int)).length = padLen n := padAt_length ..
theorem HSum_does (w0 : World) (N : List Ent) (hK : TabAt w0 2 constL) (hS : TabAt w0 1 startL) (b : Nat) (ob : Option Nat) (c : Nat) (r : List Value) (s : List (BitVec 32)) (rest : List (BitVec 8)) (n : Int) (t : List (BitVec 8)) (h : HT s rest n t) (ho : OwnS ob rest.length c 1 (u8s rest) r) (hmx : t.length ≤ 4611686018427387904) :
  DoesG Tryd.prog 14 [ptr (some b) 0] w0 [(some b, blk (u32s s ++ [sl ob 0 rest.length c, .int .i64 n]) 29), (ob, blk (u8s rest ++ r) 5)] N
   (fun u G => u = .agg (u8s (shaR t)).toArray ∧ G = [(some b, blk (u32s s ++ [sl ob 0 rest.length c, .int .i64 n]) 29), (ob, blk (u8s rest ++ r) 5)]) := by
 have hn0 := h.n
 subst hn0
 have hs1 := h.sl
 have hrl := rest_len t
 rw [← h.rest] at hrl
 have hL : (padLen (t.length : Int) : Int) = 9 + (64 - ((t.length : Int) % 64 + 9) % 64) % 64 := by unfold padLen; omega
 have hpl := padL_len t.length
 have hmod : t.length % 64 < 64 := Nat.mod_lt _ (by decide)
 generalize hT : t ++ padL (t.length : Int) = T
 have hTl : T.length = t.length + padLen (t.length : Int) := by rw [← hT, List.length_append, hpl]
 have hT64 : T.length % 64 = 0 := by omega
 have hE : rest ++ padL (t.length : Int) = T.drop (64 * (t.length / 64)) := by rw [← hT, List.drop_append_of_le_length (by omega), h.rest]
 have hnow : nowS t = soakS (t.length / 64) T startL := soakS_congr _ _ _ _ (by rw [← hT, List.take_append_of_le_length (by omega)])
 have m2 := ho.mx
 refine DoesG.enter Tryd.func14 rfl Tryd.ntmps14 rfl (M := (some b, blk (u32s s ++ [sl ob 0 rest.length c, .int .i64 (t.length : Int)]) 29) :: (ob, blk (u8s rest ++ r) 5) :: N) rfl (Z4 (Z2 (OW.alloc (l := u8s (List.replicate 32 0#8)) rfl (by rw [← u8s_rep]; rfl) rfl (fun b2 => (Z6 (Z1 (Z4 (Z4 (Z2 (Z0 (Z3 rfl) rfl (Z0 (RV.eqlS rfl rfl rfl) rfl (Z6 (Z1 (Z14 rfl rfl ?_))))))))))))))
 refine CW.skip (Z1 (Z4 (Z2 (Z0 (Z3 rfl) rfl (OW.rot1 (Z12 Tryd.call48 rfl (now_does w0 ((some b2, blk (u8s (List.replicate 32 0#8)) 39) :: (ob, blk (u8s rest ++ r) 5) :: N) hS b (sl ob 0 rest.length c) s rest _ t h (by omega)) rfl rfl ?_))))))
 rintro L1 M1 ⟨e1, e2⟩
 rw [e1, e2]
 clear e1 e2 L1 M1
 refine OW.alloc (l := u32s (List.replicate 8 0#32)) rfl (by rw [← Z123]; rfl) rfl (fun b3 => (Z28 (Z105 rfl rfl rfl (Z120 _) rfl ((Z100 _).trans (List.length_replicate ..)) ((Z100 _).trans (Z117 t))) (Z6 (Z1 (Z4 (Z2 (Z0 (Z3 rfl) rfl (Z0 (RV.nilCheck rfl) rfl (Z0 (Z30 (ob := some b) (off := 0) rfl rfl rfl rfl) rfl (Z0 (Z29 rfl (List.Mem.tail _ Zh) rfl rfl rfl (hs_at9 hs1 _ _)) rfl (OW.call Tryd.call49 rfl (pad_does w0 _ (t.length : Int) (by omega) (by omega)) rfl (fun bp _ => ?_))))))))))))
 refine Z0 (Z3 rfl) rfl (Z0 (Z17 rfl rfl) rfl (Z0 (Z17 rfl rfl) rfl (Z0 (Z5 rfl) rfl (Z0 (Z5 rfl) rfl (Z6 (Z1 (Z4 (Z2 (Z0 (Z3 rfl) rfl (Z0 (RV.nilCheck rfl) rfl ?_))))))))))
 refine Z0 (Z30 (ob := some b) (off := 0) rfl rfl rfl rfl) rfl (Z0 (Z29 rfl (List.Mem.tail _ (List.Mem.tail _ Zh)) rfl rfl rfl (hs_at8 hs1 _ _)) rfl (Z20 (M' := (none, blk ([] ++ []) 5) :: (some bp, blk (u8s (padL (t.length : Int))) 5) :: (some b3, blk (u32s (nowS t)) 26) :: (some b, blk (u32s s ++ [sl ob 0 rest.length c, .int .i64 (t.length : Int)]) 29) :: (some b2, blk (u8s (List.replicate 32 0#8)) 39) :: (ob, blk (u8s rest ++ r) 5) :: N) (fun w m => m.nil_ent _) (OW.appendOwn (s := 1) rfl rfl rfl rfl rfl rfl OwnS.nil (fun w m => m.rd0 (List.Mem.tail _ (List.Mem.tail _ (List.Mem.tail _ (List.Mem.tail _ (List.Mem.tail _ Zh))))) (fun e => ho.nilc (by decide) e)) ho.n (u8s_one _) (ho.zeroO (by decide)) (by decide) (by decide) (show (0 + rest.length) * 1 ≤ _ by omega) rfl rfl (rest.length) (u8s rest) (Nat.zero_add _) rfl (fun ob1 r1 c1 o1 => (Z0 (Z3 rfl) rfl (OW.appendOwn (s := 1) rfl rfl rfl rfl rfl rfl o1 (fun w m => m.rdl (List.Mem.tail _ Zh) (fun e => nomatch e)) (by rw [Z102, hpl]; omega) (u8s_one _) (fun e => nomatch e) (by decide) (by decide) (show (rest.length + padLen (t.length : Int)) * 1 ≤ _ by omega) rfl rfl ((rest ++ padL (t.length : Int)).length) (u8s (rest ++ padL (t.length : Int))) (by rw [List.length_append, hpl]) (u8s_app _ _) (fun ob2 r2 c2 o2 => (Z0 (Z5 rfl) rfl (Z6 (Z1 ?_))))))))))
 rw [hE] at o2 ⊢
 have v2 : View (fun w => Mem w0 w [(ob2, blk (u8s (T.drop (64 * (t.length / 64))) ++ r2) 5)]) (ob2.map fun k => ⟨k, 0, none⟩) (T.drop (64 * (t.length / 64))).length c2 1 (u8s (T.drop (64 * (t.length / 64)))) := o2.view (by decide) (fun w q => q)
 generalize hΨ : (fun w => Mem w0 w [(ob2, blk (u8s (T.drop (64 * (t.length / 64))) ++ r2) 5)]) = Ψ at v2
 generalize hEnt : ((ob2, blk (u8s (T.drop (64 * (t.length / 64))) ++ r2) 5) : Ent) = eE at hΨ ⊢
 refine Z4 ?_
 refine CW.cutJ (fun L' M' => L' = [(0, ptr (some b) 0), (2, ptr (some b2) 0), (3, ptr (some b3) 0)] ∧ M' = (some b3, blk (u32s (soakS (T.length / 64) T startL)) 26) :: eE :: (some b, blk (u32s s ++ [sl ob 0 rest.length c, .int .i64 (t.length : Int)]) 29) :: (some b2, blk (u8s (List.replicate 32 0#8)) 39) :: (ob, blk (u8s rest ++ r) 5) :: N) ?_ ?_
 ·rintro L' M' ⟨rfl, rfl⟩
  have hSl : (soakS (T.length / 64) T startL).length = 8 := soakS_length _ _ _ rfl
  have hR : shaR t = sqS (soakS (T.length / 64) T startL) := by unfold shaR; rw [hT]
  rw [hR]
  generalize soakS (T.length / 64) T startL = S at hSl ⊢
  refine Z1 (Z4 (Z2 (OW.alloc (l := u8s (List.replicate 32 0#8)) rfl (by rw [← u8s_rep]; rfl) rfl (fun b7 => (Z6 (Z1 (Z4 (Z4 (Z2 (Z0 (Z22 rfl (List.Mem.tail _ Zh) rfl rfl rfl rfl ((Z100 _).trans hSl)) rfl (Z0 (Z3 rfl) rfl (Z6 (Z1 ?_)))))))))))))
  refine CW.cutJ (fun L' M' => L' = [(2, ptr (some b2) 0), (7, ptr (some b7) 0)] ∧ M' = (some b7, blk (u8s (sqTo S 32)) 39) :: (some b2, blk (u8s (List.replicate 32 0#8)) 39) :: (some b, blk (u32s s ++ [sl ob 0 rest.length c, .int .i64 (t.length : Int)]) 29) :: (ob, blk (u8s rest ++ r) 5) :: N) ?_ ?_
  ·rintro L' M' ⟨rfl, rfl⟩
   refine Z1 (Z4 (Z2 (Z0 (Z22 rfl Zh rfl rfl rfl rfl ((Z102 _).trans (sqTo_length S (by omega)))) rfl (OW.rot1 (Z28 (Z105 rfl rfl rfl (u8s_one _) rfl ((Z102 _).trans (List.length_replicate ..)) ((Z102 _).trans (sqTo_length S (by omega)))) (Z6 (Z1 (CW.ret ?_))))))))
   refine Z110 (rs := [.cell 2 39]) [.agg (u8s (sqTo S 32)).toArray] [(some b, blk (u32s s ++ [sl ob 0 rest.length c, .int .i64 (t.length : Int)]) 29), (ob, blk (u8s rest ++ r) 5)] rfl ?_ rfl ?_ ?_ _ (.inl rfl)
   ·exact ⟨⟨_, _, _, _, rfl, Zh, rfl, rfl, congrArg some ((Z102 _).trans (sqTo_length S (by omega))).symm, rfl⟩, trivial⟩
   ·exact ⟨by rw [sqTo_all]; rfl, rfl⟩
   ·exact (fun w m => m.drop 2)
  ·refine CW.block (Z121 (fun k L' M' => ∃ i : Nat, k = 8 - i ∧ i ≤ 8 ∧ L' = [(2, ptr (some b2) 0), (7, ptr (some b7) 0), (40, .agg (u32s S).toArray), (41, .int .i64 (i : Int))] ∧ M' = (some b7, blk (u8s (sqTo S (4 * i))) 39) :: (some b2, blk (u8s (List.replicate 32 0#8)) 39) :: (some b, blk (u32s s ++ [sl ob 0 rest.length c, .int .i64 (t.length : Int)]) 29) :: (ob, blk (u8s rest ++ r) 5) :: N) (k0 := 8) ⟨0, rfl, by omega, rfl, rfl⟩ ⟨rfl, rfl, rfl, rfl, trivial⟩ (fun w m => m.pick [0, 4, 3, 5] 6 rfl rfl) ?_)
   rintro k L' M' ⟨i, rfl, hi8, rfl, rfl⟩
   refine Z4 (Z2 (Z0 (RV.lss rfl rfl) rfl (Z7 (.bool (decide (i < 8))) (congrArg Value.bool (decide_eq_decide.2 (by omega))) (Z6 (Z1 (Z4 ?_))))))
   by_cases hi : i < 8
   ·refine Z13 rfl (decide_eq_true hi) (CW.skip (Z1 (Z4 ?_)))
    refine CW.cutJ (fun L' M' => L' = [(2, ptr (some b2) 0), (7, ptr (some b7) 0), (40, .agg (u32s S).toArray), (41, .int .i64 (i : Int))] ∧ M' = (some b7, blk (u8s (sqTo S (4 * i + 4))) 39) :: (some b2, blk (u8s (List.replicate 32 0#8)) 39) :: (some b, blk (u32s s ++ [sl ob 0 rest.length c, .int .i64 (t.length : Int)]) 29) :: (ob, blk (u8s rest ++ r) 5) :: N) ?_ ?_
    ·rintro L' M' ⟨rfl, rfl⟩
     refine Z1 (Z2 (Z0 (RV.add rfl rfl (by omega)) rfl (Z7 (.int .i64 (((i + 1 : Nat)) : Int)) (by congr 1) (Z0 (Z3 rfl) rfl (Z6 ?_)))))
     exact Z113 (k' := 8 - (i + 1)) (by omega) ⟨i + 1, rfl, by omega, rfl, rfl⟩ ⟨rfl, rfl, rfl, rfl, trivial⟩ (fun w m => m)
    ·refine CW.block (Z4 (Z2 (Z0 (Z3 rfl) rfl ?_)))
     refine Z0 (RV.indexV (l := u32s S) i rfl rfl rfl rfl rfl rfl rfl (by omega) (u32s_at (show S[i]? = some (S.getD i 0#32) by rw [List.getD_eq_getElem?_getD, List.getElem?_eq_getElem (by omega)]; rfl))) rfl ?_
     refine Z0 (Z5 rfl) rfl (Z0 (Z5 rfl) rfl (Z6 (Z1 (Z4 (Z2 (Z0 (Z3 rfl) rfl (Z6 (Z1 (CW.block (Z121 (fun k L' M' => ∃ j : Nat, k = 4 - j ∧ j ≤ 4 ∧ L' = [(2, ptr (some b2) 0), (7, ptr (some b7) 0), (8, .int .i64 (i : Int)), (9, U32 (S.getD i 0#32)), (40, .agg (u32s S).toArray), (41, .int .i64 (i : Int)), (45, .int .i64 (j : Int))] ∧ M' = (some b7, blk (u8s (sqTo S (4 * i + j))) 39) :: (some b2, blk (u8s (List.replicate 32 0#8)) 39) :: (some b, blk (u32s s ++ [sl ob 0 rest.length c, .int .i64 (t.length : Int)]) 29) :: (ob, blk (u8s rest ++ r) 5) :: N) (k0 := 4) ⟨0, rfl, by omega, rfl, rfl⟩ ⟨rfl, rfl, rfl, rfl, rfl, rfl, rfl, trivial⟩ (fun w m => m) ?_))))))))))
     rintro k L' M' ⟨j, rfl, hj4, rfl, rfl⟩
     refine Z4 (Z2 (Z0 (RV.lss rfl rfl) rfl (Z7 (.bool (decide (j < 4))) (congrArg Value.bool (decide_eq_decide.2 (by omega))) (Z6 (Z1 (Z4 ?_))))))
     by_cases hj : j < 4
     ·refine Z13 rfl (decide_eq_true hj) (CW.skip (Z1 (Z4 (CW.block (Z4 (Z2 (Z0 (Z3 rfl) rfl (Z0 (Z5 rfl) rfl (Z6 (Z1 (Z2 (Z0 (Z3 rfl) rfl (Z0 (RV.mul rfl rfl (by omega)) rfl (Z0 (Z3 rfl) rfl ?_))))))))))))))
      refine Z0 (RV.add rfl rfl (by omega)) rfl (Z0 (Z3 rfl) rfl (Z0 (Z3 rfl) rfl (Z0 (RV.mul rfl rfl (by omega)) rfl (Z0 (RV.sub rfl rfl (by omega)) rfl (Z7 (.int .i64 ((24 - 8 * j : Nat) : Int)) (by congr 1; omega) (Z0 (RV.shr32 rfl rfl rfl rfl) rfl (Z0 (RV.conv32_8 rfl rfl rfl rfl) rfl ?_)))))))
      refine Z0 (Z103 (4 * i + j) rfl rfl (by omega) rfl rfl (by omega)) rfl (Z28 (SV.store rfl rfl rfl rfl rfl (by rw [Z102, sqTo_length S (by omega)]; omega)) (OW.cells (u8s (sqTo S (4 * i + j + 1))) (by rw [Nat.zero_add, u8s_set, sqTo_set S (by omega) _ (by rw [show (4 * i + j) / 4 = i by omega, show (4 * i + j) % 4 = j by omega])]) (Z6 (Z27 (Z1 (Z2 (Z0 (RV.add rfl rfl (by omega)) rfl (Z7 (.int .i64 (((j + 1 : Nat)) : Int)) (by congr 1) (Z0 (Z3 rfl) rfl (Z6 ?_))))))))))
      exact Z113 (k' := 4 - (j + 1)) (by omega) ⟨j + 1, rfl, by omega, rfl, rfl⟩ ⟨rfl, rfl, rfl, rfl, rfl, rfl, rfl, trivial⟩ (fun w m => m)
     ·refine Z14 rfl (decide_eq_false hj) (CW.exit (Z9 (Z9 (Z15 ?_))))
      obtain rfl : j = 4 := by omega
      refine Z27 ?_
      exact QW.join ⟨rfl, rfl⟩ ⟨rfl, rfl, rfl, rfl, trivial⟩ (fun w m => m)
   ·refine Z14 rfl (decide_eq_false hi) (CW.exit (Z9 (Z9 (Z15 ?_))))
    obtain rfl : i = 8 := by omega
    exact QW.join ⟨rfl, rfl⟩ ⟨rfl, rfl, trivial⟩ (fun w m => m)
 ·refine CW.block ?_
  refine Z121 (fun k L' M' => ∃ (p : Nat) (A1 : Option Addr) (c1' : Nat), k = T.length / 64 - p ∧ p ≤ T.length / 64 ∧ View Ψ A1 (T.drop (64 * p)).length c1' 1 (u8s (T.drop (64 * p))) ∧ L' = [(0, ptr (some b) 0), (2, ptr (some b2) 0), (3, ptr (some b3) 0), (6, .slice A1 (T.drop (64 * p)).length c1')] ∧ M' = (some b3, blk (u32s (soakS p T startL)) 26) :: eE :: (some b, blk (u32s s ++ [sl ob 0 rest.length c, .int .i64 (t.length : Int)]) 29) :: (some b2, blk (u8s (List.replicate 32 0#8)) 39) :: (ob, blk (u8s rest ++ r) 5) :: N) (k0 := T.length / 64 - t.length / 64) ⟨t.length / 64, _, c2, rfl, by omega, v2, rfl, rfl⟩ ⟨rfl, rfl, rfl, rfl, trivial⟩ (fun w m => by rw [← hnow]; exact m.pick [2, 0, 3, 4, 5] 6 rfl rfl) ?_
  rintro k L' M' ⟨p, A1, c1', rfl, hp, v1, rfl, rfl⟩
  have hdl : (T.drop (64 * p)).length = T.length - 64 * p := List.length_drop
  have m1 := v1.mx
  refine Z4 (Z4 (Z2 (Z0 (Z3 rfl) rfl (Z0 (RV.len rfl rfl) rfl (Z0 (RV.gtr rfl rfl) rfl (Z7 (.bool (decide (p < T.length / 64))) (congrArg Value.bool (decide_eq_decide.2 (by omega))) (Z6 (Z1 ?_))))))))
  by_cases hlt : p < T.length / 64
  ·refine Z13 rfl (decide_eq_true hlt) (CW.skip (Z1 ?_))
   have hle := v1.le
   have hk : 64 ≤ (T.drop (64 * p)).length := by omega
   have htk : ((T.drop (64 * p)).take 64).length = 64 := by rw [List.length_take]; omega
   have vk := v1.hi8 hk
   have vd := v1.lo8 hk
   have hSl : (soakS p T startL).length = 8 := soakS_length _ _ _ rfl
   refine Z4 (CW.block (CW.drawsX (eE :: (some b, blk (u32s s ++ [sl ob 0 rest.length c, .int .i64 (t.length : Int)]) 29) :: N) [4] (fun w m => m.pick [1, 2] 5 rfl rfl) mixed (by kernel_rfl) (XW.rv 0 rfl (by kernel_rfl) rfl (by kernel_rfl) (Z22 rfl Zh rfl rfl rfl rfl ((Z100 _).trans hSl)) rfl (Z10 1 rfl (by kernel_rfl) rfl (Z3 rfl) rfl (Z10 2 rfl (by kernel_rfl) rfl (RV.cut_hi (64) rfl rfl rfl rfl rfl (by omega)) rfl ?_)))))
   refine Z11 3 rfl (by kernel_rfl) rfl Tryd.call50 rfl (fun N' hN' => Does.toG (behind_does w0 N' constL hK rfl (soakS p T startL) hSl A1 c1' ((T.drop (64 * p)).take 64) (fun w m => vk.rd w (by rw [← hΨ]; exact (hN' w m).pick [1] 2 rfl rfl |>.sublist (List.cons_sublist_cons.2 (List.nil_sublist _)))) htk (by omega))) rfl ?_
   rintro u G ⟨e1, e2⟩
   rw [e1, e2]
   clear e1 e2 u G
   refine XW.sv 4 rfl (by kernel_rfl) (Z105 rfl rfl rfl (Z120 _) rfl ((Z100 _).trans hSl) ((Z100 _).trans (behindL_length hSl))) (fun w m => m.pick [1, 2] 5 rfl rfl) (XW.nil (by kernel_rfl) (Z27 (Z1 (Z2 (Z0 (Z3 rfl) rfl (Z0 (RV.cut_lo (s := 1) (64) rfl rfl rfl rfl rfl (by omega)) rfl (Z7 (.slice (subA A1 c1' 64 1) ((T.drop (64 * p)).drop 64).length (c1' - 64)) (by rw [show ((T.drop (64 * p)).drop 64).length = (T.drop (64 * p)).length - 64 from List.length_drop]) (Z0 (Z5 rfl) rfl (Z6 ?_)))))))))
   have hdd : (T.drop (64 * p)).drop 64 = T.drop (64 * (p + 1)) := by rw [List.drop_drop]; congr 1
   rw [hdd] at vd ⊢
   exact Z113 (k' := T.length / 64 - (p + 1)) (by omega) ⟨p + 1, _, _, rfl, by omega, vd, rfl, rfl⟩ ⟨rfl, rfl, rfl, rfl, trivial⟩ (fun w m => by rw [soakS_snoc]; exact m)
  ·refine Z14 rfl (decide_eq_false hlt) (CW.exit (Z9 (Z9 (Z15 ?_))))
   obtain rfl : p = T.length / 64 := by omega
   exact QW.join ⟨rfl, rfl⟩ ⟨rfl, rfl, rfl, trivial⟩ (fun w m => m)
end Go.Fw.Tryd
namespace Go.Fw
mutual
def It.sz : It → Nat
 | .mk _ _ its => 1 + Its.sz its
def Its.sz : List It → Nat
 | [] => 0
 | x :: xs => It.sz x + Its.sz xs
end
structure Hd where
 list : Bool
 fr : Nat
 to : Nat
def HdRd (Φ : Ctx) (cs : List Value) (h : Hd) : Prop := cs = [.bool h.list, .int .i64 ((h.fr : Nat) : Int), .int .i64 ((h.to : Nat) : Int)] ∧ h.fr ≤ 9223372036854775807 ∧ h.to ≤ 9223372036854775807
theorem HdRd.mk {Φ : Ctx} {l : Bool} {f t : Nat} (h1 : f ≤ 9223372036854775807) (h2 : t ≤ 9223372036854775807) : HdRd Φ [.bool l, .int .i64 ((f : Nat) : Int), .int .i64 ((t : Nat) : Int)] ⟨l, f, t⟩ := ⟨rfl, h1, h2⟩
theorem HdRd.mono {Φ Ψ : Ctx} (hh : ∀ w, Ψ w → Φ w) (cs : List Value) (h : Hd) : HdRd Φ cs h → HdRd Ψ cs h := fun r => r
end Go.Fw
namespace Go.Fw
open Go Go.RowKit
def room9 (x : List (BitVec 8)) : List (BitVec 8) := x ++ List.replicate 9 165#8
structure Room (Φ : Ctx) (A : Option Addr) (x : List (BitVec 8)) : Prop where
 full : View Φ A (x.length + 9) (x.length + 9) 1 (u8s (room9 x))
theorem Room.mono {Φ Ψ : Ctx} {A : Option Addr} {x : List (BitVec 8)} (h : Room Φ A x) (hh : ∀ w, Ψ w → Φ w) : Room Ψ A x := ⟨h.full.mono hh⟩
theorem Room.view {Φ : Ctx} {A : Option Addr} {x : List (BitVec 8)} (h : Room Φ A x) : View Φ A x.length (x.length + 9) 1 (u8s x) := by
 have h1 := h.full.hi (k := x.length) (by omega)
 rw [Nat.mul_one, show (u8s (room9 x)).take x.length = u8s x by simp [u8s, room9]] at h1
 exact h1
end Go.Fw
namespace Go.Fw
open Go Go.RowKit
def RmRd (Φ : Ctx) (cs : List Value) (x : List (BitVec 8)) : Prop := ∃ A, cs = [.slice A x.length (x.length + 9)] ∧ Room Φ A x
theorem RmRd.mono {Φ Ψ : Ctx} (hh : ∀ w, Ψ w → Φ w) (cs : List Value) (x : List (BitVec 8)) : RmRd Φ cs x → RmRd Ψ cs x := fun ⟨A, h1, h2⟩ => ⟨A, h1, h2.mono hh⟩
theorem RmRd.len {Φ : Ctx} (cs : List Value) (x : List (BitVec 8)) (h : RmRd Φ cs x) : cs.length = 1 := by obtain ⟨A, rfl, _⟩ := h; rfl
theorem RmRd.one {Φ : Ctx} (cs : List Value) (x : List (BitVec 8)) (h : RmRd Φ cs x) : ∀ u ∈ cs, u.oneCell' = true := by
 obtain ⟨A, rfl, _⟩ := h
 intro u hu; simp at hu; subst hu; rfl
theorem RmRd.mk {Φ : Ctx} {A : Option Addr} {x : List (BitVec 8)} (h : Room Φ A x) : RmRd Φ [.slice A x.length (x.length + 9)] x := ⟨A, rfl, h⟩
theorem RmRd.bs {Φ : Ctx} (cs : List Value) (x : List (BitVec 8)) (h : RmRd Φ cs x) : BsRd Φ cs x := by
 obtain ⟨A, h1, h2⟩ := h
 exact ⟨A, _, h1, h2.view⟩
end Go.Fw
namespace Go.Fw
end Go.Fw
namespace Go.Fw
open Go Go.RowKit
theorem View.of_rd {W : World} {A : Option Addr} {cap len s : Nat} {cells : List Value} (rd : Rd W A cells) (hn : cells.length = len * s) (hle : len ≤ cap) (hmx : cap ≤ 140737488355328) : View (fun w => Mem W w []) A len cap s cells :=
 ⟨fun w q => rd.old q, rd.1, hn, hle, by omega⟩
theorem View.of8 {W : World} {A : Option Addr} {cap : Nat} {xs : List (BitVec 8)} (rd : Rd W A (u8s xs)) (hle : xs.length ≤ cap) (hmx : cap ≤ 140737488351232) : View (fun w => Mem W w []) A xs.length cap 1 (u8s xs) :=
 View.of_rd rd (by rw [Z102, Nat.mul_one]) hle (by omega)
end Go.Fw
namespace Go.Fw.Tryd
open Go Go.Proofs
abbrev zH : List Value := u32s (List.replicate 8 0#32) ++ [sl none 0 0 0, .int .i64 0]
theorem New_does (w0 : World) (N : List Ent) : DoesG Tryd.prog 8 [] w0 [] N (fun u G => ∃ b : Nat, u = ptr (some b) 0 ∧ G = [(some b, blk zH 29)]) := by
 refine DoesG.enter Tryd.func8 rfl Tryd.ntmps8 rfl (M := N) rfl (Z4 (Z2 (Z0 (Z5 rfl) rfl (Z6 (Z1 (Z4 (Z2 (Z0 (RV.buildSt (l := zH) (cs := zH) [] rfl rfl rfl rfl rfl rfl rfl) rfl (OW.boxA rfl rfl (fun b => (Z0 (Z5 rfl) rfl (Z6 (Z1 (CW.ret ?_))))))))))))))
 refine Z110 (rs := [.tmp 0]) [ptr (some b) 0] [(some b, blk zH 29)] rfl ⟨rfl, trivial⟩ rfl ⟨b, rfl, rfl⟩ (fun w m => m) _ (.inl rfl)
theorem zH_HT : HT (List.replicate 8 0#32) [] 0 [] := ⟨rfl, rfl, fun h => by simp at h, rfl⟩
end Go.Fw.Tryd
namespace Go.Fw.Tryd
open Go Go.Proofs
attribute [local irreducible] wTo
theorem word_does (w0 : World) (M : List Ent) (A : Option Addr) (ca : Nat) (bs : List (BitVec 8)) (hA : Mem.Says w0 M (fun w => Rd w A (u8s bs))) (hl : bs.length = 64) (i : Nat) (hi : i < 16) :
  Does Tryd.prog 124 [.slice A 64 ca, .int .i64 (4 * (i : Int))] w0 M (τ := Unit) (fun _ => True) (fun _ => U32 (pw bs i 4)) (fun _ => M) := by
 refine Does.of_mem fun w1 m1 => ?_
 have sA : A.isSome = true := Rd.someOf (f := U8) (hA w1 m1) (i := 0) (by omega)
 have lt : ∀ p, p < 4 → Mem.Says w0 M (fun w => w.cell? ((A.getD default).add (4 * i + p)) = some (U8 (bs.getD (4 * i + p) 0#8))) := fun p hp w m => (hA w m).cell (u8s_get (by omega))
 have e : ∀ p : Nat, (4 * (i : Int) + (p : Int)).toNat = 4 * i + p := fun p => by omega
 have l0 : Mem.Says w0 M (fun w => w.cell? ((A.getD default).add (4 * (i : Int)).toNat) = some (U8 (bs.getD (4 * i) 0#8))) := by have := lt 0 (by decide); rw [show (4 * (i : Int)).toNat = 4 * i by omega]; exact this
 have l1 : Mem.Says w0 M (fun w => w.cell? ((A.getD default).add (4 * (i : Int) + 1).toNat) = some (U8 (bs.getD (4 * i + 1) 0#8))) := by have := lt 1 (by decide); rw [show (4 * (i : Int) + 1).toNat = 4 * i + 1 by omega]; exact this
 have l2 : Mem.Says w0 M (fun w => w.cell? ((A.getD default).add (4 * (i : Int) + 2).toNat) = some (U8 (bs.getD (4 * i + 2) 0#8))) := by have := lt 2 (by decide); rw [show (4 * (i : Int) + 2).toNat = 4 * i + 2 by omega]; exact this
 have l3 : Mem.Says w0 M (fun w => w.cell? ((A.getD default).add (4 * (i : Int) + 3).toNat) = some (U8 (bs.getD (4 * i + 3) 0#8))) := by have := lt 3 (by decide); rw [show (4 * (i : Int) + 3).toNat = 4 * i + 3 by omega]; exact this
 refine Does.enter Tryd.func124 rfl Tryd.ntmps124 rfl (Z4 (Z2 (Z0 (Z5 rfl) rfl (Z6 ?_))))
 (refine Z1 ?_; refine Z4 ?_)
 refine CW.draws mixed (by kernel_rfl) (DW.rv (Z3 rfl) rfl (DW.rv (Z3 rfl) rfl (DW.rv (Z127 _ rfl rfl rfl rfl rfl (by assumption) (by omega)) rfl ?_)))
 refine DW.rv (Z21 rfl rfl rfl (by assumption; done)) rfl ?_
 refine DW.rv (RV.conv8_32 rfl rfl rfl rfl) rfl (DW.rv (RV.shl32 rfl rfl rfl rfl) rfl (DW.rv (Z3 rfl) rfl (DW.rv (Z3 rfl) rfl (DW.rv (RV.add rfl rfl (by omega)) rfl (DW.rv (Z127 _ rfl rfl rfl rfl rfl (by assumption) (by omega)) rfl ?_)))))
 refine DW.rv (Z21 rfl rfl rfl (by assumption; done)) rfl ?_
 refine DW.rv (RV.conv8_32 rfl rfl rfl rfl) rfl (DW.rv (RV.shl32 rfl rfl rfl rfl) rfl (DW.rv (RV.or32 rfl rfl rfl rfl) rfl (DW.rv (Z3 rfl) rfl (DW.rv (Z3 rfl) rfl (DW.rv (RV.add rfl rfl (by omega)) rfl (DW.rv (Z127 _ rfl rfl rfl rfl rfl (by assumption) (by omega)) rfl ?_))))))
 refine DW.rv (Z21 rfl rfl rfl (by assumption; done)) rfl ?_
 refine DW.rv (RV.conv8_32 rfl rfl rfl rfl) rfl (DW.rv (RV.shl32 rfl rfl rfl rfl) rfl (DW.rv (RV.or32 rfl rfl rfl rfl) rfl (DW.rv (Z3 rfl) rfl (DW.rv (Z3 rfl) rfl (DW.rv (RV.add rfl rfl (by omega)) rfl (DW.rv (Z127 _ rfl rfl rfl rfl rfl (by assumption) (by omega)) rfl ?_))))))
 refine DW.rv (Z21 rfl rfl rfl (by assumption; done)) rfl ?_
 refine DW.rv (RV.conv8_32 rfl rfl rfl rfl) rfl (DW.rv (RV.or32 rfl rfl rfl rfl) rfl (DW.rv (Z5 rfl) rfl (DW.nil ?_)))
 (refine Z1 ?_; refine CW.ret ?_)
 refine QW.ret1 rfl () trivial ?_ (fun _ m => m)
 rw [pw_all]; rfl
theorem rwords_does (w0 : World) (M : List Ent) (A : Option Addr) (ca : Nat) (bs : List (BitVec 8)) (hA : Mem.Says w0 M (fun w => Rd w A (u8s bs))) (hl : bs.length = 64) {W : List (BitVec 32)} (hW : wTo bs 48 = W) :
  Does Tryd.prog 104 [.slice A 64 ca] w0 M (τ := Option Nat × List Value × Nat) (fun q => (u32s W ++ q.2.1).length = q.2.2 ∧ (q.1 = none → q.2.2 = 0)) (fun q => sl q.1 0 64 q.2.2) (fun q => (q.1, blk (u32s W ++ q.2.1) 25) :: M) := by
 refine Does.enter Tryd.func104 rfl Tryd.ntmps104 rfl (Z4 (Z2 (Z0 (Z5 rfl) rfl (Z6 ?_))))
 (refine Z1 ?_; refine Z4 ?_)
 refine Z2 (Z0 (Z5 rfl) rfl (Z6 ?_))
 (refine Z1 ?_; refine Z4 ?_; refine Z4 ?_)
 refine Z2 (Z0 (Z5 rfl) rfl (Z6 ?_))
 (refine Z1 ?_; refine CW.block ?_)
 refine CW.loop (σ := Nat × Option Nat × List Value × Nat) (fun s => s.1 ≤ 16 ∧ (u32s (firstW bs s.1) ++ s.2.2.1).length = s.2.2.2 ∧ (s.2.1 = none → s.2.2.2 = 0)) (fun s => [(0, .slice A 64 ca), (3, sl s.2.1 0 s.1 s.2.2.2), (4, .int .i64 (s.1 : Int))])
  (fun s => (s.2.1, blk (u32s (firstW bs s.1) ++ s.2.2.1) 25) :: M) (fun s => 16 - s.1) (0, none, [], 0) ⟨by simp, rfl, fun _ => rfl⟩ ⟨rfl, rfl, rfl, trivial⟩ (fun _ m => m.nil_ent _) ?_
 rintro ⟨i, ob, r, cap⟩ ⟨hi, h3, h4⟩
 dsimp only at hi h3 h4 ⊢
 have h5 : (u32s (firstW bs i)).length = i := by rw [Z100, firstW_length]
 (refine Z4 ?_; refine Z4 ?_)
 refine Z2 (Z0 (Z3 rfl) rfl (Z0 (RV.lss rfl rfl) rfl (Z6 (Z1 ?_))))
 refine Z104 rfl (fun hlt => ?_) (fun hlt => ?_)
 ·have hi2 : i < 16 := by omega
  (refine CW.skip ?_; refine Z1 ?_; refine Z4 ?_; refine CW.block ?_)
  refine Z2 (Z0 (Z3 rfl) rfl (Z0 (Z3 rfl) rfl (Z0 (Z3 rfl) rfl (Z0 (RV.mul rfl rfl (by omega)) rfl (OW.call Tryd.call124 rfl (word_does w0 _ A ca bs (Mem.Says.cons hA) hl i hi2) rfl (fun u hu => (OW.push rfl rfl rfl rfl rfl rfl rfl rfl (by assumption) (by assumption) (by assumption) (by omega) (by simp only [i25]; omega) rfl rfl (fun b20 ob20 r20 cap20 hr20 hn20 => (Z0 (Z5 rfl) rfl ?_)))))))))
  refine Z6 ?_
  (refine Z27 ?_; refine Z1 ?_)
  refine Z2 (Z0 (Z3 rfl) rfl (Z0 (RV.add rfl rfl (by omega)) rfl (Z0 (Z5 rfl) rfl (Z6 ?_))))
  have e2 : u32s (firstW bs (i + 1)) = u32s (firstW bs i) ++ [U32 (pw bs i 4)] := by rw [firstW_succ]; simp [u32s]
  refine Z108 (i + 1, ob20, r20, cap20) ⟨by show i + 1 ≤ 16; omega, by rw [e2]; exact hr20, hn20⟩ (by show 16 - (i + 1) < 16 - i; omega) ⟨rfl, rfl, rfl, trivial⟩ (fun _ m => by rw [e2]; exact m)
 have hi2 : i = 16 := by omega
 subst hi2
 (repeat (first | refine Z4 ?_ | refine Z1 ?_ | refine CW.block ?_ | refine CW.ret ?_ | refine CW.skip ?_ | refine CW.exit ?_ | refine Z9 ?_ | refine Z8 ?_ | refine Z27 ?_ | refine Z15 ?_ | refine QW.block_xn rfl ?_ | refine Z16 ?_))
 refine Z2 (Z0 (Z5 rfl) rfl (Z6 ?_))
 (refine Z1 ?_; refine CW.block ?_)
 have ew0 : firstW bs 16 = wTo bs 0 := (wTo_zero bs).symm
 rw [ew0] at h3 ⊢
 refine CW.loop (σ := Nat × Option Nat × List Value × Nat) (fun s => s.1 ≤ 48 ∧ (u32s (wTo bs s.1) ++ s.2.2.1).length = s.2.2.2 ∧ (s.2.1 = none → s.2.2.2 = 0)) (fun s => [(3, sl s.2.1 0 (16 + s.1) s.2.2.2), (5, .int .i64 ((16 + s.1 : Nat) : Int))])
  (fun s => (s.2.1, blk (u32s (wTo bs s.1) ++ s.2.2.1) 25) :: M) (fun s => 48 - s.1) (0, ob, r, cap) ⟨by simp, h3, h4⟩ ⟨rfl, rfl, trivial⟩ (fun _ m => m) ?_
 clear hlt hi h5 h3 h4 ew0 ob r cap
 rintro ⟨k, ob, r, cap⟩ ⟨hk, h3, h4⟩
 dsimp only at hk h3 h4 ⊢
 have hwl := wTo_length bs k
 have h5 : (u32s (wTo bs k)).length = 16 + k := by rw [Z100, hwl]
 have hob : ob.isSome = true := by
  rcases hoo : ob with _ | b
  ·have := h4 hoo
   rw [List.length_append] at h3; omega
  ·rfl
 (refine Z4 ?_; refine Z4 ?_)
 refine Z2 (Z0 (Z3 rfl) rfl (Z0 (RV.lss rfl rfl) rfl (Z6 (Z1 ?_))))
 refine Z104 rfl (fun hlt => ?_) (fun hlt => ?_)
 ·have hk2 : k < 48 := by omega
  have gt : ∀ p : Nat, p ≤ 16 → 1 ≤ p → (u32s (wTo bs k) ++ r)[0 + (((16 + k : Nat) : Int) - (p : Int)).toNat]? = some (U32 ((wTo bs k).getD (16 + k - p) 0#32)) := fun p hp hp1 => by
   rw [show 0 + (((16 + k : Nat) : Int) - (p : Int)).toNat = 16 + k - p by omega, List.getElem?_append_left (by omega), Z124 (by omega)]
  have g15 := gt 15 (by omega) (by omega)
  have g2 := gt 2 (by omega) (by omega)
  have g7 := gt 7 (by omega) (by omega)
  have g16 := gt 16 (by omega) (by omega)
  (refine CW.skip ?_; refine Z1 ?_; refine Z4 ?_; refine CW.block ?_; refine Z4 ?_)
  refine Z2 (Z0 (Z3 rfl) rfl (Z0 (Z3 rfl) rfl (Z0 (RV.sub rfl rfl (by omega)) rfl (Z0 (RV.idx_oz rfl rfl (by omega) rfl rfl (by assumption) (by omega)) rfl ?_))))
  refine Z0 (Z29 rfl (by exact List.Mem.head _; done) (by assumption) rfl rfl (by assumption)) rfl ?_
  refine Z0 (Z5 rfl) rfl (Z6 ?_)
  (refine Z1 ?_; refine Z4 ?_)
  refine Z2 (Z0 (Z3 rfl) rfl (Z0 (Z3 rfl) rfl (Z0 (RV.sub rfl rfl (by omega)) rfl (Z0 (RV.idx_oz rfl rfl (by omega) rfl rfl (by assumption) (by omega)) rfl ?_))))
  refine Z0 (Z29 rfl (by exact List.Mem.head _; done) (by assumption) rfl rfl (by assumption)) rfl ?_
  refine Z0 (Z5 rfl) rfl (Z6 ?_)
  (refine Z1 ?_; refine Z4 ?_)
  refine Z2 (Z0 (Z3 rfl) rfl (OW.call Tryd.call105 rfl (Z116 w0 _ _ 7#64 7 (by decide) (by decide)) rfl (fun u hu => (Z0 (Z3 rfl) rfl (OW.call Tryd.call105 rfl (Z116 w0 _ _ 18#64 18 (by decide) (by decide)) rfl (fun u hu => (Z0 (Z111 rfl rfl rfl rfl) rfl (Z0 (Z3 rfl) rfl (Z0 (RV.shr32 rfl rfl rfl rfl) rfl ?_)))))))))
  refine Z0 (Z111 rfl rfl rfl rfl) rfl (Z0 (Z5 rfl) rfl (Z6 ?_))
  (refine Z1 ?_; refine Z4 ?_)
  refine Z2 (Z0 (Z3 rfl) rfl (OW.call Tryd.call105 rfl (Z116 w0 _ _ 17#64 17 (by decide) (by decide)) rfl (fun u hu => (Z0 (Z3 rfl) rfl (OW.call Tryd.call105 rfl (Z116 w0 _ _ 19#64 19 (by decide) (by decide)) rfl (fun u hu => (Z0 (Z111 rfl rfl rfl rfl) rfl (Z0 (Z3 rfl) rfl (Z0 (RV.shr32 rfl rfl rfl rfl) rfl ?_)))))))))
  refine Z0 (Z111 rfl rfl rfl rfl) rfl (Z0 (Z5 rfl) rfl (Z6 (Z1 (CW.drawsU 17 mixed (by kernel_rfl) rfl (Z18 0 rfl (by kernel_rfl) rfl (Z3 rfl) rfl (Z18 1 rfl (by kernel_rfl) rfl (Z3 rfl) rfl (Z18 2 rfl (by kernel_rfl) rfl (Z3 rfl) rfl (Z18 3 rfl (by kernel_rfl) rfl (Z3 rfl) rfl ?_))))))))
  refine Z18 4 rfl (by kernel_rfl) rfl (RV.sub rfl rfl (by omega)) rfl (Z18 5 rfl (by kernel_rfl) rfl (RV.idx_oz rfl rfl (by omega) rfl rfl (by assumption) (by omega)) rfl ?_)
  refine Z18 6 rfl (by kernel_rfl) rfl (Z29 rfl (by exact List.Mem.head _; done) (by assumption) rfl rfl (by assumption)) rfl ?_
  refine Z18 7 rfl (by kernel_rfl) rfl (Z112 rfl rfl rfl rfl) rfl (Z18 8 rfl (by kernel_rfl) rfl (Z3 rfl) rfl (Z18 9 rfl (by kernel_rfl) rfl (Z112 rfl rfl rfl rfl) rfl (Z18 10 rfl (by kernel_rfl) rfl (Z3 rfl) rfl (Z18 11 rfl (by kernel_rfl) rfl (Z3 rfl) rfl (Z18 12 rfl (by kernel_rfl) rfl (RV.sub rfl rfl (by omega)) rfl (Z18 13 rfl (by kernel_rfl) rfl (RV.idx_oz rfl rfl (by omega) rfl rfl (by assumption) (by omega)) rfl ?_))))))
  refine Z18 14 rfl (by kernel_rfl) rfl (Z29 rfl (by exact List.Mem.head _; done) (by assumption) rfl rfl (by assumption)) rfl ?_
  refine Z18 15 rfl (by kernel_rfl) rfl (Z112 rfl rfl rfl rfl) rfl (UW.new 16 rfl (by kernel_rfl) rfl (NV.bs1 rfl rfl rfl rfl rfl rfl) rfl (fun b67 => (UW.nil (by kernel_rfl) (OW.app1 rfl rfl rfl rfl rfl rfl rfl (by assumption) (by assumption) (by assumption) (by omega) (by simp only [i25]; omega) rfl (fun ob68 r68 cap68 hr68 hn68 => (Z0 (Z5 rfl) rfl (Z6 ?_)))))))
  (refine Z27 ?_; refine Z1 ?_)
  refine Z2 (Z0 (Z3 rfl) rfl (Z0 (RV.add rfl rfl (by omega)) rfl (Z0 (Z5 rfl) rfl (Z6 ?_))))
  have e2 : u32s (wTo bs (k + 1)) = u32s (wTo bs k) ++ [U32 (wnext (wTo bs k) (16 + k))] := by rw [wTo_succ]; simp [u32s]
  refine Z108 (k + 1, ob68, r68, cap68) ⟨by show k + 1 ≤ 48; omega, by rw [e2]; exact hr68, hn68⟩ (by show 48 - (k + 1) < 48 - k; omega) ⟨rfl, rfl, trivial⟩ (fun _ m => by rw [e2]; exact m)
 have hk2 : k = 48 := by omega
 subst hk2
 rw [hW] at h3 ⊢
 (refine CW.exit ?_; refine Z9 ?_; refine Z9 ?_; refine Z15 ?_; refine Z1 ?_; refine Z4 ?_)
 refine Z2 (Z0 (Z3 rfl) rfl (Z0 (Z5 rfl) rfl (Z6 ?_)))
 (refine Z1 ?_; refine CW.ret ?_)
 exact QW.ret1 rfl (ob, r, cap) ⟨h3, h4⟩ rfl (fun _ m => m)
theorem list8 {l : List (BitVec 32)} (h : l.length = 8) : l = [l.getD 0 0#32, l.getD 1 0#32, l.getD 2 0#32, l.getD 3 0#32, l.getD 4 0#32, l.getD 5 0#32, l.getD 6 0#32, l.getD 7 0#32] := by
 match l, h with
 | [_, _, _, _, _, _, _, _], _ => rfl
theorem rounds_does (w0 : World) (M : List Ent) (K : List (BitVec 32)) (hKl : K.length = 64) (B : Option Addr) (cb : Nat) (hB : Mem.Says w0 M (fun w => Rd w B (u32s K))) (s : List (BitVec 32)) (hs : s.length = 8) (A : Option Addr) (ca : Nat) (bs : List (BitVec 8)) (hA : Mem.Says w0 M (fun w => Rd w A (u8s bs))) (hl : bs.length = 64) :
  Does Tryd.prog 78 [.agg (u32s s).toArray, .slice A 64 ca, .slice B 64 cb] w0 M (τ := Unit) (fun _ => True) (fun _ => .agg (u32s (behindL K s bs)).toArray) (fun _ => M) := by
 refine Does.of_mem fun w1 m1 => ?_
 have sB : B.isSome = true := Rd.someOf (f := U32) (hB w1 m1) (i := 0) (by omega)
 have hW : behindL K s bs = addL s (runTo K (wTo bs 48) (St.of s) 64).toL := rfl
 obtain ⟨W, hWe⟩ : ∃ W, wTo bs 48 = W := ⟨_, rfl⟩
 have hwl : W.length = 64 := by rw [← hWe]; exact wTo_length bs 48
 rw [hWe] at hW
 have hz8 : z8.length = 8 := rfl
 refine Does.enter Tryd.func78 rfl Tryd.ntmps78 rfl (Z4 (Z2 (OW.boxA rfl rfl (fun b3 => (OW.alloc (l := u32s (List.replicate 8 0#32)) rfl (by rw [← Z123]; rfl) rfl (fun b6 => (Z6 ?_)))))))
 (refine Z1 ?_; refine Z4 ?_)
 refine Z2 (Z0 (Z3 rfl) rfl (OW.call Tryd.call104 rfl (rwords_does w0 _ A ca bs (Mem.Says.cons (Mem.Says.cons hA)) hl hWe) rfl (fun q hq => (Z0 (Z5 rfl) rfl (Z6 ?_)))))
 (refine Z1 ?_; refine Z4 ?_)
 obtain ⟨ow, rw', cw⟩ := q
 dsimp only at hq ⊢
 have how : ow.isSome = true := by
  rcases hoo : ow with _ | b
  ·have h1 := hq.1
   have := hq.2 hoo
   rw [List.length_append, Z100] at h1; omega
  ·rfl
 refine Z2 ?_
 refine Z0 (Z22 rfl (by (refine List.Mem.tail _ ?_; refine List.Mem.tail _ ?_; exact List.Mem.head _); done) rfl rfl rfl rfl ((Z100 _).trans (by assumption))) rfl ?_
 refine OW.alloc (l := u32s (List.replicate 8 0#32)) rfl (by rw [← Z123]; rfl) rfl (fun b8 => (Z28 (Z105 rfl rfl rfl (Z120 _) rfl (by assumption) ((Z100 _).trans (by assumption))) (Z6 ?_)))
 (refine Z1 ?_; refine Z4 ?_; refine Z4 ?_)
 refine Z2 (Z0 (Z5 rfl) rfl (Z6 ?_))
 (refine Z1 ?_; refine CW.block ?_)
 refine CW.loop (σ := Nat) (fun t => t ≤ 64) (fun t => [(2, .slice B 64 cb), (3, ptr (some b3) 0), (6, ptr (some b6) 0), (7, sl ow 0 64 cw), (8, ptr (some b8) 0), (9, .int .i64 (t : Int))])
  (fun t => (some b8, blk (u32s (runTo K W (St.of s) t).toL) 26) :: (ow, blk (u32s W ++ rw') 25) :: (some b6, blk (u32s z8) 26) :: (some b3, blk (u32s s) 26) :: M) (fun t => 64 - t) 0 (by omega) ⟨rfl, rfl, rfl, rfl, rfl, rfl, trivial⟩ (fun _ m => by rw [show (runTo K W (St.of s) 0).toL = s from St.of_toL hs]; exact m) ?_
 ·intro t ht
  (refine Z4 ?_; refine Z4 ?_)
  refine Z2 (Z0 (Z3 rfl) rfl (Z0 (RV.lss rfl rfl) rfl (Z6 (Z1 ?_))))
  refine Z104 rfl (fun hlt => ?_) (fun hlt => ?_)
  ·have ht2 : t < 64 := by omega
   have gk : Mem.Says w0 M (fun w => w.cell? ((B.getD default).add t) = some (U32 (K.getD t 0#32))) := fun w m => (hB w m).cell (Z124 (by omega))
   have gw : (u32s W ++ rw')[0 + t]? = some (U32 (W.getD t 0#32)) := by rw [Nat.zero_add, List.getElem?_append_left (by rw [Z100]; omega)]; exact Z124 (by omega)
   have hstep : runTo K W (St.of s) (t + 1) = (runTo K W (St.of s) t).step (K.getD t 0#32) (W.getD t 0#32) := rfl
   generalize runTo K W (St.of s) t = S at hstep ⊢
   have hSl : S.toL.length = 8 := rfl
   have g0 : (u32s S.toL)[0 + 0]? = some (U32 S.a) := rfl
   have g1 : (u32s S.toL)[0 + 1]? = some (U32 S.b) := rfl
   have g2 : (u32s S.toL)[0 + 2]? = some (U32 S.c) := rfl
   have g3 : (u32s S.toL)[0 + 3]? = some (U32 S.d) := rfl
   have g4 : (u32s S.toL)[0 + 4]? = some (U32 S.e) := rfl
   have g5 : (u32s S.toL)[0 + 5]? = some (U32 S.f) := rfl
   have g6 : (u32s S.toL)[0 + 6]? = some (U32 S.g) := rfl
   have g7 : (u32s S.toL)[0 + 7]? = some (U32 S.h) := rfl
   (refine CW.skip ?_; refine Z1 ?_; refine Z4 ?_; refine CW.block ?_; refine Z4 ?_)
   refine Z2 (Z0 (Z103 _ rfl rfl rfl rfl rfl (by omega)) rfl ?_)
   refine Z0 (Z29 rfl (by exact List.Mem.head _; done) rfl rfl rfl rfl) rfl ?_
   refine Z0 (Z5 rfl) rfl (Z6 ?_)
   (refine Z1 ?_; refine Z4 ?_)
   refine Z2 (Z0 (Z103 _ rfl rfl rfl rfl rfl (by omega)) rfl ?_)
   refine Z0 (Z29 rfl (by exact List.Mem.head _; done) rfl rfl rfl rfl) rfl ?_
   refine Z0 (Z5 rfl) rfl (Z6 ?_)
   (refine Z1 ?_; refine Z4 ?_)
   refine Z2 (Z0 (Z103 _ rfl rfl rfl rfl rfl (by omega)) rfl ?_)
   refine Z0 (Z29 rfl (by exact List.Mem.head _; done) rfl rfl rfl rfl) rfl ?_
   refine Z0 (Z5 rfl) rfl (Z6 ?_)
   (refine Z1 ?_; refine Z4 ?_)
   refine Z2 (Z0 (Z103 _ rfl rfl rfl rfl rfl (by omega)) rfl ?_)
   refine Z0 (Z29 rfl (by exact List.Mem.head _; done) rfl rfl rfl rfl) rfl ?_
   refine Z0 (Z5 rfl) rfl (Z6 ?_)
   (refine Z1 ?_; refine Z4 ?_)
   refine CW.draws mixed (by kernel_rfl) (DW.rv (Z103 _ rfl rfl rfl rfl rfl (by omega)) rfl ?_)
   refine DW.rv (Z29 rfl (by exact List.Mem.head _; done) rfl rfl rfl rfl) rfl ?_
   refine DW.rv (Z3 rfl) rfl (DW.call _ Tryd.call105 rfl (Z116 w0 _ _ 6#64 6 (by decide) (by decide)) (fun _ _ => rfl) (fun _ _ _ m => m) rfl (DW.rv (Z3 rfl) rfl (DW.call _ Tryd.call105 rfl (Z116 w0 _ _ 11#64 11 (by decide) (by decide)) (fun _ _ => rfl) (fun _ _ _ m => m) rfl (DW.rv (Z111 rfl rfl rfl rfl) rfl (DW.rv (Z3 rfl) rfl (DW.call _ Tryd.call105 rfl (Z116 w0 _ _ 25#64 25 (by decide) (by decide)) (fun _ _ => rfl) (fun _ _ _ m => m) rfl (DW.rv (Z111 rfl rfl rfl rfl) rfl ?_)))))))
   refine DW.rv (Z112 rfl rfl rfl rfl) rfl (DW.rv (Z3 rfl) rfl (DW.rv (Z103 _ rfl rfl rfl rfl rfl (by omega)) rfl ?_))
   refine DW.rv (Z29 rfl (by exact List.Mem.head _; done) rfl rfl rfl rfl) rfl ?_
   refine DW.rv (RV.and32 rfl rfl rfl rfl) rfl (DW.rv (Z3 rfl) rfl (DW.rv (RV.compl32 rfl rfl) rfl (DW.rv (Z103 _ rfl rfl rfl rfl rfl (by omega)) rfl ?_)))
   refine DW.rv (Z29 rfl (by exact List.Mem.head _; done) rfl rfl rfl rfl) rfl ?_
   refine DW.rv (RV.and32 rfl rfl rfl rfl) rfl (DW.rv (Z111 rfl rfl rfl rfl) rfl (DW.rv (Z112 rfl rfl rfl rfl) rfl (DW.rv (Z3 rfl) rfl (DW.rv (Z3 rfl) rfl (DW.rv (Z127 _ rfl rfl rfl rfl rfl (by assumption) (by omega)) rfl ?_)))))
   refine DW.rv (Z21 rfl rfl rfl (by (refine Mem.Says.cons ?_; refine Mem.Says.cons ?_; refine Mem.Says.cons ?_; refine Mem.Says.cons ?_; assumption); done)) rfl ?_
   refine DW.rv (Z112 rfl rfl rfl rfl) rfl (DW.rv (Z3 rfl) rfl (DW.rv (Z3 rfl) rfl (DW.rv (Z119 _ rfl rfl rfl rfl rfl (by assumption) (by omega)) rfl ?_)))
   refine DW.rv (Z29 rfl (by (refine List.Mem.tail _ ?_; exact List.Mem.head _); done) (by assumption) rfl rfl (by assumption)) rfl ?_
   refine DW.rv (Z112 rfl rfl rfl rfl) rfl (DW.rv (Z5 rfl) rfl (DW.nil ?_))
   (refine Z1 ?_; refine Z4 ?_)
   refine Z2 (Z0 (Z3 rfl) rfl (OW.call Tryd.call105 rfl (Z116 w0 _ _ 2#64 2 (by decide) (by decide)) rfl (fun u hu => (Z0 (Z3 rfl) rfl (OW.call Tryd.call105 rfl (Z116 w0 _ _ 13#64 13 (by decide) (by decide)) rfl (fun u hu => (Z0 (Z111 rfl rfl rfl rfl) rfl (Z0 (Z3 rfl) rfl (OW.call Tryd.call105 rfl (Z116 w0 _ _ 22#64 22 (by decide) (by decide)) rfl (fun u hu => ?_))))))))))
   refine Z0 (Z111 rfl rfl rfl rfl) rfl (Z0 (Z3 rfl) rfl (Z0 (Z3 rfl) rfl (Z0 (RV.and32 rfl rfl rfl rfl) rfl (Z0 (Z3 rfl) rfl (Z0 (Z3 rfl) rfl (Z0 (RV.and32 rfl rfl rfl rfl) rfl (Z0 (Z111 rfl rfl rfl rfl) rfl ?_)))))))
   refine Z0 (Z3 rfl) rfl (Z0 (Z3 rfl) rfl (Z0 (RV.and32 rfl rfl rfl rfl) rfl (Z0 (Z111 rfl rfl rfl rfl) rfl (Z0 (Z112 rfl rfl rfl rfl) rfl (Z0 (Z5 rfl) rfl (Z6 ?_))))))
   (refine Z1 ?_; refine Z4 ?_)
   refine Z2 (OW.alloc (l := u32s (List.replicate 8 0#32)) rfl (by rw [← Z123]; rfl) rfl (fun b16 => (Z6 ?_)))
   (refine Z1 ?_; refine Z4 ?_; refine Z4 ?_)
   refine Z2 (Z0 (Z5 rfl) rfl (Z6 ?_))
   (refine Z1 ?_; refine CW.block ?_)
   refine CW.loop (σ := Nat × List (BitVec 32)) (fun x => 1 ≤ x.1 ∧ x.1 ≤ 8 ∧ x.2.length = 8 ∧ ∀ m, 1 ≤ m → m < x.1 → x.2.getD m 0#32 = S.toL.getD (m - 1) 0#32) (fun x => [(2, .slice B 64 cb), (3, ptr (some b3) 0), (6, ptr (some b6) 0), (7, sl ow 0 64 cw), (8, ptr (some b8) 0), (9, .int .i64 (t : Int)), (14, U32 (S.t1 (K.getD t 0#32) (W.getD t 0#32))), (15, U32 S.t2), (16, ptr (some b16) 0), (17, .int .i64 (x.1 : Int))])
    (fun x => (some b16, blk (u32s x.2) 26) :: (some b8, blk (u32s S.toL) 26) :: (ow, blk (u32s W ++ rw') 25) :: (some b6, blk (u32s z8) 26) :: (some b3, blk (u32s s) 26) :: M) (fun x => 8 - x.1) (1, z8) ⟨by simp, by simp, rfl, fun m h1 h2 => by omega⟩ ⟨rfl, rfl, rfl, rfl, rfl, rfl, rfl, rfl, rfl, rfl, trivial⟩ (fun _ m => m) ?_
   rintro ⟨i, nl⟩ ⟨hi1, hi8, hnl, hnm⟩
   dsimp only at hi1 hi8 hnl hnm ⊢
   (refine Z4 ?_; refine Z4 ?_)
   refine Z2 (Z0 (Z3 rfl) rfl (Z0 (RV.lss rfl rfl) rfl (Z6 (Z1 ?_))))
   refine Z104 rfl (fun hilt => ?_) (fun hilt => ?_)
   ·have hi2 : i < 8 := by omega
    have gi : (u32s S.toL)[0 + ((i : Int) - 1).toNat]? = some (U32 (S.toL.getD (i - 1) 0#32)) := by rw [show 0 + ((i : Int) - 1).toNat = i - 1 by omega]; exact Z124 (by omega)
    have hl2 : 0 + i < (u32s nl).length := by rw [Z100]; omega
    (refine CW.skip ?_; refine Z1 ?_; refine Z4 ?_; refine CW.block ?_)
    refine Z2 (Z0 (Z3 rfl) rfl (Z0 (Z3 rfl) rfl (Z0 (RV.sub rfl rfl (by omega)) rfl (Z0 (RV.idx_az rfl rfl (by omega) rfl rfl (by omega)) rfl ?_))))
    refine Z0 (Z29 rfl (by (refine List.Mem.tail _ ?_; exact List.Mem.head _); done) rfl rfl rfl (by assumption)) rfl ?_
    refine Z0 (Z103 _ rfl rfl rfl rfl rfl (by omega)) rfl (Z28 (SV.store rfl rfl rfl rfl rfl (by assumption)) (Z6 ?_))
    (refine Z27 ?_; refine Z1 ?_)
    refine Z2 (Z0 (Z3 rfl) rfl (Z0 (RV.add rfl rfl (by omega)) rfl (Z0 (Z5 rfl) rfl (Z6 ?_))))
    refine Z108 (i + 1, nl.set i (S.toL.getD (i - 1) 0#32)) ⟨by show 1 ≤ i + 1; omega, by show i + 1 ≤ 8; omega, by simp [hnl], fun m h1 h2 => ?_⟩ (by show 8 - (i + 1) < 8 - i; omega) ⟨rfl, rfl, rfl, rfl, rfl, rfl, rfl, rfl, rfl, rfl, trivial⟩ (fun _ m => ?_)
    ·have h2' : m < i + 1 := h2
     show (nl.set i (S.toL.getD (i - 1) 0#32)).getD m 0#32 = _
     simp only [List.getD, List.getElem?_set]
     by_cases hm : i = m
     ·subst hm; simp [hnl, hi2]
     ·rw [if_neg hm]; exact hnm m h1 (by omega)
    ·rw [Nat.zero_add, u32s_set'] at m
     exact m
   have hi2 : i = 8 := by omega
   subst hi2
   have en : nl = [nl.getD 0 0#32, S.a, S.b, S.c, S.d, S.e, S.f, S.g] := by
    have h := list8 hnl
    rw [hnm 1 (by decide) (by decide), hnm 2 (by decide) (by decide), hnm 3 (by decide) (by decide), hnm 4 (by decide) (by decide), hnm 5 (by decide) (by decide), hnm 6 (by decide) (by decide), hnm 7 (by decide) (by decide)] at h
    exact h
   generalize nl.getD 0 0#32 = n0 at en
   subst en
   have hl0 : 0 + 0 < (u32s [n0, S.a, S.b, S.c, S.d, S.e, S.f, S.g]).length := Nat.zero_lt_succ _
   have hl4 : 0 + 4 < ((u32s [n0, S.a, S.b, S.c, S.d, S.e, S.f, S.g]).set (0 + 0) (U32 (S.t1 (K.getD t 0#32) (W.getD t 0#32) + S.t2))).length := by rw [List.length_set]; exact (by decide : 4 < 8)
   (refine CW.exit ?_; refine Z9 ?_; refine Z9 ?_; refine Z15 ?_; refine Z1 ?_; refine Z4 ?_)
   refine Z2 (Z0 (Z3 rfl) rfl (Z0 (Z3 rfl) rfl (Z0 (Z112 rfl rfl rfl rfl) rfl (Z0 (Z103 _ rfl rfl rfl rfl rfl (by omega)) rfl (Z28 (SV.store rfl rfl rfl rfl rfl (by assumption)) (Z6 ?_))))))
   (refine Z1 ?_; refine Z4 ?_)
   refine Z2 (Z0 (Z103 _ rfl rfl rfl rfl rfl (by omega)) rfl ?_)
   refine Z0 (Z29 rfl (by (refine List.Mem.tail _ ?_; exact List.Mem.head _); done) rfl rfl rfl rfl) rfl ?_
   refine Z0 (Z3 rfl) rfl (Z0 (Z112 rfl rfl rfl rfl) rfl (Z0 (Z103 _ rfl rfl rfl rfl rfl (by omega)) rfl (Z28 (SV.store rfl rfl rfl rfl rfl (by assumption)) (Z6 (Z1 (CW.mem (M' := (some b16, blk (u32s (S.step (K.getD t 0#32) (W.getD t 0#32)).toL) 26) :: (some b8, blk (u32s S.toL) 26) :: (ow, blk (u32s W ++ rw') 25) :: (some b6, blk (u32s z8) 26) :: (some b3, blk (u32s s) 26) :: M) (fun _ m => m) ?_))))))
   have hSl2 : (S.step (K.getD t 0#32) (W.getD t 0#32)).toL.length = 8 := rfl
   refine Z2 ?_
   refine Z0 (Z22 rfl (by exact List.Mem.head _; done) rfl rfl rfl rfl (by assumption)) rfl ?_
   refine OW.rot1 ?_; refine Z28 (Z105 rfl rfl rfl (Z120 _) rfl (by assumption) (by assumption)) ?_
   refine Z6 ?_
   (refine Z27 ?_; refine Z1 ?_)
   refine Z2 (Z0 (Z3 rfl) rfl (Z0 (RV.add rfl rfl (by omega)) rfl (Z0 (Z5 rfl) rfl (Z6 (Z108 (t + 1) (by omega) (by omega) ⟨rfl, rfl, rfl, rfl, rfl, rfl, trivial⟩ (fun _ m => ?_))))))
   rw [hstep]
   exact m.rot1.tail
  ·have ht2 : t = 64 := by omega
   subst ht2
   generalize runTo K W (St.of s) 64 = S at hW ⊢
   have hv : S.toL.length = 8 := rfl
   rw [hW]
   generalize S.toL = V at hv ⊢
   (repeat (first | refine Z4 ?_ | refine Z1 ?_ | refine CW.block ?_ | refine CW.ret ?_ | refine CW.skip ?_ | refine CW.exit ?_ | refine Z9 ?_ | refine Z8 ?_ | refine Z27 ?_ | refine Z15 ?_ | refine QW.block_xn rfl ?_ | refine Z16 ?_))
   refine Z2 (Z0 (Z5 rfl) rfl (Z6 ?_))
   (refine Z1 ?_; refine CW.block ?_)
   refine CW.loop (σ := Nat) (fun i => i ≤ 8) (fun i => [(3, ptr (some b3) 0), (6, ptr (some b6) 0), (8, ptr (some b8) 0), (18, .int .i64 (i : Int))])
    (fun i => (some b8, blk (u32s (addTo V s i)) 26) :: (some b6, blk (u32s z8) 26) :: (some b3, blk (u32s s) 26) :: M) (fun i => 8 - i) 0 (by omega) ⟨rfl, rfl, rfl, rfl, trivial⟩ (fun _ m => by rw [addTo_zero]; exact m.sublist (List.Sublist.cons_cons _ (List.Sublist.cons _ (List.Sublist.refl _)))) ?_
   intro i hi
   have hal := addTo_length hv hs i
   (refine Z4 ?_; refine Z4 ?_)
   refine Z2 (Z0 (Z3 rfl) rfl (Z0 (RV.lss rfl rfl) rfl (Z6 (Z1 ?_))))
   refine Z104 rfl (fun hilt => ?_) (fun hilt => ?_)
   ·have hi2 : i < 8 := by omega
    have gv : (u32s s)[0 + i]? = some (U32 (s.getD i 0#32)) := by rw [Nat.zero_add]; exact Z124 (by omega)
    have ga : (u32s (addTo V s i))[0 + i]? = some (U32 (V.getD i 0#32)) := by rw [Nat.zero_add, Z124 (by omega), addTo_get hv hs hi2]
    have hl2 : 0 + i < (u32s (addTo V s i)).length := by rw [Z100]; omega
    (refine CW.skip ?_; refine Z1 ?_; refine Z4 ?_; refine CW.block ?_)
    refine CW.drawsT 9 mixed (by kernel_rfl) (TW.rv (Z3 rfl) rfl (TW.rv (Z3 rfl) rfl (TW.rv (Z103 _ rfl rfl rfl rfl rfl (by omega)) rfl ?_)))
    refine TW.rv (Z29 rfl (by exact List.Mem.head _; done) rfl rfl rfl (by assumption)) rfl ?_
    refine TW.rv (Z3 rfl) rfl (TW.rv (Z103 _ rfl rfl rfl rfl rfl (by omega)) rfl ?_)
    refine TW.rv (Z29 rfl (by (refine List.Mem.tail _ ?_; refine List.Mem.tail _ ?_; exact List.Mem.head _); done) rfl rfl rfl (by assumption)) rfl ?_
    refine TW.rv (Z112 rfl rfl rfl rfl) rfl (TW.rv (Z103 _ rfl rfl rfl rfl rfl (by omega)) rfl (TW.nil (Z28 (SV.store rfl rfl rfl rfl rfl (by assumption)) (Z6 ?_))))
    (refine Z27 ?_; refine Z1 ?_)
    refine Z2 (Z0 (Z3 rfl) rfl (Z0 (RV.add rfl rfl (by omega)) rfl (Z0 (Z5 rfl) rfl (Z6 (Z108 (i + 1) (by omega) (by omega) ⟨rfl, rfl, rfl, rfl, trivial⟩ (fun _ m => ?_))))))
    rw [Nat.zero_add, u32s_set', addTo_set hv hs hi2] at m
    exact m
   ·have hi2 : i = 8 := by omega
    subst hi2
    rw [addTo_all hv hs] at hal ⊢
    rw [addL_comm s V]
    (refine CW.exit ?_; refine Z9 ?_; refine Z9 ?_; refine Z15 ?_; refine Z1 ?_; refine Z4 ?_)
    refine Z2 ?_
    refine Z0 (Z22 rfl (by exact List.Mem.head _; done) rfl rfl rfl rfl ((Z100 _).trans (by assumption))) rfl ?_
    refine OW.rot1 ?_; refine Z28 (Z105 rfl rfl rfl (Z120 _) rfl (by assumption) ((Z100 _).trans (by assumption))) ?_
    refine Z6 ?_
    (refine Z1 ?_; refine CW.ret ?_)
    exact QW.retC1 rfl () trivial rfl Zh rfl rfl rfl rfl ((Z100 _).trans hal) rfl (fun _ m => m.tail.tail.tail)
end Go.Fw.Tryd
namespace Go.Fw.Tryd
open Go Go.Proofs
attribute [local irreducible] vt
theorem i64s_set' (l : List Int) (i : Nat) (v : Int) : (i64s l).set i (.int .i64 v) = i64s (l.set i v) := by simp [i64s, List.map_set]
theorem getD_set_int (l : List Int) (k : Nat) (v : Int) (i : Nat) (hk : k < l.length) : (l.set k v).getD i 0 = if i = k then v else l.getD i 0 := by
 simp only [List.getD, List.getElem?_set]
 by_cases h : k = i
 ·subst h; simp [hk]
 ·simp [h, Ne.symm h]
theorem limbs_does (w0 : World) (M : List Ent) (v : Int) (h0 : 0 ≤ v) (h1 : v < 18446744073709551616) (h63 : v ≤ 9223372036854775807) :
  Does Tryd.prog 121 [.int .i64 v] w0 M (τ := List Int) (fun z => Norm z ∧ vt z 16 = v) (fun z => .agg (i64s z).toArray) (fun _ => M) := by
 refine Does.enter Tryd.func121 rfl Tryd.ntmps121 rfl (Z4 (Z2 (OW.alloc (l := i64s (List.replicate 16 0)) rfl (by rw [← i64s_rep]; rfl) rfl (fun b2 => (Z6 ?_)))))
 (refine Z1 ?_; refine Z4 ?_)
 refine Z2 (OW.alloc (l := i64s (List.replicate 16 0)) rfl (by rw [← i64s_rep]; rfl) rfl (fun b3 => (Z6 ?_)))
 (refine Z1 ?_; refine Z4 ?_; refine Z4 ?_)
 refine Z2 (Z0 (Z5 rfl) rfl (Z6 ?_))
 (refine Z1 ?_; refine CW.block ?_)
 refine CW.loop (σ := Nat × List Int × Int) (fun s => s.1 ≤ 4 ∧ Norm s.2.1 ∧ (∀ k, s.1 ≤ k → s.2.1.getD k 0 = 0) ∧ 0 ≤ s.2.2 ∧ s.2.2 ≤ v ∧ vt s.2.1 16 + s.2.2 * 65536 ^ s.1 = v) (fun s => [(0, .int .i64 s.2.2), (2, ptr (some b2) 0), (3, ptr (some b3) 0), (4, .int .i64 (s.1 : Int))])
  (fun s => (some b3, blk (i64s s.2.1) 156) :: (some b2, blk (i64s zL) 156) :: M) (fun s => 4 - s.1) (0, zL, v) ⟨by simp, zL_norm, fun k _ => zL_getD k, h0, Int.le_refl v, by rw [zL_vt]; simp⟩ ⟨rfl, rfl, rfl, rfl, trivial⟩ (fun _ m => m) ?_
 rintro ⟨i, z, u⟩ ⟨hi, hn, hz, hu0, hu1, hv⟩
 dsimp only at hi hn hz hu0 hu1 hv ⊢
 have hzl : z.length = 16 := hn.1
 have hll : zL.length = 16 := List.length_replicate ..
 (refine Z4 ?_; refine Z4 ?_)
 refine Z2 (Z0 (Z3 rfl) rfl (Z0 (RV.lss rfl rfl) rfl (Z6 (Z1 ?_))))
 refine Z104 rfl (fun hlt => ?_) (fun hlt => ?_)
 ·have hi2 : i < 4 := by omega
  have hl2 : 0 + i < (i64s z).length := by rw [Z101]; omega
  (refine CW.skip ?_; refine Z1 ?_; refine Z4 ?_; refine CW.block ?_; refine Z4 ?_)
  refine Z2 (Z0 (Z3 rfl) rfl (Z0 (Z3 rfl) rfl (Z0 (RV.rem rfl rfl (by omega) (by omega)) rfl (Z0 (Z103 _ rfl rfl rfl rfl rfl (by omega)) rfl (Z28 (SV.store rfl rfl rfl rfl rfl (by assumption)) (Z6 (Z1 (Z2 (Z0 (Z3 rfl) rfl ?_)))))))))
  refine Z0 (RV.quo rfl rfl (by omega) (by omega) (by omega)) rfl (Z0 (Z5 rfl) rfl (Z6 ?_))
  (refine Z27 ?_; refine Z1 ?_)
  refine Z2 (Z0 (Z3 rfl) rfl (Z0 (RV.add rfl rfl (by omega)) rfl (Z0 (Z5 rfl) rfl (Z6 ?_))))
  refine Z108 (i + 1, z.set i (u % 65536), u / 65536) ⟨by show i + 1 ≤ 4; omega, hn.set ⟨by omega, by omega⟩, fun k hk => ?_, by show 0 ≤ u / 65536; omega, by show u / 65536 ≤ v; omega, ?_⟩ (by show 4 - (i + 1) < 4 - i; omega) ⟨rfl, rfl, rfl, rfl, trivial⟩ (fun _ m => ?_)
  ·have hk' : i + 1 ≤ k := hk
   show (z.set i (u % 65536)).getD k 0 = 0
   rw [getD_set_int _ _ _ _ (by omega), if_neg (by omega)]; exact hz k (by omega)
  ·show vt (z.set i (u % 65536)) 16 + u / 65536 * 65536 ^ (i + 1) = v
   rw [vt_set (by omega), if_pos (by omega), hz i (Nat.le_refl _), Int.pow_succ]
   have e : u = u / 65536 * 65536 + u % 65536 := by omega
   have e2 : u * 65536 ^ i = (u / 65536 * 65536 + u % 65536) * 65536 ^ i := by rw [← e]
   rw [e2] at hv
   generalize (65536 : Int) ^ i = p at hv ⊢
   grind
  ·rw [Nat.zero_add, i64s_set'] at m
   exact m
 ·have hi4 : i = 4 := by omega
  subst hi4
  have hb := (vt_bound hn.2 16).1
  have hu : u = 0 := by omega
  subst hu
  (refine CW.exit ?_; refine Z9 ?_; refine Z9 ?_; refine Z15 ?_; refine Z1 ?_; refine Z4 ?_)
  refine Z2 ?_
  refine Z0 (Z22 rfl (by exact List.Mem.head _; done) rfl rfl rfl rfl ((Z101 _).trans (by assumption))) rfl ?_
  refine OW.rot1 ?_; refine Z28 (Z105 rfl rfl rfl (i64s_one _) rfl (by assumption) ((Z101 _).trans (by assumption))) ?_
  refine Z6 ?_
  (refine Z1 ?_; refine CW.ret ?_)
  exact QW.retC1 rfl z ⟨hn, by omega⟩ rfl Zh rfl rfl rfl rfl ((Z101 _).trans hzl) rfl (fun _ m => m.tail.tail)
theorem product_does (w0 : World) (M : List Ent) (x y : List Int) (hx : Norm x) (hy : Norm y) (hx8 : ∀ k, 8 ≤ k → x.getD k 0 = 0) (hy8 : ∀ k, 8 ≤ k → y.getD k 0 = 0) :
  Does Tryd.prog 122 [.agg (i64s x).toArray, .agg (i64s y).toArray] w0 M (τ := List Int) (fun z => Norm z ∧ vt z 16 = vt x 16 * vt y 16) (fun z => .agg (i64s z).toArray) (fun _ => M) := by
 have hxl : x.length = 16 := hx.1
 have hyl : y.length = 16 := hy.1
 have hll : zL.length = 16 := List.length_replicate ..
 have ex : vt x 16 = vt x 8 := vt_zero (by decide) (fun k h _ => hx8 k h)
 have ey : vt y 16 = vt y 8 := vt_zero (by decide) (fun k h _ => hy8 k h)
 rw [ex, ey]
 refine Does.enter Tryd.func122 rfl Tryd.ntmps122 rfl (Z4 (Z2 (OW.boxA rfl rfl (fun b2 => (OW.boxA rfl rfl (fun b3 => (OW.alloc (l := i64s (List.replicate 16 0)) rfl (by rw [← i64s_rep]; rfl) rfl (fun b4 => (Z6 ?_)))))))))
 (refine Z1 ?_; refine Z4 ?_)
 refine Z2 (OW.alloc (l := i64s (List.replicate 16 0)) rfl (by rw [← i64s_rep]; rfl) rfl (fun b5 => (Z6 ?_)))
 (refine Z1 ?_; refine Z4 ?_; refine Z4 ?_)
 refine Z2 (Z0 (Z5 rfl) rfl (Z6 ?_))
 (refine Z1 ?_; refine CW.block ?_)
 refine CW.loop (σ := Nat × List Int) (fun s => s.1 ≤ 8 ∧ Norm s.2 ∧ (∀ k, s.1 + 8 ≤ k → s.2.getD k 0 = 0) ∧ vt s.2 16 = vt x s.1 * vt y 8) (fun s => [(2, ptr (some b2) 0), (3, ptr (some b3) 0), (4, ptr (some b4) 0), (5, ptr (some b5) 0), (6, .int .i64 (s.1 : Int))])
  (fun s => (some b5, blk (i64s s.2) 156) :: (some b4, blk (i64s zL) 156) :: (some b3, blk (i64s y) 156) :: (some b2, blk (i64s x) 156) :: M) (fun s => 8 - s.1) (0, zL) ⟨by simp, zL_norm, fun k _ => zL_getD k, by rw [zL_vt, vt_0]; simp⟩ ⟨rfl, rfl, rfl, rfl, rfl, trivial⟩ (fun _ m => m) ?_
 rintro ⟨i, z⟩ ⟨hi, hn, hz, hv⟩
 dsimp only at hi hn hz hv ⊢
 (refine Z4 ?_; refine Z4 ?_)
 refine Z2 (Z0 (Z3 rfl) rfl (Z0 (RV.lss rfl rfl) rfl (Z6 (Z1 ?_))))
 refine Z104 rfl (fun hlt => ?_) (fun hlt => ?_)
 ·have hi2 : i < 8 := by omega
  (refine CW.skip ?_; refine Z1 ?_; refine Z4 ?_; refine CW.block ?_; refine Z4 ?_)
  refine Z2 (Z0 (Z5 rfl) rfl (Z6 ?_))
  (refine Z1 ?_; refine Z4 ?_; refine Z4 ?_)
  refine Z2 (Z0 (Z5 rfl) rfl (Z6 ?_))
  (refine Z1 ?_; refine CW.block ?_)
  refine CW.loop (σ := Nat × List Int × Int) (fun s => s.1 ≤ 8 ∧ Norm s.2.1 ∧ (∀ k, i + 8 ≤ k → s.2.1.getD k 0 = 0) ∧ 0 ≤ s.2.2 ∧ s.2.2 < 65536 ∧ vt s.2.1 16 + s.2.2 * 65536 ^ (i + s.1) = vt x i * vt y 8 + x.getD i 0 * 65536 ^ i * vt y s.1) (fun s => [(2, ptr (some b2) 0), (3, ptr (some b3) 0), (4, ptr (some b4) 0), (5, ptr (some b5) 0), (6, .int .i64 (i : Int)), (7, .int .i64 s.2.2), (8, .int .i64 (s.1 : Int))])
   (fun s => (some b5, blk (i64s s.2.1) 156) :: (some b4, blk (i64s zL) 156) :: (some b3, blk (i64s y) 156) :: (some b2, blk (i64s x) 156) :: M) (fun s => 8 - s.1) (0, z, 0) ⟨by simp, hn, hz, by simp, by simp, by simp [vt_0, hv]⟩ ⟨rfl, rfl, rfl, rfl, rfl, rfl, rfl, trivial⟩ (fun _ m => m) ?_
  clear hn hz hv z
  rintro ⟨j, z, c⟩ ⟨hj, hn, hz, hc0, hc1, hv⟩
  dsimp only at hj hn hz hc0 hc1 hv ⊢
  have hzl : z.length = 16 := hn.1
  (refine Z4 ?_; refine Z4 ?_)
  refine Z2 (Z0 (Z3 rfl) rfl (Z0 (RV.lss rfl rfl) rfl (Z6 (Z1 ?_))))
  refine Z104 rfl (fun hjlt => ?_) (fun hjlt => ?_)
  ·have hj2 : j < 8 := by omega
   have et : 0 + ((i : Int) + (j : Int)).toNat = i + j := by omega
   have gz : (i64s z)[0 + ((i : Int) + (j : Int)).toNat]? = some (.int .i64 (z.getD (i + j) 0)) := by rw [et]; exact i64s_get (by omega)
   have gx : (i64s x)[0 + i]? = some (.int .i64 (x.getD i 0)) := by rw [Nat.zero_add]; exact i64s_get (by omega)
   have gy : (i64s y)[0 + j]? = some (.int .i64 (y.getD j 0)) := by rw [Nat.zero_add]; exact i64s_get (by omega)
   obtain ⟨z1, z2⟩ := hn.2 (i + j)
   obtain ⟨x1, x2⟩ := hx.2 i
   obtain ⟨y1, y2⟩ := hy.2 j
   have m1 : 0 ≤ x.getD i 0 * y.getD j 0 := Int.mul_nonneg x1 y1
   have m2 : x.getD i 0 * y.getD j 0 ≤ 65535 * 65535 := Int.mul_le_mul (by omega) (by omega) y1 (by decide)
   have hl2 : 0 + ((i : Int) + (j : Int)).toNat < (i64s z).length := by rw [et, Z101]; omega
   (refine CW.skip ?_; refine Z1 ?_; refine Z4 ?_; refine CW.block ?_; refine Z4 ?_)
   refine CW.draws mixed (by kernel_rfl) (DW.rv (Z3 rfl) rfl (DW.rv (Z3 rfl) rfl (DW.rv (RV.add rfl rfl (by omega)) rfl (DW.rv (Z103 _ rfl rfl rfl rfl rfl (by omega)) rfl ?_))))
   refine DW.rv (Z29 rfl (by exact List.Mem.head _; done) rfl rfl rfl (by assumption)) rfl ?_
   refine DW.rv (Z3 rfl) rfl (DW.rv (Z103 _ rfl rfl rfl rfl rfl (by omega)) rfl ?_)
   refine DW.rv (Z29 rfl (by (refine List.Mem.tail _ ?_; refine List.Mem.tail _ ?_; refine List.Mem.tail _ ?_; exact List.Mem.head _); done) rfl rfl rfl (by assumption)) rfl ?_
   refine DW.rv (Z3 rfl) rfl (DW.rv (Z103 _ rfl rfl rfl rfl rfl (by omega)) rfl ?_)
   refine DW.rv (Z29 rfl (by (refine List.Mem.tail _ ?_; refine List.Mem.tail _ ?_; exact List.Mem.head _); done) rfl rfl rfl (by assumption)) rfl ?_
   refine DW.rv (RV.mul rfl rfl (by omega)) rfl (DW.rv (RV.add rfl rfl (by omega)) rfl (DW.rv (Z3 rfl) rfl (DW.rv (RV.add rfl rfl (by omega)) rfl (DW.rv (Z5 rfl) rfl (DW.nil ?_)))))
   (refine Z1 ?_; refine Z4 ?_)
   refine Z2 (Z0 (Z3 rfl) rfl (Z0 (Z3 rfl) rfl (Z0 (RV.add rfl rfl (by omega)) rfl (Z0 (Z3 rfl) rfl (Z0 (RV.rem rfl rfl (by omega) (by omega)) rfl (Z0 (Z103 _ rfl rfl rfl rfl rfl (by omega)) rfl (Z28 (SV.store rfl rfl rfl rfl rfl (by assumption)) ?_)))))))
   refine Z6 (Z1 (Z2 (Z0 (Z3 rfl) rfl (Z0 (RV.quo rfl rfl (by omega) (by omega) (by omega)) rfl (Z0 (Z5 rfl) rfl (Z6 ?_))))))
   (refine Z27 ?_; refine Z1 ?_)
   refine Z2 (Z0 (Z3 rfl) rfl (Z0 (RV.add rfl rfl (by omega)) rfl (Z0 (Z5 rfl) rfl (Z6 ?_))))
   generalize hV : z.getD (i + j) 0 + x.getD i 0 * y.getD j 0 + c = V
   refine Z108 (j + 1, z.set (i + j) (V % 65536), V / 65536) ⟨by show j + 1 ≤ 8; omega, hn.set ⟨by omega, by omega⟩, fun k hk => ?_, by show 0 ≤ V / 65536; omega, by show V / 65536 < 65536; omega, ?_⟩ (by show 8 - (j + 1) < 8 - j; omega) ⟨rfl, rfl, rfl, rfl, rfl, rfl, rfl, trivial⟩ (fun _ m => ?_)
   ·show (z.set (i + j) (V % 65536)).getD k 0 = 0
    rw [getD_set_int _ _ _ _ (by omega), if_neg (by omega)]; exact hz k hk
   ·show vt (z.set (i + j) (V % 65536)) 16 + V / 65536 * 65536 ^ (i + (j + 1)) = vt x i * vt y 8 + x.getD i 0 * 65536 ^ i * vt y (j + 1)
    rw [vt_set (by omega), if_pos (by omega), vt_succ y j, show i + (j + 1) = (i + j) + 1 by omega, Int.pow_succ]
    have e : V = V / 65536 * 65536 + V % 65536 := by omega
    have e3 : (65536 : Int) ^ (i + j) = 65536 ^ i * 65536 ^ j := Int.pow_add ..
    rw [e3] at hv ⊢
    generalize (65536 : Int) ^ i = p at hv ⊢
    generalize (65536 : Int) ^ j = q at hv ⊢
    generalize V / 65536 = Q at e ⊢
    generalize V % 65536 = R at e ⊢
    generalize vt z 16 = Z at hv ⊢
    generalize vt x i * vt y 8 = T at hv ⊢
    generalize vt y j = Y at hv ⊢
    generalize z.getD (i + j) 0 = zz at hV ⊢
    generalize x.getD i 0 = xx at hV hv ⊢
    generalize y.getD j 0 = yy at hV ⊢
    have e4 : R = zz + xx * yy + c - Q * 65536 := by omega
    subst e4
    grind
   ·first | rw [et, i64s_set'] at m | rw [Nat.zero_add, i64s_set'] at m
    exact m
  ·have hj8 : j = 8 := by omega
   subst hj8
   have et : 0 + ((i : Int) + 8).toNat = i + 8 := by omega
   have gz : (i64s z)[0 + ((i : Int) + 8).toNat]? = some (.int .i64 0) := by rw [et, i64s_get (by omega), hz (i + 8) (Nat.le_refl _)]
   have hl2 : 0 + ((i : Int) + 8).toNat < (i64s z).length := by rw [et, Z101]; omega
   (refine CW.exit ?_; refine Z9 ?_; refine Z9 ?_; refine Z15 ?_; refine Z1 ?_)
   refine Z2 (Z0 (Z3 rfl) rfl (Z0 (RV.add rfl rfl (by omega)) rfl (Z0 (Z3 rfl) rfl (Z0 (RV.add rfl rfl (by omega)) rfl (Z0 (Z103 _ rfl rfl rfl rfl rfl (by omega)) rfl ?_)))))
   refine Z0 (Z29 rfl (by exact List.Mem.head _; done) rfl rfl rfl (by assumption)) rfl ?_
   refine Z0 (Z3 rfl) rfl (Z0 (RV.add rfl rfl (by omega)) rfl (Z0 (Z103 _ rfl rfl rfl rfl rfl (by omega)) rfl (Z28 (SV.store rfl rfl rfl rfl rfl (by assumption)) (Z6 ?_))))
   (refine Z27 ?_; refine Z1 ?_)
   refine Z2 (Z0 (Z3 rfl) rfl (Z0 (RV.add rfl rfl (by omega)) rfl (Z0 (Z5 rfl) rfl (Z6 ?_))))
   refine Z108 (i + 1, z.set (i + 8) c) ⟨by show i + 1 ≤ 8; omega, hn.set ⟨hc0, hc1⟩, fun k hk => ?_, ?_⟩ (by show 8 - (i + 1) < 8 - i; omega) ⟨rfl, rfl, rfl, rfl, rfl, trivial⟩ (fun _ m => ?_)
   ·have hk' : i + 1 + 8 ≤ k := hk
    show (z.set (i + 8) c).getD k 0 = 0
    rw [getD_set_int _ _ _ _ (by omega), if_neg (by omega)]; exact hz k (by omega)
   ·show vt (z.set (i + 8) c) 16 = vt x (i + 1) * vt y 8
    rw [vt_set (by omega), if_pos (by omega), hz (i + 8) (Nat.le_refl _), vt_succ x i, Int.sub_zero, Int.add_mul, hv]
   ·first | rw [et, i64s_set', Int.zero_add] at m | rw [Nat.zero_add, i64s_set', Int.zero_add] at m
    exact m
 ·have hi8 : i = 8 := by omega
  subst hi8
  have hzl : z.length = 16 := hn.1
  (refine CW.exit ?_; refine Z9 ?_; refine Z9 ?_; refine Z15 ?_; refine Z1 ?_; refine Z4 ?_)
  refine Z2 ?_
  refine Z0 (Z22 rfl (by exact List.Mem.head _; done) rfl rfl rfl rfl ((Z101 _).trans (by assumption))) rfl ?_
  refine OW.rot1 ?_; refine Z28 (Z105 rfl rfl rfl (i64s_one _) rfl (by assumption) ((Z101 _).trans (by assumption))) ?_
  refine Z6 ?_
  (refine Z1 ?_; refine CW.ret ?_)
  exact QW.retC1 rfl z ⟨hn, hv⟩ rfl Zh rfl rfl rfl rfl ((Z101 _).trans hzl) rfl (fun _ m => m.tail.tail.tail.tail)
theorem atMost_does (w0 : World) (M : List Ent) (x y : List Int) (hx : Norm x) (hy : Norm y) :
  Does Tryd.prog 123 [.agg (i64s x).toArray, .agg (i64s y).toArray] w0 M (τ := Unit) (fun _ => True) (fun _ => .bool (decide (vt x 16 ≤ vt y 16))) (fun _ => M) := by
 have hxl : x.length = 16 := hx.1
 have hyl : y.length = 16 := hy.1
 refine Does.enter Tryd.func123 rfl Tryd.ntmps123 rfl (Z4 (Z2 (OW.boxA rfl rfl (fun b2 => (OW.boxA rfl rfl (fun b3 => (Z0 (Z5 rfl) rfl (Z6 ?_))))))))
 (refine Z1 ?_; refine Z4 ?_; refine Z4 ?_)
 refine Z2 (Z0 (Z5 rfl) rfl (Z6 ?_))
 (refine Z1 ?_; refine CW.block ?_)
 refine CW.loop (σ := Nat) (fun n => n ≤ 16 ∧ ∀ k, n ≤ k → k < 16 → x.getD k 0 = y.getD k 0) (fun n => [(2, ptr (some b2) 0), (3, ptr (some b3) 0), (5, .int .i64 ((n : Int) - 1))])
  (fun n => (some b3, blk (i64s y) 156) :: (some b2, blk (i64s x) 156) :: M) (fun n => n) 16 ⟨by omega, fun k h1 h2 => by omega⟩ ⟨rfl, rfl, rfl, trivial⟩ (fun _ m => m) ?_
 rintro n ⟨hn, he⟩
 (refine Z4 ?_; refine Z4 ?_)
 refine Z2 (Z0 (Z3 rfl) rfl (Z0 (RV.geq rfl rfl) rfl (Z6 (Z1 ?_))))
 refine Z104 rfl (fun hlt => ?_) (fun hlt => ?_)
 ·have hn1 : 1 ≤ n := by omega
  have et : 0 + ((n : Int) - 1).toNat = n - 1 := by omega
  have gx : (i64s x)[0 + ((n : Int) - 1).toNat]? = some (.int .i64 (x.getD (n - 1) 0)) := by rw [et]; exact i64s_get (by omega)
  have gy : (i64s y)[0 + ((n : Int) - 1).toNat]? = some (.int .i64 (y.getD (n - 1) 0)) := by rw [et]; exact i64s_get (by omega)
  (refine CW.skip ?_; refine Z1 ?_; refine Z4 ?_; refine CW.block ?_; refine Z4 ?_)
  refine CW.draws mixed (by kernel_rfl) (DW.rv (Z3 rfl) rfl (DW.rv (RV.idx_az rfl rfl (by omega) rfl rfl (by omega)) rfl ?_))
  refine DW.rv (Z29 rfl (by (refine List.Mem.tail _ ?_; exact List.Mem.head _); done) rfl rfl rfl (by assumption)) rfl ?_
  refine DW.rv (Z3 rfl) rfl (DW.rv (RV.idx_az rfl rfl (by omega) rfl rfl (by omega)) rfl ?_)
  refine DW.rv (Z29 rfl (by exact List.Mem.head _; done) rfl rfl rfl (by assumption)) rfl ?_
  refine DW.rv (RV.neq rfl rfl) rfl (DW.nil (Z1 ?_))
  refine CW.cond_np rfl (fun hne => ?_) (fun hne => ?_)
  ·have hne' : x.getD (n - 1) 0 ≠ y.getD (n - 1) 0 := hne
   have hc := cmp_limbs hx hy (i := n - 1) (by omega) (fun k h1 h2 => he k (by omega) h2) hne'
   refine Z4 (CW.draws mixed (by kernel_rfl) (DW.rv (Z3 rfl) rfl (DW.rv (RV.idx_az rfl rfl (by omega) rfl rfl (by omega)) rfl ?_)))
   refine DW.rv (Z29 rfl (by (refine List.Mem.tail _ ?_; exact List.Mem.head _); done) rfl rfl rfl (by assumption)) rfl ?_
   refine DW.rv (Z3 rfl) rfl (DW.rv (RV.idx_az rfl rfl (by omega) rfl rfl (by omega)) rfl ?_)
   refine DW.rv (Z29 rfl (by exact List.Mem.head _; done) rfl rfl rfl (by assumption)) rfl ?_
   refine DW.rv (RV.lss rfl rfl) rfl (DW.rv (Z5 rfl) rfl (DW.nil ?_))
   (repeat (first | refine Z4 ?_ | refine Z1 ?_ | refine CW.block ?_ | refine CW.ret ?_ | refine CW.skip ?_ | refine CW.exit ?_ | refine Z9 ?_ | refine Z8 ?_ | refine Z27 ?_ | refine Z15 ?_ | refine QW.block_xn rfl ?_ | refine Z16 ?_))
   refine QW.ret1 rfl () trivial ?_ (fun _ m => m.tail.tail)
   have e : decide (vt x 16 ≤ vt y 16) = decide (x.getD (n - 1) 0 < y.getD (n - 1) 0) := decide_eq_decide.2 hc
   rw [e]; rfl
  ·(refine CW.skip ?_; refine Z27 ?_; refine Z1 ?_)
   refine Z2 (Z0 (Z3 rfl) rfl (Z0 (RV.sub rfl rfl (by omega)) rfl (Z0 (Z5 rfl) rfl (Z6 ?_))))
   refine Z108 (n - 1) ⟨by omega, fun k h1 h2 => ?_⟩ (by omega) ⟨rfl, rfl, ?_, trivial⟩ (fun _ m => m)
   ·by_cases hk : n ≤ k
    ·exact he k hk h2
    ·have : k = n - 1 := by omega
     subst this
     exact hne
   ·exact congrArg (fun i => some (Value.int .i64 i)) (by omega)
 ·have hn0 : n = 0 := by omega
  subst hn0
  (refine CW.exit ?_; refine Z9 ?_; refine Z9 ?_; refine Z15 ?_; refine Z1 ?_; refine Z4 ?_)
  refine Z2 (Z0 (Z5 rfl) rfl (Z6 ?_))
  (refine Z1 ?_; refine CW.ret ?_)
  refine QW.ret1 rfl () trivial ?_ (fun _ m => m.tail.tail)
  have h := vt_congr (x := x) (y := y) (i := 0) (n := 16) (by decide) (fun k _ h2 => he k (Nat.zero_le _) h2)
  have e : decide (vt x 16 ≤ vt y 16) = true := decide_eq_true (by rw [vt_0, vt_0] at h; omega)
  rw [e]; rfl
end Go.Fw.Tryd
namespace Go.Fw.Tryd
open Go Go.Proofs
attribute [local irreducible] vt
theorem prime_does (w0 : World) (M : List Ent) (n : Nat) (h2 : 2 ≤ n) (h4 : n ≤ 400) :
  Does Tryd.prog 102 [.int .i64 (n : Int)] w0 M (τ := Unit) (fun _ => True) (fun _ => .bool (primeB n)) (fun _ => M) := by
 refine Does.enter Tryd.func102 rfl Tryd.ntmps102 rfl (Z4 (Z2 (Z0 (Z5 rfl) rfl (Z6 ?_))))
 (refine Z1 ?_; refine Z4 ?_; refine Z4 ?_)
 refine Z2 (Z0 (Z5 rfl) rfl (Z6 ?_))
 (refine Z1 ?_; refine CW.block ?_)
 refine CW.loop (σ := Nat) (fun d => 2 ≤ d ∧ d ≤ n + 1 ∧ ∀ e, 2 ≤ e → e < d → n % e ≠ 0) (fun d => [(0, .int .i64 (n : Int)), (3, .int .i64 (d : Int))]) (fun _ => M) (fun d => n + 2 - d) 2 ⟨by omega, by omega, fun e h1 h2 => by omega⟩ ⟨rfl, rfl, trivial⟩ (fun _ m => m) ?_
 rintro d ⟨hd, hdn, hno⟩
 have hdd : (d : Int) * (d : Int) ≤ 401 * 401 := Int.mul_le_mul (by omega) (by omega) (by omega) (by decide)
 have hdd0 : 0 ≤ (d : Int) * (d : Int) := Int.mul_nonneg (by omega) (by omega)
 have hcast : (d : Int) * (d : Int) = ((d * d : Nat) : Int) := (Int.natCast_mul d d).symm
 (refine Z4 ?_; refine Z4 ?_)
 refine Z2 (Z0 (Z3 rfl) rfl (Z0 (Z3 rfl) rfl (Z0 (RV.mul rfl rfl (by omega)) rfl (Z0 (Z3 rfl) rfl (Z0 (RV.leq rfl rfl) rfl (Z6 (Z1 ?_)))))))
 refine Z104 rfl (fun hle => ?_) (fun hle => ?_)
 ·have hle' : d * d ≤ n := by rw [hcast] at hle; omega
  have hdn2 : d * 2 ≤ d * d := Nat.mul_le_mul_left d hd
  have hmod : (n : Int) % (d : Int) = ((n % d : Nat) : Int) := (Int.natCast_emod n d).symm
  (refine CW.skip ?_; refine Z1 ?_; refine Z4 ?_; refine CW.block ?_; refine Z4 ?_)
  refine Z2 (Z0 (Z3 rfl) rfl (Z0 (Z3 rfl) rfl (Z0 (RV.rem rfl rfl (by omega) (by omega)) rfl (Z0 (RV.eql rfl rfl) rfl (Z6 (Z1 ?_))))))
  refine Z104 rfl (fun hz => ?_) (fun hz => ?_)
  ·refine Z4 (Z2 (Z0 (Z5 rfl) rfl (Z6 ?_)))
   (repeat (first | refine Z4 ?_ | refine Z1 ?_ | refine CW.block ?_ | refine CW.ret ?_ | refine CW.skip ?_ | refine CW.exit ?_ | refine Z9 ?_ | refine Z8 ?_ | refine Z27 ?_ | refine Z15 ?_ | refine QW.block_xn rfl ?_ | refine Z16 ?_))
   refine QW.ret1 rfl () trivial ?_ (fun _ m => m)
   have e := primeB_no hd hle' (by rw [hmod] at hz; omega)
   rw [e]; rfl
  ·(refine CW.skip ?_; refine Z27 ?_; refine Z1 ?_)
   refine Z2 (Z0 (Z3 rfl) rfl (Z0 (RV.add rfl rfl (by omega)) rfl (Z0 (Z5 rfl) rfl (Z6 ?_))))
   refine Z108 (d + 1) ⟨by omega, by omega, fun e h1 h3 => ?_⟩ (by omega) ⟨rfl, rfl, trivial⟩ (fun _ m => m)
   by_cases he : e = d
   ·subst he; rw [hmod] at hz; omega
   ·exact hno e h1 (by omega)
 ·have hle' : n < d * d := by rw [hcast] at hle; omega
  (refine CW.exit ?_; refine Z9 ?_; refine Z9 ?_; refine Z15 ?_; refine Z1 ?_; refine Z4 ?_)
  refine Z2 (Z0 (Z5 rfl) rfl (Z6 ?_))
  (refine Z1 ?_; refine CW.ret ?_)
  refine QW.ret1 rfl () trivial ?_ (fun _ m => m)
  rw [primeB_yes hle' hno]; rfl
theorem bits2_does (w0 : World) (M : List Ent) (n : Nat) (hn : n < 65536) :
  Does Tryd.prog 103 [.int .i64 (n : Int), .int .i64 2] w0 M (τ := Int) (fun r => 0 ≤ r ∧ r ^ 2 ≤ (n : Int) * 65536 ^ (2 * 2) ∧ (n : Int) * 65536 ^ (2 * 2) < (r + 1) ^ 2) (fun r => U32 (BitVec.ofInt 32 (r % 4294967296))) (fun _ => M) := by
 have hll : zL.length = 16 := List.length_replicate ..
 have hw : Norm (zL.set (2 * 2) n) := zL_norm.set ⟨by omega, by omega⟩
 have hwv : vt (zL.set (2 * 2) n) 16 = (n : Int) * 65536 ^ (2 * 2) := by
  rw [vt_set (by rw [hll]; decide), if_pos (by decide), zL_vt, zL_getD]; omega
 have hwl : (zL.set (2 * 2) (n : Int)).length = 16 := hw.1
 refine Does.enter Tryd.func103 rfl Tryd.ntmps103 rfl (Z4 (Z2 (Z0 (Z5 rfl) rfl (Z6 ?_))))
 (refine Z1 ?_; refine Z4 ?_)
 refine Z2 (OW.alloc (l := i64s (List.replicate 16 0)) rfl (by rw [← i64s_rep]; rfl) rfl (fun b5 => (Z6 ?_)))
 (refine Z1 ?_; refine Z4 ?_)
 have hl2 : 0 + 2 * 2 < (i64s zL).length := by rw [Z101, hll]; decide
 refine Z2 (Z0 (Z3 rfl) rfl (Z0 (RV.mul rfl rfl (by omega)) rfl (Z0 (Z3 rfl) rfl (Z0 (Z103 _ rfl rfl rfl rfl rfl (by omega)) rfl (Z28 (SV.store rfl rfl rfl rfl rfl (by assumption)) (Z6 ?_))))))
 (refine Z1 ?_; refine Z4 ?_)
 refine CW.mem (M' := (some b5, blk (i64s (zL.set (2 * 2) n)) 156) :: M) (fun _ m => by rw [← i64s_set']; exact m) ?_
 generalize zL.set (2 * 2) (n : Int) = wl at hw hwv hwl ⊢
 have hN : (n : Int) * 65536 ^ (2 * 2) < (281474976710656 : Int) ^ 2 := by
  have e1 : (65536 : Int) * 65536 ^ (2 * 2) ≤ (281474976710656 : Int) ^ 2 := by decide
  exact Int.lt_of_lt_of_le (Int.mul_lt_mul_of_pos_right (by omega) (by decide)) e1
 generalize (n : Int) * 65536 ^ (2 * 2) = N at hwv hN ⊢
 refine Z2 (Z0 (Z5 rfl) rfl (Z6 ?_))
 (refine Z1 ?_; refine Z4 ?_)
 refine Z2 (Z0 (Z5 rfl) rfl (Z6 ?_))
 (refine Z1 ?_; refine Z4 ?_; refine CW.block ?_)
 refine CW.loop (σ := Int × Int) (fun s => 0 ≤ s.1 ∧ s.1 < s.2 ∧ s.2 ≤ 281474976710656 ∧ s.1 ^ 2 ≤ N ∧ N < s.2 ^ 2) (fun s => [(1, .int .i64 2), (5, ptr (some b5) 0), (6, .int .i64 s.1), (7, .int .i64 s.2)])
  (fun s => (some b5, blk (i64s wl) 156) :: M) (fun s => (s.2 - s.1).toNat) (0, 281474976710656) ⟨by simp, by simp, by simp, ?_, ?_⟩ ⟨rfl, rfl, rfl, rfl, trivial⟩ (fun _ m => m) ?_
 ·have := (vt_bound hw.2 16).1
  show (0 : Int) ^ 2 ≤ N
  rw [← hwv]; simpa using this
 ·exact hN
 rintro ⟨lo, hi⟩ ⟨h0, h1, h2, h3, h4⟩
 dsimp only at h0 h1 h2 h3 h4 ⊢
 (refine Z4 ?_; refine Z4 ?_)
 refine Z2 (Z0 (Z3 rfl) rfl (Z0 (Z3 rfl) rfl (Z0 (RV.sub rfl rfl (by omega)) rfl (Z0 (RV.gtr rfl rfl) rfl (Z6 (Z1 ?_))))))
 refine Z104 rfl (fun hgt => ?_) (fun hgt => ?_)
 ·(refine CW.skip ?_; refine Z1 ?_; refine CW.block ?_; refine Z4 ?_)
  refine Z2 (Z0 (Z3 rfl) rfl (Z0 (Z3 rfl) rfl (Z0 (RV.add rfl rfl (by omega)) rfl (Z0 (RV.quo rfl rfl (by omega) (by omega) (by omega)) rfl (Z0 (Z5 rfl) rfl (Z6 ?_))))))
  (refine Z1 ?_; refine Z4 ?_)
  have hm0 : 0 ≤ (lo + hi) / 2 := by omega
  have hm1 : lo < (lo + hi) / 2 := by omega
  have hm2 : (lo + hi) / 2 < hi := by omega
  generalize (lo + hi) / 2 = mid at hm0 hm1 hm2 ⊢
  refine Z2 (Z0 (Z3 rfl) rfl ?_)
  (refine OW.call Tryd.call121 rfl (limbs_does w0 _ mid hm0 (by omega) (by omega)) rfl (fun ml hml => ?_); have hmll : ml.length = 16 := hml.1.1)
  refine OW.alloc (l := i64s (List.replicate 16 0)) rfl (by rw [← i64s_rep]; rfl) rfl (fun b9 => (Z28 (Z105 rfl rfl rfl (i64s_one _) rfl (by assumption) ((Z101 _).trans (by assumption))) (Z6 ?_)))
  (refine Z1 ?_; refine Z4 ?_)
  obtain ⟨hmn, hmv⟩ := hml
  have hm8 : ∀ k, 8 ≤ k → ml.getD k 0 = 0 := small_limbs (i := 8) hmn (by decide) (by rw [hmv]; omega)
  refine Z2 ?_
  refine Z0 (Z22 rfl (by exact List.Mem.head _; done) rfl rfl rfl rfl ((Z101 _).trans (by assumption))) rfl ?_
  refine Z0 (Z22 rfl (by exact List.Mem.head _; done) rfl rfl rfl rfl ((Z101 _).trans (by assumption))) rfl ?_
  (refine OW.call Tryd.call122 rfl (product_does w0 _ ml ml hmn hmn hm8 hm8) rfl (fun pl hpl => ?_); have hpll : pl.length = 16 := hpl.1.1)
  refine OW.alloc (l := i64s (List.replicate 16 0)) rfl (by rw [← i64s_rep]; rfl) rfl (fun b10 => (Z28 (Z105 rfl rfl rfl (i64s_one _) rfl (by assumption) ((Z101 _).trans (by assumption))) (Z6 ?_)))
  (refine Z1 ?_; refine Z4 ?_; refine Z4 ?_)
  obtain ⟨hpn, hpv⟩ := hpl
  refine Z2 (Z0 (Z3 rfl) rfl (Z0 (RV.eql rfl rfl) rfl (Z6 (Z1 (Z118 rfl ?_)))))
  (refine CW.skip ?_; refine Z1 ?_; refine Z4 ?_)
  refine Z2 ?_
  refine Z0 (Z22 rfl (by exact List.Mem.head _; done) rfl rfl rfl rfl ((Z101 _).trans (by assumption))) rfl ?_
  refine Z0 (Z22 rfl (by (refine List.Mem.tail _ ?_; refine List.Mem.tail _ ?_; exact List.Mem.head _); done) rfl rfl rfl rfl ((Z101 _).trans (by assumption))) rfl ?_
  refine OW.call Tryd.call123 rfl (atMost_does w0 _ _ _ hpn hw) rfl (fun u hu => (Z6 (Z1 ?_)))
  have hpw : mid ^ 2 = mid * mid := by simp [Int.pow_succ]
  rw [hwv, hpv, hmv, ← hpw]
  refine Z104 rfl (fun hc => ?_) (fun hc => ?_)
  ·skip
   refine Z2 (Z0 (Z3 rfl) rfl (Z0 (Z5 rfl) rfl (Z6 (Z27 ?_))))
   exact Z108 (mid, hi) ⟨hm0, hm2, h2, hc, h4⟩ (by show (hi - mid).toNat < (hi - lo).toNat; omega) ⟨rfl, rfl, rfl, rfl, trivial⟩ (fun _ m => m.tail.tail)
  ·skip
   refine Z2 (Z0 (Z3 rfl) rfl (Z0 (Z5 rfl) rfl (Z6 (Z27 ?_))))
   exact Z108 (lo, mid) ⟨h0, hm1, by show mid ≤ 281474976710656; omega, h3, by show N < mid ^ 2; omega⟩ (by show (mid - lo).toNat < (hi - lo).toNat; omega) ⟨rfl, rfl, rfl, rfl, trivial⟩ (fun _ m => m.tail.tail)
 ·have hh : hi = lo + 1 := by omega
  subst hh
  (refine CW.exit ?_; refine Z9 ?_; refine Z9 ?_; refine Z15 ?_; refine Z1 ?_; refine Z4 ?_)
  refine Z2 (Z0 (Z3 rfl) rfl (Z0 (RV.rem rfl rfl (by omega) (by omega)) rfl (Z0 (RV.conv_i32 rfl rfl rfl) rfl (Z0 (Z5 rfl) rfl (Z6 ?_)))))
  (refine Z1 ?_; refine CW.ret ?_)
  exact QW.ret1 rfl lo ⟨h0, h3, h4⟩ rfl (fun _ m => m.tail)
theorem bits3_does (w0 : World) (M : List Ent) (n : Nat) (hn : n < 65536) :
  Does Tryd.prog 103 [.int .i64 (n : Int), .int .i64 3] w0 M (τ := Int) (fun r => 0 ≤ r ∧ r ^ 3 ≤ (n : Int) * 65536 ^ (2 * 3) ∧ (n : Int) * 65536 ^ (2 * 3) < (r + 1) ^ 3) (fun r => U32 (BitVec.ofInt 32 (r % 4294967296))) (fun _ => M) := by
 have hll : zL.length = 16 := List.length_replicate ..
 have hw : Norm (zL.set (2 * 3) n) := zL_norm.set ⟨by omega, by omega⟩
 have hwv : vt (zL.set (2 * 3) n) 16 = (n : Int) * 65536 ^ (2 * 3) := by
  rw [vt_set (by rw [hll]; decide), if_pos (by decide), zL_vt, zL_getD]; omega
 have hwl : (zL.set (2 * 3) (n : Int)).length = 16 := hw.1
 refine Does.enter Tryd.func103 rfl Tryd.ntmps103 rfl (Z4 (Z2 (Z0 (Z5 rfl) rfl (Z6 ?_))))
 (refine Z1 ?_; refine Z4 ?_)
 refine Z2 (OW.alloc (l := i64s (List.replicate 16 0)) rfl (by rw [← i64s_rep]; rfl) rfl (fun b5 => (Z6 ?_)))
 (refine Z1 ?_; refine Z4 ?_)
 have hl2 : 0 + 2 * 3 < (i64s zL).length := by rw [Z101, hll]; decide
 refine Z2 (Z0 (Z3 rfl) rfl (Z0 (RV.mul rfl rfl (by omega)) rfl (Z0 (Z3 rfl) rfl (Z0 (Z103 _ rfl rfl rfl rfl rfl (by omega)) rfl (Z28 (SV.store rfl rfl rfl rfl rfl (by assumption)) (Z6 ?_))))))
 (refine Z1 ?_; refine Z4 ?_)
 refine CW.mem (M' := (some b5, blk (i64s (zL.set (2 * 3) n)) 156) :: M) (fun _ m => by rw [← i64s_set']; exact m) ?_
 generalize zL.set (2 * 3) (n : Int) = wl at hw hwv hwl ⊢
 have hN : (n : Int) * 65536 ^ (2 * 3) < (281474976710656 : Int) ^ 3 := by
  have e1 : (65536 : Int) * 65536 ^ (2 * 3) ≤ (281474976710656 : Int) ^ 3 := by decide
  exact Int.lt_of_lt_of_le (Int.mul_lt_mul_of_pos_right (by omega) (by decide)) e1
 generalize (n : Int) * 65536 ^ (2 * 3) = N at hwv hN ⊢
 refine Z2 (Z0 (Z5 rfl) rfl (Z6 ?_))
 (refine Z1 ?_; refine Z4 ?_)
 refine Z2 (Z0 (Z5 rfl) rfl (Z6 ?_))
 (refine Z1 ?_; refine Z4 ?_; refine CW.block ?_)
 refine CW.loop (σ := Int × Int) (fun s => 0 ≤ s.1 ∧ s.1 < s.2 ∧ s.2 ≤ 281474976710656 ∧ s.1 ^ 3 ≤ N ∧ N < s.2 ^ 3) (fun s => [(1, .int .i64 3), (5, ptr (some b5) 0), (6, .int .i64 s.1), (7, .int .i64 s.2)])
  (fun s => (some b5, blk (i64s wl) 156) :: M) (fun s => (s.2 - s.1).toNat) (0, 281474976710656) ⟨by simp, by simp, by simp, ?_, ?_⟩ ⟨rfl, rfl, rfl, rfl, trivial⟩ (fun _ m => m) ?_
 ·have := (vt_bound hw.2 16).1
  show (0 : Int) ^ 3 ≤ N
  rw [← hwv]; simpa using this
 ·exact hN
 rintro ⟨lo, hi⟩ ⟨h0, h1, h2, h3, h4⟩
 dsimp only at h0 h1 h2 h3 h4 ⊢
 (refine Z4 ?_; refine Z4 ?_)
 refine Z2 (Z0 (Z3 rfl) rfl (Z0 (Z3 rfl) rfl (Z0 (RV.sub rfl rfl (by omega)) rfl (Z0 (RV.gtr rfl rfl) rfl (Z6 (Z1 ?_))))))
 refine Z104 rfl (fun hgt => ?_) (fun hgt => ?_)
 ·(refine CW.skip ?_; refine Z1 ?_; refine CW.block ?_; refine Z4 ?_)
  refine Z2 (Z0 (Z3 rfl) rfl (Z0 (Z3 rfl) rfl (Z0 (RV.add rfl rfl (by omega)) rfl (Z0 (RV.quo rfl rfl (by omega) (by omega) (by omega)) rfl (Z0 (Z5 rfl) rfl (Z6 ?_))))))
  (refine Z1 ?_; refine Z4 ?_)
  have hm0 : 0 ≤ (lo + hi) / 2 := by omega
  have hm1 : lo < (lo + hi) / 2 := by omega
  have hm2 : (lo + hi) / 2 < hi := by omega
  generalize (lo + hi) / 2 = mid at hm0 hm1 hm2 ⊢
  refine Z2 (Z0 (Z3 rfl) rfl ?_)
  (refine OW.call Tryd.call121 rfl (limbs_does w0 _ mid hm0 (by omega) (by omega)) rfl (fun ml hml => ?_); have hmll : ml.length = 16 := hml.1.1)
  refine OW.alloc (l := i64s (List.replicate 16 0)) rfl (by rw [← i64s_rep]; rfl) rfl (fun b9 => (Z28 (Z105 rfl rfl rfl (i64s_one _) rfl (by assumption) ((Z101 _).trans (by assumption))) (Z6 ?_)))
  (refine Z1 ?_; refine Z4 ?_)
  obtain ⟨hmn, hmv⟩ := hml
  have hm8 : ∀ k, 8 ≤ k → ml.getD k 0 = 0 := small_limbs (i := 8) hmn (by decide) (by rw [hmv]; omega)
  refine Z2 ?_
  refine Z0 (Z22 rfl (by exact List.Mem.head _; done) rfl rfl rfl rfl ((Z101 _).trans (by assumption))) rfl ?_
  refine Z0 (Z22 rfl (by exact List.Mem.head _; done) rfl rfl rfl rfl ((Z101 _).trans (by assumption))) rfl ?_
  (refine OW.call Tryd.call122 rfl (product_does w0 _ ml ml hmn hmn hm8 hm8) rfl (fun pl hpl => ?_); have hpll : pl.length = 16 := hpl.1.1)
  refine OW.alloc (l := i64s (List.replicate 16 0)) rfl (by rw [← i64s_rep]; rfl) rfl (fun b10 => (Z28 (Z105 rfl rfl rfl (i64s_one _) rfl (by assumption) ((Z101 _).trans (by assumption))) (Z6 ?_)))
  (refine Z1 ?_; refine Z4 ?_; refine Z4 ?_)
  obtain ⟨hpn, hpv⟩ := hpl
  refine Z2 (Z0 (Z3 rfl) rfl (Z0 (RV.eql rfl rfl) rfl (Z6 (Z1 (CW.cond_t rfl ?_)))))
  have hp8 : ∀ k, 8 ≤ k → pl.getD k 0 = 0 := small_limbs (i := 8) hpn (by decide) (by
   rw [hpv, hmv]
   have := Int.mul_le_mul (show mid ≤ 281474976710656 by omega) (show mid ≤ 281474976710656 by omega) hm0 (by decide)
   omega)
  refine Z2 ?_
  refine Z0 (Z22 rfl (by exact List.Mem.head _; done) rfl rfl rfl rfl ((Z101 _).trans (by assumption))) rfl ?_
  refine Z0 (Z22 rfl (by (refine List.Mem.tail _ ?_; exact List.Mem.head _); done) rfl rfl rfl rfl ((Z101 _).trans (by assumption))) rfl ?_
  (refine OW.call Tryd.call122 rfl (product_does w0 _ pl ml hpn hmn hp8 hm8) rfl (fun ql hql => ?_); have hqll : ql.length = 16 := hql.1.1)
  refine Z28 (Z105 rfl rfl rfl (i64s_one _) rfl ((Z101 _).trans (by assumption)) ((Z101 _).trans (by assumption))) (Z6 ?_)
  (refine Z1 ?_; refine Z4 ?_)
  obtain ⟨hqn, hqv⟩ := hql
  refine Z2 ?_
  refine Z0 (Z22 rfl (by exact List.Mem.head _; done) rfl rfl rfl rfl ((Z101 _).trans (by assumption))) rfl ?_
  refine Z0 (Z22 rfl (by (refine List.Mem.tail _ ?_; refine List.Mem.tail _ ?_; exact List.Mem.head _); done) rfl rfl rfl rfl ((Z101 _).trans (by assumption))) rfl ?_
  refine OW.call Tryd.call123 rfl (atMost_does w0 _ _ _ hqn hw) rfl (fun u hu => (Z6 (Z1 ?_)))
  have hpw : mid ^ 3 = mid * mid * mid := by simp [Int.pow_succ]
  rw [hwv, hqv, hpv, hmv, ← hpw]
  refine Z104 rfl (fun hc => ?_) (fun hc => ?_)
  ·skip
   refine Z2 (Z0 (Z3 rfl) rfl (Z0 (Z5 rfl) rfl (Z6 (Z27 ?_))))
   exact Z108 (mid, hi) ⟨hm0, hm2, h2, hc, h4⟩ (by show (hi - mid).toNat < (hi - lo).toNat; omega) ⟨rfl, rfl, rfl, rfl, trivial⟩ (fun _ m => m.tail.tail)
  ·skip
   refine Z2 (Z0 (Z3 rfl) rfl (Z0 (Z5 rfl) rfl (Z6 (Z27 ?_))))
   exact Z108 (lo, mid) ⟨h0, hm1, by show mid ≤ 281474976710656; omega, h3, by show N < mid ^ 3; omega⟩ (by show (mid - lo).toNat < (hi - lo).toNat; omega) ⟨rfl, rfl, rfl, rfl, trivial⟩ (fun _ m => m.tail.tail)
 ·have hh : hi = lo + 1 := by omega
  subst hh
  (refine CW.exit ?_; refine Z9 ?_; refine Z9 ?_; refine Z15 ?_; refine Z1 ?_; refine Z4 ?_)
  refine Z2 (Z0 (Z3 rfl) rfl (Z0 (RV.rem rfl rfl (by omega) (by omega)) rfl (Z0 (RV.conv_i32 rfl rfl rfl) rfl (Z0 (Z5 rfl) rfl (Z6 ?_)))))
  (refine Z1 ?_; refine CW.ret ?_)
  exact QW.ret1 rfl lo ⟨h0, h3, h4⟩ rfl (fun _ m => m.tail)
theorem root_val2 {n : Nat} {r : Int} (hr : 0 ≤ r ∧ r ^ 2 ≤ (n : Int) * 65536 ^ (2 * 2) ∧ (n : Int) * 65536 ^ (2 * 2) < (r + 1) ^ 2) (h1 : rt 2 n ^ 2 ≤ n * 2 ^ (32 * 2)) (h2 : n * 2 ^ (32 * 2) < (rt 2 n + 1) ^ 2) : BitVec.ofInt 32 (r % 4294967296) = rootW 2 n := by
 obtain ⟨a, b, c⟩ := hr
 obtain ⟨m, rfl⟩ : ∃ m : Nat, r = m := ⟨r.toNat, by omega⟩
 have e : (n : Int) * 65536 ^ (2 * 2) = ((n * 2 ^ (32 * 2) : Nat) : Int) := by
  rw [Int.natCast_mul]; congr 1
 rw [e] at b c
 have b' : m ^ 2 ≤ n * 2 ^ (32 * 2) := by rw [← Int.natCast_pow] at b; exact Int.ofNat_le.1 b
 have c' : n * 2 ^ (32 * 2) < (m + 1) ^ 2 := by
  have e2 : ((m : Int) + 1) = ((m + 1 : Nat) : Int) := by omega
  rw [e2, ← Int.natCast_pow] at c; exact Int.ofNat_lt.1 c
 have hm : m = rt 2 n := Nat.le_antisymm (root_unique b' h2) (root_unique h1 c')
 subst hm
 unfold rootW
 apply BitVec.eq_of_toNat_eq
 rw [BitVec.toNat_ofInt, BitVec.toNat_ofNat]
 omega
theorem roots2_does (w0 : World) (M : List Ent) (top : Nat) (count : Nat) (h2 : 2 ≤ top) (h4 : top ≤ 399) (hlen : (primesTo top).length = count) (hcert : certB 2 top = true) :
  Does Tryd.prog 76 [.int .i64 (count : Int), .int .i64 2] w0 M (τ := Option Nat × List Value × Nat) (fun q => (u32s ((primesTo top).map (rootW 2)) ++ q.2.1).length = q.2.2 ∧ (q.1 = none → q.2.2 = 0)) (fun q => sl q.1 0 count q.2.2) (fun q => (q.1, blk (u32s ((primesTo top).map (rootW 2)) ++ q.2.1) 25) :: M) := by
 have hmono : ∀ n, n ≤ top → (primesTo n).length ≤ count ∧ ((primesTo n).length = count → primesTo n = primesTo top) := fun n hn => by
  obtain ⟨ext, he⟩ := primesTo_prefix hn
  rw [← hlen, he]
  refine ⟨by simp, fun h => ?_⟩
  rw [List.length_append] at h
  have : ext = [] := List.length_eq_zero_iff.1 (by omega)
  rw [this, List.append_nil]
 have hcount : count ≤ 399 := by
  have := List.length_filter_le (fun p => decide (2 ≤ p) && primeB p) (List.range top)
  rw [List.length_range] at this
  rw [← hlen]; exact Nat.le_trans this h4
 refine Does.enter Tryd.func76 rfl Tryd.ntmps76 rfl (Z4 (Z2 (Z0 (Z5 rfl) rfl (Z6 ?_))))
 (refine Z1 ?_; refine Z4 ?_)
 refine Z2 (Z0 (Z5 rfl) rfl (Z6 ?_))
 (refine Z1 ?_; refine Z4 ?_; refine Z4 ?_)
 refine Z2 (Z0 (Z5 rfl) rfl (Z6 ?_))
 (refine Z1 ?_; refine CW.block ?_)
 refine CW.loop (σ := Nat × Option Nat × List Value × Nat) (fun s => 2 ≤ s.1 ∧ s.1 ≤ top ∧ (u32s ((primesTo s.1).map (rootW 2)) ++ s.2.2.1).length = s.2.2.2 ∧ (s.2.1 = none → s.2.2.2 = 0)) (fun s => [(0, .int .i64 (count : Int)), (1, .int .i64 2), (5, sl s.2.1 0 (primesTo s.1).length s.2.2.2), (6, .int .i64 (s.1 : Int))])
  (fun s => (s.2.1, blk (u32s ((primesTo s.1).map (rootW 2)) ++ s.2.2.1) 25) :: M) (fun s => top - s.1) (2, none, [], 0) ⟨by simp, h2, rfl, fun _ => rfl⟩ ⟨rfl, rfl, rfl, rfl, trivial⟩ (fun _ m => m.nil_ent _) ?_
 rintro ⟨n, ob, r, cap⟩ ⟨hn2, hnt, h3, h5⟩
 dsimp only at hn2 hnt h3 h5 ⊢
 obtain ⟨hc1, hc2⟩ := hmono n hnt
 have hul : (u32s ((primesTo n).map (rootW 2))).length = (primesTo n).length := by rw [Z100, List.length_map]
 (refine Z4 ?_; refine Z4 ?_)
 refine Z2 (Z0 (Z3 rfl) rfl (Z0 (RV.len rfl rfl) rfl (Z0 (Z3 rfl) rfl (Z0 (RV.lss rfl rfl) rfl (Z6 (Z1 ?_))))))
 refine Z104 rfl (fun hlt => ?_) (fun hlt => ?_)
 ·have hnt2 : n < top := by
   rcases Nat.lt_or_ge n top with h | h
   ·exact h
   ·have : n = top := by omega
    subst this; omega
  cases hp : primeB n
  ·(refine CW.skip ?_; refine Z1 ?_; refine Z4 ?_; refine CW.block ?_; refine Z4 ?_)
   refine Z2 (Z0 (Z3 rfl) rfl (OW.call Tryd.call102 rfl (hp ▸ prime_does w0 _ n hn2 (by omega)) rfl (fun u hu => (Z6 (Z1 (Z118 rfl ?_))))))
   (refine CW.skip ?_; refine Z27 ?_; refine Z1 ?_)
   refine Z2 (Z0 (Z3 rfl) rfl (Z0 (RV.add rfl rfl (by omega)) rfl (Z0 (Z5 rfl) rfl (Z6 ?_))))
   have e : primesTo (n + 1) = primesTo n := by rw [primesTo_succ, hp]; simp
   exact Z108 (n + 1, ob, r, cap) ⟨by show 2 ≤ n + 1; omega, by show n + 1 ≤ top; omega, by rw [e]; exact h3, h5⟩ (by show top - (n + 1) < top - n; omega) ⟨rfl, rfl, by rw [e]; rfl, rfl, trivial⟩ (fun _ m => by rw [e]; exact m)
  ·have e : primesTo (n + 1) = primesTo n ++ [n] := by rw [primesTo_succ, hp]; simp [hn2]
   have hcn : rt 2 n ^ 2 ≤ n * 2 ^ (32 * 2) ∧ n * 2 ^ (32 * 2) < (rt 2 n + 1) ^ 2 := by
    have := List.all_eq_true.1 hcert n (List.mem_filter.2 ⟨List.mem_range.2 hnt2, by simp [hp, hn2]⟩)
    simpa only [Bool.and_eq_true, decide_eq_true_eq] using this
   (refine CW.skip ?_; refine Z1 ?_; refine Z4 ?_; refine CW.block ?_; refine Z4 ?_)
   refine Z2 (Z0 (Z3 rfl) rfl (OW.call Tryd.call102 rfl (hp ▸ prime_does w0 _ n hn2 (by omega)) rfl (fun u hu => (Z6 (Z1 (CW.cond_t rfl (Z2 (Z0 (Z3 rfl) rfl (Z0 (Z3 rfl) rfl ?_)))))))))
   refine Z0 (Z3 rfl) rfl (OW.call Tryd.call103 rfl (bits2_does w0 _ n (by omega)) rfl (fun rr hrr => (OW.push rfl rfl rfl rfl rfl rfl rfl rfl (by assumption) (by assumption) (by assumption) (by omega) (by simp only [i25]; omega) rfl rfl (fun b20 ob20 r20 cap20 hr20 hn20 => (Z0 (Z5 rfl) rfl (Z6 ?_))))))
   (refine Z27 ?_; refine Z1 ?_)
   rw [root_val2 hrr hcn.1 hcn.2] at hr20
   rw [root_val2 hrr hcn.1 hcn.2]
   refine Z2 (Z0 (Z3 rfl) rfl (Z0 (RV.add rfl rfl (by omega)) rfl (Z0 (Z5 rfl) rfl (Z6 ?_))))
   have e2 : u32s ((primesTo (n + 1)).map (rootW 2)) = u32s ((primesTo n).map (rootW 2)) ++ [U32 (rootW 2 n)] := by rw [e]; simp [u32s]
   exact Z108 (n + 1, ob20, r20, cap20) ⟨by show 2 ≤ n + 1; omega, by show n + 1 ≤ top; omega, by rw [e2]; exact hr20, hn20⟩ (by show top - (n + 1) < top - n; omega) ⟨rfl, rfl, by rw [e, List.length_append]; rfl, rfl, trivial⟩ (fun _ m => by rw [e2]; exact m)
 ·have hl : (primesTo n).length = count := by omega
  have he := hc2 hl
  rw [he] at h3 ⊢
  (refine CW.exit ?_; refine Z9 ?_; refine Z9 ?_; refine Z15 ?_; refine Z1 ?_; refine Z4 ?_)
  refine Z2 (Z0 (Z3 rfl) rfl (Z0 (Z5 rfl) rfl (Z6 ?_)))
  (refine Z1 ?_; refine CW.ret ?_)
  rw [hlen]
  exact QW.ret1 rfl (ob, r, cap) ⟨h3, h5⟩ rfl (fun _ m => m)
theorem root_val3 {n : Nat} {r : Int} (hr : 0 ≤ r ∧ r ^ 3 ≤ (n : Int) * 65536 ^ (2 * 3) ∧ (n : Int) * 65536 ^ (2 * 3) < (r + 1) ^ 3) (h1 : rt 3 n ^ 3 ≤ n * 2 ^ (32 * 3)) (h2 : n * 2 ^ (32 * 3) < (rt 3 n + 1) ^ 3) : BitVec.ofInt 32 (r % 4294967296) = rootW 3 n := by
 obtain ⟨a, b, c⟩ := hr
 obtain ⟨m, rfl⟩ : ∃ m : Nat, r = m := ⟨r.toNat, by omega⟩
 have e : (n : Int) * 65536 ^ (2 * 3) = ((n * 2 ^ (32 * 3) : Nat) : Int) := by
  rw [Int.natCast_mul]; congr 1
 rw [e] at b c
 have b' : m ^ 3 ≤ n * 2 ^ (32 * 3) := by rw [← Int.natCast_pow] at b; exact Int.ofNat_le.1 b
 have c' : n * 2 ^ (32 * 3) < (m + 1) ^ 3 := by
  have e2 : ((m : Int) + 1) = ((m + 1 : Nat) : Int) := by omega
  rw [e2, ← Int.natCast_pow] at c; exact Int.ofNat_lt.1 c
 have hm : m = rt 3 n := Nat.le_antisymm (root_unique b' h2) (root_unique h1 c')
 subst hm
 unfold rootW
 apply BitVec.eq_of_toNat_eq
 rw [BitVec.toNat_ofInt, BitVec.toNat_ofNat]
 omega
theorem roots3_does (w0 : World) (M : List Ent) (top : Nat) (count : Nat) (h2 : 2 ≤ top) (h4 : top ≤ 399) (hlen : (primesTo top).length = count) (hcert : certB 3 top = true) :
  Does Tryd.prog 76 [.int .i64 (count : Int), .int .i64 3] w0 M (τ := Option Nat × List Value × Nat) (fun q => (u32s ((primesTo top).map (rootW 3)) ++ q.2.1).length = q.2.2 ∧ (q.1 = none → q.2.2 = 0)) (fun q => sl q.1 0 count q.2.2) (fun q => (q.1, blk (u32s ((primesTo top).map (rootW 3)) ++ q.2.1) 25) :: M) := by
 have hmono : ∀ n, n ≤ top → (primesTo n).length ≤ count ∧ ((primesTo n).length = count → primesTo n = primesTo top) := fun n hn => by
  obtain ⟨ext, he⟩ := primesTo_prefix hn
  rw [← hlen, he]
  refine ⟨by simp, fun h => ?_⟩
  rw [List.length_append] at h
  have : ext = [] := List.length_eq_zero_iff.1 (by omega)
  rw [this, List.append_nil]
 have hcount : count ≤ 399 := by
  have := List.length_filter_le (fun p => decide (2 ≤ p) && primeB p) (List.range top)
  rw [List.length_range] at this
  rw [← hlen]; exact Nat.le_trans this h4
 refine Does.enter Tryd.func76 rfl Tryd.ntmps76 rfl (Z4 (Z2 (Z0 (Z5 rfl) rfl (Z6 ?_))))
 (refine Z1 ?_; refine Z4 ?_)
 refine Z2 (Z0 (Z5 rfl) rfl (Z6 ?_))
 (refine Z1 ?_; refine Z4 ?_; refine Z4 ?_)
 refine Z2 (Z0 (Z5 rfl) rfl (Z6 ?_))
 (refine Z1 ?_; refine CW.block ?_)
 refine CW.loop (σ := Nat × Option Nat × List Value × Nat) (fun s => 2 ≤ s.1 ∧ s.1 ≤ top ∧ (u32s ((primesTo s.1).map (rootW 3)) ++ s.2.2.1).length = s.2.2.2 ∧ (s.2.1 = none → s.2.2.2 = 0)) (fun s => [(0, .int .i64 (count : Int)), (1, .int .i64 3), (5, sl s.2.1 0 (primesTo s.1).length s.2.2.2), (6, .int .i64 (s.1 : Int))])
  (fun s => (s.2.1, blk (u32s ((primesTo s.1).map (rootW 3)) ++ s.2.2.1) 25) :: M) (fun s => top - s.1) (2, none, [], 0) ⟨by simp, h2, rfl, fun _ => rfl⟩ ⟨rfl, rfl, rfl, rfl, trivial⟩ (fun _ m => m.nil_ent _) ?_
 rintro ⟨n, ob, r, cap⟩ ⟨hn2, hnt, h3, h5⟩
 dsimp only at hn2 hnt h3 h5 ⊢
 obtain ⟨hc1, hc2⟩ := hmono n hnt
 have hul : (u32s ((primesTo n).map (rootW 3))).length = (primesTo n).length := by rw [Z100, List.length_map]
 (refine Z4 ?_; refine Z4 ?_)
 refine Z2 (Z0 (Z3 rfl) rfl (Z0 (RV.len rfl rfl) rfl (Z0 (Z3 rfl) rfl (Z0 (RV.lss rfl rfl) rfl (Z6 (Z1 ?_))))))
 refine Z104 rfl (fun hlt => ?_) (fun hlt => ?_)
 ·have hnt2 : n < top := by
   rcases Nat.lt_or_ge n top with h | h
   ·exact h
   ·have : n = top := by omega
    subst this; omega
  cases hp : primeB n
  ·(refine CW.skip ?_; refine Z1 ?_; refine Z4 ?_; refine CW.block ?_; refine Z4 ?_)
   refine Z2 (Z0 (Z3 rfl) rfl (OW.call Tryd.call102 rfl (hp ▸ prime_does w0 _ n hn2 (by omega)) rfl (fun u hu => (Z6 (Z1 (Z118 rfl ?_))))))
   (refine CW.skip ?_; refine Z27 ?_; refine Z1 ?_)
   refine Z2 (Z0 (Z3 rfl) rfl (Z0 (RV.add rfl rfl (by omega)) rfl (Z0 (Z5 rfl) rfl (Z6 ?_))))
   have e : primesTo (n + 1) = primesTo n := by rw [primesTo_succ, hp]; simp
   exact Z108 (n + 1, ob, r, cap) ⟨by show 2 ≤ n + 1; omega, by show n + 1 ≤ top; omega, by rw [e]; exact h3, h5⟩ (by show top - (n + 1) < top - n; omega) ⟨rfl, rfl, by rw [e]; rfl, rfl, trivial⟩ (fun _ m => by rw [e]; exact m)
  ·have e : primesTo (n + 1) = primesTo n ++ [n] := by rw [primesTo_succ, hp]; simp [hn2]
   have hcn : rt 3 n ^ 3 ≤ n * 2 ^ (32 * 3) ∧ n * 2 ^ (32 * 3) < (rt 3 n + 1) ^ 3 := by
    have := List.all_eq_true.1 hcert n (List.mem_filter.2 ⟨List.mem_range.2 hnt2, by simp [hp, hn2]⟩)
    simpa only [Bool.and_eq_true, decide_eq_true_eq] using this
   (refine CW.skip ?_; refine Z1 ?_; refine Z4 ?_; refine CW.block ?_; refine Z4 ?_)
   refine Z2 (Z0 (Z3 rfl) rfl (OW.call Tryd.call102 rfl (hp ▸ prime_does w0 _ n hn2 (by omega)) rfl (fun u hu => (Z6 (Z1 (CW.cond_t rfl (Z2 (Z0 (Z3 rfl) rfl (Z0 (Z3 rfl) rfl ?_)))))))))
   refine Z0 (Z3 rfl) rfl (OW.call Tryd.call103 rfl (bits3_does w0 _ n (by omega)) rfl (fun rr hrr => (OW.push rfl rfl rfl rfl rfl rfl rfl rfl (by assumption) (by assumption) (by assumption) (by omega) (by simp only [i25]; omega) rfl rfl (fun b20 ob20 r20 cap20 hr20 hn20 => (Z0 (Z5 rfl) rfl (Z6 ?_))))))
   (refine Z27 ?_; refine Z1 ?_)
   rw [root_val3 hrr hcn.1 hcn.2] at hr20
   rw [root_val3 hrr hcn.1 hcn.2]
   refine Z2 (Z0 (Z3 rfl) rfl (Z0 (RV.add rfl rfl (by omega)) rfl (Z0 (Z5 rfl) rfl (Z6 ?_))))
   have e2 : u32s ((primesTo (n + 1)).map (rootW 3)) = u32s ((primesTo n).map (rootW 3)) ++ [U32 (rootW 3 n)] := by rw [e]; simp [u32s]
   exact Z108 (n + 1, ob20, r20, cap20) ⟨by show 2 ≤ n + 1; omega, by show n + 1 ≤ top; omega, by rw [e2]; exact hr20, hn20⟩ (by show top - (n + 1) < top - n; omega) ⟨rfl, rfl, by rw [e, List.length_append]; rfl, rfl, trivial⟩ (fun _ m => by rw [e2]; exact m)
 ·have hl : (primesTo n).length = count := by omega
  have he := hc2 hl
  rw [he] at h3 ⊢
  (refine CW.exit ?_; refine Z9 ?_; refine Z9 ?_; refine Z15 ?_; refine Z1 ?_; refine Z4 ?_)
  refine Z2 (Z0 (Z3 rfl) rfl (Z0 (Z5 rfl) rfl (Z6 ?_)))
  (refine Z1 ?_; refine CW.ret ?_)
  rw [hlen]
  exact QW.ret1 rfl (ob, r, cap) ⟨h3, h5⟩ rfl (fun _ m => m)
end Go.Fw.Tryd
namespace Go.Fw.Tryd
open Go Go.Proofs
attribute [local irreducible] wTo
def marks (n : Nat) : List (BitVec 8) := List.replicate n 165#8
@[simp] theorem marks_length (n : Nat) : (marks n).length = n := List.length_replicate ..
end Go.Fw.Tryd
namespace Go.Fw
open Go Go.RowKit
theorem Z126 {L : Z109} {d k : Nat} {u : Value} (h : d ≠ k) : lk ((d, u) :: L) k = lk L k := by
 simp only [lk]
 split
 ·rename_i e; exact absurd (by simpa using e) h
 ·rfl
theorem nbeq {a b : Nat} (h : Nat.beq a b = false) : a ≠ b := fun e => by subst e; simp at h
theorem lk_swap {L : Z109} {d e q : Nat} {u v w : Value} (h : d ≠ e) (hq : lk ((e, u) :: (d, v) :: L) q = some w) : lk ((d, v) :: (e, u) :: L) q = some w := by
 by_cases h1 : e = q
 ·subst h1
  rw [Z126 h]
  simpa [lk] using hq
 ·rw [Z126 h1] at hq
  by_cases h2 : d = q
  ·subst h2; simpa [lk] using hq
  ·rw [Z126 h2] at hq ⊢
   rw [Z126 h1]; exact hq
theorem lk_mono {L : Z109} {d : Nat} {u : Value} (h : lk L d = none) : ∀ k v, lk L k = some v → lk ((d, u) :: L) k = some v := fun k v hk => by
 rw [Z126 (fun e => by subst e; rw [h] at hk; cases hk)]; exact hk
theorem ev_mono {L L' : Z109} (h : ∀ k v, lk L k = some v → lk L' k = some v) {x : Operand} {v : Value} (hx : ev L x = some v) : ev L' x = some v := by
 cases x with
 | tmp t => exact h t v hx
 | const c => exact hx
 | global g => exact hx
 | func f => exact hx
theorem evs_mono {L L' : Z109} (h : ∀ k v, lk L k = some v → lk L' k = some v) : ∀ (l : List Operand) (vs : List Value), evs L l = some vs → evs L' l = some vs
 | [], vs, e => e
 | x :: r, vs, e => by
  simp only [evs] at e ⊢
  split at e
  ·rename_i u hu
   rw [ev_mono h hu]
   split at e
   ·rename_i us hus
    rw [evs_mono h r us hus]
    exact e
   ·cases e
  ·cases e
theorem Mem.under {w0 : World} {M M' : List Ent} (hs : ∀ w, Mem w0 w M → Mem w0 w M') {b : Nat} {l : List Value} {t : TypeId} {w : World} (m : Mem w0 w ((some b, blk l t) :: M)) : Mem w0 w ((some b, blk l t) :: M') := by
 have m1 := hs w m.tail
 obtain ⟨hb, hw⟩ := m.ents _ (List.mem_cons_self ..) b rfl
 have hlt : b < w.heap.size := (Array.getElem?_eq_some_iff.1 hw).1
 refine ⟨m.os, m.tape, m.output, m.size, m.old, fun e he b' hb' => ?_, List.pairwise_cons.2 ⟨fun e he b' h1 h2 => ?_, m1.apart⟩⟩
 ·rcases List.mem_cons.1 he with rfl | he
  ·exact m.ents _ (List.mem_cons_self ..) b' hb'
  ·exact m1.ents e he b' hb'
 ·obtain rfl : b = b' := by simpa using h1
  have hne : ∀ x ∈ M, ∀ b', x.1 = some b' → b' ≠ b := fun x hx b' h3 e => (List.pairwise_cons.1 m.apart).1 x hx b rfl (by rw [h3, e])
  have m2 : Mem w0 { w with heap := w.heap.set b (blk (undef :: l) t) hlt } M := by
   refine ⟨m.os, m.tape, m.output, by simpa using m.size, fun b' h => ?_, fun x hx b' h3 => ?_, m.tail.apart⟩
   ·show (w.heap.set b _ hlt)[b']? = _
    rw [Array.getElem?_set_ne hlt (by omega)]
    exact m.old b' h
   ·obtain ⟨h4, h5⟩ := m.tail.ents x hx b' h3
    refine ⟨h4, ?_⟩
    show (w.heap.set b _ hlt)[b']? = _
    rw [Array.getElem?_set_ne hlt (fun e => hne x hx b' h3 e.symm)]
    exact h5
  have q1 := (m1.ents e he b h2).2
  have q2 := ((hs _ m2).ents e he b h2).2
  have q3 : (w.heap.set b (blk (undef :: l) t) hlt)[b]? = some (blk (undef :: l) t) := Array.getElem?_set_self hlt
  have q4 : some (blk (undef :: l) t) = some (blk l t) := (q3.symm.trans q2).trans (q1.symm.trans hw)
  simp [blk] at q4
section
variable {P : Program} {n : Nat} {Q : Exit → Act → World → Prop} {w0 : World} {L : Z109} {M R : List Ent}
variable {ops : Array Oper} {hard : List Nat} {f : Nat} {done : Array Bool} {op opp : Op} {ty typ : TypeId} {pos posp : String} {aft aftp : Array Edge} {g : Option (Nat × Bool)} {d dp p : Nat} {v : Value} {fv : Nat → Value} {l : List Value} {te : TypeId}
theorem XW.sub {L' : Z109} (hs : ∀ k v, lk L' k = some v → lk L k = some v) (k : XW P n ops Q w0 R hard f done L' M) : XW P n ops Q w0 R hard f done L M := by
 unfold XW at *
 exact fun hR hB inv a w fr mm => k hR hB inv a w (fr.sub hs) mm
def XWp (P : Program) (n : Nat) (ops : Array Oper) (Q : Exit → Act → World → Prop) (w0 : World) (R : List Ent) (hard : List Nat) (p dp : Nat) (fv : Nat → Value) (l : List Value) (te : TypeId) (f : Nat) (done : Array Bool) (L : Z109) (M : List Ent) : Prop :=
 (∃ op ty pos aft, ops[p]? = some ⟨some dp, op, ty, pos, aft, none⟩ ∧ NV P w0 [] [] op fv l te ∧ Nat.blt dp n = true) → lk L dp = none →
  XW P n ops Q w0 R hard (f + 1) done L M ∧ ∀ b, XW P n ops Q w0 R hard f (done.setIfInBounds p true) ((dp, fv b) :: L) ((some b, blk l te) :: M)
theorem XWp.start (p : Nat) (ho : ops[p]? = some ⟨some dp, op, ty, pos, aft, none⟩) (hop : NV P w0 [] [] op fv l te) (hd : Nat.blt dp n = true) (hl : lk L dp = none) (k : XWp P n ops Q w0 R hard p dp fv l te f done L M) : XW P n ops Q w0 R hard (f + 1) done L M := (k ⟨_, _, _, _, ho, hop, hd⟩ hl).1
theorem NV.any (h : NV P w0 [] [] op fv l te) : NV P w0 L M op fv l te := fun ρ w hρ m o ho => h ρ w (fun x u hx => hρ x u (ev_mono (fun k v hk => by simp [lk] at hk) hx)) (m.sublist (List.nil_sublist _)) o ho
theorem XWp.slot (v' : Value) (hv : v = v') (k : XWp P n ops Q w0 R hard p dp fv l te f done ((d, v') :: L) M) : XWp P n ops Q w0 R hard p dp fv l te f done ((d, v) :: L) M := by subst hv; exact k
theorem XWp.mem {M' : List Ent} (hs : ∀ w, Mem w0 w M → Mem w0 w M') (hMR : ∀ w, Mem w0 w M' → Mem w0 w R) (k : XWp P n ops Q w0 R hard p dp fv l te f done L M') : XWp P n ops Q w0 R hard p dp fv l te f done L M := fun hp hl =>
 ⟨Z19 hs hMR (k hp hl).1, fun b => Z19 (fun w m => m.under hs) (fun w m => hMR w m.tail) ((k hp hl).2 b)⟩
theorem RV.more {L' : Z109} {M' : List Ent} (hL : ∀ k v, lk L k = some v → lk L' k = some v) (hM : ∀ w, Mem w0 w M' → Mem w0 w M) (h : RV P w0 L M op v) : RV P w0 L' M' op v := fun ρ w hρ m o ho => h ρ w (fun x u hx => hρ x u (ev_mono hL hx)) (hM w m) o ho
theorem XWp.rs (i : Nat) (ho : ops[i]? = some ⟨some d, op, ty, pos, aft, none⟩) (hr : (XR ops done i && XR ops (done.setIfInBounds p true) i && !Nat.beq d dp && !Nat.beq i p) = true) (hw : Wt ops L none = true) (hop : RV P w0 L R op v) (hd : Nat.blt d n = true) (k : XWp P n ops Q w0 R hard p dp fv l te f (done.setIfInBounds i true) ((d, v) :: L) M) : XWp P n ops Q w0 R hard p dp fv l te (f + 1) done L M := fun hp hl => by
 simp only [Bool.and_eq_true, Bool.not_eq_true'] at hr
 obtain ⟨⟨⟨h1, h2⟩, h3⟩, h4⟩ := hr
 have hl' : lk ((d, v) :: L) dp = none := by rw [Z126 (nbeq h3)]; exact hl
 obtain ⟨k1, k2⟩ := k hp hl'
 refine ⟨Z10 i ho h1 rfl hop hd k1, fun b => Z10 i ho h2 rfl (hop.more (lk_mono hl) fun _ m => m) hd ?_⟩
 rw [Array.setIfInBounds_comm _ _ (Ne.symm (nbeq h4))]
 refine XW.sub (fun q u hq => ?_) (k2 b)
 exact lk_swap (nbeq h3) hq
theorem XWp.rv (i : Nat) (ho : ops[i]? = some ⟨some d, op, ty, pos, aft, none⟩) (hr : (XR ops done i && XR ops (done.setIfInBounds p true) i && !Nat.beq d dp && !Nat.beq i p) = true) (hw : Wt ops L none = true) (hS : XS ops hard i = true) (hop : RV P w0 L M op v) (hd : Nat.blt d n = true) (k : XWp P n ops Q w0 R hard p dp fv l te f (done.setIfInBounds i true) ((d, v) :: L) M) : XWp P n ops Q w0 R hard p dp fv l te (f + 1) done L M := fun hp hl => by
 simp only [Bool.and_eq_true, Bool.not_eq_true'] at hr
 obtain ⟨⟨⟨h1, h2⟩, h3⟩, h4⟩ := hr
 have hl' : lk ((d, v) :: L) dp = none := by rw [Z126 (nbeq h3)]; exact hl
 obtain ⟨k1, k2⟩ := k hp hl'
 refine ⟨XW.rv i ho h1 rfl hS hop hd k1, fun b => XW.rv i ho h2 rfl hS (hop.more (lk_mono hl) fun _ m => m.tail) hd ?_⟩
 rw [Array.setIfInBounds_comm _ _ (Ne.symm (nbeq h4))]
 refine XW.sub (fun q u hq => ?_) (k2 b)
 exact lk_swap (nbeq h3) hq
theorem XWp.callG (i : Nat) {fn : FuncId} {xs : List Operand} {ats : Array TypeId} {args : List Value} {Rr : Value → List Ent → Prop} (ho : ops[i]? = some ⟨some d, .call ⟨.value (.func fn), xs.toArray, ats⟩, ty, pos, aft, none⟩) (hr : ((Region.ready .any ops done == [i, p] || Region.ready .any ops done == [p, i]) && Region.ready .any ops (done.setIfInBounds p true) == [i] && !Nat.beq d dp && !Nat.beq i p) = true) (hw : Wt ops L none = true)
    (hc : ∀ (args : Array Value) (w : World), (callFunc fn args).run P w = .ok (.enter fn args) w) (hxs : evs L xs = some args) (hdo : ∀ N, (∀ w, Mem w0 w N → Mem w0 w M) → DoesG P fn args w0 [] N Rr)
    (hd : Nat.blt d n = true) (k : ∀ v G, Rr v G → XWp P n ops Q w0 R hard p dp fv l te f (done.setIfInBounds i true) ((d, v) :: L) (G ++ M)) : XWp P n ops Q w0 R hard p dp fv l te (f + 1) done L M := fun hp hl => by
 simp only [Bool.and_eq_true, Bool.not_eq_true', Bool.or_eq_true, beq_iff_eq] at hr
 obtain ⟨⟨⟨h1, h2⟩, h3⟩, h4⟩ := hr
 have hl' : ∀ v, lk ((d, v) :: L) dp = none := fun v => by rw [Z126 (nbeq h3)]; exact hl
 have k2 : ∀ b, XW P n ops Q w0 R hard (f + 1) (done.setIfInBounds p true) ((dp, fv b) :: L) ((some b, blk l te) :: M) := fun b => by
  refine Z11 i ho (by simpa using h2) rfl hc (evs_mono (lk_mono hl) _ _ hxs) (fun N hN => hdo N fun w m => (hN w m).tail) hd (fun v G hv => ?_)
  rw [Array.setIfInBounds_comm _ _ (Ne.symm (nbeq h4))]
  have q := (k v G hv hp (hl' v)).2 b
  unfold XW at q ⊢
  intro hR hB inv a w fr mm
  have mp : ∀ w, Mem w0 w ((some b, blk l te) :: (G ++ M)) → Mem w0 w (G ++ (some b, blk l te) :: M) := fun w m => m.perm List.perm_middle.symm
  refine q (fun w m => hR w (mp w m)) hB inv a w (fr.sub fun q u hq => ?_) (mm.perm List.perm_middle)
  exact lk_swap (nbeq h3) hq
 refine ⟨?_, k2⟩
 have k1 := fun v G hv => (k v G hv hp (hl' v)).1
 obtain ⟨op, tyq, posq, aftq, hop, hnv, hdp⟩ := hp
 unfold XW at k1 k2 ⊢
 intro hR hB inv a w fr mm
 have hmem : ∀ j, j ∈ Region.ready .any ops done ↔ j = i ∨ j = p := fun j => by rcases h1 with h | h <;> simp [h, or_comm]
 have him : i < ops.size := (Array.getElem?_eq_some_iff.1 ho).1
 have hpm : p < ops.size := (Array.getElem?_eq_some_iff.1 hop).1
 refine ⟨by rcases h1 with h | h <;> simp [h], fun j hj => ?_⟩
 rcases (hmem j).1 hj with rfl | rfl
 ·refine ⟨him, _, ho, .inl ⟨wt_spec fr rfl, ?_⟩⟩
  have hev := evs_map (fun x u hx => fr.eval hx) xs args hxs
  have hrun : (execOp a.eval ⟨some d, .call ⟨.value (.func fn), xs.toArray, ats⟩, ty, pos, aft, none⟩).run P w = .ok (.enter fn args.toArray) w := by
   simp [execOp, resolve, Deferred.ofValue, Act.eval, invoke, hev, hc]
  rw [hrun]
  refine (hdo (allEnts w0 w) (fun w2 m2 => Upw.of_all m2 _ mm) w mm.all).mono ?_
  rintro e w2 ⟨q, ⟨G, h1, h2⟩, rfl, m'⟩
  have m' : Mem w0 w2 (G ++ allEnts w0 w) := by have m2 := m'; rwa [show (fun q : Value × List Ent => q.2) q = G ++ allEnts w0 w from h2] at m2
  refine ⟨_, rfl, ?_, (k1 q.1 G h1) (fun w m => hR w m.appR) hB (inv.set hj him) _ _ (fr.put hd _) (m'.graft mm)⟩
  have hu := Upw.of_all m'.appR
  unfold Rl
  split
  ·exact hu R
  ·exact hu
 ·refine ⟨hpm, _, hop, .inl ⟨wt_spec fr rfl, ?_⟩⟩
  rw [hnv.any (L := L) (M := M) a.eval w (fun x u hx => fr.eval hx) mm _ rfl]
  refine ⟨?_, k2 _ (fun w m => hR w m.tail) hB (inv.set hj hpm) _ _ (fr.put hdp _) (mm.alloc _)⟩
  unfold Rl
  split
  ·exact Upw.alloc _ _ _ R
  ·exact Upw.alloc _ _ _
theorem XWp.new (i : Nat) {l' : List Value} {te' : TypeId} {fv' : Nat → Value} (ho : ops[i]? = some ⟨some d, op, ty, pos, aft, none⟩) (hr : ((Region.ready .any ops done == [i, p] || Region.ready .any ops done == [p, i]) && Region.ready .any ops (done.setIfInBounds p true) == [i] && !Nat.beq d dp && !Nat.beq i p) = true) (hw : Wt ops L none = true)
    (hop : NV P w0 L M op fv' l' te') (hd : Nat.blt d n = true) (k : ∀ b, XWp P n ops Q w0 R hard p dp fv l te f (done.setIfInBounds i true) ((d, fv' b) :: L) ((some b, blk l' te') :: M)) : XWp P n ops Q w0 R hard p dp fv l te (f + 1) done L M := fun hp hl => by
 simp only [Bool.and_eq_true, Bool.not_eq_true', Bool.or_eq_true, beq_iff_eq] at hr
 obtain ⟨⟨⟨h1, h2⟩, h3⟩, h4⟩ := hr
 have hl' : ∀ v, lk ((d, v) :: L) dp = none := fun v => by rw [Z126 (nbeq h3)]; exact hl
 have k2 : ∀ b, XW P n ops Q w0 R hard (f + 1) (done.setIfInBounds p true) ((dp, fv b) :: L) ((some b, blk l te) :: M) := fun b => by
  refine XW.new i ho (by simpa using h2) rfl (fun ρ w hρ m o ho => hop ρ w (fun x u hx => hρ x u (ev_mono (lk_mono hl) hx)) m.tail o ho) hd (fun b' => ?_)
  rw [Array.setIfInBounds_comm _ _ (Ne.symm (nbeq h4))]
  have q := (k b' hp (hl' _)).2 b
  unfold XW at q ⊢
  intro hR hB inv a w fr mm
  have mp : ∀ w, Mem w0 w ((some b, blk l te) :: (some b', blk l' te') :: M) → Mem w0 w ((some b', blk l' te') :: (some b, blk l te) :: M) := fun w m => m.rot1
  refine q (fun w m => hR w (mp w m)) hB inv a w (fr.sub fun q u hq => ?_) (mm.rot1)
  exact lk_swap (nbeq h3) hq
 refine ⟨?_, k2⟩
 have k1 := fun b => (k b hp (hl' (fv' b))).1
 obtain ⟨op, tyq, posq, aftq, hop2, hnv, hdp⟩ := hp
 unfold XW at k1 k2 ⊢
 intro hR hB inv a w fr mm
 have hmem : ∀ j, j ∈ Region.ready .any ops done ↔ j = i ∨ j = p := fun j => by rcases h1 with h | h <;> simp [h, or_comm]
 have him : i < ops.size := (Array.getElem?_eq_some_iff.1 ho).1
 have hpm : p < ops.size := (Array.getElem?_eq_some_iff.1 hop2).1
 refine ⟨by rcases h1 with h | h <;> simp [h], fun j hj => ?_⟩
 rcases (hmem j).1 hj with rfl | rfl
 ·refine ⟨him, _, ho, .inl ⟨wt_spec fr rfl, ?_⟩⟩
  rw [hop a.eval w (fun x u hx => fr.eval hx) mm _ rfl]
  refine ⟨?_, k1 _ (fun w m => hR w m.tail) hB (inv.set hj him) _ _ (fr.put hd _) (mm.alloc _)⟩
  unfold Rl
  split
  ·exact Upw.alloc _ _ _ R
  ·exact Upw.alloc _ _ _
 ·refine ⟨hpm, _, hop2, .inl ⟨wt_spec fr rfl, ?_⟩⟩
  rw [hnv.any (L := L) (M := M) a.eval w (fun x u hx => fr.eval hx) mm _ rfl]
  refine ⟨?_, k2 _ (fun w m => hR w m.tail) hB (inv.set hj hpm) _ _ (fr.put hdp _) (mm.alloc _)⟩
  unfold Rl
  split
  ·exact Upw.alloc _ _ _ R
  ·exact Upw.alloc _ _ _
attribute [irreducible] XWp
theorem NV.alloc [Types P] {e : TypeId} {ti : TI} {l : List Value} (hi : Fw.ty P e = some ti) (hl : ti.z.cells = l.toArray) : NV P w0 L M (.alloc e) (fun b => ptr (some b) 0) l e := fun ρ w hρ m o ho => by
 obtain ⟨_, ti, h1, h2, h3, h4⟩ := ty_ok hi
 simp [execOp, ho, Instr.alloc, zeroValue, typeInfo, h1, h4, newVar, newRow, ptr, blk, hl]
end
end Go.Fw
namespace Go.Fw
def waybilllaw03_copied.l1 (a0 : List (BitVec 8)) : Nat → (List (BitVec 8)) → (Nat) → Option ((List (BitVec 8)))
 | 0, _, _ => none
 | k22 + 1, l15, n20 => (if n20 < a0.length then (a0[n20]?).bind fun x31 => (if l15.length + ([x31] : List (BitVec 8)).length ≤ 140737488355328 then (waybilllaw03_copied.l1 a0 k22 (l15 ++ ([x31] : List (BitVec 8))) (n20 + 1)) else none) else (some (l15)))
def waybilllaw03_copied (a0 : List (BitVec 8)) : Option ((List (BitVec 8))) := (((waybilllaw03_copied.l1 a0 (a0.length - 0 + 2) ([] : List (BitVec 8)) 0) : Option ((List (BitVec 8)))).bind fun l4 => (some l4))
def waybilllaw03_which (a0 : Int) (a1 : Int) : Option ((Int)) := (if 0 < a1 then (((if ((a0).tmod a1) < (0 : Int) then (if -9223372036854775808 ≤ (((a0).tmod a1) + a1) ∧ (((a0).tmod a1) + a1) ≤ 9223372036854775807 then (some ((((a0).tmod a1) + a1))) else none) else (some (((a0).tmod a1)))) : Option ((Int))).bind fun z5 => (some z5)) else none)
end Go.Fw
namespace Go.Fw
open Go
theorem scopied_loop (a : List (BitVec 8)) : ∀ (d i k : Nat) (l : List (BitVec 8)), i + d = a.length → d < k → l.length + d ≤ 140737488355328 → waybilllaw03_copied.l1 a k l i = some (l ++ a.drop i)
 | 0, i, k, l, h, hk, hb => by
  obtain ⟨k, rfl⟩ : ∃ m, k = m + 1 := ⟨k - 1, by omega⟩
  rw [waybilllaw03_copied.l1, if_neg (by omega), List.drop_eq_nil_of_le (by omega), List.append_nil]
 | d + 1, i, k, l, h, hk, hb => by
  obtain ⟨k, rfl⟩ : ∃ m, k = m + 1 := ⟨k - 1, by omega⟩
  have h1 : i < a.length := by omega
  rw [waybilllaw03_copied.l1, if_pos h1, List.getElem?_eq_getElem h1, Zb, if_pos (by simp; omega), scopied_loop a d (i + 1) k _ (by omega) (by omega) (by simp; omega), List.append_assoc, List.singleton_append, ← List.drop_eq_getElem_cons h1]
theorem scopied_eq (a : List (BitVec 8)) (hb : a.length ≤ 140737488355328) : waybilllaw03_copied a = some a := by
 unfold waybilllaw03_copied
 rw [scopied_loop a a.length 0 (a.length - 0 + 2) [] (by omega) (by omega) (by simpa using hb), Zb, List.drop_zero, List.nil_append]
theorem flat_len {a : List (List (BitVec 8))} {n : Nat} {x : List (BitVec 8)} (hx : a[n]? = some x) : x.length ≤ a.flatten.length := by
 obtain ⟨s, t, e⟩ := List.append_of_mem (List.mem_of_getElem? hx)
 rw [e, List.flatten_append, List.flatten_cons, List.length_append, List.length_append]; omega
theorem toV8_get {s : List (BitVec 32)} (h : s.length = 8) {i : Nat} (hi : i < 8) : (toV8 s)[i]? = some (s.getD i 0#32) := by
 unfold toV8
 rw [dif_pos h]
 simp [h, hi, List.getD]
def sqV (s : List (BitVec 32)) (k : Nat) : Vector (BitVec 8) 32 := if h : k ≤ 32 then ⟨(sqTo s k).toArray, by simp [sqTo_length s h]⟩ else Vector.replicate 32 0#8
theorem sqV_list (s : List (BitVec 32)) {k : Nat} (h : k ≤ 32) : (sqV s k).toList = sqTo s k := by unfold sqV; rw [dif_pos h]; rfl
theorem sqV_set (s : List (BitVec 32)) {k : Nat} (h : k < 32) (v : BitVec 8) (hv : v = ((s.getD (k / 4) 0#32) >>> (24 - 8 * (k % 4))).setWidth 8) : (sqV s k).setIfInBounds k v = sqV s (k + 1) := by
 apply Vector.toList_inj.1
 rw [Vector.toList_setIfInBounds, sqV_list s (by omega), sqV_list s (by omega), sqTo_set s h v hv]
theorem padLen_ge (n : Nat) : 9 ≤ padLen (n : Int) ∧ padLen (n : Int) ≤ 72 ∧ (n + padLen (n : Int)) % 64 = 0 := by
 unfold padLen
 omega
theorem which_eq (a n : Int) (hn : 0 < n) (hn2 : n ≤ 9223372036854775807) (ha : -9223372036854775808 ≤ a ∧ a ≤ 9223372036854775807) : ∃ r, waybilllaw03_which a n = some r ∧ 0 ≤ r ∧ r < n := by
 have h1 := Int.lt_tmod_of_pos a hn
 have h2 := Int.tmod_lt_of_pos a hn
 unfold waybilllaw03_which
 rw [if_pos hn]
 by_cases h : (a).tmod n < (0 : Int)
 ·rw [if_pos h, if_pos (by omega), Zb]
  exact ⟨_, rfl, by omega, by omega⟩
 ·rw [if_neg h, Zb]
  exact ⟨_, rfl, by omega, by omega⟩
end Go.Fw
namespace Go.Fw
open Go
def Rooms (Φ : Ctx) (A : Option Addr) (c : Nat) (x : List (List (BitVec 8))) : Prop := ∃ cs mk : List Value, View Φ A (x ++ ([([164#8] : List (BitVec 8))] : List (List (BitVec 8)))).length c 1 (cs ++ mk) ∧ Reps (RmRd Φ) cs x ∧ Reps (BsRd Φ) (cs ++ mk) (x ++ ([([164#8] : List (BitVec 8))] : List (List (BitVec 8))))
theorem Rooms.mono {Φ Ψ : Ctx} {A : Option Addr} {c : Nat} {x : List (List (BitVec 8))} (h : Rooms Φ A c x) (hh : ∀ w, Ψ w → Φ w) : Rooms Ψ A c x := by
 obtain ⟨cs, mk, v, r, rb⟩ := h
 exact ⟨cs, mk, v.mono hh, r.mono (RmRd.mono hh), rb.mono (BsRd.mono hh)⟩
theorem Rooms.mk {Φ : Ctx} {A : Option Addr} {c : Nat} {x : List (List (BitVec 8))} {cs mk : List Value} (v : View Φ A (x ++ ([([164#8] : List (BitVec 8))] : List (List (BitVec 8)))).length c 1 (cs ++ mk)) (r : Reps (RmRd Φ) cs x) (rb : Reps (BsRd Φ) (cs ++ mk) (x ++ ([([164#8] : List (BitVec 8))] : List (List (BitVec 8))))) : Rooms Φ A c x := ⟨cs, mk, v, r, rb⟩
def Ar8Rd {n : Nat} (Φ : Ctx) (cs : List Value) (v : Vector (BitVec 8) n) : Prop := cs = u8s v.toList
theorem Ar8Rd.mono {n : Nat} {Φ Ψ : Ctx} (hh : ∀ w, Ψ w → Φ w) (cs : List Value) (v : Vector (BitVec 8) n) (h : Ar8Rd Φ cs v) : Ar8Rd Ψ cs v := h
theorem Ar8Rd.len {n : Nat} {Φ : Ctx} (cs : List Value) (v : Vector (BitVec 8) n) (h : Ar8Rd Φ cs v) : cs.length = n := by rw [h, Z102, Zv]
theorem Ar8Rd.one {n : Nat} {Φ : Ctx} (cs : List Value) (v : Vector (BitVec 8) n) (h : Ar8Rd Φ cs v) : ∀ u ∈ cs, u.oneCell' = true := by rw [h]; exact u8s_one _
theorem Ar8Rd.mk {n : Nat} {Φ : Ctx} {v : Vector (BitVec 8) n} : Ar8Rd Φ (u8s v.toList) v := rfl
end Go.Fw
namespace Go.Fw
open Go Go.RowKit
section
variable {P : Program} [Types P] {n : Nat} {Q : Exit → Act → World → Prop} {w0 : World} {L : Z109} {M : List Ent} {t e : TypeId} {x : Operand} {v : Value}
def Held (w0 : World) (Φ : Ctx) (b : Nat) (l : List Value) (te : TypeId) : Prop := ∀ w, Φ w → Mem w0 w [(some b, blk l te)]
theorem Held.mono {Φ Ψ : Ctx} {b : Nat} {l : List Value} {te : TypeId} (h : Held w0 Φ b l te) (hh : ∀ w, Ψ w → Φ w) : Held w0 Ψ b l te := fun w q => h w (hh w q)
theorem Held.part {Φ : Ctx} {b i : Nat} {l : List Value} {te : TypeId} {m : Nat} {a : Vector (BitVec 8) m} (h : Held w0 Φ b l te) (hp : ∀ (k : Nat) (u : Value), (u8s a.toList)[k]? = some u → l[i + k]? = some u) (hm : m ≤ 140737488355328) : View Φ (some ⟨b, i, none⟩) a.toList.length m 1 (u8s a.toList) :=
 ⟨fun w q => ⟨fun _ => rfl, fun j u hj => by
  show w.cell? ((⟨b, i, none⟩ : Addr).add j) = some u
  rw [Z107, (h w q).cell (List.mem_cons_self ..)]; exact hp j u hj⟩, fun _ => rfl, by rw [Z102]; omega, by rw [Zv]; exact Nat.le_refl _, by rw [Zv]; exact hm⟩
theorem View.part {Φ : Ctx} {A : Option Addr} {len c s off f : Nat} {cells cs : List Value} {m : Nat} {a : Vector (BitVec 8) m} (h : View Φ A len c s cells) (hc : ∀ j u, cs[j]? = some u → cells[off + j]? = some u) (hp : ∀ (k : Nat) (u : Value), (u8s a.toList)[k]? = some u → cs[f + k]? = some u) (hm : m ≤ 140737488355328) :
    View Φ (some (((A.getD default).add off).add f)) a.toList.length m 1 (u8s a.toList) :=
 ⟨fun w q => ⟨fun _ => rfl, fun j u hj => by
  show w.cell? ((((A.getD default).add off).add f).add j) = some u
  rw [Addr.add_add]; exact h.load q hc _ u (hp j u hj)⟩, fun _ => rfl, by rw [Z102]; omega, by rw [Zv]; exact Nat.le_refl _, by rw [Zv]; exact hm⟩
end
section
variable {P : Program} {n : Nat} {Q : Exit → Act → World → Prop} {w0 : World} {L : Z109} {M : List Ent}
end
def LsRd {T : Type} (s : Nat) (R : Ctx → List Value → T → Prop) (Φ : Ctx) (cs : List Value) (x : List T) : Prop := ∃ A c cs2, cs = [.slice A x.length c] ∧ View Φ A x.length c s cs2 ∧ Reps (R Φ) cs2 x
abbrev HsRd (Φ : Ctx) (cs : List Value) (x : List (Vector (BitVec 8) 32)) : Prop := LsRd 32 Ar8Rd Φ cs x
theorem HsRd.mono {Φ Ψ : Ctx} (hh : ∀ w, Ψ w → Φ w) (cs : List Value) (x : List (Vector (BitVec 8) 32)) : HsRd Φ cs x → HsRd Ψ cs x := fun ⟨A, c, cs2, h1, h2, h3⟩ => ⟨A, c, cs2, h1, h2.mono hh, h3.mono (Ar8Rd.mono hh)⟩
theorem HsRd.len {Φ : Ctx} (cs : List Value) (x : List (Vector (BitVec 8) 32)) (h : HsRd Φ cs x) : cs.length = 1 := by obtain ⟨A, c, cs2, rfl, _⟩ := h; rfl
theorem HsRd.one {Φ : Ctx} (cs : List Value) (x : List (Vector (BitVec 8) 32)) (h : HsRd Φ cs x) : ∀ u ∈ cs, u.oneCell' = true := by
 obtain ⟨A, c, cs2, rfl, _⟩ := h
 intro u hu; simp at hu; subst hu; rfl
theorem HsRd.mk {Φ : Ctx} {A : Option Addr} {c : Nat} {cs2 : List Value} {x : List (Vector (BitVec 8) 32)} (h1 : View Φ A x.length c 32 cs2) (h2 : Reps (Ar8Rd Φ) cs2 x) : HsRd Φ [.slice A x.length c] x := ⟨A, c, cs2, rfl, h1, h2⟩
end Go.Fw
namespace Go.Fw
open Go
structure Sponge where
 kind : Int
 lanes : Vector (BitVec 64) 25
 part : Vector (BitVec 8) 136
 held : Int
 long : Int
def Sponge.C (s : Sponge) : List Value := [.int .i64 s.kind] ++ (u64s s.lanes.toList ++ (u8s s.part.toList ++ ([.int .i64 s.held] ++ ([.int .i64 s.long]))))
theorem Sponge.C_length (s : Sponge) : s.C.length = 164 := by simp [Sponge.C, u64s_length, Z102]
theorem Sponge.C_one (s : Sponge) : ∀ u ∈ s.C, u.oneCell' = true := by
 intro u hu
 simp only [Sponge.C, List.mem_append, List.mem_singleton] at hu
 rcases hu with rfl | hu | hu | rfl | rfl
 ·rfl
 ·exact u64s_one _ u hu
 ·exact u8s_one _ u hu
 ·rfl
 ·rfl
end Go.Fw
namespace Go.Fw
open Go
def MkRd (m : List (BitVec 8)) (Φ : Ctx) (cs : List Value) (x : List (BitVec 8)) : Prop := ∃ A c, cs = [.slice A x.length c] ∧ View Φ A (x ++ m).length c 1 (u8s (x ++ m))
theorem MkRd.mono' {m : List (BitVec 8)} {Φ Ψ : Ctx} (hh : ∀ w, Ψ w → Φ w) (cs : List Value) (x : List (BitVec 8)) : MkRd m Φ cs x → MkRd m Ψ cs x := fun ⟨A, c, h1, h2⟩ => ⟨A, c, h1, h2.mono hh⟩
theorem MkRd.len' {m : List (BitVec 8)} {Φ : Ctx} (cs : List Value) (x : List (BitVec 8)) (h : MkRd m Φ cs x) : cs.length = 1 := by obtain ⟨A, c, rfl, _⟩ := h; rfl
theorem MkRd.bs' {m : List (BitVec 8)} {Φ : Ctx} (cs : List Value) (x : List (BitVec 8)) (h : MkRd m Φ cs x) : BsRd Φ cs x := by
 obtain ⟨A, c, h1, h2⟩ := h
 exact ⟨A, c, h1, MRoom.view h2⟩
abbrev MkRd02 : Ctx → List Value → List (BitVec 8) → Prop := MkRd (List.replicate 200 195#8)
theorem MkRd02.mono {Φ Ψ : Ctx} (hh : ∀ w, Ψ w → Φ w) (cs : List Value) (x : List (BitVec 8)) : MkRd02 Φ cs x → MkRd02 Ψ cs x := MkRd.mono' hh cs x
theorem MkRd02.len {Φ : Ctx} (cs : List Value) (x : List (BitVec 8)) (h : MkRd02 Φ cs x) : cs.length = 1 := MkRd.len' cs x h
abbrev MkRd03 : Ctx → List Value → List (BitVec 8) → Prop := MkRd (List.replicate 70 165#8)
theorem MkRd03.mono {Φ Ψ : Ctx} (hh : ∀ w, Ψ w → Φ w) (cs : List Value) (x : List (BitVec 8)) : MkRd03 Φ cs x → MkRd03 Ψ cs x := MkRd.mono' hh cs x
theorem MkRd03.len {Φ : Ctx} (cs : List Value) (x : List (BitVec 8)) (h : MkRd03 Φ cs x) : cs.length = 1 := MkRd.len' cs x h
def MRooms (m : List (BitVec 8)) (k : List (List (BitVec 8))) (Φ : Ctx) (A : Option Addr) (c : Nat) (x : List (List (BitVec 8))) : Prop :=
 ∃ cs mk : List Value, View Φ A (x ++ k).length c 1 (cs ++ mk) ∧ Reps (MkRd m Φ) cs x ∧ Reps (BsRd Φ) (cs ++ mk) (x ++ k)
theorem MRooms.mono {m : List (BitVec 8)} {k : List (List (BitVec 8))} {Φ Ψ : Ctx} {A : Option Addr} {c : Nat} {x : List (List (BitVec 8))} (h : MRooms m k Φ A c x) (hh : ∀ w, Ψ w → Φ w) : MRooms m k Ψ A c x := by
 obtain ⟨cs, mk, v, r, rb⟩ := h
 exact ⟨cs, mk, v.mono hh, r.mono (MkRd.mono' hh), rb.mono (BsRd.mono hh)⟩
structure Lt where
 b : Nat
 t : List (BitVec 8)
 c : Nat
 r : List Value
def Lt.ent (te : TypeId) (m : List (BitVec 8)) (x : Lt) : Ent := (some x.b, blk (u8s x.t ++ (u8s m ++ x.r)) te)
def Lt.cell (x : Lt) : Value := .slice (some ⟨x.b, 0, none⟩) x.t.length x.c
structure Lt.Ok (m : List (BitVec 8)) (x : Lt) : Prop where
 own : OwnS (some x.b) x.t.length x.c 1 (u8s x.t) (u8s m ++ x.r)
 mx : x.t.length + m.length ≤ 140737488355328
theorem Lt.mroom {w0 : World} {Φ : Ctx} {te : TypeId} {m : List (BitVec 8)} {x : Lt} (h : x.Ok m) (hM : ∀ w, Φ w → Mem w0 w [x.ent te m]) : View Φ (some ⟨x.b, 0, none⟩) (x.t ++ m).length x.c 1 (u8s (x.t ++ m)) := OwnS.mroom h.own hM h.mx
theorem Reps.bs {m : List (BitVec 8)} {Φ : Ctx} {cs : List Value} {xs : List (List (BitVec 8))} (h : Reps (MkRd m Φ) cs xs) : Reps (BsRd Φ) cs xs := h.mono MkRd.bs'
end Go.Fw
namespace Go.Fw
open Go
def waybillref03_Start : Option (Vector (BitVec 32) 8) := some (toV8 startL)
def waybillref03_Roots (n k : Int) : Option (List (BitVec 32)) := if n = 64 ∧ k = 3 then some constL else none
def waybillref03_rounds (s : Vector (BitVec 32) 8) (b : List (BitVec 8)) (k : List (BitVec 32)) : Option (Vector (BitVec 32) 8) := if b.length = 64 ∧ k = constL then some (toV8 (behindL constL s.toList b)) else none
end Go.Fw

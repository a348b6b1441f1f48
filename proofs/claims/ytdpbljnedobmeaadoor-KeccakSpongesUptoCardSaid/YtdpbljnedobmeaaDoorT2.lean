/- Part of a proof: rules that its law uses. -/
import Derived.Laws.Externs
import Derived.Scope
import Derived.Test.YtdpbljnedobmeaaDoorT1
set_option linter.unusedVariables false
set_option linter.unusedSimpArgs false
set_option linter.unusedSectionVars false
set_option maxRecDepth 100000
set_option maxHeartbeats 1000000
namespace Go.Fw
open Go Go.RowKit
def Rl (w0 : World) (R : List Ent) (h : Bool) (w w2 : World) : Prop := if h then (Mem w0 w R → Mem w0 w2 R) else Upw w0 w w2
theorem Rl.base {w0 : World} {R : List Ent} {h : Bool} {w w2 : World} (r : Rl w0 R h w w2) : Mem w0 w R → Mem w0 w2 R := by
 unfold Rl at r
 split at r
 ·exact r
 ·exact r R
section
variable {P : Program} {ops : Array Oper} {md : Region.Mode}
def XH (P : Program) (md : Region.Mode) (ops : Array Oper) (n : Nat) (w0 : World) (R : List Ent) (hard : List Nat) (E : Array Bool → Act → World → Prop) : Nat → Array Bool → Act → World → Prop
 | 0, done, a, w => E done a w
 | f + 1, done, a, w => Region.ready md ops done ≠ [] ∧ ∀ i, i ∈ Region.ready md ops done → i < n ∧ ∃ o, ops[i]? = some o ∧
     ((Region.wanted o (yielded ops a.tmps) = true ∧ stp P ((execOp a.eval o).run P w) (fun u w2 => Rl w0 R (hard.contains i) w w2 ∧ XH P md ops n w0 R hard E f (done.setIfInBounds i true) (a.put o.dst u) w2)) ∨
      (Region.wanted o (yielded ops a.tmps) = false ∧ XH P md ops n w0 R hard E f (done.setIfInBounds i true) (a.put o.dst undef) w))
theorem XH.any {n g : Nat} {w0 : World} {R : List Ent} {hard : List Nat} {E : Array Bool → Act → World → Prop} {Q : Exit → Act → World → Prop} (hE : ∀ done a w, E done a w → wpAny P md ops Q g done a w) :
    ∀ (f : Nat) (done : Array Bool) (a : Act) (w : World), XH P md ops n w0 R hard E f done a w → wpAny P md ops Q (f + g) done a w
 | 0, done, a, w, h => by simpa using hE done a w h
 | f + 1, done, a, w, h => by
  have hfg : f + 1 + g = (f + g) + 1 := by omega
  rw [hfg]
  obtain ⟨h1, h2⟩ := h
  refine ⟨fun e => absurd e h1, fun i hi => ?_⟩
  obtain ⟨_, o, ho, h3⟩ := h2 i hi
  unfold wpOp
  simp only [ho]
  rcases h3 with ⟨hw, hs⟩ | ⟨hw, hs⟩
  ·rw [if_pos hw]
   exact .inl (hs.wp fun u w2 ⟨_, q⟩ => XH.any hE f _ _ _ q)
  ·rw [if_neg (by simp [hw])]
   exact XH.any hE f _ _ _ hs
def Yx (P : Program) (ops : Array Oper) (C : World → Prop) (o : Oper) (v : Value) (a : Act) : Prop :=
 (Region.wanted o (yielded ops a.tmps) = true ∧ ∀ w, C w → (execOp a.eval o).run P w = .ok (.value v) w) ∨ (Region.wanted o (yielded ops a.tmps) = false ∧ v = undef)
theorem XH.take {n i : Nat} {w0 : World} {R : List Ent} {hard : List Nat} {oi : Oper} {v : Value} {C : World → Prop} {E : Array Bool → Act → World → Prop} (hi : ops[i]? = some oi) (hsel : ∀ (j : Nat) (o : Oper) cs b, ops[j]? = some o → o.op ≠ .select cs b)
    (hC : ∀ j oj, ops[j]? = some oj → j ≠ i → (∀ e ∈ oj.after, Region.binds md e = true → e.on ≠ i) → ∀ w w2, C w → Rl w0 R (hard.contains j) w w2 → C w2)
    (hn : n = ops.size) (hE : ∀ done a w, E done a w → ∀ j ∈ Region.ready md ops done, n ≤ j) :
    ∀ (f : Nat) (done : Array Bool) (a : Act) (w : World), C w → HeadInv md ops n done →
     (∀ j oj, ops[j]? = some oj → j ≠ i → done.getD j true = false → (∀ e ∈ oj.after, Region.binds md e = true → e.on ≠ i) → oi.apart ops oj = true) →
     i ∈ Region.ready md ops done → Yx P ops C oi v a → XH P md ops n w0 R hard E f (done.setIfInBounds i true) (a.put oi.dst v) w → XH P md ops n w0 R hard E (f + 1) done a w := by
 have hlt : ∀ (done : Array Bool), ∀ j ∈ Region.ready md ops done, j < n := fun done j hj => by
  subst hn
  obtain ⟨_, oj, hoj, _⟩ := mem_ready.1 hj
  exact (Array.getElem?_eq_some_iff.1 hoj).1
 have self : ∀ (f : Nat) (done : Array Bool) (a : Act) (w : World), C w → Yx P ops C oi v a → XH P md ops n w0 R hard E f (done.setIfInBounds i true) (a.put oi.dst v) w →
     ∃ o, ops[i]? = some o ∧ ((Region.wanted o (yielded ops a.tmps) = true ∧ stp P ((execOp a.eval o).run P w) (fun u w2 => Rl w0 R (hard.contains i) w w2 ∧ XH P md ops n w0 R hard E f (done.setIfInBounds i true) (a.put o.dst u) w2)) ∨
      (Region.wanted o (yielded ops a.tmps) = false ∧ XH P md ops n w0 R hard E f (done.setIfInBounds i true) (a.put o.dst undef) w)) := by
  intro f done a w hw hy H
  refine ⟨oi, hi, ?_⟩
  rcases hy with ⟨h1, h2⟩ | ⟨h1, rfl⟩
  ·refine .inl ⟨h1, ?_⟩
   rw [h2 w hw]
   refine ⟨?_, H⟩
   unfold Rl
   split
   ·exact fun m => m
   ·exact Upw.refl _ _
  ·exact .inr ⟨h1, H⟩
 intro f
 induction f with
 | zero =>
  intro done a w hw inv _ hr hy H
  refine ⟨(fun e => by rw [e] at hr; cases hr), fun j hj => ⟨hlt done j hj, ?_⟩⟩
  by_cases e : j = i
  ·subst e; exact self 0 done a w hw hy H
  ·have := hE _ _ _ H j (ready_mono hj e)
   have := hlt done j hj
   omega
 | succ f ih =>
  intro done a w hw inv hfree hr hy H
  refine ⟨(fun e => by rw [e] at hr; cases hr), fun j hj => ⟨hlt done j hj, ?_⟩⟩
  by_cases e : j = i
  ·subst e; exact self (f + 1) done a w hw hy H
  ·obtain ⟨hju, oj, hoj, hall⟩ := mem_ready.1 hj
   have hno : ∀ e ∈ oj.after, Region.binds md e = true → e.on ≠ i := fun x hx hb hxi => by
    have q := hall x hx hb
    rw [hxi, getD_both (mem_ready.1 hr).1] at q
    cases q
   obtain ⟨h1, h2, h3⟩ := Oper.apart_spec (hfree j oj hoj e hju hno)
   have hsi : ∀ cs b, oi.op ≠ .select cs b := fun cs b => hsel i oi cs b hi
   have hsj : ∀ cs b, oj.op ≠ .select cs b := fun cs b => hsel j oj cs b hoj
   have keep : ∀ u, Yx P ops C oi v (a.put oj.dst u) := fun u => by
    unfold Yx at *
    rw [execOp_put oi hsi a oj.dst u h3, wanted_put oi a oj.dst u h3]
    exact hy
   obtain ⟨_, o', ho', step⟩ := H.2 j (ready_mono hj e)
   obtain rfl : oj = o' := Zi (hoj.symm.trans ho')
   rw [wanted_put oj a oi.dst v h1, execOp_put oj hsj a oi.dst v h1] at step
   have next : ∀ (u : Value) (w2 : World), C w2 → XH P md ops n w0 R hard E f ((done.setIfInBounds i true).setIfInBounds j true) ((a.put oi.dst v).put oj.dst u) w2 → XH P md ops n w0 R hard E (f + 1) (done.setIfInBounds j true) (a.put oj.dst u) w2 := fun u w2 hw2 q => by
    refine ih _ _ _ hw2 (inv.set hj (hlt done j hj)) (fun k ok hk hki hku hnk => hfree k ok hk hki ?_ hnk) (ready_mono hr (Ne.symm e)) (keep u) ?_
    ·by_cases hjk : j = k
     ·subst hjk; exact hju
     ·rwa [getD_set_ne true hjk] at hku
    ·rw [Array.setIfInBounds_comm _ _ e, ← Act.put_comm a v u h2]
     exact q
   refine ⟨oj, hoj, ?_⟩
   rcases step with ⟨hw', hs⟩ | ⟨hw', hs⟩
   ·exact .inl ⟨hw', hs.mono fun u w2 ⟨q1, q2⟩ => ⟨q1, next u w2 (hC j oj hoj e hno w w2 hw q1) q2⟩⟩
   ·exact .inr ⟨hw', next undef w hw hs⟩
end
section
variable {P : Program} {n : Nat} {Q : Exit → Act → World → Prop} {w0 : World} {L : Z108} {M R : List Ent}
def XW (P : Program) (n : Nat) (ops : Array Oper) (Q : Exit → Act → World → Prop) (w0 : World) (R : List Ent) (hard : List Nat) (f : Nat) (done : Array Bool) (L : Z108) (M : List Ent) : Prop :=
 (∀ w, Mem w0 w M → Mem w0 w R) → Region.noSelect ops = true → HeadInv .any ops ops.size done → ∀ a w, Fr n L a → Mem w0 w M → XH P .any ops ops.size w0 R hard (UE P ops Q ops.size []) f done a w
theorem CW.drawsX {id : Nat} {l : List Oper} (R : List Ent) (hard : List Nat) (hMR : ∀ w, Mem w0 w M → Mem w0 w R) (hm : P.follows .mixedOrders = true) (hB : Region.noSelect l.toArray = true) (h : XW P n l.toArray Q w0 R hard l.length (Array.replicate l.length false) L M) : CW P n Q w0 (.region id l.toArray true) L M :=
 CW.intro fun a w f m => by
  have inv : HeadInv .any l.toArray l.toArray.size (Array.replicate l.length false) :=
   ⟨by simp, (fun j oj _ q => by rw [getD_replicate_false] at q; cases q), fun t h1 h2 => absurd h1 (by simp at h2; simp; omega)⟩
  have H := h hMR hB inv a _ f (m.like (w' := { w with drawn := w.drawn + 1 }) rfl rfl rfl rfl)
  refine wp_region_any hm ?_
  have R := XH.any (Q := Q) (g := 0) (fun done a' w' q => by
   have s := wpAny_of_seq (md := .any) (Q' := Q) [] l.toArray.size done a' w' (fun j => by simp) q.1 q.2
   simpa using s) _ _ _ _ H
  simpa using R
variable {ops : Array Oper} {hard : List Nat} {f : Nat} {done : Array Bool} {op : Op} {ty : TypeId} {pos : String} {aft : Array Edge} {g : Option (Nat × Bool)} {d : Nat} {v : Value}
theorem XW.nil (hs : Region.seqB .any ops 0 ops.size done = true) (h : QW n Q w0 .normal L M) : XW P n ops Q w0 R hard 0 done L M := fun _ _ _ a w fr mm => ⟨hs, (Z6 (P := P) (ops := ops) h).elim a w fr mm⟩
def XR (ops : Array Oper) (done : Array Bool) (i : Nat) : Bool := (Region.ready .any ops done).contains i && Region.free .any ops done i
def XS (ops : Array Oper) (hard : List Nat) (i : Nat) : Bool := hard.all fun j => match ops[j]? with
 | some o => o.after.any fun e => Region.binds .any e && Nat.beq e.on i
 | none => true
theorem XW.take (i : Nat) {o : Oper} {C : World → Prop} (hC : ∀ j oj, ops[j]? = some oj → j ≠ i → (∀ e ∈ oj.after, Region.binds .any e = true → e.on ≠ i) → ∀ w w2, C w → Rl w0 R (hard.contains j) w w2 → C w2) (hMC : (∀ w, Mem w0 w M → Mem w0 w R) → ∀ w, Mem w0 w M → C w) (hr : XR ops done i = true) (ho : ops[i]? = some o) (v : Value) (hy : ∀ a, Fr n L a → Yx P ops C o v a)
    (k : (∀ w, Mem w0 w M → Mem w0 w R) → ∀ a w, Fr n L a → Mem w0 w M → Region.noSelect ops = true → HeadInv .any ops ops.size (done.setIfInBounds i true) → XH P .any ops ops.size w0 R hard (UE P ops Q ops.size []) f (done.setIfInBounds i true) (a.put o.dst v) w) : XW P n ops Q w0 R hard (f + 1) done L M := fun hR hB inv a w fr mm => by
 simp only [XR, Bool.and_eq_true] at hr
 obtain ⟨h1, h2⟩ := hr
 have hr' : i ∈ Region.ready .any ops done := by simpa using h1
 have him : i < ops.size := (Array.getElem?_eq_some_iff.1 ho).1
 exact XH.take ho (Region.noSelect_spec hB) hC rfl (fun done' a' w' q => seqB_ready q.1) f done a w (hMC hR w mm) inv (Region.free_spec ho h2) hr' (hy a fr) (k hR a w fr mm hB (inv.set hr' him))
theorem XW.rv (i : Nat) (ho : ops[i]? = some ⟨some d, op, ty, pos, aft, g⟩) (hr : XR ops done i = true) (hw : Wt ops L g = true) (hS : XS ops hard i = true) (hop : RV P w0 L M op v) (hd : Nat.blt d n = true) (k : XW P n ops Q w0 R hard f (done.setIfInBounds i true) ((d, v) :: L) M) : XW P n ops Q w0 R hard (f + 1) done L M :=
 XW.take i (C := fun w => Mem w0 w M) (fun j oj hj hne hno w w2 m r => by
  unfold Rl at r
  split at r
  ·rename_i hh
   have h1 := List.all_eq_true.1 hS j (by simpa using hh)
   rw [hj] at h1
   obtain ⟨e, he, h2⟩ := Array.any_eq_true'.1 h1
   simp only [Bool.and_eq_true, Nat.beq_eq] at h2
   exact absurd h2.2 (hno e he h2.1)
  ·exact r _ m) (fun _ _ h => h) hr ho v (fun a fr => .inl ⟨wt_spec fr hw, fun w mm => hop a.eval w (fun x u hx => fr.eval hx) mm _ rfl⟩) (fun hR a w fr mm hB inv => k hR hB inv _ _ (fr.put hd v) mm)
theorem Z10 (i : Nat) (ho : ops[i]? = some ⟨some d, op, ty, pos, aft, g⟩) (hr : XR ops done i = true) (hw : Wt ops L g = true) (hop : RV P w0 L R op v) (hd : Nat.blt d n = true) (k : XW P n ops Q w0 R hard f (done.setIfInBounds i true) ((d, v) :: L) M) : XW P n ops Q w0 R hard (f + 1) done L M :=
 XW.take i (C := fun w => Mem w0 w R) (fun j oj hj hne hno w w2 m r => r.base m) (fun hR w h => hR w h) hr ho v (fun a fr => .inl ⟨wt_spec fr hw, fun w mm => hop a.eval w (fun x u hx => fr.eval hx) mm _ rfl⟩) (fun hR a w fr mm hB inv => k hR hB inv _ _ (fr.put hd v) mm)
theorem XW.skip (i : Nat) (ho : ops[i]? = some ⟨some d, op, ty, pos, aft, g⟩) (hr : XR ops done i = true) (hw : Sk ops L g = true) (hd : Nat.blt d n = true) (k : XW P n ops Q w0 R hard f (done.setIfInBounds i true) ((d, undef) :: L) M) : XW P n ops Q w0 R hard (f + 1) done L M :=
 XW.take i (C := fun w => Mem w0 w R) (fun j oj hj hne hno w w2 m r => r.base m) (fun hR w h => hR w h) hr ho undef (fun a fr => .inr ⟨sk_spec fr hw, rfl⟩) (fun hR a w fr mm hB inv => k hR hB inv _ _ (fr.put hd undef) mm)
theorem XW.sv (i : Nat) {M' : List Ent} (ho : ops[i]? = some ⟨none, op, ty, pos, aft, none⟩) (hr : (Region.ready .any ops done == [i] && hard.contains i) = true) (hop : SV P w0 L M op M') (hMR : ∀ w, Mem w0 w M' → Mem w0 w R) (k : XW P n ops Q w0 R hard f (done.setIfInBounds i true) L M') : XW P n ops Q w0 R hard (f + 1) done L M := fun hR hB inv a w fr mm => by
 simp only [Bool.and_eq_true, beq_iff_eq] at hr
 obtain ⟨hr, hi⟩ := hr
 have him : i < ops.size := (Array.getElem?_eq_some_iff.1 ho).1
 refine ⟨by rw [hr]; simp, fun j hj => ?_⟩
 rw [hr] at hj
 obtain rfl : j = i := by simpa using hj
 refine ⟨him, _, ho, .inl ⟨by simp [Region.wanted], ?_⟩⟩
 obtain ⟨w', hrun, m'⟩ := hop a.eval w (fun x u hx => fr.eval hx) mm ⟨none, op, ty, pos, aft, none⟩ rfl
 rw [hrun]
 refine ⟨?_, k hMR hB (inv.set (by rw [hr]; simp) him) _ _ fr m'⟩
 unfold Rl
 rw [if_pos hi]
 exact fun _ => hMR _ m'
theorem Z19 {M' : List Ent} (hs : ∀ w, Mem w0 w M → Mem w0 w M') (hMR : ∀ w, Mem w0 w M' → Mem w0 w R) (k : XW P n ops Q w0 R hard f done L M') : XW P n ops Q w0 R hard f done L M := fun _ hB inv a w fr mm => k hMR hB inv a w fr (hs w mm)
theorem XW.slot (v' : Value) (hv : v = v') (k : XW P n ops Q w0 R hard f done ((d, v') :: L) M) : XW P n ops Q w0 R hard f done ((d, v) :: L) M := by subst hv; exact k
theorem XW.cells {ob : Option Nat} {l : List Value} {t : TypeId} (l' : List Value) (e : l = l') (k : XW P n ops Q w0 R hard f done L ((ob, blk l' t) :: M)) : XW P n ops Q w0 R hard f done L ((ob, blk l t) :: M) := by subst e; exact k
theorem Z11 (i : Nat) {fn : FuncId} {xs : List Operand} {ats : Array TypeId} {args : List Value} {Rr : Value → List Ent → Prop} (ho : ops[i]? = some ⟨some d, .call ⟨.value (.func fn), xs.toArray, ats⟩, ty, pos, aft, g⟩) (hr : (Region.ready .any ops done == [i]) = true) (hw : Wt ops L g = true)
    (hc : ∀ (args : Array Value) (w : World), (callFunc fn args).run P w = .ok (.enter fn args) w) (hxs : evs L xs = some args) (hdo : ∀ N, (∀ w, Mem w0 w N → Mem w0 w M) → DoesG P fn args w0 [] N Rr)
    (hd : Nat.blt d n = true) (k : ∀ v G, Rr v G → XW P n ops Q w0 R hard f (done.setIfInBounds i true) ((d, v) :: L) (G ++ M)) : XW P n ops Q w0 R hard (f + 1) done L M := fun hR hB inv a w fr mm => by
 simp only [beq_iff_eq] at hr
 have him : i < ops.size := (Array.getElem?_eq_some_iff.1 ho).1
 refine ⟨by rw [hr]; simp, fun j hj => ?_⟩
 rw [hr] at hj
 obtain rfl : j = i := by simpa using hj
 refine ⟨him, _, ho, .inl ⟨wt_spec fr hw, ?_⟩⟩
 have hev := evs_map (fun x u hx => fr.eval hx) xs args hxs
 have hrun : (execOp a.eval ⟨some d, .call ⟨.value (.func fn), xs.toArray, ats⟩, ty, pos, aft, g⟩).run P w = .ok (.enter fn args.toArray) w := by
  simp [execOp, resolve, Deferred.ofValue, Act.eval, invoke, hev, hc]
 rw [hrun]
 refine (hdo (allEnts w0 w) (fun w2 m2 => Z128 m2 _ mm) w mm.all).mono ?_
 rintro e w2 ⟨q, ⟨G, h1, h2⟩, rfl, m'⟩
 have m' : Mem w0 w2 (G ++ allEnts w0 w) := by have m2 := m'; rwa [show (fun q : Value × List Ent => q.2) q = G ++ allEnts w0 w from h2] at m2
 refine ⟨_, rfl, ?_, (k q.1 G h1) (fun w m => hR w m.appR) hB (inv.set (by rw [hr]; simp) him) _ _ (fr.put hd _) (m'.graft mm)⟩
 have hu := Z128 m'.appR
 unfold Rl
 split
 ·exact hu R
 ·exact hu
theorem XW.new (i : Nat) {l : List Value} {te : TypeId} {fv : Nat → Value} (ho : ops[i]? = some ⟨some d, op, ty, pos, aft, g⟩) (hr : (Region.ready .any ops done == [i]) = true) (hw : Wt ops L g = true) (hop : NV P w0 L M op fv l te) (hd : Nat.blt d n = true)
    (k : ∀ b : Nat, XW P n ops Q w0 R hard f (done.setIfInBounds i true) ((d, fv b) :: L) ((some b, blk l te) :: M)) : XW P n ops Q w0 R hard (f + 1) done L M := fun hR hB inv a w fr mm => by
 simp only [beq_iff_eq] at hr
 have him : i < ops.size := (Array.getElem?_eq_some_iff.1 ho).1
 refine ⟨by rw [hr]; simp, fun j hj => ?_⟩
 rw [hr] at hj
 obtain rfl : j = i := by simpa using hj
 refine ⟨him, _, ho, .inl ⟨wt_spec fr hw, ?_⟩⟩
 rw [hop a.eval w (fun x u hx => fr.eval hx) mm _ rfl]
 refine ⟨?_, k _ (fun w m => hR w m.tail) hB (inv.set (by rw [hr]; simp) him) _ _ (fr.put hd _) (mm.alloc _)⟩
 unfold Rl
 split
 ·exact Upw.alloc _ _ _ R
 ·exact Upw.alloc _ _ _
attribute [irreducible] XW
end
end Go.Fw
namespace Go.Fw
end Go.Fw
namespace Go.Fw
open Go Go.RowKit
section
variable {P : Program} [Types P] {w0 : World} {L : Z108} {M : List Ent} {t e : TypeId} {x y z : Operand} {idx idx' : Int} {k k' : IntKind}
theorem RV.arr_lo {A : Addr} {n s : Nat} (a : Nat) (hx : ev L x = some (.pointer (some A))) (hy : ev L y = some (.int k idx)) (hj : idx = (a : Int)) (ht : tyU P t = some (.array n e)) (hs : tyS P e = some s) (h1 : idx ≤ n) :
    RV P w0 L M (.slice t x (some y) none none) (.slice (subA (some A) n a s) (n - a) (n - a)) := fun ρ w hρ m o ho => by
 subst hj
 have h2 : a ≤ n := by omega
 by_cases hc : n = a
 ·subst hc; simp [execOp, ho, hρ x _ hx, hρ y _ hy, Instr.sliceAt, Instr.slice, Instr.sliceBounds, Z126 w h2, Z110 ht, Z125 hs, subA, Instr.sureAddr, asAddr]
 simp [execOp, ho, hρ x _ hx, hρ y _ hy, Instr.sliceAt, Instr.slice, Instr.sliceBounds, Z126 w h2, Z110 ht, Z125 hs, subA, Instr.sureAddr, asAddr, hc]
end
end Go.Fw
namespace Go.Fw
def rotl (x : BitVec 64) (n : Nat) : BitVec 64 := x <<< n ||| x >>> (64 - n)
def turnsL : List Int := [0, 1, 62, 28, 27, 36, 44, 6, 55, 20, 3, 10, 43, 25, 39, 41, 45, 15, 21, 8, 18, 2, 61, 56, 14]
def goesN (i : Nat) : Nat := i / 5 + 5 * ((2 * (i % 5) + 3 * (i / 5)) % 5)
def goesL : List Int := (List.range 25).map fun i => (goesN i : Int)
def roundsL : List (BitVec 64) := [0x0000000000000001#64, 0x0000000000008082#64, 0x800000000000808A#64, 0x8000000080008000#64,
    0x000000000000808B#64, 0x0000000080000001#64, 0x8000000080008081#64, 0x8000000000008009#64,
    0x000000000000008A#64, 0x0000000000000088#64, 0x0000000080008009#64, 0x000000008000000A#64,
    0x000000008000808B#64, 0x800000000000008B#64, 0x8000000000008089#64, 0x8000000000008003#64,
    0x8000000000008002#64, 0x8000000000000080#64, 0x000000000000800A#64, 0x800000008000000A#64,
    0x8000000080008081#64, 0x8000000000008080#64, 0x0000000080000001#64, 0x8000000080008008#64]
def g64 (l : List (BitVec 64)) (i : Nat) : BitVec 64 := l.getD i 0#64
def colS (a : List (BitVec 64)) (x : Nat) : BitVec 64 := g64 a x ^^^ g64 a (x + 5) ^^^ g64 a (x + 10) ^^^ g64 a (x + 15) ^^^ g64 a (x + 20)
def thetaE (a : List (BitVec 64)) (i : Nat) : BitVec 64 := g64 a i ^^^ (colS a ((i + 4) % 5) ^^^ rotl (colS a ((i + 1) % 5)) 1)
def chiE (b : List (BitVec 64)) (i : Nat) : BitVec 64 := g64 b i ^^^ (~~~ (g64 b (i / 5 * 5 + (i % 5 + 1) % 5)) &&& g64 b (i / 5 * 5 + (i % 5 + 2) % 5))
def chiL (b : List (BitVec 64)) : List (BitVec 64) := (List.range 25).map (chiE b)
theorem goes_lt : ∀ i : Fin 25, goesN i.val < 25 := by decide
theorem goes_inj : ∀ i j : Fin 25, goesN i.val = goesN j.val → i = j := by decide
end Go.Fw
namespace Go.Fw
theorem rot_and : ∀ m : Fin 64, (BitVec.ofInt 64 (m.val : Int) &&& 63#64).toNat = m.val := by decide +kernel
theorem rot_sub : ∀ m : Fin 64, (64#64 - (BitVec.ofInt 64 (m.val : Int) &&& 63#64)).toNat = 64 - m.val := by decide +kernel
end Go.Fw
namespace Go.Fw
def sumTo (a : List (BitVec 64)) (x : Nat) : Nat → BitVec 64
 | 0 => 0#64
 | n + 1 => if n % 5 = x then sumTo a x n ^^^ g64 a n else sumTo a x n
theorem sumTo_all (a : List (BitVec 64)) : ∀ x, x < 5 → sumTo a x 25 = colS a x := by
 intro x hx
 rcases (by omega : x = 0 ∨ x = 1 ∨ x = 2 ∨ x = 3 ∨ x = 4) with rfl | rfl | rfl | rfl | rfl <;> simp [sumTo, colS]
def invN (j : Nat) : Nat := ((List.range 25).find? fun i => goesN i == j).getD 0
theorem inv_goes : ∀ i : Fin 25, invN (goesN i.val) = i.val := by decide
theorem goes_inv : ∀ j : Fin 25, goesN (invN j.val) = j.val ∧ invN j.val < 25 := by decide
def movedE (a : List (BitVec 64)) (i : Nat) : BitVec 64 := rotl (thetaE a i) (turnsL.getD i 0).toNat
def movedL (a : List (BitVec 64)) : List (BitVec 64) := (List.range 25).map fun j => movedE a (invN j)
theorem movedL_goes (a : List (BitVec 64)) {i : Nat} (h : i < 25) : g64 (movedL a) (goesN i) = movedE a i := by
 have h1 := goes_lt ⟨i, h⟩
 have h2 := inv_goes ⟨i, h⟩
 simp only at h1 h2
 simp only [g64, movedL, List.getD, List.getElem?_map, List.getElem?_range h1, Option.map_some, Option.getD_some, h2]
theorem ext25 {a b : List (BitVec 64)} (ha : a.length = 25) (hb : b.length = 25) (h : ∀ i, i < 25 → g64 a i = g64 b i) : a = b := by
 apply List.ext_getElem (by omega)
 intro i h1 h2
 have := h i (by omega)
 simpa [g64, List.getD, List.getElem?_eq_getElem, h1, h2] using this
theorem moved_of {a t : List (BitVec 64)} (ht : t.length = 25) (h : ∀ i, i < 25 → g64 t (goesN i) = movedE a i) : t = movedL a := by
 refine ext25 ht (by simp [movedL]) fun j hj => ?_
 obtain ⟨h1, h2⟩ := goes_inv ⟨j, hj⟩
 simp only at h1 h2
 have e1 := h (invN j) h2
 have e2 := movedL_goes a h2
 rw [h1] at e1 e2
 rw [e1, e2]
def roundL (a : List (BitVec 64)) (rc : BitVec 64) : List (BitVec 64) := (chiL (movedL a)).set 0 (g64 (chiL (movedL a)) 0 ^^^ rc)
def permTo (a : List (BitVec 64)) : Nat → List (BitVec 64)
 | 0 => a
 | t + 1 => roundL (permTo a t) (g64 roundsL t)
def permL (a : List (BitVec 64)) : List (BitVec 64) := permTo a 24
@[simp] theorem chiL_length (b : List (BitVec 64)) : (chiL b).length = 25 := by simp [chiL]
theorem roundL_length (a : List (BitVec 64)) (rc : BitVec 64) : (roundL a rc).length = 25 := by simp [roundL]
theorem permTo_length {a : List (BitVec 64)} (h : a.length = 25) : ∀ t, (permTo a t).length = 25
 | 0 => h
 | t + 1 => roundL_length _ _
theorem g64_set (l : List (BitVec 64)) (k : Nat) (v : BitVec 64) (i : Nat) (hk : k < l.length) : g64 (l.set k v) i = if i = k then v else g64 l i := by
 simp only [g64, List.getD, List.getElem?_set]
 by_cases h : k = i
 ·subst h; simp [hk]
 ·simp [h, Ne.symm h]
theorem chi_of {b l : List (BitVec 64)} (hl : l.length = 25) (h : ∀ i, i < 25 → g64 l i = chiE b i) : l = chiL b := by
 refine ext25 hl (chiL_length b) fun j hj => ?_
 rw [h j hj]
 simp only [g64, chiL, List.getD, List.getElem?_map, List.getElem?_range hj, Option.map_some, Option.getD_some]
end Go.Fw
namespace Go.Fw
theorem permTo_succ (a : List (BitVec 64)) (t : Nat) : permTo a (t + 1) = roundL (permTo a t) (g64 roundsL t) := rfl
theorem permTo_zero (a : List (BitVec 64)) : permTo a 0 = a := rfl
end Go.Fw
namespace Go.Fw
theorem sumTo_zero (a : List (BitVec 64)) (x : Nat) : sumTo a x 0 = 0#64 := rfl
theorem sumTo_succ (a : List (BitVec 64)) (x n : Nat) : sumTo a x (n + 1) = if n % 5 = x then sumTo a x n ^^^ g64 a n else sumTo a x n := rfl
theorem g64_zeros (n x : Nat) : g64 (List.replicate n 0#64) x = 0#64 := by
 simp only [g64, List.getD, List.getElem?_replicate]; split <;> rfl
end Go.Fw
namespace Go.Fw
theorem turns_in : ∀ i : Fin 25, 0 ≤ turnsL.getD i.val 0 ∧ turnsL.getD i.val 0 < 64 := by decide
theorem goesL_get {i : Nat} (h : i < 25) : goesL.getD i 0 = (goesN i : Int) := by
 simp only [goesL, List.getD, List.getElem?_map, List.getElem?_range h, Option.map_some, Option.getD_some]
theorem movedL_length (a : List (BitVec 64)) : (movedL a).length = 25 := by simp [movedL]
end Go.Fw
namespace Go.Fw
theorem roundL_eq (a : List (BitVec 64)) (rc : BitVec 64) : roundL a rc = (chiL (movedL a)).set 0 (g64 (chiL (movedL a)) 0 ^^^ rc) := rfl
end Go.Fw
namespace Go.Fw
theorem goes_of {T : List (BitVec 64)} {f : Nat → BitVec 64} (hT : T.length = 25) (h : ∀ i, i < 25 → g64 T (goesN i) = f i) : T = (List.range 25).map fun j => f (invN j) := by
 refine ext25 hT (by simp) fun j hj => ?_
 obtain ⟨h1, h2⟩ := goes_inv ⟨j, hj⟩
 simp only at h1 h2
 have e1 := h (invN j) h2
 rw [h1] at e1
 rw [e1]
 simp only [g64, List.getD, List.getElem?_map, List.getElem?_range hj, Option.map_some, Option.getD_some]
def mvL (a : List (BitVec 64)) : List (BitVec 64) := (List.range 25).map fun j => rotl (g64 a (invN j)) (turnsL.getD (invN j) 0).toNat
theorem mvL_theta (a : List (BitVec 64)) : mvL ((List.range 25).map (thetaE a)) = movedL a := by
 refine ext25 (by simp [mvL]) (by simp [movedL]) fun j hj => ?_
 obtain ⟨h1, h2⟩ := goes_inv ⟨j, hj⟩
 simp only at h2
 simp only [g64, mvL, movedL, movedE, List.getD, List.getElem?_map, List.getElem?_range hj, List.getElem?_range h2, Option.map_some, Option.getD_some]
end Go.Fw
namespace Go.Fw
theorem mvL_of {T a : List (BitVec 64)} (hT : T.length = 25) (h : ∀ i, i < 25 → g64 T (goesN i) = rotl (g64 a i) (turnsL.getD i 0).toNat) : T = mvL a := goes_of (f := fun i => rotl (g64 a i) (turnsL.getD i 0).toNat) hT h
end Go.Fw
namespace Go.Fw.Tryd
open Go Go.Proofs
def z25 : List Int := List.replicate 25 0
theorem i64s_set1 (l : List Int) (i : Nat) (v : Int) : (i64s l).set i (.int .i64 v) = i64s (l.set i v) := by simp [i64s, List.map_set]
theorem getD_set_int1 (l : List Int) (k : Nat) (v : Int) (i : Nat) (hk : k < l.length) : (l.set k v).getD i 0 = if i = k then v else l.getD i 0 := by
 simp only [List.getD, List.getElem?_set]
 by_cases h : k = i
 ·subst h; simp [hk]
 ·simp [h, Ne.symm h]
theorem rotl_does (w0 : World) (M : List Ent) (x : BitVec 64) (k : Int) (h0 : 0 ≤ k) (h1 : k < 64) : Does Tryd.prog 108 [U64 x, .int .i64 k] w0 M (τ := Unit) (fun _ => True) (fun _ => U64 (rotl x k.toNat)) (fun _ => M) := by
 refine Does.enter Tryd.func108 rfl Tryd.ntmps108 rfl (Z4 (Z2 (Z0 (Z5 rfl) rfl (Z6 ?_))))
 (refine Z1 ?_; refine Z4 ?_)
 refine Z2 (Z0 (Z3 rfl) rfl (Z0 (RV.conv_i64 rfl rfl rfl) rfl (Z0 (RV.and64 rfl rfl rfl (lit64 _ rfl)) rfl (Z0 (Z5 rfl) rfl (Z6 ?_)))))
 (refine Z1 ?_; refine Z4 ?_)
 refine Z2 (Z0 (Z3 rfl) rfl (Z0 (Z3 rfl) rfl (Z0 (RV.shl64 rfl rfl rfl rfl) rfl (Z0 (Z3 rfl) rfl (Z0 (Z3 rfl) rfl (Z0 (RV.sub64 rfl (lit64 _ rfl) rfl rfl) rfl (Z0 (RV.shr64 rfl rfl rfl rfl) rfl ?_)))))))
 refine Z0 (RV.or64 rfl rfl rfl rfl) rfl (Z0 (Z5 rfl) rfl (Z6 ?_))
 (refine Z1 ?_; refine CW.ret ?_)
 refine QW.ret1 rfl () trivial ?_ (fun _ m => m)
 obtain ⟨m, rfl⟩ : ∃ m : Nat, k = m := ⟨k.toNat, by omega⟩
 have hm : m < 64 := by omega
 have e1 : (BitVec.ofInt 64 (m : Int) &&& 63#64).toNat = m := rot_and ⟨m, hm⟩
 have e2 : (64#64 - (BitVec.ofInt 64 (m : Int) &&& 63#64)).toNat = 64 - m := rot_sub ⟨m, hm⟩
 have e : x <<< (BitVec.ofInt 64 (m : Int) &&& 63#64).toNat ||| x >>> (64#64 - (BitVec.ofInt 64 (m : Int) &&& 63#64)).toNat = rotl x m := by rw [e1, e2]; rfl
 show _ = some (U64 (rotl x m))
 rw [← e]; rfl
theorem numbers_does (w0 : World) (M : List Ent) : Does Tryd.prog 107 [] w0 M (τ := Unit) (fun _ => True) (fun _ => .agg (u64s roundsL).toArray) (fun _ => M) := by
 have hl : roundsL.length = 24 := rfl
 refine Does.enter Tryd.func107 rfl Tryd.ntmps107 rfl (Z4 (Z2 (OW.alloc (l := u64s (List.replicate 24 0#64)) rfl (by rw [← Z119]; rfl) rfl (fun b0 => (Z6 ?_)))))
 (refine Z1 ?_; refine Z4 ?_)
 refine Z2 (Z0 (RV.buildA (l := u64s (List.replicate 24 0#64)) (cs := u64s roundsL) rfl rfl rfl (by rw [← Z119]; rfl) rfl rfl rfl) rfl (Z28 (Z104 rfl rfl rfl (Z124 _) rfl (by assumption) (by assumption)) (Z6 ?_)))
 (refine Z1 ?_; refine CW.ret ?_)
 exact QW.retC1 rfl () trivial rfl Zh rfl rfl rfl rfl ((Z100 _).trans hl) rfl (fun _ m => m.tail)
theorem ways_does (w0 : World) (M : List Ent) : Does Tryd.prog 106 [] w0 M (τ := Unit) (fun _ => True) (fun _ => .tuple #[.agg (i64s turnsL).toArray, .agg (i64s goesL).toArray]) (fun _ => M) := by
 have hl : turnsL.length = 25 := rfl
 have hz : z25.length = 25 := List.length_replicate ..
 refine Does.enter Tryd.func106 rfl Tryd.ntmps106 rfl (Z4 (Z2 (OW.alloc (l := i64s (List.replicate 25 0)) rfl (by rw [← i64s_rep]; rfl) rfl (fun b0 => (OW.alloc (l := i64s (List.replicate 25 0)) rfl (by rw [← i64s_rep]; rfl) rfl (fun b1 => (Z6 ?_)))))))
 (refine Z1 ?_; refine Z4 ?_)
 refine Z2 (Z0 (RV.buildA (l := i64s (List.replicate 25 0)) (cs := i64s turnsL) rfl rfl rfl (by rw [← i64s_rep]; rfl) rfl rfl rfl) rfl ?_)
 refine OW.rot1 ?_; refine Z28 (Z104 rfl rfl rfl (i64s_one _) rfl (by assumption) (by assumption)) ?_
 refine Z6 ?_
 (refine Z1 ?_; refine Z4 ?_; refine Z4 ?_)
 refine Z2 (Z0 (Z3 rfl) rfl (Z6 ?_))
 (refine Z1 ?_; refine CW.block ?_)
 refine CW.loop (σ := Nat × List Int) (fun s => s.1 ≤ 5 ∧ s.2.length = 25 ∧ ∀ k, k < 25 → k % 5 < s.1 → s.2.getD k 0 = (goesN k : Int)) (fun s => [(0, ptr (some b0) 0), (1, ptr (some b1) 0), (5, .int .i64 (s.1 : Int))])
  (fun s => (some b1, blk (i64s s.2) 140) :: (some b0, blk (i64s turnsL) 140) :: M) (fun s => 5 - s.1) (0, z25) ⟨by simp, hz, fun k _ h => by omega⟩ ⟨rfl, rfl, rfl, trivial⟩ (fun _ m => m.rot1) ?_
 rintro ⟨x, g⟩ ⟨hx, hg, he⟩
 dsimp only at hx hg he ⊢
 refine Z4 (Z2 (Z0 (RV.lss rfl rfl) rfl (Z6 ?_)))
 (refine Z1 ?_; refine Z4 ?_)
 refine Z106 rfl (fun hlt => ?_) (fun hlt => ?_)
 ·have hx2 : x < 5 := by omega
  (refine CW.skip ?_; refine Z1 ?_; refine Z4 ?_; refine CW.block ?_; refine Z4 ?_)
  refine Z2 (Z0 (Z3 rfl) rfl (Z0 (Z5 rfl) rfl (Z6 ?_)))
  (refine Z1 ?_; refine Z4 ?_)
  refine Z2 (Z0 (Z3 rfl) rfl (Z6 ?_))
  (refine Z1 ?_; refine CW.block ?_)
  refine CW.loop (σ := Nat × List Int) (fun s => s.1 ≤ 5 ∧ s.2.length = 25 ∧ ∀ k, k < 25 → (k % 5 < x ∨ (k % 5 = x ∧ k / 5 < s.1)) → s.2.getD k 0 = (goesN k : Int)) (fun s => [(0, ptr (some b0) 0), (1, ptr (some b1) 0), (2, .int .i64 (x : Int)), (5, .int .i64 (x : Int)), (8, .int .i64 (s.1 : Int))])
   (fun s => (some b1, blk (i64s s.2) 140) :: (some b0, blk (i64s turnsL) 140) :: M) (fun s => 5 - s.1) (0, g) ⟨by simp, hg, fun k h1 h2 => he k h1 (by omega)⟩ ⟨rfl, rfl, rfl, rfl, rfl, trivial⟩ (fun _ m => m) ?_
  clear he hg g
  rintro ⟨y, g⟩ ⟨hy, hg, he⟩
  dsimp only at hy hg he ⊢
  refine Z4 (Z2 (Z0 (RV.lss rfl rfl) rfl (Z6 ?_)))
  (refine Z1 ?_; refine Z4 ?_)
  refine Z106 rfl (fun hylt => ?_) (fun hylt => ?_)
  ·have hy2 : y < 5 := by omega
   have et : 0 + ((x : Int) + 5 * (y : Int)).toNat = x + 5 * y := by omega
   have hl2 : 0 + ((x : Int) + 5 * (y : Int)).toNat < (i64s g).length := by rw [et, Z114]; omega
   (refine CW.skip ?_; refine Z1 ?_; refine Z4 ?_; refine CW.block ?_; refine Z4 ?_)
   refine Z2 (Z0 (Z3 rfl) rfl (Z0 (Z5 rfl) rfl (Z6 (Z1 (Z2 (Z0 (Z3 rfl) rfl (Z0 (Z3 rfl) rfl (Z0 (RV.mul rfl rfl (by omega)) rfl (Z0 (RV.add rfl rfl (by omega)) rfl ?_)))))))))
   refine Z0 (Z3 rfl) rfl (Z0 (Z3 rfl) rfl (Z0 (RV.mul rfl rfl (by omega)) rfl (Z0 (Z3 rfl) rfl (Z0 (RV.mul rfl rfl (by omega)) rfl (Z0 (RV.add rfl rfl (by omega)) rfl (Z0 (RV.rem rfl rfl (by omega) (by omega)) rfl (Z0 (RV.mul rfl rfl (by omega)) rfl ?_)))))))
   refine Z0 (RV.add rfl rfl (by omega)) rfl (Z0 (Z102 _ rfl rfl rfl rfl rfl (by omega)) rfl (Z28 (SV.store rfl rfl rfl rfl rfl (by assumption)) (Z6 ?_)))
   (refine Z27 ?_; refine Z1 ?_)
   refine Z2 (Z0 (RV.add rfl rfl (by omega)) rfl (Z0 (Z3 rfl) rfl (Z6 ?_)))
   refine Z116 (y + 1, g.set (x + 5 * y) ((y : Int) + 5 * ((2 * (x : Int) + 3 * (y : Int)) % 5))) ⟨by show y + 1 ≤ 5; omega, by simp [hg], fun k h1 h2 => ?_⟩ (by show 5 - (y + 1) < 5 - y; omega) ⟨rfl, rfl, rfl, rfl, rfl, trivial⟩ (fun _ m => ?_)
   ·have h2' : k % 5 < x ∨ (k % 5 = x ∧ k / 5 < y + 1) := h2
    show (g.set (x + 5 * y) ((y : Int) + 5 * ((2 * (x : Int) + 3 * (y : Int)) % 5))).getD k 0 = _
    rw [getD_set_int1 _ _ _ _ (by omega)]
    by_cases hk : k = x + 5 * y
    ·rw [if_pos hk]; subst hk
     unfold goesN
     have e1 : (x + 5 * y) / 5 = y := by omega
     have e2 : (x + 5 * y) % 5 = x := by omega
     rw [e1, e2]; omega
    ·rw [if_neg hk]; exact he k h1 (by omega)
   ·first | rw [et, i64s_set1] at m | rw [Nat.zero_add, i64s_set1] at m
    exact m
  ·(refine CW.exit ?_; refine Z9 ?_; refine Z9 ?_; refine Z15 ?_; refine Z27 ?_; refine Z1 ?_)
   refine Z2 (Z0 (RV.add rfl rfl (by omega)) rfl (Z0 (Z3 rfl) rfl (Z6 ?_)))
   exact Z116 (x + 1, g) ⟨by show x + 1 ≤ 5; omega, hg, fun k h1 h2 => he k h1 (by have h2' : k % 5 < x + 1 := h2; omega)⟩ (by show 5 - (x + 1) < 5 - x; omega) ⟨rfl, rfl, rfl, trivial⟩ (fun _ m => m)
 ·have hx2 : x = 5 := by omega
  subst hx2
  have eg : g = goesL := by
   apply List.ext_getElem (by rw [hg]; rfl)
   intro i h1 h2
   have := he i (by omega) (by omega)
   simp only [List.getD, List.getElem?_eq_getElem h1, Option.getD_some] at this
   rw [this]; simp [goesL]
  rw [eg]
  have hgl : goesL.length = 25 := rfl
  (refine CW.exit ?_; refine Z9 ?_; refine Z9 ?_; refine Z15 ?_; refine Z1 ?_; refine Z4 ?_)
  refine CW.drawsU 3 mixed (by kernel_rfl) rfl (Z18 0 rfl (by kernel_rfl) rfl (Z22 rfl (List.Mem.tail _ Zh) rfl rfl rfl rfl ((Z114 _).trans hl)) rfl (Z18 1 rfl (by kernel_rfl) rfl (Z22 rfl Zh rfl rfl rfl rfl ((Z114 _).trans hgl)) rfl (UW.same 2 rfl (by kernel_rfl) (List.Mem.tail _ Zh) (fun M' => Z104 rfl rfl rfl (i64s_one _) rfl ((Z114 _).trans hl) ((Z114 _).trans hl)) (UW.nil (by kernel_rfl) (Z28 (Z104 rfl rfl rfl (i64s_one _) rfl ((Z114 _).trans hgl) ((Z114 _).trans hgl)) (Z6 ?_))))))
  (refine Z1 ?_; refine CW.ret ?_)
  exact QW.retCC rfl () trivial rfl rfl (List.Mem.tail _ Zh) Zh rfl rfl rfl rfl rfl ((Z114 _).trans hl) rfl rfl rfl ((Z114 _).trans hgl) rfl (fun _ m => m.tail.tail)
end Go.Fw.Tryd
namespace Go.Fw.Tryd
open Go Go.Proofs
attribute [local irreducible] permTo roundL movedL chiL sumTo
theorem perm_does (w0 : World) (M : List Ent) (a : List (BitVec 64)) (ha : a.length = 25) : Does Tryd.prog 79 [.agg (u64s a).toArray] w0 M (τ := Unit) (fun _ => True) (fun _ => .agg (u64s (permL a)).toArray) (fun _ => M) := by
 have hpe : permL a = permTo a 24 := rfl
 have hp0 : permTo a 0 = a := permTo_zero a
 have hst : ∀ t, permTo a (t + 1) = roundL (permTo a t) (g64 roundsL t) := fun t => permTo_succ a t
 have htl : turnsL.length = 25 := rfl
 have hgl : goesL.length = 25 := rfl
 have hrl : roundsL.length = 24 := rfl
 have hz25 : (List.replicate 25 0#64).length = 25 := List.length_replicate ..
 rw [hpe]
 refine Does.enter Tryd.func79 rfl Tryd.ntmps79 rfl (Z4 (Z2 (OW.boxA rfl rfl (fun b1 => (OW.alloc (l := u64s (List.replicate 25 0#64)) rfl (by rw [← Z119]; rfl) rfl (fun b2 => (Z6 ?_)))))))
 (refine Z1 ?_; refine Z4 ?_)
 refine Z2 (OW.call Tryd.call106 rfl (ways_does w0 _) rfl (fun u hu => (Z0 (Z3 rfl) rfl (Z0 (Z17 rfl rfl) rfl (Z0 (Z17 rfl rfl) rfl (OW.alloc (l := i64s (List.replicate 25 0)) rfl (by rw [← i64s_rep]; rfl) rfl (fun b3 => (OW.alloc (l := i64s (List.replicate 25 0)) rfl (by rw [← i64s_rep]; rfl) rfl (fun b4 => ?_)))))))))
 refine OW.rot1 ?_; refine Z28 (Z104 rfl rfl rfl (i64s_one _) rfl (by assumption) (by assumption)) ?_
 refine OW.rot1 ?_; refine Z28 (Z104 rfl rfl rfl (i64s_one _) rfl (by assumption) (by assumption)) ?_
 refine Z6 ?_
 (refine Z1 ?_; refine Z4 ?_; refine Z4 ?_)
 refine Z2 (OW.call Tryd.call107 rfl (numbers_does w0 _) rfl (fun u hu => (Z0 (Z3 rfl) rfl (Z6 ?_))))
 (refine Z1 ?_; refine CW.block ?_)
 refine CW.loop (σ := Nat) (fun t => t ≤ 24) (fun t => [(1, ptr (some b1) 0), (2, ptr (some b2) 0), (3, ptr (some b3) 0), (4, ptr (some b4) 0), (19, .agg (u64s roundsL).toArray), (20, .int .i64 (t : Int))])
  (fun t => (some b1, blk (u64s (permTo a t)) 88) :: (some b4, blk (i64s goesL) 140) :: (some b3, blk (i64s turnsL) 140) :: (some b2, blk (u64s (List.replicate 25 0#64)) 88) :: M) (fun t => 24 - t) 0 (by omega) ⟨rfl, rfl, rfl, rfl, rfl, rfl, trivial⟩ (fun _ m => by rw [hp0]; exact m.rot3) ?_
 intro t ht
 have hal := permTo_length ha t
 refine Z4 (Z2 (Z0 (RV.lss rfl rfl) rfl (Z6 ?_)))
 (refine Z1 ?_; refine Z4 ?_)
 refine Z106 rfl (fun htlt => ?_) (fun htlt => ?_)
 ·have ht2 : t < 24 := by omega
  have hs := hst t
  generalize permTo a t = A at hal hs ⊢
  have grc : (u64s roundsL)[t]? = some (U64 (g64 roundsL t)) := Z111 (by omega)
  (refine CW.skip ?_; refine Z1 ?_; refine Z4 ?_; refine CW.block ?_; refine Z4 ?_)
  refine Z2 (Z0 (RV.indexV _ rfl rfl rfl rfl rfl rfl rfl (by omega) (by assumption)) rfl (Z0 (Z5 rfl) rfl (Z6 ?_)))
  (refine Z1 ?_; refine Z4 ?_)
  refine Z2 (OW.alloc (l := u64s (List.replicate 5 0#64)) rfl (by rw [← Z119]; rfl) rfl (fun b7 => (Z6 ?_)))
  (refine Z1 ?_; refine Z4 ?_; refine Z4 ?_)
  refine Z2 ?_
  refine Z0 (Z22 rfl (by (refine List.Mem.tail _ ?_; exact List.Mem.head _); done) rfl rfl rfl rfl ((Z100 _).trans (by assumption))) rfl ?_
  refine Z0 (Z3 rfl) rfl (Z6 ?_)
  (refine Z1 ?_; refine CW.block ?_)
  generalize g64 roundsL t = rc at hs ⊢
  refine CW.loop (σ := Nat × List (BitVec 64)) (fun s => s.1 ≤ 25 ∧ s.2.length = 5 ∧ ∀ x, x < 5 → g64 s.2 x = sumTo A x s.1) (fun s => [(1, ptr (some b1) 0), (2, ptr (some b2) 0), (3, ptr (some b3) 0), (4, ptr (some b4) 0), (6, U64 rc), (7, ptr (some b7) 0), (19, .agg (u64s roundsL).toArray), (20, .int .i64 (t : Int)), (23, .agg (u64s A).toArray), (24, .int .i64 (s.1 : Int))])
   (fun s => (some b7, blk (u64s s.2) 145) :: (some b1, blk (u64s A) 88) :: (some b4, blk (i64s goesL) 140) :: (some b3, blk (i64s turnsL) 140) :: (some b2, blk (u64s (List.replicate 25 0#64)) 88) :: M) (fun s => 25 - s.1) (0, List.replicate 5 0#64) ⟨by simp, rfl, fun x hx => by rw [sumTo_zero]; exact g64_zeros 5 x⟩ ⟨rfl, rfl, rfl, rfl, rfl, rfl, rfl, rfl, rfl, rfl, trivial⟩ (fun _ m => m) ?_
  rintro ⟨n, sm⟩ ⟨hn, hsm, he⟩
  dsimp only at hn hsm he ⊢
  refine Z4 (Z2 (Z0 (RV.lss rfl rfl) rfl (Z6 ?_)))
  (refine Z1 ?_; refine Z4 ?_)
  refine Z106 rfl (fun hlt => ?_) (fun hlt => ?_)
  ·have hn2 : n < 25 := by omega
   have ga : (u64s A)[n]? = some (U64 (g64 A n)) := Z111 (by omega)
   have et : 0 + ((n : Int) % 5).toNat = n % 5 := by omega
   have gs : (u64s sm)[0 + ((n : Int) % 5).toNat]? = some (U64 (g64 sm (n % 5))) := by rw [et]; exact Z111 (by omega)
   have hl2 : 0 + ((n : Int) % 5).toNat < (u64s sm).length := by rw [et, Z100]; omega
   (refine CW.skip ?_; refine Z1 ?_; refine Z4 ?_; refine CW.block ?_; refine Z4 ?_)
   refine Z2 (Z0 (Z3 rfl) rfl (Z0 (RV.indexV _ rfl rfl rfl rfl rfl rfl rfl (by omega) (by assumption)) rfl (Z0 (Z5 rfl) rfl (Z0 (Z5 rfl) rfl (Z6 (Z1 (Z2 (Z0 (Z3 rfl) rfl (Z0 (RV.rem rfl rfl (by omega) (by omega)) rfl ?_)))))))))
   refine Z0 (Z102 _ rfl rfl rfl rfl rfl (by omega)) rfl ?_
   refine Z0 (Z29 rfl (by exact List.Mem.head _; done) rfl rfl rfl (by assumption)) rfl ?_
   refine Z0 (Z3 rfl) rfl (Z0 (Z120 rfl rfl rfl rfl) rfl (Z0 (Z102 _ rfl rfl rfl rfl rfl (by omega)) rfl (Z28 (SV.store rfl rfl rfl rfl rfl (by assumption)) (Z6 ?_))))
   (refine Z27 ?_; refine Z1 ?_)
   refine Z2 (Z0 (RV.add rfl rfl (by omega)) rfl (Z0 (Z3 rfl) rfl (Z6 ?_)))
   refine Z116 (n + 1, sm.set (n % 5) (g64 sm (n % 5) ^^^ g64 A n)) ⟨by show n + 1 ≤ 25; omega, by simp [hsm], fun x hx => ?_⟩ (by show 25 - (n + 1) < 25 - n; omega) ⟨rfl, rfl, rfl, rfl, rfl, rfl, rfl, rfl, rfl, rfl, trivial⟩ (fun _ m => ?_)
   ·show g64 (sm.set (n % 5) (g64 sm (n % 5) ^^^ g64 A n)) x = sumTo A x (n + 1)
    rw [g64_set _ _ _ _ (by omega), sumTo_succ]
    by_cases hx2 : x = n % 5
    ·subst hx2; rw [if_pos rfl, if_pos rfl, he _ hx]
    ·rw [if_neg hx2, if_neg (Ne.symm hx2)]; exact he x hx
   ·first | rw [et, Z113] at m | rw [Nat.zero_add, Z113] at m
    exact m
  have hn25 : n = 25 := by omega
  subst hn25
  have hcol : ∀ x, x < 5 → g64 sm x = colS A x := fun x hx => (he x hx).trans (sumTo_all A x hx)
  clear he
  (refine CW.exit ?_; refine Z9 ?_; refine Z9 ?_; refine Z15 ?_; refine Z1 ?_; refine Z4 ?_)
  refine Z2 (OW.alloc (l := u64s (List.replicate 25 0#64)) rfl (by rw [← Z119]; rfl) rfl (fun b10 => (Z6 ?_)))
  (refine Z1 ?_; refine Z4 ?_; refine Z4 ?_)
  refine Z2 ?_
  refine Z0 (Z22 rfl (by (refine List.Mem.tail _ ?_; refine List.Mem.tail _ ?_; exact List.Mem.head _); done) rfl rfl rfl rfl ((Z100 _).trans (by assumption))) rfl ?_
  refine Z0 (Z3 rfl) rfl (Z6 ?_)
  (refine Z1 ?_; refine CW.block ?_)
  refine CW.loop (σ := Nat × List (BitVec 64)) (fun s => s.1 ≤ 25 ∧ s.2.length = 25 ∧ ∀ k, k < s.1 → g64 s.2 (goesN k) = movedE A k) (fun s => [(1, ptr (some b1) 0), (2, ptr (some b2) 0), (3, ptr (some b3) 0), (4, ptr (some b4) 0), (6, U64 rc), (7, ptr (some b7) 0), (10, ptr (some b10) 0), (19, .agg (u64s roundsL).toArray), (20, .int .i64 (t : Int)), (36, .agg (u64s A).toArray), (37, .int .i64 (s.1 : Int))])
   (fun s => (some b10, blk (u64s s.2) 88) :: (some b7, blk (u64s sm) 145) :: (some b1, blk (u64s A) 88) :: (some b4, blk (i64s goesL) 140) :: (some b3, blk (i64s turnsL) 140) :: (some b2, blk (u64s (List.replicate 25 0#64)) 88) :: M) (fun s => 25 - s.1) (0, List.replicate 25 0#64) ⟨by simp, hz25, fun k hk => by omega⟩ ⟨rfl, rfl, rfl, rfl, rfl, rfl, rfl, rfl, rfl, rfl, rfl, trivial⟩ (fun _ m => m) ?_
  rintro ⟨i, T⟩ ⟨hi, hT, he⟩
  dsimp only at hi hT he ⊢
  refine Z4 (Z2 (Z0 (RV.lss rfl rfl) rfl (Z6 ?_)))
  (refine Z1 ?_; refine Z4 ?_)
  refine Z106 rfl (fun hlt2 => ?_) (fun hlt2 => ?_)
  ·have hi2 : i < 25 := by omega
   have hg1 : goesN i < 25 := goes_lt ⟨i, hi2⟩
   have htr : 0 ≤ turnsL.getD i 0 ∧ turnsL.getD i 0 < 64 := turns_in ⟨i, hi2⟩
   have ga : (u64s A)[i]? = some (U64 (g64 A i)) := Z111 (by omega)
   have e4 : 0 + (((i : Int) + 4) % 5).toNat = (i + 4) % 5 := by omega
   have e1 : 0 + (((i : Int) + 1) % 5).toNat = (i + 1) % 5 := by omega
   have g4 : (u64s sm)[0 + (((i : Int) + 4) % 5).toNat]? = some (U64 (g64 sm ((i + 4) % 5))) := by rw [e4]; exact Z111 (by omega)
   have g1 : (u64s sm)[0 + (((i : Int) + 1) % 5).toNat]? = some (U64 (g64 sm ((i + 1) % 5))) := by rw [e1]; exact Z111 (by omega)
   have gg : (i64s goesL)[0 + i]? = some (.int .i64 (goesN i : Int)) := by rw [Nat.zero_add, i64s_get (by omega)]; exact congrArg (fun x => some (Value.int .i64 x)) (goesL_get hi2)
   have gt : (i64s turnsL)[0 + i]? = some (.int .i64 (turnsL.getD i 0)) := by rw [Nat.zero_add]; exact i64s_get (by omega)
   have hl2 : 0 + goesN i < (u64s T).length := by rw [Z100]; omega
   (refine CW.skip ?_; refine Z1 ?_; refine Z4 ?_; refine CW.block ?_; refine Z4 ?_)
   refine Z2 (Z0 (Z3 rfl) rfl (Z0 (RV.indexV _ rfl rfl rfl rfl rfl rfl rfl (by omega) (by assumption)) rfl (Z0 (Z5 rfl) rfl (Z0 (Z5 rfl) rfl (Z6 ?_)))))
   (refine Z1 ?_; refine Z4 ?_)
   refine CW.draws mixed (by kernel_rfl) (DW.rv (Z3 rfl) rfl (DW.rv (Z3 rfl) rfl (DW.rv (RV.add rfl rfl (by omega)) rfl (DW.rv (RV.rem rfl rfl (by omega) (by omega)) rfl (DW.rv (Z102 _ rfl rfl rfl rfl rfl (by omega)) rfl ?_)))))
   refine DW.rv (Z29 rfl (by (refine List.Mem.tail _ ?_; exact List.Mem.head _); done) rfl rfl rfl (by assumption)) rfl ?_
   refine DW.rv (Z3 rfl) rfl (DW.rv (RV.add rfl rfl (by omega)) rfl (DW.rv (RV.rem rfl rfl (by omega) (by omega)) rfl (DW.rv (Z102 _ rfl rfl rfl rfl rfl (by omega)) rfl ?_)))
   refine DW.rv (Z29 rfl (by (refine List.Mem.tail _ ?_; exact List.Mem.head _); done) rfl rfl rfl (by assumption)) rfl ?_
   refine DW.call _ Tryd.call108 rfl (rotl_does w0 _ _ 1 (by decide) (by decide)) (fun _ _ => rfl) (fun _ _ _ m => m) rfl (DW.rv (Z120 rfl rfl rfl rfl) rfl (DW.rv (Z120 rfl rfl rfl rfl) rfl (DW.rv (Z5 rfl) rfl (DW.nil (Z1 (CW.drawsT 9 mixed (by kernel_rfl) (TW.rv (Z3 rfl) rfl ?_)))))))
   refine TW.rv (Z102 _ rfl rfl rfl rfl rfl (by omega)) rfl ?_
   refine TW.rv (Z29 rfl (by (refine List.Mem.tail _ ?_; refine List.Mem.tail _ ?_; refine List.Mem.tail _ ?_; exact List.Mem.head _); done) rfl rfl rfl (by assumption)) rfl ?_
   refine TW.rv (Z3 rfl) rfl (TW.rv (Z3 rfl) rfl (TW.rv (Z102 _ rfl rfl rfl rfl rfl (by omega)) rfl ?_))
   refine TW.rv (Z29 rfl (by (refine List.Mem.tail _ ?_; refine List.Mem.tail _ ?_; refine List.Mem.tail _ ?_; refine List.Mem.tail _ ?_; exact List.Mem.head _); done) rfl rfl rfl (by assumption)) rfl ?_
   refine TW.call _ Tryd.call108 rfl (rotl_does w0 _ _ _ htr.1 htr.2) (fun _ _ => rfl) (fun _ _ _ m => m) rfl (TW.rv (Z102 _ rfl rfl rfl rfl rfl (by omega)) rfl (TW.nil (Z28 (SV.store rfl rfl rfl rfl rfl (by assumption)) (Z6 ?_))))
   (refine Z27 ?_; refine Z1 ?_)
   refine Z2 (Z0 (RV.add rfl rfl (by omega)) rfl (Z0 (Z3 rfl) rfl (Z6 ?_)))
   have ev : rotl (g64 A i ^^^ (g64 sm ((i + 4) % 5) ^^^ rotl (g64 sm ((i + 1) % 5)) (1 : Int).toNat)) (turnsL.getD i 0).toNat = movedE A i := by
    rw [hcol _ (by omega), hcol _ (by omega)]; rfl
   refine Z116 (i + 1, T.set (goesN i) (movedE A i)) ⟨by show i + 1 ≤ 25; omega, by simp [hT], fun k hk => ?_⟩ (by show 25 - (i + 1) < 25 - i; omega) ⟨rfl, rfl, rfl, rfl, rfl, rfl, rfl, rfl, rfl, rfl, rfl, trivial⟩ (fun _ m => ?_)
   ·have hk' : k < i + 1 := hk
    show g64 (T.set (goesN i) (movedE A i)) (goesN k) = movedE A k
    rw [g64_set _ _ _ _ (by omega)]
    by_cases hk2 : goesN k = goesN i
    ·have : (⟨k, by omega⟩ : Fin 25) = ⟨i, hi2⟩ := goes_inj ⟨k, by omega⟩ ⟨i, hi2⟩ hk2
     have hki : k = i := congrArg Fin.val this
     subst hki; rw [if_pos rfl]
    ·rw [if_neg hk2]
     exact he k (by
      rcases Nat.lt_or_ge k i with h | h
      ·exact h
      ·exact absurd (by rw [show k = i by omega]) hk2)
   ·rw [ev, Nat.zero_add, Z113] at m
    exact m
  have hi25 : i = 25 := by omega
  subst hi25
  have hTm : T = movedL A := moved_of hT he
  clear he
  subst hTm
  (repeat (first | refine Z4 ?_ | refine Z1 ?_ | refine CW.block ?_ | refine CW.ret ?_ | refine CW.skip ?_ | refine CW.exit ?_ | refine Z9 ?_ | refine Z8 ?_ | refine Z27 ?_ | refine Z15 ?_ | refine QW.block_xn rfl ?_ | refine Z16 ?_))
  refine Z2 (Z0 (Z5 rfl) rfl (Z6 ?_))
  (refine Z1 ?_; refine CW.block ?_)
  have hB : (movedL A).length = 25 := movedL_length A
  have hrd : roundL A rc = (chiL (movedL A)).set 0 (g64 (chiL (movedL A)) 0 ^^^ rc) := roundL_eq A rc
  generalize movedL A = B at hB hrd ⊢
  refine CW.loop (σ := Nat × List (BitVec 64)) (fun s => s.1 ≤ 5 ∧ s.2.length = 25 ∧ ∀ k, k < 5 * s.1 → g64 s.2 k = chiE B k) (fun s => [(1, ptr (some b1) 0), (2, ptr (some b2) 0), (3, ptr (some b3) 0), (4, ptr (some b4) 0), (6, U64 rc), (10, ptr (some b10) 0), (13, .int .i64 ((5 * s.1 : Nat) : Int)), (19, .agg (u64s roundsL).toArray), (20, .int .i64 (t : Int))])
   (fun s => (some b1, blk (u64s s.2) 88) :: (some b10, blk (u64s B) 88) :: (some b4, blk (i64s goesL) 140) :: (some b3, blk (i64s turnsL) 140) :: (some b2, blk (u64s (List.replicate 25 0#64)) 88) :: M) (fun s => 5 - s.1) (0, A) ⟨by simp, hal, fun k hk => by simp at hk⟩ ⟨rfl, rfl, rfl, rfl, rfl, rfl, rfl, rfl, rfl, trivial⟩ (fun _ m => (m.rot2).sublist (List.Sublist.cons_cons _ (List.Sublist.cons_cons _ (List.Sublist.cons _ (List.Sublist.refl _))))) ?_
  clear hn hi hlt hlt2 hcol hT hsm sm
  rintro ⟨r, l⟩ ⟨hr, hl, he⟩
  dsimp only at hr hl he ⊢
  (refine Z4 ?_; refine Z4 ?_)
  refine Z2 (Z0 (Z3 rfl) rfl (Z0 (RV.lss rfl rfl) rfl (Z6 (Z1 ?_))))
  refine Z106 rfl (fun hrlt => ?_) (fun hrlt => ?_)
  ·have hr2 : r < 5 := by omega
   (refine CW.skip ?_; refine Z1 ?_; refine Z4 ?_; refine CW.block ?_; refine Z4 ?_)
   refine Z2 (Z0 (Z3 rfl) rfl (Z6 ?_))
   (refine Z1 ?_; refine CW.block ?_)
   refine CW.loop (σ := Nat × List (BitVec 64)) (fun s => s.1 ≤ 5 ∧ s.2.length = 25 ∧ ∀ k, k < 5 * r + s.1 → g64 s.2 k = chiE B k) (fun s => [(1, ptr (some b1) 0), (2, ptr (some b2) 0), (3, ptr (some b3) 0), (4, ptr (some b4) 0), (6, U64 rc), (10, ptr (some b10) 0), (13, .int .i64 ((5 * r : Nat) : Int)), (19, .agg (u64s roundsL).toArray), (20, .int .i64 (t : Int)), (69, .int .i64 (s.1 : Int))])
    (fun s => (some b1, blk (u64s s.2) 88) :: (some b10, blk (u64s B) 88) :: (some b4, blk (i64s goesL) 140) :: (some b3, blk (i64s turnsL) 140) :: (some b2, blk (u64s (List.replicate 25 0#64)) 88) :: M) (fun s => 5 - s.1) (0, l) ⟨by simp, hl, he⟩ ⟨rfl, rfl, rfl, rfl, rfl, rfl, rfl, rfl, rfl, rfl, trivial⟩ (fun _ m => m) ?_
   clear he hl l
   rintro ⟨x, l⟩ ⟨hx, hl, he⟩
   dsimp only at hx hl he ⊢
   refine Z4 (Z2 (Z0 (RV.lss rfl rfl) rfl (Z6 ?_)))
   (refine Z1 ?_; refine Z4 ?_)
   refine Z106 rfl (fun hxlt => ?_) (fun hxlt => ?_)
   ·have hx2 : x < 5 := by omega
    have e0 : 0 + (((5 * r : Nat) : Int) + (x : Int)).toNat = 5 * r + x := by omega
    have e1 : 0 + (((5 * r : Nat) : Int) + ((x : Int) + 1) % 5).toNat = 5 * r + (x + 1) % 5 := by omega
    have e2 : 0 + (((5 * r : Nat) : Int) + ((x : Int) + 2) % 5).toNat = 5 * r + (x + 2) % 5 := by omega
    have q0 : (u64s B)[0 + (((5 * r : Nat) : Int) + (x : Int)).toNat]? = some (U64 (g64 B (5 * r + x))) := by rw [e0]; exact Z111 (by omega)
    have q1 : (u64s B)[0 + (((5 * r : Nat) : Int) + ((x : Int) + 1) % 5).toNat]? = some (U64 (g64 B (5 * r + (x + 1) % 5))) := by rw [e1]; exact Z111 (by omega)
    have q2 : (u64s B)[0 + (((5 * r : Nat) : Int) + ((x : Int) + 2) % 5).toNat]? = some (U64 (g64 B (5 * r + (x + 2) % 5))) := by rw [e2]; exact Z111 (by omega)
    have hl2 : 0 + (((5 * r : Nat) : Int) + (x : Int)).toNat < (u64s l).length := by rw [e0, Z100]; omega
    (refine CW.skip ?_; refine Z1 ?_; refine Z4 ?_; refine CW.block ?_; refine Z4 ?_)
    refine Z2 (Z0 (Z3 rfl) rfl (Z0 (Z5 rfl) rfl (Z6 (Z1 (CW.drawsT 26 mixed (by kernel_rfl) (TW.rv (Z3 rfl) rfl (TW.rv (Z3 rfl) rfl (TW.rv (RV.add rfl rfl (by omega)) rfl ?_))))))))
    refine TW.rv (Z3 rfl) rfl (TW.rv (Z3 rfl) rfl (TW.rv (RV.add rfl rfl (by omega)) rfl (TW.rv (Z102 _ rfl rfl rfl rfl rfl (by omega)) rfl ?_)))
    refine TW.rv (Z29 rfl (by (refine List.Mem.tail _ ?_; exact List.Mem.head _); done) rfl rfl rfl (by assumption)) rfl ?_
    refine TW.rv (Z3 rfl) rfl (TW.rv (Z3 rfl) rfl (TW.rv (RV.add rfl rfl (by omega)) rfl (TW.rv (RV.rem rfl rfl (by omega) (by omega)) rfl (TW.rv (RV.add rfl rfl (by omega)) rfl (TW.rv (Z102 _ rfl rfl rfl rfl rfl (by omega)) rfl ?_)))))
    refine TW.rv (Z29 rfl (by (refine List.Mem.tail _ ?_; exact List.Mem.head _); done) rfl rfl rfl (by assumption)) rfl ?_
    refine TW.rv (RV.compl64 rfl rfl) rfl (TW.rv (Z3 rfl) rfl (TW.rv (Z3 rfl) rfl (TW.rv (RV.add rfl rfl (by omega)) rfl (TW.rv (RV.rem rfl rfl (by omega) (by omega)) rfl (TW.rv (RV.add rfl rfl (by omega)) rfl (TW.rv (Z102 _ rfl rfl rfl rfl rfl (by omega)) rfl ?_))))))
    refine TW.rv (Z29 rfl (by (refine List.Mem.tail _ ?_; exact List.Mem.head _); done) rfl rfl rfl (by assumption)) rfl ?_
    refine TW.rv (RV.and64 rfl rfl rfl rfl) rfl (TW.rv (Z120 rfl rfl rfl rfl) rfl (TW.rv (Z102 _ rfl rfl rfl rfl rfl (by omega)) rfl (TW.nil (Z28 (SV.store rfl rfl rfl rfl rfl (by assumption)) (Z6 ?_)))))
    (refine Z27 ?_; refine Z1 ?_)
    refine Z2 (Z0 (RV.add rfl rfl (by omega)) rfl (Z0 (Z3 rfl) rfl (Z6 ?_)))
    have ec : chiE B (5 * r + x) = g64 B (5 * r + x) ^^^ (~~~ (g64 B (5 * r + (x + 1) % 5)) &&& g64 B (5 * r + (x + 2) % 5)) := by
     unfold chiE
     rw [show (5 * r + x) / 5 * 5 = 5 * r by omega, show (5 * r + x) % 5 = x by omega]
    refine Z116 (x + 1, l.set (5 * r + x) (chiE B (5 * r + x))) ⟨by show x + 1 ≤ 5; omega, by simp [hl], fun k hk => ?_⟩ (by show 5 - (x + 1) < 5 - x; omega) ⟨rfl, rfl, rfl, rfl, rfl, rfl, rfl, rfl, rfl, rfl, trivial⟩ (fun _ m => ?_)
    ·have hk' : k < 5 * r + (x + 1) := hk
     show g64 (l.set (5 * r + x) (chiE B (5 * r + x))) k = chiE B k
     rw [g64_set _ _ _ _ (by omega)]
     by_cases hk2 : k = 5 * r + x
     ·subst hk2; rw [if_pos rfl]
     ·rw [if_neg hk2]; exact he k (by omega)
    ·rw [ec]
     first | rw [e0, Z113] at m | rw [Nat.zero_add, Z113] at m
     exact m
   ·(refine CW.exit ?_; refine Z9 ?_; refine Z9 ?_; refine Z15 ?_; refine Z27 ?_; refine Z1 ?_)
    refine Z2 (Z0 (Z3 rfl) rfl (Z0 (RV.add rfl rfl (by omega)) rfl (Z0 (Z5 rfl) rfl (Z6 ?_))))
    exact Z116 (r + 1, l) ⟨by show r + 1 ≤ 5; omega, hl, fun k hk => he k (by have hk' : k < 5 * (r + 1) := hk; omega)⟩ (by show 5 - (r + 1) < 5 - r; omega) ⟨rfl, rfl, rfl, rfl, rfl, rfl, rfl, rfl, rfl, trivial⟩ (fun _ m => m)
  have hr5 : r = 5 := by omega
  subst hr5
  have hch : l = chiL B := chi_of hl he
  clear he
  subst hch
  have hcl : (chiL B).length = 25 := chiL_length B
  generalize chiL B = C at hrd hcl ⊢
  have q0 : (u64s C)[0 + 0]? = some (U64 (g64 C 0)) := Z111 (by omega)
  have hl0 : 0 + 0 < (u64s C).length := by rw [Z100]; omega
  (refine CW.exit ?_; refine Z9 ?_; refine Z9 ?_; refine Z15 ?_; refine Z1 ?_)
  refine Z2 (Z0 (Z102 _ rfl rfl rfl rfl rfl (by omega)) rfl ?_)
  refine Z0 (Z29 rfl (by exact List.Mem.head _; done) rfl rfl rfl (by assumption)) rfl ?_
  refine Z0 (Z3 rfl) rfl (Z0 (Z120 rfl rfl rfl rfl) rfl (Z0 (Z102 _ rfl rfl rfl rfl rfl (by omega)) rfl (Z28 (SV.store rfl rfl rfl rfl rfl (by assumption)) (Z6 ?_))))
  (refine Z27 ?_; refine Z1 ?_)
  refine Z2 (Z0 (RV.add rfl rfl (by omega)) rfl (Z0 (Z3 rfl) rfl (Z6 (Z116 (t + 1) (by omega) (by omega) ⟨rfl, rfl, rfl, rfl, rfl, rfl, trivial⟩ (fun _ m => ?_)))))
  rw [hs, hrd, ← Z113]
  exact m.sublist (List.Sublist.cons_cons _ (List.Sublist.cons _ (List.Sublist.refl _)))
 ·have ht2 : t = 24 := by omega
  subst ht2
  generalize permTo a 24 = A at hal ⊢
  (refine CW.exit ?_; refine Z9 ?_; refine Z9 ?_; refine Z15 ?_; refine Z1 ?_; refine Z4 ?_)
  refine Z2 ?_
  refine Z0 (Z22 rfl (by exact List.Mem.head _; done) rfl rfl rfl rfl ((Z100 _).trans (by assumption))) rfl ?_
  refine OW.rot3 ?_; refine Z28 (Z104 rfl rfl rfl (Z124 _) rfl (by assumption) ((Z100 _).trans (by assumption))) ?_
  refine Z6 ?_
  (refine Z1 ?_; refine CW.ret ?_)
  exact QW.retC1 rfl () trivial rfl Zh rfl rfl rfl rfl ((Z100 _).trans hal) rfl (fun _ m => m.sublist (by repeat (first | exact List.Sublist.refl _ | refine List.Sublist.cons _ ?_)))
end Go.Fw.Tryd
namespace Go.Fw
def bt (x : BitVec 64) (z : Nat) : Bool := x.getLsbD (z % 64)
def dl (a b : List (BitVec 64)) (i z : Nat) : Bool := bt (g64 a i) z ^^ bt (g64 b i) z
def dc (a b : List (BitVec 64)) (x z : Nat) : Bool := bt (colS a (x % 5)) z ^^ bt (colS b (x % 5)) z
end Go.Fw
namespace Go.Fw
def keccak_Permute (v : Vector (BitVec 64) 25) : Option (Vector (BitVec 64) 25) := some ⟨(permL v.toList).toArray, by simp only [List.size_toArray]; exact permTo_length Zv 24⟩
theorem keccak_Permute_list {v r : Vector (BitVec 64) 25} (h : keccak_Permute v = some r) : r.toList = permL v.toList := by
 cases h
 rfl
def firstL : List (BitVec 8) := [1#8, 6#8]
end Go.Fw
namespace Go.Fw.Tryd
open Go Go.Proofs Go.Fw
theorem keccak_Permute_does (w0 : World) (Φ : Ctx) (N : List Ent) (hΦ : ∀ w, Mem w0 w N → Φ w) (a0 res0 : Vector (BitVec 64) 25) (hf : keccak_Permute a0 = some res0) : DoesG Tryd.prog 79 [.agg (u64s a0.toList).toArray] w0 [] N (fun v G => v = .agg (u64s res0.toList).toArray) := by
  have h := Does.toG (perm_does w0 N a0.toList Zv)
  rw [← keccak_Permute_list hf] at h
  exact h.mono fun v G h => h.1
end Go.Fw.Tryd
namespace Go.Fw.Tryd
open Go Go.Proofs
attribute [local irreducible] permTo roundL movedL chiL sumTo
theorem at_does (w0 : World) (M : List Ent) (a b : Int) (ha : 0 ≤ a ∧ a < 100) (hb : 0 ≤ b ∧ b < 100) : Does Tryd.prog 125 [.int .i64 a, .int .i64 b] w0 M (τ := Unit) (fun _ => True) (fun _ => .int .i64 (a % 5 + 5 * (b % 5))) (fun _ => M) := by
 refine Does.enter Tryd.func125 rfl Tryd.ntmps125 rfl (Z4 (Z2 (Z0 (Z5 rfl) rfl (Z6 ?_))))
 (refine Z1 ?_; refine Z4 ?_)
 refine Z2 (Z0 (Z3 rfl) rfl (Z0 (RV.rem rfl rfl (by omega) (by omega)) rfl (Z0 (Z3 rfl) rfl (Z0 (RV.rem rfl rfl (by omega) (by omega)) rfl (Z0 (RV.mul rfl rfl (by omega)) rfl (Z0 (RV.add rfl rfl (by omega)) rfl (Z0 (Z5 rfl) rfl ?_)))))))
 refine Z6 ?_
 (refine Z1 ?_; refine CW.ret ?_)
 exact QW.ret1 rfl () trivial rfl (fun _ m => m)
theorem at_is (w0 : World) (M : List Ent) (a b : Int) (ha : 0 ≤ a ∧ a < 100) (hb : 0 ≤ b ∧ b < 100) {v : Nat} (hv : a % 5 + 5 * (b % 5) = v) : Does Tryd.prog 125 [.int .i64 a, .int .i64 b] w0 M (τ := Unit) (fun _ => True) (fun _ => .int .i64 (v : Int)) (fun _ => M) := hv ▸ at_does w0 M a b ha hb
theorem Rot_does (w0 : World) (M : List Ent) (x : BitVec 64) (k : Int) (h0 : 0 ≤ k) (h1 : k < 64) : Does Tryd.prog 126 [U64 x, .int .i64 k] w0 M (τ := Unit) (fun _ => True) (fun _ => U64 (rotl x k.toNat)) (fun _ => M) := by
 refine Does.enter Tryd.func126 rfl Tryd.ntmps126 rfl (Z4 (Z2 (Z0 (Z5 rfl) rfl (Z6 ?_))))
 (refine Z1 ?_; refine Z4 ?_; refine Z4 ?_)
 refine Z2 (Z0 (Z3 rfl) rfl (Z0 (RV.eql rfl rfl) rfl (Z6 (Z1 ?_))))
 refine Z106 rfl (fun h => ?_) (fun h => ?_)
 ·refine Z4 (Z2 (Z0 (Z3 rfl) rfl (Z0 (Z5 rfl) rfl (Z6 ?_))))
  (refine Z1 ?_; refine CW.ret ?_; refine Z8 ?_)
  refine QW.ret1 rfl () trivial ?_ (fun _ m => m)
  have h' : k = 0 := h
  subst h'
  have e : rotl x (0 : Int).toNat = x := by
   have hs : x >>> 64 = 0#64 := by
    apply BitVec.eq_of_getLsbD_eq
    intro i hi
    simp
   unfold rotl
   show x <<< 0 ||| x >>> (64 - 0) = x
   rw [show 64 - 0 = 64 from rfl, hs, BitVec.shiftLeft_zero, BitVec.or_zero]
  rw [e]; rfl
 ·(refine CW.skip ?_; refine Z1 ?_; refine Z4 ?_)
  refine Z2 (Z0 (Z3 rfl) rfl (Z0 (Z3 rfl) rfl (Z0 (RV.conv_i64 rfl rfl rfl) rfl (Z0 (RV.shl64 rfl rfl rfl rfl) rfl (Z0 (Z3 rfl) rfl (Z0 (Z3 rfl) rfl (Z0 (RV.sub rfl rfl (by omega)) rfl ?_)))))))
  refine Z0 (RV.conv_i64 rfl rfl rfl) rfl (Z0 (RV.shr64 rfl rfl rfl rfl) rfl (Z0 (RV.or64 rfl rfl rfl rfl) rfl (Z0 (Z5 rfl) rfl (Z6 ?_))))
  (refine Z1 ?_; refine CW.ret ?_)
  refine QW.ret1 rfl () trivial ?_ (fun _ m => m)
  have e1 : (BitVec.ofInt 64 k).toNat = k.toNat := by rw [BitVec.toNat_ofInt]; omega
  have e2 : (BitVec.ofInt 64 (64 - k)).toNat = 64 - k.toNat := by rw [BitVec.toNat_ofInt]; omega
  have e : x <<< (BitVec.ofInt 64 k).toNat ||| x >>> (BitVec.ofInt 64 (64 - k)).toNat = rotl x k.toNat := by rw [e1, e2]; rfl
  rw [← e]; rfl
theorem columns_does (w0 : World) (M : List Ent) (a : List (BitVec 64)) (ha : a.length = 25) : Does Tryd.prog 109 [.agg (u64s a).toArray] w0 M (τ := Unit) (fun _ => True) (fun _ => .agg (u64s ((List.range 25).map (thetaE a))).toArray) (fun _ => M) := by
 have hz25 : (List.replicate 25 0#64).length = 25 := List.length_replicate ..
 refine Does.enter Tryd.func109 rfl Tryd.ntmps109 rfl (Z4 (Z2 (OW.boxA rfl rfl (fun b1 => (OW.alloc (l := u64s (List.replicate 25 0#64)) rfl (by rw [← Z119]; rfl) rfl (fun b2 => (Z6 ?_)))))))
 (refine Z1 ?_; refine Z4 ?_)
 refine Z2 (OW.alloc (l := u64s (List.replicate 5 0#64)) rfl (by rw [← Z119]; rfl) rfl (fun b3 => (Z6 ?_)))
 (refine Z1 ?_; refine Z4 ?_; refine Z4 ?_)
 refine Z2 (Z0 (Z5 rfl) rfl (Z6 ?_))
 (refine Z1 ?_; refine CW.block ?_)
 refine CW.loop (σ := Nat × List (BitVec 64)) (fun s => s.1 ≤ 5 ∧ s.2.length = 5 ∧ ∀ x, x < s.1 → g64 s.2 x = colS a x) (fun s => [(1, ptr (some b1) 0), (2, ptr (some b2) 0), (3, ptr (some b3) 0), (4, .int .i64 (s.1 : Int))])
  (fun s => (some b3, blk (u64s s.2) 145) :: (some b2, blk (u64s (List.replicate 25 0#64)) 88) :: (some b1, blk (u64s a) 88) :: M) (fun s => 5 - s.1) (0, List.replicate 5 0#64) ⟨by simp, rfl, fun x hx => by omega⟩ ⟨rfl, rfl, rfl, rfl, trivial⟩ (fun _ m => m) ?_
 rintro ⟨x, c⟩ ⟨hx, hc, he⟩
 dsimp only at hx hc he ⊢
 (refine Z4 ?_; refine Z4 ?_)
 refine Z2 (Z0 (Z3 rfl) rfl (Z0 (RV.lss rfl rfl) rfl (Z6 (Z1 ?_))))
 refine Z106 rfl (fun hlt => ?_) (fun hlt => ?_)
 ·have hx2 : x < 5 := by omega
  have q : ∀ y : Nat, y < 5 → (u64s a)[0 + (x + 5 * y)]? = some (U64 (g64 a (x + 5 * y))) := fun y hy => by rw [Nat.zero_add]; exact Z111 (by omega)
  have q0 := q 0 (by decide)
  have q1 := q 1 (by decide)
  have q2 := q 2 (by decide)
  have q3 := q 3 (by decide)
  have q4 := q 4 (by decide)
  have hl2 : 0 + x < (u64s c).length := by rw [Z100]; omega
  (refine CW.skip ?_; refine Z1 ?_; refine Z4 ?_; refine CW.block ?_)
  refine CW.drawsT 26 mixed (by kernel_rfl) (TW.rv (Z3 rfl) rfl (TW.rv (Z3 rfl) rfl (TW.call _ Tryd.call125 rfl (at_is w0 _ _ _ (by omega) (by omega) (v := x + 5 * 0) (by omega)) (fun _ _ => rfl) (fun _ _ _ m => m) rfl (TW.rv (Z102 _ rfl rfl rfl rfl rfl (by omega)) rfl ?_))))
  refine TW.rv (Z29 rfl (by (refine List.Mem.tail _ ?_; refine List.Mem.tail _ ?_; exact List.Mem.head _); done) rfl rfl rfl (by assumption)) rfl ?_
  refine TW.rv (Z3 rfl) rfl (TW.call _ Tryd.call125 rfl (at_is w0 _ _ _ (by omega) (by omega) (v := x + 5 * 1) (by omega)) (fun _ _ => rfl) (fun _ _ _ m => m) rfl (TW.rv (Z102 _ rfl rfl rfl rfl rfl (by omega)) rfl ?_))
  refine TW.rv (Z29 rfl (by (refine List.Mem.tail _ ?_; refine List.Mem.tail _ ?_; exact List.Mem.head _); done) rfl rfl rfl (by assumption)) rfl ?_
  refine TW.rv (Z120 rfl rfl rfl rfl) rfl (TW.rv (Z3 rfl) rfl (TW.call _ Tryd.call125 rfl (at_is w0 _ _ _ (by omega) (by omega) (v := x + 5 * 2) (by omega)) (fun _ _ => rfl) (fun _ _ _ m => m) rfl (TW.rv (Z102 _ rfl rfl rfl rfl rfl (by omega)) rfl ?_)))
  refine TW.rv (Z29 rfl (by (refine List.Mem.tail _ ?_; refine List.Mem.tail _ ?_; exact List.Mem.head _); done) rfl rfl rfl (by assumption)) rfl ?_
  refine TW.rv (Z120 rfl rfl rfl rfl) rfl (TW.rv (Z3 rfl) rfl (TW.call _ Tryd.call125 rfl (at_is w0 _ _ _ (by omega) (by omega) (v := x + 5 * 3) (by omega)) (fun _ _ => rfl) (fun _ _ _ m => m) rfl (TW.rv (Z102 _ rfl rfl rfl rfl rfl (by omega)) rfl ?_)))
  refine TW.rv (Z29 rfl (by (refine List.Mem.tail _ ?_; refine List.Mem.tail _ ?_; exact List.Mem.head _); done) rfl rfl rfl (by assumption)) rfl ?_
  refine TW.rv (Z120 rfl rfl rfl rfl) rfl (TW.rv (Z3 rfl) rfl (TW.call _ Tryd.call125 rfl (at_is w0 _ _ _ (by omega) (by omega) (v := x + 5 * 4) (by omega)) (fun _ _ => rfl) (fun _ _ _ m => m) rfl (TW.rv (Z102 _ rfl rfl rfl rfl rfl (by omega)) rfl ?_)))
  refine TW.rv (Z29 rfl (by (refine List.Mem.tail _ ?_; refine List.Mem.tail _ ?_; exact List.Mem.head _); done) rfl rfl rfl (by assumption)) rfl ?_
  refine TW.rv (Z120 rfl rfl rfl rfl) rfl (TW.rv (Z102 _ rfl rfl rfl rfl rfl (by omega)) rfl (TW.nil (Z28 (SV.store rfl rfl rfl rfl rfl (by assumption)) (Z6 ?_))))
  (refine Z27 ?_; refine Z1 ?_)
  refine Z2 (Z0 (Z3 rfl) rfl (Z0 (RV.add rfl rfl (by omega)) rfl (Z0 (Z5 rfl) rfl (Z6 ?_))))
  refine Z116 (x + 1, c.set x (colS a x)) ⟨by show x + 1 ≤ 5; omega, by simp [hc], fun k hk => ?_⟩ (by show 5 - (x + 1) < 5 - x; omega) ⟨rfl, rfl, rfl, rfl, trivial⟩ (fun _ m => ?_)
  ·have hk' : k < x + 1 := hk
   show g64 (c.set x (colS a x)) k = colS a k
   rw [g64_set _ _ _ _ (by omega)]
   by_cases hk2 : k = x
   ·subst hk2; rw [if_pos rfl]
   ·rw [if_neg hk2]; exact he k (by omega)
  ·rw [← Z113]
   rw [Nat.zero_add] at m
   exact m
 have hx5 : x = 5 := by omega
 subst hx5
 (refine CW.exit ?_; refine Z9 ?_; refine Z9 ?_; refine Z15 ?_; refine Z1 ?_; refine Z4 ?_)
 refine Z2 ?_
 refine Z0 (Z22 rfl (by (refine List.Mem.tail _ ?_; refine List.Mem.tail _ ?_; exact List.Mem.head _); done) rfl rfl rfl rfl ((Z100 _).trans (by assumption))) rfl ?_
 refine OW.alloc (l := u64s (List.replicate 25 0#64)) rfl (by rw [← Z119]; rfl) rfl (fun b5 => (Z28 (Z104 rfl rfl rfl (Z124 _) rfl (by assumption) ((Z100 _).trans (by assumption))) (Z6 ?_)))
 (refine Z1 ?_; refine Z4 ?_; refine Z4 ?_)
 refine Z2 (Z0 (Z5 rfl) rfl (Z6 ?_))
 (refine Z1 ?_; refine CW.block ?_)
 refine CW.loop (σ := Nat × List (BitVec 64)) (fun s => s.1 ≤ 5 ∧ s.2.length = 25 ∧ ∀ k, k < 25 → k % 5 < s.1 → g64 s.2 k = thetaE a k) (fun s => [(1, ptr (some b1) 0), (2, ptr (some b2) 0), (3, ptr (some b3) 0), (5, ptr (some b5) 0), (6, .int .i64 (s.1 : Int))])
  (fun s => (some b5, blk (u64s s.2) 88) :: (some b3, blk (u64s c) 145) :: (some b2, blk (u64s (List.replicate 25 0#64)) 88) :: (some b1, blk (u64s a) 88) :: M) (fun s => 5 - s.1) (0, a) ⟨by simp, ha, fun k _ h => by omega⟩ ⟨rfl, rfl, rfl, rfl, rfl, trivial⟩ (fun _ m => m) ?_
 rintro ⟨x, b⟩ ⟨hx, hb, hbe⟩
 dsimp only at hx hb hbe ⊢
 (refine Z4 ?_; refine Z4 ?_)
 refine Z2 (Z0 (Z3 rfl) rfl (Z0 (RV.lss rfl rfl) rfl (Z6 (Z1 ?_))))
 refine Z106 rfl (fun hxlt => ?_) (fun hxlt => ?_)
 ·have hx2 : x < 5 := by omega
  (refine CW.skip ?_; refine Z1 ?_; refine Z4 ?_; refine CW.block ?_; refine Z4 ?_)
  refine Z2 (Z0 (Z5 rfl) rfl (Z6 ?_))
  (refine Z1 ?_; refine CW.block ?_)
  refine CW.loop (σ := Nat × List (BitVec 64)) (fun s => s.1 ≤ 5 ∧ s.2.length = 25 ∧ ∀ k, k < 25 → (k % 5 < x ∨ (k % 5 = x ∧ k / 5 < s.1)) → g64 s.2 k = thetaE a k) (fun s => [(1, ptr (some b1) 0), (2, ptr (some b2) 0), (3, ptr (some b3) 0), (5, ptr (some b5) 0), (6, .int .i64 (x : Int)), (7, .int .i64 (s.1 : Int))])
   (fun s => (some b5, blk (u64s s.2) 88) :: (some b3, blk (u64s c) 145) :: (some b2, blk (u64s (List.replicate 25 0#64)) 88) :: (some b1, blk (u64s a) 88) :: M) (fun s => 5 - s.1) (0, b) ⟨by simp, hb, fun k h1 h2 => hbe k h1 (by omega)⟩ ⟨rfl, rfl, rfl, rfl, rfl, rfl, trivial⟩ (fun _ m => m) ?_
  clear hb hbe b
  rintro ⟨y, b⟩ ⟨hy, hb, hbe⟩
  dsimp only at hy hb hbe ⊢
  (refine Z4 ?_; refine Z4 ?_)
  refine Z2 (Z0 (Z3 rfl) rfl (Z0 (RV.lss rfl rfl) rfl (Z6 (Z1 ?_))))
  refine Z106 rfl (fun hylt => ?_) (fun hylt => ?_)
  ·have hy2 : y < 5 := by omega
   have qa : (u64s a)[0 + (x + 5 * y)]? = some (U64 (g64 a (x + 5 * y))) := by rw [Nat.zero_add]; exact Z111 (by omega)
   have e4 : 0 + (((x : Int) + 4) % 5).toNat = (x + 4) % 5 := by omega
   have e1 : 0 + (((x : Int) + 1) % 5).toNat = (x + 1) % 5 := by omega
   have g4 : (u64s c)[0 + (((x : Int) + 4) % 5).toNat]? = some (U64 (g64 c ((x + 4) % 5))) := by rw [e4]; exact Z111 (by omega)
   have g1 : (u64s c)[0 + (((x : Int) + 1) % 5).toNat]? = some (U64 (g64 c ((x + 1) % 5))) := by rw [e1]; exact Z111 (by omega)
   have hl2 : 0 + (x + 5 * y) < (u64s b).length := by rw [Z100]; omega
   (refine CW.skip ?_; refine Z1 ?_; refine Z4 ?_; refine CW.block ?_)
   refine CW.drawsT 22 mixed (by kernel_rfl) (TW.rv (Z3 rfl) rfl (TW.rv (Z3 rfl) rfl (TW.call _ Tryd.call125 rfl (at_is w0 _ _ _ (by omega) (by omega) (v := x + 5 * y) (by omega)) (fun _ _ => rfl) (fun _ _ _ m => m) rfl (TW.rv (Z3 rfl) rfl (TW.rv (Z3 rfl) rfl (TW.call _ Tryd.call125 rfl (at_is w0 _ _ _ (by omega) (by omega) (v := x + 5 * y) (by omega)) (fun _ _ => rfl) (fun _ _ _ m => m) rfl (TW.rv (Z102 _ rfl rfl rfl rfl rfl (by omega)) rfl ?_)))))))
   refine TW.rv (Z29 rfl (by (refine List.Mem.tail _ ?_; refine List.Mem.tail _ ?_; refine List.Mem.tail _ ?_; exact List.Mem.head _); done) rfl rfl rfl (by assumption)) rfl ?_
   refine TW.rv (Z3 rfl) rfl (TW.rv (RV.add rfl rfl (by omega)) rfl (TW.rv (RV.rem rfl rfl (by omega) (by omega)) rfl (TW.rv (Z102 _ rfl rfl rfl rfl rfl (by omega)) rfl ?_)))
   refine TW.rv (Z29 rfl (by (refine List.Mem.tail _ ?_; exact List.Mem.head _); done) rfl rfl rfl (by assumption)) rfl ?_
   refine TW.rv (Z120 rfl rfl rfl rfl) rfl (TW.rv (Z3 rfl) rfl (TW.rv (RV.add rfl rfl (by omega)) rfl (TW.rv (RV.rem rfl rfl (by omega) (by omega)) rfl (TW.rv (Z102 _ rfl rfl rfl rfl rfl (by omega)) rfl ?_))))
   refine TW.rv (Z29 rfl (by (refine List.Mem.tail _ ?_; exact List.Mem.head _); done) rfl rfl rfl (by assumption)) rfl ?_
   refine TW.call _ Tryd.call126 rfl (Rot_does w0 _ _ 1 (by decide) (by decide)) (fun _ _ => rfl) (fun _ _ _ m => m) rfl (TW.rv (Z120 rfl rfl rfl rfl) rfl (TW.rv (Z102 _ rfl rfl rfl rfl rfl (by omega)) rfl (TW.nil (Z28 (SV.store rfl rfl rfl rfl rfl (by assumption)) (Z6 ?_)))))
   (refine Z27 ?_; refine Z1 ?_)
   refine Z2 (Z0 (Z3 rfl) rfl (Z0 (RV.add rfl rfl (by omega)) rfl (Z0 (Z5 rfl) rfl (Z6 ?_))))
   have ev : g64 a (x + 5 * y) ^^^ g64 c ((x + 4) % 5) ^^^ rotl (g64 c ((x + 1) % 5)) (1 : Int).toNat = thetaE a (x + 5 * y) := by
    rw [he _ (by omega), he _ (by omega), BitVec.xor_assoc]
    unfold thetaE
    rw [show (x + 5 * y + 4) % 5 = (x + 4) % 5 by omega, show (x + 5 * y + 1) % 5 = (x + 1) % 5 by omega]; rfl
   refine Z116 (y + 1, b.set (x + 5 * y) (thetaE a (x + 5 * y))) ⟨by show y + 1 ≤ 5; omega, by simp [hb], fun k h1 h2 => ?_⟩ (by show 5 - (y + 1) < 5 - y; omega) ⟨rfl, rfl, rfl, rfl, rfl, rfl, trivial⟩ (fun _ m => ?_)
   ·have h2' : k % 5 < x ∨ (k % 5 = x ∧ k / 5 < y + 1) := h2
    show g64 (b.set (x + 5 * y) (thetaE a (x + 5 * y))) k = thetaE a k
    rw [g64_set _ _ _ _ (by omega)]
    by_cases hk2 : k = x + 5 * y
    ·subst hk2; rw [if_pos rfl]
    ·rw [if_neg hk2]; exact hbe k h1 (by omega)
   ·rw [ev, Nat.zero_add, Z113] at m
    exact m
  ·(refine CW.exit ?_; refine Z9 ?_; refine Z9 ?_; refine Z15 ?_; refine Z27 ?_; refine Z1 ?_)
   refine Z2 (Z0 (Z3 rfl) rfl (Z0 (RV.add rfl rfl (by omega)) rfl (Z0 (Z5 rfl) rfl (Z6 ?_))))
   exact Z116 (x + 1, b) ⟨by show x + 1 ≤ 5; omega, hb, fun k h1 h2 => hbe k h1 (by have h2' : k % 5 < x + 1 := h2; omega)⟩ (by show 5 - (x + 1) < 5 - x; omega) ⟨rfl, rfl, rfl, rfl, rfl, trivial⟩ (fun _ m => m)
 have hx5 : x = 5 := by omega
 subst hx5
 have eb : b = (List.range 25).map (thetaE a) := by
  refine ext25 hb (by simp) fun j hj => ?_
  rw [hbe j hj (by omega)]
  simp only [g64, List.getD, List.getElem?_map, List.getElem?_range hj, Option.map_some, Option.getD_some]
 rw [← eb]
 (refine CW.exit ?_; refine Z9 ?_; refine Z9 ?_; refine Z15 ?_; refine Z1 ?_; refine Z4 ?_)
 refine Z2 ?_
 refine Z0 (Z22 rfl (by exact List.Mem.head _; done) rfl rfl rfl rfl ((Z100 _).trans (by assumption))) rfl ?_
 refine OW.rot2 ?_; refine Z28 (Z104 rfl rfl rfl (Z124 _) rfl (by assumption) ((Z100 _).trans (by assumption))) ?_
 refine Z6 ?_
 (refine Z1 ?_; refine CW.ret ?_)
 exact QW.retC1 rfl () trivial rfl Zh rfl rfl rfl rfl ((Z100 _).trans hb) rfl (fun _ m => m.tail.tail.tail.tail)
end Go.Fw.Tryd
namespace Go.Fw.Tryd
open Go Go.Proofs
attribute [local irreducible] permTo roundL movedL chiL sumTo mvL
theorem moved_does (w0 : World) (M : List Ent) (hTn : ∀ i, i < 25 → w0.cell? ⟨4, i, none⟩ = some (.int .i64 (turnsL.getD i 0))) (a : List (BitVec 64)) (ha : a.length = 25) : Does Tryd.prog 110 [.agg (u64s a).toArray] w0 M (τ := Unit) (fun _ => True) (fun _ => .agg (u64s (mvL a)).toArray) (fun _ => M) := by
 have hz25 : (List.replicate 25 0#64).length = 25 := List.length_replicate ..
 refine Does.enter Tryd.func110 rfl Tryd.ntmps110 rfl (Z4 (Z2 (OW.boxA rfl rfl (fun b1 => (OW.alloc (l := u64s (List.replicate 25 0#64)) rfl (by rw [← Z119]; rfl) rfl (fun b2 => (Z6 ?_)))))))
 (refine Z1 ?_; refine Z4 ?_)
 refine Z2 (OW.alloc (l := u64s (List.replicate 25 0#64)) rfl (by rw [← Z119]; rfl) rfl (fun b3 => (Z6 ?_)))
 (refine Z1 ?_; refine Z4 ?_; refine Z4 ?_)
 refine Z2 (Z0 (Z5 rfl) rfl (Z6 ?_))
 (refine Z1 ?_; refine CW.block ?_)
 refine CW.loop (σ := Nat × List (BitVec 64)) (fun s => s.1 ≤ 5 ∧ s.2.length = 25 ∧ ∀ k, k < 25 → k % 5 < s.1 → g64 s.2 (goesN k) = rotl (g64 a k) (turnsL.getD k 0).toNat) (fun s => [(1, ptr (some b1) 0), (2, ptr (some b2) 0), (3, ptr (some b3) 0), (4, .int .i64 (s.1 : Int))])
  (fun s => (some b3, blk (u64s s.2) 88) :: (some b2, blk (u64s (List.replicate 25 0#64)) 88) :: (some b1, blk (u64s a) 88) :: M) (fun s => 5 - s.1) (0, List.replicate 25 0#64) ⟨by simp, hz25, fun k _ h => by omega⟩ ⟨rfl, rfl, rfl, rfl, trivial⟩ (fun _ m => m) ?_
 rintro ⟨x, b⟩ ⟨hx, hb, hbe⟩
 dsimp only at hx hb hbe ⊢
 (refine Z4 ?_; refine Z4 ?_)
 refine Z2 (Z0 (Z3 rfl) rfl (Z0 (RV.lss rfl rfl) rfl (Z6 (Z1 ?_))))
 refine Z106 rfl (fun hxlt => ?_) (fun hxlt => ?_)
 ·have hx2 : x < 5 := by omega
  (refine CW.skip ?_; refine Z1 ?_; refine Z4 ?_; refine CW.block ?_; refine Z4 ?_)
  refine Z2 (Z0 (Z5 rfl) rfl (Z6 ?_))
  (refine Z1 ?_; refine CW.block ?_)
  refine CW.loop (σ := Nat × List (BitVec 64)) (fun s => s.1 ≤ 5 ∧ s.2.length = 25 ∧ ∀ k, k < 25 → (k % 5 < x ∨ (k % 5 = x ∧ k / 5 < s.1)) → g64 s.2 (goesN k) = rotl (g64 a k) (turnsL.getD k 0).toNat) (fun s => [(1, ptr (some b1) 0), (2, ptr (some b2) 0), (3, ptr (some b3) 0), (4, .int .i64 (x : Int)), (5, .int .i64 (s.1 : Int))])
   (fun s => (some b3, blk (u64s s.2) 88) :: (some b2, blk (u64s (List.replicate 25 0#64)) 88) :: (some b1, blk (u64s a) 88) :: M) (fun s => 5 - s.1) (0, b) ⟨by simp, hb, fun k h1 h2 => hbe k h1 (by omega)⟩ ⟨rfl, rfl, rfl, rfl, rfl, trivial⟩ (fun _ m => m) ?_
  clear hb hbe b
  rintro ⟨y, b⟩ ⟨hy, hb, hbe⟩
  dsimp only at hy hb hbe ⊢
  (refine Z4 ?_; refine Z4 ?_)
  refine Z2 (Z0 (Z3 rfl) rfl (Z0 (RV.lss rfl rfl) rfl (Z6 (Z1 ?_))))
  refine Z106 rfl (fun hylt => ?_) (fun hylt => ?_)
  ·have hy2 : y < 5 := by omega
   have hi : x + 5 * y < 25 := by omega
   have hg1 : goesN (x + 5 * y) < 25 := goes_lt ⟨x + 5 * y, hi⟩
   have htr : 0 ≤ turnsL.getD (x + 5 * y) 0 ∧ turnsL.getD (x + 5 * y) 0 < 64 := turns_in ⟨x + 5 * y, hi⟩
   have qa : (u64s a)[0 + (x + 5 * y)]? = some (U64 (g64 a (x + 5 * y))) := by rw [Nat.zero_add]; exact Z111 (by omega)
   have qt : Mem.Says w0 M (fun w => w.cell? ((⟨4, 0, none⟩ : Addr).add (((x + 5 * y : Nat) : Int).toNat * 1)) = some (.int .i64 (turnsL.getD (x + 5 * y) 0))) := fun w m => m.oldSome (by rw [Z103, Nat.zero_add, Nat.mul_one, Int.toNat_natCast]; exact hTn _ hi)
   have hge : (y : Int) % 5 + 5 * ((2 * (x : Int) + 3 * (y : Int)) % 5) = (goesN (x + 5 * y) : Int) := by
    unfold goesN
    rw [show (x + 5 * y) / 5 = y by omega, show (x + 5 * y) % 5 = x by omega, show 2 * (x : Int) + 3 * (y : Int) = ((2 * x + 3 * y : Nat) : Int) by omega]; omega
   have hl2 : 0 + goesN (x + 5 * y) < (u64s b).length := by rw [Z100]; omega
   (refine CW.skip ?_; refine Z1 ?_; refine Z4 ?_; refine CW.block ?_)
   refine CW.drawsT 19 mixed (by kernel_rfl) (TW.rv (Z3 rfl) rfl (TW.rv (Z3 rfl) rfl (TW.rv (RV.mul rfl rfl (by omega)) rfl (TW.rv (Z3 rfl) rfl (TW.rv (RV.mul rfl rfl (by omega)) rfl (TW.rv (RV.add rfl rfl (by omega)) rfl (TW.call _ Tryd.call125 rfl (at_is w0 _ _ _ (by omega) (by omega) hge) (fun _ _ => rfl) (fun _ _ _ m => m) rfl ?_)))))))
   refine TW.rv (Z3 rfl) rfl (TW.rv (Z3 rfl) rfl (TW.call _ Tryd.call125 rfl (at_is w0 _ _ _ (by omega) (by omega) (v := x + 5 * y) (by omega)) (fun _ _ => rfl) (fun _ _ _ m => m) rfl (TW.rv (Z102 _ rfl rfl rfl rfl rfl (by omega)) rfl ?_)))
   refine TW.rv (Z29 rfl (by (refine List.Mem.tail _ ?_; refine List.Mem.tail _ ?_; exact List.Mem.head _); done) rfl rfl rfl (by assumption)) rfl ?_
   refine TW.rv (Z3 rfl) rfl (TW.rv (Z3 rfl) rfl (TW.call _ Tryd.call125 rfl (at_is w0 _ _ _ (by omega) (by omega) (v := x + 5 * y) (by omega)) (fun _ _ => rfl) (fun _ _ _ m => m) rfl (TW.rv (RV.idx_arr_at rfl rfl rfl rfl (by omega) (by omega)) rfl ?_)))
   refine TW.rv (Z21 rfl rfl rfl (by (refine Mem.Says.cons ?_; refine Mem.Says.cons ?_; refine Mem.Says.cons ?_; assumption); done)) rfl ?_
   refine TW.call _ Tryd.call126 rfl (Rot_does w0 _ _ _ htr.1 htr.2) (fun _ _ => rfl) (fun _ _ _ m => m) rfl (TW.rv (Z102 _ rfl rfl rfl rfl rfl (by omega)) rfl (TW.nil (Z28 (SV.store rfl rfl rfl rfl rfl (by assumption)) (Z6 ?_))))
   (refine Z27 ?_; refine Z1 ?_)
   refine Z2 (Z0 (Z3 rfl) rfl (Z0 (RV.add rfl rfl (by omega)) rfl (Z0 (Z5 rfl) rfl (Z6 ?_))))
   refine Z116 (y + 1, b.set (goesN (x + 5 * y)) (rotl (g64 a (x + 5 * y)) (turnsL.getD (x + 5 * y) 0).toNat)) ⟨by show y + 1 ≤ 5; omega, by simp [hb], fun k h1 h2 => ?_⟩ (by show 5 - (y + 1) < 5 - y; omega) ⟨rfl, rfl, rfl, rfl, rfl, trivial⟩ (fun _ m => ?_)
   ·have h2' : k % 5 < x ∨ (k % 5 = x ∧ k / 5 < y + 1) := h2
    show g64 (b.set (goesN (x + 5 * y)) _) (goesN k) = _
    rw [g64_set _ _ _ _ (by omega)]
    by_cases hk2 : goesN k = goesN (x + 5 * y)
    ·have := congrArg Fin.val (goes_inj ⟨k, h1⟩ ⟨x + 5 * y, hi⟩ hk2)
     simp only at this
     subst this; rw [if_pos rfl]
    ·rw [if_neg hk2]
     refine hbe k h1 ?_
     by_cases hk3 : k = x + 5 * y
     ·exact absurd (by rw [hk3]) hk2
     ·omega
   ·rw [Nat.zero_add, Z113] at m
    exact m
  ·(refine CW.exit ?_; refine Z9 ?_; refine Z9 ?_; refine Z15 ?_; refine Z27 ?_; refine Z1 ?_)
   refine Z2 (Z0 (Z3 rfl) rfl (Z0 (RV.add rfl rfl (by omega)) rfl (Z0 (Z5 rfl) rfl (Z6 ?_))))
   exact Z116 (x + 1, b) ⟨by show x + 1 ≤ 5; omega, hb, fun k h1 h2 => hbe k h1 (by have h2' : k % 5 < x + 1 := h2; omega)⟩ (by show 5 - (x + 1) < 5 - x; omega) ⟨rfl, rfl, rfl, rfl, trivial⟩ (fun _ m => m)
 have hx5 : x = 5 := by omega
 subst hx5
 have eb : b = mvL a := mvL_of hb (fun i hi => hbe i hi (by omega))
 rw [← eb]
 (refine CW.exit ?_; refine Z9 ?_; refine Z9 ?_; refine Z15 ?_; refine Z1 ?_; refine Z4 ?_)
 refine Z2 ?_
 refine Z0 (Z22 rfl (by exact List.Mem.head _; done) rfl rfl rfl rfl ((Z100 _).trans (by assumption))) rfl ?_
 refine OW.rot1 ?_; refine Z28 (Z104 rfl rfl rfl (Z124 _) rfl (by assumption) ((Z100 _).trans (by assumption))) ?_
 refine Z6 ?_
 (refine Z1 ?_; refine CW.ret ?_)
 exact QW.retC1 rfl () trivial rfl Zh rfl rfl rfl rfl ((Z100 _).trans hb) rfl (fun _ m => m.tail.tail.tail)
theorem mixed_does (w0 : World) (M : List Ent) (a : List (BitVec 64)) (ha : a.length = 25) : Does Tryd.prog 111 [.agg (u64s a).toArray] w0 M (τ := Unit) (fun _ => True) (fun _ => .agg (u64s (chiL a)).toArray) (fun _ => M) := by
 have hz25 : (List.replicate 25 0#64).length = 25 := List.length_replicate ..
 refine Does.enter Tryd.func111 rfl Tryd.ntmps111 rfl (Z4 (Z2 (OW.boxA rfl rfl (fun b1 => (OW.alloc (l := u64s (List.replicate 25 0#64)) rfl (by rw [← Z119]; rfl) rfl (fun b2 => (Z6 ?_)))))))
 (refine Z1 ?_; refine Z4 ?_)
 refine Z2 (OW.alloc (l := u64s (List.replicate 25 0#64)) rfl (by rw [← Z119]; rfl) rfl (fun b3 => (Z6 ?_)))
 (refine Z1 ?_; refine Z4 ?_; refine Z4 ?_)
 refine Z2 (Z0 (Z5 rfl) rfl (Z6 ?_))
 (refine Z1 ?_; refine CW.block ?_)
 refine CW.loop (σ := Nat × List (BitVec 64)) (fun s => s.1 ≤ 5 ∧ s.2.length = 25 ∧ ∀ k, k < 25 → k % 5 < s.1 → g64 s.2 k = chiE a k) (fun s => [(1, ptr (some b1) 0), (2, ptr (some b2) 0), (3, ptr (some b3) 0), (4, .int .i64 (s.1 : Int))])
  (fun s => (some b3, blk (u64s s.2) 88) :: (some b2, blk (u64s (List.replicate 25 0#64)) 88) :: (some b1, blk (u64s a) 88) :: M) (fun s => 5 - s.1) (0, List.replicate 25 0#64) ⟨by simp, hz25, fun k _ h => by omega⟩ ⟨rfl, rfl, rfl, rfl, trivial⟩ (fun _ m => m) ?_
 rintro ⟨x, b⟩ ⟨hx, hb, hbe⟩
 dsimp only at hx hb hbe ⊢
 (refine Z4 ?_; refine Z4 ?_)
 refine Z2 (Z0 (Z3 rfl) rfl (Z0 (RV.lss rfl rfl) rfl (Z6 (Z1 ?_))))
 refine Z106 rfl (fun hxlt => ?_) (fun hxlt => ?_)
 ·have hx2 : x < 5 := by omega
  (refine CW.skip ?_; refine Z1 ?_; refine Z4 ?_; refine CW.block ?_; refine Z4 ?_)
  refine Z2 (Z0 (Z5 rfl) rfl (Z6 ?_))
  (refine Z1 ?_; refine CW.block ?_)
  refine CW.loop (σ := Nat × List (BitVec 64)) (fun s => s.1 ≤ 5 ∧ s.2.length = 25 ∧ ∀ k, k < 25 → (k % 5 < x ∨ (k % 5 = x ∧ k / 5 < s.1)) → g64 s.2 k = chiE a k) (fun s => [(1, ptr (some b1) 0), (2, ptr (some b2) 0), (3, ptr (some b3) 0), (4, .int .i64 (x : Int)), (5, .int .i64 (s.1 : Int))])
   (fun s => (some b3, blk (u64s s.2) 88) :: (some b2, blk (u64s (List.replicate 25 0#64)) 88) :: (some b1, blk (u64s a) 88) :: M) (fun s => 5 - s.1) (0, b) ⟨by simp, hb, fun k h1 h2 => hbe k h1 (by omega)⟩ ⟨rfl, rfl, rfl, rfl, rfl, trivial⟩ (fun _ m => m) ?_
  clear hb hbe b
  rintro ⟨y, b⟩ ⟨hy, hb, hbe⟩
  dsimp only at hy hb hbe ⊢
  (refine Z4 ?_; refine Z4 ?_)
  refine Z2 (Z0 (Z3 rfl) rfl (Z0 (RV.lss rfl rfl) rfl (Z6 (Z1 ?_))))
  refine Z106 rfl (fun hylt => ?_) (fun hylt => ?_)
  ·have hy2 : y < 5 := by omega
   have q : ∀ p, p < 25 → (u64s a)[0 + p]? = some (U64 (g64 a p)) := fun p hp => by rw [Nat.zero_add]; exact Z111 (by omega)
   have q0 := q (x + 5 * y) (by omega)
   have q1 := q ((x + 1) % 5 + 5 * y) (by omega)
   have q2 := q ((x + 2) % 5 + 5 * y) (by omega)
   have hl2 : 0 + (x + 5 * y) < (u64s b).length := by rw [Z100]; omega
   (refine CW.skip ?_; refine Z1 ?_; refine Z4 ?_; refine CW.block ?_)
   refine CW.drawsT 24 mixed (by kernel_rfl) (TW.rv (Z3 rfl) rfl (TW.rv (Z3 rfl) rfl (TW.call _ Tryd.call125 rfl (at_is w0 _ _ _ (by omega) (by omega) (v := x + 5 * y) (by omega)) (fun _ _ => rfl) (fun _ _ _ m => m) rfl (TW.rv (Z3 rfl) rfl (TW.rv (Z3 rfl) rfl (TW.call _ Tryd.call125 rfl (at_is w0 _ _ _ (by omega) (by omega) (v := x + 5 * y) (by omega)) (fun _ _ => rfl) (fun _ _ _ m => m) rfl (TW.rv (Z102 _ rfl rfl rfl rfl rfl (by omega)) rfl ?_)))))))
   refine TW.rv (Z29 rfl (by (refine List.Mem.tail _ ?_; refine List.Mem.tail _ ?_; exact List.Mem.head _); done) rfl rfl rfl (by assumption)) rfl ?_
   refine TW.rv (Z3 rfl) rfl (TW.rv (RV.add rfl rfl (by omega)) rfl (TW.rv (Z3 rfl) rfl (TW.call _ Tryd.call125 rfl (at_is w0 _ _ _ (by omega) (by omega) (v := (x + 1) % 5 + 5 * y) (by omega)) (fun _ _ => rfl) (fun _ _ _ m => m) rfl (TW.rv (Z102 _ rfl rfl rfl rfl rfl (by omega)) rfl ?_))))
   refine TW.rv (Z29 rfl (by (refine List.Mem.tail _ ?_; refine List.Mem.tail _ ?_; exact List.Mem.head _); done) rfl rfl rfl (by assumption)) rfl ?_
   refine TW.rv (RV.compl64 rfl rfl) rfl (TW.rv (Z3 rfl) rfl (TW.rv (RV.add rfl rfl (by omega)) rfl (TW.rv (Z3 rfl) rfl (TW.call _ Tryd.call125 rfl (at_is w0 _ _ _ (by omega) (by omega) (v := (x + 2) % 5 + 5 * y) (by omega)) (fun _ _ => rfl) (fun _ _ _ m => m) rfl (TW.rv (Z102 _ rfl rfl rfl rfl rfl (by omega)) rfl ?_)))))
   refine TW.rv (Z29 rfl (by (refine List.Mem.tail _ ?_; refine List.Mem.tail _ ?_; exact List.Mem.head _); done) rfl rfl rfl (by assumption)) rfl ?_
   refine TW.rv (RV.and64 rfl rfl rfl rfl) rfl (TW.rv (Z120 rfl rfl rfl rfl) rfl (TW.rv (Z102 _ rfl rfl rfl rfl rfl (by omega)) rfl (TW.nil (Z28 (SV.store rfl rfl rfl rfl rfl (by assumption)) (Z6 ?_)))))
   (refine Z27 ?_; refine Z1 ?_)
   refine Z2 (Z0 (Z3 rfl) rfl (Z0 (RV.add rfl rfl (by omega)) rfl (Z0 (Z5 rfl) rfl (Z6 ?_))))
   have ec : chiE a (x + 5 * y) = g64 a (x + 5 * y) ^^^ (~~~ (g64 a ((x + 1) % 5 + 5 * y)) &&& g64 a ((x + 2) % 5 + 5 * y)) := by
    unfold chiE
    rw [show (x + 5 * y) % 5 = x by omega, show (x + 5 * y) / 5 * 5 + (x + 1) % 5 = (x + 1) % 5 + 5 * y by omega, show (x + 5 * y) / 5 * 5 + (x + 2) % 5 = (x + 2) % 5 + 5 * y by omega]
   refine Z116 (y + 1, b.set (x + 5 * y) (chiE a (x + 5 * y))) ⟨by show y + 1 ≤ 5; omega, by simp [hb], fun k h1 h2 => ?_⟩ (by show 5 - (y + 1) < 5 - y; omega) ⟨rfl, rfl, rfl, rfl, rfl, trivial⟩ (fun _ m => ?_)
   ·have h2' : k % 5 < x ∨ (k % 5 = x ∧ k / 5 < y + 1) := h2
    show g64 (b.set (x + 5 * y) (chiE a (x + 5 * y))) k = chiE a k
    rw [g64_set _ _ _ _ (by omega)]
    by_cases hk2 : k = x + 5 * y
    ·subst hk2; rw [if_pos rfl]
    ·rw [if_neg hk2]; exact hbe k h1 (by omega)
   ·rw [ec]
    rw [Nat.zero_add, Z113] at m
    exact m
  ·(refine CW.exit ?_; refine Z9 ?_; refine Z9 ?_; refine Z15 ?_; refine Z27 ?_; refine Z1 ?_)
   refine Z2 (Z0 (Z3 rfl) rfl (Z0 (RV.add rfl rfl (by omega)) rfl (Z0 (Z5 rfl) rfl (Z6 ?_))))
   exact Z116 (x + 1, b) ⟨by show x + 1 ≤ 5; omega, hb, fun k h1 h2 => hbe k h1 (by have h2' : k % 5 < x + 1 := h2; omega)⟩ (by show 5 - (x + 1) < 5 - x; omega) ⟨rfl, rfl, rfl, rfl, trivial⟩ (fun _ m => m)
 have hx5 : x = 5 := by omega
 subst hx5
 have eb : b = chiL a := chi_of hb (fun i hi => hbe i hi (by omega))
 rw [← eb]
 (refine CW.exit ?_; refine Z9 ?_; refine Z9 ?_; refine Z15 ?_; refine Z1 ?_; refine Z4 ?_)
 refine Z2 ?_
 refine Z0 (Z22 rfl (by exact List.Mem.head _; done) rfl rfl rfl rfl ((Z100 _).trans (by assumption))) rfl ?_
 refine OW.rot1 ?_; refine Z28 (Z104 rfl rfl rfl (Z124 _) rfl (by assumption) ((Z100 _).trans (by assumption))) ?_
 refine Z6 ?_
 (refine Z1 ?_; refine CW.ret ?_)
 exact QW.retC1 rfl () trivial rfl Zh rfl rfl rfl rfl ((Z100 _).trans hb) rfl (fun _ m => m.tail.tail.tail)
end Go.Fw.Tryd
namespace Go.Fw.Tryd
open Go Go.Proofs
attribute [local irreducible] permTo roundL movedL chiL sumTo mvL
theorem rperm_does (w0 : World) (M : List Ent) (hTn : ∀ i, i < 25 → w0.cell? ⟨4, i, none⟩ = some (.int .i64 (turnsL.getD i 0))) (hRn : ∀ i, i < 24 → w0.cell? ⟨3, i, none⟩ = some (U64 (g64 roundsL i))) (a : List (BitVec 64)) (ha : a.length = 25) : Does Tryd.prog 81 [.agg (u64s a).toArray] w0 M (τ := Unit) (fun _ => True) (fun _ => .agg (u64s (permL a)).toArray) (fun _ => M) := by
 have hpe : permL a = permTo a 24 := rfl
 have hz25 : (List.replicate 25 0#64).length = 25 := List.length_replicate ..
 rw [hpe]
 refine Does.enter Tryd.func81 rfl Tryd.ntmps81 rfl (Z4 (Z2 (OW.boxA rfl rfl (fun b1 => (OW.alloc (l := u64s (List.replicate 25 0#64)) rfl (by rw [← Z119]; rfl) rfl (fun b2 => (Z6 ?_)))))))
 (refine Z1 ?_; refine Z4 ?_)
 refine Z2 ?_
 refine Z0 (Z22 rfl (by (refine List.Mem.tail _ ?_; exact List.Mem.head _); done) rfl rfl rfl rfl ((Z100 _).trans (by assumption))) rfl ?_
 refine OW.alloc (l := u64s (List.replicate 25 0#64)) rfl (by rw [← Z119]; rfl) rfl (fun b3 => (Z28 (Z104 rfl rfl rfl (Z124 _) rfl (by assumption) ((Z100 _).trans (by assumption))) (Z6 ?_)))
 (refine Z1 ?_; refine Z4 ?_; refine Z4 ?_)
 refine Z2 (Z0 (Z5 rfl) rfl (Z6 ?_))
 (refine Z1 ?_; refine CW.block ?_)
 refine CW.loop (σ := Nat) (fun t => t ≤ 24) (fun t => [(2, ptr (some b2) 0), (3, ptr (some b3) 0), (4, .int .i64 (t : Int))])
  (fun t => (some b3, blk (u64s (permTo a t)) 88) :: (some b2, blk (u64s (List.replicate 25 0#64)) 88) :: (some b1, blk (u64s a) 88) :: M) (fun t => 24 - t) 0 (by omega) ⟨rfl, rfl, rfl, trivial⟩ (fun _ m => by rw [permTo_zero]; exact m) ?_
 intro t ht
 have hal := permTo_length ha t
 (refine Z4 ?_; refine Z4 ?_)
 refine Z2 (Z0 (Z3 rfl) rfl (Z0 (RV.lss rfl rfl) rfl (Z6 (Z1 ?_))))
 refine Z106 rfl (fun hlt => ?_) (fun hlt => ?_)
 ·have ht2 : t < 24 := by omega
  have hs := permTo_succ a t
  generalize permTo a t = A at hal hs ⊢
  have hth : ((List.range 25).map (thetaE A)).length = 25 := by simp
  have hmv := mvL_theta A
  have hml : (mvL ((List.range 25).map (thetaE A))).length = 25 := by rw [hmv]; exact movedL_length A
  have hcl : (chiL (mvL ((List.range 25).map (thetaE A)))).length = 25 := chiL_length _
  have hrd := roundL_eq A (g64 roundsL t)
  rw [← hmv] at hrd
  have qr : Mem.Says w0 M (fun w => w.cell? ((⟨3, 0, none⟩ : Addr).add ((t : Int).toNat * 1)) = some (U64 (g64 roundsL t))) := fun w m => m.oldSome (by rw [Z103, Nat.zero_add, Nat.mul_one, Int.toNat_natCast]; exact hRn _ ht2)
  (refine CW.skip ?_; refine Z1 ?_; refine Z4 ?_; refine CW.block ?_; refine Z4 ?_)
  refine Z2 ?_
  refine Z0 (Z22 rfl (by exact List.Mem.head _; done) rfl rfl rfl rfl ((Z100 _).trans (by assumption))) rfl ?_
  refine OW.call Tryd.call109 rfl (columns_does w0 _ _ hal) rfl (fun u hu => (Z28 (Z104 rfl rfl rfl (Z124 _) rfl ((Z100 _).trans (by assumption)) (by assumption)) (Z6 ?_)))
  (refine Z1 ?_; refine Z4 ?_)
  refine Z2 ?_
  refine Z0 (Z22 rfl (by exact List.Mem.head _; done) rfl rfl rfl rfl (by assumption)) rfl ?_
  refine OW.call Tryd.call110 rfl (moved_does w0 _ hTn _ hth) rfl (fun u hu => (Z28 (Z104 rfl rfl rfl (Z124 _) rfl (by assumption) ((Z100 _).trans (by assumption))) (Z6 ?_)))
  (refine Z1 ?_; refine Z4 ?_)
  refine Z2 ?_
  refine Z0 (Z22 rfl (by exact List.Mem.head _; done) rfl rfl rfl rfl ((Z100 _).trans (by assumption))) rfl ?_
  refine OW.call Tryd.call111 rfl (mixed_does w0 _ _ hml) rfl (fun u hu => (Z28 (Z104 rfl rfl rfl (Z124 _) rfl ((Z100 _).trans (by assumption)) ((Z100 _).trans (by assumption))) (Z6 (Z1 ?_))))
  generalize chiL (mvL ((List.range 25).map (thetaE A))) = C at hrd hcl ⊢
  have q0 : (u64s C)[0 + 0]? = some (U64 (g64 C 0)) := Z111 (by omega)
  have hl0 : 0 + 0 < (u64s C).length := by rw [Z100]; omega
  refine CW.drawsT 7 mixed (by kernel_rfl) (TW.rv (Z102 _ rfl rfl rfl rfl rfl (by omega)) rfl ?_)
  refine TW.rv (Z29 rfl (by exact List.Mem.head _; done) rfl rfl rfl (by assumption)) rfl ?_
  refine TW.rv (Z3 rfl) rfl (TW.rv (RV.idx_arr_at rfl rfl rfl rfl (by omega) (by omega)) rfl ?_)
  refine TW.rv (Z21 rfl rfl rfl (by (refine Mem.Says.cons ?_; refine Mem.Says.cons ?_; refine Mem.Says.cons ?_; assumption); done)) rfl ?_
  refine TW.rv (Z120 rfl rfl rfl rfl) rfl (TW.rv (Z102 _ rfl rfl rfl rfl rfl (by omega)) rfl (TW.nil (Z28 (SV.store rfl rfl rfl rfl rfl (by assumption)) (Z6 ?_))))
  (refine Z27 ?_; refine Z1 ?_)
  refine Z2 (Z0 (Z3 rfl) rfl (Z0 (RV.add rfl rfl (by omega)) rfl (Z0 (Z5 rfl) rfl (Z6 (Z116 (t + 1) (by omega) (by omega) ⟨rfl, rfl, rfl, trivial⟩ (fun _ m => ?_))))))
  rw [hs, hrd, ← Z113]
  exact m
 ·have ht2 : t = 24 := by omega
  subst ht2
  generalize permTo a 24 = A at hal ⊢
  (refine CW.exit ?_; refine Z9 ?_; refine Z9 ?_; refine Z15 ?_; refine Z1 ?_; refine Z4 ?_)
  refine Z2 ?_
  refine Z0 (Z22 rfl (by exact List.Mem.head _; done) rfl rfl rfl rfl ((Z100 _).trans (by assumption))) rfl ?_
  refine OW.rot1 ?_; refine Z28 (Z104 rfl rfl rfl (Z124 _) rfl (by assumption) ((Z100 _).trans (by assumption))) ?_
  refine Z6 ?_
  (refine Z1 ?_; refine CW.ret ?_)
  exact QW.retC1 rfl () trivial rfl Zh rfl rfl rfl rfl ((Z100 _).trans hal) rfl (fun _ m => m.tail.tail.tail)
end Go.Fw.Tryd
namespace Go.Fw.Tryd
open Go Go.Proofs Go.Fw
theorem waybillref02_Permute_does (w0 : World) (Φ : Ctx) (N : List Ent) (hΦ : ∀ w, Mem w0 w N → Φ w) (a0 res0 : Vector (BitVec 64) 25) (hTn : ∀ i, i < 25 → w0.cell? ⟨4, i, none⟩ = some (.int .i64 (turnsL.getD i 0))) (hRn : ∀ i, i < 24 → w0.cell? ⟨3, i, none⟩ = some (U64 (g64 roundsL i))) (hf : keccak_Permute a0 = some res0) : DoesG Tryd.prog 81 [.agg (u64s a0.toList).toArray] w0 [] N (fun v G => v = .agg (u64s res0.toList).toArray) := by
 have h := Does.toG (rperm_does w0 N hTn hRn a0.toList Zv)
 rw [← keccak_Permute_list hf] at h
 exact h.mono fun v G h => h.1
end Go.Fw.Tryd
namespace Go.Fw
open Go
section
variable {P : Program} {n : Nat} {Q : Exit → Act → World → Prop} {w0 : World} {L : Z108} {M : List Ent} {ops : Array Oper} {f : Nat} {done : Array Bool} {d : Nat} {op : Op} {ty : TypeId} {pos : String} {aft : Array Edge} {v : Value}
def AW (P : Program) (n : Nat) (ops : Array Oper) (Q : Exit → Act → World → Prop) (w0 : World) (f : Nat) (done : Array Bool) (L : Z108) (M : List Ent) : Prop :=
 ∀ a w, Fr n L a → Mem w0 w M → wpAny P .any ops Q f done a w
def AO (P : Program) (n : Nat) (ops : Array Oper) (Q : Exit → Act → World → Prop) (w0 : World) (i f : Nat) (done : Array Bool) (L : Z108) (M : List Ent) : Prop :=
 ∀ a w, Fr n L a → Mem w0 w M → wpOp P ops Q i (wpAny P .any ops Q f done) a w
theorem AW.nil (hr : Region.ready .any ops done = []) (h : QW n Q w0 .normal L M) : AW P n ops Q w0 0 done L M := fun a w fr m => ⟨hr, h.elim a w fr m⟩
theorem AO.rv {i : Nat} (ho : ops[i]? = some ⟨some d, op, ty, pos, aft, none⟩) (hop : RV P w0 L M op v) (hd : Nat.blt d n = true) (k : AW P n ops Q w0 f done ((d, v) :: L) M) : AO P n ops Q w0 i f done L M := fun a w fr m => by
 unfold wpOp
 rw [ho]
 refine (if_pos (by simp [Region.wanted])).mpr (.inl ?_)
 unfold Oper.wp
 rw [hop a.eval w (fun x u hx => fr.eval hx) m _ rfl]
 exact k _ _ (fr.put hd v) m
theorem AO.sv {i : Nat} {M' : List Ent} (ho : ops[i]? = some ⟨none, op, ty, pos, aft, none⟩) (hop : SV P w0 L M op M') (k : AW P n ops Q w0 f done L M') : AO P n ops Q w0 i f done L M := fun a w fr m => by
 unfold wpOp
 rw [ho]
 obtain ⟨w', hr, m'⟩ := hop a.eval w (fun x u hx => fr.eval hx) m ⟨none, op, ty, pos, aft, none⟩ rfl
 refine (if_pos (by simp [Region.wanted])).mpr (.inl ?_)
 unfold Oper.wp
 rw [hr]
 exact k _ _ fr m'
theorem AO.av {i : Nat} {τ : Type} {I : τ → Prop} {v : τ → Value} {M' : τ → List Ent} (ho : ops[i]? = some ⟨some d, op, ty, pos, aft, none⟩) (hop : AV P w0 L M op I v M') (hd : Nat.blt d n = true) (k : ∀ x, I x → AW P n ops Q w0 f done ((d, v x) :: L) (M' x)) : AO P n ops Q w0 i f done L M := fun a w fr m => by
 unfold wpOp
 rw [ho]
 obtain ⟨x, w', hI, hr, m'⟩ := hop a.eval w (fun x u hx => fr.eval hx) m ⟨some d, op, ty, pos, aft, none⟩ rfl
 refine (if_pos (by simp [Region.wanted])).mpr (.inl ?_)
 unfold Oper.wp
 rw [hr]
 exact k x hI _ _ (fr.put hd _) m'
theorem AO.alloc [Types P] {i : Nat} {e ty1 : TypeId} {ti : TI} {l : List Value} (ho : ops[i]? = some ⟨some d, .alloc e, ty1, pos, aft, none⟩) (hi : Fw.ty P e = some ti) (hl : ti.z.cells = l.toArray) (hd : Nat.blt d n = true) (k : ∀ b : Nat, AW P n ops Q w0 f done ((d, ptr (some b) 0) :: L) ((some b, blk l e) :: M)) : AO P n ops Q w0 i f done L M :=
 AO.av (τ := Nat) (I := fun _ => True) (v := fun b => ptr (some b) 0) (M' := fun b => (some b, blk l e) :: M) ho (fun ρ w hρ m o ho => ⟨w.heap.size, w.alloc (blk l e), trivial, by
  obtain ⟨_, ti, h1, h2, h3, h4⟩ := ty_ok hi
  simp [execOp, ho, Instr.alloc, zeroValue, typeInfo, h1, h4, newVar, newRow, ptr, blk, hl], m.alloc _⟩) hd (fun b _ => k b)
end
end Go.Fw
namespace Go.Fw
open Go
theorem skip_get {A L : List Value} {n m : Nat} {v : Value} (hA : A.length = n) (h : L[m]? = some v) : (A ++ L)[n + m]? = some v := by
 rw [List.getElem?_append_right (by omega), show n + m - A.length = m by omega]; exact h
theorem here_get {B C : List Value} {i : Nat} {v : Value} (h : B[i]? = some v) : (B ++ C)[i]? = some v := by
 have := (List.getElem?_eq_some_iff.1 h).1
 rw [List.getElem?_append_left this]; exact h
theorem skip_set {A L L' : List Value} {n m : Nat} {v : Value} (hA : A.length = n) (h : L.set m v = L') : (A ++ L).set (n + m) v = A ++ L' := by
 subst hA; subst h
 rw [List.set_append_right _ _ (by omega), show A.length + m - A.length = m by omega]
theorem here_set {B B' C : List Value} {i : Nat} {v : Value} (hi : i < B.length) (h : B.set i v = B') : (B ++ C).set i v = B' ++ C := by
 subst h
 rw [List.set_append_left _ _ hi]
theorem skip_spl {A L L' cs : List Value} {n m : Nat} (hA : A.length = n) (h : spl L m cs = L') : spl (A ++ L) (n + m) cs = A ++ L' := by
 subst hA; subst h
 unfold spl
 rw [List.take_length_add_append, show A.length + m + cs.length = A.length + (m + cs.length) by omega, List.drop_length_add_append]
 simp [List.append_assoc]
theorem here_spl {B C cs : List Value} (h : cs.length = B.length) : spl (B ++ C) 0 cs = cs ++ C := by
 unfold spl
 rw [List.take_zero, List.nil_append, Nat.zero_add, h, List.drop_left]
end Go.Fw
namespace Go.Fw
open Go Go.RowKit
section
variable {P : Program} [Types P] {w0 : World} {L : Z108} {M : List Ent} {t e : TypeId} {x y z : Operand} {idx idx' : Int} {k k' : IntKind}
theorem RV.arr_loS {b off n : Nat} (a : Nat) (hx : ev L x = some (ptr (some b) off)) (hy : ev L y = some (.int k idx)) (hj : idx = (a : Int)) (ht : tyU P t = some (.array n e)) (hs : tyS P e = some 1) (h1 : idx < n) :
    RV P w0 L M (.slice t x (some y) none none) (sl (some b) (off + a) (n - a) (n - a)) := by
 have h := RV.arr_lo (P := P) (w0 := w0) (M := M) (A := ⟨b, off, none⟩) a hx hy hj ht hs (by omega)
 have e : subA (some ⟨b, off, none⟩) n a 1 = some ⟨b, off + a, none⟩ := by
  unfold subA
  rw [if_neg (by omega)]
  simp [Addr.add]
 rw [e] at h
 exact h
end
def cpV {α : Type} {n : Nat} (v : Vector α n) (lo : Nat) (l : List α) : Vector α n :=
 if h : lo + l.length ≤ n then ⟨(v.toList.take lo ++ l ++ v.toList.drop (lo + l.length)).toArray, by simp; omega⟩ else v
theorem cpV_toList {α : Type} {n : Nat} (v : Vector α n) {lo : Nat} {l : List α} (h : lo + l.length ≤ n) : (cpV v lo l).toList = v.toList.take lo ++ l ++ v.toList.drop (lo + l.length) := by
 unfold cpV
 rw [dif_pos h]
 rfl
theorem u8s_cpV {n : Nat} (v : Vector (BitVec 8) n) {lo : Nat} {l : List (BitVec 8)} (h : lo + l.length ≤ n) : spl (u8s v.toList) lo (u8s l) = u8s (cpV v lo l).toList := by
 rw [cpV_toList v h]
 unfold spl
 rw [Z101]
 simp [u8s, List.map_take, List.map_drop]
theorem at_spl {B B' C cs : List Value} {i : Nat} (hi : i + cs.length ≤ B.length) (h : spl B i cs = B') : spl (B ++ C) i cs = B' ++ C := by
 subst h
 unfold spl
 rw [List.take_append_of_le_length (by omega), List.drop_append_of_le_length hi]
 simp [List.append_assoc]
theorem u8s_take (l : List (BitVec 8)) (k : Nat) : (u8s l).take k = u8s (l.take k) := by simp [u8s, List.map_take]
end Go.Fw
namespace Go.Fw
open Go Go.RowKit
section
variable {P : Program} [Types P] {n : Nat} {Q : Exit → Act → World → Prop} {w0 : World} {L : Z108} {M : List Ent} {ops : Array Oper} {rest : List Oper} {t e ty1 : TypeId} {x : Operand} {pos : String} {aft : Array Edge}
theorem OW.clear {b off len cap : Nat} {l : List Value} {te : TypeId} {i : TI} {z : Value} (hx : ev L x = some (sl (some b) off len cap)) (ht : tyU P t = some (.slice e)) (hi : Fw.ty P e = some i) (hz : i.z.cells = #[z]) (h1 : z.oneCell' = true) (hp : 0 < len) (hl : off + len ≤ l.length)
    (k : OW P n ops Q w0 rest L ((some b, blk (spl l off (List.replicate len z)) te) :: M)) :
    OW P n ops Q w0 (⟨none, .call ⟨.builtin .clear, #[x], #[t]⟩, ty1, pos, aft, none⟩ :: rest) L ((some b, blk l te) :: M) := by
 refine OW.av_none (τ := Unit) (I := fun _ => True) (v := fun _ => .tuple #[]) (M' := fun _ => (some b, blk (spl l off (List.replicate len z)) te) :: M) (fun ρ w hρ mm o ho => ?_) (fun _ _ => k)
 obtain ⟨_, ti, h1', h2, h3, h4⟩ := ty_ok hi
 have hv : ∀ w, (zeroValue e).run P w = .ok i.z w := fun w => by simp [zeroValue, typeInfo, h1', h4]
 have hzc : (Builtin.zeroCells i.z.cells len).toList = List.replicate len z := by
  rw [hz]
  simp [Builtin.zeroCells]
  apply List.ext_getElem
  ·simp
  ·intro i h1 h2
   simp [Nat.mod_one]
 have hm := mm.ents _ (List.mem_cons_self ..) b rfl
 have hst := run_storeCells_at (P := P) b off te (List.replicate len z) 0 l.toArray w hm.2 (by simpa using hl) (fun v hv => by rw [List.eq_of_mem_replicate hv]; exact h1)
 simp only [Nat.add_zero] at hst
 obtain ⟨m, rfl⟩ : ∃ m, len = m + 1 := ⟨len - 1, by omega⟩
 refine ⟨(), _, trivial, ?_, mm.turned (w' := w.setRow b (l.toArray.toList.take off ++ List.replicate (m + 1) z ++ l.toArray.toList.drop (off + (List.replicate (m + 1) z).length)).toArray) rfl rfl rfl (by simp [World.setRow]) ?_ ?_⟩
 ·simp [execOp, ho, resolve, hρ x _ hx, invoke, builtin, Builtin.clear_, Z110 ht, sl, hv, hzc, hst]
 ·intro b' hb'
  cases hb'
  rw [setRow_heap w b l.toArray _ te (0, 0) hm.2]
  simp [blk, spl]
 ·intro kk hk
  exact setRow_other _ _ _ _ (fun e => hk (by rw [e]))
end
theorem u8s_rep0 (k : Nat) : List.replicate k (Value.int .u8 0) = u8s (List.replicate k 0#8) := by simp [u8s, U8]
end Go.Fw
namespace Go.Fw
theorem OwnS.same {ob : Option Nat} {len len' cap s : Nat} {cells cells' r : List Value} (h : OwnS ob len cap s cells r) (h1 : cells'.length = cells.length) (h2 : len' = len) : OwnS ob len' cap s cells' r := by
 subst h2
 exact ⟨by rw [h1]; exact h.n, by have := h.hr; rw [List.length_append] at this ⊢; omega, h.hn, h.mx⟩
end Go.Fw
namespace Go.Fw
open Go
structure Sponge where
 kind : Int
 lanes : Vector (BitVec 64) 25
 part : Vector (BitVec 8) 136
 held : Int
 long : Int
def Sponge.C (s : Sponge) : List Value := [.int .i64 s.kind] ++ (u64s s.lanes.toList ++ (u8s s.part.toList ++ ([.int .i64 s.held] ++ ([.int .i64 s.long]))))
theorem Sponge.C_length (s : Sponge) : s.C.length = 164 := by simp [Sponge.C, Z100, Z101]
theorem Sponge.C_one (s : Sponge) : ∀ u ∈ s.C, u.oneCell' = true := by
 intro u hu
 simp only [Sponge.C, List.mem_append, List.mem_singleton] at hu
 rcases hu with rfl | hu | hu | rfl | rfl
 ·rfl
 ·exact Z124 _ u hu
 ·exact Z117 _ u hu
 ·rfl
 ·rfl
theorem Sponge.C_kind (s : Sponge) : s.C[0]? = some (.int .i64 s.kind) := by
 rw [show 0 = 0 by rfl]; exact (here_get rfl)
theorem Sponge.C_kind_set (s : Sponge) (x : Int) : s.C.set 0 (.int .i64 x) = ({ s with kind := x } : Sponge).C := by
 rw [show 0 = 0 by rfl]; exact (here_set (by simp) rfl)
theorem Sponge.C_lanes (s : Sponge) {i : Nat} {x : BitVec 64} (h : s.lanes[i]? = some x) : s.C[1 + i]? = some (U64 x) := by
 rw [show 1 + i = 1 + (i) by omega]; exact (skip_get rfl (here_get (u64s_at (vat h))))
theorem Sponge.C_lanes_all (s : Sponge) : ∀ (k : Nat) (u : Value), (u64s s.lanes.toList)[k]? = some u → s.C[1 + k]? = some u := by
 intro k u h; rw [show 1 + k = 1 + (k) by omega]; exact (skip_get rfl (here_get h))
theorem Sponge.C_lanes_set (s : Sponge) {i : Nat} (hi : i < 25) (x : BitVec 64) : s.C.set (1 + i) (U64 x) = ({ s with lanes := s.lanes.setIfInBounds i x } : Sponge).C := by
 rw [show 1 + i = 1 + (i) by omega]; exact (skip_set rfl (here_set (by rw [Z100, Zv]; omega) (by rw [Z113, vset])))
theorem Sponge.C_lanes_spl (s : Sponge) (x : Vector (BitVec 64) 25) : spl s.C 1 (u64s x.toList) = ({ s with lanes := x } : Sponge).C := by
 rw [show 1 = 1 + (0) by rfl]; exact (skip_spl rfl (here_spl (by simp [Z100])))
theorem Sponge.C_part (s : Sponge) {i : Nat} {x : BitVec 8} (h : s.part[i]? = some x) : s.C[26 + i]? = some (U8 x) := by
 rw [show 26 + i = 1 + (25 + (i)) by omega]; exact (skip_get rfl (skip_get ((Z100 _).trans Zv) (here_get (u8s_at (vat h)))))
theorem Sponge.C_part_all (s : Sponge) : ∀ (k : Nat) (u : Value), (u8s s.part.toList)[k]? = some u → s.C[26 + k]? = some u := by
 intro k u h; rw [show 26 + k = 1 + (25 + (k)) by omega]; exact (skip_get rfl (skip_get ((Z100 _).trans Zv) (here_get h)))
theorem Sponge.C_part_set (s : Sponge) {i : Nat} (hi : i < 136) (x : BitVec 8) : s.C.set (26 + i) (U8 x) = ({ s with part := s.part.setIfInBounds i x } : Sponge).C := by
 rw [show 26 + i = 1 + (25 + (i)) by omega]; exact (skip_set rfl (skip_set ((Z100 _).trans Zv) (here_set (by rw [Z101, Zv]; omega) (by rw [u8s_set', vset]))))
theorem Sponge.C_part_cpy (s : Sponge) {lo : Nat} {l : List (BitVec 8)} (h : lo + l.length ≤ 136) : spl s.C (26 + lo) (u8s l) = ({ s with part := cpV s.part lo l } : Sponge).C := by
 rw [show 26 + lo = 1 + (25 + (lo)) by omega]; exact (skip_spl rfl (skip_spl ((Z100 _).trans Zv) (at_spl (by rw [Z101, Z101, Zv]; exact h) (u8s_cpV _ h))))
theorem Sponge.C_held (s : Sponge) : s.C[162]? = some (.int .i64 s.held) := by
 rw [show 162 = 1 + (25 + (136 + (0))) by rfl]; exact (skip_get rfl (skip_get ((Z100 _).trans Zv) (skip_get ((Z101 _).trans Zv) (here_get rfl))))
theorem Sponge.C_held_set (s : Sponge) (x : Int) : s.C.set 162 (.int .i64 x) = ({ s with held := x } : Sponge).C := by
 rw [show 162 = 1 + (25 + (136 + (0))) by rfl]; exact (skip_set rfl (skip_set ((Z100 _).trans Zv) (skip_set ((Z101 _).trans Zv) (here_set (by simp) rfl))))
theorem Sponge.C_long (s : Sponge) : s.C[163]? = some (.int .i64 s.long) := by
 rw [show 163 = 1 + (25 + (136 + (1 + (0)))) by rfl]; exact (skip_get rfl (skip_get ((Z100 _).trans Zv) (skip_get ((Z101 _).trans Zv) (skip_get rfl rfl))))
theorem Sponge.C_long_set (s : Sponge) (x : Int) : s.C.set 163 (.int .i64 x) = ({ s with long := x } : Sponge).C := by
 rw [show 163 = 1 + (25 + (136 + (1 + (0)))) by rfl]; exact (skip_set rfl (skip_set ((Z100 _).trans Zv) (skip_set ((Z101 _).trans Zv) (skip_set rfl rfl))))
end Go.Fw
namespace Go.Fw
mutual
def It.sz : It → Nat
 | .mk _ _ its => 1 + Its.sz its
def Its.sz : List It → Nat
 | [] => 0
 | x :: xs => It.sz x + Its.sz xs
end
structure Hd where
 list : Bool
 fr : Nat
 to : Nat
def HdRd (Φ : Ctx) (cs : List Value) (h : Hd) : Prop := cs = [.bool h.list, .int .i64 ((h.fr : Nat) : Int), .int .i64 ((h.to : Nat) : Int)] ∧ h.fr ≤ 9223372036854775807 ∧ h.to ≤ 9223372036854775807
theorem HdRd.mk {Φ : Ctx} {l : Bool} {f t : Nat} (h1 : f ≤ 9223372036854775807) (h2 : t ≤ 9223372036854775807) : HdRd Φ [.bool l, .int .i64 ((f : Nat) : Int), .int .i64 ((t : Nat) : Int)] ⟨l, f, t⟩ := ⟨rfl, h1, h2⟩
theorem HdRd.mono {Φ Ψ : Ctx} (hh : ∀ w, Ψ w → Φ w) (cs : List Value) (h : Hd) : HdRd Φ cs h → HdRd Ψ cs h := fun r => r
end Go.Fw
namespace Go.Fw
open Go Go.RowKit
def room9 (x : List (BitVec 8)) : List (BitVec 8) := x ++ List.replicate 9 165#8
structure Room (Φ : Ctx) (A : Option Addr) (x : List (BitVec 8)) : Prop where
 full : View Φ A (x.length + 9) (x.length + 9) 1 (u8s (room9 x))
theorem Room.mono {Φ Ψ : Ctx} {A : Option Addr} {x : List (BitVec 8)} (h : Room Φ A x) (hh : ∀ w, Ψ w → Φ w) : Room Ψ A x := ⟨h.full.mono hh⟩
theorem Room.view {Φ : Ctx} {A : Option Addr} {x : List (BitVec 8)} (h : Room Φ A x) : View Φ A x.length (x.length + 9) 1 (u8s x) := by
 have h1 := h.full.hi (k := x.length) (by omega)
 rw [Nat.mul_one, show (u8s (room9 x)).take x.length = u8s x by simp [u8s, room9]] at h1
 exact h1
end Go.Fw
namespace Go.Fw
open Go Go.RowKit
def RmRd (Φ : Ctx) (cs : List Value) (x : List (BitVec 8)) : Prop := ∃ A, cs = [.slice A x.length (x.length + 9)] ∧ Room Φ A x
theorem RmRd.mono {Φ Ψ : Ctx} (hh : ∀ w, Ψ w → Φ w) (cs : List Value) (x : List (BitVec 8)) : RmRd Φ cs x → RmRd Ψ cs x := fun ⟨A, h1, h2⟩ => ⟨A, h1, h2.mono hh⟩
theorem RmRd.len {Φ : Ctx} (cs : List Value) (x : List (BitVec 8)) (h : RmRd Φ cs x) : cs.length = 1 := by obtain ⟨A, rfl, _⟩ := h; rfl
theorem RmRd.mk {Φ : Ctx} {A : Option Addr} {x : List (BitVec 8)} (h : Room Φ A x) : RmRd Φ [.slice A x.length (x.length + 9)] x := ⟨A, rfl, h⟩
theorem RmRd.bs {Φ : Ctx} (cs : List Value) (x : List (BitVec 8)) (h : RmRd Φ cs x) : BsRd Φ cs x := by
 obtain ⟨A, h1, h2⟩ := h
 exact ⟨A, _, h1, h2.view⟩
end Go.Fw
namespace Go.Fw
end Go.Fw
namespace Go.Fw
open Go Go.RowKit
section
variable {P : Program} [Types P] {n : Nat} {Q : Exit → Act → World → Prop} {w0 : World} {L : Z108} {M R : List Ent} {x y : Operand} {t e : TypeId}
theorem AV.append {i : TI} {ob : Option Nat} {len cap m c s : Nat} {l r vs : List Value} {B : Option Addr} {t2 e2 : TypeId} (hx : ev L x = some (sl ob 0 len cap)) (hy : ev L y = some (.slice B m c)) (ht : tyU P t = some (.slice e)) (hi : ty P e = some i) (hs : i.sz = s) (ht2 : tyU P t2 = some (.slice e2))
    (hl : l.length = len * s) (hr : (l ++ r).length = cap * s) (hn : ob = none → cap = 0) (hR : Mem.Says w0 ((ob, blk (l ++ r) e) :: M) (fun w => Rd w B vs)) (hvl : vs.length = m * s) (hv1 : ∀ u ∈ vs, u.oneCell' = true) (hB : B = none → m = 0) (hspos : 0 < s)
    (h63 : len + m ≤ 9223372036854775807) (hb : (len + m) * i.bytes ≤ 140737488355328) (hz : i.z.cells.size = s) :
    AV P w0 L ((ob, blk (l ++ r) e) :: M) (.call ⟨.builtin .append, #[x, y], #[t, t2]⟩) (τ := Option Nat × List Value × Nat) (fun q => (l ++ vs ++ q.2.1).length = q.2.2 * s ∧ (q.1 = none → q.2.2 = 0)) (fun q => sl q.1 0 (len + m) q.2.2) (fun q => (q.1, blk (l ++ vs ++ q.2.1) e) :: M) := by
 intro ρ w hρ mm o ho
 obtain ⟨hu, ti, g1, g2, g3, g4⟩ := ty_ok hi
 have hrd := hR w mm
 have hsrc : Src P ti.size t2 (.slice B m c) m vs w := by rw [g2, hs]; exact rd_src ht2 hrd hvl hv1 hB
 have hrun : ∀ (v' : Value) (w' : World), (Builtin.append_ #[t, t2] o.type #[sl ob 0 len cap, .slice B m c]).run P w = .ok v' w' → (execOp ρ o).run P w = .ok (.value v') w' := fun v' w' hh => by
  simp [execOp, ho, resolve, hρ x _ hx, hρ y _ hy, invoke, builtin, hh]
 have hsz : ti.size = s := by rw [g2, hs]
 by_cases hroom : len + m ≤ cap
 ·-- it fits
  cases ob with
  | none =>
   have hc0 := hn rfl
   subst hc0
   have hm0 : m = 0 := by omega
   have hl0 : len = 0 := by omega
   subst hm0 hl0
   have hv0 : vs = [] := List.length_eq_zero_iff.1 (by simpa using hvl)
   subst hv0
   have e1 : l = [] := List.length_eq_zero_iff.1 (by simpa using hl)
   subst e1
   refine ⟨(none, r, 0), w, ⟨by simpa using hr, fun _ => rfl⟩, hrun _ _ ?_, ?_⟩
   ·exact run_append_nothing w t t2 o.type e ti (tyU_ok ht) g1 none 0 0 (Nat.le_refl _) _ hsrc
   ·exact mm.tail.nil_ent _
  | some b =>
   have hm := mm.ents _ (List.mem_cons_self ..) b rfl
   have hlen : l.length + vs.length ≤ (l ++ r).length := by rw [hl, hvl, hr, ← Nat.add_mul]; exact Nat.mul_le_mul_right _ hroom
   have hra := run_append_room_src (P := P) w t t2 o.type e ti (tyU_ok ht) g1 b 0 len cap (.slice B m c) m vs hsrc hroom (fun j hj => by
       rw [mm.cell (List.mem_cons_self ..), hsz]
       have : 0 + len * s + j < (l ++ r).length := by omega
       rw [List.getElem?_eq_getElem this]; rfl) (fun j hj => mm.notFrozen (List.mem_cons_self ..) _)
   rw [hsz] at hra
   have hset : w.setCells b (0 + len * s) vs = w.setRow b ((l ++ r).toArray.toList.take (0 + len * s) ++ vs ++ (l ++ r).toArray.toList.drop (0 + len * s + vs.length)).toArray := by
    have q1 := run_storeCells_at (P := P) b (0 + len * s) e vs 0 (l ++ r).toArray w hm.2 (by simp; simp at hlen; omega) hv1
    have q2 := run_storeCells_cells (P := P) b (0 + len * s) vs 0 w (fun j hj => by
     rw [mm.cell (List.mem_cons_self ..)]
     have : 0 + len * s + 0 + j < (l ++ r).length := by omega
     rw [List.getElem?_eq_getElem this]; rfl) (fun j hj => mm.notFrozen (List.mem_cons_self ..) _) hv1
    rw [q1] at q2
    simp only [Nat.add_zero] at q2
    injection q2 with _ q3
    exact q3.symm
   rw [hset] at hra
   refine ⟨(some b, r.drop vs.length, cap), _, ⟨?_, fun h => by cases h⟩, hrun _ _ (by simpa [sl] using hra), mm.turned (w' := w.setRow b _) rfl rfl rfl (by simp [World.setRow]) ?_ ?_⟩
   ·rw [← hr]; simp at hlen ⊢; omega
   ·intro b' hb'
    cases hb'
    rw [setRow_heap w b (l ++ r).toArray _ e (0, 0) hm.2]
    simp only [blk]
    simp [← hl, List.drop_append]
   ·intro kk hk
    exact setRow_other _ _ _ _ (fun e => hk (by rw [e]))
 ·-- it grows
  have hold : (Builtin.firstCells ti.size len (sl ob 0 len cap)).run P w.drew = .ok l.toArray w.drew := by
   cases ob with
   | none =>
    have hc0 := hn rfl
    have e0 : (l ++ r).length = 0 := by rw [hr, hc0]; simp
    have e1 : l = [] := by cases l with | nil => rfl | cons a b => simp at e0
    subst e1
    simp [sl, Builtin.firstCells]
   | some b =>
    have := run_firstCells_some (P := P) w.drew ti.size len ⟨b, 0, none⟩ len cap l (by rw [hsz]; exact hl) (fun j u hj => by
     rw [Z103, (mm.drew).cell (List.mem_cons_self ..)]
     have hj' : j < l.length := (List.getElem?_eq_some_iff.1 hj).1
     rw [Nat.zero_add, List.getElem?_append_left hj']; exact hj)
    exact this
  have hg := run_append_grow_src (P := P) w t t2 o.type e ti i.z (tyU_ok ht) g1 g4 (ob.map fun k => ⟨k, 0, none⟩) len cap l hold (.slice B m c) m vs hsrc (by omega) (by omega)
   (growslice_fits (by omega) (by rw [g3]; exact hb))
  refine ⟨(some w.heap.size, (Builtin.zeroCells i.z.cells (grownCap w (len + m) cap e - (len + m))).toList, grownCap w (len + m) cap e), _, ⟨?_, fun h => by cases h⟩, hrun _ _ (by simpa [sl] using hg), ?_⟩
  ·have hge := grownCap_ge w (len + m) cap e
   simp only [List.length_append, Array.length_toList, size_zeroCells, hz, hl, hvl]
   rw [← Nat.add_mul, ← Nat.add_mul]
   congr 1; omega
  ·have := mm.drew.tail.alloc (blk (l ++ vs ++ (Builtin.zeroCells i.z.cells (grownCap w (len + m) cap e - (len + m))).toList) e)
   have e3 : (.cells ((l ++ vs).toArray ++ Builtin.zeroCells i.z.cells (grownCap w (len + m) cap e - (len + m))) e : Obj) = blk (l ++ vs ++ (Builtin.zeroCells i.z.cells (grownCap w (len + m) cap e - (len + m))).toList) e := by
    unfold blk
    congr 1
    apply Array.ext'
    simp
   rw [e3]
   exact this
theorem AV.appendOwn {i : TI} {ob : Option Nat} {len cap m c s : Nat} {l r vs : List Value} {B : Option Addr} {t2 e2 : TypeId} (hx : ev L x = some (sl ob 0 len cap)) (hy : ev L y = some (.slice B m c)) (ht : tyU P t = some (.slice e)) (hi : ty P e = some i) (hs : i.sz = s) (ht2 : tyU P t2 = some (.slice e2))
    (hl : OwnS ob len cap s l r) (hR : Mem.Says w0 ((ob, blk (l ++ r) e) :: M) (fun w => Rd w B vs)) (hvl : vs.length = m * s) (hv1 : ∀ u ∈ vs, u.oneCell' = true) (hB : B = none → m = 0) (hspos : 0 < s)
    (hby : 0 < i.bytes) (hb : (len + m) * i.bytes ≤ 140737488355328) (hz : i.z.cells.size = s) (len' : Nat) (l' : List Value) (hlen : len + m = len') (hcs : l ++ vs = l') :
    AV P w0 L ((ob, blk (l ++ r) e) :: M) (.call ⟨.builtin .append, #[x, y], #[t, t2]⟩) (τ := Option Nat × List Value × Nat) (fun q => OwnS q.1 len' q.2.2 s l' q.2.1) (fun q => sl q.1 0 len' q.2.2) (fun q => (q.1, blk (l' ++ q.2.1) e) :: M) := by
 have hm : len + m ≤ (len + m) * i.bytes := Nat.le_mul_of_pos_right _ hby
 subst hlen hcs
 intro ρ w hρ mm o ho
 obtain ⟨q, w', h1, h2, h3⟩ := AV.append (P := P) hx hy ht hi hs ht2 hl.n hl.hr hl.hn hR hvl hv1 hB hspos (by omega) hb hz ρ w hρ mm o ho
 exact ⟨q, w', ⟨by rw [List.length_append, hl.n, hvl, Nat.add_mul], h1.1, h1.2, by omega⟩, h2, h3⟩
variable {ops : Array Oper} {hard : List Nat} {f : Nat} {done : Array Bool} {op : Op} {ty : TypeId} {pos : String} {aft : Array Edge} {d : Nat}
theorem XW.av (i : Nat) {τ : Type} {I : τ → Prop} {v : τ → Value} {M' : τ → List Ent} (ho : ops[i]? = some ⟨some d, op, ty, pos, aft, none⟩) (hr : (Region.ready .any ops done == [i] && hard.contains i) = true) (hop : AV P w0 L M op I v M') (hMR : ∀ x, I x → ∀ w, Mem w0 w (M' x) → Mem w0 w R) (hd : Nat.blt d n = true)
    (k : ∀ x, I x → XW P n ops Q w0 R hard f (done.setIfInBounds i true) ((d, v x) :: L) (M' x)) : XW P n ops Q w0 R hard (f + 1) done L M := by
 unfold XW at *
 intro hR hB inv a w fr mm
 simp only [Bool.and_eq_true, beq_iff_eq] at hr
 obtain ⟨hr, hi⟩ := hr
 have him : i < ops.size := (Array.getElem?_eq_some_iff.1 ho).1
 refine ⟨by rw [hr]; simp, fun j hj => ?_⟩
 rw [hr] at hj
 obtain rfl : j = i := by simpa using hj
 refine ⟨him, _, ho, .inl ⟨by simp [Region.wanted], ?_⟩⟩
 obtain ⟨x, w', hI, hrun, m'⟩ := hop a.eval w (fun x u hx => fr.eval hx) mm ⟨some d, op, ty, pos, aft, none⟩ rfl
 rw [hrun]
 refine ⟨?_, k x hI (hMR x hI) hB (inv.set (by rw [hr]; simp) him) _ _ (fr.put hd _) m'⟩
 unfold Rl
 rw [if_pos hi]
 exact fun _ => hMR x hI _ m'
theorem XW.appendOwn (i : Nat) {ti : TI} {ob : Option Nat} {len cap m c s : Nat} {l r vs : List Value} {B : Option Addr} {t2 e2 : TypeId} (ho : ops[i]? = some ⟨some d, .call ⟨.builtin .append, #[x, y], #[t, t2]⟩, ty, pos, aft, none⟩) (hr : (Region.ready .any ops done == [i] && hard.contains i) = true)
    (hx : ev L x = some (sl ob 0 len cap)) (hy : ev L y = some (.slice B m c)) (ht : tyU P t = some (.slice e)) (hi : Fw.ty P e = some ti) (hs : ti.sz = s) (ht2 : tyU P t2 = some (.slice e2))
    (hl : OwnS ob len cap s l r) (hR : Mem.Says w0 ((ob, blk (l ++ r) e) :: M) (fun w => Rd w B vs)) (hvl : vs.length = m * s) (hv1 : ∀ u ∈ vs, u.oneCell' = true) (hB : B = none → m = 0) (hspos : 0 < s)
    (hby : 0 < ti.bytes) (hb : (len + m) * ti.bytes ≤ 140737488355328) (hz : ti.z.cells.size = s) (len' : Nat) (l' : List Value) (hlen : len + m = len') (hcs : l ++ vs = l') (hMR : ∀ w, Mem w0 w M → Mem w0 w R) (hd : Nat.blt d n = true)
    (k : ∀ (ob' : Option Nat) (r' : List Value) (cap' : Nat), OwnS ob' len' cap' s l' r' → XW P n ops Q w0 R hard f (done.setIfInBounds i true) ((d, sl ob' 0 len' cap') :: L) ((ob', blk (l' ++ r') e) :: M)) : XW P n ops Q w0 R hard (f + 1) done L ((ob, blk (l ++ r) e) :: M) :=
 XW.av i ho hr (AV.appendOwn hx hy ht hi hs ht2 hl hR hvl hv1 hB hspos hby hb hz len' l' hlen hcs) (fun q _ w m => hMR w m.tail) hd (fun q hq => k q.1 q.2.1 q.2.2 hq)
end
end Go.Fw
namespace Go.Fw
open Go
theorem MRoom.view {Φ : Ctx} {A : Option Addr} {c : Nat} {x y : List (BitVec 8)} (h : View Φ A (x ++ y).length c 1 (u8s (x ++ y))) : View Φ A x.length c 1 (u8s x) := by
 have h1 := h.hi (k := x.length) (by rw [List.length_append]; omega)
 rwa [Nat.mul_one, show (u8s (x ++ y)).take x.length = u8s x by simp [u8s]] at h1
theorem OwnS.mroom {w0 : World} {ob : Option Nat} {len cap : Nat} {x y : List (BitVec 8)} {r : List Value} {te : TypeId} (h : OwnS ob len cap 1 (u8s x) (u8s y ++ r)) {Ψ : Ctx} (hΨ : ∀ w, Ψ w → Mem w0 w [(ob, blk (u8s x ++ (u8s y ++ r)) te)]) (hm : x.length + y.length ≤ 140737488355328) : View Ψ (ob.map fun k => ⟨k, 0, none⟩) (x ++ y).length cap 1 (u8s (x ++ y)) := by
 have h1 := h.hr
 have o : OwnS ob (x ++ y).length cap 1 (u8s (x ++ y)) r := ⟨by rw [Z101]; omega, by rw [← u8s_app, List.append_assoc]; exact h1, h.hn, by rw [List.length_append]; exact hm⟩
 refine o.view (w0 := w0) (te := te) (by decide) (fun w q => ?_)
 rw [← u8s_app, List.append_assoc]
 exact hΨ w q
end Go.Fw
namespace Go.Fw
open Go
def lentN (n : Nat) (x : List (BitVec 8)) : Option (List (BitVec 8)) := if x.length + n ≤ 140737488355328 then some x else none
def waybilllaw02_lent (x : List (BitVec 8)) : Option (List (BitVec 8)) := lentN 200 x
def mkd (n : Nat) (m : BitVec 8) (x : List (BitVec 8)) (i : Nat) : List (BitVec 8) := x ++ (List.replicate (i - x.length) m ++ List.replicate (x.length + n - i) 0#8)
theorem mkd_length {n : Nat} {m : BitVec 8} {x : List (BitVec 8)} {i : Nat} (h1 : x.length ≤ i) (h2 : i ≤ x.length + n) : (mkd n m x i).length = x.length + n := by simp [mkd]; omega
theorem mkd_end (n : Nat) (m : BitVec 8) (x : List (BitVec 8)) : mkd n m x (x.length + n) = x ++ List.replicate n m := by simp [mkd]
theorem mkd_set {n : Nat} {m : BitVec 8} {x : List (BitVec 8)} {i : Nat} (h1 : x.length ≤ i) (h2 : i < x.length + n) : (mkd n m x i).set i m = mkd n m x (i + 1) := by
 unfold mkd
 rw [List.set_append_right _ _ h1, List.set_append_right _ _ (by simp), List.length_replicate]
 congr 1
 rw [show i - x.length - (i - x.length) = 0 by omega, show x.length + n - i = (x.length + n - (i + 1)) + 1 by omega, List.replicate_succ, List.set_cons_zero, show i + 1 - x.length = (i - x.length) + 1 by omega, List.replicate_succ' (n := i - x.length)]
 simp
theorem mkd_copy {n : Nat} {m : BitVec 8} {x : List (BitVec 8)} {k : Nat} (hk : k = x.length) : spl (List.replicate (x.length + n) (Value.int .u8 0)) 0 ((u8s x).take k) = u8s (mkd n m x x.length) := by
 subst hk
 have h1 : (u8s x).take x.length = u8s x := List.take_of_length_le (by rw [Z101]; omega)
 rw [h1, spl_front _ _ (by simp [u8s]), Z101]
 simp [mkd, u8s, U8]
end Go.Fw
namespace Go.Fw.Tryd
open Go Go.Proofs
theorem waybilllaw02_lent_raw (w0 : World) (Φ : Ctx) (N : List Ent) (hΦ : ∀ w, Mem w0 w N → Φ w) (A0 : Option Addr) (c0 : Nat) (a0 : List (BitVec 8)) (res0 : List (BitVec 8)) (va0 : View Φ A0 a0.length c0 1 (u8s a0)) (hf : waybilllaw02_lent a0 = some res0) :
  DoesG Tryd.prog 54 [.slice A0 a0.length c0] w0 [] N (fun v G => ∃ b : Nat, OwnS (some b) res0.length (res0.length + 200) 1 (u8s res0) (u8s (List.replicate 200 195#8) ++ []) ∧ (res0.length + 200 ≤ 140737488355328) ∧ v = sl (some b) 0 res0.length (res0.length + 200) ∧ G = [(some b, blk (u8s res0 ++ (u8s (List.replicate 200 195#8) ++ [])) 5)]) := by
 unfold waybilllaw02_lent lentN at hf
 obtain ⟨hb, hf⟩ := Z118 hf
 cases hf
 refine DoesG.enter Tryd.func54 rfl Tryd.ntmps54 rfl (M := N) rfl (Z4 (Z2 (Z0 (Z5 rfl) rfl (Z6 ?_))))
 (refine Z1 ?_; refine Z4 ?_)
 refine Z2 (Z0 (Z3 rfl) rfl (Z0 (RV.len rfl rfl) rfl (Z0 (Z3 rfl) rfl (Z0 (RV.len rfl rfl) rfl (Z0 (RV.add rfl rfl (by omega)) rfl (OW.make (a0.length) (a0.length + 200) rfl rfl rfl rfl rfl rfl rfl rfl (by omega) (by simp only [i5]; omega) (by omega) rfl (fun b8 => (Z0 (Z5 rfl) rfl ?_))))))))
 refine Z6 ?_
 (refine Z1 ?_; refine Z4 ?_)
 refine Z2 (Z0 (Z3 rfl) rfl (Z0 (Z3 rfl) rfl (OW.copy (ob := some b8) (off := 0) (l := List.replicate (a0.length + 200) (Value.int .u8 0)) (te := 5) rfl rfl rfl rfl (fun h => nomatch h) (by rw [List.length_replicate]; omega) (fun w m => va0.rd w (hΦ w m.tail)) (Z101 _) (Z117 _) (va0.zero (by decide)) rfl (Z6 ?_))))
 (refine Z1 ?_; refine Z4 ?_)
 refine CW.mem (M' := (some b8, blk (u8s (mkd 200 195#8 a0 a0.length)) 5) :: N) (fun w m => by rw [mkd_copy (n := 200) (m := 195#8) (by omega)] at m; exact m) ?_
 refine Z2 (Z0 (Z3 rfl) rfl (Z0 (Z3 rfl) rfl (Z0 (RV.len rfl rfl) rfl (Z0 (RV.add rfl rfl (by omega)) rfl (Z0 (RV.cut_o _ rfl rfl rfl rfl rfl (by omega)) rfl (Z0 (Z5 rfl) rfl (Z6 ?_)))))))
 (refine Z1 ?_; refine Z4 ?_; refine Z4 ?_)
 refine Z2 (Z0 (Z3 rfl) rfl (Z0 (RV.len rfl rfl) rfl (Z0 (Z5 rfl) rfl (Z6 ?_))))
 (refine Z1 ?_; refine CW.block ?_)
 refine CW.loop (σ := Nat) (fun i => a0.length ≤ i ∧ i ≤ a0.length + 200) (fun i => [(3, sl (some b8) 0 (a0.length) (a0.length + 200)), (4, sl (some b8) 0 (a0.length + 200) (a0.length + 200)), (5, .int .i64 (i : Int))]) (fun i => (some b8, blk (u8s (mkd 200 195#8 a0 i)) 5) :: N) (fun i => a0.length + 200 - i) a0.length ⟨by omega, by omega⟩ ⟨rfl, rfl, rfl, trivial⟩ (fun _ m => m) ?_
 rintro i ⟨h1, h2⟩
 have hlen := mkd_length (n := 200) (m := 195#8) h1 h2
 (refine Z4 ?_; refine Z4 ?_)
 refine Z2 (Z0 (Z3 rfl) rfl (Z0 (Z3 rfl) rfl (Z0 (RV.len rfl rfl) rfl (Z0 (RV.lss rfl rfl) rfl (Z6 (Z1 ?_))))))
 refine Z106 rfl (fun hlt => ?_) (fun hlt => ?_)
 ·have hi : i < a0.length + 200 := by omega
  have hl : 0 + i < (u8s (mkd 200 195#8 a0 i)).length := by rw [Z101]; omega
  (refine CW.skip ?_; refine Z1 ?_; refine Z4 ?_; refine CW.block ?_)
  refine Z2 (Z0 (Z3 rfl) rfl (Z0 (Z3 rfl) rfl (Z0 (RV.idx_o _ rfl rfl rfl rfl rfl rfl (by omega)) rfl (Z28 (SV.store rfl rfl rfl rfl rfl (by assumption)) (Z6 ?_)))))
  (refine Z27 ?_; refine Z1 ?_)
  refine Z2 (Z0 (Z3 rfl) rfl (Z0 (RV.add rfl rfl (by omega)) rfl (Z0 (Z5 rfl) rfl (Z6 (Z116 (i + 1) ⟨by omega, by omega⟩ (by omega) ⟨rfl, rfl, rfl, trivial⟩ (fun _ m => ?_))))))
  rw [Nat.zero_add] at m
  rw [← mkd_set h1 hi, ← u8s_set']
  exact m
 ·have hi : i = a0.length + 200 := by omega
  subst hi
  rw [mkd_end]
  (refine CW.exit ?_; refine Z9 ?_; refine Z9 ?_; refine Z15 ?_; refine Z1 ?_; refine Z4 ?_)
  refine Z2 (Z0 (Z3 rfl) rfl (Z0 (Z5 rfl) rfl (Z6 ?_)))
  (refine Z1 ?_; refine CW.ret ?_)
  refine Z107 (rs := [.tmp 2]) [sl (some b8) 0 a0.length (a0.length + 200)] [(some b8, blk (u8s a0 ++ (u8s (List.replicate 200 195#8) ++ [])) 5)] rfl ?_ rfl ?_ ?_ _ (.inl rfl)
  ·exact ⟨rfl, trivial⟩
  ·exact ⟨b8, ⟨by rw [Z101]; omega, by rw [List.append_nil, u8s_app, Z101, List.length_append, List.length_replicate]; omega, (fun h => nomatch h), by omega⟩, hb, rfl, rfl⟩
  ·exact fun w m => by rw [List.append_nil, u8s_app]; exact m
end Go.Fw.Tryd
namespace Go.Fw
open Go Go.RowKit
theorem Z127 {L : Z108} {d k : Nat} {u : Value} (h : d ≠ k) : lk ((d, u) :: L) k = lk L k := by
 simp only [lk]
 split
 ·rename_i e; exact absurd (by simpa using e) h
 ·rfl
theorem nbeq {a b : Nat} (h : Nat.beq a b = false) : a ≠ b := fun e => by subst e; simp at h
theorem lk_swap {L : Z108} {d e q : Nat} {u v w : Value} (h : d ≠ e) (hq : lk ((e, u) :: (d, v) :: L) q = some w) : lk ((d, v) :: (e, u) :: L) q = some w := by
 by_cases h1 : e = q
 ·subst h1
  rw [Z127 h]
  simpa [lk] using hq
 ·rw [Z127 h1] at hq
  by_cases h2 : d = q
  ·subst h2; simpa [lk] using hq
  ·rw [Z127 h2] at hq ⊢
   rw [Z127 h1]; exact hq
theorem lk_mono {L : Z108} {d : Nat} {u : Value} (h : lk L d = none) : ∀ k v, lk L k = some v → lk ((d, u) :: L) k = some v := fun k v hk => by
 rw [Z127 (fun e => by subst e; rw [h] at hk; cases hk)]; exact hk
theorem ev_mono {L L' : Z108} (h : ∀ k v, lk L k = some v → lk L' k = some v) {x : Operand} {v : Value} (hx : ev L x = some v) : ev L' x = some v := by
 cases x with
 | tmp t => exact h t v hx
 | const c => exact hx
 | global g => exact hx
 | func f => exact hx
theorem evs_mono {L L' : Z108} (h : ∀ k v, lk L k = some v → lk L' k = some v) : ∀ (l : List Operand) (vs : List Value), evs L l = some vs → evs L' l = some vs
 | [], vs, e => e
 | x :: r, vs, e => by
  simp only [evs] at e ⊢
  split at e
  ·rename_i u hu
   rw [ev_mono h hu]
   split at e
   ·rename_i us hus
    rw [evs_mono h r us hus]
    exact e
   ·cases e
  ·cases e
theorem Mem.under {w0 : World} {M M' : List Ent} (hs : ∀ w, Mem w0 w M → Mem w0 w M') {b : Nat} {l : List Value} {t : TypeId} {w : World} (m : Mem w0 w ((some b, blk l t) :: M)) : Mem w0 w ((some b, blk l t) :: M') := by
 have m1 := hs w m.tail
 obtain ⟨hb, hw⟩ := m.ents _ (List.mem_cons_self ..) b rfl
 have hlt : b < w.heap.size := (Array.getElem?_eq_some_iff.1 hw).1
 refine ⟨m.os, m.tape, m.output, m.size, m.old, fun e he b' hb' => ?_, List.pairwise_cons.2 ⟨fun e he b' h1 h2 => ?_, m1.apart⟩⟩
 ·rcases List.mem_cons.1 he with rfl | he
  ·exact m.ents _ (List.mem_cons_self ..) b' hb'
  ·exact m1.ents e he b' hb'
 ·obtain rfl : b = b' := by simpa using h1
  have hne : ∀ x ∈ M, ∀ b', x.1 = some b' → b' ≠ b := fun x hx b' h3 e => (List.pairwise_cons.1 m.apart).1 x hx b rfl (by rw [h3, e])
  have m2 : Mem w0 { w with heap := w.heap.set b (blk (undef :: l) t) hlt } M := by
   refine ⟨m.os, m.tape, m.output, by simpa using m.size, fun b' h => ?_, fun x hx b' h3 => ?_, m.tail.apart⟩
   ·show (w.heap.set b _ hlt)[b']? = _
    rw [Array.getElem?_set_ne hlt (by omega)]
    exact m.old b' h
   ·obtain ⟨h4, h5⟩ := m.tail.ents x hx b' h3
    refine ⟨h4, ?_⟩
    show (w.heap.set b _ hlt)[b']? = _
    rw [Array.getElem?_set_ne hlt (fun e => hne x hx b' h3 e.symm)]
    exact h5
  have q1 := (m1.ents e he b h2).2
  have q2 := ((hs _ m2).ents e he b h2).2
  have q3 : (w.heap.set b (blk (undef :: l) t) hlt)[b]? = some (blk (undef :: l) t) := Array.getElem?_set_self hlt
  have q4 : some (blk (undef :: l) t) = some (blk l t) := (q3.symm.trans q2).trans (q1.symm.trans hw)
  simp [blk] at q4
section
variable {P : Program} {n : Nat} {Q : Exit → Act → World → Prop} {w0 : World} {L : Z108} {M R : List Ent}
variable {ops : Array Oper} {hard : List Nat} {f : Nat} {done : Array Bool} {op opp : Op} {ty typ : TypeId} {pos posp : String} {aft aftp : Array Edge} {g : Option (Nat × Bool)} {d dp p : Nat} {v : Value} {fv : Nat → Value} {l : List Value} {te : TypeId}
theorem XW.sub {L' : Z108} (hs : ∀ k v, lk L' k = some v → lk L k = some v) (k : XW P n ops Q w0 R hard f done L' M) : XW P n ops Q w0 R hard f done L M := by
 unfold XW at *
 exact fun hR hB inv a w fr mm => k hR hB inv a w (fr.sub hs) mm
def XWp (P : Program) (n : Nat) (ops : Array Oper) (Q : Exit → Act → World → Prop) (w0 : World) (R : List Ent) (hard : List Nat) (p dp : Nat) (fv : Nat → Value) (l : List Value) (te : TypeId) (f : Nat) (done : Array Bool) (L : Z108) (M : List Ent) : Prop :=
 (∃ op ty pos aft, ops[p]? = some ⟨some dp, op, ty, pos, aft, none⟩ ∧ NV P w0 [] [] op fv l te ∧ Nat.blt dp n = true) → lk L dp = none →
  XW P n ops Q w0 R hard (f + 1) done L M ∧ ∀ b, XW P n ops Q w0 R hard f (done.setIfInBounds p true) ((dp, fv b) :: L) ((some b, blk l te) :: M)
theorem NV.any (h : NV P w0 [] [] op fv l te) : NV P w0 L M op fv l te := fun ρ w hρ m o ho => h ρ w (fun x u hx => hρ x u (ev_mono (fun k v hk => by simp [lk] at hk) hx)) (m.sublist (List.nil_sublist _)) o ho
theorem XWp.fin (hr : (Region.ready .any ops done == [p]) = true) (k : ∀ b, XW P n ops Q w0 R hard f (done.setIfInBounds p true) ((dp, fv b) :: L) ((some b, blk l te) :: M)) : XWp P n ops Q w0 R hard p dp fv l te f done L M := fun ⟨_, _, _, _, ho, hop, hd⟩ hl =>
 ⟨XW.new p ho hr rfl hop.any hd k, k⟩
theorem XWp.slot (v' : Value) (hv : v = v') (k : XWp P n ops Q w0 R hard p dp fv l te f done ((d, v') :: L) M) : XWp P n ops Q w0 R hard p dp fv l te f done ((d, v) :: L) M := by subst hv; exact k
theorem XWp.mem {M' : List Ent} (hs : ∀ w, Mem w0 w M → Mem w0 w M') (hMR : ∀ w, Mem w0 w M' → Mem w0 w R) (k : XWp P n ops Q w0 R hard p dp fv l te f done L M') : XWp P n ops Q w0 R hard p dp fv l te f done L M := fun hp hl =>
 ⟨Z19 hs hMR (k hp hl).1, fun b => Z19 (fun w m => m.under hs) (fun w m => hMR w m.tail) ((k hp hl).2 b)⟩
theorem RV.more {L' : Z108} {M' : List Ent} (hL : ∀ k v, lk L k = some v → lk L' k = some v) (hM : ∀ w, Mem w0 w M' → Mem w0 w M) (h : RV P w0 L M op v) : RV P w0 L' M' op v := fun ρ w hρ m o ho => h ρ w (fun x u hx => hρ x u (ev_mono hL hx)) (hM w m) o ho
theorem XWp.rs (i : Nat) (ho : ops[i]? = some ⟨some d, op, ty, pos, aft, none⟩) (hr : (XR ops done i && XR ops (done.setIfInBounds p true) i && !Nat.beq d dp && !Nat.beq i p) = true) (hw : Wt ops L none = true) (hop : RV P w0 L R op v) (hd : Nat.blt d n = true) (k : XWp P n ops Q w0 R hard p dp fv l te f (done.setIfInBounds i true) ((d, v) :: L) M) : XWp P n ops Q w0 R hard p dp fv l te (f + 1) done L M := fun hp hl => by
 simp only [Bool.and_eq_true, Bool.not_eq_true'] at hr
 obtain ⟨⟨⟨h1, h2⟩, h3⟩, h4⟩ := hr
 have hl' : lk ((d, v) :: L) dp = none := by rw [Z127 (nbeq h3)]; exact hl
 obtain ⟨k1, k2⟩ := k hp hl'
 refine ⟨Z10 i ho h1 rfl hop hd k1, fun b => Z10 i ho h2 rfl (hop.more (lk_mono hl) fun _ m => m) hd ?_⟩
 rw [Array.setIfInBounds_comm _ _ (Ne.symm (nbeq h4))]
 refine XW.sub (fun q u hq => ?_) (k2 b)
 exact lk_swap (nbeq h3) hq
theorem XWp.rv (i : Nat) (ho : ops[i]? = some ⟨some d, op, ty, pos, aft, none⟩) (hr : (XR ops done i && XR ops (done.setIfInBounds p true) i && !Nat.beq d dp && !Nat.beq i p) = true) (hw : Wt ops L none = true) (hS : XS ops hard i = true) (hop : RV P w0 L M op v) (hd : Nat.blt d n = true) (k : XWp P n ops Q w0 R hard p dp fv l te f (done.setIfInBounds i true) ((d, v) :: L) M) : XWp P n ops Q w0 R hard p dp fv l te (f + 1) done L M := fun hp hl => by
 simp only [Bool.and_eq_true, Bool.not_eq_true'] at hr
 obtain ⟨⟨⟨h1, h2⟩, h3⟩, h4⟩ := hr
 have hl' : lk ((d, v) :: L) dp = none := by rw [Z127 (nbeq h3)]; exact hl
 obtain ⟨k1, k2⟩ := k hp hl'
 refine ⟨XW.rv i ho h1 rfl hS hop hd k1, fun b => XW.rv i ho h2 rfl hS (hop.more (lk_mono hl) fun _ m => m.tail) hd ?_⟩
 rw [Array.setIfInBounds_comm _ _ (Ne.symm (nbeq h4))]
 refine XW.sub (fun q u hq => ?_) (k2 b)
 exact lk_swap (nbeq h3) hq
theorem XWp.callG (i : Nat) {fn : FuncId} {xs : List Operand} {ats : Array TypeId} {args : List Value} {Rr : Value → List Ent → Prop} (ho : ops[i]? = some ⟨some d, .call ⟨.value (.func fn), xs.toArray, ats⟩, ty, pos, aft, none⟩) (hr : ((Region.ready .any ops done == [i, p] || Region.ready .any ops done == [p, i]) && Region.ready .any ops (done.setIfInBounds p true) == [i] && !Nat.beq d dp && !Nat.beq i p) = true) (hw : Wt ops L none = true)
    (hc : ∀ (args : Array Value) (w : World), (callFunc fn args).run P w = .ok (.enter fn args) w) (hxs : evs L xs = some args) (hdo : ∀ N, (∀ w, Mem w0 w N → Mem w0 w M) → DoesG P fn args w0 [] N Rr)
    (hd : Nat.blt d n = true) (k : ∀ v G, Rr v G → XWp P n ops Q w0 R hard p dp fv l te f (done.setIfInBounds i true) ((d, v) :: L) (G ++ M)) : XWp P n ops Q w0 R hard p dp fv l te (f + 1) done L M := fun hp hl => by
 simp only [Bool.and_eq_true, Bool.not_eq_true', Bool.or_eq_true, beq_iff_eq] at hr
 obtain ⟨⟨⟨h1, h2⟩, h3⟩, h4⟩ := hr
 have hl' : ∀ v, lk ((d, v) :: L) dp = none := fun v => by rw [Z127 (nbeq h3)]; exact hl
 have k2 : ∀ b, XW P n ops Q w0 R hard (f + 1) (done.setIfInBounds p true) ((dp, fv b) :: L) ((some b, blk l te) :: M) := fun b => by
  refine Z11 i ho (by simpa using h2) rfl hc (evs_mono (lk_mono hl) _ _ hxs) (fun N hN => hdo N fun w m => (hN w m).tail) hd (fun v G hv => ?_)
  rw [Array.setIfInBounds_comm _ _ (Ne.symm (nbeq h4))]
  have q := (k v G hv hp (hl' v)).2 b
  unfold XW at q ⊢
  intro hR hB inv a w fr mm
  have mp : ∀ w, Mem w0 w ((some b, blk l te) :: (G ++ M)) → Mem w0 w (G ++ (some b, blk l te) :: M) := fun w m => m.perm List.perm_middle.symm
  refine q (fun w m => hR w (mp w m)) hB inv a w (fr.sub fun q u hq => ?_) (mm.perm List.perm_middle)
  exact lk_swap (nbeq h3) hq
 refine ⟨?_, k2⟩
 have k1 := fun v G hv => (k v G hv hp (hl' v)).1
 obtain ⟨op, tyq, posq, aftq, hop, hnv, hdp⟩ := hp
 unfold XW at k1 k2 ⊢
 intro hR hB inv a w fr mm
 have hmem : ∀ j, j ∈ Region.ready .any ops done ↔ j = i ∨ j = p := fun j => by rcases h1 with h | h <;> simp [h, or_comm]
 have him : i < ops.size := (Array.getElem?_eq_some_iff.1 ho).1
 have hpm : p < ops.size := (Array.getElem?_eq_some_iff.1 hop).1
 refine ⟨by rcases h1 with h | h <;> simp [h], fun j hj => ?_⟩
 rcases (hmem j).1 hj with rfl | rfl
 ·refine ⟨him, _, ho, .inl ⟨wt_spec fr rfl, ?_⟩⟩
  have hev := evs_map (fun x u hx => fr.eval hx) xs args hxs
  have hrun : (execOp a.eval ⟨some d, .call ⟨.value (.func fn), xs.toArray, ats⟩, ty, pos, aft, none⟩).run P w = .ok (.enter fn args.toArray) w := by
   simp [execOp, resolve, Deferred.ofValue, Act.eval, invoke, hev, hc]
  rw [hrun]
  refine (hdo (allEnts w0 w) (fun w2 m2 => Z128 m2 _ mm) w mm.all).mono ?_
  rintro e w2 ⟨q, ⟨G, h1, h2⟩, rfl, m'⟩
  have m' : Mem w0 w2 (G ++ allEnts w0 w) := by have m2 := m'; rwa [show (fun q : Value × List Ent => q.2) q = G ++ allEnts w0 w from h2] at m2
  refine ⟨_, rfl, ?_, (k1 q.1 G h1) (fun w m => hR w m.appR) hB (inv.set hj him) _ _ (fr.put hd _) (m'.graft mm)⟩
  have hu := Z128 m'.appR
  unfold Rl
  split
  ·exact hu R
  ·exact hu
 ·refine ⟨hpm, _, hop, .inl ⟨wt_spec fr rfl, ?_⟩⟩
  rw [hnv.any (L := L) (M := M) a.eval w (fun x u hx => fr.eval hx) mm _ rfl]
  refine ⟨?_, k2 _ (fun w m => hR w m.tail) hB (inv.set hj hpm) _ _ (fr.put hdp _) (mm.alloc _)⟩
  unfold Rl
  split
  ·exact Upw.alloc _ _ _ R
  ·exact Upw.alloc _ _ _
theorem XWp.new (i : Nat) {l' : List Value} {te' : TypeId} {fv' : Nat → Value} (ho : ops[i]? = some ⟨some d, op, ty, pos, aft, none⟩) (hr : ((Region.ready .any ops done == [i, p] || Region.ready .any ops done == [p, i]) && Region.ready .any ops (done.setIfInBounds p true) == [i] && !Nat.beq d dp && !Nat.beq i p) = true) (hw : Wt ops L none = true)
    (hop : NV P w0 L M op fv' l' te') (hd : Nat.blt d n = true) (k : ∀ b, XWp P n ops Q w0 R hard p dp fv l te f (done.setIfInBounds i true) ((d, fv' b) :: L) ((some b, blk l' te') :: M)) : XWp P n ops Q w0 R hard p dp fv l te (f + 1) done L M := fun hp hl => by
 simp only [Bool.and_eq_true, Bool.not_eq_true', Bool.or_eq_true, beq_iff_eq] at hr
 obtain ⟨⟨⟨h1, h2⟩, h3⟩, h4⟩ := hr
 have hl' : ∀ v, lk ((d, v) :: L) dp = none := fun v => by rw [Z127 (nbeq h3)]; exact hl
 have k2 : ∀ b, XW P n ops Q w0 R hard (f + 1) (done.setIfInBounds p true) ((dp, fv b) :: L) ((some b, blk l te) :: M) := fun b => by
  refine XW.new i ho (by simpa using h2) rfl (fun ρ w hρ m o ho => hop ρ w (fun x u hx => hρ x u (ev_mono (lk_mono hl) hx)) m.tail o ho) hd (fun b' => ?_)
  rw [Array.setIfInBounds_comm _ _ (Ne.symm (nbeq h4))]
  have q := (k b' hp (hl' _)).2 b
  unfold XW at q ⊢
  intro hR hB inv a w fr mm
  have mp : ∀ w, Mem w0 w ((some b, blk l te) :: (some b', blk l' te') :: M) → Mem w0 w ((some b', blk l' te') :: (some b, blk l te) :: M) := fun w m => m.rot1
  refine q (fun w m => hR w (mp w m)) hB inv a w (fr.sub fun q u hq => ?_) (mm.rot1)
  exact lk_swap (nbeq h3) hq
 refine ⟨?_, k2⟩
 have k1 := fun b => (k b hp (hl' (fv' b))).1
 obtain ⟨op, tyq, posq, aftq, hop2, hnv, hdp⟩ := hp
 unfold XW at k1 k2 ⊢
 intro hR hB inv a w fr mm
 have hmem : ∀ j, j ∈ Region.ready .any ops done ↔ j = i ∨ j = p := fun j => by rcases h1 with h | h <;> simp [h, or_comm]
 have him : i < ops.size := (Array.getElem?_eq_some_iff.1 ho).1
 have hpm : p < ops.size := (Array.getElem?_eq_some_iff.1 hop2).1
 refine ⟨by rcases h1 with h | h <;> simp [h], fun j hj => ?_⟩
 rcases (hmem j).1 hj with rfl | rfl
 ·refine ⟨him, _, ho, .inl ⟨wt_spec fr rfl, ?_⟩⟩
  rw [hop a.eval w (fun x u hx => fr.eval hx) mm _ rfl]
  refine ⟨?_, k1 _ (fun w m => hR w m.tail) hB (inv.set hj him) _ _ (fr.put hd _) (mm.alloc _)⟩
  unfold Rl
  split
  ·exact Upw.alloc _ _ _ R
  ·exact Upw.alloc _ _ _
 ·refine ⟨hpm, _, hop2, .inl ⟨wt_spec fr rfl, ?_⟩⟩
  rw [hnv.any (L := L) (M := M) a.eval w (fun x u hx => fr.eval hx) mm _ rfl]
  refine ⟨?_, k2 _ (fun w m => hR w m.tail) hB (inv.set hj hpm) _ _ (fr.put hdp _) (mm.alloc _)⟩
  unfold Rl
  split
  ·exact Upw.alloc _ _ _ R
  ·exact Upw.alloc _ _ _
attribute [irreducible] XWp
theorem NV.alloc [Types P] {e : TypeId} {ti : TI} {l : List Value} (hi : Fw.ty P e = some ti) (hl : ti.z.cells = l.toArray) : NV P w0 L M (.alloc e) (fun b => ptr (some b) 0) l e := fun ρ w hρ m o ho => by
 obtain ⟨_, ti, h1, h2, h3, h4⟩ := ty_ok hi
 simp [execOp, ho, Instr.alloc, zeroValue, typeInfo, h1, h4, newVar, newRow, ptr, blk, hl]
end
end Go.Fw
namespace Go.Fw
open Go
def Rooms (Φ : Ctx) (A : Option Addr) (c : Nat) (x : List (List (BitVec 8))) : Prop := ∃ cs mk : List Value, View Φ A (x ++ ([([164#8] : List (BitVec 8))] : List (List (BitVec 8)))).length c 1 (cs ++ mk) ∧ Reps (RmRd Φ) cs x ∧ Reps (BsRd Φ) (cs ++ mk) (x ++ ([([164#8] : List (BitVec 8))] : List (List (BitVec 8))))
theorem Rooms.mono {Φ Ψ : Ctx} {A : Option Addr} {c : Nat} {x : List (List (BitVec 8))} (h : Rooms Φ A c x) (hh : ∀ w, Ψ w → Φ w) : Rooms Ψ A c x := by
 obtain ⟨cs, mk, v, r, rb⟩ := h
 exact ⟨cs, mk, v.mono hh, r.mono (RmRd.mono hh), rb.mono (BsRd.mono hh)⟩
theorem Rooms.mk {Φ : Ctx} {A : Option Addr} {c : Nat} {x : List (List (BitVec 8))} {cs mk : List Value} (v : View Φ A (x ++ ([([164#8] : List (BitVec 8))] : List (List (BitVec 8)))).length c 1 (cs ++ mk)) (r : Reps (RmRd Φ) cs x) (rb : Reps (BsRd Φ) (cs ++ mk) (x ++ ([([164#8] : List (BitVec 8))] : List (List (BitVec 8))))) : Rooms Φ A c x := ⟨cs, mk, v, r, rb⟩
def Ar8Rd {n : Nat} (Φ : Ctx) (cs : List Value) (v : Vector (BitVec 8) n) : Prop := cs = u8s v.toList
theorem Ar8Rd.mono {n : Nat} {Φ Ψ : Ctx} (hh : ∀ w, Ψ w → Φ w) (cs : List Value) (v : Vector (BitVec 8) n) (h : Ar8Rd Φ cs v) : Ar8Rd Ψ cs v := h
theorem Ar8Rd.len {n : Nat} {Φ : Ctx} (cs : List Value) (v : Vector (BitVec 8) n) (h : Ar8Rd Φ cs v) : cs.length = n := by rw [h, Z101, Zv]
theorem Ar8Rd.mk {n : Nat} {Φ : Ctx} {v : Vector (BitVec 8) n} : Ar8Rd Φ (u8s v.toList) v := rfl
end Go.Fw
namespace Go.Fw
open Go Go.RowKit
section
variable {P : Program} [Types P] {n : Nat} {Q : Exit → Act → World → Prop} {w0 : World} {L : Z108} {M : List Ent} {t e : TypeId} {x : Operand} {v : Value}
def Held (w0 : World) (Φ : Ctx) (b : Nat) (l : List Value) (te : TypeId) : Prop := ∀ w, Φ w → Mem w0 w [(some b, blk l te)]
theorem Held.mono {Φ Ψ : Ctx} {b : Nat} {l : List Value} {te : TypeId} (h : Held w0 Φ b l te) (hh : ∀ w, Ψ w → Φ w) : Held w0 Ψ b l te := fun w q => h w (hh w q)
theorem Held.part {Φ : Ctx} {b i : Nat} {l : List Value} {te : TypeId} {m : Nat} {a : Vector (BitVec 8) m} (h : Held w0 Φ b l te) (hp : ∀ (k : Nat) (u : Value), (u8s a.toList)[k]? = some u → l[i + k]? = some u) (hm : m ≤ 140737488355328) : View Φ (some ⟨b, i, none⟩) a.toList.length m 1 (u8s a.toList) :=
 ⟨fun w q => ⟨fun _ => rfl, fun j u hj => by
  show w.cell? ((⟨b, i, none⟩ : Addr).add j) = some u
  rw [Z103, (h w q).cell (List.mem_cons_self ..)]; exact hp j u hj⟩, fun _ => rfl, by rw [Z101]; omega, by rw [Zv]; exact Nat.le_refl _, by rw [Zv]; exact hm⟩
theorem View.part {Φ : Ctx} {A : Option Addr} {len c s off f : Nat} {cells cs : List Value} {m : Nat} {a : Vector (BitVec 8) m} (h : View Φ A len c s cells) (hc : ∀ j u, cs[j]? = some u → cells[off + j]? = some u) (hp : ∀ (k : Nat) (u : Value), (u8s a.toList)[k]? = some u → cs[f + k]? = some u) (hm : m ≤ 140737488355328) :
    View Φ (some (((A.getD default).add off).add f)) a.toList.length m 1 (u8s a.toList) :=
 ⟨fun w q => ⟨fun _ => rfl, fun j u hj => by
  show w.cell? ((((A.getD default).add off).add f).add j) = some u
  rw [Addr.add_add]; exact h.load q hc _ u (hp j u hj)⟩, fun _ => rfl, by rw [Z101]; omega, by rw [Zv]; exact Nat.le_refl _, by rw [Zv]; exact hm⟩
end
section
variable {P : Program} {n : Nat} {Q : Exit → Act → World → Prop} {w0 : World} {L : Z108} {M : List Ent}
end
def LsRd {T : Type} (s : Nat) (R : Ctx → List Value → T → Prop) (Φ : Ctx) (cs : List Value) (x : List T) : Prop := ∃ A c cs2, cs = [.slice A x.length c] ∧ View Φ A x.length c s cs2 ∧ Reps (R Φ) cs2 x
abbrev HsRd (Φ : Ctx) (cs : List Value) (x : List (Vector (BitVec 8) 32)) : Prop := LsRd 32 Ar8Rd Φ cs x
theorem HsRd.mono {Φ Ψ : Ctx} (hh : ∀ w, Ψ w → Φ w) (cs : List Value) (x : List (Vector (BitVec 8) 32)) : HsRd Φ cs x → HsRd Ψ cs x := fun ⟨A, c, cs2, h1, h2, h3⟩ => ⟨A, c, cs2, h1, h2.mono hh, h3.mono (Ar8Rd.mono hh)⟩
theorem HsRd.len {Φ : Ctx} (cs : List Value) (x : List (Vector (BitVec 8) 32)) (h : HsRd Φ cs x) : cs.length = 1 := by obtain ⟨A, c, cs2, rfl, _⟩ := h; rfl
theorem HsRd.mk {Φ : Ctx} {A : Option Addr} {c : Nat} {cs2 : List Value} {x : List (Vector (BitVec 8) 32)} (h1 : View Φ A x.length c 32 cs2) (h2 : Reps (Ar8Rd Φ) cs2 x) : HsRd Φ [.slice A x.length c] x := ⟨A, c, cs2, rfl, h1, h2⟩
end Go.Fw
namespace Go.Fw
open Go
theorem fillL_cons {pl : List (Nat × Nat)} {l vs : List Value} {i off size : Nat} {r : List (Nat × List Value)} (h : pl[i]? = some (off, size)) (hl : vs.length = size) (hb : off + size ≤ l.length) : fillL pl l ((i, vs) :: r) = fillL pl (spl l off vs) r := by
 rw [fillL, h]
 dsimp only
 rw [if_pos (by simp [hl, hb])]
theorem spl_one {l : List Value} {off : Nat} {v : Value} (h : off < l.length) : spl l off [v] = l.set off v := by
 unfold spl
 rw [List.set_eq_take_append_cons_drop, if_pos h]
 simp
end Go.Fw
namespace Go.Fw
def keccak_Sponge_absorb.l1 (a0 : Sponge) : Nat → (Nat) → (Sponge) → Option ((Sponge))
 | 0, _, _ => none
 | k16 + 1, n13, w15 => (if n13 < 136 then (a0.part[n13]?).bind fun x24 => (if (n13 / 8) < 25 then (w15.lanes[(n13 / 8)]?).bind fun x28 => (keccak_Sponge_absorb.l1 a0 k16 (n13 + 1) ({ w15 with lanes := w15.lanes.setIfInBounds (n13 / 8) (x28 ^^^ ((x24.setWidth 64) <<< (8 * (n13 % 8)))) } : Sponge)) else none) else (some (w15)))
def keccak_Sponge_absorb (a0 : Sponge) : Option ((Sponge)) := (((keccak_Sponge_absorb.l1 a0 (136 - 0 + 2) 0 a0) : Option ((Sponge))).bind fun w3 => ((keccak_Permute w3.lanes).bind fun x10 => (some ({ ({ w3 with lanes := x10 } : Sponge) with held := (0 : Int) } : Sponge))))
def keccak_Sponge_Write.l1 : Nat → (List (BitVec 8)) → (Sponge) → Option ((Sponge))
 | 0, _, _ => none
 | k20 + 1, l15, w19 => (if 0 < l15.length then (if 0 ≤ w19.held then (if (w19.held).toNat < 136 then (if (min l15.length (136 - ((w19.held).toNat))) ≤ l15.length then (if -9223372036854775808 ≤ (({ w19 with part := cpV w19.part ((w19.held).toNat) (l15.take (min l15.length (136 - ((w19.held).toNat)))) } : Sponge).held + (((min l15.length (136 - ((w19.held).toNat))) : Nat) : Int)) ∧ (({ w19 with part := cpV w19.part ((w19.held).toNat) (l15.take (min l15.length (136 - ((w19.held).toNat)))) } : Sponge).held + (((min l15.length (136 - ((w19.held).toNat))) : Nat) : Int)) ≤ 9223372036854775807 then (((if ({ ({ w19 with part := cpV w19.part ((w19.held).toNat) (l15.take (min l15.length (136 - ((w19.held).toNat)))) } : Sponge) with held := (({ w19 with part := cpV w19.part ((w19.held).toNat) (l15.take (min l15.length (136 - ((w19.held).toNat)))) } : Sponge).held + (((min l15.length (136 - ((w19.held).toNat))) : Nat) : Int)) } : Sponge).held = (136 : Int) then ((keccak_Sponge_absorb ({ ({ w19 with part := cpV w19.part ((w19.held).toNat) (l15.take (min l15.length (136 - ((w19.held).toNat)))) } : Sponge) with held := (({ w19 with part := cpV w19.part ((w19.held).toNat) (l15.take (min l15.length (136 - ((w19.held).toNat)))) } : Sponge).held + (((min l15.length (136 - ((w19.held).toNat))) : Nat) : Int)) } : Sponge)).bind fun x47 => (some (x47))) else (some (({ ({ w19 with part := cpV w19.part ((w19.held).toNat) (l15.take (min l15.length (136 - ((w19.held).toNat)))) } : Sponge) with held := (({ w19 with part := cpV w19.part ((w19.held).toNat) (l15.take (min l15.length (136 - ((w19.held).toNat)))) } : Sponge).held + (((min l15.length (136 - ((w19.held).toNat))) : Nat) : Int)) } : Sponge)))) : Option ((Sponge))).bind fun w39 => (keccak_Sponge_Write.l1 k20 (l15.drop (min l15.length (136 - ((w19.held).toNat)))) w39)) else none) else none) else none) else none) else (some (w19)))
def keccak_Sponge_Write (a0 : Sponge) (a1 : List (BitVec 8)) : Option ((Sponge)) := (if -9223372036854775808 ≤ (a0.long + ((a1.length : Nat) : Int)) ∧ (a0.long + ((a1.length : Nat) : Int)) ≤ 9223372036854775807 then (((keccak_Sponge_Write.l1 (a1.length - 0 + 2) a1 ({ a0 with long := (a0.long + ((a1.length : Nat) : Int)) } : Sponge)) : Option ((Sponge))).bind fun w7 => (some w7)) else none)
def keccak_Sponge_Sum.l1 (x14 : Sponge) : Nat → (Nat) → (Vector (BitVec 8) 32) → Option ((Vector (BitVec 8) 32))
 | 0, _, _ => none
 | k32 + 1, n29, w31 => (if n29 < 32 then (if (n29 / 8) < 25 then (x14.lanes[(n29 / 8)]?).bind fun x41 => (keccak_Sponge_Sum.l1 x14 k32 (n29 + 1) (w31.setIfInBounds n29 ((x41 >>> (8 * (n29 % 8))).setWidth 8))) else none) else (some (w31)))
def keccak_Sponge_Sum (a0 : Sponge) : Option ((Vector (BitVec 8) 32) × (Sponge)) := (if 0 ≤ a0.held then (if (a0.held).toNat < 136 then (if 0 ≤ ({ a0 with part := cpV a0.part ((a0.held).toNat) (List.replicate (136 - ((a0.held).toNat)) 0#8) } : Sponge).held then (if (({ a0 with part := cpV a0.part ((a0.held).toNat) (List.replicate (136 - ((a0.held).toNat)) 0#8) } : Sponge).held).toNat < 136 then (({ a0 with part := cpV a0.part ((a0.held).toNat) (List.replicate (136 - ((a0.held).toNat)) 0#8) } : Sponge).part[(({ a0 with part := cpV a0.part ((a0.held).toNat) (List.replicate (136 - ((a0.held).toNat)) 0#8) } : Sponge).held).toNat]?).bind fun x7 => (if 0 ≤ ({ a0 with part := cpV a0.part ((a0.held).toNat) (List.replicate (136 - ((a0.held).toNat)) 0#8) } : Sponge).kind then (firstL[(({ a0 with part := cpV a0.part ((a0.held).toNat) (List.replicate (136 - ((a0.held).toNat)) 0#8) } : Sponge).kind).toNat]?).bind fun x10 => ((keccak_Sponge_absorb ({ ({ ({ a0 with part := cpV a0.part ((a0.held).toNat) (List.replicate (136 - ((a0.held).toNat)) 0#8) } : Sponge) with part := ({ a0 with part := cpV a0.part ((a0.held).toNat) (List.replicate (136 - ((a0.held).toNat)) 0#8) } : Sponge).part.setIfInBounds ((({ a0 with part := cpV a0.part ((a0.held).toNat) (List.replicate (136 - ((a0.held).toNat)) 0#8) } : Sponge).held).toNat) (x7 ^^^ x10) } : Sponge) with part := ({ ({ a0 with part := cpV a0.part ((a0.held).toNat) (List.replicate (136 - ((a0.held).toNat)) 0#8) } : Sponge) with part := ({ a0 with part := cpV a0.part ((a0.held).toNat) (List.replicate (136 - ((a0.held).toNat)) 0#8) } : Sponge).part.setIfInBounds ((({ a0 with part := cpV a0.part ((a0.held).toNat) (List.replicate (136 - ((a0.held).toNat)) 0#8) } : Sponge).held).toNat) (x7 ^^^ x10) } : Sponge).part.setIfInBounds 135 (({ ({ a0 with part := cpV a0.part ((a0.held).toNat) (List.replicate (136 - ((a0.held).toNat)) 0#8) } : Sponge) with part := ({ a0 with part := cpV a0.part ((a0.held).toNat) (List.replicate (136 - ((a0.held).toNat)) 0#8) } : Sponge).part.setIfInBounds ((({ a0 with part := cpV a0.part ((a0.held).toNat) (List.replicate (136 - ((a0.held).toNat)) 0#8) } : Sponge).held).toNat) (x7 ^^^ x10) } : Sponge).part[135] ^^^ 128#8) } : Sponge)).bind fun x14 => (((keccak_Sponge_Sum.l1 x14 (32 - 0 + 2) 0 (Vector.replicate 32 0#8)) : Option ((Vector (BitVec 8) 32))).bind fun w23 => (some (w23, a0)))) else none) else none) else none) else none) else none)
def keccak_digest.l1 (a1 : List (List (BitVec 8))) : Nat → (Nat) → (Sponge) → Option ((Sponge))
 | 0, _, _ => none
 | k27 + 1, n24, w26 => (if n24 < a1.length then (a1[n24]?).bind fun x35 => ((keccak_Sponge_Write w26 x35).bind fun x47 => (keccak_digest.l1 a1 k27 (n24 + 1) x47)) else (some (w26)))
def keccak_digest (a0 : Int) (a1 : List (List (BitVec 8))) : Option ((Vector (BitVec 8) 32)) := (((keccak_digest.l1 a1 (a1.length - 0 + 2) 0 ({ (⟨0, (Vector.replicate 25 0#64), (Vector.replicate 136 0#8), 0, 0⟩ : Sponge) with kind := a0 } : Sponge)) : Option ((Sponge))).bind fun w8 => ((keccak_Sponge_Sum w8).bind fun (x15, x16) => (some x15)))
def keccak_Sum (a0 : List (List (BitVec 8))) : Option ((Vector (BitVec 8) 32)) := ((keccak_digest (0 : Int) a0).bind fun x4 => (some x4))
end Go.Fw
namespace Go.Fw
def waybillref02_filled.l1 : Nat → (List (BitVec 8)) → Option ((List (BitVec 8)))
 | 0, _ => none
 | k41 + 1, l36 => (if (l36.length % 136) = 0 then (some (l36)) else (if l36.length + ([0#8] : List (BitVec 8)).length ≤ 140737488355328 then (waybillref02_filled.l1 k41 (l36 ++ ([0#8] : List (BitVec 8)))) else none))
def waybillref02_filled (a0 : List (BitVec 8)) (a1 : BitVec 8) : Option ((List (BitVec 8))) := (if a0.length + ([a1] : List (BitVec 8)).length ≤ 140737488355328 then (((waybillref02_filled.l1 140 (a0 ++ ([a1] : List (BitVec 8)))) : Option ((List (BitVec 8)))).bind fun l17 => (if 0 ≤ (((l17.length : Nat) : Int) - (1 : Int)) then (l17[((((l17.length : Nat) : Int) - (1 : Int))).toNat]?).bind fun x29 => (l17[((((l17.length : Nat) : Int) - (1 : Int))).toNat]?).bind fun x32 => (some (l17.set (((((l17.length : Nat) : Int) - (1 : Int))).toNat) (x29 ||| 128#8))) else none)) else none)
def waybillref02_Digest.l1 (w18 : Vector (BitVec 64) 25) : Nat → (Nat) → (Vector (BitVec 8) 32) → Option ((Vector (BitVec 8) 32))
 | 0, _, _ => none
 | k36 + 1, n33, w35 => (if n33 < 32 then (if (n33 / 8) < 25 then (w18[(n33 / 8)]?).bind fun x45 => (waybillref02_Digest.l1 w18 k36 (n33 + 1) (w35.setIfInBounds n33 ((x45 >>> (BitVec.ofNat 64 (8 * (n33 % 8))).toNat).setWidth 8))) else none) else (some (w35)))
def waybillref02_Digest.l3 (x4 : List (BitVec 8)) (n47 : Nat) : Nat → (Nat) → (Vector (BitVec 64) 25) → Option ((Vector (BitVec 64) 25))
 | 0, _, _ => none
 | k75 + 1, n72, w74 => (if n72 < 136 then (if (n72 / 8) < 25 then (w74[(n72 / 8)]?).bind fun x85 => (x4[(n47 + n72)]?).bind fun x87 => (waybillref02_Digest.l3 x4 n47 k75 (n72 + 1) (w74.setIfInBounds (n72 / 8) (x85 ^^^ ((x87.setWidth 64) <<< (BitVec.ofNat 64 (8 * (n72 % 8))).toNat)))) else none) else (some (w74)))
def waybillref02_Digest.l2 (x4 : List (BitVec 8)) : Nat → (Nat) → (Vector (BitVec 64) 25) → Option ((Vector (BitVec 64) 25))
 | 0, _, _ => none
 | k50 + 1, n47, w49 => (if n47 < x4.length then (((waybillref02_Digest.l3 x4 n47 (136 - 0 + 2) 0 w49) : Option ((Vector (BitVec 64) 25))).bind fun w61 => ((keccak_Permute w61).bind fun x69 => (waybillref02_Digest.l2 x4 k50 (n47 + 136) x69))) else (some (w49)))
def waybillref02_Digest (a0 : List (BitVec 8)) (a1 : BitVec 8) : Option ((Vector (BitVec 8) 32)) := ((waybillref02_filled a0 a1).bind fun x4 => (((waybillref02_Digest.l2 x4 (x4.length - 0 + 2) 0 (Vector.replicate 25 0#64)) : Option ((Vector (BitVec 64) 25))).bind fun w18 => (((waybillref02_Digest.l1 w18 (32 - 0 + 2) 0 (Vector.replicate 32 0#8)) : Option ((Vector (BitVec 8) 32))).bind fun w27 => (some w27))))
end Go.Fw
namespace Go.Fw
def keccak_New (a0 : Int) : Option ((Sponge) × (Nat)) := (((if a0 = (0 : Int) then (some (false)) else (some ((!decide (a0 = (1 : Int)))))) : Option ((Bool))).bind fun p3 => (if p3 = true then none else (some (({ (⟨0, (Vector.replicate 25 0#64), (Vector.replicate 136 0#8), 0, 0⟩ : Sponge) with kind := a0 } : Sponge), 0))))
def keccak_Sponge_Len (a0 : Sponge) : Option ((Int) × (Sponge)) := (if -9223372036854775808 ≤ a0.long ∧ a0.long ≤ 9223372036854775807 then (some (a0.long, a0)) else none)
def keccak_Sponge_Reset (a0 : Sponge) : Option ((Sponge)) := (some ({ (⟨0, (Vector.replicate 25 0#64), (Vector.replicate 136 0#8), 0, 0⟩ : Sponge) with kind := a0.kind } : Sponge))
def waybilllaw02_num (a0 : Int) : Option ((Int)) := (some a0)
end Go.Fw
namespace Go.Fw
open Go
def MkRd (m : List (BitVec 8)) (Φ : Ctx) (cs : List Value) (x : List (BitVec 8)) : Prop := ∃ A c, cs = [.slice A x.length c] ∧ View Φ A (x ++ m).length c 1 (u8s (x ++ m))
theorem MkRd.mono' {m : List (BitVec 8)} {Φ Ψ : Ctx} (hh : ∀ w, Ψ w → Φ w) (cs : List Value) (x : List (BitVec 8)) : MkRd m Φ cs x → MkRd m Ψ cs x := fun ⟨A, c, h1, h2⟩ => ⟨A, c, h1, h2.mono hh⟩
theorem MkRd.len' {m : List (BitVec 8)} {Φ : Ctx} (cs : List Value) (x : List (BitVec 8)) (h : MkRd m Φ cs x) : cs.length = 1 := by obtain ⟨A, c, rfl, _⟩ := h; rfl
theorem MkRd.bs' {m : List (BitVec 8)} {Φ : Ctx} (cs : List Value) (x : List (BitVec 8)) (h : MkRd m Φ cs x) : BsRd Φ cs x := by
 obtain ⟨A, c, h1, h2⟩ := h
 exact ⟨A, c, h1, MRoom.view h2⟩
abbrev MkRd02 : Ctx → List Value → List (BitVec 8) → Prop := MkRd (List.replicate 200 195#8)
theorem MkRd02.mono {Φ Ψ : Ctx} (hh : ∀ w, Ψ w → Φ w) (cs : List Value) (x : List (BitVec 8)) : MkRd02 Φ cs x → MkRd02 Ψ cs x := MkRd.mono' hh cs x
theorem MkRd02.len {Φ : Ctx} (cs : List Value) (x : List (BitVec 8)) (h : MkRd02 Φ cs x) : cs.length = 1 := MkRd.len' cs x h
abbrev MkRd03 : Ctx → List Value → List (BitVec 8) → Prop := MkRd (List.replicate 70 165#8)
theorem MkRd03.mono {Φ Ψ : Ctx} (hh : ∀ w, Ψ w → Φ w) (cs : List Value) (x : List (BitVec 8)) : MkRd03 Φ cs x → MkRd03 Ψ cs x := MkRd.mono' hh cs x
theorem MkRd03.len {Φ : Ctx} (cs : List Value) (x : List (BitVec 8)) (h : MkRd03 Φ cs x) : cs.length = 1 := MkRd.len' cs x h
def MRooms (m : List (BitVec 8)) (k : List (List (BitVec 8))) (Φ : Ctx) (A : Option Addr) (c : Nat) (x : List (List (BitVec 8))) : Prop :=
 ∃ cs mk : List Value, View Φ A (x ++ k).length c 1 (cs ++ mk) ∧ Reps (MkRd m Φ) cs x ∧ Reps (BsRd Φ) (cs ++ mk) (x ++ k)
theorem MRooms.mono {m : List (BitVec 8)} {k : List (List (BitVec 8))} {Φ Ψ : Ctx} {A : Option Addr} {c : Nat} {x : List (List (BitVec 8))} (h : MRooms m k Φ A c x) (hh : ∀ w, Ψ w → Φ w) : MRooms m k Ψ A c x := by
 obtain ⟨cs, mk, v, r, rb⟩ := h
 exact ⟨cs, mk, v.mono hh, r.mono (MkRd.mono' hh), rb.mono (BsRd.mono hh)⟩
structure Lt where
 b : Nat
 t : List (BitVec 8)
 c : Nat
 r : List Value
def Lt.ent (te : TypeId) (m : List (BitVec 8)) (x : Lt) : Ent := (some x.b, blk (u8s x.t ++ (u8s m ++ x.r)) te)
def Lt.cell (x : Lt) : Value := .slice (some ⟨x.b, 0, none⟩) x.t.length x.c
structure Lt.Ok (m : List (BitVec 8)) (x : Lt) : Prop where
 own : OwnS (some x.b) x.t.length x.c 1 (u8s x.t) (u8s m ++ x.r)
 mx : x.t.length + m.length ≤ 140737488355328
theorem Lt.mroom {w0 : World} {Φ : Ctx} {te : TypeId} {m : List (BitVec 8)} {x : Lt} (h : x.Ok m) (hM : ∀ w, Φ w → Mem w0 w [x.ent te m]) : View Φ (some ⟨x.b, 0, none⟩) (x.t ++ m).length x.c 1 (u8s (x.t ++ m)) := OwnS.mroom h.own hM h.mx
theorem Reps.bs {m : List (BitVec 8)} {Φ : Ctx} {cs : List Value} {xs : List (List (BitVec 8))} (h : Reps (MkRd m Φ) cs xs) : Reps (BsRd Φ) cs xs := h.mono MkRd.bs'
end Go.Fw
namespace Go.Fw
def waybilllaw02_still.l1 (a0 : List (BitVec 8)) (a1 : List (BitVec 8)) : Nat → (Nat) → Option (Lp ((Bool)) (Unit))
 | 0, _ => none
 | k17 + 1, n15 => (if n15 < ((a0 ++ List.replicate 200 195#8).take (a1.length + 200)).length then (((if n15 < a1.length then (((a0 ++ List.replicate 200 195#8).take (a1.length + 200))[n15]?).bind fun x35 => (a1[n15]?).bind fun x38 => (if x35 = x38 then (if a1.length ≤ n15 then (((a0 ++ List.replicate 200 195#8).take (a1.length + 200))[n15]?).bind fun x43 => (some ((!decide (x43 = 195#8)))) else (some (false))) else (some (true))) else (if a1.length ≤ n15 then (((a0 ++ List.replicate 200 195#8).take (a1.length + 200))[n15]?).bind fun x47 => (some ((!decide (x47 = 195#8)))) else (some (false)))) : Option ((Bool))).bind fun p27 => (if p27 = true then (some (Lp.ret (some false))) else (waybilllaw02_still.l1 a0 a1 k17 (n15 + 1)))) else (some (Lp.go ())))
def waybilllaw02_still (a0 : List (BitVec 8)) (a1 : List (BitVec 8)) : Option ((Bool)) := (if a0.length = a1.length then (if (a1.length + 200) ≤ (a0 ++ List.replicate 200 195#8).length then (((waybilllaw02_still.l1 a0 a1 ((((a0 ++ List.replicate 200 195#8).take (a1.length + 200)).length) - 0 + 2) 0) : Option (Lp ((Bool)) (Unit))).bind fun | .ret o => o | .go () => (some true)) else none) else (some false))
end Go.Fw
namespace Go.Fw
def waybilllaw02_which (a0 : Int) : Option ((Int)) := (((if ((a0).tmod 3) < (0 : Int) then (if -9223372036854775808 ≤ (((a0).tmod 3) + (3 : Int)) ∧ (((a0).tmod 3) + (3 : Int)) ≤ 9223372036854775807 then (some ((((a0).tmod 3) + (3 : Int)))) else none) else (some (((a0).tmod 3)))) : Option ((Int))).bind fun z4 => (some z4))
end Go.Fw
namespace Go.Fw
open Go Go.RowKit
def othersL (w0 w : World) (E : List Ent) : List Ent := (allEnts w0 w).filter (fun e => E.all (fun x => decide (x.1 ≠ e.1)))
theorem othersL_mem {w0 w : World} {E : List Ent} {e : Ent} : e ∈ othersL w0 w E ↔ e ∈ allEnts w0 w ∧ ∀ x ∈ E, x.1 ≠ e.1 := by
 unfold othersL
 rw [List.mem_filter, List.all_eq_true]
 simp only [decide_eq_true_eq]
theorem Mem.graftL {w0 w w' : World} {G M E : List Ent} (m : Mem w0 w' (G ++ othersL w0 w E)) (mM : Mem w0 w M) (hb : ∀ e ∈ M, ∀ x ∈ E, ∀ b, e.1 = some b → x.1 ≠ some b) : Mem w0 w' (G ++ M) := by
 have hin : ∀ e ∈ M, ∀ b', e.1 = some b' → ((some b', e.2) : Ent) ∈ othersL w0 w E := fun e he b' hb' => by
  obtain ⟨h1, h2⟩ := mM.ents e he b' hb'
  have hlt : b' < w.heap.size := (Array.getElem?_eq_some_iff.1 h2).1
  have hall : ((some b', e.2) : Ent) ∈ allEnts w0 w := by
   refine List.mem_map.2 ⟨b' - w0.heap.size, List.mem_range.2 (by omega), ?_⟩
   have e1 : w0.heap.size + (b' - w0.heap.size) = b' := by omega
   simp [e1, h2]
  exact othersL_mem.2 ⟨hall, fun x hx => hb e he x hx b' hb'⟩
 have hap := List.pairwise_append.1 m.apart
 refine ⟨m.os, m.tape, m.output, m.size, m.old, fun e he b' hb' => ?_, List.pairwise_append.2 ⟨hap.1, mM.apart, fun g hg e he b' hb1 hb2 => hap.2.2 g hg _ (hin e he b' hb2) b' hb1 rfl⟩⟩
 rcases List.mem_append.1 he with he | he
 ·exact m.ents e (List.mem_append_left _ he) b' hb'
 ·exact m.ents _ (List.mem_append_right _ (hin e he b' hb')) b' rfl
theorem Mem.othersL {w0 w : World} {E M : List Ent} (m : Mem w0 w (E ++ M)) : Mem w0 w (E ++ othersL w0 w E) := by
 have ma := m.all
 have hap := List.pairwise_append.1 m.apart
 refine ⟨m.os, m.tape, m.output, m.size, m.old, fun e he b' hb' => ?_, List.pairwise_append.2 ⟨hap.1, ma.apart.sublist List.filter_sublist, fun x hx e he b' h1 h2 => ?_⟩⟩
 ·rcases List.mem_append.1 he with he | he
  ·exact m.ents _ (List.mem_append_left _ he) b' hb'
  ·exact ma.ents e (othersL_mem.1 he).1 b' hb'
 ·exact (othersL_mem.1 he).2 x hx (h1.trans h2.symm)
section
variable {P : Program} {n : Nat} {Q : Exit → Act → World → Prop} {w0 : World} {L : Z108} {M E R : List Ent}
variable {ops : Array Oper} {hard : List Nat} {f : Nat} {done : Array Bool} {op : Op} {ty : TypeId} {pos : String} {aft : Array Edge} {g : Option (Nat × Bool)} {d : Nat} {v : Value}
theorem RV.idx_as [Types P] {x y : Operand} {t e : TypeId} {k : IntKind} {idx : Int} {ob : Option Nat} {off len s : Nat} (j : Nat) (hx : ev L x = some (ptr ob off)) (hy : ev L y = some (.int k idx)) (hj : idx = (j : Int)) (ht : tyU P t = some (.array len e)) (hs : tyS P e = some s) (h1 : idx < len) :
    RV P w0 L M (.indexAddr t x y) (ptr ob (off + j * s)) := by
 subst hj
 have := RV.idx_arr_at (P := P) (w0 := w0) (M := M) hx hy ht hs (by omega) h1
 simpa [ptr, Z103] using this
theorem NV.boxA {x : Operand} {e : TypeId} {vs : List Value} (hx : ev L x = some (.agg vs.toArray)) : NV P w0 L M (.box e x) (fun b => ptr (some b) 0) vs e := fun ρ w hρ m o ho => by
 simp [execOp, ho, hρ x _ hx, Instr.box, newVar, newRow, ptr, blk, Value.cells]
theorem XW.callEs (i : Nat) {fn : FuncId} {xs : List Operand} {ats : Array TypeId} {args : List Value} {Rr : Value → List Ent → Prop} (ho : ops[i]? = some ⟨some d, .call ⟨.value (.func fn), xs.toArray, ats⟩, ty, pos, aft, g⟩) (hr : (Region.ready .any ops done == [i] && hard.contains i) = true) (hw : Wt ops L g = true)
    (hc : ∀ (args : Array Value) (w : World), (callFunc fn args).run P w = .ok (.enter fn args) w) (hxs : evs L xs = some args) (hdo : ∀ N, (∀ w, Mem w0 w N → Mem w0 w M) → DoesG P fn args w0 E N Rr)
    (hd : Nat.blt d n = true) (hMR : ∀ v G, Rr v G → ∀ w, Mem w0 w (G ++ M) → Mem w0 w R) (k : ∀ v G, Rr v G → XW P n ops Q w0 R hard f (done.setIfInBounds i true) ((d, v) :: L) (G ++ M)) : XW P n ops Q w0 R hard (f + 1) done L (E ++ M) := by
 unfold XW at *
 intro hR hB inv a w fr mm
 simp only [Bool.and_eq_true, beq_iff_eq] at hr
 obtain ⟨hr, hi⟩ := hr
 have him : i < ops.size := (Array.getElem?_eq_some_iff.1 ho).1
 have hne : ∀ e ∈ M, ∀ x ∈ E, ∀ b, e.1 = some b → x.1 ≠ some b := fun e he x hx b hb hxb => (List.pairwise_append.1 mm.apart).2.2 x hx e he b hxb hb
 refine ⟨by rw [hr]; simp, fun j hj => ?_⟩
 rw [hr] at hj
 obtain rfl : j = i := by simpa using hj
 refine ⟨him, _, ho, .inl ⟨wt_spec fr hw, ?_⟩⟩
 have hev := evs_map (fun x u hx => fr.eval hx) xs args hxs
 have hrun : (execOp a.eval ⟨some d, .call ⟨.value (.func fn), xs.toArray, ats⟩, ty, pos, aft, g⟩).run P w = .ok (.enter fn args.toArray) w := by
  simp [execOp, resolve, Deferred.ofValue, Act.eval, invoke, hev, hc]
 rw [hrun]
 refine (hdo (othersL w0 w E) (fun w2 m2 => by have := Mem.graftL (G := []) m2 mm.appR hne; exact this) w mm.othersL).mono ?_
 rintro e w2 ⟨q, ⟨G, h1, h2⟩, rfl, m'⟩
 have m' : Mem w0 w2 (G ++ othersL w0 w E) := by have m2 := m'; rwa [show (fun q : Value × List Ent => q.2) q = G ++ othersL w0 w E from h2] at m2
 have m3 := m'.graftL mm.appR hne
 refine ⟨_, rfl, ?_, (k q.1 G h1) (hMR q.1 G h1) hB (inv.set (by rw [hr]; simp) him) _ _ (fr.put hd _) m3⟩
 unfold Rl
 rw [if_pos hi]
 exact fun _ => hMR q.1 G h1 _ m3
end
end Go.Fw
namespace Go.Fw
theorem absorb_loop (a0 : Sponge) : ∀ (d i k : Nat) (w : Sponge), i + d = 136 → d < k → ∃ w', keccak_Sponge_absorb.l1 a0 k i w = some w' ∧ w'.kind = w.kind ∧ w'.long = w.long
 | 0, i, k, w, h, hk => by
  obtain ⟨k, rfl⟩ : ∃ m, k = m + 1 := ⟨k - 1, by omega⟩
  exact ⟨w, by rw [keccak_Sponge_absorb.l1, if_neg (by omega)], rfl, rfl⟩
 | d + 1, i, k, w, h, hk => by
  obtain ⟨k, rfl⟩ : ∃ m, k = m + 1 := ⟨k - 1, by omega⟩
  rw [keccak_Sponge_absorb.l1, if_pos (by omega), Vector.getElem?_eq_getElem (by omega), Zb, if_pos (by omega), Vector.getElem?_eq_getElem (by omega), Zb]
  obtain ⟨w', e1, e2, e3⟩ := absorb_loop a0 d (i + 1) k _ (by omega) (by omega)
  exact ⟨w', e1, e2, e3⟩
theorem absorb_total (s : Sponge) : ∃ s', keccak_Sponge_absorb s = some s' ∧ s'.kind = s.kind ∧ s'.long = s.long ∧ s'.held = 0 := by
 unfold keccak_Sponge_absorb
 obtain ⟨w, e1, e2, e3⟩ := absorb_loop s 136 0 (136 - 0 + 2) s (by omega) (by omega)
 rw [e1, Zb]
 exact ⟨_, rfl, e2, e3, rfl⟩
theorem write_loop : ∀ (n k : Nat) (l : List (BitVec 8)) (w : Sponge), l.length ≤ n → n < k → 0 ≤ w.held → w.held < 136 → ∃ w', keccak_Sponge_Write.l1 k l w = some w' ∧ 0 ≤ w'.held ∧ w'.held < 136 ∧ w'.kind = w.kind ∧ w'.long = w.long
 | n, 0, l, w, hn, hk, h0, h1 => by omega
 | n, k + 1, l, w, hn, hk, h0, h1 => by
  rw [keccak_Sponge_Write.l1]
  by_cases hl : 0 < l.length
  ·have hm : 0 < min l.length (136 - w.held.toNat) := by omega
   rw [if_pos hl, if_pos h0, if_pos (by omega), if_pos (Nat.min_le_left ..), if_pos (by constructor <;> (show _ ≤ _; dsimp only; omega))]
   by_cases hf : w.held + ((min l.length (136 - w.held.toNat) : Nat) : Int) = 136
   ·rw [if_pos hf]
    obtain ⟨s', e1, e2, e3, e4⟩ := absorb_total ({ ({ w with part := cpV w.part ((w.held).toNat) (l.take (min l.length (136 - ((w.held).toNat)))) } : Sponge) with held := (({ w with part := cpV w.part ((w.held).toNat) (l.take (min l.length (136 - ((w.held).toNat)))) } : Sponge).held + (((min l.length (136 - ((w.held).toNat))) : Nat) : Int)) } : Sponge)
    rw [e1, Zb, Zb]
    obtain ⟨w', f1, f2, f3, f4, f5⟩ := write_loop (n - 1) k (l.drop (min l.length (136 - w.held.toNat))) s' (by rw [List.length_drop]; omega) (by omega) (by omega) (by omega)
    exact ⟨w', f1, f2, f3, f4.trans e2, f5.trans e3⟩
   ·rw [if_neg hf, Zb]
    obtain ⟨w', f1, f2, f3, f4, f5⟩ := write_loop (n - 1) k (l.drop (min l.length (136 - w.held.toNat))) ({ ({ w with part := cpV w.part ((w.held).toNat) (l.take (min l.length (136 - ((w.held).toNat)))) } : Sponge) with held := (({ w with part := cpV w.part ((w.held).toNat) (l.take (min l.length (136 - ((w.held).toNat)))) } : Sponge).held + (((min l.length (136 - ((w.held).toNat))) : Nat) : Int)) } : Sponge) (by rw [List.length_drop]; omega) (by omega) (show 0 ≤ w.held + ((min l.length (136 - w.held.toNat) : Nat) : Int) by omega) (show w.held + ((min l.length (136 - w.held.toNat) : Nat) : Int) < 136 by omega)
    exact ⟨w', f1, f2, f3, f4, f5⟩
  ·rw [if_neg hl]
   exact ⟨w, rfl, h0, h1, rfl, rfl⟩
theorem write_total (s : Sponge) (l : List (BitVec 8)) (h0 : 0 ≤ s.held) (h1 : s.held < 136) (h2 : -9223372036854775808 ≤ s.long + ((l.length : Nat) : Int) ∧ s.long + ((l.length : Nat) : Int) ≤ 9223372036854775807) : ∃ s', keccak_Sponge_Write s l = some s' ∧ 0 ≤ s'.held ∧ s'.held < 136 ∧ s'.kind = s.kind ∧ s'.long = s.long + ((l.length : Nat) : Int) := by
 unfold keccak_Sponge_Write
 rw [if_pos h2]
 obtain ⟨w, e1, e2, e3, e4, e5⟩ := write_loop l.length (l.length - 0 + 2) l ({ s with long := (s.long + ((l.length : Nat) : Int)) } : Sponge) (Nat.le_refl _) (by omega) h0 h1
 rw [e1, Zb]
 exact ⟨w, rfl, e2, e3, e4, e5⟩
end Go.Fw
namespace Go.Fw
abbrev V25 := Vector (BitVec 64) 25
def permV (a : V25) : V25 := match keccak_Permute a with
 | some r => r
 | none => a
theorem perm_eq (a : V25) : keccak_Permute a = some (permV a) := rfl
def xin (b : List (BitVec 8)) : Nat → Nat → V25 → V25
 | 0, _, a => a
 | d + 1, i, a => xin b d (i + 1) (a.setIfInBounds (i / 8) ((a[i / 8]?.getD 0#64) ^^^ (((b[i]?.getD 0#8).setWidth 64) <<< (8 * (i % 8)))))
def takeIn (b : List (BitVec 8)) (a : V25) : V25 := permV (xin b 136 0 a)
def soak : Nat → List (BitVec 8) → V25 → V25
 | 0, _, a => a
 | n + 1, l, a => soak n (l.drop 136) (takeIn (l.take 136) a)
def zeroV : V25 := Vector.replicate 25 0#64
theorem soak_snoc : ∀ (n : Nat) (l : List (BitVec 8)) (a : V25), soak (n + 1) l a = takeIn ((l.drop (136 * n)).take 136) (soak n l a)
 | 0, l, a => by rw [soak, soak, soak, Nat.mul_zero, List.drop_zero]
 | n + 1, l, a => by
  rw [soak, soak_snoc n, soak, List.drop_drop]
  congr 3
  omega
theorem soak_congr : ∀ (n : Nat) (l l' : List (BitVec 8)) (a : V25), l.take (136 * n) = l'.take (136 * n) → soak n l a = soak n l' a
 | 0, l, l', a, h => rfl
 | n + 1, l, l', a, h => by
  rw [soak_snoc, soak_snoc]
  have h1 : l.take (136 * n) = l'.take (136 * n) := by
   have := congrArg (List.take (136 * n)) h
   rwa [List.take_take, List.take_take, Nat.min_eq_left (by omega)] at this
  have h2 : (l.drop (136 * n)).take 136 = (l'.drop (136 * n)).take 136 := by
   have := congrArg (List.drop (136 * n)) h
   rwa [List.drop_take, List.drop_take, show 136 * (n + 1) - 136 * n = 136 by omega] at this
  rw [h2, soak_congr n l l' a h1]
theorem absorb_loop_eq (s : Sponge) : ∀ (d i k : Nat) (w : Sponge), i + d = 136 → d < k → keccak_Sponge_absorb.l1 s k i w = some { w with lanes := xin s.part.toList d i w.lanes }
 | 0, i, k, w, h, hk => by
  obtain ⟨k, rfl⟩ : ∃ m, k = m + 1 := ⟨k - 1, by omega⟩
  rw [keccak_Sponge_absorb.l1, if_neg (by omega)]
  rfl
 | d + 1, i, k, w, h, hk => by
  obtain ⟨k, rfl⟩ : ∃ m, k = m + 1 := ⟨k - 1, by omega⟩
  have h1 : i < 136 := by omega
  have h2 : i / 8 < 25 := by omega
  rw [keccak_Sponge_absorb.l1, if_pos h1, Vector.getElem?_eq_getElem h1, Zb, if_pos h2, Vector.getElem?_eq_getElem h2, Zb, absorb_loop_eq s d (i + 1) k _ (by omega) (by omega)]
  have e1 : (s.part.toList)[i]? = some s.part[i] := by rw [Vector.getElem?_toList, Vector.getElem?_eq_getElem h1]
  simp only [xin, e1, Option.getD_some, Vector.getElem?_eq_getElem h2]
theorem absorb_eq (s : Sponge) : keccak_Sponge_absorb s = some { s with lanes := takeIn s.part.toList s.lanes, held := 0 } := by
 unfold keccak_Sponge_absorb
 rw [absorb_loop_eq s 136 0 (136 - 0 + 2) s (by omega) (by omega), Zb, perm_eq, Zb]
 rfl
structure Took (s : Sponge) (t : List (BitVec 8)) : Prop where
 held : s.held = ((t.length % 136 : Nat) : Int)
 lanes : s.lanes = soak (t.length / 136) t zeroV
 part : s.part.toList.take (t.length % 136) = t.drop (136 * (t.length / 136))
theorem took_loop : ∀ (n k : Nat) (l : List (BitVec 8)) (w : Sponge) (t : List (BitVec 8)), l.length ≤ n → n < k → Took w t → ∃ w', keccak_Sponge_Write.l1 k l w = some w' ∧ Took w' (t ++ l) ∧ w'.kind = w.kind ∧ w'.long = w.long
 | n, 0, l, w, t, hn, hk, ht => by omega
 | n, k + 1, l, w, t, hn, hk, ht => by
  have hq : t.length = 136 * (t.length / 136) + t.length % 136 := (Nat.div_add_mod _ _).symm
  have hm : t.length % 136 < 136 := Nat.mod_lt _ (by decide)
  have hh := ht.held
  rw [keccak_Sponge_Write.l1]
  by_cases hl : 0 < l.length
  ·generalize hM : min l.length (136 - w.held.toNat) = M
   have hM' : M = min l.length (136 - t.length % 136) := by rw [← hM, hh]; rfl
   have hMl : M ≤ l.length := by omega
   have hM0 : 0 < M := by omega
   have hN : w.held.toNat = t.length % 136 := by rw [hh]; rfl
   have hlen : (l.take M).length = M := by rw [List.length_take]; omega
   have hfit : t.length % 136 + (l.take M).length ≤ 136 := by omega
   have hcp := cpV_toList w.part (lo := t.length % 136) (l := l.take M) hfit
   have htl : (t ++ l.take M).length = t.length + M := by rw [List.length_append, hlen]
   rw [if_pos hl, if_pos (by omega), if_pos (by omega), if_pos hMl, if_pos (by constructor <;> (show _ ≤ _; dsimp only; omega)), hN]
   have hsplit : t ++ l = (t ++ l.take M) ++ l.drop M := by rw [List.append_assoc, List.take_append_drop]
   by_cases hf : w.held + ((M : Nat) : Int) = 136
   ·rw [if_pos hf, absorb_eq, Zb, Zb, hsplit]
    have hd : (t.length + M) / 136 = t.length / 136 + 1 := by omega
    have hr : (t.length + M) % 136 = 0 := by omega
    obtain ⟨w', f1, f2, f3, f4⟩ := took_loop (n - 1) k (l.drop M) _ (t ++ l.take M) (by rw [List.length_drop]; omega) (by omega) (⟨by rw [htl, hr]; rfl, by
        rw [htl, hd, soak_snoc]
        show takeIn (cpV w.part (t.length % 136) (l.take M)).toList w.lanes = _
        rw [ht.lanes]
        congr 1
        ·have hz : w.part.toList.drop (t.length % 136 + (l.take M).length) = [] := List.drop_eq_nil_of_le (by rw [Zv, hlen]; omega)
         have hT : (t.drop (136 * (t.length / 136)) ++ l.take M).take 136 = t.drop (136 * (t.length / 136)) ++ l.take M := List.take_of_length_le (by rw [List.length_append, List.length_drop, hlen]; omega)
         rw [hcp, ht.part, hz, List.drop_append_of_le_length (by omega), List.append_nil, hT]
        ·exact soak_congr _ _ _ _ (by rw [List.take_append_of_le_length (by omega)]), by rw [htl, hr, List.take_zero, hd, List.drop_eq_nil_of_le (by rw [htl]; omega)]⟩ : Took ({ ({ ({ w with part := cpV w.part (t.length % 136) (l.take M) } : Sponge) with held := (({ w with part := cpV w.part (t.length % 136) (l.take M) } : Sponge).held + ((M : Nat) : Int)) } : Sponge) with lanes := takeIn (({ ({ w with part := cpV w.part (t.length % 136) (l.take M) } : Sponge) with held := (({ w with part := cpV w.part (t.length % 136) (l.take M) } : Sponge).held + ((M : Nat) : Int)) } : Sponge)).part.toList (({ ({ w with part := cpV w.part (t.length % 136) (l.take M) } : Sponge) with held := (({ w with part := cpV w.part (t.length % 136) (l.take M) } : Sponge).held + ((M : Nat) : Int)) } : Sponge)).lanes, held := 0 } : Sponge) (t ++ l.take M))
    exact ⟨w', f1, f2, f3, f4⟩
   ·have hd : (t.length + M) / 136 = t.length / 136 := by omega
    have hr : (t.length + M) % 136 = t.length % 136 + M := by omega
    rw [if_neg hf, Zb, hsplit]
    obtain ⟨w', f1, f2, f3, f4⟩ := took_loop (n - 1) k (l.drop M) ({ ({ w with part := cpV w.part (t.length % 136) (l.take M) } : Sponge) with held := (({ w with part := cpV w.part (t.length % 136) (l.take M) } : Sponge).held + ((M : Nat) : Int)) } : Sponge) (t ++ l.take M) (by rw [List.length_drop]; omega) (by omega) ⟨by
        show w.held + ((M : Nat) : Int) = _
        rw [htl, hr]; omega, by
        show w.lanes = _
        rw [htl, hd, ht.lanes]
        exact soak_congr _ _ _ _ (by rw [List.take_append_of_le_length (by omega)]), by
        show (cpV w.part (t.length % 136) (l.take M)).toList.take _ = _
        rw [htl, hr, hd, hcp, List.take_left' (by rw [List.length_append, List.length_take, Zv]; omega), ht.part, List.drop_append_of_le_length (by omega)]⟩
    exact ⟨w', f1, f2, f3, f4⟩
  ·rw [if_neg hl]
   obtain rfl : l = [] := List.length_eq_zero_iff.1 (by omega)
   exact ⟨w, rfl, by rw [List.append_nil]; exact ht, rfl, rfl⟩
theorem write_took (s : Sponge) (t l : List (BitVec 8)) (h : Took s t) (h2 : -9223372036854775808 ≤ s.long + ((l.length : Nat) : Int) ∧ s.long + ((l.length : Nat) : Int) ≤ 9223372036854775807) : ∃ s', keccak_Sponge_Write s l = some s' ∧ Took s' (t ++ l) ∧ s'.kind = s.kind ∧ s'.long = s.long + ((l.length : Nat) : Int) := by
 unfold keccak_Sponge_Write
 rw [if_pos h2]
 obtain ⟨w, e1, e2, e3, e4⟩ := took_loop l.length (l.length - 0 + 2) l ({ s with long := (s.long + ((l.length : Nat) : Int)) } : Sponge) t (Nat.le_refl _) (by omega) ⟨h.held, h.lanes, h.part⟩
 rw [e1, Zb]
 exact ⟨w, rfl, e2, e3, e4⟩
def padB (r : List (BitVec 8)) (f : BitVec 8) : List (BitVec 8) := (r ++ f :: List.replicate (135 - r.length) 0#8).set 135 ((if r.length = 135 then f else 0#8) ||| 128#8)
def sq (a : V25) : Nat → Nat → Vector (BitVec 8) 32 → Vector (BitVec 8) 32
 | 0, _, w => w
 | d + 1, i, w => sq a d (i + 1) (w.setIfInBounds i (((a[i / 8]?.getD 0#64) >>> (8 * (i % 8))).setWidth 8))
def digestR (t : List (BitVec 8)) (f : BitVec 8) : Vector (BitVec 8) 32 := sq (takeIn (padB (t.drop (136 * (t.length / 136))) f) (soak (t.length / 136) t zeroV)) 32 0 (Vector.replicate 32 0#8)
theorem sum_loop_eq (x : Sponge) : ∀ (d i k : Nat) (w : Vector (BitVec 8) 32), i + d = 32 → d < k → keccak_Sponge_Sum.l1 x k i w = some (sq x.lanes d i w)
 | 0, i, k, w, h, hk => by
  obtain ⟨k, rfl⟩ : ∃ m, k = m + 1 := ⟨k - 1, by omega⟩
  rw [keccak_Sponge_Sum.l1, if_neg (by omega)]
  rfl
 | d + 1, i, k, w, h, hk => by
  obtain ⟨k, rfl⟩ : ∃ m, k = m + 1 := ⟨k - 1, by omega⟩
  have h2 : i / 8 < 25 := by omega
  rw [keccak_Sponge_Sum.l1, if_pos (by omega), if_pos h2, Vector.getElem?_eq_getElem h2, Zb, sum_loop_eq x d (i + 1) k _ (by omega) (by omega)]
  simp only [sq, Vector.getElem?_eq_getElem h2, Option.getD_some]
theorem setAtS {α : Type} (r : List α) (x y : α) (z : List α) {i : Nat} (h : r.length = i) : (r ++ x :: z).set i y = r ++ y :: z := by
 rw [List.set_append_right _ _ (by omega), show i - r.length = 0 by omega, List.set_cons_zero]
theorem ssum_eq (s : Sponge) (t : List (BitVec 8)) (h : Took s t) (f : BitVec 8) (hk : (s.kind = 0 ∧ f = 1#8) ∨ (s.kind = 1 ∧ f = 6#8)) : keccak_Sponge_Sum s = some (digestR t f, s) := by
 have hm : t.length % 136 < 136 := Nat.mod_lt _ (by decide)
 have hh := h.held
 have hN : s.held.toNat = t.length % 136 := by rw [hh]; rfl
 have hkk : 0 ≤ s.kind := by omega
 have hfst : firstL[s.kind.toNat]? = some f := by
  rcases hk with ⟨e, rfl⟩ | ⟨e, rfl⟩ <;> rw [e] <;> rfl
 have hr : (t.drop (136 * (t.length / 136))).length = t.length % 136 := by rw [List.length_drop]; omega
 have hP1 := cpV_toList s.part (lo := t.length % 136) (l := List.replicate (136 - t.length % 136) 0#8) (by rw [List.length_replicate]; omega)
 have hz : s.part.toList.drop (t.length % 136 + (List.replicate (136 - t.length % 136) 0#8).length) = [] := List.drop_eq_nil_of_le (by rw [Zv, List.length_replicate]; omega)
 rw [h.part, hz, List.append_nil, show 136 - t.length % 136 = (135 - t.length % 136) + 1 by omega, List.replicate_succ] at hP1
 unfold keccak_Sponge_Sum
 rw [if_pos (by omega), if_pos (by omega)]
 dsimp only
 rw [if_pos (by omega), if_pos (by omega), hN]
 generalize hP : cpV s.part (t.length % 136) (List.replicate (136 - t.length % 136) 0#8) = P
 have hPl : P.toList = t.drop (136 * (t.length / 136)) ++ 0#8 :: List.replicate (135 - t.length % 136) 0#8 := by rw [← hP]; rw [show 136 - t.length % 136 = (135 - t.length % 136) + 1 by omega, List.replicate_succ]; exact hP1
 have hPh : P[t.length % 136]? = some 0#8 := by rw [← Vector.getElem?_toList, hPl, List.getElem?_append_right (by omega), hr, Nat.sub_self]; rfl
 rw [hPh, Zb, if_pos hkk, hfst, Zb]
 generalize hS : (Sponge.mk _ _ _ _ _ : Sponge) = S
 rw [absorb_eq, Zb, sum_loop_eq _ 32 0 _ _ (by omega) (by omega), Zb]
 have h1 : S.lanes = s.lanes := by rw [← hS]
 have h2 : S.part.toList = padB (t.drop (136 * (t.length / 136))) f := by
  rw [← hS]
  show ((P.setIfInBounds (t.length % 136) (0#8 ^^^ f)).setIfInBounds 135 ((P.setIfInBounds (t.length % 136) (0#8 ^^^ f))[135] ^^^ 128#8)).toList = _
  generalize hQ : P.setIfInBounds (t.length % 136) (0#8 ^^^ f) = Q
  have hQl : Q.toList = t.drop (136 * (t.length / 136)) ++ f :: List.replicate (135 - t.length % 136) 0#8 := by
   rw [← hQ, ← vset, hPl, setAtS _ _ _ _ hr, BitVec.zero_xor]
  have hQx : Q[135] = if t.length % 136 = 135 then f else 0#8 := by
   have e1 : Q.toList[135]? = some Q[135] := by rw [Vector.getElem?_toList, Vector.getElem?_eq_getElem (by decide)]
   rw [hQl, List.getElem?_append_right (by omega), hr] at e1
   by_cases c : t.length % 136 = 135
   ·rw [if_pos c]
    rw [c] at e1
    exact (Zi e1).symm
   ·rw [if_neg c]
    obtain ⟨j, hj⟩ : ∃ j, 135 - t.length % 136 = j + 1 := ⟨135 - t.length % 136 - 1, by omega⟩
    rw [hj, List.getElem?_cons_succ, List.getElem?_replicate, if_pos (by omega)] at e1
    exact (Zi e1).symm
  have hf : f ^^^ 128#8 = f ||| 128#8 := by rcases hk with ⟨_, rfl⟩ | ⟨_, rfl⟩ <;> rfl
  have hx : Q[135] ^^^ 128#8 = (if t.length % 136 = 135 then f else 0#8) ||| 128#8 := by
   rw [hQx]
   split
   ·exact hf
   ·rfl
  rw [hx, ← vset, hQl]
  unfold padB
  rw [hr]
 dsimp only
 rw [h1, h2, h.lanes]
 rfl
theorem took_zero (k : Int) : Took (⟨k, Vector.replicate 25 0#64, Vector.replicate 136 0#8, 0, 0⟩ : Sponge) [] := ⟨rfl, rfl, by rw [List.length_nil]; rfl⟩
end Go.Fw
namespace Go.Fw
theorem filled_loop : ∀ (d k : Nat) (l : List (BitVec 8)), (l.length + d) % 136 = 0 → d < 136 → d < k → l.length + d ≤ 140737488355328 → waybillref02_filled.l1 k l = some (l ++ List.replicate d 0#8)
 | 0, k, l, h, hd, hk, hb => by
  obtain ⟨k, rfl⟩ : ∃ m, k = m + 1 := ⟨k - 1, by omega⟩
  rw [waybillref02_filled.l1, if_pos (by omega)]
  simp
 | d + 1, k, l, h, hd, hk, hb => by
  obtain ⟨k, rfl⟩ : ∃ m, k = m + 1 := ⟨k - 1, by omega⟩
  rw [waybillref02_filled.l1, if_neg (by omega), if_pos (by simp; omega), filled_loop d k _ (by simp; omega) (by omega) (by omega) (by simp; omega), List.append_assoc, List.replicate_succ]
  rfl
theorem padB_len (r : List (BitVec 8)) (f : BitVec 8) (h : r.length ≤ 135) : (padB r f).length = 136 := by unfold padB; simp; omega
theorem filled_eq (t : List (BitVec 8)) (f : BitVec 8) (ht : t.length + 137 ≤ 140737488355328) : waybillref02_filled t f = some (t.take (136 * (t.length / 136)) ++ padB (t.drop (136 * (t.length / 136))) f) := by
 have hm : t.length % 136 < 136 := Nat.mod_lt _ (by decide)
 have hq : t.length = 136 * (t.length / 136) + t.length % 136 := (Nat.div_add_mod _ _).symm
 have hr : (t.drop (136 * (t.length / 136))).length = t.length % 136 := by rw [List.length_drop]; omega
 have hlen : (t ++ [f]).length = t.length + 1 := by simp
 unfold waybillref02_filled
 rw [if_pos (by simp; omega), filled_loop (135 - t.length % 136) 140 (t ++ [f]) (by omega) (by omega) (by omega) (by omega), Zb]
 have hL : t ++ [f] ++ List.replicate (135 - t.length % 136) 0#8 = t.take (136 * (t.length / 136)) ++ (t.drop (136 * (t.length / 136)) ++ f :: List.replicate (135 - t.length % 136) 0#8) := by
  rw [← List.append_assoc, List.take_append_drop, List.append_assoc]
  rfl
 have hLl : (t ++ [f] ++ List.replicate (135 - t.length % 136) 0#8).length = 136 * (t.length / 136) + 136 := by simp; omega
 have hi : ((((t ++ [f] ++ List.replicate (135 - t.length % 136) 0#8).length : Nat) : Int) - (1 : Int)).toNat = 136 * (t.length / 136) + 135 := by rw [hLl]; omega
 have htk : (t.take (136 * (t.length / 136))).length = 136 * (t.length / 136) := by rw [List.length_take]; omega
 have hx : (t ++ [f] ++ List.replicate (135 - t.length % 136) 0#8)[136 * (t.length / 136) + 135]? = some (if t.length % 136 = 135 then f else 0#8) := by
  rw [hL, List.getElem?_append_right (by omega), htk, show 136 * (t.length / 136) + 135 - 136 * (t.length / 136) = 135 by omega, List.getElem?_append_right (by omega), hr]
  by_cases c : t.length % 136 = 135
  ·rw [if_pos c, c]; rfl
  ·rw [if_neg c]
   obtain ⟨j, hj⟩ : ∃ j, 135 - t.length % 136 = j + 1 := ⟨135 - t.length % 136 - 1, by omega⟩
   rw [hj, List.getElem?_cons_succ, List.getElem?_replicate, if_pos (by omega)]
 rw [if_pos (by omega), hi, hx, Zb, Zb, hL, List.set_append_right _ _ (by omega), htk, show 136 * (t.length / 136) + 135 - 136 * (t.length / 136) = 135 by omega]
 unfold padB
 rw [hr]
theorem rin_loop (F : List (BitVec 8)) (n : Nat) (hn : n + 136 ≤ F.length) : ∀ (d i k : Nat) (w : V25), i + d = 136 → d < k → waybillref02_Digest.l3 F n k i w = some (xin ((F.drop n).take 136) d i w)
 | 0, i, k, w, h, hk => by
  obtain ⟨k, rfl⟩ : ∃ m, k = m + 1 := ⟨k - 1, by omega⟩
  rw [waybillref02_Digest.l3, if_neg (by omega)]
  rfl
 | d + 1, i, k, w, h, hk => by
  obtain ⟨k, rfl⟩ : ∃ m, k = m + 1 := ⟨k - 1, by omega⟩
  have h2 : i / 8 < 25 := by omega
  have h3 : n + i < F.length := by omega
  have h4 : ((F.drop n).take 136)[i]? = some F[n + i] := by rw [List.getElem?_take, if_pos (by omega), List.getElem?_drop, List.getElem?_eq_getElem h3]
  have h5 : (BitVec.ofNat 64 (8 * (i % 8))).toNat = 8 * (i % 8) := by rw [BitVec.toNat_ofNat]; omega
  rw [waybillref02_Digest.l3, if_pos (by omega), if_pos h2, Vector.getElem?_eq_getElem h2, Zb, List.getElem?_eq_getElem h3, Zb, rin_loop F n hn d (i + 1) k _ (by omega) (by omega), h5]
  simp only [xin, h4, Vector.getElem?_eq_getElem h2, Option.getD_some]
theorem rblk_loop (F : List (BitVec 8)) : ∀ (d j k : Nat) (w : V25), 136 * (j + d) = F.length → d < k → waybillref02_Digest.l2 F k (136 * j) w = some (soak d (F.drop (136 * j)) w)
 | 0, j, k, w, h, hk => by
  obtain ⟨k, rfl⟩ : ∃ m, k = m + 1 := ⟨k - 1, by omega⟩
  rw [waybillref02_Digest.l2, if_neg (by omega)]
  rfl
 | d + 1, j, k, w, h, hk => by
  obtain ⟨k, rfl⟩ : ∃ m, k = m + 1 := ⟨k - 1, by omega⟩
  rw [waybillref02_Digest.l2, if_pos (by omega), rin_loop F _ (by omega) 136 0 (136 - 0 + 2) w (by omega) (by omega), Zb, perm_eq, Zb, show 136 * j + 136 = 136 * (j + 1) by omega, rblk_loop F d (j + 1) k _ (by omega) (by omega), soak, List.drop_drop, show 136 * j + 136 = 136 * (j + 1) by omega]
  rfl
theorem rsq_loop (x : V25) : ∀ (d i k : Nat) (w : Vector (BitVec 8) 32), i + d = 32 → d < k → waybillref02_Digest.l1 x k i w = some (sq x d i w)
 | 0, i, k, w, h, hk => by
  obtain ⟨k, rfl⟩ : ∃ m, k = m + 1 := ⟨k - 1, by omega⟩
  rw [waybillref02_Digest.l1, if_neg (by omega)]
  rfl
 | d + 1, i, k, w, h, hk => by
  obtain ⟨k, rfl⟩ : ∃ m, k = m + 1 := ⟨k - 1, by omega⟩
  have h2 : i / 8 < 25 := by omega
  have h5 : (BitVec.ofNat 64 (8 * (i % 8))).toNat = 8 * (i % 8) := by rw [BitVec.toNat_ofNat]; omega
  rw [waybillref02_Digest.l1, if_pos (by omega), if_pos h2, Vector.getElem?_eq_getElem h2, Zb, rsq_loop x d (i + 1) k _ (by omega) (by omega), h5]
  simp only [sq, Vector.getElem?_eq_getElem h2, Option.getD_some]
theorem rdigest_eq (t : List (BitVec 8)) (f : BitVec 8) (ht : t.length + 137 ≤ 140737488355328) : waybillref02_Digest t f = some (digestR t f) := by
 have hm : t.length % 136 < 136 := Nat.mod_lt _ (by decide)
 have hq : t.length = 136 * (t.length / 136) + t.length % 136 := (Nat.div_add_mod _ _).symm
 have hr : (t.drop (136 * (t.length / 136))).length = t.length % 136 := by rw [List.length_drop]; omega
 have htk : (t.take (136 * (t.length / 136))).length = 136 * (t.length / 136) := by rw [List.length_take]; omega
 have hp := padB_len (t.drop (136 * (t.length / 136))) f (by omega)
 unfold waybillref02_Digest
 rw [filled_eq t f ht, Zb]
 generalize hF : t.take (136 * (t.length / 136)) ++ padB (t.drop (136 * (t.length / 136))) f = F
 have hFl : F.length = 136 * (t.length / 136 + 1) := by rw [← hF, List.length_append, htk, hp]; omega
 have h2 := rblk_loop F (t.length / 136 + 1) 0 (F.length - 0 + 2) zeroV (by omega) (by omega)
 rw [Nat.mul_zero, List.drop_zero] at h2
 have h2' : waybillref02_Digest.l2 F (F.length - 0 + 2) 0 (Vector.replicate 25 0#64) = some (soak (t.length / 136 + 1) F zeroV) := h2
 rw [h2', Zb, rsq_loop _ 32 0 (32 - 0 + 2) _ (by omega) (by omega), Zb, soak_snoc]
 have h3 : (F.drop (136 * (t.length / 136))).take 136 = padB (t.drop (136 * (t.length / 136))) f := by
  rw [← hF, List.drop_left' htk, List.take_of_length_le (by omega)]
 have h4 : soak (t.length / 136) F zeroV = soak (t.length / 136) t zeroV := soak_congr _ _ _ _ (by rw [← hF, List.take_left' htk])
 rw [h3, h4]
 rfl
end Go.Fw
namespace Go.Fw
theorem new0 : keccak_New 0 = some (⟨0, Vector.replicate 25 0#64, Vector.replicate 136 0#8, 0, 0⟩, 0) := rfl
end Go.Fw
namespace Go.Fw
open Go
theorem still02_loop (a : List (BitVec 8)) : ∀ (d i k : Nat), i + d = a.length + 200 → d < k → waybilllaw02_still.l1 a a k i = some (Lp.go ())
 | 0, i, k, h, hk => by
  obtain ⟨k, rfl⟩ : ∃ m, k = m + 1 := ⟨k - 1, by omega⟩
  rw [waybilllaw02_still.l1, if_neg (by rw [List.length_take, List.length_append, List.length_replicate]; omega)]
 | d + 1, i, k, h, hk => by
  obtain ⟨k, rfl⟩ : ∃ m, k = m + 1 := ⟨k - 1, by omega⟩
  have hT : (a ++ List.replicate 200 195#8).take (a.length + 200) = a ++ List.replicate 200 195#8 := List.take_of_length_le (by rw [List.length_append, List.length_replicate]; omega)
  have hl : (a ++ List.replicate 200 195#8).length = a.length + 200 := by rw [List.length_append, List.length_replicate]
  rw [waybilllaw02_still.l1, hT, if_pos (by omega)]
  by_cases h1 : i < a.length
  ·rw [if_pos h1, List.getElem?_append_left h1, List.getElem?_eq_getElem h1, Zb, Zb, if_pos rfl, if_neg (by omega), Zb, if_neg (by decide)]
   exact still02_loop a d (i + 1) k (by omega) (by omega)
  ·rw [if_neg h1, if_pos (by omega), List.getElem?_append_right (by omega), List.getElem?_replicate, if_pos (by omega), Zb, decide_eq_true rfl, Zb, if_neg (by decide)]
   exact still02_loop a d (i + 1) k (by omega) (by omega)
theorem still02_eq (a : List (BitVec 8)) : waybilllaw02_still a a = some true := by
 have hT : ((a ++ List.replicate 200 195#8).take (a.length + 200)).length = a.length + 200 := by rw [List.length_take, List.length_append, List.length_replicate]; omega
 have hl : (a ++ List.replicate 200 195#8).length = a.length + 200 := by rw [List.length_append, List.length_replicate]
 unfold waybilllaw02_still
 rw [if_pos rfl, if_pos (by omega), still02_loop a (a.length + 200) 0 _ (by omega) (by rw [hT]; omega), Zb]
end Go.Fw
namespace Go.Fw
def rotr (x : BitVec 32) (n : Nat) : BitVec 32 := x >>> n ||| x <<< (32 - n)
def sg0 (x : BitVec 32) : BitVec 32 := rotr x 7 ^^^ rotr x 18 ^^^ x >>> 3
def sg1 (x : BitVec 32) : BitVec 32 := rotr x 17 ^^^ rotr x 19 ^^^ x >>> 10
def bs0 (x : BitVec 32) : BitVec 32 := rotr x 2 ^^^ rotr x 13 ^^^ rotr x 22
def bs1 (x : BitVec 32) : BitVec 32 := rotr x 6 ^^^ rotr x 11 ^^^ rotr x 25
def zx (l : List (BitVec 8)) (i : Nat) : BitVec 32 := (l.getD i 0#8).setWidth 32
def pw (l : List (BitVec 8)) (i : Nat) : Nat → BitVec 32
 | 0 => 0#32
 | j + 1 => pw l i j <<< 8 ||| zx l (4 * i + j)
def firstW (l : List (BitVec 8)) (n : Nat) : List (BitVec 32) := (List.range n).map fun i => pw l i 4
@[simp] theorem firstW_length (l : List (BitVec 8)) (n : Nat) : (firstW l n).length = n := by simp [firstW]
def wnext (l : List (BitVec 32)) (t : Nat) : BitVec 32 := sg1 (l.getD (t - 2) 0#32) + l.getD (t - 7) 0#32 + sg0 (l.getD (t - 15) 0#32) + l.getD (t - 16) 0#32
def wTo (l : List (BitVec 8)) : Nat → List (BitVec 32)
 | 0 => firstW l 16
 | k + 1 => wTo l k ++ [wnext (wTo l k) (16 + k)]
@[simp] theorem wTo_length (l : List (BitVec 8)) : ∀ k, (wTo l k).length = 16 + k
 | 0 => by simp [wTo]
 | k + 1 => by simp [wTo, wTo_length l k]; omega
structure St where
 a : BitVec 32
 b : BitVec 32
 c : BitVec 32
 d : BitVec 32
 e : BitVec 32
 f : BitVec 32
 g : BitVec 32
 h : BitVec 32
def St.toL (s : St) : List (BitVec 32) := [s.a, s.b, s.c, s.d, s.e, s.f, s.g, s.h]
def St.of (l : List (BitVec 32)) : St := ⟨l.getD 0 0#32, l.getD 1 0#32, l.getD 2 0#32, l.getD 3 0#32, l.getD 4 0#32, l.getD 5 0#32, l.getD 6 0#32, l.getD 7 0#32⟩
def St.t1 (s : St) (k w : BitVec 32) : BitVec 32 := s.h + bs1 s.e + ((s.e &&& s.f) ^^^ (~~~ s.e &&& s.g)) + k + w
def St.t2 (s : St) : BitVec 32 := bs0 s.a + ((s.a &&& s.b) ^^^ (s.a &&& s.c) ^^^ (s.b &&& s.c))
def St.step (s : St) (k w : BitVec 32) : St := ⟨s.t1 k w + s.t2, s.a, s.b, s.c, s.d + s.t1 k w, s.e, s.f, s.g⟩
def runTo (K W : List (BitVec 32)) (s : St) : Nat → St
 | 0 => s
 | t + 1 => (runTo K W s t).step (K.getD t 0#32) (W.getD t 0#32)
def addL (x y : List (BitVec 32)) : List (BitVec 32) := List.zipWith (· + ·) x y
def behindL (K s : List (BitVec 32)) (blk : List (BitVec 8)) : List (BitVec 32) := addL s (runTo K (wTo blk 48) (St.of s) 64).toL
end Go.Fw
namespace Go.Fw
def Norm (l : List Int) : Prop := l.length = 16 ∧ ∀ k, 0 ≤ l.getD k 0 ∧ l.getD k 0 < 65536
theorem Norm.set {l : List Int} (h : Norm l) {p : Nat} {v : Int} (hv : 0 ≤ v ∧ v < 65536) : Norm (l.set p v) := by
 refine ⟨by rw [List.length_set]; exact h.1, fun k => ?_⟩
 simp only [List.getD, List.getElem?_set]
 by_cases e : p = k
 ·rw [if_pos e]
  by_cases hp : p < l.length
  ·rw [if_pos hp]; exact hv
  ·rw [if_neg hp]; exact ⟨by decide, by decide⟩
 ·rw [if_neg e]; exact h.2 k
def startL : List (BitVec 32) := [0x6a09e667#32, 0xbb67ae85#32, 0x3c6ef372#32, 0xa54ff53a#32, 0x510e527f#32, 0x9b05688c#32, 0x1f83d9ab#32, 0x5be0cd19#32]
def constL : List (BitVec 32) := [1116352408#32, 1899447441#32, 3049323471#32, 3921009573#32, 961987163#32, 1508970993#32, 2453635748#32, 2870763221#32, 3624381080#32, 310598401#32, 607225278#32, 1426881987#32, 1925078388#32, 2162078206#32, 2614888103#32, 3248222580#32, 3835390401#32, 4022224774#32, 264347078#32, 604807628#32, 770255983#32, 1249150122#32, 1555081692#32, 1996064986#32, 2554220882#32, 2821834349#32, 2952996808#32, 3210313671#32, 3336571891#32, 3584528711#32, 113926993#32, 338241895#32, 666307205#32, 773529912#32, 1294757372#32, 1396182291#32, 1695183700#32, 1986661051#32, 2177026350#32, 2456956037#32, 2730485921#32, 2820302411#32, 3259730800#32, 3345764771#32, 3516065817#32, 3600352804#32, 4094571909#32, 275423344#32, 430227734#32, 506948616#32, 659060556#32, 883997877#32, 958139571#32, 1322822218#32, 1537002063#32, 1747873779#32, 1955562222#32, 2024104815#32, 2227730452#32, 2361852424#32, 2428436474#32, 2756734187#32, 3204031479#32, 3329325298#32]
end Go.Fw
namespace Go.Fw
def padLen (n : Int) : Nat := (9 + (64 - (n % 64 + 9) % 64) % 64).toNat
def padAt (L : Nat) (x : BitVec 64) (i : Nat) : List (BitVec 8) :=
 (List.range L).map fun k => if k = 0 then 128#8 else if L - 1 - k < i then (x >>> (8 * (L - 1 - k))).setWidth 8 else 0#8
def padL (n : Int) : List (BitVec 8) := padAt (padLen n) (BitVec.ofInt 64 n * 8#64) 8
@[simp] theorem padAt_length (L : Nat) (x : BitVec 64) (i : Nat) : (padAt L x i).length = L := by simp [padAt]
theorem u8s_rep (n : Nat) : List.replicate n (Value.int .u8 0) = u8s (List.replicate n 0#8) := by simp [u8s, U8]
@[simp] theorem padL_length (n : Int) : (padL n).length = padLen n := padAt_length _ _ _
end Go.Fw
namespace Go.Fw
open Go
def soakS : Nat → List (BitVec 8) → List (BitVec 32) → List (BitVec 32)
 | 0, _, s => s
 | n + 1, l, s => soakS n (l.drop 64) (behindL constL s (l.take 64))
structure HT (s : List (BitVec 32)) (rest : List (BitVec 8)) (n : Int) (t : List (BitVec 8)) : Prop where
 n : n = (t.length : Int)
 rest : rest = t.drop (64 * (t.length / 64))
 st : 64 ≤ t.length → s = soakS (t.length / 64) t startL
 sl : s.length = 8
end Go.Fw
namespace Go.Fw
open Go
theorem set_own {α : Type} {l : List α} {i : Nat} {x : α} (h : l[i]? = some x) : l.set i x = l := by
 obtain ⟨hi, rfl⟩ := List.getElem?_eq_some_iff.1 h
 exact List.set_getElem_self hi
structure Hs where
 b : Nat
 s : List (BitVec 32)
 ob : Option Nat
 c : Nat
 r : List Value
 rest : List (BitVec 8)
 n : Int
 t : List (BitVec 8)
 d : Nat
 oe : Option Nat
 ce : Nat
 re : List Value
def Hs.cP (h : Hs) : List Value := u32s h.s ++ [sl h.ob 0 h.rest.length h.c, .int .i64 h.n]
def Hs.cD (h : Hs) : List Value := [sl h.oe 0 h.t.length h.ce]
def Hs.pEnts (tS t8 : TypeId) (h : Hs) : List Ent := [(some h.b, blk h.cP tS), (h.ob, blk (u8s h.rest ++ h.r) t8)]
def Hs.dEnts (tT t8 : TypeId) (h : Hs) : List Ent := [(some h.d, blk h.cD tT), (h.oe, blk (u8s h.t ++ h.re) t8)]
def Hs.ents (tS tT t8 : TypeId) (h : Hs) : List Ent := h.pEnts tS t8 ++ h.dEnts tT t8
structure Hs.Ok (h : Hs) : Prop where
 ht : HT h.s h.rest h.n h.t
 o1 : OwnS h.ob h.rest.length h.c 1 (u8s h.rest) h.r
 o2 : OwnS h.oe h.t.length h.ce 1 (u8s h.t) h.re
structure POp where
 kind : Int
 ath : Int
 data : List (BitVec 8)
def POpRd (Φ : Ctx) (cs : List Value) (o : POp) : Prop := ∃ (A : Option Addr) (c : Nat), cs = [.int .i64 o.kind, .int .i64 o.ath, .slice A o.data.length c] ∧ (-9223372036854775808 ≤ o.ath ∧ o.ath ≤ 9223372036854775807) ∧ View Φ A o.data.length c 1 (u8s o.data)
theorem POpRd.len {Φ : Ctx} (cs : List Value) (o : POp) (h : POpRd Φ cs o) : cs.length = 3 := by obtain ⟨A, c, rfl, _, _⟩ := h; rfl
theorem POpRd.mono {Φ Ψ : Ctx} (hh : ∀ w, Ψ w → Φ w) (cs : List Value) (o : POp) : POpRd Φ cs o → POpRd Ψ cs o := fun ⟨A, c, e, b, v⟩ => ⟨A, c, e, b, v.mono hh⟩
end Go.Fw
namespace Go.Fw
open Go
structure Kp where
 b : Nat
 sp : Sponge
structure Kd where
 d : Nat
 kind : Int
 t : List (BitVec 8)
 oe : Option Nat
 ce : Nat
 re : List Value
def Kp.v : Option Kp → Value
 | none => .pointer none
 | some k => ptr (some k.b) 0
def Kp.E (tS : TypeId) : Option Kp → List Ent
 | none => []
 | some k => [(some k.b, blk k.sp.C tS)]
def Kd.v : Option Kd → Value
 | none => .pointer none
 | some k => ptr (some k.d) 0
def Kd.E (tT : TypeId) : Option Kd → List Ent
 | none => []
 | some k => [(some k.d, blk [.int .i64 k.kind, sl k.oe 0 k.t.length k.ce] tT), (k.oe, blk (u8s k.t ++ k.re) 5)]
structure KTook (k : Kp) (kind : Int) (t : List (BitVec 8)) : Prop where
 tk : Took k.sp t
 lg : k.sp.long = (t.length : Int)
 kd : k.sp.kind = kind
structure KOwn (m : Kd) : Prop where
 kd : m.kind = 0 ∨ m.kind = 1
 own : OwnS m.oe m.t.length m.ce 1 (u8s m.t) m.re
structure KS where
 p : Option Kp
 d : Option Kd
inductive KS.Ok : KS → Prop
 | nil : KS.Ok ⟨none, none⟩
 | some {k : Kp} {m : Kd} : KTook k m.kind m.t → KOwn m → KS.Ok ⟨some k, some m⟩
def KS.ents (tS tT : TypeId) (x : KS) : List Ent := Kp.E tS x.p ++ Kd.E tT x.d
def KS.len (x : KS) : Nat := match x.d with
 | none => 0
 | some m => m.t.length
def KS.dig (x : KS) : Vector (BitVec 8) 32 := match x.d with
 | none => Vector.replicate 32 0#8
 | some m => digestR m.t (if m.kind = 1 then 6#8 else 1#8)
def KS.cells (x : KS) : List Value := [Kp.v x.p, Kd.v x.d]
def kyE (tS tT : TypeId) (l : List KS) : List Ent := l.flatMap (KS.ents tS tT)
def kyC (l : List KS) : List Value := l.flatMap KS.cells
theorem kyC_length (l : List KS) : (kyC l).length = l.length * 2 := by
 induction l with
 | nil => rfl
 | cons x l ih => rw [kyC, List.flatMap_cons, List.length_append, show (l.flatMap KS.cells).length = l.length * 2 from ih, List.length_cons]; simp [KS.cells]; omega
theorem kyC_at {l : List KS} {i : Nat} {x : KS} (h : l[i]? = some x) : ∀ j u, x.cells[j]? = some u → (kyC l)[i * 2 + j]? = some u := by
 intro j u hj
 obtain ⟨hi, rfl⟩ := List.getElem?_eq_some_iff.1 h
 have e : kyC l = kyC (l.take i) ++ (l[i].cells ++ kyC (l.drop (i + 1))) := by
  have e1 : l = l.take i ++ (l[i] :: l.drop (i + 1)) := by rw [← List.drop_eq_getElem_cons hi, List.take_append_drop]
  conv => lhs; rw [e1, kyC, List.flatMap_append]
  rfl
 have hl : (kyC (l.take i)).length = i * 2 := by rw [kyC_length, List.length_take, Nat.min_eq_left (by omega)]
 rw [e, List.getElem?_append_right (by omega), hl, show i * 2 + j - i * 2 = j by omega, List.getElem?_append_left (List.getElem?_eq_some_iff.1 hj).1]
 exact hj
theorem kyC_spl {l : List KS} {i off : Nat} {y : KS} (hi : i < l.length) (ho : off = i * 2) : spl (kyC l) off y.cells = kyC (l.set i y) := by
 subst ho
 have e1 : l = l.take i ++ (l[i] :: l.drop (i + 1)) := by rw [← List.drop_eq_getElem_cons hi, List.take_append_drop]
 have e : kyC l = kyC (l.take i) ++ (l[i].cells ++ kyC (l.drop (i + 1))) := by
  conv => lhs; rw [e1, kyC, List.flatMap_append]
  rfl
 have hl : (kyC (l.take i)).length = i * 2 := by rw [kyC_length, List.length_take, Nat.min_eq_left (by omega)]
 have e2 : kyC (l.set i y) = kyC (l.take i) ++ (y.cells ++ kyC (l.drop (i + 1))) := by
  rw [List.set_eq_take_append_cons_drop, if_pos hi, kyC, List.flatMap_append]
  rfl
 have h2 : (l[i]).cells.length = 2 := rfl
 have h3 : y.cells.length = 2 := rfl
 unfold spl
 rw [e2, e, h3, List.take_append_of_le_length (by omega), List.take_of_length_le (by omega), ← List.append_assoc (kyC (l.take i)), List.drop_append, List.drop_of_length_le (by rw [List.length_append]; omega), List.length_append, hl, h2, Nat.sub_self, List.drop_zero, List.nil_append, List.append_assoc]
theorem kyE_out {tS tT : TypeId} {l : List KS} {i : Nat} {x : KS} (h : l[i]? = some x) : List.Perm (kyE tS tT l) (x.ents tS tT ++ kyE tS tT (l.eraseIdx i)) := by
 obtain ⟨hi, rfl⟩ := List.getElem?_eq_some_iff.1 h
 have e : l = l.take i ++ l[i] :: l.drop (i + 1) := by rw [← List.drop_eq_getElem_cons hi, List.take_append_drop]
 have p : List.Perm l (l[i] :: l.eraseIdx i) := by
  rw [List.eraseIdx_eq_take_drop_succ]
  exact (List.Perm.of_eq e).trans List.perm_middle
 exact p.flatMap_right _
theorem ky_front {w0 w : World} {tS tT : TypeId} {l : List KS} {k : Nat} {x : KS} {F X : List Ent} (hx : l[k]? = some x) (m : Mem w0 w (F ++ (kyE tS tT l ++ X))) : Mem w0 w (x.ents tS tT ++ (F ++ (kyE tS tT (l.eraseIdx k) ++ X))) := by
 have p : List.Perm (F ++ (kyE tS tT l ++ X)) (F ++ ((x.ents tS tT ++ kyE tS tT (l.eraseIdx k)) ++ X)) := List.Perm.append_left F (List.Perm.append_right X (kyE_out hx))
 have m2 := m.perm p
 rw [List.append_assoc] at m2
 exact m2.perm (List.perm_append_comm_assoc F _ _)
theorem ky_back {w0 w : World} {tS tT : TypeId} {l : List KS} {k : Nat} {y : KS} {F X : List Ent} (hk : k < l.length) (m : Mem w0 w (y.ents tS tT ++ (F ++ (kyE tS tT (l.eraseIdx k) ++ X)))) : Mem w0 w (F ++ (kyE tS tT (l.set k y) ++ X)) := by
 have hs : (l.set k y)[k]? = some y := by rw [List.getElem?_set_self hk]
 have p := (kyE_out (tS := tS) (tT := tT) hs).symm
 rw [List.eraseIdx_set_eq] at p
 have m2 := m.perm (List.perm_append_comm_assoc _ F _)
 rw [← List.append_assoc (y.ents tS tT)] at m2
 exact m2.perm (List.Perm.append_left F (List.Perm.append_right X p))
theorem ky_take {w0 w : World} {tS tT : TypeId} {l : List KS} {k : Nat} {y : KS} {F X : List Ent} (hk : k < l.length) (m : Mem w0 w (y.ents tS tT ++ (F ++ (kyE tS tT l ++ X)))) : Mem w0 w (F ++ (kyE tS tT (l.set k y) ++ X)) := by
 have m2 := ky_front (F := y.ents tS tT ++ F) (List.getElem?_eq_getElem hk) (by rw [List.append_assoc]; exact m)
 have m3 := m2.appR
 rw [List.append_assoc] at m3
 exact ky_back hk m3
theorem kp1 {w0 w : World} {P B F D X : List Ent} (m : Mem w0 w ((P ++ B) ++ (F ++ (D ++ X)))) : Mem w0 w (F ++ (P ++ (D ++ (B ++ X)))) := by
 have m2 := m.perm (List.perm_append_comm_assoc (P ++ B) F _)
 refine m2.perm (List.Perm.append_left F ?_)
 rw [List.append_assoc]
 exact List.Perm.append_left P (List.perm_append_comm_assoc B D X)
theorem kp2 {w0 w : World} {P F D X : List Ent} (m : Mem w0 w (F ++ (P ++ (D ++ X)))) : Mem w0 w (D ++ (F ++ (P ++ X))) := by
 refine m.perm ((List.Perm.append_left F (List.perm_append_comm_assoc P D X)).trans ?_)
 exact List.perm_append_comm_assoc F D _
theorem kp3 {w0 w : World} {P B F D X : List Ent} (m : Mem w0 w ((D ++ B) ++ (F ++ (P ++ X)))) : Mem w0 w (F ++ (P ++ (D ++ (B ++ X)))) := by
 have m2 := kp1 m
 exact m2.perm (List.Perm.append_left F (List.perm_append_comm_assoc D P _))
theorem kp4 {w0 w : World} {P F D B K N : List Ent} (m : Mem w0 w (F ++ (P ++ (D ++ (B ++ (K ++ N)))))) : Mem w0 w ((P ++ D) ++ (F ++ (K ++ (B ++ N)))) := by
 refine m.perm ?_
 have p1 : List.Perm (F ++ (P ++ (D ++ (B ++ (K ++ N))))) (F ++ ((P ++ D) ++ (K ++ (B ++ N)))) := by
  rw [List.append_assoc]
  exact List.Perm.append_left F (List.Perm.append_left P (List.Perm.append_left D (List.perm_append_comm_assoc B K N)))
 exact p1.trans (List.perm_append_comm_assoc F _ _)
theorem kp5 {w0 w : World} {P F D X : List Ent} (m : Mem w0 w ((P ++ D) ++ (F ++ X))) : Mem w0 w (F ++ (P ++ (D ++ X))) := by
 have m2 := m.perm (List.perm_append_comm_assoc (P ++ D) F _)
 rwa [List.append_assoc] at m2
theorem kp6 {w0 w : World} {P F D X : List Ent} (m : Mem w0 w (F ++ (P ++ (D ++ X)))) : Mem w0 w (P ++ (F ++ (D ++ X))) := m.perm (List.perm_append_comm_assoc F P _)
theorem k02lent (a : List (BitVec 8)) (h : a.length + 200 ≤ 140737488355328) : waybilllaw02_lent a = some a := by unfold waybilllaw02_lent lentN; exact if_pos h
theorem kyC_same {l : List KS} {i : Nat} {x y : KS} (h : l[i]? = some x) (he : y.cells = x.cells) : kyC (l.set i y) = kyC l := by
 have e : ∀ l : List KS, kyC l = (l.map KS.cells).flatten := fun l => by rw [kyC, List.flatMap_def]
 rw [e, e, List.map_set, he, set_own (by rw [List.getElem?_map, h]; rfl)]
theorem kp7 {w0 w : World} {P B F D X : List Ent} (m : Mem w0 w ((P ++ B) ++ (F ++ (D ++ X)))) : Mem w0 w (F ++ (P ++ (D ++ X))) := by
 have m2 := kp1 m
 exact m2.sublist (List.Sublist.append (List.Sublist.refl _) (List.Sublist.append (List.Sublist.refl _) (List.Sublist.append (List.Sublist.refl _) (List.sublist_append_right _ _))))
theorem kp8 {w0 w : World} {P B F D X : List Ent} (m : Mem w0 w ((D ++ B) ++ (F ++ (P ++ X)))) : Mem w0 w (F ++ (P ++ (D ++ X))) := by
 have m2 := kp3 m
 exact m2.sublist (List.Sublist.append (List.Sublist.refl _) (List.Sublist.append (List.Sublist.refl _) (List.Sublist.append (List.Sublist.refl _) (List.sublist_append_right _ _))))
abbrev spZ (kind : Int) : Sponge := ⟨kind, Vector.replicate 25 0#64, Vector.replicate 136 0#8, 0, 0⟩
theorem which02_eq (a : Int) (ha : -9223372036854775808 ≤ a ∧ a ≤ 9223372036854775807) : ∃ r : Nat, waybilllaw02_which a = some (r : Int) ∧ r < 3 := by
 have h1 := Int.lt_tmod_of_pos a (show (0 : Int) < 3 by omega)
 have h2 := Int.tmod_lt_of_pos a (show (0 : Int) < 3 by omega)
 unfold waybilllaw02_which
 generalize a.tmod 3 = q at *
 by_cases h : q < 0
 ·refine ⟨(q + 3).toNat, ?_, by omega⟩
  simp only [h, if_true]
  first
   | (rw [if_pos (by omega)]; simp; omega)
   | (simp; omega)
 ·refine ⟨q.toNat, ?_, by omega⟩
  simp only [h, if_false]
  simp
  omega
structure KOp where
 kind : Int
 on : Int
 other : Int
 data : List (BitVec 8)
def KOpRd (Φ : Ctx) (cs : List Value) (o : KOp) : Prop := ∃ (A : Option Addr) (c : Nat), cs = [.int .i64 o.kind, .int .i64 o.on, .int .i64 o.other, .slice A o.data.length c] ∧ (-9223372036854775808 ≤ o.on ∧ o.on ≤ 9223372036854775807) ∧ (-9223372036854775808 ≤ o.other ∧ o.other ≤ 9223372036854775807) ∧ View Φ A o.data.length c 1 (u8s o.data)
theorem KOpRd.len {Φ : Ctx} (cs : List Value) (o : KOp) (h : KOpRd Φ cs o) : cs.length = 4 := by obtain ⟨A, c, rfl, _, _, _⟩ := h; rfl
theorem KOpRd.mono {Φ Ψ : Ctx} (hh : ∀ w, Ψ w → Φ w) (cs : List Value) (o : KOp) : KOpRd Φ cs o → KOpRd Ψ cs o := fun ⟨A, c, e, b, b2, v⟩ => ⟨A, c, e, b, b2, v.mono hh⟩
def kopTot (l : List KOp) (i : Nat) : Nat := ((l.take i).map fun o => o.data.length).sum
theorem kopTot_succ {l : List KOp} {i : Nat} {o : KOp} (h : l[i]? = some o) : kopTot l (i + 1) = kopTot l i + o.data.length := by
 unfold kopTot
 rw [List.take_add_one, h, List.map_append, List.sum_append]
 simp
theorem kopTot_le (l : List KOp) (i : Nat) : kopTot l i ≤ (l.map fun o => o.data.length).sum := by
 unfold kopTot
 conv => rhs; rw [← List.take_append_drop i l, List.map_append, List.sum_append]
 omega
end Go.Fw

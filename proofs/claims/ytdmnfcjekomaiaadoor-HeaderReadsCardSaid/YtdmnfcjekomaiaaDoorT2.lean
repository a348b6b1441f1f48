/- Part of a proof: rules that its law uses. -/
import Derived.Laws.Externs
import Derived.Scope
import Derived.ChangeArms
import Derived.Test.YtdmnfcjekomaiaaDoorT1
set_option linter.unusedVariables false
set_option linter.unusedSimpArgs false
set_option linter.unusedSectionVars false
set_option maxRecDepth 100000
set_option maxHeartbeats 1000000
namespace Go.Fw
open Go Go.RowKit
section
variable {P : Program} {n : Nat} {Q : Exit → Act → World → Prop} {w0 : World} {L : Z118} {M : List Ent}
variable {ops : Array Oper} {rest : List Oper} {d : Nat} {v v' : Value} {tail : List Oper} {m g : Nat} {done : Array Bool}
theorem Z7 (v' : Value) (hv : v = v') (k : OW P n ops Q w0 rest ((d, v') :: L) M) : OW P n ops Q w0 rest ((d, v) :: L) M := by subst hv; exact k
theorem UW.slot (v' : Value) (hv : v = v') (k : UW P n ops Q w0 tail m g done ((d, v') :: L) M) : UW P n ops Q w0 tail m g done ((d, v) :: L) M := by subst hv; exact k
theorem OW.cells {ob : Option Nat} {l : List Value} {t : TypeId} (l' : List Value) (e : l = l') (k : OW P n ops Q w0 rest L ((ob, blk l' t) :: M)) : OW P n ops Q w0 rest L ((ob, blk l t) :: M) := by subst e; exact k
end
section
variable {P : Program} [Types P] {w0 : World} {L : Z118} {M : List Ent} {t e : TypeId} {x y : Operand} {v : Value}
theorem Z31 {A : Addr} {s f : Nat} {fs : Array Field} {fd : Field} (hx : ev L x = some (.pointer (some A))) (ht : tyU P t = some (.struct fs)) (hf : fs[f]? = some fd) (hs : tyS P fd.type = some (s + 1)) :
    RV P w0 L M (.fieldAddr t x f) (.pointer (some (A.add fd.offset))) := fun ρ w hρ m o ho => by
 simp [execOp, ho, hρ x _ hx, Instr.fieldAt, Instr.sureAddr, Z125 ht, hf, Go.fieldPlace, Z134 hs]
def plcs (P : Program) [Types P] : List Field → Option (List (Nat × Nat))
 | [] => some []
 | f :: r => match tyS P f.type, plcs P r with
  | some s, some l => some ((f.offset, s) :: l)
  | _, _ => none
theorem plcs_run {w : World} : ∀ (fs : List Field) (pl : List (Nat × Nat)), plcs P fs = some pl → (fs.mapM (m := Sem) fun f => do pure (f.offset, ← Go.sizeOf f.type)).run P w = .ok pl w
 | [], pl, h => by simp [plcs] at h; subst h; simp
 | f :: r, pl, h => by
  simp only [plcs] at h
  split at h
  ·rename_i s l h1 h2
   simp at h; subst h
   have ih := plcs_run (w := w) r l h2
   have hs := Z134 (P := P) h1 w
   simp only [List.mapM_cons, Sem.run_bind, hs, ih, Result.andThen, Sem.run_pure]
  ·cases h
def fillL (pl : List (Nat × Nat)) : List Value → List (Nat × List Value) → Option (List Value)
 | l, [] => some l
 | l, (i, vs) :: r => match pl[i]? with
  | some (off, size) => if Nat.beq vs.length size && Nat.ble (off + size) l.length then fillL pl (spl l off vs) r else none
  | none => none
theorem fillL_run {pl : List (Nat × Nat)} : ∀ (ps : List (Nat × List Value)) (us : List (Nat × Value)) (l cs : List Value), us.map (fun p => (p.1, p.2.cells)) = ps.map (fun p => (p.1, p.2.toArray)) → fillL pl l ps = some cs →
    Instr.fill (fun i => pl[i]?) l.toArray us = some cs.toArray
 | [], us, l, cs, hu, h => by
  cases us with
  | nil => simp [fillL] at h; subst h; rfl
  | cons _ _ => simp at hu
 | (i, vs) :: r, us, l, cs, hu, h => by
  cases us with
  | nil => simp at hu
  | cons p us =>
   obtain ⟨j, u⟩ := p
   simp only [List.map_cons, List.cons.injEq, Prod.mk.injEq] at hu
   obtain ⟨⟨rfl, h2⟩, h3⟩ := hu
   simp only [fillL] at h
   split at h
   ·rename_i off size hp
    split at h
    ·rename_i hc
     simp only [Bool.and_eq_true, Nat.beq_eq, Nat.ble_eq] at hc
     obtain ⟨h4, h5⟩ := hc
     rw [fill_cons (vs := vs) (off := off) (size := size) hp h2 h4 (by omega)]
     exact fillL_run r us _ cs h3 h
    ·cases h
   ·cases h
def evC (L : Z118) : List (Nat × Operand) → Option (List (Nat × Value))
 | [] => some []
 | (j, x) :: r => match ev L x, evC L r with
  | some v, some vs => some ((j, v) :: vs)
  | _, _ => none
theorem evC_spec {ρ : Operand → Value} (hρ : ∀ x u, ev L x = some u → ρ x = u) : ∀ (ps : List (Nat × Operand)) (vs : List (Nat × Value)), evC L ps = some vs → ps.map (fun p => (p.1, ρ p.2)) = vs
 | [], vs, h => by simp [evC] at h; subst h; rfl
 | (j, x) :: r, vs, h => by
  simp only [evC] at h
  split at h
  ·rename_i v us hv hus
   simp only [Option.some.injEq] at h
   subst h
   simp [hρ x _ hv, evC_spec hρ r us hus]
  ·cases h
theorem Z109 {i : TI} {l cs : List Value} {fs : List Field} {pl : List (Nat × Nat)} {ps : List (Nat × Operand)} {us : List (Nat × Value)} (vs : List (Nat × List Value)) (hi : ty P t = some i) (hu : i.u = .struct fs.toArray) (hpl : plcs P fs = some pl) (hl : i.z.cells = l.toArray) (hp : evC L ps = some us)
    (hv : us.map (fun p => (p.1, p.2.cells)) = vs.map (fun p => (p.1, p.2.toArray))) (hcs : fillL pl l vs = some cs) : RV P w0 L M (.build t ps.toArray) (.agg cs.toArray) := fun ρ w hρ m o ho => by
 obtain ⟨h0, ti, h1, h2, h3, h4⟩ := ty_ok hi
 rw [hu] at h0
 have hf := fillL_run vs us l cs hv hcs
 have he := evC_spec hρ ps us hp
 have hp2 := plcs_run (P := P) (w := w) fs pl hpl
 have hp3 : ((fs.toArray).mapM (m := Sem) fun f => do pure (f.offset, ← Go.sizeOf f.type)).run P w = .ok pl.toArray w := by
  rw [List.mapM_toArray]
  simp only [map_eq_pure_bind, Sem.run_bind, hp2, Result.andThen, Sem.run_pure]
 have hz : (zeroValue t).run P w = .ok i.z w := by simp [zeroValue, typeInfo, h1, h4]
 have hg : (fun i : Nat => (pl.toArray)[i]?) = fun i : Nat => pl[i]? := by funext i; simp
 have hb : (Instr.build t (ps.map fun p => (p.1, ρ p.2)).toArray).run P w = .ok (.agg cs.toArray) w := by
  unfold Instr.build
  simp only [Sem.run_bind, hz, Result.andThen, run_underlying h0, hp3, he, hl, hg, hf, Sem.run_pure]
 simp [execOp, ho] at hb ⊢
 simp [hb]
end
end Go.Fw
namespace Go.Fw
open Go Go.RowKit
section
variable {P : Program} {n : Nat} {Q : Exit → Act → World → Prop} {w0 : World} {L : Z118} {M : List Ent} {x : Code}
theorem Z120 (J : Z118 → List Ent → Prop) (hy : ∀ L M, J L M → QW n Q w0 .normal L M) (hx : CW P n (Exit.then (Joined n w0 J) Q) w0 x L M) : CW P n Q w0 x L M := CW.intro fun a w f m => by
 refine wp_mono (hx.elim a w f m) ?_
 intro e a w h
 cases e <;> first
  | exact h
  | (obtain ⟨L', M', h1, h2, h3⟩ := h; exact (hy L' M' h1).elim a w h2 h3)
end
theorem More.flat {w0 : World} {Φ : Ctx} {A B : List Ent} {w : World} (q : More w0 Φ (A ++ B) w) : More w0 (More w0 Φ B) A w := ⟨⟨q.1, q.2.appR⟩, q.2.appL⟩
theorem More.base {w0 : World} {Φ : Ctx} {B : List Ent} {w : World} (q : More w0 Φ B w) : Φ w := q.1
theorem View.hi8 {α : Type} {Φ : Ctx} {A : Option Addr} {c : Nat} {f : α → Value} {xs : List α} (h : View Φ A xs.length c 1 (xs.map f)) {k : Nat} (hk : k ≤ xs.length) : View Φ A (xs.take k).length c 1 ((xs.take k).map f) := by
 have := h.hi hk
 rw [Nat.mul_one, ← List.map_take] at this
 rwa [List.length_take, Nat.min_eq_left hk]
theorem View.lo8 {α : Type} {Φ : Ctx} {A : Option Addr} {c : Nat} {f : α → Value} {xs : List α} (h : View Φ A xs.length c 1 (xs.map f)) {k : Nat} (hk : k ≤ xs.length) : View Φ (subA A c k 1) (xs.drop k).length (c - k) 1 ((xs.drop k).map f) := by
 have := h.lo hk
 rw [Nat.mul_one, ← List.map_drop] at this
 rwa [List.length_drop]
theorem View.mid8 {α : Type} {Φ : Ctx} {A : Option Addr} {c : Nat} {f : α → Value} {xs : List α} (h : View Φ A xs.length c 1 (xs.map f)) {j k : Nat} (hj : j ≤ k) (hk : k ≤ xs.length) : View Φ (subA A c j 1) ((xs.take k).drop j).length (c - j) 1 (((xs.take k).drop j).map f) :=
 (h.hi8 hk).lo8 (by rw [List.length_take]; omega)
theorem OwnS.isSome {ob : Option Nat} {len cap s : Nat} {cells r : List Value} (h : OwnS ob len cap s cells r) (hs : 0 < s) {i : Nat} (hi : i < len) : ob.isSome = true := h.so hs (fun e => by
 have h1 := h.n
 rw [e] at h1
 have h2 : 0 < len * s := Nat.mul_pos (by omega) hs
 simp at h1
 omega)
theorem OwnS.nilc {ob : Option Nat} {len cap s : Nat} {cells r : List Value} (h : OwnS ob len cap s cells r) (hs : 0 < s) (e : ob = none) : cells = [] := by
 cases hc : cells with
 | nil => rfl
 | cons x r => have := h.so hs (by simp [hc]); simp [e] at this
theorem OwnS.zeroO {ob : Option Nat} {len cap s : Nat} {cells r : List Value} (h : OwnS ob len cap s cells r) (hs : 0 < s) (e : ob.map (fun k => (⟨k, 0, none⟩ : Addr)) = none) : len = 0 := by
 have e2 : ob = none := by cases ob <;> simp_all
 have h1 := h.n
 rw [h.nilc hs e2] at h1
 exact Nat.eq_zero_of_not_pos (fun hp => by have h2 : 0 < len * s := Nat.mul_pos hp hs; simp at h1; omega)
theorem Z129 {α : Type} {l : List α} {i : Nat} {x : α} (h : l[i]? = some x) : i < l.length := (List.getElem?_eq_some_iff.1 h).1
theorem vat {α : Type} {k : Nat} {v : Vector α k} {i : Nat} {x : α} (h : v[i]? = some x) : v.toList[i]? = some x := by rw [Vector.getElem?_toList]; exact h
theorem vat' {α : Type} {k : Nat} {v : Vector α k} {i : Nat} (h : i < k) : v.toList[i]? = some (v[i]'h) := by rw [Vector.getElem?_toList]; exact Vector.getElem?_eq_getElem h
theorem vset {α : Type} {k : Nat} {v : Vector α k} {i : Nat} {x : α} : v.toList.set i x = (v.setIfInBounds i x).toList := by simp
end Go.Fw
namespace Go.Fw
open Go Go.RowKit
def sub64c (x y b : BitVec 64) : Option (BitVec 64 × BitVec 64) := if b.toNat ≤ 1 then some (x - y - b, if x.toNat < y.toNat + b.toNat then 1#64 else 0#64) else none
def SubLaw (P : Program) (f : FuncId) : Prop := ∀ (x y b : Nat), b ≤ 1 → ∀ w : World, (callFunc f #[.int .u64 x, .int .u64 y, .int .u64 b]).run P w =
 .ok (.value (.tuple #[.int .u64 (((x + 18446744073709551616 - y - b) % 18446744073709551616 : Nat) : Int), .int .u64 ((if x < y + b then 1 else 0 : Nat) : Int)])) w
section
variable {P : Program} [Types P] {w0 : World} {L : Z118} {M : List Ent} {f : FuncId}
theorem RV.sub64c {x y b d c : BitVec 64} {xs : List Operand} {ats : Array TypeId} (hl : SubLaw P f) (hxs : evs L xs = some [U64 x, U64 y, U64 b]) (h : Go.Fw.sub64c x y b = some (d, c)) : RV P w0 L M (.call ⟨.value (.func f), xs.toArray, ats⟩) (.tuple #[U64 d, U64 c]) := fun ρ w hρ m o ho => by
 unfold Go.Fw.sub64c at h
 obtain ⟨hb, h⟩ := Z128 h
 obtain ⟨rfl, rfl⟩ := Prod.mk.inj (Zi h)
 have hev := evs_map hρ xs _ hxs
 have h1 := hl x.toNat y.toNat b.toNat hb w
 have hx := x.isLt; have hy := y.isLt
 have e1 : (x - y - b).toNat = (x.toNat + 18446744073709551616 - y.toNat - b.toNat) % 18446744073709551616 := by
  simp only [BitVec.toNat_sub]; omega
 have e2 : (if x.toNat < y.toNat + b.toNat then 1#64 else 0#64).toNat = (if x.toNat < y.toNat + b.toNat then 1 else 0 : Nat) := by split <;> rfl
 have hfn := hρ (.func f) _ rfl
 simp only [U64] at *
 rw [e1, e2]
 simp [execOp, ho, resolve, hfn, Deferred.ofValue, invoke, hev, h1]
variable {t : TypeId} {x y : Operand} {m n : Int}
end
end Go.Fw
namespace Go.Fw
open Go Go.RowKit
def sub64E : Array Value → Sem Value := fun args => do
 let (x, y, b) ← Extern.MathBitsCarry.three "Sub64" args
 pure (Extern.MathBitsCarry.pair ((x + Extern.MathBitsCarry.m64 - y - b) % Extern.MathBitsCarry.m64) (if x < y + b then 1 else 0))
variable {P : Program}
theorem run_sub64E (x y b : Nat) (hb : b ≤ 1) (w : World) : (sub64E #[.int .u64 x, .int .u64 y, .int .u64 b]).run P w =
    .ok (.tuple #[.int .u64 (((x + 18446744073709551616 - y - b) % 18446744073709551616 : Nat) : Int), .int .u64 ((if x < y + b then 1 else 0 : Nat) : Int)]) w := by
 have : b = 0 ∨ b = 1 := by omega
 rcases this with rfl | rfl <;> rfl
end Go.Fw
namespace Go.Fw
open Go Go.RowKit
def Rl (w0 : World) (R : List Ent) (h : Bool) (w w2 : World) : Prop := if h then (Mem w0 w R → Mem w0 w2 R) else Upw w0 w w2
theorem Rl.base {w0 : World} {R : List Ent} {h : Bool} {w w2 : World} (r : Rl w0 R h w w2) : Mem w0 w R → Mem w0 w2 R := by
 unfold Rl at r
 split at r
 ·exact r
 ·exact r R
section
variable {P : Program} {ops : Array Oper} {md : Region.Mode}
def XH (P : Program) (md : Region.Mode) (ops : Array Oper) (n : Nat) (w0 : World) (R : List Ent) (hard : List Nat) (E : Array Bool → Act → World → Prop) : Nat → Array Bool → Act → World → Prop
 | 0, done, a, w => E done a w
 | f + 1, done, a, w => Region.ready md ops done ≠ [] ∧ ∀ i, i ∈ Region.ready md ops done → i < n ∧ ∃ o, ops[i]? = some o ∧
     ((Region.wanted o (yielded ops a.tmps) = true ∧ stp P ((execOp a.eval o).run P w) (fun u w2 => Rl w0 R (hard.contains i) w w2 ∧ XH P md ops n w0 R hard E f (done.setIfInBounds i true) (a.put o.dst u) w2)) ∨
      (Region.wanted o (yielded ops a.tmps) = false ∧ XH P md ops n w0 R hard E f (done.setIfInBounds i true) (a.put o.dst undef) w))
theorem XH.any {n g : Nat} {w0 : World} {R : List Ent} {hard : List Nat} {E : Array Bool → Act → World → Prop} {Q : Exit → Act → World → Prop} (hE : ∀ done a w, E done a w → wpAny P md ops Q g done a w) :
    ∀ (f : Nat) (done : Array Bool) (a : Act) (w : World), XH P md ops n w0 R hard E f done a w → wpAny P md ops Q (f + g) done a w
 | 0, done, a, w, h => by simpa using hE done a w h
 | f + 1, done, a, w, h => by
  have hfg : f + 1 + g = (f + g) + 1 := by omega
  rw [hfg]
  obtain ⟨h1, h2⟩ := h
  refine ⟨fun e => absurd e h1, fun i hi => ?_⟩
  obtain ⟨_, o, ho, h3⟩ := h2 i hi
  unfold wpOp
  simp only [ho]
  rcases h3 with ⟨hw, hs⟩ | ⟨hw, hs⟩
  ·rw [if_pos hw]
   exact .inl (hs.wp fun u w2 ⟨_, q⟩ => XH.any hE f _ _ _ q)
  ·rw [if_neg (by simp [hw])]
   exact XH.any hE f _ _ _ hs
def Yx (P : Program) (ops : Array Oper) (C : World → Prop) (o : Oper) (v : Value) (a : Act) : Prop :=
 (Region.wanted o (yielded ops a.tmps) = true ∧ ∀ w, C w → (execOp a.eval o).run P w = .ok (.value v) w) ∨ (Region.wanted o (yielded ops a.tmps) = false ∧ v = undef)
theorem XH.take {n i : Nat} {w0 : World} {R : List Ent} {hard : List Nat} {oi : Oper} {v : Value} {C : World → Prop} {E : Array Bool → Act → World → Prop} (hi : ops[i]? = some oi) (hsel : ∀ (j : Nat) (o : Oper) cs b, ops[j]? = some o → o.op ≠ .select cs b)
    (hC : ∀ j oj, ops[j]? = some oj → j ≠ i → (∀ e ∈ oj.after, Region.binds md e = true → e.on ≠ i) → ∀ w w2, C w → Rl w0 R (hard.contains j) w w2 → C w2)
    (hn : n = ops.size) (hE : ∀ done a w, E done a w → ∀ j ∈ Region.ready md ops done, n ≤ j) :
    ∀ (f : Nat) (done : Array Bool) (a : Act) (w : World), C w → HeadInv md ops n done →
     (∀ j oj, ops[j]? = some oj → j ≠ i → done.getD j true = false → (∀ e ∈ oj.after, Region.binds md e = true → e.on ≠ i) → oi.apart ops oj = true) →
     i ∈ Region.ready md ops done → Yx P ops C oi v a → XH P md ops n w0 R hard E f (done.setIfInBounds i true) (a.put oi.dst v) w → XH P md ops n w0 R hard E (f + 1) done a w := by
 have hlt : ∀ (done : Array Bool), ∀ j ∈ Region.ready md ops done, j < n := fun done j hj => by
  subst hn
  obtain ⟨_, oj, hoj, _⟩ := mem_ready.1 hj
  exact (Array.getElem?_eq_some_iff.1 hoj).1
 have self : ∀ (f : Nat) (done : Array Bool) (a : Act) (w : World), C w → Yx P ops C oi v a → XH P md ops n w0 R hard E f (done.setIfInBounds i true) (a.put oi.dst v) w →
     ∃ o, ops[i]? = some o ∧ ((Region.wanted o (yielded ops a.tmps) = true ∧ stp P ((execOp a.eval o).run P w) (fun u w2 => Rl w0 R (hard.contains i) w w2 ∧ XH P md ops n w0 R hard E f (done.setIfInBounds i true) (a.put o.dst u) w2)) ∨
      (Region.wanted o (yielded ops a.tmps) = false ∧ XH P md ops n w0 R hard E f (done.setIfInBounds i true) (a.put o.dst undef) w)) := by
  intro f done a w hw hy H
  refine ⟨oi, hi, ?_⟩
  rcases hy with ⟨h1, h2⟩ | ⟨h1, rfl⟩
  ·refine .inl ⟨h1, ?_⟩
   rw [h2 w hw]
   refine ⟨?_, H⟩
   unfold Rl
   split
   ·exact fun m => m
   ·exact Upw.refl _ _
  ·exact .inr ⟨h1, H⟩
 intro f
 induction f with
 | zero =>
  intro done a w hw inv _ hr hy H
  refine ⟨(fun e => by rw [e] at hr; cases hr), fun j hj => ⟨hlt done j hj, ?_⟩⟩
  by_cases e : j = i
  ·subst e; exact self 0 done a w hw hy H
  ·have := hE _ _ _ H j (ready_mono hj e)
   have := hlt done j hj
   omega
 | succ f ih =>
  intro done a w hw inv hfree hr hy H
  refine ⟨(fun e => by rw [e] at hr; cases hr), fun j hj => ⟨hlt done j hj, ?_⟩⟩
  by_cases e : j = i
  ·subst e; exact self (f + 1) done a w hw hy H
  ·obtain ⟨hju, oj, hoj, hall⟩ := mem_ready.1 hj
   have hno : ∀ e ∈ oj.after, Region.binds md e = true → e.on ≠ i := fun x hx hb hxi => by
    have q := hall x hx hb
    rw [hxi, getD_both (mem_ready.1 hr).1] at q
    cases q
   obtain ⟨h1, h2, h3⟩ := Oper.apart_spec (hfree j oj hoj e hju hno)
   have hsi : ∀ cs b, oi.op ≠ .select cs b := fun cs b => hsel i oi cs b hi
   have hsj : ∀ cs b, oj.op ≠ .select cs b := fun cs b => hsel j oj cs b hoj
   have keep : ∀ u, Yx P ops C oi v (a.put oj.dst u) := fun u => by
    unfold Yx at *
    rw [execOp_put oi hsi a oj.dst u h3, wanted_put oi a oj.dst u h3]
    exact hy
   obtain ⟨_, o', ho', step⟩ := H.2 j (ready_mono hj e)
   obtain rfl : oj = o' := Zi (hoj.symm.trans ho')
   rw [wanted_put oj a oi.dst v h1, execOp_put oj hsj a oi.dst v h1] at step
   have next : ∀ (u : Value) (w2 : World), C w2 → XH P md ops n w0 R hard E f ((done.setIfInBounds i true).setIfInBounds j true) ((a.put oi.dst v).put oj.dst u) w2 → XH P md ops n w0 R hard E (f + 1) (done.setIfInBounds j true) (a.put oj.dst u) w2 := fun u w2 hw2 q => by
    refine ih _ _ _ hw2 (inv.set hj (hlt done j hj)) (fun k ok hk hki hku hnk => hfree k ok hk hki ?_ hnk) (ready_mono hr (Ne.symm e)) (keep u) ?_
    ·by_cases hjk : j = k
     ·subst hjk; exact hju
     ·rwa [getD_set_ne true hjk] at hku
    ·rw [Array.setIfInBounds_comm _ _ e, ← Act.put_comm a v u h2]
     exact q
   refine ⟨oj, hoj, ?_⟩
   rcases step with ⟨hw', hs⟩ | ⟨hw', hs⟩
   ·exact .inl ⟨hw', hs.mono fun u w2 ⟨q1, q2⟩ => ⟨q1, next u w2 (hC j oj hoj e hno w w2 hw q1) q2⟩⟩
   ·exact .inr ⟨hw', next undef w hw hs⟩
end
section
variable {P : Program} {n : Nat} {Q : Exit → Act → World → Prop} {w0 : World} {L : Z118} {M R : List Ent}
def XW (P : Program) (n : Nat) (ops : Array Oper) (Q : Exit → Act → World → Prop) (w0 : World) (R : List Ent) (hard : List Nat) (f : Nat) (done : Array Bool) (L : Z118) (M : List Ent) : Prop :=
 (∀ w, Mem w0 w M → Mem w0 w R) → Region.noSelect ops = true → HeadInv .any ops ops.size done → ∀ a w, Fr n L a → Mem w0 w M → XH P .any ops ops.size w0 R hard (UE P ops Q ops.size []) f done a w
theorem Z132 {id : Nat} {l : List Oper} (R : List Ent) (hard : List Nat) (hMR : ∀ w, Mem w0 w M → Mem w0 w R) (hm : P.follows .mixedOrders = true) (hB : Region.noSelect l.toArray = true) (h : XW P n l.toArray Q w0 R hard l.length (Array.replicate l.length false) L M) : CW P n Q w0 (.region id l.toArray true) L M :=
 CW.intro fun a w f m => by
  have inv : HeadInv .any l.toArray l.toArray.size (Array.replicate l.length false) :=
   ⟨by simp, (fun j oj _ q => by rw [getD_replicate_false] at q; cases q), fun t h1 h2 => absurd h1 (by simp at h2; simp; omega)⟩
  have H := h hMR hB inv a _ f (m.like (w' := { w with drawn := w.drawn + 1 }) rfl rfl rfl rfl)
  refine wp_region_any hm ?_
  have R := XH.any (Q := Q) (g := 0) (fun done a' w' q => by
   have s := wpAny_of_seq (md := .any) (Q' := Q) [] l.toArray.size done a' w' (fun j => by simp) q.1 q.2
   simpa using s) _ _ _ _ H
  simpa using R
variable {ops : Array Oper} {hard : List Nat} {f : Nat} {done : Array Bool} {op : Op} {ty : TypeId} {pos : String} {aft : Array Edge} {g : Option (Nat × Bool)} {d : Nat} {v : Value}
theorem XW.nil (hs : Region.seqB .any ops 0 ops.size done = true) (h : QW n Q w0 .normal L M) : XW P n ops Q w0 R hard 0 done L M := fun _ _ _ a w fr mm => ⟨hs, (Z6 (P := P) (ops := ops) h).elim a w fr mm⟩
def XR (ops : Array Oper) (done : Array Bool) (i : Nat) : Bool := (Region.ready .any ops done).contains i && Region.free .any ops done i
def XS (ops : Array Oper) (hard : List Nat) (i : Nat) : Bool := hard.all fun j => match ops[j]? with
 | some o => o.after.any fun e => Region.binds .any e && Nat.beq e.on i
 | none => true
theorem XW.take (i : Nat) {o : Oper} {C : World → Prop} (hC : ∀ j oj, ops[j]? = some oj → j ≠ i → (∀ e ∈ oj.after, Region.binds .any e = true → e.on ≠ i) → ∀ w w2, C w → Rl w0 R (hard.contains j) w w2 → C w2) (hMC : (∀ w, Mem w0 w M → Mem w0 w R) → ∀ w, Mem w0 w M → C w) (hr : XR ops done i = true) (ho : ops[i]? = some o) (v : Value) (hy : ∀ a, Fr n L a → Yx P ops C o v a)
    (k : (∀ w, Mem w0 w M → Mem w0 w R) → ∀ a w, Fr n L a → Mem w0 w M → Region.noSelect ops = true → HeadInv .any ops ops.size (done.setIfInBounds i true) → XH P .any ops ops.size w0 R hard (UE P ops Q ops.size []) f (done.setIfInBounds i true) (a.put o.dst v) w) : XW P n ops Q w0 R hard (f + 1) done L M := fun hR hB inv a w fr mm => by
 simp only [XR, Bool.and_eq_true] at hr
 obtain ⟨h1, h2⟩ := hr
 have hr' : i ∈ Region.ready .any ops done := by simpa using h1
 have him : i < ops.size := (Array.getElem?_eq_some_iff.1 ho).1
 exact XH.take ho (Region.noSelect_spec hB) hC rfl (fun done' a' w' q => seqB_ready q.1) f done a w (hMC hR w mm) inv (Region.free_spec ho h2) hr' (hy a fr) (k hR a w fr mm hB (inv.set hr' him))
theorem XW.rv (i : Nat) (ho : ops[i]? = some ⟨some d, op, ty, pos, aft, g⟩) (hr : XR ops done i = true) (hw : Wt ops L g = true) (hS : XS ops hard i = true) (hop : RV P w0 L M op v) (hd : Nat.blt d n = true) (k : XW P n ops Q w0 R hard f (done.setIfInBounds i true) ((d, v) :: L) M) : XW P n ops Q w0 R hard (f + 1) done L M :=
 XW.take i (C := fun w => Mem w0 w M) (fun j oj hj hne hno w w2 m r => by
  unfold Rl at r
  split at r
  ·rename_i hh
   have h1 := List.all_eq_true.1 hS j (by simpa using hh)
   rw [hj] at h1
   obtain ⟨e, he, h2⟩ := Array.any_eq_true'.1 h1
   simp only [Bool.and_eq_true, Nat.beq_eq] at h2
   exact absurd h2.2 (hno e he h2.1)
  ·exact r _ m) (fun _ _ h => h) hr ho v (fun a fr => .inl ⟨wt_spec fr hw, fun w mm => hop a.eval w (fun x u hx => fr.eval hx) mm _ rfl⟩) (fun hR a w fr mm hB inv => k hR hB inv _ _ (fr.put hd v) mm)
theorem Z10 (i : Nat) (ho : ops[i]? = some ⟨some d, op, ty, pos, aft, g⟩) (hr : XR ops done i = true) (hw : Wt ops L g = true) (hop : RV P w0 L R op v) (hd : Nat.blt d n = true) (k : XW P n ops Q w0 R hard f (done.setIfInBounds i true) ((d, v) :: L) M) : XW P n ops Q w0 R hard (f + 1) done L M :=
 XW.take i (C := fun w => Mem w0 w R) (fun j oj hj hne hno w w2 m r => r.base m) (fun hR w h => hR w h) hr ho v (fun a fr => .inl ⟨wt_spec fr hw, fun w mm => hop a.eval w (fun x u hx => fr.eval hx) mm _ rfl⟩) (fun hR a w fr mm hB inv => k hR hB inv _ _ (fr.put hd v) mm)
theorem XW.skip (i : Nat) (ho : ops[i]? = some ⟨some d, op, ty, pos, aft, g⟩) (hr : XR ops done i = true) (hw : Sk ops L g = true) (hd : Nat.blt d n = true) (k : XW P n ops Q w0 R hard f (done.setIfInBounds i true) ((d, undef) :: L) M) : XW P n ops Q w0 R hard (f + 1) done L M :=
 XW.take i (C := fun w => Mem w0 w R) (fun j oj hj hne hno w w2 m r => r.base m) (fun hR w h => hR w h) hr ho undef (fun a fr => .inr ⟨sk_spec fr hw, rfl⟩) (fun hR a w fr mm hB inv => k hR hB inv _ _ (fr.put hd undef) mm)
theorem XW.sv (i : Nat) {M' : List Ent} (ho : ops[i]? = some ⟨none, op, ty, pos, aft, none⟩) (hr : (Region.ready .any ops done == [i] && hard.contains i) = true) (hop : SV P w0 L M op M') (hMR : ∀ w, Mem w0 w M' → Mem w0 w R) (k : XW P n ops Q w0 R hard f (done.setIfInBounds i true) L M') : XW P n ops Q w0 R hard (f + 1) done L M := fun hR hB inv a w fr mm => by
 simp only [Bool.and_eq_true, beq_iff_eq] at hr
 obtain ⟨hr, hi⟩ := hr
 have him : i < ops.size := (Array.getElem?_eq_some_iff.1 ho).1
 refine ⟨by rw [hr]; simp, fun j hj => ?_⟩
 rw [hr] at hj
 obtain rfl : j = i := by simpa using hj
 refine ⟨him, _, ho, .inl ⟨by simp [Region.wanted], ?_⟩⟩
 obtain ⟨w', hrun, m'⟩ := hop a.eval w (fun x u hx => fr.eval hx) mm ⟨none, op, ty, pos, aft, none⟩ rfl
 rw [hrun]
 refine ⟨?_, k hMR hB (inv.set (by rw [hr]; simp) him) _ _ fr m'⟩
 unfold Rl
 rw [if_pos hi]
 exact fun _ => hMR _ m'
theorem Z19 {M' : List Ent} (hs : ∀ w, Mem w0 w M → Mem w0 w M') (hMR : ∀ w, Mem w0 w M' → Mem w0 w R) (k : XW P n ops Q w0 R hard f done L M') : XW P n ops Q w0 R hard f done L M := fun _ hB inv a w fr mm => k hMR hB inv a w fr (hs w mm)
theorem XW.slot (v' : Value) (hv : v = v') (k : XW P n ops Q w0 R hard f done ((d, v') :: L) M) : XW P n ops Q w0 R hard f done ((d, v) :: L) M := by subst hv; exact k
theorem XW.cells {ob : Option Nat} {l : List Value} {t : TypeId} (l' : List Value) (e : l = l') (k : XW P n ops Q w0 R hard f done L ((ob, blk l' t) :: M)) : XW P n ops Q w0 R hard f done L ((ob, blk l t) :: M) := by subst e; exact k
theorem Z11 (i : Nat) {fn : FuncId} {xs : List Operand} {ats : Array TypeId} {args : List Value} {Rr : Value → List Ent → Prop} (ho : ops[i]? = some ⟨some d, .call ⟨.value (.func fn), xs.toArray, ats⟩, ty, pos, aft, g⟩) (hr : (Region.ready .any ops done == [i]) = true) (hw : Wt ops L g = true)
    (hc : ∀ (args : Array Value) (w : World), (callFunc fn args).run P w = .ok (.enter fn args) w) (hxs : evs L xs = some args) (hdo : ∀ N, (∀ w, Mem w0 w N → Mem w0 w M) → DoesG P fn args w0 [] N Rr)
    (hd : Nat.blt d n = true) (k : ∀ v G, Rr v G → XW P n ops Q w0 R hard f (done.setIfInBounds i true) ((d, v) :: L) (G ++ M)) : XW P n ops Q w0 R hard (f + 1) done L M := fun hR hB inv a w fr mm => by
 simp only [beq_iff_eq] at hr
 have him : i < ops.size := (Array.getElem?_eq_some_iff.1 ho).1
 refine ⟨by rw [hr]; simp, fun j hj => ?_⟩
 rw [hr] at hj
 obtain rfl : j = i := by simpa using hj
 refine ⟨him, _, ho, .inl ⟨wt_spec fr hw, ?_⟩⟩
 have hev := evs_map (fun x u hx => fr.eval hx) xs args hxs
 have hrun : (execOp a.eval ⟨some d, .call ⟨.value (.func fn), xs.toArray, ats⟩, ty, pos, aft, g⟩).run P w = .ok (.enter fn args.toArray) w := by
  simp [execOp, resolve, Deferred.ofValue, Act.eval, invoke, hev, hc]
 rw [hrun]
 refine (hdo (allEnts w0 w) (fun w2 m2 => Z149 m2 _ mm) w mm.all).mono ?_
 rintro e w2 ⟨q, ⟨G, h1, h2⟩, rfl, m'⟩
 have m' : Mem w0 w2 (G ++ allEnts w0 w) := by have m2 := m'; rwa [show (fun q : Value × List Ent => q.2) q = G ++ allEnts w0 w from h2] at m2
 refine ⟨_, rfl, ?_, (k q.1 G h1) (fun w m => hR w m.appR) hB (inv.set (by rw [hr]; simp) him) _ _ (fr.put hd _) (m'.graft mm)⟩
 have hu := Z149 m'.appR
 unfold Rl
 split
 ·exact hu R
 ·exact hu
theorem XW.new (i : Nat) {l : List Value} {te : TypeId} {fv : Nat → Value} (ho : ops[i]? = some ⟨some d, op, ty, pos, aft, g⟩) (hr : (Region.ready .any ops done == [i]) = true) (hw : Wt ops L g = true) (hop : NV P w0 L M op fv l te) (hd : Nat.blt d n = true)
    (k : ∀ b : Nat, XW P n ops Q w0 R hard f (done.setIfInBounds i true) ((d, fv b) :: L) ((some b, blk l te) :: M)) : XW P n ops Q w0 R hard (f + 1) done L M := fun hR hB inv a w fr mm => by
 simp only [beq_iff_eq] at hr
 have him : i < ops.size := (Array.getElem?_eq_some_iff.1 ho).1
 refine ⟨by rw [hr]; simp, fun j hj => ?_⟩
 rw [hr] at hj
 obtain rfl : j = i := by simpa using hj
 refine ⟨him, _, ho, .inl ⟨wt_spec fr hw, ?_⟩⟩
 rw [hop a.eval w (fun x u hx => fr.eval hx) mm _ rfl]
 refine ⟨?_, k _ (fun w m => hR w m.tail) hB (inv.set (by rw [hr]; simp) him) _ _ (fr.put hd _) (mm.alloc _)⟩
 unfold Rl
 split
 ·exact Upw.alloc _ _ _ R
 ·exact Upw.alloc _ _ _
attribute [irreducible] XW
end
end Go.Fw
namespace Go.Fw
theorem Mem.shrink {w0 w : World} {B B' M M0 : List Ent} (hs : B.Sublist B') (m : Mem w0 w M) (j : Nat) (h : M.drop j = B' ++ M0) : Mem w0 w (M.take j ++ (B ++ M0)) := by
 have e : M = M.take j ++ (B' ++ M0) := by rw [← h, List.take_append_drop]
 rw [e] at m
 exact m.sublist (List.Sublist.append (List.Sublist.refl _) (List.Sublist.append hs (List.Sublist.refl _)))
end Go.Fw
namespace Go.Fw
def lenB (x : BitVec 8) : Nat := if x = 0#8 then 0 else x.toNat.log2 + 1
end Go.Fw
namespace Go.Fw
open Go Go.RowKit
section
variable {P : Program} [Types P] {w0 : World} {L : Z118} {M : List Ent} {t e : TypeId} {x y z : Operand} {idx idx' : Int} {k k' : IntKind}
theorem Z126 {A : Addr} {n s : Nat} (hx : ev L x = some (.pointer (some A))) (ht : tyU P t = some (.array n e)) (hs : tyS P e = some s) :
    RV P w0 L M (.slice t x none none none) (.slice (some A) n n) := fun ρ w hρ m o ho => by
 by_cases hc : n = 0
 ·subst hc
  simp [execOp, ho, hρ x _ hx, Instr.sliceAt, Instr.slice, Instr.sliceBounds, Z125 ht, Z134 hs, Instr.sureAddr, asAddr]
 ·simp [execOp, ho, hρ x _ hx, Instr.sliceAt, Instr.slice, Instr.sliceBounds, Z125 ht, Z134 hs, Instr.sureAddr, asAddr, hc, Addr.add]
end
end Go.Fw
namespace Go.Fw.Tryd
open Go Go.Proofs Go.Fw
theorem ext146 : SubLaw Tryd.prog 146 := fun x y b hb w => by rw [run_callFunc_extern Tryd.func146 (by kernel_rfl) (by kernel_rfl) (by kernel_rfl) (e := sub64E) (by kernel_rfl), run_sub64E x y b hb]; rfl
end Go.Fw.Tryd
namespace Go.Fw
def rotl (x : BitVec 64) (n : Nat) : BitVec 64 := x <<< n ||| x >>> (64 - n)
def turnsL : List Int := [0, 1, 62, 28, 27, 36, 44, 6, 55, 20, 3, 10, 43, 25, 39, 41, 45, 15, 21, 8, 18, 2, 61, 56, 14]
def goesN (i : Nat) : Nat := i / 5 + 5 * ((2 * (i % 5) + 3 * (i / 5)) % 5)
def roundsL : List (BitVec 64) := [0x0000000000000001#64, 0x0000000000008082#64, 0x800000000000808A#64, 0x8000000080008000#64,
    0x000000000000808B#64, 0x0000000080000001#64, 0x8000000080008081#64, 0x8000000000008009#64,
    0x000000000000008A#64, 0x0000000000000088#64, 0x0000000080008009#64, 0x000000008000000A#64,
    0x000000008000808B#64, 0x800000000000008B#64, 0x8000000000008089#64, 0x8000000000008003#64,
    0x8000000000008002#64, 0x8000000000000080#64, 0x000000000000800A#64, 0x800000008000000A#64,
    0x8000000080008081#64, 0x8000000000008080#64, 0x0000000080000001#64, 0x8000000080008008#64]
def g64 (l : List (BitVec 64)) (i : Nat) : BitVec 64 := l.getD i 0#64
def colS (a : List (BitVec 64)) (x : Nat) : BitVec 64 := g64 a x ^^^ g64 a (x + 5) ^^^ g64 a (x + 10) ^^^ g64 a (x + 15) ^^^ g64 a (x + 20)
def thetaE (a : List (BitVec 64)) (i : Nat) : BitVec 64 := g64 a i ^^^ (colS a ((i + 4) % 5) ^^^ rotl (colS a ((i + 1) % 5)) 1)
def chiE (b : List (BitVec 64)) (i : Nat) : BitVec 64 := g64 b i ^^^ (~~~ (g64 b (i / 5 * 5 + (i % 5 + 1) % 5)) &&& g64 b (i / 5 * 5 + (i % 5 + 2) % 5))
def chiL (b : List (BitVec 64)) : List (BitVec 64) := (List.range 25).map (chiE b)
end Go.Fw
namespace Go.Fw
end Go.Fw
namespace Go.Fw
def sumTo (a : List (BitVec 64)) (x : Nat) : Nat → BitVec 64
 | 0 => 0#64
 | n + 1 => if n % 5 = x then sumTo a x n ^^^ g64 a n else sumTo a x n
def invN (j : Nat) : Nat := ((List.range 25).find? fun i => goesN i == j).getD 0
def movedE (a : List (BitVec 64)) (i : Nat) : BitVec 64 := rotl (thetaE a i) (turnsL.getD i 0).toNat
def movedL (a : List (BitVec 64)) : List (BitVec 64) := (List.range 25).map fun j => movedE a (invN j)
def roundL (a : List (BitVec 64)) (rc : BitVec 64) : List (BitVec 64) := (chiL (movedL a)).set 0 (g64 (chiL (movedL a)) 0 ^^^ rc)
def permTo (a : List (BitVec 64)) : Nat → List (BitVec 64)
 | 0 => a
 | t + 1 => roundL (permTo a t) (g64 roundsL t)
@[simp] theorem chiL_length (b : List (BitVec 64)) : (chiL b).length = 25 := by simp [chiL]
end Go.Fw
namespace Go.Fw
end Go.Fw
namespace Go.Fw
end Go.Fw
namespace Go.Fw
end Go.Fw
namespace Go.Fw
end Go.Fw
namespace Go.Fw
def mvL (a : List (BitVec 64)) : List (BitVec 64) := (List.range 25).map fun j => rotl (g64 a (invN j)) (turnsL.getD (invN j) 0).toNat
end Go.Fw
namespace Go.Fw
end Go.Fw
namespace Go.Fw.Tryd
open Go Go.Proofs
attribute [local irreducible] permTo roundL movedL chiL sumTo
end Go.Fw.Tryd
namespace Go.Fw
def bt (x : BitVec 64) (z : Nat) : Bool := x.getLsbD (z % 64)
end Go.Fw
namespace Go.Fw.Tryd
open Go Go.Proofs
attribute [local irreducible] permTo roundL movedL chiL sumTo
end Go.Fw.Tryd
namespace Go.Fw.Tryd
open Go Go.Proofs
attribute [local irreducible] permTo roundL movedL chiL sumTo mvL
end Go.Fw.Tryd
namespace Go.Fw.Tryd
open Go Go.Proofs
attribute [local irreducible] permTo roundL movedL chiL sumTo mvL
end Go.Fw.Tryd
namespace Go.Fw
open Go
def JumpJ (n : Nat) (w0 : World) (J : Nat → Nat → Z118 → List Ent → Prop) (m : Nat) (Q : Exit → Act → World → Prop) : Exit → Act → World → Prop
 | .goto l, a, w => ∃ k L M, k < m ∧ J l k L M ∧ Fr n L a ∧ Mem w0 w M
 | e, a, w => Q e a w
section
variable {P : Program} {a : Act} {w : World} {Q : Exit → Act → World → Prop}
theorem wp_scope_many {c : Code} (R : Nat → Nat → Act → World → Prop) {m : Nat}
    (first : c.wp P (fun e a w => match e with | .goto l => ∃ k, k < m ∧ R l k a w | e => Q e a w) a w)
    (pass : ∀ l k a w, R l k a w → ∃ rest, findLabel c l = some rest ∧ rest.wp P (fun e a w => match e with | .goto l' => ∃ k', k' < k ∧ R l' k' a w | e => Q e a w) a w) : (Code.scope c).wp P Q a w := by
 intro b k cs
 have key : ∀ n l a w, R l n a w → ∃ rest, findLabel c l = some rest ∧ ∃ e a' w', Q e a' w' ∧ Arrives P (lone (b.at a (.code rest :: .inScope c :: k)) cs w) b k cs e a' w' := by
  intro n
  induction n using Nat.strongRecOn with
  | _ n ih =>
   intro l a w hJ
   obtain ⟨rest, hf, hw⟩ := pass l n a w hJ
   refine ⟨rest, hf, ?_⟩
   obtain ⟨e, a₁, w₁, hq, harr⟩ := hw b (.inScope c :: k) cs
   cases e with
   | normal => exact ⟨.normal, a₁, w₁, hq, Steps.trans harr (.one step_inScope)⟩
   | exit id => exact ⟨.exit id, a₁, w₁, hq, fun k' hk => harr k' (by simp [exitTo, hk])⟩
   | goto l' =>
    obtain ⟨k', hlt, hJ'⟩ := hq
    obtain ⟨rest', hf', e₂, a₂, w₂, hq₂, harr₂⟩ := ih k' hlt l' a₁ w₁ hJ'
    exact ⟨e₂, a₂, w₂, hq₂, .of_steps (harr _ (by simp [gotoIn, hf'])) harr₂⟩
   | ret => exact ⟨_, a₁, w₁, hq, harr⟩
   | panic ch => exact ⟨_, a₁, w₁, hq, harr⟩
   | outgrown => exact ⟨_, a₁, w₁, hq, harr⟩
 obtain ⟨e, a₁, w₁, hq, harr⟩ := first b (.inScope c :: k) cs
 cases e with
 | normal => exact ⟨.normal, a₁, w₁, hq, .head step_scope (Steps.trans harr (.one step_inScope))⟩
 | exit id => exact ⟨.exit id, a₁, w₁, hq, fun k' hk => .head step_scope (harr k' (by simp [exitTo, hk]))⟩
 | goto l' =>
  obtain ⟨k', _, hJ'⟩ := hq
  obtain ⟨rest', hf', e₂, a₂, w₂, hq₂, harr₂⟩ := key k' l' a₁ w₁ hJ'
  exact ⟨e₂, a₂, w₂, hq₂, .of_steps (.head step_scope (harr _ (by simp [gotoIn, hf']))) harr₂⟩
 | ret => exact ⟨_, a₁, w₁, hq, .of_steps (.one step_scope) harr⟩
 | panic ch => exact ⟨_, a₁, w₁, hq, .of_steps (.one step_scope) harr⟩
 | outgrown => exact ⟨_, a₁, w₁, hq, .of_steps (.one step_scope) harr⟩
end
section
variable {P : Program} {n : Nat} {Q : Exit → Act → World → Prop} {w0 : World} {L : Z118} {M : List Ent}
theorem CW.scopeJ {c : Code} (J : Nat → Nat → Z118 → List Ent → Prop) (m : Nat)
    (first : CW P n (JumpJ n w0 J m Q) w0 c L M)
    (pass : ∀ l k L M, J l k L M → ∃ rest, findLabel c l = some rest ∧ CW P n (JumpJ n w0 J k Q) w0 rest L M) : CW P n Q w0 (.scope c) L M := CW.intro fun a w f mm => by
 refine wp_scope_many (fun l k a w => ∃ L M, J l k L M ∧ Fr n L a ∧ Mem w0 w M) (m := m) ?_ ?_
 ·refine wp_mono (first.elim a w f mm) ?_
  intro e a w h
  cases e <;> first
   | exact h
   | (obtain ⟨k, L, M, h1, h2, h3, h4⟩ := h; exact ⟨k, h1, L, M, h2, h3, h4⟩)
 ·rintro l k a w ⟨L, M, h1, h2, h3⟩
  obtain ⟨rest, e, h⟩ := pass l k L M h1
  refine ⟨rest, e, wp_mono (h.elim a w h2 h3) ?_⟩
  intro e a w h
  cases e <;> first
   | exact h
   | (obtain ⟨k, L, M, h1, h2, h3, h4⟩ := h; exact ⟨k, h1, L, M, h2, h3, h4⟩)
theorem CW.goto {l : Nat} (h : QW n Q w0 (.goto l) L M) : CW P n Q w0 (.goto l) L M := CW.intro fun a w f m => wp_goto (h.elim a w f m)
theorem CW.label {l : Nat} (h : QW n Q w0 .normal L M) : CW P n Q w0 (.label l) L M := CW.intro fun a w f m => wp_label (h.elim a w f m)
theorem QW.jump {J : Nat → Nat → Z118 → List Ent → Prop} {m k l : Nat} {L' : Z118} {M' : List Ent} (hk : k < m) (h : J l k L' M') (hL : Sub L L') (hM : ∀ w, Mem w0 w M → Mem w0 w M') : QW n (JumpJ n w0 J m Q) w0 (.goto l) L M := QW.intro fun a w f mm => ⟨k, L', M', hk, h, f.weaken hL, hM w mm⟩
theorem QW.jump_r {J : Nat → Nat → Z118 → List Ent → Prop} {m : Nat} (h : QW n Q w0 .ret L M) : QW n (JumpJ n w0 J m Q) w0 .ret L M := QW.intro fun a w f mm => h.elim a w f mm
end
end Go.Fw
namespace Go.Fw
open Go
section
variable {P : Program} {n : Nat} {Q : Exit → Act → World → Prop} {w0 : World} {L : Z118} {M : List Ent} {ops : Array Oper} {f : Nat} {done : Array Bool} {d : Nat} {op : Op} {ty : TypeId} {pos : String} {aft : Array Edge} {v : Value}
def AW (P : Program) (n : Nat) (ops : Array Oper) (Q : Exit → Act → World → Prop) (w0 : World) (f : Nat) (done : Array Bool) (L : Z118) (M : List Ent) : Prop :=
 ∀ a w, Fr n L a → Mem w0 w M → wpAny P .any ops Q f done a w
def AO (P : Program) (n : Nat) (ops : Array Oper) (Q : Exit → Act → World → Prop) (w0 : World) (i f : Nat) (done : Array Bool) (L : Z118) (M : List Ent) : Prop :=
 ∀ a w, Fr n L a → Mem w0 w M → wpOp P ops Q i (wpAny P .any ops Q f done) a w
theorem AW.nil (hr : Region.ready .any ops done = []) (h : QW n Q w0 .normal L M) : AW P n ops Q w0 0 done L M := fun a w fr m => ⟨hr, h.elim a w fr m⟩
theorem AW.one (i : Nat) (hr : Region.ready .any ops done = [i]) (h : AO P n ops Q w0 i f (done.setIfInBounds i true) L M) : AW P n ops Q w0 (f + 1) done L M := fun a w fr m =>
 ⟨(fun e => by rw [hr] at e; cases e), (fun j hj => by rw [hr] at hj; obtain rfl : j = i := by simpa using hj
                                                       exact h a w fr m)⟩
theorem AW.two (i j : Nat) (hr : Region.ready .any ops done = [i, j]) (h1 : AO P n ops Q w0 i f (done.setIfInBounds i true) L M) (h2 : AO P n ops Q w0 j f (done.setIfInBounds j true) L M) : AW P n ops Q w0 (f + 1) done L M := fun a w fr m =>
 ⟨(fun e => by rw [hr] at e; cases e), fun k hk => by
  rw [hr] at hk
  rcases (by simpa using hk : k = i ∨ k = j) with rfl | rfl
  ·exact h1 a w fr m
  ·exact h2 a w fr m⟩
theorem AO.rv {i : Nat} (ho : ops[i]? = some ⟨some d, op, ty, pos, aft, none⟩) (hop : RV P w0 L M op v) (hd : Nat.blt d n = true) (k : AW P n ops Q w0 f done ((d, v) :: L) M) : AO P n ops Q w0 i f done L M := fun a w fr m => by
 unfold wpOp
 rw [ho]
 refine (if_pos (by simp [Region.wanted])).mpr (.inl ?_)
 unfold Oper.wp
 rw [hop a.eval w (fun x u hx => fr.eval hx) m _ rfl]
 exact k _ _ (fr.put hd v) m
theorem AO.sv {i : Nat} {M' : List Ent} (ho : ops[i]? = some ⟨none, op, ty, pos, aft, none⟩) (hop : SV P w0 L M op M') (k : AW P n ops Q w0 f done L M') : AO P n ops Q w0 i f done L M := fun a w fr m => by
 unfold wpOp
 rw [ho]
 obtain ⟨w', hr, m'⟩ := hop a.eval w (fun x u hx => fr.eval hx) m ⟨none, op, ty, pos, aft, none⟩ rfl
 refine (if_pos (by simp [Region.wanted])).mpr (.inl ?_)
 unfold Oper.wp
 rw [hr]
 exact k _ _ fr m'
theorem AO.av {i : Nat} {τ : Type} {I : τ → Prop} {v : τ → Value} {M' : τ → List Ent} (ho : ops[i]? = some ⟨some d, op, ty, pos, aft, none⟩) (hop : AV P w0 L M op I v M') (hd : Nat.blt d n = true) (k : ∀ x, I x → AW P n ops Q w0 f done ((d, v x) :: L) (M' x)) : AO P n ops Q w0 i f done L M := fun a w fr m => by
 unfold wpOp
 rw [ho]
 obtain ⟨x, w', hI, hr, m'⟩ := hop a.eval w (fun x u hx => fr.eval hx) m ⟨some d, op, ty, pos, aft, none⟩ rfl
 refine (if_pos (by simp [Region.wanted])).mpr (.inl ?_)
 unfold Oper.wp
 rw [hr]
 exact k x hI _ _ (fr.put hd _) m'
theorem CW.drawsA {id : Nat} {l : List Oper} (hm : P.follows .mixedOrders = true) (h : AW P n l.toArray Q w0 l.length (Array.replicate l.length false) L M) : CW P n Q w0 (.region id l.toArray true) L M :=
 CW.intro fun a w f m => wp_region_any hm (by simpa using h a _ f (m.like (w' := { w with drawn := w.drawn + 1 }) rfl rfl rfl rfl))
theorem AO.alloc [Types P] {i : Nat} {e ty1 : TypeId} {ti : TI} {l : List Value} (ho : ops[i]? = some ⟨some d, .alloc e, ty1, pos, aft, none⟩) (hi : Fw.ty P e = some ti) (hl : ti.z.cells = l.toArray) (hd : Nat.blt d n = true) (k : ∀ b : Nat, AW P n ops Q w0 f done ((d, ptr (some b) 0) :: L) ((some b, blk l e) :: M)) : AO P n ops Q w0 i f done L M :=
 AO.av (τ := Nat) (I := fun _ => True) (v := fun b => ptr (some b) 0) (M' := fun b => (some b, blk l e) :: M) ho (fun ρ w hρ m o ho => ⟨w.heap.size, w.alloc (blk l e), trivial, by
  obtain ⟨_, ti, h1, h2, h3, h4⟩ := ty_ok hi
  simp [execOp, ho, Instr.alloc, zeroValue, typeInfo, h1, h4, newVar, newRow, ptr, blk, hl], m.alloc _⟩) hd (fun b _ => k b)
end
end Go.Fw
namespace Go.Fw
open Go
theorem Z102 {A L : List Value} {n m : Nat} {v : Value} (hA : A.length = n) (h : L[m]? = some v) : (A ++ L)[n + m]? = some v := by
 rw [List.getElem?_append_right (by omega), show n + m - A.length = m by omega]; exact h
theorem Z130 {B C : List Value} {i : Nat} {v : Value} (h : B[i]? = some v) : (B ++ C)[i]? = some v := by
 have := (List.getElem?_eq_some_iff.1 h).1
 rw [List.getElem?_append_left this]; exact h
theorem Z107 {A L L' : List Value} {n m : Nat} {v : Value} (hA : A.length = n) (h : L.set m v = L') : (A ++ L).set (n + m) v = A ++ L' := by
 subst hA; subst h
 rw [List.set_append_right _ _ (by omega), show A.length + m - A.length = m by omega]
theorem here_set {B B' C : List Value} {i : Nat} {v : Value} (hi : i < B.length) (h : B.set i v = B') : (B ++ C).set i v = B' ++ C := by
 subst h
 rw [List.set_append_left _ _ hi]
theorem Z104 {A L L' cs : List Value} {n m : Nat} (hA : A.length = n) (h : spl L m cs = L') : spl (A ++ L) (n + m) cs = A ++ L' := by
 subst hA; subst h
 unfold spl
 rw [List.take_length_add_append, show A.length + m + cs.length = A.length + (m + cs.length) by omega, List.drop_length_add_append]
 simp [List.append_assoc]
theorem here_spl {B C cs : List Value} (h : cs.length = B.length) : spl (B ++ C) 0 cs = cs ++ C := by
 unfold spl
 rw [List.take_zero, List.nil_append, Nat.zero_add, h, List.drop_left]
theorem last_spl {B cs : List Value} (h : cs.length = B.length) : spl B 0 cs = cs := by
 unfold spl
 rw [List.take_zero, List.nil_append, Nat.zero_add, h, List.drop_length, List.append_nil]
end Go.Fw
namespace Go.Fw
open Go Go.RowKit
section
variable {P : Program} [Types P] {w0 : World} {L : Z118} {M : List Ent} {t e : TypeId} {x y z : Operand} {idx idx' : Int} {k k' : IntKind}
end
def cpV {α : Type} {n : Nat} (v : Vector α n) (lo : Nat) (l : List α) : Vector α n :=
 if h : lo + l.length ≤ n then ⟨(v.toList.take lo ++ l ++ v.toList.drop (lo + l.length)).toArray, by simp; omega⟩ else v
theorem cpV_toList {α : Type} {n : Nat} (v : Vector α n) {lo : Nat} {l : List α} (h : lo + l.length ≤ n) : (cpV v lo l).toList = v.toList.take lo ++ l ++ v.toList.drop (lo + l.length) := by
 unfold cpV
 rw [dif_pos h]
 rfl
theorem u8s_cpV {n : Nat} (v : Vector (BitVec 8) n) {lo : Nat} {l : List (BitVec 8)} (h : lo + l.length ≤ n) : spl (u8s v.toList) lo (u8s l) = u8s (cpV v lo l).toList := by
 rw [cpV_toList v h]
 unfold spl
 rw [Z100]
 simp [u8s, List.map_take, List.map_drop]
theorem at_spl {B B' C cs : List Value} {i : Nat} (hi : i + cs.length ≤ B.length) (h : spl B i cs = B') : spl (B ++ C) i cs = B' ++ C := by
 subst h
 unfold spl
 rw [List.take_append_of_le_length (by omega), List.drop_append_of_le_length hi]
 simp [List.append_assoc]
end Go.Fw
namespace Go.Fw
open Go Go.RowKit
section
variable {P : Program} [Types P] {n : Nat} {Q : Exit → Act → World → Prop} {w0 : World} {L : Z118} {M : List Ent} {ops : Array Oper} {rest : List Oper} {t e ty1 : TypeId} {x : Operand} {pos : String} {aft : Array Edge}
theorem OW.clear {b off len cap : Nat} {l : List Value} {te : TypeId} {i : TI} {z : Value} (hx : ev L x = some (sl (some b) off len cap)) (ht : tyU P t = some (.slice e)) (hi : Fw.ty P e = some i) (hz : i.z.cells = #[z]) (h1 : z.oneCell' = true) (hp : 0 < len) (hl : off + len ≤ l.length)
    (k : OW P n ops Q w0 rest L ((some b, blk (spl l off (List.replicate len z)) te) :: M)) :
    OW P n ops Q w0 (⟨none, .call ⟨.builtin .clear, #[x], #[t]⟩, ty1, pos, aft, none⟩ :: rest) L ((some b, blk l te) :: M) := by
 refine OW.av_none (τ := Unit) (I := fun _ => True) (v := fun _ => .tuple #[]) (M' := fun _ => (some b, blk (spl l off (List.replicate len z)) te) :: M) (fun ρ w hρ mm o ho => ?_) (fun _ _ => k)
 obtain ⟨_, ti, h1', h2, h3, h4⟩ := ty_ok hi
 have hv : ∀ w, (zeroValue e).run P w = .ok i.z w := fun w => by simp [zeroValue, typeInfo, h1', h4]
 have hzc : (Builtin.zeroCells i.z.cells len).toList = List.replicate len z := by
  rw [hz]
  simp [Builtin.zeroCells]
  apply List.ext_getElem
  ·simp
  ·intro i h1 h2
   simp [Nat.mod_one]
 have hm := mm.ents _ (List.mem_cons_self ..) b rfl
 have hst := run_storeCells_at (P := P) b off te (List.replicate len z) 0 l.toArray w hm.2 (by simpa using hl) (fun v hv => by rw [List.eq_of_mem_replicate hv]; exact h1)
 simp only [Nat.add_zero] at hst
 obtain ⟨m, rfl⟩ : ∃ m, len = m + 1 := ⟨len - 1, by omega⟩
 refine ⟨(), _, trivial, ?_, mm.turned (w' := w.setRow b (l.toArray.toList.take off ++ List.replicate (m + 1) z ++ l.toArray.toList.drop (off + (List.replicate (m + 1) z).length)).toArray) rfl rfl rfl (by simp [World.setRow]) ?_ ?_⟩
 ·simp [execOp, ho, resolve, hρ x _ hx, invoke, builtin, Builtin.clear_, Z125 ht, sl, hv, hzc, hst]
 ·intro b' hb'
  cases hb'
  rw [setRow_heap w b l.toArray _ te (0, 0) hm.2]
  simp [blk, spl]
 ·intro kk hk
  exact setRow_other _ _ _ _ (fun e => hk (by rw [e]))
end
end Go.Fw
namespace Go.Fw
theorem OwnS.same {ob : Option Nat} {len len' cap s : Nat} {cells cells' r : List Value} (h : OwnS ob len cap s cells r) (h1 : cells'.length = cells.length) (h2 : len' = len) : OwnS ob len' cap s cells' r := by
 subst h2
 exact ⟨by rw [h1]; exact h.n, by have := h.hr; rw [List.length_append] at this ⊢; omega, h.hn, h.mx⟩
end Go.Fw
namespace Go.Fw
open Go Go.RowKit
section
variable {P : Program} [Types P] {n : Nat} {Q : Exit → Act → World → Prop} {w0 : World} {L : Z118} {M R : List Ent} {x y : Operand} {t e : TypeId}
theorem AV.append {i : TI} {ob : Option Nat} {len cap m c s : Nat} {l r vs : List Value} {B : Option Addr} {t2 e2 : TypeId} (hx : ev L x = some (sl ob 0 len cap)) (hy : ev L y = some (.slice B m c)) (ht : tyU P t = some (.slice e)) (hi : ty P e = some i) (hs : i.sz = s) (ht2 : tyU P t2 = some (.slice e2))
    (hl : l.length = len * s) (hr : (l ++ r).length = cap * s) (hn : ob = none → cap = 0) (hR : Mem.Says w0 ((ob, blk (l ++ r) e) :: M) (fun w => Rd w B vs)) (hvl : vs.length = m * s) (hv1 : ∀ u ∈ vs, u.oneCell' = true) (hB : B = none → m = 0) (hspos : 0 < s)
    (h63 : len + m ≤ 9223372036854775807) (hb : (len + m) * i.bytes ≤ 140737488355328) (hz : i.z.cells.size = s) :
    AV P w0 L ((ob, blk (l ++ r) e) :: M) (.call ⟨.builtin .append, #[x, y], #[t, t2]⟩) (τ := Option Nat × List Value × Nat) (fun q => (l ++ vs ++ q.2.1).length = q.2.2 * s ∧ (q.1 = none → q.2.2 = 0)) (fun q => sl q.1 0 (len + m) q.2.2) (fun q => (q.1, blk (l ++ vs ++ q.2.1) e) :: M) := by
 intro ρ w hρ mm o ho
 obtain ⟨hu, ti, g1, g2, g3, g4⟩ := ty_ok hi
 have hrd := hR w mm
 have hsrc : Src P ti.size t2 (.slice B m c) m vs w := by rw [g2, hs]; exact rd_src ht2 hrd hvl hv1 hB
 have hrun : ∀ (v' : Value) (w' : World), (Builtin.append_ #[t, t2] o.type #[sl ob 0 len cap, .slice B m c]).run P w = .ok v' w' → (execOp ρ o).run P w = .ok (.value v') w' := fun v' w' hh => by
  simp [execOp, ho, resolve, hρ x _ hx, hρ y _ hy, invoke, builtin, hh]
 have hsz : ti.size = s := by rw [g2, hs]
 by_cases hroom : len + m ≤ cap
 ·-- it fits
  cases ob with
  | none =>
   have hc0 := hn rfl
   subst hc0
   have hm0 : m = 0 := by omega
   have hl0 : len = 0 := by omega
   subst hm0 hl0
   have hv0 : vs = [] := List.length_eq_zero_iff.1 (by simpa using hvl)
   subst hv0
   have e1 : l = [] := List.length_eq_zero_iff.1 (by simpa using hl)
   subst e1
   refine ⟨(none, r, 0), w, ⟨by simpa using hr, fun _ => rfl⟩, hrun _ _ ?_, ?_⟩
   ·exact run_append_nothing w t t2 o.type e ti (tyU_ok ht) g1 none 0 0 (Nat.le_refl _) _ hsrc
   ·exact mm.tail.nil_ent _
  | some b =>
   have hm := mm.ents _ (List.mem_cons_self ..) b rfl
   have hlen : l.length + vs.length ≤ (l ++ r).length := by rw [hl, hvl, hr, ← Nat.add_mul]; exact Nat.mul_le_mul_right _ hroom
   have hra := run_append_room_src (P := P) w t t2 o.type e ti (tyU_ok ht) g1 b 0 len cap (.slice B m c) m vs hsrc hroom (fun j hj => by
       rw [mm.cell (List.mem_cons_self ..), hsz]
       have : 0 + len * s + j < (l ++ r).length := by omega
       rw [List.getElem?_eq_getElem this]; rfl) (fun j hj => mm.notFrozen (List.mem_cons_self ..) _)
   rw [hsz] at hra
   have hset : w.setCells b (0 + len * s) vs = w.setRow b ((l ++ r).toArray.toList.take (0 + len * s) ++ vs ++ (l ++ r).toArray.toList.drop (0 + len * s + vs.length)).toArray := by
    have q1 := run_storeCells_at (P := P) b (0 + len * s) e vs 0 (l ++ r).toArray w hm.2 (by simp; simp at hlen; omega) hv1
    have q2 := run_storeCells_cells (P := P) b (0 + len * s) vs 0 w (fun j hj => by
     rw [mm.cell (List.mem_cons_self ..)]
     have : 0 + len * s + 0 + j < (l ++ r).length := by omega
     rw [List.getElem?_eq_getElem this]; rfl) (fun j hj => mm.notFrozen (List.mem_cons_self ..) _) hv1
    rw [q1] at q2
    simp only [Nat.add_zero] at q2
    injection q2 with _ q3
    exact q3.symm
   rw [hset] at hra
   refine ⟨(some b, r.drop vs.length, cap), _, ⟨?_, fun h => by cases h⟩, hrun _ _ (by simpa [sl] using hra), mm.turned (w' := w.setRow b _) rfl rfl rfl (by simp [World.setRow]) ?_ ?_⟩
   ·rw [← hr]; simp at hlen ⊢; omega
   ·intro b' hb'
    cases hb'
    rw [setRow_heap w b (l ++ r).toArray _ e (0, 0) hm.2]
    simp only [blk]
    simp [← hl, List.drop_append]
   ·intro kk hk
    exact setRow_other _ _ _ _ (fun e => hk (by rw [e]))
 ·-- it grows
  have hold : (Builtin.firstCells ti.size len (sl ob 0 len cap)).run P w.drew = .ok l.toArray w.drew := by
   cases ob with
   | none =>
    have hc0 := hn rfl
    have e0 : (l ++ r).length = 0 := by rw [hr, hc0]; simp
    have e1 : l = [] := by cases l with | nil => rfl | cons a b => simp at e0
    subst e1
    simp [sl, Builtin.firstCells]
   | some b =>
    have := run_firstCells_some (P := P) w.drew ti.size len ⟨b, 0, none⟩ len cap l (by rw [hsz]; exact hl) (fun j u hj => by
     rw [Z117, (mm.drew).cell (List.mem_cons_self ..)]
     have hj' : j < l.length := (List.getElem?_eq_some_iff.1 hj).1
     rw [Nat.zero_add, List.getElem?_append_left hj']; exact hj)
    exact this
  have hg := run_append_grow_src (P := P) w t t2 o.type e ti i.z (tyU_ok ht) g1 g4 (ob.map fun k => ⟨k, 0, none⟩) len cap l hold (.slice B m c) m vs hsrc (by omega) (by omega)
   (growslice_fits (by omega) (by rw [g3]; exact hb))
  refine ⟨(some w.heap.size, (Builtin.zeroCells i.z.cells (grownCap w (len + m) cap e - (len + m))).toList, grownCap w (len + m) cap e), _, ⟨?_, fun h => by cases h⟩, hrun _ _ (by simpa [sl] using hg), ?_⟩
  ·have hge := grownCap_ge w (len + m) cap e
   simp only [List.length_append, Array.length_toList, size_zeroCells, hz, hl, hvl]
   rw [← Nat.add_mul, ← Nat.add_mul]
   congr 1; omega
  ·have := mm.drew.tail.alloc (blk (l ++ vs ++ (Builtin.zeroCells i.z.cells (grownCap w (len + m) cap e - (len + m))).toList) e)
   have e3 : (.cells ((l ++ vs).toArray ++ Builtin.zeroCells i.z.cells (grownCap w (len + m) cap e - (len + m))) e : Obj) = blk (l ++ vs ++ (Builtin.zeroCells i.z.cells (grownCap w (len + m) cap e - (len + m))).toList) e := by
    unfold blk
    congr 1
    apply Array.ext'
    simp
   rw [e3]
   exact this
theorem AV.appendOwn {i : TI} {ob : Option Nat} {len cap m c s : Nat} {l r vs : List Value} {B : Option Addr} {t2 e2 : TypeId} (hx : ev L x = some (sl ob 0 len cap)) (hy : ev L y = some (.slice B m c)) (ht : tyU P t = some (.slice e)) (hi : ty P e = some i) (hs : i.sz = s) (ht2 : tyU P t2 = some (.slice e2))
    (hl : OwnS ob len cap s l r) (hR : Mem.Says w0 ((ob, blk (l ++ r) e) :: M) (fun w => Rd w B vs)) (hvl : vs.length = m * s) (hv1 : ∀ u ∈ vs, u.oneCell' = true) (hB : B = none → m = 0) (hspos : 0 < s)
    (hby : 0 < i.bytes) (hb : (len + m) * i.bytes ≤ 140737488355328) (hz : i.z.cells.size = s) (len' : Nat) (l' : List Value) (hlen : len + m = len') (hcs : l ++ vs = l') :
    AV P w0 L ((ob, blk (l ++ r) e) :: M) (.call ⟨.builtin .append, #[x, y], #[t, t2]⟩) (τ := Option Nat × List Value × Nat) (fun q => OwnS q.1 len' q.2.2 s l' q.2.1) (fun q => sl q.1 0 len' q.2.2) (fun q => (q.1, blk (l' ++ q.2.1) e) :: M) := by
 have hm : len + m ≤ (len + m) * i.bytes := Nat.le_mul_of_pos_right _ hby
 subst hlen hcs
 intro ρ w hρ mm o ho
 obtain ⟨q, w', h1, h2, h3⟩ := AV.append (P := P) hx hy ht hi hs ht2 hl.n hl.hr hl.hn hR hvl hv1 hB hspos (by omega) hb hz ρ w hρ mm o ho
 exact ⟨q, w', ⟨by rw [List.length_append, hl.n, hvl, Nat.add_mul], h1.1, h1.2, by omega⟩, h2, h3⟩
variable {ops : Array Oper} {hard : List Nat} {f : Nat} {done : Array Bool} {op : Op} {ty : TypeId} {pos : String} {aft : Array Edge} {d : Nat}
theorem XW.av (i : Nat) {τ : Type} {I : τ → Prop} {v : τ → Value} {M' : τ → List Ent} (ho : ops[i]? = some ⟨some d, op, ty, pos, aft, none⟩) (hr : (Region.ready .any ops done == [i] && hard.contains i) = true) (hop : AV P w0 L M op I v M') (hMR : ∀ x, I x → ∀ w, Mem w0 w (M' x) → Mem w0 w R) (hd : Nat.blt d n = true)
    (k : ∀ x, I x → XW P n ops Q w0 R hard f (done.setIfInBounds i true) ((d, v x) :: L) (M' x)) : XW P n ops Q w0 R hard (f + 1) done L M := by
 unfold XW at *
 intro hR hB inv a w fr mm
 simp only [Bool.and_eq_true, beq_iff_eq] at hr
 obtain ⟨hr, hi⟩ := hr
 have him : i < ops.size := (Array.getElem?_eq_some_iff.1 ho).1
 refine ⟨by rw [hr]; simp, fun j hj => ?_⟩
 rw [hr] at hj
 obtain rfl : j = i := by simpa using hj
 refine ⟨him, _, ho, .inl ⟨by simp [Region.wanted], ?_⟩⟩
 obtain ⟨x, w', hI, hrun, m'⟩ := hop a.eval w (fun x u hx => fr.eval hx) mm ⟨some d, op, ty, pos, aft, none⟩ rfl
 rw [hrun]
 refine ⟨?_, k x hI (hMR x hI) hB (inv.set (by rw [hr]; simp) him) _ _ (fr.put hd _) m'⟩
 unfold Rl
 rw [if_pos hi]
 exact fun _ => hMR x hI _ m'
theorem XW.appendOwn (i : Nat) {ti : TI} {ob : Option Nat} {len cap m c s : Nat} {l r vs : List Value} {B : Option Addr} {t2 e2 : TypeId} (ho : ops[i]? = some ⟨some d, .call ⟨.builtin .append, #[x, y], #[t, t2]⟩, ty, pos, aft, none⟩) (hr : (Region.ready .any ops done == [i] && hard.contains i) = true)
    (hx : ev L x = some (sl ob 0 len cap)) (hy : ev L y = some (.slice B m c)) (ht : tyU P t = some (.slice e)) (hi : Fw.ty P e = some ti) (hs : ti.sz = s) (ht2 : tyU P t2 = some (.slice e2))
    (hl : OwnS ob len cap s l r) (hR : Mem.Says w0 ((ob, blk (l ++ r) e) :: M) (fun w => Rd w B vs)) (hvl : vs.length = m * s) (hv1 : ∀ u ∈ vs, u.oneCell' = true) (hB : B = none → m = 0) (hspos : 0 < s)
    (hby : 0 < ti.bytes) (hb : (len + m) * ti.bytes ≤ 140737488355328) (hz : ti.z.cells.size = s) (len' : Nat) (l' : List Value) (hlen : len + m = len') (hcs : l ++ vs = l') (hMR : ∀ w, Mem w0 w M → Mem w0 w R) (hd : Nat.blt d n = true)
    (k : ∀ (ob' : Option Nat) (r' : List Value) (cap' : Nat), OwnS ob' len' cap' s l' r' → XW P n ops Q w0 R hard f (done.setIfInBounds i true) ((d, sl ob' 0 len' cap') :: L) ((ob', blk (l' ++ r') e) :: M)) : XW P n ops Q w0 R hard (f + 1) done L ((ob, blk (l ++ r) e) :: M) :=
 XW.av i ho hr (AV.appendOwn hx hy ht hi hs ht2 hl hR hvl hv1 hB hspos hby hb hz len' l' hlen hcs) (fun q _ w m => hMR w m.tail) hd (fun q hq => k q.1 q.2.1 q.2.2 hq)
end
end Go.Fw
namespace Go.Fw
open Go
theorem CW.sub {P : Program} {n : Nat} {Q : Exit → Act → World → Prop} {w0 : World} {L : Z118} {M : List Ent} {L' : Z118} {c : Code} (hL : Sub L L') (h : CW P n Q w0 c L' M) : CW P n Q w0 c L M := CW.intro fun a w f m => h.elim a w (f.weaken hL) m
def scopeOf (o : Option Code) : Code := match o with
 | some (.seq _ (.scope c)) => c
 | _ => .skip
def afterL (c : Code) (l : Nat) : Code := match findLabel c l with
 | some (.seq _ y) => y
 | _ => .skip
structure Frm where
 ob : Option Nat
 c : Nat
 cells : List Value
 r : List Value
 A : Option Addr
 cb : Nat
 items : List It
 behind : List (BitVec 8)
def Frm.ent (te : TypeId) (f : Frm) : Ent := (f.ob, blk (f.cells ++ f.r) te)
def Frm.cs (f : Frm) : List Value := [sl f.ob 0 f.items.length f.c, .slice f.A f.behind.length f.cb]
def Frm.pure (f : Frm) : List It × List (BitVec 8) := (f.items, f.behind)
structure Frm.Ok (Φ : Ctx) (f : Frm) : Prop where
 o : OwnS f.ob f.items.length f.c 3 f.cells f.r
 h : Reps (ItRd Φ) f.cells f.items
 v : View Φ f.A f.behind.length f.cb 1 (u8s f.behind)
theorem Frm.Ok.mono {Φ Ψ : Ctx} (hh : ∀ w, Ψ w → Φ w) {f : Frm} (h : f.Ok Φ) : f.Ok Ψ := ⟨h.o, h.h.mono (ItRd.mono hh), h.v.mono hh⟩
def stC : List Frm → List Value
 | [] => []
 | f :: F => stC F ++ f.cs
theorem stC_len : ∀ F : List Frm, (stC F).length = F.length * 2
 | [] => rfl
 | f :: F => by rw [stC, List.length_append, stC_len F, List.length_cons, Frm.cs]; simp; omega
theorem stC_pop (F : List Frm) (f : Frm) (r : List Value) : stC (f :: F) ++ r = stC F ++ (f.cs ++ r) := by rw [stC, List.append_assoc]
theorem stC_at0 (F : List Frm) (f : Frm) (r : List Value) : (stC (f :: F) ++ r)[0 + F.length * 2 + 0]? = some (sl f.ob 0 f.items.length f.c) := by
 rw [stC_pop, List.getElem?_append_right (by rw [stC_len]; omega), stC_len, show 0 + F.length * 2 + 0 - F.length * 2 = 0 by omega]; rfl
theorem stC_at1 (F : List Frm) (f : Frm) (r : List Value) : (stC (f :: F) ++ r)[0 + F.length * 2 + 1]? = some (.slice f.A f.behind.length f.cb) := by
 rw [stC_pop, List.getElem?_append_right (by rw [stC_len]; omega), stC_len, show 0 + F.length * 2 + 1 - F.length * 2 = 1 by omega]; rfl
theorem stC_set0 (F : List Frm) (f g : Frm) (r : List Value) (hA : g.A = f.A) (hb : g.behind = f.behind) (hc : g.cb = f.cb) : (stC (f :: F) ++ r).set (0 + F.length * 2 + 0) (sl g.ob 0 g.items.length g.c) = stC (g :: F) ++ r := by
 rw [stC_pop, stC_pop, List.set_append_right _ _ (by rw [stC_len]; omega), stC_len, show 0 + F.length * 2 + 0 - F.length * 2 = 0 by omega]
 simp [Frm.cs, hA, hb, hc]
theorem OwnS.pop {ob : Option Nat} {n c : Nat} {F : List Frm} {f : Frm} {r : List Value} (h : OwnS ob (n + 1) c 2 (stC (f :: F)) r) (hn : F.length = n) : OwnS ob n c 2 (stC F) (f.cs ++ r) := by
 have h1 := h.hr
 have h2 := h.mx
 rw [stC_pop] at h1
 exact ⟨by rw [stC_len, hn], h1, h.hn, by omega⟩
theorem OwnS.swap {ob : Option Nat} {n c : Nat} {F : List Frm} {f g : Frm} {r : List Value} (h : OwnS ob n c 2 (stC (f :: F)) r) : OwnS ob n c 2 (stC (g :: F)) r := by
 have h1 := h.hr
 have h0 := h.n
 rw [List.length_append, stC_len] at h1
 rw [stC_len] at h0
 exact ⟨by rw [stC_len]; exact h0, by rw [List.length_append, stC_len]; exact h1, h.hn, h.mx⟩
theorem Frm.one {f : Frm} : ∀ u ∈ f.cs, u.oneCell' = true := by
 intro u hu
 simp [Frm.cs] at hu
 rcases hu with rfl | rfl <;> rfl
theorem spl_last (a z cs r : List Value) (i : Nat) (hi : 0 + i = a.length) (hz : z.length = cs.length) : spl ((a ++ z) ++ r) (0 + i) cs = (a ++ cs) ++ r := by
 have h1 : List.take (0 + i) ((a ++ z) ++ r) = a := by rw [hi, List.append_assoc, List.take_left' rfl]
 have h2 : List.drop (0 + i + cs.length) ((a ++ z) ++ r) = r := by rw [hi, ← hz, ← List.length_append, List.drop_left' rfl]
 unfold spl
 rw [h1, h2]
theorem Mem.deep {w0 w : World} {A B N : List Ent} (P X : List Ent) (m : Mem w0 w (A ++ (P ++ (X ++ (B ++ N))))) : Mem w0 w (P ++ (X ++ ((A ++ B) ++ N))) := by
 refine m.perm ?_
 have h1 : (A ++ (P ++ (X ++ (B ++ N)))).Perm ((P ++ X) ++ (A ++ (B ++ N))) := by
  have := (List.perm_append_comm (l₁ := A) (l₂ := P ++ X)).append_right (B ++ N)
  simpa only [List.append_assoc] using this
 simpa only [List.append_assoc] using h1
theorem Mem.underB {w0 w : World} {e : Ent} {B N : List Ent} (P X : List Ent) (m : Mem w0 w (P ++ (e :: (X ++ (B ++ N))))) : Mem w0 w (P ++ (X ++ ((e :: B) ++ N))) := by
 refine m.perm ?_
 refine List.Perm.append_left P ?_
 have h1 : (e :: (X ++ (B ++ N))).Perm (X ++ (e :: (B ++ N))) := List.perm_middle.symm
 simpa only [List.append_assoc, List.cons_append] using h1
theorem Mem.low {w0 w : World} {B N : List Ent} (P X : List Ent) (m : Mem w0 w (P ++ (X ++ (B ++ N)))) : Mem w0 w (B ++ N) := m.appR.appR
theorem More.low {w0 : World} {Φ : Ctx} {B N : List Ent} (hΦ : ∀ w, Mem w0 w N → Φ w) (P X : List Ent) {w : World} (m : Mem w0 w (P ++ (X ++ (B ++ N)))) : More w0 Φ B w := ⟨hΦ w (m.low P X).appR, (m.low P X).appL⟩
end Go.Fw
namespace Go.Fw
open Go
theorem MRoom.view {Φ : Ctx} {A : Option Addr} {c : Nat} {x y : List (BitVec 8)} (h : View Φ A (x ++ y).length c 1 (u8s (x ++ y))) : View Φ A x.length c 1 (u8s x) := by
 have h1 := h.hi (k := x.length) (by rw [List.length_append]; omega)
 rwa [Nat.mul_one, show (u8s (x ++ y)).take x.length = u8s x by simp [u8s]] at h1
end Go.Fw
namespace Go.Fw
open Go Go.RowKit
def others (w0 w : World) (b : Nat) : List Ent := (allEnts w0 w).filter (fun e => decide (e.1 ≠ some b))
theorem Mem.graftE {w0 w w' : World} {G M : List Ent} {b : Nat} (m : Mem w0 w' (G ++ others w0 w b)) (mM : Mem w0 w M) (hb : ∀ e ∈ M, e.1 ≠ some b) : Mem w0 w' (G ++ M) := by
 have hin : ∀ e ∈ M, ∀ b', e.1 = some b' → ((some b', e.2) : Ent) ∈ others w0 w b := fun e he b' hb' => by
  obtain ⟨h1, h2⟩ := mM.ents e he b' hb'
  have hlt : b' < w.heap.size := (Array.getElem?_eq_some_iff.1 h2).1
  have hall : ((some b', e.2) : Ent) ∈ allEnts w0 w := by
   refine List.mem_map.2 ⟨b' - w0.heap.size, List.mem_range.2 (by omega), ?_⟩
   have e1 : w0.heap.size + (b' - w0.heap.size) = b' := by omega
   simp [e1, h2]
  exact List.mem_filter.2 ⟨hall, decide_eq_true (by have := hb e he; rw [hb'] at this; exact this)⟩
 have hap := List.pairwise_append.1 m.apart
 refine ⟨m.os, m.tape, m.output, m.size, m.old, fun e he b' hb' => ?_, List.pairwise_append.2 ⟨hap.1, mM.apart, fun g hg e he b' hb1 hb2 => hap.2.2 g hg _ (hin e he b' hb2) b' hb1 rfl⟩⟩
 rcases List.mem_append.1 he with he | he
 ·exact m.ents e (List.mem_append_left _ he) b' hb'
 ·exact m.ents _ (List.mem_append_right _ (hin e he b' hb')) b' rfl
theorem Mem.others {w0 w : World} {b : Nat} {o : Obj} {M : List Ent} (m : Mem w0 w ((some b, o) :: M)) : Mem w0 w ((some b, o) :: others w0 w b) := by
 have ma := m.all
 have hf : ∀ e ∈ Go.Fw.others w0 w b, e.1 ≠ some b := fun e he => of_decide_eq_true (List.mem_filter.1 he).2
 refine ⟨m.os, m.tape, m.output, m.size, m.old, fun e he b' hb' => ?_, List.pairwise_cons.2 ⟨fun e he b' h1 h2 => ?_, ma.apart.sublist List.filter_sublist⟩⟩
 ·rcases List.mem_cons.1 he with rfl | he
  ·exact m.ents _ (List.mem_cons_self ..) b' hb'
  ·exact ma.ents e (List.mem_filter.1 he).1 b' hb'
 ·exact hf e he (h2.trans h1.symm)
section
variable {P : Program} {n : Nat} {Q : Exit → Act → World → Prop} {w0 : World} {L : Z118} {M R : List Ent}
variable {ops : Array Oper} {hard : List Nat} {f : Nat} {done : Array Bool} {op : Op} {ty : TypeId} {pos : String} {aft : Array Edge} {g : Option (Nat × Bool)} {d : Nat} {v : Value}
theorem XW.callE (i : Nat) {fn : FuncId} {xs : List Operand} {ats : Array TypeId} {args : List Value} {Rr : Value → List Ent → Prop} {b : Nat} {o : Obj} (ho : ops[i]? = some ⟨some d, .call ⟨.value (.func fn), xs.toArray, ats⟩, ty, pos, aft, g⟩) (hr : (Region.ready .any ops done == [i] && hard.contains i) = true) (hw : Wt ops L g = true)
    (hc : ∀ (args : Array Value) (w : World), (callFunc fn args).run P w = .ok (.enter fn args) w) (hxs : evs L xs = some args) (hdo : ∀ N, (∀ w, Mem w0 w N → Mem w0 w M) → DoesG P fn args w0 [(some b, o)] N Rr) (hMR : ∀ w, Mem w0 w M → Mem w0 w R)
    (hd : Nat.blt d n = true) (k : ∀ v G, Rr v G → XW P n ops Q w0 R hard f (done.setIfInBounds i true) ((d, v) :: L) (G ++ M)) : XW P n ops Q w0 R hard (f + 1) done L ((some b, o) :: M) := by
 unfold XW at *
 intro hR hB inv a w fr mm
 simp only [Bool.and_eq_true, beq_iff_eq] at hr
 obtain ⟨hr, hi⟩ := hr
 have him : i < ops.size := (Array.getElem?_eq_some_iff.1 ho).1
 have hne : ∀ e ∈ M, e.1 ≠ some b := fun e he h => (List.pairwise_cons.1 mm.apart).1 e he b rfl h
 refine ⟨by rw [hr]; simp, fun j hj => ?_⟩
 rw [hr] at hj
 obtain rfl : j = i := by simpa using hj
 refine ⟨him, _, ho, .inl ⟨wt_spec fr hw, ?_⟩⟩
 have hev := evs_map (fun x u hx => fr.eval hx) xs args hxs
 have hrun : (execOp a.eval ⟨some d, .call ⟨.value (.func fn), xs.toArray, ats⟩, ty, pos, aft, g⟩).run P w = .ok (.enter fn args.toArray) w := by
  simp [execOp, resolve, Deferred.ofValue, Act.eval, invoke, hev, hc]
 rw [hrun]
 refine (hdo (others w0 w b) (fun w2 m2 => by have := Mem.graftE (G := []) m2 mm.tail hne; exact this) w (by simpa using mm.others)).mono ?_
 rintro e w2 ⟨q, ⟨G, h1, h2⟩, rfl, m'⟩
 have m' : Mem w0 w2 (G ++ others w0 w b) := by have m2 := m'; rwa [show (fun q : Value × List Ent => q.2) q = G ++ others w0 w b from h2] at m2
 have m3 := m'.graftE mm.tail hne
 refine ⟨_, rfl, ?_, (k q.1 G h1) (fun w m => hMR w m.appR) hB (inv.set (by rw [hr]; simp) him) _ _ (fr.put hd _) m3⟩
 unfold Rl
 rw [if_pos hi]
 exact fun _ => hMR _ m3.appR
end
end Go.Fw
namespace Go.Fw
open Go Go.RowKit
theorem Z148 {L : Z118} {d k : Nat} {u : Value} (h : d ≠ k) : lk ((d, u) :: L) k = lk L k := by
 simp only [lk]
 split
 ·rename_i e; exact absurd (by simpa using e) h
 ·rfl
theorem nbeq {a b : Nat} (h : Nat.beq a b = false) : a ≠ b := fun e => by subst e; simp at h
theorem lk_swap {L : Z118} {d e q : Nat} {u v w : Value} (h : d ≠ e) (hq : lk ((e, u) :: (d, v) :: L) q = some w) : lk ((d, v) :: (e, u) :: L) q = some w := by
 by_cases h1 : e = q
 ·subst h1
  rw [Z148 h]
  simpa [lk] using hq
 ·rw [Z148 h1] at hq
  by_cases h2 : d = q
  ·subst h2; simpa [lk] using hq
  ·rw [Z148 h2] at hq ⊢
   rw [Z148 h1]; exact hq
theorem lk_mono {L : Z118} {d : Nat} {u : Value} (h : lk L d = none) : ∀ k v, lk L k = some v → lk ((d, u) :: L) k = some v := fun k v hk => by
 rw [Z148 (fun e => by subst e; rw [h] at hk; cases hk)]; exact hk
theorem ev_mono {L L' : Z118} (h : ∀ k v, lk L k = some v → lk L' k = some v) {x : Operand} {v : Value} (hx : ev L x = some v) : ev L' x = some v := by
 cases x with
 | tmp t => exact h t v hx
 | const c => exact hx
 | global g => exact hx
 | func f => exact hx
theorem evs_mono {L L' : Z118} (h : ∀ k v, lk L k = some v → lk L' k = some v) : ∀ (l : List Operand) (vs : List Value), evs L l = some vs → evs L' l = some vs
 | [], vs, e => e
 | x :: r, vs, e => by
  simp only [evs] at e ⊢
  split at e
  ·rename_i u hu
   rw [ev_mono h hu]
   split at e
   ·rename_i us hus
    rw [evs_mono h r us hus]
    exact e
   ·cases e
  ·cases e
theorem Mem.under {w0 : World} {M M' : List Ent} (hs : ∀ w, Mem w0 w M → Mem w0 w M') {b : Nat} {l : List Value} {t : TypeId} {w : World} (m : Mem w0 w ((some b, blk l t) :: M)) : Mem w0 w ((some b, blk l t) :: M') := by
 have m1 := hs w m.tail
 obtain ⟨hb, hw⟩ := m.ents _ (List.mem_cons_self ..) b rfl
 have hlt : b < w.heap.size := (Array.getElem?_eq_some_iff.1 hw).1
 refine ⟨m.os, m.tape, m.output, m.size, m.old, fun e he b' hb' => ?_, List.pairwise_cons.2 ⟨fun e he b' h1 h2 => ?_, m1.apart⟩⟩
 ·rcases List.mem_cons.1 he with rfl | he
  ·exact m.ents _ (List.mem_cons_self ..) b' hb'
  ·exact m1.ents e he b' hb'
 ·obtain rfl : b = b' := by simpa using h1
  have hne : ∀ x ∈ M, ∀ b', x.1 = some b' → b' ≠ b := fun x hx b' h3 e => (List.pairwise_cons.1 m.apart).1 x hx b rfl (by rw [h3, e])
  have m2 : Mem w0 { w with heap := w.heap.set b (blk (undef :: l) t) hlt } M := by
   refine ⟨m.os, m.tape, m.output, by simpa using m.size, fun b' h => ?_, fun x hx b' h3 => ?_, m.tail.apart⟩
   ·show (w.heap.set b _ hlt)[b']? = _
    rw [Array.getElem?_set_ne hlt (by omega)]
    exact m.old b' h
   ·obtain ⟨h4, h5⟩ := m.tail.ents x hx b' h3
    refine ⟨h4, ?_⟩
    show (w.heap.set b _ hlt)[b']? = _
    rw [Array.getElem?_set_ne hlt (fun e => hne x hx b' h3 e.symm)]
    exact h5
  have q1 := (m1.ents e he b h2).2
  have q2 := ((hs _ m2).ents e he b h2).2
  have q3 : (w.heap.set b (blk (undef :: l) t) hlt)[b]? = some (blk (undef :: l) t) := Array.getElem?_set_self hlt
  have q4 : some (blk (undef :: l) t) = some (blk l t) := (q3.symm.trans q2).trans (q1.symm.trans hw)
  simp [blk] at q4
section
variable {P : Program} {n : Nat} {Q : Exit → Act → World → Prop} {w0 : World} {L : Z118} {M R : List Ent}
variable {ops : Array Oper} {hard : List Nat} {f : Nat} {done : Array Bool} {op opp : Op} {ty typ : TypeId} {pos posp : String} {aft aftp : Array Edge} {g : Option (Nat × Bool)} {d dp p : Nat} {v : Value} {fv : Nat → Value} {l : List Value} {te : TypeId}
theorem XW.sub {L' : Z118} (hs : ∀ k v, lk L' k = some v → lk L k = some v) (k : XW P n ops Q w0 R hard f done L' M) : XW P n ops Q w0 R hard f done L M := by
 unfold XW at *
 exact fun hR hB inv a w fr mm => k hR hB inv a w (fr.sub hs) mm
def XWp (P : Program) (n : Nat) (ops : Array Oper) (Q : Exit → Act → World → Prop) (w0 : World) (R : List Ent) (hard : List Nat) (p dp : Nat) (fv : Nat → Value) (l : List Value) (te : TypeId) (f : Nat) (done : Array Bool) (L : Z118) (M : List Ent) : Prop :=
 (∃ op ty pos aft, ops[p]? = some ⟨some dp, op, ty, pos, aft, none⟩ ∧ NV P w0 [] [] op fv l te ∧ Nat.blt dp n = true) → lk L dp = none →
  XW P n ops Q w0 R hard (f + 1) done L M ∧ ∀ b, XW P n ops Q w0 R hard f (done.setIfInBounds p true) ((dp, fv b) :: L) ((some b, blk l te) :: M)
theorem NV.any (h : NV P w0 [] [] op fv l te) : NV P w0 L M op fv l te := fun ρ w hρ m o ho => h ρ w (fun x u hx => hρ x u (ev_mono (fun k v hk => by simp [lk] at hk) hx)) (m.sublist (List.nil_sublist _)) o ho
theorem XWp.fin (hr : (Region.ready .any ops done == [p]) = true) (k : ∀ b, XW P n ops Q w0 R hard f (done.setIfInBounds p true) ((dp, fv b) :: L) ((some b, blk l te) :: M)) : XWp P n ops Q w0 R hard p dp fv l te f done L M := fun ⟨_, _, _, _, ho, hop, hd⟩ hl =>
 ⟨XW.new p ho hr rfl hop.any hd k, k⟩
theorem XWp.slot (v' : Value) (hv : v = v') (k : XWp P n ops Q w0 R hard p dp fv l te f done ((d, v') :: L) M) : XWp P n ops Q w0 R hard p dp fv l te f done ((d, v) :: L) M := by subst hv; exact k
theorem XWp.mem {M' : List Ent} (hs : ∀ w, Mem w0 w M → Mem w0 w M') (hMR : ∀ w, Mem w0 w M' → Mem w0 w R) (k : XWp P n ops Q w0 R hard p dp fv l te f done L M') : XWp P n ops Q w0 R hard p dp fv l te f done L M := fun hp hl =>
 ⟨Z19 hs hMR (k hp hl).1, fun b => Z19 (fun w m => m.under hs) (fun w m => hMR w m.tail) ((k hp hl).2 b)⟩
theorem RV.more {L' : Z118} {M' : List Ent} (hL : ∀ k v, lk L k = some v → lk L' k = some v) (hM : ∀ w, Mem w0 w M' → Mem w0 w M) (h : RV P w0 L M op v) : RV P w0 L' M' op v := fun ρ w hρ m o ho => h ρ w (fun x u hx => hρ x u (ev_mono hL hx)) (hM w m) o ho
theorem XWp.rs (i : Nat) (ho : ops[i]? = some ⟨some d, op, ty, pos, aft, none⟩) (hr : (XR ops done i && XR ops (done.setIfInBounds p true) i && !Nat.beq d dp && !Nat.beq i p) = true) (hw : Wt ops L none = true) (hop : RV P w0 L R op v) (hd : Nat.blt d n = true) (k : XWp P n ops Q w0 R hard p dp fv l te f (done.setIfInBounds i true) ((d, v) :: L) M) : XWp P n ops Q w0 R hard p dp fv l te (f + 1) done L M := fun hp hl => by
 simp only [Bool.and_eq_true, Bool.not_eq_true'] at hr
 obtain ⟨⟨⟨h1, h2⟩, h3⟩, h4⟩ := hr
 have hl' : lk ((d, v) :: L) dp = none := by rw [Z148 (nbeq h3)]; exact hl
 obtain ⟨k1, k2⟩ := k hp hl'
 refine ⟨Z10 i ho h1 rfl hop hd k1, fun b => Z10 i ho h2 rfl (hop.more (lk_mono hl) fun _ m => m) hd ?_⟩
 rw [Array.setIfInBounds_comm _ _ (Ne.symm (nbeq h4))]
 refine XW.sub (fun q u hq => ?_) (k2 b)
 exact lk_swap (nbeq h3) hq
theorem XWp.rv (i : Nat) (ho : ops[i]? = some ⟨some d, op, ty, pos, aft, none⟩) (hr : (XR ops done i && XR ops (done.setIfInBounds p true) i && !Nat.beq d dp && !Nat.beq i p) = true) (hw : Wt ops L none = true) (hS : XS ops hard i = true) (hop : RV P w0 L M op v) (hd : Nat.blt d n = true) (k : XWp P n ops Q w0 R hard p dp fv l te f (done.setIfInBounds i true) ((d, v) :: L) M) : XWp P n ops Q w0 R hard p dp fv l te (f + 1) done L M := fun hp hl => by
 simp only [Bool.and_eq_true, Bool.not_eq_true'] at hr
 obtain ⟨⟨⟨h1, h2⟩, h3⟩, h4⟩ := hr
 have hl' : lk ((d, v) :: L) dp = none := by rw [Z148 (nbeq h3)]; exact hl
 obtain ⟨k1, k2⟩ := k hp hl'
 refine ⟨XW.rv i ho h1 rfl hS hop hd k1, fun b => XW.rv i ho h2 rfl hS (hop.more (lk_mono hl) fun _ m => m.tail) hd ?_⟩
 rw [Array.setIfInBounds_comm _ _ (Ne.symm (nbeq h4))]
 refine XW.sub (fun q u hq => ?_) (k2 b)
 exact lk_swap (nbeq h3) hq
theorem XWp.callG (i : Nat) {fn : FuncId} {xs : List Operand} {ats : Array TypeId} {args : List Value} {Rr : Value → List Ent → Prop} (ho : ops[i]? = some ⟨some d, .call ⟨.value (.func fn), xs.toArray, ats⟩, ty, pos, aft, none⟩) (hr : ((Region.ready .any ops done == [i, p] || Region.ready .any ops done == [p, i]) && Region.ready .any ops (done.setIfInBounds p true) == [i] && !Nat.beq d dp && !Nat.beq i p) = true) (hw : Wt ops L none = true)
    (hc : ∀ (args : Array Value) (w : World), (callFunc fn args).run P w = .ok (.enter fn args) w) (hxs : evs L xs = some args) (hdo : ∀ N, (∀ w, Mem w0 w N → Mem w0 w M) → DoesG P fn args w0 [] N Rr)
    (hd : Nat.blt d n = true) (k : ∀ v G, Rr v G → XWp P n ops Q w0 R hard p dp fv l te f (done.setIfInBounds i true) ((d, v) :: L) (G ++ M)) : XWp P n ops Q w0 R hard p dp fv l te (f + 1) done L M := fun hp hl => by
 simp only [Bool.and_eq_true, Bool.not_eq_true', Bool.or_eq_true, beq_iff_eq] at hr
 obtain ⟨⟨⟨h1, h2⟩, h3⟩, h4⟩ := hr
 have hl' : ∀ v, lk ((d, v) :: L) dp = none := fun v => by rw [Z148 (nbeq h3)]; exact hl
 have k2 : ∀ b, XW P n ops Q w0 R hard (f + 1) (done.setIfInBounds p true) ((dp, fv b) :: L) ((some b, blk l te) :: M) := fun b => by
  refine Z11 i ho (by simpa using h2) rfl hc (evs_mono (lk_mono hl) _ _ hxs) (fun N hN => hdo N fun w m => (hN w m).tail) hd (fun v G hv => ?_)
  rw [Array.setIfInBounds_comm _ _ (Ne.symm (nbeq h4))]
  have q := (k v G hv hp (hl' v)).2 b
  unfold XW at q ⊢
  intro hR hB inv a w fr mm
  have mp : ∀ w, Mem w0 w ((some b, blk l te) :: (G ++ M)) → Mem w0 w (G ++ (some b, blk l te) :: M) := fun w m => m.perm List.perm_middle.symm
  refine q (fun w m => hR w (mp w m)) hB inv a w (fr.sub fun q u hq => ?_) (mm.perm List.perm_middle)
  exact lk_swap (nbeq h3) hq
 refine ⟨?_, k2⟩
 have k1 := fun v G hv => (k v G hv hp (hl' v)).1
 obtain ⟨op, tyq, posq, aftq, hop, hnv, hdp⟩ := hp
 unfold XW at k1 k2 ⊢
 intro hR hB inv a w fr mm
 have hmem : ∀ j, j ∈ Region.ready .any ops done ↔ j = i ∨ j = p := fun j => by rcases h1 with h | h <;> simp [h, or_comm]
 have him : i < ops.size := (Array.getElem?_eq_some_iff.1 ho).1
 have hpm : p < ops.size := (Array.getElem?_eq_some_iff.1 hop).1
 refine ⟨by rcases h1 with h | h <;> simp [h], fun j hj => ?_⟩
 rcases (hmem j).1 hj with rfl | rfl
 ·refine ⟨him, _, ho, .inl ⟨wt_spec fr rfl, ?_⟩⟩
  have hev := evs_map (fun x u hx => fr.eval hx) xs args hxs
  have hrun : (execOp a.eval ⟨some d, .call ⟨.value (.func fn), xs.toArray, ats⟩, ty, pos, aft, none⟩).run P w = .ok (.enter fn args.toArray) w := by
   simp [execOp, resolve, Deferred.ofValue, Act.eval, invoke, hev, hc]
  rw [hrun]
  refine (hdo (allEnts w0 w) (fun w2 m2 => Z149 m2 _ mm) w mm.all).mono ?_
  rintro e w2 ⟨q, ⟨G, h1, h2⟩, rfl, m'⟩
  have m' : Mem w0 w2 (G ++ allEnts w0 w) := by have m2 := m'; rwa [show (fun q : Value × List Ent => q.2) q = G ++ allEnts w0 w from h2] at m2
  refine ⟨_, rfl, ?_, (k1 q.1 G h1) (fun w m => hR w m.appR) hB (inv.set hj him) _ _ (fr.put hd _) (m'.graft mm)⟩
  have hu := Z149 m'.appR
  unfold Rl
  split
  ·exact hu R
  ·exact hu
 ·refine ⟨hpm, _, hop, .inl ⟨wt_spec fr rfl, ?_⟩⟩
  rw [hnv.any (L := L) (M := M) a.eval w (fun x u hx => fr.eval hx) mm _ rfl]
  refine ⟨?_, k2 _ (fun w m => hR w m.tail) hB (inv.set hj hpm) _ _ (fr.put hdp _) (mm.alloc _)⟩
  unfold Rl
  split
  ·exact Upw.alloc _ _ _ R
  ·exact Upw.alloc _ _ _
theorem XWp.new (i : Nat) {l' : List Value} {te' : TypeId} {fv' : Nat → Value} (ho : ops[i]? = some ⟨some d, op, ty, pos, aft, none⟩) (hr : ((Region.ready .any ops done == [i, p] || Region.ready .any ops done == [p, i]) && Region.ready .any ops (done.setIfInBounds p true) == [i] && !Nat.beq d dp && !Nat.beq i p) = true) (hw : Wt ops L none = true)
    (hop : NV P w0 L M op fv' l' te') (hd : Nat.blt d n = true) (k : ∀ b, XWp P n ops Q w0 R hard p dp fv l te f (done.setIfInBounds i true) ((d, fv' b) :: L) ((some b, blk l' te') :: M)) : XWp P n ops Q w0 R hard p dp fv l te (f + 1) done L M := fun hp hl => by
 simp only [Bool.and_eq_true, Bool.not_eq_true', Bool.or_eq_true, beq_iff_eq] at hr
 obtain ⟨⟨⟨h1, h2⟩, h3⟩, h4⟩ := hr
 have hl' : ∀ v, lk ((d, v) :: L) dp = none := fun v => by rw [Z148 (nbeq h3)]; exact hl
 have k2 : ∀ b, XW P n ops Q w0 R hard (f + 1) (done.setIfInBounds p true) ((dp, fv b) :: L) ((some b, blk l te) :: M) := fun b => by
  refine XW.new i ho (by simpa using h2) rfl (fun ρ w hρ m o ho => hop ρ w (fun x u hx => hρ x u (ev_mono (lk_mono hl) hx)) m.tail o ho) hd (fun b' => ?_)
  rw [Array.setIfInBounds_comm _ _ (Ne.symm (nbeq h4))]
  have q := (k b' hp (hl' _)).2 b
  unfold XW at q ⊢
  intro hR hB inv a w fr mm
  have mp : ∀ w, Mem w0 w ((some b, blk l te) :: (some b', blk l' te') :: M) → Mem w0 w ((some b', blk l' te') :: (some b, blk l te) :: M) := fun w m => m.rot1
  refine q (fun w m => hR w (mp w m)) hB inv a w (fr.sub fun q u hq => ?_) (mm.rot1)
  exact lk_swap (nbeq h3) hq
 refine ⟨?_, k2⟩
 have k1 := fun b => (k b hp (hl' (fv' b))).1
 obtain ⟨op, tyq, posq, aftq, hop2, hnv, hdp⟩ := hp
 unfold XW at k1 k2 ⊢
 intro hR hB inv a w fr mm
 have hmem : ∀ j, j ∈ Region.ready .any ops done ↔ j = i ∨ j = p := fun j => by rcases h1 with h | h <;> simp [h, or_comm]
 have him : i < ops.size := (Array.getElem?_eq_some_iff.1 ho).1
 have hpm : p < ops.size := (Array.getElem?_eq_some_iff.1 hop2).1
 refine ⟨by rcases h1 with h | h <;> simp [h], fun j hj => ?_⟩
 rcases (hmem j).1 hj with rfl | rfl
 ·refine ⟨him, _, ho, .inl ⟨wt_spec fr rfl, ?_⟩⟩
  rw [hop a.eval w (fun x u hx => fr.eval hx) mm _ rfl]
  refine ⟨?_, k1 _ (fun w m => hR w m.tail) hB (inv.set hj him) _ _ (fr.put hd _) (mm.alloc _)⟩
  unfold Rl
  split
  ·exact Upw.alloc _ _ _ R
  ·exact Upw.alloc _ _ _
 ·refine ⟨hpm, _, hop2, .inl ⟨wt_spec fr rfl, ?_⟩⟩
  rw [hnv.any (L := L) (M := M) a.eval w (fun x u hx => fr.eval hx) mm _ rfl]
  refine ⟨?_, k2 _ (fun w m => hR w m.tail) hB (inv.set hj hpm) _ _ (fr.put hdp _) (mm.alloc _)⟩
  unfold Rl
  split
  ·exact Upw.alloc _ _ _ R
  ·exact Upw.alloc _ _ _
attribute [irreducible] XWp
theorem NV.alloc [Types P] {e : TypeId} {ti : TI} {l : List Value} (hi : Fw.ty P e = some ti) (hl : ti.z.cells = l.toArray) : NV P w0 L M (.alloc e) (fun b => ptr (some b) 0) l e := fun ρ w hρ m o ho => by
 obtain ⟨_, ti, h1, h2, h3, h4⟩ := ty_ok hi
 simp [execOp, ho, Instr.alloc, zeroValue, typeInfo, h1, h4, newVar, newRow, ptr, blk, hl]
end
end Go.Fw
namespace Go.Fw
mutual
def It.sz : It → Nat
 | .mk _ _ its => 1 + Its.sz its
def Its.sz : List It → Nat
 | [] => 0
 | x :: xs => It.sz x + Its.sz xs
end
structure Hd where
 list : Bool
 fr : Nat
 to : Nat
def HdRd (Φ : Ctx) (cs : List Value) (h : Hd) : Prop := cs = [.bool h.list, .int .i64 ((h.fr : Nat) : Int), .int .i64 ((h.to : Nat) : Int)] ∧ h.fr ≤ 9223372036854775807 ∧ h.to ≤ 9223372036854775807
theorem HdRd.opn {Φ : Ctx} {cs : List Value} {h : Hd} (r : HdRd Φ cs h) : cs = [.bool h.list, .int .i64 ((h.fr : Nat) : Int), .int .i64 ((h.to : Nat) : Int)] ∧ h.fr ≤ 9223372036854775807 ∧ h.to ≤ 9223372036854775807 := r
theorem HdRd.mk {Φ : Ctx} {l : Bool} {f t : Nat} (h1 : f ≤ 9223372036854775807) (h2 : t ≤ 9223372036854775807) : HdRd Φ [.bool l, .int .i64 ((f : Nat) : Int), .int .i64 ((t : Nat) : Int)] ⟨l, f, t⟩ := ⟨rfl, h1, h2⟩
theorem HdRd.mono {Φ Ψ : Ctx} (hh : ∀ w, Ψ w → Φ w) (cs : List Value) (h : Hd) : HdRd Φ cs h → HdRd Ψ cs h := fun r => r
end Go.Fw
namespace Go.Fw
open Go Go.RowKit
def room9 (x : List (BitVec 8)) : List (BitVec 8) := x ++ List.replicate 9 165#8
structure Room (Φ : Ctx) (A : Option Addr) (x : List (BitVec 8)) : Prop where
 full : View Φ A (x.length + 9) (x.length + 9) 1 (u8s (room9 x))
theorem Room.mono {Φ Ψ : Ctx} {A : Option Addr} {x : List (BitVec 8)} (h : Room Φ A x) (hh : ∀ w, Ψ w → Φ w) : Room Ψ A x := ⟨h.full.mono hh⟩
theorem Room.view {Φ : Ctx} {A : Option Addr} {x : List (BitVec 8)} (h : Room Φ A x) : View Φ A x.length (x.length + 9) 1 (u8s x) := by
 have h1 := h.full.hi (k := x.length) (by omega)
 rw [Nat.mul_one, show (u8s (room9 x)).take x.length = u8s x by simp [u8s, room9]] at h1
 exact h1
end Go.Fw
namespace Go.Fw
open Go Go.RowKit
def RmRd (Φ : Ctx) (cs : List Value) (x : List (BitVec 8)) : Prop := ∃ A, cs = [.slice A x.length (x.length + 9)] ∧ Room Φ A x
theorem RmRd.mono {Φ Ψ : Ctx} (hh : ∀ w, Ψ w → Φ w) (cs : List Value) (x : List (BitVec 8)) : RmRd Φ cs x → RmRd Ψ cs x := fun ⟨A, h1, h2⟩ => ⟨A, h1, h2.mono hh⟩
theorem RmRd.len {Φ : Ctx} (cs : List Value) (x : List (BitVec 8)) (h : RmRd Φ cs x) : cs.length = 1 := by obtain ⟨A, rfl, _⟩ := h; rfl
theorem RmRd.one {Φ : Ctx} (cs : List Value) (x : List (BitVec 8)) (h : RmRd Φ cs x) : ∀ u ∈ cs, u.oneCell' = true := by
 obtain ⟨A, rfl, _⟩ := h
 intro u hu; simp at hu; subst hu; rfl
theorem RmRd.mk {Φ : Ctx} {A : Option Addr} {x : List (BitVec 8)} (h : Room Φ A x) : RmRd Φ [.slice A x.length (x.length + 9)] x := ⟨A, rfl, h⟩
theorem RmRd.bs {Φ : Ctx} (cs : List Value) (x : List (BitVec 8)) (h : RmRd Φ cs x) : BsRd Φ cs x := by
 obtain ⟨A, h1, h2⟩ := h
 exact ⟨A, _, h1, h2.view⟩
end Go.Fw
namespace Go.Fw
end Go.Fw
namespace Go.Fw
open Go
def Rooms (Φ : Ctx) (A : Option Addr) (c : Nat) (x : List (List (BitVec 8))) : Prop := ∃ cs mk : List Value, View Φ A (x ++ ([([164#8] : List (BitVec 8))] : List (List (BitVec 8)))).length c 1 (cs ++ mk) ∧ Reps (RmRd Φ) cs x ∧ Reps (BsRd Φ) (cs ++ mk) (x ++ ([([164#8] : List (BitVec 8))] : List (List (BitVec 8))))
theorem Rooms.mono {Φ Ψ : Ctx} {A : Option Addr} {c : Nat} {x : List (List (BitVec 8))} (h : Rooms Φ A c x) (hh : ∀ w, Ψ w → Φ w) : Rooms Ψ A c x := by
 obtain ⟨cs, mk, v, r, rb⟩ := h
 exact ⟨cs, mk, v.mono hh, r.mono (RmRd.mono hh), rb.mono (BsRd.mono hh)⟩
theorem Rooms.mk {Φ : Ctx} {A : Option Addr} {c : Nat} {x : List (List (BitVec 8))} {cs mk : List Value} (v : View Φ A (x ++ ([([164#8] : List (BitVec 8))] : List (List (BitVec 8)))).length c 1 (cs ++ mk)) (r : Reps (RmRd Φ) cs x) (rb : Reps (BsRd Φ) (cs ++ mk) (x ++ ([([164#8] : List (BitVec 8))] : List (List (BitVec 8))))) : Rooms Φ A c x := ⟨cs, mk, v, r, rb⟩
def Ar8Rd {n : Nat} (Φ : Ctx) (cs : List Value) (v : Vector (BitVec 8) n) : Prop := cs = u8s v.toList
theorem Ar8Rd.mono {n : Nat} {Φ Ψ : Ctx} (hh : ∀ w, Ψ w → Φ w) (cs : List Value) (v : Vector (BitVec 8) n) (h : Ar8Rd Φ cs v) : Ar8Rd Ψ cs v := h
theorem Ar8Rd.len {n : Nat} {Φ : Ctx} (cs : List Value) (v : Vector (BitVec 8) n) (h : Ar8Rd Φ cs v) : cs.length = n := by rw [h, Z100, Zv]
theorem Ar8Rd.one {n : Nat} {Φ : Ctx} (cs : List Value) (v : Vector (BitVec 8) n) (h : Ar8Rd Φ cs v) : ∀ u ∈ cs, u.oneCell' = true := by rw [h]; exact Z123 _
theorem Ar8Rd.mk {n : Nat} {Φ : Ctx} {v : Vector (BitVec 8) n} : Ar8Rd Φ (u8s v.toList) v := rfl
end Go.Fw
namespace Go.Fw
open Go Go.RowKit
section
variable {P : Program} [Types P] {n : Nat} {Q : Exit → Act → World → Prop} {w0 : World} {L : Z118} {M : List Ent} {t e : TypeId} {x : Operand} {v : Value}
def Held (w0 : World) (Φ : Ctx) (b : Nat) (l : List Value) (te : TypeId) : Prop := ∀ w, Φ w → Mem w0 w [(some b, blk l te)]
theorem Held.mono {Φ Ψ : Ctx} {b : Nat} {l : List Value} {te : TypeId} (h : Held w0 Φ b l te) (hh : ∀ w, Ψ w → Φ w) : Held w0 Ψ b l te := fun w q => h w (hh w q)
theorem Held.part {Φ : Ctx} {b i : Nat} {l : List Value} {te : TypeId} {m : Nat} {a : Vector (BitVec 8) m} (h : Held w0 Φ b l te) (hp : ∀ (k : Nat) (u : Value), (u8s a.toList)[k]? = some u → l[i + k]? = some u) (hm : m ≤ 140737488355328) : View Φ (some ⟨b, i, none⟩) a.toList.length m 1 (u8s a.toList) :=
 ⟨fun w q => ⟨fun _ => rfl, fun j u hj => by
  show w.cell? ((⟨b, i, none⟩ : Addr).add j) = some u
  rw [Z117, (h w q).cell (List.mem_cons_self ..)]; exact hp j u hj⟩, fun _ => rfl, by rw [Z100]; omega, by rw [Zv]; exact Nat.le_refl _, by rw [Zv]; exact hm⟩
theorem View.part {Φ : Ctx} {A : Option Addr} {len c s off f : Nat} {cells cs : List Value} {m : Nat} {a : Vector (BitVec 8) m} (h : View Φ A len c s cells) (hc : ∀ j u, cs[j]? = some u → cells[off + j]? = some u) (hp : ∀ (k : Nat) (u : Value), (u8s a.toList)[k]? = some u → cs[f + k]? = some u) (hm : m ≤ 140737488355328) :
    View Φ (some (((A.getD default).add off).add f)) a.toList.length m 1 (u8s a.toList) :=
 ⟨fun w q => ⟨fun _ => rfl, fun j u hj => by
  show w.cell? ((((A.getD default).add off).add f).add j) = some u
  rw [Addr.add_add]; exact h.load q hc _ u (hp j u hj)⟩, fun _ => rfl, by rw [Z100]; omega, by rw [Zv]; exact Nat.le_refl _, by rw [Zv]; exact hm⟩
end
section
variable {P : Program} {n : Nat} {Q : Exit → Act → World → Prop} {w0 : World} {L : Z118} {M : List Ent}
theorem CW.scope0 {c : Code} (h : CW P n (Exit.noGoto Q) w0 c L M) : CW P n Q w0 (.scope c) L M := CW.intro fun a w f m => wp_scope_straight (h.elim a w f m)
theorem QW.scope_r (h : QW n Q w0 .ret L M) : QW n (Exit.noGoto Q) w0 .ret L M := QW.intro fun a w f m => h.elim a w f m
end
def LsRd {T : Type} (s : Nat) (R : Ctx → List Value → T → Prop) (Φ : Ctx) (cs : List Value) (x : List T) : Prop := ∃ A c cs2, cs = [.slice A x.length c] ∧ View Φ A x.length c s cs2 ∧ Reps (R Φ) cs2 x
abbrev HsRd (Φ : Ctx) (cs : List Value) (x : List (Vector (BitVec 8) 32)) : Prop := LsRd 32 Ar8Rd Φ cs x
theorem HsRd.mono {Φ Ψ : Ctx} (hh : ∀ w, Ψ w → Φ w) (cs : List Value) (x : List (Vector (BitVec 8) 32)) : HsRd Φ cs x → HsRd Ψ cs x := fun ⟨A, c, cs2, h1, h2, h3⟩ => ⟨A, c, cs2, h1, h2.mono hh, h3.mono (Ar8Rd.mono hh)⟩
theorem HsRd.len {Φ : Ctx} (cs : List Value) (x : List (Vector (BitVec 8) 32)) (h : HsRd Φ cs x) : cs.length = 1 := by obtain ⟨A, c, cs2, rfl, _⟩ := h; rfl
theorem HsRd.one {Φ : Ctx} (cs : List Value) (x : List (Vector (BitVec 8) 32)) (h : HsRd Φ cs x) : ∀ u ∈ cs, u.oneCell' = true := by
 obtain ⟨A, c, cs2, rfl, _⟩ := h
 intro u hu; simp at hu; subst hu; rfl
theorem HsRd.mk {Φ : Ctx} {A : Option Addr} {c : Nat} {cs2 : List Value} {x : List (Vector (BitVec 8) 32)} (h1 : View Φ A x.length c 32 cs2) (h2 : Reps (Ar8Rd Φ) cs2 x) : HsRd Φ [.slice A x.length c] x := ⟨A, c, cs2, rfl, h1, h2⟩
end Go.Fw
namespace Go.Fw
open Go
structure Sponge where
 kind : Int
 lanes : Vector (BitVec 64) 25
 part : Vector (BitVec 8) 136
 held : Int
 long : Int
def Sponge.C (s : Sponge) : List Value := [.int .i64 s.kind] ++ (u64s s.lanes.toList ++ (u8s s.part.toList ++ ([.int .i64 s.held] ++ ([.int .i64 s.long]))))
theorem Sponge.C_length (s : Sponge) : s.C.length = 164 := by simp [Sponge.C, Z101, Z100]
theorem Sponge.C_one (s : Sponge) : ∀ u ∈ s.C, u.oneCell' = true := by
 intro u hu
 simp only [Sponge.C, List.mem_append, List.mem_singleton] at hu
 rcases hu with rfl | hu | hu | rfl | rfl
 ·rfl
 ·exact Z115 _ u hu
 ·exact Z123 _ u hu
 ·rfl
 ·rfl
end Go.Fw
namespace Go.Fw
open Go
def mkd (n : Nat) (m : BitVec 8) (x : List (BitVec 8)) (i : Nat) : List (BitVec 8) := x ++ (List.replicate (i - x.length) m ++ List.replicate (x.length + n - i) 0#8)
theorem mkd_copy {n : Nat} {m : BitVec 8} {x : List (BitVec 8)} {k : Nat} (hk : k = x.length) : spl (List.replicate (x.length + n) (Value.int .u8 0)) 0 ((u8s x).take k) = u8s (mkd n m x x.length) := by
 subst hk
 have h1 : (u8s x).take x.length = u8s x := List.take_of_length_le (by rw [Z100]; omega)
 rw [h1, spl_front _ _ (by simp [u8s]), Z100]
 simp [mkd, u8s, U8]
end Go.Fw
namespace Go.Fw
open Go
def MkRd (m : List (BitVec 8)) (Φ : Ctx) (cs : List Value) (x : List (BitVec 8)) : Prop := ∃ A c, cs = [.slice A x.length c] ∧ View Φ A (x ++ m).length c 1 (u8s (x ++ m))
theorem MkRd.mono' {m : List (BitVec 8)} {Φ Ψ : Ctx} (hh : ∀ w, Ψ w → Φ w) (cs : List Value) (x : List (BitVec 8)) : MkRd m Φ cs x → MkRd m Ψ cs x := fun ⟨A, c, h1, h2⟩ => ⟨A, c, h1, h2.mono hh⟩
theorem MkRd.len' {m : List (BitVec 8)} {Φ : Ctx} (cs : List Value) (x : List (BitVec 8)) (h : MkRd m Φ cs x) : cs.length = 1 := by obtain ⟨A, c, rfl, _⟩ := h; rfl
theorem MkRd.bs' {m : List (BitVec 8)} {Φ : Ctx} (cs : List Value) (x : List (BitVec 8)) (h : MkRd m Φ cs x) : BsRd Φ cs x := by
 obtain ⟨A, c, h1, h2⟩ := h
 exact ⟨A, c, h1, MRoom.view h2⟩
abbrev MkRd02 : Ctx → List Value → List (BitVec 8) → Prop := MkRd (List.replicate 200 195#8)
theorem MkRd02.mono {Φ Ψ : Ctx} (hh : ∀ w, Ψ w → Φ w) (cs : List Value) (x : List (BitVec 8)) : MkRd02 Φ cs x → MkRd02 Ψ cs x := MkRd.mono' hh cs x
theorem MkRd02.len {Φ : Ctx} (cs : List Value) (x : List (BitVec 8)) (h : MkRd02 Φ cs x) : cs.length = 1 := MkRd.len' cs x h
abbrev MkRd03 : Ctx → List Value → List (BitVec 8) → Prop := MkRd (List.replicate 70 165#8)
theorem MkRd03.mono {Φ Ψ : Ctx} (hh : ∀ w, Ψ w → Φ w) (cs : List Value) (x : List (BitVec 8)) : MkRd03 Φ cs x → MkRd03 Ψ cs x := MkRd.mono' hh cs x
theorem MkRd03.len {Φ : Ctx} (cs : List Value) (x : List (BitVec 8)) (h : MkRd03 Φ cs x) : cs.length = 1 := MkRd.len' cs x h
def MRooms (m : List (BitVec 8)) (k : List (List (BitVec 8))) (Φ : Ctx) (A : Option Addr) (c : Nat) (x : List (List (BitVec 8))) : Prop :=
 ∃ cs mk : List Value, View Φ A (x ++ k).length c 1 (cs ++ mk) ∧ Reps (MkRd m Φ) cs x ∧ Reps (BsRd Φ) (cs ++ mk) (x ++ k)
theorem MRooms.mono {m : List (BitVec 8)} {k : List (List (BitVec 8))} {Φ Ψ : Ctx} {A : Option Addr} {c : Nat} {x : List (List (BitVec 8))} (h : MRooms m k Φ A c x) (hh : ∀ w, Ψ w → Φ w) : MRooms m k Ψ A c x := by
 obtain ⟨cs, mk, v, r, rb⟩ := h
 exact ⟨cs, mk, v.mono hh, r.mono (MkRd.mono' hh), rb.mono (BsRd.mono hh)⟩
structure Lt where
 b : Nat
 t : List (BitVec 8)
 c : Nat
 r : List Value
def Lt.ent (te : TypeId) (m : List (BitVec 8)) (x : Lt) : Ent := (some x.b, blk (u8s x.t ++ (u8s m ++ x.r)) te)
def Lt.cell (x : Lt) : Value := .slice (some ⟨x.b, 0, none⟩) x.t.length x.c
structure Lt.Ok (m : List (BitVec 8)) (x : Lt) : Prop where
 own : OwnS (some x.b) x.t.length x.c 1 (u8s x.t) (u8s m ++ x.r)
 mx : x.t.length + m.length ≤ 140737488355328
theorem Reps.bs {m : List (BitVec 8)} {Φ : Ctx} {cs : List Value} {xs : List (List (BitVec 8))} (h : Reps (MkRd m Φ) cs xs) : Reps (BsRd Φ) cs xs := h.mono MkRd.bs'
end Go.Fw
namespace Go.Fw
open Go Go.RowKit
section
variable {P : Program} {n : Nat} {Q : Exit → Act → World → Prop} {w0 : World} {L : Z118} {M E R : List Ent}
variable {ops : Array Oper} {hard : List Nat} {f : Nat} {done : Array Bool} {op : Op} {ty : TypeId} {pos : String} {aft : Array Edge} {g : Option (Nat × Bool)} {d : Nat} {v : Value}
theorem NV.boxA {x : Operand} {e : TypeId} {vs : List Value} (hx : ev L x = some (.agg vs.toArray)) : NV P w0 L M (.box e x) (fun b => ptr (some b) 0) vs e := fun ρ w hρ m o ho => by
 simp [execOp, ho, hρ x _ hx, Instr.box, newVar, newRow, ptr, blk, Value.cells]
end
end Go.Fw
namespace Go.Fw
open Go
section
variable {P : Program} [Types P] {w0 : World} {L : Z118} {M : List Ent} {x y z : Operand} {t t' e : TypeId} {v : Value}
theorem RV.indexVs {l vs : List Value} {idx : Int} {k : IntKind} {n s : Nat} {u : TypeDesc} (j : Nat) (hx : ev L x = some (.agg l.toArray)) (hy : ev L y = some (.int k idx)) (hj : idx = (j : Int)) (ht : tyU P t = some (.array n e)) (he : tyU P e = some u) (hg : TypeDesc.agg u = true) (hs : tyS P e = some s) (h1 : idx < n) (hv : (l.drop (j * s)).take s = vs) :
    RV P w0 L M (.index t x y) (.agg vs.toArray) := fun ρ w hρ m o ho => by
 subst hj
 subst hv
 have h0 : (0 : Int) ≤ (j : Int) ∧ (j : Int) < (n : Int) := by omega
 simp [execOp, ho, hρ x _ hx, hρ y _ hy, Instr.index, asIntOf, Z125 ht, Z134 hs, h0, part, isAgg_run he, hg]
 intro hh; omega
theorem RV.buildAs {i : TI} {l cs : List Value} {k s : Nat} {ps : List (Nat × Operand)} {vss : List (List Value)} (hi : ty P t = some i) (hu : i.u = .array k e) (hs : tyS P e = some s) (hl : i.z.cells = l.toArray) (hp : evA L 0 ps = some vss) (hv : ∀ x ∈ vss, x.length = s) (hlen : l.length = vss.length * s) (hcs : vss.flatten = cs) :
    RV P w0 L M (.build t ps.toArray) (.agg cs.toArray) := fun ρ w hρ m o ho => by
 subst hcs
 obtain ⟨h0, ti, h1, h2, h3, h4⟩ := ty_ok hi
 rw [hu] at h0
 have hsz := Z134 (P := P) hs w
 have hf := fill_all (s := s) vss 0 l [] hv (by simp; omega)
 rw [Nat.zero_mul, List.take_zero, List.nil_append, ← evA_spec hρ ps 0 vss hp] at hf
 simp [execOp, ho, Instr.build, zeroValue, typeInfo, h1, h4, run_underlying h0, hsz, hl, hf]
end
def doneTo (i m : Nat) : List Bool := List.replicate i true ++ List.replicate (m - i) false
theorem doneTo_next {i m : Nat} (h : i < m) : (doneTo i m).toArray.setIfInBounds i true = (doneTo (i + 1) m).toArray := by
 rw [List.setIfInBounds_toArray]
 congr 1
 unfold doneTo
 rw [List.set_append_right _ _ (by simp), List.length_replicate, Nat.sub_self, show m - i = (m - (i + 1)) + 1 by omega, List.replicate_succ, List.set_cons_zero, show List.replicate (i + 1) true = List.replicate i true ++ [true] from List.replicate_succ', List.append_assoc]
 rfl
section
variable {P : Program} {n : Nat} {Q : Exit → Act → World → Prop} {w0 : World} {L : Z118} {M R : List Ent}
variable {ops : Array Oper} {hard : List Nat} {f : Nat} {done : Array Bool} {op : Op} {ty : TypeId} {pos : String} {aft : Array Edge} {g : Option (Nat × Bool)} {d : Nat} {v : Value}
theorem XW.norm {done' : Array Bool} (e : done = done') (k : XW P n ops Q w0 R hard f done' L M) : XW P n ops Q w0 R hard f done L M := by subst e; exact k
theorem Z112 (i : Nat) {m : Nat} (hx : ∀ i, i < m → XR ops (doneTo i m).toArray i = true) (hi : i < m) (ho : ops[i]? = some ⟨some d, op, ty, pos, aft, g⟩) (hw : Wt ops L g = true) (hop : RV P w0 L R op v) (hd : Nat.blt d n = true) (k : XW P n ops Q w0 R hard f (doneTo (i + 1) m).toArray ((d, v) :: L) M) : XW P n ops Q w0 R hard (f + 1) (doneTo i m).toArray L M :=
 Z10 i ho (hx i hi) hw hop hd (XW.norm (doneTo_next hi) k)
end
def regOps (k : Nat) : Code → Option (List Oper)
 | .region id l _ => if Nat.beq id k then some l.toList else none
 | .seq a b => match regOps k a with
  | some l => some l
  | none => regOps k b
 | .cond _ a b => match regOps k a with
  | some l => some l
  | none => regOps k b
 | .block _ b => regOps k b
 | .loop b => regOps k b
 | .scope b => regOps k b
 | _ => none
def fnOps (f : Func) (k : Nat) : List Oper := match f.body with
 | some c => (regOps k c).getD []
 | none => []
end Go.Fw
namespace Go.Fw
open Go
section
variable {P : Program} [Types P] {w0 : World} {L : Z118} {M R : List Ent} {x y : Operand} {t e : TypeId} {n : Nat} {Q : Exit → Act → World → Prop}
theorem NV.make {kl kc : IntKind} {i : TI} {z : Value} (l c : Nat) {il ic : Int} (hx : ev L x = some (.int kl il)) (hl : il = (l : Int)) (hy : ev L y = some (.int kc ic)) (hc : ic = (c : Int)) (ht : tyU P t = some (.slice e)) (hi : ty P e = some i) (hs : i.sz = 1) (hz : i.z.cells = #[z])
    (hlc : l ≤ c) (hb : i.bytes * c ≤ 281474976710656) (h63 : c ≤ 9223372036854775807) : NV P w0 L M (.makeSlice t x y) (fun b => sl (some b) 0 l c) (List.replicate c z) e := fun ρ w hρ m o ho => by
    subst hl hc
    obtain ⟨_, ti, h1, h2, h3, h4⟩ := ty_ok hi
    have hm := run_make (P := P) w t e ti i.z (tyU_ok ht) h1 h4 kl kc (l : Int) (c : Int) (by omega) (by omega) (by rw [h3]; have : ((i.bytes * c : Nat) : Int) = (i.bytes : Int) * (c : Int) := Int.natCast_mul _ _; omega) (by omega)
    simp only [Int.toNat_natCast, h2, hs, Nat.mul_one, hz] at hm
    have e1 : madeCells #[z] c = (List.replicate c z).toArray := by
     apply Array.ext'
     rw [toList_madeCells_one]
    rw [e1] at hm
    simp [execOp, ho, hρ x _ hx, hρ y _ hy, hm, sl, blk]
theorem AV.copyS {ob : Option Nat} {off len cap m c s : Nat} {l vs : List Value} {te : TypeId} {B : Option Addr} {t2 : TypeId} (hx : ev L x = some (sl ob off len cap)) (hy : ev L y = some (.slice B m c)) (ht : tyU P t = some (.slice e)) (hs : tyS P e = some s)
    (hn : ob = none → len = 0) (hl : off + len * s ≤ l.length) (hR : Mem.Says w0 ((ob, blk l te) :: M) (fun w => Rd w B vs)) (hvl : vs.length = m * s) (hv1 : ∀ u ∈ vs, u.oneCell' = true) (hB : B = none → m = 0) :
    AV P w0 L ((ob, blk l te) :: M) (.call ⟨.builtin .copy, #[x, y], #[t, t2]⟩) (fun _ : Unit => True) (fun _ => .int .i64 ((min m len : Nat) : Int)) (fun _ => (ob, blk (spl l off (vs.take (min m len * s))) te) :: M) := fun ρ w hρ mm o ho => by
 have hrd := hR w mm
 have hfc : (Builtin.firstCells s (min m len) (.slice B m c)).run P w = .ok (vs.take (min m len * s)).toArray w := by
  cases B with
  | none =>
   have h0 := hB rfl
   subst h0
   have : vs = [] := List.length_eq_zero_iff.1 (by rw [hvl, Nat.zero_mul])
   subst this
   simp [Builtin.firstCells]
  | some a => exact run_firstCells_some (P := P) w s (min m len) a m c _ (by rw [List.length_take, hvl]; exact (Nat.min_eq_left (Nat.mul_le_mul_right s (Nat.min_le_left m len)))) (fun j u hj => hrd.2 j u (by
      rw [List.getElem?_take] at hj
      split at hj
      ·exact hj
      ·cases hj))
 have hlen : (Builtin.lenOf (.slice B m c)).run P w = .ok m w := rfl
 have hnm : Nat.min m len = min m len := rfl
 cases ob with
 | none =>
  have h0 := hn rfl
  subst h0
  refine ⟨(), w, trivial, ?_, mm.tail.nil_ent _⟩
  have hfc0 : (Builtin.firstCells s 0 (.slice B m c)).run P w = .ok #[] w := by simpa using hfc
  simp [execOp, ho, resolve, hρ x _ hx, hρ y _ hy, invoke, builtin, Builtin.copy_, Z125 ht, Z134 hs, sl, hlen, goInt, hfc0]
 | some b =>
  have hm := mm.ents _ (List.mem_cons_self ..) b rfl
  have hroom : off + 0 + (vs.take (min m len * s)).length ≤ l.toArray.size := by
   have h1 : min m len * s ≤ len * s := Nat.mul_le_mul_right s (Nat.min_le_right m len)
   have h2 : (vs.take (min m len * s)).length ≤ min m len * s := by rw [List.length_take]; exact Nat.min_le_left _ _
   rw [List.size_toArray]; omega
  have hst := run_storeCells_at (P := P) b off te (vs.take (min m len * s)) 0 l.toArray w hm.2 hroom (fun v hv => hv1 v (List.mem_of_mem_take hv))
  simp only [Nat.add_zero] at hst
  refine ⟨(), _, trivial, ?_, mm.turned (w' := w.setRow b (l.toArray.toList.take off ++ vs.take (min m len * s) ++ l.toArray.toList.drop (off + (vs.take (min m len * s)).length)).toArray) rfl rfl rfl (by simp [World.setRow]) ?_ ?_⟩
  ·have hst' := hst
   simp only [execOp, ho, resolve, Array.map, invoke, builtin] at hst' ⊢
   simp [hρ x _ hx, hρ y _ hy, Builtin.copy_, Z125 ht, Z134 hs, sl, hlen, hfc, hnm, goInt, hst]
  ·intro b' hb'
   cases hb'
   rw [setRow_heap w b l.toArray _ te (0, 0) hm.2]
   simp [blk, spl]
  ·intro kk hk
   exact setRow_other _ _ _ _ (fun e => hk (by rw [e]))
variable {ops : Array Oper} {hard : List Nat} {f : Nat} {done : Array Bool} {ty : TypeId} {pos : String} {aft : Array Edge} {d : Nat}
theorem XW.copyS (i : Nat) {ob : Option Nat} {off len cap m c s : Nat} {l vs : List Value} {te : TypeId} {B : Option Addr} {t2 : TypeId} (ho : ops[i]? = some ⟨some d, .call ⟨.builtin .copy, #[x, y], #[t, t2]⟩, ty, pos, aft, none⟩) (hr : (Region.ready .any ops done == [i] && hard.contains i) = true)
    (hx : ev L x = some (sl ob off len cap)) (hy : ev L y = some (.slice B m c)) (ht : tyU P t = some (.slice e)) (hs : tyS P e = some s)
    (hn : ob = none → len = 0) (hl : off + len * s ≤ l.length) (hR : Mem.Says w0 ((ob, blk l te) :: M) (fun w => Rd w B vs)) (hvl : vs.length = m * s) (hv1 : ∀ u ∈ vs, u.oneCell' = true) (hB : B = none → m = 0) (hMR : ∀ w, Mem w0 w M → Mem w0 w R) (hd : Nat.blt d n = true)
    (k : XW P n ops Q w0 R hard f (done.setIfInBounds i true) ((d, .int .i64 ((min m len : Nat) : Int)) :: L) ((ob, blk (spl l off (vs.take (min m len * s))) te) :: M)) : XW P n ops Q w0 R hard (f + 1) done L ((ob, blk l te) :: M) :=
 XW.av i ho hr (AV.copyS hx hy ht hs hn hl hR hvl hv1 hB) (fun _ _ w m => hMR w m.tail) hd (fun _ _ => k)
end
end Go.Fw
namespace Go.Fw
open Go
section
variable {w0 w : World} {A N : List Ent} {e0 e1 e2 e3 : Ent}
theorem Mem.sk0 (m : Mem w0 w (A ++ (e1 :: N))) : Mem w0 w (e1 :: (A ++ N)) := m.perm List.perm_middle
theorem Mem.sk1 (m : Mem w0 w (e0 :: (A ++ (e1 :: N)))) : Mem w0 w (e0 :: e1 :: (A ++ N)) := m.perm (List.Perm.cons _ List.perm_middle)
theorem Mem.sk2 (m : Mem w0 w (e0 :: e1 :: (A ++ (e2 :: N)))) : Mem w0 w (e0 :: e1 :: e2 :: (A ++ N)) := m.perm (List.Perm.cons _ (List.Perm.cons _ List.perm_middle))
theorem Mem.sk3 (m : Mem w0 w (e0 :: e1 :: e2 :: (A ++ (e3 :: N)))) : Mem w0 w (e0 :: e1 :: e2 :: e3 :: (A ++ N)) := m.perm (List.Perm.cons _ (List.Perm.cons _ (List.Perm.cons _ List.perm_middle)))
end
section
variable {P : Program} {n : Nat} {Q : Exit → Act → World → Prop} {w0 : World} {L : Z118} {M E N : List Ent} {f : FuncId} {args : List Value} {R R' : Value → List Ent → Prop}
end
end Go.Fw
namespace Go.Fw
def u256_From (a0 : BitVec 64) : Option ((Vector (BitVec 64) 4)) := (some ((Vector.replicate 4 0#64).setIfInBounds 0 a0))
def waybillref01_From (a0 : BitVec 64) : Option ((Vector (BitVec 64) 4)) := (some (((((Vector.replicate 4 0#64).setIfInBounds 0 a0).setIfInBounds 1 (0#64)).setIfInBounds 2 (0#64)).setIfInBounds 3 (0#64)))
def rlp_clone (a0 : List (BitVec 8)) : Option ((List (BitVec 8))) := (some a0)
def waybillref07_bytes (a0 : List (BitVec 8)) : Option ((List (BitVec 8))) := (some a0)
def rlp_Text (a0 : List (BitVec 8)) : Option ((It)) := ((rlp_clone a0).bind fun x4 => (some (It.mk false x4 ([] : List (It)))))
def rlp_odd (a0 : It) : Option ((Bool)) := (((if a0.list = true then (if 0 < a0.data.length then (some (true)) else (if a0.list = true then (some (false)) else (some ((decide (0 < a0.items.length)))))) else (if a0.list = true then (some (false)) else (some ((decide (0 < a0.items.length)))))) : Option ((Bool))).bind fun p16 => (some (p16)))
def waybillref07_odd (a0 : It) : Option ((Bool)) := (if a0.list = true then (some (decide (0 < a0.data.length))) else (some (decide (0 < a0.items.length))))
def rlp_kind (a0 : It) (a1 : Bool) : Option ((Nat)) := ((rlp_odd a0).bind fun x15 => (if x15 = true then (some 78) else (if (a0.list) = (a1) then (some 0) else (some 75))))
def waybillref07_wanted (a0 : It) (a1 : Bool) : Option ((Nat)) := ((waybillref07_odd a0).bind fun x15 => (if x15 = true then (some 78) else (if (a0.list) = (a1) then (some 0) else (some 75))))
def math_bits_Len64 (a0 : BitVec 64) : Option ((Nat)) := (((if 4294967296 ≤ a0.toNat then (some (((a0 >>> 32), 32))) else (some ((a0, 0)))) : Option ((BitVec 64) × (Nat))).bind fun (w3, n4) => (((if 65536 ≤ w3.toNat then (if (n4 + 16) ≤ 9223372036854775807 then (some (((w3 >>> 16), (n4 + 16)))) else none) else (some ((w3, n4)))) : Option ((BitVec 64) × (Nat))).bind fun (w13, n14) => (((if 256 ≤ w13.toNat then (if (n14 + 8) ≤ 9223372036854775807 then (some (((w13 >>> 8), (n14 + 8)))) else none) else (some ((w13, n14)))) : Option ((BitVec 64) × (Nat))).bind fun (w23, n24) => (if (n24 + (BitVec.ofNat 8 (lenB (w23.setWidth 8))).toNat) ≤ 9223372036854775807 then (some (n24 + (BitVec.ofNat 8 (lenB (w23.setWidth 8))).toNat)) else none))))
def u256_Len.l1 (a0 : Vector (BitVec 64) 4) : Nat → (Int) → Option (Lp ((Int)) (Unit))
 | 0, _ => none
 | k11 + 1, z9 => (if (0 : Int) ≤ z9 then (if (z9).toNat < 4 then (a0[(z9).toNat]?).bind fun x20 => (if x20 = 0#64 then (if -9223372036854775808 ≤ (z9 - (1 : Int)) ∧ (z9 - (1 : Int)) ≤ 9223372036854775807 then (u256_Len.l1 a0 k11 (z9 - (1 : Int))) else none) else (if -9223372036854775808 ≤ ((64 : Int) * z9) ∧ ((64 : Int) * z9) ≤ 9223372036854775807 then (a0[(z9).toNat]?).bind fun x25 => ((math_bits_Len64 x25).bind fun x28 => (if -9223372036854775808 ≤ (((64 : Int) * z9) + ((x28 : Nat) : Int)) ∧ (((64 : Int) * z9) + ((x28 : Nat) : Int)) ≤ 9223372036854775807 then (some (Lp.ret (some (((64 : Int) * z9) + ((x28 : Nat) : Int))))) else none)) else none)) else none) else (some (Lp.go ())))
def u256_Len (a0 : Vector (BitVec 64) 4) : Option ((Int)) := (((u256_Len.l1 a0 5 (3 : Int)) : Option (Lp ((Int)) (Unit))).bind fun | .ret o => o | .go () => (some (0 : Int)))
def u256_Sub.l1 (a0 : Vector (BitVec 64) 4) (a1 : Vector (BitVec 64) 4) : Nat → (BitVec 64) → (Nat) → (Vector (BitVec 64) 4) → Option ((BitVec 64) × (Vector (BitVec 64) 4))
 | 0, _, _, _ => none
 | k18 + 1, w14, n15, w17 => (if n15 < 4 then (a0[n15]?).bind fun x26 => (a1[n15]?).bind fun x28 => ((sub64c x26 x28 w14).bind fun (w30, w31) => (u256_Sub.l1 a0 a1 k18 w31 (n15 + 1) (w17.setIfInBounds n15 w30))) else (some ((w14, w17))))
def u256_Sub (a0 : Vector (BitVec 64) 4) (a1 : Vector (BitVec 64) 4) : Option ((Vector (BitVec 64) 4) × (BitVec 64)) := (((u256_Sub.l1 a0 a1 (4 - 0 + 2) (0#64) 0 (Vector.replicate 4 0#64)) : Option ((BitVec 64) × (Vector (BitVec 64) 4))).bind fun (w7, w8) => (some (w8, w7)))
def u256_Cmp (a0 : Vector (BitVec 64) 4) (a1 : Vector (BitVec 64) 4) : Option ((Int)) := (if a0 = a1 then (some (0 : Int)) else ((u256_Sub a0 a1).bind fun (x5, x6) => (if x6 = 1#64 then (some (-1 : Int)) else (some (1 : Int)))))
def waybillref01_Cmp.l1 (a0 : Vector (BitVec 64) 4) (a1 : Vector (BitVec 64) 4) : Nat → (Int) → Option (Lp ((Int)) (Unit))
 | 0, _ => none
 | k12 + 1, z10 => (if (0 : Int) ≤ z10 then (if (z10).toNat < 4 then (a0[(z10).toNat]?).bind fun x21 => (a1[(z10).toNat]?).bind fun x23 => (if x21.toNat < x23.toNat then (some (Lp.ret (some (-1 : Int)))) else (a0[(z10).toNat]?).bind fun x26 => (a1[(z10).toNat]?).bind fun x28 => (if x28.toNat < x26.toNat then (some (Lp.ret (some (1 : Int)))) else (if -9223372036854775808 ≤ (z10 - (1 : Int)) ∧ (z10 - (1 : Int)) ≤ 9223372036854775807 then (waybillref01_Cmp.l1 a0 a1 k12 (z10 - (1 : Int))) else none))) else none) else (some (Lp.go ())))
def waybillref01_Cmp (a0 : Vector (BitVec 64) 4) (a1 : Vector (BitVec 64) 4) : Option ((Int)) := (((waybillref01_Cmp.l1 a0 a1 5 (3 : Int)) : Option (Lp ((Int)) (Unit))).bind fun | .ret o => o | .go () => (some (0 : Int)))
def u256_Put.l1 (a0 : Vector (BitVec 64) 4) : Nat → (Nat) → (Vector (BitVec 8) 32) → Option ((Vector (BitVec 8) 32))
 | 0, _, _ => none
 | k15 + 1, n12, w14 => (if n12 < 32 then (if n12 ≤ 31 then (if (n12 / 8) < 4 then (a0[(n12 / 8)]?).bind fun x25 => (if (31 - n12) < 32 then (u256_Put.l1 a0 k15 (n12 + 1) (w14.setIfInBounds (31 - n12) ((x25 >>> (8 * (n12 % 8))).setWidth 8))) else none) else none) else none) else (some (w14)))
def u256_Put (a0 : Vector (BitVec 64) 4) : Option ((Vector (BitVec 8) 32)) := (((u256_Put.l1 a0 (32 - 0 + 2) 0 (Vector.replicate 32 0#8)) : Option ((Vector (BitVec 8) 32))).bind fun w6 => (some w6))
def u256_Bytes (a0 : Vector (BitVec 64) 4) : Option ((List (BitVec 8))) := ((u256_Put a0).bind fun x3 => ((u256_Len a0).bind fun x8 => (if -9223372036854775808 ≤ (x8 + (7 : Int)) ∧ (x8 + (7 : Int)) ≤ 9223372036854775807 then (if 0 ≤ (x8 + (7 : Int)) then (if 0 ≤ ((32 : Int) - ((((x8 + (7 : Int))).toNat / 8 : Nat) : Int)) then (if (((32 : Int) - ((((x8 + (7 : Int))).toNat / 8 : Nat) : Int))).toNat ≤ 32 then (some (x3.toList.drop ((((32 : Int) - ((((x8 + (7 : Int))).toNat / 8 : Nat) : Int))).toNat))) else none) else none) else none) else none)))
end Go.Fw
namespace Go.Fw
def u256_Get.l1 (a0 : List (BitVec 8)) : Nat → (Nat) → (Vector (BitVec 64) 4) → Option ((Vector (BitVec 64) 4))
 | 0, _, _ => none
 | k16 + 1, n13, w15 => (if n13 < a0.length then (if 1 ≤ a0.length then (if n13 ≤ (a0.length - 1) then (if (((a0.length - 1) - n13) / 8) < 4 then (w15[(((a0.length - 1) - n13) / 8)]?).bind fun x27 => (a0[n13]?).bind fun x29 => (u256_Get.l1 a0 k16 (n13 + 1) (w15.setIfInBounds (((a0.length - 1) - n13) / 8) (x27 ||| ((x29.setWidth 64) <<< (8 * (((a0.length - 1) - n13) % 8)))))) else none) else none) else none) else (some (w15)))
def u256_Get (a0 : List (BitVec 8)) : Option ((Vector (BitVec 64) 4) × (Nat)) := (if 32 < a0.length then (some ((Vector.replicate 4 0#64), 11)) else (((u256_Get.l1 a0 (a0.length - 0 + 2) 0 (Vector.replicate 4 0#64)) : Option ((Vector (BitVec 64) 4))).bind fun w7 => (some (w7, 0))))
def waybillref01_Get.l1 (a0 : List (BitVec 8)) : Nat → (Nat) → (Vector (BitVec 64) 4) → Option ((Vector (BitVec 64) 4))
 | 0, _, _ => none
 | k16 + 1, n13, w15 => (if n13 < a0.length then (if 1 ≤ a0.length then (if n13 ≤ (a0.length - 1) then (if (((a0.length - 1) - n13) / 8) < 4 then (w15[(((a0.length - 1) - n13) / 8)]?).bind fun x27 => (a0[n13]?).bind fun x29 => (waybillref01_Get.l1 a0 k16 (n13 + 1) (w15.setIfInBounds (((a0.length - 1) - n13) / 8) (x27 + ((x29.setWidth 64) <<< (BitVec.ofNat 64 (8 * (((a0.length - 1) - n13) % 8))).toNat)))) else none) else none) else none) else (some (w15)))
def waybillref01_Get (a0 : List (BitVec 8)) : Option ((Vector (BitVec 64) 4) × (Nat)) := (if 32 < a0.length then (some ((Vector.replicate 4 0#64), 11)) else (((waybillref01_Get.l1 a0 (a0.length - 0 + 2) 0 (Vector.replicate 4 0#64)) : Option ((Vector (BitVec 64) 4))).bind fun w7 => (some (w7, 0))))
def u256_Strict (a0 : List (BitVec 8)) : Option ((Vector (BitVec 64) 4) × (Nat)) := ((u256_Get a0).bind fun (x4, x5) => (((if x5 = 0 then (if 0 < a0.length then (a0[0]?).bind fun x21 => (some ((decide (x21 = 0#8)))) else (some (false))) else (some (false))) : Option ((Bool))).bind fun p12 => (if p12 = true then (some ((Vector.replicate 4 0#64), 13)) else (some (x4, x5)))))
def waybillref07_Same.l1 (a0 : It) (a1 : It) (rc : (It) → (It) → Option ((Bool))) : Nat → (Nat) → Option (Lp ((Bool)) (Unit))
 | 0, _ => none
 | k52 + 1, n50 => (if n50 < a0.items.length then (a0.items[n50]?).bind fun x60 => (a1.items[n50]?).bind fun x78 => ((rc x60 x78).bind fun x97 => (if x97 = true then (waybillref07_Same.l1 a0 a1 rc k52 (n50 + 1)) else (some (Lp.ret (some false))))) else (some (Lp.go ())))
def waybillref07_Same.l2 (a0 : It) (a1 : It) : Nat → (Nat) → Option (Lp ((Bool)) (Unit))
 | 0, _ => none
 | k103 + 1, n101 => (if n101 < a0.data.length then (a0.data[n101]?).bind fun x111 => (a1.data[n101]?).bind fun x114 => (if x111 = x114 then (waybillref07_Same.l2 a0 a1 k103 (n101 + 1)) else (some (Lp.ret (some false)))) else (some (Lp.go ())))
def waybillref07_Same.r : Nat → (It) → (It) → Option ((Bool))
 | 0, _, _ => none
 | kf + 1, a0, a1 => (((if (a0.list) = (a1.list) then (if a0.data.length = a1.data.length then (some ((!decide (a0.items.length = a1.items.length)))) else (some (true))) else (some (true))) : Option ((Bool))).bind fun p29 => (if p29 = true then (some false) else (((waybillref07_Same.l2 a0 a1 (a0.data.length - 0 + 2) 0) : Option (Lp ((Bool)) (Unit))).bind fun | .ret o => o | .go () => (((waybillref07_Same.l1 a0 a1 (waybillref07_Same.r kf) (a0.items.length - 0 + 2) 0) : Option (Lp ((Bool)) (Unit))).bind fun | .ret o => o | .go () => (some true)))))
def waybillref07_Same (a0 : It) (a1 : It) : Option ((Bool)) := waybillref07_Same.r (It.sz a0 + 1) a0 a1
def rlp_twin.l1 (a0 : List (It)) (rc : (List (It)) → Option ((List (It)))) : Nat → (List (It)) → (Nat) → Option ((List (It)))
 | 0, _, _ => none
 | k30 + 1, l21, n28 => (if n28 < a0.length then (a0[n28]?).bind fun x39 => ((rlp_clone x39.data).bind fun x59 => ((rc x39.items).bind fun x71 => (if (l21.length + ([(It.mk (x39.list) x59 x71)] : List (It)).length) * 56 ≤ 140737488355328 then (rlp_twin.l1 a0 rc k30 (l21 ++ ([(It.mk (x39.list) x59 x71)] : List (It))) (n28 + 1)) else none))) else (some (l21)))
def rlp_twin.r : Nat → (List (It)) → Option ((List (It)))
 | 0, _ => none
 | kf + 1, a0 => (((rlp_twin.l1 a0 (rlp_twin.r kf) (a0.length - 0 + 2) ([] : List (It)) 0) : Option ((List (It)))).bind fun l6 => (some l6))
def rlp_twin (a0 : List (It)) : Option ((List (It))) := rlp_twin.r (Its.sz a0 + 1) a0
def waybillref07_Copy.l1 (a0 : List (It)) (rc : (List (It)) → Option ((List (It)))) : Nat → (List (It)) → (Nat) → Option ((List (It)))
 | 0, _, _ => none
 | k30 + 1, l21, n28 => (if n28 < a0.length then (a0[n28]?).bind fun x39 => ((waybillref07_bytes x39.data).bind fun x59 => ((rc x39.items).bind fun x71 => (if (l21.length + ([(It.mk (x39.list) x59 x71)] : List (It)).length) * 56 ≤ 140737488355328 then (waybillref07_Copy.l1 a0 rc k30 (l21 ++ ([(It.mk (x39.list) x59 x71)] : List (It))) (n28 + 1)) else none))) else (some (l21)))
def waybillref07_Copy.r : Nat → (List (It)) → Option ((List (It)))
 | 0, _ => none
 | kf + 1, a0 => (((waybillref07_Copy.l1 a0 (waybillref07_Copy.r kf) (a0.length - 0 + 2) ([] : List (It)) 0) : Option ((List (It)))).bind fun l6 => (some l6))
def waybillref07_Copy (a0 : List (It)) : Option ((List (It))) := waybillref07_Copy.r (Its.sz a0 + 1) a0
end Go.Fw
namespace Go.Fw
def rlp_Number (a0 : Vector (BitVec 64) 4) : Option ((It)) := ((u256_Bytes a0).bind fun x4 => (some (It.mk false x4 ([] : List (It)))))
def rlp_Small (a0 : BitVec 64) : Option ((It)) := ((u256_From a0).bind fun x3 => ((rlp_Number x3).bind fun x7 => (some x7)))
def rlp_GetText (a0 : It) : Option ((List (BitVec 8)) × (Nat)) := ((rlp_kind a0 false).bind fun x15 => (if x15 = 0 then ((rlp_clone a0.data).bind fun x21 => (some (x21, 0))) else (some (([] : List (BitVec 8)), x15))))
def waybillref07_GetText (a0 : It) : Option ((List (BitVec 8)) × (Nat)) := ((waybillref07_wanted a0 false).bind fun x15 => (if x15 = 0 then ((waybillref07_bytes a0.data).bind fun x21 => (some (x21, 0))) else (some (([] : List (BitVec 8)), x15))))
def rlp_number (a0 : It) (a1 : Int) : Option ((Vector (BitVec 64) 4) × (Nat)) := ((rlp_kind a0 false).bind fun x16 => (if x16 = 0 then (if a1 < ((a0.data.length : Nat) : Int) then (some ((Vector.replicate 4 0#64), 77)) else ((u256_Strict a0.data).bind fun (x23, x24) => (if x24 = 0 then (some (x23, 0)) else (some ((Vector.replicate 4 0#64), 76))))) else (some ((Vector.replicate 4 0#64), x16))))
def waybillref07_narrow (a0 : It) (a1 : Int) : Option ((Vector (BitVec 64) 4) × (Nat)) := ((waybillref07_wanted a0 false).bind fun x16 => (if x16 = 0 then (if a1 < ((a0.data.length : Nat) : Int) then (some ((Vector.replicate 4 0#64), 77)) else (((if 0 < a0.data.length then (a0.data[0]?).bind fun x39 => (some ((decide (x39 = 0#8)))) else (some (false))) : Option ((Bool))).bind fun p24 => (if p24 = true then (some ((Vector.replicate 4 0#64), 76)) else ((waybillref01_Get a0.data).bind fun (x32, x33) => (some (x32, 0)))))) else (some ((Vector.replicate 4 0#64), x16))))
def rlp_GetNumber (a0 : It) : Option ((Vector (BitVec 64) 4) × (Nat)) := ((rlp_number a0 (32 : Int)).bind fun (x16, x17) => (some (x16, x17)))
def waybillref07_GetNumber (a0 : It) : Option ((Vector (BitVec 64) 4) × (Nat)) := ((waybillref07_narrow a0 (32 : Int)).bind fun (x16, x17) => (some (x16, x17)))
def rlp_GetSmall (a0 : It) : Option ((BitVec 64) × (Nat)) := ((rlp_number a0 (8 : Int)).bind fun (x15, x16) => (some (x15[0], x16)))
def waybillref07_GetSmall (a0 : It) : Option ((BitVec 64) × (Nat)) := ((waybillref07_narrow a0 (8 : Int)).bind fun (x15, x16) => (some (x15[0], x16)))
def rlp_GetFixed (a0 : It) (a1 : Int) : Option ((List (BitVec 8)) × (Nat)) := (if a1 < (0 : Int) then (some (([] : List (BitVec 8)), 1)) else ((rlp_kind a0 false).bind fun x16 => (if x16 = 0 then (if ((a0.data.length : Nat) : Int) = a1 then ((rlp_clone a0.data).bind fun x23 => (some (x23, 0))) else (some (([] : List (BitVec 8)), 77))) else (some (([] : List (BitVec 8)), x16)))))
def waybillref07_GetFixed (a0 : It) (a1 : Int) : Option ((List (BitVec 8)) × (Nat)) := (if a1 < (0 : Int) then (some (([] : List (BitVec 8)), 1)) else ((waybillref07_wanted a0 false).bind fun x16 => (if x16 = 0 then (if ((a0.data.length : Nat) : Int) = a1 then ((waybillref07_bytes a0.data).bind fun x23 => (some (x23, 0))) else (some (([] : List (BitVec 8)), 77))) else (some (([] : List (BitVec 8)), x16)))))
def rlp_GetList (a0 : It) : Option ((List (It)) × (Nat)) := ((rlp_kind a0 true).bind fun x15 => (if x15 = 0 then ((rlp_twin a0.items).bind fun x21 => (some (x21, 0))) else (some (([] : List (It)), x15))))
def waybillref07_GetList (a0 : It) : Option ((List (It)) × (Nat)) := ((waybillref07_wanted a0 true).bind fun x15 => (if x15 = 0 then ((waybillref07_Copy a0.items).bind fun x21 => (some (x21, 0))) else (some (([] : List (It)), x15))))
end Go.Fw
namespace Go.Fw
def rlp_cut (a0 : List (BitVec 8)) : Option ((Bool) × (List (BitVec 8)) × (List (BitVec 8)) × (Nat)) := (if a0.length = 0 then (some (false, ([] : List (BitVec 8)), ([] : List (BitVec 8)), 70)) else (a0[0]?).bind fun x3 => (if x3.toNat < 128 then (if 1 ≤ a0.length then (some (false, (a0.take 1), (a0.drop 1), 0)) else none) else (((if 192 ≤ x3.toNat then (some ((x3 - 192#8).toNat)) else (some ((x3 - 128#8).toNat))) : Option ((Nat))).bind fun n15 => (if 1 ≤ a0.length then (((if 55 < n15 then (if (a0.drop 1).length < (n15 - 55) then (some (Lp.ret (some (false, ([] : List (BitVec 8)), ([] : List (BitVec 8)), 70)))) else (if (n15 - 55) ≤ (a0.drop 1).length then ((u256_Get ((a0.drop 1).take (n15 - 55))).bind fun (x65, x66) => ((((a0.drop 1)[0]?).bind fun x94 => (if x94 = 0#8 then (some (true)) else ((u256_From (55#64)).bind fun x99 => ((u256_Cmp x65 x99).bind fun x103 => (some ((decide (x103 ≤ (0 : Int)))))))) : Option ((Bool))).bind fun p73 => (if p73 = true then (some (Lp.ret (some (false, ([] : List (BitVec 8)), ([] : List (BitVec 8)), 72)))) else ((u256_From (BitVec.ofNat 64 (((a0.drop 1).drop (n15 - 55)).length))).bind fun x83 => ((u256_Cmp x65 x83).bind fun x87 => (if (0 : Int) < x87 then (some (Lp.ret (some (false, ([] : List (BitVec 8)), ([] : List (BitVec 8)), 70)))) else (if (x65[0]).toNat ≤ 9223372036854775807 then (some (Lp.go (((a0.drop 1).drop (n15 - 55)), (x65[0]).toNat))) else none))))))) else none)) else (some (Lp.go ((a0.drop 1), n15)))) : Option (Lp ((Bool) × (List (BitVec 8)) × (List (BitVec 8)) × (Nat)) ((List (BitVec 8)) × (Nat)))).bind fun | .ret o => o | .go (l27, n31) => (if l27.length < n31 then (some (false, ([] : List (BitVec 8)), ([] : List (BitVec 8)), 70)) else (((if 192 ≤ x3.toNat then (some (false)) else (if n31 = 1 then (l27[0]?).bind fun x56 => (some ((decide (x56.toNat < 128)))) else (some (false)))) : Option ((Bool))).bind fun p42 => (if p42 = true then (some (false, ([] : List (BitVec 8)), ([] : List (BitVec 8)), 71)) else (if n31 ≤ l27.length then (some ((decide (192 ≤ x3.toNat)), (l27.take n31), (l27.drop n31), 0)) else none))))) else none))))
def waybillref07_head (a0 : List (BitVec 8)) (a1 : Nat) (a2 : Nat) : Option ((Hd) × (Nat)) := (if a2 ≤ a1 then (some ((Hd.mk false 0 0), 70)) else (a0[a1]?).bind fun x5 => (if x5.toNat < 128 then (some ((Hd.mk false a1 (a1 + 1)), 0)) else (((if 55 < (x5.toNat % 64) then (if (((a2 : Nat) : Int) - (((a1 + 1) : Nat) : Int)) < (((x5.toNat % 64) - 55 : Nat) : Int) then (some (Lp.ret (some ((Hd.mk false 0 0), 70)))) else (if ((a1 + 1) + ((x5.toNat % 64) - 55)) ≤ 9223372036854775807 then (if (a1 + 1) ≤ ((a1 + 1) + ((x5.toNat % 64) - 55)) then (if ((a1 + 1) + ((x5.toNat % 64) - 55)) ≤ a0.length then ((waybillref01_Get ((a0.take ((a1 + 1) + ((x5.toNat % 64) - 55))).drop (a1 + 1))).bind fun (x54, x55) => (((a0[(a1 + 1)]?).bind fun x83 => (if x83 = 0#8 then (some (true)) else ((waybillref01_From (56#64)).bind fun x88 => ((waybillref01_Cmp x54 x88).bind fun x92 => (some ((decide (x92 < (0 : Int)))))))) : Option ((Bool))).bind fun p62 => (if p62 = true then (some (Lp.ret (some ((Hd.mk false 0 0), 72)))) else ((waybillref01_From (BitVec.ofInt 64 (((a2 : Nat) : Int) - ((((a1 + 1) + ((x5.toNat % 64) - 55)) : Nat) : Int)))).bind fun x71 => ((waybillref01_Cmp x54 x71).bind fun x75 => (if (0 : Int) < x75 then (some (Lp.ret (some ((Hd.mk false 0 0), 70)))) else (if (x54[0]).toNat ≤ 9223372036854775807 then (some (Lp.go ((x54[0]).toNat, (decide (192 ≤ x5.toNat)), ((a1 + 1) + ((x5.toNat % 64) - 55)), 0))) else none))))))) else none) else none) else none)) else (some (Lp.go ((x5.toNat % 64), (decide (192 ≤ x5.toNat)), (a1 + 1), 0)))) : Option (Lp ((Hd) × (Nat)) ((Nat) × (Bool) × (Nat) × (Nat)))).bind fun | .ret o => o | .go (n14, p16, n17, _) => (if (((a2 : Nat) : Int) - ((n17 : Nat) : Int)) < ((n14 : Nat) : Int) then (some ((Hd.mk false 0 0), 70)) else (if (n17 + n14) ≤ 9223372036854775807 then (((if p16 = true then (some (false)) else (if n14 = 1 then (a0[n17]?).bind fun x42 => (some ((decide (x42.toNat < 128)))) else (some (false)))) : Option ((Bool))).bind fun p31 => (if p31 = true then (some ((Hd.mk false 0 0), 71)) else (some ((Hd.mk (p16) n17 (n17 + n14)), 0)))) else none)))))
def waybillref07_item.l1 (a0 : List (BitVec 8)) (a3 : Nat) (rc : (List (BitVec 8)) → (Nat) → (Nat) → (Nat) → Option ((It) × (Nat) × (Nat))) (x4 : Hd) : Nat → (Nat) → (Bool) → (List (BitVec 8)) → (List (It)) → Option (Lp ((It) × (Nat) × (Nat)) ((Bool) × (List (BitVec 8)) × (List (It))))
 | 0, _, _, _, _ => none
 | k68 + 1, n53, p55, l56, l61 => (if n53 < x4.to then ((rc a0 n53 x4.to (a3 + 1)).bind fun (x79, x80, x81) => (if x81 = 0 then (if (l61.length + ([x79] : List (It)).length) * 56 ≤ 140737488355328 then (waybillref07_item.l1 a0 a3 rc x4 k68 x80 (p55) l56 (l61 ++ ([x79] : List (It)))) else none) else (some (Lp.ret (some ((It.mk false ([] : List (BitVec 8)) ([] : List (It))), 0, x81)))))) else (some (Lp.go ((p55), l56, l61))))
def waybillref07_item.r : Nat → (List (BitVec 8)) → (Nat) → (Nat) → (Nat) → Option ((It) × (Nat) × (Nat))
 | 0, _, _, _, _ => none
 | kf + 1, a0, a1, a2, a3 => ((waybillref07_head a0 a1 a2).bind fun (x4, x5) => (if x5 = 0 then (if x4.list = true then (if 1024 ≤ a3 then (some ((It.mk false ([] : List (BitVec 8)) ([] : List (It))), 0, 74)) else (((waybillref07_item.l1 a0 a3 (waybillref07_item.r kf) x4 (x4.to - x4.fr + 2) x4.fr true ([] : List (BitVec 8)) ([] : List (It))) : Option (Lp ((It) × (Nat) × (Nat)) ((Bool) × (List (BitVec 8)) × (List (It))))).bind fun | .ret o => o | .go (p29, l30, l35) => (some ((It.mk (p29) l30 l35), x4.to, 0)))) else (if x4.fr ≤ x4.to then (if x4.to ≤ a0.length then ((waybillref07_bytes ((a0.take x4.to).drop x4.fr)).bind fun x125 => (some ((It.mk false x125 ([] : List (It))), x4.to, 0))) else none) else none)) else (some ((It.mk false ([] : List (BitVec 8)) ([] : List (It))), 0, x5))))
def waybillref07_item (a0 : List (BitVec 8)) (a1 : Nat) (a2 : Nat) (a3 : Nat) : Option ((It) × (Nat) × (Nat)) := waybillref07_item.r (1026 - a3) a0 a1 a2 a3
def waybillref07_Decode (a0 : List (BitVec 8)) : Option ((It) × (Nat)) := (if 16777216 < a0.length then (some ((It.mk false ([] : List (BitVec 8)) ([] : List (It))), 2)) else ((waybillref07_item a0 0 a0.length 0).bind fun (x7, x8, x9) => (if x9 = 0 then (if x8 < a0.length then (some ((It.mk false ([] : List (BitVec 8)) ([] : List (It))), 73)) else (some (x7, 0))) else (some ((It.mk false ([] : List (BitVec 8)) ([] : List (It))), x9)))))
def waybillref07_Beyond.l2 : Nat → (List (It)) → (Nat) → (List (It)) → (Nat) → Option (Lp (Lp ((Bool)) (Unit)) ((Nat) × (List (It))))
 | 0, _, _, _, _ => none
 | k88 + 1, l93, n99, l101, n108 => (if n108 < l93.length then (l93[n108]?).bind fun x118 => (if (n99 + x118.data.length) ≤ 9223372036854775807 then (l93[n108]?).bind fun x137 => (if ((n99 + x118.data.length) + x137.items.length) ≤ 9223372036854775807 then (if (((n99 + x118.data.length) + x137.items.length) + 1) ≤ 9223372036854775807 then (if 2147483647 < (((n99 + x118.data.length) + x137.items.length) + 1) then (some (Lp.ret (some (Lp.ret (some true))))) else (l93[n108]?).bind fun x158 => (if (l101.length + x158.items.length) * 56 ≤ 140737488355328 then (waybillref07_Beyond.l2 k88 l93 (((n99 + x118.data.length) + x137.items.length) + 1) (l101 ++ x158.items) (n108 + 1)) else none)) else none) else none) else none) else (some (Lp.go (n99, l101))))
def waybillref07_Beyond.l1 : Nat → (List (It)) → (Nat) → (Nat) → Option (Lp ((Bool)) (Unit))
 | 0, _, _, _ => none
 | k40 + 1, l29, n36, n38 => (if 0 < l29.length then (if 65536 < n38 then (some (Lp.ret (some true))) else (((waybillref07_Beyond.l2 (l29.length - 0 + 2) l29 n36 ([] : List (It)) 0) : Option (Lp (Lp ((Bool)) (Unit)) ((Nat) × (List (It))))).bind fun | .ret o => o | .go (n54, l56) => (waybillref07_Beyond.l1 k40 l56 n54 (n38 + 1)))) else (some (Lp.go ())))
def waybillref07_Beyond (a0 : It) : Option ((Bool)) := (((waybillref07_Beyond.l1 65540 ([a0] : List (It)) 0 0) : Option (Lp ((Bool)) (Unit))).bind fun | .ret o => o | .go () => (some false))
end Go.Fw
namespace Go.Fw
open Go
structure LogC where
 address : Vector (BitVec 8) 20
 topics : Value
 data : Value
def LogC.C (s : LogC) : List Value := u8s s.address.toList ++ ([s.topics] ++ ([s.data]))
theorem LogC.C_length (s : LogC) : s.C.length = 22 := by simp [LogC.C, Z100]
theorem LogC.C_one (s : LogC) (h_topics : s.topics.oneCell' = true) (h_data : s.data.oneCell' = true) : ∀ u ∈ s.C, u.oneCell' = true := by
 intro u hu
 simp only [LogC.C, List.mem_append, List.mem_singleton] at hu
 rcases hu with hu | rfl | rfl
 ·exact Z123 _ u hu
 ·exact h_topics
 ·exact h_data
structure Log where
 address : Vector (BitVec 8) 20
 topics : List (Vector (BitVec 8) 32)
 data : List (BitVec 8)
def LogRd (Φ : Ctx) (cs : List Value) (x : Log) : Prop := ∃ (A_topics : Option Addr), ∃ (c_topics : Nat), ∃ (cs_topics : List Value), ∃ (A_data : Option Addr), ∃ (c_data : Nat), cs = (⟨x.address, .slice A_topics x.topics.length c_topics, .slice A_data x.data.length c_data⟩ : LogC).C ∧ (View Φ A_topics x.topics.length c_topics 32 cs_topics) ∧ (Reps (Ar8Rd Φ) cs_topics x.topics) ∧ (View Φ A_data x.data.length c_data 1 (u8s x.data))
theorem LogRd.opn {Φ : Ctx} {cs : List Value} {x : Log} (h : LogRd Φ cs x) : ∃ (A_topics : Option Addr), ∃ (c_topics : Nat), ∃ (cs_topics : List Value), ∃ (A_data : Option Addr), ∃ (c_data : Nat), cs = (⟨x.address, .slice A_topics x.topics.length c_topics, .slice A_data x.data.length c_data⟩ : LogC).C ∧ (View Φ A_topics x.topics.length c_topics 32 cs_topics) ∧ (Reps (Ar8Rd Φ) cs_topics x.topics) ∧ (View Φ A_data x.data.length c_data 1 (u8s x.data)) := h
theorem LogRd.mono {Φ Ψ : Ctx} (hh : ∀ w, Ψ w → Φ w) (cs : List Value) (x : Log) : LogRd Φ cs x → LogRd Ψ cs x := fun ⟨A_topics, c_topics, cs_topics, A_data, c_data, e, v_topics, h_topics, v_data⟩ => ⟨A_topics, c_topics, cs_topics, A_data, c_data, e, v_topics.mono hh, h_topics.mono (Ar8Rd.mono hh), v_data.mono hh⟩
theorem LogRd.len {Φ : Ctx} (cs : List Value) (x : Log) (h : LogRd Φ cs x) : cs.length = 22 := by
 obtain ⟨A_topics, c_topics, cs_topics, A_data, c_data, e, v_topics, h_topics, v_data⟩ := h
 rw [e]; exact LogC.C_length _
theorem LogRd.one {Φ : Ctx} (cs : List Value) (x : Log) (h : LogRd Φ cs x) : ∀ u ∈ cs, u.oneCell' = true := by
 obtain ⟨A_topics, c_topics, cs_topics, A_data, c_data, e, v_topics, h_topics, v_data⟩ := h
 rw [e]; exact LogC.C_one _ rfl rfl
theorem LogRd.mk {Φ : Ctx} {address : Vector (BitVec 8) 20} {topics : List (Vector (BitVec 8) 32)} {data : List (BitVec 8)} {A_topics : Option Addr} {c_topics : Nat} {cs_topics : List Value} {A_data : Option Addr} {c_data : Nat} (v_topics : View Φ A_topics topics.length c_topics 32 cs_topics) (h_topics : Reps (Ar8Rd Φ) cs_topics topics) (v_data : View Φ A_data data.length c_data 1 (u8s data)) : LogRd Φ (⟨address, .slice A_topics topics.length c_topics, .slice A_data data.length c_data⟩ : LogC).C (⟨address, topics, data⟩ : Log) := ⟨A_topics, c_topics, cs_topics, A_data, c_data, rfl, v_topics, h_topics, v_data⟩
structure RcptC where
 kind : Int
 rooted : Bool
 root : Vector (BitVec 8) 32
 status : BitVec 64
 used : BitVec 64
 bloom : Vector (BitVec 8) 256
 logs : Value
def RcptC.C (s : RcptC) : List Value := [.int .i64 s.kind] ++ ([.bool s.rooted] ++ (u8s s.root.toList ++ ([U64 s.status] ++ ([U64 s.used] ++ (u8s s.bloom.toList ++ ([s.logs]))))))
theorem RcptC.C_length (s : RcptC) : s.C.length = 293 := by simp [RcptC.C, Z100]
theorem RcptC.C_one (s : RcptC) (h_logs : s.logs.oneCell' = true) : ∀ u ∈ s.C, u.oneCell' = true := by
 intro u hu
 simp only [RcptC.C, List.mem_append, List.mem_singleton] at hu
 rcases hu with rfl | rfl | hu | rfl | rfl | hu | rfl
 ·rfl
 ·rfl
 ·exact Z123 _ u hu
 ·rfl
 ·rfl
 ·exact Z123 _ u hu
 ·exact h_logs
theorem RcptC.C_used (s : RcptC) : s.C[35]? = some (U64 s.used) := by
 rw [show 35 = 1 + (1 + (32 + (1 + (0)))) by rfl]; exact (Z102 rfl (Z102 rfl (Z102 ((Z100 _).trans Zv) (Z102 rfl (Z130 rfl)))))
theorem RcptC.C_used_set (s : RcptC) (x : BitVec 64) : s.C.set 35 (U64 x) = ({ s with used := x } : RcptC).C := by
 rw [show 35 = 1 + (1 + (32 + (1 + (0)))) by rfl]; exact (Z107 rfl (Z107 rfl (Z107 ((Z100 _).trans Zv) (Z107 rfl (here_set (by simp) rfl)))))
theorem RcptC.C_bloom_all (s : RcptC) : ∀ (k : Nat) (u : Value), (u8s s.bloom.toList)[k]? = some u → s.C[36 + k]? = some u := by
 intro k u h; rw [show 36 + k = 1 + (1 + (32 + (1 + (1 + (k))))) by omega]; exact (Z102 rfl (Z102 rfl (Z102 ((Z100 _).trans Zv) (Z102 rfl (Z102 rfl (Z130 h))))))
theorem RcptC.C_bloom_cpy (s : RcptC) {lo : Nat} {l : List (BitVec 8)} (h : lo + l.length ≤ 256) : spl s.C (36 + lo) (u8s l) = ({ s with bloom := cpV s.bloom lo l } : RcptC).C := by
 rw [show 36 + lo = 1 + (1 + (32 + (1 + (1 + (lo))))) by omega]; exact (Z104 rfl (Z104 rfl (Z104 ((Z100 _).trans Zv) (Z104 rfl (Z104 rfl (at_spl (by rw [Z100, Z100, Zv]; exact h) (u8s_cpV _ h)))))))
structure Rcpt where
 kind : Int
 rooted : Bool
 root : Vector (BitVec 8) 32
 status : BitVec 64
 used : BitVec 64
 bloom : Vector (BitVec 8) 256
 logs : List (Log)
def RcptRd (Φ : Ctx) (cs : List Value) (x : Rcpt) : Prop := ∃ (A_logs : Option Addr), ∃ (c_logs : Nat), ∃ (cs_logs : List Value), cs = (⟨x.kind, x.rooted, x.root, x.status, x.used, x.bloom, .slice A_logs x.logs.length c_logs⟩ : RcptC).C ∧ (-9223372036854775808 ≤ x.kind ∧ x.kind ≤ 9223372036854775807) ∧ (View Φ A_logs x.logs.length c_logs 22 cs_logs) ∧ (Reps (LogRd Φ) cs_logs x.logs)
theorem RcptRd.opn {Φ : Ctx} {cs : List Value} {x : Rcpt} (h : RcptRd Φ cs x) : ∃ (A_logs : Option Addr), ∃ (c_logs : Nat), ∃ (cs_logs : List Value), cs = (⟨x.kind, x.rooted, x.root, x.status, x.used, x.bloom, .slice A_logs x.logs.length c_logs⟩ : RcptC).C ∧ (-9223372036854775808 ≤ x.kind ∧ x.kind ≤ 9223372036854775807) ∧ (View Φ A_logs x.logs.length c_logs 22 cs_logs) ∧ (Reps (LogRd Φ) cs_logs x.logs) := h
theorem RcptRd.mono {Φ Ψ : Ctx} (hh : ∀ w, Ψ w → Φ w) (cs : List Value) (x : Rcpt) : RcptRd Φ cs x → RcptRd Ψ cs x := fun ⟨A_logs, c_logs, cs_logs, e, b_kind, v_logs, h_logs⟩ => ⟨A_logs, c_logs, cs_logs, e, b_kind, v_logs.mono hh, h_logs.mono (LogRd.mono hh)⟩
theorem RcptRd.len {Φ : Ctx} (cs : List Value) (x : Rcpt) (h : RcptRd Φ cs x) : cs.length = 293 := by
 obtain ⟨A_logs, c_logs, cs_logs, e, b_kind, v_logs, h_logs⟩ := h
 rw [e]; exact RcptC.C_length _
theorem RcptRd.one {Φ : Ctx} (cs : List Value) (x : Rcpt) (h : RcptRd Φ cs x) : ∀ u ∈ cs, u.oneCell' = true := by
 obtain ⟨A_logs, c_logs, cs_logs, e, b_kind, v_logs, h_logs⟩ := h
 rw [e]; exact RcptC.C_one _ rfl
theorem RcptRd.mk {Φ : Ctx} {kind : Int} {rooted : Bool} {root : Vector (BitVec 8) 32} {status : BitVec 64} {used : BitVec 64} {bloom : Vector (BitVec 8) 256} {logs : List (Log)} {A_logs : Option Addr} {c_logs : Nat} {cs_logs : List Value} (b_kind : -9223372036854775808 ≤ kind ∧ kind ≤ 9223372036854775807) (v_logs : View Φ A_logs logs.length c_logs 22 cs_logs) (h_logs : Reps (LogRd Φ) cs_logs logs) : RcptRd Φ (⟨kind, rooted, root, status, used, bloom, .slice A_logs logs.length c_logs⟩ : RcptC).C (⟨kind, rooted, root, status, used, bloom, logs⟩ : Rcpt) := ⟨A_logs, c_logs, cs_logs, rfl, b_kind, v_logs, h_logs⟩
end Go.Fw
namespace Go.Fw
open Go
structure HdrC where
 parent : Vector (BitVec 8) 32
 uncles : Vector (BitVec 8) 32
 coinbase : Vector (BitVec 8) 20
 state : Vector (BitVec 8) 32
 txRoot : Vector (BitVec 8) 32
 receiptRoot : Vector (BitVec 8) 32
 bloom : Vector (BitVec 8) 256
 difficulty : Vector (BitVec 64) 4
 number : BitVec 64
 limit : BitVec 64
 used : BitVec 64
 time : BitVec 64
 extra : Value
 mix : Vector (BitVec 8) 32
 nonce : Vector (BitVec 8) 8
 tail : Int
 baseFee : Vector (BitVec 64) 4
 withdrawals : Vector (BitVec 8) 32
 blobUsed : BitVec 64
 blobExcess : BitVec 64
 beacon : Vector (BitVec 8) 32
 requests : Vector (BitVec 8) 32
def HdrC.C (s : HdrC) : List Value := u8s s.parent.toList ++ (u8s s.uncles.toList ++ (u8s s.coinbase.toList ++ (u8s s.state.toList ++ (u8s s.txRoot.toList ++ (u8s s.receiptRoot.toList ++ (u8s s.bloom.toList ++ (u64s s.difficulty.toList ++ ([U64 s.number] ++ ([U64 s.limit] ++ ([U64 s.used] ++ ([U64 s.time] ++ ([s.extra] ++ (u8s s.mix.toList ++ (u8s s.nonce.toList ++ ([.int .i64 s.tail] ++ (u64s s.baseFee.toList ++ (u8s s.withdrawals.toList ++ ([U64 s.blobUsed] ++ ([U64 s.blobExcess] ++ (u8s s.beacon.toList ++ (u8s s.requests.toList)))))))))))))))))))))
theorem HdrC.C_length (s : HdrC) : s.C.length = 588 := by simp [HdrC.C, Z101, Z100]
theorem HdrC.C_one (s : HdrC) (h_extra : s.extra.oneCell' = true) : ∀ u ∈ s.C, u.oneCell' = true := by
 intro u hu
 simp only [HdrC.C, List.mem_append, List.mem_singleton] at hu
 rcases hu with hu | hu | hu | hu | hu | hu | hu | hu | rfl | rfl | rfl | rfl | rfl | hu | hu | rfl | hu | hu | rfl | rfl | hu | hu
 ·exact Z123 _ u hu
 ·exact Z123 _ u hu
 ·exact Z123 _ u hu
 ·exact Z123 _ u hu
 ·exact Z123 _ u hu
 ·exact Z123 _ u hu
 ·exact Z123 _ u hu
 ·exact Z115 _ u hu
 ·rfl
 ·rfl
 ·rfl
 ·rfl
 ·exact h_extra
 ·exact Z123 _ u hu
 ·exact Z123 _ u hu
 ·rfl
 ·exact Z115 _ u hu
 ·exact Z123 _ u hu
 ·rfl
 ·rfl
 ·exact Z123 _ u hu
 ·exact Z123 _ u hu
theorem HdrC.C_parent_all (s : HdrC) : ∀ (k : Nat) (u : Value), (u8s s.parent.toList)[k]? = some u → s.C[0 + k]? = some u := by
 intro k u h; rw [show 0 + k = k by omega]; exact (Z130 h)
theorem HdrC.C_parent_cpy (s : HdrC) {lo : Nat} {l : List (BitVec 8)} (h : lo + l.length ≤ 32) : spl s.C (0 + lo) (u8s l) = ({ s with parent := cpV s.parent lo l } : HdrC).C := by
 rw [show 0 + lo = lo by omega]; exact (at_spl (by rw [Z100, Z100, Zv]; exact h) (u8s_cpV _ h))
theorem HdrC.C_uncles_all (s : HdrC) : ∀ (k : Nat) (u : Value), (u8s s.uncles.toList)[k]? = some u → s.C[32 + k]? = some u := by
 intro k u h; rw [show 32 + k = 32 + (k) by omega]; exact (Z102 ((Z100 _).trans Zv) (Z130 h))
theorem HdrC.C_uncles_cpy (s : HdrC) {lo : Nat} {l : List (BitVec 8)} (h : lo + l.length ≤ 32) : spl s.C (32 + lo) (u8s l) = ({ s with uncles := cpV s.uncles lo l } : HdrC).C := by
 rw [show 32 + lo = 32 + (lo) by omega]; exact (Z104 ((Z100 _).trans Zv) (at_spl (by rw [Z100, Z100, Zv]; exact h) (u8s_cpV _ h)))
theorem HdrC.C_coinbase_all (s : HdrC) : ∀ (k : Nat) (u : Value), (u8s s.coinbase.toList)[k]? = some u → s.C[64 + k]? = some u := by
 intro k u h; rw [show 64 + k = 32 + (32 + (k)) by omega]; exact (Z102 ((Z100 _).trans Zv) (Z102 ((Z100 _).trans Zv) (Z130 h)))
theorem HdrC.C_coinbase_cpy (s : HdrC) {lo : Nat} {l : List (BitVec 8)} (h : lo + l.length ≤ 20) : spl s.C (64 + lo) (u8s l) = ({ s with coinbase := cpV s.coinbase lo l } : HdrC).C := by
 rw [show 64 + lo = 32 + (32 + (lo)) by omega]; exact (Z104 ((Z100 _).trans Zv) (Z104 ((Z100 _).trans Zv) (at_spl (by rw [Z100, Z100, Zv]; exact h) (u8s_cpV _ h))))
theorem HdrC.C_state_all (s : HdrC) : ∀ (k : Nat) (u : Value), (u8s s.state.toList)[k]? = some u → s.C[84 + k]? = some u := by
 intro k u h; rw [show 84 + k = 32 + (32 + (20 + (k))) by omega]; exact (Z102 ((Z100 _).trans Zv) (Z102 ((Z100 _).trans Zv) (Z102 ((Z100 _).trans Zv) (Z130 h))))
theorem HdrC.C_state_cpy (s : HdrC) {lo : Nat} {l : List (BitVec 8)} (h : lo + l.length ≤ 32) : spl s.C (84 + lo) (u8s l) = ({ s with state := cpV s.state lo l } : HdrC).C := by
 rw [show 84 + lo = 32 + (32 + (20 + (lo))) by omega]; exact (Z104 ((Z100 _).trans Zv) (Z104 ((Z100 _).trans Zv) (Z104 ((Z100 _).trans Zv) (at_spl (by rw [Z100, Z100, Zv]; exact h) (u8s_cpV _ h)))))
theorem HdrC.C_txRoot_all (s : HdrC) : ∀ (k : Nat) (u : Value), (u8s s.txRoot.toList)[k]? = some u → s.C[116 + k]? = some u := by
 intro k u h; rw [show 116 + k = 32 + (32 + (20 + (32 + (k)))) by omega]; exact (Z102 ((Z100 _).trans Zv) (Z102 ((Z100 _).trans Zv) (Z102 ((Z100 _).trans Zv) (Z102 ((Z100 _).trans Zv) (Z130 h)))))
theorem HdrC.C_txRoot_cpy (s : HdrC) {lo : Nat} {l : List (BitVec 8)} (h : lo + l.length ≤ 32) : spl s.C (116 + lo) (u8s l) = ({ s with txRoot := cpV s.txRoot lo l } : HdrC).C := by
 rw [show 116 + lo = 32 + (32 + (20 + (32 + (lo)))) by omega]; exact (Z104 ((Z100 _).trans Zv) (Z104 ((Z100 _).trans Zv) (Z104 ((Z100 _).trans Zv) (Z104 ((Z100 _).trans Zv) (at_spl (by rw [Z100, Z100, Zv]; exact h) (u8s_cpV _ h))))))
theorem HdrC.C_receiptRoot_all (s : HdrC) : ∀ (k : Nat) (u : Value), (u8s s.receiptRoot.toList)[k]? = some u → s.C[148 + k]? = some u := by
 intro k u h; rw [show 148 + k = 32 + (32 + (20 + (32 + (32 + (k))))) by omega]; exact (Z102 ((Z100 _).trans Zv) (Z102 ((Z100 _).trans Zv) (Z102 ((Z100 _).trans Zv) (Z102 ((Z100 _).trans Zv) (Z102 ((Z100 _).trans Zv) (Z130 h))))))
theorem HdrC.C_receiptRoot_cpy (s : HdrC) {lo : Nat} {l : List (BitVec 8)} (h : lo + l.length ≤ 32) : spl s.C (148 + lo) (u8s l) = ({ s with receiptRoot := cpV s.receiptRoot lo l } : HdrC).C := by
 rw [show 148 + lo = 32 + (32 + (20 + (32 + (32 + (lo))))) by omega]; exact (Z104 ((Z100 _).trans Zv) (Z104 ((Z100 _).trans Zv) (Z104 ((Z100 _).trans Zv) (Z104 ((Z100 _).trans Zv) (Z104 ((Z100 _).trans Zv) (at_spl (by rw [Z100, Z100, Zv]; exact h) (u8s_cpV _ h)))))))
theorem HdrC.C_bloom_all (s : HdrC) : ∀ (k : Nat) (u : Value), (u8s s.bloom.toList)[k]? = some u → s.C[180 + k]? = some u := by
 intro k u h; rw [show 180 + k = 32 + (32 + (20 + (32 + (32 + (32 + (k)))))) by omega]; exact (Z102 ((Z100 _).trans Zv) (Z102 ((Z100 _).trans Zv) (Z102 ((Z100 _).trans Zv) (Z102 ((Z100 _).trans Zv) (Z102 ((Z100 _).trans Zv) (Z102 ((Z100 _).trans Zv) (Z130 h)))))))
theorem HdrC.C_bloom_cpy (s : HdrC) {lo : Nat} {l : List (BitVec 8)} (h : lo + l.length ≤ 256) : spl s.C (180 + lo) (u8s l) = ({ s with bloom := cpV s.bloom lo l } : HdrC).C := by
 rw [show 180 + lo = 32 + (32 + (20 + (32 + (32 + (32 + (lo)))))) by omega]; exact (Z104 ((Z100 _).trans Zv) (Z104 ((Z100 _).trans Zv) (Z104 ((Z100 _).trans Zv) (Z104 ((Z100 _).trans Zv) (Z104 ((Z100 _).trans Zv) (Z104 ((Z100 _).trans Zv) (at_spl (by rw [Z100, Z100, Zv]; exact h) (u8s_cpV _ h))))))))
theorem HdrC.C_difficulty_all (s : HdrC) : ∀ (k : Nat) (u : Value), (u64s s.difficulty.toList)[k]? = some u → s.C[436 + k]? = some u := by
 intro k u h; rw [show 436 + k = 32 + (32 + (20 + (32 + (32 + (32 + (256 + (k))))))) by omega]; exact (Z102 ((Z100 _).trans Zv) (Z102 ((Z100 _).trans Zv) (Z102 ((Z100 _).trans Zv) (Z102 ((Z100 _).trans Zv) (Z102 ((Z100 _).trans Zv) (Z102 ((Z100 _).trans Zv) (Z102 ((Z100 _).trans Zv) (Z130 h))))))))
theorem HdrC.C_difficulty_spl (s : HdrC) (x : Vector (BitVec 64) 4) : spl s.C 436 (u64s x.toList) = ({ s with difficulty := x } : HdrC).C := by
 show spl s.C (32 + (32 + (20 + (32 + (32 + (32 + (256 + (0)))))))) _ = _; exact (Z104 ((Z100 _).trans Zv) (Z104 ((Z100 _).trans Zv) (Z104 ((Z100 _).trans Zv) (Z104 ((Z100 _).trans Zv) (Z104 ((Z100 _).trans Zv) (Z104 ((Z100 _).trans Zv) (Z104 ((Z100 _).trans Zv) (here_spl (by simp [Z101])))))))))
theorem HdrC.C_number (s : HdrC) : s.C[440]? = some (U64 s.number) := by
 show s.C[32 + (32 + (20 + (32 + (32 + (32 + (256 + (4 + (0))))))))]? = _; exact (Z102 ((Z100 _).trans Zv) (Z102 ((Z100 _).trans Zv) (Z102 ((Z100 _).trans Zv) (Z102 ((Z100 _).trans Zv) (Z102 ((Z100 _).trans Zv) (Z102 ((Z100 _).trans Zv) (Z102 ((Z100 _).trans Zv) (Z102 ((Z101 _).trans Zv) (Z130 rfl)))))))))
theorem HdrC.C_number_set (s : HdrC) (x : BitVec 64) : s.C.set 440 (U64 x) = ({ s with number := x } : HdrC).C := by
 show s.C.set (32 + (32 + (20 + (32 + (32 + (32 + (256 + (4 + (0))))))))) _ = _; exact (Z107 ((Z100 _).trans Zv) (Z107 ((Z100 _).trans Zv) (Z107 ((Z100 _).trans Zv) (Z107 ((Z100 _).trans Zv) (Z107 ((Z100 _).trans Zv) (Z107 ((Z100 _).trans Zv) (Z107 ((Z100 _).trans Zv) (Z107 ((Z101 _).trans Zv) (here_set (by simp) rfl)))))))))
theorem HdrC.C_limit (s : HdrC) : s.C[441]? = some (U64 s.limit) := by
 show s.C[32 + (32 + (20 + (32 + (32 + (32 + (256 + (4 + (1 + (0)))))))))]? = _; exact (Z102 ((Z100 _).trans Zv) (Z102 ((Z100 _).trans Zv) (Z102 ((Z100 _).trans Zv) (Z102 ((Z100 _).trans Zv) (Z102 ((Z100 _).trans Zv) (Z102 ((Z100 _).trans Zv) (Z102 ((Z100 _).trans Zv) (Z102 ((Z101 _).trans Zv) (Z102 rfl (Z130 rfl))))))))))
theorem HdrC.C_limit_set (s : HdrC) (x : BitVec 64) : s.C.set 441 (U64 x) = ({ s with limit := x } : HdrC).C := by
 show s.C.set (32 + (32 + (20 + (32 + (32 + (32 + (256 + (4 + (1 + (0)))))))))) _ = _; exact (Z107 ((Z100 _).trans Zv) (Z107 ((Z100 _).trans Zv) (Z107 ((Z100 _).trans Zv) (Z107 ((Z100 _).trans Zv) (Z107 ((Z100 _).trans Zv) (Z107 ((Z100 _).trans Zv) (Z107 ((Z100 _).trans Zv) (Z107 ((Z101 _).trans Zv) (Z107 rfl (here_set (by simp) rfl))))))))))
theorem HdrC.C_used (s : HdrC) : s.C[442]? = some (U64 s.used) := by
 show s.C[32 + (32 + (20 + (32 + (32 + (32 + (256 + (4 + (1 + (1 + (0))))))))))]? = _; exact (Z102 ((Z100 _).trans Zv) (Z102 ((Z100 _).trans Zv) (Z102 ((Z100 _).trans Zv) (Z102 ((Z100 _).trans Zv) (Z102 ((Z100 _).trans Zv) (Z102 ((Z100 _).trans Zv) (Z102 ((Z100 _).trans Zv) (Z102 ((Z101 _).trans Zv) (Z102 rfl (Z102 rfl (Z130 rfl)))))))))))
theorem HdrC.C_used_set (s : HdrC) (x : BitVec 64) : s.C.set 442 (U64 x) = ({ s with used := x } : HdrC).C := by
 show s.C.set (32 + (32 + (20 + (32 + (32 + (32 + (256 + (4 + (1 + (1 + (0))))))))))) _ = _; exact (Z107 ((Z100 _).trans Zv) (Z107 ((Z100 _).trans Zv) (Z107 ((Z100 _).trans Zv) (Z107 ((Z100 _).trans Zv) (Z107 ((Z100 _).trans Zv) (Z107 ((Z100 _).trans Zv) (Z107 ((Z100 _).trans Zv) (Z107 ((Z101 _).trans Zv) (Z107 rfl (Z107 rfl (here_set (by simp) rfl)))))))))))
theorem HdrC.C_time (s : HdrC) : s.C[443]? = some (U64 s.time) := by
 show s.C[32 + (32 + (20 + (32 + (32 + (32 + (256 + (4 + (1 + (1 + (1 + (0)))))))))))]? = _; exact (Z102 ((Z100 _).trans Zv) (Z102 ((Z100 _).trans Zv) (Z102 ((Z100 _).trans Zv) (Z102 ((Z100 _).trans Zv) (Z102 ((Z100 _).trans Zv) (Z102 ((Z100 _).trans Zv) (Z102 ((Z100 _).trans Zv) (Z102 ((Z101 _).trans Zv) (Z102 rfl (Z102 rfl (Z102 rfl (Z130 rfl))))))))))))
theorem HdrC.C_time_set (s : HdrC) (x : BitVec 64) : s.C.set 443 (U64 x) = ({ s with time := x } : HdrC).C := by
 show s.C.set (32 + (32 + (20 + (32 + (32 + (32 + (256 + (4 + (1 + (1 + (1 + (0)))))))))))) _ = _; exact (Z107 ((Z100 _).trans Zv) (Z107 ((Z100 _).trans Zv) (Z107 ((Z100 _).trans Zv) (Z107 ((Z100 _).trans Zv) (Z107 ((Z100 _).trans Zv) (Z107 ((Z100 _).trans Zv) (Z107 ((Z100 _).trans Zv) (Z107 ((Z101 _).trans Zv) (Z107 rfl (Z107 rfl (Z107 rfl (here_set (by simp) rfl))))))))))))
theorem HdrC.C_extra (s : HdrC) : s.C[444]? = some (s.extra) := by
 show s.C[32 + (32 + (20 + (32 + (32 + (32 + (256 + (4 + (1 + (1 + (1 + (1 + (0))))))))))))]? = _; exact (Z102 ((Z100 _).trans Zv) (Z102 ((Z100 _).trans Zv) (Z102 ((Z100 _).trans Zv) (Z102 ((Z100 _).trans Zv) (Z102 ((Z100 _).trans Zv) (Z102 ((Z100 _).trans Zv) (Z102 ((Z100 _).trans Zv) (Z102 ((Z101 _).trans Zv) (Z102 rfl (Z102 rfl (Z102 rfl (Z102 rfl (Z130 rfl)))))))))))))
theorem HdrC.C_extra_set (s : HdrC) (x : Value) : s.C.set 444 (x) = ({ s with extra := x } : HdrC).C := by
 show s.C.set (32 + (32 + (20 + (32 + (32 + (32 + (256 + (4 + (1 + (1 + (1 + (1 + (0))))))))))))) _ = _; exact (Z107 ((Z100 _).trans Zv) (Z107 ((Z100 _).trans Zv) (Z107 ((Z100 _).trans Zv) (Z107 ((Z100 _).trans Zv) (Z107 ((Z100 _).trans Zv) (Z107 ((Z100 _).trans Zv) (Z107 ((Z100 _).trans Zv) (Z107 ((Z101 _).trans Zv) (Z107 rfl (Z107 rfl (Z107 rfl (Z107 rfl (here_set (by simp) rfl)))))))))))))
theorem HdrC.C_mix_all (s : HdrC) : ∀ (k : Nat) (u : Value), (u8s s.mix.toList)[k]? = some u → s.C[445 + k]? = some u := by
 intro k u h; rw [show 445 + k = 32 + (32 + (20 + (32 + (32 + (32 + (256 + (4 + (1 + (1 + (1 + (1 + (1 + (k))))))))))))) by omega]; exact (Z102 ((Z100 _).trans Zv) (Z102 ((Z100 _).trans Zv) (Z102 ((Z100 _).trans Zv) (Z102 ((Z100 _).trans Zv) (Z102 ((Z100 _).trans Zv) (Z102 ((Z100 _).trans Zv) (Z102 ((Z100 _).trans Zv) (Z102 ((Z101 _).trans Zv) (Z102 rfl (Z102 rfl (Z102 rfl (Z102 rfl (Z102 rfl (Z130 h))))))))))))))
theorem HdrC.C_mix_cpy (s : HdrC) {lo : Nat} {l : List (BitVec 8)} (h : lo + l.length ≤ 32) : spl s.C (445 + lo) (u8s l) = ({ s with mix := cpV s.mix lo l } : HdrC).C := by
 rw [show 445 + lo = 32 + (32 + (20 + (32 + (32 + (32 + (256 + (4 + (1 + (1 + (1 + (1 + (1 + (lo))))))))))))) by omega]; exact (Z104 ((Z100 _).trans Zv) (Z104 ((Z100 _).trans Zv) (Z104 ((Z100 _).trans Zv) (Z104 ((Z100 _).trans Zv) (Z104 ((Z100 _).trans Zv) (Z104 ((Z100 _).trans Zv) (Z104 ((Z100 _).trans Zv) (Z104 ((Z101 _).trans Zv) (Z104 rfl (Z104 rfl (Z104 rfl (Z104 rfl (Z104 rfl (at_spl (by rw [Z100, Z100, Zv]; exact h) (u8s_cpV _ h)))))))))))))))
theorem HdrC.C_nonce_all (s : HdrC) : ∀ (k : Nat) (u : Value), (u8s s.nonce.toList)[k]? = some u → s.C[477 + k]? = some u := by
 intro k u h; rw [show 477 + k = 32 + (32 + (20 + (32 + (32 + (32 + (256 + (4 + (1 + (1 + (1 + (1 + (1 + (32 + (k)))))))))))))) by omega]; exact (Z102 ((Z100 _).trans Zv) (Z102 ((Z100 _).trans Zv) (Z102 ((Z100 _).trans Zv) (Z102 ((Z100 _).trans Zv) (Z102 ((Z100 _).trans Zv) (Z102 ((Z100 _).trans Zv) (Z102 ((Z100 _).trans Zv) (Z102 ((Z101 _).trans Zv) (Z102 rfl (Z102 rfl (Z102 rfl (Z102 rfl (Z102 rfl (Z102 ((Z100 _).trans Zv) (Z130 h)))))))))))))))
theorem HdrC.C_nonce_cpy (s : HdrC) {lo : Nat} {l : List (BitVec 8)} (h : lo + l.length ≤ 8) : spl s.C (477 + lo) (u8s l) = ({ s with nonce := cpV s.nonce lo l } : HdrC).C := by
 rw [show 477 + lo = 32 + (32 + (20 + (32 + (32 + (32 + (256 + (4 + (1 + (1 + (1 + (1 + (1 + (32 + (lo)))))))))))))) by omega]; exact (Z104 ((Z100 _).trans Zv) (Z104 ((Z100 _).trans Zv) (Z104 ((Z100 _).trans Zv) (Z104 ((Z100 _).trans Zv) (Z104 ((Z100 _).trans Zv) (Z104 ((Z100 _).trans Zv) (Z104 ((Z100 _).trans Zv) (Z104 ((Z101 _).trans Zv) (Z104 rfl (Z104 rfl (Z104 rfl (Z104 rfl (Z104 rfl (Z104 ((Z100 _).trans Zv) (at_spl (by rw [Z100, Z100, Zv]; exact h) (u8s_cpV _ h))))))))))))))))
theorem Z143 (s : HdrC) : s.C[485]? = some (.int .i64 s.tail) := by
 show s.C[32 + (32 + (20 + (32 + (32 + (32 + (256 + (4 + (1 + (1 + (1 + (1 + (1 + (32 + (8 + (0)))))))))))))))]? = _; exact (Z102 ((Z100 _).trans Zv) (Z102 ((Z100 _).trans Zv) (Z102 ((Z100 _).trans Zv) (Z102 ((Z100 _).trans Zv) (Z102 ((Z100 _).trans Zv) (Z102 ((Z100 _).trans Zv) (Z102 ((Z100 _).trans Zv) (Z102 ((Z101 _).trans Zv) (Z102 rfl (Z102 rfl (Z102 rfl (Z102 rfl (Z102 rfl (Z102 ((Z100 _).trans Zv) (Z102 ((Z100 _).trans Zv) (Z130 rfl))))))))))))))))
theorem HdrC.C_tail_set (s : HdrC) (x : Int) : s.C.set 485 (.int .i64 x) = ({ s with tail := x } : HdrC).C := by
 show s.C.set (32 + (32 + (20 + (32 + (32 + (32 + (256 + (4 + (1 + (1 + (1 + (1 + (1 + (32 + (8 + (0)))))))))))))))) _ = _; exact (Z107 ((Z100 _).trans Zv) (Z107 ((Z100 _).trans Zv) (Z107 ((Z100 _).trans Zv) (Z107 ((Z100 _).trans Zv) (Z107 ((Z100 _).trans Zv) (Z107 ((Z100 _).trans Zv) (Z107 ((Z100 _).trans Zv) (Z107 ((Z101 _).trans Zv) (Z107 rfl (Z107 rfl (Z107 rfl (Z107 rfl (Z107 rfl (Z107 ((Z100 _).trans Zv) (Z107 ((Z100 _).trans Zv) (here_set (by simp) rfl))))))))))))))))
theorem HdrC.C_baseFee_all (s : HdrC) : ∀ (k : Nat) (u : Value), (u64s s.baseFee.toList)[k]? = some u → s.C[486 + k]? = some u := by
 intro k u h; rw [show 486 + k = 32 + (32 + (20 + (32 + (32 + (32 + (256 + (4 + (1 + (1 + (1 + (1 + (1 + (32 + (8 + (1 + (k)))))))))))))))) by omega]; exact (Z102 ((Z100 _).trans Zv) (Z102 ((Z100 _).trans Zv) (Z102 ((Z100 _).trans Zv) (Z102 ((Z100 _).trans Zv) (Z102 ((Z100 _).trans Zv) (Z102 ((Z100 _).trans Zv) (Z102 ((Z100 _).trans Zv) (Z102 ((Z101 _).trans Zv) (Z102 rfl (Z102 rfl (Z102 rfl (Z102 rfl (Z102 rfl (Z102 ((Z100 _).trans Zv) (Z102 ((Z100 _).trans Zv) (Z102 rfl (Z130 h)))))))))))))))))
theorem HdrC.C_baseFee_spl (s : HdrC) (x : Vector (BitVec 64) 4) : spl s.C 486 (u64s x.toList) = ({ s with baseFee := x } : HdrC).C := by
 show spl s.C (32 + (32 + (20 + (32 + (32 + (32 + (256 + (4 + (1 + (1 + (1 + (1 + (1 + (32 + (8 + (1 + (0))))))))))))))))) _ = _; exact (Z104 ((Z100 _).trans Zv) (Z104 ((Z100 _).trans Zv) (Z104 ((Z100 _).trans Zv) (Z104 ((Z100 _).trans Zv) (Z104 ((Z100 _).trans Zv) (Z104 ((Z100 _).trans Zv) (Z104 ((Z100 _).trans Zv) (Z104 ((Z101 _).trans Zv) (Z104 rfl (Z104 rfl (Z104 rfl (Z104 rfl (Z104 rfl (Z104 ((Z100 _).trans Zv) (Z104 ((Z100 _).trans Zv) (Z104 rfl (here_spl (by simp [Z101]))))))))))))))))))
theorem HdrC.C_withdrawals_all (s : HdrC) : ∀ (k : Nat) (u : Value), (u8s s.withdrawals.toList)[k]? = some u → s.C[490 + k]? = some u := by
 intro k u h; rw [show 490 + k = 32 + (32 + (20 + (32 + (32 + (32 + (256 + (4 + (1 + (1 + (1 + (1 + (1 + (32 + (8 + (1 + (4 + (k))))))))))))))))) by omega]; exact (Z102 ((Z100 _).trans Zv) (Z102 ((Z100 _).trans Zv) (Z102 ((Z100 _).trans Zv) (Z102 ((Z100 _).trans Zv) (Z102 ((Z100 _).trans Zv) (Z102 ((Z100 _).trans Zv) (Z102 ((Z100 _).trans Zv) (Z102 ((Z101 _).trans Zv) (Z102 rfl (Z102 rfl (Z102 rfl (Z102 rfl (Z102 rfl (Z102 ((Z100 _).trans Zv) (Z102 ((Z100 _).trans Zv) (Z102 rfl (Z102 ((Z101 _).trans Zv) (Z130 h))))))))))))))))))
theorem HdrC.C_withdrawals_cpy (s : HdrC) {lo : Nat} {l : List (BitVec 8)} (h : lo + l.length ≤ 32) : spl s.C (490 + lo) (u8s l) = ({ s with withdrawals := cpV s.withdrawals lo l } : HdrC).C := by
 rw [show 490 + lo = 32 + (32 + (20 + (32 + (32 + (32 + (256 + (4 + (1 + (1 + (1 + (1 + (1 + (32 + (8 + (1 + (4 + (lo))))))))))))))))) by omega]; exact (Z104 ((Z100 _).trans Zv) (Z104 ((Z100 _).trans Zv) (Z104 ((Z100 _).trans Zv) (Z104 ((Z100 _).trans Zv) (Z104 ((Z100 _).trans Zv) (Z104 ((Z100 _).trans Zv) (Z104 ((Z100 _).trans Zv) (Z104 ((Z101 _).trans Zv) (Z104 rfl (Z104 rfl (Z104 rfl (Z104 rfl (Z104 rfl (Z104 ((Z100 _).trans Zv) (Z104 ((Z100 _).trans Zv) (Z104 rfl (Z104 ((Z101 _).trans Zv) (at_spl (by rw [Z100, Z100, Zv]; exact h) (u8s_cpV _ h)))))))))))))))))))
theorem HdrC.C_blobUsed (s : HdrC) : s.C[522]? = some (U64 s.blobUsed) := by
 show s.C[32 + (32 + (20 + (32 + (32 + (32 + (256 + (4 + (1 + (1 + (1 + (1 + (1 + (32 + (8 + (1 + (4 + (32 + (0))))))))))))))))))]? = _; exact (Z102 ((Z100 _).trans Zv) (Z102 ((Z100 _).trans Zv) (Z102 ((Z100 _).trans Zv) (Z102 ((Z100 _).trans Zv) (Z102 ((Z100 _).trans Zv) (Z102 ((Z100 _).trans Zv) (Z102 ((Z100 _).trans Zv) (Z102 ((Z101 _).trans Zv) (Z102 rfl (Z102 rfl (Z102 rfl (Z102 rfl (Z102 rfl (Z102 ((Z100 _).trans Zv) (Z102 ((Z100 _).trans Zv) (Z102 rfl (Z102 ((Z101 _).trans Zv) (Z102 ((Z100 _).trans Zv) (Z130 rfl)))))))))))))))))))
theorem HdrC.C_blobUsed_set (s : HdrC) (x : BitVec 64) : s.C.set 522 (U64 x) = ({ s with blobUsed := x } : HdrC).C := by
 show s.C.set (32 + (32 + (20 + (32 + (32 + (32 + (256 + (4 + (1 + (1 + (1 + (1 + (1 + (32 + (8 + (1 + (4 + (32 + (0))))))))))))))))))) _ = _; exact (Z107 ((Z100 _).trans Zv) (Z107 ((Z100 _).trans Zv) (Z107 ((Z100 _).trans Zv) (Z107 ((Z100 _).trans Zv) (Z107 ((Z100 _).trans Zv) (Z107 ((Z100 _).trans Zv) (Z107 ((Z100 _).trans Zv) (Z107 ((Z101 _).trans Zv) (Z107 rfl (Z107 rfl (Z107 rfl (Z107 rfl (Z107 rfl (Z107 ((Z100 _).trans Zv) (Z107 ((Z100 _).trans Zv) (Z107 rfl (Z107 ((Z101 _).trans Zv) (Z107 ((Z100 _).trans Zv) (here_set (by simp) rfl)))))))))))))))))))
theorem HdrC.C_blobExcess (s : HdrC) : s.C[523]? = some (U64 s.blobExcess) := by
 show s.C[32 + (32 + (20 + (32 + (32 + (32 + (256 + (4 + (1 + (1 + (1 + (1 + (1 + (32 + (8 + (1 + (4 + (32 + (1 + (0)))))))))))))))))))]? = _; exact (Z102 ((Z100 _).trans Zv) (Z102 ((Z100 _).trans Zv) (Z102 ((Z100 _).trans Zv) (Z102 ((Z100 _).trans Zv) (Z102 ((Z100 _).trans Zv) (Z102 ((Z100 _).trans Zv) (Z102 ((Z100 _).trans Zv) (Z102 ((Z101 _).trans Zv) (Z102 rfl (Z102 rfl (Z102 rfl (Z102 rfl (Z102 rfl (Z102 ((Z100 _).trans Zv) (Z102 ((Z100 _).trans Zv) (Z102 rfl (Z102 ((Z101 _).trans Zv) (Z102 ((Z100 _).trans Zv) (Z102 rfl (Z130 rfl))))))))))))))))))))
theorem HdrC.C_blobExcess_set (s : HdrC) (x : BitVec 64) : s.C.set 523 (U64 x) = ({ s with blobExcess := x } : HdrC).C := by
 show s.C.set (32 + (32 + (20 + (32 + (32 + (32 + (256 + (4 + (1 + (1 + (1 + (1 + (1 + (32 + (8 + (1 + (4 + (32 + (1 + (0)))))))))))))))))))) _ = _; exact (Z107 ((Z100 _).trans Zv) (Z107 ((Z100 _).trans Zv) (Z107 ((Z100 _).trans Zv) (Z107 ((Z100 _).trans Zv) (Z107 ((Z100 _).trans Zv) (Z107 ((Z100 _).trans Zv) (Z107 ((Z100 _).trans Zv) (Z107 ((Z101 _).trans Zv) (Z107 rfl (Z107 rfl (Z107 rfl (Z107 rfl (Z107 rfl (Z107 ((Z100 _).trans Zv) (Z107 ((Z100 _).trans Zv) (Z107 rfl (Z107 ((Z101 _).trans Zv) (Z107 ((Z100 _).trans Zv) (Z107 rfl (here_set (by simp) rfl))))))))))))))))))))
theorem HdrC.C_beacon_all (s : HdrC) : ∀ (k : Nat) (u : Value), (u8s s.beacon.toList)[k]? = some u → s.C[524 + k]? = some u := by
 intro k u h; rw [show 524 + k = 32 + (32 + (20 + (32 + (32 + (32 + (256 + (4 + (1 + (1 + (1 + (1 + (1 + (32 + (8 + (1 + (4 + (32 + (1 + (1 + (k)))))))))))))))))))) by omega]; exact (Z102 ((Z100 _).trans Zv) (Z102 ((Z100 _).trans Zv) (Z102 ((Z100 _).trans Zv) (Z102 ((Z100 _).trans Zv) (Z102 ((Z100 _).trans Zv) (Z102 ((Z100 _).trans Zv) (Z102 ((Z100 _).trans Zv) (Z102 ((Z101 _).trans Zv) (Z102 rfl (Z102 rfl (Z102 rfl (Z102 rfl (Z102 rfl (Z102 ((Z100 _).trans Zv) (Z102 ((Z100 _).trans Zv) (Z102 rfl (Z102 ((Z101 _).trans Zv) (Z102 ((Z100 _).trans Zv) (Z102 rfl (Z102 rfl (Z130 h)))))))))))))))))))))
theorem HdrC.C_beacon_cpy (s : HdrC) {lo : Nat} {l : List (BitVec 8)} (h : lo + l.length ≤ 32) : spl s.C (524 + lo) (u8s l) = ({ s with beacon := cpV s.beacon lo l } : HdrC).C := by
 rw [show 524 + lo = 32 + (32 + (20 + (32 + (32 + (32 + (256 + (4 + (1 + (1 + (1 + (1 + (1 + (32 + (8 + (1 + (4 + (32 + (1 + (1 + (lo)))))))))))))))))))) by omega]; exact (Z104 ((Z100 _).trans Zv) (Z104 ((Z100 _).trans Zv) (Z104 ((Z100 _).trans Zv) (Z104 ((Z100 _).trans Zv) (Z104 ((Z100 _).trans Zv) (Z104 ((Z100 _).trans Zv) (Z104 ((Z100 _).trans Zv) (Z104 ((Z101 _).trans Zv) (Z104 rfl (Z104 rfl (Z104 rfl (Z104 rfl (Z104 rfl (Z104 ((Z100 _).trans Zv) (Z104 ((Z100 _).trans Zv) (Z104 rfl (Z104 ((Z101 _).trans Zv) (Z104 ((Z100 _).trans Zv) (Z104 rfl (Z104 rfl (at_spl (by rw [Z100, Z100, Zv]; exact h) (u8s_cpV _ h))))))))))))))))))))))
theorem HdrC.C_requests_all (s : HdrC) : ∀ (k : Nat) (u : Value), (u8s s.requests.toList)[k]? = some u → s.C[556 + k]? = some u := by
 intro k u h; rw [show 556 + k = 32 + (32 + (20 + (32 + (32 + (32 + (256 + (4 + (1 + (1 + (1 + (1 + (1 + (32 + (8 + (1 + (4 + (32 + (1 + (1 + (32 + (k))))))))))))))))))))) by omega]; exact (Z102 ((Z100 _).trans Zv) (Z102 ((Z100 _).trans Zv) (Z102 ((Z100 _).trans Zv) (Z102 ((Z100 _).trans Zv) (Z102 ((Z100 _).trans Zv) (Z102 ((Z100 _).trans Zv) (Z102 ((Z100 _).trans Zv) (Z102 ((Z101 _).trans Zv) (Z102 rfl (Z102 rfl (Z102 rfl (Z102 rfl (Z102 rfl (Z102 ((Z100 _).trans Zv) (Z102 ((Z100 _).trans Zv) (Z102 rfl (Z102 ((Z101 _).trans Zv) (Z102 ((Z100 _).trans Zv) (Z102 rfl (Z102 rfl (Z102 ((Z100 _).trans Zv) h)))))))))))))))))))))
theorem HdrC.C_requests_cpy (s : HdrC) {lo : Nat} {l : List (BitVec 8)} (h : lo + l.length ≤ 32) : spl s.C (556 + lo) (u8s l) = ({ s with requests := cpV s.requests lo l } : HdrC).C := by
 rw [show 556 + lo = 32 + (32 + (20 + (32 + (32 + (32 + (256 + (4 + (1 + (1 + (1 + (1 + (1 + (32 + (8 + (1 + (4 + (32 + (1 + (1 + (32 + (lo))))))))))))))))))))) by omega]; exact (Z104 ((Z100 _).trans Zv) (Z104 ((Z100 _).trans Zv) (Z104 ((Z100 _).trans Zv) (Z104 ((Z100 _).trans Zv) (Z104 ((Z100 _).trans Zv) (Z104 ((Z100 _).trans Zv) (Z104 ((Z100 _).trans Zv) (Z104 ((Z101 _).trans Zv) (Z104 rfl (Z104 rfl (Z104 rfl (Z104 rfl (Z104 rfl (Z104 ((Z100 _).trans Zv) (Z104 ((Z100 _).trans Zv) (Z104 rfl (Z104 ((Z101 _).trans Zv) (Z104 ((Z100 _).trans Zv) (Z104 rfl (Z104 rfl (Z104 ((Z100 _).trans Zv) (u8s_cpV _ h))))))))))))))))))))))
structure Hdr where
 parent : Vector (BitVec 8) 32
 uncles : Vector (BitVec 8) 32
 coinbase : Vector (BitVec 8) 20
 state : Vector (BitVec 8) 32
 txRoot : Vector (BitVec 8) 32
 receiptRoot : Vector (BitVec 8) 32
 bloom : Vector (BitVec 8) 256
 difficulty : Vector (BitVec 64) 4
 number : BitVec 64
 limit : BitVec 64
 used : BitVec 64
 time : BitVec 64
 extra : List (BitVec 8)
 mix : Vector (BitVec 8) 32
 nonce : Vector (BitVec 8) 8
 tail : Int
 baseFee : Vector (BitVec 64) 4
 withdrawals : Vector (BitVec 8) 32
 blobUsed : BitVec 64
 blobExcess : BitVec 64
 beacon : Vector (BitVec 8) 32
 requests : Vector (BitVec 8) 32
def HdrRd (Φ : Ctx) (cs : List Value) (x : Hdr) : Prop := ∃ (A_extra : Option Addr), ∃ (c_extra : Nat), cs = (⟨x.parent, x.uncles, x.coinbase, x.state, x.txRoot, x.receiptRoot, x.bloom, x.difficulty, x.number, x.limit, x.used, x.time, .slice A_extra x.extra.length c_extra, x.mix, x.nonce, x.tail, x.baseFee, x.withdrawals, x.blobUsed, x.blobExcess, x.beacon, x.requests⟩ : HdrC).C ∧ (View Φ A_extra x.extra.length c_extra 1 (u8s x.extra)) ∧ (-9223372036854775808 ≤ x.tail ∧ x.tail ≤ 9223372036854775807)
theorem HdrRd.opn {Φ : Ctx} {cs : List Value} {x : Hdr} (h : HdrRd Φ cs x) : ∃ (A_extra : Option Addr), ∃ (c_extra : Nat), cs = (⟨x.parent, x.uncles, x.coinbase, x.state, x.txRoot, x.receiptRoot, x.bloom, x.difficulty, x.number, x.limit, x.used, x.time, .slice A_extra x.extra.length c_extra, x.mix, x.nonce, x.tail, x.baseFee, x.withdrawals, x.blobUsed, x.blobExcess, x.beacon, x.requests⟩ : HdrC).C ∧ (View Φ A_extra x.extra.length c_extra 1 (u8s x.extra)) ∧ (-9223372036854775808 ≤ x.tail ∧ x.tail ≤ 9223372036854775807) := h
theorem HdrRd.mono {Φ Ψ : Ctx} (hh : ∀ w, Ψ w → Φ w) (cs : List Value) (x : Hdr) : HdrRd Φ cs x → HdrRd Ψ cs x := fun ⟨A_extra, c_extra, e, v_extra, b_tail⟩ => ⟨A_extra, c_extra, e, v_extra.mono hh, b_tail⟩
theorem HdrRd.len {Φ : Ctx} (cs : List Value) (x : Hdr) (h : HdrRd Φ cs x) : cs.length = 588 := by
 obtain ⟨A_extra, c_extra, e, v_extra, b_tail⟩ := h
 rw [e]; exact HdrC.C_length _
theorem HdrRd.one {Φ : Ctx} (cs : List Value) (x : Hdr) (h : HdrRd Φ cs x) : ∀ u ∈ cs, u.oneCell' = true := by
 obtain ⟨A_extra, c_extra, e, v_extra, b_tail⟩ := h
 rw [e]; exact HdrC.C_one _ rfl
theorem HdrRd.mk {Φ : Ctx} {parent : Vector (BitVec 8) 32} {uncles : Vector (BitVec 8) 32} {coinbase : Vector (BitVec 8) 20} {state : Vector (BitVec 8) 32} {txRoot : Vector (BitVec 8) 32} {receiptRoot : Vector (BitVec 8) 32} {bloom : Vector (BitVec 8) 256} {difficulty : Vector (BitVec 64) 4} {number : BitVec 64} {limit : BitVec 64} {used : BitVec 64} {time : BitVec 64} {extra : List (BitVec 8)} {mix : Vector (BitVec 8) 32} {nonce : Vector (BitVec 8) 8} {tail : Int} {baseFee : Vector (BitVec 64) 4} {withdrawals : Vector (BitVec 8) 32} {blobUsed : BitVec 64} {blobExcess : BitVec 64} {beacon : Vector (BitVec 8) 32} {requests : Vector (BitVec 8) 32} {A_extra : Option Addr} {c_extra : Nat} (v_extra : View Φ A_extra extra.length c_extra 1 (u8s extra)) (b_tail : -9223372036854775808 ≤ tail ∧ tail ≤ 9223372036854775807) : HdrRd Φ (⟨parent, uncles, coinbase, state, txRoot, receiptRoot, bloom, difficulty, number, limit, used, time, .slice A_extra extra.length c_extra, mix, nonce, tail, baseFee, withdrawals, blobUsed, blobExcess, beacon, requests⟩ : HdrC).C (⟨parent, uncles, coinbase, state, txRoot, receiptRoot, bloom, difficulty, number, limit, used, time, extra, mix, nonce, tail, baseFee, withdrawals, blobUsed, blobExcess, beacon, requests⟩ : Hdr) := ⟨A_extra, c_extra, rfl, v_extra, b_tail⟩
end Go.Fw
namespace Go.Fw
def header_count (a0 : Int) : Option ((Nat)) := (if a0 = (0 : Int) then (some 15) else (if a0 = (1 : Int) then (some 16) else (if a0 = (2 : Int) then (some 17) else (if a0 = (3 : Int) then (some 20) else (some 21)))))
def header_tailOf.l1 (a0 : Int) : Nat → (Nat) → Option (Lp ((Int)) (Unit))
 | 0, _ => none
 | k10 + 1, n8 => (if n8 < 5 then ((header_count ((n8 : Nat) : Int)).bind fun x19 => (if ((x19 : Nat) : Int) = a0 then (some (Lp.ret (some ((n8 : Nat) : Int)))) else (header_tailOf.l1 a0 k10 (n8 + 1)))) else (some (Lp.go ())))
def header_tailOf (a0 : Int) : Option ((Int)) := (((header_tailOf.l1 a0 (5 - 0 + 2) 0) : Option (Lp ((Int)) (Unit))).bind fun | .ret o => o | .go () => (some (-1 : Int)))
def waybilllaw19_num (a0 : Int) : Option ((Int)) := (some a0)
def waybilllaw19_equal.l1 (a0 : List (BitVec 8)) (a1 : List (BitVec 8)) : Nat → (Nat) → Option (Lp ((Bool)) (Unit))
 | 0, _ => none
 | k13 + 1, n11 => (if n11 < a0.length then (a0[n11]?).bind fun x21 => (a1[n11]?).bind fun x24 => (if x21 = x24 then (waybilllaw19_equal.l1 a0 a1 k13 (n11 + 1)) else (some (Lp.ret (some false)))) else (some (Lp.go ())))
def waybilllaw19_equal (a0 : List (BitVec 8)) (a1 : List (BitVec 8)) : Option ((Bool)) := (if a0.length = a1.length then (((waybilllaw19_equal.l1 a0 a1 (a0.length - 0 + 2) 0) : Option (Lp ((Bool)) (Unit))).bind fun | .ret o => o | .go () => (some true)) else (some false))
def waybillref19_tail (a0 : Int) : Option ((Int)) := (if a0 = (15 : Int) then (some (0 : Int)) else (if a0 = (16 : Int) then (some (1 : Int)) else (if a0 = (17 : Int) then (some (2 : Int)) else (if a0 = (20 : Int) then (some (3 : Int)) else (if a0 = (21 : Int) then (some (4 : Int)) else (some (-1 : Int)))))))
def waybillref19_Same.l1 (a0 : Hdr) (a1 : Hdr) : Nat → (Nat) → Option (Lp ((Bool)) (Unit))
 | 0, _ => none
 | k71 + 1, n69 => (if n69 < a0.extra.length then (a0.extra[n69]?).bind fun x79 => (a1.extra[n69]?).bind fun x82 => (if x79 = x82 then (waybillref19_Same.l1 a0 a1 k71 (n69 + 1)) else (some (Lp.ret (some false)))) else (some (Lp.go ())))
def waybillref19_Same (a0 : Hdr) (a1 : Hdr) : Option ((Bool)) := (if a0.extra.length = a1.extra.length then (((waybillref19_Same.l1 a0 a1 (a0.extra.length - 0 + 2) 0) : Option (Lp ((Bool)) (Unit))).bind fun | .ret o => o | .go () => (((if a0.parent = a1.parent then (if a0.uncles = a1.uncles then (if a0.coinbase = a1.coinbase then (if a0.state = a1.state then (if a0.txRoot = a1.txRoot then (if a0.receiptRoot = a1.receiptRoot then (some ((!decide (a0.bloom = a1.bloom)))) else (some (true))) else (some (true))) else (some (true))) else (some (true))) else (some (true))) else (some (true))) : Option ((Bool))).bind fun p27 => (if p27 = true then (some false) else (((if a0.difficulty = a1.difficulty then (if a0.number = a1.number then (if a0.limit = a1.limit then (if a0.used = a1.used then (if a0.time = a1.time then (if a0.mix = a1.mix then (if a0.nonce = a1.nonce then (some ((!decide (a0.tail = a1.tail)))) else (some (true))) else (some (true))) else (some (true))) else (some (true))) else (some (true))) else (some (true))) else (some (true))) : Option ((Bool))).bind fun p36 => (if p36 = true then (some false) else (((if a0.baseFee = a1.baseFee then (if a0.withdrawals = a1.withdrawals then (if a0.blobUsed = a1.blobUsed then (if a0.blobExcess = a1.blobExcess then (if a0.beacon = a1.beacon then (some ((decide (a0.requests = a1.requests)))) else (some (false))) else (some (false))) else (some (false))) else (some (false))) else (some (false))) : Option ((Bool))).bind fun p45 => (some (p45)))))))) else (some false))
end Go.Fw
namespace Go.Fw
open Go
inductive Slk where
 | text (off n : Nat)
 | big (off : Nat)
 | word (off : Nat)
 | ext (off : Nat)
def npt : Value := .pointer none
def nsl : Value := .slice none 0 0
def Slk.cells (b : Nat) : Slk → List Value
 | .text o n => [sl (some b) o n n, npt, npt, npt]
 | .big o => [nsl, ptr (some b) o, npt, npt]
 | .word o => [nsl, npt, ptr (some b) o, npt]
 | .ext o => [nsl, npt, npt, ptr (some b) o]
def slotL : List Slk := [.text 0 32, .text 32 32, .text 64 20, .text 84 32, .text 116 32, .text 148 32, .text 180 256, .big 436, .word 440, .word 441, .word 442, .word 443, .ext 444, .text 445 32, .text 477 8, .big 486, .text 490 32, .word 522, .word 523, .text 524 32, .text 556 32]
def slotC (b : Nat) : List Value := (slotL.map (Slk.cells b)).flatten
theorem Slk.cells_length (b : Nat) (s : Slk) : (s.cells b).length = 4 := by cases s <;> rfl
theorem Slk.cells_one (b : Nat) (s : Slk) : ∀ u ∈ s.cells b, u.oneCell' = true := by cases s <;> (intro u hu; simp [Slk.cells] at hu; rcases hu with rfl | rfl | rfl | rfl <;> rfl)
theorem slotC_part (b i : Nat) {s : Slk} (h : slotL[i]? = some s) : ((slotC b).drop (i * 4)).take 4 = s.cells b := by
 have hi := (List.getElem?_eq_some_iff.1 h).1
 change i < 21 at hi
 rcases i with _ | _ | _ | _ | _ | _ | _ | _ | _ | _ | _ | _ | _ | _ | _ | _ | _ | _ | _ | _ | _ | i
 all_goals first | (obtain rfl := Zi h; rfl) | omega
theorem slotC_one (b : Nat) : ∀ u ∈ slotC b, u.oneCell' = true := by
 intro u hu
 obtain ⟨l, hl, hu⟩ := List.mem_flatten.1 hu
 obtain ⟨s, _, rfl⟩ := List.mem_map.1 hl
 exact Slk.cells_one b s u hu
theorem slotC_def (b : Nat) : (slotL.map (Slk.cells b)).flatten = slotC b := rfl
theorem slotC_hl {b : Nat} : (List.flatten (List.replicate 21 [nsl, npt, npt, npt])).length = (slotL.map (Slk.cells b)).length * 4 := by rw [List.length_map]; rfl
inductive Fd where
 | text (l : List (BitVec 8))
 | big (v : Vector (BitVec 64) 4)
 | word (x : BitVec 64)
 | ext (l : List (BitVec 8))
def Fd.item : Fd → Option It
 | .text l => rlp_Text l
 | .big v => rlp_Number v
 | .word x => rlp_Small x
 | .ext l => rlp_Text l
def SlotAt (Φ : Ctx) (b : Nat) : Slk → Fd → Prop
 | .text o n, .text l => l.length = n ∧ View Φ (some ⟨b, o, none⟩) l.length n 1 (u8s l)
 | .big o, .big v => ∀ w, Φ w → ∀ j u, (u64s v.toList)[j]? = some u → w.cell? ⟨b, o + j, none⟩ = some u
 | .word o, .word x => ∀ w, Φ w → w.cell? ⟨b, o, none⟩ = some (U64 x)
 | .ext o, .ext l => ∃ A c, (∀ w, Φ w → w.cell? ⟨b, o, none⟩ = some (.slice A l.length c)) ∧ View Φ A l.length c 1 (u8s l)
 | _, _ => False
theorem SlotAt.mono {Φ Ψ : Ctx} {b : Nat} {s : Slk} {f : Fd} (h : SlotAt Φ b s f) (hh : ∀ w, Ψ w → Φ w) : SlotAt Ψ b s f := by
 cases s <;> cases f <;> first | exact h.elim | skip
 ·exact ⟨h.1, h.2.mono hh⟩
 ·exact fun w q => h w (hh w q)
 ·exact fun w q => h w (hh w q)
 ·obtain ⟨A, c, h1, h2⟩ := h
  exact ⟨A, c, fun w q => h1 w (hh w q), h2.mono hh⟩
def Hdr.fds (h : Hdr) : List Fd := [.text h.parent.toList, .text h.uncles.toList, .text h.coinbase.toList, .text h.state.toList, .text h.txRoot.toList, .text h.receiptRoot.toList, .text h.bloom.toList, .big h.difficulty, .word h.number, .word h.limit, .word h.used, .word h.time, .ext h.extra, .text h.mix.toList, .text h.nonce.toList, .big h.baseFee, .text h.withdrawals.toList, .word h.blobUsed, .word h.blobExcess, .text h.beacon.toList, .text h.requests.toList]
def Hdr.C (x : Hdr) (A : Option Addr) (c : Nat) : HdrC := ⟨x.parent, x.uncles, x.coinbase, x.state, x.txRoot, x.receiptRoot, x.bloom, x.difficulty, x.number, x.limit, x.used, x.time, .slice A x.extra.length c, x.mix, x.nonce, x.tail, x.baseFee, x.withdrawals, x.blobUsed, x.blobExcess, x.beacon, x.requests⟩
end Go.Fw
namespace Go.Fw
open Go
theorem Hdr.fds_length (h : Hdr) : h.fds.length = 21 := rfl
def readS : Slk → It → Option (Fd × Nat)
 | .text _ n, x => (rlp_GetFixed x (n : Int)).bind fun p => some (.text p.1, p.2)
 | .big _, x => (rlp_GetNumber x).bind fun p => some (.big p.1, p.2)
 | .word _, x => (rlp_GetSmall x).bind fun p => some (.word p.1, p.2)
 | .ext _, x => (rlp_GetText x).bind fun p => some (.ext p.1, if p.2 = 0 ∧ 32 < p.1.length then 192 else p.2)
def Slk.width : Slk → Int
 | .text _ n => (n : Int)
 | .big _ => -1
 | .word _ => -2
 | .ext _ => -3
def Slk.off : Slk → Nat
 | .text o _ => o
 | .big o => o
 | .word o => o
 | .ext o => o
def Slk.sz : Slk → Nat
 | .text _ n => n
 | .big _ => 4
 | .word _ => 1
 | .ext _ => 1
def Wrote (Ψ : Ctx) (l l' : List Value) : Slk → Fd → Prop
 | .text o n, .text x => x.length ≤ n ∧ l' = spl l o (u8s x)
 | .big o, .big v => l' = spl l o (u64s v.toList)
 | .word o, .word x => l' = l.set o (U64 x)
 | .ext o, .ext x => ∃ A c, l' = l.set o (.slice A x.length c) ∧ View Ψ A x.length c 1 (u8s x)
 | _, _ => False
theorem getFixed_len {x : It} {n : Nat} {b : List (BitVec 8)} {e : Nat} (h : rlp_GetFixed x (n : Int) = some (b, e)) : (e = 0 ∧ b.length = n) ∨ (e ≠ 0 ∧ b = []) := by
 unfold rlp_GetFixed at h
 rw [if_neg (by omega)] at h
 obtain ⟨k, hk, h⟩ := Option.bind_eq_some_iff.1 h
 by_cases h1 : k = 0
 ·rw [if_pos h1] at h
  by_cases h2 : ((x.data.length : Nat) : Int) = (n : Int)
  ·rw [if_pos h2] at h
   obtain ⟨y, hy, h⟩ := Option.bind_eq_some_iff.1 h
   obtain ⟨rfl, rfl⟩ := Prod.mk.inj (Zi h)
   obtain rfl := Zi hy
   exact .inl ⟨rfl, by omega⟩
  ·rw [if_neg h2] at h
   obtain ⟨rfl, rfl⟩ := Prod.mk.inj (Zi h)
   exact .inr ⟨by decide, rfl⟩
 ·rw [if_neg h1] at h
  obtain ⟨rfl, rfl⟩ := Prod.mk.inj (Zi h)
  exact .inr ⟨h1, rfl⟩
def Hdr.put : Nat → Hdr → Fd → Hdr
 | 0, h, .text x => { h with parent := cpV h.parent 0 x }
 | 1, h, .text x => { h with uncles := cpV h.uncles 0 x }
 | 2, h, .text x => { h with coinbase := cpV h.coinbase 0 x }
 | 3, h, .text x => { h with state := cpV h.state 0 x }
 | 4, h, .text x => { h with txRoot := cpV h.txRoot 0 x }
 | 5, h, .text x => { h with receiptRoot := cpV h.receiptRoot 0 x }
 | 6, h, .text x => { h with bloom := cpV h.bloom 0 x }
 | 7, h, .big x => { h with difficulty := x }
 | 8, h, .word x => { h with number := x }
 | 9, h, .word x => { h with limit := x }
 | 10, h, .word x => { h with used := x }
 | 11, h, .word x => { h with time := x }
 | 12, h, .ext x => { h with extra := x }
 | 13, h, .text x => { h with mix := cpV h.mix 0 x }
 | 14, h, .text x => { h with nonce := cpV h.nonce 0 x }
 | 15, h, .big x => { h with baseFee := x }
 | 16, h, .text x => { h with withdrawals := cpV h.withdrawals 0 x }
 | 17, h, .word x => { h with blobUsed := x }
 | 18, h, .word x => { h with blobExcess := x }
 | 19, h, .text x => { h with beacon := cpV h.beacon 0 x }
 | 20, h, .text x => { h with requests := cpV h.requests 0 x }
 | _, h, _ => h
theorem Z113 (i : Nat) (h : Hdr) (f : Fd) : (h.put i f).tail = h.tail := by
 unfold Hdr.put
 split <;> rfl
theorem Wrote.put {Ψ : Ctx} {h : Hdr} {A : Option Addr} {c i : Nat} {s : Slk} {f : Fd} {l' : List Value} (hs : slotL[i]? = some s) (hw : Wrote Ψ (h.C A c).C l' s f) (hv : View Ψ A h.extra.length c 1 (u8s h.extra)) :
    ∃ A' c', l' = ((h.put i f).C A' c').C ∧ View Ψ A' (h.put i f).extra.length c' 1 (u8s (h.put i f).extra) := by
 have hi := (List.getElem?_eq_some_iff.1 hs).1
 change i < 21 at hi
 rcases i with _ | _ | _ | _ | _ | _ | _ | _ | _ | _ | _ | _ | _ | _ | _ | _ | _ | _ | _ | _ | _ | i
 ·obtain rfl := Zi hs
  cases f <;> first | exact hw.elim | skip
  exact ⟨A, c, by rw [hw.2]; exact HdrC.C_parent_cpy (h.C A c) (lo := 0) (by rw [Nat.zero_add]; exact hw.1), hv⟩
 ·obtain rfl := Zi hs
  cases f <;> first | exact hw.elim | skip
  exact ⟨A, c, by rw [hw.2]; exact HdrC.C_uncles_cpy (h.C A c) (lo := 0) (by rw [Nat.zero_add]; exact hw.1), hv⟩
 ·obtain rfl := Zi hs
  cases f <;> first | exact hw.elim | skip
  exact ⟨A, c, by rw [hw.2]; exact HdrC.C_coinbase_cpy (h.C A c) (lo := 0) (by rw [Nat.zero_add]; exact hw.1), hv⟩
 ·obtain rfl := Zi hs
  cases f <;> first | exact hw.elim | skip
  exact ⟨A, c, by rw [hw.2]; exact HdrC.C_state_cpy (h.C A c) (lo := 0) (by rw [Nat.zero_add]; exact hw.1), hv⟩
 ·obtain rfl := Zi hs
  cases f <;> first | exact hw.elim | skip
  exact ⟨A, c, by rw [hw.2]; exact HdrC.C_txRoot_cpy (h.C A c) (lo := 0) (by rw [Nat.zero_add]; exact hw.1), hv⟩
 ·obtain rfl := Zi hs
  cases f <;> first | exact hw.elim | skip
  exact ⟨A, c, by rw [hw.2]; exact HdrC.C_receiptRoot_cpy (h.C A c) (lo := 0) (by rw [Nat.zero_add]; exact hw.1), hv⟩
 ·obtain rfl := Zi hs
  cases f <;> first | exact hw.elim | skip
  exact ⟨A, c, by rw [hw.2]; exact HdrC.C_bloom_cpy (h.C A c) (lo := 0) (by rw [Nat.zero_add]; exact hw.1), hv⟩
 ·obtain rfl := Zi hs
  cases f <;> first | exact hw.elim | skip
  exact ⟨A, c, by rw [hw]; exact HdrC.C_difficulty_spl (h.C A c) _, hv⟩
 ·obtain rfl := Zi hs
  cases f <;> first | exact hw.elim | skip
  exact ⟨A, c, by rw [hw]; exact HdrC.C_number_set (h.C A c) _, hv⟩
 ·obtain rfl := Zi hs
  cases f <;> first | exact hw.elim | skip
  exact ⟨A, c, by rw [hw]; exact HdrC.C_limit_set (h.C A c) _, hv⟩
 ·obtain rfl := Zi hs
  cases f <;> first | exact hw.elim | skip
  exact ⟨A, c, by rw [hw]; exact HdrC.C_used_set (h.C A c) _, hv⟩
 ·obtain rfl := Zi hs
  cases f <;> first | exact hw.elim | skip
  exact ⟨A, c, by rw [hw]; exact HdrC.C_time_set (h.C A c) _, hv⟩
 ·obtain rfl := Zi hs
  cases f <;> first | exact hw.elim | skip
  obtain ⟨A2, c2, rfl, hv2⟩ := hw
  exact ⟨A2, c2, HdrC.C_extra_set (h.C A c) _, hv2⟩
 ·obtain rfl := Zi hs
  cases f <;> first | exact hw.elim | skip
  exact ⟨A, c, by rw [hw.2]; exact HdrC.C_mix_cpy (h.C A c) (lo := 0) (by rw [Nat.zero_add]; exact hw.1), hv⟩
 ·obtain rfl := Zi hs
  cases f <;> first | exact hw.elim | skip
  exact ⟨A, c, by rw [hw.2]; exact HdrC.C_nonce_cpy (h.C A c) (lo := 0) (by rw [Nat.zero_add]; exact hw.1), hv⟩
 ·obtain rfl := Zi hs
  cases f <;> first | exact hw.elim | skip
  exact ⟨A, c, by rw [hw]; exact HdrC.C_baseFee_spl (h.C A c) _, hv⟩
 ·obtain rfl := Zi hs
  cases f <;> first | exact hw.elim | skip
  exact ⟨A, c, by rw [hw.2]; exact HdrC.C_withdrawals_cpy (h.C A c) (lo := 0) (by rw [Nat.zero_add]; exact hw.1), hv⟩
 ·obtain rfl := Zi hs
  cases f <;> first | exact hw.elim | skip
  exact ⟨A, c, by rw [hw]; exact HdrC.C_blobUsed_set (h.C A c) _, hv⟩
 ·obtain rfl := Zi hs
  cases f <;> first | exact hw.elim | skip
  exact ⟨A, c, by rw [hw]; exact HdrC.C_blobExcess_set (h.C A c) _, hv⟩
 ·obtain rfl := Zi hs
  cases f <;> first | exact hw.elim | skip
  exact ⟨A, c, by rw [hw.2]; exact HdrC.C_beacon_cpy (h.C A c) (lo := 0) (by rw [Nat.zero_add]; exact hw.1), hv⟩
 ·obtain rfl := Zi hs
  cases f <;> first | exact hw.elim | skip
  exact ⟨A, c, by rw [hw.2]; exact HdrC.C_requests_cpy (h.C A c) (lo := 0) (by rw [Nat.zero_add]; exact hw.1), hv⟩
 ·omega
def Hdr.zero : Hdr := ⟨Vector.replicate 32 0#8, Vector.replicate 32 0#8, Vector.replicate 20 0#8, Vector.replicate 32 0#8, Vector.replicate 32 0#8, Vector.replicate 32 0#8, Vector.replicate 256 0#8, Vector.replicate 4 0#64, 0#64, 0#64, 0#64, 0#64, [], Vector.replicate 32 0#8, Vector.replicate 8 0#8, 0, Vector.replicate 4 0#64, Vector.replicate 32 0#8, 0#64, 0#64, Vector.replicate 32 0#8, Vector.replicate 32 0#8⟩
def fieldsL : List Int := [32, 32, 20, 32, 32, 32, 256, -1, -2, -2, -2, -2, -3, 32, 8, -1, 32, -2, -2, 32, 32]
theorem slot_width {i : Nat} {s : Slk} (h : slotL[i]? = some s) : fieldsL[i]? = some s.width := by
 have e : fieldsL = slotL.map Slk.width := rfl
 rw [e, List.getElem?_map, h]; rfl
theorem slot_le {i : Nat} {s : Slk} (h : slotL[i]? = some s) : s.width ≤ 1000 ∧ s.off + s.sz ≤ 588 := by
 have e : ∀ s ∈ slotL, s.width ≤ 1000 ∧ s.off + s.sz ≤ 588 := by decide
 exact e s (List.mem_of_getElem? h)
def parseL : Nat → List It → Hdr → Option (Hdr × Nat)
 | _, [], h => some (h, 0)
 | i, x :: r, h => match slotL[i]? with
  | none => some (h, 0)
  | some s => (readS s x).bind fun p => if p.2 = 0 then parseL (i + 1) r (h.put i p.1) else some (h.put i p.1, p.2)
def header_Parse (x : It) : Option (Hdr × Nat) := (rlp_GetList x).bind fun p => if p.2 = 0 then (header_tailOf ((p.1.length : Nat) : Int)).bind fun t => if t < (0 : Int) then some (Hdr.zero, 190) else (parseL 0 p.1 { Hdr.zero with tail := t }).bind fun q => if q.2 = 0 then some (q.1, 0) else some (Hdr.zero, q.2) else some (Hdr.zero, p.2)
theorem tailOf_eq (n : Int) : header_tailOf n = some (if n = 15 then 0 else if n = 16 then 1 else if n = 17 then 2 else if n = 20 then 3 else if n = 21 then 4 else -1) := by
 simp only [header_tailOf, header_tailOf.l1, header_count]
 by_cases h1 : n = 15
 ·subst h1; rfl
 by_cases h2 : n = 16
 ·subst h2; rfl
 by_cases h3 : n = 17
 ·subst h3; rfl
 by_cases h4 : n = 20
 ·subst h4; rfl
 by_cases h5 : n = 21
 ·subst h5; rfl
 simp [h1, h2, h3, h4, h5, Ne.symm h1, Ne.symm h2, Ne.symm h3, Ne.symm h4, Ne.symm h5]
theorem tailOf_le {n : Nat} {t : Int} (h : header_tailOf (n : Int) = some t) (ht : ¬ t < 0) : n ≤ 21 := by
 rw [tailOf_eq] at h
 obtain rfl := Zi h
 by_cases h1 : (n : Int) = 15
 ·omega
 by_cases h2 : (n : Int) = 16
 ·omega
 by_cases h3 : (n : Int) = 17
 ·omega
 by_cases h4 : (n : Int) = 20
 ·omega
 by_cases h5 : (n : Int) = 21
 ·omega
 rw [if_neg h1, if_neg h2, if_neg h3, if_neg h4, if_neg h5] at ht
 exact absurd (by decide) ht
theorem fillL_one {pl : List (Nat × Nat)} {l l' : List Value} {i off : Nat} {v : Value} (h1 : pl[i]? = some (off, 1)) (h2 : off + 1 ≤ l.length) (h3 : l.set off v = l') : fillL pl l [(i, [v])] = some l' := by
 subst h3
 have e : spl l off [v] = l.set off v := by
  unfold spl
  rw [List.set_eq_take_append_cons_drop, if_pos (by omega)]
  simp
 simp only [fillL, h1]
 rw [if_pos (by simp; omega), e]
theorem HdrRd.zero {Φ : Ctx} : HdrRd Φ (⟨(Vector.replicate 32 0#8), (Vector.replicate 32 0#8), (Vector.replicate 20 0#8), (Vector.replicate 32 0#8), (Vector.replicate 32 0#8), (Vector.replicate 32 0#8), (Vector.replicate 256 0#8), (Vector.replicate 4 0#64), 0#64, 0#64, 0#64, 0#64, .slice none 0 0, (Vector.replicate 32 0#8), (Vector.replicate 8 0#8), (0 : Int), (Vector.replicate 4 0#64), (Vector.replicate 32 0#8), 0#64, 0#64, (Vector.replicate 32 0#8), (Vector.replicate 32 0#8)⟩ : HdrC).C (Hdr.mk (Vector.replicate 32 0#8) (Vector.replicate 32 0#8) (Vector.replicate 20 0#8) (Vector.replicate 32 0#8) (Vector.replicate 32 0#8) (Vector.replicate 32 0#8) (Vector.replicate 256 0#8) (Vector.replicate 4 0#64) (0#64) (0#64) (0#64) (0#64) ([] : List (BitVec 8)) (Vector.replicate 32 0#8) (Vector.replicate 8 0#8) (0 : Int) (Vector.replicate 4 0#64) (Vector.replicate 32 0#8) (0#64) (0#64) (Vector.replicate 32 0#8) (Vector.replicate 32 0#8)) := ⟨none, 0, rfl, View.nil, by decide, by decide⟩
end Go.Fw
namespace Go.Fw
abbrev It.zero : It := It.mk false [] []
def dec : Nat → Nat → List (BitVec 8) → It → List (List It × List (BitVec 8)) → Option (It × Nat)
 | 0, _, _, _, _ => none
 | k + 1, 1, b, _, st => (rlp_cut b).bind fun (x1, x2, x3, x4) => (if x4 = 0 then (if x1 = true then (if st.length = 1024 then some (It.zero, 74) else (if (st.length + 1) * 48 ≤ 140737488355328 then dec k 3 x2 It.zero (([], x3) :: st) else none)) else ((rlp_Text x2).bind fun x => dec k 2 x3 x st)) else some (It.zero, x4))
 | _ + 1, 2, b, it, [] => if 0 < b.length then some (It.zero, 73) else some (it, 0)
 | k + 1, 2, b, it, (l, bh) :: st => if (l.length + 1) * 56 ≤ 140737488355328 then dec k 3 b It.zero ((l ++ [it], bh) :: st) else none
 | k + 1, 3, b, _, st => if 0 < b.length then dec k 1 b It.zero st else (match st with
  | [] => none
  | (l, bh) :: st => dec k 2 bh (It.mk true [] l) st)
 | _ + 1, _, _, _, _ => none
theorem dec_1 (k : Nat) (b : List (BitVec 8)) (it : It) (st : List (List It × List (BitVec 8))) : dec (k + 1) 1 b it st = (rlp_cut b).bind fun (x1, x2, x3, x4) => (if x4 = 0 then (if x1 = true then (if st.length = 1024 then some (It.zero, 74) else (if (st.length + 1) * 48 ≤ 140737488355328 then dec k 3 x2 It.zero (([], x3) :: st) else none)) else ((rlp_Text x2).bind fun x => dec k 2 x3 x st)) else some (It.zero, x4)) := by rw [dec]
theorem dec_2n (k : Nat) (b : List (BitVec 8)) (it : It) : dec (k + 1) 2 b it [] = if 0 < b.length then some (It.zero, 73) else some (it, 0) := by rw [dec]
theorem dec_2c (k : Nat) (b : List (BitVec 8)) (it : It) (l : List It) (bh : List (BitVec 8)) (st : List (List It × List (BitVec 8))) : dec (k + 1) 2 b it ((l, bh) :: st) = if (l.length + 1) * 56 ≤ 140737488355328 then dec k 3 b It.zero ((l ++ [it], bh) :: st) else none := by rw [dec]
theorem dec_3 (k : Nat) (b : List (BitVec 8)) (it : It) (st : List (List It × List (BitVec 8))) : dec (k + 1) 3 b it st = if 0 < b.length then dec k 1 b It.zero st else (match st with
    | [] => none
    | (l, bh) :: st => dec k 2 bh (It.mk true [] l) st) := by cases st <;> rfl
def rlp_Decode (a0 : List (BitVec 8)) : Option (It × Nat) := if 16777216 < a0.length then some (It.zero, 2) else dec (4 * a0.length + 8) 1 a0 It.zero []
end Go.Fw
namespace Go.Fw
def header_Decode (a0 : List (BitVec 8)) : Option ((Hdr) × (Nat)) := ((rlp_Decode a0).bind fun (x4, x5) => (if x5 = 0 then ((header_Parse x4).bind fun (x31, x32) => (some (x31, x32))) else (some ((Hdr.mk (Vector.replicate 32 0#8) (Vector.replicate 32 0#8) (Vector.replicate 20 0#8) (Vector.replicate 32 0#8) (Vector.replicate 32 0#8) (Vector.replicate 32 0#8) (Vector.replicate 256 0#8) (Vector.replicate 4 0#64) (0#64) (0#64) (0#64) (0#64) ([] : List (BitVec 8)) (Vector.replicate 32 0#8) (Vector.replicate 8 0#8) (0 : Int) (Vector.replicate 4 0#64) (Vector.replicate 32 0#8) (0#64) (0#64) (Vector.replicate 32 0#8) (Vector.replicate 32 0#8)), x5))))
end Go.Fw
namespace Go.Fw
def val4 (v : Vector (BitVec 64) 4) : Nat := v[0].toNat + 2 ^ 64 * v[1].toNat + 2 ^ 128 * v[2].toNat + 2 ^ 192 * v[3].toNat
def lim (n : Nat) : Vector (BitVec 64) 4 := #v[BitVec.ofNat 64 n, BitVec.ofNat 64 (n / 2 ^ 64), BitVec.ofNat 64 (n / 2 ^ 128), BitVec.ofNat 64 (n / 2 ^ 192)]
theorem vec4_ext {a b : Vector (BitVec 64) 4} (h0 : a[0] = b[0]) (h1 : a[1] = b[1]) (h2 : a[2] = b[2]) (h3 : a[3] = b[3]) : a = b := by
 apply Vector.ext
 intro i hi
 match i, hi with
 | 0, _ => exact h0
 | 1, _ => exact h1
 | 2, _ => exact h2
 | 3, _ => exact h3
theorem val4_lt (v : Vector (BitVec 64) 4) : val4 v < 2 ^ 256 := by
 have h0 := v[0].isLt; have h1 := v[1].isLt; have h2 := v[2].isLt; have h3 := v[3].isLt
 unfold val4
 omega
theorem val4_lim (n : Nat) (h : n < 2 ^ 256) : val4 (lim n) = n := by
 simp only [val4, lim, Vector.getElem_mk, List.getElem_toArray, List.getElem_cons_zero, List.getElem_cons_succ, BitVec.toNat_ofNat]
 omega
theorem lim_val4 (v : Vector (BitVec 64) 4) : lim (val4 v) = v := by
 have h0 := v[0].isLt; have h1 := v[1].isLt; have h2 := v[2].isLt; have h3 := v[3].isLt
 apply vec4_ext <;> (apply BitVec.eq_of_toNat_eq; simp only [lim, Vector.getElem_mk, List.getElem_toArray, List.getElem_cons_zero, List.getElem_cons_succ, BitVec.toNat_ofNat, val4]; omega)
theorem val4_inj {a b : Vector (BitVec 64) 4} (h : val4 a = val4 b) : a = b := by rw [← lim_val4 a, ← lim_val4 b, h]
theorem from_eq (x : BitVec 64) : u256_From x = some (lim x.toNat) := by
 unfold u256_From
 congr 1
 have := x.isLt
 apply vec4_ext <;> (apply BitVec.eq_of_toNat_eq; simp [lim]; try omega)
theorem rfrom_eq (x : BitVec 64) : waybillref01_From x = some (lim x.toNat) := by
 unfold waybillref01_From
 congr 1
 have := x.isLt
 apply vec4_ext <;> (apply BitVec.eq_of_toNat_eq; simp [lim]; try omega)
def cmpN (a b : Nat) : Int := if a < b then -1 else if a = b then 0 else 1
theorem sub64c_eq (x y b : BitVec 64) (hb : b.toNat ≤ 1) : sub64c x y b = some (x - y - b, if x.toNat < y.toNat + b.toNat then 1#64 else 0#64) := by
 unfold sub64c; rw [if_pos hb]
theorem brw (p : Prop) [Decidable p] : (if p then 1#64 else 0#64).toNat = if p then 1 else 0 := by split <;> rfl
theorem u256_Sub_brw (x y : Vector (BitVec 64) 4) : ∃ d, u256_Sub x y = some (d, if val4 x < val4 y then 1#64 else 0#64) := by
 have g : ∀ (v : Vector (BitVec 64) 4) (i : Nat) (h : i < 4), v[i]? = some v[i] := fun v i h => Vector.getElem?_eq_getElem h
 have hb : ∀ (p : Prop) [Decidable p], (if p then 1#64 else 0#64).toNat ≤ 1 := fun p _ => by rw [brw]; split <;> omega
 have x0 := x[0].isLt; have x1 := x[1].isLt; have x2 := x[2].isLt; have x3 := x[3].isLt
 have y0 := y[0].isLt; have y1 := y[1].isLt; have y2 := y[2].isLt; have y3 := y[3].isLt
 unfold u256_Sub
 simp only [u256_Sub.l1, g x 0 (by omega), g x 1 (by omega), g x 2 (by omega), g x 3 (by omega), g y 0 (by omega), g y 1 (by omega), g y 2 (by omega), g y 3 (by omega), Zb, Nat.zero_add, Nat.reduceAdd, Nat.reduceLT, if_true, if_false, Nat.lt_irrefl, Nat.reduceSub]
 rw [sub64c_eq _ _ _ (by simp)]
 simp only [Zb]
 rw [sub64c_eq _ _ _ (hb _)]
 simp only [Zb]
 rw [sub64c_eq _ _ _ (hb _)]
 simp only [Zb]
 rw [sub64c_eq _ _ _ (hb _)]
 simp only [Zb, brw]
 have key : (x[3].toNat < y[3].toNat + if x[2].toNat < y[2].toNat + (if x[1].toNat < y[1].toNat + (if x[0].toNat < y[0].toNat + (0#64).toNat then 1 else 0) then 1 else 0) then 1 else 0) ↔ val4 x < val4 y := by
  unfold val4
  have h0 : (0#64).toNat = 0 := rfl
  rw [h0]
  split <;> split <;> split <;> omega
 simp only [key]
 exact ⟨_, rfl⟩
theorem cmp_eq (x y : Vector (BitVec 64) 4) : u256_Cmp x y = some (cmpN (val4 x) (val4 y)) := by
 unfold u256_Cmp cmpN
 by_cases h : x = y
 ·subst h; simp
 ·rw [if_neg h]
  obtain ⟨d, hd⟩ := u256_Sub_brw x y
  rw [hd]
  have hne : ¬ val4 x = val4 y := fun e => h (val4_inj e)
  by_cases hl : val4 x < val4 y
  ·simp [hl]
  ·simp [hl, hne]
theorem rcmp_eq (x y : Vector (BitVec 64) 4) : waybillref01_Cmp x y = some (cmpN (val4 x) (val4 y)) := by
 have g : ∀ (v : Vector (BitVec 64) 4) (i : Nat) (h : i < 4), v[i]? = some v[i] := fun v i h => Vector.getElem?_eq_getElem h
 have x0 := x[0].isLt; have x1 := x[1].isLt; have x2 := x[2].isLt; have x3 := x[3].isLt
 have y0 := y[0].isLt; have y1 := y[1].isLt; have y2 := y[2].isLt; have y3 := y[3].isLt
 unfold waybillref01_Cmp cmpN val4
 simp only [waybillref01_Cmp.l1, Int.reduceLE, if_true, Int.reduceSub, Int.reduceToNat, Int.toNat_zero, Int.reduceNeg, and_self, Nat.reduceLT, g x 0 (by omega), g x 1 (by omega), g x 2 (by omega), g x 3 (by omega), g y 0 (by omega), g y 1 (by omega), g y 2 (by omega), g y 3 (by omega), Zb, if_false, Nat.zero_lt_succ, Nat.lt_add_one]
 repeat' split
 all_goals first
  | rfl
  | (simp; omega)
  | (simp_all; omega)
  | omega
end Go.Fw
namespace Go.Fw
def be : Nat → Nat → List (BitVec 8)
 | 0, _ => []
 | k + 1, n => BitVec.ofNat 8 (n / 256 ^ k) :: be k n
theorem be_length : ∀ (k n : Nat), (be k n).length = k
 | 0, _ => rfl
 | k + 1, n => by simp [be, be_length k n]
def bl (n : Nat) : Nat := if n = 0 then 0 else n.log2 + 1
theorem bl_spec {n : Nat} (h : n ≠ 0) : ∃ k, bl n = k + 1 ∧ 2 ^ k ≤ n ∧ n < 2 ^ (k + 1) := ⟨n.log2, by unfold bl; rw [if_neg h], Nat.log2_self_le h, Nat.lt_log2_self⟩
theorem bl_le {n k : Nat} (h : n < 2 ^ k) : bl n ≤ k := by
 unfold bl
 split
 ·omega
 ·have := (Nat.log2_lt (n := n) (k := k) (by omega)).2 h; omega
theorem vget (v : Vector (BitVec 64) 4) (i : Nat) (h : i < 4) : v[i]? = some v[i] := Vector.getElem?_eq_getElem h
end Go.Fw
namespace Go.Fw
theorem limb (v : Vector (BitVec 64) 4) (q : Nat) (h : q < 4) : val4 v / 2 ^ (64 * q) % 2 ^ 64 = v[q].toNat := by
 have x0 := v[0].isLt; have x1 := v[1].isLt; have x2 := v[2].isLt; have x3 := v[3].isLt
 unfold val4
 match q, h with
 | 0, _ => simp only [Nat.mul_zero, Nat.pow_zero, Nat.div_one]; omega
 | 1, _ => simp only [Nat.mul_one]; omega
 | 2, _ => simp only [Nat.reduceMul]; omega
 | 3, _ => simp only [Nat.reduceMul]; omega
theorem pow256 (r : Nat) : 256 ^ r = 2 ^ (8 * r) := by rw [show (256 : Nat) = 2 ^ 8 by rfl, ← Nat.pow_mul]
def nb (n : Nat) : Nat := (bl n + 7) / 8
def bytesN (n : Nat) : List (BitVec 8) := be (nb n) n
theorem nb_le {n : Nat} (h : n < 2 ^ 256) : nb n ≤ 32 := by have := bl_le h; unfold nb; omega
end Go.Fw
namespace Go.Fw
def beV (l : List (BitVec 8)) : Nat := l.foldl (fun n x => n * 256 + x.toNat) 0
theorem beV_snoc (l : List (BitVec 8)) (x : BitVec 8) : beV (l ++ [x]) = beV l * 256 + x.toNat := by simp [beV]
theorem lim_get (n j : Nat) (h : j < 4) : (lim n)[j] = BitVec.ofNat 64 (n / 2 ^ (64 * j)) := by
 match j, h with
 | 0, _ => simp [lim]
 | 1, _ => simp [lim]
 | 2, _ => simp [lim]
 | 3, _ => simp [lim]
theorem or_low (A B : BitVec 64) (k a : Nat) (hA : A.toNat = 2 ^ k * a) (hB : B.toNat < 2 ^ k) : A ||| B = A + B := by
 apply BitVec.eq_of_toNat_eq
 have h1 : (A ||| B).toNat = A.toNat + B.toNat := by rw [BitVec.toNat_or, hA, ← Nat.two_pow_add_eq_or_of_lt hB]
 have h2 := (A ||| B).isLt
 rw [BitVec.toNat_add, h1, Nat.mod_eq_of_lt (by omega)]
theorem shl_toNat (x : BitVec 8) (r : Nat) (h : r < 8) : ((x.setWidth 64) <<< (8 * r)).toNat = x.toNat * 2 ^ (8 * r) := by
 have hx := x.isLt
 rw [BitVec.toNat_shiftLeft, BitVec.toNat_setWidth, Nat.shiftLeft_eq, Nat.mod_eq_of_lt (a := x.toNat) (by omega), Nat.mod_eq_of_lt]
 have h1 : 2 ^ (8 * r) ≤ 2 ^ 56 := Nat.pow_le_pow_right (by omega) (by omega)
 have h2 : x.toNat * 2 ^ (8 * r) ≤ 255 * 2 ^ 56 := Nat.mul_le_mul (by omega) h1
 omega
theorem set_byte (m p : Nat) (x : BitVec 8) (hp : p / 8 < 4) :
    (lim (m * 256 ^ (p + 1))).setIfInBounds (p / 8) ((lim (m * 256 ^ (p + 1)))[p / 8] + (x.setWidth 64) <<< (8 * (p % 8))) = lim ((m * 256 + x.toNat) * 256 ^ p) := by
 have hx := x.isLt
 have hr : p % 8 < 8 := Nat.mod_lt _ (by omega)
 have e0 : (m * 256 + x.toNat) * 256 ^ p = m * 256 ^ (p + 1) + x.toNat * 256 ^ p := by rw [Nat.add_mul, Nat.pow_succ]; rw [Nat.mul_assoc, Nat.mul_comm 256]
 have e1 : 256 ^ p = 2 ^ (64 * (p / 8)) * 2 ^ (8 * (p % 8)) := by rw [pow256, ← Nat.pow_add]; congr 1; omega
 apply Vector.ext
 intro j hj
 rw [Vector.getElem_setIfInBounds]
 by_cases hjq : p / 8 = j
 ·subst hjq
  rw [if_pos rfl, lim_get _ _ hp, lim_get _ _ hp]
  apply BitVec.eq_of_toNat_eq
  rw [BitVec.toNat_add, shl_toNat x _ hr, BitVec.toNat_ofNat, BitVec.toNat_ofNat, e0, e1]
  have hpos : 0 < 2 ^ (64 * (p / 8)) := Nat.two_pow_pos _
  rw [show x.toNat * (2 ^ (64 * (p / 8)) * 2 ^ (8 * (p % 8))) = 2 ^ (64 * (p / 8)) * (x.toNat * 2 ^ (8 * (p % 8))) by rw [← Nat.mul_assoc, Nat.mul_comm x.toNat, Nat.mul_assoc], Nat.add_mul_div_left _ _ hpos]
  rw [Nat.add_mod, Nat.mod_mod, ← Nat.add_mod]
 ·rw [if_neg hjq, lim_get _ _ hj, lim_get _ _ hj]
  apply BitVec.eq_of_toNat_eq
  rw [BitVec.toNat_ofNat, BitVec.toNat_ofNat, e0]
  rcases Nat.lt_or_gt_of_ne hjq with h | h
  ·-- the limb lies above
   have hy : x.toNat * 256 ^ p < 256 ^ (p + 1) := by
    rw [Nat.pow_succ, Nat.mul_comm]; exact Nat.mul_lt_mul_of_pos_left hx (Nat.pow_pos (by omega))
   have hc : 2 ^ (64 * j) = 256 ^ (p + 1) * 2 ^ (64 * j - 8 * (p + 1)) := by rw [pow256, ← Nat.pow_add]; congr 1; omega
   rw [hc, ← Nat.div_div_eq_div_mul, ← Nat.div_div_eq_div_mul]
   rw [Nat.mul_comm m, Nat.mul_add_div (Nat.pow_pos (by omega)), Nat.div_eq_of_lt hy, Nat.mul_div_cancel_left _ (Nat.pow_pos (by omega))]
   rfl
  ·-- the limb lies below
   have hc : x.toNat * 256 ^ p = 2 ^ (64 * j) * (2 ^ 64 * (x.toNat * 2 ^ (8 * p - 64 * j - 64))) := by
    rw [show 2 ^ (64 * j) * (2 ^ 64 * (x.toNat * 2 ^ (8 * p - 64 * j - 64))) = x.toNat * (2 ^ (64 * j) * (2 ^ 64 * 2 ^ (8 * p - 64 * j - 64))) by
     rw [Nat.mul_left_comm (2 ^ 64), Nat.mul_left_comm (2 ^ (64 * j))]]
    rw [pow256, ← Nat.pow_add, ← Nat.pow_add]
    congr 2; omega
   rw [hc, Nat.add_mul_div_left _ _ (Nat.two_pow_pos _), Nat.add_mul_mod_self_left]
theorem lim_mult (m p : Nat) (hp : p / 8 < 4) : ∃ a, ((lim (m * 256 ^ (p + 1)))[p / 8]).toNat = 2 ^ (8 * (p % 8 + 1)) * a := by
 rw [lim_get _ _ hp, BitVec.toNat_ofNat]
 have e1 : 256 ^ (p + 1) = 2 ^ (64 * (p / 8)) * 2 ^ (8 * (p % 8 + 1)) := by rw [pow256, ← Nat.pow_add]; congr 1; omega
 rw [e1, Nat.mul_left_comm, Nat.mul_div_cancel_left _ (Nat.two_pow_pos _)]
 have e2 : (2 : Nat) ^ 64 = 2 ^ (8 * (p % 8 + 1)) * 2 ^ (64 - 8 * (p % 8 + 1)) := by rw [← Nat.pow_add]; congr 1; omega
 rw [e2, Nat.mul_comm m, Nat.mul_mod_mul_left]
 exact ⟨_, rfl⟩
theorem lim0 : lim 0 = Vector.replicate 4 0#64 := by
 apply vec4_ext <;> simp [lim]
theorem take_at {l : List (BitVec 8)} {i : Nat} (h : i < l.length) : ∃ x, l[i]? = some x ∧ l.take (i + 1) = l.take i ++ [x] := by
 refine ⟨l[i], List.getElem?_eq_getElem h, ?_⟩
 rw [List.take_add_one, List.getElem?_eq_getElem h]; rfl
theorem get_loop (l : List (BitVec 8)) (hl : l.length ≤ 32) : ∀ (d i k : Nat), i + d = l.length → d < k → u256_Get.l1 l k i (lim (beV (l.take i) * 256 ^ d)) = some (lim (beV l))
 | 0, i, k, h, hk => by
  obtain ⟨k, rfl⟩ : ∃ m, k = m + 1 := ⟨k - 1, by omega⟩
  rw [u256_Get.l1, if_neg (by omega), List.take_of_length_le (by omega), Nat.pow_zero, Nat.mul_one]
 | d + 1, i, k, h, hk => by
  obtain ⟨k, rfl⟩ : ∃ m, k = m + 1 := ⟨k - 1, by omega⟩
  obtain ⟨x, hx, ht⟩ := take_at (l := l) (i := i) (by omega)
  have hp : l.length - 1 - i = d := by omega
  have hd : d / 8 < 4 := by omega
  have hr : d % 8 < 8 := Nat.mod_lt _ (by omega)
  rw [u256_Get.l1, if_pos (by omega), if_pos (by omega), if_pos (by omega), hp, if_pos hd, vget _ _ hd, Zb, hx, Zb]
  obtain ⟨a, ha⟩ := lim_mult (beV (l.take i)) d hd
  have hxl := x.isLt
  rw [or_low _ _ _ a ha (by
   rw [shl_toNat x _ hr, Nat.mul_add, Nat.pow_add, Nat.mul_comm]
   exact Nat.mul_lt_mul_of_pos_left (by omega) (Nat.two_pow_pos _)), set_byte _ _ _ hd, ← beV_snoc, ← ht]
  exact get_loop l hl d (i + 1) k (by omega) (by omega)
theorem rget_loop (l : List (BitVec 8)) (hl : l.length ≤ 32) : ∀ (d i k : Nat), i + d = l.length → d < k → waybillref01_Get.l1 l k i (lim (beV (l.take i) * 256 ^ d)) = some (lim (beV l))
 | 0, i, k, h, hk => by
  obtain ⟨k, rfl⟩ : ∃ m, k = m + 1 := ⟨k - 1, by omega⟩
  rw [waybillref01_Get.l1, if_neg (by omega), List.take_of_length_le (by omega), Nat.pow_zero, Nat.mul_one]
 | d + 1, i, k, h, hk => by
  obtain ⟨k, rfl⟩ : ∃ m, k = m + 1 := ⟨k - 1, by omega⟩
  obtain ⟨x, hx, ht⟩ := take_at (l := l) (i := i) (by omega)
  have hp : l.length - 1 - i = d := by omega
  have hd : d / 8 < 4 := by omega
  have hr : d % 8 < 8 := Nat.mod_lt _ (by omega)
  have e : (BitVec.ofNat 64 (8 * (d % 8))).toNat = 8 * (d % 8) := by rw [BitVec.toNat_ofNat]; omega
  rw [waybillref01_Get.l1, if_pos (by omega), if_pos (by omega), if_pos (by omega), hp, if_pos hd, vget _ _ hd, Zb, hx, Zb, e, set_byte _ _ _ hd, ← beV_snoc, ← ht]
  exact rget_loop l hl d (i + 1) k (by omega) (by omega)
theorem get_eq (l : List (BitVec 8)) (hl : l.length ≤ 32) : u256_Get l = some (lim (beV l), 0) := by
 have h := get_loop l hl l.length 0 (l.length - 0 + 2) (by omega) (by omega)
 rw [List.take_zero, show beV [] = 0 by rfl, Nat.zero_mul, lim0] at h
 unfold u256_Get
 rw [if_neg (by omega), h, Zb]
theorem rget_eq (l : List (BitVec 8)) (hl : l.length ≤ 32) : waybillref01_Get l = some (lim (beV l), 0) := by
 have h := rget_loop l hl l.length 0 (l.length - 0 + 2) (by omega) (by omega)
 rw [List.take_zero, show beV [] = 0 by rfl, Nat.zero_mul, lim0] at h
 unfold waybillref01_Get
 rw [if_neg (by omega), h, Zb]
theorem beV_from (l : List (BitVec 8)) : ∀ n, l.foldl (fun n x => n * 256 + x.toNat) n = n * 256 ^ l.length + beV l := by
 induction l with
 | nil => intro n; simp [beV]
 | cons x r ih =>
  intro n
  unfold beV
  rw [List.foldl_cons, List.foldl_cons, ih, ih (0 * 256 + x.toNat), List.length_cons, Nat.pow_succ, Nat.add_mul, Nat.add_mul, Nat.zero_mul]
  have e : n * 256 * 256 ^ r.length = n * (256 ^ r.length * 256) := by rw [Nat.mul_assoc, Nat.mul_comm 256]
  omega
theorem beV_append (a b : List (BitVec 8)) : beV (a ++ b) = beV a * 256 ^ b.length + beV b := by
 rw [beV, List.foldl_append, beV_from]; rfl
theorem beV_lt (l : List (BitVec 8)) : beV l < 256 ^ l.length := by
 induction l with
 | nil => simp [beV]
 | cons x r ih =>
  have hx := x.isLt
  have h := beV_append [x] r
  rw [List.singleton_append] at h
  rw [h, List.length_cons, Nat.pow_succ, Nat.mul_comm (256 ^ r.length)]
  have h1 : beV [x] = x.toNat := by simp [beV]
  rw [h1]
  have h2 : x.toNat * 256 ^ r.length + 256 ^ r.length ≤ 256 * 256 ^ r.length := by
   rw [← Nat.succ_mul]; exact Nat.mul_le_mul_right _ (by omega)
  omega
end Go.Fw
namespace Go.Fw
def small (s : List (BitVec 8)) (h : Nat) : Bool := match s[h]? with
 | some x => decide (x.toNat < 128)
 | none => false
def finS (s : List (BitVec 8)) (list : Bool) (h n : Nat) : Nat × Bool × Nat × Nat :=
 if s.length - h < n then (70, false, 0, 0) else if list = false ∧ n = 1 ∧ small s h = true then (71, false, 0, 0) else (0, list, h, n)
def cutS (s : List (BitVec 8)) : Nat × Bool × Nat × Nat := match s[0]? with
 | none => (70, false, 0, 0)
 | some c => if c.toNat < 128 then (0, false, 0, 1) else
  if 55 < c.toNat % 64 then
   (if s.length - 1 < c.toNat % 64 - 55 then (70, false, 0, 0) else
    if s[1]? = some 0#8 ∨ beV ((s.drop 1).take (c.toNat % 64 - 55)) ≤ 55 then (72, false, 0, 0) else
     if s.length - 1 - (c.toNat % 64 - 55) < beV ((s.drop 1).take (c.toNat % 64 - 55)) then (70, false, 0, 0) else
      finS s (decide (192 ≤ c.toNat)) (1 + (c.toNat % 64 - 55)) (beV ((s.drop 1).take (c.toNat % 64 - 55))))
  else finS s (decide (192 ≤ c.toNat)) 1 (c.toNat % 64)
theorem pow8 : 256 ^ 8 = 2 ^ 64 := by decide
theorem beV_small {l : List (BitVec 8)} {k : Nat} (h : l.length ≤ k) (hk : k ≤ 8) : beV l < 2 ^ 64 := by
 have h1 := beV_lt l
 have h2 : 256 ^ l.length ≤ 256 ^ 8 := Nat.pow_le_pow_right (by omega) (by omega)
 have := pow8
 omega
theorem val4_lim' {n : Nat} (h : n < 2 ^ 64) : val4 (lim n) = n := val4_lim n (Nat.lt_trans h (by decide))
theorem lim0_toNat {n : Nat} (h : n < 2 ^ 64) : ((lim n)[0]).toNat = n := by
 rw [lim_get n 0 (by omega), BitVec.toNat_ofNat, Nat.mul_zero, Nat.pow_zero, Nat.div_one, Nat.mod_eq_of_lt h]
theorem cmpN_le (a b : Nat) : cmpN a b ≤ 0 ↔ a ≤ b := by unfold cmpN; split <;> (try split) <;> omega
theorem cmpN_lt (a b : Nat) : cmpN a b < 0 ↔ a < b := by unfold cmpN; split <;> (try split) <;> omega
theorem cmpN_gt (a b : Nat) : 0 < cmpN a b ↔ b < a := by unfold cmpN; split <;> (try split) <;> omega
theorem cmp_of {v n : Nat} (hv : v < 2 ^ 64) (hn : n < 2 ^ 64) : u256_Cmp (lim v) (lim (BitVec.ofNat 64 n).toNat) = some (cmpN v n) := by
 rw [cmp_eq, val4_lim' hv, BitVec.toNat_ofNat, Nat.mod_eq_of_lt hn, val4_lim' hn]
theorem rcmp_of {v n : Nat} (hv : v < 2 ^ 64) (hn : n < 2 ^ 64) : waybillref01_Cmp (lim v) (lim (BitVec.ofNat 64 n).toNat) = some (cmpN v n) := by
 rw [rcmp_eq, val4_lim' hv, BitVec.toNat_ofNat, Nat.mod_eq_of_lt hn, val4_lim' hn]
def cutR (s : List (BitVec 8)) : Option (Bool × List (BitVec 8) × List (BitVec 8) × Nat) :=
 match cutS s with
 | (e, l, h, n) => if e = 0 then some (l, (s.drop h).take n, s.drop (h + n), 0) else some (false, [], [], e)
theorem get0 {s : List (BitVec 8)} {i : Nat} (h : i < s.length) : s[i]? = some (s[i]) := List.getElem?_eq_getElem h
theorem cut_fin (s : List (BitVec 8)) (c : BitVec 8) (hc : ¬ c.toNat < 128) (h n : Nat) (hh : h ≤ s.length) :
    (if (s.drop h).length < n then (some (false, ([] : List (BitVec 8)), ([] : List (BitVec 8)), 70)) else (((if 192 ≤ c.toNat then (some (false)) else (if n = 1 then ((s.drop h)[0]?).bind fun x56 => (some ((decide (x56.toNat < 128)))) else (some (false)))) : Option ((Bool))).bind fun p42 => (if p42 = true then (some (false, ([] : List (BitVec 8)), ([] : List (BitVec 8)), 71)) else (if n ≤ (s.drop h).length then (some ((decide (192 ≤ c.toNat)), ((s.drop h).take n), ((s.drop h).drop n), 0)) else none)))) =
    (match finS s (decide (192 ≤ c.toNat)) h n with
     | (e, l, h, n) => if e = 0 then some (l, (s.drop h).take n, s.drop (h + n), 0) else some (false, [], [], e)) := by
 unfold finS
 rw [List.length_drop]
 by_cases h1 : s.length - h < n
 ·rw [if_pos h1, if_pos h1]; rfl
 rw [if_neg h1, if_neg h1]
 by_cases h2 : 192 ≤ c.toNat
 ·rw [if_pos h2, Zb, if_neg (by simp), if_pos (by omega), if_neg (by simp [h2])]
  simp [h2, List.drop_drop]
 ·rw [if_neg h2]
  by_cases h3 : n = 1
  ·subst h3
   have hlt : h < s.length := by omega
   rw [if_pos rfl, List.getElem?_drop, Nat.add_zero, get0 hlt, Zb, Zb]
   by_cases h4 : (s[h]).toNat < 128
   ·rw [if_pos (by simpa using h4), if_pos ⟨by simp [h2], rfl, by simp [small, get0 hlt, h4]⟩]; rfl
   ·rw [if_neg (by simpa using h4), if_pos (by omega), if_neg (by simp [small, get0 hlt, h4])]
    simp [h2, List.drop_drop]
  ·rw [if_neg h3, Zb, if_neg (by simp), if_pos (by omega), if_neg (by simp [h3])]
   simp [h2, List.drop_drop]
theorem cut_eq (s : List (BitVec 8)) (hs : s.length ≤ 140737488355328) : rlp_cut s = cutR s := by
 unfold rlp_cut cutR cutS
 by_cases h0 : s.length = 0
 ·rw [if_pos h0, List.getElem?_eq_none (by omega)]; rfl
 rw [if_neg h0, get0 (by omega : 0 < s.length), Zb]
 generalize hc : s[0] = c
 have hcl := c.isLt
 simp only []
 by_cases h1 : c.toNat < 128
 ·rw [if_pos h1, if_pos h1, if_pos (by omega)]; simp
 rw [if_neg h1, if_neg h1]
 have hn0 : (if 192 ≤ c.toNat then (some ((c - 192#8).toNat)) else (some ((c - 128#8).toNat))) = some (c.toNat % 64) := by
  by_cases h2 : 192 ≤ c.toNat
  ·rw [if_pos h2, BitVec.toNat_sub]; congr 1; simp; omega
  ·rw [if_neg h2, BitVec.toNat_sub]; congr 1; simp; omega
 rw [hn0, Zb, if_pos (by omega)]
 by_cases h3 : 55 < c.toNat % 64
 ·rw [if_pos h3, if_pos h3]
  generalize hk : c.toNat % 64 - 55 = k
  have hk8 : k ≤ 8 := by omega
  rw [List.length_drop]
  by_cases h4 : s.length - 1 < k
  ·rw [if_pos h4, if_pos h4]; rfl
  rw [if_neg h4, if_neg h4, if_pos (by omega)]
  have hlen : ((s.drop 1).take k).length = k := by rw [List.length_take, List.length_drop]; omega
  have hv := beV_small (l := (s.drop 1).take k) (k := k) (by omega) hk8
  rw [get_eq _ (by omega), Zb]
  generalize hV : beV ((s.drop 1).take k) = v at hv
  have h1k : (s.drop 1)[0]? = some s[1] := by rw [List.getElem?_drop]; exact get0 (by omega)
  rw [h1k, Zb, get0 (by omega : 1 < s.length)]
  by_cases h5 : s[1] = 0#8
  ·rw [if_pos h5, Zb, if_pos rfl, if_pos (show some s[1] = some 0#8 ∨ v ≤ 55 from .inl (by rw [h5]))]; rfl
  rw [if_neg h5, show (55#64 : BitVec 64) = BitVec.ofNat 64 55 by rfl, from_eq, Zb, cmp_of hv (by decide), Zb, Zb]
  by_cases h6 : v ≤ 55
  ·rw [if_pos (by simpa using (cmpN_le v 55).2 h6), if_pos (show some s[1] = some 0#8 ∨ v ≤ 55 from .inr h6)]; rfl
  rw [if_neg (by simpa using fun h => h6 ((cmpN_le v 55).1 h)), if_neg (show ¬ (some s[1] = some 0#8 ∨ v ≤ 55) by rintro (h | h); exact h5 (by simpa using h); exact h6 h)]
  rw [from_eq, Zb, List.length_drop, List.length_drop, cmp_of hv (by omega), Zb]
  by_cases h7 : s.length - 1 - k < v
  ·rw [if_pos ((cmpN_gt _ _).2 h7), if_pos h7]; rfl
  rw [if_neg (fun h => h7 ((cmpN_gt _ _).1 h)), if_neg h7, lim0_toNat hv, if_pos (by omega), Zb]
  simp only []
  rw [List.drop_drop]
  exact cut_fin s c h1 (1 + k) v (by omega)
 ·rw [if_neg h3, if_neg h3, Zb]
  exact cut_fin s c h1 1 _ (by omega)
end Go.Fw
namespace Go.Fw
def btw (b : List (BitVec 8)) (p q : Nat) : List (BitVec 8) := (b.take q).drop p
theorem btw_length {b : List (BitVec 8)} {p q : Nat} (h : q ≤ b.length) : (btw b p q).length = q - p := by
 unfold btw; rw [List.length_drop, List.length_take]; omega
theorem btw_get {b : List (BitVec 8)} {p q i : Nat} (h : p + i < q) : (btw b p q)[i]? = b[p + i]? := by
 unfold btw; rw [List.getElem?_drop, List.getElem?_take, if_pos h]
theorem btw_sub {b : List (BitVec 8)} {p q i k : Nat} (h : p + i + k ≤ q) : ((btw b p q).drop i).take k = (b.take (p + i + k)).drop (p + i) := by
 unfold btw
 rw [List.drop_drop, List.take_drop, List.take_take]
 congr 2
 omega
def headR (s : List (BitVec 8)) (p : Nat) : Option (Hd × Nat) := match cutS s with
 | (e, l, h, n) => if e = 0 then some (Hd.mk l (p + h) (p + h + n), 0) else some (Hd.mk false 0 0, e)
theorem head_fin (b : List (BitVec 8)) (p q : Nat) (hq : q ≤ b.length) (hb : b.length ≤ 140737488355328) (l : Bool) (h n : Nat) (hn : n < 2 ^ 62) (hh : p + h ≤ q) :
    (if (((q : Nat) : Int) - (((p + h) : Nat) : Int)) < ((n : Nat) : Int) then (some ((Hd.mk false 0 0), 70)) else (if ((p + h) + n) ≤ 9223372036854775807 then (((if l = true then (some (false)) else (if n = 1 then (b[(p + h)]?).bind fun x42 => (some ((decide (x42.toNat < 128)))) else (some (false)))) : Option ((Bool))).bind fun p31 => (if p31 = true then (some ((Hd.mk false 0 0), 71)) else (some ((Hd.mk (l) (p + h) ((p + h) + n)), 0)))) else none)) =
    (match finS (btw b p q) l h n with
     | (e, l, h, n) => if e = 0 then some (Hd.mk l (p + h) (p + h + n), 0) else some (Hd.mk false 0 0, e)) := by
 unfold finS
 rw [btw_length hq]
 by_cases h1 : q - p - h < n
 ·rw [if_pos (by omega), if_pos h1]; rfl
 rw [if_neg (by omega), if_neg h1, if_pos (by omega)]
 by_cases h2 : l = true
 ·rw [if_pos h2, Zb, if_neg (by simp), if_neg (show ¬ (l = false ∧ n = 1 ∧ small (btw b p q) h = true) by simp [h2])]; rfl
 ·rw [if_neg h2]
  have hlf : l = false := by simpa using h2
  by_cases h3 : n = 1
  ·subst h3
   have hlt : p + h < b.length := by omega
   rw [if_pos rfl, get0 hlt, Zb, Zb]
   have hsm : small (btw b p q) h = decide ((b[p + h]).toNat < 128) := by unfold small; rw [btw_get (by omega), get0 hlt]
   by_cases h4 : (b[p + h]).toNat < 128
   ·rw [if_pos (by simpa using h4), if_pos (show l = false ∧ 1 = 1 ∧ small (btw b p q) h = true from ⟨hlf, rfl, by rw [hsm]; simpa using h4⟩)]; rfl
   ·rw [if_neg (by simpa using h4), if_neg (show ¬ (l = false ∧ 1 = 1 ∧ small (btw b p q) h = true) by rw [hsm]; simp [h4])]; rfl
  ·rw [if_neg h3, Zb, if_neg (by simp), if_neg (show ¬ (l = false ∧ n = 1 ∧ small (btw b p q) h = true) by simp [h3])]; rfl
theorem head_eq (b : List (BitVec 8)) (p q : Nat) (hp : p ≤ q) (hq : q ≤ b.length) (hb : b.length ≤ 140737488355328) : waybillref07_head b p q = headR (btw b p q) p := by
 unfold waybillref07_head headR cutS
 have hlen := btw_length (p := p) hq
 by_cases h0 : q ≤ p
 ·rw [if_pos h0, List.getElem?_eq_none (by omega)]; rfl
 have g0 : (btw b p q)[0]? = some (b[p]'(by omega)) := by rw [btw_get (by omega)]; exact get0 (by omega : p < b.length)
 rw [if_neg h0, get0 (by omega : p < b.length), Zb, g0]
 generalize hc : b[p] = c
 have hcl := c.isLt
 simp only []
 by_cases h1 : c.toNat < 128
 ·rw [if_pos h1, if_pos h1]; simp
 rw [if_neg h1, if_neg h1]
 by_cases h3 : 55 < c.toNat % 64
 ·rw [if_pos h3, if_pos h3]
  generalize hk : c.toNat % 64 - 55 = k
  have hk8 : k ≤ 8 := by omega
  rw [hlen]
  by_cases h4 : q - p - 1 < k
  ·rw [if_pos (by omega), if_pos h4]; rfl
  rw [if_neg (by omega), if_neg h4, if_pos (by omega), if_pos (by omega), if_pos (by omega)]
  rw [← btw_sub (b := b) (p := p) (q := q) (i := 1) (k := k) (by omega)]
  have hl2 : (((btw b p q).drop 1).take k).length = k := by rw [List.length_take, List.length_drop, hlen]; omega
  have hv := beV_small (l := ((btw b p q).drop 1).take k) (k := k) (by omega) hk8
  rw [rget_eq _ (by omega), Zb]
  generalize hV : beV (((btw b p q).drop 1).take k) = v at hv
  rw [get0 (by omega : p + 1 < b.length), Zb, btw_get (by omega), get0 (by omega : p + 1 < b.length)]
  by_cases h5 : b[p + 1] = 0#8
  ·rw [if_pos h5, Zb, if_pos rfl, if_pos (show some b[p + 1] = some 0#8 ∨ v ≤ 55 from .inl (by rw [h5]))]; rfl
  rw [if_neg h5, show (56#64 : BitVec 64) = BitVec.ofNat 64 56 by rfl, rfrom_eq, Zb, rcmp_of hv (by decide), Zb, Zb]
  by_cases h6 : v ≤ 55
  ·rw [if_pos (by simpa using (cmpN_lt v 56).2 (by omega)), if_pos (show some b[p + 1] = some 0#8 ∨ v ≤ 55 from .inr h6)]; rfl
  rw [if_neg (show ¬ decide (cmpN v 56 < 0) = true by rw [decide_eq_true_eq]; exact fun h => h6 (by have := (cmpN_lt v 56).1 h; omega)), if_neg (show ¬ (some b[p + 1] = some 0#8 ∨ v ≤ 55) by rintro (h | h); exact h5 (by simpa using h); exact h6 h)]
  have e : BitVec.ofInt 64 (((q : Nat) : Int) - (((p + 1 + k) : Nat) : Int)) = BitVec.ofNat 64 (q - p - 1 - k) := by
   rw [show ((q : Nat) : Int) - (((p + 1 + k) : Nat) : Int) = ((q - p - 1 - k : Nat) : Int) by omega]
   exact BitVec.ofInt_natCast ..
  rw [e, rfrom_eq, Zb, rcmp_of hv (by omega), Zb]
  by_cases h7 : q - p - 1 - k < v
  ·rw [if_pos ((cmpN_gt _ _).2 h7), if_pos h7]; rfl
  rw [if_neg (fun h => h7 ((cmpN_gt _ _).1 h)), if_neg h7, lim0_toNat hv, if_pos (by omega), Zb]
  simp only []
  rw [Nat.add_assoc p 1 k]
  exact head_fin b p q hq hb (decide (192 ≤ c.toNat)) (1 + k) v (by omega) (by omega)
 ·rw [if_neg h3, if_neg h3, Zb]
  exact head_fin b p q hq hb (decide (192 ≤ c.toNat)) 1 _ (by omega) (by omega)
end Go.Fw
namespace Go.Fw
theorem btw_all (b : List (BitVec 8)) : btw b 0 b.length = b := by simp [btw]
theorem cutS_in {s : List (BitVec 8)} {l : Bool} {h n : Nat} (e : cutS s = (0, l, h, n)) : h + n ≤ s.length ∧ 0 < h + n := by
 have fin : ∀ l' h' n', finS s l' h' n' = (0, l, h, n) → 0 < h' → h' ≤ s.length → h + n ≤ s.length ∧ 0 < h + n := by
  intro l' h' n' e hp hle
  unfold finS at e
  split at e
  ·cases e
  split at e
  ·cases e
  ·cases e; omega
 unfold cutS at e
 split at e
 ·cases e
 ·rename_i c hc
  have hlt := (List.getElem?_eq_some_iff.1 hc).1
  split at e
  ·cases e; omega
  split at e
  ·split at e
   ·cases e
   split at e
   ·cases e
   split at e
   ·cases e
   ·exact fin _ _ _ e (by omega) (by omega)
  ·exact fin _ _ _ e (by omega) (by omega)
end Go.Fw
namespace Go.Fw
theorem drop_cons_at {α : Type} {l : List α} {i : Nat} (h : i < l.length) : l.drop i = l[i] :: l.drop (i + 1) := List.drop_eq_getElem_cons h
end Go.Fw
namespace Go.Fw
def headB (c n : Nat) : List (BitVec 8) := if n ≤ 55 then [BitVec.ofNat 8 (c + n)] else BitVec.ofNat 8 (c + 55 + nb n) :: bytesN n
theorem bytesN_length (n : Nat) : (bytesN n).length = nb n := be_length _ _
end Go.Fw
namespace Go.Fw
open Go Go.RowKit
theorem View.of_rd {W : World} {A : Option Addr} {cap len s : Nat} {cells : List Value} (rd : Rd W A cells) (hn : cells.length = len * s) (hle : len ≤ cap) (hmx : cap ≤ 140737488355328) : View (fun w => Mem W w []) A len cap s cells :=
 ⟨fun w q => rd.old q, rd.1, hn, hle, by omega⟩
theorem View.of8 {W : World} {A : Option Addr} {cap : Nat} {xs : List (BitVec 8)} (rd : Rd W A (u8s xs)) (hle : xs.length ≤ cap) (hmx : cap ≤ 140737488351232) : View (fun w => Mem W w []) A xs.length cap 1 (u8s xs) :=
 View.of_rd rd (by rw [Z100, Nat.mul_one]) hle (by omega)
end Go.Fw
namespace Go.Fw
open Go Go.RowKit Go.Deep Go.WideShapes
section
variable {H : Type} {enc : TypeId × Value → H} {P : Program} {W : World} {t e e2 : TypeId} {v : Value}
theorem reads_bs (ht : P.underlying e = some (.slice e2)) (he : P.underlying e2 = some (.int .u8)) (hs : P.cellsOf e2 = 1) (hb : P.bytesOf e2 = 1) {n : Nat} {u : Value} {r : DataW H × List MemPlace} (h : reads enc P W n e [u] = some r) (hz : Fits P e r.1) :
    ∃ (A : Option Addr) (cap : Nat) (x : List (BitVec 8)), u = .slice A x.length cap ∧ View (fun w => Mem W w []) A x.length cap 1 (u8s x) ∧ x.length ≤ 140737488351232 ∧ ∃ el sp, Els r.1 el sp ∧ el.length = x.length := by
 obtain ⟨A, cap, xs, el, sp, h1, h2, h3, h4, h5, h6, h7, h8, h9, h10⟩ := cells_of_slice (α := BitVec 8) (fun x => [U8 x]) (fun _ _ => True) 1 hs (by omega) (fun n cs r _ hr => by
  obtain ⟨x, rfl⟩ := reads_u8 he hr; exact ⟨x, rfl, trivial⟩) ht h
 rw [flat1] at h6
 have hw := (hz.slice ht h7).1
 rw [hb, h9] at hw
 have hc : cap ≤ 140737488351232 := by simpa [reachBytes] using hw
 exact ⟨A, cap, xs, h1, View.of8 h6 h2 hc, by omega, el, sp, h7, h8⟩
end
end Go.Fw
namespace Go.Fw
open Go Go.RowKit Go.Deep Go.WideShapes
section
variable {H : Type} {enc : TypeId × Value → H} {P : Program} {W : World}
structure ItTypes (P : Program) (tI tS tB t8 tL : TypeId) where
 fs : Array Field
 f0 : Field
 f1 : Field
 f2 : Field
 hI : P.underlying tI = some (.struct fs)
 h0 : fs[0]? = some f0
 h1 : fs[1]? = some f1
 h2 : fs[2]? = some f2
 o0 : f0.offset = 0
 o1 : f1.offset = 1
 o2 : f2.offset = 2
 y0 : f0.type = tL
 y1 : f1.type = tB
 y2 : f2.type = tS
 uL : P.underlying tL = some .bool
 uB : P.underlying tB = some (.slice t8)
 u8 : P.underlying t8 = some (.int .u8)
 uS : P.underlying tS = some (.slice tI)
 cL : P.cellsOf tL = 1
 cB : P.cellsOf tB = 1
 cS : P.cellsOf tS = 1
 c8 : P.cellsOf t8 = 1
 cI : P.cellsOf tI = 3
 b8 : P.bytesOf t8 = 1
 bI : P.bytesOf tI = 56
theorem els_size {d : DataW H} {el sp : List (DataW H)} (h : Els d el sp) {x : DataW H} (hx : x ∈ el) : SizeOf.sizeOf x < SizeOf.sizeOf d := by
 rcases h with ⟨_, rfl, _⟩ | rfl
 ·cases hx
 ·have := List.sizeOf_lt_of_mem hx
  simp only [DataW.slice.sizeOf_spec]
  omega
theorem items_view {tI tS tB t8 tL : TypeId} (T : ItTypes P tI tS tB t8 tL) {n : Nat} {u : Value} {r : DataW H × List MemPlace} (h : reads enc P W n tS [u] = some r) (hz : Fits P tS r.1)
    (ih : ∀ d, SizeOf.sizeOf d < SizeOf.sizeOf r.1 → ∀ n cs ps, cs.length = 3 → reads enc P W n tI cs = some (d, ps) → Fits P tI d → ∃ it, ItRd (fun w => Mem W w []) cs it) :
    ∃ (A : Option Addr) (cap : Nat) (cells : List Value) (its : List It), u = .slice A its.length cap ∧ View (fun w => Mem W w []) A its.length cap 3 cells ∧ Reps (ItRd (fun w => Mem W w [])) cells its ∧ its.length * 56 ≤ 140737488351232 := by
 obtain ⟨A, cap, ys, el, sp, h1, h2, h3, h4, h5, h6, h7, h8, h9, h10⟩ := cells_of_slice (α := List Value) (fun u => u) (fun cs d => ∃ n ps, cs.length = 3 ∧ reads enc P W n tI cs = some (d, ps)) 3 T.cI (by omega) (fun n cs r hl hr => ⟨cs, rfl, n, r.2, hl, hr⟩) T.uS h
 have hw := hz.slice T.uS h7
 rw [T.bI, h9] at hw
 obtain ⟨its, hlen, hq⟩ := list_of (Q := fun i it => ∃ cs, ys[i]? = some cs ∧ ItRd (fun w => Mem W w []) cs it) ys.length (fun i hi => by
  have hu : ys[i]? = some ys[i] := List.getElem?_eq_getElem hi
  have hd : el[i]? = some (el[i]'(by omega)) := List.getElem?_eq_getElem (by omega)
  obtain ⟨n, ps', hl, hr⟩ := h10 i _ _ hu hd
  have hm := List.mem_of_getElem? hd
  obtain ⟨it, hit⟩ := ih _ (els_size h7 hm) n _ ps' hl hr (hw.2 _ hm)
  exact ⟨it, _, hu, hit⟩)
 have hreps : ∀ (ys : List (List Value)) (its : List It), its.length = ys.length → (∀ (i : Nat) (it : It), its[i]? = some it → ∃ cs, ys[i]? = some cs ∧ ItRd (fun w => Mem W w []) cs it) → Reps (ItRd (fun w => Mem W w [])) (ys.flatMap fun u => u) its := by
  intro ys
  induction ys with
  | nil => intro its hl _; cases its with | nil => exact .nil | cons _ _ => simp at hl
  | cons y ys ih =>
   intro its hl hq
   cases its with
   | nil => simp at hl
   | cons it its =>
    obtain ⟨cs, e1, e2⟩ := hq 0 it rfl
    simp at e1
    subst e1
    rw [List.flatMap_cons]
    exact .cons e2 (ih its (by simpa using hl) (fun i x hx => by simpa using hq (i + 1) x (by simpa using hx)))
 have hc : cap * 56 ≤ 140737488351232 := by simpa [reachBytes] using hw.1
 have hR := hreps ys its hlen hq
 refine ⟨A, cap, _, its, by rw [hlen]; exact h1, View.of_rd h6 (hR.len ItRd.len) (by omega) (by omega), hR, by omega⟩
theorem reads_it {tI tS tB t8 tL : TypeId} (T : ItTypes P tI tS tB t8 tL) : ∀ (k : Nat) (d : DataW H), SizeOf.sizeOf d ≤ k → ∀ n cs ps, cs.length = 3 → reads enc P W n tI cs = some (d, ps) → Fits P tI d → ∃ it, ItRd (fun w => Mem W w []) cs it := by
 intro k
 induction k with
 | zero => intro d hd; have : 0 < SizeOf.sizeOf d := by cases d <;> simp <;> omega
           omega
 | succ k ih =>
  intro d hd n cs ps hl hr hz
  obtain ⟨xs, m, hn, hx, hcl, hxl, hf⟩ := DataW.trod_struct T.hI hr
  obtain ⟨c0, c1, c2, rfl⟩ : ∃ a b c, cs = [a, b, c] := by
   match cs, hl with
   | [a, b, c], _ => exact ⟨a, b, c, rfl⟩
  have g0 := hf 0 T.f0 T.h0
  have g1 := hf 1 T.f1 T.h1
  have g2 := hf 2 T.f2 T.h2
  rw [T.o0, T.y0, T.cL] at g0
  rw [T.o1, T.y1, T.cB] at g1
  rw [T.o2, T.y2, T.cS] at g2
  simp only [List.drop_zero, List.drop_succ_cons, List.take_succ_cons, List.take_zero] at g0 g1 g2
  have hsz : 2 < T.fs.size := (Array.getElem?_eq_some_iff.1 T.h2).1
  obtain ⟨x0, e0⟩ : ∃ x, xs[0]? = some x := ⟨_, List.getElem?_eq_getElem (by omega)⟩
  obtain ⟨x1, e1⟩ : ∃ x, xs[1]? = some x := ⟨_, List.getElem?_eq_getElem (by omega)⟩
  obtain ⟨x2, e2⟩ : ∃ x, xs[2]? = some x := ⟨_, List.getElem?_eq_getElem (by omega)⟩
  rw [e0] at g0; rw [e1] at g1; rw [e2] at g2
  obtain ⟨b, hb, _⟩ := DataW.trod_bool T.uL g0
  simp at hb
  subst hb
  have hd2 : d = .agg (xs.map (·.1)) := congrArg Prod.fst hx
  subst hd2
  have hz1 : Fits P tB x1.1 := by have := Fits.struct T.hI hz T.h1 (d := x1.1) (by simp [e1]); rwa [T.y1] at this
  have hz2 : Fits P tS x2.1 := by have := Fits.struct T.hI hz T.h2 (d := x2.1) (by simp [e2]); rwa [T.y2] at this
  obtain ⟨A, cap, x, rfl, hv, _⟩ := reads_bs T.uB T.u8 T.c8 T.b8 g1 hz1
  have hs2 : SizeOf.sizeOf x2.1 < SizeOf.sizeOf (DataW.agg (xs.map (·.1))) := by
   have hm : x2.1 ∈ xs.map (·.1) := List.mem_map.2 ⟨x2, List.mem_of_getElem? e2, rfl⟩
   have := List.sizeOf_lt_of_mem hm
   simp only [DataW.agg.sizeOf_spec]
   omega
  obtain ⟨B, e, cells, its, rfl, hv2, hR, _⟩ := items_view T g2 hz2 (fun d' hd' n' cs' ps' hl' hr' hz' => ih d' (by omega) n' cs' ps' hl' hr' hz')
  exact ⟨.mk b x its, .mk hv hv2 hR⟩
theorem arg_it {tI tS tB t8 tL : TypeId} (T : ItTypes P tI tS tB t8 tL) {b0 : Nat} {v : Value} (hval : Value.okWide P W .any b0 tI v) {d : DataW H} {ps : List MemPlace} (h : DataW.Trod enc P W 0 (fun _ => true) true tI v d ps) (hz : Fits P tI d) :
    ∃ (cs : List Value) (it : It), v = .agg cs.toArray ∧ ItRd (fun w => Mem W w []) cs it := by
 obtain ⟨xs, rfl⟩ := okWide_st T.hI hval
 obtain ⟨fuel, hf⟩ := h
 have hr : reads enc P W fuel tI xs.toList = some (d, ps) := by simpa [Value.cells] using hf
 obtain ⟨_, _, _, _, hcl, _⟩ := DataW.trod_struct T.hI hr
 rw [T.cI] at hcl
 obtain ⟨it, hit⟩ := reads_it T _ d (Nat.le_refl _) fuel xs.toList ps hcl hr hz
 exact ⟨xs.toList, it, by simp, hit⟩
end
end Go.Fw
namespace Go.Fw
mutual
def It.wt : It → Nat
 | .mk _ d its => d.length + its.length + 1 + Its.wt its
def Its.wt : List It → Nat
 | [] => 0
 | x :: xs => It.wt x + Its.wt xs
end
mutual
def It.lens : It → Prop
 | .mk _ d its => d.length ≤ 140737488355328 ∧ its.length ≤ 140737488355328 ∧ Its.lens its
def Its.lens : List It → Prop
 | [] => True
 | x :: xs => It.lens x ∧ Its.lens xs
end
theorem It.wt_eq (x : It) : x.wt = x.data.length + x.items.length + 1 + Its.wt x.items := by cases x; simp [It.wt, It.data, It.items]
theorem It.sz_eq (x : It) : x.sz = 1 + Its.sz x.items := by cases x; simp [It.sz, It.items]
theorem It.lens_eq (x : It) : x.lens ↔ x.data.length ≤ 140737488355328 ∧ x.items.length ≤ 140737488355328 ∧ Its.lens x.items := by cases x; simp [It.lens, It.data, It.items]
theorem Its.wt_app : ∀ (a b : List It), Its.wt (a ++ b) = Its.wt a + Its.wt b
 | [], b => by simp [Its.wt]
 | x :: a, b => by simp [Its.wt, Its.wt_app a b]; omega
theorem Its.lens_app : ∀ (a b : List It), Its.lens (a ++ b) ↔ Its.lens a ∧ Its.lens b
 | [], b => by simp [Its.lens]
 | x :: a, b => by simp [Its.lens, Its.lens_app a b, and_assoc]
theorem Its.lens_mem : ∀ {l : List It}, Its.lens l → ∀ x ∈ l, It.lens x
 | [], _, x, hx => by cases hx
 | y :: l, h, x, hx => by
  simp only [Its.lens] at h
  rcases List.mem_cons.1 hx with rfl | hx
  ·exact h.1
  ·exact Its.lens_mem h.2 x hx
theorem Its.wt_mem : ∀ {l : List It} {x : It}, x ∈ l → It.wt x ≤ Its.wt l
 | y :: l, x, hx => by
  simp only [Its.wt]
  rcases List.mem_cons.1 hx with rfl | hx
  ·omega
  ·have := Its.wt_mem hx; omega
theorem Its.sz_mem : ∀ {l : List It} {x : It}, x ∈ l → It.sz x ≤ Its.sz l
 | y :: l, x, hx => by
  simp only [Its.sz]
  rcases List.mem_cons.1 hx with rfl | hx
  ·omega
  ·have := Its.sz_mem hx; omega
theorem Its.wt_drop {l : List It} {i : Nat} (h : i < l.length) : Its.wt (l.drop i) = It.wt l[i] + Its.wt (l.drop (i + 1)) := by rw [drop_cons_at h, Its.wt]
mutual
theorem ItRd.lens {Φ : Ctx} : ∀ (x : It) (cs : List Value), ItRd Φ cs x → x.lens
 | .mk l d its, _, .mk h1 h2 h3 => by simp only [It.lens]; exact ⟨h1.mx, h2.mx, ItsRd.lens its _ h3⟩
theorem ItsRd.lens {Φ : Ctx} : ∀ (xs : List It) (cs : List Value), Reps (ItRd Φ) cs xs → Its.lens xs
 | [], _, .nil => by simp only [Its.lens]
 | x :: xs, _, .cons h hr => by simp only [Its.lens]; exact ⟨ItRd.lens x _ h, ItsRd.lens xs _ hr⟩
end
theorem beyond2 (l : List It) (hl : Its.lens l) : ∀ (d i k T : Nat) (nx : List It), i + d = l.length → d < k → T ≤ 2147483647 → nx.length ≤ T → Its.lens nx →
    ∃ q, waybillref07_Beyond.l2 k l T nx i = some q ∧ (∀ T' nx', q = .go (T', nx') → T' ≤ 2147483647 ∧ Its.lens nx' ∧ T' + Its.wt nx' = T + Its.wt (l.drop i) + Its.wt nx) ∧ (∀ o, q = .ret o → o = some (.ret (some true)))
 | 0, i, k, T, nx, h, hk, hT, hn, hx => by
  obtain ⟨k, rfl⟩ : ∃ m, k = m + 1 := ⟨k - 1, by omega⟩
  refine ⟨.go (T, nx), by rw [waybillref07_Beyond.l2, if_neg (by omega)], fun T' nx' e => ?_, fun o e => by cases e⟩
  cases e
  rw [List.drop_of_length_le (by omega)]
  exact ⟨hT, hx, by simp [Its.wt]⟩
 | d + 1, i, k, T, nx, h, hk, hT, hn, hx => by
  obtain ⟨k, rfl⟩ : ∃ m, k = m + 1 := ⟨k - 1, by omega⟩
  have h1 : i < l.length := by omega
  have hli := (It.lens_eq _).1 (Its.lens_mem hl l[i] (List.getElem_mem h1))
  have hw := It.wt_eq l[i]
  rw [waybillref07_Beyond.l2, if_pos h1, List.getElem?_eq_getElem h1, Zb, if_pos (by omega), Zb, if_pos (by omega), if_pos (by omega), Zb]
  by_cases hb : 2147483647 < T + (l[i]).data.length + (l[i]).items.length + 1
  ·rw [if_pos hb]
   exact ⟨_, rfl, (fun T' nx' e => by cases e), (fun o e => by cases e; rfl)⟩
  ·rw [if_neg hb, if_pos (by omega)]
   obtain ⟨q, e1, e2, e3⟩ := beyond2 l hl d (i + 1) k (T + (l[i]).data.length + (l[i]).items.length + 1) (nx ++ (l[i]).items) (by omega) (by omega) (by omega) (by rw [List.length_append]; omega) ((Its.lens_app _ _).2 ⟨hx, hli.2.2⟩)
   refine ⟨q, e1, fun T' nx' e => ?_, e3⟩
   obtain ⟨a, b, c⟩ := e2 T' nx' e
   refine ⟨a, b, ?_⟩
   rw [c, Its.wt_drop h1, Its.wt_app, hw]
   omega
theorem beyond1 : ∀ (d dep k T : Nat) (l : List It), dep + d = 65538 → d < k → T ≤ 2147483647 → Its.lens l →
    ∃ q, waybillref07_Beyond.l1 k l T dep = some q ∧ (q = .go () → T + Its.wt l ≤ 2147483647) ∧ (∀ o, q = .ret o → o = some true)
 | 0, dep, k, T, l, h, hk, hT, hl => by
  obtain ⟨k, rfl⟩ : ∃ m, k = m + 1 := ⟨k - 1, by omega⟩
  rw [waybillref07_Beyond.l1]
  by_cases h0 : 0 < l.length
  ·rw [if_pos h0, if_pos (by omega)]
   exact ⟨_, rfl, (fun e => by cases e), (fun o e => by cases e; rfl)⟩
  ·rw [if_neg h0]
   have : l = [] := List.length_eq_zero_iff.1 (by omega)
   subst this
   exact ⟨_, rfl, (fun _ => by simp [Its.wt]; omega), (fun o e => by cases e)⟩
 | d + 1, dep, k, T, l, h, hk, hT, hl => by
  obtain ⟨k, rfl⟩ : ∃ m, k = m + 1 := ⟨k - 1, by omega⟩
  rw [waybillref07_Beyond.l1]
  by_cases h0 : 0 < l.length
  ·rw [if_pos h0]
   by_cases h1 : 65536 < dep
   ·rw [if_pos h1]
    exact ⟨_, rfl, (fun e => by cases e), (fun o e => by cases e; rfl)⟩
   ·rw [if_neg h1]
    obtain ⟨q, e1, e2, e3⟩ := beyond2 l hl l.length 0 (l.length - 0 + 2) T [] (by omega) (by omega) hT (by simp) (by simp [Its.lens])
    rw [e1, Zb]
    cases q with
    | ret o =>
     have := e3 o rfl
     subst this
     exact ⟨_, rfl, (fun e => by cases e), (fun o e => by cases e; rfl)⟩
    | go s =>
     obtain ⟨T', nx⟩ := s
     obtain ⟨a, b, c⟩ := e2 T' nx rfl
     obtain ⟨q, f1, f2, f3⟩ := beyond1 d (dep + 1) k T' nx (by omega) (by omega) a b
     refine ⟨q, f1, fun e => ?_, f3⟩
     have := f2 e
     rw [List.drop_zero] at c
     simp only [Its.wt] at c
     omega
  ·rw [if_neg h0]
   have : l = [] := List.length_eq_zero_iff.1 (by omega)
   subst this
   exact ⟨_, rfl, (fun _ => by simp [Its.wt]; omega), (fun o e => by cases e)⟩
theorem beyond_ok (x : It) (hx : x.lens) : ∃ b, waybillref07_Beyond x = some b ∧ (b = false → x.wt ≤ 2147483647) := by
 obtain ⟨q, e1, e2, e3⟩ := beyond1 65538 0 65540 0 [x] (by omega) (by omega) (by omega) (by simp [Its.lens, hx])
 unfold waybillref07_Beyond
 rw [e1, Zb]
 cases q with
 | ret o =>
  have := e3 o rfl
  subst this
  exact ⟨true, rfl, fun e => by cases e⟩
 | go s =>
  refine ⟨false, rfl, fun _ => ?_⟩
  have := e2 rfl
  simp only [Its.wt] at this
  omega
end Go.Fw

/- Part of a proof over Ytgdohhccpghofaa: rules and contracts that the law's text uses. No condition. -/
import Derived.Test.YtgdohhccpghofaaFw18
namespace Go.Fw
open Go Go.RowKit
set_option linter.unusedVariables false
set_option linter.unusedSectionVars false
section
variable {P : Program} {n : Nat} {Q : Exit → Act → World → Prop} {w0 : World} {L : Slots} {M : List Ent}
variable {ops : Array Oper} {rest : List Oper} {d : Nat} {v v' : Value} {tail : List Oper} {m g : Nat} {done : Array Bool}
theorem OW.slot (v' : Value) (hv : v = v') (k : OW P n ops Q w0 rest ((d, v') :: L) M) : OW P n ops Q w0 rest ((d, v) :: L) M := by subst hv; exact k
theorem UW.slot (v' : Value) (hv : v = v') (k : UW P n ops Q w0 tail m g done ((d, v') :: L) M) : UW P n ops Q w0 tail m g done ((d, v) :: L) M := by subst hv; exact k
theorem OW.cells {ob : Option Nat} {l : List Value} {t : TypeId} (l' : List Value) (e : l = l') (k : OW P n ops Q w0 rest L ((ob, blk l' t) :: M)) : OW P n ops Q w0 rest L ((ob, blk l t) :: M) := by subst e; exact k
end
section
variable {P : Program} [Types P] {w0 : World} {L : Slots} {M : List Ent} {t e : TypeId} {x y : Operand} {v : Value}
theorem RV.field_at {A : Addr} {s f : Nat} {fs : Array Field} {fd : Field} (hx : ev L x = some (.pointer (some A))) (ht : tyU P t = some (.struct fs)) (hf : fs[f]? = some fd) (hs : tyS P fd.type = some (s + 1)) :
    RV P w0 L M (.fieldAddr t x f) (.pointer (some (A.add fd.offset))) := fun ρ w hρ m o ho => by
  simp [execOp, ho, hρ x _ hx, Instr.fieldAt, Instr.sureAddr, tyU_run ht, hf, Go.fieldPlace, tyS_run hs]
/-- The places of a struct's fields. -/
def plcs (P : Program) [Types P] : List Field → Option (List (Nat × Nat))
  | [] => some []
  | f :: r => match tyS P f.type, plcs P r with
    | some s, some l => some ((f.offset, s) :: l)
    | _, _ => none
theorem plcs_run {w : World} : ∀ (fs : List Field) (pl : List (Nat × Nat)), plcs P fs = some pl → (fs.mapM (m := Sem) fun f => do pure (f.offset, ← Go.sizeOf f.type)).run P w = .ok pl w
  | [], pl, h => by simp [plcs] at h; subst h; simp
  | f :: r, pl, h => by
    simp only [plcs] at h
    split at h
    · rename_i s l h1 h2
      simp at h; subst h
      have ih := plcs_run (w := w) r l h2
      have hs := tyS_run (P := P) h1 w
      simp only [List.mapM_cons, Sem.run_bind, hs, ih, Result.andThen, Sem.run_pure]
    · cases h
def fillL (pl : List (Nat × Nat)) : List Value → List (Nat × List Value) → Option (List Value)
  | l, [] => some l
  | l, (i, vs) :: r => match pl[i]? with
    | some (off, size) => if Nat.beq vs.length size && Nat.ble (off + size) l.length then fillL pl (spl l off vs) r else none
    | none => none
theorem fillL_run {pl : List (Nat × Nat)} : ∀ (ps : List (Nat × List Value)) (us : List (Nat × Value)) (l cs : List Value), us.map (fun p => (p.1, p.2.cells)) = ps.map (fun p => (p.1, p.2.toArray)) → fillL pl l ps = some cs →
    Instr.fill (fun i => pl[i]?) l.toArray us = some cs.toArray
  | [], us, l, cs, hu, h => by
    cases us with
    | nil => simp [fillL] at h; subst h; rfl
    | cons _ _ => simp at hu
  | (i, vs) :: r, us, l, cs, hu, h => by
    cases us with
    | nil => simp at hu
    | cons p us =>
      obtain ⟨j, u⟩ := p
      simp only [List.map_cons, List.cons.injEq, Prod.mk.injEq] at hu
      obtain ⟨⟨rfl, h2⟩, h3⟩ := hu
      simp only [fillL] at h
      split at h
      · rename_i off size hp
        split at h
        · rename_i hc
          simp only [Bool.and_eq_true, Nat.beq_eq, Nat.ble_eq] at hc
          obtain ⟨h4, h5⟩ := hc
          rw [fill_cons (vs := vs) (off := off) (size := size) hp h2 h4 (by omega)]
          exact fillL_run r us _ cs h3 h
        · cases h
      · cases h
def evC (L : Slots) : List (Nat × Operand) → Option (List (Nat × Value))
  | [] => some []
  | (j, x) :: r => match ev L x, evC L r with
    | some v, some vs => some ((j, v) :: vs)
    | _, _ => none
theorem evC_spec {ρ : Operand → Value} (hρ : ∀ x u, ev L x = some u → ρ x = u) : ∀ (ps : List (Nat × Operand)) (vs : List (Nat × Value)), evC L ps = some vs → ps.map (fun p => (p.1, ρ p.2)) = vs
  | [], vs, h => by simp [evC] at h; subst h; rfl
  | (j, x) :: r, vs, h => by
    simp only [evC] at h
    split at h
    · rename_i v us hv hus
      simp only [Option.some.injEq] at h
      subst h
      simp [hρ x _ hv, evC_spec hρ r us hus]
    · cases h
/-- A struct written out. -/
theorem RV.buildSt {i : TI} {l cs : List Value} {fs : List Field} {pl : List (Nat × Nat)} {ps : List (Nat × Operand)} {us : List (Nat × Value)} (vs : List (Nat × List Value)) (hi : ty P t = some i) (hu : i.u = .struct fs.toArray) (hpl : plcs P fs = some pl) (hl : i.z.cells = l.toArray) (hp : evC L ps = some us)
    (hv : us.map (fun p => (p.1, p.2.cells)) = vs.map (fun p => (p.1, p.2.toArray))) (hcs : fillL pl l vs = some cs) : RV P w0 L M (.build t ps.toArray) (.agg cs.toArray) := fun ρ w hρ m o ho => by
  obtain ⟨h0, ti, h1, h2, h3, h4⟩ := ty_ok hi
  rw [hu] at h0
  have hf := fillL_run vs us l cs hv hcs
  have he := evC_spec hρ ps us hp
  have hp2 := plcs_run (P := P) (w := w) fs pl hpl
  have hp3 : ((fs.toArray).mapM (m := Sem) fun f => do pure (f.offset, ← Go.sizeOf f.type)).run P w = .ok pl.toArray w := by
    rw [List.mapM_toArray]
    simp only [map_eq_pure_bind, Sem.run_bind, hp2, Result.andThen, Sem.run_pure]
  have hz : (zeroValue t).run P w = .ok i.z w := by simp [zeroValue, typeInfo, h1, h4]
  have hg : (fun i : Nat => (pl.toArray)[i]?) = fun i : Nat => pl[i]? := by funext i; simp
  have hb : (Instr.build t (ps.map fun p => (p.1, ρ p.2)).toArray).run P w = .ok (.agg cs.toArray) w := by
    unfold Instr.build
    simp only [Sem.run_bind, hz, Result.andThen, run_underlying h0, hp3, he, hl, hg, hf, Sem.run_pure]
  simp [execOp, ho] at hb ⊢
  simp [hb]
end
end Go.Fw
namespace Go.Fw
open Go Go.RowKit
section
variable {P : Program} {n : Nat} {Q : Exit → Act → World → Prop} {w0 : World} {L : Slots} {M : List Ent} {x : Code}
theorem CW.cutJ (J : Slots → List Ent → Prop) (hy : ∀ L M, J L M → QW n Q w0 .normal L M) (hx : CW P n (Exit.then (Joined n w0 J) Q) w0 x L M) : CW P n Q w0 x L M := CW.intro fun a w f m => by
  refine wp_mono (hx.elim a w f m) ?_
  intro e a w h
  cases e <;> first
    | exact h
    | (obtain ⟨L', M', h1, h2, h3⟩ := h; exact (hy L' M' h1).elim a w h2 h3)
end
theorem More.flat {w0 : World} {Φ : Ctx} {A B : List Ent} {w : World} (q : More w0 Φ (A ++ B) w) : More w0 (More w0 Φ B) A w := ⟨⟨q.1, q.2.appR⟩, q.2.appL⟩
theorem More.base {w0 : World} {Φ : Ctx} {B : List Ent} {w : World} (q : More w0 Φ B w) : Φ w := q.1
theorem View.hi8 {α : Type} {Φ : Ctx} {A : Option Addr} {c : Nat} {f : α → Value} {xs : List α} (h : View Φ A xs.length c 1 (xs.map f)) {k : Nat} (hk : k ≤ xs.length) : View Φ A (xs.take k).length c 1 ((xs.take k).map f) := by
  have := h.hi hk
  rw [Nat.mul_one, ← List.map_take] at this
  rwa [List.length_take, Nat.min_eq_left hk]
theorem View.lo8 {α : Type} {Φ : Ctx} {A : Option Addr} {c : Nat} {f : α → Value} {xs : List α} (h : View Φ A xs.length c 1 (xs.map f)) {k : Nat} (hk : k ≤ xs.length) : View Φ (subA A c k 1) (xs.drop k).length (c - k) 1 ((xs.drop k).map f) := by
  have := h.lo hk
  rw [Nat.mul_one, ← List.map_drop] at this
  rwa [List.length_drop]
theorem View.mid8 {α : Type} {Φ : Ctx} {A : Option Addr} {c : Nat} {f : α → Value} {xs : List α} (h : View Φ A xs.length c 1 (xs.map f)) {j k : Nat} (hj : j ≤ k) (hk : k ≤ xs.length) : View Φ (subA A c j 1) ((xs.take k).drop j).length (c - j) 1 (((xs.take k).drop j).map f) :=
  (h.hi8 hk).lo8 (by rw [List.length_take]; omega)
theorem own_at {cells r : List Value} {i : Nat} {v : Value} (h : cells[i]? = some v) : (cells ++ r)[i]? = some v := by
  rw [List.getElem?_append_left (List.getElem?_eq_some_iff.1 h).1]; exact h
theorem own_at0 {cells r : List Value} {i : Nat} {v : Value} (h : cells[i]? = some v) : (cells ++ r)[0 + i]? = some v := by rw [Nat.zero_add]; exact own_at h
theorem OwnS.isSome {ob : Option Nat} {len cap s : Nat} {cells r : List Value} (h : OwnS ob len cap s cells r) (hs : 0 < s) {i : Nat} (hi : i < len) : ob.isSome = true := h.so hs (fun e => by
  have h1 := h.n
  rw [e] at h1
  have h2 : 0 < len * s := Nat.mul_pos (by omega) hs
  simp at h1
  omega)
theorem OwnS.nilc {ob : Option Nat} {len cap s : Nat} {cells r : List Value} (h : OwnS ob len cap s cells r) (hs : 0 < s) (e : ob = none) : cells = [] := by
  cases hc : cells with
  | nil => rfl
  | cons x r => have := h.so hs (by simp [hc]); simp [e] at this
theorem OwnS.zeroO {ob : Option Nat} {len cap s : Nat} {cells r : List Value} (h : OwnS ob len cap s cells r) (hs : 0 < s) (e : ob.map (fun k => (⟨k, 0, none⟩ : Addr)) = none) : len = 0 := by
  have e2 : ob = none := by cases ob <;> simp_all
  have h1 := h.n
  rw [h.nilc hs e2] at h1
  exact Nat.eq_zero_of_not_pos (fun hp => by have h2 : 0 < len * s := Nat.mul_pos hp hs; simp at h1; omega)
theorem lt_of_at {α : Type} {l : List α} {i : Nat} {x : α} (h : l[i]? = some x) : i < l.length := (List.getElem?_eq_some_iff.1 h).1
theorem vlt_of_at {α : Type} {k : Nat} {v : Vector α k} {i : Nat} {x : α} (h : v[i]? = some x) : i < k := (Vector.getElem?_eq_some_iff.1 h).1
theorem vat {α : Type} {k : Nat} {v : Vector α k} {i : Nat} {x : α} (h : v[i]? = some x) : v.toList[i]? = some x := by rw [Vector.getElem?_toList]; exact h
theorem vat' {α : Type} {k : Nat} {v : Vector α k} {i : Nat} (h : i < k) : v.toList[i]? = some (v[i]'h) := by rw [Vector.getElem?_toList]; exact Vector.getElem?_eq_getElem h
theorem vset {α : Type} {k : Nat} {v : Vector α k} {i : Nat} {x : α} : v.toList.set i x = (v.setIfInBounds i x).toList := by simp
end Go.Fw

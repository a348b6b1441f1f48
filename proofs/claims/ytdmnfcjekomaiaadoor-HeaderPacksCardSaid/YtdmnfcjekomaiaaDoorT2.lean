/- Part of a proof: rules that its law uses. -/
import Derived.Laws.Externs
import Derived.Scope
import Derived.Test.YtdmnfcjekomaiaaDoorT1
set_option linter.unusedVariables false
set_option linter.unusedSimpArgs false
set_option linter.unusedSectionVars false
set_option maxRecDepth 100000
set_option maxHeartbeats 1000000
namespace Go.Fw
open Go Go.RowKit
inductive Reps {T : Type} (R : List Value → T → Prop) : List Value → List T → Prop
 | nil : Reps R [] []
 | cons {c cs : List Value} {x : T} {xs : List T} : R c x → Reps R cs xs → Reps R (c ++ cs) (x :: xs)
namespace Reps
variable {T : Type} {R R' : List Value → T → Prop}
theorem mono (hh : ∀ c x, R c x → R' c x) : ∀ {cs : List Value} {xs : List T}, Reps R cs xs → Reps R' cs xs := by
 intro cs xs h
 induction h with
 | nil => exact .nil
 | cons h _ ih => exact .cons (hh _ _ h) ih
theorem app {as₁ bs : List Value} {xs ys : List T} (h : Reps R as₁ xs) (k : Reps R bs ys) : Reps R (as₁ ++ bs) (xs ++ ys) := by
 induction h with
 | nil => exact k
 | cons h _ ih => rw [List.append_assoc]; exact .cons h ih
theorem one {c : List Value} {x : T} (h : R c x) : Reps R c [x] := by have := Reps.cons h .nil; simpa using this
theorem snoc {as₁ c : List Value} {xs : List T} {x : T} (h : Reps R as₁ xs) (k : R c x) : Reps R (as₁ ++ c) (xs ++ [x]) := h.app (one k)
theorem len {s : Nat} (hl : ∀ c x, R c x → c.length = s) {cs : List Value} {xs : List T} (h : Reps R cs xs) : cs.length = xs.length * s := by
 induction h with
 | nil => simp
 | cons h _ ih => rw [List.length_append, hl _ _ h, ih, List.length_cons, Nat.add_mul]; omega
theorem cell1 (h1 : ∀ c x, R c x → ∀ u ∈ c, u.oneCell' = true) {cs : List Value} {xs : List T} (h : Reps R cs xs) : ∀ u ∈ cs, u.oneCell' = true := by
 induction h with
 | nil => intro u hu; cases hu
 | cons h _ ih =>
  intro u hu
  rcases List.mem_append.1 hu with hu | hu
  ·exact h1 _ _ h u hu
  ·exact ih u hu
theorem get {s : Nat} (hl : ∀ c x, R c x → c.length = s) {cs : List Value} {xs : List T} (h : Reps R cs xs) : ∀ {i : Nat} {x : T}, xs[i]? = some x → ∃ c, R c x ∧ ∀ j u, c[j]? = some u → cs[i * s + j]? = some u := by
 induction h with
 | nil => intro i x hx; simp at hx
 | @cons c cs y ys h _ ih =>
  intro i x hx
  cases i with
  | zero =>
   simp at hx; subst hx
   exact ⟨c, h, fun j u hj => by rw [Nat.zero_mul, Nat.zero_add, List.getElem?_append_left (List.getElem?_eq_some_iff.1 hj).1]; exact hj⟩
  | succ i =>
   simp at hx
   obtain ⟨c', h1, h2⟩ := ih hx
   refine ⟨c', h1, fun j u hj => ?_⟩
   have h3 := hl _ _ h
   rw [List.getElem?_append_right (by rw [h3, Nat.succ_mul]; omega), h3]
   have := h2 j u hj
   rw [← this]
   congr 1
   rw [Nat.succ_mul]; omega
theorem drop {s : Nat} (hl : ∀ c x, R c x → c.length = s) {cs : List Value} {xs : List T} (h : Reps R cs xs) : ∀ (k : Nat), Reps R (cs.drop (k * s)) (xs.drop k) := by
 induction h with
 | nil => intro k; simp; exact .nil
 | @cons c cs y ys h hr ih =>
  intro k
  cases k with
  | zero => simpa using Reps.cons h hr
  | succ k =>
   have h3 := hl _ _ h
   rw [Nat.succ_mul, Nat.add_comm (k * s) s, ← List.drop_drop, show List.drop s (c ++ cs) = cs by rw [← h3]; simp]
   exact ih k
theorem take {s : Nat} (hl : ∀ c x, R c x → c.length = s) {cs : List Value} {xs : List T} (h : Reps R cs xs) : ∀ (k : Nat), Reps R (cs.take (k * s)) (xs.take k) := by
 induction h with
 | nil => intro k; simp; exact .nil
 | @cons c cs y ys h hr ih =>
  intro k
  cases k with
  | zero => simp; exact .nil
  | succ k =>
   have h3 := hl _ _ h
   rw [show List.take ((k + 1) * s) (c ++ cs) = c ++ cs.take (k * s) by
    rw [List.take_append, h3, List.take_of_length_le (by rw [h3, Nat.succ_mul]; omega)]
    congr 2
    rw [Nat.succ_mul]; omega]
   exact Reps.cons h (ih k)
end Reps
theorem View.load {Φ : Ctx} {A : Option Addr} {len c s : Nat} {cells : List Value} (h : View Φ A len c s cells) {w : World} (q : Φ w) {off : Nat} {cs : List Value} (hc : ∀ j u, cs[j]? = some u → cells[off + j]? = some u) : ∀ j u, cs[j]? = some u → w.cell? (((A.getD default).add off).add j) = some u := fun j u hj => by
 rw [Addr.add_add]; exact h.cell q (hc j u hj)
def BsRd (Φ : Ctx) (cs : List Value) (x : List (BitVec 8)) : Prop := ∃ A c, cs = [.slice A x.length c] ∧ View Φ A x.length c 1 (u8s x)
theorem BsRd.mono {Φ Ψ : Ctx} (hh : ∀ w, Ψ w → Φ w) (cs : List Value) (x : List (BitVec 8)) : BsRd Φ cs x → BsRd Ψ cs x := fun ⟨A, c, h1, h2⟩ => ⟨A, c, h1, h2.mono hh⟩
theorem BsRd.len {Φ : Ctx} (cs : List Value) (x : List (BitVec 8)) (h : BsRd Φ cs x) : cs.length = 1 := by obtain ⟨A, c, rfl, _⟩ := h; rfl
theorem BsRd.one {Φ : Ctx} (cs : List Value) (x : List (BitVec 8)) (h : BsRd Φ cs x) : ∀ u ∈ cs, u.oneCell' = true := by
 obtain ⟨A, c, rfl, _⟩ := h
 intro u hu; simp at hu; subst hu; rfl
theorem BsRd.mk {Φ : Ctx} {A : Option Addr} {x : List (BitVec 8)} {c : Nat} (h : View Φ A x.length c 1 (u8s x)) : BsRd Φ [.slice A x.length c] x := ⟨A, c, rfl, h⟩
inductive It where
 | mk (list : Bool) (data : List (BitVec 8)) (items : List It)
def It.list : It → Bool | .mk l _ _ => l
def It.data : It → List (BitVec 8) | .mk _ d _ => d
def It.items : It → List It | .mk _ _ i => i
inductive ItRd (Φ : Ctx) : List Value → It → Prop
 | mk {A B : Option Addr} {l : Bool} {d : List (BitVec 8)} {c e : Nat} {its : List It} {cells : List Value} :
  View Φ A d.length c 1 (u8s d) → View Φ B its.length e 3 cells → Reps (ItRd Φ) cells its → ItRd Φ [.bool l, .slice A d.length c, .slice B its.length e] (.mk l d its)
theorem ItRd.len {Φ : Ctx} (cs : List Value) (x : It) (h : ItRd Φ cs x) : cs.length = 3 := by cases h; rfl
theorem ItRd.one {Φ : Ctx} (cs : List Value) (x : It) (h : ItRd Φ cs x) : ∀ u ∈ cs, u.oneCell' = true := by
 cases h
 intro u hu; simp at hu; rcases hu with rfl | rfl | rfl <;> rfl
mutual
theorem ItRd.mono' {Φ Ψ : Ctx} (hh : ∀ w, Ψ w → Φ w) : ∀ (x : It) (cs : List Value), ItRd Φ cs x → ItRd Ψ cs x
 | .mk l d its, _, .mk h1 h2 h3 => .mk (h1.mono hh) (h2.mono hh) (ItsRd.mono' hh its _ h3)
theorem ItsRd.mono' {Φ Ψ : Ctx} (hh : ∀ w, Ψ w → Φ w) : ∀ (xs : List It) (cs : List Value), Reps (ItRd Φ) cs xs → Reps (ItRd Ψ) cs xs
 | [], _, .nil => .nil
 | x :: xs, _, .cons h hr => .cons (ItRd.mono' hh x _ h) (ItsRd.mono' hh xs _ hr)
end
theorem ItRd.mono {Φ Ψ : Ctx} (hh : ∀ w, Ψ w → Φ w) (cs : List Value) (x : It) : ItRd Φ cs x → ItRd Ψ cs x := ItRd.mono' hh x cs
theorem ItRd.opn {Φ : Ctx} {cs : List Value} {x : It} (h : ItRd Φ cs x) : ∃ A c B e cells, cs = [.bool x.list, .slice A x.data.length c, .slice B x.items.length e] ∧ View Φ A x.data.length c 1 (u8s x.data) ∧ View Φ B x.items.length e 3 cells ∧ Reps (ItRd Φ) cells x.items := by
 cases h with
 | mk h1 h2 h3 => exact ⟨_, _, _, _, _, rfl, h1, h2, h3⟩
theorem It.eta (x : It) : x = .mk x.list x.data x.items := by cases x; rfl
end Go.Fw
namespace Go.Fw
open Go Go.RowKit
section
variable {P : Program} {n : Nat} {Q : Exit → Act → World → Prop} {w0 : World} {L : Z135} {M : List Ent}
variable {ops : Array Oper} {rest : List Oper} {d : Nat} {v v' : Value} {tail : List Oper} {m g : Nat} {done : Array Bool}
theorem Z7 (v' : Value) (hv : v = v') (k : OW P n ops Q w0 rest ((d, v') :: L) M) : OW P n ops Q w0 rest ((d, v) :: L) M := by subst hv; exact k
theorem UW.slot (v' : Value) (hv : v = v') (k : UW P n ops Q w0 tail m g done ((d, v') :: L) M) : UW P n ops Q w0 tail m g done ((d, v) :: L) M := by subst hv; exact k
theorem OW.cells {ob : Option Nat} {l : List Value} {t : TypeId} (l' : List Value) (e : l = l') (k : OW P n ops Q w0 rest L ((ob, blk l' t) :: M)) : OW P n ops Q w0 rest L ((ob, blk l t) :: M) := by subst e; exact k
end
section
variable {P : Program} [Types P] {w0 : World} {L : Z135} {M : List Ent} {t e : TypeId} {x y : Operand} {v : Value}
theorem Z31 {A : Addr} {s f : Nat} {fs : Array Field} {fd : Field} (hx : ev L x = some (.pointer (some A))) (ht : tyU P t = some (.struct fs)) (hf : fs[f]? = some fd) (hs : tyS P fd.type = some (s + 1)) :
    RV P w0 L M (.fieldAddr t x f) (.pointer (some (A.add fd.offset))) := fun ρ w hρ m o ho => by
 simp [execOp, ho, hρ x _ hx, Instr.fieldAt, Instr.sureAddr, Z131 ht, hf, Go.fieldPlace, Z155 hs]
def plcs (P : Program) [Types P] : List Field → Option (List (Nat × Nat))
 | [] => some []
 | f :: r => match tyS P f.type, plcs P r with
  | some s, some l => some ((f.offset, s) :: l)
  | _, _ => none
theorem plcs_run {w : World} : ∀ (fs : List Field) (pl : List (Nat × Nat)), plcs P fs = some pl → (fs.mapM (m := Sem) fun f => do pure (f.offset, ← Go.sizeOf f.type)).run P w = .ok pl w
 | [], pl, h => by simp [plcs] at h; subst h; simp
 | f :: r, pl, h => by
  simp only [plcs] at h
  split at h
  ·rename_i s l h1 h2
   simp at h; subst h
   have ih := plcs_run (w := w) r l h2
   have hs := Z155 (P := P) h1 w
   simp only [List.mapM_cons, Sem.run_bind, hs, ih, Result.andThen, Sem.run_pure]
  ·cases h
def fillL (pl : List (Nat × Nat)) : List Value → List (Nat × List Value) → Option (List Value)
 | l, [] => some l
 | l, (i, vs) :: r => match pl[i]? with
  | some (off, size) => if Nat.beq vs.length size && Nat.ble (off + size) l.length then fillL pl (spl l off vs) r else none
  | none => none
theorem fillL_run {pl : List (Nat × Nat)} : ∀ (ps : List (Nat × List Value)) (us : List (Nat × Value)) (l cs : List Value), us.map (fun p => (p.1, p.2.cells)) = ps.map (fun p => (p.1, p.2.toArray)) → fillL pl l ps = some cs →
    Instr.fill (fun i => pl[i]?) l.toArray us = some cs.toArray
 | [], us, l, cs, hu, h => by
  cases us with
  | nil => simp [fillL] at h; subst h; rfl
  | cons _ _ => simp at hu
 | (i, vs) :: r, us, l, cs, hu, h => by
  cases us with
  | nil => simp at hu
  | cons p us =>
   obtain ⟨j, u⟩ := p
   simp only [List.map_cons, List.cons.injEq, Prod.mk.injEq] at hu
   obtain ⟨⟨rfl, h2⟩, h3⟩ := hu
   simp only [fillL] at h
   split at h
   ·rename_i off size hp
    split at h
    ·rename_i hc
     simp only [Bool.and_eq_true, Nat.beq_eq, Nat.ble_eq] at hc
     obtain ⟨h4, h5⟩ := hc
     rw [fill_cons (vs := vs) (off := off) (size := size) hp h2 h4 (by omega)]
     exact fillL_run r us _ cs h3 h
    ·cases h
   ·cases h
def evC (L : Z135) : List (Nat × Operand) → Option (List (Nat × Value))
 | [] => some []
 | (j, x) :: r => match ev L x, evC L r with
  | some v, some vs => some ((j, v) :: vs)
  | _, _ => none
theorem evC_spec {ρ : Operand → Value} (hρ : ∀ x u, ev L x = some u → ρ x = u) : ∀ (ps : List (Nat × Operand)) (vs : List (Nat × Value)), evC L ps = some vs → ps.map (fun p => (p.1, ρ p.2)) = vs
 | [], vs, h => by simp [evC] at h; subst h; rfl
 | (j, x) :: r, vs, h => by
  simp only [evC] at h
  split at h
  ·rename_i v us hv hus
   simp only [Option.some.injEq] at h
   subst h
   simp [hρ x _ hv, evC_spec hρ r us hus]
  ·cases h
theorem Z112 {i : TI} {l cs : List Value} {fs : List Field} {pl : List (Nat × Nat)} {ps : List (Nat × Operand)} {us : List (Nat × Value)} (vs : List (Nat × List Value)) (hi : ty P t = some i) (hu : i.u = .struct fs.toArray) (hpl : plcs P fs = some pl) (hl : i.z.cells = l.toArray) (hp : evC L ps = some us)
    (hv : us.map (fun p => (p.1, p.2.cells)) = vs.map (fun p => (p.1, p.2.toArray))) (hcs : fillL pl l vs = some cs) : RV P w0 L M (.build t ps.toArray) (.agg cs.toArray) := fun ρ w hρ m o ho => by
 obtain ⟨h0, ti, h1, h2, h3, h4⟩ := ty_ok hi
 rw [hu] at h0
 have hf := fillL_run vs us l cs hv hcs
 have he := evC_spec hρ ps us hp
 have hp2 := plcs_run (P := P) (w := w) fs pl hpl
 have hp3 : ((fs.toArray).mapM (m := Sem) fun f => do pure (f.offset, ← Go.sizeOf f.type)).run P w = .ok pl.toArray w := by
  rw [List.mapM_toArray]
  simp only [map_eq_pure_bind, Sem.run_bind, hp2, Result.andThen, Sem.run_pure]
 have hz : (zeroValue t).run P w = .ok i.z w := by simp [zeroValue, typeInfo, h1, h4]
 have hg : (fun i : Nat => (pl.toArray)[i]?) = fun i : Nat => pl[i]? := by funext i; simp
 have hb : (Instr.build t (ps.map fun p => (p.1, ρ p.2)).toArray).run P w = .ok (.agg cs.toArray) w := by
  unfold Instr.build
  simp only [Sem.run_bind, hz, Result.andThen, run_underlying h0, hp3, he, hl, hg, hf, Sem.run_pure]
 simp [execOp, ho] at hb ⊢
 simp [hb]
end
end Go.Fw
namespace Go.Fw
open Go Go.RowKit
section
variable {P : Program} {n : Nat} {Q : Exit → Act → World → Prop} {w0 : World} {L : Z135} {M : List Ent} {x : Code}
theorem Z120 (J : Z135 → List Ent → Prop) (hy : ∀ L M, J L M → QW n Q w0 .normal L M) (hx : CW P n (Exit.then (Joined n w0 J) Q) w0 x L M) : CW P n Q w0 x L M := CW.intro fun a w f m => by
 refine wp_mono (hx.elim a w f m) ?_
 intro e a w h
 cases e <;> first
  | exact h
  | (obtain ⟨L', M', h1, h2, h3⟩ := h; exact (hy L' M' h1).elim a w h2 h3)
end
theorem More.flat {w0 : World} {Φ : Ctx} {A B : List Ent} {w : World} (q : More w0 Φ (A ++ B) w) : More w0 (More w0 Φ B) A w := ⟨⟨q.1, q.2.appR⟩, q.2.appL⟩
theorem More.base {w0 : World} {Φ : Ctx} {B : List Ent} {w : World} (q : More w0 Φ B w) : Φ w := q.1
theorem View.lo8 {α : Type} {Φ : Ctx} {A : Option Addr} {c : Nat} {f : α → Value} {xs : List α} (h : View Φ A xs.length c 1 (xs.map f)) {k : Nat} (hk : k ≤ xs.length) : View Φ (subA A c k 1) (xs.drop k).length (c - k) 1 ((xs.drop k).map f) := by
 have := h.lo hk
 rw [Nat.mul_one, ← List.map_drop] at this
 rwa [List.length_drop]
theorem own_at {cells r : List Value} {i : Nat} {v : Value} (h : cells[i]? = some v) : (cells ++ r)[i]? = some v := by
 rw [List.getElem?_append_left (List.getElem?_eq_some_iff.1 h).1]; exact h
theorem own_at0 {cells r : List Value} {i : Nat} {v : Value} (h : cells[i]? = some v) : (cells ++ r)[0 + i]? = some v := by rw [Nat.zero_add]; exact own_at h
theorem OwnS.isSome {ob : Option Nat} {len cap s : Nat} {cells r : List Value} (h : OwnS ob len cap s cells r) (hs : 0 < s) {i : Nat} (hi : i < len) : ob.isSome = true := h.so hs (fun e => by
 have h1 := h.n
 rw [e] at h1
 have h2 : 0 < len * s := Nat.mul_pos (by omega) hs
 simp at h1
 omega)
theorem OwnS.nilc {ob : Option Nat} {len cap s : Nat} {cells r : List Value} (h : OwnS ob len cap s cells r) (hs : 0 < s) (e : ob = none) : cells = [] := by
 cases hc : cells with
 | nil => rfl
 | cons x r => have := h.so hs (by simp [hc]); simp [e] at this
theorem OwnS.zeroO {ob : Option Nat} {len cap s : Nat} {cells r : List Value} (h : OwnS ob len cap s cells r) (hs : 0 < s) (e : ob.map (fun k => (⟨k, 0, none⟩ : Addr)) = none) : len = 0 := by
 have e2 : ob = none := by cases ob <;> simp_all
 have h1 := h.n
 rw [h.nilc hs e2] at h1
 exact Nat.eq_zero_of_not_pos (fun hp => by have h2 : 0 < len * s := Nat.mul_pos hp hs; simp at h1; omega)
theorem Z130 {α : Type} {l : List α} {i : Nat} {x : α} (h : l[i]? = some x) : i < l.length := (List.getElem?_eq_some_iff.1 h).1
theorem vat {α : Type} {k : Nat} {v : Vector α k} {i : Nat} {x : α} (h : v[i]? = some x) : v.toList[i]? = some x := by rw [Vector.getElem?_toList]; exact h
theorem vat' {α : Type} {k : Nat} {v : Vector α k} {i : Nat} (h : i < k) : v.toList[i]? = some (v[i]'h) := by rw [Vector.getElem?_toList]; exact Vector.getElem?_eq_getElem h
theorem vset {α : Type} {k : Nat} {v : Vector α k} {i : Nat} {x : α} : v.toList.set i x = (v.setIfInBounds i x).toList := by simp
end Go.Fw
namespace Go.Fw
open Go Go.RowKit
section
variable {P : Program} [Types P] {w0 : World} {L : Z135} {M : List Ent} {f : FuncId}
variable {t : TypeId} {x y : Operand} {m n : Int}
theorem RV.max2 {ats : Array TypeId} (hx : ev L x = some (.int .i64 m)) (hy : ev L y = some (.int .i64 n)) : RV P w0 L M (.call ⟨.builtin .max, #[x, y], ats⟩) (.int .i64 (max m n)) := fun ρ w hρ mm o ho => by
 have e : (if n > m then n else m) = max m n := by omega
 simp [execOp, ho, resolve, hρ x _ hx, hρ y _ hy, invoke, builtin, Builtin.max_, Builtin.max2, e]
end
end Go.Fw
namespace Go.Fw
open Go Go.RowKit
def Rl (w0 : World) (R : List Ent) (h : Bool) (w w2 : World) : Prop := if h then (Mem w0 w R → Mem w0 w2 R) else Upw w0 w w2
theorem Rl.base {w0 : World} {R : List Ent} {h : Bool} {w w2 : World} (r : Rl w0 R h w w2) : Mem w0 w R → Mem w0 w2 R := by
 unfold Rl at r
 split at r
 ·exact r
 ·exact r R
section
variable {P : Program} {ops : Array Oper} {md : Region.Mode}
def XH (P : Program) (md : Region.Mode) (ops : Array Oper) (n : Nat) (w0 : World) (R : List Ent) (hard : List Nat) (E : Array Bool → Act → World → Prop) : Nat → Array Bool → Act → World → Prop
 | 0, done, a, w => E done a w
 | f + 1, done, a, w => Region.ready md ops done ≠ [] ∧ ∀ i, i ∈ Region.ready md ops done → i < n ∧ ∃ o, ops[i]? = some o ∧
     ((Region.wanted o (yielded ops a.tmps) = true ∧ stp P ((execOp a.eval o).run P w) (fun u w2 => Rl w0 R (hard.contains i) w w2 ∧ XH P md ops n w0 R hard E f (done.setIfInBounds i true) (a.put o.dst u) w2)) ∨
      (Region.wanted o (yielded ops a.tmps) = false ∧ XH P md ops n w0 R hard E f (done.setIfInBounds i true) (a.put o.dst undef) w))
theorem XH.any {n g : Nat} {w0 : World} {R : List Ent} {hard : List Nat} {E : Array Bool → Act → World → Prop} {Q : Exit → Act → World → Prop} (hE : ∀ done a w, E done a w → wpAny P md ops Q g done a w) :
    ∀ (f : Nat) (done : Array Bool) (a : Act) (w : World), XH P md ops n w0 R hard E f done a w → wpAny P md ops Q (f + g) done a w
 | 0, done, a, w, h => by simpa using hE done a w h
 | f + 1, done, a, w, h => by
  have hfg : f + 1 + g = (f + g) + 1 := by omega
  rw [hfg]
  obtain ⟨h1, h2⟩ := h
  refine ⟨fun e => absurd e h1, fun i hi => ?_⟩
  obtain ⟨_, o, ho, h3⟩ := h2 i hi
  unfold wpOp
  simp only [ho]
  rcases h3 with ⟨hw, hs⟩ | ⟨hw, hs⟩
  ·rw [if_pos hw]
   exact .inl (hs.wp fun u w2 ⟨_, q⟩ => XH.any hE f _ _ _ q)
  ·rw [if_neg (by simp [hw])]
   exact XH.any hE f _ _ _ hs
def Yx (P : Program) (ops : Array Oper) (C : World → Prop) (o : Oper) (v : Value) (a : Act) : Prop :=
 (Region.wanted o (yielded ops a.tmps) = true ∧ ∀ w, C w → (execOp a.eval o).run P w = .ok (.value v) w) ∨ (Region.wanted o (yielded ops a.tmps) = false ∧ v = undef)
theorem XH.take {n i : Nat} {w0 : World} {R : List Ent} {hard : List Nat} {oi : Oper} {v : Value} {C : World → Prop} {E : Array Bool → Act → World → Prop} (hi : ops[i]? = some oi) (hsel : ∀ (j : Nat) (o : Oper) cs b, ops[j]? = some o → o.op ≠ .select cs b)
    (hC : ∀ j oj, ops[j]? = some oj → j ≠ i → (∀ e ∈ oj.after, Region.binds md e = true → e.on ≠ i) → ∀ w w2, C w → Rl w0 R (hard.contains j) w w2 → C w2)
    (hn : n = ops.size) (hE : ∀ done a w, E done a w → ∀ j ∈ Region.ready md ops done, n ≤ j) :
    ∀ (f : Nat) (done : Array Bool) (a : Act) (w : World), C w → HeadInv md ops n done →
     (∀ j oj, ops[j]? = some oj → j ≠ i → done.getD j true = false → (∀ e ∈ oj.after, Region.binds md e = true → e.on ≠ i) → oi.apart ops oj = true) →
     i ∈ Region.ready md ops done → Yx P ops C oi v a → XH P md ops n w0 R hard E f (done.setIfInBounds i true) (a.put oi.dst v) w → XH P md ops n w0 R hard E (f + 1) done a w := by
 have hlt : ∀ (done : Array Bool), ∀ j ∈ Region.ready md ops done, j < n := fun done j hj => by
  subst hn
  obtain ⟨_, oj, hoj, _⟩ := mem_ready.1 hj
  exact (Array.getElem?_eq_some_iff.1 hoj).1
 have self : ∀ (f : Nat) (done : Array Bool) (a : Act) (w : World), C w → Yx P ops C oi v a → XH P md ops n w0 R hard E f (done.setIfInBounds i true) (a.put oi.dst v) w →
     ∃ o, ops[i]? = some o ∧ ((Region.wanted o (yielded ops a.tmps) = true ∧ stp P ((execOp a.eval o).run P w) (fun u w2 => Rl w0 R (hard.contains i) w w2 ∧ XH P md ops n w0 R hard E f (done.setIfInBounds i true) (a.put o.dst u) w2)) ∨
      (Region.wanted o (yielded ops a.tmps) = false ∧ XH P md ops n w0 R hard E f (done.setIfInBounds i true) (a.put o.dst undef) w)) := by
  intro f done a w hw hy H
  refine ⟨oi, hi, ?_⟩
  rcases hy with ⟨h1, h2⟩ | ⟨h1, rfl⟩
  ·refine .inl ⟨h1, ?_⟩
   rw [h2 w hw]
   refine ⟨?_, H⟩
   unfold Rl
   split
   ·exact fun m => m
   ·exact Upw.refl _ _
  ·exact .inr ⟨h1, H⟩
 intro f
 induction f with
 | zero =>
  intro done a w hw inv _ hr hy H
  refine ⟨(fun e => by rw [e] at hr; cases hr), fun j hj => ⟨hlt done j hj, ?_⟩⟩
  by_cases e : j = i
  ·subst e; exact self 0 done a w hw hy H
  ·have := hE _ _ _ H j (ready_mono hj e)
   have := hlt done j hj
   omega
 | succ f ih =>
  intro done a w hw inv hfree hr hy H
  refine ⟨(fun e => by rw [e] at hr; cases hr), fun j hj => ⟨hlt done j hj, ?_⟩⟩
  by_cases e : j = i
  ·subst e; exact self (f + 1) done a w hw hy H
  ·obtain ⟨hju, oj, hoj, hall⟩ := mem_ready.1 hj
   have hno : ∀ e ∈ oj.after, Region.binds md e = true → e.on ≠ i := fun x hx hb hxi => by
    have q := hall x hx hb
    rw [hxi, getD_both (mem_ready.1 hr).1] at q
    cases q
   obtain ⟨h1, h2, h3⟩ := Oper.apart_spec (hfree j oj hoj e hju hno)
   have hsi : ∀ cs b, oi.op ≠ .select cs b := fun cs b => hsel i oi cs b hi
   have hsj : ∀ cs b, oj.op ≠ .select cs b := fun cs b => hsel j oj cs b hoj
   have keep : ∀ u, Yx P ops C oi v (a.put oj.dst u) := fun u => by
    unfold Yx at *
    rw [execOp_put oi hsi a oj.dst u h3, wanted_put oi a oj.dst u h3]
    exact hy
   obtain ⟨_, o', ho', step⟩ := H.2 j (ready_mono hj e)
   obtain rfl : oj = o' := Zi (hoj.symm.trans ho')
   rw [wanted_put oj a oi.dst v h1, execOp_put oj hsj a oi.dst v h1] at step
   have next : ∀ (u : Value) (w2 : World), C w2 → XH P md ops n w0 R hard E f ((done.setIfInBounds i true).setIfInBounds j true) ((a.put oi.dst v).put oj.dst u) w2 → XH P md ops n w0 R hard E (f + 1) (done.setIfInBounds j true) (a.put oj.dst u) w2 := fun u w2 hw2 q => by
    refine ih _ _ _ hw2 (inv.set hj (hlt done j hj)) (fun k ok hk hki hku hnk => hfree k ok hk hki ?_ hnk) (ready_mono hr (Ne.symm e)) (keep u) ?_
    ·by_cases hjk : j = k
     ·subst hjk; exact hju
     ·rwa [getD_set_ne true hjk] at hku
    ·rw [Array.setIfInBounds_comm _ _ e, ← Act.put_comm a v u h2]
     exact q
   refine ⟨oj, hoj, ?_⟩
   rcases step with ⟨hw', hs⟩ | ⟨hw', hs⟩
   ·exact .inl ⟨hw', hs.mono fun u w2 ⟨q1, q2⟩ => ⟨q1, next u w2 (hC j oj hoj e hno w w2 hw q1) q2⟩⟩
   ·exact .inr ⟨hw', next undef w hw hs⟩
end
section
variable {P : Program} {n : Nat} {Q : Exit → Act → World → Prop} {w0 : World} {L : Z135} {M R : List Ent}
def XW (P : Program) (n : Nat) (ops : Array Oper) (Q : Exit → Act → World → Prop) (w0 : World) (R : List Ent) (hard : List Nat) (f : Nat) (done : Array Bool) (L : Z135) (M : List Ent) : Prop :=
 (∀ w, Mem w0 w M → Mem w0 w R) → Region.noSelect ops = true → HeadInv .any ops ops.size done → ∀ a w, Fr n L a → Mem w0 w M → XH P .any ops ops.size w0 R hard (UE P ops Q ops.size []) f done a w
theorem CW.drawsX {id : Nat} {l : List Oper} (R : List Ent) (hard : List Nat) (hMR : ∀ w, Mem w0 w M → Mem w0 w R) (hm : P.follows .mixedOrders = true) (hB : Region.noSelect l.toArray = true) (h : XW P n l.toArray Q w0 R hard l.length (Array.replicate l.length false) L M) : CW P n Q w0 (.region id l.toArray true) L M :=
 CW.intro fun a w f m => by
  have inv : HeadInv .any l.toArray l.toArray.size (Array.replicate l.length false) :=
   ⟨by simp, (fun j oj _ q => by rw [getD_replicate_false] at q; cases q), fun t h1 h2 => absurd h1 (by simp at h2; simp; omega)⟩
  have H := h hMR hB inv a _ f (m.like (w' := { w with drawn := w.drawn + 1 }) rfl rfl rfl rfl)
  refine wp_region_any hm ?_
  have R := XH.any (Q := Q) (g := 0) (fun done a' w' q => by
   have s := wpAny_of_seq (md := .any) (Q' := Q) [] l.toArray.size done a' w' (fun j => by simp) q.1 q.2
   simpa using s) _ _ _ _ H
  simpa using R
variable {ops : Array Oper} {hard : List Nat} {f : Nat} {done : Array Bool} {op : Op} {ty : TypeId} {pos : String} {aft : Array Edge} {g : Option (Nat × Bool)} {d : Nat} {v : Value}
theorem XW.nil (hs : Region.seqB .any ops 0 ops.size done = true) (h : QW n Q w0 .normal L M) : XW P n ops Q w0 R hard 0 done L M := fun _ _ _ a w fr mm => ⟨hs, (Z6 (P := P) (ops := ops) h).elim a w fr mm⟩
def XR (ops : Array Oper) (done : Array Bool) (i : Nat) : Bool := (Region.ready .any ops done).contains i && Region.free .any ops done i
def XS (ops : Array Oper) (hard : List Nat) (i : Nat) : Bool := hard.all fun j => match ops[j]? with
 | some o => o.after.any fun e => Region.binds .any e && Nat.beq e.on i
 | none => true
theorem XW.take (i : Nat) {o : Oper} {C : World → Prop} (hC : ∀ j oj, ops[j]? = some oj → j ≠ i → (∀ e ∈ oj.after, Region.binds .any e = true → e.on ≠ i) → ∀ w w2, C w → Rl w0 R (hard.contains j) w w2 → C w2) (hMC : (∀ w, Mem w0 w M → Mem w0 w R) → ∀ w, Mem w0 w M → C w) (hr : XR ops done i = true) (ho : ops[i]? = some o) (v : Value) (hy : ∀ a, Fr n L a → Yx P ops C o v a)
    (k : (∀ w, Mem w0 w M → Mem w0 w R) → ∀ a w, Fr n L a → Mem w0 w M → Region.noSelect ops = true → HeadInv .any ops ops.size (done.setIfInBounds i true) → XH P .any ops ops.size w0 R hard (UE P ops Q ops.size []) f (done.setIfInBounds i true) (a.put o.dst v) w) : XW P n ops Q w0 R hard (f + 1) done L M := fun hR hB inv a w fr mm => by
 simp only [XR, Bool.and_eq_true] at hr
 obtain ⟨h1, h2⟩ := hr
 have hr' : i ∈ Region.ready .any ops done := by simpa using h1
 have him : i < ops.size := (Array.getElem?_eq_some_iff.1 ho).1
 exact XH.take ho (Region.noSelect_spec hB) hC rfl (fun done' a' w' q => seqB_ready q.1) f done a w (hMC hR w mm) inv (Region.free_spec ho h2) hr' (hy a fr) (k hR a w fr mm hB (inv.set hr' him))
theorem XW.rv (i : Nat) (ho : ops[i]? = some ⟨some d, op, ty, pos, aft, g⟩) (hr : XR ops done i = true) (hw : Wt ops L g = true) (hS : XS ops hard i = true) (hop : RV P w0 L M op v) (hd : Nat.blt d n = true) (k : XW P n ops Q w0 R hard f (done.setIfInBounds i true) ((d, v) :: L) M) : XW P n ops Q w0 R hard (f + 1) done L M :=
 XW.take i (C := fun w => Mem w0 w M) (fun j oj hj hne hno w w2 m r => by
  unfold Rl at r
  split at r
  ·rename_i hh
   have h1 := List.all_eq_true.1 hS j (by simpa using hh)
   rw [hj] at h1
   obtain ⟨e, he, h2⟩ := Array.any_eq_true'.1 h1
   simp only [Bool.and_eq_true, Nat.beq_eq] at h2
   exact absurd h2.2 (hno e he h2.1)
  ·exact r _ m) (fun _ _ h => h) hr ho v (fun a fr => .inl ⟨wt_spec fr hw, fun w mm => hop a.eval w (fun x u hx => fr.eval hx) mm _ rfl⟩) (fun hR a w fr mm hB inv => k hR hB inv _ _ (fr.put hd v) mm)
theorem Z10 (i : Nat) (ho : ops[i]? = some ⟨some d, op, ty, pos, aft, g⟩) (hr : XR ops done i = true) (hw : Wt ops L g = true) (hop : RV P w0 L R op v) (hd : Nat.blt d n = true) (k : XW P n ops Q w0 R hard f (done.setIfInBounds i true) ((d, v) :: L) M) : XW P n ops Q w0 R hard (f + 1) done L M :=
 XW.take i (C := fun w => Mem w0 w R) (fun j oj hj hne hno w w2 m r => r.base m) (fun hR w h => hR w h) hr ho v (fun a fr => .inl ⟨wt_spec fr hw, fun w mm => hop a.eval w (fun x u hx => fr.eval hx) mm _ rfl⟩) (fun hR a w fr mm hB inv => k hR hB inv _ _ (fr.put hd v) mm)
theorem XW.skip (i : Nat) (ho : ops[i]? = some ⟨some d, op, ty, pos, aft, g⟩) (hr : XR ops done i = true) (hw : Sk ops L g = true) (hd : Nat.blt d n = true) (k : XW P n ops Q w0 R hard f (done.setIfInBounds i true) ((d, undef) :: L) M) : XW P n ops Q w0 R hard (f + 1) done L M :=
 XW.take i (C := fun w => Mem w0 w R) (fun j oj hj hne hno w w2 m r => r.base m) (fun hR w h => hR w h) hr ho undef (fun a fr => .inr ⟨sk_spec fr hw, rfl⟩) (fun hR a w fr mm hB inv => k hR hB inv _ _ (fr.put hd undef) mm)
theorem XW.sv (i : Nat) {M' : List Ent} (ho : ops[i]? = some ⟨none, op, ty, pos, aft, none⟩) (hr : (Region.ready .any ops done == [i] && hard.contains i) = true) (hop : SV P w0 L M op M') (hMR : ∀ w, Mem w0 w M' → Mem w0 w R) (k : XW P n ops Q w0 R hard f (done.setIfInBounds i true) L M') : XW P n ops Q w0 R hard (f + 1) done L M := fun hR hB inv a w fr mm => by
 simp only [Bool.and_eq_true, beq_iff_eq] at hr
 obtain ⟨hr, hi⟩ := hr
 have him : i < ops.size := (Array.getElem?_eq_some_iff.1 ho).1
 refine ⟨by rw [hr]; simp, fun j hj => ?_⟩
 rw [hr] at hj
 obtain rfl : j = i := by simpa using hj
 refine ⟨him, _, ho, .inl ⟨by simp [Region.wanted], ?_⟩⟩
 obtain ⟨w', hrun, m'⟩ := hop a.eval w (fun x u hx => fr.eval hx) mm ⟨none, op, ty, pos, aft, none⟩ rfl
 rw [hrun]
 refine ⟨?_, k hMR hB (inv.set (by rw [hr]; simp) him) _ _ fr m'⟩
 unfold Rl
 rw [if_pos hi]
 exact fun _ => hMR _ m'
theorem Z19 {M' : List Ent} (hs : ∀ w, Mem w0 w M → Mem w0 w M') (hMR : ∀ w, Mem w0 w M' → Mem w0 w R) (k : XW P n ops Q w0 R hard f done L M') : XW P n ops Q w0 R hard f done L M := fun _ hB inv a w fr mm => k hMR hB inv a w fr (hs w mm)
theorem XW.slot (v' : Value) (hv : v = v') (k : XW P n ops Q w0 R hard f done ((d, v') :: L) M) : XW P n ops Q w0 R hard f done ((d, v) :: L) M := by subst hv; exact k
theorem XW.cells {ob : Option Nat} {l : List Value} {t : TypeId} (l' : List Value) (e : l = l') (k : XW P n ops Q w0 R hard f done L ((ob, blk l' t) :: M)) : XW P n ops Q w0 R hard f done L ((ob, blk l t) :: M) := by subst e; exact k
theorem Z11 (i : Nat) {fn : FuncId} {xs : List Operand} {ats : Array TypeId} {args : List Value} {Rr : Value → List Ent → Prop} (ho : ops[i]? = some ⟨some d, .call ⟨.value (.func fn), xs.toArray, ats⟩, ty, pos, aft, g⟩) (hr : (Region.ready .any ops done == [i]) = true) (hw : Wt ops L g = true)
    (hc : ∀ (args : Array Value) (w : World), (callFunc fn args).run P w = .ok (.enter fn args) w) (hxs : evs L xs = some args) (hdo : ∀ N, (∀ w, Mem w0 w N → Mem w0 w M) → DoesG P fn args w0 [] N Rr)
    (hd : Nat.blt d n = true) (k : ∀ v G, Rr v G → XW P n ops Q w0 R hard f (done.setIfInBounds i true) ((d, v) :: L) (G ++ M)) : XW P n ops Q w0 R hard (f + 1) done L M := fun hR hB inv a w fr mm => by
 simp only [beq_iff_eq] at hr
 have him : i < ops.size := (Array.getElem?_eq_some_iff.1 ho).1
 refine ⟨by rw [hr]; simp, fun j hj => ?_⟩
 rw [hr] at hj
 obtain rfl : j = i := by simpa using hj
 refine ⟨him, _, ho, .inl ⟨wt_spec fr hw, ?_⟩⟩
 have hev := evs_map (fun x u hx => fr.eval hx) xs args hxs
 have hrun : (execOp a.eval ⟨some d, .call ⟨.value (.func fn), xs.toArray, ats⟩, ty, pos, aft, g⟩).run P w = .ok (.enter fn args.toArray) w := by
  simp [execOp, resolve, Deferred.ofValue, Act.eval, invoke, hev, hc]
 rw [hrun]
 refine (hdo (allEnts w0 w) (fun w2 m2 => Z178 m2 _ mm) w mm.all).mono ?_
 rintro e w2 ⟨q, ⟨G, h1, h2⟩, rfl, m'⟩
 have m' : Mem w0 w2 (G ++ allEnts w0 w) := by have m2 := m'; rwa [show (fun q : Value × List Ent => q.2) q = G ++ allEnts w0 w from h2] at m2
 refine ⟨_, rfl, ?_, (k q.1 G h1) (fun w m => hR w m.appR) hB (inv.set (by rw [hr]; simp) him) _ _ (fr.put hd _) (m'.graft mm)⟩
 have hu := Z178 m'.appR
 unfold Rl
 split
 ·exact hu R
 ·exact hu
theorem XW.new (i : Nat) {l : List Value} {te : TypeId} {fv : Nat → Value} (ho : ops[i]? = some ⟨some d, op, ty, pos, aft, g⟩) (hr : (Region.ready .any ops done == [i]) = true) (hw : Wt ops L g = true) (hop : NV P w0 L M op fv l te) (hd : Nat.blt d n = true)
    (k : ∀ b : Nat, XW P n ops Q w0 R hard f (done.setIfInBounds i true) ((d, fv b) :: L) ((some b, blk l te) :: M)) : XW P n ops Q w0 R hard (f + 1) done L M := fun hR hB inv a w fr mm => by
 simp only [beq_iff_eq] at hr
 have him : i < ops.size := (Array.getElem?_eq_some_iff.1 ho).1
 refine ⟨by rw [hr]; simp, fun j hj => ?_⟩
 rw [hr] at hj
 obtain rfl : j = i := by simpa using hj
 refine ⟨him, _, ho, .inl ⟨wt_spec fr hw, ?_⟩⟩
 rw [hop a.eval w (fun x u hx => fr.eval hx) mm _ rfl]
 refine ⟨?_, k _ (fun w m => hR w m.tail) hB (inv.set (by rw [hr]; simp) him) _ _ (fr.put hd _) (mm.alloc _)⟩
 unfold Rl
 split
 ·exact Upw.alloc _ _ _ R
 ·exact Upw.alloc _ _ _
attribute [irreducible] XW
end
end Go.Fw
namespace Go.Fw
end Go.Fw
namespace Go.Fw
def lenTable : ByteArray := { data := List.toArray (List.append (List.append [0, 1, 2, 2, 3, 3, 3, 3, 4, 4, 4, 4, 4, 4, 4, 4, 5, 5, 5, 5, 5, 5, 5, 5, 5, 5, 5, 5, 5, 5, 5, 5, 6, 6, 6, 6, 6, 6, 6, 6, 6, 6, 6, 6, 6, 6, 6, 6, 6, 6, 6, 6, 6, 6, 6, 6, 6, 6, 6, 6, 6, 6, 6, 6] [7, 7, 7, 7, 7, 7, 7, 7, 7, 7, 7, 7, 7, 7, 7, 7, 7, 7, 7, 7, 7, 7, 7, 7, 7, 7, 7, 7, 7, 7, 7, 7, 7, 7, 7, 7, 7, 7, 7, 7, 7, 7, 7, 7, 7, 7, 7, 7, 7, 7, 7, 7, 7, 7, 7, 7, 7, 7, 7, 7, 7, 7, 7, 7]) (List.append [8, 8, 8, 8, 8, 8, 8, 8, 8, 8, 8, 8, 8, 8, 8, 8, 8, 8, 8, 8, 8, 8, 8, 8, 8, 8, 8, 8, 8, 8, 8, 8, 8, 8, 8, 8, 8, 8, 8, 8, 8, 8, 8, 8, 8, 8, 8, 8, 8, 8, 8, 8, 8, 8, 8, 8, 8, 8, 8, 8, 8, 8, 8, 8] [8, 8, 8, 8, 8, 8, 8, 8, 8, 8, 8, 8, 8, 8, 8, 8, 8, 8, 8, 8, 8, 8, 8, 8, 8, 8, 8, 8, 8, 8, 8, 8, 8, 8, 8, 8, 8, 8, 8, 8, 8, 8, 8, 8, 8, 8, 8, 8, 8, 8, 8, 8, 8, 8, 8, 8, 8, 8, 8, 8, 8, 8, 8, 8])) }
def lenB (x : BitVec 8) : Nat := if x = 0#8 then 0 else x.toNat.log2 + 1
theorem lenB_le (x : BitVec 8) : lenB x ≤ 8 := by
 unfold lenB
 split
 ·omega
 ·have h := x.isLt
  have : x.toNat.log2 < 8 := (Nat.log2_lt (by intro e; exact ‹¬ x = 0#8› (BitVec.eq_of_toNat_eq e))).2 h
  omega
theorem len_all : ∀ (x : Fin 256), ((lenTable[x.val]?).map (fun c => c.toNat) == some (lenB (BitVec.ofFin (w := 8) x))) = true := by decide +kernel
theorem len_table (x : BitVec 8) : (Option.map (fun c => c.toNat) (lenTable[x.toNat]?)) = some (BitVec.ofNat 8 (lenB x)).toNat := by
 have h2 : (BitVec.ofNat 8 (lenB x)).toNat = lenB x := by have := lenB_le x; rw [BitVec.toNat_ofNat]; omega
 rw [h2]
 have := len_all x.toFin
 simpa using this
end Go.Fw
namespace Go.Fw
open Go Go.RowKit
section
variable {P : Program} [Types P] {w0 : World} {L : Z135} {M : List Ent} {t e : TypeId} {x y z : Operand} {idx idx' : Int} {k k' : IntKind}
theorem RV.arr_lo {A : Addr} {n s : Nat} (a : Nat) (hx : ev L x = some (.pointer (some A))) (hy : ev L y = some (.int k idx)) (hj : idx = (a : Int)) (ht : tyU P t = some (.array n e)) (hs : tyS P e = some s) (h1 : idx ≤ n) :
    RV P w0 L M (.slice t x (some y) none none) (.slice (subA (some A) n a s) (n - a) (n - a)) := fun ρ w hρ m o ho => by
 subst hj
 have h2 : a ≤ n := by omega
 by_cases hc : n = a
 ·subst hc; simp [execOp, ho, hρ x _ hx, hρ y _ hy, Instr.sliceAt, Instr.slice, Instr.sliceBounds, Z176 w h2, Z131 ht, Z155 hs, subA, Instr.sureAddr, asAddr]
 simp [execOp, ho, hρ x _ hx, hρ y _ hy, Instr.sliceAt, Instr.slice, Instr.sliceBounds, Z176 w h2, Z131 ht, Z155 hs, subA, Instr.sureAddr, asAddr, hc]
theorem Z139 {A : Addr} {n s : Nat} (hx : ev L x = some (.pointer (some A))) (ht : tyU P t = some (.array n e)) (hs : tyS P e = some s) :
    RV P w0 L M (.slice t x none none none) (.slice (some A) n n) := fun ρ w hρ m o ho => by
 by_cases hc : n = 0
 ·subst hc
  simp [execOp, ho, hρ x _ hx, Instr.sliceAt, Instr.slice, Instr.sliceBounds, Z131 ht, Z155 hs, Instr.sureAddr, asAddr]
 ·simp [execOp, ho, hρ x _ hx, Instr.sliceAt, Instr.slice, Instr.sliceBounds, Z131 ht, Z155 hs, Instr.sureAddr, asAddr, hc, Addr.add]
end
theorem View.arr {α : Type} {w0 : World} {Ψ : Ctx} {b n : Nat} {f : α → Value} {v : Vector α n} {te : TypeId} (hΨ : ∀ w, Ψ w → Mem w0 w [(some b, blk (v.toList.map f) te)]) (hn : n ≤ 140737488355328) : View Ψ (some ⟨b, 0, none⟩) v.toList.length n 1 (v.toList.map f) :=
 ⟨fun w q => by
  have := (hΨ w q).rdl (List.mem_cons_self ..) (fun e => by cases e)
  simpa using this, fun _ => rfl, by simp, by simp, by simpa using hn⟩
end Go.Fw
namespace Go.Fw
def rotl (x : BitVec 64) (n : Nat) : BitVec 64 := x <<< n ||| x >>> (64 - n)
def turnsL : List Int := [0, 1, 62, 28, 27, 36, 44, 6, 55, 20, 3, 10, 43, 25, 39, 41, 45, 15, 21, 8, 18, 2, 61, 56, 14]
def goesN (i : Nat) : Nat := i / 5 + 5 * ((2 * (i % 5) + 3 * (i / 5)) % 5)
def goesL : List Int := (List.range 25).map fun i => (goesN i : Int)
def roundsL : List (BitVec 64) := [0x0000000000000001#64, 0x0000000000008082#64, 0x800000000000808A#64, 0x8000000080008000#64,
    0x000000000000808B#64, 0x0000000080000001#64, 0x8000000080008081#64, 0x8000000000008009#64,
    0x000000000000008A#64, 0x0000000000000088#64, 0x0000000080008009#64, 0x000000008000000A#64,
    0x000000008000808B#64, 0x800000000000008B#64, 0x8000000000008089#64, 0x8000000000008003#64,
    0x8000000000008002#64, 0x8000000000000080#64, 0x000000000000800A#64, 0x800000008000000A#64,
    0x8000000080008081#64, 0x8000000000008080#64, 0x0000000080000001#64, 0x8000000080008008#64]
def g64 (l : List (BitVec 64)) (i : Nat) : BitVec 64 := l.getD i 0#64
def colS (a : List (BitVec 64)) (x : Nat) : BitVec 64 := g64 a x ^^^ g64 a (x + 5) ^^^ g64 a (x + 10) ^^^ g64 a (x + 15) ^^^ g64 a (x + 20)
def thetaE (a : List (BitVec 64)) (i : Nat) : BitVec 64 := g64 a i ^^^ (colS a ((i + 4) % 5) ^^^ rotl (colS a ((i + 1) % 5)) 1)
def chiE (b : List (BitVec 64)) (i : Nat) : BitVec 64 := g64 b i ^^^ (~~~ (g64 b (i / 5 * 5 + (i % 5 + 1) % 5)) &&& g64 b (i / 5 * 5 + (i % 5 + 2) % 5))
def chiL (b : List (BitVec 64)) : List (BitVec 64) := (List.range 25).map (chiE b)
theorem goes_lt : ∀ i : Fin 25, goesN i.val < 25 := by decide
theorem goes_inj : ∀ i j : Fin 25, goesN i.val = goesN j.val → i = j := by decide
end Go.Fw
namespace Go.Fw
theorem rot_and : ∀ m : Fin 64, (BitVec.ofInt 64 (m.val : Int) &&& 63#64).toNat = m.val := by decide +kernel
theorem rot_sub : ∀ m : Fin 64, (64#64 - (BitVec.ofInt 64 (m.val : Int) &&& 63#64)).toNat = 64 - m.val := by decide +kernel
end Go.Fw
namespace Go.Fw
def sumTo (a : List (BitVec 64)) (x : Nat) : Nat → BitVec 64
 | 0 => 0#64
 | n + 1 => if n % 5 = x then sumTo a x n ^^^ g64 a n else sumTo a x n
theorem sumTo_all (a : List (BitVec 64)) : ∀ x, x < 5 → sumTo a x 25 = colS a x := by
 intro x hx
 rcases (by omega : x = 0 ∨ x = 1 ∨ x = 2 ∨ x = 3 ∨ x = 4) with rfl | rfl | rfl | rfl | rfl <;> simp [sumTo, colS]
def invN (j : Nat) : Nat := ((List.range 25).find? fun i => goesN i == j).getD 0
theorem inv_goes : ∀ i : Fin 25, invN (goesN i.val) = i.val := by decide
theorem goes_inv : ∀ j : Fin 25, goesN (invN j.val) = j.val ∧ invN j.val < 25 := by decide
def movedE (a : List (BitVec 64)) (i : Nat) : BitVec 64 := rotl (thetaE a i) (turnsL.getD i 0).toNat
def movedL (a : List (BitVec 64)) : List (BitVec 64) := (List.range 25).map fun j => movedE a (invN j)
theorem movedL_goes (a : List (BitVec 64)) {i : Nat} (h : i < 25) : g64 (movedL a) (goesN i) = movedE a i := by
 have h1 := goes_lt ⟨i, h⟩
 have h2 := inv_goes ⟨i, h⟩
 simp only at h1 h2
 simp only [g64, movedL, List.getD, List.getElem?_map, List.getElem?_range h1, Option.map_some, Option.getD_some, h2]
theorem ext25 {a b : List (BitVec 64)} (ha : a.length = 25) (hb : b.length = 25) (h : ∀ i, i < 25 → g64 a i = g64 b i) : a = b := by
 apply List.ext_getElem (by omega)
 intro i h1 h2
 have := h i (by omega)
 simpa [g64, List.getD, List.getElem?_eq_getElem, h1, h2] using this
theorem moved_of {a t : List (BitVec 64)} (ht : t.length = 25) (h : ∀ i, i < 25 → g64 t (goesN i) = movedE a i) : t = movedL a := by
 refine ext25 ht (by simp [movedL]) fun j hj => ?_
 obtain ⟨h1, h2⟩ := goes_inv ⟨j, hj⟩
 simp only at h1 h2
 have e1 := h (invN j) h2
 have e2 := movedL_goes a h2
 rw [h1] at e1 e2
 rw [e1, e2]
def roundL (a : List (BitVec 64)) (rc : BitVec 64) : List (BitVec 64) := (chiL (movedL a)).set 0 (g64 (chiL (movedL a)) 0 ^^^ rc)
def permTo (a : List (BitVec 64)) : Nat → List (BitVec 64)
 | 0 => a
 | t + 1 => roundL (permTo a t) (g64 roundsL t)
def permL (a : List (BitVec 64)) : List (BitVec 64) := permTo a 24
@[simp] theorem chiL_length (b : List (BitVec 64)) : (chiL b).length = 25 := by simp [chiL]
theorem roundL_length (a : List (BitVec 64)) (rc : BitVec 64) : (roundL a rc).length = 25 := by simp [roundL]
theorem permTo_length {a : List (BitVec 64)} (h : a.length = 25) : ∀ t, (permTo a t).length = 25
 | 0 => h
 | t + 1 => roundL_length _ _
theorem g64_set (l : List (BitVec 64)) (k : Nat) (v : BitVec 64) (i : Nat) (hk : k < l.length) : g64 (l.set k v) i = if i = k then v else g64 l i := by
 simp only [g64, List.getD, List.getElem?_set]
 by_cases h : k = i
 ·subst h; simp [hk]
 ·simp [h, Ne.symm h]
theorem chi_of {b l : List (BitVec 64)} (hl : l.length = 25) (h : ∀ i, i < 25 → g64 l i = chiE b i) : l = chiL b := by
 refine ext25 hl (chiL_length b) fun j hj => ?_
 rw [h j hj]
 simp only [g64, chiL, List.getD, List.getElem?_map, List.getElem?_range hj, Option.map_some, Option.getD_some]
end Go.Fw
namespace Go.Fw
theorem permTo_succ (a : List (BitVec 64)) (t : Nat) : permTo a (t + 1) = roundL (permTo a t) (g64 roundsL t) := rfl
theorem permTo_zero (a : List (BitVec 64)) : permTo a 0 = a := rfl
end Go.Fw
namespace Go.Fw
theorem sumTo_zero (a : List (BitVec 64)) (x : Nat) : sumTo a x 0 = 0#64 := rfl
theorem sumTo_succ (a : List (BitVec 64)) (x n : Nat) : sumTo a x (n + 1) = if n % 5 = x then sumTo a x n ^^^ g64 a n else sumTo a x n := rfl
theorem g64_zeros (n x : Nat) : g64 (List.replicate n 0#64) x = 0#64 := by
 simp only [g64, List.getD, List.getElem?_replicate]; split <;> rfl
end Go.Fw
namespace Go.Fw
theorem turns_in : ∀ i : Fin 25, 0 ≤ turnsL.getD i.val 0 ∧ turnsL.getD i.val 0 < 64 := by decide
theorem goesL_get {i : Nat} (h : i < 25) : goesL.getD i 0 = (goesN i : Int) := by
 simp only [goesL, List.getD, List.getElem?_map, List.getElem?_range h, Option.map_some, Option.getD_some]
theorem movedL_length (a : List (BitVec 64)) : (movedL a).length = 25 := by simp [movedL]
end Go.Fw
namespace Go.Fw
theorem roundL_eq (a : List (BitVec 64)) (rc : BitVec 64) : roundL a rc = (chiL (movedL a)).set 0 (g64 (chiL (movedL a)) 0 ^^^ rc) := rfl
end Go.Fw
namespace Go.Fw
theorem goes_of {T : List (BitVec 64)} {f : Nat → BitVec 64} (hT : T.length = 25) (h : ∀ i, i < 25 → g64 T (goesN i) = f i) : T = (List.range 25).map fun j => f (invN j) := by
 refine ext25 hT (by simp) fun j hj => ?_
 obtain ⟨h1, h2⟩ := goes_inv ⟨j, hj⟩
 simp only at h1 h2
 have e1 := h (invN j) h2
 rw [h1] at e1
 rw [e1]
 simp only [g64, List.getD, List.getElem?_map, List.getElem?_range hj, Option.map_some, Option.getD_some]
def mvL (a : List (BitVec 64)) : List (BitVec 64) := (List.range 25).map fun j => rotl (g64 a (invN j)) (turnsL.getD (invN j) 0).toNat
theorem mvL_theta (a : List (BitVec 64)) : mvL ((List.range 25).map (thetaE a)) = movedL a := by
 refine ext25 (by simp [mvL]) (by simp [movedL]) fun j hj => ?_
 obtain ⟨h1, h2⟩ := goes_inv ⟨j, hj⟩
 simp only at h2
 simp only [g64, mvL, movedL, movedE, List.getD, List.getElem?_map, List.getElem?_range hj, List.getElem?_range h2, Option.map_some, Option.getD_some]
end Go.Fw
namespace Go.Fw
theorem mvL_of {T a : List (BitVec 64)} (hT : T.length = 25) (h : ∀ i, i < 25 → g64 T (goesN i) = rotl (g64 a i) (turnsL.getD i 0).toNat) : T = mvL a := goes_of (f := fun i => rotl (g64 a i) (turnsL.getD i 0).toNat) hT h
end Go.Fw
namespace Go.Fw.Tryd
open Go Go.Proofs
def z25 : List Int := List.replicate 25 0
theorem i64s_set1 (l : List Int) (i : Nat) (v : Int) : (i64s l).set i (.int .i64 v) = i64s (l.set i v) := by simp [i64s, List.map_set]
theorem getD_set_int1 (l : List Int) (k : Nat) (v : Int) (i : Nat) (hk : k < l.length) : (l.set k v).getD i 0 = if i = k then v else l.getD i 0 := by
 simp only [List.getD, List.getElem?_set]
 by_cases h : k = i
 ·subst h; simp [hk]
 ·simp [h, Ne.symm h]
theorem rotl_does (w0 : World) (M : List Ent) (x : BitVec 64) (k : Int) (h0 : 0 ≤ k) (h1 : k < 64) : Does Tryd.prog 157 [U64 x, .int .i64 k] w0 M (τ := Unit) (fun _ => True) (fun _ => U64 (rotl x k.toNat)) (fun _ => M) := by
 refine Does.enter Tryd.func157 rfl Tryd.ntmps157 rfl (Z4 (Z2 (Z0 (Z5 rfl) rfl (Z6 ?_))))
 (refine Z1 ?_; refine Z4 ?_)
 refine Z2 (Z0 (Z3 rfl) rfl (Z0 (Z173 rfl rfl rfl) rfl (Z0 (RV.and64 rfl rfl rfl (lit64 _ rfl)) rfl (Z0 (Z5 rfl) rfl (Z6 ?_)))))
 (refine Z1 ?_; refine Z4 ?_)
 refine Z2 (Z0 (Z3 rfl) rfl (Z0 (Z3 rfl) rfl (Z0 (RV.shl64 rfl rfl rfl rfl) rfl (Z0 (Z3 rfl) rfl (Z0 (Z3 rfl) rfl (Z0 (RV.sub64 rfl (lit64 _ rfl) rfl rfl) rfl (Z0 (RV.shr64 rfl rfl rfl rfl) rfl ?_)))))))
 refine Z0 (RV.or64 rfl rfl rfl rfl) rfl (Z0 (Z5 rfl) rfl (Z6 ?_))
 (refine Z1 ?_; refine CW.ret ?_)
 refine QW.ret1 rfl () trivial ?_ (fun _ m => m)
 obtain ⟨m, rfl⟩ : ∃ m : Nat, k = m := ⟨k.toNat, by omega⟩
 have hm : m < 64 := by omega
 have e1 : (BitVec.ofInt 64 (m : Int) &&& 63#64).toNat = m := rot_and ⟨m, hm⟩
 have e2 : (64#64 - (BitVec.ofInt 64 (m : Int) &&& 63#64)).toNat = 64 - m := rot_sub ⟨m, hm⟩
 have e : x <<< (BitVec.ofInt 64 (m : Int) &&& 63#64).toNat ||| x >>> (64#64 - (BitVec.ofInt 64 (m : Int) &&& 63#64)).toNat = rotl x m := by rw [e1, e2]; rfl
 show _ = some (U64 (rotl x m))
 rw [← e]; rfl
theorem numbers_does (w0 : World) (M : List Ent) : Does Tryd.prog 156 [] w0 M (τ := Unit) (fun _ => True) (fun _ => .agg (u64s roundsL).toArray) (fun _ => M) := by
 have hl : roundsL.length = 24 := rfl
 refine Does.enter Tryd.func156 rfl Tryd.ntmps156 rfl (Z4 (Z2 (OW.alloc (l := u64s (List.replicate 24 0#64)) rfl (by rw [← Z145]; rfl) rfl (fun b0 => (Z6 ?_)))))
 (refine Z1 ?_; refine Z4 ?_)
 refine Z2 (Z0 (RV.buildA (l := u64s (List.replicate 24 0#64)) (cs := u64s roundsL) rfl rfl rfl (by rw [← Z145]; rfl) rfl rfl rfl) rfl (Z28 (Z109 rfl rfl rfl (Z154 _) rfl (by assumption) (by assumption)) (Z6 ?_)))
 (refine Z1 ?_; refine CW.ret ?_)
 exact QW.retC1 rfl () trivial rfl Zh rfl rfl rfl rfl ((Z103 _).trans hl) rfl (fun _ m => m.tail)
theorem ways_does (w0 : World) (M : List Ent) : Does Tryd.prog 155 [] w0 M (τ := Unit) (fun _ => True) (fun _ => .tuple #[.agg (i64s turnsL).toArray, .agg (i64s goesL).toArray]) (fun _ => M) := by
 have hl : turnsL.length = 25 := rfl
 have hz : z25.length = 25 := List.length_replicate ..
 refine Does.enter Tryd.func155 rfl Tryd.ntmps155 rfl (Z4 (Z2 (OW.alloc (l := i64s (List.replicate 25 0)) rfl (by rw [← i64s_rep]; rfl) rfl (fun b0 => (OW.alloc (l := i64s (List.replicate 25 0)) rfl (by rw [← i64s_rep]; rfl) rfl (fun b1 => (Z6 ?_)))))))
 (refine Z1 ?_; refine Z4 ?_)
 refine Z2 (Z0 (RV.buildA (l := i64s (List.replicate 25 0)) (cs := i64s turnsL) rfl rfl rfl (by rw [← i64s_rep]; rfl) rfl rfl rfl) rfl ?_)
 refine OW.rot1 ?_; refine Z28 (Z109 rfl rfl rfl (i64s_one _) rfl (by assumption) (by assumption)) ?_
 refine Z6 ?_
 (refine Z1 ?_; refine Z4 ?_; refine Z4 ?_)
 refine Z2 (Z0 (Z3 rfl) rfl (Z6 ?_))
 (refine Z1 ?_; refine CW.block ?_)
 refine CW.loop (σ := Nat × List Int) (fun s => s.1 ≤ 5 ∧ s.2.length = 25 ∧ ∀ k, k < 25 → k % 5 < s.1 → s.2.getD k 0 = (goesN k : Int)) (fun s => [(0, ptr (some b0) 0), (1, ptr (some b1) 0), (5, .int .i64 (s.1 : Int))])
  (fun s => (some b1, blk (i64s s.2) 204) :: (some b0, blk (i64s turnsL) 204) :: M) (fun s => 5 - s.1) (0, z25) ⟨by simp, hz, fun k _ h => by omega⟩ ⟨rfl, rfl, rfl, trivial⟩ (fun _ m => m.rot1) ?_
 rintro ⟨x, g⟩ ⟨hx, hg, he⟩
 dsimp only at hx hg he ⊢
 refine Z4 (Z2 (Z0 (RV.lss rfl rfl) rfl (Z6 ?_)))
 (refine Z1 ?_; refine Z4 ?_)
 refine Z129 rfl (fun hlt => ?_) (fun hlt => ?_)
 ·have hx2 : x < 5 := by omega
  (refine CW.skip ?_; refine Z1 ?_; refine Z4 ?_; refine CW.block ?_; refine Z4 ?_)
  refine Z2 (Z0 (Z3 rfl) rfl (Z0 (Z5 rfl) rfl (Z6 ?_)))
  (refine Z1 ?_; refine Z4 ?_)
  refine Z2 (Z0 (Z3 rfl) rfl (Z6 ?_))
  (refine Z1 ?_; refine CW.block ?_)
  refine CW.loop (σ := Nat × List Int) (fun s => s.1 ≤ 5 ∧ s.2.length = 25 ∧ ∀ k, k < 25 → (k % 5 < x ∨ (k % 5 = x ∧ k / 5 < s.1)) → s.2.getD k 0 = (goesN k : Int)) (fun s => [(0, ptr (some b0) 0), (1, ptr (some b1) 0), (2, .int .i64 (x : Int)), (5, .int .i64 (x : Int)), (8, .int .i64 (s.1 : Int))])
   (fun s => (some b1, blk (i64s s.2) 204) :: (some b0, blk (i64s turnsL) 204) :: M) (fun s => 5 - s.1) (0, g) ⟨by simp, hg, fun k h1 h2 => he k h1 (by omega)⟩ ⟨rfl, rfl, rfl, rfl, rfl, trivial⟩ (fun _ m => m) ?_
  clear he hg g
  rintro ⟨y, g⟩ ⟨hy, hg, he⟩
  dsimp only at hy hg he ⊢
  refine Z4 (Z2 (Z0 (RV.lss rfl rfl) rfl (Z6 ?_)))
  (refine Z1 ?_; refine Z4 ?_)
  refine Z129 rfl (fun hylt => ?_) (fun hylt => ?_)
  ·have hy2 : y < 5 := by omega
   have et : 0 + ((x : Int) + 5 * (y : Int)).toNat = x + 5 * y := by omega
   have hl2 : 0 + ((x : Int) + 5 * (y : Int)).toNat < (i64s g).length := by rw [et, Z162]; omega
   (refine CW.skip ?_; refine Z1 ?_; refine Z4 ?_; refine CW.block ?_; refine Z4 ?_)
   refine Z2 (Z0 (Z3 rfl) rfl (Z0 (Z5 rfl) rfl (Z6 (Z1 (Z2 (Z0 (Z3 rfl) rfl (Z0 (Z3 rfl) rfl (Z0 (RV.mul rfl rfl (by omega)) rfl (Z0 (RV.add rfl rfl (by omega)) rfl ?_)))))))))
   refine Z0 (Z3 rfl) rfl (Z0 (Z3 rfl) rfl (Z0 (RV.mul rfl rfl (by omega)) rfl (Z0 (Z3 rfl) rfl (Z0 (RV.mul rfl rfl (by omega)) rfl (Z0 (RV.add rfl rfl (by omega)) rfl (Z0 (RV.rem rfl rfl (by omega) (by omega)) rfl (Z0 (RV.mul rfl rfl (by omega)) rfl ?_)))))))
   refine Z0 (RV.add rfl rfl (by omega)) rfl (Z0 (Z111 _ rfl rfl rfl rfl rfl (by omega)) rfl (Z28 (SV.store rfl rfl rfl rfl rfl (by assumption)) (Z6 ?_)))
   (refine Z27 ?_; refine Z1 ?_)
   refine Z2 (Z0 (RV.add rfl rfl (by omega)) rfl (Z0 (Z3 rfl) rfl (Z6 ?_)))
   refine Z166 (y + 1, g.set (x + 5 * y) ((y : Int) + 5 * ((2 * (x : Int) + 3 * (y : Int)) % 5))) ⟨by show y + 1 ≤ 5; omega, by simp [hg], fun k h1 h2 => ?_⟩ (by show 5 - (y + 1) < 5 - y; omega) ⟨rfl, rfl, rfl, rfl, rfl, trivial⟩ (fun _ m => ?_)
   ·have h2' : k % 5 < x ∨ (k % 5 = x ∧ k / 5 < y + 1) := h2
    show (g.set (x + 5 * y) ((y : Int) + 5 * ((2 * (x : Int) + 3 * (y : Int)) % 5))).getD k 0 = _
    rw [getD_set_int1 _ _ _ _ (by omega)]
    by_cases hk : k = x + 5 * y
    ·rw [if_pos hk]; subst hk
     unfold goesN
     have e1 : (x + 5 * y) / 5 = y := by omega
     have e2 : (x + 5 * y) % 5 = x := by omega
     rw [e1, e2]; omega
    ·rw [if_neg hk]; exact he k h1 (by omega)
   ·first | rw [et, i64s_set1] at m | rw [Nat.zero_add, i64s_set1] at m
    exact m
  ·(refine CW.exit ?_; refine Z9 ?_; refine Z9 ?_; refine Z15 ?_; refine Z27 ?_; refine Z1 ?_)
   refine Z2 (Z0 (RV.add rfl rfl (by omega)) rfl (Z0 (Z3 rfl) rfl (Z6 ?_)))
   exact Z166 (x + 1, g) ⟨by show x + 1 ≤ 5; omega, hg, fun k h1 h2 => he k h1 (by have h2' : k % 5 < x + 1 := h2; omega)⟩ (by show 5 - (x + 1) < 5 - x; omega) ⟨rfl, rfl, rfl, trivial⟩ (fun _ m => m)
 ·have hx2 : x = 5 := by omega
  subst hx2
  have eg : g = goesL := by
   apply List.ext_getElem (by rw [hg]; rfl)
   intro i h1 h2
   have := he i (by omega) (by omega)
   simp only [List.getD, List.getElem?_eq_getElem h1, Option.getD_some] at this
   rw [this]; simp [goesL]
  rw [eg]
  have hgl : goesL.length = 25 := rfl
  (refine CW.exit ?_; refine Z9 ?_; refine Z9 ?_; refine Z15 ?_; refine Z1 ?_; refine Z4 ?_)
  refine Z159 3 mixed (by kernel_rfl) rfl (Z18 0 rfl (by kernel_rfl) rfl (Z22 rfl (List.Mem.tail _ Zh) rfl rfl rfl rfl ((Z162 _).trans hl)) rfl (Z18 1 rfl (by kernel_rfl) rfl (Z22 rfl Zh rfl rfl rfl rfl ((Z162 _).trans hgl)) rfl (UW.same 2 rfl (by kernel_rfl) (List.Mem.tail _ Zh) (fun M' => Z109 rfl rfl rfl (i64s_one _) rfl ((Z162 _).trans hl) ((Z162 _).trans hl)) (UW.nil (by kernel_rfl) (Z28 (Z109 rfl rfl rfl (i64s_one _) rfl ((Z162 _).trans hgl) ((Z162 _).trans hgl)) (Z6 ?_))))))
  (refine Z1 ?_; refine CW.ret ?_)
  exact QW.retCC rfl () trivial rfl rfl (List.Mem.tail _ Zh) Zh rfl rfl rfl rfl rfl ((Z162 _).trans hl) rfl rfl rfl ((Z162 _).trans hgl) rfl (fun _ m => m.tail.tail)
end Go.Fw.Tryd
namespace Go.Fw.Tryd
open Go Go.Proofs
attribute [local irreducible] permTo roundL movedL chiL sumTo
theorem perm_does (w0 : World) (M : List Ent) (a : List (BitVec 64)) (ha : a.length = 25) : Does Tryd.prog 145 [.agg (u64s a).toArray] w0 M (τ := Unit) (fun _ => True) (fun _ => .agg (u64s (permL a)).toArray) (fun _ => M) := by
 have hpe : permL a = permTo a 24 := rfl
 have hp0 : permTo a 0 = a := permTo_zero a
 have hst : ∀ t, permTo a (t + 1) = roundL (permTo a t) (g64 roundsL t) := fun t => permTo_succ a t
 have htl : turnsL.length = 25 := rfl
 have hgl : goesL.length = 25 := rfl
 have hrl : roundsL.length = 24 := rfl
 have hz25 : (List.replicate 25 0#64).length = 25 := List.length_replicate ..
 rw [hpe]
 refine Does.enter Tryd.func145 rfl Tryd.ntmps145 rfl (Z4 (Z2 (OW.boxA rfl rfl (fun b1 => (OW.alloc (l := u64s (List.replicate 25 0#64)) rfl (by rw [← Z145]; rfl) rfl (fun b2 => (Z6 ?_)))))))
 (refine Z1 ?_; refine Z4 ?_)
 refine Z2 (OW.call Tryd.call155 rfl (ways_does w0 _) rfl (fun u hu => (Z0 (Z3 rfl) rfl (Z0 (Z17 rfl rfl) rfl (Z0 (Z17 rfl rfl) rfl (OW.alloc (l := i64s (List.replicate 25 0)) rfl (by rw [← i64s_rep]; rfl) rfl (fun b3 => (OW.alloc (l := i64s (List.replicate 25 0)) rfl (by rw [← i64s_rep]; rfl) rfl (fun b4 => ?_)))))))))
 refine OW.rot1 ?_; refine Z28 (Z109 rfl rfl rfl (i64s_one _) rfl (by assumption) (by assumption)) ?_
 refine OW.rot1 ?_; refine Z28 (Z109 rfl rfl rfl (i64s_one _) rfl (by assumption) (by assumption)) ?_
 refine Z6 ?_
 (refine Z1 ?_; refine Z4 ?_; refine Z4 ?_)
 refine Z2 (OW.call Tryd.call156 rfl (numbers_does w0 _) rfl (fun u hu => (Z0 (Z3 rfl) rfl (Z6 ?_))))
 (refine Z1 ?_; refine CW.block ?_)
 refine CW.loop (σ := Nat) (fun t => t ≤ 24) (fun t => [(1, ptr (some b1) 0), (2, ptr (some b2) 0), (3, ptr (some b3) 0), (4, ptr (some b4) 0), (19, .agg (u64s roundsL).toArray), (20, .int .i64 (t : Int))])
  (fun t => (some b1, blk (u64s (permTo a t)) 154) :: (some b4, blk (i64s goesL) 204) :: (some b3, blk (i64s turnsL) 204) :: (some b2, blk (u64s (List.replicate 25 0#64)) 154) :: M) (fun t => 24 - t) 0 (by omega) ⟨rfl, rfl, rfl, rfl, rfl, rfl, trivial⟩ (fun _ m => by rw [hp0]; exact m.rot3) ?_
 intro t ht
 have hal := permTo_length ha t
 refine Z4 (Z2 (Z0 (RV.lss rfl rfl) rfl (Z6 ?_)))
 (refine Z1 ?_; refine Z4 ?_)
 refine Z129 rfl (fun htlt => ?_) (fun htlt => ?_)
 ·have ht2 : t < 24 := by omega
  have hs := hst t
  generalize permTo a t = A at hal hs ⊢
  have grc : (u64s roundsL)[t]? = some (U64 (g64 roundsL t)) := Z150 (by omega)
  (refine CW.skip ?_; refine Z1 ?_; refine Z4 ?_; refine CW.block ?_; refine Z4 ?_)
  refine Z2 (Z0 (RV.indexV _ rfl rfl rfl rfl rfl rfl rfl (by omega) (by assumption)) rfl (Z0 (Z5 rfl) rfl (Z6 ?_)))
  (refine Z1 ?_; refine Z4 ?_)
  refine Z2 (OW.alloc (l := u64s (List.replicate 5 0#64)) rfl (by rw [← Z145]; rfl) rfl (fun b7 => (Z6 ?_)))
  (refine Z1 ?_; refine Z4 ?_; refine Z4 ?_)
  refine Z2 ?_
  refine Z0 (Z22 rfl (by (refine List.Mem.tail _ ?_; exact List.Mem.head _); done) rfl rfl rfl rfl ((Z103 _).trans (by assumption))) rfl ?_
  refine Z0 (Z3 rfl) rfl (Z6 ?_)
  (refine Z1 ?_; refine CW.block ?_)
  generalize g64 roundsL t = rc at hs ⊢
  refine CW.loop (σ := Nat × List (BitVec 64)) (fun s => s.1 ≤ 25 ∧ s.2.length = 5 ∧ ∀ x, x < 5 → g64 s.2 x = sumTo A x s.1) (fun s => [(1, ptr (some b1) 0), (2, ptr (some b2) 0), (3, ptr (some b3) 0), (4, ptr (some b4) 0), (6, U64 rc), (7, ptr (some b7) 0), (19, .agg (u64s roundsL).toArray), (20, .int .i64 (t : Int)), (23, .agg (u64s A).toArray), (24, .int .i64 (s.1 : Int))])
   (fun s => (some b7, blk (u64s s.2) 201) :: (some b1, blk (u64s A) 154) :: (some b4, blk (i64s goesL) 204) :: (some b3, blk (i64s turnsL) 204) :: (some b2, blk (u64s (List.replicate 25 0#64)) 154) :: M) (fun s => 25 - s.1) (0, List.replicate 5 0#64) ⟨by simp, rfl, fun x hx => by rw [sumTo_zero]; exact g64_zeros 5 x⟩ ⟨rfl, rfl, rfl, rfl, rfl, rfl, rfl, rfl, rfl, rfl, trivial⟩ (fun _ m => m) ?_
  rintro ⟨n, sm⟩ ⟨hn, hsm, he⟩
  dsimp only at hn hsm he ⊢
  refine Z4 (Z2 (Z0 (RV.lss rfl rfl) rfl (Z6 ?_)))
  (refine Z1 ?_; refine Z4 ?_)
  refine Z129 rfl (fun hlt => ?_) (fun hlt => ?_)
  ·have hn2 : n < 25 := by omega
   have ga : (u64s A)[n]? = some (U64 (g64 A n)) := Z150 (by omega)
   have et : 0 + ((n : Int) % 5).toNat = n % 5 := by omega
   have gs : (u64s sm)[0 + ((n : Int) % 5).toNat]? = some (U64 (g64 sm (n % 5))) := by rw [et]; exact Z150 (by omega)
   have hl2 : 0 + ((n : Int) % 5).toNat < (u64s sm).length := by rw [et, Z103]; omega
   (refine CW.skip ?_; refine Z1 ?_; refine Z4 ?_; refine CW.block ?_; refine Z4 ?_)
   refine Z2 (Z0 (Z3 rfl) rfl (Z0 (RV.indexV _ rfl rfl rfl rfl rfl rfl rfl (by omega) (by assumption)) rfl (Z0 (Z5 rfl) rfl (Z0 (Z5 rfl) rfl (Z6 (Z1 (Z2 (Z0 (Z3 rfl) rfl (Z0 (RV.rem rfl rfl (by omega) (by omega)) rfl ?_)))))))))
   refine Z0 (Z111 _ rfl rfl rfl rfl rfl (by omega)) rfl ?_
   refine Z0 (Z29 rfl (by exact List.Mem.head _; done) rfl rfl rfl (by assumption)) rfl ?_
   refine Z0 (Z3 rfl) rfl (Z0 (Z171 rfl rfl rfl rfl) rfl (Z0 (Z111 _ rfl rfl rfl rfl rfl (by omega)) rfl (Z28 (SV.store rfl rfl rfl rfl rfl (by assumption)) (Z6 ?_))))
   (refine Z27 ?_; refine Z1 ?_)
   refine Z2 (Z0 (RV.add rfl rfl (by omega)) rfl (Z0 (Z3 rfl) rfl (Z6 ?_)))
   refine Z166 (n + 1, sm.set (n % 5) (g64 sm (n % 5) ^^^ g64 A n)) ⟨by show n + 1 ≤ 25; omega, by simp [hsm], fun x hx => ?_⟩ (by show 25 - (n + 1) < 25 - n; omega) ⟨rfl, rfl, rfl, rfl, rfl, rfl, rfl, rfl, rfl, rfl, trivial⟩ (fun _ m => ?_)
   ·show g64 (sm.set (n % 5) (g64 sm (n % 5) ^^^ g64 A n)) x = sumTo A x (n + 1)
    rw [g64_set _ _ _ _ (by omega), sumTo_succ]
    by_cases hx2 : x = n % 5
    ·subst hx2; rw [if_pos rfl, if_pos rfl, he _ hx]
    ·rw [if_neg hx2, if_neg (Ne.symm hx2)]; exact he x hx
   ·first | rw [et, Z149] at m | rw [Nat.zero_add, Z149] at m
    exact m
  have hn25 : n = 25 := by omega
  subst hn25
  have hcol : ∀ x, x < 5 → g64 sm x = colS A x := fun x hx => (he x hx).trans (sumTo_all A x hx)
  clear he
  (refine CW.exit ?_; refine Z9 ?_; refine Z9 ?_; refine Z15 ?_; refine Z1 ?_; refine Z4 ?_)
  refine Z2 (OW.alloc (l := u64s (List.replicate 25 0#64)) rfl (by rw [← Z145]; rfl) rfl (fun b10 => (Z6 ?_)))
  (refine Z1 ?_; refine Z4 ?_; refine Z4 ?_)
  refine Z2 ?_
  refine Z0 (Z22 rfl (by (refine List.Mem.tail _ ?_; refine List.Mem.tail _ ?_; exact List.Mem.head _); done) rfl rfl rfl rfl ((Z103 _).trans (by assumption))) rfl ?_
  refine Z0 (Z3 rfl) rfl (Z6 ?_)
  (refine Z1 ?_; refine CW.block ?_)
  refine CW.loop (σ := Nat × List (BitVec 64)) (fun s => s.1 ≤ 25 ∧ s.2.length = 25 ∧ ∀ k, k < s.1 → g64 s.2 (goesN k) = movedE A k) (fun s => [(1, ptr (some b1) 0), (2, ptr (some b2) 0), (3, ptr (some b3) 0), (4, ptr (some b4) 0), (6, U64 rc), (7, ptr (some b7) 0), (10, ptr (some b10) 0), (19, .agg (u64s roundsL).toArray), (20, .int .i64 (t : Int)), (36, .agg (u64s A).toArray), (37, .int .i64 (s.1 : Int))])
   (fun s => (some b10, blk (u64s s.2) 154) :: (some b7, blk (u64s sm) 201) :: (some b1, blk (u64s A) 154) :: (some b4, blk (i64s goesL) 204) :: (some b3, blk (i64s turnsL) 204) :: (some b2, blk (u64s (List.replicate 25 0#64)) 154) :: M) (fun s => 25 - s.1) (0, List.replicate 25 0#64) ⟨by simp, hz25, fun k hk => by omega⟩ ⟨rfl, rfl, rfl, rfl, rfl, rfl, rfl, rfl, rfl, rfl, rfl, trivial⟩ (fun _ m => m) ?_
  rintro ⟨i, T⟩ ⟨hi, hT, he⟩
  dsimp only at hi hT he ⊢
  refine Z4 (Z2 (Z0 (RV.lss rfl rfl) rfl (Z6 ?_)))
  (refine Z1 ?_; refine Z4 ?_)
  refine Z129 rfl (fun hlt2 => ?_) (fun hlt2 => ?_)
  ·have hi2 : i < 25 := by omega
   have hg1 : goesN i < 25 := goes_lt ⟨i, hi2⟩
   have htr : 0 ≤ turnsL.getD i 0 ∧ turnsL.getD i 0 < 64 := turns_in ⟨i, hi2⟩
   have ga : (u64s A)[i]? = some (U64 (g64 A i)) := Z150 (by omega)
   have e4 : 0 + (((i : Int) + 4) % 5).toNat = (i + 4) % 5 := by omega
   have e1 : 0 + (((i : Int) + 1) % 5).toNat = (i + 1) % 5 := by omega
   have g4 : (u64s sm)[0 + (((i : Int) + 4) % 5).toNat]? = some (U64 (g64 sm ((i + 4) % 5))) := by rw [e4]; exact Z150 (by omega)
   have g1 : (u64s sm)[0 + (((i : Int) + 1) % 5).toNat]? = some (U64 (g64 sm ((i + 1) % 5))) := by rw [e1]; exact Z150 (by omega)
   have gg : (i64s goesL)[0 + i]? = some (.int .i64 (goesN i : Int)) := by rw [Nat.zero_add, i64s_get (by omega)]; exact congrArg (fun x => some (Value.int .i64 x)) (goesL_get hi2)
   have gt : (i64s turnsL)[0 + i]? = some (.int .i64 (turnsL.getD i 0)) := by rw [Nat.zero_add]; exact i64s_get (by omega)
   have hl2 : 0 + goesN i < (u64s T).length := by rw [Z103]; omega
   (refine CW.skip ?_; refine Z1 ?_; refine Z4 ?_; refine CW.block ?_; refine Z4 ?_)
   refine Z2 (Z0 (Z3 rfl) rfl (Z0 (RV.indexV _ rfl rfl rfl rfl rfl rfl rfl (by omega) (by assumption)) rfl (Z0 (Z5 rfl) rfl (Z0 (Z5 rfl) rfl (Z6 ?_)))))
   (refine Z1 ?_; refine Z4 ?_)
   refine CW.draws mixed (by kernel_rfl) (DW.rv (Z3 rfl) rfl (DW.rv (Z3 rfl) rfl (DW.rv (RV.add rfl rfl (by omega)) rfl (DW.rv (RV.rem rfl rfl (by omega) (by omega)) rfl (DW.rv (Z111 _ rfl rfl rfl rfl rfl (by omega)) rfl ?_)))))
   refine DW.rv (Z29 rfl (by (refine List.Mem.tail _ ?_; exact List.Mem.head _); done) rfl rfl rfl (by assumption)) rfl ?_
   refine DW.rv (Z3 rfl) rfl (DW.rv (RV.add rfl rfl (by omega)) rfl (DW.rv (RV.rem rfl rfl (by omega) (by omega)) rfl (DW.rv (Z111 _ rfl rfl rfl rfl rfl (by omega)) rfl ?_)))
   refine DW.rv (Z29 rfl (by (refine List.Mem.tail _ ?_; exact List.Mem.head _); done) rfl rfl rfl (by assumption)) rfl ?_
   refine DW.call _ Tryd.call157 rfl (rotl_does w0 _ _ 1 (by decide) (by decide)) (fun _ _ => rfl) (fun _ _ _ m => m) rfl (DW.rv (Z171 rfl rfl rfl rfl) rfl (DW.rv (Z171 rfl rfl rfl rfl) rfl (DW.rv (Z5 rfl) rfl (DW.nil (Z1 (CW.drawsT 9 mixed (by kernel_rfl) (TW.rv (Z3 rfl) rfl ?_)))))))
   refine TW.rv (Z111 _ rfl rfl rfl rfl rfl (by omega)) rfl ?_
   refine TW.rv (Z29 rfl (by (refine List.Mem.tail _ ?_; refine List.Mem.tail _ ?_; refine List.Mem.tail _ ?_; exact List.Mem.head _); done) rfl rfl rfl (by assumption)) rfl ?_
   refine TW.rv (Z3 rfl) rfl (TW.rv (Z3 rfl) rfl (TW.rv (Z111 _ rfl rfl rfl rfl rfl (by omega)) rfl ?_))
   refine TW.rv (Z29 rfl (by (refine List.Mem.tail _ ?_; refine List.Mem.tail _ ?_; refine List.Mem.tail _ ?_; refine List.Mem.tail _ ?_; exact List.Mem.head _); done) rfl rfl rfl (by assumption)) rfl ?_
   refine TW.call _ Tryd.call157 rfl (rotl_does w0 _ _ _ htr.1 htr.2) (fun _ _ => rfl) (fun _ _ _ m => m) rfl (TW.rv (Z111 _ rfl rfl rfl rfl rfl (by omega)) rfl (TW.nil (Z28 (SV.store rfl rfl rfl rfl rfl (by assumption)) (Z6 ?_))))
   (refine Z27 ?_; refine Z1 ?_)
   refine Z2 (Z0 (RV.add rfl rfl (by omega)) rfl (Z0 (Z3 rfl) rfl (Z6 ?_)))
   have ev : rotl (g64 A i ^^^ (g64 sm ((i + 4) % 5) ^^^ rotl (g64 sm ((i + 1) % 5)) (1 : Int).toNat)) (turnsL.getD i 0).toNat = movedE A i := by
    rw [hcol _ (by omega), hcol _ (by omega)]; rfl
   refine Z166 (i + 1, T.set (goesN i) (movedE A i)) ⟨by show i + 1 ≤ 25; omega, by simp [hT], fun k hk => ?_⟩ (by show 25 - (i + 1) < 25 - i; omega) ⟨rfl, rfl, rfl, rfl, rfl, rfl, rfl, rfl, rfl, rfl, rfl, trivial⟩ (fun _ m => ?_)
   ·have hk' : k < i + 1 := hk
    show g64 (T.set (goesN i) (movedE A i)) (goesN k) = movedE A k
    rw [g64_set _ _ _ _ (by omega)]
    by_cases hk2 : goesN k = goesN i
    ·have : (⟨k, by omega⟩ : Fin 25) = ⟨i, hi2⟩ := goes_inj ⟨k, by omega⟩ ⟨i, hi2⟩ hk2
     have hki : k = i := congrArg Fin.val this
     subst hki; rw [if_pos rfl]
    ·rw [if_neg hk2]
     exact he k (by
      rcases Nat.lt_or_ge k i with h | h
      ·exact h
      ·exact absurd (by rw [show k = i by omega]) hk2)
   ·rw [ev, Nat.zero_add, Z149] at m
    exact m
  have hi25 : i = 25 := by omega
  subst hi25
  have hTm : T = movedL A := moved_of hT he
  clear he
  subst hTm
  (repeat (first | refine Z4 ?_ | refine Z1 ?_ | refine CW.block ?_ | refine CW.ret ?_ | refine CW.skip ?_ | refine CW.exit ?_ | refine Z9 ?_ | refine Z8 ?_ | refine Z27 ?_ | refine Z15 ?_ | refine Z164 rfl ?_ | refine Z16 ?_))
  refine Z2 (Z0 (Z5 rfl) rfl (Z6 ?_))
  (refine Z1 ?_; refine CW.block ?_)
  have hB : (movedL A).length = 25 := movedL_length A
  have hrd : roundL A rc = (chiL (movedL A)).set 0 (g64 (chiL (movedL A)) 0 ^^^ rc) := roundL_eq A rc
  generalize movedL A = B at hB hrd ⊢
  refine CW.loop (σ := Nat × List (BitVec 64)) (fun s => s.1 ≤ 5 ∧ s.2.length = 25 ∧ ∀ k, k < 5 * s.1 → g64 s.2 k = chiE B k) (fun s => [(1, ptr (some b1) 0), (2, ptr (some b2) 0), (3, ptr (some b3) 0), (4, ptr (some b4) 0), (6, U64 rc), (10, ptr (some b10) 0), (13, .int .i64 ((5 * s.1 : Nat) : Int)), (19, .agg (u64s roundsL).toArray), (20, .int .i64 (t : Int))])
   (fun s => (some b1, blk (u64s s.2) 154) :: (some b10, blk (u64s B) 154) :: (some b4, blk (i64s goesL) 204) :: (some b3, blk (i64s turnsL) 204) :: (some b2, blk (u64s (List.replicate 25 0#64)) 154) :: M) (fun s => 5 - s.1) (0, A) ⟨by simp, hal, fun k hk => by simp at hk⟩ ⟨rfl, rfl, rfl, rfl, rfl, rfl, rfl, rfl, rfl, trivial⟩ (fun _ m => (m.rot2).sublist (List.Sublist.cons_cons _ (List.Sublist.cons_cons _ (List.Sublist.cons _ (List.Sublist.refl _))))) ?_
  clear hn hi hlt hlt2 hcol hT hsm sm
  rintro ⟨r, l⟩ ⟨hr, hl, he⟩
  dsimp only at hr hl he ⊢
  (refine Z4 ?_; refine Z4 ?_)
  refine Z2 (Z0 (Z3 rfl) rfl (Z0 (RV.lss rfl rfl) rfl (Z6 (Z1 ?_))))
  refine Z129 rfl (fun hrlt => ?_) (fun hrlt => ?_)
  ·have hr2 : r < 5 := by omega
   (refine CW.skip ?_; refine Z1 ?_; refine Z4 ?_; refine CW.block ?_; refine Z4 ?_)
   refine Z2 (Z0 (Z3 rfl) rfl (Z6 ?_))
   (refine Z1 ?_; refine CW.block ?_)
   refine CW.loop (σ := Nat × List (BitVec 64)) (fun s => s.1 ≤ 5 ∧ s.2.length = 25 ∧ ∀ k, k < 5 * r + s.1 → g64 s.2 k = chiE B k) (fun s => [(1, ptr (some b1) 0), (2, ptr (some b2) 0), (3, ptr (some b3) 0), (4, ptr (some b4) 0), (6, U64 rc), (10, ptr (some b10) 0), (13, .int .i64 ((5 * r : Nat) : Int)), (19, .agg (u64s roundsL).toArray), (20, .int .i64 (t : Int)), (69, .int .i64 (s.1 : Int))])
    (fun s => (some b1, blk (u64s s.2) 154) :: (some b10, blk (u64s B) 154) :: (some b4, blk (i64s goesL) 204) :: (some b3, blk (i64s turnsL) 204) :: (some b2, blk (u64s (List.replicate 25 0#64)) 154) :: M) (fun s => 5 - s.1) (0, l) ⟨by simp, hl, he⟩ ⟨rfl, rfl, rfl, rfl, rfl, rfl, rfl, rfl, rfl, rfl, trivial⟩ (fun _ m => m) ?_
   clear he hl l
   rintro ⟨x, l⟩ ⟨hx, hl, he⟩
   dsimp only at hx hl he ⊢
   refine Z4 (Z2 (Z0 (RV.lss rfl rfl) rfl (Z6 ?_)))
   (refine Z1 ?_; refine Z4 ?_)
   refine Z129 rfl (fun hxlt => ?_) (fun hxlt => ?_)
   ·have hx2 : x < 5 := by omega
    have e0 : 0 + (((5 * r : Nat) : Int) + (x : Int)).toNat = 5 * r + x := by omega
    have e1 : 0 + (((5 * r : Nat) : Int) + ((x : Int) + 1) % 5).toNat = 5 * r + (x + 1) % 5 := by omega
    have e2 : 0 + (((5 * r : Nat) : Int) + ((x : Int) + 2) % 5).toNat = 5 * r + (x + 2) % 5 := by omega
    have q0 : (u64s B)[0 + (((5 * r : Nat) : Int) + (x : Int)).toNat]? = some (U64 (g64 B (5 * r + x))) := by rw [e0]; exact Z150 (by omega)
    have q1 : (u64s B)[0 + (((5 * r : Nat) : Int) + ((x : Int) + 1) % 5).toNat]? = some (U64 (g64 B (5 * r + (x + 1) % 5))) := by rw [e1]; exact Z150 (by omega)
    have q2 : (u64s B)[0 + (((5 * r : Nat) : Int) + ((x : Int) + 2) % 5).toNat]? = some (U64 (g64 B (5 * r + (x + 2) % 5))) := by rw [e2]; exact Z150 (by omega)
    have hl2 : 0 + (((5 * r : Nat) : Int) + (x : Int)).toNat < (u64s l).length := by rw [e0, Z103]; omega
    (refine CW.skip ?_; refine Z1 ?_; refine Z4 ?_; refine CW.block ?_; refine Z4 ?_)
    refine Z2 (Z0 (Z3 rfl) rfl (Z0 (Z5 rfl) rfl (Z6 (Z1 (CW.drawsT 26 mixed (by kernel_rfl) (TW.rv (Z3 rfl) rfl (TW.rv (Z3 rfl) rfl (TW.rv (RV.add rfl rfl (by omega)) rfl ?_))))))))
    refine TW.rv (Z3 rfl) rfl (TW.rv (Z3 rfl) rfl (TW.rv (RV.add rfl rfl (by omega)) rfl (TW.rv (Z111 _ rfl rfl rfl rfl rfl (by omega)) rfl ?_)))
    refine TW.rv (Z29 rfl (by (refine List.Mem.tail _ ?_; exact List.Mem.head _); done) rfl rfl rfl (by assumption)) rfl ?_
    refine TW.rv (Z3 rfl) rfl (TW.rv (Z3 rfl) rfl (TW.rv (RV.add rfl rfl (by omega)) rfl (TW.rv (RV.rem rfl rfl (by omega) (by omega)) rfl (TW.rv (RV.add rfl rfl (by omega)) rfl (TW.rv (Z111 _ rfl rfl rfl rfl rfl (by omega)) rfl ?_)))))
    refine TW.rv (Z29 rfl (by (refine List.Mem.tail _ ?_; exact List.Mem.head _); done) rfl rfl rfl (by assumption)) rfl ?_
    refine TW.rv (RV.compl64 rfl rfl) rfl (TW.rv (Z3 rfl) rfl (TW.rv (Z3 rfl) rfl (TW.rv (RV.add rfl rfl (by omega)) rfl (TW.rv (RV.rem rfl rfl (by omega) (by omega)) rfl (TW.rv (RV.add rfl rfl (by omega)) rfl (TW.rv (Z111 _ rfl rfl rfl rfl rfl (by omega)) rfl ?_))))))
    refine TW.rv (Z29 rfl (by (refine List.Mem.tail _ ?_; exact List.Mem.head _); done) rfl rfl rfl (by assumption)) rfl ?_
    refine TW.rv (RV.and64 rfl rfl rfl rfl) rfl (TW.rv (Z171 rfl rfl rfl rfl) rfl (TW.rv (Z111 _ rfl rfl rfl rfl rfl (by omega)) rfl (TW.nil (Z28 (SV.store rfl rfl rfl rfl rfl (by assumption)) (Z6 ?_)))))
    (refine Z27 ?_; refine Z1 ?_)
    refine Z2 (Z0 (RV.add rfl rfl (by omega)) rfl (Z0 (Z3 rfl) rfl (Z6 ?_)))
    have ec : chiE B (5 * r + x) = g64 B (5 * r + x) ^^^ (~~~ (g64 B (5 * r + (x + 1) % 5)) &&& g64 B (5 * r + (x + 2) % 5)) := by
     unfold chiE
     rw [show (5 * r + x) / 5 * 5 = 5 * r by omega, show (5 * r + x) % 5 = x by omega]
    refine Z166 (x + 1, l.set (5 * r + x) (chiE B (5 * r + x))) ⟨by show x + 1 ≤ 5; omega, by simp [hl], fun k hk => ?_⟩ (by show 5 - (x + 1) < 5 - x; omega) ⟨rfl, rfl, rfl, rfl, rfl, rfl, rfl, rfl, rfl, rfl, trivial⟩ (fun _ m => ?_)
    ·have hk' : k < 5 * r + (x + 1) := hk
     show g64 (l.set (5 * r + x) (chiE B (5 * r + x))) k = chiE B k
     rw [g64_set _ _ _ _ (by omega)]
     by_cases hk2 : k = 5 * r + x
     ·subst hk2; rw [if_pos rfl]
     ·rw [if_neg hk2]; exact he k (by omega)
    ·rw [ec]
     first | rw [e0, Z149] at m | rw [Nat.zero_add, Z149] at m
     exact m
   ·(refine CW.exit ?_; refine Z9 ?_; refine Z9 ?_; refine Z15 ?_; refine Z27 ?_; refine Z1 ?_)
    refine Z2 (Z0 (Z3 rfl) rfl (Z0 (RV.add rfl rfl (by omega)) rfl (Z0 (Z5 rfl) rfl (Z6 ?_))))
    exact Z166 (r + 1, l) ⟨by show r + 1 ≤ 5; omega, hl, fun k hk => he k (by have hk' : k < 5 * (r + 1) := hk; omega)⟩ (by show 5 - (r + 1) < 5 - r; omega) ⟨rfl, rfl, rfl, rfl, rfl, rfl, rfl, rfl, rfl, trivial⟩ (fun _ m => m)
  have hr5 : r = 5 := by omega
  subst hr5
  have hch : l = chiL B := chi_of hl he
  clear he
  subst hch
  have hcl : (chiL B).length = 25 := chiL_length B
  generalize chiL B = C at hrd hcl ⊢
  have q0 : (u64s C)[0 + 0]? = some (U64 (g64 C 0)) := Z150 (by omega)
  have hl0 : 0 + 0 < (u64s C).length := by rw [Z103]; omega
  (refine CW.exit ?_; refine Z9 ?_; refine Z9 ?_; refine Z15 ?_; refine Z1 ?_)
  refine Z2 (Z0 (Z111 _ rfl rfl rfl rfl rfl (by omega)) rfl ?_)
  refine Z0 (Z29 rfl (by exact List.Mem.head _; done) rfl rfl rfl (by assumption)) rfl ?_
  refine Z0 (Z3 rfl) rfl (Z0 (Z171 rfl rfl rfl rfl) rfl (Z0 (Z111 _ rfl rfl rfl rfl rfl (by omega)) rfl (Z28 (SV.store rfl rfl rfl rfl rfl (by assumption)) (Z6 ?_))))
  (refine Z27 ?_; refine Z1 ?_)
  refine Z2 (Z0 (RV.add rfl rfl (by omega)) rfl (Z0 (Z3 rfl) rfl (Z6 (Z166 (t + 1) (by omega) (by omega) ⟨rfl, rfl, rfl, rfl, rfl, rfl, trivial⟩ (fun _ m => ?_)))))
  rw [hs, hrd, ← Z149]
  exact m.sublist (List.Sublist.cons_cons _ (List.Sublist.cons _ (List.Sublist.refl _)))
 ·have ht2 : t = 24 := by omega
  subst ht2
  generalize permTo a 24 = A at hal ⊢
  (refine CW.exit ?_; refine Z9 ?_; refine Z9 ?_; refine Z15 ?_; refine Z1 ?_; refine Z4 ?_)
  refine Z2 ?_
  refine Z0 (Z22 rfl (by exact List.Mem.head _; done) rfl rfl rfl rfl ((Z103 _).trans (by assumption))) rfl ?_
  refine OW.rot3 ?_; refine Z28 (Z109 rfl rfl rfl (Z154 _) rfl (by assumption) ((Z103 _).trans (by assumption))) ?_
  refine Z6 ?_
  (refine Z1 ?_; refine CW.ret ?_)
  exact QW.retC1 rfl () trivial rfl Zh rfl rfl rfl rfl ((Z103 _).trans hal) rfl (fun _ m => m.sublist (by repeat (first | exact List.Sublist.refl _ | refine List.Sublist.cons _ ?_)))
end Go.Fw.Tryd
namespace Go.Fw
def bt (x : BitVec 64) (z : Nat) : Bool := x.getLsbD (z % 64)
def dl (a b : List (BitVec 64)) (i z : Nat) : Bool := bt (g64 a i) z ^^ bt (g64 b i) z
end Go.Fw
namespace Go.Fw
def keccak_Permute (v : Vector (BitVec 64) 25) : Option (Vector (BitVec 64) 25) := some ⟨(permL v.toList).toArray, by simp only [List.size_toArray]; exact permTo_length Zv 24⟩
theorem keccak_Permute_list {v r : Vector (BitVec 64) 25} (h : keccak_Permute v = some r) : r.toList = permL v.toList := by
 cases h
 rfl
def firstL : List (BitVec 8) := [1#8, 6#8]
end Go.Fw
namespace Go.Fw.Tryd
open Go Go.Proofs Go.Fw
theorem keccak_Permute_does (w0 : World) (Φ : Ctx) (N : List Ent) (hΦ : ∀ w, Mem w0 w N → Φ w) (a0 res0 : Vector (BitVec 64) 25) (hf : keccak_Permute a0 = some res0) : DoesG Tryd.prog 145 [.agg (u64s a0.toList).toArray] w0 [] N (fun v G => v = .agg (u64s res0.toList).toArray) := by
  have h := Does.toG (perm_does w0 N a0.toList Zv)
  rw [← keccak_Permute_list hf] at h
  exact h.mono fun v G h => h.1
end Go.Fw.Tryd
namespace Go.Fw.Tryd
open Go Go.Proofs
attribute [local irreducible] permTo roundL movedL chiL sumTo
theorem at_does (w0 : World) (M : List Ent) (a b : Int) (ha : 0 ≤ a ∧ a < 100) (hb : 0 ≤ b ∧ b < 100) : Does Tryd.prog 153 [.int .i64 a, .int .i64 b] w0 M (τ := Unit) (fun _ => True) (fun _ => .int .i64 (a % 5 + 5 * (b % 5))) (fun _ => M) := by
 refine Does.enter Tryd.func153 rfl Tryd.ntmps153 rfl (Z4 (Z2 (Z0 (Z5 rfl) rfl (Z6 ?_))))
 (refine Z1 ?_; refine Z4 ?_)
 refine Z2 (Z0 (Z3 rfl) rfl (Z0 (RV.rem rfl rfl (by omega) (by omega)) rfl (Z0 (Z3 rfl) rfl (Z0 (RV.rem rfl rfl (by omega) (by omega)) rfl (Z0 (RV.mul rfl rfl (by omega)) rfl (Z0 (RV.add rfl rfl (by omega)) rfl (Z0 (Z5 rfl) rfl ?_)))))))
 refine Z6 ?_
 (refine Z1 ?_; refine CW.ret ?_)
 exact QW.ret1 rfl () trivial rfl (fun _ m => m)
theorem at_is (w0 : World) (M : List Ent) (a b : Int) (ha : 0 ≤ a ∧ a < 100) (hb : 0 ≤ b ∧ b < 100) {v : Nat} (hv : a % 5 + 5 * (b % 5) = v) : Does Tryd.prog 153 [.int .i64 a, .int .i64 b] w0 M (τ := Unit) (fun _ => True) (fun _ => .int .i64 (v : Int)) (fun _ => M) := hv ▸ at_does w0 M a b ha hb
theorem Rot_does (w0 : World) (M : List Ent) (x : BitVec 64) (k : Int) (h0 : 0 ≤ k) (h1 : k < 64) : Does Tryd.prog 154 [U64 x, .int .i64 k] w0 M (τ := Unit) (fun _ => True) (fun _ => U64 (rotl x k.toNat)) (fun _ => M) := by
 refine Does.enter Tryd.func154 rfl Tryd.ntmps154 rfl (Z4 (Z2 (Z0 (Z5 rfl) rfl (Z6 ?_))))
 (refine Z1 ?_; refine Z4 ?_; refine Z4 ?_)
 refine Z2 (Z0 (Z3 rfl) rfl (Z0 (RV.eql rfl rfl) rfl (Z6 (Z1 ?_))))
 refine Z129 rfl (fun h => ?_) (fun h => ?_)
 ·refine Z4 (Z2 (Z0 (Z3 rfl) rfl (Z0 (Z5 rfl) rfl (Z6 ?_))))
  (refine Z1 ?_; refine CW.ret ?_; refine Z8 ?_)
  refine QW.ret1 rfl () trivial ?_ (fun _ m => m)
  have h' : k = 0 := h
  subst h'
  have e : rotl x (0 : Int).toNat = x := by
   have hs : x >>> 64 = 0#64 := by
    apply BitVec.eq_of_getLsbD_eq
    intro i hi
    simp
   unfold rotl
   show x <<< 0 ||| x >>> (64 - 0) = x
   rw [show 64 - 0 = 64 from rfl, hs, BitVec.shiftLeft_zero, BitVec.or_zero]
  rw [e]; rfl
 ·(refine CW.skip ?_; refine Z1 ?_; refine Z4 ?_)
  refine Z2 (Z0 (Z3 rfl) rfl (Z0 (Z3 rfl) rfl (Z0 (Z173 rfl rfl rfl) rfl (Z0 (RV.shl64 rfl rfl rfl rfl) rfl (Z0 (Z3 rfl) rfl (Z0 (Z3 rfl) rfl (Z0 (RV.sub rfl rfl (by omega)) rfl ?_)))))))
  refine Z0 (Z173 rfl rfl rfl) rfl (Z0 (RV.shr64 rfl rfl rfl rfl) rfl (Z0 (RV.or64 rfl rfl rfl rfl) rfl (Z0 (Z5 rfl) rfl (Z6 ?_))))
  (refine Z1 ?_; refine CW.ret ?_)
  refine QW.ret1 rfl () trivial ?_ (fun _ m => m)
  have e1 : (BitVec.ofInt 64 k).toNat = k.toNat := by rw [BitVec.toNat_ofInt]; omega
  have e2 : (BitVec.ofInt 64 (64 - k)).toNat = 64 - k.toNat := by rw [BitVec.toNat_ofInt]; omega
  have e : x <<< (BitVec.ofInt 64 k).toNat ||| x >>> (BitVec.ofInt 64 (64 - k)).toNat = rotl x k.toNat := by rw [e1, e2]; rfl
  rw [← e]; rfl
theorem columns_does (w0 : World) (M : List Ent) (a : List (BitVec 64)) (ha : a.length = 25) : Does Tryd.prog 142 [.agg (u64s a).toArray] w0 M (τ := Unit) (fun _ => True) (fun _ => .agg (u64s ((List.range 25).map (thetaE a))).toArray) (fun _ => M) := by
 have hz25 : (List.replicate 25 0#64).length = 25 := List.length_replicate ..
 refine Does.enter Tryd.func142 rfl Tryd.ntmps142 rfl (Z4 (Z2 (OW.boxA rfl rfl (fun b1 => (OW.alloc (l := u64s (List.replicate 25 0#64)) rfl (by rw [← Z145]; rfl) rfl (fun b2 => (Z6 ?_)))))))
 (refine Z1 ?_; refine Z4 ?_)
 refine Z2 (OW.alloc (l := u64s (List.replicate 5 0#64)) rfl (by rw [← Z145]; rfl) rfl (fun b3 => (Z6 ?_)))
 (refine Z1 ?_; refine Z4 ?_; refine Z4 ?_)
 refine Z2 (Z0 (Z5 rfl) rfl (Z6 ?_))
 (refine Z1 ?_; refine CW.block ?_)
 refine CW.loop (σ := Nat × List (BitVec 64)) (fun s => s.1 ≤ 5 ∧ s.2.length = 5 ∧ ∀ x, x < s.1 → g64 s.2 x = colS a x) (fun s => [(1, ptr (some b1) 0), (2, ptr (some b2) 0), (3, ptr (some b3) 0), (4, .int .i64 (s.1 : Int))])
  (fun s => (some b3, blk (u64s s.2) 201) :: (some b2, blk (u64s (List.replicate 25 0#64)) 154) :: (some b1, blk (u64s a) 154) :: M) (fun s => 5 - s.1) (0, List.replicate 5 0#64) ⟨by simp, rfl, fun x hx => by omega⟩ ⟨rfl, rfl, rfl, rfl, trivial⟩ (fun _ m => m) ?_
 rintro ⟨x, c⟩ ⟨hx, hc, he⟩
 dsimp only at hx hc he ⊢
 (refine Z4 ?_; refine Z4 ?_)
 refine Z2 (Z0 (Z3 rfl) rfl (Z0 (RV.lss rfl rfl) rfl (Z6 (Z1 ?_))))
 refine Z129 rfl (fun hlt => ?_) (fun hlt => ?_)
 ·have hx2 : x < 5 := by omega
  have q : ∀ y : Nat, y < 5 → (u64s a)[0 + (x + 5 * y)]? = some (U64 (g64 a (x + 5 * y))) := fun y hy => by rw [Nat.zero_add]; exact Z150 (by omega)
  have q0 := q 0 (by decide)
  have q1 := q 1 (by decide)
  have q2 := q 2 (by decide)
  have q3 := q 3 (by decide)
  have q4 := q 4 (by decide)
  have hl2 : 0 + x < (u64s c).length := by rw [Z103]; omega
  (refine CW.skip ?_; refine Z1 ?_; refine Z4 ?_; refine CW.block ?_)
  refine CW.drawsT 26 mixed (by kernel_rfl) (TW.rv (Z3 rfl) rfl (TW.rv (Z3 rfl) rfl (TW.call _ Tryd.call153 rfl (at_is w0 _ _ _ (by omega) (by omega) (v := x + 5 * 0) (by omega)) (fun _ _ => rfl) (fun _ _ _ m => m) rfl (TW.rv (Z111 _ rfl rfl rfl rfl rfl (by omega)) rfl ?_))))
  refine TW.rv (Z29 rfl (by (refine List.Mem.tail _ ?_; refine List.Mem.tail _ ?_; exact List.Mem.head _); done) rfl rfl rfl (by assumption)) rfl ?_
  refine TW.rv (Z3 rfl) rfl (TW.call _ Tryd.call153 rfl (at_is w0 _ _ _ (by omega) (by omega) (v := x + 5 * 1) (by omega)) (fun _ _ => rfl) (fun _ _ _ m => m) rfl (TW.rv (Z111 _ rfl rfl rfl rfl rfl (by omega)) rfl ?_))
  refine TW.rv (Z29 rfl (by (refine List.Mem.tail _ ?_; refine List.Mem.tail _ ?_; exact List.Mem.head _); done) rfl rfl rfl (by assumption)) rfl ?_
  refine TW.rv (Z171 rfl rfl rfl rfl) rfl (TW.rv (Z3 rfl) rfl (TW.call _ Tryd.call153 rfl (at_is w0 _ _ _ (by omega) (by omega) (v := x + 5 * 2) (by omega)) (fun _ _ => rfl) (fun _ _ _ m => m) rfl (TW.rv (Z111 _ rfl rfl rfl rfl rfl (by omega)) rfl ?_)))
  refine TW.rv (Z29 rfl (by (refine List.Mem.tail _ ?_; refine List.Mem.tail _ ?_; exact List.Mem.head _); done) rfl rfl rfl (by assumption)) rfl ?_
  refine TW.rv (Z171 rfl rfl rfl rfl) rfl (TW.rv (Z3 rfl) rfl (TW.call _ Tryd.call153 rfl (at_is w0 _ _ _ (by omega) (by omega) (v := x + 5 * 3) (by omega)) (fun _ _ => rfl) (fun _ _ _ m => m) rfl (TW.rv (Z111 _ rfl rfl rfl rfl rfl (by omega)) rfl ?_)))
  refine TW.rv (Z29 rfl (by (refine List.Mem.tail _ ?_; refine List.Mem.tail _ ?_; exact List.Mem.head _); done) rfl rfl rfl (by assumption)) rfl ?_
  refine TW.rv (Z171 rfl rfl rfl rfl) rfl (TW.rv (Z3 rfl) rfl (TW.call _ Tryd.call153 rfl (at_is w0 _ _ _ (by omega) (by omega) (v := x + 5 * 4) (by omega)) (fun _ _ => rfl) (fun _ _ _ m => m) rfl (TW.rv (Z111 _ rfl rfl rfl rfl rfl (by omega)) rfl ?_)))
  refine TW.rv (Z29 rfl (by (refine List.Mem.tail _ ?_; refine List.Mem.tail _ ?_; exact List.Mem.head _); done) rfl rfl rfl (by assumption)) rfl ?_
  refine TW.rv (Z171 rfl rfl rfl rfl) rfl (TW.rv (Z111 _ rfl rfl rfl rfl rfl (by omega)) rfl (TW.nil (Z28 (SV.store rfl rfl rfl rfl rfl (by assumption)) (Z6 ?_))))
  (refine Z27 ?_; refine Z1 ?_)
  refine Z2 (Z0 (Z3 rfl) rfl (Z0 (RV.add rfl rfl (by omega)) rfl (Z0 (Z5 rfl) rfl (Z6 ?_))))
  refine Z166 (x + 1, c.set x (colS a x)) ⟨by show x + 1 ≤ 5; omega, by simp [hc], fun k hk => ?_⟩ (by show 5 - (x + 1) < 5 - x; omega) ⟨rfl, rfl, rfl, rfl, trivial⟩ (fun _ m => ?_)
  ·have hk' : k < x + 1 := hk
   show g64 (c.set x (colS a x)) k = colS a k
   rw [g64_set _ _ _ _ (by omega)]
   by_cases hk2 : k = x
   ·subst hk2; rw [if_pos rfl]
   ·rw [if_neg hk2]; exact he k (by omega)
  ·rw [← Z149]
   rw [Nat.zero_add] at m
   exact m
 have hx5 : x = 5 := by omega
 subst hx5
 (refine CW.exit ?_; refine Z9 ?_; refine Z9 ?_; refine Z15 ?_; refine Z1 ?_; refine Z4 ?_)
 refine Z2 ?_
 refine Z0 (Z22 rfl (by (refine List.Mem.tail _ ?_; refine List.Mem.tail _ ?_; exact List.Mem.head _); done) rfl rfl rfl rfl ((Z103 _).trans (by assumption))) rfl ?_
 refine OW.alloc (l := u64s (List.replicate 25 0#64)) rfl (by rw [← Z145]; rfl) rfl (fun b5 => (Z28 (Z109 rfl rfl rfl (Z154 _) rfl (by assumption) ((Z103 _).trans (by assumption))) (Z6 ?_)))
 (refine Z1 ?_; refine Z4 ?_; refine Z4 ?_)
 refine Z2 (Z0 (Z5 rfl) rfl (Z6 ?_))
 (refine Z1 ?_; refine CW.block ?_)
 refine CW.loop (σ := Nat × List (BitVec 64)) (fun s => s.1 ≤ 5 ∧ s.2.length = 25 ∧ ∀ k, k < 25 → k % 5 < s.1 → g64 s.2 k = thetaE a k) (fun s => [(1, ptr (some b1) 0), (2, ptr (some b2) 0), (3, ptr (some b3) 0), (5, ptr (some b5) 0), (6, .int .i64 (s.1 : Int))])
  (fun s => (some b5, blk (u64s s.2) 154) :: (some b3, blk (u64s c) 201) :: (some b2, blk (u64s (List.replicate 25 0#64)) 154) :: (some b1, blk (u64s a) 154) :: M) (fun s => 5 - s.1) (0, a) ⟨by simp, ha, fun k _ h => by omega⟩ ⟨rfl, rfl, rfl, rfl, rfl, trivial⟩ (fun _ m => m) ?_
 rintro ⟨x, b⟩ ⟨hx, hb, hbe⟩
 dsimp only at hx hb hbe ⊢
 (refine Z4 ?_; refine Z4 ?_)
 refine Z2 (Z0 (Z3 rfl) rfl (Z0 (RV.lss rfl rfl) rfl (Z6 (Z1 ?_))))
 refine Z129 rfl (fun hxlt => ?_) (fun hxlt => ?_)
 ·have hx2 : x < 5 := by omega
  (refine CW.skip ?_; refine Z1 ?_; refine Z4 ?_; refine CW.block ?_; refine Z4 ?_)
  refine Z2 (Z0 (Z5 rfl) rfl (Z6 ?_))
  (refine Z1 ?_; refine CW.block ?_)
  refine CW.loop (σ := Nat × List (BitVec 64)) (fun s => s.1 ≤ 5 ∧ s.2.length = 25 ∧ ∀ k, k < 25 → (k % 5 < x ∨ (k % 5 = x ∧ k / 5 < s.1)) → g64 s.2 k = thetaE a k) (fun s => [(1, ptr (some b1) 0), (2, ptr (some b2) 0), (3, ptr (some b3) 0), (5, ptr (some b5) 0), (6, .int .i64 (x : Int)), (7, .int .i64 (s.1 : Int))])
   (fun s => (some b5, blk (u64s s.2) 154) :: (some b3, blk (u64s c) 201) :: (some b2, blk (u64s (List.replicate 25 0#64)) 154) :: (some b1, blk (u64s a) 154) :: M) (fun s => 5 - s.1) (0, b) ⟨by simp, hb, fun k h1 h2 => hbe k h1 (by omega)⟩ ⟨rfl, rfl, rfl, rfl, rfl, rfl, trivial⟩ (fun _ m => m) ?_
  clear hb hbe b
  rintro ⟨y, b⟩ ⟨hy, hb, hbe⟩
  dsimp only at hy hb hbe ⊢
  (refine Z4 ?_; refine Z4 ?_)
  refine Z2 (Z0 (Z3 rfl) rfl (Z0 (RV.lss rfl rfl) rfl (Z6 (Z1 ?_))))
  refine Z129 rfl (fun hylt => ?_) (fun hylt => ?_)
  ·have hy2 : y < 5 := by omega
   have qa : (u64s a)[0 + (x + 5 * y)]? = some (U64 (g64 a (x + 5 * y))) := by rw [Nat.zero_add]; exact Z150 (by omega)
   have e4 : 0 + (((x : Int) + 4) % 5).toNat = (x + 4) % 5 := by omega
   have e1 : 0 + (((x : Int) + 1) % 5).toNat = (x + 1) % 5 := by omega
   have g4 : (u64s c)[0 + (((x : Int) + 4) % 5).toNat]? = some (U64 (g64 c ((x + 4) % 5))) := by rw [e4]; exact Z150 (by omega)
   have g1 : (u64s c)[0 + (((x : Int) + 1) % 5).toNat]? = some (U64 (g64 c ((x + 1) % 5))) := by rw [e1]; exact Z150 (by omega)
   have hl2 : 0 + (x + 5 * y) < (u64s b).length := by rw [Z103]; omega
   (refine CW.skip ?_; refine Z1 ?_; refine Z4 ?_; refine CW.block ?_)
   refine CW.drawsT 22 mixed (by kernel_rfl) (TW.rv (Z3 rfl) rfl (TW.rv (Z3 rfl) rfl (TW.call _ Tryd.call153 rfl (at_is w0 _ _ _ (by omega) (by omega) (v := x + 5 * y) (by omega)) (fun _ _ => rfl) (fun _ _ _ m => m) rfl (TW.rv (Z3 rfl) rfl (TW.rv (Z3 rfl) rfl (TW.call _ Tryd.call153 rfl (at_is w0 _ _ _ (by omega) (by omega) (v := x + 5 * y) (by omega)) (fun _ _ => rfl) (fun _ _ _ m => m) rfl (TW.rv (Z111 _ rfl rfl rfl rfl rfl (by omega)) rfl ?_)))))))
   refine TW.rv (Z29 rfl (by (refine List.Mem.tail _ ?_; refine List.Mem.tail _ ?_; refine List.Mem.tail _ ?_; exact List.Mem.head _); done) rfl rfl rfl (by assumption)) rfl ?_
   refine TW.rv (Z3 rfl) rfl (TW.rv (RV.add rfl rfl (by omega)) rfl (TW.rv (RV.rem rfl rfl (by omega) (by omega)) rfl (TW.rv (Z111 _ rfl rfl rfl rfl rfl (by omega)) rfl ?_)))
   refine TW.rv (Z29 rfl (by (refine List.Mem.tail _ ?_; exact List.Mem.head _); done) rfl rfl rfl (by assumption)) rfl ?_
   refine TW.rv (Z171 rfl rfl rfl rfl) rfl (TW.rv (Z3 rfl) rfl (TW.rv (RV.add rfl rfl (by omega)) rfl (TW.rv (RV.rem rfl rfl (by omega) (by omega)) rfl (TW.rv (Z111 _ rfl rfl rfl rfl rfl (by omega)) rfl ?_))))
   refine TW.rv (Z29 rfl (by (refine List.Mem.tail _ ?_; exact List.Mem.head _); done) rfl rfl rfl (by assumption)) rfl ?_
   refine TW.call _ Tryd.call154 rfl (Rot_does w0 _ _ 1 (by decide) (by decide)) (fun _ _ => rfl) (fun _ _ _ m => m) rfl (TW.rv (Z171 rfl rfl rfl rfl) rfl (TW.rv (Z111 _ rfl rfl rfl rfl rfl (by omega)) rfl (TW.nil (Z28 (SV.store rfl rfl rfl rfl rfl (by assumption)) (Z6 ?_)))))
   (refine Z27 ?_; refine Z1 ?_)
   refine Z2 (Z0 (Z3 rfl) rfl (Z0 (RV.add rfl rfl (by omega)) rfl (Z0 (Z5 rfl) rfl (Z6 ?_))))
   have ev : g64 a (x + 5 * y) ^^^ g64 c ((x + 4) % 5) ^^^ rotl (g64 c ((x + 1) % 5)) (1 : Int).toNat = thetaE a (x + 5 * y) := by
    rw [he _ (by omega), he _ (by omega), BitVec.xor_assoc]
    unfold thetaE
    rw [show (x + 5 * y + 4) % 5 = (x + 4) % 5 by omega, show (x + 5 * y + 1) % 5 = (x + 1) % 5 by omega]; rfl
   refine Z166 (y + 1, b.set (x + 5 * y) (thetaE a (x + 5 * y))) ⟨by show y + 1 ≤ 5; omega, by simp [hb], fun k h1 h2 => ?_⟩ (by show 5 - (y + 1) < 5 - y; omega) ⟨rfl, rfl, rfl, rfl, rfl, rfl, trivial⟩ (fun _ m => ?_)
   ·have h2' : k % 5 < x ∨ (k % 5 = x ∧ k / 5 < y + 1) := h2
    show g64 (b.set (x + 5 * y) (thetaE a (x + 5 * y))) k = thetaE a k
    rw [g64_set _ _ _ _ (by omega)]
    by_cases hk2 : k = x + 5 * y
    ·subst hk2; rw [if_pos rfl]
    ·rw [if_neg hk2]; exact hbe k h1 (by omega)
   ·rw [ev, Nat.zero_add, Z149] at m
    exact m
  ·(refine CW.exit ?_; refine Z9 ?_; refine Z9 ?_; refine Z15 ?_; refine Z27 ?_; refine Z1 ?_)
   refine Z2 (Z0 (Z3 rfl) rfl (Z0 (RV.add rfl rfl (by omega)) rfl (Z0 (Z5 rfl) rfl (Z6 ?_))))
   exact Z166 (x + 1, b) ⟨by show x + 1 ≤ 5; omega, hb, fun k h1 h2 => hbe k h1 (by have h2' : k % 5 < x + 1 := h2; omega)⟩ (by show 5 - (x + 1) < 5 - x; omega) ⟨rfl, rfl, rfl, rfl, rfl, trivial⟩ (fun _ m => m)
 have hx5 : x = 5 := by omega
 subst hx5
 have eb : b = (List.range 25).map (thetaE a) := by
  refine ext25 hb (by simp) fun j hj => ?_
  rw [hbe j hj (by omega)]
  simp only [g64, List.getD, List.getElem?_map, List.getElem?_range hj, Option.map_some, Option.getD_some]
 rw [← eb]
 (refine CW.exit ?_; refine Z9 ?_; refine Z9 ?_; refine Z15 ?_; refine Z1 ?_; refine Z4 ?_)
 refine Z2 ?_
 refine Z0 (Z22 rfl (by exact List.Mem.head _; done) rfl rfl rfl rfl ((Z103 _).trans (by assumption))) rfl ?_
 refine OW.rot2 ?_; refine Z28 (Z109 rfl rfl rfl (Z154 _) rfl (by assumption) ((Z103 _).trans (by assumption))) ?_
 refine Z6 ?_
 (refine Z1 ?_; refine CW.ret ?_)
 exact QW.retC1 rfl () trivial rfl Zh rfl rfl rfl rfl ((Z103 _).trans hb) rfl (fun _ m => m.tail.tail.tail.tail)
end Go.Fw.Tryd
namespace Go.Fw.Tryd
open Go Go.Proofs
attribute [local irreducible] permTo roundL movedL chiL sumTo mvL
theorem moved_does (w0 : World) (M : List Ent) (hTn : ∀ i, i < 25 → w0.cell? ⟨5, i, none⟩ = some (.int .i64 (turnsL.getD i 0))) (a : List (BitVec 64)) (ha : a.length = 25) : Does Tryd.prog 143 [.agg (u64s a).toArray] w0 M (τ := Unit) (fun _ => True) (fun _ => .agg (u64s (mvL a)).toArray) (fun _ => M) := by
 have hz25 : (List.replicate 25 0#64).length = 25 := List.length_replicate ..
 refine Does.enter Tryd.func143 rfl Tryd.ntmps143 rfl (Z4 (Z2 (OW.boxA rfl rfl (fun b1 => (OW.alloc (l := u64s (List.replicate 25 0#64)) rfl (by rw [← Z145]; rfl) rfl (fun b2 => (Z6 ?_)))))))
 (refine Z1 ?_; refine Z4 ?_)
 refine Z2 (OW.alloc (l := u64s (List.replicate 25 0#64)) rfl (by rw [← Z145]; rfl) rfl (fun b3 => (Z6 ?_)))
 (refine Z1 ?_; refine Z4 ?_; refine Z4 ?_)
 refine Z2 (Z0 (Z5 rfl) rfl (Z6 ?_))
 (refine Z1 ?_; refine CW.block ?_)
 refine CW.loop (σ := Nat × List (BitVec 64)) (fun s => s.1 ≤ 5 ∧ s.2.length = 25 ∧ ∀ k, k < 25 → k % 5 < s.1 → g64 s.2 (goesN k) = rotl (g64 a k) (turnsL.getD k 0).toNat) (fun s => [(1, ptr (some b1) 0), (2, ptr (some b2) 0), (3, ptr (some b3) 0), (4, .int .i64 (s.1 : Int))])
  (fun s => (some b3, blk (u64s s.2) 154) :: (some b2, blk (u64s (List.replicate 25 0#64)) 154) :: (some b1, blk (u64s a) 154) :: M) (fun s => 5 - s.1) (0, List.replicate 25 0#64) ⟨by simp, hz25, fun k _ h => by omega⟩ ⟨rfl, rfl, rfl, rfl, trivial⟩ (fun _ m => m) ?_
 rintro ⟨x, b⟩ ⟨hx, hb, hbe⟩
 dsimp only at hx hb hbe ⊢
 (refine Z4 ?_; refine Z4 ?_)
 refine Z2 (Z0 (Z3 rfl) rfl (Z0 (RV.lss rfl rfl) rfl (Z6 (Z1 ?_))))
 refine Z129 rfl (fun hxlt => ?_) (fun hxlt => ?_)
 ·have hx2 : x < 5 := by omega
  (refine CW.skip ?_; refine Z1 ?_; refine Z4 ?_; refine CW.block ?_; refine Z4 ?_)
  refine Z2 (Z0 (Z5 rfl) rfl (Z6 ?_))
  (refine Z1 ?_; refine CW.block ?_)
  refine CW.loop (σ := Nat × List (BitVec 64)) (fun s => s.1 ≤ 5 ∧ s.2.length = 25 ∧ ∀ k, k < 25 → (k % 5 < x ∨ (k % 5 = x ∧ k / 5 < s.1)) → g64 s.2 (goesN k) = rotl (g64 a k) (turnsL.getD k 0).toNat) (fun s => [(1, ptr (some b1) 0), (2, ptr (some b2) 0), (3, ptr (some b3) 0), (4, .int .i64 (x : Int)), (5, .int .i64 (s.1 : Int))])
   (fun s => (some b3, blk (u64s s.2) 154) :: (some b2, blk (u64s (List.replicate 25 0#64)) 154) :: (some b1, blk (u64s a) 154) :: M) (fun s => 5 - s.1) (0, b) ⟨by simp, hb, fun k h1 h2 => hbe k h1 (by omega)⟩ ⟨rfl, rfl, rfl, rfl, rfl, trivial⟩ (fun _ m => m) ?_
  clear hb hbe b
  rintro ⟨y, b⟩ ⟨hy, hb, hbe⟩
  dsimp only at hy hb hbe ⊢
  (refine Z4 ?_; refine Z4 ?_)
  refine Z2 (Z0 (Z3 rfl) rfl (Z0 (RV.lss rfl rfl) rfl (Z6 (Z1 ?_))))
  refine Z129 rfl (fun hylt => ?_) (fun hylt => ?_)
  ·have hy2 : y < 5 := by omega
   have hi : x + 5 * y < 25 := by omega
   have hg1 : goesN (x + 5 * y) < 25 := goes_lt ⟨x + 5 * y, hi⟩
   have htr : 0 ≤ turnsL.getD (x + 5 * y) 0 ∧ turnsL.getD (x + 5 * y) 0 < 64 := turns_in ⟨x + 5 * y, hi⟩
   have qa : (u64s a)[0 + (x + 5 * y)]? = some (U64 (g64 a (x + 5 * y))) := by rw [Nat.zero_add]; exact Z150 (by omega)
   have qt : Mem.Says w0 M (fun w => w.cell? ((⟨5, 0, none⟩ : Addr).add (((x + 5 * y : Nat) : Int).toNat * 1)) = some (.int .i64 (turnsL.getD (x + 5 * y) 0))) := fun w m => m.oldSome (by rw [Z118, Nat.zero_add, Nat.mul_one, Int.toNat_natCast]; exact hTn _ hi)
   have hge : (y : Int) % 5 + 5 * ((2 * (x : Int) + 3 * (y : Int)) % 5) = (goesN (x + 5 * y) : Int) := by
    unfold goesN
    rw [show (x + 5 * y) / 5 = y by omega, show (x + 5 * y) % 5 = x by omega, show 2 * (x : Int) + 3 * (y : Int) = ((2 * x + 3 * y : Nat) : Int) by omega]; omega
   have hl2 : 0 + goesN (x + 5 * y) < (u64s b).length := by rw [Z103]; omega
   (refine CW.skip ?_; refine Z1 ?_; refine Z4 ?_; refine CW.block ?_)
   refine CW.drawsT 19 mixed (by kernel_rfl) (TW.rv (Z3 rfl) rfl (TW.rv (Z3 rfl) rfl (TW.rv (RV.mul rfl rfl (by omega)) rfl (TW.rv (Z3 rfl) rfl (TW.rv (RV.mul rfl rfl (by omega)) rfl (TW.rv (RV.add rfl rfl (by omega)) rfl (TW.call _ Tryd.call153 rfl (at_is w0 _ _ _ (by omega) (by omega) hge) (fun _ _ => rfl) (fun _ _ _ m => m) rfl ?_)))))))
   refine TW.rv (Z3 rfl) rfl (TW.rv (Z3 rfl) rfl (TW.call _ Tryd.call153 rfl (at_is w0 _ _ _ (by omega) (by omega) (v := x + 5 * y) (by omega)) (fun _ _ => rfl) (fun _ _ _ m => m) rfl (TW.rv (Z111 _ rfl rfl rfl rfl rfl (by omega)) rfl ?_)))
   refine TW.rv (Z29 rfl (by (refine List.Mem.tail _ ?_; refine List.Mem.tail _ ?_; exact List.Mem.head _); done) rfl rfl rfl (by assumption)) rfl ?_
   refine TW.rv (Z3 rfl) rfl (TW.rv (Z3 rfl) rfl (TW.call _ Tryd.call153 rfl (at_is w0 _ _ _ (by omega) (by omega) (v := x + 5 * y) (by omega)) (fun _ _ => rfl) (fun _ _ _ m => m) rfl (TW.rv (RV.idx_arr_at rfl rfl rfl rfl (by omega) (by omega)) rfl ?_)))
   refine TW.rv (Z21 rfl rfl rfl (by (refine Mem.Says.cons ?_; refine Mem.Says.cons ?_; refine Mem.Says.cons ?_; assumption); done)) rfl ?_
   refine TW.call _ Tryd.call154 rfl (Rot_does w0 _ _ _ htr.1 htr.2) (fun _ _ => rfl) (fun _ _ _ m => m) rfl (TW.rv (Z111 _ rfl rfl rfl rfl rfl (by omega)) rfl (TW.nil (Z28 (SV.store rfl rfl rfl rfl rfl (by assumption)) (Z6 ?_))))
   (refine Z27 ?_; refine Z1 ?_)
   refine Z2 (Z0 (Z3 rfl) rfl (Z0 (RV.add rfl rfl (by omega)) rfl (Z0 (Z5 rfl) rfl (Z6 ?_))))
   refine Z166 (y + 1, b.set (goesN (x + 5 * y)) (rotl (g64 a (x + 5 * y)) (turnsL.getD (x + 5 * y) 0).toNat)) ⟨by show y + 1 ≤ 5; omega, by simp [hb], fun k h1 h2 => ?_⟩ (by show 5 - (y + 1) < 5 - y; omega) ⟨rfl, rfl, rfl, rfl, rfl, trivial⟩ (fun _ m => ?_)
   ·have h2' : k % 5 < x ∨ (k % 5 = x ∧ k / 5 < y + 1) := h2
    show g64 (b.set (goesN (x + 5 * y)) _) (goesN k) = _
    rw [g64_set _ _ _ _ (by omega)]
    by_cases hk2 : goesN k = goesN (x + 5 * y)
    ·have := congrArg Fin.val (goes_inj ⟨k, h1⟩ ⟨x + 5 * y, hi⟩ hk2)
     simp only at this
     subst this; rw [if_pos rfl]
    ·rw [if_neg hk2]
     refine hbe k h1 ?_
     by_cases hk3 : k = x + 5 * y
     ·exact absurd (by rw [hk3]) hk2
     ·omega
   ·rw [Nat.zero_add, Z149] at m
    exact m
  ·(refine CW.exit ?_; refine Z9 ?_; refine Z9 ?_; refine Z15 ?_; refine Z27 ?_; refine Z1 ?_)
   refine Z2 (Z0 (Z3 rfl) rfl (Z0 (RV.add rfl rfl (by omega)) rfl (Z0 (Z5 rfl) rfl (Z6 ?_))))
   exact Z166 (x + 1, b) ⟨by show x + 1 ≤ 5; omega, hb, fun k h1 h2 => hbe k h1 (by have h2' : k % 5 < x + 1 := h2; omega)⟩ (by show 5 - (x + 1) < 5 - x; omega) ⟨rfl, rfl, rfl, rfl, trivial⟩ (fun _ m => m)
 have hx5 : x = 5 := by omega
 subst hx5
 have eb : b = mvL a := mvL_of hb (fun i hi => hbe i hi (by omega))
 rw [← eb]
 (refine CW.exit ?_; refine Z9 ?_; refine Z9 ?_; refine Z15 ?_; refine Z1 ?_; refine Z4 ?_)
 refine Z2 ?_
 refine Z0 (Z22 rfl (by exact List.Mem.head _; done) rfl rfl rfl rfl ((Z103 _).trans (by assumption))) rfl ?_
 refine OW.rot1 ?_; refine Z28 (Z109 rfl rfl rfl (Z154 _) rfl (by assumption) ((Z103 _).trans (by assumption))) ?_
 refine Z6 ?_
 (refine Z1 ?_; refine CW.ret ?_)
 exact QW.retC1 rfl () trivial rfl Zh rfl rfl rfl rfl ((Z103 _).trans hb) rfl (fun _ m => m.tail.tail.tail)
theorem mixed_does (w0 : World) (M : List Ent) (a : List (BitVec 64)) (ha : a.length = 25) : Does Tryd.prog 144 [.agg (u64s a).toArray] w0 M (τ := Unit) (fun _ => True) (fun _ => .agg (u64s (chiL a)).toArray) (fun _ => M) := by
 have hz25 : (List.replicate 25 0#64).length = 25 := List.length_replicate ..
 refine Does.enter Tryd.func144 rfl Tryd.ntmps144 rfl (Z4 (Z2 (OW.boxA rfl rfl (fun b1 => (OW.alloc (l := u64s (List.replicate 25 0#64)) rfl (by rw [← Z145]; rfl) rfl (fun b2 => (Z6 ?_)))))))
 (refine Z1 ?_; refine Z4 ?_)
 refine Z2 (OW.alloc (l := u64s (List.replicate 25 0#64)) rfl (by rw [← Z145]; rfl) rfl (fun b3 => (Z6 ?_)))
 (refine Z1 ?_; refine Z4 ?_; refine Z4 ?_)
 refine Z2 (Z0 (Z5 rfl) rfl (Z6 ?_))
 (refine Z1 ?_; refine CW.block ?_)
 refine CW.loop (σ := Nat × List (BitVec 64)) (fun s => s.1 ≤ 5 ∧ s.2.length = 25 ∧ ∀ k, k < 25 → k % 5 < s.1 → g64 s.2 k = chiE a k) (fun s => [(1, ptr (some b1) 0), (2, ptr (some b2) 0), (3, ptr (some b3) 0), (4, .int .i64 (s.1 : Int))])
  (fun s => (some b3, blk (u64s s.2) 154) :: (some b2, blk (u64s (List.replicate 25 0#64)) 154) :: (some b1, blk (u64s a) 154) :: M) (fun s => 5 - s.1) (0, List.replicate 25 0#64) ⟨by simp, hz25, fun k _ h => by omega⟩ ⟨rfl, rfl, rfl, rfl, trivial⟩ (fun _ m => m) ?_
 rintro ⟨x, b⟩ ⟨hx, hb, hbe⟩
 dsimp only at hx hb hbe ⊢
 (refine Z4 ?_; refine Z4 ?_)
 refine Z2 (Z0 (Z3 rfl) rfl (Z0 (RV.lss rfl rfl) rfl (Z6 (Z1 ?_))))
 refine Z129 rfl (fun hxlt => ?_) (fun hxlt => ?_)
 ·have hx2 : x < 5 := by omega
  (refine CW.skip ?_; refine Z1 ?_; refine Z4 ?_; refine CW.block ?_; refine Z4 ?_)
  refine Z2 (Z0 (Z5 rfl) rfl (Z6 ?_))
  (refine Z1 ?_; refine CW.block ?_)
  refine CW.loop (σ := Nat × List (BitVec 64)) (fun s => s.1 ≤ 5 ∧ s.2.length = 25 ∧ ∀ k, k < 25 → (k % 5 < x ∨ (k % 5 = x ∧ k / 5 < s.1)) → g64 s.2 k = chiE a k) (fun s => [(1, ptr (some b1) 0), (2, ptr (some b2) 0), (3, ptr (some b3) 0), (4, .int .i64 (x : Int)), (5, .int .i64 (s.1 : Int))])
   (fun s => (some b3, blk (u64s s.2) 154) :: (some b2, blk (u64s (List.replicate 25 0#64)) 154) :: (some b1, blk (u64s a) 154) :: M) (fun s => 5 - s.1) (0, b) ⟨by simp, hb, fun k h1 h2 => hbe k h1 (by omega)⟩ ⟨rfl, rfl, rfl, rfl, rfl, trivial⟩ (fun _ m => m) ?_
  clear hb hbe b
  rintro ⟨y, b⟩ ⟨hy, hb, hbe⟩
  dsimp only at hy hb hbe ⊢
  (refine Z4 ?_; refine Z4 ?_)
  refine Z2 (Z0 (Z3 rfl) rfl (Z0 (RV.lss rfl rfl) rfl (Z6 (Z1 ?_))))
  refine Z129 rfl (fun hylt => ?_) (fun hylt => ?_)
  ·have hy2 : y < 5 := by omega
   have q : ∀ p, p < 25 → (u64s a)[0 + p]? = some (U64 (g64 a p)) := fun p hp => by rw [Nat.zero_add]; exact Z150 (by omega)
   have q0 := q (x + 5 * y) (by omega)
   have q1 := q ((x + 1) % 5 + 5 * y) (by omega)
   have q2 := q ((x + 2) % 5 + 5 * y) (by omega)
   have hl2 : 0 + (x + 5 * y) < (u64s b).length := by rw [Z103]; omega
   (refine CW.skip ?_; refine Z1 ?_; refine Z4 ?_; refine CW.block ?_)
   refine CW.drawsT 24 mixed (by kernel_rfl) (TW.rv (Z3 rfl) rfl (TW.rv (Z3 rfl) rfl (TW.call _ Tryd.call153 rfl (at_is w0 _ _ _ (by omega) (by omega) (v := x + 5 * y) (by omega)) (fun _ _ => rfl) (fun _ _ _ m => m) rfl (TW.rv (Z3 rfl) rfl (TW.rv (Z3 rfl) rfl (TW.call _ Tryd.call153 rfl (at_is w0 _ _ _ (by omega) (by omega) (v := x + 5 * y) (by omega)) (fun _ _ => rfl) (fun _ _ _ m => m) rfl (TW.rv (Z111 _ rfl rfl rfl rfl rfl (by omega)) rfl ?_)))))))
   refine TW.rv (Z29 rfl (by (refine List.Mem.tail _ ?_; refine List.Mem.tail _ ?_; exact List.Mem.head _); done) rfl rfl rfl (by assumption)) rfl ?_
   refine TW.rv (Z3 rfl) rfl (TW.rv (RV.add rfl rfl (by omega)) rfl (TW.rv (Z3 rfl) rfl (TW.call _ Tryd.call153 rfl (at_is w0 _ _ _ (by omega) (by omega) (v := (x + 1) % 5 + 5 * y) (by omega)) (fun _ _ => rfl) (fun _ _ _ m => m) rfl (TW.rv (Z111 _ rfl rfl rfl rfl rfl (by omega)) rfl ?_))))
   refine TW.rv (Z29 rfl (by (refine List.Mem.tail _ ?_; refine List.Mem.tail _ ?_; exact List.Mem.head _); done) rfl rfl rfl (by assumption)) rfl ?_
   refine TW.rv (RV.compl64 rfl rfl) rfl (TW.rv (Z3 rfl) rfl (TW.rv (RV.add rfl rfl (by omega)) rfl (TW.rv (Z3 rfl) rfl (TW.call _ Tryd.call153 rfl (at_is w0 _ _ _ (by omega) (by omega) (v := (x + 2) % 5 + 5 * y) (by omega)) (fun _ _ => rfl) (fun _ _ _ m => m) rfl (TW.rv (Z111 _ rfl rfl rfl rfl rfl (by omega)) rfl ?_)))))
   refine TW.rv (Z29 rfl (by (refine List.Mem.tail _ ?_; refine List.Mem.tail _ ?_; exact List.Mem.head _); done) rfl rfl rfl (by assumption)) rfl ?_
   refine TW.rv (RV.and64 rfl rfl rfl rfl) rfl (TW.rv (Z171 rfl rfl rfl rfl) rfl (TW.rv (Z111 _ rfl rfl rfl rfl rfl (by omega)) rfl (TW.nil (Z28 (SV.store rfl rfl rfl rfl rfl (by assumption)) (Z6 ?_)))))
   (refine Z27 ?_; refine Z1 ?_)
   refine Z2 (Z0 (Z3 rfl) rfl (Z0 (RV.add rfl rfl (by omega)) rfl (Z0 (Z5 rfl) rfl (Z6 ?_))))
   have ec : chiE a (x + 5 * y) = g64 a (x + 5 * y) ^^^ (~~~ (g64 a ((x + 1) % 5 + 5 * y)) &&& g64 a ((x + 2) % 5 + 5 * y)) := by
    unfold chiE
    rw [show (x + 5 * y) % 5 = x by omega, show (x + 5 * y) / 5 * 5 + (x + 1) % 5 = (x + 1) % 5 + 5 * y by omega, show (x + 5 * y) / 5 * 5 + (x + 2) % 5 = (x + 2) % 5 + 5 * y by omega]
   refine Z166 (y + 1, b.set (x + 5 * y) (chiE a (x + 5 * y))) ⟨by show y + 1 ≤ 5; omega, by simp [hb], fun k h1 h2 => ?_⟩ (by show 5 - (y + 1) < 5 - y; omega) ⟨rfl, rfl, rfl, rfl, rfl, trivial⟩ (fun _ m => ?_)
   ·have h2' : k % 5 < x ∨ (k % 5 = x ∧ k / 5 < y + 1) := h2
    show g64 (b.set (x + 5 * y) (chiE a (x + 5 * y))) k = chiE a k
    rw [g64_set _ _ _ _ (by omega)]
    by_cases hk2 : k = x + 5 * y
    ·subst hk2; rw [if_pos rfl]
    ·rw [if_neg hk2]; exact hbe k h1 (by omega)
   ·rw [ec]
    rw [Nat.zero_add, Z149] at m
    exact m
  ·(refine CW.exit ?_; refine Z9 ?_; refine Z9 ?_; refine Z15 ?_; refine Z27 ?_; refine Z1 ?_)
   refine Z2 (Z0 (Z3 rfl) rfl (Z0 (RV.add rfl rfl (by omega)) rfl (Z0 (Z5 rfl) rfl (Z6 ?_))))
   exact Z166 (x + 1, b) ⟨by show x + 1 ≤ 5; omega, hb, fun k h1 h2 => hbe k h1 (by have h2' : k % 5 < x + 1 := h2; omega)⟩ (by show 5 - (x + 1) < 5 - x; omega) ⟨rfl, rfl, rfl, rfl, trivial⟩ (fun _ m => m)
 have hx5 : x = 5 := by omega
 subst hx5
 have eb : b = chiL a := chi_of hb (fun i hi => hbe i hi (by omega))
 rw [← eb]
 (refine CW.exit ?_; refine Z9 ?_; refine Z9 ?_; refine Z15 ?_; refine Z1 ?_; refine Z4 ?_)
 refine Z2 ?_
 refine Z0 (Z22 rfl (by exact List.Mem.head _; done) rfl rfl rfl rfl ((Z103 _).trans (by assumption))) rfl ?_
 refine OW.rot1 ?_; refine Z28 (Z109 rfl rfl rfl (Z154 _) rfl (by assumption) ((Z103 _).trans (by assumption))) ?_
 refine Z6 ?_
 (refine Z1 ?_; refine CW.ret ?_)
 exact QW.retC1 rfl () trivial rfl Zh rfl rfl rfl rfl ((Z103 _).trans hb) rfl (fun _ m => m.tail.tail.tail)
end Go.Fw.Tryd
namespace Go.Fw.Tryd
open Go Go.Proofs
attribute [local irreducible] permTo roundL movedL chiL sumTo mvL
theorem rperm_does (w0 : World) (M : List Ent) (hTn : ∀ i, i < 25 → w0.cell? ⟨5, i, none⟩ = some (.int .i64 (turnsL.getD i 0))) (hRn : ∀ i, i < 24 → w0.cell? ⟨2, i, none⟩ = some (U64 (g64 roundsL i))) (a : List (BitVec 64)) (ha : a.length = 25) : Does Tryd.prog 127 [.agg (u64s a).toArray] w0 M (τ := Unit) (fun _ => True) (fun _ => .agg (u64s (permL a)).toArray) (fun _ => M) := by
 have hpe : permL a = permTo a 24 := rfl
 have hz25 : (List.replicate 25 0#64).length = 25 := List.length_replicate ..
 rw [hpe]
 refine Does.enter Tryd.func127 rfl Tryd.ntmps127 rfl (Z4 (Z2 (OW.boxA rfl rfl (fun b1 => (OW.alloc (l := u64s (List.replicate 25 0#64)) rfl (by rw [← Z145]; rfl) rfl (fun b2 => (Z6 ?_)))))))
 (refine Z1 ?_; refine Z4 ?_)
 refine Z2 ?_
 refine Z0 (Z22 rfl (by (refine List.Mem.tail _ ?_; exact List.Mem.head _); done) rfl rfl rfl rfl ((Z103 _).trans (by assumption))) rfl ?_
 refine OW.alloc (l := u64s (List.replicate 25 0#64)) rfl (by rw [← Z145]; rfl) rfl (fun b3 => (Z28 (Z109 rfl rfl rfl (Z154 _) rfl (by assumption) ((Z103 _).trans (by assumption))) (Z6 ?_)))
 (refine Z1 ?_; refine Z4 ?_; refine Z4 ?_)
 refine Z2 (Z0 (Z5 rfl) rfl (Z6 ?_))
 (refine Z1 ?_; refine CW.block ?_)
 refine CW.loop (σ := Nat) (fun t => t ≤ 24) (fun t => [(2, ptr (some b2) 0), (3, ptr (some b3) 0), (4, .int .i64 (t : Int))])
  (fun t => (some b3, blk (u64s (permTo a t)) 154) :: (some b2, blk (u64s (List.replicate 25 0#64)) 154) :: (some b1, blk (u64s a) 154) :: M) (fun t => 24 - t) 0 (by omega) ⟨rfl, rfl, rfl, trivial⟩ (fun _ m => by rw [permTo_zero]; exact m) ?_
 intro t ht
 have hal := permTo_length ha t
 (refine Z4 ?_; refine Z4 ?_)
 refine Z2 (Z0 (Z3 rfl) rfl (Z0 (RV.lss rfl rfl) rfl (Z6 (Z1 ?_))))
 refine Z129 rfl (fun hlt => ?_) (fun hlt => ?_)
 ·have ht2 : t < 24 := by omega
  have hs := permTo_succ a t
  generalize permTo a t = A at hal hs ⊢
  have hth : ((List.range 25).map (thetaE A)).length = 25 := by simp
  have hmv := mvL_theta A
  have hml : (mvL ((List.range 25).map (thetaE A))).length = 25 := by rw [hmv]; exact movedL_length A
  have hcl : (chiL (mvL ((List.range 25).map (thetaE A)))).length = 25 := chiL_length _
  have hrd := roundL_eq A (g64 roundsL t)
  rw [← hmv] at hrd
  have qr : Mem.Says w0 M (fun w => w.cell? ((⟨2, 0, none⟩ : Addr).add ((t : Int).toNat * 1)) = some (U64 (g64 roundsL t))) := fun w m => m.oldSome (by rw [Z118, Nat.zero_add, Nat.mul_one, Int.toNat_natCast]; exact hRn _ ht2)
  (refine CW.skip ?_; refine Z1 ?_; refine Z4 ?_; refine CW.block ?_; refine Z4 ?_)
  refine Z2 ?_
  refine Z0 (Z22 rfl (by exact List.Mem.head _; done) rfl rfl rfl rfl ((Z103 _).trans (by assumption))) rfl ?_
  refine OW.call Tryd.call142 rfl (columns_does w0 _ _ hal) rfl (fun u hu => (Z28 (Z109 rfl rfl rfl (Z154 _) rfl ((Z103 _).trans (by assumption)) (by assumption)) (Z6 ?_)))
  (refine Z1 ?_; refine Z4 ?_)
  refine Z2 ?_
  refine Z0 (Z22 rfl (by exact List.Mem.head _; done) rfl rfl rfl rfl (by assumption)) rfl ?_
  refine OW.call Tryd.call143 rfl (moved_does w0 _ hTn _ hth) rfl (fun u hu => (Z28 (Z109 rfl rfl rfl (Z154 _) rfl (by assumption) ((Z103 _).trans (by assumption))) (Z6 ?_)))
  (refine Z1 ?_; refine Z4 ?_)
  refine Z2 ?_
  refine Z0 (Z22 rfl (by exact List.Mem.head _; done) rfl rfl rfl rfl ((Z103 _).trans (by assumption))) rfl ?_
  refine OW.call Tryd.call144 rfl (mixed_does w0 _ _ hml) rfl (fun u hu => (Z28 (Z109 rfl rfl rfl (Z154 _) rfl ((Z103 _).trans (by assumption)) ((Z103 _).trans (by assumption))) (Z6 (Z1 ?_))))
  generalize chiL (mvL ((List.range 25).map (thetaE A))) = C at hrd hcl ⊢
  have q0 : (u64s C)[0 + 0]? = some (U64 (g64 C 0)) := Z150 (by omega)
  have hl0 : 0 + 0 < (u64s C).length := by rw [Z103]; omega
  refine CW.drawsT 7 mixed (by kernel_rfl) (TW.rv (Z111 _ rfl rfl rfl rfl rfl (by omega)) rfl ?_)
  refine TW.rv (Z29 rfl (by exact List.Mem.head _; done) rfl rfl rfl (by assumption)) rfl ?_
  refine TW.rv (Z3 rfl) rfl (TW.rv (RV.idx_arr_at rfl rfl rfl rfl (by omega) (by omega)) rfl ?_)
  refine TW.rv (Z21 rfl rfl rfl (by (refine Mem.Says.cons ?_; refine Mem.Says.cons ?_; refine Mem.Says.cons ?_; assumption); done)) rfl ?_
  refine TW.rv (Z171 rfl rfl rfl rfl) rfl (TW.rv (Z111 _ rfl rfl rfl rfl rfl (by omega)) rfl (TW.nil (Z28 (SV.store rfl rfl rfl rfl rfl (by assumption)) (Z6 ?_))))
  (refine Z27 ?_; refine Z1 ?_)
  refine Z2 (Z0 (Z3 rfl) rfl (Z0 (RV.add rfl rfl (by omega)) rfl (Z0 (Z5 rfl) rfl (Z6 (Z166 (t + 1) (by omega) (by omega) ⟨rfl, rfl, rfl, trivial⟩ (fun _ m => ?_))))))
  rw [hs, hrd, ← Z149]
  exact m
 ·have ht2 : t = 24 := by omega
  subst ht2
  generalize permTo a 24 = A at hal ⊢
  (refine CW.exit ?_; refine Z9 ?_; refine Z9 ?_; refine Z15 ?_; refine Z1 ?_; refine Z4 ?_)
  refine Z2 ?_
  refine Z0 (Z22 rfl (by exact List.Mem.head _; done) rfl rfl rfl rfl ((Z103 _).trans (by assumption))) rfl ?_
  refine OW.rot1 ?_; refine Z28 (Z109 rfl rfl rfl (Z154 _) rfl (by assumption) ((Z103 _).trans (by assumption))) ?_
  refine Z6 ?_
  (refine Z1 ?_; refine CW.ret ?_)
  exact QW.retC1 rfl () trivial rfl Zh rfl rfl rfl rfl ((Z103 _).trans hal) rfl (fun _ m => m.tail.tail.tail)
end Go.Fw.Tryd
namespace Go.Fw.Tryd
open Go Go.Proofs Go.Fw
theorem waybillref02_Permute_does (w0 : World) (Φ : Ctx) (N : List Ent) (hΦ : ∀ w, Mem w0 w N → Φ w) (a0 res0 : Vector (BitVec 64) 25) (hTn : ∀ i, i < 25 → w0.cell? ⟨5, i, none⟩ = some (.int .i64 (turnsL.getD i 0))) (hRn : ∀ i, i < 24 → w0.cell? ⟨2, i, none⟩ = some (U64 (g64 roundsL i))) (hf : keccak_Permute a0 = some res0) : DoesG Tryd.prog 127 [.agg (u64s a0.toList).toArray] w0 [] N (fun v G => v = .agg (u64s res0.toList).toArray) := by
 have h := Does.toG (rperm_does w0 N hTn hRn a0.toList Zv)
 rw [← keccak_Permute_list hf] at h
 exact h.mono fun v G h => h.1
end Go.Fw.Tryd
namespace Go.Fw
open Go
section
variable {P : Program} {n : Nat} {Q : Exit → Act → World → Prop} {w0 : World} {L : Z135} {M : List Ent} {ops : Array Oper} {f : Nat} {done : Array Bool} {d : Nat} {op : Op} {ty : TypeId} {pos : String} {aft : Array Edge} {v : Value}
def AW (P : Program) (n : Nat) (ops : Array Oper) (Q : Exit → Act → World → Prop) (w0 : World) (f : Nat) (done : Array Bool) (L : Z135) (M : List Ent) : Prop :=
 ∀ a w, Fr n L a → Mem w0 w M → wpAny P .any ops Q f done a w
def AO (P : Program) (n : Nat) (ops : Array Oper) (Q : Exit → Act → World → Prop) (w0 : World) (i f : Nat) (done : Array Bool) (L : Z135) (M : List Ent) : Prop :=
 ∀ a w, Fr n L a → Mem w0 w M → wpOp P ops Q i (wpAny P .any ops Q f done) a w
theorem AW.nil (hr : Region.ready .any ops done = []) (h : QW n Q w0 .normal L M) : AW P n ops Q w0 0 done L M := fun a w fr m => ⟨hr, h.elim a w fr m⟩
theorem AW.one (i : Nat) (hr : Region.ready .any ops done = [i]) (h : AO P n ops Q w0 i f (done.setIfInBounds i true) L M) : AW P n ops Q w0 (f + 1) done L M := fun a w fr m =>
 ⟨(fun e => by rw [hr] at e; cases e), (fun j hj => by rw [hr] at hj; obtain rfl : j = i := by simpa using hj
                                                       exact h a w fr m)⟩
theorem AO.rv {i : Nat} (ho : ops[i]? = some ⟨some d, op, ty, pos, aft, none⟩) (hop : RV P w0 L M op v) (hd : Nat.blt d n = true) (k : AW P n ops Q w0 f done ((d, v) :: L) M) : AO P n ops Q w0 i f done L M := fun a w fr m => by
 unfold wpOp
 rw [ho]
 refine (if_pos (by simp [Region.wanted])).mpr (.inl ?_)
 unfold Oper.wp
 rw [hop a.eval w (fun x u hx => fr.eval hx) m _ rfl]
 exact k _ _ (fr.put hd v) m
theorem AO.sv {i : Nat} {M' : List Ent} (ho : ops[i]? = some ⟨none, op, ty, pos, aft, none⟩) (hop : SV P w0 L M op M') (k : AW P n ops Q w0 f done L M') : AO P n ops Q w0 i f done L M := fun a w fr m => by
 unfold wpOp
 rw [ho]
 obtain ⟨w', hr, m'⟩ := hop a.eval w (fun x u hx => fr.eval hx) m ⟨none, op, ty, pos, aft, none⟩ rfl
 refine (if_pos (by simp [Region.wanted])).mpr (.inl ?_)
 unfold Oper.wp
 rw [hr]
 exact k _ _ fr m'
theorem AO.av {i : Nat} {τ : Type} {I : τ → Prop} {v : τ → Value} {M' : τ → List Ent} (ho : ops[i]? = some ⟨some d, op, ty, pos, aft, none⟩) (hop : AV P w0 L M op I v M') (hd : Nat.blt d n = true) (k : ∀ x, I x → AW P n ops Q w0 f done ((d, v x) :: L) (M' x)) : AO P n ops Q w0 i f done L M := fun a w fr m => by
 unfold wpOp
 rw [ho]
 obtain ⟨x, w', hI, hr, m'⟩ := hop a.eval w (fun x u hx => fr.eval hx) m ⟨some d, op, ty, pos, aft, none⟩ rfl
 refine (if_pos (by simp [Region.wanted])).mpr (.inl ?_)
 unfold Oper.wp
 rw [hr]
 exact k x hI _ _ (fr.put hd _) m'
theorem AO.alloc [Types P] {i : Nat} {e ty1 : TypeId} {ti : TI} {l : List Value} (ho : ops[i]? = some ⟨some d, .alloc e, ty1, pos, aft, none⟩) (hi : Fw.ty P e = some ti) (hl : ti.z.cells = l.toArray) (hd : Nat.blt d n = true) (k : ∀ b : Nat, AW P n ops Q w0 f done ((d, ptr (some b) 0) :: L) ((some b, blk l e) :: M)) : AO P n ops Q w0 i f done L M :=
 AO.av (τ := Nat) (I := fun _ => True) (v := fun b => ptr (some b) 0) (M' := fun b => (some b, blk l e) :: M) ho (fun ρ w hρ m o ho => ⟨w.heap.size, w.alloc (blk l e), trivial, by
  obtain ⟨_, ti, h1, h2, h3, h4⟩ := ty_ok hi
  simp [execOp, ho, Instr.alloc, zeroValue, typeInfo, h1, h4, newVar, newRow, ptr, blk, hl], m.alloc _⟩) hd (fun b _ => k b)
end
end Go.Fw
namespace Go.Fw
open Go
theorem Z101 {A L : List Value} {n m : Nat} {v : Value} (hA : A.length = n) (h : L[m]? = some v) : (A ++ L)[n + m]? = some v := by
 rw [List.getElem?_append_right (by omega), show n + m - A.length = m by omega]; exact h
theorem Z126 {B C : List Value} {i : Nat} {v : Value} (h : B[i]? = some v) : (B ++ C)[i]? = some v := by
 have := (List.getElem?_eq_some_iff.1 h).1
 rw [List.getElem?_append_left this]; exact h
theorem Z107 {A L L' : List Value} {n m : Nat} {v : Value} (hA : A.length = n) (h : L.set m v = L') : (A ++ L).set (n + m) v = A ++ L' := by
 subst hA; subst h
 rw [List.set_append_right _ _ (by omega), show A.length + m - A.length = m by omega]
theorem here_set {B B' C : List Value} {i : Nat} {v : Value} (hi : i < B.length) (h : B.set i v = B') : (B ++ C).set i v = B' ++ C := by
 subst h
 rw [List.set_append_left _ _ hi]
theorem Z104 {A L L' cs : List Value} {n m : Nat} (hA : A.length = n) (h : spl L m cs = L') : spl (A ++ L) (n + m) cs = A ++ L' := by
 subst hA; subst h
 unfold spl
 rw [List.take_length_add_append, show A.length + m + cs.length = A.length + (m + cs.length) by omega, List.drop_length_add_append]
 simp [List.append_assoc]
theorem here_spl {B C cs : List Value} (h : cs.length = B.length) : spl (B ++ C) 0 cs = cs ++ C := by
 unfold spl
 rw [List.take_zero, List.nil_append, Nat.zero_add, h, List.drop_left]
end Go.Fw
namespace Go.Fw
open Go Go.RowKit
section
variable {P : Program} [Types P] {w0 : World} {L : Z135} {M : List Ent} {t e : TypeId} {x y z : Operand} {idx idx' : Int} {k k' : IntKind}
theorem RV.arr_loS {b off n : Nat} (a : Nat) (hx : ev L x = some (ptr (some b) off)) (hy : ev L y = some (.int k idx)) (hj : idx = (a : Int)) (ht : tyU P t = some (.array n e)) (hs : tyS P e = some 1) (h1 : idx < n) :
    RV P w0 L M (.slice t x (some y) none none) (sl (some b) (off + a) (n - a) (n - a)) := by
 have h := RV.arr_lo (P := P) (w0 := w0) (M := M) (A := ⟨b, off, none⟩) a hx hy hj ht hs (by omega)
 have e : subA (some ⟨b, off, none⟩) n a 1 = some ⟨b, off + a, none⟩ := by
  unfold subA
  rw [if_neg (by omega)]
  simp [Addr.add]
 rw [e] at h
 exact h
end
def cpV {α : Type} {n : Nat} (v : Vector α n) (lo : Nat) (l : List α) : Vector α n :=
 if h : lo + l.length ≤ n then ⟨(v.toList.take lo ++ l ++ v.toList.drop (lo + l.length)).toArray, by simp; omega⟩ else v
theorem cpV_toList {α : Type} {n : Nat} (v : Vector α n) {lo : Nat} {l : List α} (h : lo + l.length ≤ n) : (cpV v lo l).toList = v.toList.take lo ++ l ++ v.toList.drop (lo + l.length) := by
 unfold cpV
 rw [dif_pos h]
 rfl
theorem u8s_cpV {n : Nat} (v : Vector (BitVec 8) n) {lo : Nat} {l : List (BitVec 8)} (h : lo + l.length ≤ n) : spl (u8s v.toList) lo (u8s l) = u8s (cpV v lo l).toList := by
 rw [cpV_toList v h]
 unfold spl
 rw [Z100]
 simp [u8s, List.map_take, List.map_drop]
theorem at_spl {B B' C cs : List Value} {i : Nat} (hi : i + cs.length ≤ B.length) (h : spl B i cs = B') : spl (B ++ C) i cs = B' ++ C := by
 subst h
 unfold spl
 rw [List.take_append_of_le_length (by omega), List.drop_append_of_le_length hi]
 simp [List.append_assoc]
theorem u8s_take (l : List (BitVec 8)) (k : Nat) : (u8s l).take k = u8s (l.take k) := by simp [u8s, List.map_take]
end Go.Fw
namespace Go.Fw
open Go Go.RowKit
section
variable {P : Program} [Types P] {n : Nat} {Q : Exit → Act → World → Prop} {w0 : World} {L : Z135} {M : List Ent} {ops : Array Oper} {rest : List Oper} {t e ty1 : TypeId} {x : Operand} {pos : String} {aft : Array Edge}
theorem OW.clear {b off len cap : Nat} {l : List Value} {te : TypeId} {i : TI} {z : Value} (hx : ev L x = some (sl (some b) off len cap)) (ht : tyU P t = some (.slice e)) (hi : Fw.ty P e = some i) (hz : i.z.cells = #[z]) (h1 : z.oneCell' = true) (hp : 0 < len) (hl : off + len ≤ l.length)
    (k : OW P n ops Q w0 rest L ((some b, blk (spl l off (List.replicate len z)) te) :: M)) :
    OW P n ops Q w0 (⟨none, .call ⟨.builtin .clear, #[x], #[t]⟩, ty1, pos, aft, none⟩ :: rest) L ((some b, blk l te) :: M) := by
 refine OW.av_none (τ := Unit) (I := fun _ => True) (v := fun _ => .tuple #[]) (M' := fun _ => (some b, blk (spl l off (List.replicate len z)) te) :: M) (fun ρ w hρ mm o ho => ?_) (fun _ _ => k)
 obtain ⟨_, ti, h1', h2, h3, h4⟩ := ty_ok hi
 have hv : ∀ w, (zeroValue e).run P w = .ok i.z w := fun w => by simp [zeroValue, typeInfo, h1', h4]
 have hzc : (Builtin.zeroCells i.z.cells len).toList = List.replicate len z := by
  rw [hz]
  simp [Builtin.zeroCells]
  apply List.ext_getElem
  ·simp
  ·intro i h1 h2
   simp [Nat.mod_one]
 have hm := mm.ents _ (List.mem_cons_self ..) b rfl
 have hst := run_storeCells_at (P := P) b off te (List.replicate len z) 0 l.toArray w hm.2 (by simpa using hl) (fun v hv => by rw [List.eq_of_mem_replicate hv]; exact h1)
 simp only [Nat.add_zero] at hst
 obtain ⟨m, rfl⟩ : ∃ m, len = m + 1 := ⟨len - 1, by omega⟩
 refine ⟨(), _, trivial, ?_, mm.turned (w' := w.setRow b (l.toArray.toList.take off ++ List.replicate (m + 1) z ++ l.toArray.toList.drop (off + (List.replicate (m + 1) z).length)).toArray) rfl rfl rfl (by simp [World.setRow]) ?_ ?_⟩
 ·simp [execOp, ho, resolve, hρ x _ hx, invoke, builtin, Builtin.clear_, Z131 ht, sl, hv, hzc, hst]
 ·intro b' hb'
  cases hb'
  rw [setRow_heap w b l.toArray _ te (0, 0) hm.2]
  simp [blk, spl]
 ·intro kk hk
  exact setRow_other _ _ _ _ (fun e => hk (by rw [e]))
end
theorem u8s_rep0 (k : Nat) : List.replicate k (Value.int .u8 0) = u8s (List.replicate k 0#8) := by simp [u8s, U8]
end Go.Fw
namespace Go.Fw
theorem OwnS.same {ob : Option Nat} {len len' cap s : Nat} {cells cells' r : List Value} (h : OwnS ob len cap s cells r) (h1 : cells'.length = cells.length) (h2 : len' = len) : OwnS ob len' cap s cells' r := by
 subst h2
 exact ⟨by rw [h1]; exact h.n, by have := h.hr; rw [List.length_append] at this ⊢; omega, h.hn, h.mx⟩
end Go.Fw
namespace Go.Fw
open Go Go.RowKit
section
variable {P : Program} [Types P] {n : Nat} {Q : Exit → Act → World → Prop} {w0 : World} {L : Z135} {M R : List Ent} {x y : Operand} {t e : TypeId}
theorem AV.append {i : TI} {ob : Option Nat} {len cap m c s : Nat} {l r vs : List Value} {B : Option Addr} {t2 e2 : TypeId} (hx : ev L x = some (sl ob 0 len cap)) (hy : ev L y = some (.slice B m c)) (ht : tyU P t = some (.slice e)) (hi : ty P e = some i) (hs : i.sz = s) (ht2 : tyU P t2 = some (.slice e2))
    (hl : l.length = len * s) (hr : (l ++ r).length = cap * s) (hn : ob = none → cap = 0) (hR : Mem.Says w0 ((ob, blk (l ++ r) e) :: M) (fun w => Rd w B vs)) (hvl : vs.length = m * s) (hv1 : ∀ u ∈ vs, u.oneCell' = true) (hB : B = none → m = 0) (hspos : 0 < s)
    (h63 : len + m ≤ 9223372036854775807) (hb : (len + m) * i.bytes ≤ 140737488355328) (hz : i.z.cells.size = s) :
    AV P w0 L ((ob, blk (l ++ r) e) :: M) (.call ⟨.builtin .append, #[x, y], #[t, t2]⟩) (τ := Option Nat × List Value × Nat) (fun q => (l ++ vs ++ q.2.1).length = q.2.2 * s ∧ (q.1 = none → q.2.2 = 0)) (fun q => sl q.1 0 (len + m) q.2.2) (fun q => (q.1, blk (l ++ vs ++ q.2.1) e) :: M) := by
 intro ρ w hρ mm o ho
 obtain ⟨hu, ti, g1, g2, g3, g4⟩ := ty_ok hi
 have hrd := hR w mm
 have hsrc : Src P ti.size t2 (.slice B m c) m vs w := by rw [g2, hs]; exact rd_src ht2 hrd hvl hv1 hB
 have hrun : ∀ (v' : Value) (w' : World), (Builtin.append_ #[t, t2] o.type #[sl ob 0 len cap, .slice B m c]).run P w = .ok v' w' → (execOp ρ o).run P w = .ok (.value v') w' := fun v' w' hh => by
  simp [execOp, ho, resolve, hρ x _ hx, hρ y _ hy, invoke, builtin, hh]
 have hsz : ti.size = s := by rw [g2, hs]
 by_cases hroom : len + m ≤ cap
 ·-- it fits
  cases ob with
  | none =>
   have hc0 := hn rfl
   subst hc0
   have hm0 : m = 0 := by omega
   have hl0 : len = 0 := by omega
   subst hm0 hl0
   have hv0 : vs = [] := List.length_eq_zero_iff.1 (by simpa using hvl)
   subst hv0
   have e1 : l = [] := List.length_eq_zero_iff.1 (by simpa using hl)
   subst e1
   refine ⟨(none, r, 0), w, ⟨by simpa using hr, fun _ => rfl⟩, hrun _ _ ?_, ?_⟩
   ·exact run_append_nothing w t t2 o.type e ti (tyU_ok ht) g1 none 0 0 (Nat.le_refl _) _ hsrc
   ·exact mm.tail.nil_ent _
  | some b =>
   have hm := mm.ents _ (List.mem_cons_self ..) b rfl
   have hlen : l.length + vs.length ≤ (l ++ r).length := by rw [hl, hvl, hr, ← Nat.add_mul]; exact Nat.mul_le_mul_right _ hroom
   have hra := run_append_room_src (P := P) w t t2 o.type e ti (tyU_ok ht) g1 b 0 len cap (.slice B m c) m vs hsrc hroom (fun j hj => by
       rw [mm.cell (List.mem_cons_self ..), hsz]
       have : 0 + len * s + j < (l ++ r).length := by omega
       rw [List.getElem?_eq_getElem this]; rfl) (fun j hj => mm.notFrozen (List.mem_cons_self ..) _)
   rw [hsz] at hra
   have hset : w.setCells b (0 + len * s) vs = w.setRow b ((l ++ r).toArray.toList.take (0 + len * s) ++ vs ++ (l ++ r).toArray.toList.drop (0 + len * s + vs.length)).toArray := by
    have q1 := run_storeCells_at (P := P) b (0 + len * s) e vs 0 (l ++ r).toArray w hm.2 (by simp; simp at hlen; omega) hv1
    have q2 := run_storeCells_cells (P := P) b (0 + len * s) vs 0 w (fun j hj => by
     rw [mm.cell (List.mem_cons_self ..)]
     have : 0 + len * s + 0 + j < (l ++ r).length := by omega
     rw [List.getElem?_eq_getElem this]; rfl) (fun j hj => mm.notFrozen (List.mem_cons_self ..) _) hv1
    rw [q1] at q2
    simp only [Nat.add_zero] at q2
    injection q2 with _ q3
    exact q3.symm
   rw [hset] at hra
   refine ⟨(some b, r.drop vs.length, cap), _, ⟨?_, fun h => by cases h⟩, hrun _ _ (by simpa [sl] using hra), mm.turned (w' := w.setRow b _) rfl rfl rfl (by simp [World.setRow]) ?_ ?_⟩
   ·rw [← hr]; simp at hlen ⊢; omega
   ·intro b' hb'
    cases hb'
    rw [setRow_heap w b (l ++ r).toArray _ e (0, 0) hm.2]
    simp only [blk]
    simp [← hl, List.drop_append]
   ·intro kk hk
    exact setRow_other _ _ _ _ (fun e => hk (by rw [e]))
 ·-- it grows
  have hold : (Builtin.firstCells ti.size len (sl ob 0 len cap)).run P w.drew = .ok l.toArray w.drew := by
   cases ob with
   | none =>
    have hc0 := hn rfl
    have e0 : (l ++ r).length = 0 := by rw [hr, hc0]; simp
    have e1 : l = [] := by cases l with | nil => rfl | cons a b => simp at e0
    subst e1
    simp [sl, Builtin.firstCells]
   | some b =>
    have := run_firstCells_some (P := P) w.drew ti.size len ⟨b, 0, none⟩ len cap l (by rw [hsz]; exact hl) (fun j u hj => by
     rw [Z118, (mm.drew).cell (List.mem_cons_self ..)]
     have hj' : j < l.length := (List.getElem?_eq_some_iff.1 hj).1
     rw [Nat.zero_add, List.getElem?_append_left hj']; exact hj)
    exact this
  have hg := run_append_grow_src (P := P) w t t2 o.type e ti i.z (tyU_ok ht) g1 g4 (ob.map fun k => ⟨k, 0, none⟩) len cap l hold (.slice B m c) m vs hsrc (by omega) (by omega)
   (growslice_fits (by omega) (by rw [g3]; exact hb))
  refine ⟨(some w.heap.size, (Builtin.zeroCells i.z.cells (grownCap w (len + m) cap e - (len + m))).toList, grownCap w (len + m) cap e), _, ⟨?_, fun h => by cases h⟩, hrun _ _ (by simpa [sl] using hg), ?_⟩
  ·have hge := grownCap_ge w (len + m) cap e
   simp only [List.length_append, Array.length_toList, size_zeroCells, hz, hl, hvl]
   rw [← Nat.add_mul, ← Nat.add_mul]
   congr 1; omega
  ·have := mm.drew.tail.alloc (blk (l ++ vs ++ (Builtin.zeroCells i.z.cells (grownCap w (len + m) cap e - (len + m))).toList) e)
   have e3 : (.cells ((l ++ vs).toArray ++ Builtin.zeroCells i.z.cells (grownCap w (len + m) cap e - (len + m))) e : Obj) = blk (l ++ vs ++ (Builtin.zeroCells i.z.cells (grownCap w (len + m) cap e - (len + m))).toList) e := by
    unfold blk
    congr 1
    apply Array.ext'
    simp
   rw [e3]
   exact this
theorem AV.appendOwn {i : TI} {ob : Option Nat} {len cap m c s : Nat} {l r vs : List Value} {B : Option Addr} {t2 e2 : TypeId} (hx : ev L x = some (sl ob 0 len cap)) (hy : ev L y = some (.slice B m c)) (ht : tyU P t = some (.slice e)) (hi : ty P e = some i) (hs : i.sz = s) (ht2 : tyU P t2 = some (.slice e2))
    (hl : OwnS ob len cap s l r) (hR : Mem.Says w0 ((ob, blk (l ++ r) e) :: M) (fun w => Rd w B vs)) (hvl : vs.length = m * s) (hv1 : ∀ u ∈ vs, u.oneCell' = true) (hB : B = none → m = 0) (hspos : 0 < s)
    (hby : 0 < i.bytes) (hb : (len + m) * i.bytes ≤ 140737488355328) (hz : i.z.cells.size = s) (len' : Nat) (l' : List Value) (hlen : len + m = len') (hcs : l ++ vs = l') :
    AV P w0 L ((ob, blk (l ++ r) e) :: M) (.call ⟨.builtin .append, #[x, y], #[t, t2]⟩) (τ := Option Nat × List Value × Nat) (fun q => OwnS q.1 len' q.2.2 s l' q.2.1) (fun q => sl q.1 0 len' q.2.2) (fun q => (q.1, blk (l' ++ q.2.1) e) :: M) := by
 have hm : len + m ≤ (len + m) * i.bytes := Nat.le_mul_of_pos_right _ hby
 subst hlen hcs
 intro ρ w hρ mm o ho
 obtain ⟨q, w', h1, h2, h3⟩ := AV.append (P := P) hx hy ht hi hs ht2 hl.n hl.hr hl.hn hR hvl hv1 hB hspos (by omega) hb hz ρ w hρ mm o ho
 exact ⟨q, w', ⟨by rw [List.length_append, hl.n, hvl, Nat.add_mul], h1.1, h1.2, by omega⟩, h2, h3⟩
variable {ops : Array Oper} {hard : List Nat} {f : Nat} {done : Array Bool} {op : Op} {ty : TypeId} {pos : String} {aft : Array Edge} {d : Nat}
theorem XW.av (i : Nat) {τ : Type} {I : τ → Prop} {v : τ → Value} {M' : τ → List Ent} (ho : ops[i]? = some ⟨some d, op, ty, pos, aft, none⟩) (hr : (Region.ready .any ops done == [i] && hard.contains i) = true) (hop : AV P w0 L M op I v M') (hMR : ∀ x, I x → ∀ w, Mem w0 w (M' x) → Mem w0 w R) (hd : Nat.blt d n = true)
    (k : ∀ x, I x → XW P n ops Q w0 R hard f (done.setIfInBounds i true) ((d, v x) :: L) (M' x)) : XW P n ops Q w0 R hard (f + 1) done L M := by
 unfold XW at *
 intro hR hB inv a w fr mm
 simp only [Bool.and_eq_true, beq_iff_eq] at hr
 obtain ⟨hr, hi⟩ := hr
 have him : i < ops.size := (Array.getElem?_eq_some_iff.1 ho).1
 refine ⟨by rw [hr]; simp, fun j hj => ?_⟩
 rw [hr] at hj
 obtain rfl : j = i := by simpa using hj
 refine ⟨him, _, ho, .inl ⟨by simp [Region.wanted], ?_⟩⟩
 obtain ⟨x, w', hI, hrun, m'⟩ := hop a.eval w (fun x u hx => fr.eval hx) mm ⟨some d, op, ty, pos, aft, none⟩ rfl
 rw [hrun]
 refine ⟨?_, k x hI (hMR x hI) hB (inv.set (by rw [hr]; simp) him) _ _ (fr.put hd _) m'⟩
 unfold Rl
 rw [if_pos hi]
 exact fun _ => hMR x hI _ m'
theorem XW.appendOwn (i : Nat) {ti : TI} {ob : Option Nat} {len cap m c s : Nat} {l r vs : List Value} {B : Option Addr} {t2 e2 : TypeId} (ho : ops[i]? = some ⟨some d, .call ⟨.builtin .append, #[x, y], #[t, t2]⟩, ty, pos, aft, none⟩) (hr : (Region.ready .any ops done == [i] && hard.contains i) = true)
    (hx : ev L x = some (sl ob 0 len cap)) (hy : ev L y = some (.slice B m c)) (ht : tyU P t = some (.slice e)) (hi : Fw.ty P e = some ti) (hs : ti.sz = s) (ht2 : tyU P t2 = some (.slice e2))
    (hl : OwnS ob len cap s l r) (hR : Mem.Says w0 ((ob, blk (l ++ r) e) :: M) (fun w => Rd w B vs)) (hvl : vs.length = m * s) (hv1 : ∀ u ∈ vs, u.oneCell' = true) (hB : B = none → m = 0) (hspos : 0 < s)
    (hby : 0 < ti.bytes) (hb : (len + m) * ti.bytes ≤ 140737488355328) (hz : ti.z.cells.size = s) (len' : Nat) (l' : List Value) (hlen : len + m = len') (hcs : l ++ vs = l') (hMR : ∀ w, Mem w0 w M → Mem w0 w R) (hd : Nat.blt d n = true)
    (k : ∀ (ob' : Option Nat) (r' : List Value) (cap' : Nat), OwnS ob' len' cap' s l' r' → XW P n ops Q w0 R hard f (done.setIfInBounds i true) ((d, sl ob' 0 len' cap') :: L) ((ob', blk (l' ++ r') e) :: M)) : XW P n ops Q w0 R hard (f + 1) done L ((ob, blk (l ++ r) e) :: M) :=
 XW.av i ho hr (AV.appendOwn hx hy ht hi hs ht2 hl hR hvl hv1 hB hspos hby hb hz len' l' hlen hcs) (fun q _ w m => hMR w m.tail) hd (fun q hq => k q.1 q.2.1 q.2.2 hq)
end
end Go.Fw
namespace Go.Fw
open Go
theorem MRoom.view {Φ : Ctx} {A : Option Addr} {c : Nat} {x y : List (BitVec 8)} (h : View Φ A (x ++ y).length c 1 (u8s (x ++ y))) : View Φ A x.length c 1 (u8s x) := by
 have h1 := h.hi (k := x.length) (by rw [List.length_append]; omega)
 rwa [Nat.mul_one, show (u8s (x ++ y)).take x.length = u8s x by simp [u8s]] at h1
end Go.Fw
namespace Go.Fw
open Go Go.RowKit
theorem Z177 {L : Z135} {d k : Nat} {u : Value} (h : d ≠ k) : lk ((d, u) :: L) k = lk L k := by
 simp only [lk]
 split
 ·rename_i e; exact absurd (by simpa using e) h
 ·rfl
theorem nbeq {a b : Nat} (h : Nat.beq a b = false) : a ≠ b := fun e => by subst e; simp at h
theorem lk_swap {L : Z135} {d e q : Nat} {u v w : Value} (h : d ≠ e) (hq : lk ((e, u) :: (d, v) :: L) q = some w) : lk ((d, v) :: (e, u) :: L) q = some w := by
 by_cases h1 : e = q
 ·subst h1
  rw [Z177 h]
  simpa [lk] using hq
 ·rw [Z177 h1] at hq
  by_cases h2 : d = q
  ·subst h2; simpa [lk] using hq
  ·rw [Z177 h2] at hq ⊢
   rw [Z177 h1]; exact hq
theorem lk_mono {L : Z135} {d : Nat} {u : Value} (h : lk L d = none) : ∀ k v, lk L k = some v → lk ((d, u) :: L) k = some v := fun k v hk => by
 rw [Z177 (fun e => by subst e; rw [h] at hk; cases hk)]; exact hk
theorem ev_mono {L L' : Z135} (h : ∀ k v, lk L k = some v → lk L' k = some v) {x : Operand} {v : Value} (hx : ev L x = some v) : ev L' x = some v := by
 cases x with
 | tmp t => exact h t v hx
 | const c => exact hx
 | global g => exact hx
 | func f => exact hx
theorem evs_mono {L L' : Z135} (h : ∀ k v, lk L k = some v → lk L' k = some v) : ∀ (l : List Operand) (vs : List Value), evs L l = some vs → evs L' l = some vs
 | [], vs, e => e
 | x :: r, vs, e => by
  simp only [evs] at e ⊢
  split at e
  ·rename_i u hu
   rw [ev_mono h hu]
   split at e
   ·rename_i us hus
    rw [evs_mono h r us hus]
    exact e
   ·cases e
  ·cases e
theorem Mem.under {w0 : World} {M M' : List Ent} (hs : ∀ w, Mem w0 w M → Mem w0 w M') {b : Nat} {l : List Value} {t : TypeId} {w : World} (m : Mem w0 w ((some b, blk l t) :: M)) : Mem w0 w ((some b, blk l t) :: M') := by
 have m1 := hs w m.tail
 obtain ⟨hb, hw⟩ := m.ents _ (List.mem_cons_self ..) b rfl
 have hlt : b < w.heap.size := (Array.getElem?_eq_some_iff.1 hw).1
 refine ⟨m.os, m.tape, m.output, m.size, m.old, fun e he b' hb' => ?_, List.pairwise_cons.2 ⟨fun e he b' h1 h2 => ?_, m1.apart⟩⟩
 ·rcases List.mem_cons.1 he with rfl | he
  ·exact m.ents _ (List.mem_cons_self ..) b' hb'
  ·exact m1.ents e he b' hb'
 ·obtain rfl : b = b' := by simpa using h1
  have hne : ∀ x ∈ M, ∀ b', x.1 = some b' → b' ≠ b := fun x hx b' h3 e => (List.pairwise_cons.1 m.apart).1 x hx b rfl (by rw [h3, e])
  have m2 : Mem w0 { w with heap := w.heap.set b (blk (undef :: l) t) hlt } M := by
   refine ⟨m.os, m.tape, m.output, by simpa using m.size, fun b' h => ?_, fun x hx b' h3 => ?_, m.tail.apart⟩
   ·show (w.heap.set b _ hlt)[b']? = _
    rw [Array.getElem?_set_ne hlt (by omega)]
    exact m.old b' h
   ·obtain ⟨h4, h5⟩ := m.tail.ents x hx b' h3
    refine ⟨h4, ?_⟩
    show (w.heap.set b _ hlt)[b']? = _
    rw [Array.getElem?_set_ne hlt (fun e => hne x hx b' h3 e.symm)]
    exact h5
  have q1 := (m1.ents e he b h2).2
  have q2 := ((hs _ m2).ents e he b h2).2
  have q3 : (w.heap.set b (blk (undef :: l) t) hlt)[b]? = some (blk (undef :: l) t) := Array.getElem?_set_self hlt
  have q4 : some (blk (undef :: l) t) = some (blk l t) := (q3.symm.trans q2).trans (q1.symm.trans hw)
  simp [blk] at q4
section
variable {P : Program} {n : Nat} {Q : Exit → Act → World → Prop} {w0 : World} {L : Z135} {M R : List Ent}
variable {ops : Array Oper} {hard : List Nat} {f : Nat} {done : Array Bool} {op opp : Op} {ty typ : TypeId} {pos posp : String} {aft aftp : Array Edge} {g : Option (Nat × Bool)} {d dp p : Nat} {v : Value} {fv : Nat → Value} {l : List Value} {te : TypeId}
theorem XW.sub {L' : Z135} (hs : ∀ k v, lk L' k = some v → lk L k = some v) (k : XW P n ops Q w0 R hard f done L' M) : XW P n ops Q w0 R hard f done L M := by
 unfold XW at *
 exact fun hR hB inv a w fr mm => k hR hB inv a w (fr.sub hs) mm
def XWp (P : Program) (n : Nat) (ops : Array Oper) (Q : Exit → Act → World → Prop) (w0 : World) (R : List Ent) (hard : List Nat) (p dp : Nat) (fv : Nat → Value) (l : List Value) (te : TypeId) (f : Nat) (done : Array Bool) (L : Z135) (M : List Ent) : Prop :=
 (∃ op ty pos aft, ops[p]? = some ⟨some dp, op, ty, pos, aft, none⟩ ∧ NV P w0 [] [] op fv l te ∧ Nat.blt dp n = true) → lk L dp = none →
  XW P n ops Q w0 R hard (f + 1) done L M ∧ ∀ b, XW P n ops Q w0 R hard f (done.setIfInBounds p true) ((dp, fv b) :: L) ((some b, blk l te) :: M)
theorem NV.any (h : NV P w0 [] [] op fv l te) : NV P w0 L M op fv l te := fun ρ w hρ m o ho => h ρ w (fun x u hx => hρ x u (ev_mono (fun k v hk => by simp [lk] at hk) hx)) (m.sublist (List.nil_sublist _)) o ho
theorem XWp.fin (hr : (Region.ready .any ops done == [p]) = true) (k : ∀ b, XW P n ops Q w0 R hard f (done.setIfInBounds p true) ((dp, fv b) :: L) ((some b, blk l te) :: M)) : XWp P n ops Q w0 R hard p dp fv l te f done L M := fun ⟨_, _, _, _, ho, hop, hd⟩ hl =>
 ⟨XW.new p ho hr rfl hop.any hd k, k⟩
theorem XWp.slot (v' : Value) (hv : v = v') (k : XWp P n ops Q w0 R hard p dp fv l te f done ((d, v') :: L) M) : XWp P n ops Q w0 R hard p dp fv l te f done ((d, v) :: L) M := by subst hv; exact k
theorem XWp.mem {M' : List Ent} (hs : ∀ w, Mem w0 w M → Mem w0 w M') (hMR : ∀ w, Mem w0 w M' → Mem w0 w R) (k : XWp P n ops Q w0 R hard p dp fv l te f done L M') : XWp P n ops Q w0 R hard p dp fv l te f done L M := fun hp hl =>
 ⟨Z19 hs hMR (k hp hl).1, fun b => Z19 (fun w m => m.under hs) (fun w m => hMR w m.tail) ((k hp hl).2 b)⟩
theorem RV.more {L' : Z135} {M' : List Ent} (hL : ∀ k v, lk L k = some v → lk L' k = some v) (hM : ∀ w, Mem w0 w M' → Mem w0 w M) (h : RV P w0 L M op v) : RV P w0 L' M' op v := fun ρ w hρ m o ho => h ρ w (fun x u hx => hρ x u (ev_mono hL hx)) (hM w m) o ho
theorem XWp.rs (i : Nat) (ho : ops[i]? = some ⟨some d, op, ty, pos, aft, none⟩) (hr : (XR ops done i && XR ops (done.setIfInBounds p true) i && !Nat.beq d dp && !Nat.beq i p) = true) (hw : Wt ops L none = true) (hop : RV P w0 L R op v) (hd : Nat.blt d n = true) (k : XWp P n ops Q w0 R hard p dp fv l te f (done.setIfInBounds i true) ((d, v) :: L) M) : XWp P n ops Q w0 R hard p dp fv l te (f + 1) done L M := fun hp hl => by
 simp only [Bool.and_eq_true, Bool.not_eq_true'] at hr
 obtain ⟨⟨⟨h1, h2⟩, h3⟩, h4⟩ := hr
 have hl' : lk ((d, v) :: L) dp = none := by rw [Z177 (nbeq h3)]; exact hl
 obtain ⟨k1, k2⟩ := k hp hl'
 refine ⟨Z10 i ho h1 rfl hop hd k1, fun b => Z10 i ho h2 rfl (hop.more (lk_mono hl) fun _ m => m) hd ?_⟩
 rw [Array.setIfInBounds_comm _ _ (Ne.symm (nbeq h4))]
 refine XW.sub (fun q u hq => ?_) (k2 b)
 exact lk_swap (nbeq h3) hq
theorem XWp.rv (i : Nat) (ho : ops[i]? = some ⟨some d, op, ty, pos, aft, none⟩) (hr : (XR ops done i && XR ops (done.setIfInBounds p true) i && !Nat.beq d dp && !Nat.beq i p) = true) (hw : Wt ops L none = true) (hS : XS ops hard i = true) (hop : RV P w0 L M op v) (hd : Nat.blt d n = true) (k : XWp P n ops Q w0 R hard p dp fv l te f (done.setIfInBounds i true) ((d, v) :: L) M) : XWp P n ops Q w0 R hard p dp fv l te (f + 1) done L M := fun hp hl => by
 simp only [Bool.and_eq_true, Bool.not_eq_true'] at hr
 obtain ⟨⟨⟨h1, h2⟩, h3⟩, h4⟩ := hr
 have hl' : lk ((d, v) :: L) dp = none := by rw [Z177 (nbeq h3)]; exact hl
 obtain ⟨k1, k2⟩ := k hp hl'
 refine ⟨XW.rv i ho h1 rfl hS hop hd k1, fun b => XW.rv i ho h2 rfl hS (hop.more (lk_mono hl) fun _ m => m.tail) hd ?_⟩
 rw [Array.setIfInBounds_comm _ _ (Ne.symm (nbeq h4))]
 refine XW.sub (fun q u hq => ?_) (k2 b)
 exact lk_swap (nbeq h3) hq
theorem XWp.callG (i : Nat) {fn : FuncId} {xs : List Operand} {ats : Array TypeId} {args : List Value} {Rr : Value → List Ent → Prop} (ho : ops[i]? = some ⟨some d, .call ⟨.value (.func fn), xs.toArray, ats⟩, ty, pos, aft, none⟩) (hr : ((Region.ready .any ops done == [i, p] || Region.ready .any ops done == [p, i]) && Region.ready .any ops (done.setIfInBounds p true) == [i] && !Nat.beq d dp && !Nat.beq i p) = true) (hw : Wt ops L none = true)
    (hc : ∀ (args : Array Value) (w : World), (callFunc fn args).run P w = .ok (.enter fn args) w) (hxs : evs L xs = some args) (hdo : ∀ N, (∀ w, Mem w0 w N → Mem w0 w M) → DoesG P fn args w0 [] N Rr)
    (hd : Nat.blt d n = true) (k : ∀ v G, Rr v G → XWp P n ops Q w0 R hard p dp fv l te f (done.setIfInBounds i true) ((d, v) :: L) (G ++ M)) : XWp P n ops Q w0 R hard p dp fv l te (f + 1) done L M := fun hp hl => by
 simp only [Bool.and_eq_true, Bool.not_eq_true', Bool.or_eq_true, beq_iff_eq] at hr
 obtain ⟨⟨⟨h1, h2⟩, h3⟩, h4⟩ := hr
 have hl' : ∀ v, lk ((d, v) :: L) dp = none := fun v => by rw [Z177 (nbeq h3)]; exact hl
 have k2 : ∀ b, XW P n ops Q w0 R hard (f + 1) (done.setIfInBounds p true) ((dp, fv b) :: L) ((some b, blk l te) :: M) := fun b => by
  refine Z11 i ho (by simpa using h2) rfl hc (evs_mono (lk_mono hl) _ _ hxs) (fun N hN => hdo N fun w m => (hN w m).tail) hd (fun v G hv => ?_)
  rw [Array.setIfInBounds_comm _ _ (Ne.symm (nbeq h4))]
  have q := (k v G hv hp (hl' v)).2 b
  unfold XW at q ⊢
  intro hR hB inv a w fr mm
  have mp : ∀ w, Mem w0 w ((some b, blk l te) :: (G ++ M)) → Mem w0 w (G ++ (some b, blk l te) :: M) := fun w m => m.perm List.perm_middle.symm
  refine q (fun w m => hR w (mp w m)) hB inv a w (fr.sub fun q u hq => ?_) (mm.perm List.perm_middle)
  exact lk_swap (nbeq h3) hq
 refine ⟨?_, k2⟩
 have k1 := fun v G hv => (k v G hv hp (hl' v)).1
 obtain ⟨op, tyq, posq, aftq, hop, hnv, hdp⟩ := hp
 unfold XW at k1 k2 ⊢
 intro hR hB inv a w fr mm
 have hmem : ∀ j, j ∈ Region.ready .any ops done ↔ j = i ∨ j = p := fun j => by rcases h1 with h | h <;> simp [h, or_comm]
 have him : i < ops.size := (Array.getElem?_eq_some_iff.1 ho).1
 have hpm : p < ops.size := (Array.getElem?_eq_some_iff.1 hop).1
 refine ⟨by rcases h1 with h | h <;> simp [h], fun j hj => ?_⟩
 rcases (hmem j).1 hj with rfl | rfl
 ·refine ⟨him, _, ho, .inl ⟨wt_spec fr rfl, ?_⟩⟩
  have hev := evs_map (fun x u hx => fr.eval hx) xs args hxs
  have hrun : (execOp a.eval ⟨some d, .call ⟨.value (.func fn), xs.toArray, ats⟩, ty, pos, aft, none⟩).run P w = .ok (.enter fn args.toArray) w := by
   simp [execOp, resolve, Deferred.ofValue, Act.eval, invoke, hev, hc]
  rw [hrun]
  refine (hdo (allEnts w0 w) (fun w2 m2 => Z178 m2 _ mm) w mm.all).mono ?_
  rintro e w2 ⟨q, ⟨G, h1, h2⟩, rfl, m'⟩
  have m' : Mem w0 w2 (G ++ allEnts w0 w) := by have m2 := m'; rwa [show (fun q : Value × List Ent => q.2) q = G ++ allEnts w0 w from h2] at m2
  refine ⟨_, rfl, ?_, (k1 q.1 G h1) (fun w m => hR w m.appR) hB (inv.set hj him) _ _ (fr.put hd _) (m'.graft mm)⟩
  have hu := Z178 m'.appR
  unfold Rl
  split
  ·exact hu R
  ·exact hu
 ·refine ⟨hpm, _, hop, .inl ⟨wt_spec fr rfl, ?_⟩⟩
  rw [hnv.any (L := L) (M := M) a.eval w (fun x u hx => fr.eval hx) mm _ rfl]
  refine ⟨?_, k2 _ (fun w m => hR w m.tail) hB (inv.set hj hpm) _ _ (fr.put hdp _) (mm.alloc _)⟩
  unfold Rl
  split
  ·exact Upw.alloc _ _ _ R
  ·exact Upw.alloc _ _ _
theorem XWp.new (i : Nat) {l' : List Value} {te' : TypeId} {fv' : Nat → Value} (ho : ops[i]? = some ⟨some d, op, ty, pos, aft, none⟩) (hr : ((Region.ready .any ops done == [i, p] || Region.ready .any ops done == [p, i]) && Region.ready .any ops (done.setIfInBounds p true) == [i] && !Nat.beq d dp && !Nat.beq i p) = true) (hw : Wt ops L none = true)
    (hop : NV P w0 L M op fv' l' te') (hd : Nat.blt d n = true) (k : ∀ b, XWp P n ops Q w0 R hard p dp fv l te f (done.setIfInBounds i true) ((d, fv' b) :: L) ((some b, blk l' te') :: M)) : XWp P n ops Q w0 R hard p dp fv l te (f + 1) done L M := fun hp hl => by
 simp only [Bool.and_eq_true, Bool.not_eq_true', Bool.or_eq_true, beq_iff_eq] at hr
 obtain ⟨⟨⟨h1, h2⟩, h3⟩, h4⟩ := hr
 have hl' : ∀ v, lk ((d, v) :: L) dp = none := fun v => by rw [Z177 (nbeq h3)]; exact hl
 have k2 : ∀ b, XW P n ops Q w0 R hard (f + 1) (done.setIfInBounds p true) ((dp, fv b) :: L) ((some b, blk l te) :: M) := fun b => by
  refine XW.new i ho (by simpa using h2) rfl (fun ρ w hρ m o ho => hop ρ w (fun x u hx => hρ x u (ev_mono (lk_mono hl) hx)) m.tail o ho) hd (fun b' => ?_)
  rw [Array.setIfInBounds_comm _ _ (Ne.symm (nbeq h4))]
  have q := (k b' hp (hl' _)).2 b
  unfold XW at q ⊢
  intro hR hB inv a w fr mm
  have mp : ∀ w, Mem w0 w ((some b, blk l te) :: (some b', blk l' te') :: M) → Mem w0 w ((some b', blk l' te') :: (some b, blk l te) :: M) := fun w m => m.rot1
  refine q (fun w m => hR w (mp w m)) hB inv a w (fr.sub fun q u hq => ?_) (mm.rot1)
  exact lk_swap (nbeq h3) hq
 refine ⟨?_, k2⟩
 have k1 := fun b => (k b hp (hl' (fv' b))).1
 obtain ⟨op, tyq, posq, aftq, hop2, hnv, hdp⟩ := hp
 unfold XW at k1 k2 ⊢
 intro hR hB inv a w fr mm
 have hmem : ∀ j, j ∈ Region.ready .any ops done ↔ j = i ∨ j = p := fun j => by rcases h1 with h | h <;> simp [h, or_comm]
 have him : i < ops.size := (Array.getElem?_eq_some_iff.1 ho).1
 have hpm : p < ops.size := (Array.getElem?_eq_some_iff.1 hop2).1
 refine ⟨by rcases h1 with h | h <;> simp [h], fun j hj => ?_⟩
 rcases (hmem j).1 hj with rfl | rfl
 ·refine ⟨him, _, ho, .inl ⟨wt_spec fr rfl, ?_⟩⟩
  rw [hop a.eval w (fun x u hx => fr.eval hx) mm _ rfl]
  refine ⟨?_, k1 _ (fun w m => hR w m.tail) hB (inv.set hj him) _ _ (fr.put hd _) (mm.alloc _)⟩
  unfold Rl
  split
  ·exact Upw.alloc _ _ _ R
  ·exact Upw.alloc _ _ _
 ·refine ⟨hpm, _, hop2, .inl ⟨wt_spec fr rfl, ?_⟩⟩
  rw [hnv.any (L := L) (M := M) a.eval w (fun x u hx => fr.eval hx) mm _ rfl]
  refine ⟨?_, k2 _ (fun w m => hR w m.tail) hB (inv.set hj hpm) _ _ (fr.put hdp _) (mm.alloc _)⟩
  unfold Rl
  split
  ·exact Upw.alloc _ _ _ R
  ·exact Upw.alloc _ _ _
attribute [irreducible] XWp
theorem NV.alloc [Types P] {e : TypeId} {ti : TI} {l : List Value} (hi : Fw.ty P e = some ti) (hl : ti.z.cells = l.toArray) : NV P w0 L M (.alloc e) (fun b => ptr (some b) 0) l e := fun ρ w hρ m o ho => by
 obtain ⟨_, ti, h1, h2, h3, h4⟩ := ty_ok hi
 simp [execOp, ho, Instr.alloc, zeroValue, typeInfo, h1, h4, newVar, newRow, ptr, blk, hl]
end
end Go.Fw
namespace Go.Fw
mutual
def It.sz : It → Nat
 | .mk _ _ its => 1 + Its.sz its
def Its.sz : List It → Nat
 | [] => 0
 | x :: xs => It.sz x + Its.sz xs
end
structure Hd where
 list : Bool
 fr : Nat
 to : Nat
def HdRd (Φ : Ctx) (cs : List Value) (h : Hd) : Prop := cs = [.bool h.list, .int .i64 ((h.fr : Nat) : Int), .int .i64 ((h.to : Nat) : Int)] ∧ h.fr ≤ 9223372036854775807 ∧ h.to ≤ 9223372036854775807
theorem HdRd.opn {Φ : Ctx} {cs : List Value} {h : Hd} (r : HdRd Φ cs h) : cs = [.bool h.list, .int .i64 ((h.fr : Nat) : Int), .int .i64 ((h.to : Nat) : Int)] ∧ h.fr ≤ 9223372036854775807 ∧ h.to ≤ 9223372036854775807 := r
theorem HdRd.mk {Φ : Ctx} {l : Bool} {f t : Nat} (h1 : f ≤ 9223372036854775807) (h2 : t ≤ 9223372036854775807) : HdRd Φ [.bool l, .int .i64 ((f : Nat) : Int), .int .i64 ((t : Nat) : Int)] ⟨l, f, t⟩ := ⟨rfl, h1, h2⟩
theorem HdRd.mono {Φ Ψ : Ctx} (hh : ∀ w, Ψ w → Φ w) (cs : List Value) (h : Hd) : HdRd Φ cs h → HdRd Ψ cs h := fun r => r
end Go.Fw
namespace Go.Fw
open Go Go.RowKit
def room9 (x : List (BitVec 8)) : List (BitVec 8) := x ++ List.replicate 9 165#8
structure Room (Φ : Ctx) (A : Option Addr) (x : List (BitVec 8)) : Prop where
 full : View Φ A (x.length + 9) (x.length + 9) 1 (u8s (room9 x))
theorem Room.mono {Φ Ψ : Ctx} {A : Option Addr} {x : List (BitVec 8)} (h : Room Φ A x) (hh : ∀ w, Ψ w → Φ w) : Room Ψ A x := ⟨h.full.mono hh⟩
theorem Room.view {Φ : Ctx} {A : Option Addr} {x : List (BitVec 8)} (h : Room Φ A x) : View Φ A x.length (x.length + 9) 1 (u8s x) := by
 have h1 := h.full.hi (k := x.length) (by omega)
 rw [Nat.mul_one, show (u8s (room9 x)).take x.length = u8s x by simp [u8s, room9]] at h1
 exact h1
end Go.Fw
namespace Go.Fw
open Go Go.RowKit
def RmRd (Φ : Ctx) (cs : List Value) (x : List (BitVec 8)) : Prop := ∃ A, cs = [.slice A x.length (x.length + 9)] ∧ Room Φ A x
theorem RmRd.mono {Φ Ψ : Ctx} (hh : ∀ w, Ψ w → Φ w) (cs : List Value) (x : List (BitVec 8)) : RmRd Φ cs x → RmRd Ψ cs x := fun ⟨A, h1, h2⟩ => ⟨A, h1, h2.mono hh⟩
theorem RmRd.len {Φ : Ctx} (cs : List Value) (x : List (BitVec 8)) (h : RmRd Φ cs x) : cs.length = 1 := by obtain ⟨A, rfl, _⟩ := h; rfl
theorem RmRd.one {Φ : Ctx} (cs : List Value) (x : List (BitVec 8)) (h : RmRd Φ cs x) : ∀ u ∈ cs, u.oneCell' = true := by
 obtain ⟨A, rfl, _⟩ := h
 intro u hu; simp at hu; subst hu; rfl
theorem RmRd.mk {Φ : Ctx} {A : Option Addr} {x : List (BitVec 8)} (h : Room Φ A x) : RmRd Φ [.slice A x.length (x.length + 9)] x := ⟨A, rfl, h⟩
theorem RmRd.bs {Φ : Ctx} (cs : List Value) (x : List (BitVec 8)) (h : RmRd Φ cs x) : BsRd Φ cs x := by
 obtain ⟨A, h1, h2⟩ := h
 exact ⟨A, _, h1, h2.view⟩
end Go.Fw
namespace Go.Fw
end Go.Fw
namespace Go.Fw
open Go
def Rooms (Φ : Ctx) (A : Option Addr) (c : Nat) (x : List (List (BitVec 8))) : Prop := ∃ cs mk : List Value, View Φ A (x ++ ([([164#8] : List (BitVec 8))] : List (List (BitVec 8)))).length c 1 (cs ++ mk) ∧ Reps (RmRd Φ) cs x ∧ Reps (BsRd Φ) (cs ++ mk) (x ++ ([([164#8] : List (BitVec 8))] : List (List (BitVec 8))))
theorem Rooms.mono {Φ Ψ : Ctx} {A : Option Addr} {c : Nat} {x : List (List (BitVec 8))} (h : Rooms Φ A c x) (hh : ∀ w, Ψ w → Φ w) : Rooms Ψ A c x := by
 obtain ⟨cs, mk, v, r, rb⟩ := h
 exact ⟨cs, mk, v.mono hh, r.mono (RmRd.mono hh), rb.mono (BsRd.mono hh)⟩
theorem Rooms.mk {Φ : Ctx} {A : Option Addr} {c : Nat} {x : List (List (BitVec 8))} {cs mk : List Value} (v : View Φ A (x ++ ([([164#8] : List (BitVec 8))] : List (List (BitVec 8)))).length c 1 (cs ++ mk)) (r : Reps (RmRd Φ) cs x) (rb : Reps (BsRd Φ) (cs ++ mk) (x ++ ([([164#8] : List (BitVec 8))] : List (List (BitVec 8))))) : Rooms Φ A c x := ⟨cs, mk, v, r, rb⟩
def Ar8Rd {n : Nat} (Φ : Ctx) (cs : List Value) (v : Vector (BitVec 8) n) : Prop := cs = u8s v.toList
theorem Ar8Rd.mono {n : Nat} {Φ Ψ : Ctx} (hh : ∀ w, Ψ w → Φ w) (cs : List Value) (v : Vector (BitVec 8) n) (h : Ar8Rd Φ cs v) : Ar8Rd Ψ cs v := h
theorem Ar8Rd.len {n : Nat} {Φ : Ctx} (cs : List Value) (v : Vector (BitVec 8) n) (h : Ar8Rd Φ cs v) : cs.length = n := by rw [h, Z100, Zv]
theorem Ar8Rd.one {n : Nat} {Φ : Ctx} (cs : List Value) (v : Vector (BitVec 8) n) (h : Ar8Rd Φ cs v) : ∀ u ∈ cs, u.oneCell' = true := by rw [h]; exact Z119 _
theorem Ar8Rd.mk {n : Nat} {Φ : Ctx} {v : Vector (BitVec 8) n} : Ar8Rd Φ (u8s v.toList) v := rfl
end Go.Fw
namespace Go.Fw
open Go Go.RowKit
section
variable {P : Program} [Types P] {n : Nat} {Q : Exit → Act → World → Prop} {w0 : World} {L : Z135} {M : List Ent} {t e : TypeId} {x : Operand} {v : Value}
def Held (w0 : World) (Φ : Ctx) (b : Nat) (l : List Value) (te : TypeId) : Prop := ∀ w, Φ w → Mem w0 w [(some b, blk l te)]
theorem Held.mono {Φ Ψ : Ctx} {b : Nat} {l : List Value} {te : TypeId} (h : Held w0 Φ b l te) (hh : ∀ w, Ψ w → Φ w) : Held w0 Ψ b l te := fun w q => h w (hh w q)
theorem RV.loadH {Φ : Ctx} {b i : Nat} {l : List Value} {te : TypeId} {u : TypeDesc} (hx : ev L x = some (ptr (some b) i)) (he : Held w0 Φ b l te) (hM : ∀ w, Mem w0 w M → Φ w) (hu : tyU P t = some u) (hg : TypeDesc.agg u = false) (hv : l[i]? = some v) : RV P w0 L M (.load t x) v :=
 Z21 (a := ⟨b, i, none⟩) hx hu hg (fun w m => by show w.cell? ⟨b, i, none⟩ = some v; rw [(he w (hM w m)).cell (List.mem_cons_self ..)]; exact hv)
theorem RV.loadAH {Φ : Ctx} {b i s : Nat} {l vs : List Value} {te : TypeId} {u : TypeDesc} (hx : ev L x = some (ptr (some b) i)) (he : Held w0 Φ b l te) (hM : ∀ w, Mem w0 w M → Φ w) (hu : tyU P t = some u) (hg : TypeDesc.agg u = true) (hsz : tyS P t = some s)
    (hv : ∀ j u, vs[j]? = some u → l[i + j]? = some u) (hl : vs.length = s) : RV P w0 L M (.load t x) (.agg vs.toArray) :=
 RV.loadA_at (a := ⟨b, i, none⟩) hx hu hg (by rw [hl]; exact hsz) (fun w m j u hj => by rw [Z118, (he w (hM w m)).cell (List.mem_cons_self ..)]; exact hv j u hj)
theorem Held.part {Φ : Ctx} {b i : Nat} {l : List Value} {te : TypeId} {m : Nat} {a : Vector (BitVec 8) m} (h : Held w0 Φ b l te) (hp : ∀ (k : Nat) (u : Value), (u8s a.toList)[k]? = some u → l[i + k]? = some u) (hm : m ≤ 140737488355328) : View Φ (some ⟨b, i, none⟩) a.toList.length m 1 (u8s a.toList) :=
 ⟨fun w q => ⟨fun _ => rfl, fun j u hj => by
  show w.cell? ((⟨b, i, none⟩ : Addr).add j) = some u
  rw [Z118, (h w q).cell (List.mem_cons_self ..)]; exact hp j u hj⟩, fun _ => rfl, by rw [Z100]; omega, by rw [Zv]; exact Nat.le_refl _, by rw [Zv]; exact hm⟩
theorem View.part {Φ : Ctx} {A : Option Addr} {len c s off f : Nat} {cells cs : List Value} {m : Nat} {a : Vector (BitVec 8) m} (h : View Φ A len c s cells) (hc : ∀ j u, cs[j]? = some u → cells[off + j]? = some u) (hp : ∀ (k : Nat) (u : Value), (u8s a.toList)[k]? = some u → cs[f + k]? = some u) (hm : m ≤ 140737488355328) :
    View Φ (some (((A.getD default).add off).add f)) a.toList.length m 1 (u8s a.toList) :=
 ⟨fun w q => ⟨fun _ => rfl, fun j u hj => by
  show w.cell? ((((A.getD default).add off).add f).add j) = some u
  rw [Addr.add_add]; exact h.load q hc _ u (hp j u hj)⟩, fun _ => rfl, by rw [Z100]; omega, by rw [Zv]; exact Nat.le_refl _, by rw [Zv]; exact hm⟩
theorem View.load_fld {Φ : Ctx} {A : Option Addr} {len c s off f : Nat} {cells cs : List Value} (h : View Φ A len c s cells) {w : World} (q : Φ w) (hc : ∀ j u, cs[j]? = some u → cells[off + j]? = some u) (hp : cs[f]? = some v) :
    w.cell? (((A.getD default).add off).add f) = some v := h.load q hc f v hp
end
section
variable {P : Program} {n : Nat} {Q : Exit → Act → World → Prop} {w0 : World} {L : Z135} {M : List Ent}
end
def LsRd {T : Type} (s : Nat) (R : Ctx → List Value → T → Prop) (Φ : Ctx) (cs : List Value) (x : List T) : Prop := ∃ A c cs2, cs = [.slice A x.length c] ∧ View Φ A x.length c s cs2 ∧ Reps (R Φ) cs2 x
abbrev HsRd (Φ : Ctx) (cs : List Value) (x : List (Vector (BitVec 8) 32)) : Prop := LsRd 32 Ar8Rd Φ cs x
theorem HsRd.mono {Φ Ψ : Ctx} (hh : ∀ w, Ψ w → Φ w) (cs : List Value) (x : List (Vector (BitVec 8) 32)) : HsRd Φ cs x → HsRd Ψ cs x := fun ⟨A, c, cs2, h1, h2, h3⟩ => ⟨A, c, cs2, h1, h2.mono hh, h3.mono (Ar8Rd.mono hh)⟩
theorem HsRd.len {Φ : Ctx} (cs : List Value) (x : List (Vector (BitVec 8) 32)) (h : HsRd Φ cs x) : cs.length = 1 := by obtain ⟨A, c, cs2, rfl, _⟩ := h; rfl
theorem HsRd.one {Φ : Ctx} (cs : List Value) (x : List (Vector (BitVec 8) 32)) (h : HsRd Φ cs x) : ∀ u ∈ cs, u.oneCell' = true := by
 obtain ⟨A, c, cs2, rfl, _⟩ := h
 intro u hu; simp at hu; subst hu; rfl
theorem HsRd.mk {Φ : Ctx} {A : Option Addr} {c : Nat} {cs2 : List Value} {x : List (Vector (BitVec 8) 32)} (h1 : View Φ A x.length c 32 cs2) (h2 : Reps (Ar8Rd Φ) cs2 x) : HsRd Φ [.slice A x.length c] x := ⟨A, c, cs2, rfl, h1, h2⟩
end Go.Fw
namespace Go.Fw
open Go
structure Sponge where
 kind : Int
 lanes : Vector (BitVec 64) 25
 part : Vector (BitVec 8) 136
 held : Int
 long : Int
def Sponge.C (s : Sponge) : List Value := [.int .i64 s.kind] ++ (u64s s.lanes.toList ++ (u8s s.part.toList ++ ([.int .i64 s.held] ++ ([.int .i64 s.long]))))
theorem Sponge.C_length (s : Sponge) : s.C.length = 164 := by simp [Sponge.C, Z103, Z100]
theorem Sponge.C_one (s : Sponge) : ∀ u ∈ s.C, u.oneCell' = true := by
 intro u hu
 simp only [Sponge.C, List.mem_append, List.mem_singleton] at hu
 rcases hu with rfl | hu | hu | rfl | rfl
 ·rfl
 ·exact Z154 _ u hu
 ·exact Z119 _ u hu
 ·rfl
 ·rfl
theorem Sponge.C_kind (s : Sponge) : s.C[0]? = some (.int .i64 s.kind) := by
 rw [show 0 = 0 by rfl]; exact (Z126 rfl)
theorem Sponge.C_lanes (s : Sponge) {i : Nat} {x : BitVec 64} (h : s.lanes[i]? = some x) : s.C[1 + i]? = some (U64 x) := by
 rw [show 1 + i = 1 + (i) by omega]; exact (Z101 rfl (Z126 (u64s_at (vat h))))
theorem Sponge.C_lanes_all (s : Sponge) : ∀ (k : Nat) (u : Value), (u64s s.lanes.toList)[k]? = some u → s.C[1 + k]? = some u := by
 intro k u h; rw [show 1 + k = 1 + (k) by omega]; exact (Z101 rfl (Z126 h))
theorem Sponge.C_lanes_set (s : Sponge) {i : Nat} (hi : i < 25) (x : BitVec 64) : s.C.set (1 + i) (U64 x) = ({ s with lanes := s.lanes.setIfInBounds i x } : Sponge).C := by
 rw [show 1 + i = 1 + (i) by omega]; exact (Z107 rfl (here_set (by rw [Z103, Zv]; omega) (by rw [Z149, vset])))
theorem Sponge.C_lanes_spl (s : Sponge) (x : Vector (BitVec 64) 25) : spl s.C 1 (u64s x.toList) = ({ s with lanes := x } : Sponge).C := by
 rw [show 1 = 1 + (0) by rfl]; exact (Z104 rfl (here_spl (by simp [Z103])))
theorem Sponge.C_part (s : Sponge) {i : Nat} {x : BitVec 8} (h : s.part[i]? = some x) : s.C[26 + i]? = some (U8 x) := by
 rw [show 26 + i = 1 + (25 + (i)) by omega]; exact (Z101 rfl (Z101 ((Z103 _).trans Zv) (Z126 (u8s_at (vat h)))))
theorem Sponge.C_part_all (s : Sponge) : ∀ (k : Nat) (u : Value), (u8s s.part.toList)[k]? = some u → s.C[26 + k]? = some u := by
 intro k u h; rw [show 26 + k = 1 + (25 + (k)) by omega]; exact (Z101 rfl (Z101 ((Z103 _).trans Zv) (Z126 h)))
theorem Sponge.C_part_set (s : Sponge) {i : Nat} (hi : i < 136) (x : BitVec 8) : s.C.set (26 + i) (U8 x) = ({ s with part := s.part.setIfInBounds i x } : Sponge).C := by
 rw [show 26 + i = 1 + (25 + (i)) by omega]; exact (Z107 rfl (Z107 ((Z103 _).trans Zv) (here_set (by rw [Z100, Zv]; omega) (by rw [u8s_set', vset]))))
theorem Sponge.C_part_cpy (s : Sponge) {lo : Nat} {l : List (BitVec 8)} (h : lo + l.length ≤ 136) : spl s.C (26 + lo) (u8s l) = ({ s with part := cpV s.part lo l } : Sponge).C := by
 rw [show 26 + lo = 1 + (25 + (lo)) by omega]; exact (Z104 rfl (Z104 ((Z103 _).trans Zv) (at_spl (by rw [Z100, Z100, Zv]; exact h) (u8s_cpV _ h))))
theorem Sponge.C_held (s : Sponge) : s.C[162]? = some (.int .i64 s.held) := by
 rw [show 162 = 1 + (25 + (136 + (0))) by rfl]; exact (Z101 rfl (Z101 ((Z103 _).trans Zv) (Z101 ((Z100 _).trans Zv) (Z126 rfl))))
theorem Sponge.C_held_set (s : Sponge) (x : Int) : s.C.set 162 (.int .i64 x) = ({ s with held := x } : Sponge).C := by
 rw [show 162 = 1 + (25 + (136 + (0))) by rfl]; exact (Z107 rfl (Z107 ((Z103 _).trans Zv) (Z107 ((Z100 _).trans Zv) (here_set (by simp) rfl))))
theorem Sponge.C_long (s : Sponge) : s.C[163]? = some (.int .i64 s.long) := by
 rw [show 163 = 1 + (25 + (136 + (1 + (0)))) by rfl]; exact (Z101 rfl (Z101 ((Z103 _).trans Zv) (Z101 ((Z100 _).trans Zv) (Z101 rfl rfl))))
theorem Sponge.C_long_set (s : Sponge) (x : Int) : s.C.set 163 (.int .i64 x) = ({ s with long := x } : Sponge).C := by
 rw [show 163 = 1 + (25 + (136 + (1 + (0)))) by rfl]; exact (Z107 rfl (Z107 ((Z103 _).trans Zv) (Z107 ((Z100 _).trans Zv) (Z107 rfl rfl))))
end Go.Fw
namespace Go.Fw
open Go
def mkd (n : Nat) (m : BitVec 8) (x : List (BitVec 8)) (i : Nat) : List (BitVec 8) := x ++ (List.replicate (i - x.length) m ++ List.replicate (x.length + n - i) 0#8)
theorem mkd_length {n : Nat} {m : BitVec 8} {x : List (BitVec 8)} {i : Nat} (h1 : x.length ≤ i) (h2 : i ≤ x.length + n) : (mkd n m x i).length = x.length + n := by simp [mkd]; omega
theorem mkd_end (n : Nat) (m : BitVec 8) (x : List (BitVec 8)) : mkd n m x (x.length + n) = x ++ List.replicate n m := by simp [mkd]
theorem mkd_set {n : Nat} {m : BitVec 8} {x : List (BitVec 8)} {i : Nat} (h1 : x.length ≤ i) (h2 : i < x.length + n) : (mkd n m x i).set i m = mkd n m x (i + 1) := by
 unfold mkd
 rw [List.set_append_right _ _ h1, List.set_append_right _ _ (by simp), List.length_replicate]
 congr 1
 rw [show i - x.length - (i - x.length) = 0 by omega, show x.length + n - i = (x.length + n - (i + 1)) + 1 by omega, List.replicate_succ, List.set_cons_zero, show i + 1 - x.length = (i - x.length) + 1 by omega, List.replicate_succ' (n := i - x.length)]
 simp
theorem mkd_copy {n : Nat} {m : BitVec 8} {x : List (BitVec 8)} {k : Nat} (hk : k = x.length) : spl (List.replicate (x.length + n) (Value.int .u8 0)) 0 ((u8s x).take k) = u8s (mkd n m x x.length) := by
 subst hk
 have h1 : (u8s x).take x.length = u8s x := List.take_of_length_le (by rw [Z100]; omega)
 rw [h1, spl_front _ _ (by simp [u8s]), Z100]
 simp [mkd, u8s, U8]
end Go.Fw
namespace Go.Fw
open Go
def MkRd (m : List (BitVec 8)) (Φ : Ctx) (cs : List Value) (x : List (BitVec 8)) : Prop := ∃ A c, cs = [.slice A x.length c] ∧ View Φ A (x ++ m).length c 1 (u8s (x ++ m))
theorem MkRd.mono' {m : List (BitVec 8)} {Φ Ψ : Ctx} (hh : ∀ w, Ψ w → Φ w) (cs : List Value) (x : List (BitVec 8)) : MkRd m Φ cs x → MkRd m Ψ cs x := fun ⟨A, c, h1, h2⟩ => ⟨A, c, h1, h2.mono hh⟩
theorem MkRd.len' {m : List (BitVec 8)} {Φ : Ctx} (cs : List Value) (x : List (BitVec 8)) (h : MkRd m Φ cs x) : cs.length = 1 := by obtain ⟨A, c, rfl, _⟩ := h; rfl
theorem MkRd.bs' {m : List (BitVec 8)} {Φ : Ctx} (cs : List Value) (x : List (BitVec 8)) (h : MkRd m Φ cs x) : BsRd Φ cs x := by
 obtain ⟨A, c, h1, h2⟩ := h
 exact ⟨A, c, h1, MRoom.view h2⟩
abbrev MkRd02 : Ctx → List Value → List (BitVec 8) → Prop := MkRd (List.replicate 200 195#8)
theorem MkRd02.mono {Φ Ψ : Ctx} (hh : ∀ w, Ψ w → Φ w) (cs : List Value) (x : List (BitVec 8)) : MkRd02 Φ cs x → MkRd02 Ψ cs x := MkRd.mono' hh cs x
theorem MkRd02.len {Φ : Ctx} (cs : List Value) (x : List (BitVec 8)) (h : MkRd02 Φ cs x) : cs.length = 1 := MkRd.len' cs x h
abbrev MkRd03 : Ctx → List Value → List (BitVec 8) → Prop := MkRd (List.replicate 70 165#8)
theorem MkRd03.mono {Φ Ψ : Ctx} (hh : ∀ w, Ψ w → Φ w) (cs : List Value) (x : List (BitVec 8)) : MkRd03 Φ cs x → MkRd03 Ψ cs x := MkRd.mono' hh cs x
theorem MkRd03.len {Φ : Ctx} (cs : List Value) (x : List (BitVec 8)) (h : MkRd03 Φ cs x) : cs.length = 1 := MkRd.len' cs x h
def MRooms (m : List (BitVec 8)) (k : List (List (BitVec 8))) (Φ : Ctx) (A : Option Addr) (c : Nat) (x : List (List (BitVec 8))) : Prop :=
 ∃ cs mk : List Value, View Φ A (x ++ k).length c 1 (cs ++ mk) ∧ Reps (MkRd m Φ) cs x ∧ Reps (BsRd Φ) (cs ++ mk) (x ++ k)
theorem MRooms.mono {m : List (BitVec 8)} {k : List (List (BitVec 8))} {Φ Ψ : Ctx} {A : Option Addr} {c : Nat} {x : List (List (BitVec 8))} (h : MRooms m k Φ A c x) (hh : ∀ w, Ψ w → Φ w) : MRooms m k Ψ A c x := by
 obtain ⟨cs, mk, v, r, rb⟩ := h
 exact ⟨cs, mk, v.mono hh, r.mono (MkRd.mono' hh), rb.mono (BsRd.mono hh)⟩
structure Lt where
 b : Nat
 t : List (BitVec 8)
 c : Nat
 r : List Value
def Lt.ent (te : TypeId) (m : List (BitVec 8)) (x : Lt) : Ent := (some x.b, blk (u8s x.t ++ (u8s m ++ x.r)) te)
def Lt.cell (x : Lt) : Value := .slice (some ⟨x.b, 0, none⟩) x.t.length x.c
structure Lt.Ok (m : List (BitVec 8)) (x : Lt) : Prop where
 own : OwnS (some x.b) x.t.length x.c 1 (u8s x.t) (u8s m ++ x.r)
 mx : x.t.length + m.length ≤ 140737488355328
def lents (te : TypeId) (m : List (BitVec 8)) (l : List Lt) : List Ent := l.map (Lt.ent te m)
theorem Reps.bs {m : List (BitVec 8)} {Φ : Ctx} {cs : List Value} {xs : List (List (BitVec 8))} (h : Reps (MkRd m Φ) cs xs) : Reps (BsRd Φ) cs xs := h.mono MkRd.bs'
def lx (te2 te : TypeId) (m : List (BitVec 8)) (b0 : Nat) (r : List Value) (mks ls : List Lt) : List Ent := (some b0, blk (ls.map Lt.cell ++ (mks.map Lt.cell ++ r)) te2) :: (lents te [] mks ++ lents te m ls)
end Go.Fw
namespace Go.Fw
open Go
section
variable {w0 w : World} {A N : List Ent} {e0 e1 e2 e3 : Ent}
theorem Mem.sk0 (m : Mem w0 w (A ++ (e1 :: N))) : Mem w0 w (e1 :: (A ++ N)) := m.perm List.perm_middle
theorem Mem.sk1 (m : Mem w0 w (e0 :: (A ++ (e1 :: N)))) : Mem w0 w (e0 :: e1 :: (A ++ N)) := m.perm (List.Perm.cons _ List.perm_middle)
end
section
variable {P : Program} {n : Nat} {Q : Exit → Act → World → Prop} {w0 : World} {L : Z135} {M E N : List Ent} {f : FuncId} {args : List Value} {R R' : Value → List Ent → Prop}
end
end Go.Fw
namespace Go.Fw
def u256_From (a0 : BitVec 64) : Option ((Vector (BitVec 64) 4)) := (some ((Vector.replicate 4 0#64).setIfInBounds 0 a0))
def waybillref01_From (a0 : BitVec 64) : Option ((Vector (BitVec 64) 4)) := (some (((((Vector.replicate 4 0#64).setIfInBounds 0 a0).setIfInBounds 1 (0#64)).setIfInBounds 2 (0#64)).setIfInBounds 3 (0#64)))
def rlp_clone (a0 : List (BitVec 8)) : Option ((List (BitVec 8))) := (some a0)
def waybillref07_bytes (a0 : List (BitVec 8)) : Option ((List (BitVec 8))) := (some a0)
def rlp_Text (a0 : List (BitVec 8)) : Option ((It)) := ((rlp_clone a0).bind fun x4 => (some (It.mk false x4 ([] : List (It)))))
def waybillref07_Text (a0 : List (BitVec 8)) : Option ((It)) := ((waybillref07_bytes a0).bind fun x4 => (some (It.mk false x4 ([] : List (It)))))
def rlp_odd (a0 : It) : Option ((Bool)) := (((if a0.list = true then (if 0 < a0.data.length then (some (true)) else (if a0.list = true then (some (false)) else (some ((decide (0 < a0.items.length)))))) else (if a0.list = true then (some (false)) else (some ((decide (0 < a0.items.length)))))) : Option ((Bool))).bind fun p16 => (some (p16)))
def waybillref07_odd (a0 : It) : Option ((Bool)) := (if a0.list = true then (some (decide (0 < a0.data.length))) else (some (decide (0 < a0.items.length))))
def math_bits_Len64 (a0 : BitVec 64) : Option ((Nat)) := (((if 4294967296 ≤ a0.toNat then (some (((a0 >>> 32), 32))) else (some ((a0, 0)))) : Option ((BitVec 64) × (Nat))).bind fun (w3, n4) => (((if 65536 ≤ w3.toNat then (if (n4 + 16) ≤ 9223372036854775807 then (some (((w3 >>> 16), (n4 + 16)))) else none) else (some ((w3, n4)))) : Option ((BitVec 64) × (Nat))).bind fun (w13, n14) => (((if 256 ≤ w13.toNat then (if (n14 + 8) ≤ 9223372036854775807 then (some (((w13 >>> 8), (n14 + 8)))) else none) else (some ((w13, n14)))) : Option ((BitVec 64) × (Nat))).bind fun (w23, n24) => (if (n24 + (BitVec.ofNat 8 (lenB (w23.setWidth 8))).toNat) ≤ 9223372036854775807 then (some (n24 + (BitVec.ofNat 8 (lenB (w23.setWidth 8))).toNat)) else none))))
def u256_Len.l1 (a0 : Vector (BitVec 64) 4) : Nat → (Int) → Option (Lp ((Int)) (Unit))
 | 0, _ => none
 | k11 + 1, z9 => (if (0 : Int) ≤ z9 then (if (z9).toNat < 4 then (a0[(z9).toNat]?).bind fun x20 => (if x20 = 0#64 then (if -9223372036854775808 ≤ (z9 - (1 : Int)) ∧ (z9 - (1 : Int)) ≤ 9223372036854775807 then (u256_Len.l1 a0 k11 (z9 - (1 : Int))) else none) else (if -9223372036854775808 ≤ ((64 : Int) * z9) ∧ ((64 : Int) * z9) ≤ 9223372036854775807 then (a0[(z9).toNat]?).bind fun x25 => ((math_bits_Len64 x25).bind fun x28 => (if -9223372036854775808 ≤ (((64 : Int) * z9) + ((x28 : Nat) : Int)) ∧ (((64 : Int) * z9) + ((x28 : Nat) : Int)) ≤ 9223372036854775807 then (some (Lp.ret (some (((64 : Int) * z9) + ((x28 : Nat) : Int))))) else none)) else none)) else none) else (some (Lp.go ())))
def u256_Len (a0 : Vector (BitVec 64) 4) : Option ((Int)) := (((u256_Len.l1 a0 5 (3 : Int)) : Option (Lp ((Int)) (Unit))).bind fun | .ret o => o | .go () => (some (0 : Int)))
def u256_Put.l1 (a0 : Vector (BitVec 64) 4) : Nat → (Nat) → (Vector (BitVec 8) 32) → Option ((Vector (BitVec 8) 32))
 | 0, _, _ => none
 | k15 + 1, n12, w14 => (if n12 < 32 then (if n12 ≤ 31 then (if (n12 / 8) < 4 then (a0[(n12 / 8)]?).bind fun x25 => (if (31 - n12) < 32 then (u256_Put.l1 a0 k15 (n12 + 1) (w14.setIfInBounds (31 - n12) ((x25 >>> (8 * (n12 % 8))).setWidth 8))) else none) else none) else none) else (some (w14)))
def u256_Put (a0 : Vector (BitVec 64) 4) : Option ((Vector (BitVec 8) 32)) := (((u256_Put.l1 a0 (32 - 0 + 2) 0 (Vector.replicate 32 0#8)) : Option ((Vector (BitVec 8) 32))).bind fun w6 => (some w6))
def waybillref01_Put.l1 (a0 : Vector (BitVec 64) 4) : Nat → (Nat) → (Vector (BitVec 8) 32) → Option ((Vector (BitVec 8) 32))
 | 0, _, _ => none
 | k15 + 1, n12, w14 => (if n12 < 32 then (if n12 ≤ 31 then (if (n12 / 8) < 4 then (a0[(n12 / 8)]?).bind fun x25 => (if (31 - n12) < 32 then (waybillref01_Put.l1 a0 k15 (n12 + 1) (w14.setIfInBounds (31 - n12) ((x25 >>> (BitVec.ofNat 64 (8 * (n12 % 8))).toNat).setWidth 8))) else none) else none) else none) else (some (w14)))
def waybillref01_Put (a0 : Vector (BitVec 64) 4) : Option ((Vector (BitVec 8) 32)) := (((waybillref01_Put.l1 a0 (32 - 0 + 2) 0 (Vector.replicate 32 0#8)) : Option ((Vector (BitVec 8) 32))).bind fun w6 => (some w6))
def u256_Bytes (a0 : Vector (BitVec 64) 4) : Option ((List (BitVec 8))) := ((u256_Put a0).bind fun x3 => ((u256_Len a0).bind fun x8 => (if -9223372036854775808 ≤ (x8 + (7 : Int)) ∧ (x8 + (7 : Int)) ≤ 9223372036854775807 then (if 0 ≤ (x8 + (7 : Int)) then (if 0 ≤ ((32 : Int) - ((((x8 + (7 : Int))).toNat / 8 : Nat) : Int)) then (if (((32 : Int) - ((((x8 + (7 : Int))).toNat / 8 : Nat) : Int))).toNat ≤ 32 then (some (x3.toList.drop ((((32 : Int) - ((((x8 + (7 : Int))).toNat / 8 : Nat) : Int))).toNat))) else none) else none) else none) else none)))
def waybillref01_Bytes.l1 (x3 : Vector (BitVec 8) 32) : Nat → (List (BitVec 8)) → (Nat) → Option ((List (BitVec 8)))
 | 0, _, _ => none
 | k27 + 1, l20, n25 => (if n25 < 32 then (if 0 < l20.length then (((x3[n25]?).bind fun x50 => (if l20.length + ([x50] : List (BitVec 8)).length ≤ 140737488355328 then (some ((l20 ++ ([x50] : List (BitVec 8))))) else none) : Option ((List (BitVec 8)))).bind fun l39 => (waybillref01_Bytes.l1 x3 k27 l39 (n25 + 1))) else (x3[n25]?).bind fun x60 => (((if x60 = 0#8 then (some (l20)) else (x3[n25]?).bind fun x76 => (if l20.length + ([x76] : List (BitVec 8)).length ≤ 140737488355328 then (some ((l20 ++ ([x76] : List (BitVec 8))))) else none)) : Option ((List (BitVec 8)))).bind fun l64 => (waybillref01_Bytes.l1 x3 k27 l64 (n25 + 1)))) else (some (l20)))
def waybillref01_Bytes (a0 : Vector (BitVec 64) 4) : Option ((List (BitVec 8))) := ((waybillref01_Put a0).bind fun x3 => (((waybillref01_Bytes.l1 x3 40 ([] : List (BitVec 8)) 0) : Option ((List (BitVec 8)))).bind fun l9 => (some l9)))
end Go.Fw
namespace Go.Fw
def rlp_head (a0 : BitVec 8) (a1 : Nat) : Option ((List (BitVec 8))) := (if a1 ≤ 55 then (some ([(a0 + (BitVec.ofNat 8 a1))] : List (BitVec 8))) else ((u256_From (BitVec.ofNat 64 a1)).bind fun x5 => ((u256_Bytes x5).bind fun x9 => (if ([((a0 + 55#8) + (BitVec.ofNat 8 x9.length))] : List (BitVec 8)).length + x9.length ≤ 140737488355328 then (some (([((a0 + 55#8) + (BitVec.ofNat 8 x9.length))] : List (BitVec 8)) ++ x9)) else none))))
def waybillref07_before (a0 : Nat) (a1 : Nat) : Option ((List (BitVec 8))) := (if a0 ≤ 55 then (if (a1 + a0) ≤ 9223372036854775807 then (some ([(BitVec.ofNat 8 (a1 + a0))] : List (BitVec 8))) else none) else ((waybillref01_From (BitVec.ofNat 64 a0)).bind fun x6 => ((waybillref01_Bytes x6).bind fun x10 => (if (a1 + 55) ≤ 9223372036854775807 then (if ((a1 + 55) + x10.length) ≤ 9223372036854775807 then (if ([(BitVec.ofNat 8 ((a1 + 55) + x10.length))] : List (BitVec 8)).length + x10.length ≤ 140737488355328 then (some (([(BitVec.ofNat 8 ((a1 + 55) + x10.length))] : List (BitVec 8)) ++ x10)) else none) else none) else none))))
def waybillref07_Same.l1 (a0 : It) (a1 : It) (rc : (It) → (It) → Option ((Bool))) : Nat → (Nat) → Option (Lp ((Bool)) (Unit))
 | 0, _ => none
 | k52 + 1, n50 => (if n50 < a0.items.length then (a0.items[n50]?).bind fun x60 => (a1.items[n50]?).bind fun x78 => ((rc x60 x78).bind fun x97 => (if x97 = true then (waybillref07_Same.l1 a0 a1 rc k52 (n50 + 1)) else (some (Lp.ret (some false))))) else (some (Lp.go ())))
def waybillref07_Same.l2 (a0 : It) (a1 : It) : Nat → (Nat) → Option (Lp ((Bool)) (Unit))
 | 0, _ => none
 | k103 + 1, n101 => (if n101 < a0.data.length then (a0.data[n101]?).bind fun x111 => (a1.data[n101]?).bind fun x114 => (if x111 = x114 then (waybillref07_Same.l2 a0 a1 k103 (n101 + 1)) else (some (Lp.ret (some false)))) else (some (Lp.go ())))
def waybillref07_Same.r : Nat → (It) → (It) → Option ((Bool))
 | 0, _, _ => none
 | kf + 1, a0, a1 => (((if (a0.list) = (a1.list) then (if a0.data.length = a1.data.length then (some ((!decide (a0.items.length = a1.items.length)))) else (some (true))) else (some (true))) : Option ((Bool))).bind fun p29 => (if p29 = true then (some false) else (((waybillref07_Same.l2 a0 a1 (a0.data.length - 0 + 2) 0) : Option (Lp ((Bool)) (Unit))).bind fun | .ret o => o | .go () => (((waybillref07_Same.l1 a0 a1 (waybillref07_Same.r kf) (a0.items.length - 0 + 2) 0) : Option (Lp ((Bool)) (Unit))).bind fun | .ret o => o | .go () => (some true)))))
def waybillref07_Same (a0 : It) (a1 : It) : Option ((Bool)) := waybillref07_Same.r (It.sz a0 + 1) a0 a1
def rlp_twin.l1 (a0 : List (It)) (rc : (List (It)) → Option ((List (It)))) : Nat → (List (It)) → (Nat) → Option ((List (It)))
 | 0, _, _ => none
 | k30 + 1, l21, n28 => (if n28 < a0.length then (a0[n28]?).bind fun x39 => ((rlp_clone x39.data).bind fun x59 => ((rc x39.items).bind fun x71 => (if (l21.length + ([(It.mk (x39.list) x59 x71)] : List (It)).length) * 56 ≤ 140737488355328 then (rlp_twin.l1 a0 rc k30 (l21 ++ ([(It.mk (x39.list) x59 x71)] : List (It))) (n28 + 1)) else none))) else (some (l21)))
def rlp_twin.r : Nat → (List (It)) → Option ((List (It)))
 | 0, _ => none
 | kf + 1, a0 => (((rlp_twin.l1 a0 (rlp_twin.r kf) (a0.length - 0 + 2) ([] : List (It)) 0) : Option ((List (It)))).bind fun l6 => (some l6))
def rlp_twin (a0 : List (It)) : Option ((List (It))) := rlp_twin.r (Its.sz a0 + 1) a0
def rlp_size.l1 (a0 : It) (rc : (It) → Option ((Nat))) : Nat → (Nat) → (Nat) → Option ((Nat))
 | 0, _, _ => none
 | k41 + 1, n37, n39 => (if n39 < a0.items.length then (a0.items[n39]?).bind fun x49 => ((rc x49).bind fun x69 => (if (n37 + x69) ≤ 9223372036854775807 then (rlp_size.l1 a0 rc k41 (n37 + x69) (n39 + 1)) else none)) else (some (n37)))
def rlp_size.r : Nat → (It) → Option ((Nat))
 | 0, _ => none
 | kf + 1, a0 => (if a0.list = true then (((rlp_size.l1 a0 (rlp_size.r kf) (a0.items.length - 0 + 2) 0 0) : Option ((Nat))).bind fun n17 => ((rlp_head (192#8) n17).bind fun x25 => (if (x25.length + n17) ≤ 9223372036854775807 then (some (x25.length + n17)) else none))) else (((if a0.data.length = 1 then (a0.data[0]?).bind fun x96 => (some ((decide (x96.toNat < 128)))) else (some (false))) : Option ((Bool))).bind fun p76 => (if p76 = true then (some 1) else ((rlp_head (128#8) a0.data.length).bind fun x84 => (some (x84.length + a0.data.length))))))
def rlp_size (a0 : It) : Option ((Nat)) := rlp_size.r (It.sz a0 + 1) a0
def waybillref07_size.l1 (a0 : It) (rc : (It) → Option ((Nat))) : Nat → (Nat) → (Nat) → Option ((Nat))
 | 0, _, _ => none
 | k49 + 1, n45, n47 => (if n47 < a0.items.length then (a0.items[n47]?).bind fun x57 => ((rc x57).bind fun x76 => (if (n45 + x76) ≤ 9223372036854775807 then (waybillref07_size.l1 a0 rc k49 (n45 + x76) (n47 + 1)) else none)) else (some (n45)))
def waybillref07_size.r : Nat → (It) → Option ((Nat))
 | 0, _ => none
 | kf + 1, a0 => (((if a0.list = true then (some (false)) else (if a0.data.length = 1 then (a0.data[0]?).bind fun x83 => (some ((decide (x83.toNat < 128)))) else (some (false)))) : Option ((Bool))).bind fun p16 => (if p16 = true then (some 1) else (((waybillref07_size.l1 a0 (waybillref07_size.r kf) (a0.items.length - 0 + 2) a0.data.length 0) : Option ((Nat))).bind fun n25 => ((waybillref07_before n25 128).bind fun x33 => (if (x33.length + n25) ≤ 9223372036854775807 then (some (x33.length + n25)) else none)))))
def waybillref07_size (a0 : It) : Option ((Nat)) := waybillref07_size.r (It.sz a0 + 1) a0
def rlp_sound.l1 (a0 : It) (rc : (It) → Option ((Nat) × (Bool))) : Nat → (Nat) → (Nat) → Option (Lp ((Nat) × (Bool)) ((Nat)))
 | 0, _, _ => none
 | k34 + 1, n30, n32 => (if n32 < a0.items.length then (a0.items[n32]?).bind fun x42 => ((rc x42).bind fun (x62, x63) => (if x63 = true then (rlp_sound.l1 a0 rc k34 (max n30 x62) (n32 + 1)) else (some (Lp.ret (some (0, false)))))) else (some (Lp.go n30)))
def rlp_sound.r : Nat → (It) → Option ((Nat) × (Bool))
 | 0, _ => none
 | kf + 1, a0 => ((rlp_odd a0).bind fun x15 => (if x15 = true then (some (0, false)) else (if a0.list = true then (((rlp_sound.l1 a0 (rlp_sound.r kf) (a0.items.length - 0 + 2) 0 0) : Option (Lp ((Nat) × (Bool)) ((Nat)))).bind fun | .ret o => o | .go n22 => (if (n22 + 1) ≤ 9223372036854775807 then (some ((n22 + 1), true)) else none)) else (some (0, true)))))
def rlp_sound (a0 : It) : Option ((Nat) × (Bool)) := rlp_sound.r (It.sz a0 + 1) a0
def waybillref07_oddly.l1 (a0 : It) (rc : (It) → Option ((Bool))) : Nat → (Nat) → Option (Lp ((Bool)) (Unit))
 | 0, _ => none
 | k28 + 1, n26 => (if n26 < a0.items.length then (a0.items[n26]?).bind fun x36 => ((rc x36).bind fun x55 => (if x55 = true then (some (Lp.ret (some true))) else (waybillref07_oddly.l1 a0 rc k28 (n26 + 1)))) else (some (Lp.go ())))
def waybillref07_oddly.r : Nat → (It) → Option ((Bool))
 | 0, _ => none
 | kf + 1, a0 => ((waybillref07_odd a0).bind fun x15 => (if x15 = true then (some true) else (((waybillref07_oddly.l1 a0 (waybillref07_oddly.r kf) (a0.items.length - 0 + 2) 0) : Option (Lp ((Bool)) (Unit))).bind fun | .ret o => o | .go () => (some false))))
def waybillref07_oddly (a0 : It) : Option ((Bool)) := waybillref07_oddly.r (It.sz a0 + 1) a0
def waybillref07_depth.l1 (a0 : It) (rc : (It) → Option ((Nat))) : Nat → (Nat) → (Nat) → Option ((Nat))
 | 0, _, _ => none
 | k29 + 1, n25, n27 => (if n27 < a0.items.length then (a0.items[n27]?).bind fun x37 => ((rc x37).bind fun x56 => (waybillref07_depth.l1 a0 rc k29 (max n25 x56) (n27 + 1))) else (some (n25)))
def waybillref07_depth.r : Nat → (It) → Option ((Nat))
 | 0, _ => none
 | kf + 1, a0 => (if a0.list = true then (((waybillref07_depth.l1 a0 (waybillref07_depth.r kf) (a0.items.length - 0 + 2) 0 0) : Option ((Nat))).bind fun n17 => (if (1 + n17) ≤ 9223372036854775807 then (some (1 + n17)) else none)) else (some 0))
def waybillref07_depth (a0 : It) : Option ((Nat)) := waybillref07_depth.r (It.sz a0 + 1) a0
def rlp_lay.l1 (a1 : It) (rc : (List (BitVec 8)) → (It) → Option ((List (BitVec 8)))) : Nat → (List (BitVec 8)) → (Nat) → Option ((List (BitVec 8)))
 | 0, _, _ => none
 | k65 + 1, l58, n63 => (if n63 < a1.items.length then (a1.items[n63]?).bind fun x75 => ((rc l58 x75).bind fun x95 => (rlp_lay.l1 a1 rc k65 x95 (n63 + 1))) else (some (l58)))
def rlp_lay.r : Nat → (List (BitVec 8)) → (It) → Option ((List (BitVec 8)))
 | 0, _, _ => none
 | kf + 1, a0, a1 => (if a1.list = true then (((rlp_lay.l1 a1 (rlp_lay.r kf) (a1.items.length - 0 + 2) ([] : List (BitVec 8)) 0) : Option ((List (BitVec 8)))).bind fun l20 => ((rlp_head (192#8) l20.length).bind fun x33 => (if a0.length + x33.length ≤ 140737488355328 then (if (a0 ++ x33).length + l20.length ≤ 140737488355328 then (some ((a0 ++ x33) ++ l20)) else none) else none))) else (((if a1.data.length = 1 then (a1.data[0]?).bind fun x156 => (some ((decide (128 ≤ x156.toNat)))) else (some (true))) : Option ((Bool))).bind fun p108 => (((if p108 = true then ((rlp_head (128#8) a1.data.length).bind fun x138 => (if a0.length + x138.length ≤ 140737488355328 then (some ((a0 ++ x138))) else none)) else (some (a0))) : Option ((List (BitVec 8)))).bind fun l119 => (if l119.length + a1.data.length ≤ 140737488355328 then (some (l119 ++ a1.data)) else none))))
def rlp_lay (a0 : List (BitVec 8)) (a1 : It) : Option ((List (BitVec 8))) := rlp_lay.r (It.sz a1 + 1) a0 a1
def waybillref07_put.l1 (a1 : It) (rc : (List (BitVec 8)) → (It) → Option ((List (BitVec 8)))) : Nat → (List (BitVec 8)) → (Nat) → Option ((List (BitVec 8)))
 | 0, _, _ => none
 | k68 + 1, l61, n66 => (if n66 < a1.items.length then (a1.items[n66]?).bind fun x77 => ((rc l61 x77).bind fun x96 => (waybillref07_put.l1 a1 rc k68 x96 (n66 + 1))) else (some (l61)))
def waybillref07_put.l2 (a1 : It) : Nat → (Nat) → (Nat) → Option ((Nat))
 | 0, _, _ => none
 | k111 + 1, n107, n109 => (if n109 < a1.items.length then (a1.items[n109]?).bind fun x120 => ((waybillref07_size x120).bind fun x139 => (if (n107 + x139) ≤ 9223372036854775807 then (waybillref07_put.l2 a1 k111 (n107 + x139) (n109 + 1)) else none)) else (some (n107)))
def waybillref07_put.r : Nat → (List (BitVec 8)) → (It) → Option ((List (BitVec 8)))
 | 0, _, _ => none
 | kf + 1, a0, a1 => (if a1.list = true then (((waybillref07_put.l2 a1 (a1.items.length - 0 + 2) 0 0) : Option ((Nat))).bind fun n18 => ((waybillref07_before n18 192).bind fun x27 => (if a0.length + x27.length ≤ 140737488355328 then (((waybillref07_put.l1 a1 (waybillref07_put.r kf) (a1.items.length - 0 + 2) (a0 ++ x27) 0) : Option ((List (BitVec 8)))).bind fun l48 => (some l48)) else none))) else (((if a1.data.length = 1 then (a1.data[0]?).bind fun x194 => (some ((decide (128 ≤ x194.toNat)))) else (some (true))) : Option ((Bool))).bind fun p146 => (((if p146 = true then ((waybillref07_before a1.data.length 128).bind fun x176 => (if a0.length + x176.length ≤ 140737488355328 then (some ((a0 ++ x176))) else none)) else (some (a0))) : Option ((List (BitVec 8)))).bind fun l157 => (if l157.length + a1.data.length ≤ 140737488355328 then (some (l157 ++ a1.data)) else none))))
def waybillref07_put (a0 : List (BitVec 8)) (a1 : It) : Option ((List (BitVec 8))) := waybillref07_put.r (It.sz a1 + 1) a0 a1
end Go.Fw
namespace Go.Fw
def rlp_Number (a0 : Vector (BitVec 64) 4) : Option ((It)) := ((u256_Bytes a0).bind fun x4 => (some (It.mk false x4 ([] : List (It)))))
def waybillref07_Number (a0 : Vector (BitVec 64) 4) : Option ((It)) := ((waybillref01_Bytes a0).bind fun x4 => (some (It.mk false x4 ([] : List (It)))))
def rlp_Small (a0 : BitVec 64) : Option ((It)) := ((u256_From a0).bind fun x3 => ((rlp_Number x3).bind fun x7 => (some x7)))
def waybillref07_Small (a0 : BitVec 64) : Option ((It)) := ((waybillref01_From a0).bind fun x3 => ((waybillref07_Number x3).bind fun x7 => (some x7)))
def rlp_List (a0 : List (It)) : Option ((It)) := ((rlp_twin a0).bind fun x4 => (some (It.mk true ([] : List (BitVec 8)) x4)))
def rlp_Check (a0 : It) : Option ((Nat)) := ((rlp_sound a0).bind fun (x15, x16) => (if x16 = true then (if 1024 < x15 then (some 74) else ((rlp_size a0).bind fun x23 => (if 16777216 < x23 then (some 2) else (some 0)))) else (some 78)))
def waybillref07_Check (a0 : It) : Option ((Nat)) := ((waybillref07_oddly a0).bind fun x15 => (if x15 = true then (some 78) else ((waybillref07_depth a0).bind fun x20 => (if 1024 < x20 then (some 74) else ((waybillref07_size a0).bind fun x26 => (if 16777216 < x26 then (some 2) else (some 0)))))))
def rlp_Encode (a0 : It) : Option ((List (BitVec 8)) × (Nat)) := ((rlp_Check a0).bind fun x15 => (if x15 = 0 then ((rlp_lay ([] : List (BitVec 8)) a0).bind fun x21 => (some (x21, 0))) else (some (([] : List (BitVec 8)), x15))))
def waybillref07_Encode (a0 : It) : Option ((List (BitVec 8)) × (Nat)) := ((waybillref07_Check a0).bind fun x15 => (if x15 = 0 then ((waybillref07_put ([] : List (BitVec 8)) a0).bind fun x21 => (some (x21, 0))) else (some (([] : List (BitVec 8)), x15))))
end Go.Fw
namespace Go.Fw
open Go
structure LogC where
 address : Vector (BitVec 8) 20
 topics : Value
 data : Value
def LogC.C (s : LogC) : List Value := u8s s.address.toList ++ ([s.topics] ++ ([s.data]))
theorem LogC.C_length (s : LogC) : s.C.length = 22 := by simp [LogC.C, Z100]
theorem LogC.C_one (s : LogC) (h_topics : s.topics.oneCell' = true) (h_data : s.data.oneCell' = true) : ∀ u ∈ s.C, u.oneCell' = true := by
 intro u hu
 simp only [LogC.C, List.mem_append, List.mem_singleton] at hu
 rcases hu with hu | rfl | rfl
 ·exact Z119 _ u hu
 ·exact h_topics
 ·exact h_data
structure Log where
 address : Vector (BitVec 8) 20
 topics : List (Vector (BitVec 8) 32)
 data : List (BitVec 8)
def LogRd (Φ : Ctx) (cs : List Value) (x : Log) : Prop := ∃ (A_topics : Option Addr), ∃ (c_topics : Nat), ∃ (cs_topics : List Value), ∃ (A_data : Option Addr), ∃ (c_data : Nat), cs = (⟨x.address, .slice A_topics x.topics.length c_topics, .slice A_data x.data.length c_data⟩ : LogC).C ∧ (View Φ A_topics x.topics.length c_topics 32 cs_topics) ∧ (Reps (Ar8Rd Φ) cs_topics x.topics) ∧ (View Φ A_data x.data.length c_data 1 (u8s x.data))
theorem LogRd.opn {Φ : Ctx} {cs : List Value} {x : Log} (h : LogRd Φ cs x) : ∃ (A_topics : Option Addr), ∃ (c_topics : Nat), ∃ (cs_topics : List Value), ∃ (A_data : Option Addr), ∃ (c_data : Nat), cs = (⟨x.address, .slice A_topics x.topics.length c_topics, .slice A_data x.data.length c_data⟩ : LogC).C ∧ (View Φ A_topics x.topics.length c_topics 32 cs_topics) ∧ (Reps (Ar8Rd Φ) cs_topics x.topics) ∧ (View Φ A_data x.data.length c_data 1 (u8s x.data)) := h
theorem LogRd.mono {Φ Ψ : Ctx} (hh : ∀ w, Ψ w → Φ w) (cs : List Value) (x : Log) : LogRd Φ cs x → LogRd Ψ cs x := fun ⟨A_topics, c_topics, cs_topics, A_data, c_data, e, v_topics, h_topics, v_data⟩ => ⟨A_topics, c_topics, cs_topics, A_data, c_data, e, v_topics.mono hh, h_topics.mono (Ar8Rd.mono hh), v_data.mono hh⟩
theorem LogRd.len {Φ : Ctx} (cs : List Value) (x : Log) (h : LogRd Φ cs x) : cs.length = 22 := by
 obtain ⟨A_topics, c_topics, cs_topics, A_data, c_data, e, v_topics, h_topics, v_data⟩ := h
 rw [e]; exact LogC.C_length _
theorem LogRd.one {Φ : Ctx} (cs : List Value) (x : Log) (h : LogRd Φ cs x) : ∀ u ∈ cs, u.oneCell' = true := by
 obtain ⟨A_topics, c_topics, cs_topics, A_data, c_data, e, v_topics, h_topics, v_data⟩ := h
 rw [e]; exact LogC.C_one _ rfl rfl
theorem LogRd.mk {Φ : Ctx} {address : Vector (BitVec 8) 20} {topics : List (Vector (BitVec 8) 32)} {data : List (BitVec 8)} {A_topics : Option Addr} {c_topics : Nat} {cs_topics : List Value} {A_data : Option Addr} {c_data : Nat} (v_topics : View Φ A_topics topics.length c_topics 32 cs_topics) (h_topics : Reps (Ar8Rd Φ) cs_topics topics) (v_data : View Φ A_data data.length c_data 1 (u8s data)) : LogRd Φ (⟨address, .slice A_topics topics.length c_topics, .slice A_data data.length c_data⟩ : LogC).C (⟨address, topics, data⟩ : Log) := ⟨A_topics, c_topics, cs_topics, A_data, c_data, rfl, v_topics, h_topics, v_data⟩
structure RcptC where
 kind : Int
 rooted : Bool
 root : Vector (BitVec 8) 32
 status : BitVec 64
 used : BitVec 64
 bloom : Vector (BitVec 8) 256
 logs : Value
def RcptC.C (s : RcptC) : List Value := [.int .i64 s.kind] ++ ([.bool s.rooted] ++ (u8s s.root.toList ++ ([U64 s.status] ++ ([U64 s.used] ++ (u8s s.bloom.toList ++ ([s.logs]))))))
theorem RcptC.C_length (s : RcptC) : s.C.length = 293 := by simp [RcptC.C, Z100]
theorem RcptC.C_one (s : RcptC) (h_logs : s.logs.oneCell' = true) : ∀ u ∈ s.C, u.oneCell' = true := by
 intro u hu
 simp only [RcptC.C, List.mem_append, List.mem_singleton] at hu
 rcases hu with rfl | rfl | hu | rfl | rfl | hu | rfl
 ·rfl
 ·rfl
 ·exact Z119 _ u hu
 ·rfl
 ·rfl
 ·exact Z119 _ u hu
 ·exact h_logs
theorem RcptC.C_kind (s : RcptC) : s.C[0]? = some (.int .i64 s.kind) := by
 rw [show 0 = 0 by rfl]; exact (Z126 rfl)
theorem RcptC.C_used (s : RcptC) : s.C[35]? = some (U64 s.used) := by
 rw [show 35 = 1 + (1 + (32 + (1 + (0)))) by rfl]; exact (Z101 rfl (Z101 rfl (Z101 ((Z100 _).trans Zv) (Z101 rfl (Z126 rfl)))))
theorem RcptC.C_used_set (s : RcptC) (x : BitVec 64) : s.C.set 35 (U64 x) = ({ s with used := x } : RcptC).C := by
 rw [show 35 = 1 + (1 + (32 + (1 + (0)))) by rfl]; exact (Z107 rfl (Z107 rfl (Z107 ((Z100 _).trans Zv) (Z107 rfl (here_set (by simp) rfl)))))
theorem RcptC.C_bloom_all (s : RcptC) : ∀ (k : Nat) (u : Value), (u8s s.bloom.toList)[k]? = some u → s.C[36 + k]? = some u := by
 intro k u h; rw [show 36 + k = 1 + (1 + (32 + (1 + (1 + (k))))) by omega]; exact (Z101 rfl (Z101 rfl (Z101 ((Z100 _).trans Zv) (Z101 rfl (Z101 rfl (Z126 h))))))
theorem RcptC.C_bloom_cpy (s : RcptC) {lo : Nat} {l : List (BitVec 8)} (h : lo + l.length ≤ 256) : spl s.C (36 + lo) (u8s l) = ({ s with bloom := cpV s.bloom lo l } : RcptC).C := by
 rw [show 36 + lo = 1 + (1 + (32 + (1 + (1 + (lo))))) by omega]; exact (Z104 rfl (Z104 rfl (Z104 ((Z100 _).trans Zv) (Z104 rfl (Z104 rfl (at_spl (by rw [Z100, Z100, Zv]; exact h) (u8s_cpV _ h)))))))
structure Rcpt where
 kind : Int
 rooted : Bool
 root : Vector (BitVec 8) 32
 status : BitVec 64
 used : BitVec 64
 bloom : Vector (BitVec 8) 256
 logs : List (Log)
def RcptRd (Φ : Ctx) (cs : List Value) (x : Rcpt) : Prop := ∃ (A_logs : Option Addr), ∃ (c_logs : Nat), ∃ (cs_logs : List Value), cs = (⟨x.kind, x.rooted, x.root, x.status, x.used, x.bloom, .slice A_logs x.logs.length c_logs⟩ : RcptC).C ∧ (-9223372036854775808 ≤ x.kind ∧ x.kind ≤ 9223372036854775807) ∧ (View Φ A_logs x.logs.length c_logs 22 cs_logs) ∧ (Reps (LogRd Φ) cs_logs x.logs)
theorem RcptRd.opn {Φ : Ctx} {cs : List Value} {x : Rcpt} (h : RcptRd Φ cs x) : ∃ (A_logs : Option Addr), ∃ (c_logs : Nat), ∃ (cs_logs : List Value), cs = (⟨x.kind, x.rooted, x.root, x.status, x.used, x.bloom, .slice A_logs x.logs.length c_logs⟩ : RcptC).C ∧ (-9223372036854775808 ≤ x.kind ∧ x.kind ≤ 9223372036854775807) ∧ (View Φ A_logs x.logs.length c_logs 22 cs_logs) ∧ (Reps (LogRd Φ) cs_logs x.logs) := h
theorem RcptRd.mono {Φ Ψ : Ctx} (hh : ∀ w, Ψ w → Φ w) (cs : List Value) (x : Rcpt) : RcptRd Φ cs x → RcptRd Ψ cs x := fun ⟨A_logs, c_logs, cs_logs, e, b_kind, v_logs, h_logs⟩ => ⟨A_logs, c_logs, cs_logs, e, b_kind, v_logs.mono hh, h_logs.mono (LogRd.mono hh)⟩
theorem RcptRd.len {Φ : Ctx} (cs : List Value) (x : Rcpt) (h : RcptRd Φ cs x) : cs.length = 293 := by
 obtain ⟨A_logs, c_logs, cs_logs, e, b_kind, v_logs, h_logs⟩ := h
 rw [e]; exact RcptC.C_length _
theorem RcptRd.one {Φ : Ctx} (cs : List Value) (x : Rcpt) (h : RcptRd Φ cs x) : ∀ u ∈ cs, u.oneCell' = true := by
 obtain ⟨A_logs, c_logs, cs_logs, e, b_kind, v_logs, h_logs⟩ := h
 rw [e]; exact RcptC.C_one _ rfl
theorem RcptRd.mk {Φ : Ctx} {kind : Int} {rooted : Bool} {root : Vector (BitVec 8) 32} {status : BitVec 64} {used : BitVec 64} {bloom : Vector (BitVec 8) 256} {logs : List (Log)} {A_logs : Option Addr} {c_logs : Nat} {cs_logs : List Value} (b_kind : -9223372036854775808 ≤ kind ∧ kind ≤ 9223372036854775807) (v_logs : View Φ A_logs logs.length c_logs 22 cs_logs) (h_logs : Reps (LogRd Φ) cs_logs logs) : RcptRd Φ (⟨kind, rooted, root, status, used, bloom, .slice A_logs logs.length c_logs⟩ : RcptC).C (⟨kind, rooted, root, status, used, bloom, logs⟩ : Rcpt) := ⟨A_logs, c_logs, cs_logs, rfl, b_kind, v_logs, h_logs⟩
end Go.Fw
namespace Go.Fw
open Go
structure HdrC where
 parent : Vector (BitVec 8) 32
 uncles : Vector (BitVec 8) 32
 coinbase : Vector (BitVec 8) 20
 state : Vector (BitVec 8) 32
 txRoot : Vector (BitVec 8) 32
 receiptRoot : Vector (BitVec 8) 32
 bloom : Vector (BitVec 8) 256
 difficulty : Vector (BitVec 64) 4
 number : BitVec 64
 limit : BitVec 64
 used : BitVec 64
 time : BitVec 64
 extra : Value
 mix : Vector (BitVec 8) 32
 nonce : Vector (BitVec 8) 8
 tail : Int
 baseFee : Vector (BitVec 64) 4
 withdrawals : Vector (BitVec 8) 32
 blobUsed : BitVec 64
 blobExcess : BitVec 64
 beacon : Vector (BitVec 8) 32
 requests : Vector (BitVec 8) 32
def HdrC.C (s : HdrC) : List Value := u8s s.parent.toList ++ (u8s s.uncles.toList ++ (u8s s.coinbase.toList ++ (u8s s.state.toList ++ (u8s s.txRoot.toList ++ (u8s s.receiptRoot.toList ++ (u8s s.bloom.toList ++ (u64s s.difficulty.toList ++ ([U64 s.number] ++ ([U64 s.limit] ++ ([U64 s.used] ++ ([U64 s.time] ++ ([s.extra] ++ (u8s s.mix.toList ++ (u8s s.nonce.toList ++ ([.int .i64 s.tail] ++ (u64s s.baseFee.toList ++ (u8s s.withdrawals.toList ++ ([U64 s.blobUsed] ++ ([U64 s.blobExcess] ++ (u8s s.beacon.toList ++ (u8s s.requests.toList)))))))))))))))))))))
theorem HdrC.C_length (s : HdrC) : s.C.length = 588 := by simp [HdrC.C, Z103, Z100]
theorem HdrC.C_one (s : HdrC) (h_extra : s.extra.oneCell' = true) : ∀ u ∈ s.C, u.oneCell' = true := by
 intro u hu
 simp only [HdrC.C, List.mem_append, List.mem_singleton] at hu
 rcases hu with hu | hu | hu | hu | hu | hu | hu | hu | rfl | rfl | rfl | rfl | rfl | hu | hu | rfl | hu | hu | rfl | rfl | hu | hu
 ·exact Z119 _ u hu
 ·exact Z119 _ u hu
 ·exact Z119 _ u hu
 ·exact Z119 _ u hu
 ·exact Z119 _ u hu
 ·exact Z119 _ u hu
 ·exact Z119 _ u hu
 ·exact Z154 _ u hu
 ·rfl
 ·rfl
 ·rfl
 ·rfl
 ·exact h_extra
 ·exact Z119 _ u hu
 ·exact Z119 _ u hu
 ·rfl
 ·exact Z154 _ u hu
 ·exact Z119 _ u hu
 ·rfl
 ·rfl
 ·exact Z119 _ u hu
 ·exact Z119 _ u hu
theorem Z170 (s : HdrC) : ∀ (k : Nat) (u : Value), (u8s s.parent.toList)[k]? = some u → s.C[0 + k]? = some u := by
 intro k u h; rw [show 0 + k = k by omega]; exact (Z126 h)
theorem HdrC.C_parent_cpy (s : HdrC) {lo : Nat} {l : List (BitVec 8)} (h : lo + l.length ≤ 32) : spl s.C (0 + lo) (u8s l) = ({ s with parent := cpV s.parent lo l } : HdrC).C := by
 rw [show 0 + lo = lo by omega]; exact (at_spl (by rw [Z100, Z100, Zv]; exact h) (u8s_cpV _ h))
theorem Z168 (s : HdrC) : ∀ (k : Nat) (u : Value), (u8s s.uncles.toList)[k]? = some u → s.C[32 + k]? = some u := by
 intro k u h; rw [show 32 + k = 32 + (k) by omega]; exact (Z101 ((Z100 _).trans Zv) (Z126 h))
theorem HdrC.C_uncles_cpy (s : HdrC) {lo : Nat} {l : List (BitVec 8)} (h : lo + l.length ≤ 32) : spl s.C (32 + lo) (u8s l) = ({ s with uncles := cpV s.uncles lo l } : HdrC).C := by
 rw [show 32 + lo = 32 + (lo) by omega]; exact (Z104 ((Z100 _).trans Zv) (at_spl (by rw [Z100, Z100, Zv]; exact h) (u8s_cpV _ h)))
theorem Z158 (s : HdrC) : ∀ (k : Nat) (u : Value), (u8s s.coinbase.toList)[k]? = some u → s.C[64 + k]? = some u := by
 intro k u h; rw [show 64 + k = 32 + (32 + (k)) by omega]; exact (Z101 ((Z100 _).trans Zv) (Z101 ((Z100 _).trans Zv) (Z126 h)))
theorem HdrC.C_coinbase_cpy (s : HdrC) {lo : Nat} {l : List (BitVec 8)} (h : lo + l.length ≤ 20) : spl s.C (64 + lo) (u8s l) = ({ s with coinbase := cpV s.coinbase lo l } : HdrC).C := by
 rw [show 64 + lo = 32 + (32 + (lo)) by omega]; exact (Z104 ((Z100 _).trans Zv) (Z104 ((Z100 _).trans Zv) (at_spl (by rw [Z100, Z100, Zv]; exact h) (u8s_cpV _ h))))
theorem Z181 (s : HdrC) : ∀ (k : Nat) (u : Value), (u8s s.state.toList)[k]? = some u → s.C[84 + k]? = some u := by
 intro k u h; rw [show 84 + k = 32 + (32 + (20 + (k))) by omega]; exact (Z101 ((Z100 _).trans Zv) (Z101 ((Z100 _).trans Zv) (Z101 ((Z100 _).trans Zv) (Z126 h))))
theorem HdrC.C_state_cpy (s : HdrC) {lo : Nat} {l : List (BitVec 8)} (h : lo + l.length ≤ 32) : spl s.C (84 + lo) (u8s l) = ({ s with state := cpV s.state lo l } : HdrC).C := by
 rw [show 84 + lo = 32 + (32 + (20 + (lo))) by omega]; exact (Z104 ((Z100 _).trans Zv) (Z104 ((Z100 _).trans Zv) (Z104 ((Z100 _).trans Zv) (at_spl (by rw [Z100, Z100, Zv]; exact h) (u8s_cpV _ h)))))
theorem Z169 (s : HdrC) : ∀ (k : Nat) (u : Value), (u8s s.txRoot.toList)[k]? = some u → s.C[116 + k]? = some u := by
 intro k u h; rw [show 116 + k = 32 + (32 + (20 + (32 + (k)))) by omega]; exact (Z101 ((Z100 _).trans Zv) (Z101 ((Z100 _).trans Zv) (Z101 ((Z100 _).trans Zv) (Z101 ((Z100 _).trans Zv) (Z126 h)))))
theorem HdrC.C_txRoot_cpy (s : HdrC) {lo : Nat} {l : List (BitVec 8)} (h : lo + l.length ≤ 32) : spl s.C (116 + lo) (u8s l) = ({ s with txRoot := cpV s.txRoot lo l } : HdrC).C := by
 rw [show 116 + lo = 32 + (32 + (20 + (32 + (lo)))) by omega]; exact (Z104 ((Z100 _).trans Zv) (Z104 ((Z100 _).trans Zv) (Z104 ((Z100 _).trans Zv) (Z104 ((Z100 _).trans Zv) (at_spl (by rw [Z100, Z100, Zv]; exact h) (u8s_cpV _ h))))))
theorem Z143 (s : HdrC) : ∀ (k : Nat) (u : Value), (u8s s.receiptRoot.toList)[k]? = some u → s.C[148 + k]? = some u := by
 intro k u h; rw [show 148 + k = 32 + (32 + (20 + (32 + (32 + (k))))) by omega]; exact (Z101 ((Z100 _).trans Zv) (Z101 ((Z100 _).trans Zv) (Z101 ((Z100 _).trans Zv) (Z101 ((Z100 _).trans Zv) (Z101 ((Z100 _).trans Zv) (Z126 h))))))
theorem HdrC.C_receiptRoot_cpy (s : HdrC) {lo : Nat} {l : List (BitVec 8)} (h : lo + l.length ≤ 32) : spl s.C (148 + lo) (u8s l) = ({ s with receiptRoot := cpV s.receiptRoot lo l } : HdrC).C := by
 rw [show 148 + lo = 32 + (32 + (20 + (32 + (32 + (lo))))) by omega]; exact (Z104 ((Z100 _).trans Zv) (Z104 ((Z100 _).trans Zv) (Z104 ((Z100 _).trans Zv) (Z104 ((Z100 _).trans Zv) (Z104 ((Z100 _).trans Zv) (at_spl (by rw [Z100, Z100, Zv]; exact h) (u8s_cpV _ h)))))))
theorem HdrC.C_bloom_all (s : HdrC) : ∀ (k : Nat) (u : Value), (u8s s.bloom.toList)[k]? = some u → s.C[180 + k]? = some u := by
 intro k u h; rw [show 180 + k = 32 + (32 + (20 + (32 + (32 + (32 + (k)))))) by omega]; exact (Z101 ((Z100 _).trans Zv) (Z101 ((Z100 _).trans Zv) (Z101 ((Z100 _).trans Zv) (Z101 ((Z100 _).trans Zv) (Z101 ((Z100 _).trans Zv) (Z101 ((Z100 _).trans Zv) (Z126 h)))))))
theorem HdrC.C_bloom_cpy (s : HdrC) {lo : Nat} {l : List (BitVec 8)} (h : lo + l.length ≤ 256) : spl s.C (180 + lo) (u8s l) = ({ s with bloom := cpV s.bloom lo l } : HdrC).C := by
 rw [show 180 + lo = 32 + (32 + (20 + (32 + (32 + (32 + (lo)))))) by omega]; exact (Z104 ((Z100 _).trans Zv) (Z104 ((Z100 _).trans Zv) (Z104 ((Z100 _).trans Zv) (Z104 ((Z100 _).trans Zv) (Z104 ((Z100 _).trans Zv) (Z104 ((Z100 _).trans Zv) (at_spl (by rw [Z100, Z100, Zv]; exact h) (u8s_cpV _ h))))))))
theorem Z144 (s : HdrC) : ∀ (k : Nat) (u : Value), (u64s s.difficulty.toList)[k]? = some u → s.C[436 + k]? = some u := by
 intro k u h; rw [show 436 + k = 32 + (32 + (20 + (32 + (32 + (32 + (256 + (k))))))) by omega]; exact (Z101 ((Z100 _).trans Zv) (Z101 ((Z100 _).trans Zv) (Z101 ((Z100 _).trans Zv) (Z101 ((Z100 _).trans Zv) (Z101 ((Z100 _).trans Zv) (Z101 ((Z100 _).trans Zv) (Z101 ((Z100 _).trans Zv) (Z126 h))))))))
theorem HdrC.C_difficulty_spl (s : HdrC) (x : Vector (BitVec 64) 4) : spl s.C 436 (u64s x.toList) = ({ s with difficulty := x } : HdrC).C := by
 show spl s.C (32 + (32 + (20 + (32 + (32 + (32 + (256 + (0)))))))) _ = _; exact (Z104 ((Z100 _).trans Zv) (Z104 ((Z100 _).trans Zv) (Z104 ((Z100 _).trans Zv) (Z104 ((Z100 _).trans Zv) (Z104 ((Z100 _).trans Zv) (Z104 ((Z100 _).trans Zv) (Z104 ((Z100 _).trans Zv) (here_spl (by simp [Z103])))))))))
theorem HdrC.C_number (s : HdrC) : s.C[440]? = some (U64 s.number) := by
 show s.C[32 + (32 + (20 + (32 + (32 + (32 + (256 + (4 + (0))))))))]? = _; exact (Z101 ((Z100 _).trans Zv) (Z101 ((Z100 _).trans Zv) (Z101 ((Z100 _).trans Zv) (Z101 ((Z100 _).trans Zv) (Z101 ((Z100 _).trans Zv) (Z101 ((Z100 _).trans Zv) (Z101 ((Z100 _).trans Zv) (Z101 ((Z103 _).trans Zv) (Z126 rfl)))))))))
theorem HdrC.C_number_set (s : HdrC) (x : BitVec 64) : s.C.set 440 (U64 x) = ({ s with number := x } : HdrC).C := by
 show s.C.set (32 + (32 + (20 + (32 + (32 + (32 + (256 + (4 + (0))))))))) _ = _; exact (Z107 ((Z100 _).trans Zv) (Z107 ((Z100 _).trans Zv) (Z107 ((Z100 _).trans Zv) (Z107 ((Z100 _).trans Zv) (Z107 ((Z100 _).trans Zv) (Z107 ((Z100 _).trans Zv) (Z107 ((Z100 _).trans Zv) (Z107 ((Z103 _).trans Zv) (here_set (by simp) rfl)))))))))
theorem HdrC.C_limit (s : HdrC) : s.C[441]? = some (U64 s.limit) := by
 show s.C[32 + (32 + (20 + (32 + (32 + (32 + (256 + (4 + (1 + (0)))))))))]? = _; exact (Z101 ((Z100 _).trans Zv) (Z101 ((Z100 _).trans Zv) (Z101 ((Z100 _).trans Zv) (Z101 ((Z100 _).trans Zv) (Z101 ((Z100 _).trans Zv) (Z101 ((Z100 _).trans Zv) (Z101 ((Z100 _).trans Zv) (Z101 ((Z103 _).trans Zv) (Z101 rfl (Z126 rfl))))))))))
theorem HdrC.C_limit_set (s : HdrC) (x : BitVec 64) : s.C.set 441 (U64 x) = ({ s with limit := x } : HdrC).C := by
 show s.C.set (32 + (32 + (20 + (32 + (32 + (32 + (256 + (4 + (1 + (0)))))))))) _ = _; exact (Z107 ((Z100 _).trans Zv) (Z107 ((Z100 _).trans Zv) (Z107 ((Z100 _).trans Zv) (Z107 ((Z100 _).trans Zv) (Z107 ((Z100 _).trans Zv) (Z107 ((Z100 _).trans Zv) (Z107 ((Z100 _).trans Zv) (Z107 ((Z103 _).trans Zv) (Z107 rfl (here_set (by simp) rfl))))))))))
theorem HdrC.C_used (s : HdrC) : s.C[442]? = some (U64 s.used) := by
 show s.C[32 + (32 + (20 + (32 + (32 + (32 + (256 + (4 + (1 + (1 + (0))))))))))]? = _; exact (Z101 ((Z100 _).trans Zv) (Z101 ((Z100 _).trans Zv) (Z101 ((Z100 _).trans Zv) (Z101 ((Z100 _).trans Zv) (Z101 ((Z100 _).trans Zv) (Z101 ((Z100 _).trans Zv) (Z101 ((Z100 _).trans Zv) (Z101 ((Z103 _).trans Zv) (Z101 rfl (Z101 rfl (Z126 rfl)))))))))))
theorem HdrC.C_used_set (s : HdrC) (x : BitVec 64) : s.C.set 442 (U64 x) = ({ s with used := x } : HdrC).C := by
 show s.C.set (32 + (32 + (20 + (32 + (32 + (32 + (256 + (4 + (1 + (1 + (0))))))))))) _ = _; exact (Z107 ((Z100 _).trans Zv) (Z107 ((Z100 _).trans Zv) (Z107 ((Z100 _).trans Zv) (Z107 ((Z100 _).trans Zv) (Z107 ((Z100 _).trans Zv) (Z107 ((Z100 _).trans Zv) (Z107 ((Z100 _).trans Zv) (Z107 ((Z103 _).trans Zv) (Z107 rfl (Z107 rfl (here_set (by simp) rfl)))))))))))
theorem HdrC.C_time (s : HdrC) : s.C[443]? = some (U64 s.time) := by
 show s.C[32 + (32 + (20 + (32 + (32 + (32 + (256 + (4 + (1 + (1 + (1 + (0)))))))))))]? = _; exact (Z101 ((Z100 _).trans Zv) (Z101 ((Z100 _).trans Zv) (Z101 ((Z100 _).trans Zv) (Z101 ((Z100 _).trans Zv) (Z101 ((Z100 _).trans Zv) (Z101 ((Z100 _).trans Zv) (Z101 ((Z100 _).trans Zv) (Z101 ((Z103 _).trans Zv) (Z101 rfl (Z101 rfl (Z101 rfl (Z126 rfl))))))))))))
theorem HdrC.C_time_set (s : HdrC) (x : BitVec 64) : s.C.set 443 (U64 x) = ({ s with time := x } : HdrC).C := by
 show s.C.set (32 + (32 + (20 + (32 + (32 + (32 + (256 + (4 + (1 + (1 + (1 + (0)))))))))))) _ = _; exact (Z107 ((Z100 _).trans Zv) (Z107 ((Z100 _).trans Zv) (Z107 ((Z100 _).trans Zv) (Z107 ((Z100 _).trans Zv) (Z107 ((Z100 _).trans Zv) (Z107 ((Z100 _).trans Zv) (Z107 ((Z100 _).trans Zv) (Z107 ((Z103 _).trans Zv) (Z107 rfl (Z107 rfl (Z107 rfl (here_set (by simp) rfl))))))))))))
theorem Z138 (s : HdrC) : s.C[444]? = some (s.extra) := by
 show s.C[32 + (32 + (20 + (32 + (32 + (32 + (256 + (4 + (1 + (1 + (1 + (1 + (0))))))))))))]? = _; exact (Z101 ((Z100 _).trans Zv) (Z101 ((Z100 _).trans Zv) (Z101 ((Z100 _).trans Zv) (Z101 ((Z100 _).trans Zv) (Z101 ((Z100 _).trans Zv) (Z101 ((Z100 _).trans Zv) (Z101 ((Z100 _).trans Zv) (Z101 ((Z103 _).trans Zv) (Z101 rfl (Z101 rfl (Z101 rfl (Z101 rfl (Z126 rfl)))))))))))))
theorem HdrC.C_extra_set (s : HdrC) (x : Value) : s.C.set 444 (x) = ({ s with extra := x } : HdrC).C := by
 show s.C.set (32 + (32 + (20 + (32 + (32 + (32 + (256 + (4 + (1 + (1 + (1 + (1 + (0))))))))))))) _ = _; exact (Z107 ((Z100 _).trans Zv) (Z107 ((Z100 _).trans Zv) (Z107 ((Z100 _).trans Zv) (Z107 ((Z100 _).trans Zv) (Z107 ((Z100 _).trans Zv) (Z107 ((Z100 _).trans Zv) (Z107 ((Z100 _).trans Zv) (Z107 ((Z103 _).trans Zv) (Z107 rfl (Z107 rfl (Z107 rfl (Z107 rfl (here_set (by simp) rfl)))))))))))))
theorem HdrC.C_mix_all (s : HdrC) : ∀ (k : Nat) (u : Value), (u8s s.mix.toList)[k]? = some u → s.C[445 + k]? = some u := by
 intro k u h; rw [show 445 + k = 32 + (32 + (20 + (32 + (32 + (32 + (256 + (4 + (1 + (1 + (1 + (1 + (1 + (k))))))))))))) by omega]; exact (Z101 ((Z100 _).trans Zv) (Z101 ((Z100 _).trans Zv) (Z101 ((Z100 _).trans Zv) (Z101 ((Z100 _).trans Zv) (Z101 ((Z100 _).trans Zv) (Z101 ((Z100 _).trans Zv) (Z101 ((Z100 _).trans Zv) (Z101 ((Z103 _).trans Zv) (Z101 rfl (Z101 rfl (Z101 rfl (Z101 rfl (Z101 rfl (Z126 h))))))))))))))
theorem HdrC.C_mix_cpy (s : HdrC) {lo : Nat} {l : List (BitVec 8)} (h : lo + l.length ≤ 32) : spl s.C (445 + lo) (u8s l) = ({ s with mix := cpV s.mix lo l } : HdrC).C := by
 rw [show 445 + lo = 32 + (32 + (20 + (32 + (32 + (32 + (256 + (4 + (1 + (1 + (1 + (1 + (1 + (lo))))))))))))) by omega]; exact (Z104 ((Z100 _).trans Zv) (Z104 ((Z100 _).trans Zv) (Z104 ((Z100 _).trans Zv) (Z104 ((Z100 _).trans Zv) (Z104 ((Z100 _).trans Zv) (Z104 ((Z100 _).trans Zv) (Z104 ((Z100 _).trans Zv) (Z104 ((Z103 _).trans Zv) (Z104 rfl (Z104 rfl (Z104 rfl (Z104 rfl (Z104 rfl (at_spl (by rw [Z100, Z100, Zv]; exact h) (u8s_cpV _ h)))))))))))))))
theorem Z182 (s : HdrC) : ∀ (k : Nat) (u : Value), (u8s s.nonce.toList)[k]? = some u → s.C[477 + k]? = some u := by
 intro k u h; rw [show 477 + k = 32 + (32 + (20 + (32 + (32 + (32 + (256 + (4 + (1 + (1 + (1 + (1 + (1 + (32 + (k)))))))))))))) by omega]; exact (Z101 ((Z100 _).trans Zv) (Z101 ((Z100 _).trans Zv) (Z101 ((Z100 _).trans Zv) (Z101 ((Z100 _).trans Zv) (Z101 ((Z100 _).trans Zv) (Z101 ((Z100 _).trans Zv) (Z101 ((Z100 _).trans Zv) (Z101 ((Z103 _).trans Zv) (Z101 rfl (Z101 rfl (Z101 rfl (Z101 rfl (Z101 rfl (Z101 ((Z100 _).trans Zv) (Z126 h)))))))))))))))
theorem HdrC.C_nonce_cpy (s : HdrC) {lo : Nat} {l : List (BitVec 8)} (h : lo + l.length ≤ 8) : spl s.C (477 + lo) (u8s l) = ({ s with nonce := cpV s.nonce lo l } : HdrC).C := by
 rw [show 477 + lo = 32 + (32 + (20 + (32 + (32 + (32 + (256 + (4 + (1 + (1 + (1 + (1 + (1 + (32 + (lo)))))))))))))) by omega]; exact (Z104 ((Z100 _).trans Zv) (Z104 ((Z100 _).trans Zv) (Z104 ((Z100 _).trans Zv) (Z104 ((Z100 _).trans Zv) (Z104 ((Z100 _).trans Zv) (Z104 ((Z100 _).trans Zv) (Z104 ((Z100 _).trans Zv) (Z104 ((Z103 _).trans Zv) (Z104 rfl (Z104 rfl (Z104 rfl (Z104 rfl (Z104 rfl (Z104 ((Z100 _).trans Zv) (at_spl (by rw [Z100, Z100, Zv]; exact h) (u8s_cpV _ h))))))))))))))))
theorem Z122 (s : HdrC) : s.C[485]? = some (.int .i64 s.tail) := by
 show s.C[32 + (32 + (20 + (32 + (32 + (32 + (256 + (4 + (1 + (1 + (1 + (1 + (1 + (32 + (8 + (0)))))))))))))))]? = _; exact (Z101 ((Z100 _).trans Zv) (Z101 ((Z100 _).trans Zv) (Z101 ((Z100 _).trans Zv) (Z101 ((Z100 _).trans Zv) (Z101 ((Z100 _).trans Zv) (Z101 ((Z100 _).trans Zv) (Z101 ((Z100 _).trans Zv) (Z101 ((Z103 _).trans Zv) (Z101 rfl (Z101 rfl (Z101 rfl (Z101 rfl (Z101 rfl (Z101 ((Z100 _).trans Zv) (Z101 ((Z100 _).trans Zv) (Z126 rfl))))))))))))))))
theorem Z146 (s : HdrC) : ∀ (k : Nat) (u : Value), (u64s s.baseFee.toList)[k]? = some u → s.C[486 + k]? = some u := by
 intro k u h; rw [show 486 + k = 32 + (32 + (20 + (32 + (32 + (32 + (256 + (4 + (1 + (1 + (1 + (1 + (1 + (32 + (8 + (1 + (k)))))))))))))))) by omega]; exact (Z101 ((Z100 _).trans Zv) (Z101 ((Z100 _).trans Zv) (Z101 ((Z100 _).trans Zv) (Z101 ((Z100 _).trans Zv) (Z101 ((Z100 _).trans Zv) (Z101 ((Z100 _).trans Zv) (Z101 ((Z100 _).trans Zv) (Z101 ((Z103 _).trans Zv) (Z101 rfl (Z101 rfl (Z101 rfl (Z101 rfl (Z101 rfl (Z101 ((Z100 _).trans Zv) (Z101 ((Z100 _).trans Zv) (Z101 rfl (Z126 h)))))))))))))))))
theorem HdrC.C_baseFee_spl (s : HdrC) (x : Vector (BitVec 64) 4) : spl s.C 486 (u64s x.toList) = ({ s with baseFee := x } : HdrC).C := by
 show spl s.C (32 + (32 + (20 + (32 + (32 + (32 + (256 + (4 + (1 + (1 + (1 + (1 + (1 + (32 + (8 + (1 + (0))))))))))))))))) _ = _; exact (Z104 ((Z100 _).trans Zv) (Z104 ((Z100 _).trans Zv) (Z104 ((Z100 _).trans Zv) (Z104 ((Z100 _).trans Zv) (Z104 ((Z100 _).trans Zv) (Z104 ((Z100 _).trans Zv) (Z104 ((Z100 _).trans Zv) (Z104 ((Z103 _).trans Zv) (Z104 rfl (Z104 rfl (Z104 rfl (Z104 rfl (Z104 rfl (Z104 ((Z100 _).trans Zv) (Z104 ((Z100 _).trans Zv) (Z104 rfl (here_spl (by simp [Z103]))))))))))))))))))
theorem Z125 (s : HdrC) : ∀ (k : Nat) (u : Value), (u8s s.withdrawals.toList)[k]? = some u → s.C[490 + k]? = some u := by
 intro k u h; rw [show 490 + k = 32 + (32 + (20 + (32 + (32 + (32 + (256 + (4 + (1 + (1 + (1 + (1 + (1 + (32 + (8 + (1 + (4 + (k))))))))))))))))) by omega]; exact (Z101 ((Z100 _).trans Zv) (Z101 ((Z100 _).trans Zv) (Z101 ((Z100 _).trans Zv) (Z101 ((Z100 _).trans Zv) (Z101 ((Z100 _).trans Zv) (Z101 ((Z100 _).trans Zv) (Z101 ((Z100 _).trans Zv) (Z101 ((Z103 _).trans Zv) (Z101 rfl (Z101 rfl (Z101 rfl (Z101 rfl (Z101 rfl (Z101 ((Z100 _).trans Zv) (Z101 ((Z100 _).trans Zv) (Z101 rfl (Z101 ((Z103 _).trans Zv) (Z126 h))))))))))))))))))
theorem HdrC.C_withdrawals_cpy (s : HdrC) {lo : Nat} {l : List (BitVec 8)} (h : lo + l.length ≤ 32) : spl s.C (490 + lo) (u8s l) = ({ s with withdrawals := cpV s.withdrawals lo l } : HdrC).C := by
 rw [show 490 + lo = 32 + (32 + (20 + (32 + (32 + (32 + (256 + (4 + (1 + (1 + (1 + (1 + (1 + (32 + (8 + (1 + (4 + (lo))))))))))))))))) by omega]; exact (Z104 ((Z100 _).trans Zv) (Z104 ((Z100 _).trans Zv) (Z104 ((Z100 _).trans Zv) (Z104 ((Z100 _).trans Zv) (Z104 ((Z100 _).trans Zv) (Z104 ((Z100 _).trans Zv) (Z104 ((Z100 _).trans Zv) (Z104 ((Z103 _).trans Zv) (Z104 rfl (Z104 rfl (Z104 rfl (Z104 rfl (Z104 rfl (Z104 ((Z100 _).trans Zv) (Z104 ((Z100 _).trans Zv) (Z104 rfl (Z104 ((Z103 _).trans Zv) (at_spl (by rw [Z100, Z100, Zv]; exact h) (u8s_cpV _ h)))))))))))))))))))
theorem Z167 (s : HdrC) : s.C[522]? = some (U64 s.blobUsed) := by
 show s.C[32 + (32 + (20 + (32 + (32 + (32 + (256 + (4 + (1 + (1 + (1 + (1 + (1 + (32 + (8 + (1 + (4 + (32 + (0))))))))))))))))))]? = _; exact (Z101 ((Z100 _).trans Zv) (Z101 ((Z100 _).trans Zv) (Z101 ((Z100 _).trans Zv) (Z101 ((Z100 _).trans Zv) (Z101 ((Z100 _).trans Zv) (Z101 ((Z100 _).trans Zv) (Z101 ((Z100 _).trans Zv) (Z101 ((Z103 _).trans Zv) (Z101 rfl (Z101 rfl (Z101 rfl (Z101 rfl (Z101 rfl (Z101 ((Z100 _).trans Zv) (Z101 ((Z100 _).trans Zv) (Z101 rfl (Z101 ((Z103 _).trans Zv) (Z101 ((Z100 _).trans Zv) (Z126 rfl)))))))))))))))))))
theorem HdrC.C_blobUsed_set (s : HdrC) (x : BitVec 64) : s.C.set 522 (U64 x) = ({ s with blobUsed := x } : HdrC).C := by
 show s.C.set (32 + (32 + (20 + (32 + (32 + (32 + (256 + (4 + (1 + (1 + (1 + (1 + (1 + (32 + (8 + (1 + (4 + (32 + (0))))))))))))))))))) _ = _; exact (Z107 ((Z100 _).trans Zv) (Z107 ((Z100 _).trans Zv) (Z107 ((Z100 _).trans Zv) (Z107 ((Z100 _).trans Zv) (Z107 ((Z100 _).trans Zv) (Z107 ((Z100 _).trans Zv) (Z107 ((Z100 _).trans Zv) (Z107 ((Z103 _).trans Zv) (Z107 rfl (Z107 rfl (Z107 rfl (Z107 rfl (Z107 rfl (Z107 ((Z100 _).trans Zv) (Z107 ((Z100 _).trans Zv) (Z107 rfl (Z107 ((Z103 _).trans Zv) (Z107 ((Z100 _).trans Zv) (here_set (by simp) rfl)))))))))))))))))))
theorem Z152 (s : HdrC) : s.C[523]? = some (U64 s.blobExcess) := by
 show s.C[32 + (32 + (20 + (32 + (32 + (32 + (256 + (4 + (1 + (1 + (1 + (1 + (1 + (32 + (8 + (1 + (4 + (32 + (1 + (0)))))))))))))))))))]? = _; exact (Z101 ((Z100 _).trans Zv) (Z101 ((Z100 _).trans Zv) (Z101 ((Z100 _).trans Zv) (Z101 ((Z100 _).trans Zv) (Z101 ((Z100 _).trans Zv) (Z101 ((Z100 _).trans Zv) (Z101 ((Z100 _).trans Zv) (Z101 ((Z103 _).trans Zv) (Z101 rfl (Z101 rfl (Z101 rfl (Z101 rfl (Z101 rfl (Z101 ((Z100 _).trans Zv) (Z101 ((Z100 _).trans Zv) (Z101 rfl (Z101 ((Z103 _).trans Zv) (Z101 ((Z100 _).trans Zv) (Z101 rfl (Z126 rfl))))))))))))))))))))
theorem HdrC.C_blobExcess_set (s : HdrC) (x : BitVec 64) : s.C.set 523 (U64 x) = ({ s with blobExcess := x } : HdrC).C := by
 show s.C.set (32 + (32 + (20 + (32 + (32 + (32 + (256 + (4 + (1 + (1 + (1 + (1 + (1 + (32 + (8 + (1 + (4 + (32 + (1 + (0)))))))))))))))))))) _ = _; exact (Z107 ((Z100 _).trans Zv) (Z107 ((Z100 _).trans Zv) (Z107 ((Z100 _).trans Zv) (Z107 ((Z100 _).trans Zv) (Z107 ((Z100 _).trans Zv) (Z107 ((Z100 _).trans Zv) (Z107 ((Z100 _).trans Zv) (Z107 ((Z103 _).trans Zv) (Z107 rfl (Z107 rfl (Z107 rfl (Z107 rfl (Z107 rfl (Z107 ((Z100 _).trans Zv) (Z107 ((Z100 _).trans Zv) (Z107 rfl (Z107 ((Z103 _).trans Zv) (Z107 ((Z100 _).trans Zv) (Z107 rfl (here_set (by simp) rfl))))))))))))))))))))
theorem Z153 (s : HdrC) : ∀ (k : Nat) (u : Value), (u8s s.beacon.toList)[k]? = some u → s.C[524 + k]? = some u := by
 intro k u h; rw [show 524 + k = 32 + (32 + (20 + (32 + (32 + (32 + (256 + (4 + (1 + (1 + (1 + (1 + (1 + (32 + (8 + (1 + (4 + (32 + (1 + (1 + (k)))))))))))))))))))) by omega]; exact (Z101 ((Z100 _).trans Zv) (Z101 ((Z100 _).trans Zv) (Z101 ((Z100 _).trans Zv) (Z101 ((Z100 _).trans Zv) (Z101 ((Z100 _).trans Zv) (Z101 ((Z100 _).trans Zv) (Z101 ((Z100 _).trans Zv) (Z101 ((Z103 _).trans Zv) (Z101 rfl (Z101 rfl (Z101 rfl (Z101 rfl (Z101 rfl (Z101 ((Z100 _).trans Zv) (Z101 ((Z100 _).trans Zv) (Z101 rfl (Z101 ((Z103 _).trans Zv) (Z101 ((Z100 _).trans Zv) (Z101 rfl (Z101 rfl (Z126 h)))))))))))))))))))))
theorem HdrC.C_beacon_cpy (s : HdrC) {lo : Nat} {l : List (BitVec 8)} (h : lo + l.length ≤ 32) : spl s.C (524 + lo) (u8s l) = ({ s with beacon := cpV s.beacon lo l } : HdrC).C := by
 rw [show 524 + lo = 32 + (32 + (20 + (32 + (32 + (32 + (256 + (4 + (1 + (1 + (1 + (1 + (1 + (32 + (8 + (1 + (4 + (32 + (1 + (1 + (lo)))))))))))))))))))) by omega]; exact (Z104 ((Z100 _).trans Zv) (Z104 ((Z100 _).trans Zv) (Z104 ((Z100 _).trans Zv) (Z104 ((Z100 _).trans Zv) (Z104 ((Z100 _).trans Zv) (Z104 ((Z100 _).trans Zv) (Z104 ((Z100 _).trans Zv) (Z104 ((Z103 _).trans Zv) (Z104 rfl (Z104 rfl (Z104 rfl (Z104 rfl (Z104 rfl (Z104 ((Z100 _).trans Zv) (Z104 ((Z100 _).trans Zv) (Z104 rfl (Z104 ((Z103 _).trans Zv) (Z104 ((Z100 _).trans Zv) (Z104 rfl (Z104 rfl (at_spl (by rw [Z100, Z100, Zv]; exact h) (u8s_cpV _ h))))))))))))))))))))))
theorem Z123 (s : HdrC) : ∀ (k : Nat) (u : Value), (u8s s.requests.toList)[k]? = some u → s.C[556 + k]? = some u := by
 intro k u h; rw [show 556 + k = 32 + (32 + (20 + (32 + (32 + (32 + (256 + (4 + (1 + (1 + (1 + (1 + (1 + (32 + (8 + (1 + (4 + (32 + (1 + (1 + (32 + (k))))))))))))))))))))) by omega]; exact (Z101 ((Z100 _).trans Zv) (Z101 ((Z100 _).trans Zv) (Z101 ((Z100 _).trans Zv) (Z101 ((Z100 _).trans Zv) (Z101 ((Z100 _).trans Zv) (Z101 ((Z100 _).trans Zv) (Z101 ((Z100 _).trans Zv) (Z101 ((Z103 _).trans Zv) (Z101 rfl (Z101 rfl (Z101 rfl (Z101 rfl (Z101 rfl (Z101 ((Z100 _).trans Zv) (Z101 ((Z100 _).trans Zv) (Z101 rfl (Z101 ((Z103 _).trans Zv) (Z101 ((Z100 _).trans Zv) (Z101 rfl (Z101 rfl (Z101 ((Z100 _).trans Zv) h)))))))))))))))))))))
theorem HdrC.C_requests_cpy (s : HdrC) {lo : Nat} {l : List (BitVec 8)} (h : lo + l.length ≤ 32) : spl s.C (556 + lo) (u8s l) = ({ s with requests := cpV s.requests lo l } : HdrC).C := by
 rw [show 556 + lo = 32 + (32 + (20 + (32 + (32 + (32 + (256 + (4 + (1 + (1 + (1 + (1 + (1 + (32 + (8 + (1 + (4 + (32 + (1 + (1 + (32 + (lo))))))))))))))))))))) by omega]; exact (Z104 ((Z100 _).trans Zv) (Z104 ((Z100 _).trans Zv) (Z104 ((Z100 _).trans Zv) (Z104 ((Z100 _).trans Zv) (Z104 ((Z100 _).trans Zv) (Z104 ((Z100 _).trans Zv) (Z104 ((Z100 _).trans Zv) (Z104 ((Z103 _).trans Zv) (Z104 rfl (Z104 rfl (Z104 rfl (Z104 rfl (Z104 rfl (Z104 ((Z100 _).trans Zv) (Z104 ((Z100 _).trans Zv) (Z104 rfl (Z104 ((Z103 _).trans Zv) (Z104 ((Z100 _).trans Zv) (Z104 rfl (Z104 rfl (Z104 ((Z100 _).trans Zv) (u8s_cpV _ h))))))))))))))))))))))
structure Hdr where
 parent : Vector (BitVec 8) 32
 uncles : Vector (BitVec 8) 32
 coinbase : Vector (BitVec 8) 20
 state : Vector (BitVec 8) 32
 txRoot : Vector (BitVec 8) 32
 receiptRoot : Vector (BitVec 8) 32
 bloom : Vector (BitVec 8) 256
 difficulty : Vector (BitVec 64) 4
 number : BitVec 64
 limit : BitVec 64
 used : BitVec 64
 time : BitVec 64
 extra : List (BitVec 8)
 mix : Vector (BitVec 8) 32
 nonce : Vector (BitVec 8) 8
 tail : Int
 baseFee : Vector (BitVec 64) 4
 withdrawals : Vector (BitVec 8) 32
 blobUsed : BitVec 64
 blobExcess : BitVec 64
 beacon : Vector (BitVec 8) 32
 requests : Vector (BitVec 8) 32
def HdrRd (Φ : Ctx) (cs : List Value) (x : Hdr) : Prop := ∃ (A_extra : Option Addr), ∃ (c_extra : Nat), cs = (⟨x.parent, x.uncles, x.coinbase, x.state, x.txRoot, x.receiptRoot, x.bloom, x.difficulty, x.number, x.limit, x.used, x.time, .slice A_extra x.extra.length c_extra, x.mix, x.nonce, x.tail, x.baseFee, x.withdrawals, x.blobUsed, x.blobExcess, x.beacon, x.requests⟩ : HdrC).C ∧ (View Φ A_extra x.extra.length c_extra 1 (u8s x.extra)) ∧ (-9223372036854775808 ≤ x.tail ∧ x.tail ≤ 9223372036854775807)
theorem HdrRd.opn {Φ : Ctx} {cs : List Value} {x : Hdr} (h : HdrRd Φ cs x) : ∃ (A_extra : Option Addr), ∃ (c_extra : Nat), cs = (⟨x.parent, x.uncles, x.coinbase, x.state, x.txRoot, x.receiptRoot, x.bloom, x.difficulty, x.number, x.limit, x.used, x.time, .slice A_extra x.extra.length c_extra, x.mix, x.nonce, x.tail, x.baseFee, x.withdrawals, x.blobUsed, x.blobExcess, x.beacon, x.requests⟩ : HdrC).C ∧ (View Φ A_extra x.extra.length c_extra 1 (u8s x.extra)) ∧ (-9223372036854775808 ≤ x.tail ∧ x.tail ≤ 9223372036854775807) := h
theorem HdrRd.mono {Φ Ψ : Ctx} (hh : ∀ w, Ψ w → Φ w) (cs : List Value) (x : Hdr) : HdrRd Φ cs x → HdrRd Ψ cs x := fun ⟨A_extra, c_extra, e, v_extra, b_tail⟩ => ⟨A_extra, c_extra, e, v_extra.mono hh, b_tail⟩
theorem HdrRd.len {Φ : Ctx} (cs : List Value) (x : Hdr) (h : HdrRd Φ cs x) : cs.length = 588 := by
 obtain ⟨A_extra, c_extra, e, v_extra, b_tail⟩ := h
 rw [e]; exact HdrC.C_length _
theorem HdrRd.one {Φ : Ctx} (cs : List Value) (x : Hdr) (h : HdrRd Φ cs x) : ∀ u ∈ cs, u.oneCell' = true := by
 obtain ⟨A_extra, c_extra, e, v_extra, b_tail⟩ := h
 rw [e]; exact HdrC.C_one _ rfl
theorem HdrRd.mk {Φ : Ctx} {parent : Vector (BitVec 8) 32} {uncles : Vector (BitVec 8) 32} {coinbase : Vector (BitVec 8) 20} {state : Vector (BitVec 8) 32} {txRoot : Vector (BitVec 8) 32} {receiptRoot : Vector (BitVec 8) 32} {bloom : Vector (BitVec 8) 256} {difficulty : Vector (BitVec 64) 4} {number : BitVec 64} {limit : BitVec 64} {used : BitVec 64} {time : BitVec 64} {extra : List (BitVec 8)} {mix : Vector (BitVec 8) 32} {nonce : Vector (BitVec 8) 8} {tail : Int} {baseFee : Vector (BitVec 64) 4} {withdrawals : Vector (BitVec 8) 32} {blobUsed : BitVec 64} {blobExcess : BitVec 64} {beacon : Vector (BitVec 8) 32} {requests : Vector (BitVec 8) 32} {A_extra : Option Addr} {c_extra : Nat} (v_extra : View Φ A_extra extra.length c_extra 1 (u8s extra)) (b_tail : -9223372036854775808 ≤ tail ∧ tail ≤ 9223372036854775807) : HdrRd Φ (⟨parent, uncles, coinbase, state, txRoot, receiptRoot, bloom, difficulty, number, limit, used, time, .slice A_extra extra.length c_extra, mix, nonce, tail, baseFee, withdrawals, blobUsed, blobExcess, beacon, requests⟩ : HdrC).C (⟨parent, uncles, coinbase, state, txRoot, receiptRoot, bloom, difficulty, number, limit, used, time, extra, mix, nonce, tail, baseFee, withdrawals, blobUsed, blobExcess, beacon, requests⟩ : Hdr) := ⟨A_extra, c_extra, rfl, v_extra, b_tail⟩
end Go.Fw
namespace Go.Fw
def keccak_Sponge_absorb.l1 (a0 : Sponge) : Nat → (Nat) → (Sponge) → Option ((Sponge))
 | 0, _, _ => none
 | k16 + 1, n13, w15 => (if n13 < 136 then (a0.part[n13]?).bind fun x24 => (if (n13 / 8) < 25 then (w15.lanes[(n13 / 8)]?).bind fun x28 => (keccak_Sponge_absorb.l1 a0 k16 (n13 + 1) ({ w15 with lanes := w15.lanes.setIfInBounds (n13 / 8) (x28 ^^^ ((x24.setWidth 64) <<< (8 * (n13 % 8)))) } : Sponge)) else none) else (some (w15)))
def keccak_Sponge_absorb (a0 : Sponge) : Option ((Sponge)) := (((keccak_Sponge_absorb.l1 a0 (136 - 0 + 2) 0 a0) : Option ((Sponge))).bind fun w3 => ((keccak_Permute w3.lanes).bind fun x10 => (some ({ ({ w3 with lanes := x10 } : Sponge) with held := (0 : Int) } : Sponge))))
def keccak_Sponge_Write.l1 : Nat → (List (BitVec 8)) → (Sponge) → Option ((Sponge))
 | 0, _, _ => none
 | k20 + 1, l15, w19 => (if 0 < l15.length then (if 0 ≤ w19.held then (if (w19.held).toNat < 136 then (if (min l15.length (136 - ((w19.held).toNat))) ≤ l15.length then (if -9223372036854775808 ≤ (({ w19 with part := cpV w19.part ((w19.held).toNat) (l15.take (min l15.length (136 - ((w19.held).toNat)))) } : Sponge).held + (((min l15.length (136 - ((w19.held).toNat))) : Nat) : Int)) ∧ (({ w19 with part := cpV w19.part ((w19.held).toNat) (l15.take (min l15.length (136 - ((w19.held).toNat)))) } : Sponge).held + (((min l15.length (136 - ((w19.held).toNat))) : Nat) : Int)) ≤ 9223372036854775807 then (((if ({ ({ w19 with part := cpV w19.part ((w19.held).toNat) (l15.take (min l15.length (136 - ((w19.held).toNat)))) } : Sponge) with held := (({ w19 with part := cpV w19.part ((w19.held).toNat) (l15.take (min l15.length (136 - ((w19.held).toNat)))) } : Sponge).held + (((min l15.length (136 - ((w19.held).toNat))) : Nat) : Int)) } : Sponge).held = (136 : Int) then ((keccak_Sponge_absorb ({ ({ w19 with part := cpV w19.part ((w19.held).toNat) (l15.take (min l15.length (136 - ((w19.held).toNat)))) } : Sponge) with held := (({ w19 with part := cpV w19.part ((w19.held).toNat) (l15.take (min l15.length (136 - ((w19.held).toNat)))) } : Sponge).held + (((min l15.length (136 - ((w19.held).toNat))) : Nat) : Int)) } : Sponge)).bind fun x47 => (some (x47))) else (some (({ ({ w19 with part := cpV w19.part ((w19.held).toNat) (l15.take (min l15.length (136 - ((w19.held).toNat)))) } : Sponge) with held := (({ w19 with part := cpV w19.part ((w19.held).toNat) (l15.take (min l15.length (136 - ((w19.held).toNat)))) } : Sponge).held + (((min l15.length (136 - ((w19.held).toNat))) : Nat) : Int)) } : Sponge)))) : Option ((Sponge))).bind fun w39 => (keccak_Sponge_Write.l1 k20 (l15.drop (min l15.length (136 - ((w19.held).toNat)))) w39)) else none) else none) else none) else none) else (some (w19)))
def keccak_Sponge_Write (a0 : Sponge) (a1 : List (BitVec 8)) : Option ((Sponge)) := (if -9223372036854775808 ≤ (a0.long + ((a1.length : Nat) : Int)) ∧ (a0.long + ((a1.length : Nat) : Int)) ≤ 9223372036854775807 then (((keccak_Sponge_Write.l1 (a1.length - 0 + 2) a1 ({ a0 with long := (a0.long + ((a1.length : Nat) : Int)) } : Sponge)) : Option ((Sponge))).bind fun w7 => (some w7)) else none)
def keccak_Sponge_Sum.l1 (x14 : Sponge) : Nat → (Nat) → (Vector (BitVec 8) 32) → Option ((Vector (BitVec 8) 32))
 | 0, _, _ => none
 | k32 + 1, n29, w31 => (if n29 < 32 then (if (n29 / 8) < 25 then (x14.lanes[(n29 / 8)]?).bind fun x41 => (keccak_Sponge_Sum.l1 x14 k32 (n29 + 1) (w31.setIfInBounds n29 ((x41 >>> (8 * (n29 % 8))).setWidth 8))) else none) else (some (w31)))
def keccak_Sponge_Sum (a0 : Sponge) : Option ((Vector (BitVec 8) 32) × (Sponge)) := (if 0 ≤ a0.held then (if (a0.held).toNat < 136 then (if 0 ≤ ({ a0 with part := cpV a0.part ((a0.held).toNat) (List.replicate (136 - ((a0.held).toNat)) 0#8) } : Sponge).held then (if (({ a0 with part := cpV a0.part ((a0.held).toNat) (List.replicate (136 - ((a0.held).toNat)) 0#8) } : Sponge).held).toNat < 136 then (({ a0 with part := cpV a0.part ((a0.held).toNat) (List.replicate (136 - ((a0.held).toNat)) 0#8) } : Sponge).part[(({ a0 with part := cpV a0.part ((a0.held).toNat) (List.replicate (136 - ((a0.held).toNat)) 0#8) } : Sponge).held).toNat]?).bind fun x7 => (if 0 ≤ ({ a0 with part := cpV a0.part ((a0.held).toNat) (List.replicate (136 - ((a0.held).toNat)) 0#8) } : Sponge).kind then (firstL[(({ a0 with part := cpV a0.part ((a0.held).toNat) (List.replicate (136 - ((a0.held).toNat)) 0#8) } : Sponge).kind).toNat]?).bind fun x10 => ((keccak_Sponge_absorb ({ ({ ({ a0 with part := cpV a0.part ((a0.held).toNat) (List.replicate (136 - ((a0.held).toNat)) 0#8) } : Sponge) with part := ({ a0 with part := cpV a0.part ((a0.held).toNat) (List.replicate (136 - ((a0.held).toNat)) 0#8) } : Sponge).part.setIfInBounds ((({ a0 with part := cpV a0.part ((a0.held).toNat) (List.replicate (136 - ((a0.held).toNat)) 0#8) } : Sponge).held).toNat) (x7 ^^^ x10) } : Sponge) with part := ({ ({ a0 with part := cpV a0.part ((a0.held).toNat) (List.replicate (136 - ((a0.held).toNat)) 0#8) } : Sponge) with part := ({ a0 with part := cpV a0.part ((a0.held).toNat) (List.replicate (136 - ((a0.held).toNat)) 0#8) } : Sponge).part.setIfInBounds ((({ a0 with part := cpV a0.part ((a0.held).toNat) (List.replicate (136 - ((a0.held).toNat)) 0#8) } : Sponge).held).toNat) (x7 ^^^ x10) } : Sponge).part.setIfInBounds 135 (({ ({ a0 with part := cpV a0.part ((a0.held).toNat) (List.replicate (136 - ((a0.held).toNat)) 0#8) } : Sponge) with part := ({ a0 with part := cpV a0.part ((a0.held).toNat) (List.replicate (136 - ((a0.held).toNat)) 0#8) } : Sponge).part.setIfInBounds ((({ a0 with part := cpV a0.part ((a0.held).toNat) (List.replicate (136 - ((a0.held).toNat)) 0#8) } : Sponge).held).toNat) (x7 ^^^ x10) } : Sponge).part[135] ^^^ 128#8) } : Sponge)).bind fun x14 => (((keccak_Sponge_Sum.l1 x14 (32 - 0 + 2) 0 (Vector.replicate 32 0#8)) : Option ((Vector (BitVec 8) 32))).bind fun w23 => (some (w23, a0)))) else none) else none) else none) else none) else none)
def keccak_digest.l1 (a1 : List (List (BitVec 8))) : Nat → (Nat) → (Sponge) → Option ((Sponge))
 | 0, _, _ => none
 | k27 + 1, n24, w26 => (if n24 < a1.length then (a1[n24]?).bind fun x35 => ((keccak_Sponge_Write w26 x35).bind fun x47 => (keccak_digest.l1 a1 k27 (n24 + 1) x47)) else (some (w26)))
def keccak_digest (a0 : Int) (a1 : List (List (BitVec 8))) : Option ((Vector (BitVec 8) 32)) := (((keccak_digest.l1 a1 (a1.length - 0 + 2) 0 ({ (⟨0, (Vector.replicate 25 0#64), (Vector.replicate 136 0#8), 0, 0⟩ : Sponge) with kind := a0 } : Sponge)) : Option ((Sponge))).bind fun w8 => ((keccak_Sponge_Sum w8).bind fun (x15, x16) => (some x15)))
def keccak_Sum (a0 : List (List (BitVec 8))) : Option ((Vector (BitVec 8) 32)) := ((keccak_digest (0 : Int) a0).bind fun x4 => (some x4))
end Go.Fw
namespace Go.Fw
def waybillref02_filled.l1 : Nat → (List (BitVec 8)) → Option ((List (BitVec 8)))
 | 0, _ => none
 | k41 + 1, l36 => (if (l36.length % 136) = 0 then (some (l36)) else (if l36.length + ([0#8] : List (BitVec 8)).length ≤ 140737488355328 then (waybillref02_filled.l1 k41 (l36 ++ ([0#8] : List (BitVec 8)))) else none))
def waybillref02_filled (a0 : List (BitVec 8)) (a1 : BitVec 8) : Option ((List (BitVec 8))) := (if a0.length + ([a1] : List (BitVec 8)).length ≤ 140737488355328 then (((waybillref02_filled.l1 140 (a0 ++ ([a1] : List (BitVec 8)))) : Option ((List (BitVec 8)))).bind fun l17 => (if 0 ≤ (((l17.length : Nat) : Int) - (1 : Int)) then (l17[((((l17.length : Nat) : Int) - (1 : Int))).toNat]?).bind fun x29 => (l17[((((l17.length : Nat) : Int) - (1 : Int))).toNat]?).bind fun x32 => (some (l17.set (((((l17.length : Nat) : Int) - (1 : Int))).toNat) (x29 ||| 128#8))) else none)) else none)
def waybillref02_joined.l1 (a0 : List (List (BitVec 8))) : Nat → (List (BitVec 8)) → (Nat) → Option ((List (BitVec 8)))
 | 0, _, _ => none
 | k22 + 1, l15, n20 => (if n20 < a0.length then (a0[n20]?).bind fun x31 => (if l15.length + x31.length ≤ 140737488355328 then (waybillref02_joined.l1 a0 k22 (l15 ++ x31) (n20 + 1)) else none) else (some (l15)))
def waybillref02_joined (a0 : List (List (BitVec 8))) : Option ((List (BitVec 8))) := (((waybillref02_joined.l1 a0 (a0.length - 0 + 2) ([] : List (BitVec 8)) 0) : Option ((List (BitVec 8)))).bind fun l4 => (some l4))
def waybillref02_Digest.l1 (w18 : Vector (BitVec 64) 25) : Nat → (Nat) → (Vector (BitVec 8) 32) → Option ((Vector (BitVec 8) 32))
 | 0, _, _ => none
 | k36 + 1, n33, w35 => (if n33 < 32 then (if (n33 / 8) < 25 then (w18[(n33 / 8)]?).bind fun x45 => (waybillref02_Digest.l1 w18 k36 (n33 + 1) (w35.setIfInBounds n33 ((x45 >>> (BitVec.ofNat 64 (8 * (n33 % 8))).toNat).setWidth 8))) else none) else (some (w35)))
def waybillref02_Digest.l3 (x4 : List (BitVec 8)) (n47 : Nat) : Nat → (Nat) → (Vector (BitVec 64) 25) → Option ((Vector (BitVec 64) 25))
 | 0, _, _ => none
 | k75 + 1, n72, w74 => (if n72 < 136 then (if (n72 / 8) < 25 then (w74[(n72 / 8)]?).bind fun x85 => (x4[(n47 + n72)]?).bind fun x87 => (waybillref02_Digest.l3 x4 n47 k75 (n72 + 1) (w74.setIfInBounds (n72 / 8) (x85 ^^^ ((x87.setWidth 64) <<< (BitVec.ofNat 64 (8 * (n72 % 8))).toNat)))) else none) else (some (w74)))
def waybillref02_Digest.l2 (x4 : List (BitVec 8)) : Nat → (Nat) → (Vector (BitVec 64) 25) → Option ((Vector (BitVec 64) 25))
 | 0, _, _ => none
 | k50 + 1, n47, w49 => (if n47 < x4.length then (((waybillref02_Digest.l3 x4 n47 (136 - 0 + 2) 0 w49) : Option ((Vector (BitVec 64) 25))).bind fun w61 => ((keccak_Permute w61).bind fun x69 => (waybillref02_Digest.l2 x4 k50 (n47 + 136) x69))) else (some (w49)))
def waybillref02_Digest (a0 : List (BitVec 8)) (a1 : BitVec 8) : Option ((Vector (BitVec 8) 32)) := ((waybillref02_filled a0 a1).bind fun x4 => (((waybillref02_Digest.l2 x4 (x4.length - 0 + 2) 0 (Vector.replicate 25 0#64)) : Option ((Vector (BitVec 64) 25))).bind fun w18 => (((waybillref02_Digest.l1 w18 (32 - 0 + 2) 0 (Vector.replicate 32 0#8)) : Option ((Vector (BitVec 8) 32))).bind fun w27 => (some w27))))
def waybillref02_Sum (a0 : List (List (BitVec 8))) : Option ((Vector (BitVec 8) 32)) := ((waybillref02_joined a0).bind fun x4 => ((waybillref02_Digest x4 (1#8)).bind fun x17 => (some x17)))
end Go.Fw
namespace Go.Fw
open Go Go.RowKit
section
variable {P : Program} {n : Nat} {Q : Exit → Act → World → Prop} {w0 : World} {L : Z135} {M E R : List Ent}
variable {ops : Array Oper} {hard : List Nat} {f : Nat} {done : Array Bool} {op : Op} {ty : TypeId} {pos : String} {aft : Array Edge} {g : Option (Nat × Bool)} {d : Nat} {v : Value}
theorem NV.boxA {x : Operand} {e : TypeId} {vs : List Value} (hx : ev L x = some (.agg vs.toArray)) : NV P w0 L M (.box e x) (fun b => ptr (some b) 0) vs e := fun ρ w hρ m o ho => by
 simp [execOp, ho, hρ x _ hx, Instr.box, newVar, newRow, ptr, blk, Value.cells]
end
end Go.Fw

/- Part of a proof: rules that its law uses. -/
import Derived.WalkKit
import Derived.Deep.Quiet
import Derived.Deep.LoopGhost
import Derived.Deep.AppendSrc
import Derived.Deep.MidRow
import Derived.Laws.CopyRow
import Derived.Laws.MakeOwn
import Derived.Below
import Derived.LoopN
namespace Go.Fw
open Go Go.RowKit
set_option linter.unusedVariables false
abbrev Slots := List (Nat × Value)
def lk : Slots → Nat → Option Value
  | [], _ => none
  | (i, v) :: r, k => match Nat.beq i k with
    | true => some v
    | false => lk r k
structure Fr (n : Nat) (L : Slots) (a : Act) : Prop where
  size : a.tmps.size = n
  nd : a.defers = []
  get : ∀ k v, lk L k = some v → a.tmps[k]? = some v
def ev (L : Slots) : Operand → Option Value
  | .tmp t => lk L t
  | .const v => some v
  | .global g => some (.pointer (some ⟨g, 0, none⟩))
  | .func f => some (.func (.func f) #[] #[])
def evs (L : Slots) : List Operand → Option (List Value)
  | [] => some []
  | x :: r => match ev L x with
    | some v => (match evs L r with
      | some vs => some (v :: vs)
      | none => none)
    | none => none
theorem Fr.eval {n : Nat} {L : Slots} {a : Act} (h : Fr n L a) {x : Operand} {v : Value} (hx : ev L x = some v) : a.eval x = v := by
  cases x with
  | tmp t =>
    have := h.get t v hx
    simp [Act.eval, this]
  | const c => simpa [ev, Act.eval] using hx
  | global g => simpa [ev, Act.eval] using hx
  | func f => simpa [ev, Act.eval] using hx
theorem Fr.put {n : Nat} {L : Slots} {a : Act} (h : Fr n L a) {d : Nat} (hd : Nat.blt d n = true) (v : Value) : Fr n ((d, v) :: L) (a.put (some d) v) := by
  have hd' : d < n := by simpa using hd
  refine ⟨by simp [Act.put, h.size], by simp [Act.put, h.nd], fun k u hk => ?_⟩
  simp only [lk] at hk
  by_cases hdk : d = k
  · subst hdk
    simp at hk
    subst hk
    simp [Act.put, h.size, hd']
  · have hb : Nat.beq d k = false := by cases h : Nat.beq d k with | false => rfl | true => exact absurd (Nat.eq_of_beq_eq_true h) hdk
    rw [hb] at hk
    have := h.get k u hk
    simp [Act.put, hdk, this]
theorem Fr.sub {n : Nat} {L L' : Slots} {a : Act} (h : Fr n L a) (hs : ∀ k v, lk L' k = some v → lk L k = some v) : Fr n L' a :=
  ⟨h.size, h.nd, fun k v hk => h.get k v (hs k v hk)⟩
def Sub (L : Slots) : Slots → Prop
  | [] => True
  | (k, v) :: r => lk L k = some v ∧ Sub L r
theorem Sub.get {L : Slots} : ∀ {L' : Slots}, Sub L L' → ∀ k v, lk L' k = some v → lk L k = some v
  | [], _, k, v, h => by simp [lk] at h
  | (i, u) :: r, hs, k, v, h => by
    simp only [lk] at h
    split at h
    · rename_i hb
      have : i = k := by simpa using hb
      subst this
      rw [hs.1]; exact h
    · exact Sub.get hs.2 k v h
theorem Fr.weaken {n : Nat} {L L' : Slots} {a : Act} (h : Fr n L a) (hs : Sub L L') : Fr n L' a := h.sub hs.get
abbrev Ent := Option Nat × Obj
def blk (l : List Value) (t : TypeId) : Obj := .cells l.toArray t (0, 0)
structure Mem (w0 w : World) (M : List Ent) : Prop where
  os : w.os = w0.os
  tape : w.tape = w0.tape
  output : w.output = w0.output
  size : w0.heap.size ≤ w.heap.size
  old : ∀ b, b < w0.heap.size → w.heap[b]? = w0.heap[b]?
  ents : ∀ e ∈ M, ∀ b, e.1 = some b → w0.heap.size ≤ b ∧ w.heap[b]? = some e.2
  apart : M.Pairwise fun e e' => ∀ b, e.1 = some b → e'.1 ≠ some b
theorem Mem.below {w0 w : World} {M : List Ent} (h : Mem w0 w M) : Below w0.heap.size w0 w := ⟨h.os, h.tape, h.output, h.size, h.old⟩
theorem Mem.refl (w : World) : Mem w w [] := ⟨rfl, rfl, rfl, Nat.le_refl _, fun _ _ => rfl, (fun _ h => by cases h), List.Pairwise.nil⟩
theorem Mem.tail {w0 w : World} {e : Ent} {M : List Ent} (h : Mem w0 w (e :: M)) : Mem w0 w M :=
  ⟨h.os, h.tape, h.output, h.size, h.old, fun e' he' => h.ents e' (List.mem_cons_of_mem _ he'), (List.pairwise_cons.1 h.apart).2⟩
theorem Mem.sublist {w0 w : World} {M M' : List Ent} (h : Mem w0 w M) (hs : M'.Sublist M) : Mem w0 w M' :=
  ⟨h.os, h.tape, h.output, h.size, h.old, fun e he => h.ents e (hs.subset he), h.apart.sublist hs⟩
theorem Mem.perm {w0 w : World} {M M' : List Ent} (h : Mem w0 w M) (hp : M.Perm M') : Mem w0 w M' :=
  ⟨h.os, h.tape, h.output, h.size, h.old, fun e he => h.ents e (hp.mem_iff.2 he), hp.pairwise h.apart (fun {x y} hxy b hy hx => hxy b hx hy)⟩
theorem Mem.rot1 {w0 w : World} {M : List Ent} {e0 e1 : Ent} (m : Mem w0 w (e0 :: e1 :: M)) : Mem w0 w (e1 :: e0 :: M) := m.perm (List.perm_middle (l₁ := [e0]))
theorem Mem.back1 {w0 w : World} {M : List Ent} {e0 e1 : Ent} (m : Mem w0 w (e1 :: e0 :: M)) : Mem w0 w (e0 :: e1 :: M) := m.perm (List.perm_middle (l₁ := [e0])).symm
theorem Mem.rot2 {w0 w : World} {M : List Ent} {e0 e1 e2 : Ent} (m : Mem w0 w (e0 :: e1 :: e2 :: M)) : Mem w0 w (e2 :: e0 :: e1 :: M) := m.perm (List.perm_middle (l₁ := [e0, e1]))
theorem Mem.back2 {w0 w : World} {M : List Ent} {e0 e1 e2 : Ent} (m : Mem w0 w (e2 :: e0 :: e1 :: M)) : Mem w0 w (e0 :: e1 :: e2 :: M) := m.perm (List.perm_middle (l₁ := [e0, e1])).symm
theorem Mem.rot3 {w0 w : World} {M : List Ent} {e0 e1 e2 e3 : Ent} (m : Mem w0 w (e0 :: e1 :: e2 :: e3 :: M)) : Mem w0 w (e3 :: e0 :: e1 :: e2 :: M) := m.perm (List.perm_middle (l₁ := [e0, e1, e2]))
theorem Mem.back3 {w0 w : World} {M : List Ent} {e0 e1 e2 e3 : Ent} (m : Mem w0 w (e3 :: e0 :: e1 :: e2 :: M)) : Mem w0 w (e0 :: e1 :: e2 :: e3 :: M) := m.perm (List.perm_middle (l₁ := [e0, e1, e2])).symm
theorem Mem.rot4 {w0 w : World} {M : List Ent} {e0 e1 e2 e3 e4 : Ent} (m : Mem w0 w (e0 :: e1 :: e2 :: e3 :: e4 :: M)) : Mem w0 w (e4 :: e0 :: e1 :: e2 :: e3 :: M) := m.perm (List.perm_middle (l₁ := [e0, e1, e2, e3]))
theorem Mem.back4 {w0 w : World} {M : List Ent} {e0 e1 e2 e3 e4 : Ent} (m : Mem w0 w (e4 :: e0 :: e1 :: e2 :: e3 :: M)) : Mem w0 w (e0 :: e1 :: e2 :: e3 :: e4 :: M) := m.perm (List.perm_middle (l₁ := [e0, e1, e2, e3])).symm
theorem Mem.rot5 {w0 w : World} {M : List Ent} {e0 e1 e2 e3 e4 e5 : Ent} (m : Mem w0 w (e0 :: e1 :: e2 :: e3 :: e4 :: e5 :: M)) : Mem w0 w (e5 :: e0 :: e1 :: e2 :: e3 :: e4 :: M) := m.perm (List.perm_middle (l₁ := [e0, e1, e2, e3, e4]))
theorem Mem.back5 {w0 w : World} {M : List Ent} {e0 e1 e2 e3 e4 e5 : Ent} (m : Mem w0 w (e5 :: e0 :: e1 :: e2 :: e3 :: e4 :: M)) : Mem w0 w (e0 :: e1 :: e2 :: e3 :: e4 :: e5 :: M) := m.perm (List.perm_middle (l₁ := [e0, e1, e2, e3, e4])).symm
theorem Mem.rot6 {w0 w : World} {M : List Ent} {e0 e1 e2 e3 e4 e5 e6 : Ent} (m : Mem w0 w (e0 :: e1 :: e2 :: e3 :: e4 :: e5 :: e6 :: M)) : Mem w0 w (e6 :: e0 :: e1 :: e2 :: e3 :: e4 :: e5 :: M) := m.perm (List.perm_middle (l₁ := [e0, e1, e2, e3, e4, e5]))
theorem Mem.back6 {w0 w : World} {M : List Ent} {e0 e1 e2 e3 e4 e5 e6 : Ent} (m : Mem w0 w (e6 :: e0 :: e1 :: e2 :: e3 :: e4 :: e5 :: M)) : Mem w0 w (e0 :: e1 :: e2 :: e3 :: e4 :: e5 :: e6 :: M) := m.perm (List.perm_middle (l₁ := [e0, e1, e2, e3, e4, e5])).symm
theorem Mem.rot7 {w0 w : World} {M : List Ent} {e0 e1 e2 e3 e4 e5 e6 e7 : Ent} (m : Mem w0 w (e0 :: e1 :: e2 :: e3 :: e4 :: e5 :: e6 :: e7 :: M)) : Mem w0 w (e7 :: e0 :: e1 :: e2 :: e3 :: e4 :: e5 :: e6 :: M) := m.perm (List.perm_middle (l₁ := [e0, e1, e2, e3, e4, e5, e6]))
theorem Mem.back7 {w0 w : World} {M : List Ent} {e0 e1 e2 e3 e4 e5 e6 e7 : Ent} (m : Mem w0 w (e7 :: e0 :: e1 :: e2 :: e3 :: e4 :: e5 :: e6 :: M)) : Mem w0 w (e0 :: e1 :: e2 :: e3 :: e4 :: e5 :: e6 :: e7 :: M) := m.perm (List.perm_middle (l₁ := [e0, e1, e2, e3, e4, e5, e6])).symm
theorem Mem.rot8 {w0 w : World} {M : List Ent} {e0 e1 e2 e3 e4 e5 e6 e7 e8 : Ent} (m : Mem w0 w (e0 :: e1 :: e2 :: e3 :: e4 :: e5 :: e6 :: e7 :: e8 :: M)) : Mem w0 w (e8 :: e0 :: e1 :: e2 :: e3 :: e4 :: e5 :: e6 :: e7 :: M) := m.perm (List.perm_middle (l₁ := [e0, e1, e2, e3, e4, e5, e6, e7]))
theorem Mem.back8 {w0 w : World} {M : List Ent} {e0 e1 e2 e3 e4 e5 e6 e7 e8 : Ent} (m : Mem w0 w (e8 :: e0 :: e1 :: e2 :: e3 :: e4 :: e5 :: e6 :: e7 :: M)) : Mem w0 w (e0 :: e1 :: e2 :: e3 :: e4 :: e5 :: e6 :: e7 :: e8 :: M) := m.perm (List.perm_middle (l₁ := [e0, e1, e2, e3, e4, e5, e6, e7])).symm
theorem Mem.lt {w0 w : World} {M : List Ent} (h : Mem w0 w M) {e : Ent} (he : e ∈ M) {b : Nat} (hb : e.1 = some b) : b < w.heap.size :=
  (Array.getElem?_eq_some_iff.1 (h.ents e he b hb).2).1
theorem Mem.like {w0 w w' : World} {M : List Ent} (h : Mem w0 w M) (hh : w'.heap = w.heap) (ho : w'.os = w.os) (ht : w'.tape = w.tape) (hu : w'.output = w.output) : Mem w0 w' M :=
  ⟨ho.trans h.os, ht.trans h.tape, hu.trans h.output, by rw [hh]; exact h.size, fun b hb => by rw [hh]; exact h.old b hb, fun e he b hb => by rw [hh]; exact h.ents e he b hb, h.apart⟩
theorem Mem.drew {w0 w : World} {M : List Ent} (h : Mem w0 w M) : Mem w0 w.drew M := h.like rfl rfl rfl rfl
theorem Mem.alloc {w0 w : World} {M : List Ent} (h : Mem w0 w M) (o : Obj) : Mem w0 (w.alloc o) ((some w.heap.size, o) :: M) := by
  refine ⟨h.os, h.tape, h.output, by have := h.size; simp; omega, fun b hb => ?_, ?_, ?_⟩
  · rw [Below.heap_alloc w o b (by have := h.size; omega)]; exact h.old b hb
  · intro e he b hb
    rcases List.mem_cons.1 he with rfl | he
    · simp at hb; subst hb
      exact ⟨h.size, by show (w.heap.push o)[w.heap.size]? = some o; simp⟩
    · exact ⟨(h.ents e he b hb).1, by rw [Below.heap_alloc w o b (h.lt he hb)]; exact (h.ents e he b hb).2⟩
  · refine List.pairwise_cons.2 ⟨fun e he b hb hb' => ?_, h.apart⟩
    simp at hb
    have := h.lt he hb'
    omega
theorem Mem.turned {w0 w w' : World} {M : List Ent} {ob : Option Nat} {o o' : Obj} (h : Mem w0 w ((ob, o) :: M)) (ho : w'.os = w.os) (ht : w'.tape = w.tape) (hu : w'.output = w.output)
    (hs : w'.heap.size = w.heap.size) (h1 : ∀ b, ob = some b → w'.heap[b]? = some o') (h2 : ∀ k, ob ≠ some k → w'.heap[k]? = w.heap[k]?) : Mem w0 w' ((ob, o') :: M) := by
  have hap := List.pairwise_cons.1 h.apart
  refine ⟨ho.trans h.os, ht.trans h.tape, hu.trans h.output, by rw [hs]; exact h.size, fun b hb => ?_, ?_, ?_⟩
  · rw [h2 b (fun e => by have := (h.ents _ (List.mem_cons_self ..) b e).1; omega)]; exact h.old b hb
  · intro e he b hb
    rcases List.mem_cons.1 he with rfl | he
    · exact ⟨(h.ents _ (List.mem_cons_self ..) b hb).1, h1 b hb⟩
    · have := h.ents e (List.mem_cons_of_mem _ he) b hb
      exact ⟨this.1, by rw [h2 b (fun e' => hap.1 e he b e' hb)]; exact this.2⟩
  · exact List.pairwise_cons.2 ⟨fun e he => hap.1 e he, hap.2⟩
theorem Mem.nil_ent {w0 w : World} {M : List Ent} (h : Mem w0 w M) (o : Obj) : Mem w0 w ((none, o) :: M) :=
  ⟨h.os, h.tape, h.output, h.size, h.old, fun e he b hb => by
    rcases List.mem_cons.1 he with rfl | he
    · cases hb
    · exact h.ents e he b hb, List.pairwise_cons.2 ⟨(fun e he b hb => by cases hb), h.apart⟩⟩
theorem Mem.cell {w0 w : World} {M : List Ent} (h : Mem w0 w M) {b : Nat} {l : List Value} {t : TypeId} (he : (some b, blk l t) ∈ M) (i : Nat) : w.cell? ⟨b, i, none⟩ = l[i]? := by
  have := (h.ents _ he b rfl).2
  simp [World.cell?, this, blk]
theorem Mem.notFrozen {w0 w : World} {M : List Ent} (h : Mem w0 w M) {b : Nat} {l : List Value} {t : TypeId} (he : (some b, blk l t) ∈ M) (i : Nat) : w.frozen? ⟨b, i, none⟩ = false := by
  have := (h.ents _ he b rfl).2
  simp [World.frozen?, this, blk]
theorem Mem.oldCell {w0 w : World} {M : List Ent} (h : Mem w0 w M) {a : Addr} (ha : a.block < w0.heap.size) : w.cell? a = w0.cell? a := World.cell?_of_block (w := w0) (h.old a.block ha)
theorem Mem.oldSome {w0 w : World} {M : List Ent} (h : Mem w0 w M) {a : Addr} {v : Value} (ha : w0.cell? a = some v) : w.cell? a = some v := by
  rw [h.oldCell, ha]
  unfold World.cell? at ha
  split at ha
  · rename_i hb; exact (Array.getElem?_eq_some_iff.1 hb).1
  · cases ha
def Mem.Says (w0 : World) (M : List Ent) (φ : World → Prop) : Prop := ∀ w, Mem w0 w M → φ w
theorem Mem.Says.cons {w0 : World} {M : List Ent} {φ : World → Prop} {e : Ent} (h : Mem.Says w0 M φ) : Mem.Says w0 (e :: M) φ := fun w hw => h w hw.tail
section
variable {P : Program}
def OW (P : Program) (n : Nat) (ops : Array Oper) (Q : Exit → Act → World → Prop) (w0 : World) (l : List Oper) (L : Slots) (M : List Ent) : Prop :=
  ∀ a w, Fr n L a → Mem w0 w M → wpList P ops Q l a w
def CW (P : Program) (n : Nat) (Q : Exit → Act → World → Prop) (w0 : World) (c : Code) (L : Slots) (M : List Ent) : Prop :=
  ∀ a w, Fr n L a → Mem w0 w M → c.wp P Q a w
def QW (n : Nat) (Q : Exit → Act → World → Prop) (w0 : World) (e : Exit) (L : Slots) (M : List Ent) : Prop :=
  ∀ a w, Fr n L a → Mem w0 w M → Q e a w
def DW (P : Program) (n : Nat) (ops : Array Oper) (Q : Exit → Act → World → Prop) (w0 : World) (l : List Oper) (L : Slots) (M : List Ent) : Prop :=
  ∀ a, Fr n L a → wpQuiet P ops (fun w => Mem w0 w M) (fun a' => ∀ w', Mem w0 w' M → Q .normal a' w') l a
variable {n : Nat} {Q : Exit → Act → World → Prop} {w0 : World} {L : Slots} {M : List Ent}
theorem CW.seq {x y : Code} (h : CW P n (Exit.then (y.wp P Q) Q) w0 x L M) : CW P n Q w0 (.seq x y) L M := fun a w f m => wp_seq (h a w f m)
theorem QW.then_n {y : Code} {Q' : Exit → Act → World → Prop} (h : CW P n Q w0 y L M) : QW n (Exit.then (y.wp P Q) Q') w0 .normal L M := fun a w f m => h a w f m
theorem QW.then_x {K : Act → World → Prop} {id : Nat} (h : QW n Q w0 (.exit id) L M) : QW n (Exit.then K Q) w0 (.exit id) L M := fun a w f m => h a w f m
theorem QW.then_r {K : Act → World → Prop} (h : QW n Q w0 .ret L M) : QW n (Exit.then K Q) w0 .ret L M := fun a w f m => h a w f m
theorem QW.then_g {K : Act → World → Prop} {id : Nat} (h : QW n Q w0 (.goto id) L M) : QW n (Exit.then K Q) w0 (.goto id) L M := fun a w f m => h a w f m
theorem CW.block {id : Nat} {c : Code} (h : CW P n (Exit.inBlock id Q) w0 c L M) : CW P n Q w0 (.block id c) L M := fun a w f m => wp_block (h a w f m)
theorem QW.block_n {id : Nat} (h : QW n Q w0 .normal L M) : QW n (Exit.inBlock id Q) w0 .normal L M := fun a w f m => h a w f m
theorem QW.block_xe {id : Nat} (h : QW n Q w0 .normal L M) : QW n (Exit.inBlock id Q) w0 (.exit id) L M := fun a w f m => by simp [Exit.inBlock]; exact h a w f m
theorem QW.block_xn {i id : Nat} (hne : Nat.beq i id = false) (h : QW n Q w0 (.exit i) L M) : QW n (Exit.inBlock id Q) w0 (.exit i) L M := fun a w f m => by
  have : i ≠ id := Nat.ne_of_beq_eq_false hne
  simp [Exit.inBlock, this]; exact h a w f m
theorem QW.block_r {id : Nat} (h : QW n Q w0 .ret L M) : QW n (Exit.inBlock id Q) w0 .ret L M := fun a w f m => h a w f m
theorem CW.ret (h : QW n Q w0 .ret L M) : CW P n Q w0 .ret L M := fun a w f m => wp_ret (h a w f m)
theorem CW.exit {id : Nat} (h : QW n Q w0 (.exit id) L M) : CW P n Q w0 (.exit id) L M := fun a w f m => wp_exit (h a w f m)
theorem CW.skip (h : QW n Q w0 .normal L M) : CW P n Q w0 .skip L M := fun a w f m => wp_skip (h a w f m)
theorem CW.cond {c : Operand} {x y : Code} {b : Bool} (hc : ev L c = some (.bool b)) (ht : b = true → CW P n Q w0 x L M) (hf : b = false → CW P n Q w0 y L M) : CW P n Q w0 (.cond c x y) L M := fun a w f m => by
  refine wp_cond (f.eval hc) ?_
  cases b with
  | true => exact ht rfl a w f m
  | false => exact hf rfl a w f m
theorem CW.cond_p {c : Operand} {x y : Code} {p : Prop} [Decidable p] (hc : ev L c = some (.bool (decide p))) (ht : p → CW P n Q w0 x L M) (hf : ¬ p → CW P n Q w0 y L M) : CW P n Q w0 (.cond c x y) L M :=
  CW.cond hc (fun h => ht (of_decide_eq_true h)) (fun h => hf (of_decide_eq_false h))
theorem CW.cond_np {c : Operand} {x y : Code} {p : Prop} [Decidable p] (hc : ev L c = some (.bool (!decide p))) (ht : ¬ p → CW P n Q w0 x L M) (hf : p → CW P n Q w0 y L M) : CW P n Q w0 (.cond c x y) L M :=
  CW.cond hc (fun h => ht (by simpa using h)) (fun h => hf (by simpa using h))
theorem CW.cond_t {c : Operand} {x y : Code} (hc : ev L c = some (.bool true)) (h : CW P n Q w0 x L M) : CW P n Q w0 (.cond c x y) L M := CW.cond hc (fun _ => h) (fun e => by cases e)
theorem CW.cond_f {c : Operand} {x y : Code} (hc : ev L c = some (.bool false)) (h : CW P n Q w0 y L M) : CW P n Q w0 (.cond c x y) L M := CW.cond hc (fun e => by cases e) (fun _ => h)
theorem CW.region {id : Nat} {l : List Oper} (h : OW P n l.toArray Q w0 l L M) : CW P n Q w0 (.region id l.toArray false) L M := fun a w f m => wp_region_lit (h a w f m)
theorem CW.draws {id : Nat} {l : List Oper} (hm : P.follows .mixedOrders = true) (hB : Region.lexB .any l.toArray = true) (h : DW P n l.toArray Q w0 l L M) : CW P n Q w0 (.region id l.toArray true) L M := fun a w f m =>
  wp_region_quiet (C := fun w => Mem w0 w M) hm hB (m.like rfl rfl rfl rfl) (by simpa using h a f)
theorem CW.frame {L' : Slots} {c : Code} (hs : Sub L L') (h : CW P n Q w0 c L' M) : CW P n Q w0 c L M := fun a w f m => h a w (f.weaken hs) m
theorem CW.mem {M' : List Ent} {c : Code} (hs : ∀ w, Mem w0 w M → Mem w0 w M') (h : CW P n Q w0 c L M') : CW P n Q w0 c L M := fun a w f m => h a w f (hs w m)
theorem QW.mem {M' : List Ent} {e : Exit} (hs : ∀ w, Mem w0 w M → Mem w0 w M') (h : QW n Q w0 e L M') : QW n Q w0 e L M := fun a w f m => h a w f (hs w m)
def Again (n : Nat) (w0 : World) {σ : Type} (I : σ → Prop) (Lσ : σ → Slots) (Mσ : σ → List Ent) (μ : σ → Nat) (m : Nat) (a : Act) (w : World) : Prop :=
  ∃ s, I s ∧ μ s < m ∧ Fr n (Lσ s) a ∧ Mem w0 w (Mσ s)
theorem CW.loop {c : Code} {σ : Type} (I : σ → Prop) (Lσ : σ → Slots) (Mσ : σ → List Ent) (μ : σ → Nat) (s0 : σ) (h0 : I s0) (hL : Sub L (Lσ s0)) (hM : ∀ w, Mem w0 w M → Mem w0 w (Mσ s0))
    (round : ∀ s, I s → CW P n (Exit.then (Again n w0 I Lσ Mσ μ (μ s)) Q) w0 c (Lσ s) (Mσ s)) : CW P n Q w0 (.loop c) L M := fun a w f m => by
  refine wp_loop_ghost (fun k a w => ∃ s, I s ∧ μ s = k ∧ Fr n (Lσ s) a ∧ Mem w0 w (Mσ s)) (μ s0) ⟨s0, h0, rfl, f.weaken hL, hM w m⟩ ?_
  rintro k a w ⟨s, hI, rfl, f, m⟩
  refine wp_mono (round s hI a w f m) ?_
  rintro e a w h
  cases e <;> first
    | exact h
    | (obtain ⟨s', h1, h2, h3, h4⟩ := h; exact ⟨_, h2, s', h1, rfl, h3, h4⟩)
theorem QW.again {σ : Type} {I : σ → Prop} {Lσ : σ → Slots} {Mσ : σ → List Ent} {μ : σ → Nat} {m : Nat} (s : σ) (hI : I s) (hμ : μ s < m) (hL : Sub L (Lσ s)) (hM : ∀ w, Mem w0 w M → Mem w0 w (Mσ s)) :
    QW n (Exit.then (Again n w0 I Lσ Mσ μ m) Q) w0 .normal L M := fun a w f mm => ⟨s, hI, hμ, f.weaken hL, hM w mm⟩
def RW (P : Program) (n : Nat) (Q : Exit → Act → World → Prop) (w0 : World) (c : Code) (k : Nat) (L : Slots) (M : List Ent) : Prop :=
  ∀ a w, Fr n L a → Mem w0 w M → Code.rounds P c Q k a w
theorem CW.loopN {c : Code} (k : Nat) (h : RW P n Q w0 c k L M) : CW P n Q w0 (.loop c) L M := fun a w f m => wp_loop_rounds k (h a w f m)
def Rnd (P : Program) (c : Code) (Q : Exit → Act → World → Prop) (k : Nat) : Act → World → Prop := Code.rounds P c Q k
theorem RW.succ {c : Code} {k : Nat} (h : CW P n (Exit.then (Rnd P c Q k) Q) w0 c L M) : RW P n Q w0 c (k + 1) L M := fun a w f m => h a w f m
theorem QW.then_k {c : Code} {k : Nat} {Q' : Exit → Act → World → Prop} (h : RW P n Q w0 c k L M) : QW n (Exit.then (Rnd P c Q k) Q') w0 .normal L M := fun a w f m => h a w f m
def slotsFrom : Nat → List Value → Slots
  | _, [] => []
  | i, v :: r => (i, v) :: slotsFrom (i + 1) r
theorem lk_slotsFrom : ∀ (l : List Value) (i k : Nat) (v : Value), lk (slotsFrom i l) k = some v → i ≤ k ∧ l[k - i]? = some v
  | [], _, _, _, h => by simp [slotsFrom, lk] at h
  | u :: r, i, k, v, h => by
    simp only [slotsFrom, lk] at h
    split at h
    · rename_i hb
      have : i = k := by simpa using hb
      subst this
      simpa using h
    · rename_i hb
      have hne : i ≠ k := Nat.ne_of_beq_eq_false hb
      have := lk_slotsFrom r (i + 1) k v h
      refine ⟨by omega, ?_⟩
      rw [show k - i = (k - (i + 1)) + 1 by omega]
      simpa using this.2
def Does (P : Program) (f : FuncId) (args : List Value) (w0 : World) (M : List Ent) {τ : Type} (I : τ → Prop) (v : τ → Value) (M' : τ → List Ent) : Prop :=
  ∀ w, Mem w0 w M → Calls P f args.toArray w fun e w' => ∃ x, I x ∧ e = .returned (v x) ∧ Mem w0 w' (M' x)
def Ends (w0 : World) {τ : Type} (I : τ → Prop) (v : τ → Value) (M' : τ → List Ent) : Ending → World → Prop := fun e w' => ∃ x, I x ∧ e = .returned (v x) ∧ Mem w0 w' (M' x)
theorem Does.enter {f : FuncId} {fn : Func} {c : Code} {args : List Value} {τ : Type} {I : τ → Prop} {v : τ → Value} {M' : τ → List Ent} (hf : P.funcs[f]? = some fn) (hb : fn.body = some c) (hn : fn.ntmps = n) (ha : Nat.ble args.length n = true)
    (h : CW P n (bodyPost P fn (Ends w0 I v M')) w0 c (slotsFrom 0 args) M) : Does P f args w0 M I v M' := fun w m => by
  have ha' : args.length ≤ n := by simpa using ha
  refine calls_of_wp hf hb (h _ w ⟨by simp [hn]; omega, rfl, fun k u hk => ?_⟩ m)
  have := (lk_slotsFrom args 0 k u hk).2
  simp at this
  have hk' : k < args.length := (List.getElem?_eq_some_iff.1 this).1
  simp [Array.getElem?_append, hk']
  exact (List.getElem?_eq_some_iff.1 this).2
theorem Does.of_mem {f : FuncId} {args : List Value} {τ : Type} {I : τ → Prop} {v : τ → Value} {M' : τ → List Ent} (h : ∀ w, Mem w0 w M → Does P f args w0 M I v M') : Does P f args w0 M I v M' := fun w m => h w m w m
theorem Does.law {f : FuncId} {args : List Value} {W : World} {τ : Type} {I : τ → Prop} {M' : τ → List Ent} (h : Does P f args W [] I (fun _ => .bool true) M') : Calls P f args.toArray W fun e W' => e = .returned (.bool true) ∧ Below W.heap.size W W' :=
  (h W (Mem.refl W)).mono fun e W' ⟨x, _, he, m⟩ => ⟨he, m.below⟩
theorem QW.ret1 {fn : Func} {t : Tmp} {τ : Type} {I : τ → Prop} {v : τ → Value} {M' : τ → List Ent} (hr : fn.results = #[.tmp t]) (x : τ) (hI : I x) (hv : lk L t = some (v x)) (hM : ∀ w, Mem w0 w M → Mem w0 w (M' x)) :
    QW n (bodyPost P fn (Ends w0 I v M')) w0 .ret L M := fun a w f m => by
  refine ⟨f.nd, v x, ?_, x, hI, rfl, hM w m⟩
  have := f.get t _ hv
  rw [results_tmp hr]
  simp [this]
theorem QW.ret2 {fn : Func} {t u : Tmp} {τ : Type} {I : τ → Prop} {v : τ → Value} {M' : τ → List Ent} (hr : fn.results = #[.tmp t, .tmp u]) (x : τ) (hI : I x) {v1 v2 : Value} (h1 : lk L t = some v1) (h2 : lk L u = some v2) (hv : .tuple #[v1, v2] = v x)
    (hM : ∀ w, Mem w0 w M → Mem w0 w (M' x)) : QW n (bodyPost P fn (Ends w0 I v M')) w0 .ret L M := fun a w f m => by
  refine ⟨f.nd, v x, ?_, x, hI, rfl, hM w m⟩
  have e1 := f.get t _ h1
  have e2 := f.get u _ h2
  rw [results_tmp2 hr, ← hv]
  simp [e1, e2]
theorem QW.ret0 {fn : Func} {τ : Type} {I : τ → Prop} {v : τ → Value} {M' : τ → List Ent} (hr : fn.results = #[]) (x : τ) (hI : I x) (hv : .tuple #[] = v x) (hM : ∀ w, Mem w0 w M → Mem w0 w (M' x)) (e : Exit) (he : e = .ret ∨ e = .normal) :
    QW n (bodyPost P fn (Ends w0 I v M')) w0 e L M := fun a w f m => by
  rcases he with rfl | rfl <;> exact ⟨f.nd, v x, by rw [results_none hr, hv], x, hI, rfl, hM w m⟩
def RV (P : Program) (w0 : World) (L : Slots) (M : List Ent) (op : Op) (v : Value) : Prop :=
  ∀ (ρ : Operand → Value) (w : World), (∀ x u, ev L x = some u → ρ x = u) → Mem w0 w M → ∀ o : Oper, o.op = op → (execOp ρ o).run P w = .ok (.value v) w
def AV (P : Program) (w0 : World) (L : Slots) (M : List Ent) (op : Op) {τ : Type} (I : τ → Prop) (v : τ → Value) (M' : τ → List Ent) : Prop :=
  ∀ (ρ : Operand → Value) (w : World), (∀ x u, ev L x = some u → ρ x = u) → Mem w0 w M → ∀ o : Oper, o.op = op → ∃ x w', I x ∧ (execOp ρ o).run P w = .ok (.value (v x)) w' ∧ Mem w0 w' (M' x)
def SV (P : Program) (w0 : World) (L : Slots) (M : List Ent) (op : Op) (M' : List Ent) : Prop :=
  ∀ (ρ : Operand → Value) (w : World), (∀ x u, ev L x = some u → ρ x = u) → Mem w0 w M → ∀ o : Oper, o.op = op → ∃ w', (execOp ρ o).run P w = .ok .skip w' ∧ Mem w0 w' M'
variable {ops : Array Oper} {rest : List Oper} {op : Op} {ty : TypeId} {pos : String} {aft : Array Edge} {d : Nat} {v : Value}
theorem OW.nil (h : QW n Q w0 .normal L M) : OW P n ops Q w0 [] L M := fun a w f m => wpList_nil (h a w f m)
theorem OW.rv (hop : RV P w0 L M op v) (hd : Nat.blt d n = true) (k : OW P n ops Q w0 rest ((d, v) :: L) M) : OW P n ops Q w0 (⟨some d, op, ty, pos, aft, none⟩ :: rest) L M := fun a w f m =>
  wpList_plain rfl fun K hK => by
    unfold Oper.wp
    rw [hop a.eval w (fun x u hx => f.eval hx) m _ rfl]
    exact hK _ _ (k _ _ (f.put hd v) m)
theorem OW.av {τ : Type} {I : τ → Prop} {v : τ → Value} {M' : τ → List Ent} (hop : AV P w0 L M op I v M') (hd : Nat.blt d n = true) (k : ∀ x, I x → OW P n ops Q w0 rest ((d, v x) :: L) (M' x)) :
    OW P n ops Q w0 (⟨some d, op, ty, pos, aft, none⟩ :: rest) L M := fun a w f m =>
  wpList_plain rfl fun K hK => by
    obtain ⟨x, w', hI, hr, m'⟩ := hop a.eval w (fun x u hx => f.eval hx) m ⟨some d, op, ty, pos, aft, none⟩ rfl
    unfold Oper.wp
    rw [hr]
    exact hK _ _ (k x hI _ _ (f.put hd _) m')
theorem OW.sv {M' : List Ent} (hop : SV P w0 L M op M') (k : OW P n ops Q w0 rest L M') : OW P n ops Q w0 (⟨none, op, ty, pos, aft, none⟩ :: rest) L M := fun a w f m =>
  wpList_plain rfl fun K hK => by
    obtain ⟨w', hr, m'⟩ := hop a.eval w (fun x u hx => f.eval hx) m ⟨none, op, ty, pos, aft, none⟩ rfl
    unfold Oper.wp
    rw [hr]
    exact hK _ _ (k _ _ f m')
theorem OW.av_none {τ : Type} {I : τ → Prop} {v : τ → Value} {M' : τ → List Ent} (hop : AV P w0 L M op I v M') (k : ∀ x, I x → OW P n ops Q w0 rest L (M' x)) :
    OW P n ops Q w0 (⟨none, op, ty, pos, aft, none⟩ :: rest) L M := fun a w f m =>
  wpList_plain rfl fun K hK => by
    obtain ⟨x, w', hI, hr, m'⟩ := hop a.eval w (fun x u hx => f.eval hx) m ⟨none, op, ty, pos, aft, none⟩ rfl
    unfold Oper.wp
    rw [hr]
    exact hK _ _ (k x hI _ _ f m')
theorem RV.av (h : RV P w0 L M op v) : AV P w0 L M op (fun _ : Unit => True) (fun _ => v) (fun _ => M) := fun ρ w hρ m o ho => ⟨(), w, trivial, h ρ w hρ m o ho, m⟩
theorem evs_map {ρ : Operand → Value} (hρ : ∀ x u, ev L x = some u → ρ x = u) : ∀ (l : List Operand) (vs : List Value), evs L l = some vs → l.map ρ = vs
  | [], vs, h => by simp [evs] at h; simp [← h]
  | x :: r, vs, h => by
    simp only [evs] at h
    split at h
    · rename_i u hu
      split at h
      · rename_i us hus
        have := evs_map hρ r us hus
        simp at h
        simp [← h, hρ x u hu, this]
      · cases h
    · cases h
theorem OW.call {f : FuncId} {xs : List Operand} {ats : Array TypeId} {args : List Value} {τ : Type} {I : τ → Prop} {v : τ → Value} {M' : τ → List Ent} (hc : ∀ (args : Array Value) (w : World), (callFunc f args).run P w = .ok (.enter f args) w)
    (hxs : evs L xs = some args) (hdo : Does P f args w0 M I v M') (hd : Nat.blt d n = true) (k : ∀ x, I x → OW P n ops Q w0 rest ((d, v x) :: L) (M' x)) :
    OW P n ops Q w0 (⟨some d, .call ⟨.value (.func f), xs.toArray, ats⟩, ty, pos, aft, none⟩ :: rest) L M := fun a w fr m =>
  wpList_plain rfl fun K hK => by
    have hev := evs_map (fun x u hx => fr.eval hx) xs args hxs
    have hrun : (execOp a.eval ⟨some d, .call ⟨.value (.func f), xs.toArray, ats⟩, ty, pos, aft, none⟩).run P w = .ok (.enter f args.toArray) w := by
      simp [execOp, resolve, Deferred.ofValue, Act.eval, invoke, hev, hc]
    unfold Oper.wp
    rw [hrun]
    refine (hdo w m).mono ?_
    rintro e w' ⟨x, hI, rfl, m'⟩
    exact hK _ _ (k x hI _ _ (fr.put hd _) m')
theorem OW.call_none {f : FuncId} {xs : List Operand} {ats : Array TypeId} {args : List Value} {τ : Type} {I : τ → Prop} {v : τ → Value} {M' : τ → List Ent} (hc : ∀ (args : Array Value) (w : World), (callFunc f args).run P w = .ok (.enter f args) w)
    (hxs : evs L xs = some args) (hdo : Does P f args w0 M I v M') (k : ∀ x, I x → OW P n ops Q w0 rest L (M' x)) :
    OW P n ops Q w0 (⟨none, .call ⟨.value (.func f), xs.toArray, ats⟩, ty, pos, aft, none⟩ :: rest) L M := fun a w fr m =>
  wpList_plain rfl fun K hK => by
    have hev := evs_map (fun x u hx => fr.eval hx) xs args hxs
    have hrun : (execOp a.eval ⟨none, .call ⟨.value (.func f), xs.toArray, ats⟩, ty, pos, aft, none⟩).run P w = .ok (.enter f args.toArray) w := by
      simp [execOp, resolve, Deferred.ofValue, Act.eval, invoke, hev, hc]
    unfold Oper.wp
    rw [hrun]
    refine (hdo w m).mono ?_
    rintro e w' ⟨x, hI, rfl, m'⟩
    exact hK _ _ (k x hI _ _ fr m')
def yl (ops : Array Oper) (L : Slots) (j : Nat) : Option Value := match (ops[j]?).bind (·.dst) with | some d => lk L d | none => none
theorem yielded_of {a : Act} (f : Fr n L a) {j : Nat} {v : Value} (h : yl ops L j = some v) : yielded ops a.tmps j = match v with | .bool b => some b | _ => none := by
  unfold yl at h
  split at h
  · rename_i d hd
    have := f.get d v h
    simp only [yielded, hd, Option.bind_some, this]
    cases v <;> rfl
  · cases h
theorem OW.want {dst : Option Nat} {j : Nat} {b : Bool} (hy : yl ops L j = some (.bool b)) (h : OW P n ops Q w0 (⟨dst, op, ty, pos, aft, none⟩ :: rest) L M) : OW P n ops Q w0 (⟨dst, op, ty, pos, aft, some (j, b)⟩ :: rest) L M := fun a w f m => by
  have h' := h a w f m
  have hw : Region.wanted ⟨dst, op, ty, pos, aft, some (j, b)⟩ (yielded ops a.tmps) = true := by simp [Region.wanted, yielded_of f hy]
  unfold wpList at h' ⊢
  rw [if_pos (by simp [Region.wanted])] at h'
  rw [if_pos hw]
  exact h'
theorem OW.skip {j : Nat} {b : Bool} {y : Value} (hy : yl ops L j = some y) (hne : (match y with | .bool c => c == b | _ => false) = false) (hd : Nat.blt d n = true) (h : OW P n ops Q w0 rest ((d, undef) :: L) M) :
    OW P n ops Q w0 (⟨some d, op, ty, pos, aft, some (j, b)⟩ :: rest) L M := fun a w f m => by
  have hw : Region.wanted ⟨some d, op, ty, pos, aft, some (j, b)⟩ (yielded ops a.tmps) = false := by
    simp only [Region.wanted, yielded_of f hy]
    cases y <;> simp_all
  exact wpList_skip hw (h _ w (f.put hd undef) m)
theorem OW.skip_none {j : Nat} {b : Bool} {y : Value} (hy : yl ops L j = some y) (hne : (match y with | .bool c => c == b | _ => false) = false) (h : OW P n ops Q w0 rest L M) :
    OW P n ops Q w0 (⟨none, op, ty, pos, aft, some (j, b)⟩ :: rest) L M := fun a w f m => by
  have hw : Region.wanted ⟨none, op, ty, pos, aft, some (j, b)⟩ (yielded ops a.tmps) = false := by
    simp only [Region.wanted, yielded_of f hy]
    cases y <;> simp_all
  exact wpList_skip hw (h _ w f m)
theorem DW.nil (h : QW n Q w0 .normal L M) : DW P n ops Q w0 [] L M := fun a f => wpQuiet_nil fun w m => h a w f m
theorem DW.rv (hop : RV P w0 L M op v) (hd : Nat.blt d n = true) (k : DW P n ops Q w0 rest ((d, v) :: L) M) : DW P n ops Q w0 (⟨some d, op, ty, pos, aft, none⟩ :: rest) L M := fun a f =>
  wpQuiet_step fun K hK => by
    simp only [Region.wanted, if_true]
    refine ⟨v, fun w m => ?_, hK _ (k _ (f.put hd v))⟩
    unfold Oper.quietAt
    rw [hop a.eval w (fun x u hx => f.eval hx) m _ rfl]
    exact ⟨rfl, rfl⟩
theorem DW.call {f : FuncId} {xs : List Operand} {ats : Array TypeId} {args : List Value} {τ : Type} {I : τ → Prop} {u : τ → Value} {M' : τ → List Ent} (v : Value) (hc : ∀ (args : Array Value) (w : World), (callFunc f args).run P w = .ok (.enter f args) w)
    (hxs : evs L xs = some args) (hdo : Does P f args w0 M I u M') (hu : ∀ x, I x → u x = v) (hM : ∀ x, I x → ∀ w, Mem w0 w (M' x) → Mem w0 w M) (hd : Nat.blt d n = true) (k : DW P n ops Q w0 rest ((d, v) :: L) M) :
    DW P n ops Q w0 (⟨some d, .call ⟨.value (.func f), xs.toArray, ats⟩, ty, pos, aft, none⟩ :: rest) L M := fun a fr =>
  wpQuiet_step fun K hK => by
    simp only [Region.wanted, if_true]
    refine ⟨v, fun w m => ?_, hK _ (k _ (fr.put hd v))⟩
    have hev := evs_map (fun x u hx => fr.eval hx) xs args hxs
    have hrun : (execOp a.eval ⟨some d, .call ⟨.value (.func f), xs.toArray, ats⟩, ty, pos, aft, none⟩).run P w = .ok (.enter f args.toArray) w := by
      simp [execOp, resolve, Deferred.ofValue, Act.eval, invoke, hev, hc]
    unfold Oper.quietAt
    rw [hrun]
    refine ⟨rfl, (hdo w m).mono ?_⟩
    rintro e w' ⟨x, hI, rfl, m'⟩
    exact ⟨by rw [hu x hI], hM x hI w' m'⟩
theorem DW.want {dst : Option Nat} {j : Nat} {b : Bool} (hy : yl ops L j = some (.bool b)) (h : DW P n ops Q w0 (⟨dst, op, ty, pos, aft, none⟩ :: rest) L M) : DW P n ops Q w0 (⟨dst, op, ty, pos, aft, some (j, b)⟩ :: rest) L M := fun a f => by
  have h' := h a f
  have hw : Region.wanted ⟨dst, op, ty, pos, aft, some (j, b)⟩ (yielded ops a.tmps) = true := by simp [Region.wanted, yielded_of f hy]
  unfold wpQuiet at h' ⊢
  rw [if_pos (by simp [Region.wanted])] at h'
  rw [if_pos hw]
  exact h'
theorem DW.skip {j : Nat} {b : Bool} {y : Value} (hy : yl ops L j = some y) (hne : (match y with | .bool c => c == b | _ => false) = false) (hd : Nat.blt d n = true) (h : DW P n ops Q w0 rest ((d, undef) :: L) M) :
    DW P n ops Q w0 (⟨some d, op, ty, pos, aft, some (j, b)⟩ :: rest) L M := fun a f => by
  have hw : Region.wanted ⟨some d, op, ty, pos, aft, some (j, b)⟩ (yielded ops a.tmps) = false := by
    simp only [Region.wanted, yielded_of f hy]
    cases y <;> simp_all
  unfold wpQuiet
  rw [if_neg (by simp [hw])]
  exact h _ (f.put hd undef)
theorem CW.state {L' : Slots} {M' : List Ent} {c : Code} (hs : Sub L L') (hM : ∀ w, Mem w0 w M → Mem w0 w M') (h : CW P n Q w0 c L' M') : CW P n Q w0 c L M := fun a w f m => h a w (f.weaken hs) (hM w m)
theorem RW.state {L' : Slots} {M' : List Ent} {c : Code} {k : Nat} (hs : Sub L L') (hM : ∀ w, Mem w0 w M → Mem w0 w M') (h : RW P n Q w0 c k L' M') : RW P n Q w0 c k L M := fun a w f m => h a w (f.weaken hs) (hM w m)
theorem OW.elim {ops : Array Oper} {l : List Oper} (h : OW P n ops Q w0 l L M) : ∀ a w, Fr n L a → Mem w0 w M → wpList P ops Q l a w := h
theorem OW.intro {ops : Array Oper} {l : List Oper} (h : ∀ a w, Fr n L a → Mem w0 w M → wpList P ops Q l a w) : OW P n ops Q w0 l L M := h
theorem CW.elim {c : Code} (h : CW P n Q w0 c L M) : ∀ a w, Fr n L a → Mem w0 w M → c.wp P Q a w := h
theorem CW.intro {c : Code} (h : ∀ a w, Fr n L a → Mem w0 w M → c.wp P Q a w) : CW P n Q w0 c L M := h
theorem QW.elim {e : Exit} (h : QW n Q w0 e L M) : ∀ a w, Fr n L a → Mem w0 w M → Q e a w := h
theorem QW.intro {e : Exit} (h : ∀ a w, Fr n L a → Mem w0 w M → Q e a w) : QW n Q w0 e L M := h
theorem DW.elim {ops : Array Oper} {l : List Oper} (h : DW P n ops Q w0 l L M) : ∀ a, Fr n L a → wpQuiet P ops (fun w => Mem w0 w M) (fun a' => ∀ w', Mem w0 w' M → Q .normal a' w') l a := h
theorem DW.intro {ops : Array Oper} {l : List Oper} (h : ∀ a, Fr n L a → wpQuiet P ops (fun w => Mem w0 w M) (fun a' => ∀ w', Mem w0 w' M → Q .normal a' w') l a) : DW P n ops Q w0 l L M := h
end
attribute [irreducible] OW CW QW DW RW Rnd
end Go.Fw

/- Part of a proof: rules that its law uses. -/
import Derived.WalkKit
import Derived.Deep.Quiet
import Derived.Deep.LoopGhost
import Derived.Deep.AppendSrc
import Derived.Deep.MidRow
import Derived.Laws.CopyRow
import Derived.Laws.MakeOwn
import Derived.Below
import Derived.LoopN
import Derived.Deep.Upon
import Derived.ProofKit
import Derived.Deep.Slices
import Derived.OpenShut
import Derived.Laws.StructEq
import Derived.StillTail
import Derived.SizedLaws
import Derived.Lib.LaidTab
import Derived.LaidSub
import Derived.KernelRfl
import Derived.Test.YtojnakdlnlcmiaaProg
import Derived.Laws.Externs
set_option linter.unusedVariables false
set_option linter.unusedSimpArgs false
set_option linter.unusedSectionVars false
set_option maxRecDepth 100000
set_option maxHeartbeats 1000000
namespace Go.Fw
theorem Zh {α : Type _} {a : α} {l : List α} : a ∈ a :: l := List.Mem.head _
theorem Zi {α : Type _} {a b : α} (h : some a = some b) : a = b := Option.some.inj h
theorem Zv {α : Type _} {n : Nat} {xs : Vector α n} : xs.toList.length = n := Vector.length_toList
theorem Zb {α β : Type _} (a : α) (f : α → Option β) : (some a).bind f = f a := rfl
end Go.Fw
namespace Go.Fw
open Go Go.RowKit
abbrev Z123 := List (Nat × Value)
def lk : Z123 → Nat → Option Value
 | [], _ => none
 | (i, v) :: r, k => match Nat.beq i k with
  | true => some v
  | false => lk r k
structure Fr (n : Nat) (L : Z123) (a : Act) : Prop where
 size : a.tmps.size = n
 nd : a.defers = []
 get : ∀ k v, lk L k = some v → a.tmps[k]? = some v
def ev (L : Z123) : Operand → Option Value
 | .tmp t => lk L t
 | .const v => some v
 | .global g => some (.pointer (some ⟨g, 0, none⟩))
 | .func f => some (.func (.func f) #[] #[])
def evs (L : Z123) : List Operand → Option (List Value)
 | [] => some []
 | x :: r => match ev L x with
  | some v => (match evs L r with
   | some vs => some (v :: vs)
   | none => none)
  | none => none
theorem Fr.eval {n : Nat} {L : Z123} {a : Act} (h : Fr n L a) {x : Operand} {v : Value} (hx : ev L x = some v) : a.eval x = v := by
 cases x with
 | tmp t =>
  have := h.get t v hx
  simp [Act.eval, this]
 | const c => simpa [ev, Act.eval] using hx
 | global g => simpa [ev, Act.eval] using hx
 | func f => simpa [ev, Act.eval] using hx
theorem Fr.put {n : Nat} {L : Z123} {a : Act} (h : Fr n L a) {d : Nat} (hd : Nat.blt d n = true) (v : Value) : Fr n ((d, v) :: L) (a.put (some d) v) := by
 have hd' : d < n := by simpa using hd
 refine ⟨by simp [Act.put, h.size], by simp [Act.put, h.nd], fun k u hk => ?_⟩
 simp only [lk] at hk
 by_cases hdk : d = k
 ·subst hdk
  simp at hk
  subst hk
  simp [Act.put, h.size, hd']
 ·have hb : Nat.beq d k = false := by cases h : Nat.beq d k with | false => rfl | true => exact absurd (Nat.eq_of_beq_eq_true h) hdk
  rw [hb] at hk
  have := h.get k u hk
  simp [Act.put, hdk, this]
theorem Fr.sub {n : Nat} {L L' : Z123} {a : Act} (h : Fr n L a) (hs : ∀ k v, lk L' k = some v → lk L k = some v) : Fr n L' a :=
 ⟨h.size, h.nd, fun k v hk => h.get k v (hs k v hk)⟩
def Sub (L : Z123) : Z123 → Prop
 | [] => True
 | (k, v) :: r => lk L k = some v ∧ Sub L r
theorem Sub.get {L : Z123} : ∀ {L' : Z123}, Sub L L' → ∀ k v, lk L' k = some v → lk L k = some v
 | [], _, k, v, h => by simp [lk] at h
 | (i, u) :: r, hs, k, v, h => by
  simp only [lk] at h
  split at h
  ·rename_i hb
   have : i = k := by simpa using hb
   subst this
   rw [hs.1]; exact h
  ·exact Sub.get hs.2 k v h
theorem Fr.weaken {n : Nat} {L L' : Z123} {a : Act} (h : Fr n L a) (hs : Sub L L') : Fr n L' a := h.sub hs.get
abbrev Ent := Option Nat × Obj
def blk (l : List Value) (t : TypeId) : Obj := .cells l.toArray t (0, 0)
structure Mem (w0 w : World) (M : List Ent) : Prop where
 os : w.os = w0.os
 tape : w.tape = w0.tape
 output : w.output = w0.output
 size : w0.heap.size ≤ w.heap.size
 old : ∀ b, b < w0.heap.size → w.heap[b]? = w0.heap[b]?
 ents : ∀ e ∈ M, ∀ b, e.1 = some b → w0.heap.size ≤ b ∧ w.heap[b]? = some e.2
 apart : M.Pairwise fun e e' => ∀ b, e.1 = some b → e'.1 ≠ some b
theorem Mem.below {w0 w : World} {M : List Ent} (h : Mem w0 w M) : Below w0.heap.size w0 w := ⟨h.os, h.tape, h.output, h.size, h.old⟩
theorem Mem.refl (w : World) : Mem w w [] := ⟨rfl, rfl, rfl, Nat.le_refl _, fun _ _ => rfl, (fun _ h => by cases h), List.Pairwise.nil⟩
theorem Mem.tail {w0 w : World} {e : Ent} {M : List Ent} (h : Mem w0 w (e :: M)) : Mem w0 w M :=
 ⟨h.os, h.tape, h.output, h.size, h.old, fun e' he' => h.ents e' (List.mem_cons_of_mem _ he'), (List.pairwise_cons.1 h.apart).2⟩
theorem Mem.sublist {w0 w : World} {M M' : List Ent} (h : Mem w0 w M) (hs : M'.Sublist M) : Mem w0 w M' :=
 ⟨h.os, h.tape, h.output, h.size, h.old, fun e he => h.ents e (hs.subset he), h.apart.sublist hs⟩
theorem Mem.perm {w0 w : World} {M M' : List Ent} (h : Mem w0 w M) (hp : M.Perm M') : Mem w0 w M' :=
 ⟨h.os, h.tape, h.output, h.size, h.old, fun e he => h.ents e (hp.mem_iff.2 he), hp.pairwise h.apart (fun {x y} hxy b hy hx => hxy b hx hy)⟩
theorem Mem.rot1 {w0 w : World} {M : List Ent} {e0 e1 : Ent} (m : Mem w0 w (e0 :: e1 :: M)) : Mem w0 w (e1 :: e0 :: M) := m.perm (List.perm_middle (l₁ := [e0]))
theorem Mem.rot2 {w0 w : World} {M : List Ent} {e0 e1 e2 : Ent} (m : Mem w0 w (e0 :: e1 :: e2 :: M)) : Mem w0 w (e2 :: e0 :: e1 :: M) := m.perm (List.perm_middle (l₁ := [e0, e1]))
theorem Mem.rot3 {w0 w : World} {M : List Ent} {e0 e1 e2 e3 : Ent} (m : Mem w0 w (e0 :: e1 :: e2 :: e3 :: M)) : Mem w0 w (e3 :: e0 :: e1 :: e2 :: M) := m.perm (List.perm_middle (l₁ := [e0, e1, e2]))
theorem Mem.rot4 {w0 w : World} {M : List Ent} {e0 e1 e2 e3 e4 : Ent} (m : Mem w0 w (e0 :: e1 :: e2 :: e3 :: e4 :: M)) : Mem w0 w (e4 :: e0 :: e1 :: e2 :: e3 :: M) := m.perm (List.perm_middle (l₁ := [e0, e1, e2, e3]))
theorem Mem.lt {w0 w : World} {M : List Ent} (h : Mem w0 w M) {e : Ent} (he : e ∈ M) {b : Nat} (hb : e.1 = some b) : b < w.heap.size :=
 (Array.getElem?_eq_some_iff.1 (h.ents e he b hb).2).1
theorem Mem.like {w0 w w' : World} {M : List Ent} (h : Mem w0 w M) (hh : w'.heap = w.heap) (ho : w'.os = w.os) (ht : w'.tape = w.tape) (hu : w'.output = w.output) : Mem w0 w' M :=
 ⟨ho.trans h.os, ht.trans h.tape, hu.trans h.output, by rw [hh]; exact h.size, fun b hb => by rw [hh]; exact h.old b hb, fun e he b hb => by rw [hh]; exact h.ents e he b hb, h.apart⟩
theorem Mem.drew {w0 w : World} {M : List Ent} (h : Mem w0 w M) : Mem w0 w.drew M := h.like rfl rfl rfl rfl
theorem Mem.alloc {w0 w : World} {M : List Ent} (h : Mem w0 w M) (o : Obj) : Mem w0 (w.alloc o) ((some w.heap.size, o) :: M) := by
 refine ⟨h.os, h.tape, h.output, by have := h.size; simp; omega, fun b hb => ?_, ?_, ?_⟩
 ·rw [Below.heap_alloc w o b (by have := h.size; omega)]; exact h.old b hb
 ·intro e he b hb
  rcases List.mem_cons.1 he with rfl | he
  ·simp at hb; subst hb
   exact ⟨h.size, by show (w.heap.push o)[w.heap.size]? = some o; simp⟩
  ·exact ⟨(h.ents e he b hb).1, by rw [Below.heap_alloc w o b (h.lt he hb)]; exact (h.ents e he b hb).2⟩
 ·refine List.pairwise_cons.2 ⟨fun e he b hb hb' => ?_, h.apart⟩
  simp at hb
  have := h.lt he hb'
  omega
theorem Mem.turned {w0 w w' : World} {M : List Ent} {ob : Option Nat} {o o' : Obj} (h : Mem w0 w ((ob, o) :: M)) (ho : w'.os = w.os) (ht : w'.tape = w.tape) (hu : w'.output = w.output)
    (hs : w'.heap.size = w.heap.size) (h1 : ∀ b, ob = some b → w'.heap[b]? = some o') (h2 : ∀ k, ob ≠ some k → w'.heap[k]? = w.heap[k]?) : Mem w0 w' ((ob, o') :: M) := by
 have hap := List.pairwise_cons.1 h.apart
 refine ⟨ho.trans h.os, ht.trans h.tape, hu.trans h.output, by rw [hs]; exact h.size, fun b hb => ?_, ?_, ?_⟩
 ·rw [h2 b (fun e => by have := (h.ents _ (List.mem_cons_self ..) b e).1; omega)]; exact h.old b hb
 ·intro e he b hb
  rcases List.mem_cons.1 he with rfl | he
  ·exact ⟨(h.ents _ (List.mem_cons_self ..) b hb).1, h1 b hb⟩
  ·have := h.ents e (List.mem_cons_of_mem _ he) b hb
   exact ⟨this.1, by rw [h2 b (fun e' => hap.1 e he b e' hb)]; exact this.2⟩
 ·exact List.pairwise_cons.2 ⟨fun e he => hap.1 e he, hap.2⟩
theorem Mem.nil_ent {w0 w : World} {M : List Ent} (h : Mem w0 w M) (o : Obj) : Mem w0 w ((none, o) :: M) :=
 ⟨h.os, h.tape, h.output, h.size, h.old, fun e he b hb => by
  rcases List.mem_cons.1 he with rfl | he
  ·cases hb
  ·exact h.ents e he b hb, List.pairwise_cons.2 ⟨(fun e he b hb => by cases hb), h.apart⟩⟩
theorem Mem.cell {w0 w : World} {M : List Ent} (h : Mem w0 w M) {b : Nat} {l : List Value} {t : TypeId} (he : (some b, blk l t) ∈ M) (i : Nat) : w.cell? ⟨b, i, none⟩ = l[i]? := by
 have := (h.ents _ he b rfl).2
 simp [World.cell?, this, blk]
theorem Mem.notFrozen {w0 w : World} {M : List Ent} (h : Mem w0 w M) {b : Nat} {l : List Value} {t : TypeId} (he : (some b, blk l t) ∈ M) (i : Nat) : w.frozen? ⟨b, i, none⟩ = false := by
 have := (h.ents _ he b rfl).2
 simp [World.frozen?, this, blk]
theorem Mem.oldCell {w0 w : World} {M : List Ent} (h : Mem w0 w M) {a : Addr} (ha : a.block < w0.heap.size) : w.cell? a = w0.cell? a := World.cell?_of_block (w := w0) (h.old a.block ha)
theorem Mem.oldSome {w0 w : World} {M : List Ent} (h : Mem w0 w M) {a : Addr} {v : Value} (ha : w0.cell? a = some v) : w.cell? a = some v := by
 rw [h.oldCell, ha]
 unfold World.cell? at ha
 split at ha
 ·rename_i hb; exact (Array.getElem?_eq_some_iff.1 hb).1
 ·cases ha
def Mem.Says (w0 : World) (M : List Ent) (φ : World → Prop) : Prop := ∀ w, Mem w0 w M → φ w
theorem Mem.Says.cons {w0 : World} {M : List Ent} {φ : World → Prop} {e : Ent} (h : Mem.Says w0 M φ) : Mem.Says w0 (e :: M) φ := fun w hw => h w hw.tail
section
variable {P : Program}
def OW (P : Program) (n : Nat) (ops : Array Oper) (Q : Exit → Act → World → Prop) (w0 : World) (l : List Oper) (L : Z123) (M : List Ent) : Prop :=
 ∀ a w, Fr n L a → Mem w0 w M → wpList P ops Q l a w
def CW (P : Program) (n : Nat) (Q : Exit → Act → World → Prop) (w0 : World) (c : Code) (L : Z123) (M : List Ent) : Prop :=
 ∀ a w, Fr n L a → Mem w0 w M → c.wp P Q a w
def QW (n : Nat) (Q : Exit → Act → World → Prop) (w0 : World) (e : Exit) (L : Z123) (M : List Ent) : Prop :=
 ∀ a w, Fr n L a → Mem w0 w M → Q e a w
def DW (P : Program) (n : Nat) (ops : Array Oper) (Q : Exit → Act → World → Prop) (w0 : World) (l : List Oper) (L : Z123) (M : List Ent) : Prop :=
 ∀ a, Fr n L a → wpQuiet P ops (fun w => Mem w0 w M) (fun a' => ∀ w', Mem w0 w' M → Q .normal a' w') l a
variable {n : Nat} {Q : Exit → Act → World → Prop} {w0 : World} {L : Z123} {M : List Ent}
theorem Z4 {x y : Code} (h : CW P n (Exit.then (y.wp P Q) Q) w0 x L M) : CW P n Q w0 (.seq x y) L M := fun a w f m => wp_seq (h a w f m)
theorem Z1 {y : Code} {Q' : Exit → Act → World → Prop} (h : CW P n Q w0 y L M) : QW n (Exit.then (y.wp P Q) Q') w0 .normal L M := fun a w f m => h a w f m
theorem Z9 {K : Act → World → Prop} {id : Nat} (h : QW n Q w0 (.exit id) L M) : QW n (Exit.then K Q) w0 (.exit id) L M := fun a w f m => h a w f m
theorem Z8 {K : Act → World → Prop} (h : QW n Q w0 .ret L M) : QW n (Exit.then K Q) w0 .ret L M := fun a w f m => h a w f m
theorem CW.block {id : Nat} {c : Code} (h : CW P n (Exit.inBlock id Q) w0 c L M) : CW P n Q w0 (.block id c) L M := fun a w f m => wp_block (h a w f m)
theorem Z27 {id : Nat} (h : QW n Q w0 .normal L M) : QW n (Exit.inBlock id Q) w0 .normal L M := fun a w f m => h a w f m
theorem Z15 {id : Nat} (h : QW n Q w0 .normal L M) : QW n (Exit.inBlock id Q) w0 (.exit id) L M := fun a w f m => by simp [Exit.inBlock]; exact h a w f m
theorem Z16 {id : Nat} (h : QW n Q w0 .ret L M) : QW n (Exit.inBlock id Q) w0 .ret L M := fun a w f m => h a w f m
theorem CW.ret (h : QW n Q w0 .ret L M) : CW P n Q w0 .ret L M := fun a w f m => wp_ret (h a w f m)
theorem CW.exit {id : Nat} (h : QW n Q w0 (.exit id) L M) : CW P n Q w0 (.exit id) L M := fun a w f m => wp_exit (h a w f m)
theorem CW.skip (h : QW n Q w0 .normal L M) : CW P n Q w0 .skip L M := fun a w f m => wp_skip (h a w f m)
theorem CW.cond {c : Operand} {x y : Code} {b : Bool} (hc : ev L c = some (.bool b)) (ht : b = true → CW P n Q w0 x L M) (hf : b = false → CW P n Q w0 y L M) : CW P n Q w0 (.cond c x y) L M := fun a w f m => by
 refine wp_cond (f.eval hc) ?_
 cases b with
 | true => exact ht rfl a w f m
 | false => exact hf rfl a w f m
theorem Z138 {c : Operand} {x y : Code} {p : Prop} [Decidable p] (hc : ev L c = some (.bool (decide p))) (ht : p → CW P n Q w0 x L M) (hf : ¬ p → CW P n Q w0 y L M) : CW P n Q w0 (.cond c x y) L M :=
 CW.cond hc (fun h => ht (of_decide_eq_true h)) (fun h => hf (of_decide_eq_false h))
theorem CW.cond_np {c : Operand} {x y : Code} {p : Prop} [Decidable p] (hc : ev L c = some (.bool (!decide p))) (ht : ¬ p → CW P n Q w0 x L M) (hf : p → CW P n Q w0 y L M) : CW P n Q w0 (.cond c x y) L M :=
 CW.cond hc (fun h => ht (by simpa using h)) (fun h => hf (by simpa using h))
theorem CW.cond_t {c : Operand} {x y : Code} (hc : ev L c = some (.bool true)) (h : CW P n Q w0 x L M) : CW P n Q w0 (.cond c x y) L M := CW.cond hc (fun _ => h) (fun e => by cases e)
theorem CW.cond_f {c : Operand} {x y : Code} (hc : ev L c = some (.bool false)) (h : CW P n Q w0 y L M) : CW P n Q w0 (.cond c x y) L M := CW.cond hc (fun e => by cases e) (fun _ => h)
theorem Z2 {id : Nat} {l : List Oper} (h : OW P n l.toArray Q w0 l L M) : CW P n Q w0 (.region id l.toArray false) L M := fun a w f m => wp_region_lit (h a w f m)
theorem CW.frame {L' : Z123} {c : Code} (hs : Sub L L') (h : CW P n Q w0 c L' M) : CW P n Q w0 c L M := fun a w f m => h a w (f.weaken hs) m
theorem CW.mem {M' : List Ent} {c : Code} (hs : ∀ w, Mem w0 w M → Mem w0 w M') (h : CW P n Q w0 c L M') : CW P n Q w0 c L M := fun a w f m => h a w f (hs w m)
theorem QW.mem {M' : List Ent} {e : Exit} (hs : ∀ w, Mem w0 w M → Mem w0 w M') (h : QW n Q w0 e L M') : QW n Q w0 e L M := fun a w f m => h a w f (hs w m)
def Again (n : Nat) (w0 : World) {σ : Type} (I : σ → Prop) (Lσ : σ → Z123) (Mσ : σ → List Ent) (μ : σ → Nat) (m : Nat) (a : Act) (w : World) : Prop :=
 ∃ s, I s ∧ μ s < m ∧ Fr n (Lσ s) a ∧ Mem w0 w (Mσ s)
theorem CW.loop {c : Code} {σ : Type} (I : σ → Prop) (Lσ : σ → Z123) (Mσ : σ → List Ent) (μ : σ → Nat) (s0 : σ) (h0 : I s0) (hL : Sub L (Lσ s0)) (hM : ∀ w, Mem w0 w M → Mem w0 w (Mσ s0))
    (round : ∀ s, I s → CW P n (Exit.then (Again n w0 I Lσ Mσ μ (μ s)) Q) w0 c (Lσ s) (Mσ s)) : CW P n Q w0 (.loop c) L M := fun a w f m => by
 refine wp_loop_ghost (fun k a w => ∃ s, I s ∧ μ s = k ∧ Fr n (Lσ s) a ∧ Mem w0 w (Mσ s)) (μ s0) ⟨s0, h0, rfl, f.weaken hL, hM w m⟩ ?_
 rintro k a w ⟨s, hI, rfl, f, m⟩
 refine wp_mono (round s hI a w f m) ?_
 rintro e a w h
 cases e <;> first
  | exact h
  | (obtain ⟨s', h1, h2, h3, h4⟩ := h; exact ⟨_, h2, s', h1, rfl, h3, h4⟩)
theorem QW.again {σ : Type} {I : σ → Prop} {Lσ : σ → Z123} {Mσ : σ → List Ent} {μ : σ → Nat} {m : Nat} (s : σ) (hI : I s) (hμ : μ s < m) (hL : Sub L (Lσ s)) (hM : ∀ w, Mem w0 w M → Mem w0 w (Mσ s)) :
    QW n (Exit.then (Again n w0 I Lσ Mσ μ m) Q) w0 .normal L M := fun a w f mm => ⟨s, hI, hμ, f.weaken hL, hM w mm⟩
def RW (P : Program) (n : Nat) (Q : Exit → Act → World → Prop) (w0 : World) (c : Code) (k : Nat) (L : Z123) (M : List Ent) : Prop :=
 ∀ a w, Fr n L a → Mem w0 w M → Code.rounds P c Q k a w
def Rnd (P : Program) (c : Code) (Q : Exit → Act → World → Prop) (k : Nat) : Act → World → Prop := Code.rounds P c Q k
theorem RW.succ {c : Code} {k : Nat} (h : CW P n (Exit.then (Rnd P c Q k) Q) w0 c L M) : RW P n Q w0 c (k + 1) L M := fun a w f m => h a w f m
def slotsFrom : Nat → List Value → Z123
 | _, [] => []
 | i, v :: r => (i, v) :: slotsFrom (i + 1) r
theorem lk_slotsFrom : ∀ (l : List Value) (i k : Nat) (v : Value), lk (slotsFrom i l) k = some v → i ≤ k ∧ l[k - i]? = some v
 | [], _, _, _, h => by simp [slotsFrom, lk] at h
 | u :: r, i, k, v, h => by
  simp only [slotsFrom, lk] at h
  split at h
  ·rename_i hb
   have : i = k := by simpa using hb
   subst this
   simpa using h
  ·rename_i hb
   have hne : i ≠ k := Nat.ne_of_beq_eq_false hb
   have := lk_slotsFrom r (i + 1) k v h
   refine ⟨by omega, ?_⟩
   rw [show k - i = (k - (i + 1)) + 1 by omega]
   simpa using this.2
def Does (P : Program) (f : FuncId) (args : List Value) (w0 : World) (M : List Ent) {τ : Type} (I : τ → Prop) (v : τ → Value) (M' : τ → List Ent) : Prop :=
 ∀ w, Mem w0 w M → Calls P f args.toArray w fun e w' => ∃ x, I x ∧ e = .returned (v x) ∧ Mem w0 w' (M' x)
def Ends (w0 : World) {τ : Type} (I : τ → Prop) (v : τ → Value) (M' : τ → List Ent) : Ending → World → Prop := fun e w' => ∃ x, I x ∧ e = .returned (v x) ∧ Mem w0 w' (M' x)
theorem Does.enter {f : FuncId} {fn : Func} {c : Code} {args : List Value} {τ : Type} {I : τ → Prop} {v : τ → Value} {M' : τ → List Ent} (hf : P.funcs[f]? = some fn) (hb : fn.body = some c) (hn : fn.ntmps = n) (ha : Nat.ble args.length n = true)
    (h : CW P n (bodyPost P fn (Ends w0 I v M')) w0 c (slotsFrom 0 args) M) : Does P f args w0 M I v M' := fun w m => by
 have ha' : args.length ≤ n := by simpa using ha
 refine calls_of_wp hf hb (h _ w ⟨by simp [hn]; omega, rfl, fun k u hk => ?_⟩ m)
 have := (lk_slotsFrom args 0 k u hk).2
 simp at this
 have hk' : k < args.length := (List.getElem?_eq_some_iff.1 this).1
 simp [Array.getElem?_append, hk']
 exact (List.getElem?_eq_some_iff.1 this).2
theorem Does.law {f : FuncId} {args : List Value} {W : World} {τ : Type} {I : τ → Prop} {M' : τ → List Ent} (h : Does P f args W [] I (fun _ => .bool true) M') : Calls P f args.toArray W fun e W' => e = .returned (.bool true) ∧ Below W.heap.size W W' :=
 (h W (Mem.refl W)).mono fun e W' ⟨x, _, he, m⟩ => ⟨he, m.below⟩
def RV (P : Program) (w0 : World) (L : Z123) (M : List Ent) (op : Op) (v : Value) : Prop :=
 ∀ (ρ : Operand → Value) (w : World), (∀ x u, ev L x = some u → ρ x = u) → Mem w0 w M → ∀ o : Oper, o.op = op → (execOp ρ o).run P w = .ok (.value v) w
def AV (P : Program) (w0 : World) (L : Z123) (M : List Ent) (op : Op) {τ : Type} (I : τ → Prop) (v : τ → Value) (M' : τ → List Ent) : Prop :=
 ∀ (ρ : Operand → Value) (w : World), (∀ x u, ev L x = some u → ρ x = u) → Mem w0 w M → ∀ o : Oper, o.op = op → ∃ x w', I x ∧ (execOp ρ o).run P w = .ok (.value (v x)) w' ∧ Mem w0 w' (M' x)
def SV (P : Program) (w0 : World) (L : Z123) (M : List Ent) (op : Op) (M' : List Ent) : Prop :=
 ∀ (ρ : Operand → Value) (w : World), (∀ x u, ev L x = some u → ρ x = u) → Mem w0 w M → ∀ o : Oper, o.op = op → ∃ w', (execOp ρ o).run P w = .ok .skip w' ∧ Mem w0 w' M'
variable {ops : Array Oper} {rest : List Oper} {op : Op} {ty : TypeId} {pos : String} {aft : Array Edge} {d : Nat} {v : Value}
theorem Z6 (h : QW n Q w0 .normal L M) : OW P n ops Q w0 [] L M := fun a w f m => wpList_nil (h a w f m)
theorem Z0 (hop : RV P w0 L M op v) (hd : Nat.blt d n = true) (k : OW P n ops Q w0 rest ((d, v) :: L) M) : OW P n ops Q w0 (⟨some d, op, ty, pos, aft, none⟩ :: rest) L M := fun a w f m =>
 wpList_plain rfl fun K hK => by
  unfold Oper.wp
  rw [hop a.eval w (fun x u hx => f.eval hx) m _ rfl]
  exact hK _ _ (k _ _ (f.put hd v) m)
theorem OW.av {τ : Type} {I : τ → Prop} {v : τ → Value} {M' : τ → List Ent} (hop : AV P w0 L M op I v M') (hd : Nat.blt d n = true) (k : ∀ x, I x → OW P n ops Q w0 rest ((d, v x) :: L) (M' x)) :
    OW P n ops Q w0 (⟨some d, op, ty, pos, aft, none⟩ :: rest) L M := fun a w f m =>
 wpList_plain rfl fun K hK => by
  obtain ⟨x, w', hI, hr, m'⟩ := hop a.eval w (fun x u hx => f.eval hx) m ⟨some d, op, ty, pos, aft, none⟩ rfl
  unfold Oper.wp
  rw [hr]
  exact hK _ _ (k x hI _ _ (f.put hd _) m')
theorem Z28 {M' : List Ent} (hop : SV P w0 L M op M') (k : OW P n ops Q w0 rest L M') : OW P n ops Q w0 (⟨none, op, ty, pos, aft, none⟩ :: rest) L M := fun a w f m =>
 wpList_plain rfl fun K hK => by
  obtain ⟨w', hr, m'⟩ := hop a.eval w (fun x u hx => f.eval hx) m ⟨none, op, ty, pos, aft, none⟩ rfl
  unfold Oper.wp
  rw [hr]
  exact hK _ _ (k _ _ f m')
theorem OW.av_none {τ : Type} {I : τ → Prop} {v : τ → Value} {M' : τ → List Ent} (hop : AV P w0 L M op I v M') (k : ∀ x, I x → OW P n ops Q w0 rest L (M' x)) :
    OW P n ops Q w0 (⟨none, op, ty, pos, aft, none⟩ :: rest) L M := fun a w f m =>
 wpList_plain rfl fun K hK => by
  obtain ⟨x, w', hI, hr, m'⟩ := hop a.eval w (fun x u hx => f.eval hx) m ⟨none, op, ty, pos, aft, none⟩ rfl
  unfold Oper.wp
  rw [hr]
  exact hK _ _ (k x hI _ _ f m')
theorem RV.av (h : RV P w0 L M op v) : AV P w0 L M op (fun _ : Unit => True) (fun _ => v) (fun _ => M) := fun ρ w hρ m o ho => ⟨(), w, trivial, h ρ w hρ m o ho, m⟩
theorem evs_map {ρ : Operand → Value} (hρ : ∀ x u, ev L x = some u → ρ x = u) : ∀ (l : List Operand) (vs : List Value), evs L l = some vs → l.map ρ = vs
 | [], vs, h => by simp [evs] at h; simp [← h]
 | x :: r, vs, h => by
  simp only [evs] at h
  split at h
  ·rename_i u hu
   split at h
   ·rename_i us hus
    have := evs_map hρ r us hus
    simp at h
    simp [← h, hρ x u hu, this]
   ·cases h
  ·cases h
theorem OW.call {f : FuncId} {xs : List Operand} {ats : Array TypeId} {args : List Value} {τ : Type} {I : τ → Prop} {v : τ → Value} {M' : τ → List Ent} (hc : ∀ (args : Array Value) (w : World), (callFunc f args).run P w = .ok (.enter f args) w)
    (hxs : evs L xs = some args) (hdo : Does P f args w0 M I v M') (hd : Nat.blt d n = true) (k : ∀ x, I x → OW P n ops Q w0 rest ((d, v x) :: L) (M' x)) :
    OW P n ops Q w0 (⟨some d, .call ⟨.value (.func f), xs.toArray, ats⟩, ty, pos, aft, none⟩ :: rest) L M := fun a w fr m =>
 wpList_plain rfl fun K hK => by
  have hev := evs_map (fun x u hx => fr.eval hx) xs args hxs
  have hrun : (execOp a.eval ⟨some d, .call ⟨.value (.func f), xs.toArray, ats⟩, ty, pos, aft, none⟩).run P w = .ok (.enter f args.toArray) w := by
   simp [execOp, resolve, Deferred.ofValue, Act.eval, invoke, hev, hc]
  unfold Oper.wp
  rw [hrun]
  refine (hdo w m).mono ?_
  rintro e w' ⟨x, hI, rfl, m'⟩
  exact hK _ _ (k x hI _ _ (fr.put hd _) m')
def yl (ops : Array Oper) (L : Z123) (j : Nat) : Option Value := match (ops[j]?).bind (·.dst) with | some d => lk L d | none => none
theorem Z141 {a : Act} (f : Fr n L a) {j : Nat} {v : Value} (h : yl ops L j = some v) : yielded ops a.tmps j = match v with | .bool b => some b | _ => none := by
 unfold yl at h
 split at h
 ·rename_i d hd
  have := f.get d v h
  simp only [yielded, hd, Zb, this]
  cases v <;> rfl
 ·cases h
theorem Z24 {dst : Option Nat} {j : Nat} {b : Bool} (hy : yl ops L j = some (.bool b)) (h : OW P n ops Q w0 (⟨dst, op, ty, pos, aft, none⟩ :: rest) L M) : OW P n ops Q w0 (⟨dst, op, ty, pos, aft, some (j, b)⟩ :: rest) L M := fun a w f m => by
 have h' := h a w f m
 have hw : Region.wanted ⟨dst, op, ty, pos, aft, some (j, b)⟩ (yielded ops a.tmps) = true := by simp [Region.wanted, Z141 f hy]
 unfold wpList at h' ⊢
 rw [if_pos (by simp [Region.wanted])] at h'
 rw [if_pos hw]
 exact h'
theorem Z23 {j : Nat} {b : Bool} {y : Value} (hy : yl ops L j = some y) (hne : (match y with | .bool c => c == b | _ => false) = false) (hd : Nat.blt d n = true) (h : OW P n ops Q w0 rest ((d, undef) :: L) M) :
    OW P n ops Q w0 (⟨some d, op, ty, pos, aft, some (j, b)⟩ :: rest) L M := fun a w f m => by
 have hw : Region.wanted ⟨some d, op, ty, pos, aft, some (j, b)⟩ (yielded ops a.tmps) = false := by
  simp only [Region.wanted, Z141 f hy]
  cases y <;> simp_all
 exact wpList_skip hw (h _ w (f.put hd undef) m)
theorem DW.nil (h : QW n Q w0 .normal L M) : DW P n ops Q w0 [] L M := fun a f => wpQuiet_nil fun w m => h a w f m
theorem DW.rv (hop : RV P w0 L M op v) (hd : Nat.blt d n = true) (k : DW P n ops Q w0 rest ((d, v) :: L) M) : DW P n ops Q w0 (⟨some d, op, ty, pos, aft, none⟩ :: rest) L M := fun a f =>
 wpQuiet_step fun K hK => by
  simp only [Region.wanted, if_true]
  refine ⟨v, fun w m => ?_, hK _ (k _ (f.put hd v))⟩
  unfold Oper.quietAt
  rw [hop a.eval w (fun x u hx => f.eval hx) m _ rfl]
  exact ⟨rfl, rfl⟩
theorem DW.call {f : FuncId} {xs : List Operand} {ats : Array TypeId} {args : List Value} {τ : Type} {I : τ → Prop} {u : τ → Value} {M' : τ → List Ent} (v : Value) (hc : ∀ (args : Array Value) (w : World), (callFunc f args).run P w = .ok (.enter f args) w)
    (hxs : evs L xs = some args) (hdo : Does P f args w0 M I u M') (hu : ∀ x, I x → u x = v) (hM : ∀ x, I x → ∀ w, Mem w0 w (M' x) → Mem w0 w M) (hd : Nat.blt d n = true) (k : DW P n ops Q w0 rest ((d, v) :: L) M) :
    DW P n ops Q w0 (⟨some d, .call ⟨.value (.func f), xs.toArray, ats⟩, ty, pos, aft, none⟩ :: rest) L M := fun a fr =>
 wpQuiet_step fun K hK => by
  simp only [Region.wanted, if_true]
  refine ⟨v, fun w m => ?_, hK _ (k _ (fr.put hd v))⟩
  have hev := evs_map (fun x u hx => fr.eval hx) xs args hxs
  have hrun : (execOp a.eval ⟨some d, .call ⟨.value (.func f), xs.toArray, ats⟩, ty, pos, aft, none⟩).run P w = .ok (.enter f args.toArray) w := by
   simp [execOp, resolve, Deferred.ofValue, Act.eval, invoke, hev, hc]
  unfold Oper.quietAt
  rw [hrun]
  refine ⟨rfl, (hdo w m).mono ?_⟩
  rintro e w' ⟨x, hI, rfl, m'⟩
  exact ⟨by rw [hu x hI], hM x hI w' m'⟩
theorem DW.want {dst : Option Nat} {j : Nat} {b : Bool} (hy : yl ops L j = some (.bool b)) (h : DW P n ops Q w0 (⟨dst, op, ty, pos, aft, none⟩ :: rest) L M) : DW P n ops Q w0 (⟨dst, op, ty, pos, aft, some (j, b)⟩ :: rest) L M := fun a f => by
 have h' := h a f
 have hw : Region.wanted ⟨dst, op, ty, pos, aft, some (j, b)⟩ (yielded ops a.tmps) = true := by simp [Region.wanted, Z141 f hy]
 unfold wpQuiet at h' ⊢
 rw [if_pos (by simp [Region.wanted])] at h'
 rw [if_pos hw]
 exact h'
theorem DW.skip {j : Nat} {b : Bool} {y : Value} (hy : yl ops L j = some y) (hne : (match y with | .bool c => c == b | _ => false) = false) (hd : Nat.blt d n = true) (h : DW P n ops Q w0 rest ((d, undef) :: L) M) :
    DW P n ops Q w0 (⟨some d, op, ty, pos, aft, some (j, b)⟩ :: rest) L M := fun a f => by
 have hw : Region.wanted ⟨some d, op, ty, pos, aft, some (j, b)⟩ (yielded ops a.tmps) = false := by
  simp only [Region.wanted, Z141 f hy]
  cases y <;> simp_all
 unfold wpQuiet
 rw [if_neg (by simp [hw])]
 exact h _ (f.put hd undef)
theorem OW.elim {ops : Array Oper} {l : List Oper} (h : OW P n ops Q w0 l L M) : ∀ a w, Fr n L a → Mem w0 w M → wpList P ops Q l a w := h
theorem OW.intro {ops : Array Oper} {l : List Oper} (h : ∀ a w, Fr n L a → Mem w0 w M → wpList P ops Q l a w) : OW P n ops Q w0 l L M := h
theorem CW.elim {c : Code} (h : CW P n Q w0 c L M) : ∀ a w, Fr n L a → Mem w0 w M → c.wp P Q a w := h
theorem CW.intro {c : Code} (h : ∀ a w, Fr n L a → Mem w0 w M → c.wp P Q a w) : CW P n Q w0 c L M := h
theorem QW.elim {e : Exit} (h : QW n Q w0 e L M) : ∀ a w, Fr n L a → Mem w0 w M → Q e a w := h
theorem QW.intro {e : Exit} (h : ∀ a w, Fr n L a → Mem w0 w M → Q e a w) : QW n Q w0 e L M := h
theorem DW.elim {ops : Array Oper} {l : List Oper} (h : DW P n ops Q w0 l L M) : ∀ a, Fr n L a → wpQuiet P ops (fun w => Mem w0 w M) (fun a' => ∀ w', Mem w0 w' M → Q .normal a' w') l a := h
theorem DW.intro {ops : Array Oper} {l : List Oper} (h : ∀ a, Fr n L a → wpQuiet P ops (fun w => Mem w0 w M) (fun a' => ∀ w', Mem w0 w' M → Q .normal a' w') l a) : DW P n ops Q w0 l L M := h
end
attribute [irreducible] OW CW QW DW RW Rnd
end Go.Fw
namespace Go.Fw
open Go Go.RowKit
structure TI where
 u : TypeDesc
 sz : Nat
 bytes : Nat
 z : Value
def lkT : List (Nat × TI) → Nat → Option TI
 | [], _ => none
 | (i, v) :: r, k => match Nat.beq i k with
  | true => some v
  | false => lkT r k
def TI.ok (P : Program) (t : Nat) (i : TI) : Prop := P.underlying t = some i.u ∧ ∃ ti, P.info? t = some ti ∧ ti.size = i.sz ∧ ti.bytes = i.bytes ∧ ti.zero = some i.z
class Types (P : Program) where
 tbl : List (Nat × TI)
 ok : ∀ t i, lkT tbl t = some i → TI.ok P t i
def ty (P : Program) [Types P] (t : Nat) : Option TI := lkT (Types.tbl P) t
def tyU (P : Program) [Types P] (t : Nat) : Option TypeDesc := match ty P t with | some i => some i.u | none => none
def tyS (P : Program) [Types P] (t : Nat) : Option Nat := match ty P t with | some i => some i.sz | none => none
theorem TI.lk_all {P : Program} : ∀ (l : List (Nat × TI)), (∀ e ∈ l, TI.ok P e.1 e.2) → ∀ t i, lkT l t = some i → TI.ok P t i
 | [], _, t, i, h => by simp [lkT] at h
 | (k, v) :: r, hl, t, i, h => by
  simp only [lkT] at h
  split at h
  ·rename_i hb
   have : k = t := Nat.eq_of_beq_eq_true hb
   subst this
   cases h
   exact hl _ (List.mem_cons_self ..)
  ·exact TI.lk_all r (fun e he => hl e (List.mem_cons_of_mem _ he)) t i h
def AllOk (P : Program) : List (Nat × TI) → Prop
 | [] => True
 | e :: r => TI.ok P e.1 e.2 ∧ AllOk P r
theorem AllOk.mem {P : Program} : ∀ {l : List (Nat × TI)}, AllOk P l → ∀ e ∈ l, TI.ok P e.1 e.2
 | [], _, e, h => by cases h
 | x :: r, hl, e, h => by
  rcases List.mem_cons.1 h with rfl | h
  ·exact hl.1
  ·exact AllOk.mem hl.2 e h
section
variable {P : Program} [Types P]
theorem ty_ok {t : Nat} {i : TI} (h : ty P t = some i) : TI.ok P t i := Types.ok t i h
theorem tyU_ok {t : Nat} {u : TypeDesc} (h : tyU P t = some u) : P.underlying t = some u := by
 unfold tyU at h
 split at h
 ·rename_i i hi
  cases h
  exact (ty_ok hi).1
 ·cases h
theorem tyS_ok {t : Nat} {s : Nat} (h : tyS P t = some s) : (P.info? t).map (·.size) = some s := by
 unfold tyS at h
 split at h
 ·rename_i i hi
  cases h
  obtain ⟨_, ti, h1, h2, _⟩ := ty_ok hi
  simp [h1, h2]
 ·cases h
theorem Z122 {t : Nat} {u : TypeDesc} (h : tyU P t = some u) (w : World) : (underlying t).run P w = .ok u w := run_underlying (tyU_ok h) w
theorem Z136 {t : Nat} {s : Nat} (h : tyS P t = some s) (w : World) : (Go.sizeOf t).run P w = .ok s w := by
 have := tyS_ok h
 cases hq : P.info? t with
 | none => simp [hq] at this
 | some i => simp [hq] at this; simp [Go.sizeOf, typeInfo, hq, this]
def TypeDesc.agg : TypeDesc → Bool
 | .struct _ | .array _ _ => true
 | _ => false
theorem isAgg_run {t : Nat} {u : TypeDesc} (h : tyU P t = some u) (w : World) : (isAgg t).run P w = .ok (TypeDesc.agg u) w := by
 unfold isAgg
 rw [Sem.run_bind, Z122 h w]
 cases u <;> simp [TypeDesc.agg]
end
def U8 (x : BitVec 8) : Value := .int .u8 (x.toNat : Int)
def U16 (x : BitVec 16) : Value := .int .u16 (x.toNat : Int)
def U32 (x : BitVec 32) : Value := .int .u32 (x.toNat : Int)
def U64 (x : BitVec 64) : Value := .int .u64 (x.toNat : Int)
def ptr (b : Option Nat) (i : Nat) : Value := .pointer (some ⟨b.getD 0, i, none⟩)
def sl (b : Option Nat) (off len cap : Nat) : Value := .slice (b.map fun k => ⟨k, off, none⟩) len cap
def rptr (A : Option Addr) (i : Nat) : Value := .pointer (some ((A.getD default).add i))
theorem Addr.add_add (a : Addr) (i j : Nat) : (a.add i).add j = a.add (i + j) := by
 unfold Addr.add
 by_cases hi : i = 0
 ·subst hi; simp
 ·by_cases hj : j = 0
  ·subst hj; simp
  ·simp [hi, hj, Nat.add_assoc]
theorem Z119 (b o i : Nat) : (⟨b, o, none⟩ : Addr).add i = ⟨b, o + i, none⟩ := by
 unfold Addr.add
 split
 ·simp_all
 ·rfl
section
variable {P : Program} {w0 : World} {L : Z123} {M : List Ent} {x y z : Operand} {t t' : TypeId} {v u : Value}
theorem Z3 (hx : ev L x = some v) : RV P w0 L M (.move x) v := fun ρ w hρ m o ho => by simp [execOp, ho, hρ x v hx]
theorem Z5 (hx : ev L x = some v) : RV P w0 L M (.assign x) v := fun ρ w hρ m o ho => by simp [execOp, ho, hρ x v hx]
theorem RV.pick {b : Bool} (hc : ev L z = some (.bool b)) (hx : ev L x = some v) (hy : ev L y = some u) : RV P w0 L M (.pick z x y) (if b then v else u) := fun ρ w hρ m o ho => by
 simp [execOp, ho, hρ x v hx, hρ y u hy, hρ z _ hc, asBool]
theorem Z112 (hc : ev L z = some (.bool true)) (hx : ev L x = some v) (hy : ev L y = some u) : RV P w0 L M (.pick z x y) v := by simpa using RV.pick (P := P) (w0 := w0) (M := M) hc hx hy
theorem Z108 (hc : ev L z = some (.bool false)) (hx : ev L x = some v) (hy : ev L y = some u) : RV P w0 L M (.pick z x y) u := by simpa using RV.pick (P := P) (w0 := w0) (M := M) hc hx hy
theorem RV.not {b : Bool} (hx : ev L x = some (.bool b)) : RV P w0 L M (.unOp .not t x) (.bool (!b)) := fun ρ w hρ m o ho => by
 simp [execOp, ho, hρ x _ hx, Op.unary]
theorem i64_in {n : Int} (h : -9223372036854775808 ≤ n ∧ n ≤ 9223372036854775807) : IntKind.i64.wrap n = n := by
 rw [IntKind.wrap_i64]; omega
variable {m n : Int}
theorem RV.add (hx : ev L x = some (.int .i64 m)) (hy : ev L y = some (.int .i64 n)) (h : -9223372036854775808 ≤ m + n ∧ m + n ≤ 9223372036854775807) : RV P w0 L M (.binOp .add t x y t') (.int .i64 (m + n)) := fun ρ w hρ _ o ho => by
 simp [execOp, ho, hρ x _ hx, hρ y _ hy, eqGuard, binOp, Op.intArith, i64_in h]
theorem RV.sub (hx : ev L x = some (.int .i64 m)) (hy : ev L y = some (.int .i64 n)) (h : -9223372036854775808 ≤ m - n ∧ m - n ≤ 9223372036854775807) : RV P w0 L M (.binOp .sub t x y t') (.int .i64 (m - n)) := fun ρ w hρ _ o ho => by
 simp [execOp, ho, hρ x _ hx, hρ y _ hy, eqGuard, binOp, Op.intArith, i64_in h]
theorem RV.mul (hx : ev L x = some (.int .i64 m)) (hy : ev L y = some (.int .i64 n)) (h : -9223372036854775808 ≤ m * n ∧ m * n ≤ 9223372036854775807) : RV P w0 L M (.binOp .mul t x y t') (.int .i64 (m * n)) := fun ρ w hρ _ o ho => by
 simp [execOp, ho, hρ x _ hx, hρ y _ hy, eqGuard, binOp, Op.intArith, i64_in h]
theorem RV.rem (hx : ev L x = some (.int .i64 m)) (hy : ev L y = some (.int .i64 n)) (h0 : 0 ≤ m) (h : 0 < n) : RV P w0 L M (.binOp .rem t x y t') (.int .i64 (m % n)) := fun ρ w hρ _ o ho => by
 have hn : ¬ n = 0 := by omega
 simp [execOp, ho, hρ x _ hx, hρ y _ hy, eqGuard, binOp, Op.intDiv, hn, Int.tmod_eq_emod_of_nonneg h0]
theorem RV.quo (hx : ev L x = some (.int .i64 m)) (hy : ev L y = some (.int .i64 n)) (h0 : 0 ≤ m) (h : 0 < n) (hm : m ≤ 9223372036854775807) : RV P w0 L M (.binOp .quo t x y t') (.int .i64 (m / n)) := fun ρ w hρ _ o ho => by
 have hn : ¬ n = 0 := by omega
 have h1 : 0 ≤ m / n := Int.ediv_nonneg h0 (by omega)
 have h2 : m / n ≤ m := Int.ediv_le_self n h0
 simp [execOp, ho, hρ x _ hx, hρ y _ hy, eqGuard, binOp, Op.intDiv, hn, Int.tdiv_eq_ediv_of_nonneg h0, i64_in (n := m / n) ⟨by omega, by omega⟩]
theorem RV.lss {k : IntKind} (hx : ev L x = some (.int k m)) (hy : ev L y = some (.int k n)) : RV P w0 L M (.binOp .lss t x y t') (.bool (decide (m < n))) := fun ρ w hρ _ o ho => by
 simp [execOp, ho, hρ x _ hx, hρ y _ hy, eqGuard, binOp, Op.intCmp]
theorem RV.leq {k : IntKind} (hx : ev L x = some (.int k m)) (hy : ev L y = some (.int k n)) : RV P w0 L M (.binOp .leq t x y t') (.bool (decide (m ≤ n))) := fun ρ w hρ _ o ho => by
 simp [execOp, ho, hρ x _ hx, hρ y _ hy, eqGuard, binOp, Op.intCmp]
theorem RV.gtr {k : IntKind} (hx : ev L x = some (.int k m)) (hy : ev L y = some (.int k n)) : RV P w0 L M (.binOp .gtr t x y t') (.bool (decide (n < m))) := fun ρ w hρ _ o ho => by
 simp [execOp, ho, hρ x _ hx, hρ y _ hy, eqGuard, binOp, Op.intCmp]
theorem RV.geq {k : IntKind} (hx : ev L x = some (.int k m)) (hy : ev L y = some (.int k n)) : RV P w0 L M (.binOp .geq t x y t') (.bool (decide (n ≤ m))) := fun ρ w hρ _ o ho => by
 simp [execOp, ho, hρ x _ hx, hρ y _ hy, eqGuard, binOp, Op.intCmp]
theorem RV.eql {k : IntKind} (hx : ev L x = some (.int k m)) (hy : ev L y = some (.int k n)) : RV P w0 L M (.binOp .eql t x y t') (.bool (decide (m = n))) := fun ρ w hρ _ o ho => by
 simp [execOp, ho, hρ x _ hx, hρ y _ hy, eqGuard, binOp, Op.intCmp]; rfl
theorem RV.neq {k : IntKind} (hx : ev L x = some (.int k m)) (hy : ev L y = some (.int k n)) : RV P w0 L M (.binOp .neq t x y t') (.bool (!decide (m = n))) := fun ρ w hρ _ o ho => by
 simp [execOp, ho, hρ x _ hx, hρ y _ hy, eqGuard, binOp, Op.intCmp]; rfl
section
variable {p q : BitVec 8}
theorem lit8 (k : Nat) (h : Nat.blt k 256 = true) : Value.int .u8 (Int.ofNat k) = U8 (BitVec.ofNat 8 k) := by
 have h' : k < 256 := by simpa using h
 simp [U8, Nat.mod_eq_of_lt h']
theorem U8.inj (h : U8 p = U8 q) : p = q := by
 simp only [U8, Value.int.injEq, true_and] at h
 exact BitVec.eq_of_toNat_eq (by omega)
theorem RV.add8 {a b : Value} (hx : ev L x = some a) (hp : a = U8 p) (hy : ev L y = some b) (hq : b = U8 q) : RV P w0 L M (.binOp .add t x y t') (U8 (p + q)) := fun ρ w hρ _ o ho => by
 subst hp hq
 have e : (execOp ρ o).run P w = .ok (.value (.int .u8 (IntKind.u8.wrap ((p.toNat : Int) + (q.toNat : Int))))) w := by
  simp only [execOp, ho, hρ x _ hx, hρ y _ hy, eqGuard, binOp, Op.intArith, U8]; rfl
 have e2 : IntKind.u8.wrap ((p.toNat : Int) + (q.toNat : Int)) = ((p + q).toNat : Int) := by
  rw [BitVec.toNat_add]
  simp only [IntKind.wrap, IntKind.bits, IntKind.signed, Bool.false_and]
  simp only [Bool.false_eq_true, if_false]
  omega
 rw [e, e2]; rfl
theorem RV.eql8 {a b : Value} (hx : ev L x = some a) (hp : a = U8 p) (hy : ev L y = some b) (hq : b = U8 q) : RV P w0 L M (.binOp .eql t x y t') (.bool (decide (p = q))) := fun ρ w hρ m o ho => by
 subst hp hq
 rw [RV.eql (P := P) (t := t) (t' := t') hx hy ρ w hρ m o ho]
 congr 3
 rw [decide_eq_decide]
 exact ⟨fun h => BitVec.eq_of_toNat_eq (by omega), fun h => by rw [h]⟩
theorem RV.neq8 {a b : Value} (hx : ev L x = some a) (hp : a = U8 p) (hy : ev L y = some b) (hq : b = U8 q) : RV P w0 L M (.binOp .neq t x y t') (.bool (!decide (p = q))) := fun ρ w hρ m o ho => by
 subst hp hq
 rw [RV.neq (P := P) (t := t) (t' := t') hx hy ρ w hρ m o ho]
 congr 4
 rw [decide_eq_decide]
 exact ⟨fun h => BitVec.eq_of_toNat_eq (by omega), fun h => by rw [h]⟩
end
section
variable {p q : BitVec 16}
theorem U16.inj (h : U16 p = U16 q) : p = q := by
 simp only [U16, Value.int.injEq, true_and] at h
 exact BitVec.eq_of_toNat_eq (by omega)
end
section
variable {p q : BitVec 32}
theorem U32.inj (h : U32 p = U32 q) : p = q := by
 simp only [U32, Value.int.injEq, true_and] at h
 exact BitVec.eq_of_toNat_eq (by omega)
end
section
variable {p q : BitVec 64}
theorem lit64 (k : Nat) (h : Nat.blt k 18446744073709551616 = true) : Value.int .u64 (Int.ofNat k) = U64 (BitVec.ofNat 64 k) := by
 have h' : k < 18446744073709551616 := by simpa using h
 simp [U64, Nat.mod_eq_of_lt h']
theorem U64.inj (h : U64 p = U64 q) : p = q := by
 simp only [U64, Value.int.injEq, true_and] at h
 exact BitVec.eq_of_toNat_eq (by omega)
theorem RV.neq64 {a b : Value} (hx : ev L x = some a) (hp : a = U64 p) (hy : ev L y = some b) (hq : b = U64 q) : RV P w0 L M (.binOp .neq t x y t') (.bool (!decide (p = q))) := fun ρ w hρ m o ho => by
 subst hp hq
 rw [RV.neq (P := P) (t := t) (t' := t') hx hy ρ w hρ m o ho]
 congr 4
 rw [decide_eq_decide]
 exact ⟨fun h => BitVec.eq_of_toNat_eq (by omega), fun h => by rw [h]⟩
theorem RV.shr64 {k : IntKind} {s : Nat} {a b : Value} (hx : ev L x = some a) (hp : a = U64 p) (hy : ev L y = some b) (hq : b = .int k (s : Int)) : RV P w0 L M (.binOp .shr t x y t') (U64 (p >>> s)) := fun ρ w hρ _ o ho => by
 subst hp hq
 have e : (execOp ρ o).run P w = .ok (.value (.int .u64 ((p.toNat : Int).fdiv (2 ^ (min s 64))))) w := by
  simp [execOp, ho, hρ x _ hx, hρ y _ hy, eqGuard, binOp, Op.shift, show ¬ ((s : Int) < 0) by omega, U64, IntKind.bits]
 have e2 : (p.toNat : Int).fdiv (2 ^ (min s 64)) = ((p >>> s).toNat : Int) := by
  have e3 : ((2 : Int) ^ (min s 64)) = ((2 ^ (min s 64) : Nat) : Int) := by push_cast; rfl
  rw [e3, Int.fdiv_eq_ediv_of_nonneg _ (Int.natCast_nonneg _), BitVec.toNat_ushiftRight, Nat.shiftRight_eq_div_pow]
  by_cases hs : s ≤ 64
  ·rw [Nat.min_eq_left hs]; norm_cast
  ·rw [Nat.min_eq_right (by omega)]
   have h1 : p.toNat / 2 ^ s = 0 := Nat.div_eq_of_lt (Nat.lt_of_lt_of_le p.isLt (Nat.pow_le_pow_right (by omega) (by omega)))
   have h2 : p.toNat / 2 ^ 64 = 0 := Nat.div_eq_of_lt p.isLt
   rw [h1]; norm_cast
 rw [e, e2]; rfl
end
theorem RV.eql_t {k : IntKind} (hx : ev L x = some (.int k m)) (hy : ev L y = some (.int k n)) (h : m = n) : RV P w0 L M (.binOp .eql t x y t') (.bool true) := by
 have := RV.eql (P := P) (w0 := w0) (M := M) (t := t) (t' := t') hx hy
 rwa [decide_eq_true h] at this
theorem RV.neq_t {k : IntKind} (hx : ev L x = some (.int k m)) (hy : ev L y = some (.int k n)) (h : ¬ m = n) : RV P w0 L M (.binOp .neq t x y t') (.bool true) := by
 have := RV.neq (P := P) (w0 := w0) (M := M) (t := t) (t' := t') hx hy
 rwa [decide_eq_false h] at this
theorem RV.neq_f {k : IntKind} (hx : ev L x = some (.int k m)) (hy : ev L y = some (.int k n)) (h : m = n) : RV P w0 L M (.binOp .neq t x y t') (.bool false) := by
 have := RV.neq (P := P) (w0 := w0) (M := M) (t := t) (t' := t') hx hy
 rwa [decide_eq_true h] at this
theorem RV.eql8_t {p q : BitVec 8} {a b : Value} (hx : ev L x = some a) (hp : a = U8 p) (hy : ev L y = some b) (hq : b = U8 q) (h : p = q) : RV P w0 L M (.binOp .eql t x y t') (.bool true) := by
 have := RV.eql8 (P := P) (w0 := w0) (M := M) (t := t) (t' := t') hx hp hy hq
 rwa [decide_eq_true h] at this
end
end Go.Fw
namespace Go.Fw
open Go Go.RowKit
def Rd (w : World) (A : Option Addr) (vs : List Value) : Prop := (vs ≠ [] → A.isSome = true) ∧ ∀ j u, vs[j]? = some u → w.cell? ((A.getD default).add j) = some u
def subA (A : Option Addr) (cap a s : Nat) : Option Addr := if cap = a then A else A.map (·.add (a * s))
theorem Rd.nil (w : World) (A : Option Addr) : Rd w A [] := ⟨fun h => absurd rfl h, fun j u h => by simp at h⟩
theorem Rd.take {w : World} {A : Option Addr} {vs : List Value} (h : Rd w A vs) (k : Nat) : Rd w A (vs.take k) :=
 ⟨fun hn => h.1 (fun e => hn (by simp [e])), fun j u hj => h.2 j u (by
  rw [List.getElem?_take] at hj
  split at hj
  ·exact hj
  ·cases hj)⟩
theorem Rd.sub {w : World} {A : Option Addr} {vs : List Value} {cap a s : Nat} (h : Rd w A vs) (hl : vs.length ≤ cap * s) : Rd w (subA A cap a s) (vs.drop (a * s)) := by
 unfold subA
 by_cases hc : cap = a
 ·subst hc
  rw [List.drop_of_length_le hl]
  exact Rd.nil _ _
 ·rw [if_neg hc]
  by_cases hv : vs = []
  ·subst hv; simp; exact Rd.nil _ _
  ·have hA := h.1 hv
   obtain ⟨b, rfl⟩ := Option.isSome_iff_exists.1 hA
   refine ⟨fun _ => by simp, fun j u hj => ?_⟩
   rw [List.getElem?_drop] at hj
   have := h.2 _ u hj
   simp only [Option.map_some, Option.getD_some] at this ⊢
   rw [Addr.add_add]; exact this
theorem Rd.cell {w : World} {A : Option Addr} {vs : List Value} (h : Rd w A vs) {j : Nat} {u : Value} (hj : vs[j]? = some u) : w.cell? ((A.getD default).add j) = some u := h.2 j u hj
theorem Rd.old {w0 w : World} {M : List Ent} {A : Option Addr} {vs : List Value} (h : Rd w0 A vs) (m : Mem w0 w M) : Rd w A vs := ⟨h.1, fun j u hj => m.oldSome (h.2 j u hj)⟩
theorem Mem.rd {w0 w : World} {M : List Ent} (m : Mem w0 w M) {ob : Option Nat} {l : List Value} {t : TypeId} (he : (ob, blk l t) ∈ M) (hs : ob = none → l = []) (off n : Nat) : Rd w (ob.map fun k => ⟨k, off, none⟩) ((l.drop off).take n) := by
 cases ob with
 | none => rw [hs rfl]; simp; exact Rd.nil _ _
 | some b =>
  refine ⟨fun _ => rfl, fun j u hj => ?_⟩
  simp only [Option.map_some, Option.getD_some]
  rw [Z119, m.cell he]
  rw [List.getElem?_take] at hj
  split at hj
  ·rwa [List.getElem?_drop] at hj
  ·cases hj
theorem Mem.rd0 {w0 w : World} {M : List Ent} (m : Mem w0 w M) {ob : Option Nat} {l r : List Value} {t : TypeId} (he : (ob, blk (l ++ r) t) ∈ M) (hs : ob = none → l = []) : Rd w (ob.map fun k => ⟨k, 0, none⟩) l := by
 cases ob with
 | none => rw [hs rfl]; exact Rd.nil _ _
 | some b =>
  refine ⟨fun _ => rfl, fun j u hj => ?_⟩
  simp only [Option.map_some, Option.getD_some]
  rw [Z119, m.cell he, Nat.zero_add, List.getElem?_append_left (List.getElem?_eq_some_iff.1 hj).1]
  exact hj
theorem Mem.rdl {w0 w : World} {M : List Ent} (m : Mem w0 w M) {ob : Option Nat} {l : List Value} {t : TypeId} (he : (ob, blk l t) ∈ M) (hs : ob = none → l = []) : Rd w (ob.map fun k => ⟨k, 0, none⟩) l := by
 have := m.rd0 (ob := ob) (l := l) (r := []) (t := t) (by simpa using he) hs
 exact this
theorem isSome_getD {ob : Option Nat} (h : ob.isSome = true) : ob = some (ob.getD 0) := by cases ob <;> simp_all
section
variable {P : Program} [Types P] {w0 : World} {L : Z123} {M : List Ent} {x y z : Operand} {t t' e : TypeId} {v u : Value}
variable {m n : Int}
theorem Z137 {us : TypeDesc} {k : IntKind} (hx : ev L x = some (.int k n)) (hs : tyU P t = some us) (ht : tyU P t' = some (.int .u8)) : RV P w0 L M (.convert t t' x) (U8 (BitVec.ofInt 8 n)) := fun ρ w hρ _ o ho => by
 have e : IntKind.u8.wrap n = ((BitVec.ofInt 8 n).toNat : Int) := by
  rw [BitVec.toNat_ofInt]
  simp only [IntKind.wrap, IntKind.bits, IntKind.signed, Bool.false_and]
  simp only [Bool.false_eq_true, if_false]
  omega
 simp only [execOp, ho, hρ x _ hx, convert, Sem.run_bind, Z122 hs, Z122 ht, Result.andThen_ok, Conv.intToInt, U8, e]
 rfl
theorem RV.conv8_i {p : BitVec 8} {us : TypeDesc} (hx : ev L x = some v) (hp : v = U8 p) (hs : tyU P t = some us) (ht : tyU P t' = some (.int .i64)) : RV P w0 L M (.convert t t' x) (.int .i64 (p.toNat : Int)) := fun ρ w hρ _ o ho => by
 subst hp
 have := p.isLt
 simp only [U8] at hx
 have e : IntKind.i64.wrap (p.toNat : Int) = (p.toNat : Int) := i64_in (by omega)
 simp only [execOp, ho, hρ x _ hx, convert, Sem.run_bind, Z122 hs, Z122 ht, Result.andThen_ok, Conv.intToInt, e]
 rfl
theorem RV.conv64_8 {p : BitVec 64} {us : TypeDesc} (hx : ev L x = some v) (hp : v = U64 p) (hs : tyU P t = some us) (ht : tyU P t' = some (.int .u8)) : RV P w0 L M (.convert t t' x) (U8 (p.setWidth 8)) := fun ρ w hρ _ o ho => by
 subst hp
 have e : IntKind.u8.wrap (p.toNat : Int) = ((p.setWidth 8).toNat : Int) := by
  have := p.isLt
  rw [BitVec.toNat_setWidth]
  simp only [IntKind.wrap, IntKind.bits, IntKind.signed, Bool.false_and]
  simp only [Bool.false_eq_true, if_false]
  omega
 simp only [U64] at hx
 simp [execOp, ho, hρ x _ hx, convert, Z122 hs, Z122 ht, Conv.intToInt, U8]
 simpa using e
theorem RV.conv_i64 {us : TypeDesc} {k : IntKind} (hx : ev L x = some (.int k n)) (hs : tyU P t = some us) (ht : tyU P t' = some (.int .u64)) : RV P w0 L M (.convert t t' x) (U64 (BitVec.ofInt 64 n)) := fun ρ w hρ _ o ho => by
 have e : IntKind.u64.wrap n = ((BitVec.ofInt 64 n).toNat : Int) := by
  rw [BitVec.toNat_ofInt]
  simp only [IntKind.wrap, IntKind.bits, IntKind.signed, Bool.false_and]
  simp only [Bool.false_eq_true, if_false]
  omega
 simp only [execOp, ho, hρ x _ hx, convert, Sem.run_bind, Z122 hs, Z122 ht, Result.andThen_ok, Conv.intToInt, U64, e]
 rfl
end
section
variable {P : Program} {w0 : World} {L : Z123} {M : List Ent} {x : Operand} {v : Value}
theorem Z17 {vs : Array Value} {i : Nat} (hx : ev L x = some (.tuple vs)) (hi : vs[i]? = some v) : RV P w0 L M (.extract x i) v := fun ρ w hρ m o ho => by
 simp [execOp, ho, hρ x _ hx, Instr.extract, hi]
end
section
variable {P : Program} [Types P] {w0 : World} {L : Z123} {M : List Ent} {x y z : Operand} {t t' e : TypeId} {v : Value}
theorem Z21 {a : Addr} {u : TypeDesc} (hx : ev L x = some (.pointer (some a))) (hu : tyU P t = some u) (hg : TypeDesc.agg u = false) (hv : Mem.Says w0 M (fun w => w.cell? a = some v)) : RV P w0 L M (.load t x) v := fun ρ w hρ m o ho => by
 simp [execOp, ho, hρ x _ hx, Instr.loadAt, Instr.sureAddr, loadVar, isAgg_run hu, hg, hv w m]
theorem Z29 {ob : Option Nat} {i : Nat} {l : List Value} {te : TypeId} {u : TypeDesc} (hx : ev L x = some (ptr ob i)) (he : (ob, blk l te) ∈ M) (hs : ob.isSome = true) (hu : tyU P t = some u) (hg : TypeDesc.agg u = false) (hv : l[i]? = some v) : RV P w0 L M (.load t x) v :=
 Z21 (a := ⟨ob.getD 0, i, none⟩) hx hu hg (fun w m => by
  have e := isSome_getD hs
  rw [e] at he
  show w.cell? ⟨ob.getD 0, i, none⟩ = some v
  rw [m.cell he]; exact hv)
theorem RV.loadA_at {a : Addr} {u : TypeDesc} {vs : List Value} (hx : ev L x = some (.pointer (some a))) (hu : tyU P t = some u) (hg : TypeDesc.agg u = true) (hsz : tyS P t = some vs.length)
    (hv : Mem.Says w0 M (fun w => ∀ j u, vs[j]? = some u → w.cell? (a.add j) = some u)) : RV P w0 L M (.load t x) (.agg vs.toArray) := fun ρ w hρ m o ho => by
 simp [execOp, ho, hρ x _ hx, Instr.loadAt, Instr.sureAddr, loadVar, isAgg_run hu, hg, Z136 hsz, run_loadCells_list w a vs (hv w m)]
theorem RV.loadA {ob : Option Nat} {i : Nat} {l vs : List Value} {te : TypeId} {u : TypeDesc} (hx : ev L x = some (ptr ob i)) (he : (ob, blk l te) ∈ M) (hs : ob.isSome = true) (hu : tyU P t = some u) (hg : TypeDesc.agg u = true) (hsz : tyS P t = some vs.length)
    (hv : ∀ j u, vs[j]? = some u → l[i + j]? = some u) : RV P w0 L M (.load t x) (.agg vs.toArray) :=
 RV.loadA_at (a := ⟨ob.getD 0, i, none⟩) hx hu hg hsz (fun w m j u hj => by
  have e := isSome_getD hs
  rw [e] at he
  rw [Z119, m.cell he]; exact hv j u hj)
theorem RV.len {A : Option Addr} {len cap : Nat} {te : TypeId} (hx : ev L x = some (.slice A len cap)) (ht : tyU P t = some (.slice te)) :
    RV P w0 L M (.call ⟨.builtin .len, #[x], #[t]⟩) (.int .i64 (len : Int)) := fun ρ w hρ m o ho => by
 simp [execOp, ho, resolve, hρ x _ hx, invoke, builtin, Builtin.len_, Z122 ht, goInt]
variable {idx : Int} {k : IntKind}
theorem RV.idx_slice {A : Option Addr} {len cap s : Nat} (hx : ev L x = some (.slice A len cap)) (hy : ev L y = some (.int k idx)) (ht : tyU P t = some (.slice e)) (hs : tyS P e = some s) (hA : A.isSome = true) (h0 : 0 ≤ idx) (h1 : idx < len) :
    RV P w0 L M (.indexAddr t x y) (.pointer (some ((A.getD default).add (idx.toNat * s)))) := fun ρ w hρ m o ho => by
 obtain ⟨a, rfl⟩ := Option.isSome_iff_exists.1 hA
 simp [execOp, ho, hρ x _ hx, hρ y _ hy, Instr.indexAt, asIntOf, Z122 ht, Z136 hs, h0, h1]
theorem RV.idx_r {A : Option Addr} {len cap : Nat} (j : Nat) (hx : ev L x = some (.slice A len cap)) (hy : ev L y = some (.int k idx)) (hj : idx = (j : Int)) (ht : tyU P t = some (.slice e)) (hs : tyS P e = some 1) (hA : A.isSome = true) (h1 : idx < len) :
    RV P w0 L M (.indexAddr t x y) (rptr A j) := by
 subst hj
 have := RV.idx_slice (P := P) (w0 := w0) (M := M) hx hy ht hs hA (by omega) h1
 simpa [rptr] using this
theorem Z105 {A : Option Addr} {len cap s : Nat} (j : Nat) (hx : ev L x = some (.slice A len cap)) (hy : ev L y = some (.int k idx)) (hj : idx = (j : Int)) (ht : tyU P t = some (.slice e)) (hs : tyS P e = some s) (hA : A.isSome = true) (h1 : idx < len) :
    RV P w0 L M (.indexAddr t x y) (rptr A (j * s)) := by
 subst hj
 have := RV.idx_slice (P := P) (w0 := w0) (M := M) hx hy ht hs hA (by omega) h1
 simpa [rptr] using this
theorem RV.idx_o {ob : Option Nat} {off len cap : Nat} (j : Nat) (hx : ev L x = some (sl ob off len cap)) (hy : ev L y = some (.int k idx)) (hj : idx = (j : Int)) (ht : tyU P t = some (.slice e)) (hs : tyS P e = some 1) (hA : ob.isSome = true) (h1 : idx < len) :
    RV P w0 L M (.indexAddr t x y) (ptr ob (off + j)) := by
 obtain ⟨b, rfl⟩ := Option.isSome_iff_exists.1 hA
 subst hj
 have := RV.idx_slice (P := P) (w0 := w0) (M := M) hx hy ht hs rfl (by omega) h1
 simpa [ptr, Z119] using this
theorem Z128 {ob : Option Nat} {off len cap s : Nat} (j : Nat) (hx : ev L x = some (sl ob off len cap)) (hy : ev L y = some (.int k idx)) (hj : idx = (j : Int)) (ht : tyU P t = some (.slice e)) (hs : tyS P e = some s) (hA : ob.isSome = true) (h1 : idx < len) :
    RV P w0 L M (.indexAddr t x y) (ptr ob (off + j * s)) := by
 obtain ⟨b, rfl⟩ := Option.isSome_iff_exists.1 hA
 subst hj
 have := RV.idx_slice (P := P) (w0 := w0) (M := M) hx hy ht hs rfl (by omega) h1
 simpa [ptr, Z119] using this
theorem RV.idx_arr_at {a : Addr} {len s : Nat} (hx : ev L x = some (.pointer (some a))) (hy : ev L y = some (.int k idx)) (ht : tyU P t = some (.array len e)) (hs : tyS P e = some s) (h0 : 0 ≤ idx) (h1 : idx < len) :
    RV P w0 L M (.indexAddr t x y) (.pointer (some (a.add (idx.toNat * s)))) := fun ρ w hρ m o ho => by
 simp [execOp, ho, hρ x _ hx, hρ y _ hy, Instr.indexAt, Instr.sureAddr, asIntOf, Z122 ht, Z136 hs, h0, h1]
theorem RV.idx_a {ob : Option Nat} {off len : Nat} (j : Nat) (hx : ev L x = some (ptr ob off)) (hy : ev L y = some (.int k idx)) (hj : idx = (j : Int)) (ht : tyU P t = some (.array len e)) (hs : tyS P e = some 1) (h1 : idx < len) :
    RV P w0 L M (.indexAddr t x y) (ptr ob (off + j)) := by
 subst hj
 have := RV.idx_arr_at (P := P) (w0 := w0) (M := M) hx hy ht hs (by omega) h1
 simpa [ptr, Z119] using this
theorem Z30 {ob : Option Nat} {off s f : Nat} {fs : Array Field} {fd : Field} (hx : ev L x = some (ptr ob off)) (ht : tyU P t = some (.struct fs)) (hf : fs[f]? = some fd) (hs : tyS P fd.type = some (s + 1)) :
    RV P w0 L M (.fieldAddr t x f) (ptr ob (off + fd.offset)) := fun ρ w hρ m o ho => by
 simp [execOp, ho, hρ x _ hx, Instr.fieldAt, Instr.sureAddr, ptr, Z122 ht, hf, Go.fieldPlace, Z136 hs, Z119]
omit [Types P] in
theorem sliceBound_run (w : World) {kk : IntKind} {i y : Nat} (h : i ≤ y) (code : BoundsCode) : (Instr.sliceBound (.int kk (i : Int)) y code).run P w = .ok i w := by
 have h0 : (0 : Int) ≤ (i : Int) ∧ (i : Int) ≤ (y : Int) := by omega
 simp only [Instr.sliceBound, asIntOf, Sem.run_bind, Sem.run_pure, Result.andThen_ok, if_pos h0, Int.toNat_natCast]
theorem RV.cut_hi {A : Option Addr} {len cap : Nat} (h : Nat) (hx : ev L x = some (.slice A len cap)) (hy : ev L y = some (.int k idx)) (hj : idx = (h : Int)) (ht : tyU P t = some (.slice e)) {s : Nat} (hs : tyS P e = some s) (h1 : idx ≤ cap) :
    RV P w0 L M (.slice t x none (some y) none) (.slice A h cap) := fun ρ w hρ m o ho => by
 subst hj
 have h2 : h ≤ cap := by omega
 by_cases hc : cap = 0
 ·subst hc
  simp [execOp, ho, hρ x _ hx, hρ y _ hy, Instr.sliceAt, Instr.slice, Instr.sliceBounds, sliceBound_run w h2, Z122 ht, Z136 hs]
 ·simp [execOp, ho, hρ x _ hx, hρ y _ hy, Instr.sliceAt, Instr.slice, Instr.sliceBounds, sliceBound_run w h2, Z122 ht, Z136 hs, hc]
  cases A <;> simp [Addr.add]
theorem RV.cut_o {ob : Option Nat} {off len cap : Nat} (h : Nat) (hx : ev L x = some (sl ob off len cap)) (hy : ev L y = some (.int k idx)) (hj : idx = (h : Int)) (ht : tyU P t = some (.slice e)) {s : Nat} (hs : tyS P e = some s) (h1 : idx ≤ cap) :
    RV P w0 L M (.slice t x none (some y) none) (sl ob off h cap) := RV.cut_hi h hx hy hj ht hs h1
theorem cells_one {v : Value} (h : v.oneCell' = true) : v.cells = #[v] := by cases v <;> simp_all [Value.cells, Value.oneCell']
theorem SV.store {ob : Option Nat} {i : Nat} {l : List Value} {te : TypeId} (hx : ev L x = some (ptr ob i)) (hs : ob.isSome = true) (hy : ev L y = some v) (h1 : v.oneCell' = true) (hsz : tyS P t = some 1) (hi : i < l.length) :
    SV P w0 L ((ob, blk l te) :: M) (.store t x y) ((ob, blk (l.set i v) te) :: M) := fun ρ w hρ m o ho => by
 obtain ⟨b, rfl⟩ := Option.isSome_iff_exists.1 hs
 have hm := m.ents _ (List.mem_cons_self ..) b rfl
 have hc : w.cell? ⟨b, i, none⟩ = l[i]? := m.cell (List.mem_cons_self ..) i
 have hc' : w.cell? ⟨b, i, none⟩ = some l[i] := by rw [hc]; simp [hi]
 have hf : w.frozen? ⟨b, i, none⟩ = false := m.notFrozen (List.mem_cons_self ..) i
 have hst : (Go.store (⟨b, i, none⟩ : Addr) v).run P w = .ok () (w.setCell ⟨b, i, none⟩ v) := by
  rw [run_store P w _ v _ h1, hc']; simp [hf]
 have hcs : v.cells.size = 1 := by simp [cells_one h1]
 have hcl : v.cells.toList = [v] := by simp [cells_one h1]
 refine ⟨w.setCell ⟨b, i, none⟩ v, ?_, m.turned rfl rfl rfl (by simp) ?_ ?_⟩
 ·simp [execOp, ho, hρ x _ hx, hρ y _ hy, Instr.storeAt, Instr.sureAddr, ptr, storeVar, Z136 hsz, hcs, hcl, storeCells, Z119, hst]
 ·intro b' hb'
  cases hb'
  rw [setCell_eq_setRow w b i l.toArray te (0, 0) v hm.2, setRow_heap w b l.toArray _ te (0, 0) hm.2]
  simp [blk]
 ·intro k hk
  exact Below.heap_setCell _ _ _ _ (fun e => hk (by rw [e]))
theorem SV.storeA {ob : Option Nat} {i : Nat} {l vs : List Value} {te : TypeId} (hx : ev L x = some (ptr ob i)) (hs : ob.isSome = true) (hy : ev L y = some (.agg vs.toArray)) (h1 : ∀ v ∈ vs, v.oneCell' = true) (hsz : tyS P t = some vs.length) (hi : i + vs.length ≤ l.length) :
    SV P w0 L ((ob, blk l te) :: M) (.store t x y) ((ob, blk (l.take i ++ vs ++ l.drop (i + vs.length)) te) :: M) := fun ρ w hρ m o ho => by
 obtain ⟨b, rfl⟩ := Option.isSome_iff_exists.1 hs
 have hm := m.ents _ (List.mem_cons_self ..) b rfl
 have hst := run_storeCells_at (P := P) b i te vs 0 l.toArray w hm.2 (by simpa using hi) h1
 simp only [Nat.add_zero] at hst
 refine ⟨_, ?_, m.turned (w' := w.setRow b (l.take i ++ vs ++ l.drop (i + vs.length)).toArray) rfl rfl rfl (by simp [World.setRow]) ?_ ?_⟩
 ·simp [execOp, ho, hρ x _ hx, hρ y _ hy, Instr.storeAt, Instr.sureAddr, ptr, storeVar, Z136 hsz, Value.cells, hst]
 ·intro b' hb'
  cases hb'
  rw [setRow_heap w b l.toArray _ te (0, 0) hm.2]
  simp [blk]
 ·intro k hk
  exact setRow_other _ _ _ _ (fun e => hk (by rw [e]))
end
section
variable {P : Program} [Types P] {w0 : World} {L : Z123} {M : List Ent} {x y z : Operand} {t t' e : TypeId} {v : Value} {n : Nat} {Q : Exit → Act → World → Prop}
 {ops : Array Oper} {rest : List Oper} {ty1 : TypeId} {pos : String} {aft : Array Edge} {d : Nat}
omit [Types P] in
theorem OW.new {op : Op} {l : List Value} {te : TypeId} {f : Nat → Value}
    (hop : ∀ (ρ : Operand → Value) (w : World), (∀ x u, ev L x = some u → ρ x = u) → Mem w0 w M → ∀ o : Oper, o.op = op → (execOp ρ o).run P w = .ok (.value (f w.heap.size)) (w.alloc (blk l te)))
    (hd : Nat.blt d n = true) (k : ∀ b : Nat, OW P n ops Q w0 rest ((d, f b) :: L) ((some b, blk l te) :: M)) : OW P n ops Q w0 (⟨some d, op, ty1, pos, aft, none⟩ :: rest) L M :=
 OW.av (τ := Nat) (I := fun _ => True) (v := f) (M' := fun b => (some b, blk l te) :: M) (fun ρ w hρ m o ho => ⟨w.heap.size, w.alloc (blk l te), trivial, hop ρ w hρ m o ho, m.alloc _⟩) hd (fun b _ => k b)
omit [Types P] in
theorem OW.box (hx : ev L x = some v) (hd : Nat.blt d n = true) (k : ∀ b : Nat, OW P n ops Q w0 rest ((d, ptr (some b) 0) :: L) ((some b, blk v.cells.toList e) :: M)) :
    OW P n ops Q w0 (⟨some d, .box e x, ty1, pos, aft, none⟩ :: rest) L M :=
 OW.new (f := fun b => ptr (some b) 0) (fun ρ w hρ m o ho => by
  simp [execOp, ho, hρ x _ hx, Instr.box, newVar, newRow, ptr, blk]) hd k
omit [Types P] in
theorem OW.boxA {vs : List Value} (hx : ev L x = some (.agg vs.toArray)) (hd : Nat.blt d n = true) (k : ∀ b : Nat, OW P n ops Q w0 rest ((d, ptr (some b) 0) :: L) ((some b, blk vs e) :: M)) :
    OW P n ops Q w0 (⟨some d, .box e x, ty1, pos, aft, none⟩ :: rest) L M :=
 OW.new (f := fun b => ptr (some b) 0) (fun ρ w hρ m o ho => by
  simp [execOp, ho, hρ x _ hx, Instr.box, newVar, newRow, ptr, blk, Value.cells]) hd k
theorem OW.alloc {i : TI} {l : List Value} (hi : ty P e = some i) (hl : i.z.cells = l.toArray) (hd : Nat.blt d n = true) (k : ∀ b : Nat, OW P n ops Q w0 rest ((d, ptr (some b) 0) :: L) ((some b, blk l e) :: M)) :
    OW P n ops Q w0 (⟨some d, .alloc e, ty1, pos, aft, none⟩ :: rest) L M :=
 OW.new (f := fun b => ptr (some b) 0) (fun ρ w hρ m o ho => by
  obtain ⟨_, ti, h1, h2, h3, h4⟩ := ty_ok hi
  simp [execOp, ho, Instr.alloc, zeroValue, typeInfo, h1, h4, newVar, newRow, ptr, blk, hl]) hd k
theorem OW.make {kl kc : IntKind} {i : TI} {z : Value} (l c : Nat) {il ic : Int} (hx : ev L x = some (.int kl il)) (hl : il = (l : Int)) (hy : ev L y = some (.int kc ic)) (hc : ic = (c : Int)) (ht : tyU P t = some (.slice e)) (hi : ty P e = some i) (hs : i.sz = 1) (hz : i.z.cells = #[z])
    (hlc : l ≤ c) (hb : i.bytes * c ≤ 281474976710656) (h63 : c ≤ 9223372036854775807) (hd : Nat.blt d n = true) (k : ∀ b : Nat, OW P n ops Q w0 rest ((d, sl (some b) 0 l c) :: L) ((some b, blk (List.replicate c z) e) :: M)) :
    OW P n ops Q w0 (⟨some d, .makeSlice t x y, ty1, pos, aft, none⟩ :: rest) L M :=
 OW.new (f := fun b => sl (some b) 0 l c) (fun ρ w hρ m o ho => by
  subst hl hc
  obtain ⟨_, ti, h1, h2, h3, h4⟩ := ty_ok hi
  have hm := run_make (P := P) w t e ti i.z (tyU_ok ht) h1 h4 kl kc (l : Int) (c : Int) (by omega) (by omega) (by rw [h3]; have : ((i.bytes * c : Nat) : Int) = (i.bytes : Int) * (c : Int) := Int.natCast_mul _ _; omega) (by omega)
  simp only [Int.toNat_natCast, h2, hs, Nat.mul_one, hz] at hm
  have e1 : madeCells #[z] c = (List.replicate c z).toArray := by
   apply Array.ext'
   rw [toList_madeCells_one]
  rw [e1] at hm
  simp [execOp, ho, hρ x _ hx, hρ y _ hy, hm, sl, blk]) hd k
theorem OW.bs {i : TI} {len : Nat} {parts : Array (Nat × Operand)} {vs : List (Nat × Value)} {cs : List Value} (hp : ∀ ρ : Operand → Value, (∀ x u, ev L x = some u → ρ x = u) → parts.toList.map (fun p => (p.1, ρ p.2)) = vs) (ht : tyU P t = some (.slice e)) (hi : ty P e = some i) (hpos : 0 < len * i.sz) (hle : len * i.sz ≤ 16777216)
    (hf : Instr.fill (fun j => some (j * i.sz, i.sz)) (madeCells i.z.cells (len * i.sz)) vs = some cs.toArray) (hd : Nat.blt d n = true) (k : ∀ b : Nat, OW P n ops Q w0 rest ((d, sl (some b) 0 len len) :: L) ((some b, blk cs e) :: M)) :
    OW P n ops Q w0 (⟨some d, .buildSlice t len parts, ty1, pos, aft, none⟩ :: rest) L M :=
 OW.new (f := fun b => sl (some b) 0 len len) (fun ρ w hρ m o ho => by
  obtain ⟨_, ti, h1, h2, h3, h4⟩ := ty_ok hi
  have e1 := hp ρ hρ
  have e2 : ¬ (16777216 < len * i.sz) := by omega
  have e3 : ¬ (len * i.sz = 0) := by omega
  unfold madeCells at hf
  simp [execOp, ho, Instr.buildSlice, Z122 ht, Go.sizeOf, typeInfo, zeroValue, h1, h2, h4, e1, e2, e3, hf, newRow, sl, blk]) hd k
theorem OW.bs1 {i : TI} {z : Value} (hx : ev L x = some v) (h1 : v.oneCell' = true) (ht : tyU P t = some (.slice e)) (hi : ty P e = some i) (hs : i.sz = 1) (hz : i.z.cells = #[z]) (hd : Nat.blt d n = true)
    (k : ∀ b : Nat, OW P n ops Q w0 rest ((d, sl (some b) 0 1 1) :: L) ((some b, blk [v] e) :: M)) : OW P n ops Q w0 (⟨some d, .buildSlice t 1 #[(0, x)], ty1, pos, aft, none⟩ :: rest) L M :=
 OW.bs (i := i) (vs := [(0, v)]) (cs := [v]) (fun ρ hρ => by simp [hρ x v hx]) ht hi (by rw [hs]; decide) (by rw [hs]; decide) (by
  rw [hs, hz]
  have : madeCells #[z] (1 * 1) = #[z] := by
   apply Array.ext'
   rw [toList_madeCells_one]
   rfl
  rw [this]
  simp [Instr.fill, cells_one h1]) hd k
def evN (L : Z123) : Nat → List (Nat × Operand) → Option (List Value)
 | _, [] => some []
 | i, (j, x) :: r => match Nat.beq j i with
  | true => (match ev L x with
   | some v => (match evN L (i + 1) r with
    | some vs => some (v :: vs)
    | none => none)
   | none => none)
  | false => none
omit [Types P] in
theorem fill_one : ∀ (ps : List (Nat × Operand)) (vs : List Value) (i : Nat) (cells : Array Value) (ρ : Operand → Value), (∀ x u, ev L x = some u → ρ x = u) → evN L i ps = some vs → (∀ v ∈ vs, v.oneCell' = true) → i + vs.length = cells.size →
    Instr.fill (fun j => some (j * 1, 1)) cells (ps.map fun p => (p.1, ρ p.2)) = some (cells.toList.take i ++ vs).toArray
 | [], vs, i, cells, ρ, hρ, h, h1, hl => by
  simp only [evN, Option.some.injEq] at h
  subst h
  simp only [List.length_nil, Nat.add_zero] at hl
  simp only [Instr.fill, List.map_nil, List.append_nil, hl]
  rw [List.take_of_length_le (by simp)]
 | (j, x) :: r, vs, i, cells, ρ, hρ, h, h1, hl => by
  simp only [evN] at h
  split at h
  ·rename_i hb
   have hji : j = i := Nat.eq_of_beq_eq_true hb
   subst hji
   split at h
   ·rename_i v hv
    split at h
    ·rename_i us hus
     simp only [Option.some.injEq] at h
     subst h
     have hv1 := h1 v (List.mem_cons_self ..)
     simp only [List.length_cons] at hl
     have ih := fill_one r us (j + 1) (cells.setIfInBounds j v) ρ hρ hus (fun u hu => h1 u (List.mem_cons_of_mem _ hu)) (by simp; omega)
     have hlt : j < cells.size := by omega
     simp only [List.map_cons, Instr.fill, hρ x v hv, cells_one hv1]
     have e0 : ¬ (j * 1 + 1 > cells.size) := by omega
     simp
     have : cells.set j v hlt = cells.setIfInBounds j v := by simp [Array.setIfInBounds, hlt]
     simp only [Nat.mul_one] at ih
     rw [ih]
     refine ⟨by omega, ?_⟩
     congr 2
     apply List.ext_getElem?
     intro k
     simp only [Array.toList_setIfInBounds]
     by_cases hk : k < j
     ·simp [List.getElem?_append, hk, show k < j + 1 by omega, show ¬ j = k by omega, show min j cells.size = j by omega, show min (j + 1) cells.size = j + 1 by omega]
     ·by_cases hk2 : k = j
      ·subst hk2
       simp [List.getElem?_append, show min k cells.size = k by omega, show min (k + 1) cells.size = k + 1 by omega]
      ·simp [List.getElem?_append, hk, show ¬ k < j + 1 by omega, show min j cells.size = j by omega, show min (j + 1) cells.size = j + 1 by omega, show k - j = (k - (j + 1)) + 1 by omega]
    ·cases h
   ·cases h
  ·cases h
theorem OW.bsN {i : TI} {z : Value} {len : Nat} {ps : List (Nat × Operand)} {vs : List Value} (hp : evN L 0 ps = some vs) (h1 : vs.all (·.oneCell') = true) (hlen : vs.length = len) (hpos : 0 < len) (hle : len ≤ 16777216) (ht : tyU P t = some (.slice e)) (hi : ty P e = some i) (hs : i.sz = 1) (hz : i.z.cells = #[z])
    (hd : Nat.blt d n = true) (k : ∀ b : Nat, OW P n ops Q w0 rest ((d, sl (some b) 0 len len) :: L) ((some b, blk vs e) :: M)) :
    OW P n ops Q w0 (⟨some d, .buildSlice t len ps.toArray, ty1, pos, aft, none⟩ :: rest) L M :=
 OW.new (f := fun b => sl (some b) 0 len len) (fun ρ w hρ m o ho => by
  obtain ⟨_, ti, g1, g2, g3, g4⟩ := ty_ok hi
  have e2 : ¬ (16777216 < len) := by omega
  have e3 : ¬ (len = 0) := by omega
  have hf := fill_one (L := L) ps vs 0 (madeCells #[z] len) ρ hρ hp (by simpa using h1) (by simp [size_madeCells, hlen])
  unfold madeCells at hf
  simp at hf
  simp [execOp, ho, Instr.buildSlice, Z122 ht, Go.sizeOf, typeInfo, zeroValue, g1, g2, g4, hs, hz, e2, e3, hf, newRow, sl, blk]) hd k
theorem rd_src {w : World} {B : Option Addr} {m c s : Nat} {vs : List Value} {t2 e2 : TypeId} (ht2 : tyU P t2 = some (.slice e2)) (hr : Rd w B vs) (hl : vs.length = m * s) (h1 : ∀ u ∈ vs, u.oneCell' = true) (hB : B = none → m = 0) : Src P s t2 (.slice B m c) m vs w := by
 cases B with
 | none =>
  have : vs = [] := by
   by_cases hv : vs = []
   ·exact hv
   ·have := hr.1 hv; cases this
  subst this
  have hm := hB rfl
  subst hm
  exact Src.ofNil w (tyU_ok ht2) c
 | some a => exact Src.ofSlice w (tyU_ok ht2) a m c vs hl (fun j u hj => hr.2 j u hj) h1
theorem OW.append {i : TI} {ob : Option Nat} {len cap m c s : Nat} {l r vs : List Value} {B : Option Addr} {t2 e2 : TypeId} (hx : ev L x = some (sl ob 0 len cap)) (hy : ev L y = some (.slice B m c)) (ht : tyU P t = some (.slice e)) (hi : ty P e = some i) (hs : i.sz = s) (ht2 : tyU P t2 = some (.slice e2))
    (hl : l.length = len * s) (hr : (l ++ r).length = cap * s) (hn : ob = none → cap = 0) (hR : Mem.Says w0 ((ob, blk (l ++ r) e) :: M) (fun w => Rd w B vs)) (hvl : vs.length = m * s) (hv1 : ∀ u ∈ vs, u.oneCell' = true) (hB : B = none → m = 0) (hspos : 0 < s)
    (h63 : len + m ≤ 9223372036854775807) (hb : (len + m) * i.bytes ≤ 140737488355328) (hz : i.z.cells.size = s) (hd : Nat.blt d n = true)
    (k : ∀ (ob' : Option Nat) (r' : List Value) (cap' : Nat), (l ++ vs ++ r').length = cap' * s → (ob' = none → cap' = 0) → OW P n ops Q w0 rest ((d, sl ob' 0 (len + m) cap') :: L) ((ob', blk (l ++ vs ++ r') e) :: M)) :
    OW P n ops Q w0 (⟨some d, .call ⟨.builtin .append, #[x, y], #[t, t2]⟩, ty1, pos, aft, none⟩ :: rest) L ((ob, blk (l ++ r) e) :: M) := by
 refine OW.av (τ := Option Nat × List Value × Nat) (I := fun q => (l ++ vs ++ q.2.1).length = q.2.2 * s ∧ (q.1 = none → q.2.2 = 0)) (v := fun q => sl q.1 0 (len + m) q.2.2) (M' := fun q => (q.1, blk (l ++ vs ++ q.2.1) e) :: M)
  (fun ρ w hρ mm o ho => ?_) hd (fun q hq => k q.1 q.2.1 q.2.2 hq.1 hq.2)
 obtain ⟨hu, ti, g1, g2, g3, g4⟩ := ty_ok hi
 have hrd := hR w mm
 have hsrc : Src P ti.size t2 (.slice B m c) m vs w := by rw [g2, hs]; exact rd_src ht2 hrd hvl hv1 hB
 have hrun : ∀ (v' : Value) (w' : World), (Builtin.append_ #[t, t2] o.type #[sl ob 0 len cap, .slice B m c]).run P w = .ok v' w' → (execOp ρ o).run P w = .ok (.value v') w' := fun v' w' hh => by
  simp [execOp, ho, resolve, hρ x _ hx, hρ y _ hy, invoke, builtin, hh]
 have hsz : ti.size = s := by rw [g2, hs]
 by_cases hroom : len + m ≤ cap
 ·-- it fits
  cases ob with
  | none =>
   have hc0 := hn rfl
   subst hc0
   have hm0 : m = 0 := by omega
   have hl0 : len = 0 := by omega
   subst hm0 hl0
   have hv0 : vs = [] := List.length_eq_zero_iff.1 (by simpa using hvl)
   subst hv0
   have e1 : l = [] := List.length_eq_zero_iff.1 (by simpa using hl)
   subst e1
   refine ⟨(none, r, 0), w, ⟨by simpa using hr, fun _ => rfl⟩, hrun _ _ ?_, ?_⟩
   ·exact run_append_nothing w t t2 o.type e ti (tyU_ok ht) g1 none 0 0 (Nat.le_refl _) _ hsrc
   ·exact mm.tail.nil_ent _
  | some b =>
   have hm := mm.ents _ (List.mem_cons_self ..) b rfl
   have hlen : l.length + vs.length ≤ (l ++ r).length := by rw [hl, hvl, hr, ← Nat.add_mul]; exact Nat.mul_le_mul_right _ hroom
   have hra := run_append_room_src (P := P) w t t2 o.type e ti (tyU_ok ht) g1 b 0 len cap (.slice B m c) m vs hsrc hroom (fun j hj => by
       rw [mm.cell (List.mem_cons_self ..), hsz]
       have : 0 + len * s + j < (l ++ r).length := by omega
       rw [List.getElem?_eq_getElem this]; rfl) (fun j hj => mm.notFrozen (List.mem_cons_self ..) _)
   rw [hsz] at hra
   have hset : w.setCells b (0 + len * s) vs = w.setRow b ((l ++ r).toArray.toList.take (0 + len * s) ++ vs ++ (l ++ r).toArray.toList.drop (0 + len * s + vs.length)).toArray := by
    have q1 := run_storeCells_at (P := P) b (0 + len * s) e vs 0 (l ++ r).toArray w hm.2 (by simp; simp at hlen; omega) hv1
    have q2 := run_storeCells_cells (P := P) b (0 + len * s) vs 0 w (fun j hj => by
     rw [mm.cell (List.mem_cons_self ..)]
     have : 0 + len * s + 0 + j < (l ++ r).length := by omega
     rw [List.getElem?_eq_getElem this]; rfl) (fun j hj => mm.notFrozen (List.mem_cons_self ..) _) hv1
    rw [q1] at q2
    simp only [Nat.add_zero] at q2
    injection q2 with _ q3
    exact q3.symm
   rw [hset] at hra
   refine ⟨(some b, r.drop vs.length, cap), _, ⟨?_, fun h => by cases h⟩, hrun _ _ (by simpa [sl] using hra), mm.turned (w' := w.setRow b _) rfl rfl rfl (by simp [World.setRow]) ?_ ?_⟩
   ·rw [← hr]; simp at hlen ⊢; omega
   ·intro b' hb'
    cases hb'
    rw [setRow_heap w b (l ++ r).toArray _ e (0, 0) hm.2]
    simp only [blk]
    simp [← hl, List.drop_append]
   ·intro kk hk
    exact setRow_other _ _ _ _ (fun e => hk (by rw [e]))
 ·-- it grows
  have hold : (Builtin.firstCells ti.size len (sl ob 0 len cap)).run P w.drew = .ok l.toArray w.drew := by
   cases ob with
   | none =>
    have hc0 := hn rfl
    have e0 : (l ++ r).length = 0 := by rw [hr, hc0]; simp
    have e1 : l = [] := by cases l with | nil => rfl | cons a b => simp at e0
    subst e1
    simp [sl, Builtin.firstCells]
   | some b =>
    have := run_firstCells_some (P := P) w.drew ti.size len ⟨b, 0, none⟩ len cap l (by rw [hsz]; exact hl) (fun j u hj => by
     rw [Z119, (mm.drew).cell (List.mem_cons_self ..)]
     have hj' : j < l.length := (List.getElem?_eq_some_iff.1 hj).1
     rw [Nat.zero_add, List.getElem?_append_left hj']; exact hj)
    exact this
  have hg := run_append_grow_src (P := P) w t t2 o.type e ti i.z (tyU_ok ht) g1 g4 (ob.map fun k => ⟨k, 0, none⟩) len cap l hold (.slice B m c) m vs hsrc (by omega) (by omega)
   (growslice_fits (by omega) (by rw [g3]; exact hb))
  refine ⟨(some w.heap.size, (Builtin.zeroCells i.z.cells (grownCap w (len + m) cap e - (len + m))).toList, grownCap w (len + m) cap e), _, ⟨?_, fun h => by cases h⟩, hrun _ _ (by simpa [sl] using hg), ?_⟩
  ·have hge := grownCap_ge w (len + m) cap e
   simp only [List.length_append, Array.length_toList, size_zeroCells, hz, hl, hvl]
   rw [← Nat.add_mul, ← Nat.add_mul]
   congr 1; omega
  ·have := mm.drew.tail.alloc (blk (l ++ vs ++ (Builtin.zeroCells i.z.cells (grownCap w (len + m) cap e - (len + m))).toList) e)
   have e3 : (.cells ((l ++ vs).toArray ++ Builtin.zeroCells i.z.cells (grownCap w (len + m) cap e - (len + m))) e : Obj) = blk (l ++ vs ++ (Builtin.zeroCells i.z.cells (grownCap w (len + m) cap e - (len + m))).toList) e := by
    unfold blk
    congr 1
    apply Array.ext'
    simp
   rw [e3]
   exact this
end
section
variable {P : Program} {n : Nat} {ops : Array Oper} {Q : Exit → Act → World → Prop} {w0 : World} {l : List Oper} {L : Z123} {M : List Ent} {e0 e1 e2 e3 e4 e5 : Ent}
theorem OW.perm {M' : List Ent} (h : M.Perm M') (k : OW P n ops Q w0 l L M') : OW P n ops Q w0 l L M := OW.intro fun a w f m => k.elim a w f (m.perm h)
theorem OW.rot1 (k : OW P n ops Q w0 l L (e1 :: e0 :: M)) : OW P n ops Q w0 l L (e0 :: e1 :: M) := OW.perm (List.Perm.swap _ _ _) k
theorem OW.rot2 (k : OW P n ops Q w0 l L (e2 :: e0 :: e1 :: M)) : OW P n ops Q w0 l L (e0 :: e1 :: e2 :: M) := OW.perm (List.perm_middle (l₁ := [e0, e1])) k
theorem OW.rot3 (k : OW P n ops Q w0 l L (e3 :: e0 :: e1 :: e2 :: M)) : OW P n ops Q w0 l L (e0 :: e1 :: e2 :: e3 :: M) := OW.perm (List.perm_middle (l₁ := [e0, e1, e2])) k
theorem OW.rot4 (k : OW P n ops Q w0 l L (e4 :: e0 :: e1 :: e2 :: e3 :: M)) : OW P n ops Q w0 l L (e0 :: e1 :: e2 :: e3 :: e4 :: M) := OW.perm (List.perm_middle (l₁ := [e0, e1, e2, e3])) k
theorem OW.drop1 (k : OW P n ops Q w0 l L (e0 :: M)) : OW P n ops Q w0 l L (e0 :: e1 :: M) := OW.intro fun a w f m => k.elim a w f (m.sublist (by simp))
end
def Sub' (L L' : Z123) : Prop := ∀ k v, lk L' k = some v → lk L k = some v
theorem OW.frame {P : Program} {n : Nat} {ops : Array Oper} {Q : Exit → Act → World → Prop} {w0 : World} {l : List Oper} {L L' : Z123} {M : List Ent} (hs : Sub' L L') (k : OW P n ops Q w0 l L' M) : OW P n ops Q w0 l L M := OW.intro fun a w f m => k.elim a w (f.sub hs) m
section
variable {P : Program} [Types P] {w0 : World} {L : Z123} {M : List Ent} {x y z : Operand} {t t' e : TypeId} {v : Value} {n : Nat} {Q : Exit → Act → World → Prop}
 {ops : Array Oper} {rest : List Oper} {ty1 ty2 : TypeId} {pos pos2 : String} {aft aft2 : Array Edge} {d d1 : Nat}
theorem OW.appendG {i : TI} {A : Option Addr} {len cap m c s : Nat} {l vs : List Value} {B : Option Addr} {t2 e2 : TypeId} (hx : ev L x = some (.slice A len cap)) (hy : ev L y = some (.slice B m c)) (ht : tyU P t = some (.slice e)) (hi : ty P e = some i) (hs : i.sz = s) (ht2 : tyU P t2 = some (.slice e2))
    (hl : l.length = len * s) (hA : Mem.Says w0 M (fun w => Rd w A l)) (hAn : A = none → len = 0) (hR : Mem.Says w0 M (fun w => Rd w B vs)) (hvl : vs.length = m * s) (hv1 : ∀ u ∈ vs, u.oneCell' = true) (hB : B = none → m = 0) (hg : cap < len + m)
    (h63 : len + m ≤ 9223372036854775807) (hb : (len + m) * i.bytes ≤ 140737488355328) (hz : i.z.cells.size = s) (hd : Nat.blt d n = true)
    (k : ∀ (b' : Nat) (r' : List Value) (cap' : Nat), (l ++ vs ++ r').length = cap' * s → OW P n ops Q w0 rest ((d, sl (some b') 0 (len + m) cap') :: L) ((some b', blk (l ++ vs ++ r') e) :: M)) :
    OW P n ops Q w0 (⟨some d, .call ⟨.builtin .append, #[x, y], #[t, t2]⟩, ty1, pos, aft, none⟩ :: rest) L M := by
 refine OW.av (τ := Nat × List Value × Nat) (I := fun q => (l ++ vs ++ q.2.1).length = q.2.2 * s) (v := fun q => sl (some q.1) 0 (len + m) q.2.2) (M' := fun q => (some q.1, blk (l ++ vs ++ q.2.1) e) :: M)
  (fun ρ w hρ mm o ho => ?_) hd (fun q hq => k q.1 q.2.1 q.2.2 hq)
 obtain ⟨hu, ti, g1, g2, g3, g4⟩ := ty_ok hi
 have hsz : ti.size = s := by rw [g2, hs]
 have hsrc : Src P ti.size t2 (.slice B m c) m vs w := by rw [hsz]; exact rd_src ht2 (hR w mm) hvl hv1 hB
 have hrun : ∀ (v' : Value) (w' : World), (Builtin.append_ #[t, t2] o.type #[.slice A len cap, .slice B m c]).run P w = .ok v' w' → (execOp ρ o).run P w = .ok (.value v') w' := fun v' w' hh => by
  simp [execOp, ho, resolve, hρ x _ hx, hρ y _ hy, invoke, builtin, hh]
 have hold : (Builtin.firstCells ti.size len (.slice A len cap)).run P w.drew = .ok l.toArray w.drew := by
  have hrd := hA w.drew mm.drew
  cases A with
  | none =>
   have h0 := hAn rfl
   subst h0
   have e1 : l = [] := List.length_eq_zero_iff.1 (by simpa using hl)
   subst e1
   simp [Builtin.firstCells]
  | some a => exact run_firstCells_some (P := P) w.drew ti.size len a len cap l (by rw [hsz]; exact hl) (fun j u hj => hrd.2 j u hj)
 have hgr := run_append_grow_src (P := P) w t t2 o.type e ti i.z (tyU_ok ht) g1 g4 A len cap l hold (.slice B m c) m vs hsrc hg (by omega) (growslice_fits hg (by rw [g3]; exact hb))
 refine ⟨(w.heap.size, (Builtin.zeroCells i.z.cells (grownCap w (len + m) cap e - (len + m))).toList, grownCap w (len + m) cap e), _, ?_, hrun _ _ (by simpa [sl] using hgr), ?_⟩
 ·have hge := grownCap_ge w (len + m) cap e
  simp only [List.length_append, Array.length_toList, size_zeroCells, hz, hl, hvl]
  rw [← Nat.add_mul, ← Nat.add_mul]
  congr 1; omega
 ·have := mm.drew.alloc (blk (l ++ vs ++ (Builtin.zeroCells i.z.cells (grownCap w (len + m) cap e - (len + m))).toList) e)
  have e3 : (.cells ((l ++ vs).toArray ++ Builtin.zeroCells i.z.cells (grownCap w (len + m) cap e - (len + m))) e : Obj) = blk (l ++ vs ++ (Builtin.zeroCells i.z.cells (grownCap w (len + m) cap e - (len + m))).toList) e := by
   unfold blk
   congr 1
   apply Array.ext'
   simp
  rw [e3]
  exact this
end
theorem CW.cells {P : Program} {n : Nat} {Q : Exit → Act → World → Prop} {w0 : World} {c : Code} {L : Z123} {M : List Ent} {ob : Option Nat} {l : List Value} {t : TypeId} (l' : List Value) (e : l = l') (k : CW P n Q w0 c L ((ob, blk l' t) :: M)) : CW P n Q w0 c L ((ob, blk l t) :: M) := by rw [e]; exact k
section
variable {P : Program} [Types P] {w0 : World} {L : Z123} {M : List Ent} {x y z : Operand} {t t' e : TypeId} {v : Value} {n : Nat} {Q : Exit → Act → World → Prop}
 {ops : Array Oper} {rest : List Oper} {ty1 ty2 : TypeId} {pos pos2 : String} {aft aft2 : Array Edge} {d d1 : Nat}
theorem OW.push {i : TI} {z : Value} {ob : Option Nat} {len cap : Nat} {l r : List Value} (hx : ev L x = some (sl ob 0 len cap)) (hxd : (match x with | .tmp k => Nat.beq d1 k | _ => false) = false) (hy : ev L y = some v) (h1 : v.oneCell' = true) (ht : tyU P t = some (.slice e)) (hi : ty P e = some i) (hs : i.sz = 1) (hz : i.z.cells = #[z])
    (hl : l.length = len) (hr : (l ++ r).length = cap) (hn : ob = none → cap = 0) (h63 : len + 1 ≤ 9223372036854775807) (hb : (len + 1) * i.bytes ≤ 140737488355328) (hd1 : Nat.blt d1 n = true) (hd : Nat.blt d n = true)
    (k : ∀ (b : Nat) (ob' : Option Nat) (r' : List Value) (cap' : Nat), (l ++ [v] ++ r').length = cap' → (ob' = none → cap' = 0) → OW P n ops Q w0 rest ((d, sl ob' 0 (len + 1) cap') :: (d1, sl (some b) 0 1 1) :: L) ((ob', blk (l ++ [v] ++ r') e) :: M)) :
    OW P n ops Q w0 (⟨some d1, .buildSlice t 1 #[(0, y)], ty1, pos, aft, none⟩ :: ⟨some d, .call ⟨.builtin .append, #[x, .tmp d1], #[t, t]⟩, ty2, pos2, aft2, none⟩ :: rest) L ((ob, blk (l ++ r) e) :: M) := by
 refine OW.bs1 hy h1 ht hi hs hz hd1 (fun b => OW.rot1 ?_)
 have hx' : ev ((d1, sl (some b) 0 1 1) :: L) x = some (sl ob 0 len cap) := by
  cases x with
  | tmp k => simp only [ev, lk]; simp only at hxd; rw [hxd]; exact hx
  | _ => exact hx
 have hy' : ev ((d1, sl (some b) 0 1 1) :: L) (.tmp d1) = some (sl (some b) 0 1 1) := by simp [ev, lk]
 refine OW.append (i := i) (s := 1) (vs := [v]) (B := some ⟨b, 0, none⟩) (m := 1) (c := 1) hx' hy' ht hi hs ht (by omega) (by omega) hn ?_ rfl (fun u hu => by simp at hu; rw [hu]; exact h1) (fun h => by cases h) (by omega) h63 hb (by rw [hz]; rfl) hd ?_
 ·intro w m
  have := m.rd (ob := some b) (l := [v]) (t := e) (by simp) (fun h => by cases h) 0 1
  simpa using this
 ·intro ob' r' cap' h1' h2'
  exact OW.drop1 (k b ob' r' cap' (by omega) h2')
end
def u8s (l : List (BitVec 8)) : List Value := l.map U8
@[simp] theorem Z101 (l : List (BitVec 8)) : (u8s l).length = l.length := by simp [u8s]
theorem Z125 (l : List (BitVec 8)) : ∀ u ∈ u8s l, u.oneCell' = true := fun u hu => by
 simp only [u8s, List.mem_map] at hu
 obtain ⟨x, _, rfl⟩ := hu
 rfl
end Go.Fw
namespace Go.Fw
open Go Go.RowKit Go.Deep
theorem list_of {α : Type} {Q : Nat → α → Prop} : ∀ (n : Nat), (∀ i, i < n → ∃ x, Q i x) → ∃ xs : List α, xs.length = n ∧ ∀ i x, xs[i]? = some x → Q i x
 | 0, _ => ⟨[], rfl, fun i x h => by simp at h⟩
 | n + 1, h => by
  obtain ⟨xs, hl, hx⟩ := list_of n (fun i hi => h i (by omega))
  obtain ⟨x, hq⟩ := h n (by omega)
  refine ⟨xs ++ [x], by simp [hl], fun i y hy => ?_⟩
  rcases Nat.lt_or_ge i n with hi | hi
  ·rw [List.getElem?_append_left (by omega)] at hy
   exact hx i y hy
  ·rw [List.getElem?_append_right (by omega)] at hy
   have h0 : i = n := by
    have := (List.getElem?_eq_some_iff.1 hy).1
    simp at this; omega
   subst h0
   simp [hl] at hy
   exact hy ▸ hq
theorem mapM_some_get {α β : Type} (f : α → Option β) : ∀ (l : List α) (r : List β), l.mapM f = some r → r.length = l.length ∧ ∀ (i : Nat) x, l[i]? = some x → f x = r[i]?
 | [], r, h => by
  simp at h
  subst h
  exact ⟨rfl, fun i x hx => by simp at hx⟩
 | y :: l, r, h => by
  simp only [List.mapM_cons, Option.bind_eq_bind, Option.bind_eq_some_iff, Option.pure_def, Option.some.injEq] at h
  obtain ⟨b, hb, bs, hbs, rfl⟩ := h
  obtain ⟨h1, h2⟩ := mapM_some_get f l bs hbs
  refine ⟨by simp [h1], fun i x hx => ?_⟩
  cases i with
  | zero => simp at hx; subst hx; simp [hb]
  | succ i => simp at hx ⊢; exact h2 i x hx
theorem flatMap_get {α : Type} (cells : α → List Value) (s : Nat) (hs : 0 < s) : ∀ (xs : List α), (∀ x ∈ xs, (cells x).length = s) → ∀ (k : Nat) (u : Value), (xs.flatMap cells)[k]? = some u → ∃ x, xs[k / s]? = some x ∧ (cells x)[k % s]? = some u
 | [], _, k, u, h => by simp at h
 | x :: xs, hx, k, u, h => by
  have hl := hx x (List.mem_cons_self ..)
  rw [List.flatMap_cons] at h
  rcases Nat.lt_or_ge k s with hk | hk
  ·rw [List.getElem?_append_left (by omega)] at h
   rw [Nat.div_eq_of_lt hk, Nat.mod_eq_of_lt hk]
   exact ⟨x, rfl, h⟩
  ·rw [List.getElem?_append_right (by omega), hl] at h
   obtain ⟨y, h1, h2⟩ := flatMap_get cells s hs xs (fun z hz => hx z (List.mem_cons_of_mem _ hz)) (k - s) u h
   refine ⟨y, ?_, ?_⟩
   ·have : k / s = (k - s) / s + 1 := by rw [← Nat.sub_add_cancel hk, Nat.add_div_right _ hs, Nat.sub_add_cancel hk]
    rw [this]; simpa using h1
   ·rw [Nat.mod_eq_sub_mod hk]; exact h2
section
variable {H : Type} {enc : TypeId × Value → H} {P : Program} {W : World} {t e : TypeId} {v : Value}
abbrev reads (enc : TypeId × Value → H) (P : Program) (W : World) (fuel : Nat) (t : TypeId) (cs : List Value) : Option (DataW H × List MemPlace) := DataW.trod enc P W 0 (fun _ => true) true fuel t cs
theorem reads_int {k : IntKind} (ht : P.underlying t = some (.int k)) {fuel : Nat} {cs : List Value} {r : DataW H × List MemPlace} (h : reads enc P W fuel t cs = some r) : ∃ n : Int, cs = [.int k n] ∧ (Lit.int k n).wf = true := by
 obtain ⟨n, h1, _, h2⟩ := DataW.trod_int ht h
 exact ⟨n, h1, h2⟩
theorem reads_u8 (ht : P.underlying t = some (.int .u8)) {fuel : Nat} {cs : List Value} {r : DataW H × List MemPlace} (h : reads enc P W fuel t cs = some r) : ∃ x : BitVec 8, cs = [U8 x] := by
 obtain ⟨n, rfl, hw⟩ := reads_int ht h
 simp only [Lit.wf, Bool.and_eq_true, decide_eq_true_eq] at hw
 have e1 : IntKind.u8.min = 0 := by decide
 have e2 : IntKind.u8.max = 255 := by decide
 rw [e1, e2] at hw
 refine ⟨BitVec.ofInt 8 n, ?_⟩
 simp only [U8, BitVec.toNat_ofInt]
 congr 2
 omega
end
end Go.Fw
namespace Go.Fw
open Go Go.RowKit
class NoGuard (P : Program) where
 ts : List Nat
 ok : ∀ t, ts.contains t = true → P.eqGuardType P.depth t = false
def AllNG (P : Program) : List Nat → Prop
 | [] => True
 | t :: r => P.eqGuardType P.depth t = false ∧ AllNG P r
theorem AllNG.mem {P : Program} : ∀ {l : List Nat}, AllNG P l → ∀ t, l.contains t = true → P.eqGuardType P.depth t = false
 | [], _, t, h => by simp at h
 | x :: r, hl, t, h => by
  simp only [List.contains_cons, Bool.or_eq_true, beq_iff_eq] at h
  rcases h with rfl | h
  ·exact hl.1
  ·exact AllNG.mem hl.2 t h
section
variable {P : Program} [Types P] {w : World}
theorem part_run {e : TypeId} {u : TypeDesc} (hu : tyU P e = some u) (hg : TypeDesc.agg u = false) {cs : Array Value} {i : Nat} {v : Value} (hv : cs[i]? = some v) : (part e cs i).run P w = .ok v w := by
 simp [part, isAgg_run hu, hg, hv]
theorem eq_loop {e : TypeId} {k : IntKind} (he : tyU P e = some (.int k)) (hs : tyS P e = some 1) (d : Nat) (xs ys : Array Value) (f g : Nat → Int) :
    ∀ (l : List Nat), (∀ i ∈ l, xs[i]? = some (.int k (f i)) ∧ ys[i]? = some (.int k (g i))) →
    ((forIn l (none, PUnit.unit) fun i (r : Option Bool × PUnit) => (do
        let a ← part e xs (i * 1)
        let b ← part e ys (i * 1)
        let c ← Op.equalIn (d + 1) e a b
        if (!c) = true then pure (ForInStep.done (some false, PUnit.unit)) else pure (ForInStep.yield (none, PUnit.unit)) : Sem (ForInStep (Option Bool × PUnit)))) : Sem (Option Bool × PUnit)).run P w =
     .ok (if (∀ i ∈ l, f i = g i) then none else some false, PUnit.unit) w
 | [], _ => by simp
 | i :: l, h => by
  obtain ⟨h1, h2⟩ := h i (List.mem_cons_self ..)
  have ih := eq_loop he hs d xs ys f g l (fun j hj => h j (List.mem_cons_of_mem _ hj))
  simp only [List.forIn_cons, Sem.run_bind, Nat.mul_one] at ih ⊢
  rw [part_run he rfl h1]
  simp only [Result.andThen_ok]
  rw [part_run he rfl h2]
  simp only [Result.andThen_ok]
  rw [run_equalIn_int w d e k k (f i) (g i) (tyU_ok he)]
  simp only [Result.andThen_ok]
  by_cases hfg : f i = g i
  ·have : (!(f i == g i)) = false := by simp [hfg]
   simp only [this, Bool.false_eq_true, if_false, Sem.run_pure, Result.andThen_ok]
   rw [ih]
   simp [hfg]
  ·have : (!(f i == g i)) = true := by simp [hfg]
   simp [this, hfg]
theorem run_equalIn_array {t e : TypeId} {n : Nat} {k : IntKind} (ht : tyU P t = some (.array n e)) (he : tyU P e = some (.int k)) (hs : tyS P e = some 1) (d : Nat) (xs ys : List Int) (hx : xs.length = n) (hy : ys.length = n) :
    (Op.equalIn (d + 2) t (.agg (xs.map (.int k)).toArray) (.agg (ys.map (.int k)).toArray)).run P w = .ok (decide (xs = ys)) w := by
 unfold Op.equalIn
 simp only [Sem.run_bind, Z122 ht, Result.andThen_ok, Z136 hs, Std.Legacy.Range.forIn_eq_forIn_range', Std.Legacy.Range.size]
 have h := eq_loop (P := P) (w := w) he hs d (xs.map (.int k)).toArray (ys.map (.int k)).toArray (fun i => xs.getD i 0) (fun i => ys.getD i 0) (List.range' 0 n) (fun i hi => by
  have : i < n := by simpa using hi
  have h1 : i < xs.length := by omega
  have h2 : i < ys.length := by omega
  simp [h1, h2])
 have e0 : (n - 0 + 1 - 1) / 1 = n := by omega
 rw [e0]
 rw [h]
 have key : (∀ i ∈ List.range' 0 n, xs.getD i 0 = ys.getD i 0) ↔ xs = ys := by
  constructor
  ·intro hh
   apply List.ext_getElem (by omega)
   intro i h1 h2
   have := hh i (by simp; omega)
   simpa [h1, h2] using this
  ·intro e; subst e; intro i _; rfl
 by_cases e : xs = ys
 ·simp [e]
 ·have : ¬ (∀ i ∈ List.range' 0 n, xs.getD i 0 = ys.getD i 0) := fun hh => e (key.1 hh)
  simp only [if_neg this]
  simp [e]
end
section
variable {P : Program} [Types P] [NoGuard P] {w0 : World} {L : Z123} {M : List Ent} {x y z : Operand} {t t' e : TypeId} {v u : Value}
theorem RV.neA {n : Nat} {k : IntKind} {xs ys : List Int} (hx : ev L x = some (.agg (xs.map (.int k)).toArray)) (hy : ev L y = some (.agg (ys.map (.int k)).toArray)) (ht : tyU P t = some (.array n e)) (he : tyU P e = some (.int k)) (hs : tyS P e = some 1)
    (hg : (NoGuard.ts P).contains t = true) (hlx : xs.length = n) (hly : ys.length = n) : RV P w0 L M (.binOp .neq t x y t') (.bool (!decide (xs = ys))) := fun ρ w hρ m o ho => by
 have h1 := run_equalIn_array (P := P) (w := w) ht he hs 9998 xs ys hlx hly
 simp only [execOp, ho, hρ x _ hx, hρ y _ hy, Sem.run_bind, run_eqGuard_agg w .neq t x y _ _ (NoGuard.ok t hg), Result.andThen_ok, run_neq_struct, h1]
 rfl
end
def u32s (l : List (BitVec 32)) : List Value := l.map U32
def u64s (l : List (BitVec 64)) : List Value := l.map U64
theorem u8s_ints (l : List (BitVec 8)) : u8s l = (l.map fun x => (x.toNat : Int)).map (.int .u8) := by simp [u8s, U8]
theorem ints8_inj {a b : List (BitVec 8)} (h : (a.map fun x => (x.toNat : Int)) = b.map fun x => (x.toNat : Int)) : a = b := by
 refine List.map_inj_right (fun x y hxy => BitVec.eq_of_toNat_eq (by omega)) |>.1 h
section
variable {P : Program} [Types P] [NoGuard P] {w0 : World} {L : Z123} {M : List Ent} {x y z : Operand} {t t' e : TypeId} {v u : Value} {n : Nat} {a b : List (BitVec 8)}
theorem RV.neA8 (hx : ev L x = some (.agg (u8s a).toArray)) (hy : ev L y = some (.agg (u8s b).toArray)) (ht : tyU P t = some (.array n e)) (he : tyU P e = some (.int .u8)) (hs : tyS P e = some 1)
    (hg : (NoGuard.ts P).contains t = true) (hlx : a.length = n) (hly : b.length = n) : RV P w0 L M (.binOp .neq t x y t') (.bool (!decide (a = b))) := by
 rw [u8s_ints] at hx hy
 have := RV.neA (P := P) (w0 := w0) (M := M) (t' := t') hx hy ht he hs hg (by simp [hlx]) (by simp [hly])
 rwa [show decide ((a.map fun x => (x.toNat : Int)) = b.map fun x => (x.toNat : Int)) = decide (a = b) from decide_eq_decide.2 ⟨ints8_inj, fun h => by rw [h]⟩] at this
theorem RV.neA8_f (hx : ev L x = some (.agg (u8s a).toArray)) (hy : ev L y = some (.agg (u8s b).toArray)) (ht : tyU P t = some (.array n e)) (he : tyU P e = some (.int .u8)) (hs : tyS P e = some 1)
    (hg : (NoGuard.ts P).contains t = true) (hlx : a.length = n) (h : a = b) : RV P w0 L M (.binOp .neq t x y t') (.bool false) := by
 subst h
 have := RV.neA8 (P := P) (w0 := w0) (M := M) (t' := t') hx hy ht he hs hg hlx hlx
 rwa [decide_eq_true rfl] at this
end
section
variable {P : Program} [Types P] [NoGuard P] {w0 : World} {L : Z123} {M : List Ent} {x y z : Operand} {t t' e : TypeId} {v u : Value} {n : Nat} {a b : List (BitVec 32)}
end
section
variable {P : Program} [Types P] [NoGuard P] {w0 : World} {L : Z123} {M : List Ent} {x y z : Operand} {t t' e : TypeId} {v u : Value} {n : Nat} {a b : List (BitVec 64)}
end
section
variable {P : Program} [Types P] {w0 : World} {L : Z123} {M : List Ent} {x y z : Operand} {t t' e : TypeId} {v u : Value}
theorem Z22 {ob : Option Nat} {l : List Value} {te : TypeId} {u : TypeDesc} {s : Nat} (hx : ev L x = some (ptr ob 0)) (he : (ob, blk l te) ∈ M) (hs : ob.isSome = true) (hu : tyU P t = some u) (hg : TypeDesc.agg u = true) (hsz : tyS P t = some s) (hl : l.length = s) : RV P w0 L M (.load t x) (.agg l.toArray) :=
 RV.loadA hx he hs hu hg (by rw [hl]; exact hsz) (fun j u hj => by rw [Nat.zero_add]; exact hj)
theorem Z104 {ob : Option Nat} {l vs : List Value} {te : TypeId} {s : Nat} (hx : ev L x = some (ptr ob 0)) (hs : ob.isSome = true) (hy : ev L y = some (.agg vs.toArray)) (h1 : ∀ v ∈ vs, v.oneCell' = true) (hsz : tyS P t = some s) (hl : l.length = s) (hv : vs.length = s) :
    SV P w0 L ((ob, blk l te) :: M) (.store t x y) ((ob, blk vs te) :: M) := by
 have h := SV.storeA (P := P) (w0 := w0) (M := M) (te := te) (l := l) hx hs hy h1 (by rw [hv]; exact hsz) (by omega)
 have e : l.take 0 ++ vs ++ l.drop (0 + vs.length) = vs := by rw [List.drop_of_length_le (by omega)]; simp
 rw [e] at h
 exact h
end
end Go.Fw
namespace Go.Fw
open Go Go.RowKit
section
variable {P : Program} {ops : Array Oper} {md : Region.Mode} {C : World → Prop}
def headAny (P : Program) (md : Region.Mode) (ops : Array Oper) (C : World → Prop) (n : Nat) (E : Array Bool → Act → Prop) : Nat → Array Bool → Act → Prop
 | 0, done, a => E done a
 | f + 1, done, a => Region.ready md ops done ≠ [] ∧ ∀ i, i ∈ Region.ready md ops done → i < n ∧ qOp P ops C i (headAny P md ops C n E f (done.setIfInBounds i true)) a
theorem headAny.any {n g : Nat} {E : Array Bool → Act → Prop} {Q : Exit → Act → World → Prop} (hE : ∀ done a w, C w → E done a → wpAny P md ops Q g done a w) :
    ∀ (f : Nat) (done : Array Bool) (a : Act) (w : World), C w → headAny P md ops C n E f done a → wpAny P md ops Q (f + g) done a w
 | 0, done, a, w, hw, h => by simpa using hE done a w hw h
 | f + 1, done, a, w, hw, h => by
  have hfg : f + 1 + g = (f + g) + 1 := by omega
  rw [hfg]
  refine ⟨fun e => absurd e h.1, fun i hi => ?_⟩
  exact wpOp_of_qOp hw (fun a' w' hw' h' => headAny.any hE f _ a' w' hw' h') (h.2 i hi).2
theorem headAny.take {n i : Nat} {oi : Oper} {v : Value} {E : Array Bool → Act → Prop} (hi : ops[i]? = some oi) (hsel : ∀ (j : Nat) (o : Oper) cs b, ops[j]? = some o → o.op ≠ .select cs b)
    (hs : Region.sinkB md ops n = true) (hc : Region.chainB md ops n = true) (hn : n < ops.size) (hin : i < n) (hE : ∀ done a, E done a → ∀ j ∈ Region.ready md ops done, n ≤ j) :
    ∀ (f : Nat) (done : Array Bool) (a : Act), HeadInv md ops n done →
     (∀ j oj, ops[j]? = some oj → j ≠ i → done.getD j true = false → (∀ e ∈ oj.after, Region.binds md e = true → e.on ≠ i) → oi.apart ops oj = true) →
     i ∈ Region.ready md ops done → YieldsIn P ops C oi v a → headAny P md ops C n E f (done.setIfInBounds i true) (a.put oi.dst v) → headAny P md ops C n E (f + 1) done a := by
 intro f
 induction f with
 | zero =>
  intro done a inv _ hr hy h
  refine ⟨(fun e => by rw [e] at hr; cases hr), fun j hj => ?_⟩
  have hjn : j < n := Nat.lt_of_not_le fun hle => tail_waits hs hc hn inv _ i rfl hin (mem_ready.1 hr).1 j hle hj
  by_cases e : j = i
  ·subst e
   exact ⟨hjn, hy.qOp hi h⟩
  ·have := hE _ _ h j (ready_mono hj e)
   omega
 | succ f ih =>
  intro done a inv hfree hr hy h
  refine ⟨(fun e => by rw [e] at hr; cases hr), fun j hj => ?_⟩
  have hjn : j < n := Nat.lt_of_not_le fun hle => tail_waits hs hc hn inv _ i rfl hin (mem_ready.1 hr).1 j hle hj
  by_cases e : j = i
  ·subst e
   exact ⟨hjn, hy.qOp hi h⟩
  ·refine ⟨hjn, ?_⟩
   obtain ⟨hju, oj, hoj, hall⟩ := mem_ready.1 hj
   have hno : ∀ e ∈ oj.after, Region.binds md e = true → e.on ≠ i := fun x hx hb hxi => by
    have q := hall x hx hb
    rw [hxi, getD_both (mem_ready.1 hr).1] at q
    cases q
   have step := qOp_put hoj (hfree j oj hoj e hju hno) (fun cs b => hsel i oi cs b hi) (fun cs b => hsel j oj cs b hoj) hy (h.2 j (ready_mono hj e)).2
   refine qOp_mono (fun a' q => ih _ a' (inv.set hj hjn) (fun k ok hk hki hku hnk => hfree k ok hk hki ?_ hnk) (ready_mono hr (Ne.symm e)) q.1 ?_) step
   ·by_cases hjk : j = k
    ·subst hjk; exact hju
    ·rwa [getD_set_ne true hjk] at hku
   ·rw [Array.setIfInBounds_comm _ _ e]
    exact q.2
end
section
variable {P : Program} {n : Nat} {Q : Exit → Act → World → Prop} {w0 : World} {L : Z123} {M : List Ent}
def TW (P : Program) (n : Nat) (ops : Array Oper) (Q : Exit → Act → World → Prop) (w0 : World) (tail : List Oper) (l : List Oper) (L : Z123) (M : List Ent) : Prop :=
 ∀ a, Fr n L a → wpQuiet P ops (fun w => Mem w0 w M) (fun a' => ∀ w', Mem w0 w' M → wpList P ops Q tail a' w') l a
variable {ops : Array Oper} {rest tail : List Oper} {op : Op} {ty : TypeId} {pos : String} {aft : Array Edge} {d : Nat} {v : Value}
theorem TW.nil (h : OW P n ops Q w0 tail L M) : TW P n ops Q w0 tail [] L M := fun a f => wpQuiet_nil fun w m => h.elim a w f m
theorem TW.rv (hop : RV P w0 L M op v) (hd : Nat.blt d n = true) (k : TW P n ops Q w0 tail rest ((d, v) :: L) M) : TW P n ops Q w0 tail (⟨some d, op, ty, pos, aft, none⟩ :: rest) L M := fun a f =>
 wpQuiet_step fun K hK => by
  simp only [Region.wanted, if_true]
  refine ⟨v, fun w m => ?_, hK _ (k _ (f.put hd v))⟩
  unfold Oper.quietAt
  rw [hop a.eval w (fun x u hx => f.eval hx) m _ rfl]
  exact ⟨rfl, rfl⟩
theorem TW.call {f : FuncId} {xs : List Operand} {ats : Array TypeId} {args : List Value} {τ : Type} {I : τ → Prop} {u : τ → Value} {M' : τ → List Ent} (v : Value) (hc : ∀ (args : Array Value) (w : World), (callFunc f args).run P w = .ok (.enter f args) w)
    (hxs : evs L xs = some args) (hdo : Does P f args w0 M I u M') (hu : ∀ x, I x → u x = v) (hM : ∀ x, I x → ∀ w, Mem w0 w (M' x) → Mem w0 w M) (hd : Nat.blt d n = true) (k : TW P n ops Q w0 tail rest ((d, v) :: L) M) :
    TW P n ops Q w0 tail (⟨some d, .call ⟨.value (.func f), xs.toArray, ats⟩, ty, pos, aft, none⟩ :: rest) L M := fun a fr =>
 wpQuiet_step fun K hK => by
  simp only [Region.wanted, if_true]
  refine ⟨v, fun w m => ?_, hK _ (k _ (fr.put hd v))⟩
  have hev := evs_map (fun x u hx => fr.eval hx) xs args hxs
  have hrun : (execOp a.eval ⟨some d, .call ⟨.value (.func f), xs.toArray, ats⟩, ty, pos, aft, none⟩).run P w = .ok (.enter f args.toArray) w := by
   simp [execOp, resolve, Deferred.ofValue, Act.eval, invoke, hev, hc]
  unfold Oper.quietAt
  rw [hrun]
  refine ⟨rfl, (hdo w m).mono ?_⟩
  rintro e w' ⟨x, hI, rfl, m'⟩
  exact ⟨by rw [hu x hI], hM x hI w' m'⟩
theorem TW.want {dst : Option Nat} {j : Nat} {b : Bool} (hy : yl ops L j = some (.bool b)) (h : TW P n ops Q w0 tail (⟨dst, op, ty, pos, aft, none⟩ :: rest) L M) : TW P n ops Q w0 tail (⟨dst, op, ty, pos, aft, some (j, b)⟩ :: rest) L M := fun a f => by
 have h' := h a f
 have hw : Region.wanted ⟨dst, op, ty, pos, aft, some (j, b)⟩ (yielded ops a.tmps) = true := by simp [Region.wanted, Z141 f hy]
 unfold wpQuiet at h' ⊢
 rw [if_pos (by simp [Region.wanted])] at h'
 rw [if_pos hw]
 exact h'
theorem TW.skip {j : Nat} {b : Bool} {y : Value} (hy : yl ops L j = some y) (hne : (match y with | .bool c => c == b | _ => false) = false) (hd : Nat.blt d n = true) (h : TW P n ops Q w0 tail rest ((d, undef) :: L) M) :
    TW P n ops Q w0 tail (⟨some d, op, ty, pos, aft, some (j, b)⟩ :: rest) L M := fun a f => by
 have hw : Region.wanted ⟨some d, op, ty, pos, aft, some (j, b)⟩ (yielded ops a.tmps) = false := by
  simp only [Region.wanted, Z141 f hy]
  cases y <;> simp_all
 unfold wpQuiet
 rw [if_neg (by simp [hw])]
 exact h _ (f.put hd undef)
attribute [irreducible] TW
end
end Go.Fw
namespace Go.Fw
open Go Go.RowKit
def i64s (l : List Int) : List Value := l.map (.int .i64)
@[simp] theorem i64s_length (l : List Int) : (i64s l).length = l.length := by simp [i64s]
theorem Z135 (n : Nat) : List.replicate n (Value.int .u8 0) = u8s (List.replicate n 0#8) := by simp [u8s, U8]
@[simp] theorem u32s_length (l : List (BitVec 32)) : (u32s l).length = l.length := by simp [u32s]
@[simp] theorem Z131 (l : List (BitVec 64)) : (u64s l).length = l.length := by simp [u64s]
theorem u64s_rep (n : Nat) : List.replicate n (Value.int .u64 0) = u64s (List.replicate n 0#64) := by simp [u64s, U64]
theorem u64s_one (l : List (BitVec 64)) : ∀ u ∈ u64s l, u.oneCell' = true := fun u hu => by
 simp only [u64s, List.mem_map] at hu
 obtain ⟨x, _, rfl⟩ := hu
 rfl
theorem u8s_set' (l : List (BitVec 8)) (i : Nat) (v : BitVec 8) : (u8s l).set i (U8 v) = u8s (l.set i v) := by simp [u8s, List.map_set]
section
variable {P : Program} [Types P] {w0 : World} {L : Z123} {M : List Ent} {x y z : Operand} {t t' e : TypeId} {v : Value} {n : Nat} {Q : Exit → Act → World → Prop}
 {ops : Array Oper} {rest : List Oper} {ty1 : TypeId} {pos : String} {aft : Array Edge} {d : Nat}
def spl (l : List Value) (off : Nat) (vs : List Value) : List Value := l.take off ++ vs ++ l.drop (off + vs.length)
theorem spl_length {l : List Value} {off : Nat} {vs : List Value} (h : off + vs.length ≤ l.length) : (spl l off vs).length = l.length := by simp [spl]; omega
theorem set_spl : ∀ (vs : List Value) (off : Nat) (cells : Array Value), off + vs.length ≤ cells.size → (vs.toArray.zipIdx.foldl (fun (cs : Array Value) (p : Value × Nat) => cs.setIfInBounds (off + p.2) p.1) cells) = (spl cells.toList off vs).toArray := by
 intro vs off cells h
 rw [← Array.foldl_toList]
 simp only [Array.toList_zipIdx]
 have key : ∀ (vs : List Value) (k : Nat) (cells : Array Value), off + k + vs.length ≤ cells.size → ((vs.zipIdx k).foldl (fun (cs : Array Value) (p : Value × Nat) => cs.setIfInBounds (off + p.2) p.1) cells) = (spl cells.toList (off + k) vs).toArray := by
  intro vs
  induction vs with
  | nil => intro k cells _; simp [spl]
  | cons v vs ih =>
   intro k cells h
   simp only [List.length_cons] at h
   simp only [List.zipIdx_cons, List.foldl_cons]
   rw [ih (k + 1) (cells.setIfInBounds (off + k) v) (by simp; omega)]
   congr 1
   apply List.ext_getElem?
   intro j
   have hlt : off + k < cells.toList.length := by simp; omega
   simp only [spl, Array.toList_setIfInBounds, List.length_cons, List.getElem?_append, List.length_append, List.length_take, List.getElem?_take, List.getElem?_drop, List.getElem?_set, List.length_set, List.getElem?_cons]
   have e1 : min (off + (k + 1)) cells.toList.length = off + k + 1 := by omega
   have e2 : min (off + k) cells.toList.length = off + k := by omega
   rw [e1, e2]
   by_cases h1 : j < off + k
   ·have a1 : j < off + (k + 1) := by omega
    have a2 : ¬ (off + k = j) := by omega
    have a3 : j < off + k + 1 + vs.length := by omega
    have a4 : j < off + k + (vs.length + 1) := by omega
    have a5 : j < off + k + 1 := by omega
    simp [h1, a1, a2, a3, a4, a5]
   ·by_cases h2 : j = off + k
    ·subst h2
     have a3 : off + k < off + k + 1 + vs.length := by omega
     have a9 : off + k < cells.size := by simpa using hlt
     simp [a3, a9]
    ·have a1 : ¬ j < off + (k + 1) := by omega
     have a5 : ¬ j < off + k + 1 := by omega
     have a6 : j - (off + k) ≠ 0 := by omega
     have a7 : j - (off + k) - 1 = j - (off + k + 1) := by omega
     by_cases h3 : j < off + k + 1 + vs.length
     ·have a4 : j < off + k + (vs.length + 1) := by omega
      simp [h1, a5, h3, a4, a6, a7]
     ·have a4 : ¬ j < off + k + (vs.length + 1) := by omega
      have a8 : off + (k + 1) + vs.length + (j - (off + k + 1 + vs.length)) = j := by omega
      have a9 : off + k + (vs.length + 1) + (j - (off + k + (vs.length + 1))) = j := by omega
      have a10 : ¬ (off + k = j) := by omega
      simp [h3, a4, a8, a9, a10]
 have := key vs 0 cells (by omega)
 simpa using this
theorem OW.copy {ob : Option Nat} {off len cap m c : Nat} {l vs : List Value} {te : TypeId} {B : Option Addr} {t2 : TypeId} (hx : ev L x = some (sl ob off len cap)) (hy : ev L y = some (.slice B m c)) (ht : tyU P t = some (.slice e)) (hs : tyS P e = some 1)
    (hn : ob = none → len = 0) (hl : off + len ≤ l.length) (hR : Mem.Says w0 ((ob, blk l te) :: M) (fun w => Rd w B vs)) (hvl : vs.length = m) (hv1 : ∀ u ∈ vs, u.oneCell' = true) (hB : B = none → m = 0) (hd : Nat.blt d n = true)
    (k : OW P n ops Q w0 rest ((d, .int .i64 ((min m len : Nat) : Int)) :: L) ((ob, blk (spl l off (vs.take (min m len))) te) :: M)) :
    OW P n ops Q w0 (⟨some d, .call ⟨.builtin .copy, #[x, y], #[t, t2]⟩, ty1, pos, aft, none⟩ :: rest) L ((ob, blk l te) :: M) := by
 refine OW.av (τ := Unit) (I := fun _ => True) (v := fun _ => .int .i64 ((min m len : Nat) : Int)) (M' := fun _ => (ob, blk (spl l off (vs.take (min m len))) te) :: M) (fun ρ w hρ mm o ho => ?_) hd (fun _ _ => k)
 have hrd := hR w mm
 have hfc : (Builtin.firstCells 1 (min m len) (.slice B m c)).run P w = .ok (vs.take (min m len)).toArray w := by
  cases B with
  | none =>
   have h0 := hB rfl
   subst h0
   have : vs = [] := List.length_eq_zero_iff.1 hvl
   subst this
   simp [Builtin.firstCells]
  | some a => exact run_firstCells_some (P := P) w 1 (min m len) a m c _ (by simp; omega) (fun j u hj => hrd.2 j u (by
      rw [List.getElem?_take] at hj
      split at hj
      ·exact hj
      ·cases hj))
 have hlen : (Builtin.lenOf (.slice B m c)).run P w = .ok m w := rfl
 have hnm : Nat.min m len = min m len := rfl
 cases ob with
 | none =>
  have h0 := hn rfl
  subst h0
  refine ⟨(), w, trivial, ?_, mm.tail.nil_ent _⟩
  have hfc0 : (Builtin.firstCells 1 0 (.slice B m c)).run P w = .ok #[] w := by simpa using hfc
  simp [execOp, ho, resolve, hρ x _ hx, hρ y _ hy, invoke, builtin, Builtin.copy_, Z122 ht, Z136 hs, sl, hlen, goInt, hfc0]
 | some b =>
  have hm := mm.ents _ (List.mem_cons_self ..) b rfl
  have hst := run_storeCells_at (P := P) b off te (vs.take (min m len)) 0 l.toArray w hm.2 (by simp; omega) (fun v hv => hv1 v (List.mem_of_mem_take hv))
  simp only [Nat.add_zero] at hst
  refine ⟨(), _, trivial, ?_, mm.turned (w' := w.setRow b (l.toArray.toList.take off ++ vs.take (min m len) ++ l.toArray.toList.drop (off + (vs.take (min m len)).length)).toArray) rfl rfl rfl (by simp [World.setRow]) ?_ ?_⟩
  ·have hst' := hst
   simp only [execOp, ho, resolve, Array.map, invoke, builtin] at hst' ⊢
   simp [hρ x _ hx, hρ y _ hy, Builtin.copy_, Z122 ht, Z136 hs, sl, hlen, hfc, hnm, goInt, hst]
  ·intro b' hb'
   cases hb'
   rw [setRow_heap w b l.toArray _ te (0, 0) hm.2]
   simp [blk, spl]
  ·intro kk hk
   exact setRow_other _ _ _ _ (fun e => hk (by rw [e]))
end
section
variable {P : Program} {w0 : World} {L : Z123} {M : List Ent} {x y z : Operand} {t t' e : TypeId} {v : Value}
end
section
variable {P : Program} [Types P] {n : Nat} {w0 : World} {L : Z123} {M : List Ent}
theorem loadVar_run {w : World} {ob : Option Nat} {l : List Value} {te ty : TypeId} {u : TypeDesc} {s : Nat} (m : Mem w0 w M) (he : (ob, blk l te) ∈ M) (hs : ob.isSome = true) (hu : tyU P ty = some u) (hg : TypeDesc.agg u = true) (hsz : tyS P ty = some s) (hl : l.length = s) :
    (loadVar ty ⟨ob.getD 0, 0, none⟩).run P w = .ok (.agg l.toArray) w := by
 have e := isSome_getD hs
 rw [e] at he
 have hc := run_loadCells_list (P := P) w ⟨ob.getD 0, 0, none⟩ l (fun j u hj => by rw [Z119, m.cell he, Nat.zero_add]; exact hj)
 rw [hl] at hc
 simp [loadVar, isAgg_run hu, hg, Z136 hsz, hc]
end
end Go.Fw
namespace Go.Fw
open Go Go.RowKit Go.Deep Go.WideShapes
def Els {H : Type} (d : DataW H) (el sp : List (DataW H)) : Prop := (d = .nil ∧ el = [] ∧ sp = []) ∨ d = .slice el sp
section
variable {H : Type} {enc : TypeId × Value → H} {P : Program} {W : World} {t e : TypeId} {v : Value}
def Fits (P : Program) (t : TypeId) (d : DataW H) : Prop := ∀ n ∈ d.weights P t, n ≤ reachBytes
theorem Fits.of_each {ts : List TypeId} {ds : List (DataW H)} (h : (DataW.weightsEach P ts ds).all (· ≤ reachBytes) = true) {j : Nat} {t : TypeId} {d : DataW H} (ht : ts[j]? = some t) (hd : ds[j]? = some d) : Fits P t d := fun n hn => by
 simpa using List.all_eq_true.1 h n (DataW.weights_mem_each ht hd n hn)
theorem weightsAll_mem {l : List (DataW H)} {d : DataW H} (hd : d ∈ l) {n : Nat} (hn : n ∈ d.weights P e) : n ∈ DataW.weightsAll P e l := by
 induction l with
 | nil => cases hd
 | cons x r ih =>
  simp only [DataW.weightsAll, List.mem_append]
  cases List.mem_cons.1 hd with
  | inl h => subst h; exact Or.inl hn
  | inr h => exact Or.inr (ih h)
theorem Fits.slice (ht : P.underlying t = some (.slice e)) {d : DataW H} {el sp : List (DataW H)} (h : Fits P t d) (hd : Els d el sp) : (el.length + sp.length) * P.bytesOf e ≤ reachBytes ∧ ∀ x ∈ el, Fits P e x := by
 rcases hd with ⟨rfl, rfl, rfl⟩ | rfl
 ·exact ⟨by simp, fun x hx => by cases hx⟩
 ·refine ⟨h _ (by simp [DataW.weights, ht]), fun x hx n hn => h n ?_⟩
  simp only [DataW.weights, ht]
  exact List.mem_cons_of_mem _ (List.mem_append_left _ (weightsAll_mem hx hn))
theorem weightsEach_mem {l : List (DataW H)} {ts : List TypeId} {j : Nat} {d : DataW H} (hd : l[j]? = some d) (ht : ts[j]? = some t) {n : Nat} (hn : n ∈ d.weights P t) : n ∈ DataW.weightsEach P ts l := DataW.weights_mem_each ht hd n hn
theorem Fits.struct {fs : Array Field} (ht : P.underlying t = some (.struct fs)) {ds : List (DataW H)} (h : Fits P t (.agg ds)) {j : Nat} {f : Field} {d : DataW H} (hf : fs[j]? = some f) (hd : ds[j]? = some d) : Fits P f.type d := fun n hn => h n (by
 simp only [DataW.weights, ht]
 exact weightsEach_mem (ts := fs.toList.map (·.type)) hd (by simp [hf]) hn)
theorem Fits.ptr (ht : P.underlying t = some (.pointer e)) {d : DataW H} (h : Fits P t (.ptr d)) : Fits P e d := fun n hn => h n (by simpa only [DataW.weights, ht] using hn)
theorem Fits.array {k : Nat} (ht : P.underlying t = some (.array k e)) {ds : List (DataW H)} (h : Fits P t (.agg ds)) {d : DataW H} (hd : d ∈ ds) : Fits P e d := fun n hn => h n (by
 simp only [DataW.weights, ht]; exact weightsAll_mem hd hn)
theorem cells_of_slice {α : Type} (cells : α → List Value) (R : α → DataW H → Prop) (s : Nat) (hs : P.cellsOf e = s) (hpos : 0 < s)
    (hel : ∀ n cs r, cs.length = s → reads enc P W n e cs = some r → ∃ x, cs = cells x ∧ R x r.1) (ht : P.underlying t = some (.slice e)) {fuel : Nat} {r : DataW H × List MemPlace} (h : reads enc P W fuel t [v] = some r) :
    ∃ (A : Option Addr) (cap : Nat) (xs : List α) (el sp : List (DataW H)), v = .slice A xs.length cap ∧ xs.length ≤ cap ∧ cap ≤ maxLen ∧ (A = none → cap = 0) ∧ (∀ x ∈ xs, (cells x).length = s) ∧ Rd W A (xs.flatMap cells) ∧
     Els r.1 el sp ∧ el.length = xs.length ∧ el.length + sp.length = cap ∧ ∀ (i : Nat) (x : α) (d : DataW H), xs[i]? = some x → el[i]? = some d → R x d := by
 rcases open_slice ht h with ⟨hv, rfl⟩ | ⟨a, len, cap, m, n, D, Pl, hv, _, hle, hmax, hm, rfl, hall⟩
 ·simp at hv
  subst hv
  exact ⟨none, 0, [], [], [], rfl, Nat.le_refl _, Nat.zero_le _, fun _ => rfl, (fun x hx => by cases hx), Rd.nil _ _, .inl ⟨rfl, rfl, rfl⟩, rfl, rfl, fun i x d hx => by simp at hx⟩
 ·simp at hv
  subst hv
  simp at hm
  subst hm
  obtain ⟨xs, hlen, hx⟩ := list_of (Q := fun i x => W.cells? 0 (a.add (i * s)) s = some (cells x) ∧ R x (D i) ∧ (cells x).length = s) len (fun i hi => by
   obtain ⟨cs', h1, h2⟩ := hall i (by omega)
   rw [hs] at h1
   have hl : cs'.length = s := by
    unfold World.cells? at h1
    rw [if_pos (Nat.zero_le _)] at h1
    simpa using (mapM_some_get _ _ _ h1).1
   obtain ⟨x, rfl, h3⟩ := hel n cs' _ hl h2
   exact ⟨x, h1, h3, hl⟩)
  have hcl : ∀ x ∈ xs, (cells x).length = s := fun x hxm => by
   obtain ⟨i, hi⟩ := List.getElem?_of_mem hxm
   exact (hx i x hi).2.2
  refine ⟨some a, m, xs, (List.range len).map D, (List.range (m - len)).map fun j => D (len + j), by rw [hlen], by omega, hmax, (fun h => by cases h), hcl, ⟨fun _ => rfl, fun k u hk => ?_⟩, .inr rfl, by simp [hlen], by simp; omega, fun i x d h1 h2 => ?_⟩
  ·obtain ⟨x, h1, h2⟩ := flatMap_get cells s hpos xs hcl k u hk
   obtain ⟨h3, _⟩ := hx _ x h1
   unfold World.cells? at h3
   rw [if_pos (Nat.zero_le _)] at h3
   have := (mapM_some_get _ _ _ h3).2 (k % s) (k % s) (by rw [List.getElem?_range (Nat.mod_lt _ hpos)])
   rw [h2, Addr.add_add] at this
   have hk2 : k / s * s + k % s = k := by rw [Nat.mul_comm]; exact Nat.div_add_mod k s
   rw [hk2] at this
   simpa using this
  ·have hi : i < xs.length := (List.getElem?_eq_some_iff.1 h1).1
   rw [List.getElem?_map, List.getElem?_range (by omega)] at h2
   simp at h2
   exact h2 ▸ (hx i x h1).2.1
theorem flat1 {α β : Type} (f : α → β) : ∀ l : List α, (l.flatMap fun x => [f x]) = l.map f
 | [] => rfl
 | x :: l => by simp [flat1 f l]
end
end Go.Fw
namespace Go.Fw
theorem spl_front (l vs : List Value) (h : vs.length ≤ l.length) : spl l 0 vs = vs ++ l.drop vs.length := by simp [spl]
end Go.Fw
namespace Go.Fw
open Go Go.RowKit
def Upw (w0 w w' : World) : Prop := ∀ M, Mem w0 w M → Mem w0 w' M
theorem Upw.refl (w0 w : World) : Upw w0 w w := fun _ h => h
theorem Upw.trans {w0 a b c : World} (h : Upw w0 a b) (k : Upw w0 b c) : Upw w0 a c := fun M m => k M (h M m)
theorem Upw.alloc (w0 w : World) (o : Obj) : Upw w0 w (w.alloc o) := fun M m => (m.alloc o).tail
def allEnts (w0 w : World) : List Ent := (List.range (w.heap.size - w0.heap.size)).map fun k => (some (w0.heap.size + k), (w.heap[w0.heap.size + k]?).getD default)
theorem Mem.all {w0 w : World} {M : List Ent} (m : Mem w0 w M) : Mem w0 w (allEnts w0 w) := by
 refine ⟨m.os, m.tape, m.output, m.size, m.old, fun e he b hb => ?_, ?_⟩
 ·obtain ⟨k, hk, rfl⟩ := List.mem_map.1 he
  have hk' := List.mem_range.1 hk
  simp at hb
  subst hb
  refine ⟨by omega, ?_⟩
  have h : w0.heap.size + k < w.heap.size := by omega
  simp [h]
 ·unfold allEnts
  rw [List.pairwise_map]
  refine List.Pairwise.imp ?_ (List.pairwise_lt_range (n := w.heap.size - w0.heap.size))
  intro a b hab x hx hy
  simp at hx hy
  omega
theorem Upw.of_all {w0 w w' : World} (h : Mem w0 w' (allEnts w0 w)) : Upw w0 w w' := fun M m => by
 refine ⟨h.os, h.tape, h.output, h.size, h.old, fun e he b hb => ?_, m.apart⟩
 obtain ⟨h1, h2⟩ := m.ents e he b hb
 refine ⟨h1, ?_⟩
 have hlt : b < w.heap.size := (Array.getElem?_eq_some_iff.1 h2).1
 have hm : ((some b, e.2) : Ent) ∈ allEnts w0 w := by
  refine List.mem_map.2 ⟨b - w0.heap.size, List.mem_range.2 (by omega), ?_⟩
  have e1 : w0.heap.size + (b - w0.heap.size) = b := by omega
  simp [e1, h2]
 exact (h.ents _ hm b rfl).2
section
variable {P : Program} {ops : Array Oper} {md : Region.Mode}
def stp (P : Program) (r : Result Next) (K : Value → World → Prop) : Prop := match r with
 | .ok (.value u) w2 => K u w2
 | .ok .skip w2 => K undef w2
 | .ok (.enter f args) w1 => Calls P f args w1 fun e w2 => ∃ u, e = .returned u ∧ K u w2
 | _ => False
theorem stp.mono {r : Result Next} {K K' : Value → World → Prop} (h : ∀ u w, K u w → K' u w) (hh : stp P r K) : stp P r K' := by
 unfold stp at *
 split at hh
 ·exact h _ _ hh
 ·exact h _ _ hh
 ·exact hh.mono fun e w2 ⟨u, h1, h2⟩ => ⟨u, h1, h _ _ h2⟩
 ·exact hh.elim
theorem stp.wp {o : Oper} {a : Act} {w : World} {K : Value → World → Prop} {K' : Act → World → Prop} {Q : Exit → Act → World → Prop} (h : ∀ u w2, K u w2 → K' (a.put o.dst u) w2) (hh : stp P ((execOp a.eval o).run P w) K) : o.wp P a w K' Q := by
 unfold Oper.wp
 generalize (execOp a.eval o).run P w = r at *
 unfold stp at hh
 split at hh
 ·exact h _ _ hh
 ·exact h _ _ hh
 ·refine hh.mono fun e w2 ⟨u, h1, h2⟩ => ?_
  subst h1
  exact h _ _ h2
 ·exact hh.elim
def UH (P : Program) (md : Region.Mode) (ops : Array Oper) (n : Nat) (w0 : World) (E : Array Bool → Act → World → Prop) : Nat → Array Bool → Act → World → Prop
 | 0, done, a, w => ∀ w', Upw w0 w w' → E done a w'
 | f + 1, done, a, w => ∀ w', Upw w0 w w' → Region.ready md ops done ≠ [] ∧ ∀ i, i ∈ Region.ready md ops done → i < n ∧ ∃ o, ops[i]? = some o ∧
     ((Region.wanted o (yielded ops a.tmps) = true ∧ stp P ((execOp a.eval o).run P w') (fun u w2 => Upw w0 w' w2 ∧ UH P md ops n w0 E f (done.setIfInBounds i true) (a.put o.dst u) w2)) ∨
      (Region.wanted o (yielded ops a.tmps) = false ∧ UH P md ops n w0 E f (done.setIfInBounds i true) (a.put o.dst undef) w'))
theorem UH.up {n : Nat} {w0 : World} {E : Array Bool → Act → World → Prop} {f : Nat} {done : Array Bool} {a : Act} {w w' : World} (h : UH P md ops n w0 E f done a w) (hu : Upw w0 w w') : UH P md ops n w0 E f done a w' := by
 cases f with
 | zero => exact fun w2 h2 => h w2 (hu.trans h2)
 | succ f => exact fun w2 h2 => h w2 (hu.trans h2)
theorem UH.any {n g : Nat} {w0 : World} {E : Array Bool → Act → World → Prop} {Q : Exit → Act → World → Prop} (hE : ∀ done a w, E done a w → wpAny P md ops Q g done a w) :
    ∀ (f : Nat) (done : Array Bool) (a : Act) (w : World), UH P md ops n w0 E f done a w → wpAny P md ops Q (f + g) done a w
 | 0, done, a, w, h => by simpa using hE done a w (h w (Upw.refl _ _))
 | f + 1, done, a, w, h => by
  have hfg : f + 1 + g = (f + g) + 1 := by omega
  rw [hfg]
  obtain ⟨h1, h2⟩ := h w (Upw.refl _ _)
  refine ⟨fun e => absurd e h1, fun i hi => ?_⟩
  obtain ⟨_, o, ho, h3⟩ := h2 i hi
  unfold wpOp
  simp only [ho]
  rcases h3 with ⟨hw, hs⟩ | ⟨hw, hs⟩
  ·rw [if_pos hw]
   exact .inl (hs.wp fun u w2 ⟨_, q⟩ => UH.any hE f _ _ _ q)
  ·rw [if_neg (by simp [hw])]
   exact UH.any hE f _ _ _ hs
def Yu (P : Program) (ops : Array Oper) (w0 : World) (C : World → Prop) (o : Oper) (v : Value) (a : Act) : Prop :=
 (Region.wanted o (yielded ops a.tmps) = true ∧ ∀ w, C w → stp P ((execOp a.eval o).run P w) (fun u w2 => u = v ∧ Upw w0 w w2)) ∨
 (Region.wanted o (yielded ops a.tmps) = false ∧ v = undef)
theorem UH.take {n i : Nat} {w0 : World} {oi : Oper} {v : Value} {C : World → Prop} {E : Array Bool → Act → World → Prop} (hC : ∀ w w', C w → Upw w0 w w' → C w') (hi : ops[i]? = some oi) (hsel : ∀ (j : Nat) (o : Oper) cs b, ops[j]? = some o → o.op ≠ .select cs b)
    (hT : n = ops.size ∨ (Region.sinkB md ops n = true ∧ Region.chainB md ops n = true ∧ n < ops.size)) (hin : i < n) (hE : ∀ done a w, E done a w → ∀ j ∈ Region.ready md ops done, n ≤ j) :
    ∀ (f : Nat) (done : Array Bool) (a : Act) (w : World), C w → HeadInv md ops n done →
     (∀ j oj, ops[j]? = some oj → j ≠ i → done.getD j true = false → (∀ e ∈ oj.after, Region.binds md e = true → e.on ≠ i) → oi.apart ops oj = true) →
     i ∈ Region.ready md ops done → Yu P ops w0 C oi v a → UH P md ops n w0 E f (done.setIfInBounds i true) (a.put oi.dst v) w → UH P md ops n w0 E (f + 1) done a w := by
 have hlt : ∀ (done : Array Bool), HeadInv md ops n done → i ∈ Region.ready md ops done → ∀ j ∈ Region.ready md ops done, j < n := fun done inv hr j hj => by
  rcases hT with rfl | ⟨hs, hc, hn⟩
  ·obtain ⟨_, oj, hoj, _⟩ := mem_ready.1 hj
   exact (Array.getElem?_eq_some_iff.1 hoj).1
  ·exact Nat.lt_of_not_le fun hle => tail_waits hs hc hn inv _ i rfl hin (mem_ready.1 hr).1 j hle hj
 have self : ∀ (f : Nat) (done : Array Bool) (a : Act) (w w' : World), C w → Upw w0 w w' → Yu P ops w0 C oi v a → UH P md ops n w0 E f (done.setIfInBounds i true) (a.put oi.dst v) w →
     ∃ o, ops[i]? = some o ∧ ((Region.wanted o (yielded ops a.tmps) = true ∧ stp P ((execOp a.eval o).run P w') (fun u w2 => Upw w0 w' w2 ∧ UH P md ops n w0 E f (done.setIfInBounds i true) (a.put o.dst u) w2)) ∨
      (Region.wanted o (yielded ops a.tmps) = false ∧ UH P md ops n w0 E f (done.setIfInBounds i true) (a.put o.dst undef) w')) := by
  intro f done a w w' hw hu hy H
  refine ⟨oi, hi, ?_⟩
  rcases hy with ⟨h1, h2⟩ | ⟨h1, rfl⟩
  ·exact .inl ⟨h1, (h2 w' (hC w w' hw hu)).mono fun u w2 ⟨e, q⟩ => ⟨q, by subst e; exact H.up (hu.trans q)⟩⟩
  ·exact .inr ⟨h1, H.up hu⟩
 intro f
 induction f with
 | zero =>
  intro done a w hw inv _ hr hy H w' hu
  refine ⟨(fun e => by rw [e] at hr; cases hr), fun j hj => ⟨hlt done inv hr j hj, ?_⟩⟩
  by_cases e : j = i
  ·subst e; exact self 0 done a w w' hw hu hy H
  ·have := hE _ _ _ (H w (Upw.refl _ _)) j (ready_mono hj e)
   have := hlt done inv hr j hj
   omega
 | succ f ih =>
  intro done a w hw inv hfree hr hy H w' hu
  refine ⟨(fun e => by rw [e] at hr; cases hr), fun j hj => ⟨hlt done inv hr j hj, ?_⟩⟩
  by_cases e : j = i
  ·subst e; exact self (f + 1) done a w w' hw hu hy H
  ·obtain ⟨hju, oj, hoj, hall⟩ := mem_ready.1 hj
   have hno : ∀ e ∈ oj.after, Region.binds md e = true → e.on ≠ i := fun x hx hb hxi => by
    have q := hall x hx hb
    rw [hxi, getD_both (mem_ready.1 hr).1] at q
    cases q
   obtain ⟨h1, h2, h3⟩ := Oper.apart_spec (hfree j oj hoj e hju hno)
   have hsi : ∀ cs b, oi.op ≠ .select cs b := fun cs b => hsel i oi cs b hi
   have hsj : ∀ cs b, oj.op ≠ .select cs b := fun cs b => hsel j oj cs b hoj
   have keep : ∀ u, Yu P ops w0 C oi v (a.put oj.dst u) := fun u => by
    unfold Yu at *
    rw [execOp_put oi hsi a oj.dst u h3, wanted_put oi a oj.dst u h3]
    exact hy
   obtain ⟨_, o', ho', step⟩ := (H w' hu).2 j (ready_mono hj e)
   obtain rfl : oj = o' := Zi (hoj.symm.trans ho')
   rw [wanted_put oj a oi.dst v h1, execOp_put oj hsj a oi.dst v h1] at step
   have next : ∀ (u : Value) (w2 : World), Upw w0 w' w2 → UH P md ops n w0 E f ((done.setIfInBounds i true).setIfInBounds j true) ((a.put oi.dst v).put oj.dst u) w2 → UH P md ops n w0 E (f + 1) (done.setIfInBounds j true) (a.put oj.dst u) w2 := fun u w2 hu2 q => by
    refine ih _ _ _ (hC w w2 hw (hu.trans hu2)) (inv.set hj (hlt done inv hr j hj)) (fun k ok hk hki hku hnk => hfree k ok hk hki ?_ hnk) (ready_mono hr (Ne.symm e)) (keep u) ?_
    ·by_cases hjk : j = k
     ·subst hjk; exact hju
     ·rwa [getD_set_ne true hjk] at hku
    ·rw [Array.setIfInBounds_comm _ _ e, ← Act.put_comm a v u h2]
     exact q
   refine ⟨oj, hoj, ?_⟩
   rcases step with ⟨hw', hs⟩ | ⟨hw', hs⟩
   ·exact .inl ⟨hw', hs.mono fun u w2 ⟨q1, q2⟩ => ⟨q1, next u w2 q1 q2⟩⟩
   ·exact .inr ⟨hw', next undef w' (Upw.refl _ _) hs⟩
end
section
variable {P : Program} {n : Nat} {Q : Exit → Act → World → Prop} {w0 : World} {L : Z123} {M : List Ent}
def UE (P : Program) (ops : Array Oper) (Q : Exit → Act → World → Prop) (m : Nat) (tail : List Oper) (done : Array Bool) (a : Act) (w : World) : Prop := Region.seqB .any ops tail.length m done = true ∧ wpList P ops Q tail a w
def UB (ops : Array Oper) (m : Nat) : Bool := Region.noSelect ops && (decide (m = ops.size) || (Region.sinkB .any ops m && Region.chainB .any ops m && decide (m < ops.size)))
def UW (P : Program) (n : Nat) (ops : Array Oper) (Q : Exit → Act → World → Prop) (w0 : World) (tail : List Oper) (m f : Nat) (done : Array Bool) (L : Z123) (M : List Ent) : Prop :=
 UB ops m = true → HeadInv .any ops m done → ∀ a w, Fr n L a → Mem w0 w M → UH P .any ops m w0 (UE P ops Q m tail) f done a w
theorem Z134 {id : Nat} {l : List Oper} (k : Nat) (hm : P.follows .mixedOrders = true) (hB : UB l.toArray k = true) (hl : Nat.ble k l.length = true) (h : UW P n l.toArray Q w0 (l.drop k) k k (Array.replicate l.length false) L M) : CW P n Q w0 (.region id l.toArray true) L M :=
 CW.intro fun a w f m => by
  have hk : k ≤ l.length := by simpa using hl
  have inv : HeadInv .any l.toArray k (Array.replicate l.length false) :=
   ⟨by simp, (fun j oj _ q => by rw [getD_replicate_false] at q; cases q), fun t _ ht => getD_in (by simpa using ht) (getD_replicate_false _ _)⟩
  have H := h hB inv a _ f (m.like (w' := { w with drawn := w.drawn + 1 }) rfl rfl rfl rfl)
  refine wp_region_any hm ?_
  have R := UH.any (Q := Q) (g := l.length - k) (fun done a' w' q => by
   have s := wpAny_of_seq (md := .any) (Q' := Q) (l.drop k) k done a' w' (fun j => by simp [List.getElem?_drop]) q.1 q.2
   rwa [List.length_drop] at s) _ _ _ _ H
  rw [show k + (l.length - k) = l.length by omega] at R
  simpa using R
variable {ops : Array Oper} {tail : List Oper} {m f : Nat} {done : Array Bool} {op : Op} {ty : TypeId} {pos : String} {aft : Array Edge} {g : Option (Nat × Bool)} {d : Nat} {v : Value}
theorem UW.nil (hs : Region.seqB .any ops tail.length m done = true) (h : OW P n ops Q w0 tail L M) : UW P n ops Q w0 tail m 0 done L M := fun _ _ a w fr mm w' hu => ⟨hs, h.elim a w' fr (hu _ mm)⟩
def UR (ops : Array Oper) (m : Nat) (done : Array Bool) (i : Nat) : Bool := (Region.ready .any ops done).contains i && Region.free .any ops done i && Nat.blt i m
theorem UW.take (i : Nat) {o : Oper} {C : World → Prop} (hC : ∀ w w', C w → Upw w0 w w' → C w') (hMC : ∀ w, Mem w0 w M → C w) (hr : UR ops m done i = true) (ho : ops[i]? = some o) (v : Value) (hy : ∀ a, Fr n L a → Yu P ops w0 C o v a)
    (k : ∀ a w, Fr n L a → Mem w0 w M → UB ops m = true → HeadInv .any ops m (done.setIfInBounds i true) → UH P .any ops m w0 (UE P ops Q m tail) f (done.setIfInBounds i true) (a.put o.dst v) w) : UW P n ops Q w0 tail m (f + 1) done L M := fun hB inv a w fr mm => by
 simp only [UR, Bool.and_eq_true] at hr
 obtain ⟨⟨h1, h2⟩, h3⟩ := hr
 have hr' : i ∈ Region.ready .any ops done := by simpa using h1
 have him : i < m := by simpa using h3
 have hB' := hB
 simp only [UB, Bool.and_eq_true, Bool.or_eq_true, decide_eq_true_eq] at hB'
 exact UH.take (n := m) hC ho (Region.noSelect_spec hB'.1) (hB'.2.imp id fun ⟨⟨a, b⟩, c⟩ => ⟨a, b, c⟩) him (fun done' a' w' q => seqB_ready q.1) f done a w (hMC w mm) inv (Region.free_spec ho h2) hr' (hy a fr) (k a w fr mm hB (inv.set hr' him))
def Wt (ops : Array Oper) (L : Z123) : Option (Nat × Bool) → Bool
 | none => true
 | some (j, b) => match yl ops L j with | some (.bool c) => c == b | _ => false
def Sk (ops : Array Oper) (L : Z123) : Option (Nat × Bool) → Bool
 | none => false
 | some (j, b) => match yl ops L j with | some (.bool c) => !(c == b) | some _ => true | none => false
theorem wt_spec {a : Act} (fr : Fr n L a) (h : Wt ops L g = true) : Region.wanted ⟨some d, op, ty, pos, aft, g⟩ (yielded ops a.tmps) = true := by
 unfold Wt at h
 split at h
 ·rfl
 ·split at h
  ·rename_i c hy
   simp [Region.wanted, Z141 fr hy]
   simpa using h
  ·cases h
theorem sk_spec {a : Act} (fr : Fr n L a) (h : Sk ops L g = true) : Region.wanted ⟨some d, op, ty, pos, aft, g⟩ (yielded ops a.tmps) = false := by
 unfold Sk at h
 split at h
 ·cases h
 ·split at h
  ·rename_i c hy
   simp [Region.wanted, Z141 fr hy]
   simpa using h
  ·rename_i y hn hy
   simp only [Region.wanted, Z141 fr hy]
   cases y <;> simp_all
  ·cases h
theorem Z18 (i : Nat) (ho : ops[i]? = some ⟨some d, op, ty, pos, aft, g⟩) (hr : UR ops m done i = true) (hw : Wt ops L g = true) (hop : RV P w0 L M op v) (hd : Nat.blt d n = true) (k : UW P n ops Q w0 tail m f (done.setIfInBounds i true) ((d, v) :: L) M) : UW P n ops Q w0 tail m (f + 1) done L M :=
 UW.take i (C := fun w => Mem w0 w M) (fun w w' h u => u _ h) (fun _ h => h) hr ho v (fun a fr => .inl ⟨wt_spec fr hw, fun w mm => by rw [hop a.eval w (fun x u hx => fr.eval hx) mm _ rfl]; exact ⟨rfl, Upw.refl _ _⟩⟩) (fun a w fr mm hB inv => k hB inv _ _ (fr.put hd v) mm)
theorem UW.skip (i : Nat) (ho : ops[i]? = some ⟨some d, op, ty, pos, aft, g⟩) (hr : UR ops m done i = true) (hw : Sk ops L g = true) (hd : Nat.blt d n = true) (k : UW P n ops Q w0 tail m f (done.setIfInBounds i true) ((d, undef) :: L) M) : UW P n ops Q w0 tail m (f + 1) done L M :=
 UW.take i (C := fun w => Mem w0 w M) (fun w w' h u => u _ h) (fun _ h => h) hr ho undef (fun a fr => .inr ⟨sk_spec fr hw, rfl⟩) (fun a w fr mm hB inv => k hB inv _ _ (fr.put hd undef) mm)
theorem UW.call (i : Nat) {fn : FuncId} {xs : List Operand} {ats : Array TypeId} {args : List Value} {τ : Type} {I : τ → Prop} {u : τ → Value} (v : Value) (ho : ops[i]? = some ⟨some d, .call ⟨.value (.func fn), xs.toArray, ats⟩, ty, pos, aft, g⟩) (hr : UR ops m done i = true) (hw : Wt ops L g = true)
    (hc : ∀ (args : Array Value) (w : World), (callFunc fn args).run P w = .ok (.enter fn args) w) (hxs : evs L xs = some args) (hdo : ∀ M', (∀ w, Mem w0 w M' → Mem w0 w M) → Does P fn args w0 M' I u (fun _ => M')) (hu : ∀ x, I x → u x = v)
    (hd : Nat.blt d n = true) (k : UW P n ops Q w0 tail m f (done.setIfInBounds i true) ((d, v) :: L) M) : UW P n ops Q w0 tail m (f + 1) done L M :=
 UW.take i (C := fun w => Mem w0 w M) (fun w w' h u => u _ h) (fun _ h => h) hr ho v (fun a fr => .inl ⟨wt_spec fr hw, fun w mm => by
  have hev := evs_map (fun x u hx => fr.eval hx) xs args hxs
  have hrun : (execOp a.eval ⟨some d, .call ⟨.value (.func fn), xs.toArray, ats⟩, ty, pos, aft, g⟩).run P w = .ok (.enter fn args.toArray) w := by
   simp [execOp, resolve, Deferred.ofValue, Act.eval, invoke, hev, hc]
  rw [hrun]
  refine (hdo (allEnts w0 w) (fun w2 m2 => Upw.of_all m2 _ mm) w mm.all).mono ?_
  rintro e w' ⟨x, hI, rfl, m'⟩
  exact ⟨_, rfl, hu x hI, Upw.of_all m'⟩⟩) (fun a w fr mm hB inv => k hB inv _ _ (fr.put hd v) mm)
def NV (P : Program) (w0 : World) (L : Z123) (M : List Ent) (op : Op) (fv : Nat → Value) (l : List Value) (te : TypeId) : Prop :=
 ∀ (ρ : Operand → Value) (w : World), (∀ x u, ev L x = some u → ρ x = u) → Mem w0 w M → ∀ o : Oper, o.op = op → (execOp ρ o).run P w = .ok (.value (fv w.heap.size)) (w.alloc (blk l te))
theorem UW.new (i : Nat) {l : List Value} {te : TypeId} {fv : Nat → Value} (ho : ops[i]? = some ⟨some d, op, ty, pos, aft, g⟩) (hr : (Region.ready .any ops done == [i] && Nat.blt i m) = true) (hw : Wt ops L g = true) (hop : NV P w0 L M op fv l te) (hd : Nat.blt d n = true)
    (k : ∀ b : Nat, UW P n ops Q w0 tail m f (done.setIfInBounds i true) ((d, fv b) :: L) ((some b, blk l te) :: M)) : UW P n ops Q w0 tail m (f + 1) done L M := fun hB inv a w fr mm w' hu => by
 simp only [Bool.and_eq_true, beq_iff_eq] at hr
 obtain ⟨hr, hi⟩ := hr
 have hi' : i < m := by simpa using hi
 refine ⟨by rw [hr]; simp, fun j hj => ?_⟩
 rw [hr] at hj
 obtain rfl : j = i := by simpa using hj
 refine ⟨hi', _, ho, .inl ⟨wt_spec fr hw, ?_⟩⟩
 rw [hop a.eval w' (fun x u hx => fr.eval hx) (hu _ mm) _ rfl]
 exact ⟨Upw.alloc _ _ _, k _ hB (inv.set (by rw [hr]; simp) hi') _ _ (fr.put hd _) ((hu _ mm).alloc _)⟩
theorem UW.elim (h : UW P n ops Q w0 tail m f done L M) : UB ops m = true → HeadInv .any ops m done → ∀ a w, Fr n L a → Mem w0 w M → UH P .any ops m w0 (UE P ops Q m tail) f done a w := h
attribute [irreducible] UW
end
section
variable {P : Program} [Types P] {w0 : World} {L : Z123} {M : List Ent} {t e : TypeId} {x : Operand} {v : Value}
theorem NV.bs {i : TI} {len : Nat} {parts : Array (Nat × Operand)} {vs : List (Nat × Value)} {cs : List Value} (hp : ∀ ρ : Operand → Value, (∀ x u, ev L x = some u → ρ x = u) → parts.toList.map (fun p => (p.1, ρ p.2)) = vs) (ht : tyU P t = some (.slice e)) (hi : ty P e = some i) (hpos : 0 < len * i.sz) (hle : len * i.sz ≤ 16777216)
    (hf : Instr.fill (fun j => some (j * i.sz, i.sz)) (madeCells i.z.cells (len * i.sz)) vs = some cs.toArray) : NV P w0 L M (.buildSlice t len parts) (fun b => sl (some b) 0 len len) cs e := fun ρ w hρ m o ho => by
 obtain ⟨_, ti, h1, h2, h3, h4⟩ := ty_ok hi
 have e1 := hp ρ hρ
 have e2 : ¬ (16777216 < len * i.sz) := by omega
 have e3 : ¬ (len * i.sz = 0) := by omega
 unfold madeCells at hf
 simp [execOp, ho, Instr.buildSlice, Z122 ht, Go.sizeOf, typeInfo, zeroValue, h1, h2, h4, e1, e2, e3, hf, newRow, sl, blk]
theorem NV.bs1 {i : TI} {z : Value} (hx : ev L x = some v) (h1 : v.oneCell' = true) (ht : tyU P t = some (.slice e)) (hi : ty P e = some i) (hs : i.sz = 1) (hz : i.z.cells = #[z]) : NV P w0 L M (.buildSlice t 1 #[(0, x)]) (fun b => sl (some b) 0 1 1) [v] e :=
 NV.bs (i := i) (vs := [(0, v)]) (cs := [v]) (fun ρ hρ => by simp [hρ x v hx]) ht hi (by rw [hs]; decide) (by rw [hs]; decide) (by
  rw [hs, hz]
  have : madeCells #[z] (1 * 1) = #[z] := by
   apply Array.ext'
   rw [toList_madeCells_one]
   rfl
  rw [this]
  simp [Instr.fill, cells_one h1])
theorem NV.bsN {i : TI} {z : Value} {len : Nat} {ps : List (Nat × Operand)} {vs : List Value} (hp : evN L 0 ps = some vs) (h1 : vs.all (·.oneCell') = true) (hlen : vs.length = len) (hpos : 0 < len) (hle : len ≤ 16777216) (ht : tyU P t = some (.slice e)) (hi : ty P e = some i) (hs : i.sz = 1) (hz : i.z.cells = #[z]) :
    NV P w0 L M (.buildSlice t len ps.toArray) (fun b => sl (some b) 0 len len) vs e := fun ρ w hρ m o ho => by
 obtain ⟨_, ti, g1, g2, g3, g4⟩ := ty_ok hi
 have e2 : ¬ (16777216 < len) := by omega
 have e3 : ¬ (len = 0) := by omega
 have hf := fill_one (L := L) ps vs 0 (madeCells #[z] len) ρ hρ hp (by simpa using h1) (by simp [size_madeCells, hlen])
 unfold madeCells at hf
 simp at hf
 simp [execOp, ho, Instr.buildSlice, Z122 ht, Go.sizeOf, typeInfo, zeroValue, g1, g2, g4, hs, hz, e2, e3, hf, newRow, sl, blk]
end
end Go.Fw
namespace Go.Fw
open Go Go.RowKit
theorem fill_cons {place : Nat → Option (Nat × Nat)} {cells : List Value} {i off size : Nat} {v : Value} {vs : List Value} {rest : List (Nat × Value)} (hp : place i = some (off, size)) (hv : v.cells = vs.toArray) (hl : vs.length = size) (hle : off + size ≤ cells.length) :
    Instr.fill place cells.toArray ((i, v) :: rest) = Instr.fill place (spl cells off vs).toArray rest := by
 have hf := set_spl vs off cells.toArray (by simp; omega)
 simp only [Instr.fill, hp]
 rw [hv]
 rw [if_neg (by simp [hl]; omega)]
 rw [hf]
theorem fill_all {s : Nat} : ∀ (vss : List (List Value)) (i : Nat) (cells : List Value) (vs : List Value), (∀ x ∈ vss, x.length = s) → cells.length = (i + vss.length) * s →
    Instr.fill (fun j => some (j * s, s)) cells.toArray ((vss.zipIdx i).map fun p => (p.2, .agg p.1.toArray)) = some (cells.take (i * s) ++ vss.flatten).toArray
 | [], i, cells, vs, h, hl => by
  simp only [List.length_nil, Nat.add_zero] at hl
  simp only [List.zipIdx_nil, List.map_nil, Instr.fill, List.flatten_nil, List.append_nil]
  rw [List.take_of_length_le (by omega)]
 | x :: vss, i, cells, vs, h, hl => by
  have hx := h x (List.mem_cons_self ..)
  have hmul : (i + (vss.length + 1)) * s = i * s + s + vss.length * s := by rw [Nat.add_mul, Nat.add_mul]; omega
  have hl2 : cells.length = i * s + s + vss.length * s := by rw [← hmul, hl, List.length_cons]
  have hm2 : (i + 1 + vss.length) * s = i * s + s + vss.length * s := by rw [Nat.add_mul, Nat.add_mul, Nat.one_mul]
  have hm3 : (i + 1) * s = i * s + s := by rw [Nat.add_mul, Nat.one_mul]
  rw [List.zipIdx_cons, List.map_cons, fill_cons (off := i * s) (size := s) (vs := x) rfl rfl hx (by omega)]
  rw [fill_all vss (i + 1) _ vs (fun y hy => h y (List.mem_cons_of_mem _ hy)) (by rw [spl_length (by omega), hl2, hm2])]
  congr 2
  rw [List.flatten_cons, ← List.append_assoc]
  congr 1
  unfold spl
  rw [hm3, List.take_append_of_le_length (by rw [List.length_append, List.length_take]; omega)]
  exact List.take_of_length_le (by rw [List.length_append, List.length_take]; omega)
section
variable {P : Program} [Types P] {w0 : World} {L : Z123} {M : List Ent} {t e : TypeId} {x : Operand} {v : Value}
def evA (L : Z123) : Nat → List (Nat × Operand) → Option (List (List Value))
 | _, [] => some []
 | i, (j, x) :: r => match Nat.beq j i with
  | true => (match ev L x with
   | some (.agg c) => (match evA L (i + 1) r with
    | some vs => some (c.toList :: vs)
    | none => none)
   | _ => none)
  | false => none
omit [Types P] in
theorem evA_spec {ρ : Operand → Value} (hρ : ∀ x u, ev L x = some u → ρ x = u) : ∀ (ps : List (Nat × Operand)) (i : Nat) (vss : List (List Value)), evA L i ps = some vss → ps.map (fun p => (p.1, ρ p.2)) = (vss.zipIdx i).map fun p => (p.2, .agg p.1.toArray)
 | [], i, vss, h => by simp [evA] at h; subst h; rfl
 | (j, x) :: r, i, vss, h => by
  simp only [evA] at h
  split at h
  ·rename_i hb
   have hji : j = i := Nat.eq_of_beq_eq_true hb
   subst hji
   split at h
   ·rename_i c hc
    split at h
    ·rename_i us hus
     simp only [Option.some.injEq] at h
     subst h
     simp [hρ x _ hc, evA_spec hρ r (j + 1) us hus]
    ·cases h
   ·cases h
  ·cases h
theorem NV.bsA {i : TI} {len s : Nat} {ps : List (Nat × Operand)} {vss : List (List Value)} {cs : List Value} (hp : evA L 0 ps = some vss) (hlen : vss.length = len) (hv : ∀ x ∈ vss, x.length = s) (ht : tyU P t = some (.slice e)) (hi : ty P e = some i) (hs : i.sz = s) (hpos : 0 < len * s) (hle : len * s ≤ 16777216) (hcs : vss.flatten = cs) :
    NV P w0 L M (.buildSlice t len ps.toArray) (fun b => sl (some b) 0 len len) cs e := fun ρ w hρ m o ho => by
 subst hcs hs hlen
 have hf := fill_all (s := i.sz) vss 0 (madeCells i.z.cells (vss.length * i.sz)).toList [] hv (by simp [size_madeCells])
 rw [Nat.zero_mul, List.take_zero, List.nil_append, ← evA_spec hρ ps 0 vss hp] at hf
 obtain ⟨_, ti, g1, g2, g3, g4⟩ := ty_ok hi
 have e2 : ¬ (16777216 < vss.length * i.sz) := by omega
 have e3 : ¬ (vss.length * i.sz = 0) := by omega
 rw [Array.toArray_toList] at hf
 unfold madeCells at hf
 simp [execOp, ho, Instr.buildSlice, Z122 ht, Go.sizeOf, typeInfo, zeroValue, g1, g2, g4, e2, e3, hf, newRow, sl, blk]
omit [Types P] in
theorem OW.ofN {n : Nat} {ops : Array Oper} {Q : Exit → Act → World → Prop} {rest : List Oper} {op : Op} {l : List Value} {te ty1 : TypeId} {pos : String} {aft : Array Edge} {d : Nat} {f : Nat → Value} (h : NV P w0 L M op f l te) (hd : Nat.blt d n = true)
    (k : ∀ b : Nat, OW P n ops Q w0 rest ((d, f b) :: L) ((some b, blk l te) :: M)) : OW P n ops Q w0 (⟨some d, op, ty1, pos, aft, none⟩ :: rest) L M := OW.new h hd k
theorem Z110 {a : Addr} {u : TypeDesc} {vs : List Value} {s : Nat} (hx : ev L x = some (.pointer (some a))) (hu : tyU P t = some u) (hg : TypeDesc.agg u = true) (hsz : tyS P t = some s)
    (hv : Mem.Says w0 M (fun w => ∀ j u, vs[j]? = some u → w.cell? (a.add j) = some u)) (hl : vs.length = s) : RV P w0 L M (.load t x) (.agg vs.toArray) := RV.loadA_at hx hu hg (by rw [hl]; exact hsz) hv
theorem RV.loadAo {ob : Option Nat} {i : Nat} {l vs : List Value} {te : TypeId} {u : TypeDesc} {s : Nat} (hx : ev L x = some (ptr ob i)) (he : (ob, blk l te) ∈ M) (hs : ob.isSome = true) (hu : tyU P t = some u) (hg : TypeDesc.agg u = true) (hsz : tyS P t = some s)
    (hv : ∀ j u, vs[j]? = some u → l[i + j]? = some u) (hl : vs.length = s) : RV P w0 L M (.load t x) (.agg vs.toArray) := RV.loadA hx he hs hu hg (by rw [hl]; exact hsz) hv
theorem RV.indexStr {y : Operand} {s : ByteArray} {k : IntKind} {i : Nat} (b : BitVec 8) (hx : ev L x = some (.string s)) (hy : ev L y = some (.int k (i : Int))) (ht : tyU P t = some .string) (hb : (s[i]?).map (fun c => c.toNat) = some b.toNat) : RV P w0 L M (.index t x y) (U8 b) := fun ρ w hρ m o ho => by
 obtain ⟨c, hc, e⟩ := Option.map_eq_some_iff.1 hb
 simp [execOp, ho, hρ x _ hx, hρ y _ hy, Instr.index, asIntOf, Z122 ht, hc, U8, ← e]
def evP (L : Z123) : List (Nat × Operand) → Option (List (Nat × Value))
 | [] => some []
 | (j, x) :: r => match ev L x with
  | some v => (match evP L r with
   | some vs => some ((j, v) :: vs)
   | none => none)
  | none => none
omit [Types P] in
theorem evP_spec {ρ : Operand → Value} (hρ : ∀ x u, ev L x = some u → ρ x = u) : ∀ (ps : List (Nat × Operand)) (vs : List (Nat × Value)), evP L ps = some vs → ps.map (fun p => (p.1, ρ p.2)) = vs
 | [], vs, h => by simp [evP] at h; subst h; rfl
 | (j, x) :: r, vs, h => by
  simp only [evP] at h
  split at h
  ·rename_i v hv
   split at h
   ·rename_i us hus
    simp only [Option.some.injEq] at h
    subst h
    simp [hρ x _ hv, evP_spec hρ r us hus]
   ·cases h
  ·cases h
def setL (l : List Value) (ps : List (Nat × Value)) : List Value := ps.foldl (fun l p => l.set p.1 p.2) l
theorem fill_sets : ∀ (ps : List (Nat × Value)) (cells : List Value), (∀ p ∈ ps, p.2.oneCell' = true ∧ p.1 < cells.length) → Instr.fill (fun j => some (j * 1, 1)) cells.toArray ps = some (setL cells ps).toArray
 | [], cells, h => rfl
 | (j, v) :: r, cells, h => by
  obtain ⟨h1, h2⟩ := h (j, v) (List.mem_cons_self ..)
  have hs : spl cells j [v] = cells.set j v := by
   unfold spl
   rw [List.set_eq_take_append_cons_drop, if_pos h2]
   simp
  rw [fill_cons (vs := [v]) (off := j) (size := 1) (by rw [Nat.mul_one]) (by rw [cells_one h1]) rfl (by have : j < cells.length := h2; omega), hs]
  exact fill_sets r (cells.set j v) (fun p hp => by
   obtain ⟨a, b⟩ := h p (List.mem_cons_of_mem _ hp)
   exact ⟨a, by rw [List.length_set]; exact b⟩)
theorem Z144 {i : TI} {l cs : List Value} {k : Nat} {ps : List (Nat × Operand)} {vs : List (Nat × Value)} (hi : ty P t = some i) (hu : i.u = .array k e) (hs : tyS P e = some 1) (hl : i.z.cells = l.toArray) (hp : evP L ps = some vs) (hb : vs.all (fun p => p.2.oneCell' && Nat.blt p.1 l.length) = true) (hcs : setL l vs = cs) :
    RV P w0 L M (.build t ps.toArray) (.agg cs.toArray) := fun ρ w hρ m o ho => by
 subst hcs
 obtain ⟨h0, ti, h1, h2, h3, h4⟩ := ty_ok hi
 rw [hu] at h0
 have hsz := Z136 (P := P) hs w
 have hf := fill_sets vs l (fun p hp => by
  have := List.all_eq_true.1 hb p hp
  simpa using this)
 have he := evP_spec hρ ps vs hp
 simp only [Nat.mul_one] at hf
 simp [execOp, ho, Instr.build, zeroValue, typeInfo, h1, h4, run_underlying h0, hsz, hl, he, hf]
variable {n : Nat} {ops : Array Oper} {Q : Exit → Act → World → Prop} {rest : List Oper} {ty1 : TypeId} {pos : String} {aft : Array Edge} {d : Nat} {y : Operand}
theorem OW.copyS {ob : Option Nat} {off len cap m c s : Nat} {l vs : List Value} {te : TypeId} {B : Option Addr} {t2 : TypeId} (hx : ev L x = some (sl ob off len cap)) (hy : ev L y = some (.slice B m c)) (ht : tyU P t = some (.slice e)) (hs : tyS P e = some s)
    (hn : ob = none → len = 0) (hl : off + len * s ≤ l.length) (hR : Mem.Says w0 ((ob, blk l te) :: M) (fun w => Rd w B vs)) (hvl : vs.length = m * s) (hv1 : ∀ u ∈ vs, u.oneCell' = true) (hB : B = none → m = 0) (hd : Nat.blt d n = true)
    (k : OW P n ops Q w0 rest ((d, .int .i64 ((min m len : Nat) : Int)) :: L) ((ob, blk (spl l off (vs.take (min m len * s))) te) :: M)) :
    OW P n ops Q w0 (⟨some d, .call ⟨.builtin .copy, #[x, y], #[t, t2]⟩, ty1, pos, aft, none⟩ :: rest) L ((ob, blk l te) :: M) := by
 refine OW.av (τ := Unit) (I := fun _ => True) (v := fun _ => .int .i64 ((min m len : Nat) : Int)) (M' := fun _ => (ob, blk (spl l off (vs.take (min m len * s))) te) :: M) (fun ρ w hρ mm o ho => ?_) hd (fun _ _ => k)
 have hrd := hR w mm
 have hfc : (Builtin.firstCells s (min m len) (.slice B m c)).run P w = .ok (vs.take (min m len * s)).toArray w := by
  cases B with
  | none =>
   have h0 := hB rfl
   subst h0
   have : vs = [] := List.length_eq_zero_iff.1 (by rw [hvl, Nat.zero_mul])
   subst this
   simp [Builtin.firstCells]
  | some a => exact run_firstCells_some (P := P) w s (min m len) a m c _ (by rw [List.length_take, hvl]; exact (Nat.min_eq_left (Nat.mul_le_mul_right s (Nat.min_le_left m len)))) (fun j u hj => hrd.2 j u (by
      rw [List.getElem?_take] at hj
      split at hj
      ·exact hj
      ·cases hj))
 have hlen : (Builtin.lenOf (.slice B m c)).run P w = .ok m w := rfl
 have hnm : Nat.min m len = min m len := rfl
 cases ob with
 | none =>
  have h0 := hn rfl
  subst h0
  refine ⟨(), w, trivial, ?_, mm.tail.nil_ent _⟩
  have hfc0 : (Builtin.firstCells s 0 (.slice B m c)).run P w = .ok #[] w := by simpa using hfc
  simp [execOp, ho, resolve, hρ x _ hx, hρ y _ hy, invoke, builtin, Builtin.copy_, Z122 ht, Z136 hs, sl, hlen, goInt, hfc0]
 | some b =>
  have hm := mm.ents _ (List.mem_cons_self ..) b rfl
  have hroom : off + 0 + (vs.take (min m len * s)).length ≤ l.toArray.size := by
   have h1 : min m len * s ≤ len * s := Nat.mul_le_mul_right s (Nat.min_le_right m len)
   have h2 : (vs.take (min m len * s)).length ≤ min m len * s := by rw [List.length_take]; exact Nat.min_le_left _ _
   rw [List.size_toArray]; omega
  have hst := run_storeCells_at (P := P) b off te (vs.take (min m len * s)) 0 l.toArray w hm.2 hroom (fun v hv => hv1 v (List.mem_of_mem_take hv))
  simp only [Nat.add_zero] at hst
  refine ⟨(), _, trivial, ?_, mm.turned (w' := w.setRow b (l.toArray.toList.take off ++ vs.take (min m len * s) ++ l.toArray.toList.drop (off + (vs.take (min m len * s)).length)).toArray) rfl rfl rfl (by simp [World.setRow]) ?_ ?_⟩
  ·have hst' := hst
   simp only [execOp, ho, resolve, Array.map, invoke, builtin] at hst' ⊢
   simp [hρ x _ hx, hρ y _ hy, Builtin.copy_, Z122 ht, Z136 hs, sl, hlen, hfc, hnm, goInt, hst]
  ·intro b' hb'
   cases hb'
   rw [setRow_heap w b l.toArray _ te (0, 0) hm.2]
   simp [blk, spl]
  ·intro kk hk
   exact setRow_other _ _ _ _ (fun e => hk (by rw [e]))
theorem made_flat (zs : List Value) (c : Nat) : (madeCells zs.toArray (c * zs.length)).toList = (List.replicate c zs).flatten := by
 apply List.ext_getElem?
 intro k
 have hlen : ((List.replicate c zs).flatten).length = c * zs.length := by simp
 by_cases hk : k < c * zs.length
 ·have hpos : 0 < zs.length := by
    rcases Nat.eq_zero_or_pos zs.length with h | h
    ·rw [h] at hk; omega
    ·exact h
  have hu : ((List.replicate c zs).flatten)[k]? = some (((List.replicate c zs).flatten)[k]'(by omega)) := List.getElem?_eq_getElem (by omega)
  obtain ⟨x, h1, h2⟩ := flatMap_get (fun x => x) zs.length hpos (List.replicate c zs) (fun x hx => by rw [(List.mem_replicate.1 hx).2]) k _ (by rw [List.flatMap_id']; exact hu)
  have hx : x = zs := by
   have := List.mem_of_getElem? h1
   exact (List.mem_replicate.1 this).2
  subst hx
  rw [hu, ← h2]
  have hm : k % x.length < x.length := Nat.mod_lt _ hpos
  simp [madeCells, hk, hm]
 ·rw [List.getElem?_eq_none (by simp [madeCells]; omega), List.getElem?_eq_none (by omega)]
theorem OW.makeS {kl kc : IntKind} {i : TI} {zs : List Value} {s : Nat} (l c : Nat) {il ic : Int} (hx : ev L x = some (.int kl il)) (hl : il = (l : Int)) (hy : ev L y = some (.int kc ic)) (hc : ic = (c : Int)) (ht : tyU P t = some (.slice e)) (hi : ty P e = some i) (hs : i.sz = s) (hz : i.z.cells = zs.toArray) (hzl : zs.length = s)
    (hlc : l ≤ c) (hb : i.bytes * c ≤ 281474976710656) (h63 : c ≤ 9223372036854775807) (hd : Nat.blt d n = true) (k : ∀ b : Nat, OW P n ops Q w0 rest ((d, sl (some b) 0 l c) :: L) ((some b, blk (List.replicate c zs).flatten e) :: M)) :
    OW P n ops Q w0 (⟨some d, .makeSlice t x y, ty1, pos, aft, none⟩ :: rest) L M :=
 OW.new (f := fun b => sl (some b) 0 l c) (fun ρ w hρ m o ho => by
  subst hl hc hs
  obtain ⟨_, ti, h1, h2, h3, h4⟩ := ty_ok hi
  have hm := run_make (P := P) w t e ti i.z (tyU_ok ht) h1 h4 kl kc (l : Int) (c : Int) (by omega) (by omega) (by rw [h3]; have : ((i.bytes * c : Nat) : Int) = (i.bytes : Int) * (c : Int) := Int.natCast_mul _ _; omega) (by omega)
  simp only [Int.toNat_natCast, h2, hz] at hm
  have e1 : madeCells zs.toArray (c * i.sz) = ((List.replicate c zs).flatten).toArray := by
   apply Array.ext'
   rw [← hzl, made_flat]
  rw [e1] at hm
  simpa [execOp, ho, hρ x _ hx, hρ y _ hy, sl, blk] using congrArg (fun r => r.andThen fun v w => .ok (Next.value v) w) hm) hd k
theorem SV.storeAs {ob : Option Nat} {i s : Nat} {l vs : List Value} {te : TypeId} (hx : ev L x = some (ptr ob i)) (hs : ob.isSome = true) (hy : ev L y = some (.agg vs.toArray)) (h1 : ∀ v ∈ vs, v.oneCell' = true) (hsz : tyS P t = some s) (hv : vs.length = s) (hi : i + s ≤ l.length) :
    SV P w0 L ((ob, blk l te) :: M) (.store t x y) ((ob, blk (spl l i vs) te) :: M) := SV.storeA hx hs hy h1 (by rw [hv]; exact hsz) (by omega)
theorem make_copyS (vs zs : List Value) {n m s : Nat} (hs : zs.length = s) (hn : vs.length = n * s) (hm : m = n) : spl (List.replicate (n + 1) zs).flatten 0 (vs.take (m * s)) = vs ++ zs := by
 subst hm
 have hl : ((List.replicate (m + 1) zs).flatten).length = m * s + s := by simp [hs, Nat.add_mul]
 rw [← hn, List.take_length, spl_front _ _ (by omega)]
 congr 1
 have e : (List.replicate (m + 1) zs).flatten = (List.replicate m zs).flatten ++ zs := by rw [List.replicate_succ', List.flatten_append]; simp
 have hd : ((List.replicate m zs).flatten).length = vs.length := by simp [hs, hn]
 rw [e, ← hd, List.drop_left]
variable {t' : TypeId} {p q : Bool}
theorem run_equal_bool {w : World} (ht : tyU P t = some .bool) : (Op.equal t (.bool p) (.bool q)).run P w = .ok (p == q) w := by
 unfold Op.equal
 have : Op.maxDepth = (Op.maxDepth - 1) + 1 := by decide
 rw [this]
 simp only [Op.equalIn, Sem.run_bind, Z122 ht, Result.andThen_ok]
 rfl
theorem RV.neqB (hx : ev L x = some (.bool p)) (hy : ev L y = some (.bool q)) (ht : tyU P t = some .bool) : RV P w0 L M (.binOp .neq t x y t') (.bool (!(p == q))) := fun ρ w hρ _ o ho => by
 simp [execOp, ho, hρ x _ hx, hρ y _ hy, eqGuard, binOp, run_equal_bool ht]
theorem RV.neqB_f (hx : ev L x = some (.bool p)) (hy : ev L y = some (.bool q)) (ht : tyU P t = some .bool) (h : p = q) : RV P w0 L M (.binOp .neq t x y t') (.bool false) := by
 have := RV.neqB (P := P) (w0 := w0) (M := M) (t := t) (t' := t') hx hy ht
 rw [h, beq_self_eq_true] at this
 exact this
end
end Go.Fw
namespace Go.Fw
open Go Go.RowKit Go.Deep Go.WideShapes
section
variable {H : Type} {enc : TypeId × Value → H} {P : Program} {W : World} {t e : TypeId} {v : Value}
theorem okWide_st {fs : Array Field} {b0 : Nat} (ht : P.underlying t = some (.struct fs)) (h : Value.okWide P W .any b0 t v) : ∃ xs : Array Value, v = .agg xs := by
 simp only [Value.okWide, ht] at h
 obtain ⟨cs, h1, _⟩ := h
 exact ⟨cs, h1⟩
theorem reads_arr {α : Type} (f : α → Value) {n : Nat} (ht : P.underlying t = some (.array n e)) (hs : P.cellsOf e = 1) (hct : P.cellsOf t = n)
    (hel : ∀ m c r, reads enc P W m e [c] = some r → ∃ x : α, c = f x) {fuel : Nat} {cs : List Value} {r : DataW H × List MemPlace} (h : reads enc P W fuel t cs = some r) : ∃ xs : List α, cs = xs.map f ∧ xs.length = n := by
 cases fuel with
 | zero => simp [reads, DataW.trod] at h
 | succ fuel =>
  simp only [reads, DataW.trod, ht, hs, hct, Nat.mul_one] at h
  split at h
  ·rename_i hl
   obtain ⟨ys, hm, _⟩ := Option.map_eq_some_iff.1 h
   obtain ⟨xs, hlen, hx⟩ := list_of (Q := fun i x => cs[i]? = some (f x)) n (fun i hi => by
    have h1 := (mapM_some_get _ _ _ hm).2 i i (by rw [List.getElem?_range hi])
    have h2 : (cs.drop i).take 1 = [cs[i]] := by rw [List.drop_eq_getElem_cons (by omega)]; rfl
    rw [h2] at h1
    have hy : i < ys.length := by rw [(mapM_some_get _ _ _ hm).1, List.length_range]; exact hi
    rw [List.getElem?_eq_getElem hy] at h1
    obtain ⟨x, hx⟩ := hel fuel _ _ h1
    exact ⟨x, by rw [List.getElem?_eq_getElem (by omega), hx]⟩)
   refine ⟨xs, ?_, hlen⟩
   apply List.ext_getElem?
   intro i
   by_cases hi : i < n
   ·rw [List.getElem?_map, List.getElem?_eq_getElem (by omega), List.getElem?_eq_getElem (by omega)]
    have h3 := hx i xs[i] (List.getElem?_eq_getElem (by omega))
    rw [List.getElem?_eq_getElem (by omega)] at h3
    exact h3
   ·rw [List.getElem?_eq_none (by omega), List.getElem?_eq_none (by rw [List.length_map]; omega)]
  ·cases h
theorem reads_arr8 {n : Nat} (ht : P.underlying t = some (.array n e)) (he : P.underlying e = some (.int .u8)) (hs : P.cellsOf e = 1) (hct : P.cellsOf t = n) {fuel : Nat} {cs : List Value} {r : DataW H × List MemPlace} (h : reads enc P W fuel t cs = some r) : ∃ xs : List (BitVec 8), cs = u8s xs ∧ xs.length = n :=
 reads_arr U8 ht hs hct (fun m c r hr => by
  obtain ⟨x, e⟩ := reads_u8 he hr
  exact ⟨x, by simpa using e⟩) h
end
theorem u64s_set' (l : List (BitVec 64)) (i : Nat) (v : BitVec 64) : (u64s l).set i (U64 v) = u64s (l.set i v) := by simp [u64s, List.map_set]
section
variable {P : Program} [Types P] {n : Nat} {ops : Array Oper} {Q : Exit → Act → World → Prop} {w0 : World} {L : Z123} {M : List Ent} {rest : List Oper} {t e ty1 : TypeId} {pos : String} {aft : Array Edge} {d : Nat} {x y : Operand} {v : Value}
end
end Go.Fw
namespace Go.Fw
open Go Go.RowKit
section
variable {P : Program} [Types P] {w0 : World} {L : Z123} {M : List Ent} {t t' e : TypeId} {x y : Operand} {v : Value}
omit [Types P] in
theorem RV.nilCheck {a : Addr} (hx : ev L x = some (.pointer (some a))) : RV P w0 L M (.nilCheck x) (.pointer (some a)) := fun ρ w hρ _ o ho => by
 simp [execOp, ho, hρ x _ hx]
end
end Go.Fw
namespace Go.Fw.Try
open Go Go.Proofs
def i2 : TI := { u := .int .i64, sz := 1, bytes := 8, z := Value.int .i64 0 }
theorem ok2 : TI.ok Try.prog 2 i2 := ⟨by kernel_rfl, Try.t2, by kernel_rfl, by kernel_rfl, by kernel_rfl, by kernel_rfl⟩
def i3 : TI := { u := .int .i64, sz := 1, bytes := 8, z := Value.int .i64 0 }
theorem ok3 : TI.ok Try.prog 3 i3 := ⟨by kernel_rfl, Try.t3, by kernel_rfl, by kernel_rfl, by kernel_rfl, by kernel_rfl⟩
def i4 : TI := { u := .bool, sz := 1, bytes := 1, z := Value.bool false }
theorem ok4 : TI.ok Try.prog 4 i4 := ⟨by kernel_rfl, Try.t4, by kernel_rfl, by kernel_rfl, by kernel_rfl, by kernel_rfl⟩
def i5 : TI := { u := .int .u8, sz := 1, bytes := 1, z := Value.int .u8 0 }
theorem ok5 : TI.ok Try.prog 5 i5 := ⟨by kernel_rfl, Try.t5, by kernel_rfl, by kernel_rfl, by kernel_rfl, by kernel_rfl⟩
def i6 : TI := { u := .int .u8, sz := 1, bytes := 1, z := Value.int .u8 0 }
theorem ok6 : TI.ok Try.prog 6 i6 := ⟨by kernel_rfl, Try.t6, by kernel_rfl, by kernel_rfl, by kernel_rfl, by kernel_rfl⟩
def i7 : TI := { u := .struct #[{ name := "x", type := 2, offset := 0, embedded := false, tag := "", pkgPath := "runtime", byteOffset := 0 }, { name := "y", type := 3, offset := 1, embedded := false, tag := "", pkgPath := "runtime", byteOffset := 8 }, { name := "signed", type := 4, offset := 2, embedded := false, tag := "", pkgPath := "runtime", byteOffset := 16 }, { name := "code", type := 6, offset := 3, embedded := false, tag := "", pkgPath := "runtime", byteOffset := 17 }], sz := 4, bytes := 24, z := Value.agg ([Value.int .i64 0, Value.int .i64 0, Value.bool false, Value.int .u8 0]).toArray }
theorem ok7 : TI.ok Try.prog 7 i7 := ⟨by kernel_rfl, Try.t7, by kernel_rfl, by kernel_rfl, by kernel_rfl, by kernel_rfl⟩
def i8 : TI := { u := .struct #[{ name := "x", type := 2, offset := 0, embedded := false, tag := "", pkgPath := "runtime", byteOffset := 0 }, { name := "y", type := 3, offset := 1, embedded := false, tag := "", pkgPath := "runtime", byteOffset := 8 }, { name := "signed", type := 4, offset := 2, embedded := false, tag := "", pkgPath := "runtime", byteOffset := 16 }, { name := "code", type := 6, offset := 3, embedded := false, tag := "", pkgPath := "runtime", byteOffset := 17 }], sz := 4, bytes := 24, z := Value.agg ([Value.int .i64 0, Value.int .i64 0, Value.bool false, Value.int .u8 0]).toArray }
theorem ok8 : TI.ok Try.prog 8 i8 := ⟨by kernel_rfl, Try.t8, by kernel_rfl, by kernel_rfl, by kernel_rfl, by kernel_rfl⟩
def i9 : TI := { u := .string, sz := 1, bytes := 16, z := Value.string ByteArray.empty }
theorem ok9 : TI.ok Try.prog 9 i9 := ⟨by kernel_rfl, Try.t9, by kernel_rfl, by kernel_rfl, by kernel_rfl, by kernel_rfl⟩
def i10 : TI := { u := .string, sz := 1, bytes := 16, z := Value.string ByteArray.empty }
theorem ok10 : TI.ok Try.prog 10 i10 := ⟨by kernel_rfl, Try.t10, by kernel_rfl, by kernel_rfl, by kernel_rfl, by kernel_rfl⟩
def i11 : TI := { u := .string, sz := 1, bytes := 16, z := Value.string ByteArray.empty }
theorem ok11 : TI.ok Try.prog 11 i11 := ⟨by kernel_rfl, Try.t11, by kernel_rfl, by kernel_rfl, by kernel_rfl, by kernel_rfl⟩
def i12 : TI := { u := .int .u64, sz := 1, bytes := 8, z := Value.int .u64 0 }
theorem ok12 : TI.ok Try.prog 12 i12 := ⟨by kernel_rfl, Try.t12, by kernel_rfl, by kernel_rfl, by kernel_rfl, by kernel_rfl⟩
def i13 : TI := { u := .struct #[{ name := "msg", type := 9, offset := 0, embedded := false, tag := "", pkgPath := "runtime", byteOffset := 0 }, { name := "addr", type := 12, offset := 1, embedded := false, tag := "", pkgPath := "runtime", byteOffset := 16 }], sz := 2, bytes := 24, z := Value.agg ([Value.string ByteArray.empty, Value.int .u64 0]).toArray }
theorem ok13 : TI.ok Try.prog 13 i13 := ⟨by kernel_rfl, Try.t13, by kernel_rfl, by kernel_rfl, by kernel_rfl, by kernel_rfl⟩
def i14 : TI := { u := .struct #[{ name := "msg", type := 9, offset := 0, embedded := false, tag := "", pkgPath := "runtime", byteOffset := 0 }, { name := "addr", type := 12, offset := 1, embedded := false, tag := "", pkgPath := "runtime", byteOffset := 16 }], sz := 2, bytes := 24, z := Value.agg ([Value.string ByteArray.empty, Value.int .u64 0]).toArray }
theorem ok14 : TI.ok Try.prog 14 i14 := ⟨by kernel_rfl, Try.t14, by kernel_rfl, by kernel_rfl, by kernel_rfl, by kernel_rfl⟩
def i15 : TI := { u := .pointer 99, sz := 1, bytes := 8, z := Value.pointer none }
theorem ok15 : TI.ok Try.prog 15 i15 := ⟨by kernel_rfl, Try.t15, by kernel_rfl, by kernel_rfl, by kernel_rfl, by kernel_rfl⟩
def i16 : TI := { u := .pointer 102, sz := 1, bytes := 8, z := Value.pointer none }
theorem ok16 : TI.ok Try.prog 16 i16 := ⟨by kernel_rfl, Try.t16, by kernel_rfl, by kernel_rfl, by kernel_rfl, by kernel_rfl⟩
def i17 : TI := { u := .pointer 112, sz := 1, bytes := 8, z := Value.pointer none }
theorem ok17 : TI.ok Try.prog 17 i17 := ⟨by kernel_rfl, Try.t17, by kernel_rfl, by kernel_rfl, by kernel_rfl, by kernel_rfl⟩
def i18 : TI := { u := .struct #[{ name := "typ", type := 17, offset := 0, embedded := false, tag := "", pkgPath := "internal/runtime/maps", byteOffset := 0 }], sz := 1, bytes := 8, z := Value.agg ([Value.pointer none]).toArray }
theorem ok18 : TI.ok Try.prog 18 i18 := ⟨by kernel_rfl, Try.t18, by kernel_rfl, by kernel_rfl, by kernel_rfl, by kernel_rfl⟩
def i19 : TI := { u := .struct #[{ name := "typ", type := 17, offset := 0, embedded := false, tag := "", pkgPath := "internal/runtime/maps", byteOffset := 0 }], sz := 1, bytes := 8, z := Value.agg ([Value.pointer none]).toArray }
theorem ok19 : TI.ok Try.prog 19 i19 := ⟨by kernel_rfl, Try.t19, by kernel_rfl, by kernel_rfl, by kernel_rfl, by kernel_rfl⟩
def i21 : TI := { u := .int .i32, sz := 1, bytes := 4, z := Value.int .i32 0 }
theorem ok21 : TI.ok Try.prog 21 i21 := ⟨by kernel_rfl, Try.t21, by kernel_rfl, by kernel_rfl, by kernel_rfl, by kernel_rfl⟩
def i22 : TI := { u := .array 20 5, sz := 20, bytes := 20, z := Value.agg (List.replicate 20 (Value.int .u8 0)).toArray }
theorem ok22 : TI.ok Try.prog 22 i22 := ⟨by kernel_rfl, Try.t22, by kernel_rfl, by kernel_rfl, by kernel_rfl, by kernel_rfl⟩
def i23 : TI := { u := .array 20 5, sz := 20, bytes := 20, z := Value.agg (List.replicate 20 (Value.int .u8 0)).toArray }
theorem ok23 : TI.ok Try.prog 23 i23 := ⟨by kernel_rfl, Try.t23, by kernel_rfl, by kernel_rfl, by kernel_rfl, by kernel_rfl⟩
def i24 : TI := { u := .slice 51, sz := 1, bytes := 24, z := Value.slice none 0 0 }
theorem ok24 : TI.ok Try.prog 24 i24 := ⟨by kernel_rfl, Try.t24, by kernel_rfl, by kernel_rfl, by kernel_rfl, by kernel_rfl⟩
def i25 : TI := { u := .slice 5, sz := 1, bytes := 24, z := Value.slice none 0 0 }
theorem ok25 : TI.ok Try.prog 25 i25 := ⟨by kernel_rfl, Try.t25, by kernel_rfl, by kernel_rfl, by kernel_rfl, by kernel_rfl⟩
def i26 : TI := { u := .struct #[{ name := "Address", type := 23, offset := 0, embedded := false, tag := "", pkgPath := "", byteOffset := 0 }, { name := "Topics", type := 24, offset := 20, embedded := false, tag := "", pkgPath := "", byteOffset := 24 }, { name := "Data", type := 25, offset := 21, embedded := false, tag := "", pkgPath := "", byteOffset := 48 }], sz := 22, bytes := 72, z := Value.agg (List.replicate 20 (Value.int .u8 0) ++ List.replicate 2 (Value.slice none 0 0)).toArray }
theorem ok26 : TI.ok Try.prog 26 i26 := ⟨by kernel_rfl, Try.t26, by kernel_rfl, by kernel_rfl, by kernel_rfl, by kernel_rfl⟩
def i27 : TI := { u := .struct #[{ name := "Address", type := 23, offset := 0, embedded := false, tag := "", pkgPath := "", byteOffset := 0 }, { name := "Topics", type := 24, offset := 20, embedded := false, tag := "", pkgPath := "", byteOffset := 24 }, { name := "Data", type := 25, offset := 21, embedded := false, tag := "", pkgPath := "", byteOffset := 48 }], sz := 22, bytes := 72, z := Value.agg (List.replicate 20 (Value.int .u8 0) ++ List.replicate 2 (Value.slice none 0 0)).toArray }
theorem ok27 : TI.ok Try.prog 27 i27 := ⟨by kernel_rfl, Try.t27, by kernel_rfl, by kernel_rfl, by kernel_rfl, by kernel_rfl⟩
def i28 : TI := { u := .slice 30, sz := 1, bytes := 24, z := Value.slice none 0 0 }
theorem ok28 : TI.ok Try.prog 28 i28 := ⟨by kernel_rfl, Try.t28, by kernel_rfl, by kernel_rfl, by kernel_rfl, by kernel_rfl⟩
def i29 : TI := { u := .struct #[{ name := "List", type := 4, offset := 0, embedded := false, tag := "", pkgPath := "", byteOffset := 0 }, { name := "Data", type := 25, offset := 1, embedded := false, tag := "", pkgPath := "", byteOffset := 8 }, { name := "Items", type := 28, offset := 2, embedded := false, tag := "", pkgPath := "", byteOffset := 32 }], sz := 3, bytes := 56, z := Value.agg ([Value.bool false, Value.slice none 0 0, Value.slice none 0 0]).toArray }
theorem ok29 : TI.ok Try.prog 29 i29 := ⟨by kernel_rfl, Try.t29, by kernel_rfl, by kernel_rfl, by kernel_rfl, by kernel_rfl⟩
def i30 : TI := { u := .struct #[{ name := "List", type := 4, offset := 0, embedded := false, tag := "", pkgPath := "", byteOffset := 0 }, { name := "Data", type := 25, offset := 1, embedded := false, tag := "", pkgPath := "", byteOffset := 8 }, { name := "Items", type := 28, offset := 2, embedded := false, tag := "", pkgPath := "", byteOffset := 32 }], sz := 3, bytes := 56, z := Value.agg ([Value.bool false, Value.slice none 0 0, Value.slice none 0 0]).toArray }
theorem ok30 : TI.ok Try.prog 30 i30 := ⟨by kernel_rfl, Try.t30, by kernel_rfl, by kernel_rfl, by kernel_rfl, by kernel_rfl⟩
def i32 : TI := { u := .slice 27, sz := 1, bytes := 24, z := Value.slice none 0 0 }
theorem ok32 : TI.ok Try.prog 32 i32 := ⟨by kernel_rfl, Try.t32, by kernel_rfl, by kernel_rfl, by kernel_rfl, by kernel_rfl⟩
def i34 : TI := { u := .int .i64, sz := 1, bytes := 8, z := Value.int .i64 0 }
theorem ok34 : TI.ok Try.prog 34 i34 := ⟨by kernel_rfl, Try.t34, by kernel_rfl, by kernel_rfl, by kernel_rfl, by kernel_rfl⟩
def i50 : TI := { u := .array 32 5, sz := 32, bytes := 32, z := Value.agg (List.replicate 32 (Value.int .u8 0)).toArray }
theorem ok50 : TI.ok Try.prog 50 i50 := ⟨by kernel_rfl, Try.t50, by kernel_rfl, by kernel_rfl, by kernel_rfl, by kernel_rfl⟩
def i51 : TI := { u := .array 32 5, sz := 32, bytes := 32, z := Value.agg (List.replicate 32 (Value.int .u8 0)).toArray }
theorem ok51 : TI.ok Try.prog 51 i51 := ⟨by kernel_rfl, Try.t51, by kernel_rfl, by kernel_rfl, by kernel_rfl, by kernel_rfl⟩
def i61 : TI := { u := .struct #[{ name := "err", type := 34, offset := 0, embedded := false, tag := "", pkgPath := "waybill/receipt", byteOffset := 0 }], sz := 1, bytes := 8, z := Value.agg ([Value.int .i64 0]).toArray }
theorem ok61 : TI.ok Try.prog 61 i61 := ⟨by kernel_rfl, Try.t61, by kernel_rfl, by kernel_rfl, by kernel_rfl, by kernel_rfl⟩
def i62 : TI := { u := .struct #[{ name := "err", type := 34, offset := 0, embedded := false, tag := "", pkgPath := "waybill/receipt", byteOffset := 0 }], sz := 1, bytes := 8, z := Value.agg ([Value.int .i64 0]).toArray }
theorem ok62 : TI.ok Try.prog 62 i62 := ⟨by kernel_rfl, Try.t62, by kernel_rfl, by kernel_rfl, by kernel_rfl, by kernel_rfl⟩
def i66 : TI := { u := .pointer 24, sz := 1, bytes := 8, z := Value.pointer none }
theorem ok66 : TI.ok Try.prog 66 i66 := ⟨by kernel_rfl, Try.t66, by kernel_rfl, by kernel_rfl, by kernel_rfl, by kernel_rfl⟩
def i77 : TI := { u := .pointer 62, sz := 1, bytes := 8, z := Value.pointer none }
theorem ok77 : TI.ok Try.prog 77 i77 := ⟨by kernel_rfl, Try.t77, by kernel_rfl, by kernel_rfl, by kernel_rfl, by kernel_rfl⟩
def i89 : TI := { u := .int .u64, sz := 1, bytes := 8, z := Value.int .u64 0 }
theorem ok89 : TI.ok Try.prog 89 i89 := ⟨by kernel_rfl, Try.t89, by kernel_rfl, by kernel_rfl, by kernel_rfl, by kernel_rfl⟩
def i90 : TI := { u := .array 4 89, sz := 4, bytes := 32, z := Value.agg ([Value.int .u64 0, Value.int .u64 0, Value.int .u64 0, Value.int .u64 0]).toArray }
theorem ok90 : TI.ok Try.prog 90 i90 := ⟨by kernel_rfl, Try.t90, by kernel_rfl, by kernel_rfl, by kernel_rfl, by kernel_rfl⟩
def i91 : TI := { u := .array 4 89, sz := 4, bytes := 32, z := Value.agg ([Value.int .u64 0, Value.int .u64 0, Value.int .u64 0, Value.int .u64 0]).toArray }
theorem ok91 : TI.ok Try.prog 91 i91 := ⟨by kernel_rfl, Try.t91, by kernel_rfl, by kernel_rfl, by kernel_rfl, by kernel_rfl⟩
def i96 : TI := { u := .int .u64, sz := 1, bytes := 8, z := Value.int .u64 0 }
theorem ok96 : TI.ok Try.prog 96 i96 := ⟨by kernel_rfl, Try.t96, by kernel_rfl, by kernel_rfl, by kernel_rfl, by kernel_rfl⟩
def i98 : TI := { u := .struct #[{ name := "_interface", type := 17, offset := 0, embedded := false, tag := "", pkgPath := "runtime", byteOffset := 0 }, { name := "concrete", type := 17, offset := 1, embedded := false, tag := "", pkgPath := "runtime", byteOffset := 8 }, { name := "asserted", type := 17, offset := 2, embedded := false, tag := "", pkgPath := "runtime", byteOffset := 16 }, { name := "missingMethod", type := 9, offset := 3, embedded := false, tag := "", pkgPath := "runtime", byteOffset := 24 }], sz := 4, bytes := 40, z := Value.agg ([Value.pointer none, Value.pointer none, Value.pointer none, Value.string ByteArray.empty]).toArray }
theorem ok98 : TI.ok Try.prog 98 i98 := ⟨by kernel_rfl, Try.t98, by kernel_rfl, by kernel_rfl, by kernel_rfl, by kernel_rfl⟩
def i99 : TI := { u := .struct #[{ name := "_interface", type := 17, offset := 0, embedded := false, tag := "", pkgPath := "runtime", byteOffset := 0 }, { name := "concrete", type := 17, offset := 1, embedded := false, tag := "", pkgPath := "runtime", byteOffset := 8 }, { name := "asserted", type := 17, offset := 2, embedded := false, tag := "", pkgPath := "runtime", byteOffset := 16 }, { name := "missingMethod", type := 9, offset := 3, embedded := false, tag := "", pkgPath := "runtime", byteOffset := 24 }], sz := 4, bytes := 40, z := Value.agg ([Value.pointer none, Value.pointer none, Value.pointer none, Value.string ByteArray.empty]).toArray }
theorem ok99 : TI.ok Try.prog 99 i99 := ⟨by kernel_rfl, Try.t99, by kernel_rfl, by kernel_rfl, by kernel_rfl, by kernel_rfl⟩
def i100 : TI := { u := .array 0 16, sz := 0, bytes := 0, z := Value.agg ([]).toArray }
theorem ok100 : TI.ok Try.prog 100 i100 := ⟨by kernel_rfl, Try.t100, by kernel_rfl, by kernel_rfl, by kernel_rfl, by kernel_rfl⟩
def i101 : TI := { u := .struct #[{ name := "_", type := 100, offset := 0, embedded := false, tag := "", pkgPath := "runtime", byteOffset := 0 }], sz := 0, bytes := 0, z := Value.agg ([]).toArray }
theorem ok101 : TI.ok Try.prog 101 i101 := ⟨by kernel_rfl, Try.t101, by kernel_rfl, by kernel_rfl, by kernel_rfl, by kernel_rfl⟩
def i102 : TI := { u := .struct #[{ name := "_", type := 100, offset := 0, embedded := false, tag := "", pkgPath := "runtime", byteOffset := 0 }], sz := 0, bytes := 0, z := Value.agg ([]).toArray }
theorem ok102 : TI.ok Try.prog 102 i102 := ⟨by kernel_rfl, Try.t102, by kernel_rfl, by kernel_rfl, by kernel_rfl, by kernel_rfl⟩
def i104 : TI := { u := .int .u32, sz := 1, bytes := 4, z := Value.int .u32 0 }
theorem ok104 : TI.ok Try.prog 104 i104 := ⟨by kernel_rfl, Try.t104, by kernel_rfl, by kernel_rfl, by kernel_rfl, by kernel_rfl⟩
def i105 : TI := { u := .int .u8, sz := 1, bytes := 1, z := Value.int .u8 0 }
theorem ok105 : TI.ok Try.prog 105 i105 := ⟨by kernel_rfl, Try.t105, by kernel_rfl, by kernel_rfl, by kernel_rfl, by kernel_rfl⟩
def i106 : TI := { u := .int .u8, sz := 1, bytes := 1, z := Value.int .u8 0 }
theorem ok106 : TI.ok Try.prog 106 i106 := ⟨by kernel_rfl, Try.t106, by kernel_rfl, by kernel_rfl, by kernel_rfl, by kernel_rfl⟩
def i108 : TI := { u := .pointer 5, sz := 1, bytes := 8, z := Value.pointer none }
theorem ok108 : TI.ok Try.prog 108 i108 := ⟨by kernel_rfl, Try.t108, by kernel_rfl, by kernel_rfl, by kernel_rfl, by kernel_rfl⟩
def i109 : TI := { u := .int .i32, sz := 1, bytes := 4, z := Value.int .i32 0 }
theorem ok109 : TI.ok Try.prog 109 i109 := ⟨by kernel_rfl, Try.t109, by kernel_rfl, by kernel_rfl, by kernel_rfl, by kernel_rfl⟩
def i110 : TI := { u := .int .i32, sz := 1, bytes := 4, z := Value.int .i32 0 }
theorem ok110 : TI.ok Try.prog 110 i110 := ⟨by kernel_rfl, Try.t110, by kernel_rfl, by kernel_rfl, by kernel_rfl, by kernel_rfl⟩
def i111 : TI := { u := .struct #[{ name := "Size_", type := 12, offset := 0, embedded := false, tag := "", pkgPath := "", byteOffset := 0 }, { name := "PtrBytes", type := 12, offset := 1, embedded := false, tag := "", pkgPath := "", byteOffset := 8 }, { name := "Hash", type := 104, offset := 2, embedded := false, tag := "", pkgPath := "", byteOffset := 16 }, { name := "TFlag", type := 105, offset := 3, embedded := false, tag := "", pkgPath := "", byteOffset := 20 }, { name := "Align_", type := 5, offset := 4, embedded := false, tag := "", pkgPath := "", byteOffset := 21 }, { name := "FieldAlign_", type := 5, offset := 5, embedded := false, tag := "", pkgPath := "", byteOffset := 22 }, { name := "Kind_", type := 106, offset := 6, embedded := false, tag := "", pkgPath := "", byteOffset := 23 }, { name := "Equal", type := 107, offset := 7, embedded := false, tag := "", pkgPath := "", byteOffset := 24 }, { name := "GCData", type := 108, offset := 8, embedded := false, tag := "", pkgPath := "", byteOffset := 32 }, { name := "Str", type := 109, offset := 9, embedded := false, tag := "", pkgPath := "", byteOffset := 40 }, { name := "PtrToThis", type := 110, offset := 10, embedded := false, tag := "", pkgPath := "", byteOffset := 44 }], sz := 11, bytes := 48, z := Value.agg ([Value.int .u64 0, Value.int .u64 0, Value.int .u32 0, Value.int .u8 0, Value.int .u8 0, Value.int .u8 0, Value.int .u8 0, Value.nilFunc, Value.pointer none, Value.int .i32 0, Value.int .i32 0]).toArray }
theorem ok111 : TI.ok Try.prog 111 i111 := ⟨by kernel_rfl, Try.t111, by kernel_rfl, by kernel_rfl, by kernel_rfl, by kernel_rfl⟩
def i112 : TI := { u := .struct #[{ name := "Size_", type := 12, offset := 0, embedded := false, tag := "", pkgPath := "", byteOffset := 0 }, { name := "PtrBytes", type := 12, offset := 1, embedded := false, tag := "", pkgPath := "", byteOffset := 8 }, { name := "Hash", type := 104, offset := 2, embedded := false, tag := "", pkgPath := "", byteOffset := 16 }, { name := "TFlag", type := 105, offset := 3, embedded := false, tag := "", pkgPath := "", byteOffset := 20 }, { name := "Align_", type := 5, offset := 4, embedded := false, tag := "", pkgPath := "", byteOffset := 21 }, { name := "FieldAlign_", type := 5, offset := 5, embedded := false, tag := "", pkgPath := "", byteOffset := 22 }, { name := "Kind_", type := 106, offset := 6, embedded := false, tag := "", pkgPath := "", byteOffset := 23 }, { name := "Equal", type := 107, offset := 7, embedded := false, tag := "", pkgPath := "", byteOffset := 24 }, { name := "GCData", type := 108, offset := 8, embedded := false, tag := "", pkgPath := "", byteOffset := 32 }, { name := "Str", type := 109, offset := 9, embedded := false, tag := "", pkgPath := "", byteOffset := 40 }, { name := "PtrToThis", type := 110, offset := 10, embedded := false, tag := "", pkgPath := "", byteOffset := 44 }], sz := 11, bytes := 48, z := Value.agg ([Value.int .u64 0, Value.int .u64 0, Value.int .u32 0, Value.int .u8 0, Value.int .u8 0, Value.int .u8 0, Value.int .u8 0, Value.nilFunc, Value.pointer none, Value.int .i32 0, Value.int .i32 0]).toArray }
theorem ok112 : TI.ok Try.prog 112 i112 := ⟨by kernel_rfl, Try.t112, by kernel_rfl, by kernel_rfl, by kernel_rfl, by kernel_rfl⟩
def i113 : TI := { u := .unsafePointer, sz := 1, bytes := 8, z := Value.pointer none }
theorem ok113 : TI.ok Try.prog 113 i113 := ⟨by kernel_rfl, Try.t113, by kernel_rfl, by kernel_rfl, by kernel_rfl, by kernel_rfl⟩
instance types : Types Try.prog where
  tbl := [(2, i2), (3, i3), (4, i4), (5, i5), (6, i6), (7, i7), (8, i8), (9, i9), (10, i10), (11, i11), (12, i12), (13, i13), (14, i14), (15, i15), (16, i16), (17, i17), (18, i18), (19, i19), (21, i21), (22, i22), (23, i23), (24, i24), (25, i25), (26, i26), (27, i27), (28, i28), (29, i29), (30, i30), (32, i32), (34, i34), (50, i50), (51, i51), (61, i61), (62, i62), (66, i66), (77, i77), (89, i89), (90, i90), (91, i91), (96, i96), (98, i98), (99, i99), (100, i100), (101, i101), (102, i102), (104, i104), (105, i105), (106, i106), (108, i108), (109, i109), (110, i110), (111, i111), (112, i112), (113, i113)]
  ok := TI.lk_all _ (AllOk.mem ⟨ok2, ok3, ok4, ok5, ok6, ok7, ok8, ok9, ok10, ok11, ok12, ok13, ok14, ok15, ok16, ok17, ok18, ok19, ok21, ok22, ok23, ok24, ok25, ok26, ok27, ok28, ok29, ok30, ok32, ok34, ok50, ok51, ok61, ok62, ok66, ok77, ok89, ok90, ok91, ok96, ok98, ok99, ok100, ok101, ok102, ok104, ok105, ok106, ok108, ok109, ok110, ok111, ok112, ok113, trivial⟩)
instance noGuard : NoGuard Try.prog where
  ts := [7, 8, 13, 14, 18, 19, 22, 23, 26, 27, 29, 30, 50, 51, 61, 62, 90, 91, 98, 99, 100, 101, 102, 111, 112]
  ok := AllNG.mem ⟨Try.eqGuardType7, Try.eqGuardType8, Try.eqGuardType13, Try.eqGuardType14, Try.eqGuardType18, Try.eqGuardType19, Try.eqGuardType22, Try.eqGuardType23, Try.eqGuardType26, Try.eqGuardType27, Try.eqGuardType29, Try.eqGuardType30, Try.eqGuardType50, Try.eqGuardType51, Try.eqGuardType61, Try.eqGuardType62, Try.eqGuardType90, Try.eqGuardType91, Try.eqGuardType98, Try.eqGuardType99, Try.eqGuardType100, Try.eqGuardType101, Try.eqGuardType102, Try.eqGuardType111, Try.eqGuardType112, trivial⟩
theorem mixed : Try.prog.follows .mixedOrders = true := by kernel_rfl
end Go.Fw.Try
namespace Go.Fw
open Go Go.RowKit
abbrev Ctx := World → Prop
def More (w0 : World) (Φ : Ctx) (B : List Ent) : Ctx := fun w => Φ w ∧ Mem w0 w B
theorem Mem.appR {w0 w : World} {B M : List Ent} (m : Mem w0 w (B ++ M)) : Mem w0 w M := m.sublist (List.sublist_append_right _ _)
theorem Mem.appL {w0 w : World} {B M : List Ent} (m : Mem w0 w (B ++ M)) : Mem w0 w B := m.sublist (List.sublist_append_left _ _)
theorem Mem.drop {w0 w : World} {M : List Ent} (m : Mem w0 w M) (k : Nat) : Mem w0 w (M.drop k) := m.sublist (List.drop_sublist _ _)
theorem Mem.nil {w0 w : World} {M : List Ent} (m : Mem w0 w M) : Mem w0 w [] := m.sublist (List.nil_sublist _)
theorem Mem.join {w0 w : World} {A B M : List Ent} (m : Mem w0 w (A ++ (B ++ M))) : Mem w0 w ((A ++ B) ++ M) := by rwa [List.append_assoc]
def pickL (M : List Ent) : List Nat → List Ent
 | [] => []
 | i :: r => match M[i]? with
  | some e => e :: pickL M r
  | none => pickL M r
theorem pickL_mem {M : List Ent} : ∀ {is : List Nat} {e : Ent}, e ∈ pickL M is → ∃ i ∈ is, M[i]? = some e
 | i :: r, e, h => by
  unfold pickL at h
  split at h
  ·rename_i e' he
   rcases List.mem_cons.1 h with rfl | h
   ·exact ⟨i, List.mem_cons_self .., he⟩
   ·obtain ⟨j, hj, h2⟩ := pickL_mem h
    exact ⟨j, List.mem_cons_of_mem _ hj, h2⟩
  ·obtain ⟨j, hj, h2⟩ := pickL_mem h
   exact ⟨j, List.mem_cons_of_mem _ hj, h2⟩
def pickOk (k : Nat) : List Nat → Bool
 | [] => true
 | i :: r => Nat.blt i k && !r.contains i && pickOk k r
theorem Mem.pick {w0 w : World} {M M' : List Ent} (m : Mem w0 w M) (is : List Nat) (k : Nat) (h : pickOk k is = true) (e : pickL M is ++ M.drop k = M') : Mem w0 w M' := by
 subst e
 have key : ∀ (is : List Nat), pickOk k is = true → (pickL M is ++ M.drop k).Pairwise (fun (e e' : Ent) => ∀ b, e.1 = some b → e'.1 ≠ some b) := by
  intro is
  have hap := m.apart
  have hij : ∀ (i j : Nat) (e e' : Ent), i ≠ j → M[i]? = some e → M[j]? = some e' → ∀ b, e.1 = some b → e'.1 ≠ some b := by
   intro i j e e' hne hi hj b hb hb'
   rw [List.pairwise_iff_getElem] at hap
   obtain ⟨h1, h2⟩ := List.getElem?_eq_some_iff.1 hi
   obtain ⟨h3, h4⟩ := List.getElem?_eq_some_iff.1 hj
   rcases Nat.lt_or_gt_of_ne hne with h | h
   ·exact hap i j h1 h3 h b (by rw [h2]; exact hb) (by rw [h4]; exact hb')
   ·exact hap j i h3 h1 h b (by rw [h4]; exact hb') (by rw [h2]; exact hb)
  induction is with
  | nil => intro _; simpa [pickL] using hap.sublist (List.drop_sublist _ _)
  | cons i r ih =>
   intro h
   simp only [pickOk, Bool.and_eq_true, Nat.blt_eq, Bool.not_eq_true', List.contains_eq_mem, decide_eq_false_iff_not] at h
   obtain ⟨⟨h1, h2⟩, h3⟩ := h
   have := ih h3
   unfold pickL
   split
   ·rename_i e he
    rw [List.cons_append, List.pairwise_cons]
    refine ⟨fun e' he' b hb hb' => ?_, this⟩
    rcases List.mem_append.1 he' with he' | he'
    ·obtain ⟨j, hj, hje⟩ := pickL_mem he'
     exact hij i j e e' (fun q => h2 (q ▸ hj)) he hje b hb hb'
    ·obtain ⟨j, hj⟩ := List.getElem?_of_mem he'
     rw [List.getElem?_drop] at hj
     exact hij i (k + j) e e' (by omega) he hj b hb hb'
   ·exact this
 refine ⟨m.os, m.tape, m.output, m.size, m.old, fun e he b hb => ?_, key is h⟩
 rcases List.mem_append.1 he with he | he
 ·obtain ⟨i, _, hi⟩ := pickL_mem he
  exact m.ents e (List.mem_of_getElem? hi) b hb
 ·exact m.ents e (List.mem_of_mem_drop he) b hb
theorem Z103 {w0 : World} {Φ : Ctx} {B M0 N : List Ent} (hΦ : ∀ w, Mem w0 w M0 → Φ w) (k : Nat) {w : World} (m : Mem w0 w N) (hN : N.drop k = B ++ M0) : More w0 Φ B w := by
 have := m.drop k
 rw [hN] at this
 exact ⟨hΦ w this.appR, this.appL⟩
theorem More.app {w0 : World} {Φ : Ctx} {A B : List Ent} {w : World} (m : More w0 Φ (A ++ B) w) : More w0 Φ B w := ⟨m.1, m.2.appR⟩
theorem More.mono {w0 : World} {Φ : Ctx} {A B : List Ent} (h : ∀ w, Mem w0 w A → Mem w0 w B) {w : World} (m : More w0 Φ A w) : More w0 Φ B w := ⟨m.1, h w m.2⟩
theorem More.nil {w0 : World} {Φ : Ctx} {w : World} (m : More w0 Φ [] w) : Φ w := m.1
structure View (Φ : Ctx) (A : Option Addr) (len c s : Nat) (cells : List Value) : Prop where
 rd : ∀ w, Φ w → Rd w A cells
 so : cells ≠ [] → A.isSome = true
 n : cells.length = len * s
 le : len ≤ c
 mx : len ≤ 140737488355328
theorem View.mono {Φ Ψ : Ctx} {A : Option Addr} {len c s : Nat} {cells : List Value} (h : View Φ A len c s cells) (hh : ∀ w, Ψ w → Φ w) : View Ψ A len c s cells := ⟨fun w q => h.rd w (hh w q), h.so, h.n, h.le, h.mx⟩
theorem View.nil {Φ : Ctx} {A : Option Addr} {c s : Nat} : View Φ A 0 c s [] := ⟨fun w _ => Rd.nil _ _, fun h => absurd rfl h, by simp, Nat.zero_le _, by omega⟩
theorem View.hi {Φ : Ctx} {A : Option Addr} {len c s : Nat} {cells : List Value} (h : View Φ A len c s cells) {k : Nat} (hk : k ≤ len) : View Φ A k c s (cells.take (k * s)) :=
 ⟨fun w q => (h.rd w q).take _, fun hn => h.so (fun e => hn (by simp [e])), by rw [List.length_take, h.n]; exact Nat.min_eq_left (Nat.mul_le_mul_right _ hk), Nat.le_trans hk h.le, Nat.le_trans hk h.mx⟩
theorem View.lo {Φ : Ctx} {A : Option Addr} {len c s : Nat} {cells : List Value} (h : View Φ A len c s cells) {k : Nat} (hk : k ≤ len) : View Φ (subA A c k s) (len - k) (c - k) s (cells.drop (k * s)) := by
 have hl : cells.length ≤ c * s := by rw [h.n]; exact Nat.mul_le_mul_right _ h.le
 refine ⟨fun w q => (h.rd w q).sub hl, fun hn => ?_, by rw [List.length_drop, h.n, Nat.sub_mul], by have := h.le; omega, by have := h.mx; omega⟩
 have hA := h.so (fun e => hn (by simp [e]))
 unfold subA
 split
 ·exact hA
 ·simpa using hA
theorem View.isSome {Φ : Ctx} {A : Option Addr} {len c s : Nat} {cells : List Value} (h : View Φ A len c s cells) (hs : 0 < s) {i : Nat} (hi : i < len) : A.isSome = true := h.so (fun e => by
 have h1 := h.n
 rw [e] at h1
 have h2 : 0 < len * s := Nat.mul_pos (by omega) hs
 simp at h1
 omega)
theorem View.zero {Φ : Ctx} {A : Option Addr} {len c s : Nat} {cells : List Value} (h : View Φ A len c s cells) (hs : 0 < s) : A = none → len = 0 := fun e => by
 cases hc : cells with
 | nil => exact Nat.eq_zero_of_not_pos (fun hp => by have h1 := h.n; have h2 : 0 < len * s := Nat.mul_pos hp hs; rw [hc] at h1; simp at h1; omega)
 | cons x r => have := h.so (by simp [hc]); simp [e] at this
theorem View.cell {Φ : Ctx} {A : Option Addr} {len c s : Nat} {cells : List Value} (h : View Φ A len c s cells) {w : World} (q : Φ w) {j : Nat} {u : Value} (hj : cells[j]? = some u) : w.cell? ((A.getD default).add j) = some u := (h.rd w q).cell hj
structure OwnS (ob : Option Nat) (len cap s : Nat) (cells r : List Value) : Prop where
 n : cells.length = len * s
 hr : (cells ++ r).length = cap * s
 hn : ob = none → cap = 0
 mx : len ≤ 140737488355328
theorem OwnS.nil {s : Nat} : OwnS none 0 0 s [] [] := ⟨by simp, by simp, fun _ => rfl, by omega⟩
theorem OwnS.le {ob : Option Nat} {len cap s : Nat} {cells r : List Value} (h : OwnS ob len cap s cells r) (hs : 0 < s) : len ≤ cap := by
 have h1 := h.n
 have h2 := h.hr
 rw [List.length_append, h1] at h2
 exact Nat.le_of_mul_le_mul_right (by omega) hs
theorem OwnS.so {ob : Option Nat} {len cap s : Nat} {cells r : List Value} (h : OwnS ob len cap s cells r) (hs : 0 < s) (hne : cells ≠ []) : ob.isSome = true := by
 cases ob with
 | some _ => rfl
 | none =>
  have h1 := h.hn rfl
  have h2 := h.hr
  rw [h1] at h2
  simp at h2
  exact absurd h2.1 hne
theorem OwnS.view {w0 : World} {ob : Option Nat} {len cap s : Nat} {cells r : List Value} {te : TypeId} (h : OwnS ob len cap s cells r) (hs : 0 < s) {Ψ : Ctx} (hΨ : ∀ w, Ψ w → Mem w0 w [(ob, blk (cells ++ r) te)]) : View Ψ (ob.map fun k => ⟨k, 0, none⟩) len cap s cells :=
 ⟨fun w q => (hΨ w q).rd0 (List.mem_cons_self ..) (fun e => by
  cases hc : cells with
  | nil => rfl
  | cons x r => have := h.so hs (by simp [hc]); simp [e] at this), fun hne => by have := h.so hs hne; cases ob <;> simp_all, h.n, h.le hs, h.mx⟩
section
variable {P : Program} {n : Nat} {Q : Exit → Act → World → Prop} {w0 : World} {L : Z123} {M : List Ent} {x y : Code} {c : Code}
def Joined (n : Nat) (w0 : World) (J : Z123 → List Ent → Prop) (a : Act) (w : World) : Prop := ∃ L' M', J L' M' ∧ Fr n L' a ∧ Mem w0 w M'
theorem QW.join {J : Z123 → List Ent → Prop} {L' : Z123} {M' : List Ent} (h : J L' M') (hL : Sub L L') (hM : ∀ w, Mem w0 w M → Mem w0 w M') : QW n (Exit.then (Joined n w0 J) Q) w0 .normal L M := QW.intro fun a w f m => ⟨L', M', h, f.weaken hL, hM w m⟩
def AgainJ (n : Nat) (w0 : World) (J : Nat → Z123 → List Ent → Prop) (k : Nat) (a : Act) (w : World) : Prop := ∃ k' L' M', k' < k ∧ J k' L' M' ∧ Fr n L' a ∧ Mem w0 w M'
theorem Z114 (J : Nat → Z123 → List Ent → Prop) {k0 : Nat} {L0 : Z123} {M0 : List Ent} (h0 : J k0 L0 M0) (hL : Sub L L0) (hM : ∀ w, Mem w0 w M → Mem w0 w M0)
    (round : ∀ k L M, J k L M → CW P n (Exit.then (AgainJ n w0 J k) Q) w0 c L M) : CW P n Q w0 (.loop c) L M := by
 refine CW.loop (σ := Nat × Z123 × List Ent) (fun s => J s.1 s.2.1 s.2.2) (fun s => s.2.1) (fun s => s.2.2) (fun s => s.1) (k0, L0, M0) h0 hL hM ?_
 rintro ⟨k, L, M⟩ hJ
 refine CW.intro fun a w f m => wp_mono ((round k L M hJ).elim a w f m) ?_
 intro e a w h
 cases e <;> first
  | exact h
  | (obtain ⟨k', L', M', h0, h1, h2, h3⟩ := h; exact ⟨(k', L', M'), h1, h0, h2, h3⟩)
theorem Z109 {J : Nat → Z123 → List Ent → Prop} {k k' : Nat} {L' : Z123} {M' : List Ent} (hk : k' < k) (h : J k' L' M') (hL : Sub L L') (hM : ∀ w, Mem w0 w M → Mem w0 w M') : QW n (Exit.then (AgainJ n w0 J k) Q) w0 .normal L M := QW.intro fun a w f m => ⟨k', L', M', hk, h, f.weaken hL, hM w m⟩
theorem CW.cond_is {z : Operand} {p : Bool} (b : Bool) (hc : ev L z = some (.bool p)) (hb : p = b) (h : CW P n Q w0 (if b then x else y) L M) : CW P n Q w0 (.cond z x y) L M := by
 subst hb
 refine CW.cond hc (fun e => ?_) (fun e => ?_)
 ·subst e; exact h
 ·subst e; exact h
theorem Z13 {z : Operand} {p : Bool} (hc : ev L z = some (.bool p)) (hb : p = true) (h : CW P n Q w0 x L M) : CW P n Q w0 (.cond z x y) L M := CW.cond_is true hc hb h
theorem Z14 {z : Operand} {p : Bool} (hc : ev L z = some (.bool p)) (hb : p = false) (h : CW P n Q w0 y L M) : CW P n Q w0 (.cond z x y) L M := CW.cond_is false hc hb h
def DoesJ (P : Program) (f : FuncId) (args : List Value) (w0 : World) (M : List Ent) (R : Value → List Ent → Prop) : Prop :=
 Does P f args w0 M (τ := Value × List Ent) (fun q => R q.1 q.2) (fun q => q.1) (fun q => q.2)
theorem DoesJ.mono {f : FuncId} {args : List Value} {R R' : Value → List Ent → Prop} (h : DoesJ P f args w0 M R) (hh : ∀ v N, R v N → R' v N) : DoesJ P f args w0 M R' := fun w m =>
 (h w m).mono fun e w' ⟨q, h1, h2, h3⟩ => ⟨q, hh _ _ h1, h2, h3⟩
theorem DoesJ.to {f : FuncId} {args : List Value} {R : Value → List Ent → Prop} (h : DoesJ P f args w0 M R) (v : Value) (hh : ∀ u N, R u N → u = v ∧ ∀ w, Mem w0 w N → Mem w0 w M) : Does P f args w0 M (τ := Unit) (fun _ => True) (fun _ => v) (fun _ => M) := fun w m =>
 (h w m).mono fun e w' ⟨q, h1, h2, h3⟩ => ⟨(), trivial, h2.trans (congrArg Ending.returned (hh _ _ h1).1), (hh _ _ h1).2 _ h3⟩
theorem DoesJ.law {f : FuncId} {args : List Value} {W : World} {R : Value → List Ent → Prop} (h : DoesJ P f args W [] R) (hR : ∀ v N, R v N → v = .bool true) : Calls P f args.toArray W fun e W' => e = .returned (.bool true) ∧ Below W.heap.size W W' :=
 (h W (Mem.refl W)).mono fun e W' ⟨q, h1, h2, m⟩ => ⟨h2.trans (congrArg Ending.returned (hR _ _ h1)), m.below⟩
abbrev EndsJ (w0 : World) (R : Value → List Ent → Prop) : Ending → World → Prop := Ends w0 (τ := Value × List Ent) (fun q => R q.1 q.2) (fun q => q.1) (fun q => q.2)
theorem DoesJ.enter {f : FuncId} {fn : Func} {c : Code} {args : List Value} {R : Value → List Ent → Prop} (hf : P.funcs[f]? = some fn) (hb : fn.body = some c) (hn : fn.ntmps = n) (ha : Nat.ble args.length n = true)
    (h : CW P n (bodyPost P fn (EndsJ w0 R)) w0 c (slotsFrom 0 args) M) : DoesJ P f args w0 M R := Does.enter hf hb hn ha h
end
end Go.Fw
namespace Go.Fw
open Go Go.RowKit
theorem Z107 {w0 w : World} {N A N2 B M0 : List Ent} (m : Mem w0 w N) (j k : Nat) (h1 : N.drop j = A ++ N2) (h2 : N2.drop k = B ++ M0) : Mem w0 w (N.take j ++ (N2.take k ++ ((A ++ B) ++ M0))) := by
 refine m.perm ?_
 have e1 : N = N.take j ++ (A ++ (N2.take k ++ (B ++ M0))) := by rw [← h2, List.take_append_drop, ← h1, List.take_append_drop]
 have h : (A ++ (N2.take k ++ (B ++ M0))).Perm (N2.take k ++ ((A ++ B) ++ M0)) := by
  have h1 := (List.perm_append_comm (l₁ := A) (l₂ := N2.take k)).append_right (B ++ M0)
  simpa only [List.append_assoc] using h1
 have h3 := List.Perm.append_left (N.take j) h
 rwa [← e1] at h3
theorem Mem.graft {w0 w w' : World} {G M : List Ent} (m : Mem w0 w' (G ++ allEnts w0 w)) (mM : Mem w0 w M) : Mem w0 w' (G ++ M) := by
 have hin : ∀ e ∈ M, ∀ b, e.1 = some b → ((some b, e.2) : Ent) ∈ allEnts w0 w := fun e he b hb => by
  obtain ⟨h1, h2⟩ := mM.ents e he b hb
  have hlt : b < w.heap.size := (Array.getElem?_eq_some_iff.1 h2).1
  refine List.mem_map.2 ⟨b - w0.heap.size, List.mem_range.2 (by omega), ?_⟩
  have e1 : w0.heap.size + (b - w0.heap.size) = b := by omega
  simp [e1, h2]
 have hap := List.pairwise_append.1 m.apart
 refine ⟨m.os, m.tape, m.output, m.size, m.old, fun e he b hb => ?_, List.pairwise_append.2 ⟨hap.1, mM.apart, fun g hg e he b hb hb' => hap.2.2 g hg _ (hin e he b hb') b hb rfl⟩⟩
 rcases List.mem_append.1 he with he | he
 ·exact m.ents e (List.mem_append_left _ he) b hb
 ·exact m.ents _ (List.mem_append_right _ (hin e he b hb)) b rfl
def DoesG (P : Program) (f : FuncId) (args : List Value) (w0 : World) (E N : List Ent) (R : Value → List Ent → Prop) : Prop :=
 DoesJ P f args w0 (E ++ N) (fun v M' => ∃ G, R v G ∧ M' = G ++ N)
section
variable {P : Program} {n : Nat} {Q : Exit → Act → World → Prop} {w0 : World} {L : Z123} {M E N : List Ent} {f : FuncId} {args : List Value} {R R' : Value → List Ent → Prop}
theorem DoesG.mono (h : DoesG P f args w0 E N R) (hh : ∀ v G, R v G → R' v G) : DoesG P f args w0 E N R' := DoesJ.mono h (fun v M' ⟨G, h1, h2⟩ => ⟨G, hh v G h1, h2⟩)
theorem DoesG.law {W : World} (h : DoesG P f args W [] [] R) (hR : ∀ v G, R v G → v = .bool true) : Calls P f args.toArray W fun e W' => e = .returned (.bool true) ∧ Below W.heap.size W W' :=
 DoesJ.law h (fun v M' ⟨G, h1, _⟩ => hR v G h1)
theorem DoesG.to (h : DoesG P f args w0 [] N R) (v : Value) (hh : ∀ u G, R u G → u = v) : Does P f args w0 N (τ := Unit) (fun _ => True) (fun _ => v) (fun _ => N) :=
 DoesJ.to (M := N) h v (fun u M' ⟨G, h1, h2⟩ => ⟨hh u G h1, fun w m => by rw [h2] at m; exact m.appR⟩)
theorem DoesG.enter {fn : Func} {c : Code} (hf : P.funcs[f]? = some fn) (hb : fn.body = some c) (hn : fn.ntmps = n) (ha : Nat.ble args.length n = true) {M : List Ent} (hE : E ++ N = M)
    (h : CW P n (bodyPost P fn (EndsJ w0 (fun v M' => ∃ G, R v G ∧ M' = G ++ N))) w0 c (slotsFrom 0 args) M) : DoesG P f args w0 E N R := by
 subst hE
 exact DoesJ.enter hf hb hn ha h
def ResOk (P : Program) [Types P] (L : Z123) (M : List Ent) : List ResultVar → List Value → Prop
 | [], [] => True
 | .tmp t :: rs, v :: vs => lk L t = some v ∧ ResOk P L M rs vs
 | .cell p ty :: rs, v :: vs => (∃ b l te u, lk L p = some (ptr (some b) 0) ∧ (some b, blk l te) ∈ M ∧ tyU P ty = some u ∧ TypeDesc.agg u = true ∧ tyS P ty = some l.length ∧ v = .agg l.toArray) ∧ ResOk P L M rs vs
 | _, _ => False
def resF (tmps : Array Value) : ResultVar → Sem Value
 | .tmp t => pure (tmps.getD t undef)
 | .cell a t => do loadVar t (← asAddr (tmps.getD a undef))
theorem ResOk.run [Types P] {a : Act} {w : World} (f : Fr n L a) (m : Mem w0 w M) : ∀ (rs : List ResultVar) (vs : List Value), ResOk P L M rs vs →
    (rs.mapM (resF a.tmps)).run P w = .ok vs w
 | [], [], _ => by simp
 | [], _ :: _, h => by cases h
 | .tmp t :: rs, [], h => by cases h
 | .cell p ty :: rs, [], h => by cases h
 | .tmp t :: rs, v :: vs, h => by
  have ih := ResOk.run f m rs vs h.2
  have ht := f.get t v h.1
  have h1 : (resF a.tmps (.tmp t)).run P w = .ok v w := by simp [resF, ht]
  simp only [List.mapM_cons, Sem.run_bind, h1, ih, Result.andThen, Sem.run_pure]
 | .cell p ty :: rs, v :: vs, h => by
  obtain ⟨⟨b, l, te, u, h1, h2, h3, h4, h5, rfl⟩, h6⟩ := h
  have ih := ResOk.run f m rs vs h6
  have hp := f.get p _ h1
  have hload := loadVar_run (P := P) m h2 rfl h3 h4 h5 rfl
  simp only [Option.getD_some] at hload
  have h1 : (resF a.tmps (.cell p ty)).run P w = .ok (.agg l.toArray) w := by simp [resF, hp, ptr, asAddr, hload]
  simp only [List.mapM_cons, Sem.run_bind, h1, ih, Result.andThen, Sem.run_pure]
theorem ResOk.len [Types P] : ∀ (rs : List ResultVar) (vs : List Value), ResOk P L M rs vs → vs.length = rs.length
 | [], [], _ => rfl
 | [], _ :: _, h => by cases h
 | .tmp t :: rs, [], h => by cases h
 | .cell p ty :: rs, [], h => by cases h
 | .tmp t :: rs, v :: vs, h => by simp [ResOk.len rs vs h.2]
 | .cell p ty :: rs, v :: vs, h => by simp [ResOk.len rs vs h.2]
def tup : List Value → Value
 | [v] => v
 | vs => .tuple vs.toArray
theorem results_run {fn : Func} {rs : List ResultVar} {tmps : Array Value} {vs : List Value} {w : World} (hr : fn.results = rs.toArray) (h : (rs.mapM (resF tmps)).run P w = .ok vs w) : (results fn tmps).run P w = .ok (tup vs) w := by
 have e : results fn tmps = (do let vs ← fn.results.mapM (resF tmps); pure (if h : vs.size = 1 then vs[0] else .tuple vs)) := by
  unfold results
  congr 1
 rw [e, hr]
 simp [h, Result.andThen]
 split
 ·rename_i h1
  match vs, h1 with
  | [v], _ => rfl
 ·rename_i h1
  match vs, h1 with
  | [], _ => rfl
  | [v], h1 => exact absurd rfl h1
  | _ :: _ :: _, _ => rfl
theorem Z102 [Types P] {fn : Func} {rs : List ResultVar} (vs : List Value) {v : Value} (G : List Ent) (hr : fn.results = rs.toArray) (hok : ResOk P L M rs vs) (hv : tup vs = v) (hR : R v G) (hM : ∀ w, Mem w0 w M → Mem w0 w (G ++ N)) (e : Exit) (he : e = .ret ∨ e = .normal) :
    QW n (bodyPost P fn (EndsJ w0 (fun v M' => ∃ G, R v G ∧ M' = G ++ N))) w0 e L M := QW.intro fun a w f m => by
 have hrun := results_run (tmps := a.tmps) hr (ResOk.run (P := P) f m rs vs hok)
 rw [hv] at hrun
 have key : bodyPost P fn (EndsJ w0 (fun v M' => ∃ G, R v G ∧ M' = G ++ N)) .ret a w := ⟨f.nd, v, hrun, (v, G ++ N), ⟨G, hR, rfl⟩, rfl, hM w m⟩
 rcases he with rfl | rfl
 ·exact key
 ·exact key
end
end Go.Fw
namespace Go.Fw
open Go Go.RowKit
section
variable {P : Program} {n : Nat} {Q : Exit → Act → World → Prop} {w0 : World} {L : Z123} {M E N : List Ent} {f : FuncId} {args : List Value} {R : Value → List Ent → Prop}
variable {ops : Array Oper} {rest : List Oper} {ty ty1 : TypeId} {pos : String} {aft : Array Edge} {d : Nat} {v : Value}
theorem Z20 {M' : List Ent} (hs : ∀ w, Mem w0 w M → Mem w0 w M') (k : OW P n ops Q w0 rest L M') : OW P n ops Q w0 rest L M := OW.intro fun a w f m => k.elim a w f (hs w m)
theorem Z12 {xs : List Operand} {ats : Array TypeId} (hc : ∀ (args : Array Value) (w : World), (callFunc f args).run P w = .ok (.enter f args) w)
    (hxs : evs L xs = some args) (hdo : DoesG P f args w0 E N R) (hE : E ++ N = M) (hd : Nat.blt d n = true) (k : ∀ v G, R v G → OW P n ops Q w0 rest ((d, v) :: L) (G ++ N)) :
    OW P n ops Q w0 (⟨some d, .call ⟨.value (.func f), xs.toArray, ats⟩, ty, pos, aft, none⟩ :: rest) L M := by
 subst hE
 exact OW.call hc hxs hdo hd (fun q ⟨G, h1, h2⟩ => by rw [h2]; exact k q.1 G h1)
variable {tail : List Oper} {m g : Nat} {done : Array Bool} {op : Op} {gd : Option (Nat × Bool)}
theorem UW.mem {M' : List Ent} (hs : ∀ w, Mem w0 w M → Mem w0 w M') (k : UW P n ops Q w0 tail m g done L M') : UW P n ops Q w0 tail m g done L M := by
 unfold UW
 exact fun hB inv a w f mm => k.elim hB inv a w f (hs w mm)
theorem Z25 (i : Nat) {xs : List Operand} {ats : Array TypeId} (ho : ops[i]? = some ⟨some d, .call ⟨.value (.func f), xs.toArray, ats⟩, ty, pos, aft, gd⟩) (hr : (Region.ready .any ops done == [i] && Nat.blt i m) = true) (hw : Wt ops L gd = true)
    (hc : ∀ (args : Array Value) (w : World), (callFunc f args).run P w = .ok (.enter f args) w) (hxs : evs L xs = some args) (hdo : ∀ N, (∀ w, Mem w0 w N → Mem w0 w M) → DoesG P f args w0 [] N R)
    (hd : Nat.blt d n = true) (k : ∀ v G, R v G → UW P n ops Q w0 tail m g (done.setIfInBounds i true) ((d, v) :: L) (G ++ M)) : UW P n ops Q w0 tail m (g + 1) done L M := by
 unfold UW
 exact fun hB inv a w fr mm w' hu => by
  simp only [Bool.and_eq_true, beq_iff_eq] at hr
  obtain ⟨hr, hi⟩ := hr
  have hi' : i < m := by simpa using hi
  refine ⟨by rw [hr]; simp, fun j hj => ?_⟩
  rw [hr] at hj
  obtain rfl : j = i := by simpa using hj
  refine ⟨hi', _, ho, .inl ⟨wt_spec fr hw, ?_⟩⟩
  have hev := evs_map (fun x u hx => fr.eval hx) xs args hxs
  have hrun : (execOp a.eval ⟨some d, .call ⟨.value (.func f), xs.toArray, ats⟩, ty, pos, aft, gd⟩).run P w' = .ok (.enter f args.toArray) w' := by
   simp [execOp, resolve, Deferred.ofValue, Act.eval, invoke, hev, hc]
  rw [hrun]
  have mw := hu _ mm
  refine (hdo (allEnts w0 w') (fun w2 m2 => Upw.of_all m2 _ mw) w' mw.all).mono ?_
  rintro e w2 ⟨q, ⟨G, h1, h2⟩, rfl, m'⟩
  have m' : Mem w0 w2 (G ++ allEnts w0 w') := by have m2 := m'; rwa [show (fun q : Value × List Ent => q.2) q = G ++ allEnts w0 w' from h2] at m2
  exact ⟨_, rfl, Upw.of_all m'.appR, (k q.1 G h1).elim hB (inv.set (by rw [hr]; simp) hi') _ _ (fr.put hd _) (m'.graft mw)⟩
end
section
variable {P : Program} [Types P] {n : Nat} {Q : Exit → Act → World → Prop} {w0 : World} {L : Z123} {M : List Ent}
variable {ops : Array Oper} {rest : List Oper} {ty1 : TypeId} {pos : String} {aft : Array Edge} {d : Nat} {v : Value} {t e : TypeId} {x y : Operand}
theorem OW.appendOwn {i : TI} {ob : Option Nat} {len cap m c s : Nat} {l r vs : List Value} {B : Option Addr} {t2 e2 : TypeId} (hx : ev L x = some (sl ob 0 len cap)) (hy : ev L y = some (.slice B m c)) (ht : tyU P t = some (.slice e)) (hi : ty P e = some i) (hs : i.sz = s) (ht2 : tyU P t2 = some (.slice e2))
    (hl : OwnS ob len cap s l r) (hR : Mem.Says w0 ((ob, blk (l ++ r) e) :: M) (fun w => Rd w B vs)) (hvl : vs.length = m * s) (hv1 : ∀ u ∈ vs, u.oneCell' = true) (hB : B = none → m = 0) (hspos : 0 < s)
    (hby : 0 < i.bytes) (hb : (len + m) * i.bytes ≤ 140737488355328) (hz : i.z.cells.size = s) (hd : Nat.blt d n = true) (len' : Nat) (l' : List Value) (hlen : len + m = len') (hcs : l ++ vs = l')
    (k : ∀ (ob' : Option Nat) (r' : List Value) (cap' : Nat), OwnS ob' len' cap' s l' r' → OW P n ops Q w0 rest ((d, sl ob' 0 len' cap') :: L) ((ob', blk (l' ++ r') e) :: M)) :
    OW P n ops Q w0 (⟨some d, .call ⟨.builtin .append, #[x, y], #[t, t2]⟩, ty1, pos, aft, none⟩ :: rest) L ((ob, blk (l ++ r) e) :: M) := by
 have hm : len + m ≤ (len + m) * i.bytes := Nat.le_mul_of_pos_right _ hby
 subst hlen hcs
 exact OW.append hx hy ht hi hs ht2 hl.n hl.hr hl.hn hR hvl hv1 hB hspos (by omega) hb hz hd (fun ob' r' cap' h1 h2 => k ob' r' cap' ⟨by rw [List.length_append, hl.n, hvl, Nat.add_mul], h1, h2, by omega⟩)
end
theorem Z100 {α β : Type} {o : Option α} {f : α → Option β} {r : β} (h : o.bind f = some r) : ∃ x, o = some x ∧ f x = some r := by
 cases o with
 | none => cases h
 | some x => exact ⟨x, rfl, h⟩
theorem Z116 {α : Type} {p : Prop} [Decidable p] {x : Option α} {r : α} (h : (if p then x else none) = some r) : p ∧ x = some r := by
 split at h
 ·exact ⟨‹_›, h⟩
 ·cases h
theorem if_t {α : Type} {p : Prop} [Decidable p] {x y : Option α} {r : α} (h : (if p then x else y) = some r) (hp : p) : x = some r := by rwa [if_pos hp] at h
theorem if_f {α : Type} {p : Prop} [Decidable p] {x y : Option α} {r : α} (h : (if p then x else y) = some r) (hp : ¬ p) : y = some r := by rwa [if_neg hp] at h
theorem u8s_app (a b : List (BitVec 8)) : u8s a ++ u8s b = u8s (a ++ b) := by simp [u8s]
theorem u8s_at {l : List (BitVec 8)} {i : Nat} {x : BitVec 8} (h : l[i]? = some x) : (u8s l)[i]? = some (U8 x) := by simp [u8s, h]
theorem u64s_at {l : List (BitVec 64)} {i : Nat} {x : BitVec 64} (h : l[i]? = some x) : (u64s l)[i]? = some (U64 x) := by simp [u64s, h]
inductive Lp (R S : Type) where
 | ret (o : Option R)
 | go (s : S)
end Go.Fw
namespace Go.Fw
open Go Go.RowKit
inductive Reps {T : Type} (R : List Value → T → Prop) : List Value → List T → Prop
 | nil : Reps R [] []
 | cons {c cs : List Value} {x : T} {xs : List T} : R c x → Reps R cs xs → Reps R (c ++ cs) (x :: xs)
namespace Reps
variable {T : Type} {R R' : List Value → T → Prop}
theorem mono (hh : ∀ c x, R c x → R' c x) : ∀ {cs : List Value} {xs : List T}, Reps R cs xs → Reps R' cs xs := by
 intro cs xs h
 induction h with
 | nil => exact .nil
 | cons h _ ih => exact .cons (hh _ _ h) ih
theorem app {as₁ bs : List Value} {xs ys : List T} (h : Reps R as₁ xs) (k : Reps R bs ys) : Reps R (as₁ ++ bs) (xs ++ ys) := by
 induction h with
 | nil => exact k
 | cons h _ ih => rw [List.append_assoc]; exact .cons h ih
theorem one {c : List Value} {x : T} (h : R c x) : Reps R c [x] := by have := Reps.cons h .nil; simpa using this
theorem snoc {as₁ c : List Value} {xs : List T} {x : T} (h : Reps R as₁ xs) (k : R c x) : Reps R (as₁ ++ c) (xs ++ [x]) := h.app (one k)
theorem len {s : Nat} (hl : ∀ c x, R c x → c.length = s) {cs : List Value} {xs : List T} (h : Reps R cs xs) : cs.length = xs.length * s := by
 induction h with
 | nil => simp
 | cons h _ ih => rw [List.length_append, hl _ _ h, ih, List.length_cons, Nat.add_mul]; omega
theorem cell1 (h1 : ∀ c x, R c x → ∀ u ∈ c, u.oneCell' = true) {cs : List Value} {xs : List T} (h : Reps R cs xs) : ∀ u ∈ cs, u.oneCell' = true := by
 induction h with
 | nil => intro u hu; cases hu
 | cons h _ ih =>
  intro u hu
  rcases List.mem_append.1 hu with hu | hu
  ·exact h1 _ _ h u hu
  ·exact ih u hu
theorem get {s : Nat} (hl : ∀ c x, R c x → c.length = s) {cs : List Value} {xs : List T} (h : Reps R cs xs) : ∀ {i : Nat} {x : T}, xs[i]? = some x → ∃ c, R c x ∧ ∀ j u, c[j]? = some u → cs[i * s + j]? = some u := by
 induction h with
 | nil => intro i x hx; simp at hx
 | @cons c cs y ys h _ ih =>
  intro i x hx
  cases i with
  | zero =>
   simp at hx; subst hx
   exact ⟨c, h, fun j u hj => by rw [Nat.zero_mul, Nat.zero_add, List.getElem?_append_left (List.getElem?_eq_some_iff.1 hj).1]; exact hj⟩
  | succ i =>
   simp at hx
   obtain ⟨c', h1, h2⟩ := ih hx
   refine ⟨c', h1, fun j u hj => ?_⟩
   have h3 := hl _ _ h
   rw [List.getElem?_append_right (by rw [h3, Nat.succ_mul]; omega), h3]
   have := h2 j u hj
   rw [← this]
   congr 1
   rw [Nat.succ_mul]; omega
theorem drop {s : Nat} (hl : ∀ c x, R c x → c.length = s) {cs : List Value} {xs : List T} (h : Reps R cs xs) : ∀ (k : Nat), Reps R (cs.drop (k * s)) (xs.drop k) := by
 induction h with
 | nil => intro k; simp; exact .nil
 | @cons c cs y ys h hr ih =>
  intro k
  cases k with
  | zero => simpa using Reps.cons h hr
  | succ k =>
   have h3 := hl _ _ h
   rw [Nat.succ_mul, Nat.add_comm (k * s) s, ← List.drop_drop, show List.drop s (c ++ cs) = cs by rw [← h3]; simp]
   exact ih k
theorem take {s : Nat} (hl : ∀ c x, R c x → c.length = s) {cs : List Value} {xs : List T} (h : Reps R cs xs) : ∀ (k : Nat), Reps R (cs.take (k * s)) (xs.take k) := by
 induction h with
 | nil => intro k; simp; exact .nil
 | @cons c cs y ys h hr ih =>
  intro k
  cases k with
  | zero => simp; exact .nil
  | succ k =>
   have h3 := hl _ _ h
   rw [show List.take ((k + 1) * s) (c ++ cs) = c ++ cs.take (k * s) by
    rw [List.take_append, h3, List.take_of_length_le (by rw [h3, Nat.succ_mul]; omega)]
    congr 2
    rw [Nat.succ_mul]; omega]
   exact Reps.cons h (ih k)
end Reps
theorem View.load {Φ : Ctx} {A : Option Addr} {len c s : Nat} {cells : List Value} (h : View Φ A len c s cells) {w : World} (q : Φ w) {off : Nat} {cs : List Value} (hc : ∀ j u, cs[j]? = some u → cells[off + j]? = some u) : ∀ j u, cs[j]? = some u → w.cell? (((A.getD default).add off).add j) = some u := fun j u hj => by
 rw [Addr.add_add]; exact h.cell q (hc j u hj)
def BsRd (Φ : Ctx) (cs : List Value) (x : List (BitVec 8)) : Prop := ∃ A c, cs = [.slice A x.length c] ∧ View Φ A x.length c 1 (u8s x)
theorem BsRd.mono {Φ Ψ : Ctx} (hh : ∀ w, Ψ w → Φ w) (cs : List Value) (x : List (BitVec 8)) : BsRd Φ cs x → BsRd Ψ cs x := fun ⟨A, c, h1, h2⟩ => ⟨A, c, h1, h2.mono hh⟩
theorem BsRd.len {Φ : Ctx} (cs : List Value) (x : List (BitVec 8)) (h : BsRd Φ cs x) : cs.length = 1 := by obtain ⟨A, c, rfl, _⟩ := h; rfl
theorem BsRd.one {Φ : Ctx} (cs : List Value) (x : List (BitVec 8)) (h : BsRd Φ cs x) : ∀ u ∈ cs, u.oneCell' = true := by
 obtain ⟨A, c, rfl, _⟩ := h
 intro u hu; simp at hu; subst hu; rfl
theorem BsRd.mk {Φ : Ctx} {A : Option Addr} {x : List (BitVec 8)} {c : Nat} (h : View Φ A x.length c 1 (u8s x)) : BsRd Φ [.slice A x.length c] x := ⟨A, c, rfl, h⟩
inductive It where
 | mk (list : Bool) (data : List (BitVec 8)) (items : List It)
def It.list : It → Bool | .mk l _ _ => l
def It.data : It → List (BitVec 8) | .mk _ d _ => d
def It.items : It → List It | .mk _ _ i => i
inductive ItRd (Φ : Ctx) : List Value → It → Prop
 | mk {A B : Option Addr} {l : Bool} {d : List (BitVec 8)} {c e : Nat} {its : List It} {cells : List Value} :
  View Φ A d.length c 1 (u8s d) → View Φ B its.length e 3 cells → Reps (ItRd Φ) cells its → ItRd Φ [.bool l, .slice A d.length c, .slice B its.length e] (.mk l d its)
theorem ItRd.len {Φ : Ctx} (cs : List Value) (x : It) (h : ItRd Φ cs x) : cs.length = 3 := by cases h; rfl
theorem ItRd.one {Φ : Ctx} (cs : List Value) (x : It) (h : ItRd Φ cs x) : ∀ u ∈ cs, u.oneCell' = true := by
 cases h
 intro u hu; simp at hu; rcases hu with rfl | rfl | rfl <;> rfl
mutual
theorem ItRd.mono' {Φ Ψ : Ctx} (hh : ∀ w, Ψ w → Φ w) : ∀ (x : It) (cs : List Value), ItRd Φ cs x → ItRd Ψ cs x
 | .mk l d its, _, .mk h1 h2 h3 => .mk (h1.mono hh) (h2.mono hh) (ItsRd.mono' hh its _ h3)
theorem ItsRd.mono' {Φ Ψ : Ctx} (hh : ∀ w, Ψ w → Φ w) : ∀ (xs : List It) (cs : List Value), Reps (ItRd Φ) cs xs → Reps (ItRd Ψ) cs xs
 | [], _, .nil => .nil
 | x :: xs, _, .cons h hr => .cons (ItRd.mono' hh x _ h) (ItsRd.mono' hh xs _ hr)
end
theorem ItRd.mono {Φ Ψ : Ctx} (hh : ∀ w, Ψ w → Φ w) (cs : List Value) (x : It) : ItRd Φ cs x → ItRd Ψ cs x := ItRd.mono' hh x cs
theorem ItRd.opn {Φ : Ctx} {cs : List Value} {x : It} (h : ItRd Φ cs x) : ∃ A c B e cells, cs = [.bool x.list, .slice A x.data.length c, .slice B x.items.length e] ∧ View Φ A x.data.length c 1 (u8s x.data) ∧ View Φ B x.items.length e 3 cells ∧ Reps (ItRd Φ) cells x.items := by
 cases h with
 | mk h1 h2 h3 => exact ⟨_, _, _, _, _, rfl, h1, h2, h3⟩
theorem It.eta (x : It) : x = .mk x.list x.data x.items := by cases x; rfl
end Go.Fw
namespace Go.Fw
open Go Go.RowKit
section
variable {P : Program} {n : Nat} {Q : Exit → Act → World → Prop} {w0 : World} {L : Z123} {M : List Ent}
variable {ops : Array Oper} {rest : List Oper} {d : Nat} {v v' : Value} {tail : List Oper} {m g : Nat} {done : Array Bool}
theorem Z7 (v' : Value) (hv : v = v') (k : OW P n ops Q w0 rest ((d, v') :: L) M) : OW P n ops Q w0 rest ((d, v) :: L) M := by subst hv; exact k
theorem UW.slot (v' : Value) (hv : v = v') (k : UW P n ops Q w0 tail m g done ((d, v') :: L) M) : UW P n ops Q w0 tail m g done ((d, v) :: L) M := by subst hv; exact k
theorem OW.cells {ob : Option Nat} {l : List Value} {t : TypeId} (l' : List Value) (e : l = l') (k : OW P n ops Q w0 rest L ((ob, blk l' t) :: M)) : OW P n ops Q w0 rest L ((ob, blk l t) :: M) := by subst e; exact k
end
section
variable {P : Program} [Types P] {w0 : World} {L : Z123} {M : List Ent} {t e : TypeId} {x y : Operand} {v : Value}
theorem Z31 {A : Addr} {s f : Nat} {fs : Array Field} {fd : Field} (hx : ev L x = some (.pointer (some A))) (ht : tyU P t = some (.struct fs)) (hf : fs[f]? = some fd) (hs : tyS P fd.type = some (s + 1)) :
    RV P w0 L M (.fieldAddr t x f) (.pointer (some (A.add fd.offset))) := fun ρ w hρ m o ho => by
 simp [execOp, ho, hρ x _ hx, Instr.fieldAt, Instr.sureAddr, Z122 ht, hf, Go.fieldPlace, Z136 hs]
def plcs (P : Program) [Types P] : List Field → Option (List (Nat × Nat))
 | [] => some []
 | f :: r => match tyS P f.type, plcs P r with
  | some s, some l => some ((f.offset, s) :: l)
  | _, _ => none
theorem plcs_run {w : World} : ∀ (fs : List Field) (pl : List (Nat × Nat)), plcs P fs = some pl → (fs.mapM (m := Sem) fun f => do pure (f.offset, ← Go.sizeOf f.type)).run P w = .ok pl w
 | [], pl, h => by simp [plcs] at h; subst h; simp
 | f :: r, pl, h => by
  simp only [plcs] at h
  split at h
  ·rename_i s l h1 h2
   simp at h; subst h
   have ih := plcs_run (w := w) r l h2
   have hs := Z136 (P := P) h1 w
   simp only [List.mapM_cons, Sem.run_bind, hs, ih, Result.andThen, Sem.run_pure]
  ·cases h
def fillL (pl : List (Nat × Nat)) : List Value → List (Nat × List Value) → Option (List Value)
 | l, [] => some l
 | l, (i, vs) :: r => match pl[i]? with
  | some (off, size) => if Nat.beq vs.length size && Nat.ble (off + size) l.length then fillL pl (spl l off vs) r else none
  | none => none
theorem fillL_run {pl : List (Nat × Nat)} : ∀ (ps : List (Nat × List Value)) (us : List (Nat × Value)) (l cs : List Value), us.map (fun p => (p.1, p.2.cells)) = ps.map (fun p => (p.1, p.2.toArray)) → fillL pl l ps = some cs →
    Instr.fill (fun i => pl[i]?) l.toArray us = some cs.toArray
 | [], us, l, cs, hu, h => by
  cases us with
  | nil => simp [fillL] at h; subst h; rfl
  | cons _ _ => simp at hu
 | (i, vs) :: r, us, l, cs, hu, h => by
  cases us with
  | nil => simp at hu
  | cons p us =>
   obtain ⟨j, u⟩ := p
   simp only [List.map_cons, List.cons.injEq, Prod.mk.injEq] at hu
   obtain ⟨⟨rfl, h2⟩, h3⟩ := hu
   simp only [fillL] at h
   split at h
   ·rename_i off size hp
    split at h
    ·rename_i hc
     simp only [Bool.and_eq_true, Nat.beq_eq, Nat.ble_eq] at hc
     obtain ⟨h4, h5⟩ := hc
     rw [fill_cons (vs := vs) (off := off) (size := size) hp h2 h4 (by omega)]
     exact fillL_run r us _ cs h3 h
    ·cases h
   ·cases h
def evC (L : Z123) : List (Nat × Operand) → Option (List (Nat × Value))
 | [] => some []
 | (j, x) :: r => match ev L x, evC L r with
  | some v, some vs => some ((j, v) :: vs)
  | _, _ => none
theorem evC_spec {ρ : Operand → Value} (hρ : ∀ x u, ev L x = some u → ρ x = u) : ∀ (ps : List (Nat × Operand)) (vs : List (Nat × Value)), evC L ps = some vs → ps.map (fun p => (p.1, ρ p.2)) = vs
 | [], vs, h => by simp [evC] at h; subst h; rfl
 | (j, x) :: r, vs, h => by
  simp only [evC] at h
  split at h
  ·rename_i v us hv hus
   simp only [Option.some.injEq] at h
   subst h
   simp [hρ x _ hv, evC_spec hρ r us hus]
  ·cases h
theorem Z111 {i : TI} {l cs : List Value} {fs : List Field} {pl : List (Nat × Nat)} {ps : List (Nat × Operand)} {us : List (Nat × Value)} (vs : List (Nat × List Value)) (hi : ty P t = some i) (hu : i.u = .struct fs.toArray) (hpl : plcs P fs = some pl) (hl : i.z.cells = l.toArray) (hp : evC L ps = some us)
    (hv : us.map (fun p => (p.1, p.2.cells)) = vs.map (fun p => (p.1, p.2.toArray))) (hcs : fillL pl l vs = some cs) : RV P w0 L M (.build t ps.toArray) (.agg cs.toArray) := fun ρ w hρ m o ho => by
 obtain ⟨h0, ti, h1, h2, h3, h4⟩ := ty_ok hi
 rw [hu] at h0
 have hf := fillL_run vs us l cs hv hcs
 have he := evC_spec hρ ps us hp
 have hp2 := plcs_run (P := P) (w := w) fs pl hpl
 have hp3 : ((fs.toArray).mapM (m := Sem) fun f => do pure (f.offset, ← Go.sizeOf f.type)).run P w = .ok pl.toArray w := by
  rw [List.mapM_toArray]
  simp only [map_eq_pure_bind, Sem.run_bind, hp2, Result.andThen, Sem.run_pure]
 have hz : (zeroValue t).run P w = .ok i.z w := by simp [zeroValue, typeInfo, h1, h4]
 have hg : (fun i : Nat => (pl.toArray)[i]?) = fun i : Nat => pl[i]? := by funext i; simp
 have hb : (Instr.build t (ps.map fun p => (p.1, ρ p.2)).toArray).run P w = .ok (.agg cs.toArray) w := by
  unfold Instr.build
  simp only [Sem.run_bind, hz, Result.andThen, run_underlying h0, hp3, he, hl, hg, hf, Sem.run_pure]
 simp [execOp, ho] at hb ⊢
 simp [hb]
end
end Go.Fw
namespace Go.Fw
open Go Go.RowKit
section
variable {P : Program} {n : Nat} {Q : Exit → Act → World → Prop} {w0 : World} {L : Z123} {M : List Ent} {x : Code}
theorem Z115 (J : Z123 → List Ent → Prop) (hy : ∀ L M, J L M → QW n Q w0 .normal L M) (hx : CW P n (Exit.then (Joined n w0 J) Q) w0 x L M) : CW P n Q w0 x L M := CW.intro fun a w f m => by
 refine wp_mono (hx.elim a w f m) ?_
 intro e a w h
 cases e <;> first
  | exact h
  | (obtain ⟨L', M', h1, h2, h3⟩ := h; exact (hy L' M' h1).elim a w h2 h3)
end
theorem Z117 {w0 : World} {Φ : Ctx} {A B : List Ent} {w : World} (q : More w0 Φ (A ++ B) w) : More w0 (More w0 Φ B) A w := ⟨⟨q.1, q.2.appR⟩, q.2.appL⟩
theorem More.base {w0 : World} {Φ : Ctx} {B : List Ent} {w : World} (q : More w0 Φ B w) : Φ w := q.1
theorem View.hi8 {α : Type} {Φ : Ctx} {A : Option Addr} {c : Nat} {f : α → Value} {xs : List α} (h : View Φ A xs.length c 1 (xs.map f)) {k : Nat} (hk : k ≤ xs.length) : View Φ A (xs.take k).length c 1 ((xs.take k).map f) := by
 have := h.hi hk
 rw [Nat.mul_one, ← List.map_take] at this
 rwa [List.length_take, Nat.min_eq_left hk]
theorem View.lo8 {α : Type} {Φ : Ctx} {A : Option Addr} {c : Nat} {f : α → Value} {xs : List α} (h : View Φ A xs.length c 1 (xs.map f)) {k : Nat} (hk : k ≤ xs.length) : View Φ (subA A c k 1) (xs.drop k).length (c - k) 1 ((xs.drop k).map f) := by
 have := h.lo hk
 rw [Nat.mul_one, ← List.map_drop] at this
 rwa [List.length_drop]
theorem OwnS.isSome {ob : Option Nat} {len cap s : Nat} {cells r : List Value} (h : OwnS ob len cap s cells r) (hs : 0 < s) {i : Nat} (hi : i < len) : ob.isSome = true := h.so hs (fun e => by
 have h1 := h.n
 rw [e] at h1
 have h2 : 0 < len * s := Nat.mul_pos (by omega) hs
 simp at h1
 omega)
theorem OwnS.nilc {ob : Option Nat} {len cap s : Nat} {cells r : List Value} (h : OwnS ob len cap s cells r) (hs : 0 < s) (e : ob = none) : cells = [] := by
 cases hc : cells with
 | nil => rfl
 | cons x r => have := h.so hs (by simp [hc]); simp [e] at this
theorem OwnS.zeroO {ob : Option Nat} {len cap s : Nat} {cells r : List Value} (h : OwnS ob len cap s cells r) (hs : 0 < s) (e : ob.map (fun k => (⟨k, 0, none⟩ : Addr)) = none) : len = 0 := by
 have e2 : ob = none := by cases ob <;> simp_all
 have h1 := h.n
 rw [h.nilc hs e2] at h1
 exact Nat.eq_zero_of_not_pos (fun hp => by have h2 : 0 < len * s := Nat.mul_pos hp hs; simp at h1; omega)
theorem Z113 {α : Type} {l : List α} {i : Nat} {x : α} (h : l[i]? = some x) : i < l.length := (List.getElem?_eq_some_iff.1 h).1
theorem vat {α : Type} {k : Nat} {v : Vector α k} {i : Nat} {x : α} (h : v[i]? = some x) : v.toList[i]? = some x := by rw [Vector.getElem?_toList]; exact h
theorem vat' {α : Type} {k : Nat} {v : Vector α k} {i : Nat} (h : i < k) : v.toList[i]? = some (v[i]'h) := by rw [Vector.getElem?_toList]; exact Vector.getElem?_eq_getElem h
theorem vset {α : Type} {k : Nat} {v : Vector α k} {i : Nat} {x : α} : v.toList.set i x = (v.setIfInBounds i x).toList := by simp
end Go.Fw
namespace Go.Fw
open Go Go.RowKit
section
variable {P : Program} [Types P] {w0 : World} {L : Z123} {M : List Ent} {f : FuncId}
variable {t : TypeId} {x y : Operand} {m n : Int}
theorem RV.max2 {ats : Array TypeId} (hx : ev L x = some (.int .i64 m)) (hy : ev L y = some (.int .i64 n)) : RV P w0 L M (.call ⟨.builtin .max, #[x, y], ats⟩) (.int .i64 (max m n)) := fun ρ w hρ mm o ho => by
 have e : (if n > m then n else m) = max m n := by omega
 simp [execOp, ho, resolve, hρ x _ hx, hρ y _ hy, invoke, builtin, Builtin.max_, Builtin.max2, e]
end
end Go.Fw
namespace Go.Fw
open Go Go.RowKit
def Rl (w0 : World) (R : List Ent) (h : Bool) (w w2 : World) : Prop := if h then (Mem w0 w R → Mem w0 w2 R) else Upw w0 w w2
theorem Rl.base {w0 : World} {R : List Ent} {h : Bool} {w w2 : World} (r : Rl w0 R h w w2) : Mem w0 w R → Mem w0 w2 R := by
 unfold Rl at r
 split at r
 ·exact r
 ·exact r R
section
variable {P : Program} {ops : Array Oper} {md : Region.Mode}
def XH (P : Program) (md : Region.Mode) (ops : Array Oper) (n : Nat) (w0 : World) (R : List Ent) (hard : List Nat) (E : Array Bool → Act → World → Prop) : Nat → Array Bool → Act → World → Prop
 | 0, done, a, w => E done a w
 | f + 1, done, a, w => Region.ready md ops done ≠ [] ∧ ∀ i, i ∈ Region.ready md ops done → i < n ∧ ∃ o, ops[i]? = some o ∧
     ((Region.wanted o (yielded ops a.tmps) = true ∧ stp P ((execOp a.eval o).run P w) (fun u w2 => Rl w0 R (hard.contains i) w w2 ∧ XH P md ops n w0 R hard E f (done.setIfInBounds i true) (a.put o.dst u) w2)) ∨
      (Region.wanted o (yielded ops a.tmps) = false ∧ XH P md ops n w0 R hard E f (done.setIfInBounds i true) (a.put o.dst undef) w))
theorem XH.any {n g : Nat} {w0 : World} {R : List Ent} {hard : List Nat} {E : Array Bool → Act → World → Prop} {Q : Exit → Act → World → Prop} (hE : ∀ done a w, E done a w → wpAny P md ops Q g done a w) :
    ∀ (f : Nat) (done : Array Bool) (a : Act) (w : World), XH P md ops n w0 R hard E f done a w → wpAny P md ops Q (f + g) done a w
 | 0, done, a, w, h => by simpa using hE done a w h
 | f + 1, done, a, w, h => by
  have hfg : f + 1 + g = (f + g) + 1 := by omega
  rw [hfg]
  obtain ⟨h1, h2⟩ := h
  refine ⟨fun e => absurd e h1, fun i hi => ?_⟩
  obtain ⟨_, o, ho, h3⟩ := h2 i hi
  unfold wpOp
  simp only [ho]
  rcases h3 with ⟨hw, hs⟩ | ⟨hw, hs⟩
  ·rw [if_pos hw]
   exact .inl (hs.wp fun u w2 ⟨_, q⟩ => XH.any hE f _ _ _ q)
  ·rw [if_neg (by simp [hw])]
   exact XH.any hE f _ _ _ hs
def Yx (P : Program) (ops : Array Oper) (C : World → Prop) (o : Oper) (v : Value) (a : Act) : Prop :=
 (Region.wanted o (yielded ops a.tmps) = true ∧ ∀ w, C w → (execOp a.eval o).run P w = .ok (.value v) w) ∨ (Region.wanted o (yielded ops a.tmps) = false ∧ v = undef)
theorem XH.take {n i : Nat} {w0 : World} {R : List Ent} {hard : List Nat} {oi : Oper} {v : Value} {C : World → Prop} {E : Array Bool → Act → World → Prop} (hi : ops[i]? = some oi) (hsel : ∀ (j : Nat) (o : Oper) cs b, ops[j]? = some o → o.op ≠ .select cs b)
    (hC : ∀ j oj, ops[j]? = some oj → j ≠ i → (∀ e ∈ oj.after, Region.binds md e = true → e.on ≠ i) → ∀ w w2, C w → Rl w0 R (hard.contains j) w w2 → C w2)
    (hn : n = ops.size) (hE : ∀ done a w, E done a w → ∀ j ∈ Region.ready md ops done, n ≤ j) :
    ∀ (f : Nat) (done : Array Bool) (a : Act) (w : World), C w → HeadInv md ops n done →
     (∀ j oj, ops[j]? = some oj → j ≠ i → done.getD j true = false → (∀ e ∈ oj.after, Region.binds md e = true → e.on ≠ i) → oi.apart ops oj = true) →
     i ∈ Region.ready md ops done → Yx P ops C oi v a → XH P md ops n w0 R hard E f (done.setIfInBounds i true) (a.put oi.dst v) w → XH P md ops n w0 R hard E (f + 1) done a w := by
 have hlt : ∀ (done : Array Bool), ∀ j ∈ Region.ready md ops done, j < n := fun done j hj => by
  subst hn
  obtain ⟨_, oj, hoj, _⟩ := mem_ready.1 hj
  exact (Array.getElem?_eq_some_iff.1 hoj).1
 have self : ∀ (f : Nat) (done : Array Bool) (a : Act) (w : World), C w → Yx P ops C oi v a → XH P md ops n w0 R hard E f (done.setIfInBounds i true) (a.put oi.dst v) w →
     ∃ o, ops[i]? = some o ∧ ((Region.wanted o (yielded ops a.tmps) = true ∧ stp P ((execOp a.eval o).run P w) (fun u w2 => Rl w0 R (hard.contains i) w w2 ∧ XH P md ops n w0 R hard E f (done.setIfInBounds i true) (a.put o.dst u) w2)) ∨
      (Region.wanted o (yielded ops a.tmps) = false ∧ XH P md ops n w0 R hard E f (done.setIfInBounds i true) (a.put o.dst undef) w)) := by
  intro f done a w hw hy H
  refine ⟨oi, hi, ?_⟩
  rcases hy with ⟨h1, h2⟩ | ⟨h1, rfl⟩
  ·refine .inl ⟨h1, ?_⟩
   rw [h2 w hw]
   refine ⟨?_, H⟩
   unfold Rl
   split
   ·exact fun m => m
   ·exact Upw.refl _ _
  ·exact .inr ⟨h1, H⟩
 intro f
 induction f with
 | zero =>
  intro done a w hw inv _ hr hy H
  refine ⟨(fun e => by rw [e] at hr; cases hr), fun j hj => ⟨hlt done j hj, ?_⟩⟩
  by_cases e : j = i
  ·subst e; exact self 0 done a w hw hy H
  ·have := hE _ _ _ H j (ready_mono hj e)
   have := hlt done j hj
   omega
 | succ f ih =>
  intro done a w hw inv hfree hr hy H
  refine ⟨(fun e => by rw [e] at hr; cases hr), fun j hj => ⟨hlt done j hj, ?_⟩⟩
  by_cases e : j = i
  ·subst e; exact self (f + 1) done a w hw hy H
  ·obtain ⟨hju, oj, hoj, hall⟩ := mem_ready.1 hj
   have hno : ∀ e ∈ oj.after, Region.binds md e = true → e.on ≠ i := fun x hx hb hxi => by
    have q := hall x hx hb
    rw [hxi, getD_both (mem_ready.1 hr).1] at q
    cases q
   obtain ⟨h1, h2, h3⟩ := Oper.apart_spec (hfree j oj hoj e hju hno)
   have hsi : ∀ cs b, oi.op ≠ .select cs b := fun cs b => hsel i oi cs b hi
   have hsj : ∀ cs b, oj.op ≠ .select cs b := fun cs b => hsel j oj cs b hoj
   have keep : ∀ u, Yx P ops C oi v (a.put oj.dst u) := fun u => by
    unfold Yx at *
    rw [execOp_put oi hsi a oj.dst u h3, wanted_put oi a oj.dst u h3]
    exact hy
   obtain ⟨_, o', ho', step⟩ := H.2 j (ready_mono hj e)
   obtain rfl : oj = o' := Zi (hoj.symm.trans ho')
   rw [wanted_put oj a oi.dst v h1, execOp_put oj hsj a oi.dst v h1] at step
   have next : ∀ (u : Value) (w2 : World), C w2 → XH P md ops n w0 R hard E f ((done.setIfInBounds i true).setIfInBounds j true) ((a.put oi.dst v).put oj.dst u) w2 → XH P md ops n w0 R hard E (f + 1) (done.setIfInBounds j true) (a.put oj.dst u) w2 := fun u w2 hw2 q => by
    refine ih _ _ _ hw2 (inv.set hj (hlt done j hj)) (fun k ok hk hki hku hnk => hfree k ok hk hki ?_ hnk) (ready_mono hr (Ne.symm e)) (keep u) ?_
    ·by_cases hjk : j = k
     ·subst hjk; exact hju
     ·rwa [getD_set_ne true hjk] at hku
    ·rw [Array.setIfInBounds_comm _ _ e, ← Act.put_comm a v u h2]
     exact q
   refine ⟨oj, hoj, ?_⟩
   rcases step with ⟨hw', hs⟩ | ⟨hw', hs⟩
   ·exact .inl ⟨hw', hs.mono fun u w2 ⟨q1, q2⟩ => ⟨q1, next u w2 (hC j oj hoj e hno w w2 hw q1) q2⟩⟩
   ·exact .inr ⟨hw', next undef w hw hs⟩
end
section
variable {P : Program} {n : Nat} {Q : Exit → Act → World → Prop} {w0 : World} {L : Z123} {M R : List Ent}
def XW (P : Program) (n : Nat) (ops : Array Oper) (Q : Exit → Act → World → Prop) (w0 : World) (R : List Ent) (hard : List Nat) (f : Nat) (done : Array Bool) (L : Z123) (M : List Ent) : Prop :=
 (∀ w, Mem w0 w M → Mem w0 w R) → Region.noSelect ops = true → HeadInv .any ops ops.size done → ∀ a w, Fr n L a → Mem w0 w M → XH P .any ops ops.size w0 R hard (UE P ops Q ops.size []) f done a w
theorem CW.drawsX {id : Nat} {l : List Oper} (R : List Ent) (hard : List Nat) (hMR : ∀ w, Mem w0 w M → Mem w0 w R) (hm : P.follows .mixedOrders = true) (hB : Region.noSelect l.toArray = true) (h : XW P n l.toArray Q w0 R hard l.length (Array.replicate l.length false) L M) : CW P n Q w0 (.region id l.toArray true) L M :=
 CW.intro fun a w f m => by
  have inv : HeadInv .any l.toArray l.toArray.size (Array.replicate l.length false) :=
   ⟨by simp, (fun j oj _ q => by rw [getD_replicate_false] at q; cases q), fun t h1 h2 => absurd h1 (by simp at h2; simp; omega)⟩
  have H := h hMR hB inv a _ f (m.like (w' := { w with drawn := w.drawn + 1 }) rfl rfl rfl rfl)
  refine wp_region_any hm ?_
  have R := XH.any (Q := Q) (g := 0) (fun done a' w' q => by
   have s := wpAny_of_seq (md := .any) (Q' := Q) [] l.toArray.size done a' w' (fun j => by simp) q.1 q.2
   simpa using s) _ _ _ _ H
  simpa using R
variable {ops : Array Oper} {hard : List Nat} {f : Nat} {done : Array Bool} {op : Op} {ty : TypeId} {pos : String} {aft : Array Edge} {g : Option (Nat × Bool)} {d : Nat} {v : Value}
theorem XW.nil (hs : Region.seqB .any ops 0 ops.size done = true) (h : QW n Q w0 .normal L M) : XW P n ops Q w0 R hard 0 done L M := fun _ _ _ a w fr mm => ⟨hs, (Z6 (P := P) (ops := ops) h).elim a w fr mm⟩
def XR (ops : Array Oper) (done : Array Bool) (i : Nat) : Bool := (Region.ready .any ops done).contains i && Region.free .any ops done i
def XS (ops : Array Oper) (hard : List Nat) (i : Nat) : Bool := hard.all fun j => match ops[j]? with
 | some o => o.after.any fun e => Region.binds .any e && Nat.beq e.on i
 | none => true
theorem XW.take (i : Nat) {o : Oper} {C : World → Prop} (hC : ∀ j oj, ops[j]? = some oj → j ≠ i → (∀ e ∈ oj.after, Region.binds .any e = true → e.on ≠ i) → ∀ w w2, C w → Rl w0 R (hard.contains j) w w2 → C w2) (hMC : (∀ w, Mem w0 w M → Mem w0 w R) → ∀ w, Mem w0 w M → C w) (hr : XR ops done i = true) (ho : ops[i]? = some o) (v : Value) (hy : ∀ a, Fr n L a → Yx P ops C o v a)
    (k : (∀ w, Mem w0 w M → Mem w0 w R) → ∀ a w, Fr n L a → Mem w0 w M → Region.noSelect ops = true → HeadInv .any ops ops.size (done.setIfInBounds i true) → XH P .any ops ops.size w0 R hard (UE P ops Q ops.size []) f (done.setIfInBounds i true) (a.put o.dst v) w) : XW P n ops Q w0 R hard (f + 1) done L M := fun hR hB inv a w fr mm => by
 simp only [XR, Bool.and_eq_true] at hr
 obtain ⟨h1, h2⟩ := hr
 have hr' : i ∈ Region.ready .any ops done := by simpa using h1
 have him : i < ops.size := (Array.getElem?_eq_some_iff.1 ho).1
 exact XH.take ho (Region.noSelect_spec hB) hC rfl (fun done' a' w' q => seqB_ready q.1) f done a w (hMC hR w mm) inv (Region.free_spec ho h2) hr' (hy a fr) (k hR a w fr mm hB (inv.set hr' him))
theorem XW.rv (i : Nat) (ho : ops[i]? = some ⟨some d, op, ty, pos, aft, g⟩) (hr : XR ops done i = true) (hw : Wt ops L g = true) (hS : XS ops hard i = true) (hop : RV P w0 L M op v) (hd : Nat.blt d n = true) (k : XW P n ops Q w0 R hard f (done.setIfInBounds i true) ((d, v) :: L) M) : XW P n ops Q w0 R hard (f + 1) done L M :=
 XW.take i (C := fun w => Mem w0 w M) (fun j oj hj hne hno w w2 m r => by
  unfold Rl at r
  split at r
  ·rename_i hh
   have h1 := List.all_eq_true.1 hS j (by simpa using hh)
   rw [hj] at h1
   obtain ⟨e, he, h2⟩ := Array.any_eq_true'.1 h1
   simp only [Bool.and_eq_true, Nat.beq_eq] at h2
   exact absurd h2.2 (hno e he h2.1)
  ·exact r _ m) (fun _ _ h => h) hr ho v (fun a fr => .inl ⟨wt_spec fr hw, fun w mm => hop a.eval w (fun x u hx => fr.eval hx) mm _ rfl⟩) (fun hR a w fr mm hB inv => k hR hB inv _ _ (fr.put hd v) mm)
theorem Z10 (i : Nat) (ho : ops[i]? = some ⟨some d, op, ty, pos, aft, g⟩) (hr : XR ops done i = true) (hw : Wt ops L g = true) (hop : RV P w0 L R op v) (hd : Nat.blt d n = true) (k : XW P n ops Q w0 R hard f (done.setIfInBounds i true) ((d, v) :: L) M) : XW P n ops Q w0 R hard (f + 1) done L M :=
 XW.take i (C := fun w => Mem w0 w R) (fun j oj hj hne hno w w2 m r => r.base m) (fun hR w h => hR w h) hr ho v (fun a fr => .inl ⟨wt_spec fr hw, fun w mm => hop a.eval w (fun x u hx => fr.eval hx) mm _ rfl⟩) (fun hR a w fr mm hB inv => k hR hB inv _ _ (fr.put hd v) mm)
theorem XW.skip (i : Nat) (ho : ops[i]? = some ⟨some d, op, ty, pos, aft, g⟩) (hr : XR ops done i = true) (hw : Sk ops L g = true) (hd : Nat.blt d n = true) (k : XW P n ops Q w0 R hard f (done.setIfInBounds i true) ((d, undef) :: L) M) : XW P n ops Q w0 R hard (f + 1) done L M :=
 XW.take i (C := fun w => Mem w0 w R) (fun j oj hj hne hno w w2 m r => r.base m) (fun hR w h => hR w h) hr ho undef (fun a fr => .inr ⟨sk_spec fr hw, rfl⟩) (fun hR a w fr mm hB inv => k hR hB inv _ _ (fr.put hd undef) mm)
theorem XW.sv (i : Nat) {M' : List Ent} (ho : ops[i]? = some ⟨none, op, ty, pos, aft, none⟩) (hr : (Region.ready .any ops done == [i] && hard.contains i) = true) (hop : SV P w0 L M op M') (hMR : ∀ w, Mem w0 w M' → Mem w0 w R) (k : XW P n ops Q w0 R hard f (done.setIfInBounds i true) L M') : XW P n ops Q w0 R hard (f + 1) done L M := fun hR hB inv a w fr mm => by
 simp only [Bool.and_eq_true, beq_iff_eq] at hr
 obtain ⟨hr, hi⟩ := hr
 have him : i < ops.size := (Array.getElem?_eq_some_iff.1 ho).1
 refine ⟨by rw [hr]; simp, fun j hj => ?_⟩
 rw [hr] at hj
 obtain rfl : j = i := by simpa using hj
 refine ⟨him, _, ho, .inl ⟨by simp [Region.wanted], ?_⟩⟩
 obtain ⟨w', hrun, m'⟩ := hop a.eval w (fun x u hx => fr.eval hx) mm ⟨none, op, ty, pos, aft, none⟩ rfl
 rw [hrun]
 refine ⟨?_, k hMR hB (inv.set (by rw [hr]; simp) him) _ _ fr m'⟩
 unfold Rl
 rw [if_pos hi]
 exact fun _ => hMR _ m'
theorem Z19 {M' : List Ent} (hs : ∀ w, Mem w0 w M → Mem w0 w M') (hMR : ∀ w, Mem w0 w M' → Mem w0 w R) (k : XW P n ops Q w0 R hard f done L M') : XW P n ops Q w0 R hard f done L M := fun _ hB inv a w fr mm => k hMR hB inv a w fr (hs w mm)
theorem XW.slot (v' : Value) (hv : v = v') (k : XW P n ops Q w0 R hard f done ((d, v') :: L) M) : XW P n ops Q w0 R hard f done ((d, v) :: L) M := by subst hv; exact k
theorem XW.cells {ob : Option Nat} {l : List Value} {t : TypeId} (l' : List Value) (e : l = l') (k : XW P n ops Q w0 R hard f done L ((ob, blk l' t) :: M)) : XW P n ops Q w0 R hard f done L ((ob, blk l t) :: M) := by subst e; exact k
theorem Z11 (i : Nat) {fn : FuncId} {xs : List Operand} {ats : Array TypeId} {args : List Value} {Rr : Value → List Ent → Prop} (ho : ops[i]? = some ⟨some d, .call ⟨.value (.func fn), xs.toArray, ats⟩, ty, pos, aft, g⟩) (hr : (Region.ready .any ops done == [i]) = true) (hw : Wt ops L g = true)
    (hc : ∀ (args : Array Value) (w : World), (callFunc fn args).run P w = .ok (.enter fn args) w) (hxs : evs L xs = some args) (hdo : ∀ N, (∀ w, Mem w0 w N → Mem w0 w M) → DoesG P fn args w0 [] N Rr)
    (hd : Nat.blt d n = true) (k : ∀ v G, Rr v G → XW P n ops Q w0 R hard f (done.setIfInBounds i true) ((d, v) :: L) (G ++ M)) : XW P n ops Q w0 R hard (f + 1) done L M := fun hR hB inv a w fr mm => by
 simp only [beq_iff_eq] at hr
 have him : i < ops.size := (Array.getElem?_eq_some_iff.1 ho).1
 refine ⟨by rw [hr]; simp, fun j hj => ?_⟩
 rw [hr] at hj
 obtain rfl : j = i := by simpa using hj
 refine ⟨him, _, ho, .inl ⟨wt_spec fr hw, ?_⟩⟩
 have hev := evs_map (fun x u hx => fr.eval hx) xs args hxs
 have hrun : (execOp a.eval ⟨some d, .call ⟨.value (.func fn), xs.toArray, ats⟩, ty, pos, aft, g⟩).run P w = .ok (.enter fn args.toArray) w := by
  simp [execOp, resolve, Deferred.ofValue, Act.eval, invoke, hev, hc]
 rw [hrun]
 refine (hdo (allEnts w0 w) (fun w2 m2 => Upw.of_all m2 _ mm) w mm.all).mono ?_
 rintro e w2 ⟨q, ⟨G, h1, h2⟩, rfl, m'⟩
 have m' : Mem w0 w2 (G ++ allEnts w0 w) := by have m2 := m'; rwa [show (fun q : Value × List Ent => q.2) q = G ++ allEnts w0 w from h2] at m2
 refine ⟨_, rfl, ?_, (k q.1 G h1) (fun w m => hR w m.appR) hB (inv.set (by rw [hr]; simp) him) _ _ (fr.put hd _) (m'.graft mm)⟩
 have hu := Upw.of_all m'.appR
 unfold Rl
 split
 ·exact hu R
 ·exact hu
theorem XW.new (i : Nat) {l : List Value} {te : TypeId} {fv : Nat → Value} (ho : ops[i]? = some ⟨some d, op, ty, pos, aft, g⟩) (hr : (Region.ready .any ops done == [i]) = true) (hw : Wt ops L g = true) (hop : NV P w0 L M op fv l te) (hd : Nat.blt d n = true)
    (k : ∀ b : Nat, XW P n ops Q w0 R hard f (done.setIfInBounds i true) ((d, fv b) :: L) ((some b, blk l te) :: M)) : XW P n ops Q w0 R hard (f + 1) done L M := fun hR hB inv a w fr mm => by
 simp only [beq_iff_eq] at hr
 have him : i < ops.size := (Array.getElem?_eq_some_iff.1 ho).1
 refine ⟨by rw [hr]; simp, fun j hj => ?_⟩
 rw [hr] at hj
 obtain rfl : j = i := by simpa using hj
 refine ⟨him, _, ho, .inl ⟨wt_spec fr hw, ?_⟩⟩
 rw [hop a.eval w (fun x u hx => fr.eval hx) mm _ rfl]
 refine ⟨?_, k _ (fun w m => hR w m.tail) hB (inv.set (by rw [hr]; simp) him) _ _ (fr.put hd _) (mm.alloc _)⟩
 unfold Rl
 split
 ·exact Upw.alloc _ _ _ R
 ·exact Upw.alloc _ _ _
attribute [irreducible] XW
end
end Go.Fw
namespace Go.Fw
theorem Z118 {w0 w : World} {B B' M M0 : List Ent} (hs : B.Sublist B') (m : Mem w0 w M) (j : Nat) (h : M.drop j = B' ++ M0) : Mem w0 w (M.take j ++ (B ++ M0)) := by
 have e : M = M.take j ++ (B' ++ M0) := by rw [← h, List.take_append_drop]
 rw [e] at m
 exact m.sublist (List.Sublist.append (List.Sublist.refl _) (List.Sublist.append hs (List.Sublist.refl _)))
end Go.Fw

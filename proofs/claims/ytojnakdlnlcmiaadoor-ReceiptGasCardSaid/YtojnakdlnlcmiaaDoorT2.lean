/- Part of a proof: rules that its law uses. -/
import Derived.Scope
import Derived.ChangeArms
import Derived.Test.YtojnakdlnlcmiaaDoorT1
set_option linter.unusedVariables false
set_option linter.unusedSimpArgs false
set_option linter.unusedSectionVars false
set_option maxRecDepth 100000
set_option maxHeartbeats 1000000
namespace Go.Fw
open Go Go.RowKit
section
variable {P : Program} [Types P] {w0 : World} {L : Z108} {M : List Ent} {t e : TypeId} {x y z : Operand} {idx idx' : Int} {k k' : IntKind}
end
end Go.Fw
namespace Go.Fw
open Go Go.RowKit
section
variable {P : Program} [Types P] {n : Nat} {Q : Exit → Act → World → Prop} {w0 : World} {L : Z108} {M : List Ent} {ops : Array Oper} {rest : List Oper} {t e ty1 : TypeId} {x : Operand} {pos : String} {aft : Array Edge}
theorem OW.clear {b off len cap : Nat} {l : List Value} {te : TypeId} {i : TI} {z : Value} (hx : ev L x = some (sl (some b) off len cap)) (ht : tyU P t = some (.slice e)) (hi : Fw.ty P e = some i) (hz : i.z.cells = #[z]) (h1 : z.oneCell' = true) (hp : 0 < len) (hl : off + len ≤ l.length)
  (k : OW P n ops Q w0 rest L ((some b, blk (spl l off (List.replicate len z)) te) :: M)) :
  OW P n ops Q w0 (⟨none, .call ⟨.builtin .clear, #[x], #[t]⟩, ty1, pos, aft, none⟩ :: rest) L ((some b, blk l te) :: M) := by
 refine OW.av_none (τ := Unit) (I := fun _ => True) (v := fun _ => .tuple #[]) (M' := fun _ => (some b, blk (spl l off (List.replicate len z)) te) :: M) (fun ρ w hρ mm o ho => ?_) (fun _ _ => k)
 obtain ⟨_, ti, h1', h2, h3, h4⟩ := ty_ok hi
 have hv : ∀ w, (zeroValue e).run P w = .ok i.z w := fun w => by simp [zeroValue, typeInfo, h1', h4]
 have hzc : (Builtin.zeroCells i.z.cells len).toList = List.replicate len z := by
  rw [hz]
  simp [Builtin.zeroCells]
  apply List.ext_getElem
  ·simp
  ·intro i h1 h2
   simp [Nat.mod_one]
 have hm := mm.ents _ (List.mem_cons_self ..) b rfl
 have hst := run_storeCells_at (P := P) b off te (List.replicate len z) 0 l.toArray w hm.2 (by simpa using hl) (fun v hv => by rw [List.eq_of_mem_replicate hv]; exact h1)
 simp only [Nat.add_zero] at hst
 obtain ⟨m, rfl⟩ : ∃ m, len = m + 1 := ⟨len - 1, by omega⟩
 refine ⟨(), _, trivial, ?_, mm.turned (w' := w.setRow b (l.toArray.toList.take off ++ List.replicate (m + 1) z ++ l.toArray.toList.drop (off + (List.replicate (m + 1) z).length)).toArray) rfl rfl rfl (by simp [World.setRow]) ?_ ?_⟩
 ·simp [execOp, ho, resolve, hρ x _ hx, invoke, builtin, Builtin.clear_, tyU_run ht, sl, hv, hzc, hst]
 ·intro b' hb'
  cases hb'
  rw [setRow_heap w b l.toArray _ te (0, 0) hm.2]
  simp [blk, spl]
 ·intro kk hk
  exact setRow_other _ _ _ _ (fun e => hk (by rw [e]))
end
end Go.Fw
namespace Go.Fw
end Go.Fw
namespace Go.Fw
open Go
structure Sponge where
 kind : Int
 lanes : Vector (BitVec 64) 25
 part : Vector (BitVec 8) 136
 held : Int
 long : Int
def Sponge.C (s : Sponge) : List Value := [.int .i64 s.kind] ++ (u64s s.lanes.toList ++ (u8s s.part.toList ++ ([.int .i64 s.held] ++ ([.int .i64 s.long]))))
theorem Sponge.C_length (s : Sponge) : s.C.length = 164 := by simp [Sponge.C, u64s_length, Z100]
theorem Sponge.C_one (s : Sponge) : ∀ u ∈ s.C, u.oneCell' = true := by
 intro u hu
 simp only [Sponge.C, List.mem_append, List.mem_singleton] at hu
 rcases hu with rfl | hu | hu | rfl | rfl
 ·rfl
 ·exact u64s_one _ u hu
 ·exact u8s_one _ u hu
 ·rfl
 ·rfl
theorem Sponge.C_kind (s : Sponge) : s.C[0]? = some (.int .i64 s.kind) := by
 rw [show 0 = 0 by rfl]; exact (here_get rfl)
end Go.Fw
namespace Go.Fw
mutual
def It.sz : It → Nat
 | .mk _ _ its => 1 + Its.sz its
def Its.sz : List It → Nat
 | [] => 0
 | x :: xs => It.sz x + Its.sz xs
end
structure Hd where
 list : Bool
 fr : Nat
 to : Nat
def HdRd (Φ : Ctx) (cs : List Value) (h : Hd) : Prop := cs = [.bool h.list, .int .i64 ((h.fr : Nat) : Int), .int .i64 ((h.to : Nat) : Int)] ∧ h.fr ≤ 9223372036854775807 ∧ h.to ≤ 9223372036854775807
theorem HdRd.opn {Φ : Ctx} {cs : List Value} {h : Hd} (r : HdRd Φ cs h) : cs = [.bool h.list, .int .i64 ((h.fr : Nat) : Int), .int .i64 ((h.to : Nat) : Int)] ∧ h.fr ≤ 9223372036854775807 ∧ h.to ≤ 9223372036854775807 := r
theorem HdRd.mk {Φ : Ctx} {l : Bool} {f t : Nat} (h1 : f ≤ 9223372036854775807) (h2 : t ≤ 9223372036854775807) : HdRd Φ [.bool l, .int .i64 ((f : Nat) : Int), .int .i64 ((t : Nat) : Int)] ⟨l, f, t⟩ := ⟨rfl, h1, h2⟩
theorem HdRd.mono {Φ Ψ : Ctx} (hh : ∀ w, Ψ w → Φ w) (cs : List Value) (h : Hd) : HdRd Φ cs h → HdRd Ψ cs h := fun r => r
end Go.Fw
namespace Go.Fw
open Go Go.RowKit
def room9 (x : List (BitVec 8)) : List (BitVec 8) := x ++ List.replicate 9 165#8
structure Room (Φ : Ctx) (A : Option Addr) (x : List (BitVec 8)) : Prop where
 full : View Φ A (x.length + 9) (x.length + 9) 1 (u8s (room9 x))
theorem Room.mono {Φ Ψ : Ctx} {A : Option Addr} {x : List (BitVec 8)} (h : Room Φ A x) (hh : ∀ w, Ψ w → Φ w) : Room Ψ A x := ⟨h.full.mono hh⟩
theorem Room.view {Φ : Ctx} {A : Option Addr} {x : List (BitVec 8)} (h : Room Φ A x) : View Φ A x.length (x.length + 9) 1 (u8s x) := by
 have h1 := h.full.hi (k := x.length) (by omega)
 rw [Nat.mul_one, show (u8s (room9 x)).take x.length = u8s x by simp [u8s, room9]] at h1
 exact h1
end Go.Fw
namespace Go.Fw
open Go Go.RowKit
def RmRd (Φ : Ctx) (cs : List Value) (x : List (BitVec 8)) : Prop := ∃ A, cs = [.slice A x.length (x.length + 9)] ∧ Room Φ A x
theorem RmRd.mono {Φ Ψ : Ctx} (hh : ∀ w, Ψ w → Φ w) (cs : List Value) (x : List (BitVec 8)) : RmRd Φ cs x → RmRd Ψ cs x := fun ⟨A, h1, h2⟩ => ⟨A, h1, h2.mono hh⟩
theorem RmRd.len {Φ : Ctx} (cs : List Value) (x : List (BitVec 8)) (h : RmRd Φ cs x) : cs.length = 1 := by obtain ⟨A, rfl, _⟩ := h; rfl
theorem RmRd.one {Φ : Ctx} (cs : List Value) (x : List (BitVec 8)) (h : RmRd Φ cs x) : ∀ u ∈ cs, u.oneCell' = true := by
 obtain ⟨A, rfl, _⟩ := h
 intro u hu; simp at hu; subst hu; rfl
theorem RmRd.mk {Φ : Ctx} {A : Option Addr} {x : List (BitVec 8)} (h : Room Φ A x) : RmRd Φ [.slice A x.length (x.length + 9)] x := ⟨A, rfl, h⟩
theorem RmRd.bs {Φ : Ctx} (cs : List Value) (x : List (BitVec 8)) (h : RmRd Φ cs x) : BsRd Φ cs x := by
 obtain ⟨A, h1, h2⟩ := h
 exact ⟨A, _, h1, h2.view⟩
end Go.Fw
namespace Go.Fw
end Go.Fw
namespace Go.Fw
open Go Go.RowKit
section
variable {P : Program} [Types P] {n : Nat} {Q : Exit → Act → World → Prop} {w0 : World} {L : Z108} {M R : List Ent} {x y : Operand} {t e : TypeId}
theorem AV.append {i : TI} {ob : Option Nat} {len cap m c s : Nat} {l r vs : List Value} {B : Option Addr} {t2 e2 : TypeId} (hx : ev L x = some (sl ob 0 len cap)) (hy : ev L y = some (.slice B m c)) (ht : tyU P t = some (.slice e)) (hi : ty P e = some i) (hs : i.sz = s) (ht2 : tyU P t2 = some (.slice e2))
  (hl : l.length = len * s) (hr : (l ++ r).length = cap * s) (hn : ob = none → cap = 0) (hR : Mem.Says w0 ((ob, blk (l ++ r) e) :: M) (fun w => Rd w B vs)) (hvl : vs.length = m * s) (hv1 : ∀ u ∈ vs, u.oneCell' = true) (hB : B = none → m = 0) (hspos : 0 < s)
  (h63 : len + m ≤ 9223372036854775807) (hb : (len + m) * i.bytes ≤ 140737488355328) (hz : i.z.cells.size = s) :
  AV P w0 L ((ob, blk (l ++ r) e) :: M) (.call ⟨.builtin .append, #[x, y], #[t, t2]⟩) (τ := Option Nat × List Value × Nat) (fun q => (l ++ vs ++ q.2.1).length = q.2.2 * s ∧ (q.1 = none → q.2.2 = 0)) (fun q => sl q.1 0 (len + m) q.2.2) (fun q => (q.1, blk (l ++ vs ++ q.2.1) e) :: M) := by
 intro ρ w hρ mm o ho
 obtain ⟨hu, ti, g1, g2, g3, g4⟩ := ty_ok hi
 have hrd := hR w mm
 have hsrc : Src P ti.size t2 (.slice B m c) m vs w := by rw [g2, hs]; exact rd_src ht2 hrd hvl hv1 hB
 have hrun : ∀ (v' : Value) (w' : World), (Builtin.append_ #[t, t2] o.type #[sl ob 0 len cap, .slice B m c]).run P w = .ok v' w' → (execOp ρ o).run P w = .ok (.value v') w' := fun v' w' hh => by
  simp [execOp, ho, resolve, hρ x _ hx, hρ y _ hy, invoke, builtin, hh]
 have hsz : ti.size = s := by rw [g2, hs]
 by_cases hroom : len + m ≤ cap
 ·-- it fits
  cases ob with
  | none =>
   have hc0 := hn rfl
   subst hc0
   have hm0 : m = 0 := by omega
   have hl0 : len = 0 := by omega
   subst hm0 hl0
   have hv0 : vs = [] := List.length_eq_zero_iff.1 (by simpa using hvl)
   subst hv0
   have e1 : l = [] := List.length_eq_zero_iff.1 (by simpa using hl)
   subst e1
   refine ⟨(none, r, 0), w, ⟨by simpa using hr, fun _ => rfl⟩, hrun _ _ ?_, ?_⟩
   ·exact run_append_nothing w t t2 o.type e ti (tyU_ok ht) g1 none 0 0 (Nat.le_refl _) _ hsrc
   ·exact mm.tail.nil_ent _
  | some b =>
   have hm := mm.ents _ (List.mem_cons_self ..) b rfl
   have hlen : l.length + vs.length ≤ (l ++ r).length := by rw [hl, hvl, hr, ← Nat.add_mul]; exact Nat.mul_le_mul_right _ hroom
   have hra := run_append_room_src (P := P) w t t2 o.type e ti (tyU_ok ht) g1 b 0 len cap (.slice B m c) m vs hsrc hroom (fun j hj => by
     rw [mm.cell (List.mem_cons_self ..), hsz]
     have : 0 + len * s + j < (l ++ r).length := by omega
     rw [List.getElem?_eq_getElem this]; rfl) (fun j hj => mm.notFrozen (List.mem_cons_self ..) _)
   rw [hsz] at hra
   have hset : w.setCells b (0 + len * s) vs = w.setRow b ((l ++ r).toArray.toList.take (0 + len * s) ++ vs ++ (l ++ r).toArray.toList.drop (0 + len * s + vs.length)).toArray := by
    have q1 := run_storeCells_at (P := P) b (0 + len * s) e vs 0 (l ++ r).toArray w hm.2 (by simp; simp at hlen; omega) hv1
    have q2 := run_storeCells_cells (P := P) b (0 + len * s) vs 0 w (fun j hj => by
     rw [mm.cell (List.mem_cons_self ..)]
     have : 0 + len * s + 0 + j < (l ++ r).length := by omega
     rw [List.getElem?_eq_getElem this]; rfl) (fun j hj => mm.notFrozen (List.mem_cons_self ..) _) hv1
    rw [q1] at q2
    simp only [Nat.add_zero] at q2
    injection q2 with _ q3
    exact q3.symm
   rw [hset] at hra
   refine ⟨(some b, r.drop vs.length, cap), _, ⟨?_, fun h => by cases h⟩, hrun _ _ (by simpa [sl] using hra), mm.turned (w' := w.setRow b _) rfl rfl rfl (by simp [World.setRow]) ?_ ?_⟩
   ·rw [← hr]; simp at hlen ⊢; omega
   ·intro b' hb'
    cases hb'
    rw [setRow_heap w b (l ++ r).toArray _ e (0, 0) hm.2]
    simp only [blk]
    simp [← hl, List.drop_append]
   ·intro kk hk
    exact setRow_other _ _ _ _ (fun e => hk (by rw [e]))
 ·-- it grows
  have hold : (Builtin.firstCells ti.size len (sl ob 0 len cap)).run P w.drew = .ok l.toArray w.drew := by
   cases ob with
   | none =>
    have hc0 := hn rfl
    have e0 : (l ++ r).length = 0 := by rw [hr, hc0]; simp
    have e1 : l = [] := by cases l with | nil => rfl | cons a b => simp at e0
    subst e1
    simp [sl, Builtin.firstCells]
   | some b =>
    have := run_firstCells_some (P := P) w.drew ti.size len ⟨b, 0, none⟩ len cap l (by rw [hsz]; exact hl) (fun j u hj => by
     rw [Z101, (mm.drew).cell (List.mem_cons_self ..)]
     have hj' : j < l.length := (List.getElem?_eq_some_iff.1 hj).1
     rw [Nat.zero_add, List.getElem?_append_left hj']; exact hj)
    exact this
  have hg := run_append_grow_src (P := P) w t t2 o.type e ti i.z (tyU_ok ht) g1 g4 (ob.map fun k => ⟨k, 0, none⟩) len cap l hold (.slice B m c) m vs hsrc (by omega) (by omega)
   (growslice_fits (by omega) (by rw [g3]; exact hb))
  refine ⟨(some w.heap.size, (Builtin.zeroCells i.z.cells (grownCap w (len + m) cap e - (len + m))).toList, grownCap w (len + m) cap e), _, ⟨?_, fun h => by cases h⟩, hrun _ _ (by simpa [sl] using hg), ?_⟩
  ·have hge := grownCap_ge w (len + m) cap e
   simp only [List.length_append, Array.length_toList, size_zeroCells, hz, hl, hvl]
   rw [← Nat.add_mul, ← Nat.add_mul]
   congr 1; omega
  ·have := mm.drew.tail.alloc (blk (l ++ vs ++ (Builtin.zeroCells i.z.cells (grownCap w (len + m) cap e - (len + m))).toList) e)
   have e3 : (.cells ((l ++ vs).toArray ++ Builtin.zeroCells i.z.cells (grownCap w (len + m) cap e - (len + m))) e : Obj) = blk (l ++ vs ++ (Builtin.zeroCells i.z.cells (grownCap w (len + m) cap e - (len + m))).toList) e := by
    unfold blk
    congr 1
    apply Array.ext'
    simp
   rw [e3]
   exact this
theorem AV.appendOwn {i : TI} {ob : Option Nat} {len cap m c s : Nat} {l r vs : List Value} {B : Option Addr} {t2 e2 : TypeId} (hx : ev L x = some (sl ob 0 len cap)) (hy : ev L y = some (.slice B m c)) (ht : tyU P t = some (.slice e)) (hi : ty P e = some i) (hs : i.sz = s) (ht2 : tyU P t2 = some (.slice e2))
  (hl : OwnS ob len cap s l r) (hR : Mem.Says w0 ((ob, blk (l ++ r) e) :: M) (fun w => Rd w B vs)) (hvl : vs.length = m * s) (hv1 : ∀ u ∈ vs, u.oneCell' = true) (hB : B = none → m = 0) (hspos : 0 < s)
  (hby : 0 < i.bytes) (hb : (len + m) * i.bytes ≤ 140737488355328) (hz : i.z.cells.size = s) (len' : Nat) (l' : List Value) (hlen : len + m = len') (hcs : l ++ vs = l') :
  AV P w0 L ((ob, blk (l ++ r) e) :: M) (.call ⟨.builtin .append, #[x, y], #[t, t2]⟩) (τ := Option Nat × List Value × Nat) (fun q => OwnS q.1 len' q.2.2 s l' q.2.1) (fun q => sl q.1 0 len' q.2.2) (fun q => (q.1, blk (l' ++ q.2.1) e) :: M) := by
 have hm : len + m ≤ (len + m) * i.bytes := Nat.le_mul_of_pos_right _ hby
 subst hlen hcs
 intro ρ w hρ mm o ho
 obtain ⟨q, w', h1, h2, h3⟩ := AV.append (P := P) hx hy ht hi hs ht2 hl.n hl.hr hl.hn hR hvl hv1 hB hspos (by omega) hb hz ρ w hρ mm o ho
 exact ⟨q, w', ⟨by rw [List.length_append, hl.n, hvl, Nat.add_mul], h1.1, h1.2, by omega⟩, h2, h3⟩
variable {ops : Array Oper} {hard : List Nat} {f : Nat} {done : Array Bool} {op : Op} {ty : TypeId} {pos : String} {aft : Array Edge} {d : Nat}
theorem XW.av (i : Nat) {τ : Type} {I : τ → Prop} {v : τ → Value} {M' : τ → List Ent} (ho : ops[i]? = some ⟨some d, op, ty, pos, aft, none⟩) (hr : (Region.ready .any ops done == [i] && hard.contains i) = true) (hop : AV P w0 L M op I v M') (hMR : ∀ x, I x → ∀ w, Mem w0 w (M' x) → Mem w0 w R) (hd : Nat.blt d n = true)
  (k : ∀ x, I x → XW P n ops Q w0 R hard f (done.setIfInBounds i true) ((d, v x) :: L) (M' x)) : XW P n ops Q w0 R hard (f + 1) done L M := by
 unfold XW at *
 intro hR hB inv a w fr mm
 simp only [Bool.and_eq_true, beq_iff_eq] at hr
 obtain ⟨hr, hi⟩ := hr
 have him : i < ops.size := (Array.getElem?_eq_some_iff.1 ho).1
 refine ⟨by rw [hr]; simp, fun j hj => ?_⟩
 rw [hr] at hj
 obtain rfl : j = i := by simpa using hj
 refine ⟨him, _, ho, .inl ⟨by simp [Region.wanted], ?_⟩⟩
 obtain ⟨x, w', hI, hrun, m'⟩ := hop a.eval w (fun x u hx => fr.eval hx) mm ⟨some d, op, ty, pos, aft, none⟩ rfl
 rw [hrun]
 refine ⟨?_, k x hI (hMR x hI) hB (inv.set (by rw [hr]; simp) him) _ _ (fr.put hd _) m'⟩
 unfold Rl
 rw [if_pos hi]
 exact fun _ => hMR x hI _ m'
theorem XW.appendOwn (i : Nat) {ti : TI} {ob : Option Nat} {len cap m c s : Nat} {l r vs : List Value} {B : Option Addr} {t2 e2 : TypeId} (ho : ops[i]? = some ⟨some d, .call ⟨.builtin .append, #[x, y], #[t, t2]⟩, ty, pos, aft, none⟩) (hr : (Region.ready .any ops done == [i] && hard.contains i) = true)
  (hx : ev L x = some (sl ob 0 len cap)) (hy : ev L y = some (.slice B m c)) (ht : tyU P t = some (.slice e)) (hi : Fw.ty P e = some ti) (hs : ti.sz = s) (ht2 : tyU P t2 = some (.slice e2))
  (hl : OwnS ob len cap s l r) (hR : Mem.Says w0 ((ob, blk (l ++ r) e) :: M) (fun w => Rd w B vs)) (hvl : vs.length = m * s) (hv1 : ∀ u ∈ vs, u.oneCell' = true) (hB : B = none → m = 0) (hspos : 0 < s)
  (hby : 0 < ti.bytes) (hb : (len + m) * ti.bytes ≤ 140737488355328) (hz : ti.z.cells.size = s) (len' : Nat) (l' : List Value) (hlen : len + m = len') (hcs : l ++ vs = l') (hMR : ∀ w, Mem w0 w M → Mem w0 w R) (hd : Nat.blt d n = true)
  (k : ∀ (ob' : Option Nat) (r' : List Value) (cap' : Nat), OwnS ob' len' cap' s l' r' → XW P n ops Q w0 R hard f (done.setIfInBounds i true) ((d, sl ob' 0 len' cap') :: L) ((ob', blk (l' ++ r') e) :: M)) : XW P n ops Q w0 R hard (f + 1) done L ((ob, blk (l ++ r) e) :: M) :=
 XW.av i ho hr (AV.appendOwn hx hy ht hi hs ht2 hl hR hvl hv1 hB hspos hby hb hz len' l' hlen hcs) (fun q _ w m => hMR w m.tail) hd (fun q hq => k q.1 q.2.1 q.2.2 hq)
end
end Go.Fw
namespace Go.Fw
open Go
theorem MRoom.view {Φ : Ctx} {A : Option Addr} {c : Nat} {x y : List (BitVec 8)} (h : View Φ A (x ++ y).length c 1 (u8s (x ++ y))) : View Φ A x.length c 1 (u8s x) := by
 have h1 := h.hi (k := x.length) (by rw [List.length_append]; omega)
 rwa [Nat.mul_one, show (u8s (x ++ y)).take x.length = u8s x by simp [u8s]] at h1
theorem OwnS.mroom {w0 : World} {ob : Option Nat} {len cap : Nat} {x y : List (BitVec 8)} {r : List Value} {te : TypeId} (h : OwnS ob len cap 1 (u8s x) (u8s y ++ r)) {Ψ : Ctx} (hΨ : ∀ w, Ψ w → Mem w0 w [(ob, blk (u8s x ++ (u8s y ++ r)) te)]) (hm : x.length + y.length ≤ 140737488355328) : View Ψ (ob.map fun k => ⟨k, 0, none⟩) (x ++ y).length cap 1 (u8s (x ++ y)) := by
 have h1 := h.hr
 have o : OwnS ob (x ++ y).length cap 1 (u8s (x ++ y)) r := ⟨by rw [Z100]; omega, by rw [← u8s_app, List.append_assoc]; exact h1, h.hn, by rw [List.length_append]; exact hm⟩
 refine o.view (w0 := w0) (te := te) (by decide) (fun w q => ?_)
 rw [← u8s_app, List.append_assoc]
 exact hΨ w q
theorem OwnS.shrink8 {ob : Option Nat} {cap k : Nat} {t y : List (BitVec 8)} {r : List Value} (h : OwnS ob t.length cap 1 (u8s t) r) (hk : k ≤ t.length) (g : t.drop k = y) : OwnS ob (t.take k).length cap 1 (u8s (t.take k)) (u8s y ++ r) := by
 have h1 := h.hr
 have h2 := h.mx
 refine ⟨by rw [Z100]; omega, ?_, h.hn, by rw [List.length_take]; omega⟩
 rw [← g, ← List.append_assoc, u8s_app, List.take_append_drop]
 exact h1
theorem shrink8 {k : Nat} {t y : List (BitVec 8)} {r : List Value} (g : t.drop k = y) : u8s t ++ r = u8s (t.take k) ++ (u8s y ++ r) := by
 rw [← g, ← List.append_assoc, u8s_app, List.take_append_drop]
theorem shrink_mx {k n M : Nat} {t : List (BitVec 8)} {m : BitVec 8} (g : t.drop k = List.replicate n m) (hm : t.length ≤ M) (hk : k ≤ t.length) : (t.take k).length + n ≤ M := by
 have := congrArg List.length g
 rw [List.length_drop, List.length_replicate] at this
 rw [List.length_take]
 omega
end Go.Fw
namespace Go.Fw
open Go Go.RowKit
theorem Z117 {L : Z108} {d k : Nat} {u : Value} (h : d ≠ k) : lk ((d, u) :: L) k = lk L k := by
 simp only [lk]
 split
 ·rename_i e; exact absurd (by simpa using e) h
 ·rfl
theorem nbeq {a b : Nat} (h : Nat.beq a b = false) : a ≠ b := fun e => by subst e; simp at h
theorem lk_swap {L : Z108} {d e q : Nat} {u v w : Value} (h : d ≠ e) (hq : lk ((e, u) :: (d, v) :: L) q = some w) : lk ((d, v) :: (e, u) :: L) q = some w := by
 by_cases h1 : e = q
 ·subst h1
  rw [Z117 h]
  simpa [lk] using hq
 ·rw [Z117 h1] at hq
  by_cases h2 : d = q
  ·subst h2; simpa [lk] using hq
  ·rw [Z117 h2] at hq ⊢
   rw [Z117 h1]; exact hq
theorem lk_mono {L : Z108} {d : Nat} {u : Value} (h : lk L d = none) : ∀ k v, lk L k = some v → lk ((d, u) :: L) k = some v := fun k v hk => by
 rw [Z117 (fun e => by subst e; rw [h] at hk; cases hk)]; exact hk
theorem ev_mono {L L' : Z108} (h : ∀ k v, lk L k = some v → lk L' k = some v) {x : Operand} {v : Value} (hx : ev L x = some v) : ev L' x = some v := by
 cases x with
 | tmp t => exact h t v hx
 | const c => exact hx
 | global g => exact hx
 | func f => exact hx
theorem evs_mono {L L' : Z108} (h : ∀ k v, lk L k = some v → lk L' k = some v) : ∀ (l : List Operand) (vs : List Value), evs L l = some vs → evs L' l = some vs
 | [], vs, e => e
 | x :: r, vs, e => by
  simp only [evs] at e ⊢
  split at e
  ·rename_i u hu
   rw [ev_mono h hu]
   split at e
   ·rename_i us hus
    rw [evs_mono h r us hus]
    exact e
   ·cases e
  ·cases e
theorem Mem.under {w0 : World} {M M' : List Ent} (hs : ∀ w, Mem w0 w M → Mem w0 w M') {b : Nat} {l : List Value} {t : TypeId} {w : World} (m : Mem w0 w ((some b, blk l t) :: M)) : Mem w0 w ((some b, blk l t) :: M') := by
 have m1 := hs w m.tail
 obtain ⟨hb, hw⟩ := m.ents _ (List.mem_cons_self ..) b rfl
 have hlt : b < w.heap.size := (Array.getElem?_eq_some_iff.1 hw).1
 refine ⟨m.os, m.tape, m.output, m.size, m.old, fun e he b' hb' => ?_, List.pairwise_cons.2 ⟨fun e he b' h1 h2 => ?_, m1.apart⟩⟩
 ·rcases List.mem_cons.1 he with rfl | he
  ·exact m.ents _ (List.mem_cons_self ..) b' hb'
  ·exact m1.ents e he b' hb'
 ·obtain rfl : b = b' := by simpa using h1
  have hne : ∀ x ∈ M, ∀ b', x.1 = some b' → b' ≠ b := fun x hx b' h3 e => (List.pairwise_cons.1 m.apart).1 x hx b rfl (by rw [h3, e])
  have m2 : Mem w0 { w with heap := w.heap.set b (blk (undef :: l) t) hlt } M := by
   refine ⟨m.os, m.tape, m.output, by simpa using m.size, fun b' h => ?_, fun x hx b' h3 => ?_, m.tail.apart⟩
   ·show (w.heap.set b _ hlt)[b']? = _
    rw [Array.getElem?_set_ne hlt (by omega)]
    exact m.old b' h
   ·obtain ⟨h4, h5⟩ := m.tail.ents x hx b' h3
    refine ⟨h4, ?_⟩
    show (w.heap.set b _ hlt)[b']? = _
    rw [Array.getElem?_set_ne hlt (fun e => hne x hx b' h3 e.symm)]
    exact h5
  have q1 := (m1.ents e he b h2).2
  have q2 := ((hs _ m2).ents e he b h2).2
  have q3 : (w.heap.set b (blk (undef :: l) t) hlt)[b]? = some (blk (undef :: l) t) := Array.getElem?_set_self hlt
  have q4 : some (blk (undef :: l) t) = some (blk l t) := (q3.symm.trans q2).trans (q1.symm.trans hw)
  simp [blk] at q4
section
variable {P : Program} {n : Nat} {Q : Exit → Act → World → Prop} {w0 : World} {L : Z108} {M R : List Ent}
variable {ops : Array Oper} {hard : List Nat} {f : Nat} {done : Array Bool} {op opp : Op} {ty typ : TypeId} {pos posp : String} {aft aftp : Array Edge} {g : Option (Nat × Bool)} {d dp p : Nat} {v : Value} {fv : Nat → Value} {l : List Value} {te : TypeId}
theorem XW.sub {L' : Z108} (hs : ∀ k v, lk L' k = some v → lk L k = some v) (k : XW P n ops Q w0 R hard f done L' M) : XW P n ops Q w0 R hard f done L M := by
 unfold XW at *
 exact fun hR hB inv a w fr mm => k hR hB inv a w (fr.sub hs) mm
def XWp (P : Program) (n : Nat) (ops : Array Oper) (Q : Exit → Act → World → Prop) (w0 : World) (R : List Ent) (hard : List Nat) (p dp : Nat) (fv : Nat → Value) (l : List Value) (te : TypeId) (f : Nat) (done : Array Bool) (L : Z108) (M : List Ent) : Prop :=
 (∃ op ty pos aft, ops[p]? = some ⟨some dp, op, ty, pos, aft, none⟩ ∧ NV P w0 [] [] op fv l te ∧ Nat.blt dp n = true) → lk L dp = none →
  XW P n ops Q w0 R hard (f + 1) done L M ∧ ∀ b, XW P n ops Q w0 R hard f (done.setIfInBounds p true) ((dp, fv b) :: L) ((some b, blk l te) :: M)
theorem NV.any (h : NV P w0 [] [] op fv l te) : NV P w0 L M op fv l te := fun ρ w hρ m o ho => h ρ w (fun x u hx => hρ x u (ev_mono (fun k v hk => by simp [lk] at hk) hx)) (m.sublist (List.nil_sublist _)) o ho
theorem XWp.slot (v' : Value) (hv : v = v') (k : XWp P n ops Q w0 R hard p dp fv l te f done ((d, v') :: L) M) : XWp P n ops Q w0 R hard p dp fv l te f done ((d, v) :: L) M := by subst hv; exact k
theorem XWp.mem {M' : List Ent} (hs : ∀ w, Mem w0 w M → Mem w0 w M') (hMR : ∀ w, Mem w0 w M' → Mem w0 w R) (k : XWp P n ops Q w0 R hard p dp fv l te f done L M') : XWp P n ops Q w0 R hard p dp fv l te f done L M := fun hp hl =>
 ⟨Z19 hs hMR (k hp hl).1, fun b => Z19 (fun w m => m.under hs) (fun w m => hMR w m.tail) ((k hp hl).2 b)⟩
theorem RV.more {L' : Z108} {M' : List Ent} (hL : ∀ k v, lk L k = some v → lk L' k = some v) (hM : ∀ w, Mem w0 w M' → Mem w0 w M) (h : RV P w0 L M op v) : RV P w0 L' M' op v := fun ρ w hρ m o ho => h ρ w (fun x u hx => hρ x u (ev_mono hL hx)) (hM w m) o ho
theorem XWp.rs (i : Nat) (ho : ops[i]? = some ⟨some d, op, ty, pos, aft, none⟩) (hr : (XR ops done i && XR ops (done.setIfInBounds p true) i && !Nat.beq d dp && !Nat.beq i p) = true) (hw : Wt ops L none = true) (hop : RV P w0 L R op v) (hd : Nat.blt d n = true) (k : XWp P n ops Q w0 R hard p dp fv l te f (done.setIfInBounds i true) ((d, v) :: L) M) : XWp P n ops Q w0 R hard p dp fv l te (f + 1) done L M := fun hp hl => by
 simp only [Bool.and_eq_true, Bool.not_eq_true'] at hr
 obtain ⟨⟨⟨h1, h2⟩, h3⟩, h4⟩ := hr
 have hl' : lk ((d, v) :: L) dp = none := by rw [Z117 (nbeq h3)]; exact hl
 obtain ⟨k1, k2⟩ := k hp hl'
 refine ⟨Z10 i ho h1 rfl hop hd k1, fun b => Z10 i ho h2 rfl (hop.more (lk_mono hl) fun _ m => m) hd ?_⟩
 rw [Array.setIfInBounds_comm _ _ (Ne.symm (nbeq h4))]
 refine XW.sub (fun q u hq => ?_) (k2 b)
 exact lk_swap (nbeq h3) hq
theorem XWp.rv (i : Nat) (ho : ops[i]? = some ⟨some d, op, ty, pos, aft, none⟩) (hr : (XR ops done i && XR ops (done.setIfInBounds p true) i && !Nat.beq d dp && !Nat.beq i p) = true) (hw : Wt ops L none = true) (hS : XS ops hard i = true) (hop : RV P w0 L M op v) (hd : Nat.blt d n = true) (k : XWp P n ops Q w0 R hard p dp fv l te f (done.setIfInBounds i true) ((d, v) :: L) M) : XWp P n ops Q w0 R hard p dp fv l te (f + 1) done L M := fun hp hl => by
 simp only [Bool.and_eq_true, Bool.not_eq_true'] at hr
 obtain ⟨⟨⟨h1, h2⟩, h3⟩, h4⟩ := hr
 have hl' : lk ((d, v) :: L) dp = none := by rw [Z117 (nbeq h3)]; exact hl
 obtain ⟨k1, k2⟩ := k hp hl'
 refine ⟨XW.rv i ho h1 rfl hS hop hd k1, fun b => XW.rv i ho h2 rfl hS (hop.more (lk_mono hl) fun _ m => m.tail) hd ?_⟩
 rw [Array.setIfInBounds_comm _ _ (Ne.symm (nbeq h4))]
 refine XW.sub (fun q u hq => ?_) (k2 b)
 exact lk_swap (nbeq h3) hq
theorem XWp.callG (i : Nat) {fn : FuncId} {xs : List Operand} {ats : Array TypeId} {args : List Value} {Rr : Value → List Ent → Prop} (ho : ops[i]? = some ⟨some d, .call ⟨.value (.func fn), xs.toArray, ats⟩, ty, pos, aft, none⟩) (hr : ((Region.ready .any ops done == [i, p] || Region.ready .any ops done == [p, i]) && Region.ready .any ops (done.setIfInBounds p true) == [i] && !Nat.beq d dp && !Nat.beq i p) = true) (hw : Wt ops L none = true)
  (hc : ∀ (args : Array Value) (w : World), (callFunc fn args).run P w = .ok (.enter fn args) w) (hxs : evs L xs = some args) (hdo : ∀ N, (∀ w, Mem w0 w N → Mem w0 w M) → DoesG P fn args w0 [] N Rr)
  (hd : Nat.blt d n = true) (k : ∀ v G, Rr v G → XWp P n ops Q w0 R hard p dp fv l te f (done.setIfInBounds i true) ((d, v) :: L) (G ++ M)) : XWp P n ops Q w0 R hard p dp fv l te (f + 1) done L M := fun hp hl => by
 simp only [Bool.and_eq_true, Bool.not_eq_true', Bool.or_eq_true, beq_iff_eq] at hr
 obtain ⟨⟨⟨h1, h2⟩, h3⟩, h4⟩ := hr
 have hl' : ∀ v, lk ((d, v) :: L) dp = none := fun v => by rw [Z117 (nbeq h3)]; exact hl
 have k2 : ∀ b, XW P n ops Q w0 R hard (f + 1) (done.setIfInBounds p true) ((dp, fv b) :: L) ((some b, blk l te) :: M) := fun b => by
  refine Z11 i ho (by simpa using h2) rfl hc (evs_mono (lk_mono hl) _ _ hxs) (fun N hN => hdo N fun w m => (hN w m).tail) hd (fun v G hv => ?_)
  rw [Array.setIfInBounds_comm _ _ (Ne.symm (nbeq h4))]
  have q := (k v G hv hp (hl' v)).2 b
  unfold XW at q ⊢
  intro hR hB inv a w fr mm
  have mp : ∀ w, Mem w0 w ((some b, blk l te) :: (G ++ M)) → Mem w0 w (G ++ (some b, blk l te) :: M) := fun w m => m.perm List.perm_middle.symm
  refine q (fun w m => hR w (mp w m)) hB inv a w (fr.sub fun q u hq => ?_) (mm.perm List.perm_middle)
  exact lk_swap (nbeq h3) hq
 refine ⟨?_, k2⟩
 have k1 := fun v G hv => (k v G hv hp (hl' v)).1
 obtain ⟨op, tyq, posq, aftq, hop, hnv, hdp⟩ := hp
 unfold XW at k1 k2 ⊢
 intro hR hB inv a w fr mm
 have hmem : ∀ j, j ∈ Region.ready .any ops done ↔ j = i ∨ j = p := fun j => by rcases h1 with h | h <;> simp [h, or_comm]
 have him : i < ops.size := (Array.getElem?_eq_some_iff.1 ho).1
 have hpm : p < ops.size := (Array.getElem?_eq_some_iff.1 hop).1
 refine ⟨by rcases h1 with h | h <;> simp [h], fun j hj => ?_⟩
 rcases (hmem j).1 hj with rfl | rfl
 ·refine ⟨him, _, ho, .inl ⟨wt_spec fr rfl, ?_⟩⟩
  have hev := evs_map (fun x u hx => fr.eval hx) xs args hxs
  have hrun : (execOp a.eval ⟨some d, .call ⟨.value (.func fn), xs.toArray, ats⟩, ty, pos, aft, none⟩).run P w = .ok (.enter fn args.toArray) w := by
   simp [execOp, resolve, Deferred.ofValue, Act.eval, invoke, hev, hc]
  rw [hrun]
  refine (hdo (allEnts w0 w) (fun w2 m2 => Upw.of_all m2 _ mm) w mm.all).mono ?_
  rintro e w2 ⟨q, ⟨G, h1, h2⟩, rfl, m'⟩
  have m' : Mem w0 w2 (G ++ allEnts w0 w) := by have m2 := m'; rwa [show (fun q : Value × List Ent => q.2) q = G ++ allEnts w0 w from h2] at m2
  refine ⟨_, rfl, ?_, (k1 q.1 G h1) (fun w m => hR w m.appR) hB (inv.set hj him) _ _ (fr.put hd _) (m'.graft mm)⟩
  have hu := Upw.of_all m'.appR
  unfold Rl
  split
  ·exact hu R
  ·exact hu
 ·refine ⟨hpm, _, hop, .inl ⟨wt_spec fr rfl, ?_⟩⟩
  rw [hnv.any (L := L) (M := M) a.eval w (fun x u hx => fr.eval hx) mm _ rfl]
  refine ⟨?_, k2 _ (fun w m => hR w m.tail) hB (inv.set hj hpm) _ _ (fr.put hdp _) (mm.alloc _)⟩
  unfold Rl
  split
  ·exact Upw.alloc _ _ _ R
  ·exact Upw.alloc _ _ _
theorem XWp.new (i : Nat) {l' : List Value} {te' : TypeId} {fv' : Nat → Value} (ho : ops[i]? = some ⟨some d, op, ty, pos, aft, none⟩) (hr : ((Region.ready .any ops done == [i, p] || Region.ready .any ops done == [p, i]) && Region.ready .any ops (done.setIfInBounds p true) == [i] && !Nat.beq d dp && !Nat.beq i p) = true) (hw : Wt ops L none = true)
  (hop : NV P w0 L M op fv' l' te') (hd : Nat.blt d n = true) (k : ∀ b, XWp P n ops Q w0 R hard p dp fv l te f (done.setIfInBounds i true) ((d, fv' b) :: L) ((some b, blk l' te') :: M)) : XWp P n ops Q w0 R hard p dp fv l te (f + 1) done L M := fun hp hl => by
 simp only [Bool.and_eq_true, Bool.not_eq_true', Bool.or_eq_true, beq_iff_eq] at hr
 obtain ⟨⟨⟨h1, h2⟩, h3⟩, h4⟩ := hr
 have hl' : ∀ v, lk ((d, v) :: L) dp = none := fun v => by rw [Z117 (nbeq h3)]; exact hl
 have k2 : ∀ b, XW P n ops Q w0 R hard (f + 1) (done.setIfInBounds p true) ((dp, fv b) :: L) ((some b, blk l te) :: M) := fun b => by
  refine XW.new i ho (by simpa using h2) rfl (fun ρ w hρ m o ho => hop ρ w (fun x u hx => hρ x u (ev_mono (lk_mono hl) hx)) m.tail o ho) hd (fun b' => ?_)
  rw [Array.setIfInBounds_comm _ _ (Ne.symm (nbeq h4))]
  have q := (k b' hp (hl' _)).2 b
  unfold XW at q ⊢
  intro hR hB inv a w fr mm
  have mp : ∀ w, Mem w0 w ((some b, blk l te) :: (some b', blk l' te') :: M) → Mem w0 w ((some b', blk l' te') :: (some b, blk l te) :: M) := fun w m => m.rot1
  refine q (fun w m => hR w (mp w m)) hB inv a w (fr.sub fun q u hq => ?_) (mm.rot1)
  exact lk_swap (nbeq h3) hq
 refine ⟨?_, k2⟩
 have k1 := fun b => (k b hp (hl' (fv' b))).1
 obtain ⟨op, tyq, posq, aftq, hop2, hnv, hdp⟩ := hp
 unfold XW at k1 k2 ⊢
 intro hR hB inv a w fr mm
 have hmem : ∀ j, j ∈ Region.ready .any ops done ↔ j = i ∨ j = p := fun j => by rcases h1 with h | h <;> simp [h, or_comm]
 have him : i < ops.size := (Array.getElem?_eq_some_iff.1 ho).1
 have hpm : p < ops.size := (Array.getElem?_eq_some_iff.1 hop2).1
 refine ⟨by rcases h1 with h | h <;> simp [h], fun j hj => ?_⟩
 rcases (hmem j).1 hj with rfl | rfl
 ·refine ⟨him, _, ho, .inl ⟨wt_spec fr rfl, ?_⟩⟩
  rw [hop a.eval w (fun x u hx => fr.eval hx) mm _ rfl]
  refine ⟨?_, k1 _ (fun w m => hR w m.tail) hB (inv.set hj him) _ _ (fr.put hd _) (mm.alloc _)⟩
  unfold Rl
  split
  ·exact Upw.alloc _ _ _ R
  ·exact Upw.alloc _ _ _
 ·refine ⟨hpm, _, hop2, .inl ⟨wt_spec fr rfl, ?_⟩⟩
  rw [hnv.any (L := L) (M := M) a.eval w (fun x u hx => fr.eval hx) mm _ rfl]
  refine ⟨?_, k2 _ (fun w m => hR w m.tail) hB (inv.set hj hpm) _ _ (fr.put hdp _) (mm.alloc _)⟩
  unfold Rl
  split
  ·exact Upw.alloc _ _ _ R
  ·exact Upw.alloc _ _ _
attribute [irreducible] XWp
theorem NV.alloc [Types P] {e : TypeId} {ti : TI} {l : List Value} (hi : Fw.ty P e = some ti) (hl : ti.z.cells = l.toArray) : NV P w0 L M (.alloc e) (fun b => ptr (some b) 0) l e := fun ρ w hρ m o ho => by
 obtain ⟨_, ti, h1, h2, h3, h4⟩ := ty_ok hi
 simp [execOp, ho, Instr.alloc, zeroValue, typeInfo, h1, h4, newVar, newRow, ptr, blk, hl]
end
end Go.Fw
namespace Go.Fw
open Go
def Rooms (Φ : Ctx) (A : Option Addr) (c : Nat) (x : List (List (BitVec 8))) : Prop := ∃ cs mk : List Value, View Φ A (x ++ ([([164#8] : List (BitVec 8))] : List (List (BitVec 8)))).length c 1 (cs ++ mk) ∧ Reps (RmRd Φ) cs x ∧ Reps (BsRd Φ) (cs ++ mk) (x ++ ([([164#8] : List (BitVec 8))] : List (List (BitVec 8))))
theorem Rooms.mono {Φ Ψ : Ctx} {A : Option Addr} {c : Nat} {x : List (List (BitVec 8))} (h : Rooms Φ A c x) (hh : ∀ w, Ψ w → Φ w) : Rooms Ψ A c x := by
 obtain ⟨cs, mk, v, r, rb⟩ := h
 exact ⟨cs, mk, v.mono hh, r.mono (RmRd.mono hh), rb.mono (BsRd.mono hh)⟩
theorem Rooms.mk {Φ : Ctx} {A : Option Addr} {c : Nat} {x : List (List (BitVec 8))} {cs mk : List Value} (v : View Φ A (x ++ ([([164#8] : List (BitVec 8))] : List (List (BitVec 8)))).length c 1 (cs ++ mk)) (r : Reps (RmRd Φ) cs x) (rb : Reps (BsRd Φ) (cs ++ mk) (x ++ ([([164#8] : List (BitVec 8))] : List (List (BitVec 8))))) : Rooms Φ A c x := ⟨cs, mk, v, r, rb⟩
def Ar8Rd {n : Nat} (Φ : Ctx) (cs : List Value) (v : Vector (BitVec 8) n) : Prop := cs = u8s v.toList
theorem Ar8Rd.mono {n : Nat} {Φ Ψ : Ctx} (hh : ∀ w, Ψ w → Φ w) (cs : List Value) (v : Vector (BitVec 8) n) (h : Ar8Rd Φ cs v) : Ar8Rd Ψ cs v := h
theorem Ar8Rd.len {n : Nat} {Φ : Ctx} (cs : List Value) (v : Vector (BitVec 8) n) (h : Ar8Rd Φ cs v) : cs.length = n := by rw [h, Z100, Zv]
theorem Ar8Rd.one {n : Nat} {Φ : Ctx} (cs : List Value) (v : Vector (BitVec 8) n) (h : Ar8Rd Φ cs v) : ∀ u ∈ cs, u.oneCell' = true := by rw [h]; exact u8s_one _
theorem Ar8Rd.mk {n : Nat} {Φ : Ctx} {v : Vector (BitVec 8) n} : Ar8Rd Φ (u8s v.toList) v := rfl
end Go.Fw
namespace Go.Fw
open Go
structure LogC where
 address : Vector (BitVec 8) 20
 topics : Value
 data : Value
def LogC.C (s : LogC) : List Value := u8s s.address.toList ++ ([s.topics] ++ ([s.data]))
theorem LogC.C_length (s : LogC) : s.C.length = 22 := by simp [LogC.C, Z100]
theorem LogC.C_one (s : LogC) (h_topics : s.topics.oneCell' = true) (h_data : s.data.oneCell' = true) : ∀ u ∈ s.C, u.oneCell' = true := by
 intro u hu
 simp only [LogC.C, List.mem_append, List.mem_singleton] at hu
 rcases hu with hu | rfl | rfl
 ·exact u8s_one _ u hu
 ·exact h_topics
 ·exact h_data
theorem Z106 (s : LogC) : ∀ (k : Nat) (u : Value), (u8s s.address.toList)[k]? = some u → s.C[0 + k]? = some u := by
 intro k u h; rw [show 0 + k = k by omega]; exact (here_get h)
theorem LogC.C_address_spl (s : LogC) (x : Vector (BitVec 8) 20) : spl s.C 0 (u8s x.toList) = ({ s with address := x } : LogC).C := by
 rw [show 0 = 0 by rfl]; exact (here_spl (by simp [Z100]))
theorem Z111 (s : LogC) : s.C[20]? = some (s.topics) := by
 rw [show 20 = 20 + (0) by rfl]; exact (Z107 ((Z100 _).trans Zv) (here_get rfl))
theorem LogC.C_topics_set (s : LogC) (x : Value) : s.C.set 20 (x) = ({ s with topics := x } : LogC).C := by
 rw [show 20 = 20 + (0) by rfl]; exact (skip_set ((Z100 _).trans Zv) (here_set (by simp) rfl))
theorem LogC.C_data (s : LogC) : s.C[21]? = some (s.data) := by
 rw [show 21 = 20 + (1 + (0)) by rfl]; exact (Z107 ((Z100 _).trans Zv) (Z107 rfl rfl))
theorem LogC.C_data_set (s : LogC) (x : Value) : s.C.set 21 (x) = ({ s with data := x } : LogC).C := by
 rw [show 21 = 20 + (1 + (0)) by rfl]; exact (skip_set ((Z100 _).trans Zv) (skip_set rfl rfl))
structure Log where
 address : Vector (BitVec 8) 20
 topics : List (Vector (BitVec 8) 32)
 data : List (BitVec 8)
def LogRd (Φ : Ctx) (cs : List Value) (x : Log) : Prop := ∃ (A_topics : Option Addr), ∃ (c_topics : Nat), ∃ (cs_topics : List Value), ∃ (A_data : Option Addr), ∃ (c_data : Nat), cs = (⟨x.address, .slice A_topics x.topics.length c_topics, .slice A_data x.data.length c_data⟩ : LogC).C ∧ (View Φ A_topics x.topics.length c_topics 32 cs_topics) ∧ (Reps (Ar8Rd Φ) cs_topics x.topics) ∧ (View Φ A_data x.data.length c_data 1 (u8s x.data))
theorem LogRd.opn {Φ : Ctx} {cs : List Value} {x : Log} (h : LogRd Φ cs x) : ∃ (A_topics : Option Addr), ∃ (c_topics : Nat), ∃ (cs_topics : List Value), ∃ (A_data : Option Addr), ∃ (c_data : Nat), cs = (⟨x.address, .slice A_topics x.topics.length c_topics, .slice A_data x.data.length c_data⟩ : LogC).C ∧ (View Φ A_topics x.topics.length c_topics 32 cs_topics) ∧ (Reps (Ar8Rd Φ) cs_topics x.topics) ∧ (View Φ A_data x.data.length c_data 1 (u8s x.data)) := h
theorem LogRd.mono {Φ Ψ : Ctx} (hh : ∀ w, Ψ w → Φ w) (cs : List Value) (x : Log) : LogRd Φ cs x → LogRd Ψ cs x := fun ⟨A_topics, c_topics, cs_topics, A_data, c_data, e, v_topics, h_topics, v_data⟩ => ⟨A_topics, c_topics, cs_topics, A_data, c_data, e, v_topics.mono hh, h_topics.mono (Ar8Rd.mono hh), v_data.mono hh⟩
theorem LogRd.len {Φ : Ctx} (cs : List Value) (x : Log) (h : LogRd Φ cs x) : cs.length = 22 := by
 obtain ⟨A_topics, c_topics, cs_topics, A_data, c_data, e, v_topics, h_topics, v_data⟩ := h
 rw [e]; exact LogC.C_length _
theorem LogRd.one {Φ : Ctx} (cs : List Value) (x : Log) (h : LogRd Φ cs x) : ∀ u ∈ cs, u.oneCell' = true := by
 obtain ⟨A_topics, c_topics, cs_topics, A_data, c_data, e, v_topics, h_topics, v_data⟩ := h
 rw [e]; exact LogC.C_one _ rfl rfl
theorem LogRd.mk {Φ : Ctx} {address : Vector (BitVec 8) 20} {topics : List (Vector (BitVec 8) 32)} {data : List (BitVec 8)} {A_topics : Option Addr} {c_topics : Nat} {cs_topics : List Value} {A_data : Option Addr} {c_data : Nat} (v_topics : View Φ A_topics topics.length c_topics 32 cs_topics) (h_topics : Reps (Ar8Rd Φ) cs_topics topics) (v_data : View Φ A_data data.length c_data 1 (u8s data)) : LogRd Φ (⟨address, .slice A_topics topics.length c_topics, .slice A_data data.length c_data⟩ : LogC).C (⟨address, topics, data⟩ : Log) := ⟨A_topics, c_topics, cs_topics, A_data, c_data, rfl, v_topics, h_topics, v_data⟩
structure RcptC where
 kind : Int
 rooted : Bool
 root : Vector (BitVec 8) 32
 status : BitVec 64
 used : BitVec 64
 bloom : Vector (BitVec 8) 256
 logs : Value
def RcptC.C (s : RcptC) : List Value := [.int .i64 s.kind] ++ ([.bool s.rooted] ++ (u8s s.root.toList ++ ([U64 s.status] ++ ([U64 s.used] ++ (u8s s.bloom.toList ++ ([s.logs]))))))
theorem RcptC.C_length (s : RcptC) : s.C.length = 293 := by simp [RcptC.C, Z100]
theorem RcptC.C_one (s : RcptC) (h_logs : s.logs.oneCell' = true) : ∀ u ∈ s.C, u.oneCell' = true := by
 intro u hu
 simp only [RcptC.C, List.mem_append, List.mem_singleton] at hu
 rcases hu with rfl | rfl | hu | rfl | rfl | hu | rfl
 ·rfl
 ·rfl
 ·exact u8s_one _ u hu
 ·rfl
 ·rfl
 ·exact u8s_one _ u hu
 ·exact h_logs
theorem RcptC.C_kind (s : RcptC) : s.C[0]? = some (.int .i64 s.kind) := by
 rw [show 0 = 0 by rfl]; exact (here_get rfl)
theorem RcptC.C_rooted (s : RcptC) : s.C[1]? = some (.bool s.rooted) := by
 rw [show 1 = 1 + (0) by rfl]; exact (Z107 rfl (here_get rfl))
theorem RcptC.C_root_all (s : RcptC) : ∀ (k : Nat) (u : Value), (u8s s.root.toList)[k]? = some u → s.C[2 + k]? = some u := by
 intro k u h; rw [show 2 + k = 1 + (1 + (k)) by omega]; exact (Z107 rfl (Z107 rfl (here_get h)))
theorem RcptC.C_status (s : RcptC) : s.C[34]? = some (U64 s.status) := by
 rw [show 34 = 1 + (1 + (32 + (0))) by rfl]; exact (Z107 rfl (Z107 rfl (Z107 ((Z100 _).trans Zv) (here_get rfl))))
theorem Z110 (s : RcptC) : s.C[35]? = some (U64 s.used) := by
 rw [show 35 = 1 + (1 + (32 + (1 + (0)))) by rfl]; exact (Z107 rfl (Z107 rfl (Z107 ((Z100 _).trans Zv) (Z107 rfl (here_get rfl)))))
theorem RcptC.C_used_set (s : RcptC) (x : BitVec 64) : s.C.set 35 (U64 x) = ({ s with used := x } : RcptC).C := by
 rw [show 35 = 1 + (1 + (32 + (1 + (0)))) by rfl]; exact (skip_set rfl (skip_set rfl (skip_set ((Z100 _).trans Zv) (skip_set rfl (here_set (by simp) rfl)))))
theorem RcptC.C_bloom_all (s : RcptC) : ∀ (k : Nat) (u : Value), (u8s s.bloom.toList)[k]? = some u → s.C[36 + k]? = some u := by
 intro k u h; rw [show 36 + k = 1 + (1 + (32 + (1 + (1 + (k))))) by omega]; exact (Z107 rfl (Z107 rfl (Z107 ((Z100 _).trans Zv) (Z107 rfl (Z107 rfl (here_get h))))))
theorem Z105 (s : RcptC) : s.C[292]? = some (s.logs) := by
 rw [show 292 = 1 + (1 + (32 + (1 + (1 + (256 + (0)))))) by rfl]; exact (Z107 rfl (Z107 rfl (Z107 ((Z100 _).trans Zv) (Z107 rfl (Z107 rfl (Z107 ((Z100 _).trans Zv) rfl))))))
theorem RcptC.C_logs_set (s : RcptC) (x : Value) : s.C.set 292 (x) = ({ s with logs := x } : RcptC).C := by
 rw [show 292 = 1 + (1 + (32 + (1 + (1 + (256 + (0)))))) by rfl]; exact (skip_set rfl (skip_set rfl (skip_set ((Z100 _).trans Zv) (skip_set rfl (skip_set rfl (skip_set ((Z100 _).trans Zv) rfl))))))
structure Rcpt where
 kind : Int
 rooted : Bool
 root : Vector (BitVec 8) 32
 status : BitVec 64
 used : BitVec 64
 bloom : Vector (BitVec 8) 256
 logs : List (Log)
def RcptRd (Φ : Ctx) (cs : List Value) (x : Rcpt) : Prop := ∃ (A_logs : Option Addr), ∃ (c_logs : Nat), ∃ (cs_logs : List Value), cs = (⟨x.kind, x.rooted, x.root, x.status, x.used, x.bloom, .slice A_logs x.logs.length c_logs⟩ : RcptC).C ∧ (-9223372036854775808 ≤ x.kind ∧ x.kind ≤ 9223372036854775807) ∧ (View Φ A_logs x.logs.length c_logs 22 cs_logs) ∧ (Reps (LogRd Φ) cs_logs x.logs)
theorem RcptRd.opn {Φ : Ctx} {cs : List Value} {x : Rcpt} (h : RcptRd Φ cs x) : ∃ (A_logs : Option Addr), ∃ (c_logs : Nat), ∃ (cs_logs : List Value), cs = (⟨x.kind, x.rooted, x.root, x.status, x.used, x.bloom, .slice A_logs x.logs.length c_logs⟩ : RcptC).C ∧ (-9223372036854775808 ≤ x.kind ∧ x.kind ≤ 9223372036854775807) ∧ (View Φ A_logs x.logs.length c_logs 22 cs_logs) ∧ (Reps (LogRd Φ) cs_logs x.logs) := h
theorem RcptRd.mono {Φ Ψ : Ctx} (hh : ∀ w, Ψ w → Φ w) (cs : List Value) (x : Rcpt) : RcptRd Φ cs x → RcptRd Ψ cs x := fun ⟨A_logs, c_logs, cs_logs, e, b_kind, v_logs, h_logs⟩ => ⟨A_logs, c_logs, cs_logs, e, b_kind, v_logs.mono hh, h_logs.mono (LogRd.mono hh)⟩
theorem RcptRd.len {Φ : Ctx} (cs : List Value) (x : Rcpt) (h : RcptRd Φ cs x) : cs.length = 293 := by
 obtain ⟨A_logs, c_logs, cs_logs, e, b_kind, v_logs, h_logs⟩ := h
 rw [e]; exact RcptC.C_length _
theorem RcptRd.one {Φ : Ctx} (cs : List Value) (x : Rcpt) (h : RcptRd Φ cs x) : ∀ u ∈ cs, u.oneCell' = true := by
 obtain ⟨A_logs, c_logs, cs_logs, e, b_kind, v_logs, h_logs⟩ := h
 rw [e]; exact RcptC.C_one _ rfl
theorem RcptRd.mk {Φ : Ctx} {kind : Int} {rooted : Bool} {root : Vector (BitVec 8) 32} {status : BitVec 64} {used : BitVec 64} {bloom : Vector (BitVec 8) 256} {logs : List (Log)} {A_logs : Option Addr} {c_logs : Nat} {cs_logs : List Value} (b_kind : -9223372036854775808 ≤ kind ∧ kind ≤ 9223372036854775807) (v_logs : View Φ A_logs logs.length c_logs 22 cs_logs) (h_logs : Reps (LogRd Φ) cs_logs logs) : RcptRd Φ (⟨kind, rooted, root, status, used, bloom, .slice A_logs logs.length c_logs⟩ : RcptC).C (⟨kind, rooted, root, status, used, bloom, logs⟩ : Rcpt) := ⟨A_logs, c_logs, cs_logs, rfl, b_kind, v_logs, h_logs⟩
end Go.Fw
namespace Go.Fw
open Go Go.RowKit
section
variable {P : Program} [Types P] {n : Nat} {Q : Exit → Act → World → Prop} {w0 : World} {L : Z108} {M : List Ent} {t e : TypeId} {x : Operand} {v : Value}
def Held (w0 : World) (Φ : Ctx) (b : Nat) (l : List Value) (te : TypeId) : Prop := ∀ w, Φ w → Mem w0 w [(some b, blk l te)]
theorem Held.mono {Φ Ψ : Ctx} {b : Nat} {l : List Value} {te : TypeId} (h : Held w0 Φ b l te) (hh : ∀ w, Ψ w → Φ w) : Held w0 Ψ b l te := fun w q => h w (hh w q)
theorem Held.part {Φ : Ctx} {b i : Nat} {l : List Value} {te : TypeId} {m : Nat} {a : Vector (BitVec 8) m} (h : Held w0 Φ b l te) (hp : ∀ (k : Nat) (u : Value), (u8s a.toList)[k]? = some u → l[i + k]? = some u) (hm : m ≤ 140737488355328) : View Φ (some ⟨b, i, none⟩) a.toList.length m 1 (u8s a.toList) :=
 ⟨fun w q => ⟨fun _ => rfl, fun j u hj => by
  show w.cell? ((⟨b, i, none⟩ : Addr).add j) = some u
  rw [Z101, (h w q).cell (List.mem_cons_self ..)]; exact hp j u hj⟩, fun _ => rfl, by rw [Z100]; omega, by rw [Zv]; exact Nat.le_refl _, by rw [Zv]; exact hm⟩
theorem View.part {Φ : Ctx} {A : Option Addr} {len c s off f : Nat} {cells cs : List Value} {m : Nat} {a : Vector (BitVec 8) m} (h : View Φ A len c s cells) (hc : ∀ j u, cs[j]? = some u → cells[off + j]? = some u) (hp : ∀ (k : Nat) (u : Value), (u8s a.toList)[k]? = some u → cs[f + k]? = some u) (hm : m ≤ 140737488355328) :
  View Φ (some (((A.getD default).add off).add f)) a.toList.length m 1 (u8s a.toList) :=
 ⟨fun w q => ⟨fun _ => rfl, fun j u hj => by
  show w.cell? ((((A.getD default).add off).add f).add j) = some u
  rw [Addr.add_add]; exact h.load q hc _ u (hp j u hj)⟩, fun _ => rfl, by rw [Z100]; omega, by rw [Zv]; exact Nat.le_refl _, by rw [Zv]; exact hm⟩
theorem View.load_part {Φ : Ctx} {A : Option Addr} {len c s off f : Nat} {cells cs vs : List Value} (h : View Φ A len c s cells) {w : World} (q : Φ w) (hc : ∀ j u, cs[j]? = some u → cells[off + j]? = some u) (hp : ∀ (k : Nat) (u : Value), vs[k]? = some u → cs[f + k]? = some u) :
  ∀ j u, vs[j]? = some u → w.cell? ((((A.getD default).add off).add f).add j) = some u := fun j u hj => by
 rw [Addr.add_add]; exact h.load q hc _ u (hp j u hj)
theorem View.load_fld {Φ : Ctx} {A : Option Addr} {len c s off f : Nat} {cells cs : List Value} (h : View Φ A len c s cells) {w : World} (q : Φ w) (hc : ∀ j u, cs[j]? = some u → cells[off + j]? = some u) (hp : cs[f]? = some v) :
  w.cell? (((A.getD default).add off).add f) = some v := h.load q hc f v hp
end
section
variable {P : Program} {n : Nat} {Q : Exit → Act → World → Prop} {w0 : World} {L : Z108} {M : List Ent}
end
def LsRd {T : Type} (s : Nat) (R : Ctx → List Value → T → Prop) (Φ : Ctx) (cs : List Value) (x : List T) : Prop := ∃ A c cs2, cs = [.slice A x.length c] ∧ View Φ A x.length c s cs2 ∧ Reps (R Φ) cs2 x
abbrev HsRd (Φ : Ctx) (cs : List Value) (x : List (Vector (BitVec 8) 32)) : Prop := LsRd 32 Ar8Rd Φ cs x
theorem HsRd.mono {Φ Ψ : Ctx} (hh : ∀ w, Ψ w → Φ w) (cs : List Value) (x : List (Vector (BitVec 8) 32)) : HsRd Φ cs x → HsRd Ψ cs x := fun ⟨A, c, cs2, h1, h2, h3⟩ => ⟨A, c, cs2, h1, h2.mono hh, h3.mono (Ar8Rd.mono hh)⟩
theorem HsRd.len {Φ : Ctx} (cs : List Value) (x : List (Vector (BitVec 8) 32)) (h : HsRd Φ cs x) : cs.length = 1 := by obtain ⟨A, c, cs2, rfl, _⟩ := h; rfl
theorem HsRd.one {Φ : Ctx} (cs : List Value) (x : List (Vector (BitVec 8) 32)) (h : HsRd Φ cs x) : ∀ u ∈ cs, u.oneCell' = true := by
 obtain ⟨A, c, cs2, rfl, _⟩ := h
 intro u hu; simp at hu; subst hu; rfl
theorem HsRd.mk {Φ : Ctx} {A : Option Addr} {c : Nat} {cs2 : List Value} {x : List (Vector (BitVec 8) 32)} (h1 : View Φ A x.length c 32 cs2) (h2 : Reps (Ar8Rd Φ) cs2 x) : HsRd Φ [.slice A x.length c] x := ⟨A, c, cs2, rfl, h1, h2⟩
end Go.Fw
namespace Go.Fw
open Go
structure Rdr where
 err : Int
def Rdr.C (s : Rdr) : List Value := [.int .i64 s.err]
theorem Rdr.C_length (s : Rdr) : s.C.length = 1 := by simp [Rdr.C]
theorem Rdr.C_one (s : Rdr) : ∀ u ∈ s.C, u.oneCell' = true := by
 intro u hu
 simp only [Rdr.C, List.mem_append, List.mem_singleton] at hu
 rcases hu with rfl
 ·rfl
end Go.Fw
namespace Go.Fw
open Go
theorem fillL_cons {pl : List (Nat × Nat)} {l vs : List Value} {i off size : Nat} {r : List (Nat × List Value)} (h : pl[i]? = some (off, size)) (hl : vs.length = size) (hb : off + size ≤ l.length) : fillL pl l ((i, vs) :: r) = fillL pl (spl l off vs) r := by
 rw [fillL, h]
 dsimp only
 rw [if_pos (by simp [hl, hb])]
theorem spl_one {l : List Value} {off : Nat} {v : Value} (h : off < l.length) : spl l off [v] = l.set off v := by
 unfold spl
 rw [List.set_eq_take_append_cons_drop, if_pos h]
 simp
end Go.Fw
namespace Go.Fw
def waybilllaw17_num (a0 : Int) : Option ((Int)) := (some a0)
def receipt_Gas.l1 (a0 : List (Rcpt)) : Nat → (List (BitVec 64)) → (BitVec 64) → (Nat) → Option (Lp ((List (BitVec 64)) × (Nat)) ((List (BitVec 64))))
 | 0, _, _, _ => none
 | k23 + 1, l15, w20, n21 => (if n21 < a0.length then (a0[n21]?).bind fun x32 => (if x32.used.toNat < w20.toNat then (some (Lp.ret (some (([] : List (BitVec 64)), 172)))) else (if (l15.length + ([(x32.used - w20)] : List (BitVec 64)).length) * 8 ≤ 140737488355328 then (receipt_Gas.l1 a0 k23 (l15 ++ ([(x32.used - w20)] : List (BitVec 64))) x32.used (n21 + 1)) else none)) else (some (Lp.go l15)))
def receipt_Gas (a0 : List (Rcpt)) : Option ((List (BitVec 64)) × (Nat)) := (((receipt_Gas.l1 a0 (a0.length - 0 + 2) ([] : List (BitVec 64)) (0#64) 0) : Option (Lp ((List (BitVec 64)) × (Nat)) ((List (BitVec 64))))).bind fun | .ret o => o | .go l4 => (some (l4, 0)))
def waybillref17_Gas.l1 (a0 : List (Rcpt)) : Nat → (List (BitVec 64)) → (BitVec 64) → (Nat) → Option (Lp ((List (BitVec 64)) × (Nat)) ((List (BitVec 64))))
 | 0, _, _, _ => none
 | k23 + 1, l15, w20, n21 => (if n21 < a0.length then (a0[n21]?).bind fun x32 => (if x32.used.toNat < w20.toNat then (some (Lp.ret (some (([] : List (BitVec 64)), 172)))) else (a0[n21]?).bind fun x48 => (if (l15.length + ([(x48.used - w20)] : List (BitVec 64)).length) * 8 ≤ 140737488355328 then (a0[n21]?).bind fun x71 => (waybillref17_Gas.l1 a0 k23 (l15 ++ ([(x48.used - w20)] : List (BitVec 64))) x71.used (n21 + 1)) else none)) else (some (Lp.go l15)))
def waybillref17_Gas (a0 : List (Rcpt)) : Option ((List (BitVec 64)) × (Nat)) := (((waybillref17_Gas.l1 a0 (a0.length - 0 + 2) ([] : List (BitVec 64)) (0#64) 0) : Option (Lp ((List (BitVec 64)) × (Nat)) ((List (BitVec 64))))).bind fun | .ret o => o | .go l4 => (some (l4, 0)))
def waybilllaw17_same.l1 (a0 : List (BitVec 8)) (a1 : List (BitVec 8)) : Nat → (Nat) → Option (Lp ((Bool)) (Unit))
 | 0, _ => none
 | k13 + 1, n11 => (if n11 < a0.length then (a0[n11]?).bind fun x21 => (a1[n11]?).bind fun x24 => (if x21 = x24 then (waybilllaw17_same.l1 a0 a1 k13 (n11 + 1)) else (some (Lp.ret (some false)))) else (some (Lp.go ())))
def waybilllaw17_same (a0 : List (BitVec 8)) (a1 : List (BitVec 8)) : Option ((Bool)) := (if a0.length = a1.length then (((waybilllaw17_same.l1 a0 a1 (a0.length - 0 + 2) 0) : Option (Lp ((Bool)) (Unit))).bind fun | .ret o => o | .go () => (some true)) else (some false))
def waybilllaw17_sameLog.l1 (a0 : Log) (a1 : Log) : Nat → (Nat) → Option (Lp ((Bool)) (Unit))
 | 0, _ => none
 | k49 + 1, n47 => (if n47 < a0.topics.length then (a0.topics[n47]?).bind fun x57 => (a1.topics[n47]?).bind fun x63 => (if x57 = x63 then (waybilllaw17_sameLog.l1 a0 a1 k49 (n47 + 1)) else (some (Lp.ret (some false)))) else (some (Lp.go ())))
def waybilllaw17_sameLog (a0 : Log) (a1 : Log) : Option ((Bool)) := (((if a0.address = a1.address then (some ((!decide (a0.topics.length = a1.topics.length)))) else (some (true))) : Option ((Bool))).bind fun p29 => (if p29 = true then (some false) else (((waybilllaw17_sameLog.l1 a0 a1 (a0.topics.length - 0 + 2) 0) : Option (Lp ((Bool)) (Unit))).bind fun | .ret o => o | .go () => ((waybilllaw17_same a0.data a1.data).bind fun x44 => (some (x44))))))
def waybilllaw17_sameLogs.l1 (a0 : List (Log)) (a1 : List (Log)) : Nat → (Nat) → Option (Lp ((Bool)) (Unit))
 | 0, _ => none
 | k13 + 1, n11 => (if n11 < a0.length then (a0[n11]?).bind fun x21 => (a1[n11]?).bind fun x39 => ((waybilllaw17_sameLog x21 x39).bind fun x58 => (if x58 = true then (waybilllaw17_sameLogs.l1 a0 a1 k13 (n11 + 1)) else (some (Lp.ret (some false))))) else (some (Lp.go ())))
def waybilllaw17_sameLogs (a0 : List (Log)) (a1 : List (Log)) : Option ((Bool)) := (if a0.length = a1.length then (((waybilllaw17_sameLogs.l1 a0 a1 (a0.length - 0 + 2) 0) : Option (Lp ((Bool)) (Unit))).bind fun | .ret o => o | .go () => (some true)) else (some false))
def waybilllaw17_sameReceipt (a0 : Rcpt) (a1 : Rcpt) : Option ((Bool)) := (((if a0.kind = a1.kind then (if (a0.rooted) = (a1.rooted) then (if a0.root = a1.root then (if a0.status = a1.status then (some ((!decide (a0.used = a1.used)))) else (some (true))) else (some (true))) else (some (true))) else (some (true))) : Option ((Bool))).bind fun p23 => (if p23 = true then (some false) else (((if a0.bloom = a1.bloom then ((waybilllaw17_sameLogs a0.logs a1.logs).bind fun x40 => (some ((x40)))) else (some (false))) : Option ((Bool))).bind fun p32 => (some (p32)))))
end Go.Fw
namespace Go.Fw
abbrev It.zero : It := It.mk false [] []
end Go.Fw
namespace Go.Fw
open Go
def MkRd (m : List (BitVec 8)) (Φ : Ctx) (cs : List Value) (x : List (BitVec 8)) : Prop := ∃ A c, cs = [.slice A x.length c] ∧ View Φ A (x ++ m).length c 1 (u8s (x ++ m))
theorem MkRd.mono' {m : List (BitVec 8)} {Φ Ψ : Ctx} (hh : ∀ w, Ψ w → Φ w) (cs : List Value) (x : List (BitVec 8)) : MkRd m Φ cs x → MkRd m Ψ cs x := fun ⟨A, c, h1, h2⟩ => ⟨A, c, h1, h2.mono hh⟩
theorem MkRd.len' {m : List (BitVec 8)} {Φ : Ctx} (cs : List Value) (x : List (BitVec 8)) (h : MkRd m Φ cs x) : cs.length = 1 := by obtain ⟨A, c, rfl, _⟩ := h; rfl
theorem MkRd.bs' {m : List (BitVec 8)} {Φ : Ctx} (cs : List Value) (x : List (BitVec 8)) (h : MkRd m Φ cs x) : BsRd Φ cs x := by
 obtain ⟨A, c, h1, h2⟩ := h
 exact ⟨A, c, h1, MRoom.view h2⟩
abbrev MkRd02 : Ctx → List Value → List (BitVec 8) → Prop := MkRd (List.replicate 200 195#8)
theorem MkRd02.mono {Φ Ψ : Ctx} (hh : ∀ w, Ψ w → Φ w) (cs : List Value) (x : List (BitVec 8)) : MkRd02 Φ cs x → MkRd02 Ψ cs x := MkRd.mono' hh cs x
theorem MkRd02.len {Φ : Ctx} (cs : List Value) (x : List (BitVec 8)) (h : MkRd02 Φ cs x) : cs.length = 1 := MkRd.len' cs x h
abbrev MkRd03 : Ctx → List Value → List (BitVec 8) → Prop := MkRd (List.replicate 70 165#8)
theorem MkRd03.mono {Φ Ψ : Ctx} (hh : ∀ w, Ψ w → Φ w) (cs : List Value) (x : List (BitVec 8)) : MkRd03 Φ cs x → MkRd03 Ψ cs x := MkRd.mono' hh cs x
theorem MkRd03.len {Φ : Ctx} (cs : List Value) (x : List (BitVec 8)) (h : MkRd03 Φ cs x) : cs.length = 1 := MkRd.len' cs x h
def MRooms (m : List (BitVec 8)) (k : List (List (BitVec 8))) (Φ : Ctx) (A : Option Addr) (c : Nat) (x : List (List (BitVec 8))) : Prop :=
 ∃ cs mk : List Value, View Φ A (x ++ k).length c 1 (cs ++ mk) ∧ Reps (MkRd m Φ) cs x ∧ Reps (BsRd Φ) (cs ++ mk) (x ++ k)
theorem MRooms.mono {m : List (BitVec 8)} {k : List (List (BitVec 8))} {Φ Ψ : Ctx} {A : Option Addr} {c : Nat} {x : List (List (BitVec 8))} (h : MRooms m k Φ A c x) (hh : ∀ w, Ψ w → Φ w) : MRooms m k Ψ A c x := by
 obtain ⟨cs, mk, v, r, rb⟩ := h
 exact ⟨cs, mk, v.mono hh, r.mono (MkRd.mono' hh), rb.mono (BsRd.mono hh)⟩
structure Lt where
 b : Nat
 t : List (BitVec 8)
 c : Nat
 r : List Value
def Lt.ent (te : TypeId) (m : List (BitVec 8)) (x : Lt) : Ent := (some x.b, blk (u8s x.t ++ (u8s m ++ x.r)) te)
def Lt.cell (x : Lt) : Value := .slice (some ⟨x.b, 0, none⟩) x.t.length x.c
structure Lt.Ok (m : List (BitVec 8)) (x : Lt) : Prop where
 own : OwnS (some x.b) x.t.length x.c 1 (u8s x.t) (u8s m ++ x.r)
 mx : x.t.length + m.length ≤ 140737488355328
theorem Lt.mroom {w0 : World} {Φ : Ctx} {te : TypeId} {m : List (BitVec 8)} {x : Lt} (h : x.Ok m) (hM : ∀ w, Φ w → Mem w0 w [x.ent te m]) : View Φ (some ⟨x.b, 0, none⟩) (x.t ++ m).length x.c 1 (u8s (x.t ++ m)) := OwnS.mroom h.own hM h.mx
def lents (te : TypeId) (m : List (BitVec 8)) (l : List Lt) : List Ent := l.map (Lt.ent te m)
theorem Reps.bs {m : List (BitVec 8)} {Φ : Ctx} {cs : List Value} {xs : List (List (BitVec 8))} (h : Reps (MkRd m Φ) cs xs) : Reps (BsRd Φ) cs xs := h.mono MkRd.bs'
def lx (te2 te : TypeId) (m : List (BitVec 8)) (b0 : Nat) (r : List Value) (mks ls : List Lt) : List Ent := (some b0, blk (ls.map Lt.cell ++ (mks.map Lt.cell ++ r)) te2) :: (lents te [] mks ++ lents te m ls)
end Go.Fw
namespace Go.Fw
open Go
def restOf (w0 w : World) (E : List Ent) : List Ent := (allEnts w0 w).filter fun e => E.all fun x => decide (x.1 ≠ e.1)
theorem Mem.restOf {w0 w : World} {E : List Ent} (m : Mem w0 w E) : Mem w0 w (E ++ Go.Fw.restOf w0 w E) := by
 have ma := m.all
 have hf : ∀ e ∈ Go.Fw.restOf w0 w E, ∀ x ∈ E, x.1 ≠ e.1 := fun e he x hx => of_decide_eq_true (List.all_eq_true.1 (List.mem_filter.1 he).2 x hx)
 refine ⟨m.os, m.tape, m.output, m.size, m.old, fun e he b hb => ?_, List.pairwise_append.2 ⟨m.apart, ma.apart.sublist List.filter_sublist, fun x hx e he b h1 h2 => hf e he x hx (h1.trans h2.symm)⟩⟩
 rcases List.mem_append.1 he with he | he
 ·exact m.ents e he b hb
 ·exact ma.ents e (List.mem_filter.1 he).1 b hb
theorem Mem.unrest {w0 w w2 : World} {E N : List Ent} (mE : Mem w0 w E) (mN : Mem w0 w N) (m : Mem w0 w2 (E ++ Go.Fw.restOf w0 w E)) : Mem w0 w2 N := by
 refine ⟨m.os, m.tape, m.output, m.size, m.old, fun e he b hb => ?_, mN.apart⟩
 obtain ⟨h1, h2⟩ := mN.ents e he b hb
 refine ⟨h1, ?_⟩
 by_cases hE : ∃ x ∈ E, x.1 = some b
 ·obtain ⟨x, hx, hxb⟩ := hE
  have q1 := (mE.ents x hx b hxb).2
  have q2 := (m.ents x (List.mem_append_left _ hx) b hxb).2
  rw [q2, ← q1, h2]
 ·have hlt : b < w.heap.size := (Array.getElem?_eq_some_iff.1 h2).1
  have hall : ((some b, e.2) : Ent) ∈ allEnts w0 w := by
   refine List.mem_map.2 ⟨b - w0.heap.size, List.mem_range.2 (by omega), ?_⟩
   have e1 : w0.heap.size + (b - w0.heap.size) = b := by omega
   simp [e1, h2]
  have hin : ((some b, e.2) : Ent) ∈ Go.Fw.restOf w0 w E := List.mem_filter.2 ⟨hall, List.all_eq_true.2 fun x hx => decide_eq_true fun h => hE ⟨x, hx, h⟩⟩
  exact (m.ents _ (List.mem_append_right _ hin) b rfl).2
theorem DoesG.ro {P : Program} {f : FuncId} {args : List Value} {w0 : World} {E N : List Ent} {R : Value → Prop} (h : ∀ N0, DoesG P f args w0 E N0 (fun v G => R v ∧ G = E)) (hN : ∀ w, Mem w0 w N → Mem w0 w E) : DoesG P f args w0 [] N (fun v _ => R v) := fun w m => by
 have mE := hN w m
 refine (h (restOf w0 w E) w mE.restOf).mono ?_
 rintro e w2 ⟨q, ⟨G, ⟨h1, rfl⟩, h2⟩, h3, h4⟩
 have h4 : Mem w0 w2 q.2 := h4
 rw [h2] at h4
 exact ⟨(q.1, [] ++ N), ⟨[], h1, rfl⟩, h3, mE.unrest m h4⟩
end Go.Fw
namespace Go.Fw
open Go Go.RowKit
theorem View.of_rd {W : World} {A : Option Addr} {cap len s : Nat} {cells : List Value} (rd : Rd W A cells) (hn : cells.length = len * s) (hle : len ≤ cap) (hmx : cap ≤ 140737488355328) : View (fun w => Mem W w []) A len cap s cells :=
 ⟨fun w q => rd.old q, rd.1, hn, hle, by omega⟩
theorem View.of8 {W : World} {A : Option Addr} {cap : Nat} {xs : List (BitVec 8)} (rd : Rd W A (u8s xs)) (hle : xs.length ≤ cap) (hmx : cap ≤ 140737488351232) : View (fun w => Mem W w []) A xs.length cap 1 (u8s xs) :=
 View.of_rd rd (by rw [Z100, Nat.mul_one]) hle (by omega)
end Go.Fw
namespace Go.Fw
open Go Go.RowKit Go.Deep Go.WideShapes
theorem Reps.of_list {α T : Type} {R : List Value → T → Prop} (cells : α → List Value) (pr : α → T) : ∀ (l : List α), (∀ x ∈ l, R (cells x) (pr x)) → Reps R (l.flatMap cells) (l.map pr)
 | [], _ => .nil
 | x :: l, h => by
  rw [List.flatMap_cons, List.map_cons]
  exact .cons (h x (List.mem_cons_self ..)) (Reps.of_list cells pr l (fun y hy => h y (List.mem_cons_of_mem _ hy)))
section
variable {H : Type} {enc : TypeId × Value → H} {P : Program} {W : World} {t e e2 : TypeId} {v : Value}
theorem reads_bs (ht : P.underlying e = some (.slice e2)) (he : P.underlying e2 = some (.int .u8)) (hs : P.cellsOf e2 = 1) (hb : P.bytesOf e2 = 1) {n : Nat} {u : Value} {r : DataW H × List MemPlace} (h : reads enc P W n e [u] = some r) (hz : Fits P e r.1) :
  ∃ (A : Option Addr) (cap : Nat) (x : List (BitVec 8)), u = .slice A x.length cap ∧ View (fun w => Mem W w []) A x.length cap 1 (u8s x) ∧ x.length ≤ 140737488351232 ∧ ∃ el sp, Els r.1 el sp ∧ el.length = x.length := by
 obtain ⟨A, cap, xs, el, sp, h1, h2, h3, h4, h5, h6, h7, h8, h9, h10⟩ := cells_of_slice (α := BitVec 8) (fun x => [U8 x]) (fun _ _ => True) 1 hs (by omega) (fun n cs r _ hr => by
  obtain ⟨x, rfl⟩ := reads_u8 he hr; exact ⟨x, rfl, trivial⟩) ht h
 rw [flat1] at h6
 have hw := (hz.slice ht h7).1
 rw [hb, h9] at hw
 have hc : cap ≤ 140737488351232 := by simpa [reachBytes] using hw
 exact ⟨A, cap, xs, h1, View.of8 h6 h2 hc, by omega, el, sp, h7, h8⟩
end
end Go.Fw
namespace Go.Fw
open Go
theorem bulk_len {H : Type} (ub : DataW H → Nat) (uba : List (DataW H) → Nat) (h0 : uba [] = 0) (h1 : ∀ d r, uba (d :: r) = ub d + uba r) (h2 : ∀ el sp, ub (.slice el sp) = uba el + uba sp + 1) (hp : ∀ d : DataW H, 1 ≤ ub d)
  {d : DataW H} {el sp : List (DataW H)} (he : Els d el sp) : el.length ≤ ub d := by
 have hlen : ∀ l : List (DataW H), l.length ≤ uba l := fun l => by
  induction l with
  | nil => simp
  | cons x r ih => rw [h1]; have := hp x; simp; omega
 rcases he with ⟨_, rfl, _⟩ | rfl
 ·simp
 ·rw [h2]; have := hlen el; omega
end Go.Fw
namespace Go.Fw
open Go
structure BulkFn {H : Type} (ub : DataW H → Nat) (uba : List (DataW H) → Nat) : Prop where
 h0 : uba [] = 0
 h1 : ∀ d r, uba (d :: r) = ub d + uba r
 hs : ∀ el sp, ub (.slice el sp) = uba el + uba sp + 1
 ha : ∀ l, ub (.agg l) = uba l + 1
 hp : ∀ d : DataW H, 1 ≤ ub d
namespace BulkFn
variable {H : Type} {ub : DataW H → Nat} {uba : List (DataW H) → Nat} (B : BulkFn ub uba)
include B
theorem mem {d : DataW H} : ∀ {l : List (DataW H)}, d ∈ l → ub d ≤ uba l
 | x :: l, h => by
  rw [B.h1]
  rcases List.mem_cons.1 h with rfl | h
  ·omega
  ·have := mem h; omega
theorem len {d : DataW H} {el sp : List (DataW H)} (h : Els d el sp) : el.length ≤ ub d := bulk_len ub uba B.h0 B.h1 B.hs B.hp h
end BulkFn
end Go.Fw
namespace Go.Fw
open Go Go.RowKit Go.Deep Go.WideShapes
section
variable {H : Type} {enc : TypeId × Value → H} {P : Program} {W : World} {t e e2 : TypeId}
theorem reads_hs {n : Nat} (ht : P.underlying t = some (.slice e)) (he : P.underlying e = some (.array n e2)) (he2 : P.underlying e2 = some (.int .u8)) (hs2 : P.cellsOf e2 = 1) (hs : P.cellsOf e = n) (hpos : 0 < n) (hb : P.bytesOf e = n) {m : Nat} {u : Value} {r : DataW H × List MemPlace} (h : reads enc P W m t [u] = some r) (hz : Fits P t r.1) :
  ∃ (A : Option Addr) (cap : Nat) (cells : List Value) (xs : List (Vector (BitVec 8) n)), u = .slice A xs.length cap ∧ View (fun w => Mem W w []) A xs.length cap n cells ∧ Reps (Ar8Rd (fun w => Mem W w [])) cells xs ∧ (∃ el sp, Els r.1 el sp ∧ el.length = xs.length) ∧ xs.length * n ≤ 140737488351232 := by
 obtain ⟨A, cap, xs, el, sp, h1, h2, h3, h4, h5, h6, h7, h8, h9, h10⟩ := cells_of_slice (α := Vector (BitVec 8) n) (fun x => u8s x.toList) (fun _ _ => True) n hs hpos (fun k cs r hl hr => by
  obtain ⟨x, rfl, hl⟩ := reads_arr8 he he2 hs2 hs hr
  exact ⟨⟨x.toArray, by simpa using hl⟩, rfl, trivial⟩) ht h
 have hw := (hz.slice ht h7).1
 rw [hb, h9] at hw
 have hc : cap * n ≤ 140737488351232 := by simpa [reachBytes] using hw
 have hle : xs.length * n ≤ cap * n := Nat.mul_le_mul_right n h2
 have hcap : cap ≤ cap * n := Nat.le_mul_of_pos_right _ hpos
 have hlen : ∀ l : List (Vector (BitVec 8) n), (l.flatMap fun x => u8s x.toList).length = l.length * n := fun l => by
  induction l with
  | nil => simp
  | cons x l ih => rw [List.flatMap_cons, List.length_append, ih, Z100, Zv, List.length_cons, Nat.add_mul]; omega
 refine ⟨A, cap, _, xs, h1, View.of_rd h6 (hlen xs) h2 (by omega), ?_, ⟨el, sp, h7, h8⟩, by omega⟩
 have := Reps.of_list (R := Ar8Rd (n := n) (fun w => Mem W w [])) (fun x : Vector (BitVec 8) n => u8s x.toList) (fun x => x) xs (fun x _ => rfl)
 rwa [List.map_id'] at this
structure LogTypes (P : Program) (tL tA tS tH tB t8 : TypeId) where
 fs : Array Field
 f0 : Field
 f1 : Field
 f2 : Field
 hL : P.underlying tL = some (.struct fs)
 h0 : fs[0]? = some f0
 h1 : fs[1]? = some f1
 h2 : fs[2]? = some f2
 o0 : f0.offset = 0
 o1 : f1.offset = 20
 o2 : f2.offset = 21
 y0 : f0.type = tA
 y1 : f1.type = tS
 y2 : f2.type = tB
 uA : P.underlying tA = some (.array 20 t8)
 uS : P.underlying tS = some (.slice tH)
 uH : P.underlying tH = some (.array 32 t8)
 uB : P.underlying tB = some (.slice t8)
 u8 : P.underlying t8 = some (.int .u8)
 cA : P.cellsOf tA = 20
 cS : P.cellsOf tS = 1
 cH : P.cellsOf tH = 32
 cB : P.cellsOf tB = 1
 c8 : P.cellsOf t8 = 1
 cL : P.cellsOf tL = 22
 b8 : P.bytesOf t8 = 1
 bH : P.bytesOf tH = 32
 bL : P.bytesOf tL = 72
def LogD (d : DataW H) (x : Log) : Prop := ∃ ds d0 d1 d2 el sp el2 sp2, d = .agg (d0 :: d1 :: d2 :: ds) ∧ Els d1 el sp ∧ el.length = x.topics.length ∧ Els d2 el2 sp2 ∧ el2.length = x.data.length
variable {tL tA tS tH tB t8 : TypeId}
theorem reads_log (T : LogTypes P tL tA tS tH tB t8) {n : Nat} {cs : List Value} {d : DataW H} {ps : List MemPlace} (hl : cs.length = 22) (hr : reads enc P W n tL cs = some (d, ps)) (hz : Fits P tL d) :
  ∃ x : Log, LogRd (fun w => Mem W w []) cs x ∧ LogD d x ∧ x.topics.length * 32 ≤ 140737488351232 ∧ x.data.length ≤ 140737488351232 := by
 obtain ⟨xs, m, hn, hx, hcl, hxl, hf⟩ := DataW.trod_struct T.hL hr
 have g0 := hf 0 T.f0 T.h0
 have g1 := hf 1 T.f1 T.h1
 have g2 := hf 2 T.f2 T.h2
 rw [T.o0, T.y0, T.cA] at g0
 rw [T.o1, T.y1, T.cS] at g1
 rw [T.o2, T.y2, T.cB] at g2
 have hsz : 2 < T.fs.size := (Array.getElem?_eq_some_iff.1 T.h2).1
 obtain ⟨x0, e0⟩ : ∃ x, xs[0]? = some x := ⟨_, List.getElem?_eq_getElem (by omega)⟩
 obtain ⟨x1, e1⟩ : ∃ x, xs[1]? = some x := ⟨_, List.getElem?_eq_getElem (by omega)⟩
 obtain ⟨x2, e2⟩ : ∃ x, xs[2]? = some x := ⟨_, List.getElem?_eq_getElem (by omega)⟩
 rw [e0, List.drop_zero] at g0; rw [e1] at g1; rw [e2] at g2
 have hd2 : d = .agg (xs.map (·.1)) := congrArg Prod.fst hx
 subst hd2
 have hz1 : Fits P tS x1.1 := by have := Fits.struct T.hL hz T.h1 (d := x1.1) (by simp [e1]); rwa [T.y1] at this
 have hz2 : Fits P tB x2.1 := by have := Fits.struct T.hL hz T.h2 (d := x2.1) (by simp [e2]); rwa [T.y2] at this
 obtain ⟨ad, ea, la⟩ := reads_arr8 T.uA T.u8 T.c8 T.cA g0
 obtain ⟨u1, hu1⟩ : ∃ u, (cs.drop 20).take 1 = [u] := List.length_eq_one_iff.1 (by rw [List.length_take, List.length_drop]; omega)
 obtain ⟨u2, hu2⟩ : ∃ u, (cs.drop 21).take 1 = [u] := List.length_eq_one_iff.1 (by rw [List.length_take, List.length_drop]; omega)
 rw [hu1] at g1; rw [hu2] at g2
 obtain ⟨A1, c1, cells1, ts, rfl, v1, r1, ⟨el, sp, hel, hlen⟩, m1⟩ := reads_hs T.uS T.uH T.u8 T.c8 T.cH (by decide) T.bH g1 hz1
 obtain ⟨A2, c2, x, rfl, v2, m2, el2, sp2, hel2, hlen2⟩ := reads_bs T.uB T.u8 T.c8 T.b8 g2 hz2
 obtain ⟨av, rfl⟩ : ∃ v : Vector (BitVec 8) 20, ad = v.toList := ⟨⟨ad.toArray, by simpa using la⟩, rfl⟩
 have hcs : cs = (⟨av, .slice A1 ts.length c1, .slice A2 x.length c2⟩ : LogC).C := by
  have h1 : cs = cs.take 20 ++ ((cs.drop 20).take 1 ++ (cs.drop 21).take 1) := by
   have h2 : (cs.drop 21).take 1 = cs.drop 21 := List.take_of_length_le (by rw [List.length_drop]; omega)
   have h3 : cs.drop 21 = (cs.drop 20).drop 1 := by rw [List.drop_drop]
   rw [h2, h3, List.take_append_drop, List.take_append_drop]
  rw [h1, ea, hu1, hu2]
  rfl
 have hD : LogD (H := H) (.agg (xs.map (·.1))) ⟨av, ts, x⟩ := by
  match xs, e0, e1, e2 with
  | [], e, _, _ => simp at e
  | [_], _, e, _ => simp at e
  | [_, _], _, _, e => simp at e
  | y0 :: y1 :: y2 :: r, _, e1, e2 =>
   simp at e1 e2
   subst e1 e2
   exact ⟨r.map (·.1), y0.1, _, _, el, sp, el2, sp2, rfl, hel, hlen, hel2, hlen2⟩
 refine ⟨⟨av, ts, x⟩, ?_, hD, m1, m2⟩
 rw [hcs]
 exact LogRd.mk v1 r1 v2
theorem reads_logs {tLs : TypeId} (T : LogTypes P tL tA tS tH tB t8) (uL : P.underlying tLs = some (.slice tL)) {n : Nat} {u : Value} {r : DataW H × List MemPlace} (h : reads enc P W n tLs [u] = some r) (hz : Fits P tLs r.1) :
  ∃ (A : Option Addr) (cap : Nat) (cells : List Value) (xs : List Log) (el sp : List (DataW H)), u = .slice A xs.length cap ∧ View (fun w => Mem W w []) A xs.length cap 22 cells ∧ Reps (LogRd (fun w => Mem W w [])) cells xs ∧ Els r.1 el sp ∧ el.length = xs.length ∧ xs.length * 72 ≤ 140737488351232 ∧
   (∀ x ∈ xs, x.topics.length * 32 ≤ 140737488351232 ∧ x.data.length ≤ 140737488351232) ∧ ∀ (i : Nat) x d, xs[i]? = some x → el[i]? = some d → LogD d x := by
 obtain ⟨A, cap, ys, el, sp, h1, h2, h3, h4, h5, h6, h7, h8, h9, h10⟩ := cells_of_slice (α := List Value) (fun u => u) (fun cs d => ∃ n ps, cs.length = 22 ∧ reads enc P W n tL cs = some (d, ps)) 22 T.cL (by omega) (fun n cs r hl hr => ⟨cs, rfl, n, r.2, hl, hr⟩) uL h
 have hw := hz.slice uL h7
 rw [T.bL, h9] at hw
 obtain ⟨xs, hlen, hq⟩ := list_of (Q := fun i x => ∃ cs d, ys[i]? = some cs ∧ el[i]? = some d ∧ LogRd (fun w => Mem W w []) cs x ∧ LogD d x ∧ x.topics.length * 32 ≤ 140737488351232 ∧ x.data.length ≤ 140737488351232) ys.length (fun i hi => by
  have hu : ys[i]? = some ys[i] := List.getElem?_eq_getElem hi
  have hd : el[i]? = some (el[i]'(by omega)) := List.getElem?_eq_getElem (by omega)
  obtain ⟨n, ps', hl, hr⟩ := h10 i _ _ hu hd
  obtain ⟨x, e1, e2, e3, e4⟩ := reads_log T hl hr (hw.2 _ (List.mem_of_getElem? hd))
  exact ⟨x, _, _, hu, hd, e1, e2, e3, e4⟩)
 have hreps : ∀ (ys : List (List Value)) (xs : List Log), xs.length = ys.length → (∀ (i : Nat) (x : Log), xs[i]? = some x → ∃ cs, ys[i]? = some cs ∧ LogRd (fun w => Mem W w []) cs x) → Reps (LogRd (fun w => Mem W w [])) (ys.flatMap fun u => u) xs := by
  intro ys
  induction ys with
  | nil => intro its hl _; cases its with | nil => exact .nil | cons _ _ => simp at hl
  | cons y ys ih =>
   intro its hl hq
   cases its with
   | nil => simp at hl
   | cons it its =>
    obtain ⟨cs, e1, e2⟩ := hq 0 it rfl
    simp at e1
    subst e1
    rw [List.flatMap_cons]
    exact .cons e2 (ih its (by simpa using hl) (fun i x hx => by simpa using hq (i + 1) x (by simpa using hx)))
 have hc : cap * 72 ≤ 140737488351232 := by simpa [reachBytes] using hw.1
 have hR := hreps ys xs hlen (fun i x hx => by obtain ⟨cs, d, e1, _, e3, _⟩ := hq i x hx; exact ⟨cs, e1, e3⟩)
 refine ⟨A, cap, _, xs, el, sp, by rw [hlen]; exact h1, View.of_rd h6 (hR.len LogRd.len) (by omega) (by omega), hR, h7, by omega, by omega, fun x hx => ?_, fun i x d hx hd => ?_⟩
 ·obtain ⟨i, hi⟩ := List.getElem?_of_mem hx
  obtain ⟨_, _, _, _, _, _, e5, e6⟩ := hq i x hi
  exact ⟨e5, e6⟩
 ·obtain ⟨cs, d', _, e2', _, e4, _⟩ := hq i x hx
  obtain rfl : d = d' := Zi (hd.symm.trans e2')
  exact e4
end
end Go.Fw
namespace Go.Fw
open Go
abbrev hs32 (l : List (Vector (BitVec 8) 32)) : List Value := l.flatMap fun x => u8s x.toList
theorem hs32_length (l : List (Vector (BitVec 8) 32)) : (hs32 l).length = l.length * 32 := by
 induction l with
 | nil => rfl
 | cons x l ih => rw [hs32, List.flatMap_cons, List.length_append, Z100, Zv, List.length_cons, Nat.add_mul, show (l.flatMap fun x => u8s x.toList).length = l.length * 32 from ih]; omega
theorem hs32_reps {Φ : Ctx} (l : List (Vector (BitVec 8) 32)) : Reps (Ar8Rd Φ) (hs32 l) l := by
 have := Reps.of_list (R := Ar8Rd (n := 32) Φ) (fun x : Vector (BitVec 8) 32 => u8s x.toList) (fun x => x) l (fun x _ => rfl)
 rwa [List.map_id'] at this
structure Lg where
 a : Vector (BitVec 8) 20
 tb : Option Nat
 t : List (Vector (BitVec 8) 32)
 tc : Nat
 tr : List Value
 db : Option Nat
 d : List (BitVec 8)
 dc : Nat
 dr : List Value
def Lg.val (g : Lg) : Log := ⟨g.a, g.t, g.d⟩
def Lg.cell (g : Lg) : LogC := ⟨g.a, sl g.tb 0 g.t.length g.tc, sl g.db 0 g.d.length g.dc⟩
def Lg.cells (g : Lg) : List Value := g.cell.C
def Lg.ents (tH tB : TypeId) (g : Lg) : List Ent := [(g.tb, blk (hs32 g.t ++ g.tr) tH), (g.db, blk (u8s g.d ++ g.dr) tB)]
structure Lg.Ok (g : Lg) : Prop where
 t : OwnS g.tb g.t.length g.tc 32 (hs32 g.t) g.tr
 d : OwnS g.db g.d.length g.dc 1 (u8s g.d) g.dr
theorem Lg.cells_one (g : Lg) : ∀ u ∈ g.cells, u.oneCell' = true := LogC.C_one _ rfl rfl
theorem Lg.rd {w0 : World} {Φ : Ctx} {tH tB : TypeId} {g : Lg} (ok : g.Ok) (h : ∀ w, Φ w → Mem w0 w (g.ents tH tB)) : LogRd Φ g.cells g.val := by
 have h1 := ok.t.view (te := tH) (w0 := w0) (Ψ := Φ) (by decide) (fun w q => (h w q).sublist (by unfold Lg.ents; exact List.Sublist.cons_cons _ (List.nil_sublist _)))
 have h2 := ok.d.view (te := tB) (w0 := w0) (Ψ := Φ) (by decide) (fun w q => (h w q).tail)
 exact LogRd.mk h1 (hs32_reps _) h2
def lgs (tH tB : TypeId) (l : List Lg) : List Ent := l.flatMap (Lg.ents tH tB)
def lgC (l : List Lg) : List Value := l.flatMap Lg.cells
theorem lgs_reps {w0 : World} {Φ : Ctx} {tH tB : TypeId} : ∀ {l : List Lg}, (∀ g ∈ l, g.Ok) → (∀ w, Φ w → Mem w0 w (lgs tH tB l)) → Reps (LogRd Φ) (lgC l) (l.map Lg.val)
 | [], _, _ => .nil
 | g :: l, ok, h => by
  have h1 : LogRd Φ g.cells g.val := Lg.rd (tH := tH) (tB := tB) (ok g (List.mem_cons_self ..)) (fun w q => (h w q).appL)
  have h2 := lgs_reps (l := l) (fun x hx => ok x (List.mem_cons_of_mem _ hx)) (fun w q => (h w q).appR)
  exact .cons h1 h2
end Go.Fw
namespace Go.Fw
def Log.zero : Log := ⟨Vector.replicate 20 0#8, [], []⟩
def Rcpt.zero : Rcpt := ⟨0, false, Vector.replicate 32 0#8, 0#64, 0#64, Vector.replicate 256 0#8, []⟩
abbrev RcptZ : RcptC := ⟨0, false, Vector.replicate 32 0#8, 0#64, 0#64, Vector.replicate 256 0#8, .slice none 0 0⟩
end Go.Fw
namespace Go.Fw.Tryd
open Go Go.Proofs Go.Fw
def DecO (w0 : World) (x : Rcpt) (e : Int) : Value → List Ent → Prop := fun v G => ∃ (gs : List Lg) (ob : Option Nat) (c : Nat) (r : List Value) (B : List Ent), (∀ g ∈ gs, g.Ok) ∧ OwnS ob gs.length c 22 (lgC gs) r ∧ gs.map Lg.val = x.logs ∧ (-9223372036854775808 ≤ e ∧ e ≤ 9223372036854775807) ∧ (-9223372036854775808 ≤ x.kind ∧ x.kind ≤ 9223372036854775807) ∧
 v = .tuple #[.agg (⟨x.kind, x.rooted, x.root, x.status, x.used, x.bloom, sl ob 0 gs.length c⟩ : RcptC).C.toArray, .int .i64 e] ∧ G = (ob, blk (lgC gs ++ r) 63) :: (lgs 24 5 gs ++ B)
theorem DecO.zero {w0 : World} {e : Int} (he : -9223372036854775808 ≤ e ∧ e ≤ 9223372036854775807) (B : List Ent) : DecO w0 Rcpt.zero e (.tuple #[.agg RcptZ.C.toArray, .int .i64 e]) ((none, blk [] 63) :: B) :=
 ⟨[], none, 0, [], B, (fun g hg => by cases hg), OwnS.nil, rfl, he, (by show _ ≤ (0 : Int) ∧ (0 : Int) ≤ _; omega), rfl, rfl⟩
theorem DecO.rd {w0 : World} {Φ : Ctx} {x : Rcpt} {e : Int} {v : Value} {G : List Ent} (h : DecO w0 x e v G) : ∃ B : List Ent, ∃ cr0 : List Value, RcptRd (More w0 Φ B) cr0 x ∧ (-9223372036854775808 ≤ e ∧ e ≤ 9223372036854775807) ∧ v = .tuple #[.agg cr0.toArray, .int .i64 e] ∧ G = B := by
 obtain ⟨gs, ob, c, r, B, hok, ho, hv, he, hk, rfl, rfl⟩ := h
 refine ⟨_, _, ?_, he, rfl, rfl⟩
 have hvl := ho.view (te := 63) (w0 := w0) (Ψ := More w0 Φ ((ob, blk (lgC gs ++ r) 63) :: (lgs 24 5 gs ++ B))) (by decide) (fun w q => q.2.sublist (List.singleton_sublist.2 (List.mem_cons_self ..)))
 have hrl := lgs_reps (w0 := w0) (Φ := More w0 Φ ((ob, blk (lgC gs ++ r) 63) :: (lgs 24 5 gs ++ B))) (tH := 24) (tB := 5) hok (fun w q => q.2.tail.appL)
 obtain ⟨k, ro, rt, st, us, bl, lg⟩ := x
 dsimp only at hv hk ⊢
 subst hv
 have hvl2 : View (More w0 Φ ((ob, blk (lgC gs ++ r) 63) :: (lgs 24 5 gs ++ B))) (ob.map fun k => ⟨k, 0, none⟩) (gs.map Lg.val).length c 22 (lgC gs) := by rw [List.length_map]; exact hvl
 have := RcptRd.mk (kind := k) (rooted := ro) (root := rt) (status := st) (used := us) (bloom := bl) (logs := gs.map Lg.val) hk hvl2 hrl
 rw [List.length_map] at this
 exact this
end Go.Fw.Tryd
namespace Go.Fw
open Go
def mk20 : Vector (BitVec 8) 20 := (Vector.replicate 20 0#8).setIfInBounds 0 195#8
def mk32 : Vector (BitVec 8) 32 := (Vector.replicate 32 0#8).setIfInBounds 0 195#8
abbrev LogZ0 : LogC := ⟨Vector.replicate 20 0#8, .slice none 0 0, .slice none 0 0⟩
abbrev LgMk : LogC := ⟨mk20, .slice none 0 0, .slice none 0 0⟩
theorem OwnS.full {ob : Option Nat} {len cap s : Nat} {cells r : List Value} (h : OwnS ob len cap s cells r) (hm : cap ≤ 140737488355328) : OwnS ob cap cap s (cells ++ r) [] := ⟨h.hr, by rw [List.append_nil]; exact h.hr, h.hn, hm⟩
structure LgM (g : Lg) : Prop where
 ok : g.Ok
 tc : g.tc = g.t.length + 1
 tr : g.tr = u8s mk32.toList
 dc : g.dc = g.d.length + 70
 dr : g.dr = u8s (List.replicate 70 195#8) ++ []
 tm : g.t.length + 1 ≤ 140737488355328
 dm : g.d.length + 70 ≤ 140737488355328
def LmRd (Φ : Ctx) (cs : List Value) (x : Log) : Prop := ∃ (A1 A2 : Option Addr), cs = (⟨x.address, .slice A1 x.topics.length (x.topics.length + 1), .slice A2 x.data.length (x.data.length + 70)⟩ : LogC).C ∧
 View Φ A1 (x.topics.length + 1) (x.topics.length + 1) 32 (hs32 x.topics ++ u8s mk32.toList) ∧ View Φ A2 (x.data.length + 70) (x.data.length + 70) 1 (u8s (x.data ++ List.replicate 70 195#8))
theorem LmRd.mono {Φ Ψ : Ctx} (hh : ∀ w, Ψ w → Φ w) (cs : List Value) (x : Log) : LmRd Φ cs x → LmRd Ψ cs x := fun ⟨A1, A2, e, v1, v2⟩ => ⟨A1, A2, e, v1.mono hh, v2.mono hh⟩
theorem LmRd.len {Φ : Ctx} (cs : List Value) (x : Log) (h : LmRd Φ cs x) : cs.length = 22 := by
 obtain ⟨A1, A2, e, _, _⟩ := h
 rw [e]; exact LogC.C_length _
theorem LmRd.one {Φ : Ctx} (cs : List Value) (x : Log) (h : LmRd Φ cs x) : ∀ u ∈ cs, u.oneCell' = true := by
 obtain ⟨A1, A2, e, _, _⟩ := h
 rw [e]; exact LogC.C_one _ rfl rfl
theorem LmRd.log {Φ : Ctx} (cs : List Value) (x : Log) (h : LmRd Φ cs x) : LogRd Φ cs x := by
 obtain ⟨A1, A2, rfl, v1, v2⟩ := h
 have h1 := v1.hi (k := x.topics.length) (by omega)
 rw [List.take_append_of_le_length (by rw [hs32_length]; omega), List.take_of_length_le (by rw [hs32_length]; omega)] at h1
 have h2 := v2.hi (k := x.data.length) (by omega)
 rw [Nat.mul_one, show (u8s (x.data ++ List.replicate 70 195#8)).take x.data.length = u8s x.data by simp [u8s]] at h2
 exact LogRd.mk h1 (hs32_reps _) h2
theorem LgM.rd {w0 : World} {Φ : Ctx} {tH tB : TypeId} {g : Lg} (h : LgM g) (hm : ∀ w, Φ w → Mem w0 w (g.ents tH tB)) : LmRd Φ g.cells g.val := by
 obtain ⟨a, tb, t, tc, tr, db, d, dc, dr⟩ := g
 obtain ⟨ok, e1, e2, e3, e4, m1, m2⟩ := h
 obtain ⟨ok1, ok2⟩ := ok
 dsimp only at e1 e2 e3 e4 m1 m2 ok1 ok2
 subst e1 e2 e3 e4
 refine ⟨_, _, rfl, ?_, ?_⟩
 ·have := (ok1.full m1).view (te := tH) (w0 := w0) (Ψ := Φ) (by decide) (fun w q => by rw [List.append_nil]; exact (hm w q).sublist (by unfold Lg.ents; exact List.Sublist.cons_cons _ (List.nil_sublist _)))
  exact this
 ·have := (ok2.full m2).view (te := tB) (w0 := w0) (Ψ := Φ) (by decide) (fun w q => by rw [List.append_nil]; exact (hm w q).tail)
  rw [List.append_nil, u8s_app] at this
  exact this
def LRooms (Φ : Ctx) (A : Option Addr) (c : Nat) (x : List Log) : Prop := ∃ cs : List Value, View Φ A (x.length + 1) c 22 (cs ++ LgMk.C) ∧ Reps (LmRd Φ) cs x
theorem LRooms.mono {Φ Ψ : Ctx} {A : Option Addr} {c : Nat} {x : List Log} (h : LRooms Φ A c x) (hh : ∀ w, Ψ w → Φ w) : LRooms Ψ A c x := by
 obtain ⟨cs, v, r⟩ := h
 exact ⟨cs, v.mono hh, r.mono (LmRd.mono hh)⟩
theorem LRooms.opn {Φ : Ctx} {A : Option Addr} {c : Nat} {x : List Log} (h : LRooms Φ A c x) : ∃ cs : List Value, View Φ A (x.length + 1) c 22 (cs ++ LgMk.C) ∧ View Φ A x.length c 22 cs ∧ Reps (LmRd Φ) cs x := by
 obtain ⟨cs, v, r⟩ := h
 have h1 := v.hi (k := x.length) (by omega)
 have hl := r.len LmRd.len
 rw [List.take_append_of_le_length (by omega), List.take_of_length_le (by omega)] at h1
 exact ⟨cs, v, h1, r⟩
theorem LRooms.mk {Φ : Ctx} {A : Option Addr} {c : Nat} {x : List Log} {cs : List Value} (v : View Φ A (x.length + 1) c 22 (cs ++ LgMk.C)) (r : Reps (LmRd Φ) cs x) : LRooms Φ A c x := ⟨cs, v, r⟩
end Go.Fw
namespace Go.Fw
open Go
abbrev ars {n : Nat} (l : List (Vector (BitVec 8) n)) : List Value := l.flatMap fun x => u8s x.toList
theorem ars_length {n : Nat} (l : List (Vector (BitVec 8) n)) : (ars l).length = l.length * n := by
 induction l with
 | nil => simp [ars]
 | cons x l ih => rw [ars, List.flatMap_cons, List.length_append, Z100, Zv, List.length_cons, Nat.add_mul, show (l.flatMap fun x => u8s x.toList).length = l.length * n from ih]; omega
theorem ars_one {n : Nat} (l : List (Vector (BitVec 8) n)) : ∀ u ∈ ars l, u.oneCell' = true := by
 intro u hu
 obtain ⟨x, _, hx⟩ := List.mem_flatMap.1 hu
 exact u8s_one _ u hx
theorem ars_app {n : Nat} (a b : List (Vector (BitVec 8) n)) : ars (a ++ b) = ars a ++ ars b := List.flatMap_append ..
theorem ars_two {n : Nat} (m : Vector (BitVec 8) n) : ars [m, m] = u8s m.toList ++ u8s m.toList := by simp [ars]
theorem ars_reps {n : Nat} {Φ : Ctx} (l : List (Vector (BitVec 8) n)) : Reps (Ar8Rd Φ) (ars l) l := by
 have := Reps.of_list (R := Ar8Rd (n := n) Φ) (fun x : Vector (BitVec 8) n => u8s x.toList) (fun x => x) l (fun x _ => rfl)
 rwa [List.map_id'] at this
theorem ars_of {n : Nat} {Φ : Ctx} : ∀ {cs : List Value} {l : List (Vector (BitVec 8) n)}, Reps (Ar8Rd Φ) cs l → cs = ars l
 | _, [], h => by cases h; rfl
 | _, x :: l, h => by
  cases h with
  | cons h1 h2 =>
   have e1 : _ = u8s x.toList := h1
   rw [e1, ars_of h2]
   rfl
theorem ars_at {n : Nat} (l r : List (Vector (BitVec 8) n)) (x : Vector (BitVec 8) n) : ∀ j u, (u8s x.toList)[j]? = some u → (ars (l ++ x :: r))[l.length * n + j]? = some u := fun j u hj => by
 rw [ars_app, List.getElem?_append_right (by rw [ars_length]; omega), ars_length, show l.length * n + j - l.length * n = j by omega, ars, List.flatMap_cons, List.getElem?_append_left (List.getElem?_eq_some_iff.1 hj).1]
 exact hj
theorem ars_get {n : Nat} {l : List (Vector (BitVec 8) n)} {i : Nat} {x : Vector (BitVec 8) n} (h : l[i]? = some x) : ∀ j u, (u8s x.toList)[j]? = some u → (ars l)[i * n + j]? = some u := fun j u hj => by
 obtain ⟨hi, rfl⟩ := List.getElem?_eq_some_iff.1 h
 have e : l = l.take i ++ l[i] :: l.drop (i + 1) := by rw [← List.drop_eq_getElem_cons hi, List.take_append_drop]
 have := ars_at (l.take i) (l.drop (i + 1)) l[i] j u hj
 rw [← e, List.length_take, Nat.min_eq_left (by omega)] at this
 exact this
def markH : Vector (BitVec 8) 32 := ((Vector.replicate 32 0#8).setIfInBounds 0 165#8).setIfInBounds 1 90#8
def markA : Vector (BitVec 8) 20 := ((Vector.replicate 20 0#8).setIfInBounds 0 165#8).setIfInBounds 1 90#8
def HRoom {n : Nat} (m : Vector (BitVec 8) n) (Φ : Ctx) (A : Option Addr) (c : Nat) (x : List (Vector (BitVec 8) n)) : Prop := View Φ A (x.length + 2) c n (ars (x ++ [m, m]))
theorem HRoom.mono {n : Nat} {m : Vector (BitVec 8) n} {Φ Ψ : Ctx} {A : Option Addr} {c : Nat} {x : List (Vector (BitVec 8) n)} (h : HRoom m Φ A c x) (hh : ∀ w, Ψ w → Φ w) : HRoom m Ψ A c x := View.mono h hh
theorem HRoom.view {n : Nat} {m : Vector (BitVec 8) n} {Φ : Ctx} {A : Option Addr} {c : Nat} {x : List (Vector (BitVec 8) n)} (h : HRoom m Φ A c x) : View Φ A x.length c n (ars x) := by
 have h1 := View.hi h (k := x.length) (by omega)
 rw [ars_app, List.take_append_of_le_length (by rw [ars_length]; omega), List.take_of_length_le (by rw [ars_length]; omega)] at h1
 exact h1
def lentAr {n : Nat} (x : List (Vector (BitVec 8) n)) : Option (List (Vector (BitVec 8) n)) := if (x.length + 2) * n ≤ 140737488355328 then some x else none
def HmRd (Φ : Ctx) (cs : List Value) (x : List (Vector (BitVec 8) 32)) : Prop := ∃ A c, cs = [.slice A x.length c] ∧ HRoom markH Φ A c x
theorem HmRd.mono {Φ Ψ : Ctx} (hh : ∀ w, Ψ w → Φ w) (cs : List Value) (x : List (Vector (BitVec 8) 32)) : HmRd Φ cs x → HmRd Ψ cs x := fun ⟨A, c, e, v⟩ => ⟨A, c, e, v.mono hh⟩
theorem HmRd.len {Φ : Ctx} (cs : List Value) (x : List (Vector (BitVec 8) 32)) (h : HmRd Φ cs x) : cs.length = 1 := by obtain ⟨A, c, rfl, _⟩ := h; rfl
theorem HmRd.hs {Φ : Ctx} (cs : List Value) (x : List (Vector (BitVec 8) 32)) (h : HmRd Φ cs x) : HsRd Φ cs x := by
 obtain ⟨A, c, rfl, v⟩ := h
 exact HsRd.mk v.view (ars_reps _)
end Go.Fw
namespace Go.Fw
def waybillplay_Copy (a0 : List (BitVec 8)) : Option ((List (BitVec 8))) := (some a0)
def waybillplay_Lent.l1 : Nat → (List (BitVec 8)) → (Nat) → Option ((List (BitVec 8)))
 | 0, _, _ => none
 | k37 + 1, l30, n35 => (if n35 < 70 then (if l30.length + ([165#8] : List (BitVec 8)).length ≤ 140737488355328 then (waybillplay_Lent.l1 k37 (l30 ++ ([165#8] : List (BitVec 8))) (n35 + 1)) else none) else (some (l30)))
def waybillplay_Lent (a0 : List (BitVec 8)) : Option ((List (BitVec 8))) := ((waybillplay_Copy a0).bind fun x3 => (((waybillplay_Lent.l1 (70 - 0 + 2) x3 0) : Option ((List (BitVec 8)))).bind fun l16 => (if a0.length ≤ l16.length then (if l16.drop a0.length = List.replicate 70 165#8 then (some (l16.take a0.length)) else none) else none)))
def waybillplay_Same.l1 (a0 : List (BitVec 8)) (a1 : List (BitVec 8)) : Nat → (Nat) → Option (Lp ((Bool)) (Unit))
 | 0, _ => none
 | k13 + 1, n11 => (if n11 < a0.length then (a0[n11]?).bind fun x21 => (a1[n11]?).bind fun x24 => (if x21 = x24 then (waybillplay_Same.l1 a0 a1 k13 (n11 + 1)) else (some (Lp.ret (some false)))) else (some (Lp.go ())))
def waybillplay_Same (a0 : List (BitVec 8)) (a1 : List (BitVec 8)) : Option ((Bool)) := (if a0.length = a1.length then (((waybillplay_Same.l1 a0 a1 (a0.length - 0 + 2) 0) : Option (Lp ((Bool)) (Unit))).bind fun | .ret o => o | .go () => (some true)) else (some false))
def waybillplay_Still.l1 (a0 : List (BitVec 8)) (a1 : List (BitVec 8)) : Nat → (Nat) → Option (Lp ((Bool)) (Unit))
 | 0, _ => none
 | k21 + 1, n19 => (if n19 < 70 then (((a0 ++ List.replicate 70 165#8).take (a1.length + 70))[(a1.length + n19)]?).bind fun x29 => (if x29 = 165#8 then (waybillplay_Still.l1 a0 a1 k21 (n19 + 1)) else (some (Lp.ret (some false)))) else (some (Lp.go ())))
def waybillplay_Still (a0 : List (BitVec 8)) (a1 : List (BitVec 8)) : Option ((Bool)) := (if a0.length = a1.length then (if (a1.length + 70) ≤ (a0 ++ List.replicate 70 165#8).length then (((waybillplay_Still.l1 a0 a1 (70 - 0 + 2) 0) : Option (Lp ((Bool)) (Unit))).bind fun | .ret o => o | .go () => ((waybillplay_Same a0 a1).bind fun x16 => (some (x16)))) else none) else (some false))
end Go.Fw
namespace Go.Fw
open Go
def LmRd2 (Φ : Ctx) (cs : List Value) (x : Log) : Prop := ∃ (A1 : Option Addr) (c1 : Nat) (A2 : Option Addr) (c2 : Nat), cs = (⟨x.address, .slice A1 x.topics.length c1, .slice A2 x.data.length c2⟩ : LogC).C ∧
 HRoom markH Φ A1 c1 x.topics ∧ View Φ A2 (x.data ++ List.replicate 70 165#8).length c2 1 (u8s (x.data ++ List.replicate 70 165#8))
theorem LmRd2.mono {Φ Ψ : Ctx} (hh : ∀ w, Ψ w → Φ w) (cs : List Value) (x : Log) : LmRd2 Φ cs x → LmRd2 Ψ cs x := fun ⟨A1, c1, A2, c2, e, v1, v2⟩ => ⟨A1, c1, A2, c2, e, v1.mono hh, v2.mono hh⟩
theorem LmRd2.len {Φ : Ctx} (cs : List Value) (x : Log) (h : LmRd2 Φ cs x) : cs.length = 22 := by
 obtain ⟨A1, c1, A2, c2, e, _, _⟩ := h
 rw [e]; exact LogC.C_length _
theorem LmRd2.log {Φ : Ctx} (cs : List Value) (x : Log) (h : LmRd2 Φ cs x) : LogRd Φ cs x := by
 obtain ⟨A1, c1, A2, c2, rfl, v1, v2⟩ := h
 have h2 := v2.hi (k := x.data.length) (by rw [List.length_append]; omega)
 rw [Nat.mul_one, show (u8s (x.data ++ List.replicate 70 165#8)).take x.data.length = u8s x.data by simp [u8s]] at h2
 exact LogRd.mk v1.view (ars_reps _) h2
abbrev LgMk2 : LogC := ⟨markA, .slice none 0 0, .slice none 0 0⟩
def MLogs (Φ : Ctx) (A : Option Addr) (c : Nat) (x : List Log) : Prop := ∃ cs : List Value, View Φ A (x.length + 2) c 22 (cs ++ (LgMk2.C ++ LgMk2.C)) ∧ Reps (LmRd2 Φ) cs x
theorem MLogs.mono {Φ Ψ : Ctx} {A : Option Addr} {c : Nat} {x : List Log} (h : MLogs Φ A c x) (hh : ∀ w, Ψ w → Φ w) : MLogs Ψ A c x := by
 obtain ⟨cs, v, r⟩ := h
 exact ⟨cs, v.mono hh, r.mono (LmRd2.mono hh)⟩
theorem MLogs.opn {Φ : Ctx} {A : Option Addr} {c : Nat} {x : List Log} (h : MLogs Φ A c x) : ∃ cs : List Value, View Φ A (x.length + 2) c 22 (cs ++ (LgMk2.C ++ LgMk2.C)) ∧ View Φ A x.length c 22 cs ∧ Reps (LmRd2 Φ) cs x := by
 obtain ⟨cs, v, r⟩ := h
 have h1 := v.hi (k := x.length) (by omega)
 have hl := r.len LmRd2.len
 rw [List.take_append_of_le_length (by omega), List.take_of_length_le (by omega)] at h1
 exact ⟨cs, v, h1, r⟩
def RgRd (Φ : Ctx) (cs : List Value) (r : Rcpt) : Prop := ∃ (A : Option Addr) (c : Nat), cs = (⟨r.kind, r.rooted, r.root, r.status, r.used, r.bloom, .slice A r.logs.length c⟩ : RcptC).C ∧ (-9223372036854775808 ≤ r.kind ∧ r.kind ≤ 9223372036854775807) ∧ MLogs Φ A c r.logs
theorem RgRd.mono {Φ Ψ : Ctx} (hh : ∀ w, Ψ w → Φ w) (cs : List Value) (r : Rcpt) : RgRd Φ cs r → RgRd Ψ cs r := fun ⟨A, c, e, k, m⟩ => ⟨A, c, e, k, m.mono hh⟩
theorem RgRd.len {Φ : Ctx} (cs : List Value) (r : Rcpt) (h : RgRd Φ cs r) : cs.length = 293 := by
 obtain ⟨A, c, e, _, _⟩ := h
 rw [e]; exact RcptC.C_length _
theorem RgRd.one {Φ : Ctx} (cs : List Value) (r : Rcpt) (h : RgRd Φ cs r) : ∀ u ∈ cs, u.oneCell' = true := by
 obtain ⟨A, c, e, _, _⟩ := h
 rw [e]; exact RcptC.C_one _ rfl
theorem RgRd.rcpt {Φ : Ctx} (cs : List Value) (r : Rcpt) (h : RgRd Φ cs r) : RcptRd Φ cs r := by
 obtain ⟨A, c, rfl, k, m⟩ := h
 obtain ⟨cs, _, v, rr⟩ := m.opn
 exact RcptRd.mk k v (rr.mono LmRd2.log)
theorem mem_re {w0 w : World} {e bn b6 : Ent} {C G1 G2 B N : List Ent} (m : Mem w0 w (e :: bn :: (G2 ++ (G1 ++ (b6 :: (C ++ (B ++ N))))))) : Mem w0 w (e :: (C ++ ((G2 ++ (G1 ++ B)) ++ N))) := by
 have m1 : Mem w0 w (e :: (G2 ++ (G1 ++ (C ++ (B ++ N))))) := m.sublist (List.Sublist.cons_cons _ (List.Sublist.cons _ (List.Sublist.append (List.Sublist.refl _) (List.Sublist.append (List.Sublist.refl _) (List.sublist_cons_self _ _)))))
 refine m1.perm (List.Perm.cons _ ?_)
 have p1 : List.Perm (G1 ++ (C ++ (B ++ N))) (C ++ (G1 ++ (B ++ N))) := List.perm_append_comm_assoc G1 C _
 refine (List.Perm.append_left G2 p1).trans ((List.perm_append_comm_assoc G2 C _).trans ?_)
 rw [List.append_assoc, List.append_assoc]
def LgFit (r : Rcpt) : Prop := (r.logs.length + 2) * 72 ≤ 140737488355328 ∧ ∀ x ∈ r.logs, (x.topics.length + 2) * 32 ≤ 140737488355328 ∧ x.data.length + 70 ≤ 140737488355328
theorem lentPlay_l1 (a : List (BitVec 8)) (ha : a.length + 70 ≤ 140737488355328) : ∀ (d n k : Nat), n + d = 70 → d < k → waybillplay_Lent.l1 k (a ++ List.replicate n 165#8) n = some (a ++ List.replicate 70 165#8)
 | 0, n, k, h, hk => by
  obtain ⟨k, rfl⟩ : ∃ m, k = m + 1 := ⟨k - 1, by omega⟩
  rw [waybillplay_Lent.l1, if_neg (by omega), show n = 70 by omega]
 | d + 1, n, k, h, hk => by
  obtain ⟨k, rfl⟩ : ∃ m, k = m + 1 := ⟨k - 1, by omega⟩
  rw [waybillplay_Lent.l1, if_pos (by omega), if_pos (by simp only [List.length_append, List.length_replicate, List.length_cons, List.length_nil]; omega), List.append_assoc, show List.replicate n 165#8 ++ [165#8] = List.replicate (n + 1) 165#8 from (List.replicate_succ' ..).symm]
  exact lentPlay_l1 a ha d (n + 1) k (by omega) (by omega)
theorem lentPlay_eq (a : List (BitVec 8)) (ha : a.length + 70 ≤ 140737488355328) : waybillplay_Lent a = some a := by
 have h := lentPlay_l1 a ha 70 0 (70 - 0 + 2) (by omega) (by omega)
 rw [List.replicate_zero, List.append_nil] at h
 unfold waybillplay_Lent waybillplay_Copy
 rw [Zb, h, Zb, if_pos (by rw [List.length_append]; omega), if_pos (List.drop_left ..), List.take_left]
theorem stillPlay_l1 (a : List (BitVec 8)) : ∀ (d n k : Nat), n + d = 70 → d < k → waybillplay_Still.l1 a a k n = some (Lp.go ())
 | 0, n, k, h, hk => by
  obtain ⟨k, rfl⟩ : ∃ m, k = m + 1 := ⟨k - 1, by omega⟩
  rw [waybillplay_Still.l1, if_neg (by omega)]
 | d + 1, n, k, h, hk => by
  obtain ⟨k, rfl⟩ : ∃ m, k = m + 1 := ⟨k - 1, by omega⟩
  rw [waybillplay_Still.l1, if_pos (by omega), List.take_of_length_le (by rw [List.length_append, List.length_replicate]; omega), List.getElem?_append_right (by omega), List.getElem?_replicate, if_pos (by omega), Zb, if_pos rfl]
  exact stillPlay_l1 a d (n + 1) k (by omega) (by omega)
theorem samePlay_l1 (a : List (BitVec 8)) : ∀ (d n k : Nat), n + d = a.length → d < k → waybillplay_Same.l1 a a k n = some (Lp.go ())
 | 0, n, k, h, hk => by
  obtain ⟨k, rfl⟩ : ∃ m, k = m + 1 := ⟨k - 1, by omega⟩
  rw [waybillplay_Same.l1, if_neg (by omega)]
 | d + 1, n, k, h, hk => by
  obtain ⟨k, rfl⟩ : ∃ m, k = m + 1 := ⟨k - 1, by omega⟩
  rw [waybillplay_Same.l1, if_pos (by omega), List.getElem?_eq_getElem (by omega), Zb, Zb, if_pos rfl]
  exact samePlay_l1 a d (n + 1) k (by omega) (by omega)
theorem stillPlay_eq (a : List (BitVec 8)) : waybillplay_Still a a = some true := by
 unfold waybillplay_Still waybillplay_Same
 rw [if_pos rfl, if_pos (by rw [List.length_append, List.length_replicate]; omega), stillPlay_l1 a 70 0 _ (by omega) (by omega), Zb]
 dsimp only
 rw [if_pos rfl, samePlay_l1 a a.length 0 _ (by omega) (by omega), Zb]
 rfl
end Go.Fw
namespace Go.Fw
def be : Nat → Nat → List (BitVec 8)
 | 0, _ => []
 | k + 1, n => BitVec.ofNat 8 (n / 256 ^ k) :: be k n
def bl (n : Nat) : Nat := if n = 0 then 0 else n.log2 + 1
end Go.Fw
namespace Go.Fw
def nb (n : Nat) : Nat := (bl n + 7) / 8
def bytesN (n : Nat) : List (BitVec 8) := be (nb n) n
end Go.Fw
namespace Go.Fw
def small (s : List (BitVec 8)) (h : Nat) : Bool := match s[h]? with
 | some x => decide (x.toNat < 128)
 | none => false
end Go.Fw
namespace Go.Fw
def headB (c n : Nat) : List (BitVec 8) := if n ≤ 55 then [BitVec.ofNat 8 (c + n)] else BitVec.ofNat 8 (c + 55 + nb n) :: bytesN n
end Go.Fw
namespace Go.Fw
mutual
def It.wt : It → Nat
 | .mk _ d its => d.length + its.length + 1 + Its.wt its
def Its.wt : List It → Nat
 | [] => 0
 | x :: xs => It.wt x + Its.wt xs
end
end Go.Fw
namespace Go.Fw
def oneB (d : List (BitVec 8)) : Bool := decide (d.length = 1) && small d 0
mutual
def It.enc : It → List (BitVec 8)
 | .mk l d its => if l = true then headB 192 (Its.enc its).length ++ Its.enc its else if oneB d = true then d else headB 128 d.length ++ d
def Its.enc : List It → List (BitVec 8)
 | [] => []
 | x :: xs => It.enc x ++ Its.enc xs
end
end Go.Fw
namespace Go.Fw
theorem same17_loop (a : List (BitVec 8)) : ∀ (d i k : Nat), i + d = a.length → d < k → waybilllaw17_same.l1 a a k i = some (Lp.go ())
 | 0, i, k, h, hk => by
  obtain ⟨k, rfl⟩ : ∃ m, k = m + 1 := ⟨k - 1, by omega⟩
  rw [waybilllaw17_same.l1, if_neg (by omega)]
 | d + 1, i, k, h, hk => by
  obtain ⟨k, rfl⟩ : ∃ m, k = m + 1 := ⟨k - 1, by omega⟩
  have h1 : i < a.length := by omega
  rw [waybilllaw17_same.l1, if_pos h1, List.getElem?_eq_getElem h1, Zb, Zb, if_pos rfl, same17_loop a d (i + 1) k (by omega) (by omega)]
theorem same17 (a : List (BitVec 8)) : waybilllaw17_same a a = some true := by
 unfold waybilllaw17_same
 rw [if_pos rfl, same17_loop a a.length 0 _ (by omega) (by omega), Zb]
theorem sameLog_loop (a : Log) : ∀ (d i k : Nat), i + d = a.topics.length → d < k → waybilllaw17_sameLog.l1 a a k i = some (Lp.go ())
 | 0, i, k, h, hk => by
  obtain ⟨k, rfl⟩ : ∃ m, k = m + 1 := ⟨k - 1, by omega⟩
  rw [waybilllaw17_sameLog.l1, if_neg (by omega)]
 | d + 1, i, k, h, hk => by
  obtain ⟨k, rfl⟩ : ∃ m, k = m + 1 := ⟨k - 1, by omega⟩
  have h1 : i < a.topics.length := by omega
  rw [waybilllaw17_sameLog.l1, if_pos h1, List.getElem?_eq_getElem h1, Zb, Zb, if_pos rfl, sameLog_loop a d (i + 1) k (by omega) (by omega)]
theorem sameLog_refl (a : Log) : waybilllaw17_sameLog a a = some true := by
 unfold waybilllaw17_sameLog
 rw [if_pos rfl, Zb, if_neg (by simp), sameLog_loop a a.topics.length 0 _ (by omega) (by omega), Zb]
 dsimp only
 rw [same17, Zb]
theorem sameLogs_loop (a : List Log) : ∀ (d i k : Nat), i + d = a.length → d < k → waybilllaw17_sameLogs.l1 a a k i = some (Lp.go ())
 | 0, i, k, h, hk => by
  obtain ⟨k, rfl⟩ : ∃ m, k = m + 1 := ⟨k - 1, by omega⟩
  rw [waybilllaw17_sameLogs.l1, if_neg (by omega)]
 | d + 1, i, k, h, hk => by
  obtain ⟨k, rfl⟩ : ∃ m, k = m + 1 := ⟨k - 1, by omega⟩
  have h1 : i < a.length := by omega
  rw [waybilllaw17_sameLogs.l1, if_pos h1, List.getElem?_eq_getElem h1, Zb, Zb, sameLog_refl, Zb, if_pos rfl, sameLogs_loop a d (i + 1) k (by omega) (by omega)]
theorem sameLogs_refl (a : List Log) : waybilllaw17_sameLogs a a = some true := by
 unfold waybilllaw17_sameLogs
 rw [if_pos rfl, sameLogs_loop a a.length 0 _ (by omega) (by omega), Zb]
theorem sameRcpt_refl (a : Rcpt) : waybilllaw17_sameReceipt a a = some true := by
 unfold waybilllaw17_sameReceipt
 rw [if_pos rfl, if_pos rfl, if_pos rfl, if_pos rfl, Zb, if_neg (by simp), if_pos rfl, sameLogs_refl]; rfl
theorem num17 (x : Int) : waybilllaw17_num x = some x := by unfold waybilllaw17_num; rfl
end Go.Fw
namespace Go.Fw
open Go
abbrev RcptMk : RcptC := { RcptZ with used := 77#64 }
def rz (k : Nat) : List Value := (List.replicate k RcptZ.C).flatten
theorem rz_length (k : Nat) : (rz k).length = k * 293 := by
 rw [rz, List.length_flatten, List.map_replicate, List.sum_replicate_nat, RcptC.C_length]
theorem rz_succ (k : Nat) : rz (k + 1) = RcptZ.C ++ rz k := by simp [rz, List.replicate_succ]
theorem rz_set {cs c : List Value} {i m off : Nat} (h : off = i * 293) (hl : cs.length = i * 293) (hc : c.length = 293) : spl (cs ++ rz (m + 1)) off c = (cs ++ c) ++ rz m := by
 subst h
 have h2 : RcptZ.C.length = 293 := RcptC.C_length _
 unfold spl
 rw [rz_succ, hc, List.take_append_of_le_length (by omega), List.take_of_length_le (by omega), ← List.append_assoc cs, List.drop_append, List.drop_of_length_le (by rw [List.length_append]; omega), List.length_append, h2, hl, Nat.sub_self, List.drop_zero, List.nil_append]
def gasPrev (rs : List Rcpt) : Nat → BitVec 64
 | 0 => 0#64
 | k + 1 => match rs[k]? with
  | some r => r.used
  | none => 0#64
theorem gasPrev_succ {rs : List Rcpt} {k : Nat} {r : Rcpt} (h : rs[k]? = some r) : gasPrev rs (k + 1) = r.used := by simp [gasPrev, h]
theorem gas_l1 (rs : List Rcpt) (hl : rs.length * 8 ≤ 140737488355328) : ∀ (k : Nat) (l : List (BitVec 64)) (i : Nat), i ≤ rs.length → rs.length - i < k → l.length = i → (∀ j g, l[j]? = some g → ∃ r, rs[j]? = some r ∧ gasPrev rs j + g = r.used) →
  ∃ o, receipt_Gas.l1 rs k l (gasPrev rs i) i = some o ∧ waybillref17_Gas.l1 rs k l (gasPrev rs i) i = some o ∧ (o = Lp.ret (some ([], 172)) ∨ ∃ r, o = Lp.go r ∧ r.length = rs.length ∧ ∀ j g, r[j]? = some g → ∃ x, rs[j]? = some x ∧ gasPrev rs j + g = x.used)
 | 0, l, i, h1, h2, h3, h4 => by omega
 | k + 1, l, i, h1, h2, h3, h4 => by
  rw [receipt_Gas.l1, waybillref17_Gas.l1]
  by_cases h : i < rs.length
  ·have hx : rs[i]? = some rs[i] := List.getElem?_eq_getElem h
   rw [if_pos h, if_pos h, hx, Zb, Zb]
   by_cases hu : (rs[i]).used.toNat < (gasPrev rs i).toNat
   ·rw [if_pos hu, if_pos hu]
    exact ⟨_, rfl, rfl, .inl rfl⟩
   ·rw [if_neg hu, if_neg hu, Zb, Zb, if_pos (by simp; omega), if_pos (by simp; omega), ← gasPrev_succ hx]
    refine gas_l1 rs hl k _ (i + 1) (by omega) (by omega) (by simp [h3]) (fun j g hg => ?_)
    rw [List.getElem?_append] at hg
    split at hg
    ·exact h4 j g hg
    ·rename_i hj
     have : j = i := by
      have := (List.getElem?_eq_some_iff.1 hg).1
      simp at this; omega
     subst this
     rw [h3, Nat.sub_self] at hg
     obtain rfl := Zi hg
     refine ⟨_, hx, ?_⟩
     rw [gasPrev_succ hx, BitVec.add_comm, BitVec.sub_add_cancel]
  ·rw [if_neg h, if_neg h]
   exact ⟨_, rfl, rfl, .inr ⟨l, rfl, by omega, h4⟩⟩
theorem gas_eq (rs : List Rcpt) (hl : rs.length * 8 ≤ 140737488355328) : ∃ (res : List (BitVec 64)) (e : Nat), receipt_Gas rs = some (res, e) ∧ waybillref17_Gas rs = some (res, e) ∧ e ≤ 1000 ∧ res.length ≤ rs.length ∧ ∀ j g, res[j]? = some g → ∃ x, rs[j]? = some x ∧ gasPrev rs j + g = x.used := by
 obtain ⟨o, h1, h2, h3⟩ := gas_l1 rs hl (rs.length - 0 + 2) [] 0 (by omega) (by omega) rfl (fun j g hg => by simp at hg)
 have e1 : gasPrev rs 0 = 0#64 := rfl
 rw [e1] at h1 h2
 unfold receipt_Gas waybillref17_Gas
 rw [h1, h2]
 rcases h3 with rfl | ⟨r, rfl, q1, q2⟩
 ·exact ⟨[], 172, rfl, rfl, by omega, by simp, fun j g hg => by simp at hg⟩
 ·exact ⟨r, 0, rfl, rfl, by omega, by omega, q2⟩
end Go.Fw

/- Part of a proof: rules that its law uses. -/
import Derived.Laws.Externs
import Derived.Scope
import Derived.ChangeArms
import Derived.Test.YtojnakdlnlcmiaaT1
set_option linter.unusedVariables false
set_option linter.unusedSimpArgs false
set_option linter.unusedSectionVars false
set_option maxRecDepth 100000
set_option maxHeartbeats 1000000
namespace Go.Fw
def lenTable : ByteArray := { data := List.toArray (List.append (List.append [0, 1, 2, 2, 3, 3, 3, 3, 4, 4, 4, 4, 4, 4, 4, 4, 5, 5, 5, 5, 5, 5, 5, 5, 5, 5, 5, 5, 5, 5, 5, 5, 6, 6, 6, 6, 6, 6, 6, 6, 6, 6, 6, 6, 6, 6, 6, 6, 6, 6, 6, 6, 6, 6, 6, 6, 6, 6, 6, 6, 6, 6, 6, 6] [7, 7, 7, 7, 7, 7, 7, 7, 7, 7, 7, 7, 7, 7, 7, 7, 7, 7, 7, 7, 7, 7, 7, 7, 7, 7, 7, 7, 7, 7, 7, 7, 7, 7, 7, 7, 7, 7, 7, 7, 7, 7, 7, 7, 7, 7, 7, 7, 7, 7, 7, 7, 7, 7, 7, 7, 7, 7, 7, 7, 7, 7, 7, 7]) (List.append [8, 8, 8, 8, 8, 8, 8, 8, 8, 8, 8, 8, 8, 8, 8, 8, 8, 8, 8, 8, 8, 8, 8, 8, 8, 8, 8, 8, 8, 8, 8, 8, 8, 8, 8, 8, 8, 8, 8, 8, 8, 8, 8, 8, 8, 8, 8, 8, 8, 8, 8, 8, 8, 8, 8, 8, 8, 8, 8, 8, 8, 8, 8, 8] [8, 8, 8, 8, 8, 8, 8, 8, 8, 8, 8, 8, 8, 8, 8, 8, 8, 8, 8, 8, 8, 8, 8, 8, 8, 8, 8, 8, 8, 8, 8, 8, 8, 8, 8, 8, 8, 8, 8, 8, 8, 8, 8, 8, 8, 8, 8, 8, 8, 8, 8, 8, 8, 8, 8, 8, 8, 8, 8, 8, 8, 8, 8, 8])) }
def lenB (x : BitVec 8) : Nat := if x = 0#8 then 0 else x.toNat.log2 + 1
theorem lenB_le (x : BitVec 8) : lenB x ≤ 8 := by
 unfold lenB
 split
 ·omega
 ·have h := x.isLt
  have : x.toNat.log2 < 8 := (Nat.log2_lt (by intro e; exact ‹¬ x = 0#8› (BitVec.eq_of_toNat_eq e))).2 h
  omega
theorem len_all : ∀ (x : Fin 256), ((lenTable[x.val]?).map (fun c => c.toNat) == some (lenB (BitVec.ofFin (w := 8) x))) = true := by decide +kernel
theorem len_table (x : BitVec 8) : (Option.map (fun c => c.toNat) (lenTable[x.toNat]?)) = some (BitVec.ofNat 8 (lenB x)).toNat := by
 have h2 : (BitVec.ofNat 8 (lenB x)).toNat = lenB x := by have := lenB_le x; rw [BitVec.toNat_ofNat]; omega
 rw [h2]
 have := len_all x.toFin
 simpa using this
end Go.Fw
namespace Go.Fw
open Go Go.RowKit
section
variable {P : Program} [Types P] {w0 : World} {L : Z123} {M : List Ent} {t e : TypeId} {x y z : Operand} {idx idx' : Int} {k k' : IntKind}
theorem RV.arr_lo {A : Addr} {n s : Nat} (a : Nat) (hx : ev L x = some (.pointer (some A))) (hy : ev L y = some (.int k idx)) (hj : idx = (a : Int)) (ht : tyU P t = some (.array n e)) (hs : tyS P e = some s) (h1 : idx ≤ n) :
    RV P w0 L M (.slice t x (some y) none none) (.slice (subA (some A) n a s) (n - a) (n - a)) := fun ρ w hρ m o ho => by
 subst hj
 have h2 : a ≤ n := by omega
 by_cases hc : n = a
 ·subst hc; simp [execOp, ho, hρ x _ hx, hρ y _ hy, Instr.sliceAt, Instr.slice, Instr.sliceBounds, sliceBound_run w h2, Z122 ht, Z136 hs, subA, Instr.sureAddr, asAddr]
 simp [execOp, ho, hρ x _ hx, hρ y _ hy, Instr.sliceAt, Instr.slice, Instr.sliceBounds, sliceBound_run w h2, Z122 ht, Z136 hs, subA, Instr.sureAddr, asAddr, hc]
theorem RV.arr_all {A : Addr} {n s : Nat} (hx : ev L x = some (.pointer (some A))) (ht : tyU P t = some (.array n e)) (hs : tyS P e = some s) :
    RV P w0 L M (.slice t x none none none) (.slice (some A) n n) := fun ρ w hρ m o ho => by
 by_cases hc : n = 0
 ·subst hc
  simp [execOp, ho, hρ x _ hx, Instr.sliceAt, Instr.slice, Instr.sliceBounds, Z122 ht, Z136 hs, Instr.sureAddr, asAddr]
 ·simp [execOp, ho, hρ x _ hx, Instr.sliceAt, Instr.slice, Instr.sliceBounds, Z122 ht, Z136 hs, Instr.sureAddr, asAddr, hc, Addr.add]
end
theorem View.arr {α : Type} {w0 : World} {Ψ : Ctx} {b n : Nat} {f : α → Value} {v : Vector α n} {te : TypeId} (hΨ : ∀ w, Ψ w → Mem w0 w [(some b, blk (v.toList.map f) te)]) (hn : n ≤ 140737488355328) : View Ψ (some ⟨b, 0, none⟩) v.toList.length n 1 (v.toList.map f) :=
 ⟨fun w q => by
  have := (hΨ w q).rdl (List.mem_cons_self ..) (fun e => by cases e)
  simpa using this, fun _ => rfl, by simp, by simp, by simpa using hn⟩
end Go.Fw
namespace Go.Fw
open Go
section
variable {P : Program} {n : Nat} {Q : Exit → Act → World → Prop} {w0 : World} {L : Z123} {M : List Ent} {ops : Array Oper} {f : Nat} {done : Array Bool} {d : Nat} {op : Op} {ty : TypeId} {pos : String} {aft : Array Edge} {v : Value}
def AW (P : Program) (n : Nat) (ops : Array Oper) (Q : Exit → Act → World → Prop) (w0 : World) (f : Nat) (done : Array Bool) (L : Z123) (M : List Ent) : Prop :=
 ∀ a w, Fr n L a → Mem w0 w M → wpAny P .any ops Q f done a w
def AO (P : Program) (n : Nat) (ops : Array Oper) (Q : Exit → Act → World → Prop) (w0 : World) (i f : Nat) (done : Array Bool) (L : Z123) (M : List Ent) : Prop :=
 ∀ a w, Fr n L a → Mem w0 w M → wpOp P ops Q i (wpAny P .any ops Q f done) a w
theorem AW.nil (hr : Region.ready .any ops done = []) (h : QW n Q w0 .normal L M) : AW P n ops Q w0 0 done L M := fun a w fr m => ⟨hr, h.elim a w fr m⟩
theorem AW.one (i : Nat) (hr : Region.ready .any ops done = [i]) (h : AO P n ops Q w0 i f (done.setIfInBounds i true) L M) : AW P n ops Q w0 (f + 1) done L M := fun a w fr m =>
 ⟨(fun e => by rw [hr] at e; cases e), (fun j hj => by rw [hr] at hj; obtain rfl : j = i := by simpa using hj
                                                       exact h a w fr m)⟩
theorem AO.rv {i : Nat} (ho : ops[i]? = some ⟨some d, op, ty, pos, aft, none⟩) (hop : RV P w0 L M op v) (hd : Nat.blt d n = true) (k : AW P n ops Q w0 f done ((d, v) :: L) M) : AO P n ops Q w0 i f done L M := fun a w fr m => by
 unfold wpOp
 rw [ho]
 refine (if_pos (by simp [Region.wanted])).mpr (.inl ?_)
 unfold Oper.wp
 rw [hop a.eval w (fun x u hx => fr.eval hx) m _ rfl]
 exact k _ _ (fr.put hd v) m
theorem AO.sv {i : Nat} {M' : List Ent} (ho : ops[i]? = some ⟨none, op, ty, pos, aft, none⟩) (hop : SV P w0 L M op M') (k : AW P n ops Q w0 f done L M') : AO P n ops Q w0 i f done L M := fun a w fr m => by
 unfold wpOp
 rw [ho]
 obtain ⟨w', hr, m'⟩ := hop a.eval w (fun x u hx => fr.eval hx) m ⟨none, op, ty, pos, aft, none⟩ rfl
 refine (if_pos (by simp [Region.wanted])).mpr (.inl ?_)
 unfold Oper.wp
 rw [hr]
 exact k _ _ fr m'
theorem AO.av {i : Nat} {τ : Type} {I : τ → Prop} {v : τ → Value} {M' : τ → List Ent} (ho : ops[i]? = some ⟨some d, op, ty, pos, aft, none⟩) (hop : AV P w0 L M op I v M') (hd : Nat.blt d n = true) (k : ∀ x, I x → AW P n ops Q w0 f done ((d, v x) :: L) (M' x)) : AO P n ops Q w0 i f done L M := fun a w fr m => by
 unfold wpOp
 rw [ho]
 obtain ⟨x, w', hI, hr, m'⟩ := hop a.eval w (fun x u hx => fr.eval hx) m ⟨some d, op, ty, pos, aft, none⟩ rfl
 refine (if_pos (by simp [Region.wanted])).mpr (.inl ?_)
 unfold Oper.wp
 rw [hr]
 exact k x hI _ _ (fr.put hd _) m'
theorem AO.alloc [Types P] {i : Nat} {e ty1 : TypeId} {ti : TI} {l : List Value} (ho : ops[i]? = some ⟨some d, .alloc e, ty1, pos, aft, none⟩) (hi : Fw.ty P e = some ti) (hl : ti.z.cells = l.toArray) (hd : Nat.blt d n = true) (k : ∀ b : Nat, AW P n ops Q w0 f done ((d, ptr (some b) 0) :: L) ((some b, blk l e) :: M)) : AO P n ops Q w0 i f done L M :=
 AO.av (τ := Nat) (I := fun _ => True) (v := fun b => ptr (some b) 0) (M' := fun b => (some b, blk l e) :: M) ho (fun ρ w hρ m o ho => ⟨w.heap.size, w.alloc (blk l e), trivial, by
  obtain ⟨_, ti, h1, h2, h3, h4⟩ := ty_ok hi
  simp [execOp, ho, Instr.alloc, zeroValue, typeInfo, h1, h4, newVar, newRow, ptr, blk, hl], m.alloc _⟩) hd (fun b _ => k b)
end
end Go.Fw
namespace Go.Fw
open Go
theorem skip_get {A L : List Value} {n m : Nat} {v : Value} (hA : A.length = n) (h : L[m]? = some v) : (A ++ L)[n + m]? = some v := by
 rw [List.getElem?_append_right (by omega), show n + m - A.length = m by omega]; exact h
theorem here_get {B C : List Value} {i : Nat} {v : Value} (h : B[i]? = some v) : (B ++ C)[i]? = some v := by
 have := (List.getElem?_eq_some_iff.1 h).1
 rw [List.getElem?_append_left this]; exact h
theorem skip_set {A L L' : List Value} {n m : Nat} {v : Value} (hA : A.length = n) (h : L.set m v = L') : (A ++ L).set (n + m) v = A ++ L' := by
 subst hA; subst h
 rw [List.set_append_right _ _ (by omega), show A.length + m - A.length = m by omega]
theorem here_set {B B' C : List Value} {i : Nat} {v : Value} (hi : i < B.length) (h : B.set i v = B') : (B ++ C).set i v = B' ++ C := by
 subst h
 rw [List.set_append_left _ _ hi]
theorem skip_spl {A L L' cs : List Value} {n m : Nat} (hA : A.length = n) (h : spl L m cs = L') : spl (A ++ L) (n + m) cs = A ++ L' := by
 subst hA; subst h
 unfold spl
 rw [List.take_length_add_append, show A.length + m + cs.length = A.length + (m + cs.length) by omega, List.drop_length_add_append]
 simp [List.append_assoc]
theorem here_spl {B C cs : List Value} (h : cs.length = B.length) : spl (B ++ C) 0 cs = cs ++ C := by
 unfold spl
 rw [List.take_zero, List.nil_append, Nat.zero_add, h, List.drop_left]
end Go.Fw
namespace Go.Fw
open Go Go.RowKit
section
variable {P : Program} [Types P] {w0 : World} {L : Z123} {M : List Ent} {t e : TypeId} {x y z : Operand} {idx idx' : Int} {k k' : IntKind}
end
def cpV {α : Type} {n : Nat} (v : Vector α n) (lo : Nat) (l : List α) : Vector α n :=
 if h : lo + l.length ≤ n then ⟨(v.toList.take lo ++ l ++ v.toList.drop (lo + l.length)).toArray, by simp; omega⟩ else v
theorem cpV_toList {α : Type} {n : Nat} (v : Vector α n) {lo : Nat} {l : List α} (h : lo + l.length ≤ n) : (cpV v lo l).toList = v.toList.take lo ++ l ++ v.toList.drop (lo + l.length) := by
 unfold cpV
 rw [dif_pos h]
 rfl
theorem u8s_cpV {n : Nat} (v : Vector (BitVec 8) n) {lo : Nat} {l : List (BitVec 8)} (h : lo + l.length ≤ n) : spl (u8s v.toList) lo (u8s l) = u8s (cpV v lo l).toList := by
 rw [cpV_toList v h]
 unfold spl
 rw [Z101]
 simp [u8s, List.map_take, List.map_drop]
theorem at_spl {B B' C cs : List Value} {i : Nat} (hi : i + cs.length ≤ B.length) (h : spl B i cs = B') : spl (B ++ C) i cs = B' ++ C := by
 subst h
 unfold spl
 rw [List.take_append_of_le_length (by omega), List.drop_append_of_le_length hi]
 simp [List.append_assoc]
theorem u8s_take (l : List (BitVec 8)) (k : Nat) : (u8s l).take k = u8s (l.take k) := by simp [u8s, List.map_take]
end Go.Fw
namespace Go.Fw
open Go Go.RowKit
section
variable {P : Program} [Types P] {n : Nat} {Q : Exit → Act → World → Prop} {w0 : World} {L : Z123} {M : List Ent} {ops : Array Oper} {rest : List Oper} {t e ty1 : TypeId} {x : Operand} {pos : String} {aft : Array Edge}
theorem OW.clear {b off len cap : Nat} {l : List Value} {te : TypeId} {i : TI} {z : Value} (hx : ev L x = some (sl (some b) off len cap)) (ht : tyU P t = some (.slice e)) (hi : Fw.ty P e = some i) (hz : i.z.cells = #[z]) (h1 : z.oneCell' = true) (hp : 0 < len) (hl : off + len ≤ l.length)
    (k : OW P n ops Q w0 rest L ((some b, blk (spl l off (List.replicate len z)) te) :: M)) :
    OW P n ops Q w0 (⟨none, .call ⟨.builtin .clear, #[x], #[t]⟩, ty1, pos, aft, none⟩ :: rest) L ((some b, blk l te) :: M) := by
 refine OW.av_none (τ := Unit) (I := fun _ => True) (v := fun _ => .tuple #[]) (M' := fun _ => (some b, blk (spl l off (List.replicate len z)) te) :: M) (fun ρ w hρ mm o ho => ?_) (fun _ _ => k)
 obtain ⟨_, ti, h1', h2, h3, h4⟩ := ty_ok hi
 have hv : ∀ w, (zeroValue e).run P w = .ok i.z w := fun w => by simp [zeroValue, typeInfo, h1', h4]
 have hzc : (Builtin.zeroCells i.z.cells len).toList = List.replicate len z := by
  rw [hz]
  simp [Builtin.zeroCells]
  apply List.ext_getElem
  ·simp
  ·intro i h1 h2
   simp [Nat.mod_one]
 have hm := mm.ents _ (List.mem_cons_self ..) b rfl
 have hst := run_storeCells_at (P := P) b off te (List.replicate len z) 0 l.toArray w hm.2 (by simpa using hl) (fun v hv => by rw [List.eq_of_mem_replicate hv]; exact h1)
 simp only [Nat.add_zero] at hst
 obtain ⟨m, rfl⟩ : ∃ m, len = m + 1 := ⟨len - 1, by omega⟩
 refine ⟨(), _, trivial, ?_, mm.turned (w' := w.setRow b (l.toArray.toList.take off ++ List.replicate (m + 1) z ++ l.toArray.toList.drop (off + (List.replicate (m + 1) z).length)).toArray) rfl rfl rfl (by simp [World.setRow]) ?_ ?_⟩
 ·simp [execOp, ho, resolve, hρ x _ hx, invoke, builtin, Builtin.clear_, Z122 ht, sl, hv, hzc, hst]
 ·intro b' hb'
  cases hb'
  rw [setRow_heap w b l.toArray _ te (0, 0) hm.2]
  simp [blk, spl]
 ·intro kk hk
  exact setRow_other _ _ _ _ (fun e => hk (by rw [e]))
end
end Go.Fw
namespace Go.Fw
end Go.Fw
namespace Go.Fw
open Go
structure Sponge where
 kind : Int
 lanes : Vector (BitVec 64) 25
 part : Vector (BitVec 8) 136
 held : Int
 long : Int
def Sponge.C (s : Sponge) : List Value := [.int .i64 s.kind] ++ (u64s s.lanes.toList ++ (u8s s.part.toList ++ ([.int .i64 s.held] ++ ([.int .i64 s.long]))))
theorem Sponge.C_length (s : Sponge) : s.C.length = 164 := by simp [Sponge.C, Z131, Z101]
theorem Sponge.C_one (s : Sponge) : ∀ u ∈ s.C, u.oneCell' = true := by
 intro u hu
 simp only [Sponge.C, List.mem_append, List.mem_singleton] at hu
 rcases hu with rfl | hu | hu | rfl | rfl
 ·rfl
 ·exact u64s_one _ u hu
 ·exact Z125 _ u hu
 ·rfl
 ·rfl
end Go.Fw
namespace Go.Fw
mutual
def It.sz : It → Nat
 | .mk _ _ its => 1 + Its.sz its
def Its.sz : List It → Nat
 | [] => 0
 | x :: xs => It.sz x + Its.sz xs
end
structure Hd where
 list : Bool
 fr : Nat
 to : Nat
def HdRd (Φ : Ctx) (cs : List Value) (h : Hd) : Prop := cs = [.bool h.list, .int .i64 ((h.fr : Nat) : Int), .int .i64 ((h.to : Nat) : Int)] ∧ h.fr ≤ 9223372036854775807 ∧ h.to ≤ 9223372036854775807
theorem HdRd.opn {Φ : Ctx} {cs : List Value} {h : Hd} (r : HdRd Φ cs h) : cs = [.bool h.list, .int .i64 ((h.fr : Nat) : Int), .int .i64 ((h.to : Nat) : Int)] ∧ h.fr ≤ 9223372036854775807 ∧ h.to ≤ 9223372036854775807 := r
theorem HdRd.mk {Φ : Ctx} {l : Bool} {f t : Nat} (h1 : f ≤ 9223372036854775807) (h2 : t ≤ 9223372036854775807) : HdRd Φ [.bool l, .int .i64 ((f : Nat) : Int), .int .i64 ((t : Nat) : Int)] ⟨l, f, t⟩ := ⟨rfl, h1, h2⟩
theorem HdRd.mono {Φ Ψ : Ctx} (hh : ∀ w, Ψ w → Φ w) (cs : List Value) (h : Hd) : HdRd Φ cs h → HdRd Ψ cs h := fun r => r
end Go.Fw
namespace Go.Fw
open Go Go.RowKit
def room9 (x : List (BitVec 8)) : List (BitVec 8) := x ++ List.replicate 9 165#8
structure Room (Φ : Ctx) (A : Option Addr) (x : List (BitVec 8)) : Prop where
 full : View Φ A (x.length + 9) (x.length + 9) 1 (u8s (room9 x))
theorem Room.mono {Φ Ψ : Ctx} {A : Option Addr} {x : List (BitVec 8)} (h : Room Φ A x) (hh : ∀ w, Ψ w → Φ w) : Room Ψ A x := ⟨h.full.mono hh⟩
theorem Room.view {Φ : Ctx} {A : Option Addr} {x : List (BitVec 8)} (h : Room Φ A x) : View Φ A x.length (x.length + 9) 1 (u8s x) := by
 have h1 := h.full.hi (k := x.length) (by omega)
 rw [Nat.mul_one, show (u8s (room9 x)).take x.length = u8s x by simp [u8s, room9]] at h1
 exact h1
end Go.Fw
namespace Go.Fw
open Go Go.RowKit
def RmRd (Φ : Ctx) (cs : List Value) (x : List (BitVec 8)) : Prop := ∃ A, cs = [.slice A x.length (x.length + 9)] ∧ Room Φ A x
theorem RmRd.mono {Φ Ψ : Ctx} (hh : ∀ w, Ψ w → Φ w) (cs : List Value) (x : List (BitVec 8)) : RmRd Φ cs x → RmRd Ψ cs x := fun ⟨A, h1, h2⟩ => ⟨A, h1, h2.mono hh⟩
theorem RmRd.len {Φ : Ctx} (cs : List Value) (x : List (BitVec 8)) (h : RmRd Φ cs x) : cs.length = 1 := by obtain ⟨A, rfl, _⟩ := h; rfl
theorem RmRd.one {Φ : Ctx} (cs : List Value) (x : List (BitVec 8)) (h : RmRd Φ cs x) : ∀ u ∈ cs, u.oneCell' = true := by
 obtain ⟨A, rfl, _⟩ := h
 intro u hu; simp at hu; subst hu; rfl
theorem RmRd.mk {Φ : Ctx} {A : Option Addr} {x : List (BitVec 8)} (h : Room Φ A x) : RmRd Φ [.slice A x.length (x.length + 9)] x := ⟨A, rfl, h⟩
theorem RmRd.bs {Φ : Ctx} (cs : List Value) (x : List (BitVec 8)) (h : RmRd Φ cs x) : BsRd Φ cs x := by
 obtain ⟨A, h1, h2⟩ := h
 exact ⟨A, _, h1, h2.view⟩
end Go.Fw
namespace Go.Fw
theorem View.pre {Φ : Ctx} {A : Option Addr} {c s len : Nat} {cs cells : List Value} {T : Type} {xs : List T} (h : View Φ A len c s (cs ++ cells)) (hc : cs.length = xs.length * s) (hk : xs.length ≤ len) : View Φ A xs.length c s cs := by
 have := h.hi hk
 rwa [← hc, List.take_left'  rfl] at this
end Go.Fw
namespace Go.Fw
open Go Go.RowKit
section
variable {P : Program} [Types P] {n : Nat} {Q : Exit → Act → World → Prop} {w0 : World} {L : Z123} {M R : List Ent} {x y : Operand} {t e : TypeId}
theorem AV.append {i : TI} {ob : Option Nat} {len cap m c s : Nat} {l r vs : List Value} {B : Option Addr} {t2 e2 : TypeId} (hx : ev L x = some (sl ob 0 len cap)) (hy : ev L y = some (.slice B m c)) (ht : tyU P t = some (.slice e)) (hi : ty P e = some i) (hs : i.sz = s) (ht2 : tyU P t2 = some (.slice e2))
    (hl : l.length = len * s) (hr : (l ++ r).length = cap * s) (hn : ob = none → cap = 0) (hR : Mem.Says w0 ((ob, blk (l ++ r) e) :: M) (fun w => Rd w B vs)) (hvl : vs.length = m * s) (hv1 : ∀ u ∈ vs, u.oneCell' = true) (hB : B = none → m = 0) (hspos : 0 < s)
    (h63 : len + m ≤ 9223372036854775807) (hb : (len + m) * i.bytes ≤ 140737488355328) (hz : i.z.cells.size = s) :
    AV P w0 L ((ob, blk (l ++ r) e) :: M) (.call ⟨.builtin .append, #[x, y], #[t, t2]⟩) (τ := Option Nat × List Value × Nat) (fun q => (l ++ vs ++ q.2.1).length = q.2.2 * s ∧ (q.1 = none → q.2.2 = 0)) (fun q => sl q.1 0 (len + m) q.2.2) (fun q => (q.1, blk (l ++ vs ++ q.2.1) e) :: M) := by
 intro ρ w hρ mm o ho
 obtain ⟨hu, ti, g1, g2, g3, g4⟩ := ty_ok hi
 have hrd := hR w mm
 have hsrc : Src P ti.size t2 (.slice B m c) m vs w := by rw [g2, hs]; exact rd_src ht2 hrd hvl hv1 hB
 have hrun : ∀ (v' : Value) (w' : World), (Builtin.append_ #[t, t2] o.type #[sl ob 0 len cap, .slice B m c]).run P w = .ok v' w' → (execOp ρ o).run P w = .ok (.value v') w' := fun v' w' hh => by
  simp [execOp, ho, resolve, hρ x _ hx, hρ y _ hy, invoke, builtin, hh]
 have hsz : ti.size = s := by rw [g2, hs]
 by_cases hroom : len + m ≤ cap
 ·-- it fits
  cases ob with
  | none =>
   have hc0 := hn rfl
   subst hc0
   have hm0 : m = 0 := by omega
   have hl0 : len = 0 := by omega
   subst hm0 hl0
   have hv0 : vs = [] := List.length_eq_zero_iff.1 (by simpa using hvl)
   subst hv0
   have e1 : l = [] := List.length_eq_zero_iff.1 (by simpa using hl)
   subst e1
   refine ⟨(none, r, 0), w, ⟨by simpa using hr, fun _ => rfl⟩, hrun _ _ ?_, ?_⟩
   ·exact run_append_nothing w t t2 o.type e ti (tyU_ok ht) g1 none 0 0 (Nat.le_refl _) _ hsrc
   ·exact mm.tail.nil_ent _
  | some b =>
   have hm := mm.ents _ (List.mem_cons_self ..) b rfl
   have hlen : l.length + vs.length ≤ (l ++ r).length := by rw [hl, hvl, hr, ← Nat.add_mul]; exact Nat.mul_le_mul_right _ hroom
   have hra := run_append_room_src (P := P) w t t2 o.type e ti (tyU_ok ht) g1 b 0 len cap (.slice B m c) m vs hsrc hroom (fun j hj => by
       rw [mm.cell (List.mem_cons_self ..), hsz]
       have : 0 + len * s + j < (l ++ r).length := by omega
       rw [List.getElem?_eq_getElem this]; rfl) (fun j hj => mm.notFrozen (List.mem_cons_self ..) _)
   rw [hsz] at hra
   have hset : w.setCells b (0 + len * s) vs = w.setRow b ((l ++ r).toArray.toList.take (0 + len * s) ++ vs ++ (l ++ r).toArray.toList.drop (0 + len * s + vs.length)).toArray := by
    have q1 := run_storeCells_at (P := P) b (0 + len * s) e vs 0 (l ++ r).toArray w hm.2 (by simp; simp at hlen; omega) hv1
    have q2 := run_storeCells_cells (P := P) b (0 + len * s) vs 0 w (fun j hj => by
     rw [mm.cell (List.mem_cons_self ..)]
     have : 0 + len * s + 0 + j < (l ++ r).length := by omega
     rw [List.getElem?_eq_getElem this]; rfl) (fun j hj => mm.notFrozen (List.mem_cons_self ..) _) hv1
    rw [q1] at q2
    simp only [Nat.add_zero] at q2
    injection q2 with _ q3
    exact q3.symm
   rw [hset] at hra
   refine ⟨(some b, r.drop vs.length, cap), _, ⟨?_, fun h => by cases h⟩, hrun _ _ (by simpa [sl] using hra), mm.turned (w' := w.setRow b _) rfl rfl rfl (by simp [World.setRow]) ?_ ?_⟩
   ·rw [← hr]; simp at hlen ⊢; omega
   ·intro b' hb'
    cases hb'
    rw [setRow_heap w b (l ++ r).toArray _ e (0, 0) hm.2]
    simp only [blk]
    simp [← hl, List.drop_append]
   ·intro kk hk
    exact setRow_other _ _ _ _ (fun e => hk (by rw [e]))
 ·-- it grows
  have hold : (Builtin.firstCells ti.size len (sl ob 0 len cap)).run P w.drew = .ok l.toArray w.drew := by
   cases ob with
   | none =>
    have hc0 := hn rfl
    have e0 : (l ++ r).length = 0 := by rw [hr, hc0]; simp
    have e1 : l = [] := by cases l with | nil => rfl | cons a b => simp at e0
    subst e1
    simp [sl, Builtin.firstCells]
   | some b =>
    have := run_firstCells_some (P := P) w.drew ti.size len ⟨b, 0, none⟩ len cap l (by rw [hsz]; exact hl) (fun j u hj => by
     rw [Z119, (mm.drew).cell (List.mem_cons_self ..)]
     have hj' : j < l.length := (List.getElem?_eq_some_iff.1 hj).1
     rw [Nat.zero_add, List.getElem?_append_left hj']; exact hj)
    exact this
  have hg := run_append_grow_src (P := P) w t t2 o.type e ti i.z (tyU_ok ht) g1 g4 (ob.map fun k => ⟨k, 0, none⟩) len cap l hold (.slice B m c) m vs hsrc (by omega) (by omega)
   (growslice_fits (by omega) (by rw [g3]; exact hb))
  refine ⟨(some w.heap.size, (Builtin.zeroCells i.z.cells (grownCap w (len + m) cap e - (len + m))).toList, grownCap w (len + m) cap e), _, ⟨?_, fun h => by cases h⟩, hrun _ _ (by simpa [sl] using hg), ?_⟩
  ·have hge := grownCap_ge w (len + m) cap e
   simp only [List.length_append, Array.length_toList, size_zeroCells, hz, hl, hvl]
   rw [← Nat.add_mul, ← Nat.add_mul]
   congr 1; omega
  ·have := mm.drew.tail.alloc (blk (l ++ vs ++ (Builtin.zeroCells i.z.cells (grownCap w (len + m) cap e - (len + m))).toList) e)
   have e3 : (.cells ((l ++ vs).toArray ++ Builtin.zeroCells i.z.cells (grownCap w (len + m) cap e - (len + m))) e : Obj) = blk (l ++ vs ++ (Builtin.zeroCells i.z.cells (grownCap w (len + m) cap e - (len + m))).toList) e := by
    unfold blk
    congr 1
    apply Array.ext'
    simp
   rw [e3]
   exact this
theorem AV.appendOwn {i : TI} {ob : Option Nat} {len cap m c s : Nat} {l r vs : List Value} {B : Option Addr} {t2 e2 : TypeId} (hx : ev L x = some (sl ob 0 len cap)) (hy : ev L y = some (.slice B m c)) (ht : tyU P t = some (.slice e)) (hi : ty P e = some i) (hs : i.sz = s) (ht2 : tyU P t2 = some (.slice e2))
    (hl : OwnS ob len cap s l r) (hR : Mem.Says w0 ((ob, blk (l ++ r) e) :: M) (fun w => Rd w B vs)) (hvl : vs.length = m * s) (hv1 : ∀ u ∈ vs, u.oneCell' = true) (hB : B = none → m = 0) (hspos : 0 < s)
    (hby : 0 < i.bytes) (hb : (len + m) * i.bytes ≤ 140737488355328) (hz : i.z.cells.size = s) (len' : Nat) (l' : List Value) (hlen : len + m = len') (hcs : l ++ vs = l') :
    AV P w0 L ((ob, blk (l ++ r) e) :: M) (.call ⟨.builtin .append, #[x, y], #[t, t2]⟩) (τ := Option Nat × List Value × Nat) (fun q => OwnS q.1 len' q.2.2 s l' q.2.1) (fun q => sl q.1 0 len' q.2.2) (fun q => (q.1, blk (l' ++ q.2.1) e) :: M) := by
 have hm : len + m ≤ (len + m) * i.bytes := Nat.le_mul_of_pos_right _ hby
 subst hlen hcs
 intro ρ w hρ mm o ho
 obtain ⟨q, w', h1, h2, h3⟩ := AV.append (P := P) hx hy ht hi hs ht2 hl.n hl.hr hl.hn hR hvl hv1 hB hspos (by omega) hb hz ρ w hρ mm o ho
 exact ⟨q, w', ⟨by rw [List.length_append, hl.n, hvl, Nat.add_mul], h1.1, h1.2, by omega⟩, h2, h3⟩
variable {ops : Array Oper} {hard : List Nat} {f : Nat} {done : Array Bool} {op : Op} {ty : TypeId} {pos : String} {aft : Array Edge} {d : Nat}
theorem XW.av (i : Nat) {τ : Type} {I : τ → Prop} {v : τ → Value} {M' : τ → List Ent} (ho : ops[i]? = some ⟨some d, op, ty, pos, aft, none⟩) (hr : (Region.ready .any ops done == [i] && hard.contains i) = true) (hop : AV P w0 L M op I v M') (hMR : ∀ x, I x → ∀ w, Mem w0 w (M' x) → Mem w0 w R) (hd : Nat.blt d n = true)
    (k : ∀ x, I x → XW P n ops Q w0 R hard f (done.setIfInBounds i true) ((d, v x) :: L) (M' x)) : XW P n ops Q w0 R hard (f + 1) done L M := by
 unfold XW at *
 intro hR hB inv a w fr mm
 simp only [Bool.and_eq_true, beq_iff_eq] at hr
 obtain ⟨hr, hi⟩ := hr
 have him : i < ops.size := (Array.getElem?_eq_some_iff.1 ho).1
 refine ⟨by rw [hr]; simp, fun j hj => ?_⟩
 rw [hr] at hj
 obtain rfl : j = i := by simpa using hj
 refine ⟨him, _, ho, .inl ⟨by simp [Region.wanted], ?_⟩⟩
 obtain ⟨x, w', hI, hrun, m'⟩ := hop a.eval w (fun x u hx => fr.eval hx) mm ⟨some d, op, ty, pos, aft, none⟩ rfl
 rw [hrun]
 refine ⟨?_, k x hI (hMR x hI) hB (inv.set (by rw [hr]; simp) him) _ _ (fr.put hd _) m'⟩
 unfold Rl
 rw [if_pos hi]
 exact fun _ => hMR x hI _ m'
theorem XW.appendOwn (i : Nat) {ti : TI} {ob : Option Nat} {len cap m c s : Nat} {l r vs : List Value} {B : Option Addr} {t2 e2 : TypeId} (ho : ops[i]? = some ⟨some d, .call ⟨.builtin .append, #[x, y], #[t, t2]⟩, ty, pos, aft, none⟩) (hr : (Region.ready .any ops done == [i] && hard.contains i) = true)
    (hx : ev L x = some (sl ob 0 len cap)) (hy : ev L y = some (.slice B m c)) (ht : tyU P t = some (.slice e)) (hi : Fw.ty P e = some ti) (hs : ti.sz = s) (ht2 : tyU P t2 = some (.slice e2))
    (hl : OwnS ob len cap s l r) (hR : Mem.Says w0 ((ob, blk (l ++ r) e) :: M) (fun w => Rd w B vs)) (hvl : vs.length = m * s) (hv1 : ∀ u ∈ vs, u.oneCell' = true) (hB : B = none → m = 0) (hspos : 0 < s)
    (hby : 0 < ti.bytes) (hb : (len + m) * ti.bytes ≤ 140737488355328) (hz : ti.z.cells.size = s) (len' : Nat) (l' : List Value) (hlen : len + m = len') (hcs : l ++ vs = l') (hMR : ∀ w, Mem w0 w M → Mem w0 w R) (hd : Nat.blt d n = true)
    (k : ∀ (ob' : Option Nat) (r' : List Value) (cap' : Nat), OwnS ob' len' cap' s l' r' → XW P n ops Q w0 R hard f (done.setIfInBounds i true) ((d, sl ob' 0 len' cap') :: L) ((ob', blk (l' ++ r') e) :: M)) : XW P n ops Q w0 R hard (f + 1) done L ((ob, blk (l ++ r) e) :: M) :=
 XW.av i ho hr (AV.appendOwn hx hy ht hi hs ht2 hl hR hvl hv1 hB hspos hby hb hz len' l' hlen hcs) (fun q _ w m => hMR w m.tail) hd (fun q hq => k q.1 q.2.1 q.2.2 hq)
end
end Go.Fw
namespace Go.Fw
open Go
theorem MRoom.view {Φ : Ctx} {A : Option Addr} {c : Nat} {x y : List (BitVec 8)} (h : View Φ A (x ++ y).length c 1 (u8s (x ++ y))) : View Φ A x.length c 1 (u8s x) := by
 have h1 := h.hi (k := x.length) (by rw [List.length_append]; omega)
 rwa [Nat.mul_one, show (u8s (x ++ y)).take x.length = u8s x by simp [u8s]] at h1
end Go.Fw
namespace Go.Fw
open Go
def lentN (n : Nat) (x : List (BitVec 8)) : Option (List (BitVec 8)) := if x.length + n ≤ 140737488355328 then some x else none
def waybilllaw17_lent (x : List (BitVec 8)) : Option (List (BitVec 8)) := lentN 70 x
def mkd (n : Nat) (m : BitVec 8) (x : List (BitVec 8)) (i : Nat) : List (BitVec 8) := x ++ (List.replicate (i - x.length) m ++ List.replicate (x.length + n - i) 0#8)
theorem mkd_length {n : Nat} {m : BitVec 8} {x : List (BitVec 8)} {i : Nat} (h1 : x.length ≤ i) (h2 : i ≤ x.length + n) : (mkd n m x i).length = x.length + n := by simp [mkd]; omega
theorem mkd_end (n : Nat) (m : BitVec 8) (x : List (BitVec 8)) : mkd n m x (x.length + n) = x ++ List.replicate n m := by simp [mkd]
theorem mkd_set {n : Nat} {m : BitVec 8} {x : List (BitVec 8)} {i : Nat} (h1 : x.length ≤ i) (h2 : i < x.length + n) : (mkd n m x i).set i m = mkd n m x (i + 1) := by
 unfold mkd
 rw [List.set_append_right _ _ h1, List.set_append_right _ _ (by simp), List.length_replicate]
 congr 1
 rw [show i - x.length - (i - x.length) = 0 by omega, show x.length + n - i = (x.length + n - (i + 1)) + 1 by omega, List.replicate_succ, List.set_cons_zero, show i + 1 - x.length = (i - x.length) + 1 by omega, List.replicate_succ' (n := i - x.length)]
 simp
theorem mkd_copy {n : Nat} {m : BitVec 8} {x : List (BitVec 8)} {k : Nat} (hk : k = x.length) : spl (List.replicate (x.length + n) (Value.int .u8 0)) 0 ((u8s x).take k) = u8s (mkd n m x x.length) := by
 subst hk
 have h1 : (u8s x).take x.length = u8s x := List.take_of_length_le (by rw [Z101]; omega)
 rw [h1, spl_front _ _ (by simp [u8s]), Z101]
 simp [mkd, u8s, U8]
end Go.Fw
namespace Go.Fw.Try
open Go Go.Proofs
theorem waybilllaw17_lent_raw (w0 : World) (Φ : Ctx) (N : List Ent) (hΦ : ∀ w, Mem w0 w N → Φ w) (A0 : Option Addr) (c0 : Nat) (a0 : List (BitVec 8)) (res0 : List (BitVec 8)) (va0 : View Φ A0 a0.length c0 1 (u8s a0)) (hf : waybilllaw17_lent a0 = some res0) :
  DoesG Try.prog 18 [.slice A0 a0.length c0] w0 [] N (fun v G => ∃ b : Nat, OwnS (some b) res0.length (res0.length + 70) 1 (u8s res0) (u8s (List.replicate 70 195#8) ++ []) ∧ (res0.length + 70 ≤ 140737488355328) ∧ v = sl (some b) 0 res0.length (res0.length + 70) ∧ G = [(some b, blk (u8s res0 ++ (u8s (List.replicate 70 195#8) ++ [])) 5)]) := by
 unfold waybilllaw17_lent lentN at hf
 obtain ⟨hb, hf⟩ := Z116 hf
 cases hf
 refine DoesG.enter Try.func18 rfl Try.ntmps18 rfl (M := N) rfl (Z4 (Z2 (Z0 (Z5 rfl) rfl (Z6 ?_))))
 (refine Z1 ?_; refine Z4 ?_)
 refine Z2 (Z0 (Z3 rfl) rfl (Z0 (RV.len rfl rfl) rfl (Z0 (Z3 rfl) rfl (Z0 (RV.len rfl rfl) rfl (Z0 (RV.add rfl rfl (by omega)) rfl (OW.make (a0.length) (a0.length + 70) rfl rfl rfl rfl rfl rfl rfl rfl (by omega) (by simp only [i5]; omega) (by omega) rfl (fun b8 => (Z0 (Z5 rfl) rfl ?_))))))))
 refine Z6 ?_
 (refine Z1 ?_; refine Z4 ?_)
 refine Z2 (Z0 (Z3 rfl) rfl (Z0 (Z3 rfl) rfl (OW.copy (ob := some b8) (off := 0) (l := List.replicate (a0.length + 70) (Value.int .u8 0)) (te := 5) rfl rfl rfl rfl (fun h => nomatch h) (by rw [List.length_replicate]; omega) (fun w m => va0.rd w (hΦ w m.tail)) (Z101 _) (Z125 _) (va0.zero (by decide)) rfl (Z6 ?_))))
 (refine Z1 ?_; refine Z4 ?_)
 refine CW.mem (M' := (some b8, blk (u8s (mkd 70 195#8 a0 a0.length)) 5) :: N) (fun w m => by rw [mkd_copy (n := 70) (m := 195#8) (by omega)] at m; exact m) ?_
 refine Z2 (Z0 (Z3 rfl) rfl (Z0 (Z3 rfl) rfl (Z0 (RV.len rfl rfl) rfl (Z0 (RV.add rfl rfl (by omega)) rfl (Z0 (RV.cut_o _ rfl rfl rfl rfl rfl (by omega)) rfl (Z0 (Z5 rfl) rfl (Z6 ?_)))))))
 (refine Z1 ?_; refine Z4 ?_; refine Z4 ?_)
 refine Z2 (Z0 (Z3 rfl) rfl (Z0 (RV.len rfl rfl) rfl (Z0 (Z5 rfl) rfl (Z6 ?_))))
 (refine Z1 ?_; refine CW.block ?_)
 refine CW.loop (σ := Nat) (fun i => a0.length ≤ i ∧ i ≤ a0.length + 70) (fun i => [(3, sl (some b8) 0 (a0.length) (a0.length + 70)), (4, sl (some b8) 0 (a0.length + 70) (a0.length + 70)), (5, .int .i64 (i : Int))]) (fun i => (some b8, blk (u8s (mkd 70 195#8 a0 i)) 5) :: N) (fun i => a0.length + 70 - i) a0.length ⟨by omega, by omega⟩ ⟨rfl, rfl, rfl, trivial⟩ (fun _ m => m) ?_
 rintro i ⟨h1, h2⟩
 have hlen := mkd_length (n := 70) (m := 195#8) h1 h2
 (refine Z4 ?_; refine Z4 ?_)
 refine Z2 (Z0 (Z3 rfl) rfl (Z0 (Z3 rfl) rfl (Z0 (RV.len rfl rfl) rfl (Z0 (RV.lss rfl rfl) rfl (Z6 (Z1 ?_))))))
 refine Z138 rfl (fun hlt => ?_) (fun hlt => ?_)
 ·have hi : i < a0.length + 70 := by omega
  have hl : 0 + i < (u8s (mkd 70 195#8 a0 i)).length := by rw [Z101]; omega
  (refine CW.skip ?_; refine Z1 ?_; refine Z4 ?_; refine CW.block ?_)
  refine Z2 (Z0 (Z3 rfl) rfl (Z0 (Z3 rfl) rfl (Z0 (RV.idx_o _ rfl rfl rfl rfl rfl rfl (by omega)) rfl (Z28 (SV.store rfl rfl rfl rfl rfl (by assumption)) (Z6 ?_)))))
  (refine Z27 ?_; refine Z1 ?_)
  refine Z2 (Z0 (Z3 rfl) rfl (Z0 (RV.add rfl rfl (by omega)) rfl (Z0 (Z5 rfl) rfl (Z6 (QW.again (i + 1) ⟨by omega, by omega⟩ (by omega) ⟨rfl, rfl, rfl, trivial⟩ (fun _ m => ?_))))))
  rw [Nat.zero_add] at m
  rw [← mkd_set h1 hi, ← u8s_set']
  exact m
 ·have hi : i = a0.length + 70 := by omega
  subst hi
  rw [mkd_end]
  (refine CW.exit ?_; refine Z9 ?_; refine Z9 ?_; refine Z15 ?_; refine Z1 ?_; refine Z4 ?_)
  refine Z2 (Z0 (Z3 rfl) rfl (Z0 (Z5 rfl) rfl (Z6 ?_)))
  (refine Z1 ?_; refine CW.ret ?_)
  refine Z102 (rs := [.tmp 2]) [sl (some b8) 0 a0.length (a0.length + 70)] [(some b8, blk (u8s a0 ++ (u8s (List.replicate 70 195#8) ++ [])) 5)] rfl ?_ rfl ?_ ?_ _ (.inl rfl)
  ·exact ⟨rfl, trivial⟩
  ·exact ⟨b8, ⟨by rw [Z101]; omega, by rw [List.append_nil, u8s_app, Z101, List.length_append, List.length_replicate]; omega, (fun h => nomatch h), by omega⟩, hb, rfl, rfl⟩
  ·exact fun w m => by rw [List.append_nil, u8s_app]; exact m
end Go.Fw.Try
namespace Go.Fw
def g64 (l : List (BitVec 64)) (i : Nat) : BitVec 64 := l.getD i 0#64
def colS (a : List (BitVec 64)) (x : Nat) : BitVec 64 := g64 a x ^^^ g64 a (x + 5) ^^^ g64 a (x + 10) ^^^ g64 a (x + 15) ^^^ g64 a (x + 20)
def chiE (b : List (BitVec 64)) (i : Nat) : BitVec 64 := g64 b i ^^^ (~~~ (g64 b (i / 5 * 5 + (i % 5 + 1) % 5)) &&& g64 b (i / 5 * 5 + (i % 5 + 2) % 5))
def chiL (b : List (BitVec 64)) : List (BitVec 64) := (List.range 25).map (chiE b)
end Go.Fw
namespace Go.Fw
end Go.Fw
namespace Go.Fw
@[simp] theorem chiL_length (b : List (BitVec 64)) : (chiL b).length = 25 := by simp [chiL]
end Go.Fw
namespace Go.Fw
end Go.Fw
namespace Go.Fw
end Go.Fw
namespace Go.Fw
end Go.Fw
namespace Go.Fw
end Go.Fw
namespace Go.Fw
end Go.Fw
namespace Go.Fw
end Go.Fw
namespace Go.Fw
def bt (x : BitVec 64) (z : Nat) : Bool := x.getLsbD (z % 64)
def dc (a b : List (BitVec 64)) (x z : Nat) : Bool := bt (colS a (x % 5)) z ^^ bt (colS b (x % 5)) z
end Go.Fw
namespace Go.Fw
open Go Go.RowKit
def toVec (n : Nat) (l : List (BitVec 8)) : Option (Vector (BitVec 8) n) := if h : (l.take n).length = n then some ⟨(l.take n).toArray, by simpa using h⟩ else none
theorem toVec_list {n : Nat} {l : List (BitVec 8)} {x : Vector (BitVec 8) n} (h : toVec n l = some x) : x.toList = l.take n ∧ n ≤ l.length := by
 unfold toVec at h
 split at h
 ·rename_i hl
  cases h
  exact ⟨rfl, by rw [List.length_take] at hl; omega⟩
 ·cases h
theorem toVec_some {n : Nat} {l : List (BitVec 8)} (h : n ≤ l.length) : ∃ x, toVec n l = some x := by
 unfold toVec
 rw [dif_pos (by rw [List.length_take]; omega)]
 exact ⟨_, rfl⟩
theorem View.vec8 {Φ : Ctx} {A : Option Addr} {c : Nat} {l : List (BitVec 8)} {n : Nat} {x : Vector (BitVec 8) n} (h : View Φ A l.length c 1 (u8s l)) (hx : toVec n l = some x) {w : World} (q : Φ w) : ∀ j u, (u8s x.toList)[j]? = some u → w.cell? (((A.getD default).add 0).add j) = some u := fun j u hj => by
 have e : ((A.getD default).add 0).add j = (A.getD default).add j := by simp [Addr.add]
 rw [e]
 refine h.cell q ?_
 rw [(toVec_list hx).1] at hj
 have hl : j < n := by
  have := (List.getElem?_eq_some_iff.1 hj).1
  rw [Z101, List.length_take] at this
  omega
 rw [← u8s_take, List.getElem?_take, if_pos hl] at hj
 exact hj
section
variable {P : Program} [Types P] {n : Nat} {w0 : World} {L : Z123} {M : List Ent} {x : Operand} {t e : TypeId}
theorem RV.s2a {A : Option Addr} {len cap k : Nat} (hx : ev L x = some (.slice A len cap)) (ht : tyU P t = some (.array k e)) (hA : A.isSome = true) (hk : k ≤ len) :
    RV P w0 L M (.sliceToArrayPointer t x) (rptr A 0) := fun ρ w hρ m o ho => by
 obtain ⟨a, rfl⟩ := Option.isSome_iff_exists.1 hA
 have hk' : ¬ len < k := by omega
 simp [execOp, ho, hρ x _ hx, Instr.arrayAt, Z122 ht, rptr, hk', Addr.add]
end
end Go.Fw
namespace Go.Fw
open Go Go.RowKit
theorem Z143 {L : Z123} {d k : Nat} {u : Value} (h : d ≠ k) : lk ((d, u) :: L) k = lk L k := by
 simp only [lk]
 split
 ·rename_i e; exact absurd (by simpa using e) h
 ·rfl
theorem nbeq {a b : Nat} (h : Nat.beq a b = false) : a ≠ b := fun e => by subst e; simp at h
theorem lk_swap {L : Z123} {d e q : Nat} {u v w : Value} (h : d ≠ e) (hq : lk ((e, u) :: (d, v) :: L) q = some w) : lk ((d, v) :: (e, u) :: L) q = some w := by
 by_cases h1 : e = q
 ·subst h1
  rw [Z143 h]
  simpa [lk] using hq
 ·rw [Z143 h1] at hq
  by_cases h2 : d = q
  ·subst h2; simpa [lk] using hq
  ·rw [Z143 h2] at hq ⊢
   rw [Z143 h1]; exact hq
theorem lk_mono {L : Z123} {d : Nat} {u : Value} (h : lk L d = none) : ∀ k v, lk L k = some v → lk ((d, u) :: L) k = some v := fun k v hk => by
 rw [Z143 (fun e => by subst e; rw [h] at hk; cases hk)]; exact hk
theorem ev_mono {L L' : Z123} (h : ∀ k v, lk L k = some v → lk L' k = some v) {x : Operand} {v : Value} (hx : ev L x = some v) : ev L' x = some v := by
 cases x with
 | tmp t => exact h t v hx
 | const c => exact hx
 | global g => exact hx
 | func f => exact hx
theorem evs_mono {L L' : Z123} (h : ∀ k v, lk L k = some v → lk L' k = some v) : ∀ (l : List Operand) (vs : List Value), evs L l = some vs → evs L' l = some vs
 | [], vs, e => e
 | x :: r, vs, e => by
  simp only [evs] at e ⊢
  split at e
  ·rename_i u hu
   rw [ev_mono h hu]
   split at e
   ·rename_i us hus
    rw [evs_mono h r us hus]
    exact e
   ·cases e
  ·cases e
theorem Mem.under {w0 : World} {M M' : List Ent} (hs : ∀ w, Mem w0 w M → Mem w0 w M') {b : Nat} {l : List Value} {t : TypeId} {w : World} (m : Mem w0 w ((some b, blk l t) :: M)) : Mem w0 w ((some b, blk l t) :: M') := by
 have m1 := hs w m.tail
 obtain ⟨hb, hw⟩ := m.ents _ (List.mem_cons_self ..) b rfl
 have hlt : b < w.heap.size := (Array.getElem?_eq_some_iff.1 hw).1
 refine ⟨m.os, m.tape, m.output, m.size, m.old, fun e he b' hb' => ?_, List.pairwise_cons.2 ⟨fun e he b' h1 h2 => ?_, m1.apart⟩⟩
 ·rcases List.mem_cons.1 he with rfl | he
  ·exact m.ents _ (List.mem_cons_self ..) b' hb'
  ·exact m1.ents e he b' hb'
 ·obtain rfl : b = b' := by simpa using h1
  have hne : ∀ x ∈ M, ∀ b', x.1 = some b' → b' ≠ b := fun x hx b' h3 e => (List.pairwise_cons.1 m.apart).1 x hx b rfl (by rw [h3, e])
  have m2 : Mem w0 { w with heap := w.heap.set b (blk (undef :: l) t) hlt } M := by
   refine ⟨m.os, m.tape, m.output, by simpa using m.size, fun b' h => ?_, fun x hx b' h3 => ?_, m.tail.apart⟩
   ·show (w.heap.set b _ hlt)[b']? = _
    rw [Array.getElem?_set_ne hlt (by omega)]
    exact m.old b' h
   ·obtain ⟨h4, h5⟩ := m.tail.ents x hx b' h3
    refine ⟨h4, ?_⟩
    show (w.heap.set b _ hlt)[b']? = _
    rw [Array.getElem?_set_ne hlt (fun e => hne x hx b' h3 e.symm)]
    exact h5
  have q1 := (m1.ents e he b h2).2
  have q2 := ((hs _ m2).ents e he b h2).2
  have q3 : (w.heap.set b (blk (undef :: l) t) hlt)[b]? = some (blk (undef :: l) t) := Array.getElem?_set_self hlt
  have q4 : some (blk (undef :: l) t) = some (blk l t) := (q3.symm.trans q2).trans (q1.symm.trans hw)
  simp [blk] at q4
section
variable {P : Program} {n : Nat} {Q : Exit → Act → World → Prop} {w0 : World} {L : Z123} {M R : List Ent}
variable {ops : Array Oper} {hard : List Nat} {f : Nat} {done : Array Bool} {op opp : Op} {ty typ : TypeId} {pos posp : String} {aft aftp : Array Edge} {g : Option (Nat × Bool)} {d dp p : Nat} {v : Value} {fv : Nat → Value} {l : List Value} {te : TypeId}
theorem XW.sub {L' : Z123} (hs : ∀ k v, lk L' k = some v → lk L k = some v) (k : XW P n ops Q w0 R hard f done L' M) : XW P n ops Q w0 R hard f done L M := by
 unfold XW at *
 exact fun hR hB inv a w fr mm => k hR hB inv a w (fr.sub hs) mm
def XWp (P : Program) (n : Nat) (ops : Array Oper) (Q : Exit → Act → World → Prop) (w0 : World) (R : List Ent) (hard : List Nat) (p dp : Nat) (fv : Nat → Value) (l : List Value) (te : TypeId) (f : Nat) (done : Array Bool) (L : Z123) (M : List Ent) : Prop :=
 (∃ op ty pos aft, ops[p]? = some ⟨some dp, op, ty, pos, aft, none⟩ ∧ NV P w0 [] [] op fv l te ∧ Nat.blt dp n = true) → lk L dp = none →
  XW P n ops Q w0 R hard (f + 1) done L M ∧ ∀ b, XW P n ops Q w0 R hard f (done.setIfInBounds p true) ((dp, fv b) :: L) ((some b, blk l te) :: M)
theorem XWp.start (p : Nat) (ho : ops[p]? = some ⟨some dp, op, ty, pos, aft, none⟩) (hop : NV P w0 [] [] op fv l te) (hd : Nat.blt dp n = true) (hl : lk L dp = none) (k : XWp P n ops Q w0 R hard p dp fv l te f done L M) : XW P n ops Q w0 R hard (f + 1) done L M := (k ⟨_, _, _, _, ho, hop, hd⟩ hl).1
theorem NV.any (h : NV P w0 [] [] op fv l te) : NV P w0 L M op fv l te := fun ρ w hρ m o ho => h ρ w (fun x u hx => hρ x u (ev_mono (fun k v hk => by simp [lk] at hk) hx)) (m.sublist (List.nil_sublist _)) o ho
theorem XWp.fin (hr : (Region.ready .any ops done == [p]) = true) (k : ∀ b, XW P n ops Q w0 R hard f (done.setIfInBounds p true) ((dp, fv b) :: L) ((some b, blk l te) :: M)) : XWp P n ops Q w0 R hard p dp fv l te f done L M := fun ⟨_, _, _, _, ho, hop, hd⟩ hl =>
 ⟨XW.new p ho hr rfl hop.any hd k, k⟩
theorem XWp.slot (v' : Value) (hv : v = v') (k : XWp P n ops Q w0 R hard p dp fv l te f done ((d, v') :: L) M) : XWp P n ops Q w0 R hard p dp fv l te f done ((d, v) :: L) M := by subst hv; exact k
theorem XWp.mem {M' : List Ent} (hs : ∀ w, Mem w0 w M → Mem w0 w M') (hMR : ∀ w, Mem w0 w M' → Mem w0 w R) (k : XWp P n ops Q w0 R hard p dp fv l te f done L M') : XWp P n ops Q w0 R hard p dp fv l te f done L M := fun hp hl =>
 ⟨Z19 hs hMR (k hp hl).1, fun b => Z19 (fun w m => m.under hs) (fun w m => hMR w m.tail) ((k hp hl).2 b)⟩
theorem RV.more {L' : Z123} {M' : List Ent} (hL : ∀ k v, lk L k = some v → lk L' k = some v) (hM : ∀ w, Mem w0 w M' → Mem w0 w M) (h : RV P w0 L M op v) : RV P w0 L' M' op v := fun ρ w hρ m o ho => h ρ w (fun x u hx => hρ x u (ev_mono hL hx)) (hM w m) o ho
theorem XWp.rs (i : Nat) (ho : ops[i]? = some ⟨some d, op, ty, pos, aft, none⟩) (hr : (XR ops done i && XR ops (done.setIfInBounds p true) i && !Nat.beq d dp && !Nat.beq i p) = true) (hw : Wt ops L none = true) (hop : RV P w0 L R op v) (hd : Nat.blt d n = true) (k : XWp P n ops Q w0 R hard p dp fv l te f (done.setIfInBounds i true) ((d, v) :: L) M) : XWp P n ops Q w0 R hard p dp fv l te (f + 1) done L M := fun hp hl => by
 simp only [Bool.and_eq_true, Bool.not_eq_true'] at hr
 obtain ⟨⟨⟨h1, h2⟩, h3⟩, h4⟩ := hr
 have hl' : lk ((d, v) :: L) dp = none := by rw [Z143 (nbeq h3)]; exact hl
 obtain ⟨k1, k2⟩ := k hp hl'
 refine ⟨Z10 i ho h1 rfl hop hd k1, fun b => Z10 i ho h2 rfl (hop.more (lk_mono hl) fun _ m => m) hd ?_⟩
 rw [Array.setIfInBounds_comm _ _ (Ne.symm (nbeq h4))]
 refine XW.sub (fun q u hq => ?_) (k2 b)
 exact lk_swap (nbeq h3) hq
theorem XWp.rv (i : Nat) (ho : ops[i]? = some ⟨some d, op, ty, pos, aft, none⟩) (hr : (XR ops done i && XR ops (done.setIfInBounds p true) i && !Nat.beq d dp && !Nat.beq i p) = true) (hw : Wt ops L none = true) (hS : XS ops hard i = true) (hop : RV P w0 L M op v) (hd : Nat.blt d n = true) (k : XWp P n ops Q w0 R hard p dp fv l te f (done.setIfInBounds i true) ((d, v) :: L) M) : XWp P n ops Q w0 R hard p dp fv l te (f + 1) done L M := fun hp hl => by
 simp only [Bool.and_eq_true, Bool.not_eq_true'] at hr
 obtain ⟨⟨⟨h1, h2⟩, h3⟩, h4⟩ := hr
 have hl' : lk ((d, v) :: L) dp = none := by rw [Z143 (nbeq h3)]; exact hl
 obtain ⟨k1, k2⟩ := k hp hl'
 refine ⟨XW.rv i ho h1 rfl hS hop hd k1, fun b => XW.rv i ho h2 rfl hS (hop.more (lk_mono hl) fun _ m => m.tail) hd ?_⟩
 rw [Array.setIfInBounds_comm _ _ (Ne.symm (nbeq h4))]
 refine XW.sub (fun q u hq => ?_) (k2 b)
 exact lk_swap (nbeq h3) hq
theorem XWp.callG (i : Nat) {fn : FuncId} {xs : List Operand} {ats : Array TypeId} {args : List Value} {Rr : Value → List Ent → Prop} (ho : ops[i]? = some ⟨some d, .call ⟨.value (.func fn), xs.toArray, ats⟩, ty, pos, aft, none⟩) (hr : ((Region.ready .any ops done == [i, p] || Region.ready .any ops done == [p, i]) && Region.ready .any ops (done.setIfInBounds p true) == [i] && !Nat.beq d dp && !Nat.beq i p) = true) (hw : Wt ops L none = true)
    (hc : ∀ (args : Array Value) (w : World), (callFunc fn args).run P w = .ok (.enter fn args) w) (hxs : evs L xs = some args) (hdo : ∀ N, (∀ w, Mem w0 w N → Mem w0 w M) → DoesG P fn args w0 [] N Rr)
    (hd : Nat.blt d n = true) (k : ∀ v G, Rr v G → XWp P n ops Q w0 R hard p dp fv l te f (done.setIfInBounds i true) ((d, v) :: L) (G ++ M)) : XWp P n ops Q w0 R hard p dp fv l te (f + 1) done L M := fun hp hl => by
 simp only [Bool.and_eq_true, Bool.not_eq_true', Bool.or_eq_true, beq_iff_eq] at hr
 obtain ⟨⟨⟨h1, h2⟩, h3⟩, h4⟩ := hr
 have hl' : ∀ v, lk ((d, v) :: L) dp = none := fun v => by rw [Z143 (nbeq h3)]; exact hl
 have k2 : ∀ b, XW P n ops Q w0 R hard (f + 1) (done.setIfInBounds p true) ((dp, fv b) :: L) ((some b, blk l te) :: M) := fun b => by
  refine Z11 i ho (by simpa using h2) rfl hc (evs_mono (lk_mono hl) _ _ hxs) (fun N hN => hdo N fun w m => (hN w m).tail) hd (fun v G hv => ?_)
  rw [Array.setIfInBounds_comm _ _ (Ne.symm (nbeq h4))]
  have q := (k v G hv hp (hl' v)).2 b
  unfold XW at q ⊢
  intro hR hB inv a w fr mm
  have mp : ∀ w, Mem w0 w ((some b, blk l te) :: (G ++ M)) → Mem w0 w (G ++ (some b, blk l te) :: M) := fun w m => m.perm List.perm_middle.symm
  refine q (fun w m => hR w (mp w m)) hB inv a w (fr.sub fun q u hq => ?_) (mm.perm List.perm_middle)
  exact lk_swap (nbeq h3) hq
 refine ⟨?_, k2⟩
 have k1 := fun v G hv => (k v G hv hp (hl' v)).1
 obtain ⟨op, tyq, posq, aftq, hop, hnv, hdp⟩ := hp
 unfold XW at k1 k2 ⊢
 intro hR hB inv a w fr mm
 have hmem : ∀ j, j ∈ Region.ready .any ops done ↔ j = i ∨ j = p := fun j => by rcases h1 with h | h <;> simp [h, or_comm]
 have him : i < ops.size := (Array.getElem?_eq_some_iff.1 ho).1
 have hpm : p < ops.size := (Array.getElem?_eq_some_iff.1 hop).1
 refine ⟨by rcases h1 with h | h <;> simp [h], fun j hj => ?_⟩
 rcases (hmem j).1 hj with rfl | rfl
 ·refine ⟨him, _, ho, .inl ⟨wt_spec fr rfl, ?_⟩⟩
  have hev := evs_map (fun x u hx => fr.eval hx) xs args hxs
  have hrun : (execOp a.eval ⟨some d, .call ⟨.value (.func fn), xs.toArray, ats⟩, ty, pos, aft, none⟩).run P w = .ok (.enter fn args.toArray) w := by
   simp [execOp, resolve, Deferred.ofValue, Act.eval, invoke, hev, hc]
  rw [hrun]
  refine (hdo (allEnts w0 w) (fun w2 m2 => Upw.of_all m2 _ mm) w mm.all).mono ?_
  rintro e w2 ⟨q, ⟨G, h1, h2⟩, rfl, m'⟩
  have m' : Mem w0 w2 (G ++ allEnts w0 w) := by have m2 := m'; rwa [show (fun q : Value × List Ent => q.2) q = G ++ allEnts w0 w from h2] at m2
  refine ⟨_, rfl, ?_, (k1 q.1 G h1) (fun w m => hR w m.appR) hB (inv.set hj him) _ _ (fr.put hd _) (m'.graft mm)⟩
  have hu := Upw.of_all m'.appR
  unfold Rl
  split
  ·exact hu R
  ·exact hu
 ·refine ⟨hpm, _, hop, .inl ⟨wt_spec fr rfl, ?_⟩⟩
  rw [hnv.any (L := L) (M := M) a.eval w (fun x u hx => fr.eval hx) mm _ rfl]
  refine ⟨?_, k2 _ (fun w m => hR w m.tail) hB (inv.set hj hpm) _ _ (fr.put hdp _) (mm.alloc _)⟩
  unfold Rl
  split
  ·exact Upw.alloc _ _ _ R
  ·exact Upw.alloc _ _ _
theorem XWp.new (i : Nat) {l' : List Value} {te' : TypeId} {fv' : Nat → Value} (ho : ops[i]? = some ⟨some d, op, ty, pos, aft, none⟩) (hr : ((Region.ready .any ops done == [i, p] || Region.ready .any ops done == [p, i]) && Region.ready .any ops (done.setIfInBounds p true) == [i] && !Nat.beq d dp && !Nat.beq i p) = true) (hw : Wt ops L none = true)
    (hop : NV P w0 L M op fv' l' te') (hd : Nat.blt d n = true) (k : ∀ b, XWp P n ops Q w0 R hard p dp fv l te f (done.setIfInBounds i true) ((d, fv' b) :: L) ((some b, blk l' te') :: M)) : XWp P n ops Q w0 R hard p dp fv l te (f + 1) done L M := fun hp hl => by
 simp only [Bool.and_eq_true, Bool.not_eq_true', Bool.or_eq_true, beq_iff_eq] at hr
 obtain ⟨⟨⟨h1, h2⟩, h3⟩, h4⟩ := hr
 have hl' : ∀ v, lk ((d, v) :: L) dp = none := fun v => by rw [Z143 (nbeq h3)]; exact hl
 have k2 : ∀ b, XW P n ops Q w0 R hard (f + 1) (done.setIfInBounds p true) ((dp, fv b) :: L) ((some b, blk l te) :: M) := fun b => by
  refine XW.new i ho (by simpa using h2) rfl (fun ρ w hρ m o ho => hop ρ w (fun x u hx => hρ x u (ev_mono (lk_mono hl) hx)) m.tail o ho) hd (fun b' => ?_)
  rw [Array.setIfInBounds_comm _ _ (Ne.symm (nbeq h4))]
  have q := (k b' hp (hl' _)).2 b
  unfold XW at q ⊢
  intro hR hB inv a w fr mm
  have mp : ∀ w, Mem w0 w ((some b, blk l te) :: (some b', blk l' te') :: M) → Mem w0 w ((some b', blk l' te') :: (some b, blk l te) :: M) := fun w m => m.rot1
  refine q (fun w m => hR w (mp w m)) hB inv a w (fr.sub fun q u hq => ?_) (mm.rot1)
  exact lk_swap (nbeq h3) hq
 refine ⟨?_, k2⟩
 have k1 := fun b => (k b hp (hl' (fv' b))).1
 obtain ⟨op, tyq, posq, aftq, hop2, hnv, hdp⟩ := hp
 unfold XW at k1 k2 ⊢
 intro hR hB inv a w fr mm
 have hmem : ∀ j, j ∈ Region.ready .any ops done ↔ j = i ∨ j = p := fun j => by rcases h1 with h | h <;> simp [h, or_comm]
 have him : i < ops.size := (Array.getElem?_eq_some_iff.1 ho).1
 have hpm : p < ops.size := (Array.getElem?_eq_some_iff.1 hop2).1
 refine ⟨by rcases h1 with h | h <;> simp [h], fun j hj => ?_⟩
 rcases (hmem j).1 hj with rfl | rfl
 ·refine ⟨him, _, ho, .inl ⟨wt_spec fr rfl, ?_⟩⟩
  rw [hop a.eval w (fun x u hx => fr.eval hx) mm _ rfl]
  refine ⟨?_, k1 _ (fun w m => hR w m.tail) hB (inv.set hj him) _ _ (fr.put hd _) (mm.alloc _)⟩
  unfold Rl
  split
  ·exact Upw.alloc _ _ _ R
  ·exact Upw.alloc _ _ _
 ·refine ⟨hpm, _, hop2, .inl ⟨wt_spec fr rfl, ?_⟩⟩
  rw [hnv.any (L := L) (M := M) a.eval w (fun x u hx => fr.eval hx) mm _ rfl]
  refine ⟨?_, k2 _ (fun w m => hR w m.tail) hB (inv.set hj hpm) _ _ (fr.put hdp _) (mm.alloc _)⟩
  unfold Rl
  split
  ·exact Upw.alloc _ _ _ R
  ·exact Upw.alloc _ _ _
attribute [irreducible] XWp
theorem NV.alloc [Types P] {e : TypeId} {ti : TI} {l : List Value} (hi : Fw.ty P e = some ti) (hl : ti.z.cells = l.toArray) : NV P w0 L M (.alloc e) (fun b => ptr (some b) 0) l e := fun ρ w hρ m o ho => by
 obtain ⟨_, ti, h1, h2, h3, h4⟩ := ty_ok hi
 simp [execOp, ho, Instr.alloc, zeroValue, typeInfo, h1, h4, newVar, newRow, ptr, blk, hl]
end
end Go.Fw
namespace Go.Fw
open Go
def Rooms (Φ : Ctx) (A : Option Addr) (c : Nat) (x : List (List (BitVec 8))) : Prop := ∃ cs mk : List Value, View Φ A (x ++ ([([164#8] : List (BitVec 8))] : List (List (BitVec 8)))).length c 1 (cs ++ mk) ∧ Reps (RmRd Φ) cs x ∧ Reps (BsRd Φ) (cs ++ mk) (x ++ ([([164#8] : List (BitVec 8))] : List (List (BitVec 8))))
theorem Rooms.mono {Φ Ψ : Ctx} {A : Option Addr} {c : Nat} {x : List (List (BitVec 8))} (h : Rooms Φ A c x) (hh : ∀ w, Ψ w → Φ w) : Rooms Ψ A c x := by
 obtain ⟨cs, mk, v, r, rb⟩ := h
 exact ⟨cs, mk, v.mono hh, r.mono (RmRd.mono hh), rb.mono (BsRd.mono hh)⟩
theorem Rooms.mk {Φ : Ctx} {A : Option Addr} {c : Nat} {x : List (List (BitVec 8))} {cs mk : List Value} (v : View Φ A (x ++ ([([164#8] : List (BitVec 8))] : List (List (BitVec 8)))).length c 1 (cs ++ mk)) (r : Reps (RmRd Φ) cs x) (rb : Reps (BsRd Φ) (cs ++ mk) (x ++ ([([164#8] : List (BitVec 8))] : List (List (BitVec 8))))) : Rooms Φ A c x := ⟨cs, mk, v, r, rb⟩
def Ar8Rd {n : Nat} (Φ : Ctx) (cs : List Value) (v : Vector (BitVec 8) n) : Prop := cs = u8s v.toList
theorem Ar8Rd.mono {n : Nat} {Φ Ψ : Ctx} (hh : ∀ w, Ψ w → Φ w) (cs : List Value) (v : Vector (BitVec 8) n) (h : Ar8Rd Φ cs v) : Ar8Rd Ψ cs v := h
theorem Ar8Rd.len {n : Nat} {Φ : Ctx} (cs : List Value) (v : Vector (BitVec 8) n) (h : Ar8Rd Φ cs v) : cs.length = n := by rw [h, Z101, Zv]
theorem Ar8Rd.one {n : Nat} {Φ : Ctx} (cs : List Value) (v : Vector (BitVec 8) n) (h : Ar8Rd Φ cs v) : ∀ u ∈ cs, u.oneCell' = true := by rw [h]; exact Z125 _
theorem Ar8Rd.mk {n : Nat} {Φ : Ctx} {v : Vector (BitVec 8) n} : Ar8Rd Φ (u8s v.toList) v := rfl
end Go.Fw
namespace Go.Fw
open Go
structure LogC where
 address : Vector (BitVec 8) 20
 topics : Value
 data : Value
def LogC.C (s : LogC) : List Value := u8s s.address.toList ++ ([s.topics] ++ ([s.data]))
theorem LogC.C_length (s : LogC) : s.C.length = 22 := by simp [LogC.C, Z101]
theorem LogC.C_one (s : LogC) (h_topics : s.topics.oneCell' = true) (h_data : s.data.oneCell' = true) : ∀ u ∈ s.C, u.oneCell' = true := by
 intro u hu
 simp only [LogC.C, List.mem_append, List.mem_singleton] at hu
 rcases hu with hu | rfl | rfl
 ·exact Z125 _ u hu
 ·exact h_topics
 ·exact h_data
theorem Z121 (s : LogC) : ∀ (k : Nat) (u : Value), (u8s s.address.toList)[k]? = some u → s.C[0 + k]? = some u := by
 intro k u h; rw [show 0 + k = k by omega]; exact (here_get h)
theorem LogC.C_address_spl (s : LogC) (x : Vector (BitVec 8) 20) : spl s.C 0 (u8s x.toList) = ({ s with address := x } : LogC).C := by
 rw [show 0 = 0 by rfl]; exact (here_spl (by simp [Z101]))
theorem LogC.C_address_cpy (s : LogC) {lo : Nat} {l : List (BitVec 8)} (h : lo + l.length ≤ 20) : spl s.C (0 + lo) (u8s l) = ({ s with address := cpV s.address lo l } : LogC).C := by
 rw [show 0 + lo = lo by omega]; exact (at_spl (by rw [Z101, Z101, Zv]; exact h) (u8s_cpV _ h))
theorem Z106 (s : LogC) : s.C[20]? = some (s.topics) := by
 rw [show 20 = 20 + (0) by rfl]; exact (skip_get ((Z101 _).trans Zv) (here_get rfl))
theorem LogC.C_topics_set (s : LogC) (x : Value) : s.C.set 20 (x) = ({ s with topics := x } : LogC).C := by
 rw [show 20 = 20 + (0) by rfl]; exact (skip_set ((Z101 _).trans Zv) (here_set (by simp) rfl))
theorem Z124 (s : LogC) : s.C[21]? = some (s.data) := by
 rw [show 21 = 20 + (1 + (0)) by rfl]; exact (skip_get ((Z101 _).trans Zv) (skip_get rfl rfl))
theorem LogC.C_data_set (s : LogC) (x : Value) : s.C.set 21 (x) = ({ s with data := x } : LogC).C := by
 rw [show 21 = 20 + (1 + (0)) by rfl]; exact (skip_set ((Z101 _).trans Zv) (skip_set rfl rfl))
structure Log where
 address : Vector (BitVec 8) 20
 topics : List (Vector (BitVec 8) 32)
 data : List (BitVec 8)
def LogRd (Φ : Ctx) (cs : List Value) (x : Log) : Prop := ∃ (A_topics : Option Addr), ∃ (c_topics : Nat), ∃ (cs_topics : List Value), ∃ (A_data : Option Addr), ∃ (c_data : Nat), cs = (⟨x.address, .slice A_topics x.topics.length c_topics, .slice A_data x.data.length c_data⟩ : LogC).C ∧ (View Φ A_topics x.topics.length c_topics 32 cs_topics) ∧ (Reps (Ar8Rd Φ) cs_topics x.topics) ∧ (View Φ A_data x.data.length c_data 1 (u8s x.data))
theorem LogRd.opn {Φ : Ctx} {cs : List Value} {x : Log} (h : LogRd Φ cs x) : ∃ (A_topics : Option Addr), ∃ (c_topics : Nat), ∃ (cs_topics : List Value), ∃ (A_data : Option Addr), ∃ (c_data : Nat), cs = (⟨x.address, .slice A_topics x.topics.length c_topics, .slice A_data x.data.length c_data⟩ : LogC).C ∧ (View Φ A_topics x.topics.length c_topics 32 cs_topics) ∧ (Reps (Ar8Rd Φ) cs_topics x.topics) ∧ (View Φ A_data x.data.length c_data 1 (u8s x.data)) := h
theorem LogRd.mono {Φ Ψ : Ctx} (hh : ∀ w, Ψ w → Φ w) (cs : List Value) (x : Log) : LogRd Φ cs x → LogRd Ψ cs x := fun ⟨A_topics, c_topics, cs_topics, A_data, c_data, e, v_topics, h_topics, v_data⟩ => ⟨A_topics, c_topics, cs_topics, A_data, c_data, e, v_topics.mono hh, h_topics.mono (Ar8Rd.mono hh), v_data.mono hh⟩
theorem LogRd.len {Φ : Ctx} (cs : List Value) (x : Log) (h : LogRd Φ cs x) : cs.length = 22 := by
 obtain ⟨A_topics, c_topics, cs_topics, A_data, c_data, e, v_topics, h_topics, v_data⟩ := h
 rw [e]; exact LogC.C_length _
theorem LogRd.one {Φ : Ctx} (cs : List Value) (x : Log) (h : LogRd Φ cs x) : ∀ u ∈ cs, u.oneCell' = true := by
 obtain ⟨A_topics, c_topics, cs_topics, A_data, c_data, e, v_topics, h_topics, v_data⟩ := h
 rw [e]; exact LogC.C_one _ rfl rfl
theorem LogRd.mk {Φ : Ctx} {address : Vector (BitVec 8) 20} {topics : List (Vector (BitVec 8) 32)} {data : List (BitVec 8)} {A_topics : Option Addr} {c_topics : Nat} {cs_topics : List Value} {A_data : Option Addr} {c_data : Nat} (v_topics : View Φ A_topics topics.length c_topics 32 cs_topics) (h_topics : Reps (Ar8Rd Φ) cs_topics topics) (v_data : View Φ A_data data.length c_data 1 (u8s data)) : LogRd Φ (⟨address, .slice A_topics topics.length c_topics, .slice A_data data.length c_data⟩ : LogC).C (⟨address, topics, data⟩ : Log) := ⟨A_topics, c_topics, cs_topics, A_data, c_data, rfl, v_topics, h_topics, v_data⟩
structure RcptC where
 kind : Int
 rooted : Bool
 root : Vector (BitVec 8) 32
 status : BitVec 64
 used : BitVec 64
 bloom : Vector (BitVec 8) 256
 logs : Value
def RcptC.C (s : RcptC) : List Value := [.int .i64 s.kind] ++ ([.bool s.rooted] ++ (u8s s.root.toList ++ ([U64 s.status] ++ ([U64 s.used] ++ (u8s s.bloom.toList ++ ([s.logs]))))))
theorem RcptC.C_length (s : RcptC) : s.C.length = 293 := by simp [RcptC.C, Z101]
theorem RcptC.C_one (s : RcptC) (h_logs : s.logs.oneCell' = true) : ∀ u ∈ s.C, u.oneCell' = true := by
 intro u hu
 simp only [RcptC.C, List.mem_append, List.mem_singleton] at hu
 rcases hu with rfl | rfl | hu | rfl | rfl | hu | rfl
 ·rfl
 ·rfl
 ·exact Z125 _ u hu
 ·rfl
 ·rfl
 ·exact Z125 _ u hu
 ·exact h_logs
structure Rcpt where
 kind : Int
 rooted : Bool
 root : Vector (BitVec 8) 32
 status : BitVec 64
 used : BitVec 64
 bloom : Vector (BitVec 8) 256
 logs : List (Log)
def RcptRd (Φ : Ctx) (cs : List Value) (x : Rcpt) : Prop := ∃ (A_logs : Option Addr), ∃ (c_logs : Nat), ∃ (cs_logs : List Value), cs = (⟨x.kind, x.rooted, x.root, x.status, x.used, x.bloom, .slice A_logs x.logs.length c_logs⟩ : RcptC).C ∧ (-9223372036854775808 ≤ x.kind ∧ x.kind ≤ 9223372036854775807) ∧ (View Φ A_logs x.logs.length c_logs 22 cs_logs) ∧ (Reps (LogRd Φ) cs_logs x.logs)
theorem RcptRd.opn {Φ : Ctx} {cs : List Value} {x : Rcpt} (h : RcptRd Φ cs x) : ∃ (A_logs : Option Addr), ∃ (c_logs : Nat), ∃ (cs_logs : List Value), cs = (⟨x.kind, x.rooted, x.root, x.status, x.used, x.bloom, .slice A_logs x.logs.length c_logs⟩ : RcptC).C ∧ (-9223372036854775808 ≤ x.kind ∧ x.kind ≤ 9223372036854775807) ∧ (View Φ A_logs x.logs.length c_logs 22 cs_logs) ∧ (Reps (LogRd Φ) cs_logs x.logs) := h
theorem RcptRd.mono {Φ Ψ : Ctx} (hh : ∀ w, Ψ w → Φ w) (cs : List Value) (x : Rcpt) : RcptRd Φ cs x → RcptRd Ψ cs x := fun ⟨A_logs, c_logs, cs_logs, e, b_kind, v_logs, h_logs⟩ => ⟨A_logs, c_logs, cs_logs, e, b_kind, v_logs.mono hh, h_logs.mono (LogRd.mono hh)⟩
theorem RcptRd.len {Φ : Ctx} (cs : List Value) (x : Rcpt) (h : RcptRd Φ cs x) : cs.length = 293 := by
 obtain ⟨A_logs, c_logs, cs_logs, e, b_kind, v_logs, h_logs⟩ := h
 rw [e]; exact RcptC.C_length _
theorem RcptRd.one {Φ : Ctx} (cs : List Value) (x : Rcpt) (h : RcptRd Φ cs x) : ∀ u ∈ cs, u.oneCell' = true := by
 obtain ⟨A_logs, c_logs, cs_logs, e, b_kind, v_logs, h_logs⟩ := h
 rw [e]; exact RcptC.C_one _ rfl
theorem RcptRd.mk {Φ : Ctx} {kind : Int} {rooted : Bool} {root : Vector (BitVec 8) 32} {status : BitVec 64} {used : BitVec 64} {bloom : Vector (BitVec 8) 256} {logs : List (Log)} {A_logs : Option Addr} {c_logs : Nat} {cs_logs : List Value} (b_kind : -9223372036854775808 ≤ kind ∧ kind ≤ 9223372036854775807) (v_logs : View Φ A_logs logs.length c_logs 22 cs_logs) (h_logs : Reps (LogRd Φ) cs_logs logs) : RcptRd Φ (⟨kind, rooted, root, status, used, bloom, .slice A_logs logs.length c_logs⟩ : RcptC).C (⟨kind, rooted, root, status, used, bloom, logs⟩ : Rcpt) := ⟨A_logs, c_logs, cs_logs, rfl, b_kind, v_logs, h_logs⟩
end Go.Fw
namespace Go.Fw
open Go Go.RowKit
section
variable {P : Program} [Types P] {n : Nat} {Q : Exit → Act → World → Prop} {w0 : World} {L : Z123} {M : List Ent} {t e : TypeId} {x : Operand} {v : Value}
def Held (w0 : World) (Φ : Ctx) (b : Nat) (l : List Value) (te : TypeId) : Prop := ∀ w, Φ w → Mem w0 w [(some b, blk l te)]
theorem Held.mono {Φ Ψ : Ctx} {b : Nat} {l : List Value} {te : TypeId} (h : Held w0 Φ b l te) (hh : ∀ w, Ψ w → Φ w) : Held w0 Ψ b l te := fun w q => h w (hh w q)
theorem RV.loadH {Φ : Ctx} {b i : Nat} {l : List Value} {te : TypeId} {u : TypeDesc} (hx : ev L x = some (ptr (some b) i)) (he : Held w0 Φ b l te) (hM : ∀ w, Mem w0 w M → Φ w) (hu : tyU P t = some u) (hg : TypeDesc.agg u = false) (hv : l[i]? = some v) : RV P w0 L M (.load t x) v :=
 Z21 (a := ⟨b, i, none⟩) hx hu hg (fun w m => by show w.cell? ⟨b, i, none⟩ = some v; rw [(he w (hM w m)).cell (List.mem_cons_self ..)]; exact hv)
theorem Held.part {Φ : Ctx} {b i : Nat} {l : List Value} {te : TypeId} {m : Nat} {a : Vector (BitVec 8) m} (h : Held w0 Φ b l te) (hp : ∀ (k : Nat) (u : Value), (u8s a.toList)[k]? = some u → l[i + k]? = some u) (hm : m ≤ 140737488355328) : View Φ (some ⟨b, i, none⟩) a.toList.length m 1 (u8s a.toList) :=
 ⟨fun w q => ⟨fun _ => rfl, fun j u hj => by
  show w.cell? ((⟨b, i, none⟩ : Addr).add j) = some u
  rw [Z119, (h w q).cell (List.mem_cons_self ..)]; exact hp j u hj⟩, fun _ => rfl, by rw [Z101]; omega, by rw [Zv]; exact Nat.le_refl _, by rw [Zv]; exact hm⟩
theorem View.part {Φ : Ctx} {A : Option Addr} {len c s off f : Nat} {cells cs : List Value} {m : Nat} {a : Vector (BitVec 8) m} (h : View Φ A len c s cells) (hc : ∀ j u, cs[j]? = some u → cells[off + j]? = some u) (hp : ∀ (k : Nat) (u : Value), (u8s a.toList)[k]? = some u → cs[f + k]? = some u) (hm : m ≤ 140737488355328) :
    View Φ (some (((A.getD default).add off).add f)) a.toList.length m 1 (u8s a.toList) :=
 ⟨fun w q => ⟨fun _ => rfl, fun j u hj => by
  show w.cell? ((((A.getD default).add off).add f).add j) = some u
  rw [Addr.add_add]; exact h.load q hc _ u (hp j u hj)⟩, fun _ => rfl, by rw [Z101]; omega, by rw [Zv]; exact Nat.le_refl _, by rw [Zv]; exact hm⟩
theorem View.load_part {Φ : Ctx} {A : Option Addr} {len c s off f : Nat} {cells cs vs : List Value} (h : View Φ A len c s cells) {w : World} (q : Φ w) (hc : ∀ j u, cs[j]? = some u → cells[off + j]? = some u) (hp : ∀ (k : Nat) (u : Value), vs[k]? = some u → cs[f + k]? = some u) :
    ∀ j u, vs[j]? = some u → w.cell? ((((A.getD default).add off).add f).add j) = some u := fun j u hj => by
 rw [Addr.add_add]; exact h.load q hc _ u (hp j u hj)
theorem View.load_fld {Φ : Ctx} {A : Option Addr} {len c s off f : Nat} {cells cs : List Value} (h : View Φ A len c s cells) {w : World} (q : Φ w) (hc : ∀ j u, cs[j]? = some u → cells[off + j]? = some u) (hp : cs[f]? = some v) :
    w.cell? (((A.getD default).add off).add f) = some v := h.load q hc f v hp
end
section
variable {P : Program} {n : Nat} {Q : Exit → Act → World → Prop} {w0 : World} {L : Z123} {M : List Ent}
end
def LsRd {T : Type} (s : Nat) (R : Ctx → List Value → T → Prop) (Φ : Ctx) (cs : List Value) (x : List T) : Prop := ∃ A c cs2, cs = [.slice A x.length c] ∧ View Φ A x.length c s cs2 ∧ Reps (R Φ) cs2 x
abbrev HsRd (Φ : Ctx) (cs : List Value) (x : List (Vector (BitVec 8) 32)) : Prop := LsRd 32 Ar8Rd Φ cs x
theorem HsRd.mono {Φ Ψ : Ctx} (hh : ∀ w, Ψ w → Φ w) (cs : List Value) (x : List (Vector (BitVec 8) 32)) : HsRd Φ cs x → HsRd Ψ cs x := fun ⟨A, c, cs2, h1, h2, h3⟩ => ⟨A, c, cs2, h1, h2.mono hh, h3.mono (Ar8Rd.mono hh)⟩
theorem HsRd.len {Φ : Ctx} (cs : List Value) (x : List (Vector (BitVec 8) 32)) (h : HsRd Φ cs x) : cs.length = 1 := by obtain ⟨A, c, cs2, rfl, _⟩ := h; rfl
theorem HsRd.one {Φ : Ctx} (cs : List Value) (x : List (Vector (BitVec 8) 32)) (h : HsRd Φ cs x) : ∀ u ∈ cs, u.oneCell' = true := by
 obtain ⟨A, c, cs2, rfl, _⟩ := h
 intro u hu; simp at hu; subst hu; rfl
theorem HsRd.mk {Φ : Ctx} {A : Option Addr} {c : Nat} {cs2 : List Value} {x : List (Vector (BitVec 8) 32)} (h1 : View Φ A x.length c 32 cs2) (h2 : Reps (Ar8Rd Φ) cs2 x) : HsRd Φ [.slice A x.length c] x := ⟨A, c, cs2, rfl, h1, h2⟩
end Go.Fw
namespace Go.Fw
def u256_From (a0 : BitVec 64) : Option ((Vector (BitVec 64) 4)) := (some ((Vector.replicate 4 0#64).setIfInBounds 0 a0))
def waybillref01_From (a0 : BitVec 64) : Option ((Vector (BitVec 64) 4)) := (some (((((Vector.replicate 4 0#64).setIfInBounds 0 a0).setIfInBounds 1 (0#64)).setIfInBounds 2 (0#64)).setIfInBounds 3 (0#64)))
def rlp_clone (a0 : List (BitVec 8)) : Option ((List (BitVec 8))) := (some a0)
def rlp_Text (a0 : List (BitVec 8)) : Option ((It)) := ((rlp_clone a0).bind fun x4 => (some (It.mk false x4 ([] : List (It)))))
def rlp_odd (a0 : It) : Option ((Bool)) := (((if a0.list = true then (if 0 < a0.data.length then (some (true)) else (if a0.list = true then (some (false)) else (some ((decide (0 < a0.items.length)))))) else (if a0.list = true then (some (false)) else (some ((decide (0 < a0.items.length)))))) : Option ((Bool))).bind fun p16 => (some (p16)))
def waybillref07_odd (a0 : It) : Option ((Bool)) := (if a0.list = true then (some (decide (0 < a0.data.length))) else (some (decide (0 < a0.items.length))))
def rlp_kind (a0 : It) (a1 : Bool) : Option ((Nat)) := ((rlp_odd a0).bind fun x15 => (if x15 = true then (some 78) else (if (a0.list) = (a1) then (some 0) else (some 75))))
def math_bits_Len64 (a0 : BitVec 64) : Option ((Nat)) := (((if 4294967296 ≤ a0.toNat then (some (((a0 >>> 32), 32))) else (some ((a0, 0)))) : Option ((BitVec 64) × (Nat))).bind fun (w3, n4) => (((if 65536 ≤ w3.toNat then (if (n4 + 16) ≤ 9223372036854775807 then (some (((w3 >>> 16), (n4 + 16)))) else none) else (some ((w3, n4)))) : Option ((BitVec 64) × (Nat))).bind fun (w13, n14) => (((if 256 ≤ w13.toNat then (if (n14 + 8) ≤ 9223372036854775807 then (some (((w13 >>> 8), (n14 + 8)))) else none) else (some ((w13, n14)))) : Option ((BitVec 64) × (Nat))).bind fun (w23, n24) => (if (n24 + (BitVec.ofNat 8 (lenB (w23.setWidth 8))).toNat) ≤ 9223372036854775807 then (some (n24 + (BitVec.ofNat 8 (lenB (w23.setWidth 8))).toNat)) else none))))
def u256_Len.l1 (a0 : Vector (BitVec 64) 4) : Nat → (Int) → Option (Lp ((Int)) (Unit))
 | 0, _ => none
 | k11 + 1, z9 => (if (0 : Int) ≤ z9 then (if (z9).toNat < 4 then (a0[(z9).toNat]?).bind fun x20 => (if x20 = 0#64 then (if -9223372036854775808 ≤ (z9 - (1 : Int)) ∧ (z9 - (1 : Int)) ≤ 9223372036854775807 then (u256_Len.l1 a0 k11 (z9 - (1 : Int))) else none) else (if -9223372036854775808 ≤ ((64 : Int) * z9) ∧ ((64 : Int) * z9) ≤ 9223372036854775807 then (a0[(z9).toNat]?).bind fun x25 => ((math_bits_Len64 x25).bind fun x28 => (if -9223372036854775808 ≤ (((64 : Int) * z9) + ((x28 : Nat) : Int)) ∧ (((64 : Int) * z9) + ((x28 : Nat) : Int)) ≤ 9223372036854775807 then (some (Lp.ret (some (((64 : Int) * z9) + ((x28 : Nat) : Int))))) else none)) else none)) else none) else (some (Lp.go ())))
def u256_Len (a0 : Vector (BitVec 64) 4) : Option ((Int)) := (((u256_Len.l1 a0 5 (3 : Int)) : Option (Lp ((Int)) (Unit))).bind fun | .ret o => o | .go () => (some (0 : Int)))
def u256_Put.l1 (a0 : Vector (BitVec 64) 4) : Nat → (Nat) → (Vector (BitVec 8) 32) → Option ((Vector (BitVec 8) 32))
 | 0, _, _ => none
 | k15 + 1, n12, w14 => (if n12 < 32 then (if n12 ≤ 31 then (if (n12 / 8) < 4 then (a0[(n12 / 8)]?).bind fun x25 => (if (31 - n12) < 32 then (u256_Put.l1 a0 k15 (n12 + 1) (w14.setIfInBounds (31 - n12) ((x25 >>> (8 * (n12 % 8))).setWidth 8))) else none) else none) else none) else (some (w14)))
def u256_Put (a0 : Vector (BitVec 64) 4) : Option ((Vector (BitVec 8) 32)) := (((u256_Put.l1 a0 (32 - 0 + 2) 0 (Vector.replicate 32 0#8)) : Option ((Vector (BitVec 8) 32))).bind fun w6 => (some w6))
def waybillref01_Put.l1 (a0 : Vector (BitVec 64) 4) : Nat → (Nat) → (Vector (BitVec 8) 32) → Option ((Vector (BitVec 8) 32))
 | 0, _, _ => none
 | k15 + 1, n12, w14 => (if n12 < 32 then (if n12 ≤ 31 then (if (n12 / 8) < 4 then (a0[(n12 / 8)]?).bind fun x25 => (if (31 - n12) < 32 then (waybillref01_Put.l1 a0 k15 (n12 + 1) (w14.setIfInBounds (31 - n12) ((x25 >>> (BitVec.ofNat 64 (8 * (n12 % 8))).toNat).setWidth 8))) else none) else none) else none) else (some (w14)))
def waybillref01_Put (a0 : Vector (BitVec 64) 4) : Option ((Vector (BitVec 8) 32)) := (((waybillref01_Put.l1 a0 (32 - 0 + 2) 0 (Vector.replicate 32 0#8)) : Option ((Vector (BitVec 8) 32))).bind fun w6 => (some w6))
def u256_Bytes (a0 : Vector (BitVec 64) 4) : Option ((List (BitVec 8))) := ((u256_Put a0).bind fun x3 => ((u256_Len a0).bind fun x8 => (if -9223372036854775808 ≤ (x8 + (7 : Int)) ∧ (x8 + (7 : Int)) ≤ 9223372036854775807 then (if 0 ≤ (x8 + (7 : Int)) then (if 0 ≤ ((32 : Int) - ((((x8 + (7 : Int))).toNat / 8 : Nat) : Int)) then (if (((32 : Int) - ((((x8 + (7 : Int))).toNat / 8 : Nat) : Int))).toNat ≤ 32 then (some (x3.toList.drop ((((32 : Int) - ((((x8 + (7 : Int))).toNat / 8 : Nat) : Int))).toNat))) else none) else none) else none) else none)))
def waybillref01_Bytes.l1 (x3 : Vector (BitVec 8) 32) : Nat → (List (BitVec 8)) → (Nat) → Option ((List (BitVec 8)))
 | 0, _, _ => none
 | k27 + 1, l20, n25 => (if n25 < 32 then (if 0 < l20.length then (((x3[n25]?).bind fun x50 => (if l20.length + ([x50] : List (BitVec 8)).length ≤ 140737488355328 then (some ((l20 ++ ([x50] : List (BitVec 8))))) else none) : Option ((List (BitVec 8)))).bind fun l39 => (waybillref01_Bytes.l1 x3 k27 l39 (n25 + 1))) else (x3[n25]?).bind fun x60 => (((if x60 = 0#8 then (some (l20)) else (x3[n25]?).bind fun x76 => (if l20.length + ([x76] : List (BitVec 8)).length ≤ 140737488355328 then (some ((l20 ++ ([x76] : List (BitVec 8))))) else none)) : Option ((List (BitVec 8)))).bind fun l64 => (waybillref01_Bytes.l1 x3 k27 l64 (n25 + 1)))) else (some (l20)))
def waybillref01_Bytes (a0 : Vector (BitVec 64) 4) : Option ((List (BitVec 8))) := ((waybillref01_Put a0).bind fun x3 => (((waybillref01_Bytes.l1 x3 40 ([] : List (BitVec 8)) 0) : Option ((List (BitVec 8)))).bind fun l9 => (some l9)))
end Go.Fw
namespace Go.Fw
def rlp_head (a0 : BitVec 8) (a1 : Nat) : Option ((List (BitVec 8))) := (if a1 ≤ 55 then (some ([(a0 + (BitVec.ofNat 8 a1))] : List (BitVec 8))) else ((u256_From (BitVec.ofNat 64 a1)).bind fun x5 => ((u256_Bytes x5).bind fun x9 => (if ([((a0 + 55#8) + (BitVec.ofNat 8 x9.length))] : List (BitVec 8)).length + x9.length ≤ 140737488355328 then (some (([((a0 + 55#8) + (BitVec.ofNat 8 x9.length))] : List (BitVec 8)) ++ x9)) else none))))
def waybillref07_before (a0 : Nat) (a1 : Nat) : Option ((List (BitVec 8))) := (if a0 ≤ 55 then (if (a1 + a0) ≤ 9223372036854775807 then (some ([(BitVec.ofNat 8 (a1 + a0))] : List (BitVec 8))) else none) else ((waybillref01_From (BitVec.ofNat 64 a0)).bind fun x6 => ((waybillref01_Bytes x6).bind fun x10 => (if (a1 + 55) ≤ 9223372036854775807 then (if ((a1 + 55) + x10.length) ≤ 9223372036854775807 then (if ([(BitVec.ofNat 8 ((a1 + 55) + x10.length))] : List (BitVec 8)).length + x10.length ≤ 140737488355328 then (some (([(BitVec.ofNat 8 ((a1 + 55) + x10.length))] : List (BitVec 8)) ++ x10)) else none) else none) else none))))
def waybillref07_Same.l1 (a0 : It) (a1 : It) (rc : (It) → (It) → Option ((Bool))) : Nat → (Nat) → Option (Lp ((Bool)) (Unit))
 | 0, _ => none
 | k52 + 1, n50 => (if n50 < a0.items.length then (a0.items[n50]?).bind fun x60 => (a1.items[n50]?).bind fun x78 => ((rc x60 x78).bind fun x97 => (if x97 = true then (waybillref07_Same.l1 a0 a1 rc k52 (n50 + 1)) else (some (Lp.ret (some false))))) else (some (Lp.go ())))
def waybillref07_Same.l2 (a0 : It) (a1 : It) : Nat → (Nat) → Option (Lp ((Bool)) (Unit))
 | 0, _ => none
 | k103 + 1, n101 => (if n101 < a0.data.length then (a0.data[n101]?).bind fun x111 => (a1.data[n101]?).bind fun x114 => (if x111 = x114 then (waybillref07_Same.l2 a0 a1 k103 (n101 + 1)) else (some (Lp.ret (some false)))) else (some (Lp.go ())))
def waybillref07_Same.r : Nat → (It) → (It) → Option ((Bool))
 | 0, _, _ => none
 | kf + 1, a0, a1 => (((if (a0.list) = (a1.list) then (if a0.data.length = a1.data.length then (some ((!decide (a0.items.length = a1.items.length)))) else (some (true))) else (some (true))) : Option ((Bool))).bind fun p29 => (if p29 = true then (some false) else (((waybillref07_Same.l2 a0 a1 (a0.data.length - 0 + 2) 0) : Option (Lp ((Bool)) (Unit))).bind fun | .ret o => o | .go () => (((waybillref07_Same.l1 a0 a1 (waybillref07_Same.r kf) (a0.items.length - 0 + 2) 0) : Option (Lp ((Bool)) (Unit))).bind fun | .ret o => o | .go () => (some true)))))
def waybillref07_Same (a0 : It) (a1 : It) : Option ((Bool)) := waybillref07_Same.r (It.sz a0 + 1) a0 a1
def rlp_twin.l1 (a0 : List (It)) (rc : (List (It)) → Option ((List (It)))) : Nat → (List (It)) → (Nat) → Option ((List (It)))
 | 0, _, _ => none
 | k30 + 1, l21, n28 => (if n28 < a0.length then (a0[n28]?).bind fun x39 => ((rlp_clone x39.data).bind fun x59 => ((rc x39.items).bind fun x71 => (if (l21.length + ([(It.mk (x39.list) x59 x71)] : List (It)).length) * 56 ≤ 140737488355328 then (rlp_twin.l1 a0 rc k30 (l21 ++ ([(It.mk (x39.list) x59 x71)] : List (It))) (n28 + 1)) else none))) else (some (l21)))
def rlp_twin.r : Nat → (List (It)) → Option ((List (It)))
 | 0, _ => none
 | kf + 1, a0 => (((rlp_twin.l1 a0 (rlp_twin.r kf) (a0.length - 0 + 2) ([] : List (It)) 0) : Option ((List (It)))).bind fun l6 => (some l6))
def rlp_twin (a0 : List (It)) : Option ((List (It))) := rlp_twin.r (Its.sz a0 + 1) a0
def rlp_size.l1 (a0 : It) (rc : (It) → Option ((Nat))) : Nat → (Nat) → (Nat) → Option ((Nat))
 | 0, _, _ => none
 | k41 + 1, n37, n39 => (if n39 < a0.items.length then (a0.items[n39]?).bind fun x49 => ((rc x49).bind fun x69 => (if (n37 + x69) ≤ 9223372036854775807 then (rlp_size.l1 a0 rc k41 (n37 + x69) (n39 + 1)) else none)) else (some (n37)))
def rlp_size.r : Nat → (It) → Option ((Nat))
 | 0, _ => none
 | kf + 1, a0 => (if a0.list = true then (((rlp_size.l1 a0 (rlp_size.r kf) (a0.items.length - 0 + 2) 0 0) : Option ((Nat))).bind fun n17 => ((rlp_head (192#8) n17).bind fun x25 => (if (x25.length + n17) ≤ 9223372036854775807 then (some (x25.length + n17)) else none))) else (((if a0.data.length = 1 then (a0.data[0]?).bind fun x96 => (some ((decide (x96.toNat < 128)))) else (some (false))) : Option ((Bool))).bind fun p76 => (if p76 = true then (some 1) else ((rlp_head (128#8) a0.data.length).bind fun x84 => (some (x84.length + a0.data.length))))))
def rlp_size (a0 : It) : Option ((Nat)) := rlp_size.r (It.sz a0 + 1) a0
def waybillref07_size.l1 (a0 : It) (rc : (It) → Option ((Nat))) : Nat → (Nat) → (Nat) → Option ((Nat))
 | 0, _, _ => none
 | k49 + 1, n45, n47 => (if n47 < a0.items.length then (a0.items[n47]?).bind fun x57 => ((rc x57).bind fun x76 => (if (n45 + x76) ≤ 9223372036854775807 then (waybillref07_size.l1 a0 rc k49 (n45 + x76) (n47 + 1)) else none)) else (some (n45)))
def waybillref07_size.r : Nat → (It) → Option ((Nat))
 | 0, _ => none
 | kf + 1, a0 => (((if a0.list = true then (some (false)) else (if a0.data.length = 1 then (a0.data[0]?).bind fun x83 => (some ((decide (x83.toNat < 128)))) else (some (false)))) : Option ((Bool))).bind fun p16 => (if p16 = true then (some 1) else (((waybillref07_size.l1 a0 (waybillref07_size.r kf) (a0.items.length - 0 + 2) a0.data.length 0) : Option ((Nat))).bind fun n25 => ((waybillref07_before n25 128).bind fun x33 => (if (x33.length + n25) ≤ 9223372036854775807 then (some (x33.length + n25)) else none)))))
def waybillref07_size (a0 : It) : Option ((Nat)) := waybillref07_size.r (It.sz a0 + 1) a0
def rlp_sound.l1 (a0 : It) (rc : (It) → Option ((Nat) × (Bool))) : Nat → (Nat) → (Nat) → Option (Lp ((Nat) × (Bool)) ((Nat)))
 | 0, _, _ => none
 | k34 + 1, n30, n32 => (if n32 < a0.items.length then (a0.items[n32]?).bind fun x42 => ((rc x42).bind fun (x62, x63) => (if x63 = true then (rlp_sound.l1 a0 rc k34 (max n30 x62) (n32 + 1)) else (some (Lp.ret (some (0, false)))))) else (some (Lp.go n30)))
def rlp_sound.r : Nat → (It) → Option ((Nat) × (Bool))
 | 0, _ => none
 | kf + 1, a0 => ((rlp_odd a0).bind fun x15 => (if x15 = true then (some (0, false)) else (if a0.list = true then (((rlp_sound.l1 a0 (rlp_sound.r kf) (a0.items.length - 0 + 2) 0 0) : Option (Lp ((Nat) × (Bool)) ((Nat)))).bind fun | .ret o => o | .go n22 => (if (n22 + 1) ≤ 9223372036854775807 then (some ((n22 + 1), true)) else none)) else (some (0, true)))))
def rlp_sound (a0 : It) : Option ((Nat) × (Bool)) := rlp_sound.r (It.sz a0 + 1) a0
def waybillref07_oddly.l1 (a0 : It) (rc : (It) → Option ((Bool))) : Nat → (Nat) → Option (Lp ((Bool)) (Unit))
 | 0, _ => none
 | k28 + 1, n26 => (if n26 < a0.items.length then (a0.items[n26]?).bind fun x36 => ((rc x36).bind fun x55 => (if x55 = true then (some (Lp.ret (some true))) else (waybillref07_oddly.l1 a0 rc k28 (n26 + 1)))) else (some (Lp.go ())))
def waybillref07_oddly.r : Nat → (It) → Option ((Bool))
 | 0, _ => none
 | kf + 1, a0 => ((waybillref07_odd a0).bind fun x15 => (if x15 = true then (some true) else (((waybillref07_oddly.l1 a0 (waybillref07_oddly.r kf) (a0.items.length - 0 + 2) 0) : Option (Lp ((Bool)) (Unit))).bind fun | .ret o => o | .go () => (some false))))
def waybillref07_oddly (a0 : It) : Option ((Bool)) := waybillref07_oddly.r (It.sz a0 + 1) a0
def waybillref07_depth.l1 (a0 : It) (rc : (It) → Option ((Nat))) : Nat → (Nat) → (Nat) → Option ((Nat))
 | 0, _, _ => none
 | k29 + 1, n25, n27 => (if n27 < a0.items.length then (a0.items[n27]?).bind fun x37 => ((rc x37).bind fun x56 => (waybillref07_depth.l1 a0 rc k29 (max n25 x56) (n27 + 1))) else (some (n25)))
def waybillref07_depth.r : Nat → (It) → Option ((Nat))
 | 0, _ => none
 | kf + 1, a0 => (if a0.list = true then (((waybillref07_depth.l1 a0 (waybillref07_depth.r kf) (a0.items.length - 0 + 2) 0 0) : Option ((Nat))).bind fun n17 => (if (1 + n17) ≤ 9223372036854775807 then (some (1 + n17)) else none)) else (some 0))
def waybillref07_depth (a0 : It) : Option ((Nat)) := waybillref07_depth.r (It.sz a0 + 1) a0
end Go.Fw
namespace Go.Fw
def rlp_List (a0 : List (It)) : Option ((It)) := ((rlp_twin a0).bind fun x4 => (some (It.mk true ([] : List (BitVec 8)) x4)))
def rlp_GetText (a0 : It) : Option ((List (BitVec 8)) × (Nat)) := ((rlp_kind a0 false).bind fun x15 => (if x15 = 0 then ((rlp_clone a0.data).bind fun x21 => (some (x21, 0))) else (some (([] : List (BitVec 8)), x15))))
def rlp_GetList (a0 : It) : Option ((List (It)) × (Nat)) := ((rlp_kind a0 true).bind fun x15 => (if x15 = 0 then ((rlp_twin a0.items).bind fun x21 => (some (x21, 0))) else (some (([] : List (It)), x15))))
def rlp_Check (a0 : It) : Option ((Nat)) := ((rlp_sound a0).bind fun (x15, x16) => (if x16 = true then (if 1024 < x15 then (some 74) else ((rlp_size a0).bind fun x23 => (if 16777216 < x23 then (some 2) else (some 0)))) else (some 78)))
def waybillref07_Check (a0 : It) : Option ((Nat)) := ((waybillref07_oddly a0).bind fun x15 => (if x15 = true then (some 78) else ((waybillref07_depth a0).bind fun x20 => (if 1024 < x20 then (some 74) else ((waybillref07_size a0).bind fun x26 => (if 16777216 < x26 then (some 2) else (some 0)))))))
def rlp_Size (a0 : It) : Option ((Nat) × (Nat)) := ((rlp_Check a0).bind fun x15 => (if x15 = 0 then ((rlp_size a0).bind fun x21 => (some (x21, 0))) else (some (0, x15))))
def waybillref07_Size (a0 : It) : Option ((Nat) × (Nat)) := ((waybillref07_Check a0).bind fun x15 => (if x15 = 0 then ((waybillref07_size a0).bind fun x21 => (some (x21, 0))) else (some (0, x15))))
end Go.Fw
namespace Go.Fw
def waybillref07_Beyond.l2 : Nat → (List (It)) → (Nat) → (List (It)) → (Nat) → Option (Lp (Lp ((Bool)) (Unit)) ((Nat) × (List (It))))
 | 0, _, _, _, _ => none
 | k88 + 1, l93, n99, l101, n108 => (if n108 < l93.length then (l93[n108]?).bind fun x118 => (if (n99 + x118.data.length) ≤ 9223372036854775807 then (l93[n108]?).bind fun x137 => (if ((n99 + x118.data.length) + x137.items.length) ≤ 9223372036854775807 then (if (((n99 + x118.data.length) + x137.items.length) + 1) ≤ 9223372036854775807 then (if 2147483647 < (((n99 + x118.data.length) + x137.items.length) + 1) then (some (Lp.ret (some (Lp.ret (some true))))) else (l93[n108]?).bind fun x158 => (if (l101.length + x158.items.length) * 56 ≤ 140737488355328 then (waybillref07_Beyond.l2 k88 l93 (((n99 + x118.data.length) + x137.items.length) + 1) (l101 ++ x158.items) (n108 + 1)) else none)) else none) else none) else none) else (some (Lp.go (n99, l101))))
def waybillref07_Beyond.l1 : Nat → (List (It)) → (Nat) → (Nat) → Option (Lp ((Bool)) (Unit))
 | 0, _, _, _ => none
 | k40 + 1, l29, n36, n38 => (if 0 < l29.length then (if 65536 < n38 then (some (Lp.ret (some true))) else (((waybillref07_Beyond.l2 (l29.length - 0 + 2) l29 n36 ([] : List (It)) 0) : Option (Lp (Lp ((Bool)) (Unit)) ((Nat) × (List (It))))).bind fun | .ret o => o | .go (n54, l56) => (waybillref07_Beyond.l1 k40 l56 n54 (n38 + 1)))) else (some (Lp.go ())))
def waybillref07_Beyond (a0 : It) : Option ((Bool)) := (((waybillref07_Beyond.l1 65540 ([a0] : List (It)) 0 0) : Option (Lp ((Bool)) (Unit))).bind fun | .ret o => o | .go () => (some false))
end Go.Fw
namespace Go.Fw
open Go
structure Rdr where
 err : Int
def Rdr.C (s : Rdr) : List Value := [.int .i64 s.err]
theorem Rdr.C_length (s : Rdr) : s.C.length = 1 := by simp [Rdr.C]
theorem Rdr.C_one (s : Rdr) : ∀ u ∈ s.C, u.oneCell' = true := by
 intro u hu
 simp only [Rdr.C, List.mem_append, List.mem_singleton] at hu
 rcases hu with rfl
 ·rfl
theorem Rdr.C_err (s : Rdr) : s.C[0]? = some (.int .i64 s.err) := by
 rw [show 0 = 0 by rfl]; exact rfl
theorem Rdr.C_err_set (s : Rdr) (x : Int) : s.C.set 0 (.int .i64 x) = ({ s with err := x } : Rdr).C := by
 rw [show 0 = 0 by rfl]; exact rfl
end Go.Fw
namespace Go.Fw
open Go
theorem fillL_cons {pl : List (Nat × Nat)} {l vs : List Value} {i off size : Nat} {r : List (Nat × List Value)} (h : pl[i]? = some (off, size)) (hl : vs.length = size) (hb : off + size ≤ l.length) : fillL pl l ((i, vs) :: r) = fillL pl (spl l off vs) r := by
 rw [fillL, h]
 dsimp only
 rw [if_pos (by simp [hl, hb])]
theorem spl_one {l : List Value} {off : Nat} {v : Value} (h : off < l.length) : spl l off [v] = l.set off v := by
 unfold spl
 rw [List.set_eq_take_append_cons_drop, if_pos h]
 simp
end Go.Fw
namespace Go.Fw
def waybilllaw17_num (a0 : Int) : Option ((Int)) := (some a0)
def receipt_LogItem.l1 (a0 : Log) : Nat → (List (It)) → (Nat) → Option ((List (It)))
 | 0, _, _ => none
 | k157 + 1, l148, n155 => (if n155 < a0.topics.length then (a0.topics[n155]?).bind fun x166 => ((rlp_Text x166.toList).bind fun x177 => (if (l148.length + ([x177] : List (It)).length) * 56 ≤ 140737488355328 then (receipt_LogItem.l1 a0 k157 (l148 ++ ([x177] : List (It))) (n155 + 1)) else none)) else (some (l148)))
def receipt_LogItem (a0 : Log) : Option ((It) × (Nat)) := (if 4 < a0.topics.length then (some ((It.mk false ([] : List (BitVec 8)) ([] : List (It))), 174)) else (((receipt_LogItem.l1 a0 (a0.topics.length - 0 + 2) ([] : List (It)) 0) : Option ((List (It)))).bind fun l22 => ((rlp_Text a0.address.toList).bind fun x39 => ((rlp_List l22).bind fun x62 => ((rlp_Text a0.data).bind fun x85 => ((rlp_List ([x39, x62, x85] : List (It))).bind fun x113 => ((rlp_Size x113).bind fun (x137, x138) => (if x138 = 0 then (some (x113, 0)) else (some ((It.mk false ([] : List (BitVec 8)) ([] : List (It))), x138))))))))))
def waybilllaw17_same.l1 (a0 : List (BitVec 8)) (a1 : List (BitVec 8)) : Nat → (Nat) → Option (Lp ((Bool)) (Unit))
 | 0, _ => none
 | k13 + 1, n11 => (if n11 < a0.length then (a0[n11]?).bind fun x21 => (a1[n11]?).bind fun x24 => (if x21 = x24 then (waybilllaw17_same.l1 a0 a1 k13 (n11 + 1)) else (some (Lp.ret (some false)))) else (some (Lp.go ())))
def waybilllaw17_same (a0 : List (BitVec 8)) (a1 : List (BitVec 8)) : Option ((Bool)) := (if a0.length = a1.length then (((waybilllaw17_same.l1 a0 a1 (a0.length - 0 + 2) 0) : Option (Lp ((Bool)) (Unit))).bind fun | .ret o => o | .go () => (some true)) else (some false))
def waybilllaw17_sameLog.l1 (a0 : Log) (a1 : Log) : Nat → (Nat) → Option (Lp ((Bool)) (Unit))
 | 0, _ => none
 | k49 + 1, n47 => (if n47 < a0.topics.length then (a0.topics[n47]?).bind fun x57 => (a1.topics[n47]?).bind fun x63 => (if x57 = x63 then (waybilllaw17_sameLog.l1 a0 a1 k49 (n47 + 1)) else (some (Lp.ret (some false)))) else (some (Lp.go ())))
def waybilllaw17_sameLog (a0 : Log) (a1 : Log) : Option ((Bool)) := (((if a0.address = a1.address then (some ((!decide (a0.topics.length = a1.topics.length)))) else (some (true))) : Option ((Bool))).bind fun p29 => (if p29 = true then (some false) else (((waybilllaw17_sameLog.l1 a0 a1 (a0.topics.length - 0 + 2) 0) : Option (Lp ((Bool)) (Unit))).bind fun | .ret o => o | .go () => ((waybilllaw17_same a0.data a1.data).bind fun x44 => (some (x44))))))
def waybilllaw17_sameLogs.l1 (a0 : List (Log)) (a1 : List (Log)) : Nat → (Nat) → Option (Lp ((Bool)) (Unit))
 | 0, _ => none
 | k13 + 1, n11 => (if n11 < a0.length then (a0[n11]?).bind fun x21 => (a1[n11]?).bind fun x39 => ((waybilllaw17_sameLog x21 x39).bind fun x58 => (if x58 = true then (waybilllaw17_sameLogs.l1 a0 a1 k13 (n11 + 1)) else (some (Lp.ret (some false))))) else (some (Lp.go ())))
def waybilllaw17_sameLogs (a0 : List (Log)) (a1 : List (Log)) : Option ((Bool)) := (if a0.length = a1.length then (((waybilllaw17_sameLogs.l1 a0 a1 (a0.length - 0 + 2) 0) : Option (Lp ((Bool)) (Unit))).bind fun | .ret o => o | .go () => (some true)) else (some false))
def waybill_receipt_reader_refuse (a0 : Rdr) (a1 : Int) : Option ((Rdr)) := (((if a0.err = (0 : Int) then (some (({ a0 with err := a1 } : Rdr))) else (some (a0))) : Option ((Rdr))).bind fun w3 => (some w3))
def waybill_receipt_reader_list (a0 : Rdr) (a1 : It) : Option ((List (It)) × (Rdr)) := (if a0.err = (0 : Int) then ((rlp_GetList a1).bind fun (x16, x17) => (((if x17 = 0 then (some (a0)) else ((waybill_receipt_reader_refuse a0 (172 : Int)).bind fun x44 => (some (x44)))) : Option ((Rdr))).bind fun w35 => (some (x16, w35)))) else (some (([] : List (It)), a0)))
def waybill_receipt_reader_text (a0 : Rdr) (a1 : It) (a2 : Int) : Option ((List (BitVec 8)) × (Rdr)) := (if a0.err = (0 : Int) then ((rlp_GetText a1).bind fun (x16, x17) => (((if x17 = 0 then (if (0 : Int) ≤ a2 then (some ((!decide (((x16.length : Nat) : Int) = a2)))) else (some (false))) else (some (true))) : Option ((Bool))).bind fun p31 => (if p31 = true then ((waybill_receipt_reader_refuse a0 (172 : Int)).bind fun x40 => (some (([] : List (BitVec 8)), x40))) else (some (x16, a0))))) else (some (([] : List (BitVec 8)), a0)))
end Go.Fw
namespace Go.Fw
abbrev It.zero : It := It.mk false [] []
end Go.Fw
namespace Go.Fw
open Go
def MkRd (m : List (BitVec 8)) (Φ : Ctx) (cs : List Value) (x : List (BitVec 8)) : Prop := ∃ A c, cs = [.slice A x.length c] ∧ View Φ A (x ++ m).length c 1 (u8s (x ++ m))
theorem MkRd.mono' {m : List (BitVec 8)} {Φ Ψ : Ctx} (hh : ∀ w, Ψ w → Φ w) (cs : List Value) (x : List (BitVec 8)) : MkRd m Φ cs x → MkRd m Ψ cs x := fun ⟨A, c, h1, h2⟩ => ⟨A, c, h1, h2.mono hh⟩
theorem MkRd.len' {m : List (BitVec 8)} {Φ : Ctx} (cs : List Value) (x : List (BitVec 8)) (h : MkRd m Φ cs x) : cs.length = 1 := by obtain ⟨A, c, rfl, _⟩ := h; rfl
theorem MkRd.bs' {m : List (BitVec 8)} {Φ : Ctx} (cs : List Value) (x : List (BitVec 8)) (h : MkRd m Φ cs x) : BsRd Φ cs x := by
 obtain ⟨A, c, h1, h2⟩ := h
 exact ⟨A, c, h1, MRoom.view h2⟩
abbrev MkRd02 : Ctx → List Value → List (BitVec 8) → Prop := MkRd (List.replicate 200 195#8)
theorem MkRd02.mono {Φ Ψ : Ctx} (hh : ∀ w, Ψ w → Φ w) (cs : List Value) (x : List (BitVec 8)) : MkRd02 Φ cs x → MkRd02 Ψ cs x := MkRd.mono' hh cs x
theorem MkRd02.len {Φ : Ctx} (cs : List Value) (x : List (BitVec 8)) (h : MkRd02 Φ cs x) : cs.length = 1 := MkRd.len' cs x h
abbrev MkRd03 : Ctx → List Value → List (BitVec 8) → Prop := MkRd (List.replicate 70 165#8)
theorem MkRd03.mono {Φ Ψ : Ctx} (hh : ∀ w, Ψ w → Φ w) (cs : List Value) (x : List (BitVec 8)) : MkRd03 Φ cs x → MkRd03 Ψ cs x := MkRd.mono' hh cs x
theorem MkRd03.len {Φ : Ctx} (cs : List Value) (x : List (BitVec 8)) (h : MkRd03 Φ cs x) : cs.length = 1 := MkRd.len' cs x h
def MRooms (m : List (BitVec 8)) (k : List (List (BitVec 8))) (Φ : Ctx) (A : Option Addr) (c : Nat) (x : List (List (BitVec 8))) : Prop :=
 ∃ cs mk : List Value, View Φ A (x ++ k).length c 1 (cs ++ mk) ∧ Reps (MkRd m Φ) cs x ∧ Reps (BsRd Φ) (cs ++ mk) (x ++ k)
theorem MRooms.mono {m : List (BitVec 8)} {k : List (List (BitVec 8))} {Φ Ψ : Ctx} {A : Option Addr} {c : Nat} {x : List (List (BitVec 8))} (h : MRooms m k Φ A c x) (hh : ∀ w, Ψ w → Φ w) : MRooms m k Ψ A c x := by
 obtain ⟨cs, mk, v, r, rb⟩ := h
 exact ⟨cs, mk, v.mono hh, r.mono (MkRd.mono' hh), rb.mono (BsRd.mono hh)⟩
structure Lt where
 b : Nat
 t : List (BitVec 8)
 c : Nat
 r : List Value
def Lt.ent (te : TypeId) (m : List (BitVec 8)) (x : Lt) : Ent := (some x.b, blk (u8s x.t ++ (u8s m ++ x.r)) te)
def Lt.cell (x : Lt) : Value := .slice (some ⟨x.b, 0, none⟩) x.t.length x.c
structure Lt.Ok (m : List (BitVec 8)) (x : Lt) : Prop where
 own : OwnS (some x.b) x.t.length x.c 1 (u8s x.t) (u8s m ++ x.r)
 mx : x.t.length + m.length ≤ 140737488355328
def lents (te : TypeId) (m : List (BitVec 8)) (l : List Lt) : List Ent := l.map (Lt.ent te m)
theorem Reps.bs {m : List (BitVec 8)} {Φ : Ctx} {cs : List Value} {xs : List (List (BitVec 8))} (h : Reps (MkRd m Φ) cs xs) : Reps (BsRd Φ) cs xs := h.mono MkRd.bs'
def lx (te2 te : TypeId) (m : List (BitVec 8)) (b0 : Nat) (r : List Value) (mks ls : List Lt) : List Ent := (some b0, blk (ls.map Lt.cell ++ (mks.map Lt.cell ++ r)) te2) :: (lents te [] mks ++ lents te m ls)
end Go.Fw
namespace Go.Fw
open Go
def restOf (w0 w : World) (E : List Ent) : List Ent := (allEnts w0 w).filter fun e => E.all fun x => decide (x.1 ≠ e.1)
theorem Mem.restOf {w0 w : World} {E : List Ent} (m : Mem w0 w E) : Mem w0 w (E ++ Go.Fw.restOf w0 w E) := by
 have ma := m.all
 have hf : ∀ e ∈ Go.Fw.restOf w0 w E, ∀ x ∈ E, x.1 ≠ e.1 := fun e he x hx => of_decide_eq_true (List.all_eq_true.1 (List.mem_filter.1 he).2 x hx)
 refine ⟨m.os, m.tape, m.output, m.size, m.old, fun e he b hb => ?_, List.pairwise_append.2 ⟨m.apart, ma.apart.sublist List.filter_sublist, fun x hx e he b h1 h2 => hf e he x hx (h1.trans h2.symm)⟩⟩
 rcases List.mem_append.1 he with he | he
 ·exact m.ents e he b hb
 ·exact ma.ents e (List.mem_filter.1 he).1 b hb
theorem Mem.unrest {w0 w w2 : World} {E N : List Ent} (mE : Mem w0 w E) (mN : Mem w0 w N) (m : Mem w0 w2 (E ++ Go.Fw.restOf w0 w E)) : Mem w0 w2 N := by
 refine ⟨m.os, m.tape, m.output, m.size, m.old, fun e he b hb => ?_, mN.apart⟩
 obtain ⟨h1, h2⟩ := mN.ents e he b hb
 refine ⟨h1, ?_⟩
 by_cases hE : ∃ x ∈ E, x.1 = some b
 ·obtain ⟨x, hx, hxb⟩ := hE
  have q1 := (mE.ents x hx b hxb).2
  have q2 := (m.ents x (List.mem_append_left _ hx) b hxb).2
  rw [q2, ← q1, h2]
 ·have hlt : b < w.heap.size := (Array.getElem?_eq_some_iff.1 h2).1
  have hall : ((some b, e.2) : Ent) ∈ allEnts w0 w := by
   refine List.mem_map.2 ⟨b - w0.heap.size, List.mem_range.2 (by omega), ?_⟩
   have e1 : w0.heap.size + (b - w0.heap.size) = b := by omega
   simp [e1, h2]
  have hin : ((some b, e.2) : Ent) ∈ Go.Fw.restOf w0 w E := List.mem_filter.2 ⟨hall, List.all_eq_true.2 fun x hx => decide_eq_true fun h => hE ⟨x, hx, h⟩⟩
  exact (m.ents _ (List.mem_append_right _ hin) b rfl).2
theorem DoesG.ro {P : Program} {f : FuncId} {args : List Value} {w0 : World} {E N : List Ent} {R : Value → Prop} (h : ∀ N0, DoesG P f args w0 E N0 (fun v G => R v ∧ G = E)) (hN : ∀ w, Mem w0 w N → Mem w0 w E) : DoesG P f args w0 [] N (fun v _ => R v) := fun w m => by
 have mE := hN w m
 refine (h (restOf w0 w E) w mE.restOf).mono ?_
 rintro e w2 ⟨q, ⟨G, ⟨h1, rfl⟩, h2⟩, h3, h4⟩
 have h4 : Mem w0 w2 q.2 := h4
 rw [h2] at h4
 exact ⟨(q.1, [] ++ N), ⟨[], h1, rfl⟩, h3, mE.unrest m h4⟩
end Go.Fw
namespace Go.Fw
open Go
section
variable {w0 w : World} {A N : List Ent} {e0 e1 e2 e3 : Ent}
theorem Mem.sk2 (m : Mem w0 w (e0 :: e1 :: (A ++ (e2 :: N)))) : Mem w0 w (e0 :: e1 :: e2 :: (A ++ N)) := m.perm (List.Perm.cons _ (List.Perm.cons _ List.perm_middle))
theorem Mem.sk3 (m : Mem w0 w (e0 :: e1 :: e2 :: (A ++ (e3 :: N)))) : Mem w0 w (e0 :: e1 :: e2 :: e3 :: (A ++ N)) := m.perm (List.Perm.cons _ (List.Perm.cons _ (List.Perm.cons _ List.perm_middle)))
theorem Mem.sk4 {e4 : Ent} (m : Mem w0 w (e0 :: e1 :: e2 :: e3 :: (A ++ (e4 :: N)))) : Mem w0 w (e0 :: e1 :: e2 :: e3 :: e4 :: (A ++ N)) := m.perm (List.Perm.cons _ (List.Perm.cons _ (List.Perm.cons _ (List.Perm.cons _ List.perm_middle))))
end
section
variable {P : Program} {n : Nat} {Q : Exit → Act → World → Prop} {w0 : World} {L : Z123} {M E N : List Ent} {f : FuncId} {args : List Value} {R R' : Value → List Ent → Prop}
end
end Go.Fw
namespace Go.Fw
open Go Go.RowKit
theorem View.of_rd {W : World} {A : Option Addr} {cap len s : Nat} {cells : List Value} (rd : Rd W A cells) (hn : cells.length = len * s) (hle : len ≤ cap) (hmx : cap ≤ 140737488355328) : View (fun w => Mem W w []) A len cap s cells :=
 ⟨fun w q => rd.old q, rd.1, hn, hle, by omega⟩
theorem View.of8 {W : World} {A : Option Addr} {cap : Nat} {xs : List (BitVec 8)} (rd : Rd W A (u8s xs)) (hle : xs.length ≤ cap) (hmx : cap ≤ 140737488351232) : View (fun w => Mem W w []) A xs.length cap 1 (u8s xs) :=
 View.of_rd rd (by rw [Z101, Nat.mul_one]) hle (by omega)
end Go.Fw
namespace Go.Fw
open Go Go.RowKit Go.Deep Go.WideShapes
theorem Reps.of_list {α T : Type} {R : List Value → T → Prop} (cells : α → List Value) (pr : α → T) : ∀ (l : List α), (∀ x ∈ l, R (cells x) (pr x)) → Reps R (l.flatMap cells) (l.map pr)
 | [], _ => .nil
 | x :: l, h => by
  rw [List.flatMap_cons, List.map_cons]
  exact .cons (h x (List.mem_cons_self ..)) (Reps.of_list cells pr l (fun y hy => h y (List.mem_cons_of_mem _ hy)))
section
variable {H : Type} {enc : TypeId × Value → H} {P : Program} {W : World} {t e e2 : TypeId} {v : Value}
theorem reads_bs (ht : P.underlying e = some (.slice e2)) (he : P.underlying e2 = some (.int .u8)) (hs : P.cellsOf e2 = 1) (hb : P.bytesOf e2 = 1) {n : Nat} {u : Value} {r : DataW H × List MemPlace} (h : reads enc P W n e [u] = some r) (hz : Fits P e r.1) :
    ∃ (A : Option Addr) (cap : Nat) (x : List (BitVec 8)), u = .slice A x.length cap ∧ View (fun w => Mem W w []) A x.length cap 1 (u8s x) ∧ x.length ≤ 140737488351232 ∧ ∃ el sp, Els r.1 el sp ∧ el.length = x.length := by
 obtain ⟨A, cap, xs, el, sp, h1, h2, h3, h4, h5, h6, h7, h8, h9, h10⟩ := cells_of_slice (α := BitVec 8) (fun x => [U8 x]) (fun _ _ => True) 1 hs (by omega) (fun n cs r _ hr => by
  obtain ⟨x, rfl⟩ := reads_u8 he hr; exact ⟨x, rfl, trivial⟩) ht h
 rw [flat1] at h6
 have hw := (hz.slice ht h7).1
 rw [hb, h9] at hw
 have hc : cap ≤ 140737488351232 := by simpa [reachBytes] using hw
 exact ⟨A, cap, xs, h1, View.of8 h6 h2 hc, by omega, el, sp, h7, h8⟩
end
end Go.Fw
namespace Go.Fw
open Go
theorem bulk_len {H : Type} (ub : DataW H → Nat) (uba : List (DataW H) → Nat) (h0 : uba [] = 0) (h1 : ∀ d r, uba (d :: r) = ub d + uba r) (h2 : ∀ el sp, ub (.slice el sp) = uba el + uba sp + 1) (hp : ∀ d : DataW H, 1 ≤ ub d)
    {d : DataW H} {el sp : List (DataW H)} (he : Els d el sp) : el.length ≤ ub d := by
 have hlen : ∀ l : List (DataW H), l.length ≤ uba l := fun l => by
  induction l with
  | nil => simp
  | cons x r ih => rw [h1]; have := hp x; simp; omega
 rcases he with ⟨_, rfl, _⟩ | rfl
 ·simp
 ·rw [h2]; have := hlen el; omega
end Go.Fw
namespace Go.Fw
open Go
structure BulkFn {H : Type} (ub : DataW H → Nat) (uba : List (DataW H) → Nat) : Prop where
 h0 : uba [] = 0
 h1 : ∀ d r, uba (d :: r) = ub d + uba r
 hs : ∀ el sp, ub (.slice el sp) = uba el + uba sp + 1
 ha : ∀ l, ub (.agg l) = uba l + 1
 hp : ∀ d : DataW H, 1 ≤ ub d
namespace BulkFn
variable {H : Type} {ub : DataW H → Nat} {uba : List (DataW H) → Nat} (B : BulkFn ub uba)
include B
theorem mem {d : DataW H} : ∀ {l : List (DataW H)}, d ∈ l → ub d ≤ uba l
 | x :: l, h => by
  rw [B.h1]
  rcases List.mem_cons.1 h with rfl | h
  ·omega
  ·have := mem h; omega
theorem len {d : DataW H} {el sp : List (DataW H)} (h : Els d el sp) : el.length ≤ ub d := bulk_len ub uba B.h0 B.h1 B.hs B.hp h
end BulkFn
end Go.Fw
namespace Go.Fw
open Go Go.RowKit Go.Deep Go.WideShapes
section
variable {H : Type} {enc : TypeId × Value → H} {P : Program} {W : World} {t e e2 : TypeId}
theorem reads_hs {n : Nat} (ht : P.underlying t = some (.slice e)) (he : P.underlying e = some (.array n e2)) (he2 : P.underlying e2 = some (.int .u8)) (hs2 : P.cellsOf e2 = 1) (hs : P.cellsOf e = n) (hpos : 0 < n) (hb : P.bytesOf e = n) {m : Nat} {u : Value} {r : DataW H × List MemPlace} (h : reads enc P W m t [u] = some r) (hz : Fits P t r.1) :
    ∃ (A : Option Addr) (cap : Nat) (cells : List Value) (xs : List (Vector (BitVec 8) n)), u = .slice A xs.length cap ∧ View (fun w => Mem W w []) A xs.length cap n cells ∧ Reps (Ar8Rd (fun w => Mem W w [])) cells xs ∧ (∃ el sp, Els r.1 el sp ∧ el.length = xs.length) ∧ xs.length * n ≤ 140737488351232 := by
 obtain ⟨A, cap, xs, el, sp, h1, h2, h3, h4, h5, h6, h7, h8, h9, h10⟩ := cells_of_slice (α := Vector (BitVec 8) n) (fun x => u8s x.toList) (fun _ _ => True) n hs hpos (fun k cs r hl hr => by
  obtain ⟨x, rfl, hl⟩ := reads_arr8 he he2 hs2 hs hr
  exact ⟨⟨x.toArray, by simpa using hl⟩, rfl, trivial⟩) ht h
 have hw := (hz.slice ht h7).1
 rw [hb, h9] at hw
 have hc : cap * n ≤ 140737488351232 := by simpa [reachBytes] using hw
 have hle : xs.length * n ≤ cap * n := Nat.mul_le_mul_right n h2
 have hcap : cap ≤ cap * n := Nat.le_mul_of_pos_right _ hpos
 have hlen : ∀ l : List (Vector (BitVec 8) n), (l.flatMap fun x => u8s x.toList).length = l.length * n := fun l => by
  induction l with
  | nil => simp
  | cons x l ih => rw [List.flatMap_cons, List.length_append, ih, Z101, Zv, List.length_cons, Nat.add_mul]; omega
 refine ⟨A, cap, _, xs, h1, View.of_rd h6 (hlen xs) h2 (by omega), ?_, ⟨el, sp, h7, h8⟩, by omega⟩
 have := Reps.of_list (R := Ar8Rd (n := n) (fun w => Mem W w [])) (fun x : Vector (BitVec 8) n => u8s x.toList) (fun x => x) xs (fun x _ => rfl)
 rwa [List.map_id'] at this
structure LogTypes (P : Program) (tL tA tS tH tB t8 : TypeId) where
 fs : Array Field
 f0 : Field
 f1 : Field
 f2 : Field
 hL : P.underlying tL = some (.struct fs)
 h0 : fs[0]? = some f0
 h1 : fs[1]? = some f1
 h2 : fs[2]? = some f2
 o0 : f0.offset = 0
 o1 : f1.offset = 20
 o2 : f2.offset = 21
 y0 : f0.type = tA
 y1 : f1.type = tS
 y2 : f2.type = tB
 uA : P.underlying tA = some (.array 20 t8)
 uS : P.underlying tS = some (.slice tH)
 uH : P.underlying tH = some (.array 32 t8)
 uB : P.underlying tB = some (.slice t8)
 u8 : P.underlying t8 = some (.int .u8)
 cA : P.cellsOf tA = 20
 cS : P.cellsOf tS = 1
 cH : P.cellsOf tH = 32
 cB : P.cellsOf tB = 1
 c8 : P.cellsOf t8 = 1
 cL : P.cellsOf tL = 22
 b8 : P.bytesOf t8 = 1
 bH : P.bytesOf tH = 32
 bL : P.bytesOf tL = 72
def LogD (d : DataW H) (x : Log) : Prop := ∃ ds d0 d1 d2 el sp el2 sp2, d = .agg (d0 :: d1 :: d2 :: ds) ∧ Els d1 el sp ∧ el.length = x.topics.length ∧ Els d2 el2 sp2 ∧ el2.length = x.data.length
variable {tL tA tS tH tB t8 : TypeId}
theorem reads_log (T : LogTypes P tL tA tS tH tB t8) {n : Nat} {cs : List Value} {d : DataW H} {ps : List MemPlace} (hl : cs.length = 22) (hr : reads enc P W n tL cs = some (d, ps)) (hz : Fits P tL d) :
    ∃ x : Log, LogRd (fun w => Mem W w []) cs x ∧ LogD d x ∧ x.topics.length * 32 ≤ 140737488351232 ∧ x.data.length ≤ 140737488351232 := by
 obtain ⟨xs, m, hn, hx, hcl, hxl, hf⟩ := DataW.trod_struct T.hL hr
 have g0 := hf 0 T.f0 T.h0
 have g1 := hf 1 T.f1 T.h1
 have g2 := hf 2 T.f2 T.h2
 rw [T.o0, T.y0, T.cA] at g0
 rw [T.o1, T.y1, T.cS] at g1
 rw [T.o2, T.y2, T.cB] at g2
 have hsz : 2 < T.fs.size := (Array.getElem?_eq_some_iff.1 T.h2).1
 obtain ⟨x0, e0⟩ : ∃ x, xs[0]? = some x := ⟨_, List.getElem?_eq_getElem (by omega)⟩
 obtain ⟨x1, e1⟩ : ∃ x, xs[1]? = some x := ⟨_, List.getElem?_eq_getElem (by omega)⟩
 obtain ⟨x2, e2⟩ : ∃ x, xs[2]? = some x := ⟨_, List.getElem?_eq_getElem (by omega)⟩
 rw [e0, List.drop_zero] at g0; rw [e1] at g1; rw [e2] at g2
 have hd2 : d = .agg (xs.map (·.1)) := congrArg Prod.fst hx
 subst hd2
 have hz1 : Fits P tS x1.1 := by have := Fits.struct T.hL hz T.h1 (d := x1.1) (by simp [e1]); rwa [T.y1] at this
 have hz2 : Fits P tB x2.1 := by have := Fits.struct T.hL hz T.h2 (d := x2.1) (by simp [e2]); rwa [T.y2] at this
 obtain ⟨ad, ea, la⟩ := reads_arr8 T.uA T.u8 T.c8 T.cA g0
 obtain ⟨u1, hu1⟩ : ∃ u, (cs.drop 20).take 1 = [u] := List.length_eq_one_iff.1 (by rw [List.length_take, List.length_drop]; omega)
 obtain ⟨u2, hu2⟩ : ∃ u, (cs.drop 21).take 1 = [u] := List.length_eq_one_iff.1 (by rw [List.length_take, List.length_drop]; omega)
 rw [hu1] at g1; rw [hu2] at g2
 obtain ⟨A1, c1, cells1, ts, rfl, v1, r1, ⟨el, sp, hel, hlen⟩, m1⟩ := reads_hs T.uS T.uH T.u8 T.c8 T.cH (by decide) T.bH g1 hz1
 obtain ⟨A2, c2, x, rfl, v2, m2, el2, sp2, hel2, hlen2⟩ := reads_bs T.uB T.u8 T.c8 T.b8 g2 hz2
 obtain ⟨av, rfl⟩ : ∃ v : Vector (BitVec 8) 20, ad = v.toList := ⟨⟨ad.toArray, by simpa using la⟩, rfl⟩
 have hcs : cs = (⟨av, .slice A1 ts.length c1, .slice A2 x.length c2⟩ : LogC).C := by
  have h1 : cs = cs.take 20 ++ ((cs.drop 20).take 1 ++ (cs.drop 21).take 1) := by
   have h2 : (cs.drop 21).take 1 = cs.drop 21 := List.take_of_length_le (by rw [List.length_drop]; omega)
   have h3 : cs.drop 21 = (cs.drop 20).drop 1 := by rw [List.drop_drop]
   rw [h2, h3, List.take_append_drop, List.take_append_drop]
  rw [h1, ea, hu1, hu2]
  rfl
 have hD : LogD (H := H) (.agg (xs.map (·.1))) ⟨av, ts, x⟩ := by
  match xs, e0, e1, e2 with
  | [], e, _, _ => simp at e
  | [_], _, e, _ => simp at e
  | [_, _], _, _, e => simp at e
  | y0 :: y1 :: y2 :: r, _, e1, e2 =>
   simp at e1 e2
   subst e1 e2
   exact ⟨r.map (·.1), y0.1, _, _, el, sp, el2, sp2, rfl, hel, hlen, hel2, hlen2⟩
 refine ⟨⟨av, ts, x⟩, ?_, hD, m1, m2⟩
 rw [hcs]
 exact LogRd.mk v1 r1 v2
end
end Go.Fw
namespace Go.Fw
open Go
abbrev hs32 (l : List (Vector (BitVec 8) 32)) : List Value := l.flatMap fun x => u8s x.toList
theorem Z126 (l : List (Vector (BitVec 8) 32)) : (hs32 l).length = l.length * 32 := by
 induction l with
 | nil => rfl
 | cons x l ih => rw [hs32, List.flatMap_cons, List.length_append, Z101, Zv, List.length_cons, Nat.add_mul, show (l.flatMap fun x => u8s x.toList).length = l.length * 32 from ih]; omega
theorem hs32_one (l : List (Vector (BitVec 8) 32)) : ∀ u ∈ hs32 l, u.oneCell' = true := by
 intro u hu
 obtain ⟨x, _, hx⟩ := List.mem_flatMap.1 hu
 exact Z125 _ u hx
theorem hs32_app (a b : List (Vector (BitVec 8) 32)) : hs32 (a ++ b) = hs32 a ++ hs32 b := List.flatMap_append ..
theorem hs32_reps {Φ : Ctx} (l : List (Vector (BitVec 8) 32)) : Reps (Ar8Rd Φ) (hs32 l) l := by
 have := Reps.of_list (R := Ar8Rd (n := 32) Φ) (fun x : Vector (BitVec 8) 32 => u8s x.toList) (fun x => x) l (fun x _ => rfl)
 rwa [List.map_id'] at this
theorem hs32_of {Φ : Ctx} : ∀ {cs : List Value} {l : List (Vector (BitVec 8) 32)}, Reps (Ar8Rd Φ) cs l → cs = hs32 l
 | _, [], h => by cases h; rfl
 | _, x :: l, h => by
  cases h with
  | cons h1 h2 =>
   have e1 : _ = u8s x.toList := h1
   rw [e1, hs32_of h2]
   rfl
structure Lg where
 a : Vector (BitVec 8) 20
 tb : Option Nat
 t : List (Vector (BitVec 8) 32)
 tc : Nat
 tr : List Value
 db : Option Nat
 d : List (BitVec 8)
 dc : Nat
 dr : List Value
def Lg.val (g : Lg) : Log := ⟨g.a, g.t, g.d⟩
def Lg.cell (g : Lg) : LogC := ⟨g.a, sl g.tb 0 g.t.length g.tc, sl g.db 0 g.d.length g.dc⟩
def Lg.cells (g : Lg) : List Value := g.cell.C
def Lg.ents (tH tB : TypeId) (g : Lg) : List Ent := [(g.tb, blk (hs32 g.t ++ g.tr) tH), (g.db, blk (u8s g.d ++ g.dr) tB)]
structure Lg.Ok (g : Lg) : Prop where
 t : OwnS g.tb g.t.length g.tc 32 (hs32 g.t) g.tr
 d : OwnS g.db g.d.length g.dc 1 (u8s g.d) g.dr
theorem Lg.cells_length (g : Lg) : g.cells.length = 22 := LogC.C_length _
theorem Lg.cells_one (g : Lg) : ∀ u ∈ g.cells, u.oneCell' = true := LogC.C_one _ rfl rfl
theorem Lg.rd {w0 : World} {Φ : Ctx} {tH tB : TypeId} {g : Lg} (ok : g.Ok) (h : ∀ w, Φ w → Mem w0 w (g.ents tH tB)) : LogRd Φ g.cells g.val := by
 have h1 := ok.t.view (te := tH) (w0 := w0) (Ψ := Φ) (by decide) (fun w q => (h w q).sublist (by unfold Lg.ents; exact List.Sublist.cons_cons _ (List.nil_sublist _)))
 have h2 := ok.d.view (te := tB) (w0 := w0) (Ψ := Φ) (by decide) (fun w q => (h w q).tail)
 exact LogRd.mk h1 (hs32_reps _) h2
def lgs (tH tB : TypeId) (l : List Lg) : List Ent := l.flatMap (Lg.ents tH tB)
def lgC (l : List Lg) : List Value := l.flatMap Lg.cells
theorem lgC_length (l : List Lg) : (lgC l).length = l.length * 22 := by
 induction l with
 | nil => rfl
 | cons x l ih => rw [lgC, List.flatMap_cons, List.length_append, Lg.cells_length, List.length_cons, Nat.add_mul, show (l.flatMap Lg.cells).length = l.length * 22 from ih]; omega
theorem lgC_app (a b : List Lg) : lgC (a ++ b) = lgC a ++ lgC b := List.flatMap_append ..
theorem lgC_one1 (g : Lg) : lgC [g] = g.cells := by simp [lgC]
theorem lgs_app (tH tB : TypeId) (a b : List Lg) : lgs tH tB (a ++ b) = lgs tH tB a ++ lgs tH tB b := List.flatMap_append ..
theorem lgs_one1 (tH tB : TypeId) (g : Lg) : lgs tH tB [g] = g.ents tH tB := by simp [lgs]
theorem lgs_cons (tH tB : TypeId) (g : Lg) (l : List Lg) : lgs tH tB (g :: l) = g.ents tH tB ++ lgs tH tB l := rfl
theorem lgs_reps {w0 : World} {Φ : Ctx} {tH tB : TypeId} : ∀ {l : List Lg}, (∀ g ∈ l, g.Ok) → (∀ w, Φ w → Mem w0 w (lgs tH tB l)) → Reps (LogRd Φ) (lgC l) (l.map Lg.val)
 | [], _, _ => .nil
 | g :: l, ok, h => by
  have h1 : LogRd Φ g.cells g.val := Lg.rd (tH := tH) (tB := tB) (ok g (List.mem_cons_self ..)) (fun w q => (h w q).appL)
  have h2 := lgs_reps (l := l) (fun x hx => ok x (List.mem_cons_of_mem _ hx)) (fun w q => (h w q).appR)
  exact .cons h1 h2
theorem lgC_at {l : List Lg} {i : Nat} {g : Lg} (h : l[i]? = some g) : ∀ j u, g.cells[j]? = some u → (lgC l)[i * 22 + j]? = some u := by
 intro j u hj
 obtain ⟨hi, rfl⟩ := List.getElem?_eq_some_iff.1 h
 have hj' : j < l[i].cells.length := (List.getElem?_eq_some_iff.1 hj).1
 rw [Lg.cells_length] at hj'
 have e : lgC l = lgC (l.take i) ++ (l[i].cells ++ lgC (l.drop (i + 1))) := by
  have e1 : l = l.take i ++ (l[i] :: l.drop (i + 1)) := by rw [← List.drop_eq_getElem_cons hi, List.take_append_drop]
  conv => lhs; rw [e1, lgC_app]
  rfl
 have hl : (lgC (l.take i)).length = i * 22 := by rw [lgC_length, List.length_take, Nat.min_eq_left (by omega)]
 rw [e, List.getElem?_append_right (by omega), hl, show i * 22 + j - i * 22 = j by omega, List.getElem?_append_left (by rw [Lg.cells_length]; exact hj')]
 exact hj
theorem lgs_snoc {w0 w : World} {tH tB : TypeId} {l : List Lg} {g : Lg} {X K : List Ent} (m : Mem w0 w (X ++ (g.ents tH tB ++ (lgs tH tB l ++ K)))) : Mem w0 w (X ++ (lgs tH tB (l ++ [g]) ++ K)) := by
 refine m.perm (List.Perm.append_left X ?_)
 rw [lgs_app, lgs_one1, ← List.append_assoc]
 exact List.Perm.append_right K List.perm_append_comm
end Go.Fw
namespace Go.Fw
def rtopicsF : Rdr → List (Vector (BitVec 8) 32) → List It → Option (List (Vector (BitVec 8) 32) × Rdr)
 | r, l, [] => some (l, r)
 | r, l, it :: its => (waybill_receipt_reader_text r it 32).bind fun p =>
     if p.2.err = 0 then if (l.length + 1) * 32 ≤ 140737488355328 then (toVec 32 p.1).bind fun v => rtopicsF p.2 (l ++ [v]) its else none
     else rtopicsF p.2 l its
def rtopics (r : Rdr) (l : List (Vector (BitVec 8) 32)) (it : It) : Option (List (Vector (BitVec 8) 32) × Rdr) :=
 (waybill_receipt_reader_list r it).bind fun p => rtopicsF p.2 l p.1
def Log.zero : Log := ⟨Vector.replicate 20 0#8, [], []⟩
def receipt_ParseLog (it : It) : Option (Log × Int) :=
 (waybill_receipt_reader_list ⟨0⟩ it).bind fun p =>
  if p.2.err = 0 ∧ p.1.length = 3 then
   (p.1[0]?).bind fun x0 => (waybill_receipt_reader_text p.2 x0 20).bind fun a =>
   (if a.2.err = 0 then toVec 20 a.1 else some (Vector.replicate 20 0#8)).bind fun ad =>
   (p.1[1]?).bind fun x1 => (rtopics a.2 [] x1).bind fun t =>
   (p.1[2]?).bind fun x2 => (waybill_receipt_reader_text t.2 x2 (-1)).bind fun d =>
   if d.2.err = 0 then if 4 < t.1.length then some (Log.zero, 174) else some (⟨ad, t.1, d.1⟩, 0)
   else some (Log.zero, d.2.err)
  else some (Log.zero, 172)
def Rdr.bd (r : Rdr) : Prop := 0 ≤ r.err ∧ r.err ≤ 1000
theorem refuse_eq (r : Rdr) (e : Int) : waybill_receipt_reader_refuse r e = some (if r.err = 0 then ⟨e⟩ else r) := by
 unfold waybill_receipt_reader_refuse
 split <;> rfl
theorem refuse_bd {r q : Rdr} {e : Int} (h : r.bd) (he : 0 ≤ e ∧ e ≤ 1000) (hf : waybill_receipt_reader_refuse r e = some q) : q.bd := by
 rw [refuse_eq] at hf
 obtain rfl := Zi hf
 split
 ·exact he
 ·exact h
theorem list_bd {r q : Rdr} {it : It} {l : List It} (h : r.bd) (hf : waybill_receipt_reader_list r it = some (l, q)) : q.bd := by
 unfold waybill_receipt_reader_list at hf
 split at hf
 ·obtain ⟨⟨a, b⟩, h1, h2⟩ := Option.bind_eq_some_iff.1 hf
  dsimp only at h2
  obtain ⟨w, h3, h4⟩ := Option.bind_eq_some_iff.1 h2
  have h5 := Zi h4
  obtain ⟨rfl, rfl⟩ := Prod.mk.inj h5
  split at h3
  ·obtain rfl := Zi h3; exact h
  ·obtain ⟨y, h6, h7⟩ := Option.bind_eq_some_iff.1 h3
   obtain rfl := Zi h7
   exact refuse_bd h (by omega) h6
 ·have h5 := Zi hf
  obtain ⟨rfl, rfl⟩ := Prod.mk.inj h5
  exact h
theorem text_bd {r q : Rdr} {it : It} {n : Int} {l : List (BitVec 8)} (h : r.bd) (hf : waybill_receipt_reader_text r it n = some (l, q)) : q.bd := by
 unfold waybill_receipt_reader_text at hf
 split at hf
 ·obtain ⟨⟨a, b⟩, h1, h2⟩ := Option.bind_eq_some_iff.1 hf
  dsimp only at h2
  obtain ⟨w, h3, h4⟩ := Option.bind_eq_some_iff.1 h2
  split at h4
  ·obtain ⟨y, h6, h7⟩ := Option.bind_eq_some_iff.1 h4
   have h5 := Zi h7
   obtain ⟨rfl, rfl⟩ := Prod.mk.inj h5
   exact refuse_bd h (by omega) h6
  ·have h5 := Zi h4
   obtain ⟨rfl, rfl⟩ := Prod.mk.inj h5
   exact h
 ·have h5 := Zi hf
  obtain ⟨rfl, rfl⟩ := Prod.mk.inj h5
  exact h
theorem topicsF_bd : ∀ {its : List It} {r q : Rdr} {l l2 : List (Vector (BitVec 8) 32)}, r.bd → rtopicsF r l its = some (l2, q) → q.bd
 | [], r, q, l, l2, h, hf => by
  have h5 := Zi hf
  obtain ⟨rfl, rfl⟩ := Prod.mk.inj h5
  exact h
 | it :: its, r, q, l, l2, h, hf => by
  unfold rtopicsF at hf
  obtain ⟨⟨a, b⟩, h1, h2⟩ := Option.bind_eq_some_iff.1 hf
  have hb := text_bd h h1
  dsimp only at h2
  split at h2
  ·split at h2
   ·obtain ⟨v, h3, h4⟩ := Option.bind_eq_some_iff.1 h2
    exact topicsF_bd hb h4
   ·cases h2
  ·exact topicsF_bd hb h2
theorem topics_bd {r q : Rdr} {it : It} {l0 l : List (Vector (BitVec 8) 32)} (h : r.bd) (hf : rtopics r l0 it = some (l, q)) : q.bd := by
 unfold rtopics at hf
 obtain ⟨⟨a, b⟩, h1, h2⟩ := Option.bind_eq_some_iff.1 hf
 exact topicsF_bd (list_bd h h1) h2
def Rcpt.zero : Rcpt := ⟨0, false, Vector.replicate 32 0#8, 0#64, 0#64, Vector.replicate 256 0#8, []⟩
abbrev RcptZ : RcptC := ⟨0, false, Vector.replicate 32 0#8, 0#64, 0#64, Vector.replicate 256 0#8, .slice none 0 0⟩
end Go.Fw
namespace Go.Fw.Try
open Go Go.Proofs Go.Fw
theorem set_here {l : List Value} {i : Nat} {v : Value} (h : l[i]? = some v) : l.set i v = l := by
 obtain ⟨h1, h2⟩ := List.getElem?_eq_some_iff.1 h
 subst h2
 exact List.set_getElem_self h1
abbrev LogZ : LogC := ⟨Vector.replicate 20 0#8, .slice none 0 0, .slice none 0 0⟩
def LgZ : Lg := ⟨Vector.replicate 20 0#8, none, [], 0, [], none, [], 0, []⟩
theorem LgZ_ok : LgZ.Ok := ⟨OwnS.nil, OwnS.nil⟩
theorem nil2 {w0 w : World} {M : List Ent} {o o2 : Obj} (m : Mem w0 w M) : Mem w0 w ((none, o) :: (none, o2) :: M) := (m.nil_ent _).nil_ent _
def DecO (w0 : World) (x : Rcpt) (e : Int) : Value → List Ent → Prop := fun v G => ∃ (gs : List Lg) (ob : Option Nat) (c : Nat) (r : List Value) (B : List Ent), (∀ g ∈ gs, g.Ok) ∧ OwnS ob gs.length c 22 (lgC gs) r ∧ gs.map Lg.val = x.logs ∧ (-9223372036854775808 ≤ e ∧ e ≤ 9223372036854775807) ∧ (-9223372036854775808 ≤ x.kind ∧ x.kind ≤ 9223372036854775807) ∧
 v = .tuple #[.agg (⟨x.kind, x.rooted, x.root, x.status, x.used, x.bloom, sl ob 0 gs.length c⟩ : RcptC).C.toArray, .int .i64 e] ∧ G = (ob, blk (lgC gs ++ r) 27) :: (lgs 51 5 gs ++ B)
theorem DecO.zero {w0 : World} {e : Int} (he : -9223372036854775808 ≤ e ∧ e ≤ 9223372036854775807) (B : List Ent) : DecO w0 Rcpt.zero e (.tuple #[.agg RcptZ.C.toArray, .int .i64 e]) ((none, blk [] 27) :: B) :=
 ⟨[], none, 0, [], B, (fun g hg => by cases hg), OwnS.nil, rfl, he, (by show _ ≤ (0 : Int) ∧ (0 : Int) ≤ _; omega), rfl, rfl⟩
theorem DecO.rd {w0 : World} {Φ : Ctx} {x : Rcpt} {e : Int} {v : Value} {G : List Ent} (h : DecO w0 x e v G) : ∃ B : List Ent, ∃ cr0 : List Value, RcptRd (More w0 Φ B) cr0 x ∧ (-9223372036854775808 ≤ e ∧ e ≤ 9223372036854775807) ∧ v = .tuple #[.agg cr0.toArray, .int .i64 e] ∧ G = B := by
 obtain ⟨gs, ob, c, r, B, hok, ho, hv, he, hk, rfl, rfl⟩ := h
 refine ⟨_, _, ?_, he, rfl, rfl⟩
 have hvl := ho.view (te := 27) (w0 := w0) (Ψ := More w0 Φ ((ob, blk (lgC gs ++ r) 27) :: (lgs 51 5 gs ++ B))) (by decide) (fun w q => q.2.sublist (List.singleton_sublist.2 (List.mem_cons_self ..)))
 have hrl := lgs_reps (w0 := w0) (Φ := More w0 Φ ((ob, blk (lgC gs ++ r) 27) :: (lgs 51 5 gs ++ B))) (tH := 51) (tB := 5) hok (fun w q => q.2.tail.appL)
 obtain ⟨k, ro, rt, st, us, bl, lg⟩ := x
 dsimp only at hv hk ⊢
 subst hv
 have hvl2 : View (More w0 Φ ((ob, blk (lgC gs ++ r) 27) :: (lgs 51 5 gs ++ B))) (ob.map fun k => ⟨k, 0, none⟩) (gs.map Lg.val).length c 22 (lgC gs) := by rw [List.length_map]; exact hvl
 have := RcptRd.mk (kind := k) (rooted := ro) (root := rt) (status := st) (used := us) (bloom := bl) (logs := gs.map Lg.val) hk hvl2 hrl
 rw [List.length_map] at this
 exact this
end Go.Fw.Try
namespace Go.Fw
open Go Go.RowKit
section
variable {P : Program} [Types P] {n : Nat} {Q : Exit → Act → World → Prop} {w0 : World} {L : Z123} {M : List Ent}
variable {ops : Array Oper} {rest : List Oper} {ty1 : TypeId} {pos : String} {aft : Array Edge} {d : Nat} {v : Value} {x y : Operand} {t e : TypeId}
theorem OW.appendIn {i : TI} {b : Nat} {len cap m c s : Nat} {l r vs : List Value} {B : Option Addr} {t2 e2 : TypeId} (hx : ev L x = some (sl (some b) 0 len cap)) (hy : ev L y = some (.slice B m c)) (ht : tyU P t = some (.slice e)) (hi : ty P e = some i) (hs : i.sz = s) (ht2 : tyU P t2 = some (.slice e2))
    (hl : l.length = len * s) (hr : (l ++ r).length = cap * s) (hR : Mem.Says w0 ((some b, blk (l ++ r) e) :: M) (fun w => Rd w B vs)) (hvl : vs.length = m * s) (hv1 : ∀ u ∈ vs, u.oneCell' = true) (hB : B = none → m = 0) (hspos : 0 < s)
    (hroom : len + m ≤ cap) (hd : Nat.blt d n = true)
    (k : OW P n ops Q w0 rest ((d, sl (some b) 0 (len + m) cap) :: L) ((some b, blk (l ++ vs ++ r.drop vs.length) e) :: M)) :
    OW P n ops Q w0 (⟨some d, .call ⟨.builtin .append, #[x, y], #[t, t2]⟩, ty1, pos, aft, none⟩ :: rest) L ((some b, blk (l ++ r) e) :: M) := by
 refine OW.av (τ := Unit) (I := fun _ => True) (v := fun _ => sl (some b) 0 (len + m) cap) (M' := fun _ => (some b, blk (l ++ vs ++ r.drop vs.length) e) :: M) (fun ρ w hρ mm o ho => ?_) hd (fun _ _ => k)
 obtain ⟨hu, ti, g1, g2, g3, g4⟩ := ty_ok hi
 have hrd := hR w mm
 have hsrc : Src P ti.size t2 (.slice B m c) m vs w := by rw [g2, hs]; exact rd_src ht2 hrd hvl hv1 hB
 have hrun : ∀ (v' : Value) (w' : World), (Builtin.append_ #[t, t2] o.type #[sl (some b) 0 len cap, .slice B m c]).run P w = .ok v' w' → (execOp ρ o).run P w = .ok (.value v') w' := fun v' w' hh => by
  simp [execOp, ho, resolve, hρ x _ hx, hρ y _ hy, invoke, builtin, hh]
 have hsz : ti.size = s := by rw [g2, hs]
 have hm := mm.ents _ (List.mem_cons_self ..) b rfl
 have hlen : l.length + vs.length ≤ (l ++ r).length := by rw [hl, hvl, hr, ← Nat.add_mul]; exact Nat.mul_le_mul_right _ hroom
 have hra := run_append_room_src (P := P) w t t2 o.type e ti (tyU_ok ht) g1 b 0 len cap (.slice B m c) m vs hsrc hroom (fun j hj => by
     rw [mm.cell (List.mem_cons_self ..), hsz]
     have : 0 + len * s + j < (l ++ r).length := by omega
     rw [List.getElem?_eq_getElem this]; rfl) (fun j hj => mm.notFrozen (List.mem_cons_self ..) _)
 rw [hsz] at hra
 have hset : w.setCells b (0 + len * s) vs = w.setRow b ((l ++ r).toArray.toList.take (0 + len * s) ++ vs ++ (l ++ r).toArray.toList.drop (0 + len * s + vs.length)).toArray := by
  have q1 := run_storeCells_at (P := P) b (0 + len * s) e vs 0 (l ++ r).toArray w hm.2 (by simp; simp at hlen; omega) hv1
  have q2 := run_storeCells_cells (P := P) b (0 + len * s) vs 0 w (fun j hj => by
   rw [mm.cell (List.mem_cons_self ..)]
   have : 0 + len * s + 0 + j < (l ++ r).length := by omega
   rw [List.getElem?_eq_getElem this]; rfl) (fun j hj => mm.notFrozen (List.mem_cons_self ..) _) hv1
  rw [q1] at q2
  simp only [Nat.add_zero] at q2
  injection q2 with _ q3
  exact q3.symm
 rw [hset] at hra
 refine ⟨(), _, trivial, hrun _ _ (by simpa [sl] using hra), mm.turned (w' := w.setRow b _) rfl rfl rfl (by simp [World.setRow]) ?_ ?_⟩
 ·intro b' hb'
  cases hb'
  rw [setRow_heap w b (l ++ r).toArray _ e (0, 0) hm.2]
  simp only [blk]
  simp [← hl, List.drop_append]
 ·intro kk hk
  exact setRow_other _ _ _ _ (fun e => hk (by rw [e]))
def Grw (tb : Option Nat) (l : List Value) (rl : Nat) (e : TypeId) (ob : Option Nat) (cur r : List Value) (X : List Ent) : Prop :=
 (ob = tb ∧ X = [] ∧ ∃ ex : List Value, cur = l ++ ex ∧ ex.length + r.length = rl) ∨ (∃ tr : List Value, tr.length = rl ∧ X = [(tb, blk (l ++ tr) e)])
theorem Grw.start (tb : Option Nat) (l r : List Value) (e : TypeId) : Grw tb l r.length e tb l r [] := .inl ⟨rfl, rfl, [], by simp, by simp⟩
theorem Grw.fin {tb ob : Option Nat} {l cur r : List Value} {rl : Nat} {e : TypeId} {X : List Ent} (h : Grw tb l rl e ob cur r X) : ∃ tr : List Value, tr.length = rl ∧ ∀ (w0 w : World) (K : List Ent), Mem w0 w ((ob, blk (cur ++ r) e) :: (X ++ K)) → Mem w0 w ((tb, blk (l ++ tr) e) :: K) := by
 rcases h with ⟨rfl, rfl, ex, rfl, hl⟩ | ⟨tr, hl, rfl⟩
 ·exact ⟨ex ++ r, by rw [List.length_append]; exact hl, fun w0 w K m => by rw [List.append_assoc] at m; exact m⟩
 ·exact ⟨tr, hl, fun w0 w K m => m.tail⟩
theorem OW.appendGw {i : TI} {tb ob : Option Nat} {l0 cur r vs : List Value} {rl : Nat} {X : List Ent} {len cap m c s : Nat} {B : Option Addr} {t2 e2 : TypeId} (hG : Grw tb l0 rl e ob cur r X) (hO : OwnS ob len cap s cur r)
    (hx : ev L x = some (sl ob 0 len cap)) (hy : ev L y = some (.slice B m c)) (ht : tyU P t = some (.slice e)) (hi : ty P e = some i) (hs : i.sz = s) (ht2 : tyU P t2 = some (.slice e2))
    (hR : Mem.Says w0 ((ob, blk (cur ++ r) e) :: (X ++ M)) (fun w => Rd w B vs)) (hvl : vs.length = m * s) (hv1 : ∀ u ∈ vs, u.oneCell' = true) (hB : B = none → m = 0) (hspos : 0 < s) (hm0 : 0 < m)
    (hby : 0 < i.bytes) (hb : (len + m) * i.bytes ≤ 140737488355328) (hz : i.z.cells.size = s) (hd : Nat.blt d n = true) (len' : Nat) (l' : List Value) (hlen : len + m = len') (hcs : cur ++ vs = l')
    (k : ∀ (ob' : Option Nat) (r' : List Value) (cap' : Nat) (X' : List Ent), Grw tb l0 rl e ob' l' r' X' → OwnS ob' len' cap' s l' r' → OW P n ops Q w0 rest ((d, sl ob' 0 len' cap') :: L) ((ob', blk (l' ++ r') e) :: (X' ++ M))) :
    OW P n ops Q w0 (⟨some d, .call ⟨.builtin .append, #[x, y], #[t, t2]⟩, ty1, pos, aft, none⟩ :: rest) L ((ob, blk (cur ++ r) e) :: (X ++ M)) := by
 have hm : len + m ≤ (len + m) * i.bytes := Nat.le_mul_of_pos_right _ hby
 have hle := hO.le hspos
 subst hlen hcs
 by_cases hroom : len + m ≤ cap
 ·cases ob with
  | none => have := hO.hn rfl; omega
  | some b =>
   have h1 := hO.n
   have h2 := hO.hr
   have h3 : vs.length ≤ r.length := by
    rw [List.length_append] at h2
    have := Nat.mul_le_mul_right s hroom
    rw [Nat.add_mul] at this
    omega
   refine OW.appendIn hx hy ht hi hs ht2 hO.n hO.hr hR hvl hv1 hB hspos hroom hd (k (some b) (r.drop vs.length) cap X ?_ ⟨by rw [List.length_append, h1, hvl, Nat.add_mul], by rw [← h2]; simp; omega, (fun h => nomatch h), by omega⟩)
   rcases hG with ⟨g1, g2, ex, g3, g4⟩ | ⟨tr, g1, g2⟩
   ·exact .inl ⟨g1, g2, ex ++ vs, by rw [g3, List.append_assoc], by rw [List.length_append, List.length_drop]; omega⟩
   ·exact .inr ⟨tr, g1, g2⟩
 ·refine OW.appendG (A := ob.map fun k => ⟨k, 0, none⟩) hx hy ht hi hs ht2 hO.n (fun w mm => ?_) (fun h => ?_) hR hvl hv1 hB (by omega) (by omega) hb hz hd (fun b' r' cap' hc => ?_)
  ·exact ((hO.view (te := e) (w0 := w0) (Ψ := fun w => Mem w0 w ((ob, blk (cur ++ r) e) :: (X ++ M))) hspos (fun w q => q.sublist (List.singleton_sublist.2 (List.mem_cons_self ..)))).rd w mm)
  ·have : ob = none := by cases ob <;> simp_all
   have := hO.hn this
   omega
  ·have hown : OwnS (some b') (len + m) cap' s (cur ++ vs) r' := ⟨by rw [List.length_append, hO.n, hvl, Nat.add_mul], hc, (fun h => nomatch h), by omega⟩
   rcases hG with ⟨g1, g2, ex, g3, g4⟩ | ⟨tr, g1, g2⟩
   ·subst g1 g2 g3
    refine Z20 (M' := (some b', blk (l0 ++ ex ++ vs ++ r') e) :: ([(ob, blk (l0 ++ (ex ++ r)) e)] ++ M)) (fun w m => by rw [List.append_assoc l0 ex r] at m; exact m) ?_
    exact k (some b') r' cap' [(ob, blk (l0 ++ (ex ++ r)) e)] (.inr ⟨ex ++ r, by rw [List.length_append]; exact g4, rfl⟩) hown
   ·subst g2
    refine Z20 (M' := (some b', blk (cur ++ vs ++ r') e) :: ([(tb, blk (l0 ++ tr) e)] ++ M)) (fun w m => m.pick [0, 2] 3 rfl rfl) ?_
    exact k (some b') r' cap' _ (.inr ⟨tr, g1, rfl⟩) hown
end
theorem Mem.swapX {w0 w : World} {a b : Ent} {X Y K : List Ent} (m : Mem w0 w (a :: (X ++ (b :: (Y ++ K))))) : Mem w0 w (b :: (Y ++ (a :: (X ++ K)))) :=
 m.perm (by
  have h := List.perm_append_comm_assoc (a :: X) (b :: Y) K
  simpa only [List.cons_append] using h)
end Go.Fw
namespace Go.Fw
def waybilllaw17_stand.l2 (a0 : List (Log)) (a1 : BitVec 8) (n9 : Nat) : Nat → (Nat) → Option (Lp (Lp ((Bool)) (Unit)) (Unit))
 | 0, _ => none
 | k35 + 1, n33 => (a0[n9]?).bind fun x42 => (if n33 < x42.data.length then (a0[n9]?).bind fun x61 => (x61.data[n33]?).bind fun x79 => (if x79 = (a1 + (BitVec.ofNat 8 (n9 % 8))) then (waybilllaw17_stand.l2 a0 a1 n9 k35 (n33 + 1)) else (some (Lp.ret (some (Lp.ret (some false)))))) else (some (Lp.go ())))
def waybilllaw17_stand.l3 (a0 : List (Log)) (a1 : BitVec 8) (n9 : Nat) : Nat → (Nat) → Option (Lp (Lp ((Bool)) (Unit)) (Unit))
 | 0, _ => none
 | k85 + 1, n83 => (a0[n9]?).bind fun x92 => (if n83 < x92.topics.length then (a0[n9]?).bind fun x111 => (x111.topics[n83]?).bind fun x129 => (if x129 = ((((Vector.replicate 32 0#8).setIfInBounds 0 a1).setIfInBounds 1 (BitVec.ofNat 8 n9)).setIfInBounds 2 (BitVec.ofNat 8 (n9 / 256))) then (waybilllaw17_stand.l3 a0 a1 n9 k85 (n83 + 1)) else (some (Lp.ret (some (Lp.ret (some false)))))) else (some (Lp.go ())))
def waybilllaw17_stand.l1 (a0 : List (Log)) (a1 : BitVec 8) : Nat → (Nat) → Option (Lp ((Bool)) (Unit))
 | 0, _ => none
 | k11 + 1, n9 => (if n9 < a0.length then (((waybilllaw17_stand.l3 a0 a1 n9 (((a0[n9]?)).elim 2 fun x87 => (x87.topics.length - 0 + 2)) 0) : Option (Lp (Lp ((Bool)) (Unit)) (Unit))).bind fun | .ret o => o | .go () => (((waybilllaw17_stand.l2 a0 a1 n9 (((a0[n9]?)).elim 2 fun x37 => (x37.data.length - 0 + 2)) 0) : Option (Lp (Lp ((Bool)) (Unit)) (Unit))).bind fun | .ret o => o | .go () => (waybilllaw17_stand.l1 a0 a1 k11 (n9 + 1)))) else (some (Lp.go ())))
def waybilllaw17_stand (a0 : List (Log)) (a1 : BitVec 8) : Option ((Bool)) := (((waybilllaw17_stand.l1 a0 a1 (a0.length - 0 + 2) 0) : Option (Lp ((Bool)) (Unit))).bind fun | .ret o => o | .go () => (some true))
end Go.Fw
namespace Go.Fw
open Go
def wh (mark : BitVec 8) (i : Nat) : Vector (BitVec 8) 32 := ((((Vector.replicate 32 0#8).setIfInBounds 0 mark).setIfInBounds 1 (BitVec.ofNat 8 i)).setIfInBounds 2 (BitVec.ofNat 8 (i / 256)))
def wd (mark : BitVec 8) (i : Nat) : BitVec 8 := mark + BitVec.ofNat 8 (i % 8)
def gh (mark : BitVec 8) (j : BitVec 8) : Vector (BitVec 8) 32 := ((Vector.replicate 32 0#8).setIfInBounds 0 (mark + 9#8)).setIfInBounds 1 j
structure SameG (gs hs : List Lg) : Prop where
 c : lgC hs = lgC gs
 n : hs.length = gs.length
 ok : ∀ g ∈ hs, g.Ok
def Wrt (mark : BitVec 8) (j : Nat) (hs : List Lg) : Prop := ∀ (k : Nat) g, hs[k]? = some g → k < j → (∀ x ∈ g.t, x = wh mark k) ∧ ∀ y ∈ g.d, y = wd mark k
theorem lgs_split {tH tB : TypeId} {g : Lg} : ∀ {l : List Lg} {i : Nat}, l[i]? = some g → List.Perm (lgs tH tB l) (g.ents tH tB ++ lgs tH tB (l.eraseIdx i))
 | [], i, h => by simp at h
 | x :: l, 0, h => by
  simp at h
  subst h
  exact List.Perm.refl _
 | x :: l, i + 1, h => by
  have h1 := lgs_split (tH := tH) (tB := tB) (l := l) (i := i) (by simpa using h)
  rw [List.eraseIdx_cons_succ, lgs_cons, lgs_cons]
  exact (List.Perm.append_left _ h1).trans (List.perm_append_comm_assoc ..)
theorem lgs_join {tH tB : TypeId} {g : Lg} {l : List Lg} {i : Nat} (hi : i < l.length) : List.Perm (g.ents tH tB ++ lgs tH tB (l.eraseIdx i)) (lgs tH tB (l.set i g)) := by
 have h := lgs_split (tH := tH) (tB := tB) (l := l.set i g) (i := i) (g := g) (by rw [List.getElem?_set_self hi])
 rw [List.eraseIdx_set_eq] at h
 exact h.symm
theorem lgC_set {g g' : Lg} (hc : g'.cells = g.cells) : ∀ {l : List Lg} {i : Nat}, l[i]? = some g → lgC (l.set i g') = lgC l
 | [], i, h => by simp at h
 | x :: l, 0, h => by
  simp at h
  subst h
  rw [List.set_cons_zero, lgC, List.flatMap_cons, hc]; rfl
 | x :: l, i + 1, h => by
  have h1 := lgC_set hc (l := l) (i := i) (by simpa using h)
  rw [List.set_cons_succ, lgC, List.flatMap_cons, show (l.set i g').flatMap Lg.cells = lgC l from h1]; rfl
theorem Mem.outG {w0 w : World} {tH tB : TypeId} {a : Ent} {l : List Lg} {i : Nat} {g : Lg} {N : List Ent} (h : l[i]? = some g) (m : Mem w0 w (a :: (lgs tH tB l ++ N))) : Mem w0 w ((g.tb, blk (hs32 g.t ++ g.tr) tH) :: (g.db, blk (u8s g.d ++ g.dr) tB) :: a :: (lgs tH tB (l.eraseIdx i) ++ N)) := by
 refine m.perm ?_
 have h1 := List.Perm.append_right N (lgs_split (tH := tH) (tB := tB) h)
 have h2 : List.Perm (a :: (lgs tH tB l ++ N)) (a :: (g.tb, blk (hs32 g.t ++ g.tr) tH) :: (g.db, blk (u8s g.d ++ g.dr) tB) :: (lgs tH tB (l.eraseIdx i) ++ N)) := List.Perm.cons _ h1
 refine h2.trans ?_
 refine (List.Perm.swap ..).trans (List.Perm.cons _ (List.Perm.swap ..))
theorem Mem.inG {w0 w : World} {tH tB : TypeId} {a : Ent} {l : List Lg} {i : Nat} {g : Lg} {N : List Ent} (hi : i < l.length) (m : Mem w0 w ((g.tb, blk (hs32 g.t ++ g.tr) tH) :: (g.db, blk (u8s g.d ++ g.dr) tB) :: a :: (lgs tH tB (l.eraseIdx i) ++ N))) : Mem w0 w (a :: (lgs tH tB (l.set i g) ++ N)) := by
 refine m.perm ?_
 have h1 := List.Perm.append_right N (lgs_join (tH := tH) (tB := tB) (g := g) hi)
 have h2 : List.Perm (a :: (g.tb, blk (hs32 g.t ++ g.tr) tH) :: (g.db, blk (u8s g.d ++ g.dr) tB) :: (lgs tH tB (l.eraseIdx i) ++ N)) (a :: (lgs tH tB (l.set i g) ++ N)) := List.Perm.cons _ h1
 refine List.Perm.trans ?_ h2
 exact (List.Perm.cons _ (List.Perm.swap ..)).trans (List.Perm.swap ..)
theorem spl_seg {a y b x : List Value} {o : Nat} (ho : o = a.length) (h : y.length = x.length) : spl (a ++ (y ++ b)) o x = a ++ (x ++ b) := by
 subst ho
 unfold spl
 rw [List.take_append_of_le_length (Nat.le_refl _), List.take_length, ← List.append_assoc, List.drop_append, List.drop_of_length_le (by rw [List.length_append]; omega), List.length_append, h, Nat.sub_self, List.drop_zero, List.nil_append, List.append_assoc]
theorem hs32_set {t : List (Vector (BitVec 8) 32)} {k : Nat} (hk : k < t.length) (x : Vector (BitVec 8) 32) (r : List Value) : spl (hs32 t ++ r) (0 + k * 32) (u8s x.toList) = hs32 (t.set k x) ++ r := by
 have hx : (u8s x.toList).length = 32 := (Z101 _).trans Zv
 have e1 : t = t.take k ++ (t[k] :: t.drop (k + 1)) := by rw [← List.drop_eq_getElem_cons hk, List.take_append_drop]
 have e2 : t.set k x = t.take k ++ (x :: t.drop (k + 1)) := List.set_eq_take_append_cons_drop .. |>.trans (if_pos hk)
 have hl : (hs32 (t.take k)).length = k * 32 := by rw [Z126, List.length_take, Nat.min_eq_left (by omega)]
 have hy : (u8s (t[k]).toList).length = 32 := (Z101 _).trans Zv
 have e3 : hs32 t = hs32 (t.take k) ++ (u8s (t[k]).toList ++ hs32 (t.drop (k + 1))) := (congrArg hs32 e1).trans (by rw [hs32_app]; rfl)
 have e4 : hs32 (t.set k x) = hs32 (t.take k) ++ (u8s x.toList ++ hs32 (t.drop (k + 1))) := by rw [e2, hs32_app]; rfl
 rw [e3, e4, List.append_assoc, List.append_assoc, List.append_assoc, List.append_assoc]
 exact spl_seg (by omega) (by omega)
theorem set_at {α : Type} {l : List α} {i q : Nat} {a x : α} (h : (l.set i a)[q]? = some x) : (q = i ∧ x = a) ∨ (q ≠ i ∧ l[q]? = some x) := by
 by_cases e : q = i
 ·subst e
  have hl := (List.getElem?_eq_some_iff.1 h).1
  rw [List.length_set] at hl
  rw [List.getElem?_set_self hl] at h
  exact .inl ⟨rfl, (Zi h).symm⟩
 ·rw [List.getElem?_set_ne (fun h => e h.symm)] at h
  exact .inr ⟨e, h⟩
theorem Mem.moveX {w0 w : World} {a b : Ent} {X K : List Ent} (m : Mem w0 w (b :: a :: (X ++ K))) : Mem w0 w (a :: (X ++ (b :: K))) :=
 m.perm ((List.Perm.swap ..).trans (List.Perm.cons _ List.perm_middle.symm))
theorem Mem.dropX {w0 w : World} {a b : Ent} {X K : List Ent} (m : Mem w0 w (a :: (X ++ (b :: K)))) : Mem w0 w (a :: (X ++ K)) :=
 m.sublist (List.Sublist.cons_cons _ (List.Sublist.append (List.Sublist.refl _) (List.sublist_cons_self ..)))
theorem stand2 (l : List Log) (mark : BitVec 8) (i : Nat) (x : Log) (hx : l[i]? = some x) (hd : ∀ y ∈ x.data, y = wd mark i) : ∀ (d j k : Nat), j + d = x.data.length → d < k → waybilllaw17_stand.l2 l mark i k j = some (Lp.go ())
 | 0, j, k, h, hk => by
  obtain ⟨k, rfl⟩ : ∃ m, k = m + 1 := ⟨k - 1, by omega⟩
  rw [waybilllaw17_stand.l2, hx, Zb, if_neg (by omega)]
 | d + 1, j, k, h, hk => by
  obtain ⟨k, rfl⟩ : ∃ m, k = m + 1 := ⟨k - 1, by omega⟩
  have h1 : j < x.data.length := by omega
  rw [waybilllaw17_stand.l2, hx, Zb, if_pos h1, Zb, List.getElem?_eq_getElem h1, Zb, if_pos (show _ = mark + BitVec.ofNat 8 (i % 8) from hd _ (List.getElem_mem h1)), stand2 l mark i x hx hd d (j + 1) k (by omega) (by omega)]
theorem stand3 (l : List Log) (mark : BitVec 8) (i : Nat) (x : Log) (hx : l[i]? = some x) (hd : ∀ y ∈ x.topics, y = wh mark i) : ∀ (d j k : Nat), j + d = x.topics.length → d < k → waybilllaw17_stand.l3 l mark i k j = some (Lp.go ())
 | 0, j, k, h, hk => by
  obtain ⟨k, rfl⟩ : ∃ m, k = m + 1 := ⟨k - 1, by omega⟩
  rw [waybilllaw17_stand.l3, hx, Zb, if_neg (by omega)]
 | d + 1, j, k, h, hk => by
  obtain ⟨k, rfl⟩ : ∃ m, k = m + 1 := ⟨k - 1, by omega⟩
  have h1 : j < x.topics.length := by omega
  rw [waybilllaw17_stand.l3, hx, Zb, if_pos h1, Zb, List.getElem?_eq_getElem h1, Zb, if_pos (show _ = ((((Vector.replicate 32 0#8).setIfInBounds 0 mark).setIfInBounds 1 (BitVec.ofNat 8 i)).setIfInBounds 2 (BitVec.ofNat 8 (i / 256))) from hd _ (List.getElem_mem h1)), stand3 l mark i x hx hd d (j + 1) k (by omega) (by omega)]
theorem stand1 (l : List Log) (mark : BitVec 8) (h : ∀ (k : Nat) x, l[k]? = some x → (∀ t ∈ x.topics, t = wh mark k) ∧ ∀ y ∈ x.data, y = wd mark k) : ∀ (d i k : Nat), i + d = l.length → d < k → waybilllaw17_stand.l1 l mark k i = some (Lp.go ())
 | 0, i, k, he, hk => by
  obtain ⟨k, rfl⟩ : ∃ m, k = m + 1 := ⟨k - 1, by omega⟩
  rw [waybilllaw17_stand.l1, if_neg (by omega)]
 | d + 1, i, k, he, hk => by
  obtain ⟨k, rfl⟩ : ∃ m, k = m + 1 := ⟨k - 1, by omega⟩
  have h1 : i < l.length := by omega
  have hx : l[i]? = some l[i] := List.getElem?_eq_getElem h1
  obtain ⟨h2, h3⟩ := h i _ hx
  rw [waybilllaw17_stand.l1, if_pos h1, hx, Option.elim_some, stand3 l mark i _ hx h2 (l[i]).topics.length 0 _ (by omega) (by omega), Zb]
  dsimp only
  rw [Option.elim_some, stand2 l mark i _ hx h3 (l[i]).data.length 0 _ (by omega) (by omega), Zb]
  dsimp only
  exact stand1 l mark h d (i + 1) k (by omega) (by omega)
theorem stand_true (l : List Log) (mark : BitVec 8) (h : ∀ (k : Nat) x, l[k]? = some x → (∀ t ∈ x.topics, t = wh mark k) ∧ ∀ y ∈ x.data, y = wd mark k) : waybilllaw17_stand l mark = some true := by
 unfold waybilllaw17_stand
 rw [stand1 l mark h l.length 0 _ (by omega) (by omega), Zb]
theorem Wrt.stand {mark : BitVec 8} {hs : List Lg} (h : Wrt mark hs.length hs) : waybilllaw17_stand (hs.map Lg.val) mark = some true :=
 stand_true _ _ fun k x hx => by
  rw [List.getElem?_map] at hx
  obtain ⟨g, hg, rfl⟩ := Option.map_eq_some_iff.1 hx
  exact h k g hg (List.getElem?_eq_some_iff.1 hg).1
theorem SameG.own {gs hs : List Lg} {ob : Option Nat} {c : Nat} {r : List Value} (h : SameG gs hs) (o : OwnS ob gs.length c 22 (lgC gs) r) : OwnS ob hs.length c 22 (lgC hs) r := by rw [h.n, h.c]; exact o
theorem lens_fit {gs hs : List Lg} (hl : hs.map (fun g => (g.t.length, g.d.length)) = gs.map (fun g => (g.t.length, g.d.length))) (h : ∀ g ∈ gs, (g.t.length + 101) * 32 ≤ 140737488355328 ∧ g.d.length + 100 ≤ 140737488355328) : ∀ g ∈ hs, (g.t.length + 101) * 32 ≤ 140737488355328 ∧ g.d.length + 100 ≤ 140737488355328 := fun g hg => by
 have h1 : (g.t.length, g.d.length) ∈ gs.map (fun g => (g.t.length, g.d.length)) := by rw [← hl]; exact List.mem_map.2 ⟨g, hg, rfl⟩
 obtain ⟨q, hq, e⟩ := List.mem_map.1 h1
 have h2 := h q hq
 obtain ⟨e1, e2⟩ := Prod.mk.inj e
 rw [← e1, ← e2]; exact h2
end Go.Fw
namespace Go.Fw
def val4 (v : Vector (BitVec 64) 4) : Nat := v[0].toNat + 2 ^ 64 * v[1].toNat + 2 ^ 128 * v[2].toNat + 2 ^ 192 * v[3].toNat
def lim (n : Nat) : Vector (BitVec 64) 4 := #v[BitVec.ofNat 64 n, BitVec.ofNat 64 (n / 2 ^ 64), BitVec.ofNat 64 (n / 2 ^ 128), BitVec.ofNat 64 (n / 2 ^ 192)]
theorem vec4_ext {a b : Vector (BitVec 64) 4} (h0 : a[0] = b[0]) (h1 : a[1] = b[1]) (h2 : a[2] = b[2]) (h3 : a[3] = b[3]) : a = b := by
 apply Vector.ext
 intro i hi
 match i, hi with
 | 0, _ => exact h0
 | 1, _ => exact h1
 | 2, _ => exact h2
 | 3, _ => exact h3
theorem val4_lt (v : Vector (BitVec 64) 4) : val4 v < 2 ^ 256 := by
 have h0 := v[0].isLt; have h1 := v[1].isLt; have h2 := v[2].isLt; have h3 := v[3].isLt
 unfold val4
 omega
theorem val4_lim (n : Nat) (h : n < 2 ^ 256) : val4 (lim n) = n := by
 simp only [val4, lim, Vector.getElem_mk, List.getElem_toArray, List.getElem_cons_zero, List.getElem_cons_succ, BitVec.toNat_ofNat]
 omega
theorem from_eq (x : BitVec 64) : u256_From x = some (lim x.toNat) := by
 unfold u256_From
 congr 1
 have := x.isLt
 apply vec4_ext <;> (apply BitVec.eq_of_toNat_eq; simp [lim]; try omega)
theorem rfrom_eq (x : BitVec 64) : waybillref01_From x = some (lim x.toNat) := by
 unfold waybillref01_From
 congr 1
 have := x.isLt
 apply vec4_ext <;> (apply BitVec.eq_of_toNat_eq; simp [lim]; try omega)
end Go.Fw
namespace Go.Fw
def be : Nat → Nat → List (BitVec 8)
 | 0, _ => []
 | k + 1, n => BitVec.ofNat 8 (n / 256 ^ k) :: be k n
theorem be_length : ∀ (k n : Nat), (be k n).length = k
 | 0, _ => rfl
 | k + 1, n => by simp [be, be_length k n]
theorem be_drop (n : Nat) : ∀ (d j : Nat), (be (j + d) n).drop d = be j n
 | 0, j => by simp
 | d + 1, j => by
  rw [show j + (d + 1) = (j + d) + 1 by omega]
  show ((BitVec.ofNat 8 (n / 256 ^ (j + d))) :: be (j + d) n).drop (d + 1) = be j n
  rw [List.drop_succ_cons]; exact be_drop n d j
theorem be_get (n : Nat) : ∀ (k i : Nat), i < k → (be k n)[i]? = some (BitVec.ofNat 8 (n / 256 ^ (k - 1 - i)))
 | 0, i, h => by omega
 | k + 1, 0, h => by simp [be]
 | k + 1, i + 1, h => by
  simp only [be, List.getElem?_cons_succ]
  rw [be_get n k i (by omega)]
  rw [show k + 1 - 1 - (i + 1) = k - 1 - i by omega]
def bl (n : Nat) : Nat := if n = 0 then 0 else n.log2 + 1
theorem bl_eq {n k : Nat} (h1 : 2 ^ k ≤ n) (h2 : n < 2 ^ (k + 1)) : bl n = k + 1 := by
 have hp : 0 < 2 ^ k := Nat.two_pow_pos k
 unfold bl
 rw [if_neg (by omega)]
 have := (Nat.log2_lt (n := n) (k := k + 1) (by omega)).2 h2
 have := (Nat.le_log2 (n := n) (k := k) (by omega)).2 h1
 omega
theorem bl_spec {n : Nat} (h : n ≠ 0) : ∃ k, bl n = k + 1 ∧ 2 ^ k ≤ n ∧ n < 2 ^ (k + 1) := ⟨n.log2, by unfold bl; rw [if_neg h], Nat.log2_self_le h, Nat.lt_log2_self⟩
theorem bl_le {n k : Nat} (h : n < 2 ^ k) : bl n ≤ k := by
 unfold bl
 split
 ·omega
 ·have := (Nat.log2_lt (n := n) (k := k) (by omega)).2 h; omega
theorem lenB_bl (x : BitVec 8) : lenB x = bl x.toNat := by
 unfold lenB bl
 by_cases h : x = 0#8
 ·subst h; rfl
 ·rw [if_neg h, if_neg (show ¬ x.toNat = 0 from fun e => h (BitVec.eq_of_toNat_eq e))]
theorem bl_shift {n s : Nat} (h : 2 ^ s ≤ n) : bl (n / 2 ^ s) + s = bl n := by
 have hp : 0 < 2 ^ s := Nat.two_pow_pos s
 have hq : n / 2 ^ s ≠ 0 := by
  have := Nat.div_pos h hp; omega
 obtain ⟨k, h1, h2, h3⟩ := bl_spec hq
 rw [h1, bl_eq (k := k + s)]
 ·omega
 ·rw [Nat.pow_add]; exact (Nat.le_div_iff_mul_le hp).1 h2
 ·rw [show k + s + 1 = (k + 1) + s by omega, Nat.pow_add]; exact (Nat.div_lt_iff_lt_mul hp).1 h3
theorem len64_eq (x : BitVec 64) : math_bits_Len64 x = some (bl x.toNat) := by
 have hx := x.isLt
 have fin : ∀ (w : BitVec 64) (n : Nat), w.toNat < 256 → n + bl w.toNat = bl x.toNat → n ≤ 64 →
     (if (n + (BitVec.ofNat 8 (lenB (w.setWidth 8))).toNat) ≤ 9223372036854775807 then (some (n + (BitVec.ofNat 8 (lenB (w.setWidth 8))).toNat)) else none) = some (bl x.toNat) := by
  intro w n hw hn h64
  have h1 : (w.setWidth 8).toNat = w.toNat := by rw [BitVec.toNat_setWidth]; omega
  have h2 := lenB_le (w.setWidth 8)
  have h3 : (BitVec.ofNat 8 (lenB (w.setWidth 8))).toNat = bl w.toNat := by rw [BitVec.toNat_ofNat, lenB_bl, h1]; rw [lenB_bl, h1] at h2; omega
  rw [h3, if_pos (by rw [lenB_bl, h1] at h2; omega), hn]
 have s32 : (x >>> 32).toNat = x.toNat / 2 ^ 32 := by rw [BitVec.toNat_ushiftRight, Nat.shiftRight_eq_div_pow]
 have step8 : ∀ (w : BitVec 64) (n : Nat), w.toNat < 65536 → n + bl w.toNat = bl x.toNat → n ≤ 48 →
     ((((if 256 ≤ w.toNat then (if (n + 8) ≤ 9223372036854775807 then (some (((w >>> 8), (n + 8)))) else none) else (some ((w, n)))) : Option ((BitVec 64) × (Nat))).bind fun (w23, n24) => (if (n24 + (BitVec.ofNat 8 (lenB (w23.setWidth 8))).toNat) ≤ 9223372036854775807 then (some (n24 + (BitVec.ofNat 8 (lenB (w23.setWidth 8))).toNat)) else none))) = some (bl x.toNat) := by
  intro w n hw hn h48
  have s8 : (w >>> 8).toNat = w.toNat / 2 ^ 8 := by rw [BitVec.toNat_ushiftRight, Nat.shiftRight_eq_div_pow]
  by_cases h : 256 ≤ w.toNat
  ·rw [if_pos h, if_pos (by omega)]
   have := bl_shift (n := w.toNat) (s := 8) (by omega)
   rw [← s8] at this
   exact fin _ _ (by omega) (by omega) (by omega)
  ·rw [if_neg h]
   exact fin _ _ (by omega) hn (by omega)
 have step16 : ∀ (w : BitVec 64) (n : Nat), w.toNat < 4294967296 → n + bl w.toNat = bl x.toNat → n ≤ 32 →
     (((if 65536 ≤ w.toNat then (if (n + 16) ≤ 9223372036854775807 then (some (((w >>> 16), (n + 16)))) else none) else (some ((w, n)))) : Option ((BitVec 64) × (Nat))).bind fun (w13, n14) => (((if 256 ≤ w13.toNat then (if (n14 + 8) ≤ 9223372036854775807 then (some (((w13 >>> 8), (n14 + 8)))) else none) else (some ((w13, n14)))) : Option ((BitVec 64) × (Nat))).bind fun (w23, n24) => (if (n24 + (BitVec.ofNat 8 (lenB (w23.setWidth 8))).toNat) ≤ 9223372036854775807 then (some (n24 + (BitVec.ofNat 8 (lenB (w23.setWidth 8))).toNat)) else none))) = some (bl x.toNat) := by
  intro w n hw hn h32
  have s16 : (w >>> 16).toNat = w.toNat / 2 ^ 16 := by rw [BitVec.toNat_ushiftRight, Nat.shiftRight_eq_div_pow]
  by_cases h : 65536 ≤ w.toNat
  ·rw [if_pos h, if_pos (by omega)]
   have := bl_shift (n := w.toNat) (s := 16) (by omega)
   rw [← s16] at this
   exact step8 _ _ (by omega) (by omega) (by omega)
  ·rw [if_neg h]
   exact step8 _ _ (by omega) hn (by omega)
 unfold math_bits_Len64
 by_cases h : 4294967296 ≤ x.toNat
 ·rw [if_pos h]
  have := bl_shift (n := x.toNat) (s := 32) (by omega)
  rw [← s32] at this
  exact step16 _ _ (by omega) (by omega) (by omega)
 ·rw [if_neg h]
  exact step16 _ _ (by omega) (by omega) (by omega)
theorem vget (v : Vector (BitVec 64) 4) (i : Nat) (h : i < 4) : v[i]? = some v[i] := Vector.getElem?_eq_getElem h
theorem bl_top {a b s : Nat} (hb : b < 2 ^ s) (ha : a ≠ 0) : bl (b + 2 ^ s * a) = s + bl a := by
 obtain ⟨k, h1, h2, h3⟩ := bl_spec ha
 have hp : 0 < 2 ^ s := Nat.two_pow_pos s
 rw [h1, bl_eq (k := s + k)]
 ·omega
 ·rw [Nat.pow_add]; have := Nat.mul_le_mul_left (2 ^ s) h2; omega
 ·rw [show s + k + 1 = s + (k + 1) by omega, Nat.pow_add]
  have h4 : 2 ^ s * (a + 1) ≤ 2 ^ s * 2 ^ (k + 1) := Nat.mul_le_mul_left _ h3
  rw [Nat.mul_add] at h4; omega
theorem ulen_eq (v : Vector (BitVec 64) 4) : u256_Len v = some ((bl (val4 v) : Nat) : Int) := by
 have x0 := v[0].isLt; have x1 := v[1].isLt; have x2 := v[2].isLt; have x3 := v[3].isLt
 have hz : ∀ (x : BitVec 64), x = 0#64 ↔ x.toNat = 0 := fun x => ⟨fun h => by subst h; rfl, fun h => BitVec.eq_of_toNat_eq h⟩
 have b0 := bl_le x0; have b1 := bl_le x1; have b2 := bl_le x2; have b3 := bl_le x3
 unfold u256_Len
 simp only [u256_Len.l1, Int.reduceLE, if_true, Int.reduceSub, Int.reduceToNat, Int.toNat_zero, Int.reduceNeg, and_self, Nat.reduceLT, vget v 0 (by omega), vget v 1 (by omega), vget v 2 (by omega), vget v 3 (by omega), Zb, if_false, Nat.zero_lt_succ, Nat.lt_add_one, Int.reduceMul, len64_eq]
 by_cases h3 : v[3] = 0#64
 ·have e3 := (hz _).1 h3
  by_cases h2 : v[2] = 0#64
  ·have e2 := (hz _).1 h2
   by_cases h1 : v[1] = 0#64
   ·have e1 := (hz _).1 h1
    by_cases h0 : v[0] = 0#64
    ·have e0 := (hz _).1 h0
     simp [h0, h1, h2, h3, val4, bl]
    ·have hv : val4 v = v[0].toNat := by unfold val4; omega
     rw [hv]
     simp only [h3, h2, h1, h0, if_true, if_false]
     rw [if_pos (by omega)]
     simp
   ·have hv : val4 v = v[0].toNat + 2 ^ 64 * v[1].toNat := by unfold val4; omega
    rw [hv, bl_top x0 (fun e => h1 ((hz _).2 e))]
    simp only [h3, h2, h1, if_true, if_false]
    rw [if_pos (by omega)]
    simp
  ·have hv : val4 v = (v[0].toNat + 2 ^ 64 * v[1].toNat) + 2 ^ 128 * v[2].toNat := by unfold val4; omega
   rw [hv, bl_top (by omega) (fun e => h2 ((hz _).2 e))]
   simp only [h3, h2, if_true, if_false]
   rw [if_pos (by omega)]
   simp
 ·have hv : val4 v = (v[0].toNat + 2 ^ 64 * v[1].toNat + 2 ^ 128 * v[2].toNat) + 2 ^ 192 * v[3].toNat := by unfold val4; omega
  rw [hv, bl_top (by omega) (fun e => h3 ((hz _).2 e))]
  simp only [h3, if_true, if_false]
  rw [if_pos (by omega)]
  simp
end Go.Fw
namespace Go.Fw
theorem limb (v : Vector (BitVec 64) 4) (q : Nat) (h : q < 4) : val4 v / 2 ^ (64 * q) % 2 ^ 64 = v[q].toNat := by
 have x0 := v[0].isLt; have x1 := v[1].isLt; have x2 := v[2].isLt; have x3 := v[3].isLt
 unfold val4
 match q, h with
 | 0, _ => simp only [Nat.mul_zero, Nat.pow_zero, Nat.div_one]; omega
 | 1, _ => simp only [Nat.mul_one]; omega
 | 2, _ => simp only [Nat.reduceMul]; omega
 | 3, _ => simp only [Nat.reduceMul]; omega
theorem byte_r (m x r : Nat) (h : r < 8) (e : m % 2 ^ 64 = x) : m / 256 ^ r % 256 = x / 256 ^ r % 256 := by
 subst e
 match r, h with
 | 0, _ => simp only [Nat.pow_zero]; omega
 | 1, _ => simp only [Nat.pow_one]; omega
 | 2, _ => simp only [Nat.reducePow]; omega
 | 3, _ => simp only [Nat.reducePow]; omega
 | 4, _ => simp only [Nat.reducePow]; omega
 | 5, _ => simp only [Nat.reducePow]; omega
 | 6, _ => simp only [Nat.reducePow]; omega
 | 7, _ => simp only [Nat.reducePow]; omega
theorem pow256 (r : Nat) : 256 ^ r = 2 ^ (8 * r) := by rw [show (256 : Nat) = 2 ^ 8 by rfl, ← Nat.pow_mul]
theorem put_byte (v : Vector (BitVec 64) 4) (n : Nat) (h : n / 8 < 4) : ((v[n / 8] >>> (8 * (n % 8))).setWidth 8) = BitVec.ofNat 8 (val4 v / 256 ^ n) := by
 apply BitVec.eq_of_toNat_eq
 rw [BitVec.toNat_setWidth, BitVec.toNat_ushiftRight, Nat.shiftRight_eq_div_pow, BitVec.toNat_ofNat, ← pow256]
 have h1 := byte_r (val4 v / 2 ^ (64 * (n / 8))) _ (n % 8) (by omega) (limb v (n / 8) h)
 rw [Nat.div_div_eq_div_mul] at h1
 have e : 2 ^ (64 * (n / 8)) * 256 ^ (n % 8) = 256 ^ n := by
  rw [pow256, pow256, ← Nat.pow_add]
  congr 1
  omega
 rw [e] at h1
 omega
def fillB (v : Vector (BitVec 64) 4) : Nat → Nat → Vector (BitVec 8) 32 → Vector (BitVec 8) 32
 | _, 0, w => w
 | n, d + 1, w => fillB v (n + 1) d (w.setIfInBounds (31 - n) (BitVec.ofNat 8 (val4 v / 256 ^ n)))
theorem put_loop (v : Vector (BitVec 64) 4) : ∀ (d n k : Nat) (w : Vector (BitVec 8) 32), n + d = 32 → d < k → u256_Put.l1 v k n w = some (fillB v n d w)
 | 0, n, k, w, h, hk => by
  obtain ⟨k, rfl⟩ : ∃ m, k = m + 1 := ⟨k - 1, by omega⟩
  simp only [u256_Put.l1]
  rw [if_neg (by omega)]; rfl
 | d + 1, n, k, w, h, hk => by
  obtain ⟨k, rfl⟩ : ∃ m, k = m + 1 := ⟨k - 1, by omega⟩
  simp only [u256_Put.l1]
  rw [if_pos (by omega), if_pos (by omega), if_pos (by omega), vget v (n / 8) (by omega)]
  simp only [Zb]
  rw [if_pos (by omega), put_byte v n (by omega)]
  exact put_loop v d (n + 1) k _ (by omega) (by omega)
theorem rput_loop (v : Vector (BitVec 64) 4) : ∀ (d n k : Nat) (w : Vector (BitVec 8) 32), n + d = 32 → d < k → waybillref01_Put.l1 v k n w = some (fillB v n d w)
 | 0, n, k, w, h, hk => by
  obtain ⟨k, rfl⟩ : ∃ m, k = m + 1 := ⟨k - 1, by omega⟩
  simp only [waybillref01_Put.l1]
  rw [if_neg (by omega)]; rfl
 | d + 1, n, k, w, h, hk => by
  obtain ⟨k, rfl⟩ : ∃ m, k = m + 1 := ⟨k - 1, by omega⟩
  simp only [waybillref01_Put.l1]
  have e : (BitVec.ofNat 64 (8 * (n % 8))).toNat = 8 * (n % 8) := by rw [BitVec.toNat_ofNat]; omega
  rw [if_pos (by omega), if_pos (by omega), if_pos (by omega), vget v (n / 8) (by omega), e]
  simp only [Zb]
  rw [if_pos (by omega), put_byte v n (by omega)]
  exact rput_loop v d (n + 1) k _ (by omega) (by omega)
theorem fillB_get (v : Vector (BitVec 64) 4) : ∀ (d n : Nat) (w : Vector (BitVec 8) 32), n + d = 32 → ∀ i (hi : i < 32), (fillB v n d w)[i] = if i ≤ 31 - n ∧ 0 < d then BitVec.ofNat 8 (val4 v / 256 ^ (31 - i)) else w[i]
 | 0, n, w, h, i, hi => by simp [fillB]
 | d + 1, n, w, h, i, hi => by
  unfold fillB
  rw [fillB_get v d (n + 1) _ (by omega) i hi]
  rw [Vector.getElem_setIfInBounds]
  by_cases h1 : i = 31 - n
  ·subst h1
   rw [if_neg (by omega), if_pos (by omega), if_pos (by omega), show 31 - (31 - n) = n by omega]
  ·by_cases h2 : i ≤ 31 - (n + 1) ∧ 0 < d
   ·rw [if_pos h2, if_pos (by omega)]
   ·rw [if_neg h2, if_neg (by omega), if_neg (by omega)]
theorem fillB_be (v : Vector (BitVec 64) 4) (w : Vector (BitVec 8) 32) : (fillB v 0 32 w).toList = be 32 (val4 v) := by
 apply List.ext_getElem?
 intro i
 rcases Nat.lt_or_ge i 32 with h | h
 ·rw [be_get _ 32 i h, vat' h, fillB_get v 32 0 w (by omega) i h, if_pos (by omega)]
 ·rw [List.getElem?_eq_none (by simp; omega), List.getElem?_eq_none (by rw [be_length]; omega)]
theorem put_eq (v : Vector (BitVec 64) 4) : ∃ w, u256_Put v = some w ∧ waybillref01_Put v = some w ∧ w.toList = be 32 (val4 v) := by
 refine ⟨fillB v 0 32 (Vector.replicate 32 0#8), ?_, ?_, fillB_be v _⟩
 ·unfold u256_Put; rw [put_loop v 32 0 _ _ (by omega) (by omega)]; rfl
 ·unfold waybillref01_Put; rw [rput_loop v 32 0 _ _ (by omega) (by omega)]; rfl
def nb (n : Nat) : Nat := (bl n + 7) / 8
def bytesN (n : Nat) : List (BitVec 8) := be (nb n) n
theorem nb_le {n : Nat} (h : n < 2 ^ 256) : nb n ≤ 32 := by have := bl_le h; unfold nb; omega
theorem be_drop' {n k j : Nat} (h : j ≤ k) : (be k n).drop (k - j) = be j n := by
 have := be_drop n (k - j) j
 rwa [show j + (k - j) = k by omega] at this
theorem bytes_eq (v : Vector (BitVec 64) 4) : u256_Bytes v = some (bytesN (val4 v)) := by
 obtain ⟨w, h1, _, h3⟩ := put_eq v
 unfold u256_Bytes
 have hb : bl (val4 v) ≤ 256 := bl_le (k := 256) (val4_lt v)
 have h32 := nb_le (val4_lt v)
 have hnb : (bl (val4 v) + 7) / 8 = nb (val4 v) := rfl
 have e : (((bl (val4 v) : Nat) : Int) + 7).toNat / 8 = nb (val4 v) := by omega
 rw [h1, Zb, ulen_eq, Zb, if_pos (by omega), if_pos (by omega), e, if_pos (by omega), show ((32 : Int) - ((nb (val4 v) : Nat) : Int)).toNat = 32 - nb (val4 v) by omega, if_pos (by omega), h3, be_drop' h32]
 rfl
theorem byte_hi {n k : Nat} (h : nb n ≤ k) : BitVec.ofNat 8 (n / 256 ^ k) = 0#8 := by
 have : n < 256 ^ k := by
  by_cases h0 : n = 0
  ·subst h0; exact Nat.pow_pos (by omega)
  obtain ⟨j, h1, h2, h3⟩ := bl_spec h0
  rw [pow256]
  refine Nat.lt_of_lt_of_le h3 (Nat.pow_le_pow_right (by omega) ?_)
  unfold nb at h; omega
 rw [Nat.div_eq_of_lt this]
theorem byte_top {n : Nat} (h : n ≠ 0) : BitVec.ofNat 8 (n / 256 ^ (nb n - 1)) ≠ 0#8 := by
 obtain ⟨j, h1, h2, h3⟩ := bl_spec h
 have hnb : nb n = j / 8 + 1 := by unfold nb; omega
 rw [hnb, Nat.add_sub_cancel, pow256]
 have hp : 0 < 2 ^ (8 * (j / 8)) := Nat.two_pow_pos _
 have ha : 0 < n / 2 ^ (8 * (j / 8)) := Nat.div_pos (Nat.le_trans (Nat.pow_le_pow_right (by omega) (by omega)) h2) hp
 have hb : n / 2 ^ (8 * (j / 8)) < 256 := by
  rw [Nat.div_lt_iff_lt_mul hp]
  refine Nat.lt_of_lt_of_le h3 ?_
  rw [show (256 : Nat) = 2 ^ 8 by rfl, ← Nat.pow_add]
  exact Nat.pow_le_pow_right (by omega) (by omega)
 intro e
 have := congrArg BitVec.toNat e
 rw [BitVec.toNat_ofNat] at this
 simp at this
 omega
theorem rbytes_loop (w : Vector (BitVec 8) 32) (n : Nat) (hw : w.toList = be 32 n) (h256 : nb n ≤ 32) : ∀ (d i k : Nat) (l : List (BitVec 8)), i + d = 32 → d < k → l = ((be 32 n).take i).drop (32 - nb n) → waybillref01_Bytes.l1 w k l i = some (bytesN n)
 | 0, i, k, l, h, hk, hl => by
  obtain ⟨k, rfl⟩ : ∃ m, k = m + 1 := ⟨k - 1, by omega⟩
  simp only [waybillref01_Bytes.l1]
  rw [if_neg (by omega), hl, List.take_of_length_le (by rw [be_length]; omega)]
  rw [be_drop' h256]; rfl
 | d + 1, i, k, l, h, hk, hl => by
  obtain ⟨k, rfl⟩ : ∃ m, k = m + 1 := ⟨k - 1, by omega⟩
  have hlen : l.length = i - (32 - nb n) := by rw [hl, List.length_drop, List.length_take, be_length]; omega
  have hx : w[i]? = some (BitVec.ofNat 8 (n / 256 ^ (31 - i))) := by
   rw [← Vector.getElem?_toList, hw, be_get n 32 i (by omega)]
  have hnext : 32 - nb n ≤ i → l ++ [BitVec.ofNat 8 (n / 256 ^ (31 - i))] = ((be 32 n).take (i + 1)).drop (32 - nb n) := fun hi => by
   rw [List.take_add_one, be_get n 32 i (by omega), Option.toList_some, List.drop_append, hl]
   congr 1
   rw [List.length_take, be_length, show 32 - nb n - min i 32 = 0 by omega]; rfl
  simp only [waybillref01_Bytes.l1]
  rw [if_pos (by omega)]
  by_cases h0 : 0 < l.length
  ·rw [if_pos h0, hx]
   simp only [Zb, List.length_cons, List.length_nil]
   rw [if_pos (by omega)]
   simp only [Zb]
   exact rbytes_loop w n hw h256 d (i + 1) k _ (by omega) (by omega) (hnext (by omega))
  ·rw [if_neg h0, hx]
   simp only [Zb]
   by_cases hi : i < 32 - nb n
   ·rw [if_pos (byte_hi (by omega))]
    simp only [Zb]
    refine rbytes_loop w n hw h256 d (i + 1) k _ (by omega) (by omega) ?_
    rw [List.drop_of_length_le (by rw [List.length_take, be_length]; omega)]
    exact List.length_eq_zero_iff.1 (by omega)
   ·have hi2 : i = 32 - nb n := by omega
    have hn0 : n ≠ 0 := fun e => by subst e; simp [nb, bl] at hi2; omega
    have h31 : 31 - i = nb n - 1 := by omega
    rw [if_neg (by rw [h31]; exact byte_top hn0)]
    simp only [Zb, List.length_cons, List.length_nil]
    rw [if_pos (by omega)]
    simp only [Zb]
    exact rbytes_loop w n hw h256 d (i + 1) k _ (by omega) (by omega) (hnext (by omega))
theorem rbytes_eq (v : Vector (BitVec 64) 4) : waybillref01_Bytes v = some (bytesN (val4 v)) := by
 obtain ⟨w, _, h2, h3⟩ := put_eq v
 unfold waybillref01_Bytes
 rw [h2]
 simp only [Zb]
 rw [rbytes_loop w (val4 v) h3 (nb_le (val4_lt v)) 32 0 40 [] (by omega) (by omega) (by simp)]
 rfl
end Go.Fw
namespace Go.Fw
def small (s : List (BitVec 8)) (h : Nat) : Bool := match s[h]? with
 | some x => decide (x.toNat < 128)
 | none => false
theorem val4_lim' {n : Nat} (h : n < 2 ^ 64) : val4 (lim n) = n := val4_lim n (Nat.lt_trans h (by decide))
end Go.Fw
namespace Go.Fw
theorem drop_cons_at {α : Type} {l : List α} {i : Nat} (h : i < l.length) : l.drop i = l[i] :: l.drop (i + 1) := List.drop_eq_getElem_cons h
end Go.Fw
namespace Go.Fw
def headB (c n : Nat) : List (BitVec 8) := if n ≤ 55 then [BitVec.ofNat 8 (c + n)] else BitVec.ofNat 8 (c + 55 + nb n) :: bytesN n
theorem bytesN_length (n : Nat) : (bytesN n).length = nb n := be_length _ _
theorem nb_8 {n : Nat} (h : n < 2 ^ 64) : nb n ≤ 8 := by have := bl_le (k := 64) h; unfold nb; omega
theorem headB_length {c n : Nat} (h : n < 2 ^ 64) : (headB c n).length ≤ 9 ∧ 0 < (headB c n).length := by
 unfold headB
 split
 ·simp
 ·rw [List.length_cons, bytesN_length]; have := nb_8 h; omega
theorem ofNat_toNat64 {n : Nat} (h : n < 2 ^ 64) : (BitVec.ofNat 64 n).toNat = n := by rw [BitVec.toNat_ofNat, Nat.mod_eq_of_lt h]
theorem head_spec (c n : Nat) (hn : n ≤ 9223372036854775807) : rlp_head (BitVec.ofNat 8 c) n = some (headB c n) := by
 unfold rlp_head headB
 by_cases h : n ≤ 55
 ·rw [if_pos h, if_pos h, BitVec.ofNat_add]
 ·have h64 : n < 2 ^ 64 := by omega
  have h8 := nb_8 h64
  rw [if_neg h, if_neg h, from_eq, Zb, bytes_eq, Zb, val4_lim' (BitVec.isLt _), ofNat_toNat64 h64, bytesN_length, if_pos (by simp only [List.length_cons, List.length_nil]; omega)]
  congr 1
  rw [List.singleton_append, BitVec.ofNat_add, BitVec.ofNat_add]
theorem before_spec (c n : Nat) (hc : c ≤ 255) (hn : n ≤ 9223372036854775807) : waybillref07_before n c = some (headB c n) := by
 unfold waybillref07_before headB
 by_cases h : n ≤ 55
 ·rw [if_pos h, if_pos h, if_pos (by omega)]
 ·have h64 : n < 2 ^ 64 := by omega
  have h8 := nb_8 h64
  rw [if_neg h, if_neg h, rfrom_eq, Zb, rbytes_eq, Zb, val4_lim' (BitVec.isLt _), ofNat_toNat64 h64, bytesN_length, if_pos (by omega), if_pos (by omega), if_pos (by simp only [List.length_cons, List.length_nil]; omega)]
  rfl
end Go.Fw
namespace Go.Fw
open Go Go.RowKit Go.Deep Go.WideShapes
section
variable {H : Type} {enc : TypeId × Value → H} {P : Program} {W : World}
structure ItTypes (P : Program) (tI tS tB t8 tL : TypeId) where
 fs : Array Field
 f0 : Field
 f1 : Field
 f2 : Field
 hI : P.underlying tI = some (.struct fs)
 h0 : fs[0]? = some f0
 h1 : fs[1]? = some f1
 h2 : fs[2]? = some f2
 o0 : f0.offset = 0
 o1 : f1.offset = 1
 o2 : f2.offset = 2
 y0 : f0.type = tL
 y1 : f1.type = tB
 y2 : f2.type = tS
 uL : P.underlying tL = some .bool
 uB : P.underlying tB = some (.slice t8)
 u8 : P.underlying t8 = some (.int .u8)
 uS : P.underlying tS = some (.slice tI)
 cL : P.cellsOf tL = 1
 cB : P.cellsOf tB = 1
 cS : P.cellsOf tS = 1
 c8 : P.cellsOf t8 = 1
 cI : P.cellsOf tI = 3
 b8 : P.bytesOf t8 = 1
 bI : P.bytesOf tI = 56
theorem els_size {d : DataW H} {el sp : List (DataW H)} (h : Els d el sp) {x : DataW H} (hx : x ∈ el) : SizeOf.sizeOf x < SizeOf.sizeOf d := by
 rcases h with ⟨_, rfl, _⟩ | rfl
 ·cases hx
 ·have := List.sizeOf_lt_of_mem hx
  simp only [DataW.slice.sizeOf_spec]
  omega
theorem items_view {tI tS tB t8 tL : TypeId} (T : ItTypes P tI tS tB t8 tL) {n : Nat} {u : Value} {r : DataW H × List MemPlace} (h : reads enc P W n tS [u] = some r) (hz : Fits P tS r.1)
    (ih : ∀ d, SizeOf.sizeOf d < SizeOf.sizeOf r.1 → ∀ n cs ps, cs.length = 3 → reads enc P W n tI cs = some (d, ps) → Fits P tI d → ∃ it, ItRd (fun w => Mem W w []) cs it) :
    ∃ (A : Option Addr) (cap : Nat) (cells : List Value) (its : List It), u = .slice A its.length cap ∧ View (fun w => Mem W w []) A its.length cap 3 cells ∧ Reps (ItRd (fun w => Mem W w [])) cells its ∧ its.length * 56 ≤ 140737488351232 := by
 obtain ⟨A, cap, ys, el, sp, h1, h2, h3, h4, h5, h6, h7, h8, h9, h10⟩ := cells_of_slice (α := List Value) (fun u => u) (fun cs d => ∃ n ps, cs.length = 3 ∧ reads enc P W n tI cs = some (d, ps)) 3 T.cI (by omega) (fun n cs r hl hr => ⟨cs, rfl, n, r.2, hl, hr⟩) T.uS h
 have hw := hz.slice T.uS h7
 rw [T.bI, h9] at hw
 obtain ⟨its, hlen, hq⟩ := list_of (Q := fun i it => ∃ cs, ys[i]? = some cs ∧ ItRd (fun w => Mem W w []) cs it) ys.length (fun i hi => by
  have hu : ys[i]? = some ys[i] := List.getElem?_eq_getElem hi
  have hd : el[i]? = some (el[i]'(by omega)) := List.getElem?_eq_getElem (by omega)
  obtain ⟨n, ps', hl, hr⟩ := h10 i _ _ hu hd
  have hm := List.mem_of_getElem? hd
  obtain ⟨it, hit⟩ := ih _ (els_size h7 hm) n _ ps' hl hr (hw.2 _ hm)
  exact ⟨it, _, hu, hit⟩)
 have hreps : ∀ (ys : List (List Value)) (its : List It), its.length = ys.length → (∀ (i : Nat) (it : It), its[i]? = some it → ∃ cs, ys[i]? = some cs ∧ ItRd (fun w => Mem W w []) cs it) → Reps (ItRd (fun w => Mem W w [])) (ys.flatMap fun u => u) its := by
  intro ys
  induction ys with
  | nil => intro its hl _; cases its with | nil => exact .nil | cons _ _ => simp at hl
  | cons y ys ih =>
   intro its hl hq
   cases its with
   | nil => simp at hl
   | cons it its =>
    obtain ⟨cs, e1, e2⟩ := hq 0 it rfl
    simp at e1
    subst e1
    rw [List.flatMap_cons]
    exact .cons e2 (ih its (by simpa using hl) (fun i x hx => by simpa using hq (i + 1) x (by simpa using hx)))
 have hc : cap * 56 ≤ 140737488351232 := by simpa [reachBytes] using hw.1
 have hR := hreps ys its hlen hq
 refine ⟨A, cap, _, its, by rw [hlen]; exact h1, View.of_rd h6 (hR.len ItRd.len) (by omega) (by omega), hR, by omega⟩
theorem reads_it {tI tS tB t8 tL : TypeId} (T : ItTypes P tI tS tB t8 tL) : ∀ (k : Nat) (d : DataW H), SizeOf.sizeOf d ≤ k → ∀ n cs ps, cs.length = 3 → reads enc P W n tI cs = some (d, ps) → Fits P tI d → ∃ it, ItRd (fun w => Mem W w []) cs it := by
 intro k
 induction k with
 | zero => intro d hd; have : 0 < SizeOf.sizeOf d := by cases d <;> simp <;> omega
           omega
 | succ k ih =>
  intro d hd n cs ps hl hr hz
  obtain ⟨xs, m, hn, hx, hcl, hxl, hf⟩ := DataW.trod_struct T.hI hr
  obtain ⟨c0, c1, c2, rfl⟩ : ∃ a b c, cs = [a, b, c] := by
   match cs, hl with
   | [a, b, c], _ => exact ⟨a, b, c, rfl⟩
  have g0 := hf 0 T.f0 T.h0
  have g1 := hf 1 T.f1 T.h1
  have g2 := hf 2 T.f2 T.h2
  rw [T.o0, T.y0, T.cL] at g0
  rw [T.o1, T.y1, T.cB] at g1
  rw [T.o2, T.y2, T.cS] at g2
  simp only [List.drop_zero, List.drop_succ_cons, List.take_succ_cons, List.take_zero] at g0 g1 g2
  have hsz : 2 < T.fs.size := (Array.getElem?_eq_some_iff.1 T.h2).1
  obtain ⟨x0, e0⟩ : ∃ x, xs[0]? = some x := ⟨_, List.getElem?_eq_getElem (by omega)⟩
  obtain ⟨x1, e1⟩ : ∃ x, xs[1]? = some x := ⟨_, List.getElem?_eq_getElem (by omega)⟩
  obtain ⟨x2, e2⟩ : ∃ x, xs[2]? = some x := ⟨_, List.getElem?_eq_getElem (by omega)⟩
  rw [e0] at g0; rw [e1] at g1; rw [e2] at g2
  obtain ⟨b, hb, _⟩ := DataW.trod_bool T.uL g0
  simp at hb
  subst hb
  have hd2 : d = .agg (xs.map (·.1)) := congrArg Prod.fst hx
  subst hd2
  have hz1 : Fits P tB x1.1 := by have := Fits.struct T.hI hz T.h1 (d := x1.1) (by simp [e1]); rwa [T.y1] at this
  have hz2 : Fits P tS x2.1 := by have := Fits.struct T.hI hz T.h2 (d := x2.1) (by simp [e2]); rwa [T.y2] at this
  obtain ⟨A, cap, x, rfl, hv, _⟩ := reads_bs T.uB T.u8 T.c8 T.b8 g1 hz1
  have hs2 : SizeOf.sizeOf x2.1 < SizeOf.sizeOf (DataW.agg (xs.map (·.1))) := by
   have hm : x2.1 ∈ xs.map (·.1) := List.mem_map.2 ⟨x2, List.mem_of_getElem? e2, rfl⟩
   have := List.sizeOf_lt_of_mem hm
   simp only [DataW.agg.sizeOf_spec]
   omega
  obtain ⟨B, e, cells, its, rfl, hv2, hR, _⟩ := items_view T g2 hz2 (fun d' hd' n' cs' ps' hl' hr' hz' => ih d' (by omega) n' cs' ps' hl' hr' hz')
  exact ⟨.mk b x its, .mk hv hv2 hR⟩
theorem arg_it {tI tS tB t8 tL : TypeId} (T : ItTypes P tI tS tB t8 tL) {b0 : Nat} {v : Value} (hval : Value.okWide P W .any b0 tI v) {d : DataW H} {ps : List MemPlace} (h : DataW.Trod enc P W 0 (fun _ => true) true tI v d ps) (hz : Fits P tI d) :
    ∃ (cs : List Value) (it : It), v = .agg cs.toArray ∧ ItRd (fun w => Mem W w []) cs it := by
 obtain ⟨xs, rfl⟩ := okWide_st T.hI hval
 obtain ⟨fuel, hf⟩ := h
 have hr : reads enc P W fuel tI xs.toList = some (d, ps) := by simpa [Value.cells] using hf
 obtain ⟨_, _, _, _, hcl, _⟩ := DataW.trod_struct T.hI hr
 rw [T.cI] at hcl
 obtain ⟨it, hit⟩ := reads_it T _ d (Nat.le_refl _) fuel xs.toList ps hcl hr hz
 exact ⟨xs.toList, it, by simp, hit⟩
end
end Go.Fw
namespace Go.Fw
mutual
def It.wt : It → Nat
 | .mk _ d its => d.length + its.length + 1 + Its.wt its
def Its.wt : List It → Nat
 | [] => 0
 | x :: xs => It.wt x + Its.wt xs
end
mutual
def It.lens : It → Prop
 | .mk _ d its => d.length ≤ 140737488355328 ∧ its.length ≤ 140737488355328 ∧ Its.lens its
def Its.lens : List It → Prop
 | [] => True
 | x :: xs => It.lens x ∧ Its.lens xs
end
theorem It.wt_eq (x : It) : x.wt = x.data.length + x.items.length + 1 + Its.wt x.items := by cases x; simp [It.wt, It.data, It.items]
theorem It.sz_eq (x : It) : x.sz = 1 + Its.sz x.items := by cases x; simp [It.sz, It.items]
theorem It.lens_eq (x : It) : x.lens ↔ x.data.length ≤ 140737488355328 ∧ x.items.length ≤ 140737488355328 ∧ Its.lens x.items := by cases x; simp [It.lens, It.data, It.items]
theorem Its.wt_app : ∀ (a b : List It), Its.wt (a ++ b) = Its.wt a + Its.wt b
 | [], b => by simp [Its.wt]
 | x :: a, b => by simp [Its.wt, Its.wt_app a b]; omega
theorem Its.lens_app : ∀ (a b : List It), Its.lens (a ++ b) ↔ Its.lens a ∧ Its.lens b
 | [], b => by simp [Its.lens]
 | x :: a, b => by simp [Its.lens, Its.lens_app a b, and_assoc]
theorem Its.lens_mem : ∀ {l : List It}, Its.lens l → ∀ x ∈ l, It.lens x
 | [], _, x, hx => by cases hx
 | y :: l, h, x, hx => by
  simp only [Its.lens] at h
  rcases List.mem_cons.1 hx with rfl | hx
  ·exact h.1
  ·exact Its.lens_mem h.2 x hx
theorem Its.wt_mem : ∀ {l : List It} {x : It}, x ∈ l → It.wt x ≤ Its.wt l
 | y :: l, x, hx => by
  simp only [Its.wt]
  rcases List.mem_cons.1 hx with rfl | hx
  ·omega
  ·have := Its.wt_mem hx; omega
theorem Z133 : ∀ {l : List It} {x : It}, x ∈ l → It.sz x ≤ Its.sz l
 | y :: l, x, hx => by
  simp only [Its.sz]
  rcases List.mem_cons.1 hx with rfl | hx
  ·omega
  ·have := Z133 hx; omega
theorem Its.wt_drop {l : List It} {i : Nat} (h : i < l.length) : Its.wt (l.drop i) = It.wt l[i] + Its.wt (l.drop (i + 1)) := by rw [drop_cons_at h, Its.wt]
mutual
theorem ItRd.lens {Φ : Ctx} : ∀ (x : It) (cs : List Value), ItRd Φ cs x → x.lens
 | .mk l d its, _, .mk h1 h2 h3 => by simp only [It.lens]; exact ⟨h1.mx, h2.mx, ItsRd.lens its _ h3⟩
theorem ItsRd.lens {Φ : Ctx} : ∀ (xs : List It) (cs : List Value), Reps (ItRd Φ) cs xs → Its.lens xs
 | [], _, .nil => by simp only [Its.lens]
 | x :: xs, _, .cons h hr => by simp only [Its.lens]; exact ⟨ItRd.lens x _ h, ItsRd.lens xs _ hr⟩
end
theorem beyond2 (l : List It) (hl : Its.lens l) : ∀ (d i k T : Nat) (nx : List It), i + d = l.length → d < k → T ≤ 2147483647 → nx.length ≤ T → Its.lens nx →
    ∃ q, waybillref07_Beyond.l2 k l T nx i = some q ∧ (∀ T' nx', q = .go (T', nx') → T' ≤ 2147483647 ∧ Its.lens nx' ∧ T' + Its.wt nx' = T + Its.wt (l.drop i) + Its.wt nx) ∧ (∀ o, q = .ret o → o = some (.ret (some true)))
 | 0, i, k, T, nx, h, hk, hT, hn, hx => by
  obtain ⟨k, rfl⟩ : ∃ m, k = m + 1 := ⟨k - 1, by omega⟩
  refine ⟨.go (T, nx), by rw [waybillref07_Beyond.l2, if_neg (by omega)], fun T' nx' e => ?_, fun o e => by cases e⟩
  cases e
  rw [List.drop_of_length_le (by omega)]
  exact ⟨hT, hx, by simp [Its.wt]⟩
 | d + 1, i, k, T, nx, h, hk, hT, hn, hx => by
  obtain ⟨k, rfl⟩ : ∃ m, k = m + 1 := ⟨k - 1, by omega⟩
  have h1 : i < l.length := by omega
  have hli := (It.lens_eq _).1 (Its.lens_mem hl l[i] (List.getElem_mem h1))
  have hw := It.wt_eq l[i]
  rw [waybillref07_Beyond.l2, if_pos h1, List.getElem?_eq_getElem h1, Zb, if_pos (by omega), Zb, if_pos (by omega), if_pos (by omega), Zb]
  by_cases hb : 2147483647 < T + (l[i]).data.length + (l[i]).items.length + 1
  ·rw [if_pos hb]
   exact ⟨_, rfl, (fun T' nx' e => by cases e), (fun o e => by cases e; rfl)⟩
  ·rw [if_neg hb, if_pos (by omega)]
   obtain ⟨q, e1, e2, e3⟩ := beyond2 l hl d (i + 1) k (T + (l[i]).data.length + (l[i]).items.length + 1) (nx ++ (l[i]).items) (by omega) (by omega) (by omega) (by rw [List.length_append]; omega) ((Its.lens_app _ _).2 ⟨hx, hli.2.2⟩)
   refine ⟨q, e1, fun T' nx' e => ?_, e3⟩
   obtain ⟨a, b, c⟩ := e2 T' nx' e
   refine ⟨a, b, ?_⟩
   rw [c, Its.wt_drop h1, Its.wt_app, hw]
   omega
theorem beyond1 : ∀ (d dep k T : Nat) (l : List It), dep + d = 65538 → d < k → T ≤ 2147483647 → Its.lens l →
    ∃ q, waybillref07_Beyond.l1 k l T dep = some q ∧ (q = .go () → T + Its.wt l ≤ 2147483647) ∧ (∀ o, q = .ret o → o = some true)
 | 0, dep, k, T, l, h, hk, hT, hl => by
  obtain ⟨k, rfl⟩ : ∃ m, k = m + 1 := ⟨k - 1, by omega⟩
  rw [waybillref07_Beyond.l1]
  by_cases h0 : 0 < l.length
  ·rw [if_pos h0, if_pos (by omega)]
   exact ⟨_, rfl, (fun e => by cases e), (fun o e => by cases e; rfl)⟩
  ·rw [if_neg h0]
   have : l = [] := List.length_eq_zero_iff.1 (by omega)
   subst this
   exact ⟨_, rfl, (fun _ => by simp [Its.wt]; omega), (fun o e => by cases e)⟩
 | d + 1, dep, k, T, l, h, hk, hT, hl => by
  obtain ⟨k, rfl⟩ : ∃ m, k = m + 1 := ⟨k - 1, by omega⟩
  rw [waybillref07_Beyond.l1]
  by_cases h0 : 0 < l.length
  ·rw [if_pos h0]
   by_cases h1 : 65536 < dep
   ·rw [if_pos h1]
    exact ⟨_, rfl, (fun e => by cases e), (fun o e => by cases e; rfl)⟩
   ·rw [if_neg h1]
    obtain ⟨q, e1, e2, e3⟩ := beyond2 l hl l.length 0 (l.length - 0 + 2) T [] (by omega) (by omega) hT (by simp) (by simp [Its.lens])
    rw [e1, Zb]
    cases q with
    | ret o =>
     have := e3 o rfl
     subst this
     exact ⟨_, rfl, (fun e => by cases e), (fun o e => by cases e; rfl)⟩
    | go s =>
     obtain ⟨T', nx⟩ := s
     obtain ⟨a, b, c⟩ := e2 T' nx rfl
     obtain ⟨q, f1, f2, f3⟩ := beyond1 d (dep + 1) k T' nx (by omega) (by omega) a b
     refine ⟨q, f1, fun e => ?_, f3⟩
     have := f2 e
     rw [List.drop_zero] at c
     simp only [Its.wt] at c
     omega
  ·rw [if_neg h0]
   have : l = [] := List.length_eq_zero_iff.1 (by omega)
   subst this
   exact ⟨_, rfl, (fun _ => by simp [Its.wt]; omega), (fun o e => by cases e)⟩
theorem beyond_ok (x : It) (hx : x.lens) : ∃ b, waybillref07_Beyond x = some b ∧ (b = false → x.wt ≤ 2147483647) := by
 obtain ⟨q, e1, e2, e3⟩ := beyond1 65538 0 65540 0 [x] (by omega) (by omega) (by omega) (by simp [Its.lens, hx])
 unfold waybillref07_Beyond
 rw [e1, Zb]
 cases q with
 | ret o =>
  have := e3 o rfl
  subst this
  exact ⟨true, rfl, fun e => by cases e⟩
 | go s =>
  refine ⟨false, rfl, fun _ => ?_⟩
  have := e2 rfl
  simp only [Its.wt] at this
  omega
end Go.Fw
namespace Go.Fw
open Go
def mk70 : List (BitVec 8) := List.replicate 70 195#8
inductive LtRd (Φ : Ctx) : List Value → It → Prop
 | mk {A B : Option Addr} {l : Bool} {d : List (BitVec 8)} {c e : Nat} {its : List It} {cells mk : List Value} :
  View Φ A (d ++ mk70).length c 1 (u8s (d ++ mk70)) → View Φ B (its.length + 1) e 3 (cells ++ mk) → Reps (LtRd Φ) cells its → ItRd Φ mk (.mk false [195#8] []) → LtRd Φ [.bool l, .slice A d.length c, .slice B its.length e] (.mk l d its)
theorem LtRd.len {Φ : Ctx} (cs : List Value) (x : It) (h : LtRd Φ cs x) : cs.length = 3 := by cases h; rfl
theorem LtRd.one {Φ : Ctx} (cs : List Value) (x : It) (h : LtRd Φ cs x) : ∀ u ∈ cs, u.oneCell' = true := by
 cases h
 intro u hu; simp at hu; rcases hu with rfl | rfl | rfl <;> rfl
mutual
theorem LtRd.mono' {Φ Ψ : Ctx} (hh : ∀ w, Ψ w → Φ w) : ∀ (x : It) (cs : List Value), LtRd Φ cs x → LtRd Ψ cs x
 | .mk l d its, _, .mk h1 h2 h3 h4 => .mk (h1.mono hh) (h2.mono hh) (LtsRd.mono' hh its _ h3) (ItRd.mono hh _ _ h4)
theorem LtsRd.mono' {Φ Ψ : Ctx} (hh : ∀ w, Ψ w → Φ w) : ∀ (xs : List It) (cs : List Value), Reps (LtRd Φ) cs xs → Reps (LtRd Ψ) cs xs
 | [], _, .nil => .nil
 | x :: xs, _, .cons h hr => .cons (LtRd.mono' hh x _ h) (LtsRd.mono' hh xs _ hr)
end
theorem LtRd.mono {Φ Ψ : Ctx} (hh : ∀ w, Ψ w → Φ w) (cs : List Value) (x : It) : LtRd Φ cs x → LtRd Ψ cs x := LtRd.mono' hh x cs
theorem LtRd.opn {Φ : Ctx} {cs : List Value} {x : It} (h : LtRd Φ cs x) : ∃ A c B e cells mk, cs = [.bool x.list, .slice A x.data.length c, .slice B x.items.length e] ∧ View Φ A (x.data ++ mk70).length c 1 (u8s (x.data ++ mk70)) ∧ View Φ B (x.items.length + 1) e 3 (cells ++ mk) ∧ Reps (LtRd Φ) cells x.items ∧ ItRd Φ mk (.mk false [195#8] []) := by
 cases h with
 | mk h1 h2 h3 h4 => exact ⟨_, _, _, _, _, _, rfl, h1, h2, h3, h4⟩
mutual
theorem LtRd.it' {Φ : Ctx} : ∀ (x : It) (cs : List Value), LtRd Φ cs x → ItRd Φ cs x
 | .mk l d its, _, .mk (cells := cells) (mk := mk) h1 h2 h3 h4 => by
  have h5 := LtsRd.it' its _ h3
  have hl := h5.len ItRd.len
  have h6 := h1.hi (k := d.length) (by simp)
  rw [Nat.mul_one, u8s, ← List.map_take, List.take_left] at h6
  have h7 := h2.hi (k := its.length) (by omega)
  rw [← hl, List.take_left] at h7
  exact .mk h6 h7 h5
theorem LtsRd.it' {Φ : Ctx} : ∀ (xs : List It) (cs : List Value), Reps (LtRd Φ) cs xs → Reps (ItRd Φ) cs xs
 | [], _, .nil => .nil
 | x :: xs, _, .cons h hr => .cons (LtRd.it' x _ h) (LtsRd.it' xs _ hr)
end
theorem LtRd.it {Φ : Ctx} (cs : List Value) (x : It) (h : LtRd Φ cs x) : ItRd Φ cs x := LtRd.it' x cs h
def zi0 : List Value := [.bool false, .slice none 0 0, .slice none 0 0]
def zi (k : Nat) : List Value := (List.replicate k zi0).flatten
theorem zi_length (k : Nat) : (zi k).length = k * 3 := by
 rw [zi, List.length_flatten, List.map_replicate, List.sum_replicate_nat]; rfl
theorem zi_succ (k : Nat) : zi (k + 1) = zi0 ++ zi k := by simp [zi, List.replicate_succ]
theorem zi_set {a c : List Value} {k n : Nat} (ha : a.length = n) (hc : c.length = 3) : spl (a ++ zi (k + 1)) n c = (a ++ c) ++ zi k := by
 rw [zi_succ, show n = n + 0 by omega, List.append_assoc]
 exact skip_spl ha (here_spl (by rw [hc]; rfl))
end Go.Fw
namespace Go.Fw
open Go Go.RowKit
section
variable {P : Program} {n : Nat} {Q : Exit → Act → World → Prop} {w0 : World} {L : Z123} {M E R : List Ent}
variable {ops : Array Oper} {hard : List Nat} {f : Nat} {done : Array Bool} {op : Op} {ty : TypeId} {pos : String} {aft : Array Edge} {g : Option (Nat × Bool)} {d : Nat} {v : Value}
theorem NV.boxA {x : Operand} {e : TypeId} {vs : List Value} (hx : ev L x = some (.agg vs.toArray)) : NV P w0 L M (.box e x) (fun b => ptr (some b) 0) vs e := fun ρ w hρ m o ho => by
 simp [execOp, ho, hρ x _ hx, Instr.box, newVar, newRow, ptr, blk, Value.cells]
end
end Go.Fw
namespace Go.Fw
open Go
theorem Mem.chunk {w0 w : World} {M M' : List Ent} (m : Mem w0 w M) (Cs : List (List Ent)) (is : List Nat) (h : (is ++ (List.range Cs.length).filter fun i => !is.contains i).isPerm (List.range Cs.length) = true) (e1 : M = Cs.flatten) (e2 : (is.map fun i => Cs.getD i []).flatten = M') : Mem w0 w M' := by
 subst e2
 rw [e1] at m
 have e : Cs = (List.range Cs.length).map fun i => Cs.getD i [] := by
  apply List.ext_getElem
  ·simp
  ·intro i h1 h2
   simp [List.getD_eq_getElem?_getD, List.getElem?_eq_getElem h1]
 have hp := (List.isPerm_iff.1 h).map (fun i => Cs.getD i [])
 rw [← e, List.map_append] at hp
 have m2 := m.perm hp.symm.flatten
 rw [List.flatten_append] at m2
 exact m2.appL
inductive Ow where
 | mk (list : Bool) (ob : Option Nat) (data : List (BitVec 8)) (r : List Value) (cap : Nat) (oi : Option Nat) (ci : Nat) (ri : List Value) (its : List Ow)
def Ow.cs : Ow → List Value
 | .mk l ob d r c oi ci ri its => [.bool l, sl ob 0 d.length c, sl oi 0 its.length ci]
def Ows.cs (l : List Ow) : List Value := l.flatMap Ow.cs
mutual
def Ow.it : Ow → It
 | .mk l ob d r c oi ci ri its => .mk l d (Ows.it its)
def Ows.it : List Ow → List It
 | [] => []
 | o :: r => o.it :: Ows.it r
end
mutual
def Ow.ents (t : TypeId) : Ow → List Ent
 | .mk l ob d r c oi ci ri its => (ob, blk (u8s d ++ r) 5) :: (oi, blk (Ows.cs its ++ ri) t) :: Ows.ents t its
def Ows.ents (t : TypeId) : List Ow → List Ent
 | [] => []
 | o :: r => o.ents t ++ Ows.ents t r
end
mutual
def Ow.Ok : Ow → Prop
 | .mk l ob d r c oi ci ri its => OwnS ob d.length c 1 (u8s d) r ∧ OwnS oi its.length ci 3 (Ows.cs its) ri ∧ Ows.Ok its
def Ows.Ok : List Ow → Prop
 | [] => True
 | o :: r => o.Ok ∧ Ows.Ok r
end
theorem Ow.cs_length (o : Ow) : o.cs.length = 3 := by cases o; rfl
theorem Ow.cs_one (o : Ow) : ∀ u ∈ o.cs, u.oneCell' = true := by
 cases o; intro u hu; simp [Ow.cs] at hu; rcases hu with rfl | rfl | rfl <;> rfl
theorem Ows.cs_length (l : List Ow) : (Ows.cs l).length = l.length * 3 := by
 induction l with
 | nil => rfl
 | cons o r ih => simp only [Ows.cs, List.flatMap_cons, List.length_append, Ow.cs_length, List.length_cons] at *; omega
theorem Ows.cs_one (l : List Ow) : ∀ u ∈ Ows.cs l, u.oneCell' = true := by
 intro u hu
 obtain ⟨o, _, h⟩ := List.mem_flatMap.1 hu
 exact o.cs_one u h
theorem Ows.cs_app (a b : List Ow) : Ows.cs (a ++ b) = Ows.cs a ++ Ows.cs b := List.flatMap_append ..
theorem Ows.cs_sing (o : Ow) : Ows.cs [o] = o.cs := by simp [Ows.cs]
theorem Ows.it_app (a b : List Ow) : Ows.it (a ++ b) = Ows.it a ++ Ows.it b := by
 induction a with
 | nil => simp [Ows.it]
 | cons o r ih => simp [Ows.it, ih]
theorem Ows.it_length (l : List Ow) : (Ows.it l).length = l.length := by
 induction l with
 | nil => simp [Ows.it]
 | cons o r ih => simp [Ows.it, ih]
theorem Ows.ents_app (t : TypeId) (a b : List Ow) : Ows.ents t (a ++ b) = Ows.ents t a ++ Ows.ents t b := by
 induction a with
 | nil => simp [Ows.ents]
 | cons o r ih => simp [Ows.ents, ih]
theorem Ows.Ok_app {a b : List Ow} : Ows.Ok (a ++ b) ↔ Ows.Ok a ∧ Ows.Ok b := by
 induction a with
 | nil => simp [Ows.Ok]
 | cons o r ih => simp [Ows.Ok, ih, and_assoc]
mutual
theorem Ow.rd {w0 : World} {Φ : Ctx} {t : TypeId} : ∀ (o : Ow), o.Ok → (∀ w, Φ w → Mem w0 w (o.ents t)) → ItRd Φ o.cs o.it
 | .mk l ob d r c oi ci ri its, h, hm => by
  rw [Ow.Ok] at h
  obtain ⟨h1, h2, h3⟩ := h
  rw [Ow.it]
  have e : (Ows.it its).length = its.length := Ows.it_length its
  show ItRd Φ [.bool l, sl ob 0 d.length c, sl oi 0 its.length ci] _
  rw [← e]
  refine ItRd.mk (h1.view (te := 5) (w0 := w0) (by decide) (fun w q => ?_)) (cells := Ows.cs its) (by rw [e]; exact h2.view (te := t) (w0 := w0) (by decide) (fun w q => by have := hm w q; rw [Ow.ents] at this; exact this.tail.sublist (List.singleton_sublist.2 (List.mem_cons_self ..)))) (Ows.rd (w0 := w0) (t := t) its h3 (fun w q => ?_))
  ·have := hm w q; rw [Ow.ents] at this; exact this.sublist (List.singleton_sublist.2 (List.mem_cons_self ..))
  ·have := hm w q; rw [Ow.ents] at this; exact this.tail.tail
theorem Ows.rd {w0 : World} {Φ : Ctx} {t : TypeId} : ∀ (l : List Ow), Ows.Ok l → (∀ w, Φ w → Mem w0 w (Ows.ents t l)) → Reps (ItRd Φ) (Ows.cs l) (Ows.it l)
 | [], _, _ => Reps.nil
 | o :: r, h, hm => by
  rw [Ows.Ok] at h
  rw [Ows.it]
  exact Reps.cons (Ow.rd o h.1 (fun w q => by have := hm w q; rw [Ows.ents] at this; exact this.appL)) (Ows.rd r h.2 (fun w q => by have := hm w q; rw [Ows.ents] at this; exact this.appR))
end
theorem u8s_set_app (l : List (BitVec 8)) (r : List Value) {i : Nat} (h : i < l.length) (v : BitVec 8) : (u8s l ++ r).set i (U8 v) = u8s (l.set i v) ++ r := by
 rw [List.set_append_left _ _ (by rw [Z101]; exact h), u8s_set']
theorem OwnS.some_of {ob : Option Nat} {len cap s : Nat} {cells r : List Value} (h : OwnS ob len cap s cells r) (hs : 0 < s) {i : Nat} (hi : i < len) : ob.isSome = true := by
 cases ob with
 | none => have h1 := h.hn rfl; have h2 := h.le hs; omega
 | some b => rfl
theorem Ows.it_mem {l : List Ow} {x : Ow} (h : x ∈ l) : x.it ∈ Ows.it l := by
 induction l with
 | nil => cases h
 | cons a r ih =>
  rw [Ows.it]
  rcases List.mem_cons.1 h with rfl | h
  ·exact List.mem_cons_self ..
  ·exact List.mem_cons_of_mem _ (ih h)
end Go.Fw
namespace Go.Fw
theorem Its.len_wt : ∀ l : List It, l.length ≤ Its.wt l
 | [] => by simp
 | x :: l => by
  have := Its.len_wt l
  have := It.wt_eq x
  simp only [Its.wt, List.length_cons]; omega
theorem Its.wt_items {l : List It} {x : It} (h : x ∈ l) : Its.wt x.items ≤ Its.wt l := by
 have := Its.wt_mem h
 have := It.wt_eq x
 omega
theorem Its.sz_items {l : List It} {x : It} (h : x ∈ l) : Its.sz x.items < Its.sz l := by
 have := Z133 h
 have := It.sz_eq x
 omega
theorem twin_loop (a : List It) (rc : List It → Option (List It)) (ha : a.length ≤ 2147483647) (hrc : ∀ x ∈ a, rc x.items = some x.items) : ∀ (d i k : Nat) (l : List It), i + d = a.length → d < k → l = a.take i → rlp_twin.l1 a rc k l i = some a
 | 0, i, k, l, h, hk, hl => by
  obtain ⟨k, rfl⟩ : ∃ m, k = m + 1 := ⟨k - 1, by omega⟩
  rw [rlp_twin.l1, if_neg (by omega), hl, List.take_of_length_le (by omega)]
 | d + 1, i, k, l, h, hk, hl => by
  obtain ⟨k, rfl⟩ : ∃ m, k = m + 1 := ⟨k - 1, by omega⟩
  have h1 : i < a.length := by omega
  have h5 : l.length = i := by rw [hl, List.length_take]; omega
  rw [rlp_twin.l1, if_pos h1, List.getElem?_eq_getElem h1, Zb, rlp_clone, Zb, hrc _ (List.getElem_mem h1), Zb, if_pos (by simp only [List.length_cons, List.length_nil]; omega), ← It.eta]
  exact twin_loop a rc ha hrc d (i + 1) k _ (by omega) (by omega) (by rw [List.take_add_one, List.getElem?_eq_getElem h1, hl]; rfl)
theorem twin_r : ∀ (k : Nat) (a : List It), Its.sz a < k → Its.wt a ≤ 2147483647 → rlp_twin.r k a = some a
 | 0, a, h, _ => by omega
 | k + 1, a, h, hw => by
  rw [rlp_twin.r, twin_loop a _ (by have := Its.len_wt a; omega) (fun x hx => twin_r k x.items (by have := Its.sz_items hx; omega) (by have := Its.wt_items hx; omega)) a.length 0 _ _ (by omega) (by omega) (by simp), Zb]
theorem twin_eq {a : List It} (h : Its.wt a ≤ 2147483647) : rlp_twin a = some a := twin_r _ a (by omega) h
theorem Same_data (x : It) : ∀ (d i k : Nat), i + d = x.data.length → d < k → waybillref07_Same.l2 x x k i = some (Lp.go ())
 | 0, i, k, h, hk => by
  obtain ⟨k, rfl⟩ : ∃ m, k = m + 1 := ⟨k - 1, by omega⟩
  rw [waybillref07_Same.l2, if_neg (by omega)]
 | d + 1, i, k, h, hk => by
  obtain ⟨k, rfl⟩ : ∃ m, k = m + 1 := ⟨k - 1, by omega⟩
  have h1 : i < x.data.length := by omega
  rw [waybillref07_Same.l2, if_pos h1, List.getElem?_eq_getElem h1, Zb, Zb, if_pos rfl]
  exact Same_data x d (i + 1) k (by omega) (by omega)
theorem Same_items (x : It) (rc : It → It → Option Bool) (hrc : ∀ y ∈ x.items, rc y y = some true) : ∀ (d i k : Nat), i + d = x.items.length → d < k → waybillref07_Same.l1 x x rc k i = some (Lp.go ())
 | 0, i, k, h, hk => by
  obtain ⟨k, rfl⟩ : ∃ m, k = m + 1 := ⟨k - 1, by omega⟩
  rw [waybillref07_Same.l1, if_neg (by omega)]
 | d + 1, i, k, h, hk => by
  obtain ⟨k, rfl⟩ : ∃ m, k = m + 1 := ⟨k - 1, by omega⟩
  have h1 : i < x.items.length := by omega
  rw [waybillref07_Same.l1, if_pos h1, List.getElem?_eq_getElem h1, Zb, Zb, hrc _ (List.getElem_mem h1), Zb, if_pos rfl]
  exact Same_items x rc hrc d (i + 1) k (by omega) (by omega)
theorem Same_r : ∀ (k : Nat) (x : It), x.sz < k → waybillref07_Same.r k x x = some true
 | 0, x, h => by omega
 | k + 1, x, h => by
  rw [waybillref07_Same.r, if_pos rfl, if_pos rfl, Zb, if_neg (by simp), Same_data x x.data.length 0 _ (by omega) (by omega), Zb]
  try dsimp only
  rw [Same_items x _ (fun y hy => Same_r k y (by have := Z133 hy; have := It.sz_eq x; omega)) x.items.length 0 _ (by omega) (by omega), Zb]
theorem Same_refl (x : It) : waybillref07_Same x x = some true := Same_r _ x (by omega)
theorem text_eq (x : List (BitVec 8)) : rlp_Text x = some (.mk false x []) := by unfold rlp_Text; rw [rlp_clone, Zb]
end Go.Fw
namespace Go.Fw
def oneB (d : List (BitVec 8)) : Bool := decide (d.length = 1) && small d 0
mutual
def It.enc : It → List (BitVec 8)
 | .mk l d its => if l = true then headB 192 (Its.enc its).length ++ Its.enc its else if oneB d = true then d else headB 128 d.length ++ d
def Its.enc : List It → List (BitVec 8)
 | [] => []
 | x :: xs => It.enc x ++ Its.enc xs
end
mutual
def It.good : It → Prop
 | .mk l d its => (l = true → d = []) ∧ (l = false → its = []) ∧ Its.good its
def Its.good : List It → Prop
 | [] => True
 | x :: xs => It.good x ∧ Its.good xs
end
mutual
def It.w9 : It → Nat
 | .mk _ d its => 9 + d.length + Its.w9 its
def Its.w9 : List It → Nat
 | [] => 0
 | x :: xs => It.w9 x + Its.w9 xs
end
mutual
def It.dep : It → Nat
 | .mk l _ its => if l = true then Its.dep its + 1 else 0
def Its.dep : List It → Nat
 | [] => 0
 | x :: xs => max (It.dep x) (Its.dep xs)
end
theorem It.enc_eq (x : It) : x.enc = if x.list = true then headB 192 (Its.enc x.items).length ++ Its.enc x.items else if oneB x.data = true then x.data else headB 128 x.data.length ++ x.data := by
 cases x; rw [It.enc]; rfl
theorem It.good_eq (x : It) : x.good ↔ (x.list = true → x.data = []) ∧ (x.list = false → x.items = []) ∧ Its.good x.items := by cases x; rw [It.good]; rfl
theorem It.w9_eq (x : It) : x.w9 = 9 + x.data.length + Its.w9 x.items := by cases x; rw [It.w9]; rfl
theorem It.dep_eq (x : It) : x.dep = if x.list = true then Its.dep x.items + 1 else 0 := by cases x; rw [It.dep]; rfl
theorem Its.good_mem : ∀ {l : List It}, Its.good l → ∀ x ∈ l, It.good x
 | [], _, x, hx => by cases hx
 | y :: l, h, x, hx => by
  simp only [Its.good] at h
  rcases List.mem_cons.1 hx with rfl | hx
  ·exact h.1
  ·exact Its.good_mem h.2 x hx
theorem Its.w9_mem : ∀ {l : List It} {x : It}, x ∈ l → It.w9 x ≤ Its.w9 l
 | y :: l, x, hx => by
  simp only [Its.w9]
  rcases List.mem_cons.1 hx with rfl | hx
  ·omega
  ·have := Its.w9_mem hx; omega
theorem Its.dep_mem : ∀ {l : List It} {x : It}, x ∈ l → It.dep x ≤ Its.dep l
 | y :: l, x, hx => by
  simp only [Its.dep]
  rcases List.mem_cons.1 hx with rfl | hx
  ·omega
  ·have := Its.dep_mem hx; omega
theorem Its.dep_drop {l : List It} {i : Nat} (h : i < l.length) : Its.dep (l.drop i) = max (It.dep l[i]) (Its.dep (l.drop (i + 1))) := by rw [drop_cons_at h, Its.dep]
theorem Its.enc_drop {l : List It} {i : Nat} (h : i < l.length) : Its.enc (l.drop i) = It.enc l[i] ++ Its.enc (l.drop (i + 1)) := by rw [drop_cons_at h, Its.enc]
mutual
theorem It.wt_w9 : ∀ x : It, x.wt + 1 ≤ x.w9
 | .mk l d its => by
  have := Its.wt_w9 its
  simp only [It.wt, It.w9]; omega
theorem Its.wt_w9 : ∀ l : List It, Its.wt l + l.length ≤ Its.w9 l
 | [] => by simp [Its.wt, Its.w9]
 | x :: l => by
  have := It.wt_w9 x
  have := Its.wt_w9 l
  simp only [Its.wt, Its.w9, List.length_cons]; omega
end
theorem oneB_len {d : List (BitVec 8)} (h : oneB d = true) : d.length = 1 ∧ small d 0 = true := by
 unfold oneB at h
 simpa using h
theorem odd_good {x : It} (h : x.good) : rlp_odd x = some false := by
 have h := (It.good_eq x).1 h
 unfold rlp_odd
 by_cases hl : x.list = true
 ·rw [if_pos hl, h.1 hl, if_neg (by simp), if_pos hl]; rfl
 ·rw [if_neg hl, if_neg hl, h.2.1 (by simpa using hl)]; rfl
theorem sound_loop (x : It) (rc : It → Option (Nat × Bool)) (hrc : ∀ y ∈ x.items, rc y = some (y.dep, true)) : ∀ (d i k m : Nat), i + d = x.items.length → d < k → rlp_sound.l1 x rc k m i = some (Lp.go (max m (Its.dep (x.items.drop i))))
 | 0, i, k, m, h, hk => by
  obtain ⟨k, rfl⟩ : ∃ m, k = m + 1 := ⟨k - 1, by omega⟩
  rw [rlp_sound.l1, if_neg (by omega), List.drop_of_length_le (by omega), Its.dep, Nat.max_zero]
 | d + 1, i, k, m, h, hk => by
  obtain ⟨k, rfl⟩ : ∃ m, k = m + 1 := ⟨k - 1, by omega⟩
  have h1 : i < x.items.length := by omega
  rw [rlp_sound.l1, if_pos h1, get0' h1, Zb, hrc _ (List.getElem_mem h1), Zb]
  try dsimp only
  rw [if_pos rfl, sound_loop x rc hrc d (i + 1) k _ (by omega) (by omega), Its.dep_drop h1, Nat.max_assoc]
where
 get0' {α : Type} {s : List α} {i : Nat} (h : i < s.length) : s[i]? = some s[i] := List.getElem?_eq_getElem h
theorem sound_r : ∀ (k : Nat) (x : It), x.sz < k → x.good → x.dep ≤ 4611686018427387904 → rlp_sound.r k x = some (x.dep, true)
 | 0, x, h, _, _ => by omega
 | k + 1, x, h, hg, hd => by
  have hg' := (It.good_eq x).1 hg
  have hs := It.sz_eq x
  rw [rlp_sound.r, odd_good hg, Zb, if_neg (by simp)]
  rw [It.dep_eq] at hd ⊢
  by_cases hl : x.list = true
  ·rw [if_pos hl] at hd
   rw [if_pos hl, if_pos hl, sound_loop x _ (fun y hy => sound_r k y (by have := Z133 hy; omega) (Its.good_mem hg'.2.2 y hy) (by have := Its.dep_mem hy; omega)) x.items.length 0 _ 0 (by omega) (by omega), Zb]
   try dsimp only
   rw [List.drop_zero, Nat.zero_max, if_pos (by omega)]
  ·rw [if_neg hl, if_neg hl]
theorem sound_eq {x : It} (hg : x.good) (hd : x.dep ≤ 4611686018427387904) : rlp_sound x = some (x.dep, true) := sound_r _ x (by omega) hg hd
theorem oneB_get {d : List (BitVec 8)} (h : d.length = 1) : ∃ x, d[0]? = some x ∧ oneB d = decide (x.toNat < 128) := by
 refine ⟨d[0], List.getElem?_eq_getElem (by omega), ?_⟩
 unfold oneB small
 rw [List.getElem?_eq_getElem (by omega)]
 simp [h]
theorem oneB_no {d : List (BitVec 8)} (h : d.length ≠ 1) : oneB d = false := by unfold oneB; simp [h]
end Go.Fw
namespace Go.Fw
theorem rodd_good {x : It} (h : x.good) : waybillref07_odd x = some false := by
 have h := (It.good_eq x).1 h
 unfold waybillref07_odd
 by_cases hl : x.list = true
 ·rw [if_pos hl, h.1 hl]; rfl
 ·rw [if_neg hl, h.2.1 (by simpa using hl)]; rfl
theorem oddly_loop (x : It) (rc : It → Option Bool) (hrc : ∀ y ∈ x.items, rc y = some false) : ∀ (d i k : Nat), i + d = x.items.length → d < k → waybillref07_oddly.l1 x rc k i = some (Lp.go ())
 | 0, i, k, h, hk => by
  obtain ⟨k, rfl⟩ : ∃ m, k = m + 1 := ⟨k - 1, by omega⟩
  rw [waybillref07_oddly.l1, if_neg (by omega)]
 | d + 1, i, k, h, hk => by
  obtain ⟨k, rfl⟩ : ∃ m, k = m + 1 := ⟨k - 1, by omega⟩
  have h1 : i < x.items.length := by omega
  rw [waybillref07_oddly.l1, if_pos h1, List.getElem?_eq_getElem h1, Zb, hrc _ (List.getElem_mem h1), Zb, if_neg (by simp)]
  exact oddly_loop x rc hrc d (i + 1) k (by omega) (by omega)
theorem oddly_good : ∀ (k : Nat) (x : It), x.sz < k → x.good → waybillref07_oddly.r k x = some false
 | 0, x, h, _ => by omega
 | k + 1, x, h, hg => by
  have hs := It.sz_eq x
  have hg' := (It.good_eq x).1 hg
  rw [waybillref07_oddly.r, rodd_good hg, Zb, if_neg (by simp), oddly_loop x _ (fun y hy => oddly_good k y (by have := Z133 hy; omega) (Its.good_mem hg'.2.2 y hy)) x.items.length 0 _ (by omega) (by omega), Zb]
theorem depth_loop (x : It) (rc : It → Option Nat) (hrc : ∀ y ∈ x.items, rc y = some y.dep) : ∀ (d i k m : Nat), i + d = x.items.length → d < k → waybillref07_depth.l1 x rc k m i = some (max m (Its.dep (x.items.drop i)))
 | 0, i, k, m, h, hk => by
  obtain ⟨k, rfl⟩ : ∃ m, k = m + 1 := ⟨k - 1, by omega⟩
  rw [waybillref07_depth.l1, if_neg (by omega), List.drop_of_length_le (by omega), Its.dep, Nat.max_zero]
 | d + 1, i, k, m, h, hk => by
  obtain ⟨k, rfl⟩ : ∃ m, k = m + 1 := ⟨k - 1, by omega⟩
  have h1 : i < x.items.length := by omega
  rw [waybillref07_depth.l1, if_pos h1, List.getElem?_eq_getElem h1, Zb, hrc _ (List.getElem_mem h1), Zb, depth_loop x rc hrc d (i + 1) k _ (by omega) (by omega), Its.dep_drop h1, Nat.max_assoc]
theorem depth_r : ∀ (k : Nat) (x : It), x.sz < k → x.dep ≤ 4611686018427387904 → waybillref07_depth.r k x = some x.dep
 | 0, x, h, _ => by omega
 | k + 1, x, h, hd => by
  have hs := It.sz_eq x
  rw [It.dep_eq] at hd ⊢
  rw [waybillref07_depth.r]
  by_cases hl : x.list = true
  ·rw [if_pos hl] at hd
   rw [if_pos hl, if_pos hl, depth_loop x _ (fun y hy => depth_r k y (by have := Z133 hy; omega) (by have := Its.dep_mem hy; omega)) x.items.length 0 _ 0 (by omega) (by omega), Zb, List.drop_zero, Nat.zero_max, if_pos (by omega), Nat.add_comm]
  ·rw [if_neg hl, if_neg hl]
theorem headB_len (n : Nat) : (headB 128 n).length = (headB 192 n).length := by unfold headB; split <;> simp
end Go.Fw
namespace Go.Fw
def isT (x : It) : Bool := !x.list && decide (x.items.length = 0)
def isL (x : It) : Bool := x.list && decide (x.data.length = 0)
theorem isT_iff {x : It} : isT x = true ↔ x = It.mk false x.data [] := by
 obtain ⟨l, d, it⟩ := x
 cases l <;> simp [isT, It.list, It.data, It.items]
theorem isL_iff {x : It} : isL x = true ↔ x = It.mk true [] x.items := by
 obtain ⟨l, d, it⟩ := x
 cases l <;> simp [isL, It.list, It.data, It.items]
theorem kind_spec (x : It) : (∃ e, rlp_kind x false = some e ∧ (e = 0 ↔ isT x = true)) ∧ ∃ e, rlp_kind x true = some e ∧ (e = 0 ↔ isL x = true) := by
 obtain ⟨l, d, it⟩ := x
 unfold rlp_kind rlp_odd isT isL
 cases l
 ·cases it with
  | nil => refine ⟨⟨0, ?_, ?_⟩, ⟨75, ?_, ?_⟩⟩ <;> simp [It.list, It.data, It.items]
  | cons a it => refine ⟨⟨78, ?_, ?_⟩, ⟨78, ?_, ?_⟩⟩ <;> simp [It.list, It.data, It.items]
 ·cases d with
  | nil => refine ⟨⟨75, ?_, ?_⟩, ⟨0, ?_, ?_⟩⟩ <;> simp [It.list, It.data, It.items]
  | cons a d => refine ⟨⟨78, ?_, ?_⟩, ⟨78, ?_, ?_⟩⟩ <;> simp [It.list, It.data, It.items]
theorem Z142 (r : Rdr) (x : It) (n : Int) : waybill_receipt_reader_text r x n = some (if r.err = 0 then if isT x = true ∧ (n < 0 ∨ (x.data.length : Int) = n) then (x.data, r) else ([], ⟨172⟩) else ([], r)) := by
 unfold waybill_receipt_reader_text
 by_cases h0 : r.err = 0
 ·rw [if_pos h0, if_pos h0]
  obtain ⟨⟨e, h1, h2⟩, _⟩ := kind_spec x
  unfold rlp_GetText
  rw [h1, Zb]
  by_cases he : e = 0
  ·have ht := h2.1 he
   subst he
   rw [if_pos rfl, rlp_clone, Zb, Zb]
   dsimp only
   rw [if_pos rfl]
   by_cases hn : (0 : Int) ≤ n
   ·rw [if_pos hn, Zb]
    by_cases hl : (x.data.length : Int) = n
    ·rw [if_neg (by simp [hl]), if_pos ⟨ht, .inr hl⟩]
    ·rw [if_pos (by simp [hl]), if_neg (fun h => h.2.elim (fun h => by omega) hl), refuse_eq, Zb, if_pos h0]
   ·rw [if_neg hn, Zb, if_neg (by decide), if_pos ⟨ht, .inl (by omega)⟩]
  ·rw [if_neg he, Zb]
   dsimp only
   rw [if_neg he, Zb, if_pos rfl, if_neg (fun h => he (h2.2 h.1)), refuse_eq, Zb, if_pos h0]
 ·rw [if_neg h0, if_neg h0]
theorem list_spec (r : Rdr) (x : It) (hw : Its.wt x.items ≤ 2147483647) : waybill_receipt_reader_list r x = some (if r.err = 0 then if isL x = true then (x.items, r) else ([], ⟨172⟩) else ([], r)) := by
 unfold waybill_receipt_reader_list
 by_cases h0 : r.err = 0
 ·rw [if_pos h0, if_pos h0]
  obtain ⟨_, ⟨e, h1, h2⟩⟩ := kind_spec x
  unfold rlp_GetList
  rw [h1, Zb]
  by_cases he : e = 0
  ·have ht := h2.1 he
   subst he
   rw [if_pos rfl, twin_eq hw, Zb, Zb]
   dsimp only
   rw [if_pos rfl, Zb, if_pos ht]
  ·rw [if_neg he, Zb]
   dsimp only
   rw [if_neg he, refuse_eq, Zb, Zb, if_neg (fun h => he (h2.2 h)), if_pos h0]
 ·rw [if_neg h0, if_neg h0]
def tIt (d : List (BitVec 8)) : It := It.mk false d []
theorem isT_tIt (d : List (BitVec 8)) : isT (tIt d) = true := by simp [isT, tIt, It.list, It.items]
theorem toVec_full {n : Nat} {l : List (BitVec 8)} (h : l.length = n) : ∃ v : Vector (BitVec 8) n, toVec n l = some v ∧ v.toList = l := by
 obtain ⟨x, hx⟩ := toVec_some (n := n) (l := l) (by omega)
 refine ⟨x, hx, ?_⟩
 rw [(toVec_list hx).1, List.take_of_length_le (by omega)]
theorem topicsF_bad : ∀ (its : List It) (r : Rdr) (l : List (Vector (BitVec 8) 32)), r.err ≠ 0 → rtopicsF r l its = some (l, r)
 | [], r, l, h => rfl
 | it :: its, r, l, h => by
  rw [rtopicsF, Z142, if_neg h, Zb]
  dsimp only
  rw [if_neg h]
  exact topicsF_bad its r l h
theorem topicsF_char : ∀ (its : List It) (l : List (Vector (BitVec 8) 32)), (l.length + its.length) * 32 ≤ 140737488355328 →
    ∃ ts r, rtopicsF ⟨0⟩ l its = some (ts, r) ∧ ((r = ⟨0⟩ ∧ ∃ hs, ts = l ++ hs ∧ its = hs.map (fun h => tIt h.toList)) ∨ (r = ⟨172⟩ ∧ ¬ ∃ hs : List (Vector (BitVec 8) 32), its = hs.map (fun h => tIt h.toList)))
 | [], l, h => ⟨l, ⟨0⟩, rfl, .inl ⟨rfl, [], by simp, rfl⟩⟩
 | it :: its, l, h => by
  rw [List.length_cons] at h
  rw [rtopicsF, Z142, if_pos rfl, Zb]
  by_cases hc : isT it = true ∧ ((32 : Int) < 0 ∨ (it.data.length : Int) = 32)
  ·rw [if_pos hc]
   dsimp only
   rw [if_pos rfl, if_pos (by omega)]
   obtain ⟨v, hv, hvl⟩ := toVec_full (n := 32) (l := it.data) (by omega)
   rw [hv, Zb]
   have e1 : it = tIt v.toList := by rw [hvl]; exact isT_iff.1 hc.1
   obtain ⟨ts, r, h1, h2⟩ := topicsF_char its (l ++ [v]) (by rw [List.length_append, List.length_singleton]; omega)
   refine ⟨ts, r, h1, ?_⟩
   rcases h2 with ⟨h3, hs, h4, h5⟩ | ⟨h3, h4⟩
   ·exact .inl ⟨h3, v :: hs, by rw [h4]; simp, by rw [List.map_cons, ← h5, ← e1]⟩
   ·refine .inr ⟨h3, fun ⟨hs, h5⟩ => h4 ?_⟩
    cases hs with
    | nil => cases h5
    | cons x hs => rw [List.map_cons] at h5; exact ⟨hs, (List.cons.inj h5).2⟩
  ·rw [if_neg hc]
   dsimp only
   rw [if_neg (by decide), topicsF_bad _ _ _ (by decide)]
   refine ⟨_, _, rfl, .inr ⟨rfl, fun ⟨hs, h5⟩ => hc ?_⟩⟩
   cases hs with
   | nil => cases h5
   | cons x hs =>
    rw [List.map_cons] at h5
    rw [(List.cons.inj h5).1]
    exact ⟨isT_tIt _, .inr (by show ((x.toList.length : Nat) : Int) = 32; rw [Zv]; rfl)⟩
def logIt (x : Log) : It := It.mk true [] [tIt x.address.toList, It.mk true [] (x.topics.map fun h => tIt h.toList), tIt x.data]
theorem tIt_inj {a b : List (BitVec 8)} (h : tIt a = tIt b) : a = b := by injection h
theorem map_tIt_inj {n : Nat} : ∀ {a b : List (Vector (BitVec 8) n)}, a.map (fun h => tIt h.toList) = b.map (fun h => tIt h.toList) → a = b
 | [], [], _ => rfl
 | [], _ :: _, h => by cases h
 | _ :: _, [], h => by cases h
 | x :: a, y :: b, h => by
  rw [List.map_cons, List.map_cons] at h
  obtain ⟨h1, h2⟩ := List.cons.inj h
  rw [Vector.toList_inj.1 (tIt_inj h1), map_tIt_inj h2]
theorem logIt_inj {a b : Log} (h : logIt a = logIt b) : a = b := by
 obtain ⟨a1, a2, a3⟩ := a
 obtain ⟨b1, b2, b3⟩ := b
 unfold logIt at h
 injection h with _ _ h
 obtain ⟨h1, h⟩ := List.cons.inj h
 obtain ⟨h2, h⟩ := List.cons.inj h
 obtain ⟨h3, _⟩ := List.cons.inj h
 injection h2 with _ _ h2
 have e1 : a1 = b1 := Vector.toList_inj.1 (tIt_inj h1)
 have e2 : a2 = b2 := map_tIt_inj h2
 have e3 : a3 = b3 := tIt_inj h3
 rw [e1, e2, e3]
def IsLog (it : It) (x : Log) : Prop := it = logIt x ∧ x.topics.length ≤ 4
theorem parselog_char (it : It) (hw : it.wt ≤ 2147483647) : ∃ x e, receipt_ParseLog it = some (x, e) ∧ ((e = 0 ∧ IsLog it x) ∨ (e ≠ 0 ∧ x = Log.zero ∧ ∀ y, ¬ IsLog it y)) := by
 have hwt := It.wt_eq it
 unfold receipt_ParseLog
 rw [list_spec _ _ (by omega), if_pos rfl, Zb]
 by_cases hL : isL it = true
 ·rw [if_pos hL]
  dsimp only
  have eit := isL_iff.1 hL
  by_cases h3 : it.items.length = 3
  ·rw [if_pos ⟨rfl, h3⟩]
   obtain ⟨x0, x1, x2, hi⟩ : ∃ x0 x1 x2, it.items = [x0, x1, x2] := by
    match h : it.items, h3 with
    | [a, b, c], _ => exact ⟨a, b, c, rfl⟩
   rw [hi] at hwt ⊢
   have w1 : Its.wt x1.items ≤ 2147483647 := by
    have h1 := It.wt_eq x1
    have h2 := Its.wt_mem (l := [x0, x1, x2]) (x := x1) (by simp)
    omega
   simp only [List.getElem?_cons_zero, List.getElem?_cons_succ, Zb]
   rw [Z142, if_pos rfl, Zb]
   have notlog : ∀ y, IsLog it y → x0 = tIt y.address.toList ∧ x1 = It.mk true [] (y.topics.map fun h => tIt h.toList) ∧ x2 = tIt y.data ∧ y.topics.length ≤ 4 := fun y ⟨h1, h2⟩ => by
    have h5 : it.items = (logIt y).items := by rw [h1]
    rw [hi] at h5
    have h6 : [x0, x1, x2] = [tIt y.address.toList, It.mk true [] (y.topics.map fun h => tIt h.toList), tIt y.data] := h5
    simp only [List.cons.injEq, and_true] at h6
    exact ⟨h6.1, h6.2.1, h6.2.2, h2⟩
   by_cases hc0 : isT x0 = true ∧ ((20 : Int) < 0 ∨ (x0.data.length : Int) = 20)
   ·rw [if_pos hc0]
    dsimp only
    rw [if_pos rfl]
    obtain ⟨ad, had, hadl⟩ := toVec_full (n := 20) (l := x0.data) (by omega)
    rw [had, Zb]
    unfold rtopics
    rw [list_spec _ _ w1, if_pos rfl, Zb]
    have e0 : x0 = tIt ad.toList := by rw [hadl]; exact isT_iff.1 hc0.1
    by_cases hL1 : isL x1 = true
    ·rw [if_pos hL1]
     dsimp only
     have hlen : x1.items.length ≤ 2147483647 := Nat.le_trans (Its.len_wt _) w1
     obtain ⟨ts, r, h1, h2⟩ := topicsF_char x1.items [] (by simp; omega)
     rw [h1, Zb]
     dsimp only
     rcases h2 with ⟨rfl, hs, h4, h5⟩ | ⟨rfl, h4⟩
     ·rw [List.nil_append] at h4
      subst h4
      rw [Z142, if_pos rfl, Zb]
      by_cases hc2 : isT x2 = true
      ·rw [if_pos (show isT x2 = true ∧ ((-1 : Int) < 0 ∨ (x2.data.length : Int) = -1) from ⟨hc2, .inl (by decide)⟩)]
       dsimp only
       rw [if_pos rfl]
       have e2 := isT_iff.1 hc2
       have e1 : x1 = It.mk true [] (ts.map fun h => tIt h.toList) := by rw [← h5]; exact isL_iff.1 hL1
       have elog : it = logIt ⟨ad, ts, x2.data⟩ := by
        rw [eit, hi, e0, e1]
        show It.mk true [] [tIt ad.toList, It.mk true [] _, x2] = It.mk true [] [tIt ad.toList, It.mk true [] _, tIt x2.data]
        rw [show tIt x2.data = x2 from e2.symm]
       by_cases h4 : 4 < ts.length
       ·rw [if_pos h4]
        refine ⟨_, _, rfl, .inr ⟨by decide, rfl, fun y hy => ?_⟩⟩
        have := logIt_inj (elog.symm.trans hy.1)
        have h6 := hy.2
        rw [← this] at h6
        exact absurd h6 (by show ¬ ts.length ≤ 4; omega)
       ·rw [if_neg h4]
        exact ⟨_, _, rfl, .inl ⟨rfl, elog, by show ts.length ≤ 4; omega⟩⟩
      ·rw [if_neg (show ¬ (isT x2 = true ∧ ((-1 : Int) < 0 ∨ (x2.data.length : Int) = -1)) from fun h => hc2 h.1)]
       dsimp only
       rw [if_neg (by decide)]
       exact ⟨_, _, rfl, .inr ⟨by decide, rfl, fun y hy => hc2 (by rw [(notlog y hy).2.2.1]; exact isT_tIt _)⟩⟩
     ·rw [Z142, if_neg (by decide), Zb]
      dsimp only
      rw [if_neg (by decide)]
      exact ⟨_, _, rfl, .inr ⟨by decide, rfl, fun y hy => h4 ⟨y.topics, by rw [(notlog y hy).2.1]; rfl⟩⟩⟩
    ·rw [if_neg hL1]
     dsimp only
     rw [rtopicsF, Zb]
     dsimp only
     rw [Z142, if_neg (by decide), Zb]
     dsimp only
     rw [if_neg (by decide)]
     exact ⟨_, _, rfl, .inr ⟨by decide, rfl, fun y hy => hL1 (by rw [(notlog y hy).2.1]; rfl)⟩⟩
   ·rw [if_neg hc0]
    dsimp only
    rw [if_neg (by decide), Zb]
    unfold rtopics
    rw [list_spec _ _ w1, if_neg (by decide), Zb]
    dsimp only
    rw [rtopicsF, Zb]
    dsimp only
    rw [Z142, if_neg (by decide), Zb]
    dsimp only
    rw [if_neg (by decide)]
    exact ⟨_, _, rfl, .inr ⟨by decide, rfl, fun y hy => hc0 (by rw [(notlog y hy).1]; exact ⟨isT_tIt _, .inr (by show ((y.address.toList.length : Nat) : Int) = 20; rw [Zv]; rfl)⟩)⟩⟩
  ·rw [if_neg (fun h => h3 h.2)]
   exact ⟨_, _, rfl, .inr ⟨by decide, rfl, fun y hy => h3 (by rw [hy.1]; rfl)⟩⟩
 ·rw [if_neg hL]
  dsimp only
  rw [if_neg (fun h => absurd h.1 (by decide))]
  exact ⟨_, _, rfl, .inr ⟨by decide, rfl, fun y hy => hL (by rw [hy.1]; rfl)⟩⟩
end Go.Fw
namespace Go.Fw
theorem good_t (d : List (BitVec 8)) : (tIt d).good := by rw [It.good_eq]; exact ⟨(fun h => by cases h), (fun _ => rfl), by show Its.good []; simp [Its.good]⟩
theorem good_l {l : List It} (h : ∀ x ∈ l, x.good) : (It.mk true [] l).good := by
 rw [It.good_eq]
 refine ⟨(fun _ => rfl), (fun h => by cases h), ?_⟩
 show Its.good l
 induction l with
 | nil => simp [Its.good]
 | cons x l ih => rw [Its.good]; exact ⟨h x (List.mem_cons_self ..), ih fun y hy => h y (List.mem_cons_of_mem _ hy)⟩
theorem dep_le {l : List It} {n : Nat} (h : ∀ x ∈ l, x.dep ≤ n) : Its.dep l ≤ n := by
 induction l with
 | nil => simp [Its.dep]
 | cons x l ih =>
  rw [Its.dep]
  have := h x (List.mem_cons_self ..)
  have := ih fun y hy => h y (List.mem_cons_of_mem _ hy)
  omega
theorem dep_t (d : List (BitVec 8)) : (tIt d).dep = 0 := by rw [It.dep_eq]; rfl
theorem dep_l {l : List It} {n : Nat} (h : ∀ x ∈ l, x.dep ≤ n) : (It.mk true [] l).dep ≤ n + 1 := by
 rw [It.dep_eq]
 have := dep_le h
 show (if true = true then Its.dep l + 1 else 0) ≤ _
 rw [if_pos rfl]; omega
theorem w9_t (d : List (BitVec 8)) : (tIt d).w9 = 9 + d.length := by rw [It.w9_eq]; show 9 + d.length + Its.w9 [] = _; simp [Its.w9]
theorem w9_l (l : List It) : (It.mk true [] l).w9 = 9 + Its.w9 l := by rw [It.w9_eq]; show 9 + 0 + Its.w9 l = _; omega
theorem w9_hs (l : List (Vector (BitVec 8) 32)) : Its.w9 (l.map fun h => tIt h.toList) = 41 * l.length := by
 induction l with
 | nil => rfl
 | cons x l ih => rw [List.map_cons, Its.w9, w9_t, ih, Zv, List.length_cons]; omega
def szL (x : Log) : Nat := 56 + 41 * x.topics.length + x.data.length
theorem w9_log (x : Log) : (logIt x).w9 = szL x := by
 unfold logIt szL
 rw [w9_l, Its.w9, Its.w9, Its.w9, Its.w9, w9_t, w9_t, w9_l, w9_hs, Zv]; omega
theorem good_log (x : Log) : (logIt x).good := by
 refine good_l fun y hy => ?_
 simp only [List.mem_cons, List.not_mem_nil, or_false] at hy
 rcases hy with rfl | rfl | rfl
 ·exact good_t _
 ·refine good_l fun z hz => ?_
  obtain ⟨h, _, rfl⟩ := List.mem_map.1 hz
  exact good_t _
 ·exact good_t _
theorem dep_log (x : Log) : (logIt x).dep ≤ 2 := by
 refine dep_l (n := 1) fun y hy => ?_
 simp only [List.mem_cons, List.not_mem_nil, or_false] at hy
 rcases hy with rfl | rfl | rfl
 ·rw [dep_t]; omega
 ·refine dep_l (n := 0) fun z hz => ?_
  obtain ⟨h, _, rfl⟩ := List.mem_map.1 hz
  rw [dep_t]; omega
 ·rw [dep_t]; omega
end Go.Fw
namespace Go.Fw
theorem logitem_loop (x : Log) (hx : x.topics.length ≤ 4) : ∀ (d i k : Nat) (l : List It), i + d = x.topics.length → d < k → l.length ≤ i → receipt_LogItem.l1 x k l i = some (l ++ (x.topics.drop i).map fun h => tIt h.toList)
 | 0, i, k, l, h, hk, hl => by
  obtain ⟨k, rfl⟩ : ∃ m, k = m + 1 := ⟨k - 1, by omega⟩
  rw [receipt_LogItem.l1, if_neg (by omega), List.drop_eq_nil_of_le (by omega)]; simp
 | d + 1, i, k, l, h, hk, hl => by
  obtain ⟨k, rfl⟩ : ∃ m, k = m + 1 := ⟨k - 1, by omega⟩
  have h1 : i < x.topics.length := by omega
  rw [receipt_LogItem.l1, if_pos h1, List.getElem?_eq_getElem h1, Zb, text_eq, Zb, if_pos (by rw [List.length_singleton]; omega), logitem_loop x hx d (i + 1) k _ (by omega) (by omega) (by rw [List.length_append, List.length_singleton]; omega), List.drop_eq_getElem_cons h1, List.map_cons, List.append_assoc]
  rfl
end Go.Fw
namespace Go.Fw
theorem same17_loop (a : List (BitVec 8)) : ∀ (d i k : Nat), i + d = a.length → d < k → waybilllaw17_same.l1 a a k i = some (Lp.go ())
 | 0, i, k, h, hk => by
  obtain ⟨k, rfl⟩ : ∃ m, k = m + 1 := ⟨k - 1, by omega⟩
  rw [waybilllaw17_same.l1, if_neg (by omega)]
 | d + 1, i, k, h, hk => by
  obtain ⟨k, rfl⟩ : ∃ m, k = m + 1 := ⟨k - 1, by omega⟩
  have h1 : i < a.length := by omega
  rw [waybilllaw17_same.l1, if_pos h1, List.getElem?_eq_getElem h1, Zb, Zb, if_pos rfl, same17_loop a d (i + 1) k (by omega) (by omega)]
theorem same17 (a : List (BitVec 8)) : waybilllaw17_same a a = some true := by
 unfold waybilllaw17_same
 rw [if_pos rfl, same17_loop a a.length 0 _ (by omega) (by omega), Zb]
theorem sameLog_loop (a : Log) : ∀ (d i k : Nat), i + d = a.topics.length → d < k → waybilllaw17_sameLog.l1 a a k i = some (Lp.go ())
 | 0, i, k, h, hk => by
  obtain ⟨k, rfl⟩ : ∃ m, k = m + 1 := ⟨k - 1, by omega⟩
  rw [waybilllaw17_sameLog.l1, if_neg (by omega)]
 | d + 1, i, k, h, hk => by
  obtain ⟨k, rfl⟩ : ∃ m, k = m + 1 := ⟨k - 1, by omega⟩
  have h1 : i < a.topics.length := by omega
  rw [waybilllaw17_sameLog.l1, if_pos h1, List.getElem?_eq_getElem h1, Zb, Zb, if_pos rfl, sameLog_loop a d (i + 1) k (by omega) (by omega)]
theorem sameLog_refl (a : Log) : waybilllaw17_sameLog a a = some true := by
 unfold waybilllaw17_sameLog
 rw [if_pos rfl, Zb, if_neg (by simp), sameLog_loop a a.topics.length 0 _ (by omega) (by omega), Zb]
 dsimp only
 rw [same17, Zb]
theorem sameLogs_loop (a : List Log) : ∀ (d i k : Nat), i + d = a.length → d < k → waybilllaw17_sameLogs.l1 a a k i = some (Lp.go ())
 | 0, i, k, h, hk => by
  obtain ⟨k, rfl⟩ : ∃ m, k = m + 1 := ⟨k - 1, by omega⟩
  rw [waybilllaw17_sameLogs.l1, if_neg (by omega)]
 | d + 1, i, k, h, hk => by
  obtain ⟨k, rfl⟩ : ∃ m, k = m + 1 := ⟨k - 1, by omega⟩
  have h1 : i < a.length := by omega
  rw [waybilllaw17_sameLogs.l1, if_pos h1, List.getElem?_eq_getElem h1, Zb, Zb, sameLog_refl, Zb, if_pos rfl, sameLogs_loop a d (i + 1) k (by omega) (by omega)]
theorem sameLogs_refl (a : List Log) : waybilllaw17_sameLogs a a = some true := by
 unfold waybilllaw17_sameLogs
 rw [if_pos rfl, sameLogs_loop a a.length 0 _ (by omega) (by omega), Zb]
end Go.Fw
namespace Go.Fw
def waybillref14_Text (a0 : It) : Option ((List (BitVec 8)) × (Bool)) := (((if a0.list = true then (some (true)) else (some ((decide (0 < a0.items.length))))) : Option ((Bool))).bind fun p16 => (if p16 = true then (some (([] : List (BitVec 8)), false)) else (some (a0.data, true))))
def waybillref14_List (a0 : It) : Option ((List (It)) × (Bool)) := (((if a0.list = true then (some ((decide (0 < a0.data.length)))) else (some (true))) : Option ((Bool))).bind fun p16 => (if p16 = true then (some (([] : List (It)), false)) else (some (a0.items, true))))
def waybillref14_Fixed (a0 : It) (a1 : Int) : Option ((List (BitVec 8)) × (Bool)) := ((waybillref14_Text a0).bind fun (x15, x16) => (((if x16 = true then (some ((x15, (decide (((x15.length : Nat) : Int) = a1))))) else (some ((x15, false)))) : Option ((List (BitVec 8)) × (Bool))).bind fun (l28, p32) => (some (l28, (p32)))))
def waybillref17_text (a0 : List (BitVec 8)) : Option ((It)) := (some (It.mk false a0 ([] : List (It))))
def waybillref17_logItem.l1 (a0 : Log) : Nat → (Nat) → (Bool) → (List (BitVec 8)) → (List (It)) → Option ((Bool) × (List (BitVec 8)) × (List (It)))
 | 0, _, _, _, _ => none
 | k115 + 1, n100, p102, l103, l108 => (if n100 < a0.topics.length then (a0.topics[n100]?).bind fun x125 => ((waybillref17_text x125.toList).bind fun x136 => (if (l108.length + ([x136] : List (It)).length) * 56 ≤ 140737488355328 then (waybillref17_logItem.l1 a0 k115 (n100 + 1) (p102) l103 (l108 ++ ([x136] : List (It)))) else none)) else (some (((p102), l103, l108))))
def waybillref17_logItem (a0 : Log) : Option ((It)) := (((waybillref17_logItem.l1 a0 (a0.topics.length - 0 + 2) 0 true ([] : List (BitVec 8)) ([] : List (It))) : Option ((Bool) × (List (BitVec 8)) × (List (It)))).bind fun (p20, l21, l26) => ((waybillref17_text a0.address.toList).bind fun x47 => ((waybillref17_text a0.data).bind fun x70 => (some (It.mk true ([] : List (BitVec 8)) ([x47, (It.mk (p20) l21 l26), x70] : List (It)))))))
def waybillref17_ParseLog.l1 (x90 : List (It)) : Nat → (Nat) → (Vector (BitVec 8) 20) → (List (Vector (BitVec 8) 32)) → (List (BitVec 8)) → Option (Lp ((Log) × (Nat)) ((Vector (BitVec 8) 20) × (List (Vector (BitVec 8) 32)) × (List (BitVec 8))))
 | 0, _, _, _, _ => none
 | k196 + 1, n181, w183, l184, l191 => (if n181 < x90.length then (x90[n181]?).bind fun x206 => ((waybillref14_Fixed x206 (32 : Int)).bind fun (x225, x226) => (if x226 = true then (if (l184.length + ([(cpV (Vector.replicate 32 0#8) 0 (x225.take (min x225.length (32 - 0))))] : List (Vector (BitVec 8) 32)).length) * 32 ≤ 140737488355328 then (waybillref17_ParseLog.l1 x90 k196 (n181 + 1) w183 (l184 ++ ([(cpV (Vector.replicate 32 0#8) 0 (x225.take (min x225.length (32 - 0))))] : List (Vector (BitVec 8) 32))) l191) else none) else (some (Lp.ret (some ((Log.mk (Vector.replicate 20 0#8) ([] : List (Vector (BitVec 8) 32)) ([] : List (BitVec 8))), 172)))))) else (some (Lp.go (w183, l184, l191))))
def waybillref17_ParseLog (a0 : It) : Option ((Log) × (Nat)) := ((waybillref14_List a0).bind fun (x16, x17) => (((if x17 = true then (some ((!decide (x16.length = 3)))) else (some (true))) : Option ((Bool))).bind fun p31 => (if p31 = true then (some ((Log.mk (Vector.replicate 20 0#8) ([] : List (Vector (BitVec 8) 32)) ([] : List (BitVec 8))), 172)) else (x16[0]?).bind fun x41 => ((waybillref14_Fixed x41 (20 : Int)).bind fun (x60, x61) => (x16[1]?).bind fun x71 => ((waybillref14_List x71).bind fun (x90, x91) => (x16[2]?).bind fun x103 => ((waybillref14_Text x103).bind fun (x122, x123) => (((if x61 = true then (if x91 = true then (some ((!x123))) else (some (true))) else (some (true))) : Option ((Bool))).bind fun p135 => (if p135 = true then (some ((Log.mk (Vector.replicate 20 0#8) ([] : List (Vector (BitVec 8) 32)) ([] : List (BitVec 8))), 172)) else (((waybillref17_ParseLog.l1 x90 (x90.length - 0 + 2) 0 (cpV (Vector.replicate 20 0#8) 0 (x60.take (min x60.length (20 - 0)))) ([] : List (Vector (BitVec 8) 32)) ([] : List (BitVec 8))) : Option (Lp ((Log) × (Nat)) ((Vector (BitVec 8) 20) × (List (Vector (BitVec 8) 32)) × (List (BitVec 8))))).bind fun | .ret o => o | .go (w148, l149, l156) => (if 4 < l149.length then (some ((Log.mk (Vector.replicate 20 0#8) ([] : List (Vector (BitVec 8) 32)) ([] : List (BitVec 8))), 174)) else (if l156.length + x122.length ≤ 140737488355328 then (some ((Log.mk w148 l149 (l156 ++ x122)), 0)) else none)))))))))))
end Go.Fw
namespace Go.Fw
def waybilllaw17_still.l1 (a0 : List (BitVec 8)) (a1 : List (BitVec 8)) : Nat → (Nat) → Option (Lp ((Bool)) (Unit))
 | 0, _ => none
 | k17 + 1, n15 => (if n15 < ((a0 ++ List.replicate 70 195#8).take (a1.length + 70)).length then (((if n15 < a1.length then (((a0 ++ List.replicate 70 195#8).take (a1.length + 70))[n15]?).bind fun x35 => (a1[n15]?).bind fun x38 => (if x35 = x38 then (if a1.length ≤ n15 then (((a0 ++ List.replicate 70 195#8).take (a1.length + 70))[n15]?).bind fun x43 => (some ((!decide (x43 = 195#8)))) else (some (false))) else (some (true))) else (if a1.length ≤ n15 then (((a0 ++ List.replicate 70 195#8).take (a1.length + 70))[n15]?).bind fun x47 => (some ((!decide (x47 = 195#8)))) else (some (false)))) : Option ((Bool))).bind fun p27 => (if p27 = true then (some (Lp.ret (some false))) else (waybilllaw17_still.l1 a0 a1 k17 (n15 + 1)))) else (some (Lp.go ())))
def waybilllaw17_still (a0 : List (BitVec 8)) (a1 : List (BitVec 8)) : Option ((Bool)) := (if a0.length = a1.length then (if (a1.length + 70) ≤ (a0 ++ List.replicate 70 195#8).length then (((waybilllaw17_still.l1 a0 a1 ((((a0 ++ List.replicate 70 195#8).take (a1.length + 70)).length) - 0 + 2) 0) : Option (Lp ((Bool)) (Unit))).bind fun | .ret o => o | .go () => (some true)) else none) else (some false))
end Go.Fw
namespace Go.Fw
open Go
def mk20 : Vector (BitVec 8) 20 := (Vector.replicate 20 0#8).setIfInBounds 0 195#8
def mk32 : Vector (BitVec 8) 32 := (Vector.replicate 32 0#8).setIfInBounds 0 195#8
abbrev LogZ0 : LogC := ⟨Vector.replicate 20 0#8, .slice none 0 0, .slice none 0 0⟩
abbrev LgMk : LogC := ⟨mk20, .slice none 0 0, .slice none 0 0⟩
theorem OwnS.full {ob : Option Nat} {len cap s : Nat} {cells r : List Value} (h : OwnS ob len cap s cells r) (hm : cap ≤ 140737488355328) : OwnS ob cap cap s (cells ++ r) [] := ⟨h.hr, by rw [List.append_nil]; exact h.hr, h.hn, hm⟩
structure LgM (g : Lg) : Prop where
 ok : g.Ok
 tc : g.tc = g.t.length + 1
 tr : g.tr = u8s mk32.toList
 dc : g.dc = g.d.length + 70
 dr : g.dr = u8s (List.replicate 70 195#8) ++ []
 tm : g.t.length + 1 ≤ 140737488355328
 dm : g.d.length + 70 ≤ 140737488355328
def LmRd (Φ : Ctx) (cs : List Value) (x : Log) : Prop := ∃ (A1 A2 : Option Addr), cs = (⟨x.address, .slice A1 x.topics.length (x.topics.length + 1), .slice A2 x.data.length (x.data.length + 70)⟩ : LogC).C ∧
 View Φ A1 (x.topics.length + 1) (x.topics.length + 1) 32 (hs32 x.topics ++ u8s mk32.toList) ∧ View Φ A2 (x.data.length + 70) (x.data.length + 70) 1 (u8s (x.data ++ List.replicate 70 195#8))
theorem LmRd.mono {Φ Ψ : Ctx} (hh : ∀ w, Ψ w → Φ w) (cs : List Value) (x : Log) : LmRd Φ cs x → LmRd Ψ cs x := fun ⟨A1, A2, e, v1, v2⟩ => ⟨A1, A2, e, v1.mono hh, v2.mono hh⟩
theorem LmRd.len {Φ : Ctx} (cs : List Value) (x : Log) (h : LmRd Φ cs x) : cs.length = 22 := by
 obtain ⟨A1, A2, e, _, _⟩ := h
 rw [e]; exact LogC.C_length _
theorem LmRd.one {Φ : Ctx} (cs : List Value) (x : Log) (h : LmRd Φ cs x) : ∀ u ∈ cs, u.oneCell' = true := by
 obtain ⟨A1, A2, e, _, _⟩ := h
 rw [e]; exact LogC.C_one _ rfl rfl
theorem LmRd.log {Φ : Ctx} (cs : List Value) (x : Log) (h : LmRd Φ cs x) : LogRd Φ cs x := by
 obtain ⟨A1, A2, rfl, v1, v2⟩ := h
 have h1 := v1.hi (k := x.topics.length) (by omega)
 rw [List.take_append_of_le_length (by rw [Z126]; omega), List.take_of_length_le (by rw [Z126]; omega)] at h1
 have h2 := v2.hi (k := x.data.length) (by omega)
 rw [Nat.mul_one, show (u8s (x.data ++ List.replicate 70 195#8)).take x.data.length = u8s x.data by simp [u8s]] at h2
 exact LogRd.mk h1 (hs32_reps _) h2
theorem LgM.rd {w0 : World} {Φ : Ctx} {tH tB : TypeId} {g : Lg} (h : LgM g) (hm : ∀ w, Φ w → Mem w0 w (g.ents tH tB)) : LmRd Φ g.cells g.val := by
 obtain ⟨a, tb, t, tc, tr, db, d, dc, dr⟩ := g
 obtain ⟨ok, e1, e2, e3, e4, m1, m2⟩ := h
 obtain ⟨ok1, ok2⟩ := ok
 dsimp only at e1 e2 e3 e4 m1 m2 ok1 ok2
 subst e1 e2 e3 e4
 refine ⟨_, _, rfl, ?_, ?_⟩
 ·have := (ok1.full m1).view (te := tH) (w0 := w0) (Ψ := Φ) (by decide) (fun w q => by rw [List.append_nil]; exact (hm w q).sublist (by unfold Lg.ents; exact List.Sublist.cons_cons _ (List.nil_sublist _)))
  exact this
 ·have := (ok2.full m2).view (te := tB) (w0 := w0) (Ψ := Φ) (by decide) (fun w q => by rw [List.append_nil]; exact (hm w q).tail)
  rw [List.append_nil, u8s_app] at this
  exact this
theorem lgm_reps {w0 : World} {Φ : Ctx} {tH tB : TypeId} : ∀ {l : List Lg}, (∀ g ∈ l, LgM g) → (∀ w, Φ w → Mem w0 w (lgs tH tB l)) → Reps (LmRd Φ) (lgC l) (l.map Lg.val)
 | [], _, _ => .nil
 | g :: l, ok, h => by
  have h1 : LmRd Φ g.cells g.val := LgM.rd (tH := tH) (tB := tB) (ok g (List.mem_cons_self ..)) (fun w q => (h w q).appL)
  have h2 := lgm_reps (l := l) (fun x hx => ok x (List.mem_cons_of_mem _ hx)) (fun w q => (h w q).appR)
  exact .cons h1 h2
def LRooms (Φ : Ctx) (A : Option Addr) (c : Nat) (x : List Log) : Prop := ∃ cs : List Value, View Φ A (x.length + 1) c 22 (cs ++ LgMk.C) ∧ Reps (LmRd Φ) cs x
theorem LRooms.mono {Φ Ψ : Ctx} {A : Option Addr} {c : Nat} {x : List Log} (h : LRooms Φ A c x) (hh : ∀ w, Ψ w → Φ w) : LRooms Ψ A c x := by
 obtain ⟨cs, v, r⟩ := h
 exact ⟨cs, v.mono hh, r.mono (LmRd.mono hh)⟩
theorem LRooms.opn {Φ : Ctx} {A : Option Addr} {c : Nat} {x : List Log} (h : LRooms Φ A c x) : ∃ cs : List Value, View Φ A (x.length + 1) c 22 (cs ++ LgMk.C) ∧ View Φ A x.length c 22 cs ∧ Reps (LmRd Φ) cs x := by
 obtain ⟨cs, v, r⟩ := h
 have h1 := v.hi (k := x.length) (by omega)
 have hl := r.len LmRd.len
 rw [List.take_append_of_le_length (by omega), List.take_of_length_le (by omega)] at h1
 exact ⟨cs, v, h1, r⟩
theorem LRooms.mk {Φ : Ctx} {A : Option Addr} {c : Nat} {x : List Log} {cs : List Value} (v : View Φ A (x.length + 1) c 22 (cs ++ LgMk.C)) (r : Reps (LmRd Φ) cs x) : LRooms Φ A c x := ⟨cs, v, r⟩
def twfit (l : List Log) : Bool := l.all (fun x => decide (x.topics.length * 32 ≤ 140737488355328 ∧ x.data.length + 70 ≤ 140737488355328)) && decide (l.length * 72 ≤ 140737488355328)
def waybilllaw17_twin (l : List Log) : Option (List Log) := if twfit l = true then some l else none
def zc (k : Nat) : List Value := (List.replicate k LogZ0.C).flatten
theorem zc_length (k : Nat) : (zc k).length = k * 22 := by
 rw [zc, List.length_flatten, List.map_replicate, List.sum_replicate_nat, LogC.C_length]
theorem zc_succ (k : Nat) : zc (k + 1) = LogZ0.C ++ zc k := by simp [zc, List.replicate_succ]
theorem zc_snoc (k : Nat) : zc (k + 1) = zc k ++ LogZ0.C := by simp [zc, List.replicate_succ']
theorem tw_mark (k : Nat) : spl (zc (k + 1)) (k * 22) LgMk.C = zc k ++ LgMk.C := by
 have h1 : (zc k ++ LogZ0.C).length = k * 22 + 22 := by rw [List.length_append, zc_length, LogC.C_length]
 rw [zc_snoc]
 unfold spl
 rw [List.take_append_of_le_length (by rw [zc_length]; omega), List.take_of_length_le (by rw [zc_length]; omega), LogC.C_length, List.drop_of_length_le (by omega), List.append_nil]
theorem tw_set {gs : List Lg} {g : Lg} {m off : Nat} {X : List Value} (h : off = gs.length * 22) : spl (lgC gs ++ (zc (m + 1) ++ X)) off g.cells = lgC (gs ++ [g]) ++ (zc m ++ X) := by
 subst h
 have h1 : (lgC gs).length = gs.length * 22 := lgC_length _
 have h2 : LogZ0.C.length = 22 := LogC.C_length _
 unfold spl
 rw [zc_succ, Lg.cells_length, List.take_append_of_le_length (by omega), List.take_of_length_le (by omega), List.append_assoc LogZ0.C, ← List.append_assoc (lgC gs), List.drop_append, List.drop_of_length_le (by rw [List.length_append]; omega), List.length_append, h1, h2, Nat.sub_self, List.drop_zero, List.nil_append, lgC_app, lgC_one1]
theorem tw_topic (t : List (Vector (BitVec 8) 32)) (zs : List Value) (hz : zs.length = 32) : spl (hs32 t ++ zs) (t.length * 32) (u8s mk32.toList) = hs32 t ++ u8s mk32.toList := by
 unfold spl
 have h1 := Z126 t
 have h2 : (u8s mk32.toList).length = 32 := (Z101 _).trans Zv
 rw [List.take_append_of_le_length (by omega), List.take_of_length_le (by omega), h2, List.drop_of_length_le (by rw [List.length_append]; omega), List.append_nil]
end Go.Fw
namespace Go.Fw
theorem same17_to (a b : List (BitVec 8)) : ∀ (k i : Nat), waybilllaw17_same.l1 a b k i = some (Lp.go ()) → ∀ j, i ≤ j → j < a.length → a[j]? = b[j]?
 | 0, i, h => by cases h
 | k + 1, i, h => by
  rw [waybilllaw17_same.l1] at h
  intro j hj hl
  rw [if_pos (by omega)] at h
  obtain ⟨x, hx, h⟩ := Option.bind_eq_some_iff.1 h
  obtain ⟨y, hy, h⟩ := Option.bind_eq_some_iff.1 h
  by_cases e : x = y
  ·rw [if_pos e] at h
   rcases Nat.eq_or_lt_of_le hj with rfl | hj
   ·rw [hx, hy, e]
   ·exact same17_to a b k (i + 1) h j hj hl
  ·rw [if_neg e] at h; cases h
theorem same17_true {a b : List (BitVec 8)} (h : waybilllaw17_same a b = some true) : a = b := by
 unfold waybilllaw17_same at h
 by_cases hl : a.length = b.length
 ·rw [if_pos hl] at h
  obtain ⟨o, ho, h⟩ := Option.bind_eq_some_iff.1 h
  cases o with
  | ret o =>
   exfalso
   have : ∀ (k i : Nat) o, waybilllaw17_same.l1 a b k i = some (Lp.ret o) → o = some false := by
    intro k
    induction k with
    | zero => intro i o h; cases h
    | succ k ih =>
     intro i o h
     rw [waybilllaw17_same.l1] at h
     by_cases hi : i < a.length
     ·rw [if_pos hi] at h
      obtain ⟨x, hx, h⟩ := Option.bind_eq_some_iff.1 h
      obtain ⟨y, hy, h⟩ := Option.bind_eq_some_iff.1 h
      by_cases e : x = y
      ·rw [if_pos e] at h; exact ih _ _ h
      ·rw [if_neg e] at h; simp only [Option.some.injEq, Lp.ret.injEq] at h; exact h.symm
     ·rw [if_neg hi] at h; cases h
   have := this _ _ _ ho
   dsimp only at h
   rw [this] at h
   cases h
  | go u =>
   apply List.ext_getElem?
   intro j
   by_cases hj : j < a.length
   ·exact same17_to a b _ 0 ho j (by omega) hj
   ·rw [List.getElem?_eq_none (by omega), List.getElem?_eq_none (by omega)]
 ·rw [if_neg hl] at h; cases h
theorem sameLog_ret {a b : Log} : ∀ (k i : Nat) o, waybilllaw17_sameLog.l1 a b k i = some (Lp.ret o) → o = some false := by
 intro k
 induction k with
 | zero => intro i o h; cases h
 | succ k ih =>
  intro i o h
  rw [waybilllaw17_sameLog.l1] at h
  by_cases hi : i < a.topics.length
  ·rw [if_pos hi] at h
   obtain ⟨x, hx, h⟩ := Option.bind_eq_some_iff.1 h
   obtain ⟨y, hy, h⟩ := Option.bind_eq_some_iff.1 h
   by_cases e : x = y
   ·rw [if_pos e] at h; exact ih _ _ h
   ·rw [if_neg e] at h; simp only [Option.some.injEq, Lp.ret.injEq] at h; exact h.symm
  ·rw [if_neg hi] at h; cases h
theorem sameLog_to (a b : Log) : ∀ (k i : Nat), waybilllaw17_sameLog.l1 a b k i = some (Lp.go ()) → ∀ j, i ≤ j → j < a.topics.length → a.topics[j]? = b.topics[j]?
 | 0, i, h => by cases h
 | k + 1, i, h => by
  rw [waybilllaw17_sameLog.l1] at h
  intro j hj hl
  rw [if_pos (by omega)] at h
  obtain ⟨x, hx, h⟩ := Option.bind_eq_some_iff.1 h
  obtain ⟨y, hy, h⟩ := Option.bind_eq_some_iff.1 h
  by_cases e : x = y
  ·rw [if_pos e] at h
   rcases Nat.eq_or_lt_of_le hj with rfl | hj
   ·rw [hx, hy, e]
   ·exact sameLog_to a b k (i + 1) h j hj hl
  ·rw [if_neg e] at h; cases h
theorem sameLog_true {a b : Log} (h : waybilllaw17_sameLog a b = some true) : a = b := by
 unfold waybilllaw17_sameLog at h
 by_cases ha : a.address = b.address
 ·rw [if_pos ha, Zb] at h
  by_cases hl : a.topics.length = b.topics.length
  ·rw [if_neg (by simp [hl])] at h
   obtain ⟨o, ho, h⟩ := Option.bind_eq_some_iff.1 h
   cases o with
   | ret o =>
    have := sameLog_ret _ _ _ ho
    dsimp only at h
    rw [this] at h
    cases h
   | go u =>
    dsimp only at h
    obtain ⟨r, hr, h⟩ := Option.bind_eq_some_iff.1 h
    obtain rfl := Zi h
    have ht : a.topics = b.topics := by
     apply List.ext_getElem?
     intro j
     by_cases hj : j < a.topics.length
     ·exact sameLog_to a b _ 0 ho j (by omega) hj
     ·rw [List.getElem?_eq_none (by omega), List.getElem?_eq_none (by omega)]
    have hd := same17_true hr
    obtain ⟨a1, a2, a3⟩ := a
    obtain ⟨b1, b2, b3⟩ := b
    dsimp only at ha ht hd
    rw [ha, ht, hd]
  ·rw [if_pos (by simp [hl])] at h; cases h
 ·rw [if_neg ha, Zb, if_pos rfl] at h; cases h
theorem sameLogs_ret {a b : List Log} : ∀ (k i : Nat) o, waybilllaw17_sameLogs.l1 a b k i = some (Lp.ret o) → o = some false := by
 intro k
 induction k with
 | zero => intro i o h; cases h
 | succ k ih =>
  intro i o h
  rw [waybilllaw17_sameLogs.l1] at h
  by_cases hi : i < a.length
  ·rw [if_pos hi] at h
   obtain ⟨x, hx, h⟩ := Option.bind_eq_some_iff.1 h
   obtain ⟨y, hy, h⟩ := Option.bind_eq_some_iff.1 h
   obtain ⟨r, hr, h⟩ := Option.bind_eq_some_iff.1 h
   by_cases e : r = true
   ·rw [if_pos e] at h; exact ih _ _ h
   ·rw [if_neg e] at h; simp only [Option.some.injEq, Lp.ret.injEq] at h; exact h.symm
  ·rw [if_neg hi] at h; cases h
theorem sameLogs_to (a b : List Log) : ∀ (k i : Nat), waybilllaw17_sameLogs.l1 a b k i = some (Lp.go ()) → ∀ j, i ≤ j → j < a.length → a[j]? = b[j]?
 | 0, i, h => by cases h
 | k + 1, i, h => by
  rw [waybilllaw17_sameLogs.l1] at h
  intro j hj hl
  rw [if_pos (by omega)] at h
  obtain ⟨x, hx, h⟩ := Option.bind_eq_some_iff.1 h
  obtain ⟨y, hy, h⟩ := Option.bind_eq_some_iff.1 h
  obtain ⟨r, hr, h⟩ := Option.bind_eq_some_iff.1 h
  by_cases e : r = true
  ·rw [if_pos e] at h
   subst e
   rcases Nat.eq_or_lt_of_le hj with rfl | hj
   ·rw [hx, hy, sameLog_true hr]
   ·exact sameLogs_to a b k (i + 1) h j hj hl
  ·rw [if_neg e] at h; cases h
theorem sameLogs_true {a b : List Log} (h : waybilllaw17_sameLogs a b = some true) : a = b := by
 unfold waybilllaw17_sameLogs at h
 by_cases hl : a.length = b.length
 ·rw [if_pos hl] at h
  obtain ⟨o, ho, h⟩ := Option.bind_eq_some_iff.1 h
  cases o with
  | ret o =>
   have := sameLogs_ret _ _ _ ho
   dsimp only at h
   rw [this] at h
   cases h
  | go u =>
   apply List.ext_getElem?
   intro j
   by_cases hj : j < a.length
   ·exact sameLogs_to a b _ 0 ho j (by omega) hj
   ·rw [List.getElem?_eq_none (by omega), List.getElem?_eq_none (by omega)]
 ·rw [if_neg hl] at h; cases h
def waybilllaw17_stillLogs (x y : List Log) : Option Bool := (waybilllaw17_sameLogs x y).bind fun r => if r = true then some true else none
theorem stillLogs_true {x y : List Log} {r : Bool} (h : waybilllaw17_stillLogs x y = some r) : x = y ∧ r = true ∧ waybilllaw17_sameLogs x y = some true := by
 unfold waybilllaw17_stillLogs at h
 obtain ⟨q, hq, h⟩ := Option.bind_eq_some_iff.1 h
 by_cases e : q = true
 ·rw [if_pos e] at h
  subst e
  exact ⟨sameLogs_true hq, (Zi h).symm, hq⟩
 ·rw [if_neg e] at h; cases h
end Go.Fw
namespace Go.Fw
theorem still17_loop (a : List (BitVec 8)) : ∀ (d i k : Nat), i + d = a.length + 70 → d < k → waybilllaw17_still.l1 a a k i = some (Lp.go ())
 | 0, i, k, h, hk => by
  obtain ⟨k, rfl⟩ : ∃ m, k = m + 1 := ⟨k - 1, by omega⟩
  rw [waybilllaw17_still.l1, if_neg (by rw [List.length_take, List.length_append, List.length_replicate]; omega)]
 | d + 1, i, k, h, hk => by
  obtain ⟨k, rfl⟩ : ∃ m, k = m + 1 := ⟨k - 1, by omega⟩
  have hT : (a ++ List.replicate 70 195#8).take (a.length + 70) = a ++ List.replicate 70 195#8 := List.take_of_length_le (by rw [List.length_append, List.length_replicate]; omega)
  have hl : (a ++ List.replicate 70 195#8).length = a.length + 70 := by rw [List.length_append, List.length_replicate]
  rw [waybilllaw17_still.l1, hT, if_pos (by omega)]
  by_cases h1 : i < a.length
  ·rw [if_pos h1, List.getElem?_append_left h1, List.getElem?_eq_getElem h1, Zb, Zb, if_pos rfl, if_neg (by omega), Zb, if_neg (by decide)]
   exact still17_loop a d (i + 1) k (by omega) (by omega)
  ·rw [if_neg h1, if_pos (by omega), List.getElem?_append_right (by omega), List.getElem?_replicate, if_pos (by omega), Zb, decide_eq_true rfl, Zb, if_neg (by decide)]
   exact still17_loop a d (i + 1) k (by omega) (by omega)
theorem still17_eq (a : List (BitVec 8)) : waybilllaw17_still a a = some true := by
 have hT : ((a ++ List.replicate 70 195#8).take (a.length + 70)).length = a.length + 70 := by rw [List.length_take, List.length_append, List.length_replicate]; omega
 have hl : (a ++ List.replicate 70 195#8).length = a.length + 70 := by rw [List.length_append, List.length_replicate]
 unfold waybilllaw17_still
 rw [if_pos rfl, if_pos (by omega), still17_loop a (a.length + 70) 0 _ (by omega) (by rw [hT]; omega), Zb]
end Go.Fw
namespace Go.Fw
theorem dlog_loop (x : Log) (hx : x.topics.length * 56 ≤ 140737488355328) (p : Bool) (d0 : List (BitVec 8)) : ∀ (d i k : Nat) (l : List It), i + d = x.topics.length → d < k → l.length ≤ i → waybillref17_logItem.l1 x k i p d0 l = some (p, d0, l ++ (x.topics.drop i).map fun h => tIt h.toList)
 | 0, i, k, l, h, hk, hl => by
  obtain ⟨k, rfl⟩ : ∃ m, k = m + 1 := ⟨k - 1, by omega⟩
  rw [waybillref17_logItem.l1, if_neg (by omega), List.drop_eq_nil_of_le (by omega)]; simp
 | d + 1, i, k, l, h, hk, hl => by
  obtain ⟨k, rfl⟩ : ∃ m, k = m + 1 := ⟨k - 1, by omega⟩
  have h1 : i < x.topics.length := by omega
  rw [waybillref17_logItem.l1, if_pos h1, List.getElem?_eq_getElem h1, Zb, waybillref17_text, Zb, if_pos (by rw [List.length_singleton]; omega), dlog_loop x hx p d0 d (i + 1) k _ (by omega) (by omega) (by rw [List.length_append, List.length_singleton]; omega), List.drop_eq_getElem_cons h1, List.map_cons, List.append_assoc]
  rfl
theorem dlog_eq (x : Log) (hx : x.topics.length * 56 ≤ 140737488355328) : waybillref17_logItem x = some (logIt x) := by
 unfold waybillref17_logItem
 rw [dlog_loop x hx true [] x.topics.length 0 _ [] (by omega) (by omega) (by simp), Zb]
 dsimp only
 rw [waybillref17_text, Zb, waybillref17_text, Zb, List.nil_append, List.drop_zero]
 rfl
end Go.Fw
namespace Go.Fw
theorem stillLogs_refl (x : List Log) : waybilllaw17_stillLogs x x = some true := by
 unfold waybilllaw17_stillLogs
 rw [sameLogs_refl]; rfl
theorem twin_eq17 {l : List Log} (h : twfit l = true) : waybilllaw17_twin l = some l := by
 unfold waybilllaw17_twin
 rw [if_pos h]
end Go.Fw

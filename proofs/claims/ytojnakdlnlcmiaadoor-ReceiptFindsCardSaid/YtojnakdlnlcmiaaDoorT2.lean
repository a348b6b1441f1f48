/- Part of a proof: rules that its law uses. -/
import Derived.Scope
import Derived.ChangeArms
import Derived.Test.YtojnakdlnlcmiaaDoorT1
set_option linter.unusedVariables false
set_option linter.unusedSimpArgs false
set_option linter.unusedSectionVars false
set_option maxRecDepth 100000
set_option maxHeartbeats 1000000
namespace Go.Fw
def rotl (x : BitVec 64) (n : Nat) : BitVec 64 := x <<< n ||| x >>> (64 - n)
def turnsL : List Int := [0, 1, 62, 28, 27, 36, 44, 6, 55, 20, 3, 10, 43, 25, 39, 41, 45, 15, 21, 8, 18, 2, 61, 56, 14]
def goesN (i : Nat) : Nat := i / 5 + 5 * ((2 * (i % 5) + 3 * (i / 5)) % 5)
def roundsL : List (BitVec 64) := [0x0000000000000001#64, 0x0000000000008082#64, 0x800000000000808A#64, 0x8000000080008000#64,
  0x000000000000808B#64, 0x0000000080000001#64, 0x8000000080008081#64, 0x8000000000008009#64,
  0x000000000000008A#64, 0x0000000000000088#64, 0x0000000080008009#64, 0x000000008000000A#64,
  0x000000008000808B#64, 0x800000000000008B#64, 0x8000000000008089#64, 0x8000000000008003#64,
  0x8000000000008002#64, 0x8000000000000080#64, 0x000000000000800A#64, 0x800000008000000A#64,
  0x8000000080008081#64, 0x8000000000008080#64, 0x0000000080000001#64, 0x8000000080008008#64]
def g64 (l : List (BitVec 64)) (i : Nat) : BitVec 64 := l.getD i 0#64
def colS (a : List (BitVec 64)) (x : Nat) : BitVec 64 := g64 a x ^^^ g64 a (x + 5) ^^^ g64 a (x + 10) ^^^ g64 a (x + 15) ^^^ g64 a (x + 20)
def thetaE (a : List (BitVec 64)) (i : Nat) : BitVec 64 := g64 a i ^^^ (colS a ((i + 4) % 5) ^^^ rotl (colS a ((i + 1) % 5)) 1)
def chiE (b : List (BitVec 64)) (i : Nat) : BitVec 64 := g64 b i ^^^ (~~~ (g64 b (i / 5 * 5 + (i % 5 + 1) % 5)) &&& g64 b (i / 5 * 5 + (i % 5 + 2) % 5))
def chiL (b : List (BitVec 64)) : List (BitVec 64) := (List.range 25).map (chiE b)
end Go.Fw
namespace Go.Fw
end Go.Fw
namespace Go.Fw
def sumTo (a : List (BitVec 64)) (x : Nat) : Nat → BitVec 64
 | 0 => 0#64
 | n + 1 => if n % 5 = x then sumTo a x n ^^^ g64 a n else sumTo a x n
def invN (j : Nat) : Nat := ((List.range 25).find? fun i => goesN i == j).getD 0
def movedE (a : List (BitVec 64)) (i : Nat) : BitVec 64 := rotl (thetaE a i) (turnsL.getD i 0).toNat
def movedL (a : List (BitVec 64)) : List (BitVec 64) := (List.range 25).map fun j => movedE a (invN j)
def roundL (a : List (BitVec 64)) (rc : BitVec 64) : List (BitVec 64) := (chiL (movedL a)).set 0 (g64 (chiL (movedL a)) 0 ^^^ rc)
def permTo (a : List (BitVec 64)) : Nat → List (BitVec 64)
 | 0 => a
 | t + 1 => roundL (permTo a t) (g64 roundsL t)
@[simp] theorem chiL_length (b : List (BitVec 64)) : (chiL b).length = 25 := by simp [chiL]
end Go.Fw
namespace Go.Fw
end Go.Fw
namespace Go.Fw
end Go.Fw
namespace Go.Fw
end Go.Fw
namespace Go.Fw
end Go.Fw
namespace Go.Fw
def mvL (a : List (BitVec 64)) : List (BitVec 64) := (List.range 25).map fun j => rotl (g64 a (invN j)) (turnsL.getD (invN j) 0).toNat
end Go.Fw
namespace Go.Fw
end Go.Fw
namespace Go.Fw.Tryd
open Go Go.Proofs
attribute [local irreducible] permTo roundL movedL chiL sumTo
end Go.Fw.Tryd
namespace Go.Fw
def bt (x : BitVec 64) (z : Nat) : Bool := x.getLsbD (z % 64)
def dc (a b : List (BitVec 64)) (x z : Nat) : Bool := bt (colS a (x % 5)) z ^^ bt (colS b (x % 5)) z
end Go.Fw
namespace Go.Fw.Tryd
open Go Go.Proofs
attribute [local irreducible] permTo roundL movedL chiL sumTo
end Go.Fw.Tryd
namespace Go.Fw.Tryd
open Go Go.Proofs
attribute [local irreducible] permTo roundL movedL chiL sumTo mvL
end Go.Fw.Tryd
namespace Go.Fw.Tryd
open Go Go.Proofs
attribute [local irreducible] permTo roundL movedL chiL sumTo mvL
end Go.Fw.Tryd
namespace Go.Fw
open Go
section
variable {P : Program} {a : Act} {w : World} {Q : Exit → Act → World → Prop}
end
section
variable {P : Program} {n : Nat} {Q : Exit → Act → World → Prop} {w0 : World} {L : Z108} {M : List Ent}
theorem CW.label {l : Nat} (h : QW n Q w0 .normal L M) : CW P n Q w0 (.label l) L M := CW.intro fun a w f m => wp_label (h.elim a w f m)
end
end Go.Fw
namespace Go.Fw
open Go
section
variable {P : Program} {n : Nat} {Q : Exit → Act → World → Prop} {w0 : World} {L : Z108} {M : List Ent} {ops : Array Oper} {f : Nat} {done : Array Bool} {d : Nat} {op : Op} {ty : TypeId} {pos : String} {aft : Array Edge} {v : Value}
def AW (P : Program) (n : Nat) (ops : Array Oper) (Q : Exit → Act → World → Prop) (w0 : World) (f : Nat) (done : Array Bool) (L : Z108) (M : List Ent) : Prop :=
 ∀ a w, Fr n L a → Mem w0 w M → wpAny P .any ops Q f done a w
def AO (P : Program) (n : Nat) (ops : Array Oper) (Q : Exit → Act → World → Prop) (w0 : World) (i f : Nat) (done : Array Bool) (L : Z108) (M : List Ent) : Prop :=
 ∀ a w, Fr n L a → Mem w0 w M → wpOp P ops Q i (wpAny P .any ops Q f done) a w
theorem AW.nil (hr : Region.ready .any ops done = []) (h : QW n Q w0 .normal L M) : AW P n ops Q w0 0 done L M := fun a w fr m => ⟨hr, h.elim a w fr m⟩
theorem AW.one (i : Nat) (hr : Region.ready .any ops done = [i]) (h : AO P n ops Q w0 i f (done.setIfInBounds i true) L M) : AW P n ops Q w0 (f + 1) done L M := fun a w fr m =>
 ⟨(fun e => by rw [hr] at e; cases e), (fun j hj => by rw [hr] at hj; obtain rfl : j = i := by simpa using hj
                                                       exact h a w fr m)⟩
theorem AW.two (i j : Nat) (hr : Region.ready .any ops done = [i, j]) (h1 : AO P n ops Q w0 i f (done.setIfInBounds i true) L M) (h2 : AO P n ops Q w0 j f (done.setIfInBounds j true) L M) : AW P n ops Q w0 (f + 1) done L M := fun a w fr m =>
 ⟨(fun e => by rw [hr] at e; cases e), fun k hk => by
  rw [hr] at hk
  rcases (by simpa using hk : k = i ∨ k = j) with rfl | rfl
  ·exact h1 a w fr m
  ·exact h2 a w fr m⟩
theorem AO.rv {i : Nat} (ho : ops[i]? = some ⟨some d, op, ty, pos, aft, none⟩) (hop : RV P w0 L M op v) (hd : Nat.blt d n = true) (k : AW P n ops Q w0 f done ((d, v) :: L) M) : AO P n ops Q w0 i f done L M := fun a w fr m => by
 unfold wpOp
 rw [ho]
 refine (if_pos (by simp [Region.wanted])).mpr (.inl ?_)
 unfold Oper.wp
 rw [hop a.eval w (fun x u hx => fr.eval hx) m _ rfl]
 exact k _ _ (fr.put hd v) m
theorem AO.sv {i : Nat} {M' : List Ent} (ho : ops[i]? = some ⟨none, op, ty, pos, aft, none⟩) (hop : SV P w0 L M op M') (k : AW P n ops Q w0 f done L M') : AO P n ops Q w0 i f done L M := fun a w fr m => by
 unfold wpOp
 rw [ho]
 obtain ⟨w', hr, m'⟩ := hop a.eval w (fun x u hx => fr.eval hx) m ⟨none, op, ty, pos, aft, none⟩ rfl
 refine (if_pos (by simp [Region.wanted])).mpr (.inl ?_)
 unfold Oper.wp
 rw [hr]
 exact k _ _ fr m'
theorem AO.av {i : Nat} {τ : Type} {I : τ → Prop} {v : τ → Value} {M' : τ → List Ent} (ho : ops[i]? = some ⟨some d, op, ty, pos, aft, none⟩) (hop : AV P w0 L M op I v M') (hd : Nat.blt d n = true) (k : ∀ x, I x → AW P n ops Q w0 f done ((d, v x) :: L) (M' x)) : AO P n ops Q w0 i f done L M := fun a w fr m => by
 unfold wpOp
 rw [ho]
 obtain ⟨x, w', hI, hr, m'⟩ := hop a.eval w (fun x u hx => fr.eval hx) m ⟨some d, op, ty, pos, aft, none⟩ rfl
 refine (if_pos (by simp [Region.wanted])).mpr (.inl ?_)
 unfold Oper.wp
 rw [hr]
 exact k x hI _ _ (fr.put hd _) m'
theorem AO.alloc [Types P] {i : Nat} {e ty1 : TypeId} {ti : TI} {l : List Value} (ho : ops[i]? = some ⟨some d, .alloc e, ty1, pos, aft, none⟩) (hi : Fw.ty P e = some ti) (hl : ti.z.cells = l.toArray) (hd : Nat.blt d n = true) (k : ∀ b : Nat, AW P n ops Q w0 f done ((d, ptr (some b) 0) :: L) ((some b, blk l e) :: M)) : AO P n ops Q w0 i f done L M :=
 AO.av (τ := Nat) (I := fun _ => True) (v := fun b => ptr (some b) 0) (M' := fun b => (some b, blk l e) :: M) ho (fun ρ w hρ m o ho => ⟨w.heap.size, w.alloc (blk l e), trivial, by
  obtain ⟨_, ti, h1, h2, h3, h4⟩ := ty_ok hi
  simp [execOp, ho, Instr.alloc, zeroValue, typeInfo, h1, h4, newVar, newRow, ptr, blk, hl], m.alloc _⟩) hd (fun b _ => k b)
end
end Go.Fw
namespace Go.Fw
open Go
theorem skip_get {A L : List Value} {n m : Nat} {v : Value} (hA : A.length = n) (h : L[m]? = some v) : (A ++ L)[n + m]? = some v := by
 rw [List.getElem?_append_right (by omega), show n + m - A.length = m by omega]; exact h
theorem here_get {B C : List Value} {i : Nat} {v : Value} (h : B[i]? = some v) : (B ++ C)[i]? = some v := by
 have := (List.getElem?_eq_some_iff.1 h).1
 rw [List.getElem?_append_left this]; exact h
theorem skip_set {A L L' : List Value} {n m : Nat} {v : Value} (hA : A.length = n) (h : L.set m v = L') : (A ++ L).set (n + m) v = A ++ L' := by
 subst hA; subst h
 rw [List.set_append_right _ _ (by omega), show A.length + m - A.length = m by omega]
theorem here_set {B B' C : List Value} {i : Nat} {v : Value} (hi : i < B.length) (h : B.set i v = B') : (B ++ C).set i v = B' ++ C := by
 subst h
 rw [List.set_append_left _ _ hi]
theorem here_spl {B C cs : List Value} (h : cs.length = B.length) : spl (B ++ C) 0 cs = cs ++ C := by
 unfold spl
 rw [List.take_zero, List.nil_append, Nat.zero_add, h, List.drop_left]
end Go.Fw
namespace Go.Fw
open Go Go.RowKit
section
variable {P : Program} [Types P] {w0 : World} {L : Z108} {M : List Ent} {t e : TypeId} {x y z : Operand} {idx idx' : Int} {k k' : IntKind}
end
end Go.Fw
namespace Go.Fw
open Go Go.RowKit
section
variable {P : Program} [Types P] {n : Nat} {Q : Exit → Act → World → Prop} {w0 : World} {L : Z108} {M : List Ent} {ops : Array Oper} {rest : List Oper} {t e ty1 : TypeId} {x : Operand} {pos : String} {aft : Array Edge}
theorem OW.clear {b off len cap : Nat} {l : List Value} {te : TypeId} {i : TI} {z : Value} (hx : ev L x = some (sl (some b) off len cap)) (ht : tyU P t = some (.slice e)) (hi : Fw.ty P e = some i) (hz : i.z.cells = #[z]) (h1 : z.oneCell' = true) (hp : 0 < len) (hl : off + len ≤ l.length)
  (k : OW P n ops Q w0 rest L ((some b, blk (spl l off (List.replicate len z)) te) :: M)) :
  OW P n ops Q w0 (⟨none, .call ⟨.builtin .clear, #[x], #[t]⟩, ty1, pos, aft, none⟩ :: rest) L ((some b, blk l te) :: M) := by
 refine OW.av_none (τ := Unit) (I := fun _ => True) (v := fun _ => .tuple #[]) (M' := fun _ => (some b, blk (spl l off (List.replicate len z)) te) :: M) (fun ρ w hρ mm o ho => ?_) (fun _ _ => k)
 obtain ⟨_, ti, h1', h2, h3, h4⟩ := ty_ok hi
 have hv : ∀ w, (zeroValue e).run P w = .ok i.z w := fun w => by simp [zeroValue, typeInfo, h1', h4]
 have hzc : (Builtin.zeroCells i.z.cells len).toList = List.replicate len z := by
  rw [hz]
  simp [Builtin.zeroCells]
  apply List.ext_getElem
  ·simp
  ·intro i h1 h2
   simp [Nat.mod_one]
 have hm := mm.ents _ (List.mem_cons_self ..) b rfl
 have hst := run_storeCells_at (P := P) b off te (List.replicate len z) 0 l.toArray w hm.2 (by simpa using hl) (fun v hv => by rw [List.eq_of_mem_replicate hv]; exact h1)
 simp only [Nat.add_zero] at hst
 obtain ⟨m, rfl⟩ : ∃ m, len = m + 1 := ⟨len - 1, by omega⟩
 refine ⟨(), _, trivial, ?_, mm.turned (w' := w.setRow b (l.toArray.toList.take off ++ List.replicate (m + 1) z ++ l.toArray.toList.drop (off + (List.replicate (m + 1) z).length)).toArray) rfl rfl rfl (by simp [World.setRow]) ?_ ?_⟩
 ·simp [execOp, ho, resolve, hρ x _ hx, invoke, builtin, Builtin.clear_, tyU_run ht, sl, hv, hzc, hst]
 ·intro b' hb'
  cases hb'
  rw [setRow_heap w b l.toArray _ te (0, 0) hm.2]
  simp [blk, spl]
 ·intro kk hk
  exact setRow_other _ _ _ _ (fun e => hk (by rw [e]))
end
end Go.Fw
namespace Go.Fw
end Go.Fw
namespace Go.Fw
open Go
structure Sponge where
 kind : Int
 lanes : Vector (BitVec 64) 25
 part : Vector (BitVec 8) 136
 held : Int
 long : Int
def Sponge.C (s : Sponge) : List Value := [.int .i64 s.kind] ++ (u64s s.lanes.toList ++ (u8s s.part.toList ++ ([.int .i64 s.held] ++ ([.int .i64 s.long]))))
theorem Sponge.C_length (s : Sponge) : s.C.length = 164 := by simp [Sponge.C, u64s_length, Z100]
theorem Sponge.C_one (s : Sponge) : ∀ u ∈ s.C, u.oneCell' = true := by
 intro u hu
 simp only [Sponge.C, List.mem_append, List.mem_singleton] at hu
 rcases hu with rfl | hu | hu | rfl | rfl
 ·rfl
 ·exact u64s_one _ u hu
 ·exact u8s_one _ u hu
 ·rfl
 ·rfl
end Go.Fw
namespace Go.Fw
mutual
def It.sz : It → Nat
 | .mk _ _ its => 1 + Its.sz its
def Its.sz : List It → Nat
 | [] => 0
 | x :: xs => It.sz x + Its.sz xs
end
structure Hd where
 list : Bool
 fr : Nat
 to : Nat
def HdRd (Φ : Ctx) (cs : List Value) (h : Hd) : Prop := cs = [.bool h.list, .int .i64 ((h.fr : Nat) : Int), .int .i64 ((h.to : Nat) : Int)] ∧ h.fr ≤ 9223372036854775807 ∧ h.to ≤ 9223372036854775807
theorem HdRd.opn {Φ : Ctx} {cs : List Value} {h : Hd} (r : HdRd Φ cs h) : cs = [.bool h.list, .int .i64 ((h.fr : Nat) : Int), .int .i64 ((h.to : Nat) : Int)] ∧ h.fr ≤ 9223372036854775807 ∧ h.to ≤ 9223372036854775807 := r
theorem HdRd.mk {Φ : Ctx} {l : Bool} {f t : Nat} (h1 : f ≤ 9223372036854775807) (h2 : t ≤ 9223372036854775807) : HdRd Φ [.bool l, .int .i64 ((f : Nat) : Int), .int .i64 ((t : Nat) : Int)] ⟨l, f, t⟩ := ⟨rfl, h1, h2⟩
theorem HdRd.mono {Φ Ψ : Ctx} (hh : ∀ w, Ψ w → Φ w) (cs : List Value) (h : Hd) : HdRd Φ cs h → HdRd Ψ cs h := fun r => r
end Go.Fw
namespace Go.Fw
open Go Go.RowKit
def room9 (x : List (BitVec 8)) : List (BitVec 8) := x ++ List.replicate 9 165#8
structure Room (Φ : Ctx) (A : Option Addr) (x : List (BitVec 8)) : Prop where
 full : View Φ A (x.length + 9) (x.length + 9) 1 (u8s (room9 x))
theorem Room.mono {Φ Ψ : Ctx} {A : Option Addr} {x : List (BitVec 8)} (h : Room Φ A x) (hh : ∀ w, Ψ w → Φ w) : Room Ψ A x := ⟨h.full.mono hh⟩
theorem Room.view {Φ : Ctx} {A : Option Addr} {x : List (BitVec 8)} (h : Room Φ A x) : View Φ A x.length (x.length + 9) 1 (u8s x) := by
 have h1 := h.full.hi (k := x.length) (by omega)
 rw [Nat.mul_one, show (u8s (room9 x)).take x.length = u8s x by simp [u8s, room9]] at h1
 exact h1
end Go.Fw
namespace Go.Fw
open Go Go.RowKit
def RmRd (Φ : Ctx) (cs : List Value) (x : List (BitVec 8)) : Prop := ∃ A, cs = [.slice A x.length (x.length + 9)] ∧ Room Φ A x
theorem RmRd.mono {Φ Ψ : Ctx} (hh : ∀ w, Ψ w → Φ w) (cs : List Value) (x : List (BitVec 8)) : RmRd Φ cs x → RmRd Ψ cs x := fun ⟨A, h1, h2⟩ => ⟨A, h1, h2.mono hh⟩
theorem RmRd.len {Φ : Ctx} (cs : List Value) (x : List (BitVec 8)) (h : RmRd Φ cs x) : cs.length = 1 := by obtain ⟨A, rfl, _⟩ := h; rfl
theorem RmRd.one {Φ : Ctx} (cs : List Value) (x : List (BitVec 8)) (h : RmRd Φ cs x) : ∀ u ∈ cs, u.oneCell' = true := by
 obtain ⟨A, rfl, _⟩ := h
 intro u hu; simp at hu; subst hu; rfl
theorem RmRd.mk {Φ : Ctx} {A : Option Addr} {x : List (BitVec 8)} (h : Room Φ A x) : RmRd Φ [.slice A x.length (x.length + 9)] x := ⟨A, rfl, h⟩
theorem RmRd.bs {Φ : Ctx} (cs : List Value) (x : List (BitVec 8)) (h : RmRd Φ cs x) : BsRd Φ cs x := by
 obtain ⟨A, h1, h2⟩ := h
 exact ⟨A, _, h1, h2.view⟩
end Go.Fw
namespace Go.Fw
end Go.Fw
namespace Go.Fw
open Go Go.RowKit
section
variable {P : Program} [Types P] {n : Nat} {Q : Exit → Act → World → Prop} {w0 : World} {L : Z108} {M R : List Ent} {x y : Operand} {t e : TypeId}
theorem AV.append {i : TI} {ob : Option Nat} {len cap m c s : Nat} {l r vs : List Value} {B : Option Addr} {t2 e2 : TypeId} (hx : ev L x = some (sl ob 0 len cap)) (hy : ev L y = some (.slice B m c)) (ht : tyU P t = some (.slice e)) (hi : ty P e = some i) (hs : i.sz = s) (ht2 : tyU P t2 = some (.slice e2))
  (hl : l.length = len * s) (hr : (l ++ r).length = cap * s) (hn : ob = none → cap = 0) (hR : Mem.Says w0 ((ob, blk (l ++ r) e) :: M) (fun w => Rd w B vs)) (hvl : vs.length = m * s) (hv1 : ∀ u ∈ vs, u.oneCell' = true) (hB : B = none → m = 0) (hspos : 0 < s)
  (h63 : len + m ≤ 9223372036854775807) (hb : (len + m) * i.bytes ≤ 140737488355328) (hz : i.z.cells.size = s) :
  AV P w0 L ((ob, blk (l ++ r) e) :: M) (.call ⟨.builtin .append, #[x, y], #[t, t2]⟩) (τ := Option Nat × List Value × Nat) (fun q => (l ++ vs ++ q.2.1).length = q.2.2 * s ∧ (q.1 = none → q.2.2 = 0)) (fun q => sl q.1 0 (len + m) q.2.2) (fun q => (q.1, blk (l ++ vs ++ q.2.1) e) :: M) := by
 intro ρ w hρ mm o ho
 obtain ⟨hu, ti, g1, g2, g3, g4⟩ := ty_ok hi
 have hrd := hR w mm
 have hsrc : Src P ti.size t2 (.slice B m c) m vs w := by rw [g2, hs]; exact rd_src ht2 hrd hvl hv1 hB
 have hrun : ∀ (v' : Value) (w' : World), (Builtin.append_ #[t, t2] o.type #[sl ob 0 len cap, .slice B m c]).run P w = .ok v' w' → (execOp ρ o).run P w = .ok (.value v') w' := fun v' w' hh => by
  simp [execOp, ho, resolve, hρ x _ hx, hρ y _ hy, invoke, builtin, hh]
 have hsz : ti.size = s := by rw [g2, hs]
 by_cases hroom : len + m ≤ cap
 ·-- it fits
  cases ob with
  | none =>
   have hc0 := hn rfl
   subst hc0
   have hm0 : m = 0 := by omega
   have hl0 : len = 0 := by omega
   subst hm0 hl0
   have hv0 : vs = [] := List.length_eq_zero_iff.1 (by simpa using hvl)
   subst hv0
   have e1 : l = [] := List.length_eq_zero_iff.1 (by simpa using hl)
   subst e1
   refine ⟨(none, r, 0), w, ⟨by simpa using hr, fun _ => rfl⟩, hrun _ _ ?_, ?_⟩
   ·exact run_append_nothing w t t2 o.type e ti (tyU_ok ht) g1 none 0 0 (Nat.le_refl _) _ hsrc
   ·exact mm.tail.nil_ent _
  | some b =>
   have hm := mm.ents _ (List.mem_cons_self ..) b rfl
   have hlen : l.length + vs.length ≤ (l ++ r).length := by rw [hl, hvl, hr, ← Nat.add_mul]; exact Nat.mul_le_mul_right _ hroom
   have hra := run_append_room_src (P := P) w t t2 o.type e ti (tyU_ok ht) g1 b 0 len cap (.slice B m c) m vs hsrc hroom (fun j hj => by
     rw [mm.cell (List.mem_cons_self ..), hsz]
     have : 0 + len * s + j < (l ++ r).length := by omega
     rw [List.getElem?_eq_getElem this]; rfl) (fun j hj => mm.notFrozen (List.mem_cons_self ..) _)
   rw [hsz] at hra
   have hset : w.setCells b (0 + len * s) vs = w.setRow b ((l ++ r).toArray.toList.take (0 + len * s) ++ vs ++ (l ++ r).toArray.toList.drop (0 + len * s + vs.length)).toArray := by
    have q1 := run_storeCells_at (P := P) b (0 + len * s) e vs 0 (l ++ r).toArray w hm.2 (by simp; simp at hlen; omega) hv1
    have q2 := run_storeCells_cells (P := P) b (0 + len * s) vs 0 w (fun j hj => by
     rw [mm.cell (List.mem_cons_self ..)]
     have : 0 + len * s + 0 + j < (l ++ r).length := by omega
     rw [List.getElem?_eq_getElem this]; rfl) (fun j hj => mm.notFrozen (List.mem_cons_self ..) _) hv1
    rw [q1] at q2
    simp only [Nat.add_zero] at q2
    injection q2 with _ q3
    exact q3.symm
   rw [hset] at hra
   refine ⟨(some b, r.drop vs.length, cap), _, ⟨?_, fun h => by cases h⟩, hrun _ _ (by simpa [sl] using hra), mm.turned (w' := w.setRow b _) rfl rfl rfl (by simp [World.setRow]) ?_ ?_⟩
   ·rw [← hr]; simp at hlen ⊢; omega
   ·intro b' hb'
    cases hb'
    rw [setRow_heap w b (l ++ r).toArray _ e (0, 0) hm.2]
    simp only [blk]
    simp [← hl, List.drop_append]
   ·intro kk hk
    exact setRow_other _ _ _ _ (fun e => hk (by rw [e]))
 ·-- it grows
  have hold : (Builtin.firstCells ti.size len (sl ob 0 len cap)).run P w.drew = .ok l.toArray w.drew := by
   cases ob with
   | none =>
    have hc0 := hn rfl
    have e0 : (l ++ r).length = 0 := by rw [hr, hc0]; simp
    have e1 : l = [] := by cases l with | nil => rfl | cons a b => simp at e0
    subst e1
    simp [sl, Builtin.firstCells]
   | some b =>
    have := run_firstCells_some (P := P) w.drew ti.size len ⟨b, 0, none⟩ len cap l (by rw [hsz]; exact hl) (fun j u hj => by
     rw [Z102, (mm.drew).cell (List.mem_cons_self ..)]
     have hj' : j < l.length := (List.getElem?_eq_some_iff.1 hj).1
     rw [Nat.zero_add, List.getElem?_append_left hj']; exact hj)
    exact this
  have hg := run_append_grow_src (P := P) w t t2 o.type e ti i.z (tyU_ok ht) g1 g4 (ob.map fun k => ⟨k, 0, none⟩) len cap l hold (.slice B m c) m vs hsrc (by omega) (by omega)
   (growslice_fits (by omega) (by rw [g3]; exact hb))
  refine ⟨(some w.heap.size, (Builtin.zeroCells i.z.cells (grownCap w (len + m) cap e - (len + m))).toList, grownCap w (len + m) cap e), _, ⟨?_, fun h => by cases h⟩, hrun _ _ (by simpa [sl] using hg), ?_⟩
  ·have hge := grownCap_ge w (len + m) cap e
   simp only [List.length_append, Array.length_toList, size_zeroCells, hz, hl, hvl]
   rw [← Nat.add_mul, ← Nat.add_mul]
   congr 1; omega
  ·have := mm.drew.tail.alloc (blk (l ++ vs ++ (Builtin.zeroCells i.z.cells (grownCap w (len + m) cap e - (len + m))).toList) e)
   have e3 : (.cells ((l ++ vs).toArray ++ Builtin.zeroCells i.z.cells (grownCap w (len + m) cap e - (len + m))) e : Obj) = blk (l ++ vs ++ (Builtin.zeroCells i.z.cells (grownCap w (len + m) cap e - (len + m))).toList) e := by
    unfold blk
    congr 1
    apply Array.ext'
    simp
   rw [e3]
   exact this
theorem AV.appendOwn {i : TI} {ob : Option Nat} {len cap m c s : Nat} {l r vs : List Value} {B : Option Addr} {t2 e2 : TypeId} (hx : ev L x = some (sl ob 0 len cap)) (hy : ev L y = some (.slice B m c)) (ht : tyU P t = some (.slice e)) (hi : ty P e = some i) (hs : i.sz = s) (ht2 : tyU P t2 = some (.slice e2))
  (hl : OwnS ob len cap s l r) (hR : Mem.Says w0 ((ob, blk (l ++ r) e) :: M) (fun w => Rd w B vs)) (hvl : vs.length = m * s) (hv1 : ∀ u ∈ vs, u.oneCell' = true) (hB : B = none → m = 0) (hspos : 0 < s)
  (hby : 0 < i.bytes) (hb : (len + m) * i.bytes ≤ 140737488355328) (hz : i.z.cells.size = s) (len' : Nat) (l' : List Value) (hlen : len + m = len') (hcs : l ++ vs = l') :
  AV P w0 L ((ob, blk (l ++ r) e) :: M) (.call ⟨.builtin .append, #[x, y], #[t, t2]⟩) (τ := Option Nat × List Value × Nat) (fun q => OwnS q.1 len' q.2.2 s l' q.2.1) (fun q => sl q.1 0 len' q.2.2) (fun q => (q.1, blk (l' ++ q.2.1) e) :: M) := by
 have hm : len + m ≤ (len + m) * i.bytes := Nat.le_mul_of_pos_right _ hby
 subst hlen hcs
 intro ρ w hρ mm o ho
 obtain ⟨q, w', h1, h2, h3⟩ := AV.append (P := P) hx hy ht hi hs ht2 hl.n hl.hr hl.hn hR hvl hv1 hB hspos (by omega) hb hz ρ w hρ mm o ho
 exact ⟨q, w', ⟨by rw [List.length_append, hl.n, hvl, Nat.add_mul], h1.1, h1.2, by omega⟩, h2, h3⟩
variable {ops : Array Oper} {hard : List Nat} {f : Nat} {done : Array Bool} {op : Op} {ty : TypeId} {pos : String} {aft : Array Edge} {d : Nat}
theorem XW.av (i : Nat) {τ : Type} {I : τ → Prop} {v : τ → Value} {M' : τ → List Ent} (ho : ops[i]? = some ⟨some d, op, ty, pos, aft, none⟩) (hr : (Region.ready .any ops done == [i] && hard.contains i) = true) (hop : AV P w0 L M op I v M') (hMR : ∀ x, I x → ∀ w, Mem w0 w (M' x) → Mem w0 w R) (hd : Nat.blt d n = true)
  (k : ∀ x, I x → XW P n ops Q w0 R hard f (done.setIfInBounds i true) ((d, v x) :: L) (M' x)) : XW P n ops Q w0 R hard (f + 1) done L M := by
 unfold XW at *
 intro hR hB inv a w fr mm
 simp only [Bool.and_eq_true, beq_iff_eq] at hr
 obtain ⟨hr, hi⟩ := hr
 have him : i < ops.size := (Array.getElem?_eq_some_iff.1 ho).1
 refine ⟨by rw [hr]; simp, fun j hj => ?_⟩
 rw [hr] at hj
 obtain rfl : j = i := by simpa using hj
 refine ⟨him, _, ho, .inl ⟨by simp [Region.wanted], ?_⟩⟩
 obtain ⟨x, w', hI, hrun, m'⟩ := hop a.eval w (fun x u hx => fr.eval hx) mm ⟨some d, op, ty, pos, aft, none⟩ rfl
 rw [hrun]
 refine ⟨?_, k x hI (hMR x hI) hB (inv.set (by rw [hr]; simp) him) _ _ (fr.put hd _) m'⟩
 unfold Rl
 rw [if_pos hi]
 exact fun _ => hMR x hI _ m'
theorem XW.appendOwn (i : Nat) {ti : TI} {ob : Option Nat} {len cap m c s : Nat} {l r vs : List Value} {B : Option Addr} {t2 e2 : TypeId} (ho : ops[i]? = some ⟨some d, .call ⟨.builtin .append, #[x, y], #[t, t2]⟩, ty, pos, aft, none⟩) (hr : (Region.ready .any ops done == [i] && hard.contains i) = true)
  (hx : ev L x = some (sl ob 0 len cap)) (hy : ev L y = some (.slice B m c)) (ht : tyU P t = some (.slice e)) (hi : Fw.ty P e = some ti) (hs : ti.sz = s) (ht2 : tyU P t2 = some (.slice e2))
  (hl : OwnS ob len cap s l r) (hR : Mem.Says w0 ((ob, blk (l ++ r) e) :: M) (fun w => Rd w B vs)) (hvl : vs.length = m * s) (hv1 : ∀ u ∈ vs, u.oneCell' = true) (hB : B = none → m = 0) (hspos : 0 < s)
  (hby : 0 < ti.bytes) (hb : (len + m) * ti.bytes ≤ 140737488355328) (hz : ti.z.cells.size = s) (len' : Nat) (l' : List Value) (hlen : len + m = len') (hcs : l ++ vs = l') (hMR : ∀ w, Mem w0 w M → Mem w0 w R) (hd : Nat.blt d n = true)
  (k : ∀ (ob' : Option Nat) (r' : List Value) (cap' : Nat), OwnS ob' len' cap' s l' r' → XW P n ops Q w0 R hard f (done.setIfInBounds i true) ((d, sl ob' 0 len' cap') :: L) ((ob', blk (l' ++ r') e) :: M)) : XW P n ops Q w0 R hard (f + 1) done L ((ob, blk (l ++ r) e) :: M) :=
 XW.av i ho hr (AV.appendOwn hx hy ht hi hs ht2 hl hR hvl hv1 hB hspos hby hb hz len' l' hlen hcs) (fun q _ w m => hMR w m.tail) hd (fun q hq => k q.1 q.2.1 q.2.2 hq)
end
end Go.Fw
namespace Go.Fw
open Go
theorem MRoom.view {Φ : Ctx} {A : Option Addr} {c : Nat} {x y : List (BitVec 8)} (h : View Φ A (x ++ y).length c 1 (u8s (x ++ y))) : View Φ A x.length c 1 (u8s x) := by
 have h1 := h.hi (k := x.length) (by rw [List.length_append]; omega)
 rwa [Nat.mul_one, show (u8s (x ++ y)).take x.length = u8s x by simp [u8s]] at h1
end Go.Fw
namespace Go.Fw
open Go
def lentN (n : Nat) (x : List (BitVec 8)) : Option (List (BitVec 8)) := if x.length + n ≤ 140737488355328 then some x else none
def waybilllaw17_lent (x : List (BitVec 8)) : Option (List (BitVec 8)) := lentN 70 x
def mkd (n : Nat) (m : BitVec 8) (x : List (BitVec 8)) (i : Nat) : List (BitVec 8) := x ++ (List.replicate (i - x.length) m ++ List.replicate (x.length + n - i) 0#8)
theorem mkd_length {n : Nat} {m : BitVec 8} {x : List (BitVec 8)} {i : Nat} (h1 : x.length ≤ i) (h2 : i ≤ x.length + n) : (mkd n m x i).length = x.length + n := by simp [mkd]; omega
theorem mkd_end (n : Nat) (m : BitVec 8) (x : List (BitVec 8)) : mkd n m x (x.length + n) = x ++ List.replicate n m := by simp [mkd]
theorem mkd_set {n : Nat} {m : BitVec 8} {x : List (BitVec 8)} {i : Nat} (h1 : x.length ≤ i) (h2 : i < x.length + n) : (mkd n m x i).set i m = mkd n m x (i + 1) := by
 unfold mkd
 rw [List.set_append_right _ _ h1, List.set_append_right _ _ (by simp), List.length_replicate]
 congr 1
 rw [show i - x.length - (i - x.length) = 0 by omega, show x.length + n - i = (x.length + n - (i + 1)) + 1 by omega, List.replicate_succ, List.set_cons_zero, show i + 1 - x.length = (i - x.length) + 1 by omega, List.replicate_succ' (n := i - x.length)]
 simp
theorem mkd_copy {n : Nat} {m : BitVec 8} {x : List (BitVec 8)} {k : Nat} (hk : k = x.length) : spl (List.replicate (x.length + n) (Value.int .u8 0)) 0 ((u8s x).take k) = u8s (mkd n m x x.length) := by
 subst hk
 have h1 : (u8s x).take x.length = u8s x := List.take_of_length_le (by rw [Z100]; omega)
 rw [h1, spl_front _ _ (by simp [u8s]), Z100]
 simp [mkd, u8s, U8]
end Go.Fw
namespace Go.Fw.Tryd
open Go Go.Proofs
theorem waybilllaw17_lent_raw (w0 : World) (Φ : Ctx) (N : List Ent) (hΦ : ∀ w, Mem w0 w N → Φ w) (A0 : Option Addr) (c0 : Nat) (a0 : List (BitVec 8)) (res0 : List (BitVec 8)) (va0 : View Φ A0 a0.length c0 1 (u8s a0)) (hf : waybilllaw17_lent a0 = some res0) :
  DoesG Tryd.prog 38 [.slice A0 a0.length c0] w0 [] N (fun v G => ∃ b : Nat, OwnS (some b) res0.length (res0.length + 70) 1 (u8s res0) (u8s (List.replicate 70 195#8) ++ []) ∧ (res0.length + 70 ≤ 140737488355328) ∧ v = sl (some b) 0 res0.length (res0.length + 70) ∧ G = [(some b, blk (u8s res0 ++ (u8s (List.replicate 70 195#8) ++ [])) 5)]) := by
 unfold waybilllaw17_lent lentN at hf
 obtain ⟨hb, hf⟩ := some_if hf
 cases hf
 refine DoesG.enter Tryd.func38 rfl Tryd.ntmps38 rfl (M := N) rfl (Z4 (Z2 (Z0 (Z5 rfl) rfl (Z6 ?_))))
 (refine Z1 ?_; refine Z4 ?_)
 refine Z2 (Z0 (Z3 rfl) rfl (Z0 (RV.len rfl rfl) rfl (Z0 (Z3 rfl) rfl (Z0 (RV.len rfl rfl) rfl (Z0 (RV.add rfl rfl (by omega)) rfl (OW.make (a0.length) (a0.length + 70) rfl rfl rfl rfl rfl rfl rfl rfl (by omega) (by simp only [i5]; omega) (by omega) rfl (fun b8 => (Z0 (Z5 rfl) rfl ?_))))))))
 refine Z6 ?_
 (refine Z1 ?_; refine Z4 ?_)
 refine Z2 (Z0 (Z3 rfl) rfl (Z0 (Z3 rfl) rfl (OW.copy (ob := some b8) (off := 0) (l := List.replicate (a0.length + 70) (Value.int .u8 0)) (te := 5) rfl rfl rfl rfl (fun h => nomatch h) (by rw [List.length_replicate]; omega) (fun w m => va0.rd w (hΦ w m.tail)) (Z100 _) (u8s_one _) (va0.zero (by decide)) rfl (Z6 ?_))))
 (refine Z1 ?_; refine Z4 ?_)
 refine CW.mem (M' := (some b8, blk (u8s (mkd 70 195#8 a0 a0.length)) 5) :: N) (fun w m => by rw [mkd_copy (n := 70) (m := 195#8) (by omega)] at m; exact m) ?_
 refine Z2 (Z0 (Z3 rfl) rfl (Z0 (Z3 rfl) rfl (Z0 (RV.len rfl rfl) rfl (Z0 (RV.add rfl rfl (by omega)) rfl (Z0 (RV.cut_o _ rfl rfl rfl rfl rfl (by omega)) rfl (Z0 (Z5 rfl) rfl (Z6 ?_)))))))
 (refine Z1 ?_; refine Z4 ?_; refine Z4 ?_)
 refine Z2 (Z0 (Z3 rfl) rfl (Z0 (RV.len rfl rfl) rfl (Z0 (Z5 rfl) rfl (Z6 ?_))))
 (refine Z1 ?_; refine CW.block ?_)
 refine CW.loop (σ := Nat) (fun i => a0.length ≤ i ∧ i ≤ a0.length + 70) (fun i => [(3, sl (some b8) 0 (a0.length) (a0.length + 70)), (4, sl (some b8) 0 (a0.length + 70) (a0.length + 70)), (5, .int .i64 (i : Int))]) (fun i => (some b8, blk (u8s (mkd 70 195#8 a0 i)) 5) :: N) (fun i => a0.length + 70 - i) a0.length ⟨by omega, by omega⟩ ⟨rfl, rfl, rfl, trivial⟩ (fun _ m => m) ?_
 rintro i ⟨h1, h2⟩
 have hlen := mkd_length (n := 70) (m := 195#8) h1 h2
 (refine Z4 ?_; refine Z4 ?_)
 refine Z2 (Z0 (Z3 rfl) rfl (Z0 (Z3 rfl) rfl (Z0 (RV.len rfl rfl) rfl (Z0 (RV.lss rfl rfl) rfl (Z6 (Z1 ?_))))))
 refine CW.cond_p rfl (fun hlt => ?_) (fun hlt => ?_)
 ·have hi : i < a0.length + 70 := by omega
  have hl : 0 + i < (u8s (mkd 70 195#8 a0 i)).length := by rw [Z100]; omega
  (refine CW.skip ?_; refine Z1 ?_; refine Z4 ?_; refine CW.block ?_)
  refine Z2 (Z0 (Z3 rfl) rfl (Z0 (Z3 rfl) rfl (Z0 (RV.idx_o _ rfl rfl rfl rfl rfl rfl (by omega)) rfl (Z28 (SV.store rfl rfl rfl rfl rfl (by assumption)) (Z6 ?_)))))
  (refine Z27 ?_; refine Z1 ?_)
  refine Z2 (Z0 (Z3 rfl) rfl (Z0 (RV.add rfl rfl (by omega)) rfl (Z0 (Z5 rfl) rfl (Z6 (QW.again (i + 1) ⟨by omega, by omega⟩ (by omega) ⟨rfl, rfl, rfl, trivial⟩ (fun _ m => ?_))))))
  rw [Nat.zero_add] at m
  rw [← mkd_set h1 hi, ← u8s_set']
  exact m
 ·have hi : i = a0.length + 70 := by omega
  subst hi
  rw [mkd_end]
  (refine CW.exit ?_; refine Z9 ?_; refine Z9 ?_; refine Z15 ?_; refine Z1 ?_; refine Z4 ?_)
  refine Z2 (Z0 (Z3 rfl) rfl (Z0 (Z5 rfl) rfl (Z6 ?_)))
  (refine Z1 ?_; refine CW.ret ?_)
  refine Z111 (rs := [.tmp 2]) [sl (some b8) 0 a0.length (a0.length + 70)] [(some b8, blk (u8s a0 ++ (u8s (List.replicate 70 195#8) ++ [])) 5)] rfl ?_ rfl ?_ ?_ _ (.inl rfl)
  ·exact ⟨rfl, trivial⟩
  ·exact ⟨b8, ⟨by rw [Z100]; omega, by rw [List.append_nil, u8s_app, Z100, List.length_append, List.length_replicate]; omega, (fun h => nomatch h), by omega⟩, hb, rfl, rfl⟩
  ·exact fun w m => by rw [List.append_nil, u8s_app]; exact m
end Go.Fw.Tryd
namespace Go.Fw
open Go Go.RowKit
theorem Z118 {L : Z108} {d k : Nat} {u : Value} (h : d ≠ k) : lk ((d, u) :: L) k = lk L k := by
 simp only [lk]
 split
 ·rename_i e; exact absurd (by simpa using e) h
 ·rfl
theorem nbeq {a b : Nat} (h : Nat.beq a b = false) : a ≠ b := fun e => by subst e; simp at h
theorem lk_swap {L : Z108} {d e q : Nat} {u v w : Value} (h : d ≠ e) (hq : lk ((e, u) :: (d, v) :: L) q = some w) : lk ((d, v) :: (e, u) :: L) q = some w := by
 by_cases h1 : e = q
 ·subst h1
  rw [Z118 h]
  simpa [lk] using hq
 ·rw [Z118 h1] at hq
  by_cases h2 : d = q
  ·subst h2; simpa [lk] using hq
  ·rw [Z118 h2] at hq ⊢
   rw [Z118 h1]; exact hq
theorem lk_mono {L : Z108} {d : Nat} {u : Value} (h : lk L d = none) : ∀ k v, lk L k = some v → lk ((d, u) :: L) k = some v := fun k v hk => by
 rw [Z118 (fun e => by subst e; rw [h] at hk; cases hk)]; exact hk
theorem ev_mono {L L' : Z108} (h : ∀ k v, lk L k = some v → lk L' k = some v) {x : Operand} {v : Value} (hx : ev L x = some v) : ev L' x = some v := by
 cases x with
 | tmp t => exact h t v hx
 | const c => exact hx
 | global g => exact hx
 | func f => exact hx
theorem evs_mono {L L' : Z108} (h : ∀ k v, lk L k = some v → lk L' k = some v) : ∀ (l : List Operand) (vs : List Value), evs L l = some vs → evs L' l = some vs
 | [], vs, e => e
 | x :: r, vs, e => by
  simp only [evs] at e ⊢
  split at e
  ·rename_i u hu
   rw [ev_mono h hu]
   split at e
   ·rename_i us hus
    rw [evs_mono h r us hus]
    exact e
   ·cases e
  ·cases e
theorem Mem.under {w0 : World} {M M' : List Ent} (hs : ∀ w, Mem w0 w M → Mem w0 w M') {b : Nat} {l : List Value} {t : TypeId} {w : World} (m : Mem w0 w ((some b, blk l t) :: M)) : Mem w0 w ((some b, blk l t) :: M') := by
 have m1 := hs w m.tail
 obtain ⟨hb, hw⟩ := m.ents _ (List.mem_cons_self ..) b rfl
 have hlt : b < w.heap.size := (Array.getElem?_eq_some_iff.1 hw).1
 refine ⟨m.os, m.tape, m.output, m.size, m.old, fun e he b' hb' => ?_, List.pairwise_cons.2 ⟨fun e he b' h1 h2 => ?_, m1.apart⟩⟩
 ·rcases List.mem_cons.1 he with rfl | he
  ·exact m.ents _ (List.mem_cons_self ..) b' hb'
  ·exact m1.ents e he b' hb'
 ·obtain rfl : b = b' := by simpa using h1
  have hne : ∀ x ∈ M, ∀ b', x.1 = some b' → b' ≠ b := fun x hx b' h3 e => (List.pairwise_cons.1 m.apart).1 x hx b rfl (by rw [h3, e])
  have m2 : Mem w0 { w with heap := w.heap.set b (blk (undef :: l) t) hlt } M := by
   refine ⟨m.os, m.tape, m.output, by simpa using m.size, fun b' h => ?_, fun x hx b' h3 => ?_, m.tail.apart⟩
   ·show (w.heap.set b _ hlt)[b']? = _
    rw [Array.getElem?_set_ne hlt (by omega)]
    exact m.old b' h
   ·obtain ⟨h4, h5⟩ := m.tail.ents x hx b' h3
    refine ⟨h4, ?_⟩
    show (w.heap.set b _ hlt)[b']? = _
    rw [Array.getElem?_set_ne hlt (fun e => hne x hx b' h3 e.symm)]
    exact h5
  have q1 := (m1.ents e he b h2).2
  have q2 := ((hs _ m2).ents e he b h2).2
  have q3 : (w.heap.set b (blk (undef :: l) t) hlt)[b]? = some (blk (undef :: l) t) := Array.getElem?_set_self hlt
  have q4 : some (blk (undef :: l) t) = some (blk l t) := (q3.symm.trans q2).trans (q1.symm.trans hw)
  simp [blk] at q4
section
variable {P : Program} {n : Nat} {Q : Exit → Act → World → Prop} {w0 : World} {L : Z108} {M R : List Ent}
variable {ops : Array Oper} {hard : List Nat} {f : Nat} {done : Array Bool} {op opp : Op} {ty typ : TypeId} {pos posp : String} {aft aftp : Array Edge} {g : Option (Nat × Bool)} {d dp p : Nat} {v : Value} {fv : Nat → Value} {l : List Value} {te : TypeId}
theorem XW.sub {L' : Z108} (hs : ∀ k v, lk L' k = some v → lk L k = some v) (k : XW P n ops Q w0 R hard f done L' M) : XW P n ops Q w0 R hard f done L M := by
 unfold XW at *
 exact fun hR hB inv a w fr mm => k hR hB inv a w (fr.sub hs) mm
def XWp (P : Program) (n : Nat) (ops : Array Oper) (Q : Exit → Act → World → Prop) (w0 : World) (R : List Ent) (hard : List Nat) (p dp : Nat) (fv : Nat → Value) (l : List Value) (te : TypeId) (f : Nat) (done : Array Bool) (L : Z108) (M : List Ent) : Prop :=
 (∃ op ty pos aft, ops[p]? = some ⟨some dp, op, ty, pos, aft, none⟩ ∧ NV P w0 [] [] op fv l te ∧ Nat.blt dp n = true) → lk L dp = none →
  XW P n ops Q w0 R hard (f + 1) done L M ∧ ∀ b, XW P n ops Q w0 R hard f (done.setIfInBounds p true) ((dp, fv b) :: L) ((some b, blk l te) :: M)
theorem NV.any (h : NV P w0 [] [] op fv l te) : NV P w0 L M op fv l te := fun ρ w hρ m o ho => h ρ w (fun x u hx => hρ x u (ev_mono (fun k v hk => by simp [lk] at hk) hx)) (m.sublist (List.nil_sublist _)) o ho
theorem XWp.slot (v' : Value) (hv : v = v') (k : XWp P n ops Q w0 R hard p dp fv l te f done ((d, v') :: L) M) : XWp P n ops Q w0 R hard p dp fv l te f done ((d, v) :: L) M := by subst hv; exact k
theorem XWp.mem {M' : List Ent} (hs : ∀ w, Mem w0 w M → Mem w0 w M') (hMR : ∀ w, Mem w0 w M' → Mem w0 w R) (k : XWp P n ops Q w0 R hard p dp fv l te f done L M') : XWp P n ops Q w0 R hard p dp fv l te f done L M := fun hp hl =>
 ⟨Z19 hs hMR (k hp hl).1, fun b => Z19 (fun w m => m.under hs) (fun w m => hMR w m.tail) ((k hp hl).2 b)⟩
theorem RV.more {L' : Z108} {M' : List Ent} (hL : ∀ k v, lk L k = some v → lk L' k = some v) (hM : ∀ w, Mem w0 w M' → Mem w0 w M) (h : RV P w0 L M op v) : RV P w0 L' M' op v := fun ρ w hρ m o ho => h ρ w (fun x u hx => hρ x u (ev_mono hL hx)) (hM w m) o ho
theorem XWp.rs (i : Nat) (ho : ops[i]? = some ⟨some d, op, ty, pos, aft, none⟩) (hr : (XR ops done i && XR ops (done.setIfInBounds p true) i && !Nat.beq d dp && !Nat.beq i p) = true) (hw : Wt ops L none = true) (hop : RV P w0 L R op v) (hd : Nat.blt d n = true) (k : XWp P n ops Q w0 R hard p dp fv l te f (done.setIfInBounds i true) ((d, v) :: L) M) : XWp P n ops Q w0 R hard p dp fv l te (f + 1) done L M := fun hp hl => by
 simp only [Bool.and_eq_true, Bool.not_eq_true'] at hr
 obtain ⟨⟨⟨h1, h2⟩, h3⟩, h4⟩ := hr
 have hl' : lk ((d, v) :: L) dp = none := by rw [Z118 (nbeq h3)]; exact hl
 obtain ⟨k1, k2⟩ := k hp hl'
 refine ⟨Z10 i ho h1 rfl hop hd k1, fun b => Z10 i ho h2 rfl (hop.more (lk_mono hl) fun _ m => m) hd ?_⟩
 rw [Array.setIfInBounds_comm _ _ (Ne.symm (nbeq h4))]
 refine XW.sub (fun q u hq => ?_) (k2 b)
 exact lk_swap (nbeq h3) hq
theorem XWp.rv (i : Nat) (ho : ops[i]? = some ⟨some d, op, ty, pos, aft, none⟩) (hr : (XR ops done i && XR ops (done.setIfInBounds p true) i && !Nat.beq d dp && !Nat.beq i p) = true) (hw : Wt ops L none = true) (hS : XS ops hard i = true) (hop : RV P w0 L M op v) (hd : Nat.blt d n = true) (k : XWp P n ops Q w0 R hard p dp fv l te f (done.setIfInBounds i true) ((d, v) :: L) M) : XWp P n ops Q w0 R hard p dp fv l te (f + 1) done L M := fun hp hl => by
 simp only [Bool.and_eq_true, Bool.not_eq_true'] at hr
 obtain ⟨⟨⟨h1, h2⟩, h3⟩, h4⟩ := hr
 have hl' : lk ((d, v) :: L) dp = none := by rw [Z118 (nbeq h3)]; exact hl
 obtain ⟨k1, k2⟩ := k hp hl'
 refine ⟨XW.rv i ho h1 rfl hS hop hd k1, fun b => XW.rv i ho h2 rfl hS (hop.more (lk_mono hl) fun _ m => m.tail) hd ?_⟩
 rw [Array.setIfInBounds_comm _ _ (Ne.symm (nbeq h4))]
 refine XW.sub (fun q u hq => ?_) (k2 b)
 exact lk_swap (nbeq h3) hq
theorem XWp.callG (i : Nat) {fn : FuncId} {xs : List Operand} {ats : Array TypeId} {args : List Value} {Rr : Value → List Ent → Prop} (ho : ops[i]? = some ⟨some d, .call ⟨.value (.func fn), xs.toArray, ats⟩, ty, pos, aft, none⟩) (hr : ((Region.ready .any ops done == [i, p] || Region.ready .any ops done == [p, i]) && Region.ready .any ops (done.setIfInBounds p true) == [i] && !Nat.beq d dp && !Nat.beq i p) = true) (hw : Wt ops L none = true)
  (hc : ∀ (args : Array Value) (w : World), (callFunc fn args).run P w = .ok (.enter fn args) w) (hxs : evs L xs = some args) (hdo : ∀ N, (∀ w, Mem w0 w N → Mem w0 w M) → DoesG P fn args w0 [] N Rr)
  (hd : Nat.blt d n = true) (k : ∀ v G, Rr v G → XWp P n ops Q w0 R hard p dp fv l te f (done.setIfInBounds i true) ((d, v) :: L) (G ++ M)) : XWp P n ops Q w0 R hard p dp fv l te (f + 1) done L M := fun hp hl => by
 simp only [Bool.and_eq_true, Bool.not_eq_true', Bool.or_eq_true, beq_iff_eq] at hr
 obtain ⟨⟨⟨h1, h2⟩, h3⟩, h4⟩ := hr
 have hl' : ∀ v, lk ((d, v) :: L) dp = none := fun v => by rw [Z118 (nbeq h3)]; exact hl
 have k2 : ∀ b, XW P n ops Q w0 R hard (f + 1) (done.setIfInBounds p true) ((dp, fv b) :: L) ((some b, blk l te) :: M) := fun b => by
  refine Z11 i ho (by simpa using h2) rfl hc (evs_mono (lk_mono hl) _ _ hxs) (fun N hN => hdo N fun w m => (hN w m).tail) hd (fun v G hv => ?_)
  rw [Array.setIfInBounds_comm _ _ (Ne.symm (nbeq h4))]
  have q := (k v G hv hp (hl' v)).2 b
  unfold XW at q ⊢
  intro hR hB inv a w fr mm
  have mp : ∀ w, Mem w0 w ((some b, blk l te) :: (G ++ M)) → Mem w0 w (G ++ (some b, blk l te) :: M) := fun w m => m.perm List.perm_middle.symm
  refine q (fun w m => hR w (mp w m)) hB inv a w (fr.sub fun q u hq => ?_) (mm.perm List.perm_middle)
  exact lk_swap (nbeq h3) hq
 refine ⟨?_, k2⟩
 have k1 := fun v G hv => (k v G hv hp (hl' v)).1
 obtain ⟨op, tyq, posq, aftq, hop, hnv, hdp⟩ := hp
 unfold XW at k1 k2 ⊢
 intro hR hB inv a w fr mm
 have hmem : ∀ j, j ∈ Region.ready .any ops done ↔ j = i ∨ j = p := fun j => by rcases h1 with h | h <;> simp [h, or_comm]
 have him : i < ops.size := (Array.getElem?_eq_some_iff.1 ho).1
 have hpm : p < ops.size := (Array.getElem?_eq_some_iff.1 hop).1
 refine ⟨by rcases h1 with h | h <;> simp [h], fun j hj => ?_⟩
 rcases (hmem j).1 hj with rfl | rfl
 ·refine ⟨him, _, ho, .inl ⟨wt_spec fr rfl, ?_⟩⟩
  have hev := evs_map (fun x u hx => fr.eval hx) xs args hxs
  have hrun : (execOp a.eval ⟨some d, .call ⟨.value (.func fn), xs.toArray, ats⟩, ty, pos, aft, none⟩).run P w = .ok (.enter fn args.toArray) w := by
   simp [execOp, resolve, Deferred.ofValue, Act.eval, invoke, hev, hc]
  rw [hrun]
  refine (hdo (allEnts w0 w) (fun w2 m2 => Upw.of_all m2 _ mm) w mm.all).mono ?_
  rintro e w2 ⟨q, ⟨G, h1, h2⟩, rfl, m'⟩
  have m' : Mem w0 w2 (G ++ allEnts w0 w) := by have m2 := m'; rwa [show (fun q : Value × List Ent => q.2) q = G ++ allEnts w0 w from h2] at m2
  refine ⟨_, rfl, ?_, (k1 q.1 G h1) (fun w m => hR w m.appR) hB (inv.set hj him) _ _ (fr.put hd _) (m'.graft mm)⟩
  have hu := Upw.of_all m'.appR
  unfold Rl
  split
  ·exact hu R
  ·exact hu
 ·refine ⟨hpm, _, hop, .inl ⟨wt_spec fr rfl, ?_⟩⟩
  rw [hnv.any (L := L) (M := M) a.eval w (fun x u hx => fr.eval hx) mm _ rfl]
  refine ⟨?_, k2 _ (fun w m => hR w m.tail) hB (inv.set hj hpm) _ _ (fr.put hdp _) (mm.alloc _)⟩
  unfold Rl
  split
  ·exact Upw.alloc _ _ _ R
  ·exact Upw.alloc _ _ _
theorem XWp.new (i : Nat) {l' : List Value} {te' : TypeId} {fv' : Nat → Value} (ho : ops[i]? = some ⟨some d, op, ty, pos, aft, none⟩) (hr : ((Region.ready .any ops done == [i, p] || Region.ready .any ops done == [p, i]) && Region.ready .any ops (done.setIfInBounds p true) == [i] && !Nat.beq d dp && !Nat.beq i p) = true) (hw : Wt ops L none = true)
  (hop : NV P w0 L M op fv' l' te') (hd : Nat.blt d n = true) (k : ∀ b, XWp P n ops Q w0 R hard p dp fv l te f (done.setIfInBounds i true) ((d, fv' b) :: L) ((some b, blk l' te') :: M)) : XWp P n ops Q w0 R hard p dp fv l te (f + 1) done L M := fun hp hl => by
 simp only [Bool.and_eq_true, Bool.not_eq_true', Bool.or_eq_true, beq_iff_eq] at hr
 obtain ⟨⟨⟨h1, h2⟩, h3⟩, h4⟩ := hr
 have hl' : ∀ v, lk ((d, v) :: L) dp = none := fun v => by rw [Z118 (nbeq h3)]; exact hl
 have k2 : ∀ b, XW P n ops Q w0 R hard (f + 1) (done.setIfInBounds p true) ((dp, fv b) :: L) ((some b, blk l te) :: M) := fun b => by
  refine XW.new i ho (by simpa using h2) rfl (fun ρ w hρ m o ho => hop ρ w (fun x u hx => hρ x u (ev_mono (lk_mono hl) hx)) m.tail o ho) hd (fun b' => ?_)
  rw [Array.setIfInBounds_comm _ _ (Ne.symm (nbeq h4))]
  have q := (k b' hp (hl' _)).2 b
  unfold XW at q ⊢
  intro hR hB inv a w fr mm
  have mp : ∀ w, Mem w0 w ((some b, blk l te) :: (some b', blk l' te') :: M) → Mem w0 w ((some b', blk l' te') :: (some b, blk l te) :: M) := fun w m => m.rot1
  refine q (fun w m => hR w (mp w m)) hB inv a w (fr.sub fun q u hq => ?_) (mm.rot1)
  exact lk_swap (nbeq h3) hq
 refine ⟨?_, k2⟩
 have k1 := fun b => (k b hp (hl' (fv' b))).1
 obtain ⟨op, tyq, posq, aftq, hop2, hnv, hdp⟩ := hp
 unfold XW at k1 k2 ⊢
 intro hR hB inv a w fr mm
 have hmem : ∀ j, j ∈ Region.ready .any ops done ↔ j = i ∨ j = p := fun j => by rcases h1 with h | h <;> simp [h, or_comm]
 have him : i < ops.size := (Array.getElem?_eq_some_iff.1 ho).1
 have hpm : p < ops.size := (Array.getElem?_eq_some_iff.1 hop2).1
 refine ⟨by rcases h1 with h | h <;> simp [h], fun j hj => ?_⟩
 rcases (hmem j).1 hj with rfl | rfl
 ·refine ⟨him, _, ho, .inl ⟨wt_spec fr rfl, ?_⟩⟩
  rw [hop a.eval w (fun x u hx => fr.eval hx) mm _ rfl]
  refine ⟨?_, k1 _ (fun w m => hR w m.tail) hB (inv.set hj him) _ _ (fr.put hd _) (mm.alloc _)⟩
  unfold Rl
  split
  ·exact Upw.alloc _ _ _ R
  ·exact Upw.alloc _ _ _
 ·refine ⟨hpm, _, hop2, .inl ⟨wt_spec fr rfl, ?_⟩⟩
  rw [hnv.any (L := L) (M := M) a.eval w (fun x u hx => fr.eval hx) mm _ rfl]
  refine ⟨?_, k2 _ (fun w m => hR w m.tail) hB (inv.set hj hpm) _ _ (fr.put hdp _) (mm.alloc _)⟩
  unfold Rl
  split
  ·exact Upw.alloc _ _ _ R
  ·exact Upw.alloc _ _ _
attribute [irreducible] XWp
theorem NV.alloc [Types P] {e : TypeId} {ti : TI} {l : List Value} (hi : Fw.ty P e = some ti) (hl : ti.z.cells = l.toArray) : NV P w0 L M (.alloc e) (fun b => ptr (some b) 0) l e := fun ρ w hρ m o ho => by
 obtain ⟨_, ti, h1, h2, h3, h4⟩ := ty_ok hi
 simp [execOp, ho, Instr.alloc, zeroValue, typeInfo, h1, h4, newVar, newRow, ptr, blk, hl]
end
end Go.Fw
namespace Go.Fw
open Go
def Rooms (Φ : Ctx) (A : Option Addr) (c : Nat) (x : List (List (BitVec 8))) : Prop := ∃ cs mk : List Value, View Φ A (x ++ ([([164#8] : List (BitVec 8))] : List (List (BitVec 8)))).length c 1 (cs ++ mk) ∧ Reps (RmRd Φ) cs x ∧ Reps (BsRd Φ) (cs ++ mk) (x ++ ([([164#8] : List (BitVec 8))] : List (List (BitVec 8))))
theorem Rooms.mono {Φ Ψ : Ctx} {A : Option Addr} {c : Nat} {x : List (List (BitVec 8))} (h : Rooms Φ A c x) (hh : ∀ w, Ψ w → Φ w) : Rooms Ψ A c x := by
 obtain ⟨cs, mk, v, r, rb⟩ := h
 exact ⟨cs, mk, v.mono hh, r.mono (RmRd.mono hh), rb.mono (BsRd.mono hh)⟩
theorem Rooms.mk {Φ : Ctx} {A : Option Addr} {c : Nat} {x : List (List (BitVec 8))} {cs mk : List Value} (v : View Φ A (x ++ ([([164#8] : List (BitVec 8))] : List (List (BitVec 8)))).length c 1 (cs ++ mk)) (r : Reps (RmRd Φ) cs x) (rb : Reps (BsRd Φ) (cs ++ mk) (x ++ ([([164#8] : List (BitVec 8))] : List (List (BitVec 8))))) : Rooms Φ A c x := ⟨cs, mk, v, r, rb⟩
def Ar8Rd {n : Nat} (Φ : Ctx) (cs : List Value) (v : Vector (BitVec 8) n) : Prop := cs = u8s v.toList
theorem Ar8Rd.mono {n : Nat} {Φ Ψ : Ctx} (hh : ∀ w, Ψ w → Φ w) (cs : List Value) (v : Vector (BitVec 8) n) (h : Ar8Rd Φ cs v) : Ar8Rd Ψ cs v := h
theorem Ar8Rd.len {n : Nat} {Φ : Ctx} (cs : List Value) (v : Vector (BitVec 8) n) (h : Ar8Rd Φ cs v) : cs.length = n := by rw [h, Z100, Zv]
theorem Ar8Rd.one {n : Nat} {Φ : Ctx} (cs : List Value) (v : Vector (BitVec 8) n) (h : Ar8Rd Φ cs v) : ∀ u ∈ cs, u.oneCell' = true := by rw [h]; exact u8s_one _
theorem Ar8Rd.mk {n : Nat} {Φ : Ctx} {v : Vector (BitVec 8) n} : Ar8Rd Φ (u8s v.toList) v := rfl
end Go.Fw
namespace Go.Fw
open Go
structure LogC where
 address : Vector (BitVec 8) 20
 topics : Value
 data : Value
def LogC.C (s : LogC) : List Value := u8s s.address.toList ++ ([s.topics] ++ ([s.data]))
theorem LogC.C_length (s : LogC) : s.C.length = 22 := by simp [LogC.C, Z100]
theorem LogC.C_one (s : LogC) (h_topics : s.topics.oneCell' = true) (h_data : s.data.oneCell' = true) : ∀ u ∈ s.C, u.oneCell' = true := by
 intro u hu
 simp only [LogC.C, List.mem_append, List.mem_singleton] at hu
 rcases hu with hu | rfl | rfl
 ·exact u8s_one _ u hu
 ·exact h_topics
 ·exact h_data
theorem Z109 (s : LogC) : ∀ (k : Nat) (u : Value), (u8s s.address.toList)[k]? = some u → s.C[0 + k]? = some u := by
 intro k u h; rw [show 0 + k = k by omega]; exact (here_get h)
theorem LogC.C_address_spl (s : LogC) (x : Vector (BitVec 8) 20) : spl s.C 0 (u8s x.toList) = ({ s with address := x } : LogC).C := by
 rw [show 0 = 0 by rfl]; exact (here_spl (by simp [Z100]))
theorem Z105 (s : LogC) : s.C[20]? = some (s.topics) := by
 rw [show 20 = 20 + (0) by rfl]; exact (skip_get ((Z100 _).trans Zv) (here_get rfl))
theorem LogC.C_topics_set (s : LogC) (x : Value) : s.C.set 20 (x) = ({ s with topics := x } : LogC).C := by
 rw [show 20 = 20 + (0) by rfl]; exact (skip_set ((Z100 _).trans Zv) (here_set (by simp) rfl))
theorem LogC.C_data (s : LogC) : s.C[21]? = some (s.data) := by
 rw [show 21 = 20 + (1 + (0)) by rfl]; exact (skip_get ((Z100 _).trans Zv) (skip_get rfl rfl))
theorem LogC.C_data_set (s : LogC) (x : Value) : s.C.set 21 (x) = ({ s with data := x } : LogC).C := by
 rw [show 21 = 20 + (1 + (0)) by rfl]; exact (skip_set ((Z100 _).trans Zv) (skip_set rfl rfl))
structure Log where
 address : Vector (BitVec 8) 20
 topics : List (Vector (BitVec 8) 32)
 data : List (BitVec 8)
def LogRd (Φ : Ctx) (cs : List Value) (x : Log) : Prop := ∃ (A_topics : Option Addr), ∃ (c_topics : Nat), ∃ (cs_topics : List Value), ∃ (A_data : Option Addr), ∃ (c_data : Nat), cs = (⟨x.address, .slice A_topics x.topics.length c_topics, .slice A_data x.data.length c_data⟩ : LogC).C ∧ (View Φ A_topics x.topics.length c_topics 32 cs_topics) ∧ (Reps (Ar8Rd Φ) cs_topics x.topics) ∧ (View Φ A_data x.data.length c_data 1 (u8s x.data))
theorem LogRd.opn {Φ : Ctx} {cs : List Value} {x : Log} (h : LogRd Φ cs x) : ∃ (A_topics : Option Addr), ∃ (c_topics : Nat), ∃ (cs_topics : List Value), ∃ (A_data : Option Addr), ∃ (c_data : Nat), cs = (⟨x.address, .slice A_topics x.topics.length c_topics, .slice A_data x.data.length c_data⟩ : LogC).C ∧ (View Φ A_topics x.topics.length c_topics 32 cs_topics) ∧ (Reps (Ar8Rd Φ) cs_topics x.topics) ∧ (View Φ A_data x.data.length c_data 1 (u8s x.data)) := h
theorem LogRd.mono {Φ Ψ : Ctx} (hh : ∀ w, Ψ w → Φ w) (cs : List Value) (x : Log) : LogRd Φ cs x → LogRd Ψ cs x := fun ⟨A_topics, c_topics, cs_topics, A_data, c_data, e, v_topics, h_topics, v_data⟩ => ⟨A_topics, c_topics, cs_topics, A_data, c_data, e, v_topics.mono hh, h_topics.mono (Ar8Rd.mono hh), v_data.mono hh⟩
theorem LogRd.len {Φ : Ctx} (cs : List Value) (x : Log) (h : LogRd Φ cs x) : cs.length = 22 := by
 obtain ⟨A_topics, c_topics, cs_topics, A_data, c_data, e, v_topics, h_topics, v_data⟩ := h
 rw [e]; exact LogC.C_length _
theorem LogRd.one {Φ : Ctx} (cs : List Value) (x : Log) (h : LogRd Φ cs x) : ∀ u ∈ cs, u.oneCell' = true := by
 obtain ⟨A_topics, c_topics, cs_topics, A_data, c_data, e, v_topics, h_topics, v_data⟩ := h
 rw [e]; exact LogC.C_one _ rfl rfl
theorem LogRd.mk {Φ : Ctx} {address : Vector (BitVec 8) 20} {topics : List (Vector (BitVec 8) 32)} {data : List (BitVec 8)} {A_topics : Option Addr} {c_topics : Nat} {cs_topics : List Value} {A_data : Option Addr} {c_data : Nat} (v_topics : View Φ A_topics topics.length c_topics 32 cs_topics) (h_topics : Reps (Ar8Rd Φ) cs_topics topics) (v_data : View Φ A_data data.length c_data 1 (u8s data)) : LogRd Φ (⟨address, .slice A_topics topics.length c_topics, .slice A_data data.length c_data⟩ : LogC).C (⟨address, topics, data⟩ : Log) := ⟨A_topics, c_topics, cs_topics, A_data, c_data, rfl, v_topics, h_topics, v_data⟩
structure RcptC where
 kind : Int
 rooted : Bool
 root : Vector (BitVec 8) 32
 status : BitVec 64
 used : BitVec 64
 bloom : Vector (BitVec 8) 256
 logs : Value
def RcptC.C (s : RcptC) : List Value := [.int .i64 s.kind] ++ ([.bool s.rooted] ++ (u8s s.root.toList ++ ([U64 s.status] ++ ([U64 s.used] ++ (u8s s.bloom.toList ++ ([s.logs]))))))
theorem RcptC.C_length (s : RcptC) : s.C.length = 293 := by simp [RcptC.C, Z100]
theorem RcptC.C_one (s : RcptC) (h_logs : s.logs.oneCell' = true) : ∀ u ∈ s.C, u.oneCell' = true := by
 intro u hu
 simp only [RcptC.C, List.mem_append, List.mem_singleton] at hu
 rcases hu with rfl | rfl | hu | rfl | rfl | hu | rfl
 ·rfl
 ·rfl
 ·exact u8s_one _ u hu
 ·rfl
 ·rfl
 ·exact u8s_one _ u hu
 ·exact h_logs
structure Rcpt where
 kind : Int
 rooted : Bool
 root : Vector (BitVec 8) 32
 status : BitVec 64
 used : BitVec 64
 bloom : Vector (BitVec 8) 256
 logs : List (Log)
def RcptRd (Φ : Ctx) (cs : List Value) (x : Rcpt) : Prop := ∃ (A_logs : Option Addr), ∃ (c_logs : Nat), ∃ (cs_logs : List Value), cs = (⟨x.kind, x.rooted, x.root, x.status, x.used, x.bloom, .slice A_logs x.logs.length c_logs⟩ : RcptC).C ∧ (-9223372036854775808 ≤ x.kind ∧ x.kind ≤ 9223372036854775807) ∧ (View Φ A_logs x.logs.length c_logs 22 cs_logs) ∧ (Reps (LogRd Φ) cs_logs x.logs)
theorem RcptRd.opn {Φ : Ctx} {cs : List Value} {x : Rcpt} (h : RcptRd Φ cs x) : ∃ (A_logs : Option Addr), ∃ (c_logs : Nat), ∃ (cs_logs : List Value), cs = (⟨x.kind, x.rooted, x.root, x.status, x.used, x.bloom, .slice A_logs x.logs.length c_logs⟩ : RcptC).C ∧ (-9223372036854775808 ≤ x.kind ∧ x.kind ≤ 9223372036854775807) ∧ (View Φ A_logs x.logs.length c_logs 22 cs_logs) ∧ (Reps (LogRd Φ) cs_logs x.logs) := h
theorem RcptRd.mono {Φ Ψ : Ctx} (hh : ∀ w, Ψ w → Φ w) (cs : List Value) (x : Rcpt) : RcptRd Φ cs x → RcptRd Ψ cs x := fun ⟨A_logs, c_logs, cs_logs, e, b_kind, v_logs, h_logs⟩ => ⟨A_logs, c_logs, cs_logs, e, b_kind, v_logs.mono hh, h_logs.mono (LogRd.mono hh)⟩
theorem RcptRd.len {Φ : Ctx} (cs : List Value) (x : Rcpt) (h : RcptRd Φ cs x) : cs.length = 293 := by
 obtain ⟨A_logs, c_logs, cs_logs, e, b_kind, v_logs, h_logs⟩ := h
 rw [e]; exact RcptC.C_length _
theorem RcptRd.one {Φ : Ctx} (cs : List Value) (x : Rcpt) (h : RcptRd Φ cs x) : ∀ u ∈ cs, u.oneCell' = true := by
 obtain ⟨A_logs, c_logs, cs_logs, e, b_kind, v_logs, h_logs⟩ := h
 rw [e]; exact RcptC.C_one _ rfl
theorem RcptRd.mk {Φ : Ctx} {kind : Int} {rooted : Bool} {root : Vector (BitVec 8) 32} {status : BitVec 64} {used : BitVec 64} {bloom : Vector (BitVec 8) 256} {logs : List (Log)} {A_logs : Option Addr} {c_logs : Nat} {cs_logs : List Value} (b_kind : -9223372036854775808 ≤ kind ∧ kind ≤ 9223372036854775807) (v_logs : View Φ A_logs logs.length c_logs 22 cs_logs) (h_logs : Reps (LogRd Φ) cs_logs logs) : RcptRd Φ (⟨kind, rooted, root, status, used, bloom, .slice A_logs logs.length c_logs⟩ : RcptC).C (⟨kind, rooted, root, status, used, bloom, logs⟩ : Rcpt) := ⟨A_logs, c_logs, cs_logs, rfl, b_kind, v_logs, h_logs⟩
end Go.Fw
namespace Go.Fw
open Go Go.RowKit
section
variable {P : Program} [Types P] {n : Nat} {Q : Exit → Act → World → Prop} {w0 : World} {L : Z108} {M : List Ent} {t e : TypeId} {x : Operand} {v : Value}
def Held (w0 : World) (Φ : Ctx) (b : Nat) (l : List Value) (te : TypeId) : Prop := ∀ w, Φ w → Mem w0 w [(some b, blk l te)]
theorem Held.mono {Φ Ψ : Ctx} {b : Nat} {l : List Value} {te : TypeId} (h : Held w0 Φ b l te) (hh : ∀ w, Ψ w → Φ w) : Held w0 Ψ b l te := fun w q => h w (hh w q)
theorem Held.part {Φ : Ctx} {b i : Nat} {l : List Value} {te : TypeId} {m : Nat} {a : Vector (BitVec 8) m} (h : Held w0 Φ b l te) (hp : ∀ (k : Nat) (u : Value), (u8s a.toList)[k]? = some u → l[i + k]? = some u) (hm : m ≤ 140737488355328) : View Φ (some ⟨b, i, none⟩) a.toList.length m 1 (u8s a.toList) :=
 ⟨fun w q => ⟨fun _ => rfl, fun j u hj => by
  show w.cell? ((⟨b, i, none⟩ : Addr).add j) = some u
  rw [Z102, (h w q).cell (List.mem_cons_self ..)]; exact hp j u hj⟩, fun _ => rfl, by rw [Z100]; omega, by rw [Zv]; exact Nat.le_refl _, by rw [Zv]; exact hm⟩
theorem View.part {Φ : Ctx} {A : Option Addr} {len c s off f : Nat} {cells cs : List Value} {m : Nat} {a : Vector (BitVec 8) m} (h : View Φ A len c s cells) (hc : ∀ j u, cs[j]? = some u → cells[off + j]? = some u) (hp : ∀ (k : Nat) (u : Value), (u8s a.toList)[k]? = some u → cs[f + k]? = some u) (hm : m ≤ 140737488355328) :
  View Φ (some (((A.getD default).add off).add f)) a.toList.length m 1 (u8s a.toList) :=
 ⟨fun w q => ⟨fun _ => rfl, fun j u hj => by
  show w.cell? ((((A.getD default).add off).add f).add j) = some u
  rw [Addr.add_add]; exact h.load q hc _ u (hp j u hj)⟩, fun _ => rfl, by rw [Z100]; omega, by rw [Zv]; exact Nat.le_refl _, by rw [Zv]; exact hm⟩
theorem View.load_part {Φ : Ctx} {A : Option Addr} {len c s off f : Nat} {cells cs vs : List Value} (h : View Φ A len c s cells) {w : World} (q : Φ w) (hc : ∀ j u, cs[j]? = some u → cells[off + j]? = some u) (hp : ∀ (k : Nat) (u : Value), vs[k]? = some u → cs[f + k]? = some u) :
  ∀ j u, vs[j]? = some u → w.cell? ((((A.getD default).add off).add f).add j) = some u := fun j u hj => by
 rw [Addr.add_add]; exact h.load q hc _ u (hp j u hj)
theorem View.load_fld {Φ : Ctx} {A : Option Addr} {len c s off f : Nat} {cells cs : List Value} (h : View Φ A len c s cells) {w : World} (q : Φ w) (hc : ∀ j u, cs[j]? = some u → cells[off + j]? = some u) (hp : cs[f]? = some v) :
  w.cell? (((A.getD default).add off).add f) = some v := h.load q hc f v hp
end
section
variable {P : Program} {n : Nat} {Q : Exit → Act → World → Prop} {w0 : World} {L : Z108} {M : List Ent}
theorem CW.scope0 {c : Code} (h : CW P n (Exit.noGoto Q) w0 c L M) : CW P n Q w0 (.scope c) L M := CW.intro fun a w f m => wp_scope_straight (h.elim a w f m)
theorem QW.scope_r (h : QW n Q w0 .ret L M) : QW n (Exit.noGoto Q) w0 .ret L M := QW.intro fun a w f m => h.elim a w f m
end
inductive Lq (α β : Type) where
 | ret (o : Option α)
 | out
 | go (b : β)
def LsRd {T : Type} (s : Nat) (R : Ctx → List Value → T → Prop) (Φ : Ctx) (cs : List Value) (x : List T) : Prop := ∃ A c cs2, cs = [.slice A x.length c] ∧ View Φ A x.length c s cs2 ∧ Reps (R Φ) cs2 x
abbrev HsRd (Φ : Ctx) (cs : List Value) (x : List (Vector (BitVec 8) 32)) : Prop := LsRd 32 Ar8Rd Φ cs x
theorem HsRd.mono {Φ Ψ : Ctx} (hh : ∀ w, Ψ w → Φ w) (cs : List Value) (x : List (Vector (BitVec 8) 32)) : HsRd Φ cs x → HsRd Ψ cs x := fun ⟨A, c, cs2, h1, h2, h3⟩ => ⟨A, c, cs2, h1, h2.mono hh, h3.mono (Ar8Rd.mono hh)⟩
theorem HsRd.len {Φ : Ctx} (cs : List Value) (x : List (Vector (BitVec 8) 32)) (h : HsRd Φ cs x) : cs.length = 1 := by obtain ⟨A, c, cs2, rfl, _⟩ := h; rfl
theorem HsRd.one {Φ : Ctx} (cs : List Value) (x : List (Vector (BitVec 8) 32)) (h : HsRd Φ cs x) : ∀ u ∈ cs, u.oneCell' = true := by
 obtain ⟨A, c, cs2, rfl, _⟩ := h
 intro u hu; simp at hu; subst hu; rfl
theorem HsRd.mk {Φ : Ctx} {A : Option Addr} {c : Nat} {cs2 : List Value} {x : List (Vector (BitVec 8) 32)} (h1 : View Φ A x.length c 32 cs2) (h2 : Reps (Ar8Rd Φ) cs2 x) : HsRd Φ [.slice A x.length c] x := ⟨A, c, cs2, rfl, h1, h2⟩
end Go.Fw
namespace Go.Fw
def receipt_among_Address.l1 (a0 : List (Vector (BitVec 8) 20)) (a1 : Vector (BitVec 8) 20) : Nat → (Nat) → Option (Lp ((Bool)) (Unit))
 | 0, _ => none
 | k12 + 1, n10 => (if n10 < a0.length then (a0[n10]?).bind fun x20 => (if a1 = x20 then (some (Lp.ret (some true))) else (receipt_among_Address.l1 a0 a1 k12 (n10 + 1))) else (some (Lp.go ())))
def receipt_among_Address (a0 : List (Vector (BitVec 8) 20)) (a1 : Vector (BitVec 8) 20) : Option ((Bool)) := (((receipt_among_Address.l1 a0 a1 (a0.length - 0 + 2) 0) : Option (Lp ((Bool)) (Unit))).bind fun | .ret o => o | .go () => (some false))
def receipt_among_Hash.l1 (a0 : List (Vector (BitVec 8) 32)) (a1 : Vector (BitVec 8) 32) : Nat → (Nat) → Option (Lp ((Bool)) (Unit))
 | 0, _ => none
 | k12 + 1, n10 => (if n10 < a0.length then (a0[n10]?).bind fun x20 => (if a1 = x20 then (some (Lp.ret (some true))) else (receipt_among_Hash.l1 a0 a1 k12 (n10 + 1))) else (some (Lp.go ())))
def receipt_among_Hash (a0 : List (Vector (BitVec 8) 32)) (a1 : Vector (BitVec 8) 32) : Option ((Bool)) := (((receipt_among_Hash.l1 a0 a1 (a0.length - 0 + 2) 0) : Option (Lp ((Bool)) (Unit))).bind fun | .ret o => o | .go () => (some false))
def receipt_Find.l2 (a2 : List (List (Vector (BitVec 8) 32))) (x33 : Log) : Nat → (Nat) → Option (Lq ((List (Int))) (Unit))
 | 0, _ => none
 | k80 + 1, n78 => (if n78 < a2.length then (a2[n78]?).bind fun x89 => (((if 0 < x89.length then (x33.topics[n78]?).bind fun x113 => ((receipt_among_Hash x89 x113).bind fun x120 => (some ((!x120)))) else (some (false))) : Option ((Bool))).bind fun p104 => (if p104 = true then (some Lq.out) else (receipt_Find.l2 a2 x33 k80 (n78 + 1)))) else (some (Lq.go ())))
def receipt_Find.l1 (a0 : List (Log)) (a1 : List (Vector (BitVec 8) 20)) (a2 : List (List (Vector (BitVec 8) 32))) : Nat → (List (Int)) → (Nat) → Option ((List (Int)))
 | 0, _, _ => none
 | k24 + 1, l17, n22 => (if n22 < a0.length then (a0[n22]?).bind fun x33 => (((if x33.topics.length < a2.length then (some (true)) else (if 0 < a1.length then ((receipt_among_Address a1 x33.address).bind fun x126 => (some ((!x126)))) else (some (false)))) : Option ((Bool))).bind fun p54 => (if p54 = true then (receipt_Find.l1 a0 a1 a2 k24 l17 (n22 + 1)) else (((receipt_Find.l2 a2 x33 (a2.length - 0 + 2) 0) : Option (Lq ((List (Int))) (Unit))).bind fun | .ret o => o | .out => (receipt_Find.l1 a0 a1 a2 k24 l17 (n22 + 1)) | .go () => (if (l17.length + ([n22] : List (Int)).length) * 8 ≤ 140737488355328 then (receipt_Find.l1 a0 a1 a2 k24 (l17 ++ ([n22] : List (Int))) (n22 + 1)) else none)))) else (some (l17)))
def receipt_Find (a0 : List (Log)) (a1 : List (Vector (BitVec 8) 20)) (a2 : List (List (Vector (BitVec 8) 32))) : Option ((List (Int))) := (((receipt_Find.l1 a0 a1 a2 (a0.length - 0 + 2) ([] : List (Int)) 0) : Option ((List (Int)))).bind fun l6 => (some l6))
end Go.Fw
namespace Go.Fw
open Go
structure Rdr where
 err : Int
def Rdr.C (s : Rdr) : List Value := [.int .i64 s.err]
theorem Rdr.C_length (s : Rdr) : s.C.length = 1 := by simp [Rdr.C]
theorem Rdr.C_one (s : Rdr) : ∀ u ∈ s.C, u.oneCell' = true := by
 intro u hu
 simp only [Rdr.C, List.mem_append, List.mem_singleton] at hu
 rcases hu with rfl
 ·rfl
end Go.Fw
namespace Go.Fw
open Go
theorem fillL_cons {pl : List (Nat × Nat)} {l vs : List Value} {i off size : Nat} {r : List (Nat × List Value)} (h : pl[i]? = some (off, size)) (hl : vs.length = size) (hb : off + size ≤ l.length) : fillL pl l ((i, vs) :: r) = fillL pl (spl l off vs) r := by
 rw [fillL, h]
 dsimp only
 rw [if_pos (by simp [hl, hb])]
theorem spl_one {l : List Value} {off : Nat} {v : Value} (h : off < l.length) : spl l off [v] = l.set off v := by
 unfold spl
 rw [List.set_eq_take_append_cons_drop, if_pos h]
 simp
end Go.Fw
namespace Go.Fw
def waybilllaw17_same.l1 (a0 : List (BitVec 8)) (a1 : List (BitVec 8)) : Nat → (Nat) → Option (Lp ((Bool)) (Unit))
 | 0, _ => none
 | k13 + 1, n11 => (if n11 < a0.length then (a0[n11]?).bind fun x21 => (a1[n11]?).bind fun x24 => (if x21 = x24 then (waybilllaw17_same.l1 a0 a1 k13 (n11 + 1)) else (some (Lp.ret (some false)))) else (some (Lp.go ())))
def waybilllaw17_same (a0 : List (BitVec 8)) (a1 : List (BitVec 8)) : Option ((Bool)) := (if a0.length = a1.length then (((waybilllaw17_same.l1 a0 a1 (a0.length - 0 + 2) 0) : Option (Lp ((Bool)) (Unit))).bind fun | .ret o => o | .go () => (some true)) else (some false))
def waybilllaw17_sameLog.l1 (a0 : Log) (a1 : Log) : Nat → (Nat) → Option (Lp ((Bool)) (Unit))
 | 0, _ => none
 | k49 + 1, n47 => (if n47 < a0.topics.length then (a0.topics[n47]?).bind fun x57 => (a1.topics[n47]?).bind fun x63 => (if x57 = x63 then (waybilllaw17_sameLog.l1 a0 a1 k49 (n47 + 1)) else (some (Lp.ret (some false)))) else (some (Lp.go ())))
def waybilllaw17_sameLog (a0 : Log) (a1 : Log) : Option ((Bool)) := (((if a0.address = a1.address then (some ((!decide (a0.topics.length = a1.topics.length)))) else (some (true))) : Option ((Bool))).bind fun p29 => (if p29 = true then (some false) else (((waybilllaw17_sameLog.l1 a0 a1 (a0.topics.length - 0 + 2) 0) : Option (Lp ((Bool)) (Unit))).bind fun | .ret o => o | .go () => ((waybilllaw17_same a0.data a1.data).bind fun x44 => (some (x44))))))
def waybilllaw17_sameLogs.l1 (a0 : List (Log)) (a1 : List (Log)) : Nat → (Nat) → Option (Lp ((Bool)) (Unit))
 | 0, _ => none
 | k13 + 1, n11 => (if n11 < a0.length then (a0[n11]?).bind fun x21 => (a1[n11]?).bind fun x39 => ((waybilllaw17_sameLog x21 x39).bind fun x58 => (if x58 = true then (waybilllaw17_sameLogs.l1 a0 a1 k13 (n11 + 1)) else (some (Lp.ret (some false))))) else (some (Lp.go ())))
def waybilllaw17_sameLogs (a0 : List (Log)) (a1 : List (Log)) : Option ((Bool)) := (if a0.length = a1.length then (((waybilllaw17_sameLogs.l1 a0 a1 (a0.length - 0 + 2) 0) : Option (Lp ((Bool)) (Unit))).bind fun | .ret o => o | .go () => (some true)) else (some false))
end Go.Fw
namespace Go.Fw
abbrev It.zero : It := It.mk false [] []
end Go.Fw
namespace Go.Fw
open Go
def MkRd (m : List (BitVec 8)) (Φ : Ctx) (cs : List Value) (x : List (BitVec 8)) : Prop := ∃ A c, cs = [.slice A x.length c] ∧ View Φ A (x ++ m).length c 1 (u8s (x ++ m))
theorem MkRd.mono' {m : List (BitVec 8)} {Φ Ψ : Ctx} (hh : ∀ w, Ψ w → Φ w) (cs : List Value) (x : List (BitVec 8)) : MkRd m Φ cs x → MkRd m Ψ cs x := fun ⟨A, c, h1, h2⟩ => ⟨A, c, h1, h2.mono hh⟩
theorem MkRd.len' {m : List (BitVec 8)} {Φ : Ctx} (cs : List Value) (x : List (BitVec 8)) (h : MkRd m Φ cs x) : cs.length = 1 := by obtain ⟨A, c, rfl, _⟩ := h; rfl
theorem MkRd.bs' {m : List (BitVec 8)} {Φ : Ctx} (cs : List Value) (x : List (BitVec 8)) (h : MkRd m Φ cs x) : BsRd Φ cs x := by
 obtain ⟨A, c, h1, h2⟩ := h
 exact ⟨A, c, h1, MRoom.view h2⟩
abbrev MkRd02 : Ctx → List Value → List (BitVec 8) → Prop := MkRd (List.replicate 200 195#8)
theorem MkRd02.mono {Φ Ψ : Ctx} (hh : ∀ w, Ψ w → Φ w) (cs : List Value) (x : List (BitVec 8)) : MkRd02 Φ cs x → MkRd02 Ψ cs x := MkRd.mono' hh cs x
theorem MkRd02.len {Φ : Ctx} (cs : List Value) (x : List (BitVec 8)) (h : MkRd02 Φ cs x) : cs.length = 1 := MkRd.len' cs x h
abbrev MkRd03 : Ctx → List Value → List (BitVec 8) → Prop := MkRd (List.replicate 70 165#8)
theorem MkRd03.mono {Φ Ψ : Ctx} (hh : ∀ w, Ψ w → Φ w) (cs : List Value) (x : List (BitVec 8)) : MkRd03 Φ cs x → MkRd03 Ψ cs x := MkRd.mono' hh cs x
theorem MkRd03.len {Φ : Ctx} (cs : List Value) (x : List (BitVec 8)) (h : MkRd03 Φ cs x) : cs.length = 1 := MkRd.len' cs x h
def MRooms (m : List (BitVec 8)) (k : List (List (BitVec 8))) (Φ : Ctx) (A : Option Addr) (c : Nat) (x : List (List (BitVec 8))) : Prop :=
 ∃ cs mk : List Value, View Φ A (x ++ k).length c 1 (cs ++ mk) ∧ Reps (MkRd m Φ) cs x ∧ Reps (BsRd Φ) (cs ++ mk) (x ++ k)
theorem MRooms.mono {m : List (BitVec 8)} {k : List (List (BitVec 8))} {Φ Ψ : Ctx} {A : Option Addr} {c : Nat} {x : List (List (BitVec 8))} (h : MRooms m k Φ A c x) (hh : ∀ w, Ψ w → Φ w) : MRooms m k Ψ A c x := by
 obtain ⟨cs, mk, v, r, rb⟩ := h
 exact ⟨cs, mk, v.mono hh, r.mono (MkRd.mono' hh), rb.mono (BsRd.mono hh)⟩
structure Lt where
 b : Nat
 t : List (BitVec 8)
 c : Nat
 r : List Value
def Lt.ent (te : TypeId) (m : List (BitVec 8)) (x : Lt) : Ent := (some x.b, blk (u8s x.t ++ (u8s m ++ x.r)) te)
def Lt.cell (x : Lt) : Value := .slice (some ⟨x.b, 0, none⟩) x.t.length x.c
structure Lt.Ok (m : List (BitVec 8)) (x : Lt) : Prop where
 own : OwnS (some x.b) x.t.length x.c 1 (u8s x.t) (u8s m ++ x.r)
 mx : x.t.length + m.length ≤ 140737488355328
def lents (te : TypeId) (m : List (BitVec 8)) (l : List Lt) : List Ent := l.map (Lt.ent te m)
theorem Reps.bs {m : List (BitVec 8)} {Φ : Ctx} {cs : List Value} {xs : List (List (BitVec 8))} (h : Reps (MkRd m Φ) cs xs) : Reps (BsRd Φ) cs xs := h.mono MkRd.bs'
def lx (te2 te : TypeId) (m : List (BitVec 8)) (b0 : Nat) (r : List Value) (mks ls : List Lt) : List Ent := (some b0, blk (ls.map Lt.cell ++ (mks.map Lt.cell ++ r)) te2) :: (lents te [] mks ++ lents te m ls)
end Go.Fw
namespace Go.Fw
open Go
def restOf (w0 w : World) (E : List Ent) : List Ent := (allEnts w0 w).filter fun e => E.all fun x => decide (x.1 ≠ e.1)
theorem Mem.restOf {w0 w : World} {E : List Ent} (m : Mem w0 w E) : Mem w0 w (E ++ Go.Fw.restOf w0 w E) := by
 have ma := m.all
 have hf : ∀ e ∈ Go.Fw.restOf w0 w E, ∀ x ∈ E, x.1 ≠ e.1 := fun e he x hx => of_decide_eq_true (List.all_eq_true.1 (List.mem_filter.1 he).2 x hx)
 refine ⟨m.os, m.tape, m.output, m.size, m.old, fun e he b hb => ?_, List.pairwise_append.2 ⟨m.apart, ma.apart.sublist List.filter_sublist, fun x hx e he b h1 h2 => hf e he x hx (h1.trans h2.symm)⟩⟩
 rcases List.mem_append.1 he with he | he
 ·exact m.ents e he b hb
 ·exact ma.ents e (List.mem_filter.1 he).1 b hb
theorem Mem.unrest {w0 w w2 : World} {E N : List Ent} (mE : Mem w0 w E) (mN : Mem w0 w N) (m : Mem w0 w2 (E ++ Go.Fw.restOf w0 w E)) : Mem w0 w2 N := by
 refine ⟨m.os, m.tape, m.output, m.size, m.old, fun e he b hb => ?_, mN.apart⟩
 obtain ⟨h1, h2⟩ := mN.ents e he b hb
 refine ⟨h1, ?_⟩
 by_cases hE : ∃ x ∈ E, x.1 = some b
 ·obtain ⟨x, hx, hxb⟩ := hE
  have q1 := (mE.ents x hx b hxb).2
  have q2 := (m.ents x (List.mem_append_left _ hx) b hxb).2
  rw [q2, ← q1, h2]
 ·have hlt : b < w.heap.size := (Array.getElem?_eq_some_iff.1 h2).1
  have hall : ((some b, e.2) : Ent) ∈ allEnts w0 w := by
   refine List.mem_map.2 ⟨b - w0.heap.size, List.mem_range.2 (by omega), ?_⟩
   have e1 : w0.heap.size + (b - w0.heap.size) = b := by omega
   simp [e1, h2]
  have hin : ((some b, e.2) : Ent) ∈ Go.Fw.restOf w0 w E := List.mem_filter.2 ⟨hall, List.all_eq_true.2 fun x hx => decide_eq_true fun h => hE ⟨x, hx, h⟩⟩
  exact (m.ents _ (List.mem_append_right _ hin) b rfl).2
theorem DoesG.ro {P : Program} {f : FuncId} {args : List Value} {w0 : World} {E N : List Ent} {R : Value → Prop} (h : ∀ N0, DoesG P f args w0 E N0 (fun v G => R v ∧ G = E)) (hN : ∀ w, Mem w0 w N → Mem w0 w E) : DoesG P f args w0 [] N (fun v _ => R v) := fun w m => by
 have mE := hN w m
 refine (h (restOf w0 w E) w mE.restOf).mono ?_
 rintro e w2 ⟨q, ⟨G, ⟨h1, rfl⟩, h2⟩, h3, h4⟩
 have h4 : Mem w0 w2 q.2 := h4
 rw [h2] at h4
 exact ⟨(q.1, [] ++ N), ⟨[], h1, rfl⟩, h3, mE.unrest m h4⟩
end Go.Fw
namespace Go.Fw
open Go Go.RowKit
theorem View.of_rd {W : World} {A : Option Addr} {cap len s : Nat} {cells : List Value} (rd : Rd W A cells) (hn : cells.length = len * s) (hle : len ≤ cap) (hmx : cap ≤ 140737488355328) : View (fun w => Mem W w []) A len cap s cells :=
 ⟨fun w q => rd.old q, rd.1, hn, hle, by omega⟩
theorem View.of8 {W : World} {A : Option Addr} {cap : Nat} {xs : List (BitVec 8)} (rd : Rd W A (u8s xs)) (hle : xs.length ≤ cap) (hmx : cap ≤ 140737488351232) : View (fun w => Mem W w []) A xs.length cap 1 (u8s xs) :=
 View.of_rd rd (by rw [Z100, Nat.mul_one]) hle (by omega)
end Go.Fw
namespace Go.Fw
open Go Go.RowKit Go.Deep Go.WideShapes
theorem Reps.of_list {α T : Type} {R : List Value → T → Prop} (cells : α → List Value) (pr : α → T) : ∀ (l : List α), (∀ x ∈ l, R (cells x) (pr x)) → Reps R (l.flatMap cells) (l.map pr)
 | [], _ => .nil
 | x :: l, h => by
  rw [List.flatMap_cons, List.map_cons]
  exact .cons (h x (List.mem_cons_self ..)) (Reps.of_list cells pr l (fun y hy => h y (List.mem_cons_of_mem _ hy)))
section
variable {H : Type} {enc : TypeId × Value → H} {P : Program} {W : World} {t e e2 : TypeId} {v : Value}
theorem reads_bs (ht : P.underlying e = some (.slice e2)) (he : P.underlying e2 = some (.int .u8)) (hs : P.cellsOf e2 = 1) (hb : P.bytesOf e2 = 1) {n : Nat} {u : Value} {r : DataW H × List MemPlace} (h : reads enc P W n e [u] = some r) (hz : Fits P e r.1) :
  ∃ (A : Option Addr) (cap : Nat) (x : List (BitVec 8)), u = .slice A x.length cap ∧ View (fun w => Mem W w []) A x.length cap 1 (u8s x) ∧ x.length ≤ 140737488351232 ∧ ∃ el sp, Els r.1 el sp ∧ el.length = x.length := by
 obtain ⟨A, cap, xs, el, sp, h1, h2, h3, h4, h5, h6, h7, h8, h9, h10⟩ := cells_of_slice (α := BitVec 8) (fun x => [U8 x]) (fun _ _ => True) 1 hs (by omega) (fun n cs r _ hr => by
  obtain ⟨x, rfl⟩ := reads_u8 he hr; exact ⟨x, rfl, trivial⟩) ht h
 rw [flat1] at h6
 have hw := (hz.slice ht h7).1
 rw [hb, h9] at hw
 have hc : cap ≤ 140737488351232 := by simpa [reachBytes] using hw
 exact ⟨A, cap, xs, h1, View.of8 h6 h2 hc, by omega, el, sp, h7, h8⟩
end
end Go.Fw
namespace Go.Fw
open Go
theorem bulk_len {H : Type} (ub : DataW H → Nat) (uba : List (DataW H) → Nat) (h0 : uba [] = 0) (h1 : ∀ d r, uba (d :: r) = ub d + uba r) (h2 : ∀ el sp, ub (.slice el sp) = uba el + uba sp + 1) (hp : ∀ d : DataW H, 1 ≤ ub d)
  {d : DataW H} {el sp : List (DataW H)} (he : Els d el sp) : el.length ≤ ub d := by
 have hlen : ∀ l : List (DataW H), l.length ≤ uba l := fun l => by
  induction l with
  | nil => simp
  | cons x r ih => rw [h1]; have := hp x; simp; omega
 rcases he with ⟨_, rfl, _⟩ | rfl
 ·simp
 ·rw [h2]; have := hlen el; omega
end Go.Fw
namespace Go.Fw
open Go
structure BulkFn {H : Type} (ub : DataW H → Nat) (uba : List (DataW H) → Nat) : Prop where
 h0 : uba [] = 0
 h1 : ∀ d r, uba (d :: r) = ub d + uba r
 hs : ∀ el sp, ub (.slice el sp) = uba el + uba sp + 1
 ha : ∀ l, ub (.agg l) = uba l + 1
 hp : ∀ d : DataW H, 1 ≤ ub d
namespace BulkFn
variable {H : Type} {ub : DataW H → Nat} {uba : List (DataW H) → Nat} (B : BulkFn ub uba)
include B
theorem mem {d : DataW H} : ∀ {l : List (DataW H)}, d ∈ l → ub d ≤ uba l
 | x :: l, h => by
  rw [B.h1]
  rcases List.mem_cons.1 h with rfl | h
  ·omega
  ·have := mem h; omega
theorem len {d : DataW H} {el sp : List (DataW H)} (h : Els d el sp) : el.length ≤ ub d := bulk_len ub uba B.h0 B.h1 B.hs B.hp h
end BulkFn
end Go.Fw
namespace Go.Fw
open Go Go.RowKit Go.Deep Go.WideShapes
section
variable {H : Type} {enc : TypeId × Value → H} {P : Program} {W : World} {t e e2 : TypeId}
theorem reads_hs {n : Nat} (ht : P.underlying t = some (.slice e)) (he : P.underlying e = some (.array n e2)) (he2 : P.underlying e2 = some (.int .u8)) (hs2 : P.cellsOf e2 = 1) (hs : P.cellsOf e = n) (hpos : 0 < n) (hb : P.bytesOf e = n) {m : Nat} {u : Value} {r : DataW H × List MemPlace} (h : reads enc P W m t [u] = some r) (hz : Fits P t r.1) :
  ∃ (A : Option Addr) (cap : Nat) (cells : List Value) (xs : List (Vector (BitVec 8) n)), u = .slice A xs.length cap ∧ View (fun w => Mem W w []) A xs.length cap n cells ∧ Reps (Ar8Rd (fun w => Mem W w [])) cells xs ∧ (∃ el sp, Els r.1 el sp ∧ el.length = xs.length) ∧ xs.length * n ≤ 140737488351232 := by
 obtain ⟨A, cap, xs, el, sp, h1, h2, h3, h4, h5, h6, h7, h8, h9, h10⟩ := cells_of_slice (α := Vector (BitVec 8) n) (fun x => u8s x.toList) (fun _ _ => True) n hs hpos (fun k cs r hl hr => by
  obtain ⟨x, rfl, hl⟩ := reads_arr8 he he2 hs2 hs hr
  exact ⟨⟨x.toArray, by simpa using hl⟩, rfl, trivial⟩) ht h
 have hw := (hz.slice ht h7).1
 rw [hb, h9] at hw
 have hc : cap * n ≤ 140737488351232 := by simpa [reachBytes] using hw
 have hle : xs.length * n ≤ cap * n := Nat.mul_le_mul_right n h2
 have hcap : cap ≤ cap * n := Nat.le_mul_of_pos_right _ hpos
 have hlen : ∀ l : List (Vector (BitVec 8) n), (l.flatMap fun x => u8s x.toList).length = l.length * n := fun l => by
  induction l with
  | nil => simp
  | cons x l ih => rw [List.flatMap_cons, List.length_append, ih, Z100, Zv, List.length_cons, Nat.add_mul]; omega
 refine ⟨A, cap, _, xs, h1, View.of_rd h6 (hlen xs) h2 (by omega), ?_, ⟨el, sp, h7, h8⟩, by omega⟩
 have := Reps.of_list (R := Ar8Rd (n := n) (fun w => Mem W w [])) (fun x : Vector (BitVec 8) n => u8s x.toList) (fun x => x) xs (fun x _ => rfl)
 rwa [List.map_id'] at this
structure LogTypes (P : Program) (tL tA tS tH tB t8 : TypeId) where
 fs : Array Field
 f0 : Field
 f1 : Field
 f2 : Field
 hL : P.underlying tL = some (.struct fs)
 h0 : fs[0]? = some f0
 h1 : fs[1]? = some f1
 h2 : fs[2]? = some f2
 o0 : f0.offset = 0
 o1 : f1.offset = 20
 o2 : f2.offset = 21
 y0 : f0.type = tA
 y1 : f1.type = tS
 y2 : f2.type = tB
 uA : P.underlying tA = some (.array 20 t8)
 uS : P.underlying tS = some (.slice tH)
 uH : P.underlying tH = some (.array 32 t8)
 uB : P.underlying tB = some (.slice t8)
 u8 : P.underlying t8 = some (.int .u8)
 cA : P.cellsOf tA = 20
 cS : P.cellsOf tS = 1
 cH : P.cellsOf tH = 32
 cB : P.cellsOf tB = 1
 c8 : P.cellsOf t8 = 1
 cL : P.cellsOf tL = 22
 b8 : P.bytesOf t8 = 1
 bH : P.bytesOf tH = 32
 bL : P.bytesOf tL = 72
def LogD (d : DataW H) (x : Log) : Prop := ∃ ds d0 d1 d2 el sp el2 sp2, d = .agg (d0 :: d1 :: d2 :: ds) ∧ Els d1 el sp ∧ el.length = x.topics.length ∧ Els d2 el2 sp2 ∧ el2.length = x.data.length
variable {tL tA tS tH tB t8 : TypeId}
theorem reads_log (T : LogTypes P tL tA tS tH tB t8) {n : Nat} {cs : List Value} {d : DataW H} {ps : List MemPlace} (hl : cs.length = 22) (hr : reads enc P W n tL cs = some (d, ps)) (hz : Fits P tL d) :
  ∃ x : Log, LogRd (fun w => Mem W w []) cs x ∧ LogD d x ∧ x.topics.length * 32 ≤ 140737488351232 ∧ x.data.length ≤ 140737488351232 := by
 obtain ⟨xs, m, hn, hx, hcl, hxl, hf⟩ := DataW.trod_struct T.hL hr
 have g0 := hf 0 T.f0 T.h0
 have g1 := hf 1 T.f1 T.h1
 have g2 := hf 2 T.f2 T.h2
 rw [T.o0, T.y0, T.cA] at g0
 rw [T.o1, T.y1, T.cS] at g1
 rw [T.o2, T.y2, T.cB] at g2
 have hsz : 2 < T.fs.size := (Array.getElem?_eq_some_iff.1 T.h2).1
 obtain ⟨x0, e0⟩ : ∃ x, xs[0]? = some x := ⟨_, List.getElem?_eq_getElem (by omega)⟩
 obtain ⟨x1, e1⟩ : ∃ x, xs[1]? = some x := ⟨_, List.getElem?_eq_getElem (by omega)⟩
 obtain ⟨x2, e2⟩ : ∃ x, xs[2]? = some x := ⟨_, List.getElem?_eq_getElem (by omega)⟩
 rw [e0, List.drop_zero] at g0; rw [e1] at g1; rw [e2] at g2
 have hd2 : d = .agg (xs.map (·.1)) := congrArg Prod.fst hx
 subst hd2
 have hz1 : Fits P tS x1.1 := by have := Fits.struct T.hL hz T.h1 (d := x1.1) (by simp [e1]); rwa [T.y1] at this
 have hz2 : Fits P tB x2.1 := by have := Fits.struct T.hL hz T.h2 (d := x2.1) (by simp [e2]); rwa [T.y2] at this
 obtain ⟨ad, ea, la⟩ := reads_arr8 T.uA T.u8 T.c8 T.cA g0
 obtain ⟨u1, hu1⟩ : ∃ u, (cs.drop 20).take 1 = [u] := List.length_eq_one_iff.1 (by rw [List.length_take, List.length_drop]; omega)
 obtain ⟨u2, hu2⟩ : ∃ u, (cs.drop 21).take 1 = [u] := List.length_eq_one_iff.1 (by rw [List.length_take, List.length_drop]; omega)
 rw [hu1] at g1; rw [hu2] at g2
 obtain ⟨A1, c1, cells1, ts, rfl, v1, r1, ⟨el, sp, hel, hlen⟩, m1⟩ := reads_hs T.uS T.uH T.u8 T.c8 T.cH (by decide) T.bH g1 hz1
 obtain ⟨A2, c2, x, rfl, v2, m2, el2, sp2, hel2, hlen2⟩ := reads_bs T.uB T.u8 T.c8 T.b8 g2 hz2
 obtain ⟨av, rfl⟩ : ∃ v : Vector (BitVec 8) 20, ad = v.toList := ⟨⟨ad.toArray, by simpa using la⟩, rfl⟩
 have hcs : cs = (⟨av, .slice A1 ts.length c1, .slice A2 x.length c2⟩ : LogC).C := by
  have h1 : cs = cs.take 20 ++ ((cs.drop 20).take 1 ++ (cs.drop 21).take 1) := by
   have h2 : (cs.drop 21).take 1 = cs.drop 21 := List.take_of_length_le (by rw [List.length_drop]; omega)
   have h3 : cs.drop 21 = (cs.drop 20).drop 1 := by rw [List.drop_drop]
   rw [h2, h3, List.take_append_drop, List.take_append_drop]
  rw [h1, ea, hu1, hu2]
  rfl
 have hD : LogD (H := H) (.agg (xs.map (·.1))) ⟨av, ts, x⟩ := by
  match xs, e0, e1, e2 with
  | [], e, _, _ => simp at e
  | [_], _, e, _ => simp at e
  | [_, _], _, _, e => simp at e
  | y0 :: y1 :: y2 :: r, _, e1, e2 =>
   simp at e1 e2
   subst e1 e2
   exact ⟨r.map (·.1), y0.1, _, _, el, sp, el2, sp2, rfl, hel, hlen, hel2, hlen2⟩
 refine ⟨⟨av, ts, x⟩, ?_, hD, m1, m2⟩
 rw [hcs]
 exact LogRd.mk v1 r1 v2
theorem reads_logs {tLs : TypeId} (T : LogTypes P tL tA tS tH tB t8) (uL : P.underlying tLs = some (.slice tL)) {n : Nat} {u : Value} {r : DataW H × List MemPlace} (h : reads enc P W n tLs [u] = some r) (hz : Fits P tLs r.1) :
  ∃ (A : Option Addr) (cap : Nat) (cells : List Value) (xs : List Log) (el sp : List (DataW H)), u = .slice A xs.length cap ∧ View (fun w => Mem W w []) A xs.length cap 22 cells ∧ Reps (LogRd (fun w => Mem W w [])) cells xs ∧ Els r.1 el sp ∧ el.length = xs.length ∧ xs.length * 72 ≤ 140737488351232 ∧
   (∀ x ∈ xs, x.topics.length * 32 ≤ 140737488351232 ∧ x.data.length ≤ 140737488351232) ∧ ∀ (i : Nat) x d, xs[i]? = some x → el[i]? = some d → LogD d x := by
 obtain ⟨A, cap, ys, el, sp, h1, h2, h3, h4, h5, h6, h7, h8, h9, h10⟩ := cells_of_slice (α := List Value) (fun u => u) (fun cs d => ∃ n ps, cs.length = 22 ∧ reads enc P W n tL cs = some (d, ps)) 22 T.cL (by omega) (fun n cs r hl hr => ⟨cs, rfl, n, r.2, hl, hr⟩) uL h
 have hw := hz.slice uL h7
 rw [T.bL, h9] at hw
 obtain ⟨xs, hlen, hq⟩ := list_of (Q := fun i x => ∃ cs d, ys[i]? = some cs ∧ el[i]? = some d ∧ LogRd (fun w => Mem W w []) cs x ∧ LogD d x ∧ x.topics.length * 32 ≤ 140737488351232 ∧ x.data.length ≤ 140737488351232) ys.length (fun i hi => by
  have hu : ys[i]? = some ys[i] := List.getElem?_eq_getElem hi
  have hd : el[i]? = some (el[i]'(by omega)) := List.getElem?_eq_getElem (by omega)
  obtain ⟨n, ps', hl, hr⟩ := h10 i _ _ hu hd
  obtain ⟨x, e1, e2, e3, e4⟩ := reads_log T hl hr (hw.2 _ (List.mem_of_getElem? hd))
  exact ⟨x, _, _, hu, hd, e1, e2, e3, e4⟩)
 have hreps : ∀ (ys : List (List Value)) (xs : List Log), xs.length = ys.length → (∀ (i : Nat) (x : Log), xs[i]? = some x → ∃ cs, ys[i]? = some cs ∧ LogRd (fun w => Mem W w []) cs x) → Reps (LogRd (fun w => Mem W w [])) (ys.flatMap fun u => u) xs := by
  intro ys
  induction ys with
  | nil => intro its hl _; cases its with | nil => exact .nil | cons _ _ => simp at hl
  | cons y ys ih =>
   intro its hl hq
   cases its with
   | nil => simp at hl
   | cons it its =>
    obtain ⟨cs, e1, e2⟩ := hq 0 it rfl
    simp at e1
    subst e1
    rw [List.flatMap_cons]
    exact .cons e2 (ih its (by simpa using hl) (fun i x hx => by simpa using hq (i + 1) x (by simpa using hx)))
 have hc : cap * 72 ≤ 140737488351232 := by simpa [reachBytes] using hw.1
 have hR := hreps ys xs hlen (fun i x hx => by obtain ⟨cs, d, e1, _, e3, _⟩ := hq i x hx; exact ⟨cs, e1, e3⟩)
 refine ⟨A, cap, _, xs, el, sp, by rw [hlen]; exact h1, View.of_rd h6 (hR.len LogRd.len) (by omega) (by omega), hR, h7, by omega, by omega, fun x hx => ?_, fun i x d hx hd => ?_⟩
 ·obtain ⟨i, hi⟩ := List.getElem?_of_mem hx
  obtain ⟨_, _, _, _, _, _, e5, e6⟩ := hq i x hi
  exact ⟨e5, e6⟩
 ·obtain ⟨cs, d', _, e2', _, e4, _⟩ := hq i x hx
  obtain rfl : d = d' := Zi (hd.symm.trans e2')
  exact e4
theorem arg_logs {tLs : TypeId} (T : LogTypes P tL tA tS tH tB t8) (uL : P.underlying tLs = some (.slice tL)) {b0 : Nat} {v : Value} (hval : Value.okWide P W .any b0 tLs v) {d : DataW H} {ps : List MemPlace} (h : DataW.Trod enc P W 0 (fun _ => true) true tLs v d ps) (hz : Fits P tLs d) :
  ∃ (A : Option Addr) (cap : Nat) (cells : List Value) (xs : List Log) (el sp : List (DataW H)), v = .slice A xs.length cap ∧ View (fun w => Mem W w []) A xs.length cap 22 cells ∧ Reps (LogRd (fun w => Mem W w [])) cells xs ∧ Els d el sp ∧ el.length = xs.length ∧ xs.length * 72 ≤ 140737488351232 ∧
   (∀ x ∈ xs, x.topics.length * 32 ≤ 140737488351232 ∧ x.data.length ≤ 140737488351232) ∧ ∀ (i : Nat) x d, xs[i]? = some x → el[i]? = some d → LogD d x := by
 obtain ⟨a, l, c, rfl⟩ := okWide_slice uL hval
 obtain ⟨fuel, hf⟩ := h
 have hr : reads enc P W fuel tLs [.slice a l c] = some (d, ps) := by simpa [Value.cells] using hf
 exact reads_logs T uL hr hz
end
end Go.Fw
namespace Go.Fw
open Go
abbrev hs32 (l : List (Vector (BitVec 8) 32)) : List Value := l.flatMap fun x => u8s x.toList
theorem Z115 (l : List (Vector (BitVec 8) 32)) : (hs32 l).length = l.length * 32 := by
 induction l with
 | nil => rfl
 | cons x l ih => rw [hs32, List.flatMap_cons, List.length_append, Z100, Zv, List.length_cons, Nat.add_mul, show (l.flatMap fun x => u8s x.toList).length = l.length * 32 from ih]; omega
theorem hs32_one (l : List (Vector (BitVec 8) 32)) : ∀ u ∈ hs32 l, u.oneCell' = true := by
 intro u hu
 obtain ⟨x, _, hx⟩ := List.mem_flatMap.1 hu
 exact u8s_one _ u hx
theorem hs32_reps {Φ : Ctx} (l : List (Vector (BitVec 8) 32)) : Reps (Ar8Rd Φ) (hs32 l) l := by
 have := Reps.of_list (R := Ar8Rd (n := 32) Φ) (fun x : Vector (BitVec 8) 32 => u8s x.toList) (fun x => x) l (fun x _ => rfl)
 rwa [List.map_id'] at this
theorem hs32_of {Φ : Ctx} : ∀ {cs : List Value} {l : List (Vector (BitVec 8) 32)}, Reps (Ar8Rd Φ) cs l → cs = hs32 l
 | _, [], h => by cases h; rfl
 | _, x :: l, h => by
  cases h with
  | cons h1 h2 =>
   have e1 : _ = u8s x.toList := h1
   rw [e1, hs32_of h2]
   rfl
structure Lg where
 a : Vector (BitVec 8) 20
 tb : Option Nat
 t : List (Vector (BitVec 8) 32)
 tc : Nat
 tr : List Value
 db : Option Nat
 d : List (BitVec 8)
 dc : Nat
 dr : List Value
def Lg.val (g : Lg) : Log := ⟨g.a, g.t, g.d⟩
def Lg.cell (g : Lg) : LogC := ⟨g.a, sl g.tb 0 g.t.length g.tc, sl g.db 0 g.d.length g.dc⟩
def Lg.cells (g : Lg) : List Value := g.cell.C
def Lg.ents (tH tB : TypeId) (g : Lg) : List Ent := [(g.tb, blk (hs32 g.t ++ g.tr) tH), (g.db, blk (u8s g.d ++ g.dr) tB)]
structure Lg.Ok (g : Lg) : Prop where
 t : OwnS g.tb g.t.length g.tc 32 (hs32 g.t) g.tr
 d : OwnS g.db g.d.length g.dc 1 (u8s g.d) g.dr
theorem Lg.cells_length (g : Lg) : g.cells.length = 22 := LogC.C_length _
theorem Lg.cells_one (g : Lg) : ∀ u ∈ g.cells, u.oneCell' = true := LogC.C_one _ rfl rfl
theorem Lg.rd {w0 : World} {Φ : Ctx} {tH tB : TypeId} {g : Lg} (ok : g.Ok) (h : ∀ w, Φ w → Mem w0 w (g.ents tH tB)) : LogRd Φ g.cells g.val := by
 have h1 := ok.t.view (te := tH) (w0 := w0) (Ψ := Φ) (by decide) (fun w q => (h w q).sublist (by unfold Lg.ents; exact List.Sublist.cons_cons _ (List.nil_sublist _)))
 have h2 := ok.d.view (te := tB) (w0 := w0) (Ψ := Φ) (by decide) (fun w q => (h w q).tail)
 exact LogRd.mk h1 (hs32_reps _) h2
def lgs (tH tB : TypeId) (l : List Lg) : List Ent := l.flatMap (Lg.ents tH tB)
def lgC (l : List Lg) : List Value := l.flatMap Lg.cells
theorem lgC_length (l : List Lg) : (lgC l).length = l.length * 22 := by
 induction l with
 | nil => rfl
 | cons x l ih => rw [lgC, List.flatMap_cons, List.length_append, Lg.cells_length, List.length_cons, Nat.add_mul, show (l.flatMap Lg.cells).length = l.length * 22 from ih]; omega
theorem lgC_app (a b : List Lg) : lgC (a ++ b) = lgC a ++ lgC b := List.flatMap_append ..
theorem lgC_one1 (g : Lg) : lgC [g] = g.cells := by simp [lgC]
theorem lgs_app (tH tB : TypeId) (a b : List Lg) : lgs tH tB (a ++ b) = lgs tH tB a ++ lgs tH tB b := List.flatMap_append ..
theorem lgs_one1 (tH tB : TypeId) (g : Lg) : lgs tH tB [g] = g.ents tH tB := by simp [lgs]
theorem lgs_reps {w0 : World} {Φ : Ctx} {tH tB : TypeId} : ∀ {l : List Lg}, (∀ g ∈ l, g.Ok) → (∀ w, Φ w → Mem w0 w (lgs tH tB l)) → Reps (LogRd Φ) (lgC l) (l.map Lg.val)
 | [], _, _ => .nil
 | g :: l, ok, h => by
  have h1 : LogRd Φ g.cells g.val := Lg.rd (tH := tH) (tB := tB) (ok g (List.mem_cons_self ..)) (fun w q => (h w q).appL)
  have h2 := lgs_reps (l := l) (fun x hx => ok x (List.mem_cons_of_mem _ hx)) (fun w q => (h w q).appR)
  exact .cons h1 h2
theorem lgs_snoc {w0 w : World} {tH tB : TypeId} {l : List Lg} {g : Lg} {X K : List Ent} (m : Mem w0 w (X ++ (g.ents tH tB ++ (lgs tH tB l ++ K)))) : Mem w0 w (X ++ (lgs tH tB (l ++ [g]) ++ K)) := by
 refine m.perm (List.Perm.append_left X ?_)
 rw [lgs_app, lgs_one1, ← List.append_assoc]
 exact List.Perm.append_right K List.perm_append_comm
end Go.Fw
namespace Go.Fw
def Log.zero : Log := ⟨Vector.replicate 20 0#8, [], []⟩
def Rdr.bd (r : Rdr) : Prop := 0 ≤ r.err ∧ r.err ≤ 1000
def Rcpt.zero : Rcpt := ⟨0, false, Vector.replicate 32 0#8, 0#64, 0#64, Vector.replicate 256 0#8, []⟩
abbrev RcptZ : RcptC := ⟨0, false, Vector.replicate 32 0#8, 0#64, 0#64, Vector.replicate 256 0#8, .slice none 0 0⟩
end Go.Fw
namespace Go.Fw.Tryd
open Go Go.Proofs Go.Fw
def DecO (w0 : World) (x : Rcpt) (e : Int) : Value → List Ent → Prop := fun v G => ∃ (gs : List Lg) (ob : Option Nat) (c : Nat) (r : List Value) (B : List Ent), (∀ g ∈ gs, g.Ok) ∧ OwnS ob gs.length c 22 (lgC gs) r ∧ gs.map Lg.val = x.logs ∧ (-9223372036854775808 ≤ e ∧ e ≤ 9223372036854775807) ∧ (-9223372036854775808 ≤ x.kind ∧ x.kind ≤ 9223372036854775807) ∧
 v = .tuple #[.agg (⟨x.kind, x.rooted, x.root, x.status, x.used, x.bloom, sl ob 0 gs.length c⟩ : RcptC).C.toArray, .int .i64 e] ∧ G = (ob, blk (lgC gs ++ r) 63) :: (lgs 24 5 gs ++ B)
theorem DecO.zero {w0 : World} {e : Int} (he : -9223372036854775808 ≤ e ∧ e ≤ 9223372036854775807) (B : List Ent) : DecO w0 Rcpt.zero e (.tuple #[.agg RcptZ.C.toArray, .int .i64 e]) ((none, blk [] 63) :: B) :=
 ⟨[], none, 0, [], B, (fun g hg => by cases hg), OwnS.nil, rfl, he, (by show _ ≤ (0 : Int) ∧ (0 : Int) ≤ _; omega), rfl, rfl⟩
theorem DecO.rd {w0 : World} {Φ : Ctx} {x : Rcpt} {e : Int} {v : Value} {G : List Ent} (h : DecO w0 x e v G) : ∃ B : List Ent, ∃ cr0 : List Value, RcptRd (More w0 Φ B) cr0 x ∧ (-9223372036854775808 ≤ e ∧ e ≤ 9223372036854775807) ∧ v = .tuple #[.agg cr0.toArray, .int .i64 e] ∧ G = B := by
 obtain ⟨gs, ob, c, r, B, hok, ho, hv, he, hk, rfl, rfl⟩ := h
 refine ⟨_, _, ?_, he, rfl, rfl⟩
 have hvl := ho.view (te := 63) (w0 := w0) (Ψ := More w0 Φ ((ob, blk (lgC gs ++ r) 63) :: (lgs 24 5 gs ++ B))) (by decide) (fun w q => q.2.sublist (List.singleton_sublist.2 (List.mem_cons_self ..)))
 have hrl := lgs_reps (w0 := w0) (Φ := More w0 Φ ((ob, blk (lgC gs ++ r) 63) :: (lgs 24 5 gs ++ B))) (tH := 24) (tB := 5) hok (fun w q => q.2.tail.appL)
 obtain ⟨k, ro, rt, st, us, bl, lg⟩ := x
 dsimp only at hv hk ⊢
 subst hv
 have hvl2 : View (More w0 Φ ((ob, blk (lgC gs ++ r) 63) :: (lgs 24 5 gs ++ B))) (ob.map fun k => ⟨k, 0, none⟩) (gs.map Lg.val).length c 22 (lgC gs) := by rw [List.length_map]; exact hvl
 have := RcptRd.mk (kind := k) (rooted := ro) (root := rt) (status := st) (used := us) (bloom := bl) (logs := gs.map Lg.val) hk hvl2 hrl
 rw [List.length_map] at this
 exact this
end Go.Fw.Tryd
namespace Go.Fw
open Go
def mk20 : Vector (BitVec 8) 20 := (Vector.replicate 20 0#8).setIfInBounds 0 195#8
def mk32 : Vector (BitVec 8) 32 := (Vector.replicate 32 0#8).setIfInBounds 0 195#8
abbrev LogZ0 : LogC := ⟨Vector.replicate 20 0#8, .slice none 0 0, .slice none 0 0⟩
abbrev LgMk : LogC := ⟨mk20, .slice none 0 0, .slice none 0 0⟩
theorem OwnS.full {ob : Option Nat} {len cap s : Nat} {cells r : List Value} (h : OwnS ob len cap s cells r) (hm : cap ≤ 140737488355328) : OwnS ob cap cap s (cells ++ r) [] := ⟨h.hr, by rw [List.append_nil]; exact h.hr, h.hn, hm⟩
structure LgM (g : Lg) : Prop where
 ok : g.Ok
 tc : g.tc = g.t.length + 1
 tr : g.tr = u8s mk32.toList
 dc : g.dc = g.d.length + 70
 dr : g.dr = u8s (List.replicate 70 195#8) ++ []
 tm : g.t.length + 1 ≤ 140737488355328
 dm : g.d.length + 70 ≤ 140737488355328
def LmRd (Φ : Ctx) (cs : List Value) (x : Log) : Prop := ∃ (A1 A2 : Option Addr), cs = (⟨x.address, .slice A1 x.topics.length (x.topics.length + 1), .slice A2 x.data.length (x.data.length + 70)⟩ : LogC).C ∧
 View Φ A1 (x.topics.length + 1) (x.topics.length + 1) 32 (hs32 x.topics ++ u8s mk32.toList) ∧ View Φ A2 (x.data.length + 70) (x.data.length + 70) 1 (u8s (x.data ++ List.replicate 70 195#8))
theorem LmRd.mono {Φ Ψ : Ctx} (hh : ∀ w, Ψ w → Φ w) (cs : List Value) (x : Log) : LmRd Φ cs x → LmRd Ψ cs x := fun ⟨A1, A2, e, v1, v2⟩ => ⟨A1, A2, e, v1.mono hh, v2.mono hh⟩
theorem LmRd.len {Φ : Ctx} (cs : List Value) (x : Log) (h : LmRd Φ cs x) : cs.length = 22 := by
 obtain ⟨A1, A2, e, _, _⟩ := h
 rw [e]; exact LogC.C_length _
theorem LmRd.one {Φ : Ctx} (cs : List Value) (x : Log) (h : LmRd Φ cs x) : ∀ u ∈ cs, u.oneCell' = true := by
 obtain ⟨A1, A2, e, _, _⟩ := h
 rw [e]; exact LogC.C_one _ rfl rfl
theorem LmRd.log {Φ : Ctx} (cs : List Value) (x : Log) (h : LmRd Φ cs x) : LogRd Φ cs x := by
 obtain ⟨A1, A2, rfl, v1, v2⟩ := h
 have h1 := v1.hi (k := x.topics.length) (by omega)
 rw [List.take_append_of_le_length (by rw [Z115]; omega), List.take_of_length_le (by rw [Z115]; omega)] at h1
 have h2 := v2.hi (k := x.data.length) (by omega)
 rw [Nat.mul_one, show (u8s (x.data ++ List.replicate 70 195#8)).take x.data.length = u8s x.data by simp [u8s]] at h2
 exact LogRd.mk h1 (hs32_reps _) h2
theorem LgM.rd {w0 : World} {Φ : Ctx} {tH tB : TypeId} {g : Lg} (h : LgM g) (hm : ∀ w, Φ w → Mem w0 w (g.ents tH tB)) : LmRd Φ g.cells g.val := by
 obtain ⟨a, tb, t, tc, tr, db, d, dc, dr⟩ := g
 obtain ⟨ok, e1, e2, e3, e4, m1, m2⟩ := h
 obtain ⟨ok1, ok2⟩ := ok
 dsimp only at e1 e2 e3 e4 m1 m2 ok1 ok2
 subst e1 e2 e3 e4
 refine ⟨_, _, rfl, ?_, ?_⟩
 ·have := (ok1.full m1).view (te := tH) (w0 := w0) (Ψ := Φ) (by decide) (fun w q => by rw [List.append_nil]; exact (hm w q).sublist (by unfold Lg.ents; exact List.Sublist.cons_cons _ (List.nil_sublist _)))
  exact this
 ·have := (ok2.full m2).view (te := tB) (w0 := w0) (Ψ := Φ) (by decide) (fun w q => by rw [List.append_nil]; exact (hm w q).tail)
  rw [List.append_nil, u8s_app] at this
  exact this
theorem lgm_reps {w0 : World} {Φ : Ctx} {tH tB : TypeId} : ∀ {l : List Lg}, (∀ g ∈ l, LgM g) → (∀ w, Φ w → Mem w0 w (lgs tH tB l)) → Reps (LmRd Φ) (lgC l) (l.map Lg.val)
 | [], _, _ => .nil
 | g :: l, ok, h => by
  have h1 : LmRd Φ g.cells g.val := LgM.rd (tH := tH) (tB := tB) (ok g (List.mem_cons_self ..)) (fun w q => (h w q).appL)
  have h2 := lgm_reps (l := l) (fun x hx => ok x (List.mem_cons_of_mem _ hx)) (fun w q => (h w q).appR)
  exact .cons h1 h2
def LRooms (Φ : Ctx) (A : Option Addr) (c : Nat) (x : List Log) : Prop := ∃ cs : List Value, View Φ A (x.length + 1) c 22 (cs ++ LgMk.C) ∧ Reps (LmRd Φ) cs x
theorem LRooms.mono {Φ Ψ : Ctx} {A : Option Addr} {c : Nat} {x : List Log} (h : LRooms Φ A c x) (hh : ∀ w, Ψ w → Φ w) : LRooms Ψ A c x := by
 obtain ⟨cs, v, r⟩ := h
 exact ⟨cs, v.mono hh, r.mono (LmRd.mono hh)⟩
theorem LRooms.opn {Φ : Ctx} {A : Option Addr} {c : Nat} {x : List Log} (h : LRooms Φ A c x) : ∃ cs : List Value, View Φ A (x.length + 1) c 22 (cs ++ LgMk.C) ∧ View Φ A x.length c 22 cs ∧ Reps (LmRd Φ) cs x := by
 obtain ⟨cs, v, r⟩ := h
 have h1 := v.hi (k := x.length) (by omega)
 have hl := r.len LmRd.len
 rw [List.take_append_of_le_length (by omega), List.take_of_length_le (by omega)] at h1
 exact ⟨cs, v, h1, r⟩
theorem LRooms.mk {Φ : Ctx} {A : Option Addr} {c : Nat} {x : List Log} {cs : List Value} (v : View Φ A (x.length + 1) c 22 (cs ++ LgMk.C)) (r : Reps (LmRd Φ) cs x) : LRooms Φ A c x := ⟨cs, v, r⟩
def twfit (l : List Log) : Bool := l.all (fun x => decide (x.topics.length * 32 ≤ 140737488355328 ∧ x.data.length + 70 ≤ 140737488355328)) && decide (l.length * 72 ≤ 140737488355328)
def waybilllaw17_twin (l : List Log) : Option (List Log) := if twfit l = true then some l else none
def zc (k : Nat) : List Value := (List.replicate k LogZ0.C).flatten
theorem zc_length (k : Nat) : (zc k).length = k * 22 := by
 rw [zc, List.length_flatten, List.map_replicate, List.sum_replicate_nat, LogC.C_length]
theorem zc_succ (k : Nat) : zc (k + 1) = LogZ0.C ++ zc k := by simp [zc, List.replicate_succ]
theorem zc_snoc (k : Nat) : zc (k + 1) = zc k ++ LogZ0.C := by simp [zc, List.replicate_succ']
theorem tw_mark (k : Nat) : spl (zc (k + 1)) (k * 22) LgMk.C = zc k ++ LgMk.C := by
 have h1 : (zc k ++ LogZ0.C).length = k * 22 + 22 := by rw [List.length_append, zc_length, LogC.C_length]
 rw [zc_snoc]
 unfold spl
 rw [List.take_append_of_le_length (by rw [zc_length]; omega), List.take_of_length_le (by rw [zc_length]; omega), LogC.C_length, List.drop_of_length_le (by omega), List.append_nil]
theorem tw_set {gs : List Lg} {g : Lg} {m off : Nat} {X : List Value} (h : off = gs.length * 22) : spl (lgC gs ++ (zc (m + 1) ++ X)) off g.cells = lgC (gs ++ [g]) ++ (zc m ++ X) := by
 subst h
 have h1 : (lgC gs).length = gs.length * 22 := lgC_length _
 have h2 : LogZ0.C.length = 22 := LogC.C_length _
 unfold spl
 rw [zc_succ, Lg.cells_length, List.take_append_of_le_length (by omega), List.take_of_length_le (by omega), List.append_assoc LogZ0.C, ← List.append_assoc (lgC gs), List.drop_append, List.drop_of_length_le (by rw [List.length_append]; omega), List.length_append, h1, h2, Nat.sub_self, List.drop_zero, List.nil_append, lgC_app, lgC_one1]
theorem tw_topic (t : List (Vector (BitVec 8) 32)) (zs : List Value) (hz : zs.length = 32) : spl (hs32 t ++ zs) (t.length * 32) (u8s mk32.toList) = hs32 t ++ u8s mk32.toList := by
 unfold spl
 have h1 := Z115 t
 have h2 : (u8s mk32.toList).length = 32 := (Z100 _).trans Zv
 rw [List.take_append_of_le_length (by omega), List.take_of_length_le (by omega), h2, List.drop_of_length_le (by rw [List.length_append]; omega), List.append_nil]
end Go.Fw
namespace Go.Fw
def waybillref17_takes.l2 (a0 : Log) (a2 : List (List (Vector (BitVec 8) 32))) (n40 : Nat) : Nat → (Bool) → (Nat) → Option ((Bool))
 | 0, _, _ => none
 | k75 + 1, p72, n73 => (a2[n40]?).bind fun x82 => (if n73 < x82.length then (((if p72 = true then (some (true)) else (a2[n40]?).bind fun x105 => (x105[n73]?).bind fun x118 => (a0.topics[n40]?).bind fun x124 => (some ((decide (x118 = x124))))) : Option ((Bool))).bind fun p98 => (waybillref17_takes.l2 a0 a2 n40 k75 (p98) (n73 + 1))) else (some ((p72))))
def waybillref17_takes.l1 (a0 : Log) (a2 : List (List (Vector (BitVec 8) 32))) : Nat → (Nat) → Option (Lp ((Bool)) (Unit))
 | 0, _ => none
 | k42 + 1, n40 => (if n40 < a2.length then (a2[n40]?).bind fun x50 => (((waybillref17_takes.l2 a0 a2 n40 (((a2[n40]?)).elim 2 fun x77 => (x77.length - 0 + 2)) (decide (x50.length = 0)) 0) : Option ((Bool))).bind fun p65 => (if p65 = true then (waybillref17_takes.l1 a0 a2 k42 (n40 + 1)) else (some (Lp.ret (some false))))) else (some (Lp.go ())))
def waybillref17_takes.l3 (a0 : Log) (a1 : List (Vector (BitVec 8) 20)) : Nat → (Bool) → (Nat) → Option ((Bool))
 | 0, _, _ => none
 | k134 + 1, p131, n132 => (if n132 < a1.length then (((if p131 = true then (some (true)) else (a1[n132]?).bind fun x151 => (some ((decide (x151 = a0.address))))) : Option ((Bool))).bind fun p144 => (waybillref17_takes.l3 a0 a1 k134 (p144) (n132 + 1))) else (some ((p131))))
def waybillref17_takes (a0 : Log) (a1 : List (Vector (BitVec 8) 20)) (a2 : List (List (Vector (BitVec 8) 32))) : Option ((Bool)) := (((waybillref17_takes.l3 a0 a1 (a1.length - 0 + 2) (decide (a1.length = 0)) 0) : Option ((Bool))).bind fun p18 => (((if p18 = true then (some ((decide (a0.topics.length < a2.length)))) else (some (true))) : Option ((Bool))).bind fun p26 => (if p26 = true then (some false) else (((waybillref17_takes.l1 a0 a2 (a2.length - 0 + 2) 0) : Option (Lp ((Bool)) (Unit))).bind fun | .ret o => o | .go () => (some true)))))
def waybillref17_Find.l1 (a0 : List (Log)) (a1 : List (Vector (BitVec 8) 20)) (a2 : List (List (Vector (BitVec 8) 32))) : Nat → (List (Int)) → (Nat) → Option ((List (Int)))
 | 0, _, _ => none
 | k24 + 1, l17, n22 => (if n22 < a0.length then (a0[n22]?).bind fun x33 => ((waybillref17_takes x33 a1 a2).bind fun x52 => (((if x52 = true then (if (l17.length + ([n22] : List (Int)).length) * 8 ≤ 140737488355328 then (some ((l17 ++ ([n22] : List (Int))))) else none) else (some (l17))) : Option ((List (Int)))).bind fun l57 => (waybillref17_Find.l1 a0 a1 a2 k24 l57 (n22 + 1)))) else (some (l17)))
def waybillref17_Find (a0 : List (Log)) (a1 : List (Vector (BitVec 8) 20)) (a2 : List (List (Vector (BitVec 8) 32))) : Option ((List (Int))) := (((waybillref17_Find.l1 a0 a1 a2 (a0.length - 0 + 2) ([] : List (Int)) 0) : Option ((List (Int)))).bind fun l6 => (some l6))
end Go.Fw
namespace Go.Fw
open Go
abbrev ars {n : Nat} (l : List (Vector (BitVec 8) n)) : List Value := l.flatMap fun x => u8s x.toList
theorem ars_length {n : Nat} (l : List (Vector (BitVec 8) n)) : (ars l).length = l.length * n := by
 induction l with
 | nil => simp [ars]
 | cons x l ih => rw [ars, List.flatMap_cons, List.length_append, Z100, Zv, List.length_cons, Nat.add_mul, show (l.flatMap fun x => u8s x.toList).length = l.length * n from ih]; omega
theorem ars_one {n : Nat} (l : List (Vector (BitVec 8) n)) : ∀ u ∈ ars l, u.oneCell' = true := by
 intro u hu
 obtain ⟨x, _, hx⟩ := List.mem_flatMap.1 hu
 exact u8s_one _ u hx
theorem ars_app {n : Nat} (a b : List (Vector (BitVec 8) n)) : ars (a ++ b) = ars a ++ ars b := List.flatMap_append ..
theorem ars_two {n : Nat} (m : Vector (BitVec 8) n) : ars [m, m] = u8s m.toList ++ u8s m.toList := by simp [ars]
theorem ars_reps {n : Nat} {Φ : Ctx} (l : List (Vector (BitVec 8) n)) : Reps (Ar8Rd Φ) (ars l) l := by
 have := Reps.of_list (R := Ar8Rd (n := n) Φ) (fun x : Vector (BitVec 8) n => u8s x.toList) (fun x => x) l (fun x _ => rfl)
 rwa [List.map_id'] at this
theorem ars_of {n : Nat} {Φ : Ctx} : ∀ {cs : List Value} {l : List (Vector (BitVec 8) n)}, Reps (Ar8Rd Φ) cs l → cs = ars l
 | _, [], h => by cases h; rfl
 | _, x :: l, h => by
  cases h with
  | cons h1 h2 =>
   have e1 : _ = u8s x.toList := h1
   rw [e1, ars_of h2]
   rfl
theorem ars_at {n : Nat} (l r : List (Vector (BitVec 8) n)) (x : Vector (BitVec 8) n) : ∀ j u, (u8s x.toList)[j]? = some u → (ars (l ++ x :: r))[l.length * n + j]? = some u := fun j u hj => by
 rw [ars_app, List.getElem?_append_right (by rw [ars_length]; omega), ars_length, show l.length * n + j - l.length * n = j by omega, ars, List.flatMap_cons, List.getElem?_append_left (List.getElem?_eq_some_iff.1 hj).1]
 exact hj
theorem ars_get {n : Nat} {l : List (Vector (BitVec 8) n)} {i : Nat} {x : Vector (BitVec 8) n} (h : l[i]? = some x) : ∀ j u, (u8s x.toList)[j]? = some u → (ars l)[i * n + j]? = some u := fun j u hj => by
 obtain ⟨hi, rfl⟩ := List.getElem?_eq_some_iff.1 h
 have e : l = l.take i ++ l[i] :: l.drop (i + 1) := by rw [← List.drop_eq_getElem_cons hi, List.take_append_drop]
 have := ars_at (l.take i) (l.drop (i + 1)) l[i] j u hj
 rw [← e, List.length_take, Nat.min_eq_left (by omega)] at this
 exact this
def markH : Vector (BitVec 8) 32 := ((Vector.replicate 32 0#8).setIfInBounds 0 165#8).setIfInBounds 1 90#8
def markA : Vector (BitVec 8) 20 := ((Vector.replicate 20 0#8).setIfInBounds 0 165#8).setIfInBounds 1 90#8
def HRoom {n : Nat} (m : Vector (BitVec 8) n) (Φ : Ctx) (A : Option Addr) (c : Nat) (x : List (Vector (BitVec 8) n)) : Prop := View Φ A (x.length + 2) c n (ars (x ++ [m, m]))
theorem HRoom.mono {n : Nat} {m : Vector (BitVec 8) n} {Φ Ψ : Ctx} {A : Option Addr} {c : Nat} {x : List (Vector (BitVec 8) n)} (h : HRoom m Φ A c x) (hh : ∀ w, Ψ w → Φ w) : HRoom m Ψ A c x := View.mono h hh
theorem HRoom.view {n : Nat} {m : Vector (BitVec 8) n} {Φ : Ctx} {A : Option Addr} {c : Nat} {x : List (Vector (BitVec 8) n)} (h : HRoom m Φ A c x) : View Φ A x.length c n (ars x) := by
 have h1 := View.hi h (k := x.length) (by omega)
 rw [ars_app, List.take_append_of_le_length (by rw [ars_length]; omega), List.take_of_length_le (by rw [ars_length]; omega)] at h1
 exact h1
def lentAr {n : Nat} (x : List (Vector (BitVec 8) n)) : Option (List (Vector (BitVec 8) n)) := if (x.length + 2) * n ≤ 140737488355328 then some x else none
def HmRd (Φ : Ctx) (cs : List Value) (x : List (Vector (BitVec 8) 32)) : Prop := ∃ A c, cs = [.slice A x.length c] ∧ HRoom markH Φ A c x
theorem HmRd.mono {Φ Ψ : Ctx} (hh : ∀ w, Ψ w → Φ w) (cs : List Value) (x : List (Vector (BitVec 8) 32)) : HmRd Φ cs x → HmRd Ψ cs x := fun ⟨A, c, e, v⟩ => ⟨A, c, e, v.mono hh⟩
theorem HmRd.len {Φ : Ctx} (cs : List Value) (x : List (Vector (BitVec 8) 32)) (h : HmRd Φ cs x) : cs.length = 1 := by obtain ⟨A, c, rfl, _⟩ := h; rfl
theorem HmRd.hs {Φ : Ctx} (cs : List Value) (x : List (Vector (BitVec 8) 32)) (h : HmRd Φ cs x) : HsRd Φ cs x := by
 obtain ⟨A, c, rfl, v⟩ := h
 exact HsRd.mk v.view (ars_reps _)
end Go.Fw
namespace Go.Fw
def waybilllaw17_still.l1 (a0 : List (BitVec 8)) (a1 : List (BitVec 8)) : Nat → (Nat) → Option (Lp ((Bool)) (Unit))
 | 0, _ => none
 | k17 + 1, n15 => (if n15 < ((a0 ++ List.replicate 70 195#8).take (a1.length + 70)).length then (((if n15 < a1.length then (((a0 ++ List.replicate 70 195#8).take (a1.length + 70))[n15]?).bind fun x35 => (a1[n15]?).bind fun x38 => (if x35 = x38 then (if a1.length ≤ n15 then (((a0 ++ List.replicate 70 195#8).take (a1.length + 70))[n15]?).bind fun x43 => (some ((!decide (x43 = 195#8)))) else (some (false))) else (some (true))) else (if a1.length ≤ n15 then (((a0 ++ List.replicate 70 195#8).take (a1.length + 70))[n15]?).bind fun x47 => (some ((!decide (x47 = 195#8)))) else (some (false)))) : Option ((Bool))).bind fun p27 => (if p27 = true then (some (Lp.ret (some false))) else (waybilllaw17_still.l1 a0 a1 k17 (n15 + 1)))) else (some (Lp.go ())))
def waybilllaw17_still (a0 : List (BitVec 8)) (a1 : List (BitVec 8)) : Option ((Bool)) := (if a0.length = a1.length then (if (a1.length + 70) ≤ (a0 ++ List.replicate 70 195#8).length then (((waybilllaw17_still.l1 a0 a1 ((((a0 ++ List.replicate 70 195#8).take (a1.length + 70)).length) - 0 + 2) 0) : Option (Lp ((Bool)) (Unit))).bind fun | .ret o => o | .go () => (some true)) else none) else (some false))
end Go.Fw
namespace Go.Fw
theorem same17_to (a b : List (BitVec 8)) : ∀ (k i : Nat), waybilllaw17_same.l1 a b k i = some (Lp.go ()) → ∀ j, i ≤ j → j < a.length → a[j]? = b[j]?
 | 0, i, h => by cases h
 | k + 1, i, h => by
  rw [waybilllaw17_same.l1] at h
  intro j hj hl
  rw [if_pos (by omega)] at h
  obtain ⟨x, hx, h⟩ := Option.bind_eq_some_iff.1 h
  obtain ⟨y, hy, h⟩ := Option.bind_eq_some_iff.1 h
  by_cases e : x = y
  ·rw [if_pos e] at h
   rcases Nat.eq_or_lt_of_le hj with rfl | hj
   ·rw [hx, hy, e]
   ·exact same17_to a b k (i + 1) h j hj hl
  ·rw [if_neg e] at h; cases h
theorem same17_true {a b : List (BitVec 8)} (h : waybilllaw17_same a b = some true) : a = b := by
 unfold waybilllaw17_same at h
 by_cases hl : a.length = b.length
 ·rw [if_pos hl] at h
  obtain ⟨o, ho, h⟩ := Option.bind_eq_some_iff.1 h
  cases o with
  | ret o =>
   exfalso
   have : ∀ (k i : Nat) o, waybilllaw17_same.l1 a b k i = some (Lp.ret o) → o = some false := by
    intro k
    induction k with
    | zero => intro i o h; cases h
    | succ k ih =>
     intro i o h
     rw [waybilllaw17_same.l1] at h
     by_cases hi : i < a.length
     ·rw [if_pos hi] at h
      obtain ⟨x, hx, h⟩ := Option.bind_eq_some_iff.1 h
      obtain ⟨y, hy, h⟩ := Option.bind_eq_some_iff.1 h
      by_cases e : x = y
      ·rw [if_pos e] at h; exact ih _ _ h
      ·rw [if_neg e] at h; simp only [Option.some.injEq, Lp.ret.injEq] at h; exact h.symm
     ·rw [if_neg hi] at h; cases h
   have := this _ _ _ ho
   dsimp only at h
   rw [this] at h
   cases h
  | go u =>
   apply List.ext_getElem?
   intro j
   by_cases hj : j < a.length
   ·exact same17_to a b _ 0 ho j (by omega) hj
   ·rw [List.getElem?_eq_none (by omega), List.getElem?_eq_none (by omega)]
 ·rw [if_neg hl] at h; cases h
theorem sameLog_ret {a b : Log} : ∀ (k i : Nat) o, waybilllaw17_sameLog.l1 a b k i = some (Lp.ret o) → o = some false := by
 intro k
 induction k with
 | zero => intro i o h; cases h
 | succ k ih =>
  intro i o h
  rw [waybilllaw17_sameLog.l1] at h
  by_cases hi : i < a.topics.length
  ·rw [if_pos hi] at h
   obtain ⟨x, hx, h⟩ := Option.bind_eq_some_iff.1 h
   obtain ⟨y, hy, h⟩ := Option.bind_eq_some_iff.1 h
   by_cases e : x = y
   ·rw [if_pos e] at h; exact ih _ _ h
   ·rw [if_neg e] at h; simp only [Option.some.injEq, Lp.ret.injEq] at h; exact h.symm
  ·rw [if_neg hi] at h; cases h
theorem sameLog_to (a b : Log) : ∀ (k i : Nat), waybilllaw17_sameLog.l1 a b k i = some (Lp.go ()) → ∀ j, i ≤ j → j < a.topics.length → a.topics[j]? = b.topics[j]?
 | 0, i, h => by cases h
 | k + 1, i, h => by
  rw [waybilllaw17_sameLog.l1] at h
  intro j hj hl
  rw [if_pos (by omega)] at h
  obtain ⟨x, hx, h⟩ := Option.bind_eq_some_iff.1 h
  obtain ⟨y, hy, h⟩ := Option.bind_eq_some_iff.1 h
  by_cases e : x = y
  ·rw [if_pos e] at h
   rcases Nat.eq_or_lt_of_le hj with rfl | hj
   ·rw [hx, hy, e]
   ·exact sameLog_to a b k (i + 1) h j hj hl
  ·rw [if_neg e] at h; cases h
theorem sameLog_true {a b : Log} (h : waybilllaw17_sameLog a b = some true) : a = b := by
 unfold waybilllaw17_sameLog at h
 by_cases ha : a.address = b.address
 ·rw [if_pos ha, Zb] at h
  by_cases hl : a.topics.length = b.topics.length
  ·rw [if_neg (by simp [hl])] at h
   obtain ⟨o, ho, h⟩ := Option.bind_eq_some_iff.1 h
   cases o with
   | ret o =>
    have := sameLog_ret _ _ _ ho
    dsimp only at h
    rw [this] at h
    cases h
   | go u =>
    dsimp only at h
    obtain ⟨r, hr, h⟩ := Option.bind_eq_some_iff.1 h
    obtain rfl := Zi h
    have ht : a.topics = b.topics := by
     apply List.ext_getElem?
     intro j
     by_cases hj : j < a.topics.length
     ·exact sameLog_to a b _ 0 ho j (by omega) hj
     ·rw [List.getElem?_eq_none (by omega), List.getElem?_eq_none (by omega)]
    have hd := same17_true hr
    obtain ⟨a1, a2, a3⟩ := a
    obtain ⟨b1, b2, b3⟩ := b
    dsimp only at ha ht hd
    rw [ha, ht, hd]
  ·rw [if_pos (by simp [hl])] at h; cases h
 ·rw [if_neg ha, Zb, if_pos rfl] at h; cases h
theorem sameLogs_ret {a b : List Log} : ∀ (k i : Nat) o, waybilllaw17_sameLogs.l1 a b k i = some (Lp.ret o) → o = some false := by
 intro k
 induction k with
 | zero => intro i o h; cases h
 | succ k ih =>
  intro i o h
  rw [waybilllaw17_sameLogs.l1] at h
  by_cases hi : i < a.length
  ·rw [if_pos hi] at h
   obtain ⟨x, hx, h⟩ := Option.bind_eq_some_iff.1 h
   obtain ⟨y, hy, h⟩ := Option.bind_eq_some_iff.1 h
   obtain ⟨r, hr, h⟩ := Option.bind_eq_some_iff.1 h
   by_cases e : r = true
   ·rw [if_pos e] at h; exact ih _ _ h
   ·rw [if_neg e] at h; simp only [Option.some.injEq, Lp.ret.injEq] at h; exact h.symm
  ·rw [if_neg hi] at h; cases h
theorem sameLogs_to (a b : List Log) : ∀ (k i : Nat), waybilllaw17_sameLogs.l1 a b k i = some (Lp.go ()) → ∀ j, i ≤ j → j < a.length → a[j]? = b[j]?
 | 0, i, h => by cases h
 | k + 1, i, h => by
  rw [waybilllaw17_sameLogs.l1] at h
  intro j hj hl
  rw [if_pos (by omega)] at h
  obtain ⟨x, hx, h⟩ := Option.bind_eq_some_iff.1 h
  obtain ⟨y, hy, h⟩ := Option.bind_eq_some_iff.1 h
  obtain ⟨r, hr, h⟩ := Option.bind_eq_some_iff.1 h
  by_cases e : r = true
  ·rw [if_pos e] at h
   subst e
   rcases Nat.eq_or_lt_of_le hj with rfl | hj
   ·rw [hx, hy, sameLog_true hr]
   ·exact sameLogs_to a b k (i + 1) h j hj hl
  ·rw [if_neg e] at h; cases h
theorem sameLogs_true {a b : List Log} (h : waybilllaw17_sameLogs a b = some true) : a = b := by
 unfold waybilllaw17_sameLogs at h
 by_cases hl : a.length = b.length
 ·rw [if_pos hl] at h
  obtain ⟨o, ho, h⟩ := Option.bind_eq_some_iff.1 h
  cases o with
  | ret o =>
   have := sameLogs_ret _ _ _ ho
   dsimp only at h
   rw [this] at h
   cases h
  | go u =>
   apply List.ext_getElem?
   intro j
   by_cases hj : j < a.length
   ·exact sameLogs_to a b _ 0 ho j (by omega) hj
   ·rw [List.getElem?_eq_none (by omega), List.getElem?_eq_none (by omega)]
 ·rw [if_neg hl] at h; cases h
def waybilllaw17_stillLogs (x y : List Log) : Option Bool := (waybilllaw17_sameLogs x y).bind fun r => if r = true then some true else none
theorem stillLogs_true {x y : List Log} {r : Bool} (h : waybilllaw17_stillLogs x y = some r) : x = y ∧ r = true ∧ waybilllaw17_sameLogs x y = some true := by
 unfold waybilllaw17_stillLogs at h
 obtain ⟨q, hq, h⟩ := Option.bind_eq_some_iff.1 h
 by_cases e : q = true
 ·rw [if_pos e] at h
  subst e
  exact ⟨sameLogs_true hq, (Zi h).symm, hq⟩
 ·rw [if_neg e] at h; cases h
end Go.Fw
namespace Go.Fw
theorem still17_loop (a : List (BitVec 8)) : ∀ (d i k : Nat), i + d = a.length + 70 → d < k → waybilllaw17_still.l1 a a k i = some (Lp.go ())
 | 0, i, k, h, hk => by
  obtain ⟨k, rfl⟩ : ∃ m, k = m + 1 := ⟨k - 1, by omega⟩
  rw [waybilllaw17_still.l1, if_neg (by rw [List.length_take, List.length_append, List.length_replicate]; omega)]
 | d + 1, i, k, h, hk => by
  obtain ⟨k, rfl⟩ : ∃ m, k = m + 1 := ⟨k - 1, by omega⟩
  have hT : (a ++ List.replicate 70 195#8).take (a.length + 70) = a ++ List.replicate 70 195#8 := List.take_of_length_le (by rw [List.length_append, List.length_replicate]; omega)
  have hl : (a ++ List.replicate 70 195#8).length = a.length + 70 := by rw [List.length_append, List.length_replicate]
  rw [waybilllaw17_still.l1, hT, if_pos (by omega)]
  by_cases h1 : i < a.length
  ·rw [if_pos h1, List.getElem?_append_left h1, List.getElem?_eq_getElem h1, Zb, Zb, if_pos rfl, if_neg (by omega), Zb, if_neg (by decide)]
   exact still17_loop a d (i + 1) k (by omega) (by omega)
  ·rw [if_neg h1, if_pos (by omega), List.getElem?_append_right (by omega), List.getElem?_replicate, if_pos (by omega), Zb, decide_eq_true rfl, Zb, if_neg (by decide)]
   exact still17_loop a d (i + 1) k (by omega) (by omega)
theorem still17_eq (a : List (BitVec 8)) : waybilllaw17_still a a = some true := by
 have hT : ((a ++ List.replicate 70 195#8).take (a.length + 70)).length = a.length + 70 := by rw [List.length_take, List.length_append, List.length_replicate]; omega
 have hl : (a ++ List.replicate 70 195#8).length = a.length + 70 := by rw [List.length_append, List.length_replicate]
 unfold waybilllaw17_still
 rw [if_pos rfl, if_pos (by omega), still17_loop a (a.length + 70) 0 _ (by omega) (by rw [hT]; omega), Zb]
end Go.Fw

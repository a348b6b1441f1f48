/- Part of a proof over Ytgdohhccpghofaa: rules and contracts that the law's text uses. No condition. -/
import Derived.Test.YtgdohhccpghofaaFw25
namespace Go.Fw
open Go
set_option linter.unusedVariables false
/-! A region that draws its order, every order gone through: for a few operations that undo one another (the coin of an append in place). -/
section
variable {P : Program} {n : Nat} {Q : Exit → Act → World → Prop} {w0 : World} {L : Slots} {M : List Ent} {ops : Array Oper} {f : Nat} {done : Array Bool} {d : Nat} {op : Op} {ty : TypeId} {pos : String} {aft : Array Edge} {v : Value}
def AW (P : Program) (n : Nat) (ops : Array Oper) (Q : Exit → Act → World → Prop) (w0 : World) (f : Nat) (done : Array Bool) (L : Slots) (M : List Ent) : Prop :=
  ∀ a w, Fr n L a → Mem w0 w M → wpAny P .any ops Q f done a w
def AO (P : Program) (n : Nat) (ops : Array Oper) (Q : Exit → Act → World → Prop) (w0 : World) (i f : Nat) (done : Array Bool) (L : Slots) (M : List Ent) : Prop :=
  ∀ a w, Fr n L a → Mem w0 w M → wpOp P ops Q i (wpAny P .any ops Q f done) a w
theorem AW.nil (hr : Region.ready .any ops done = []) (h : QW n Q w0 .normal L M) : AW P n ops Q w0 0 done L M := fun a w fr m => ⟨hr, h.elim a w fr m⟩
theorem AW.one (i : Nat) (hr : Region.ready .any ops done = [i]) (h : AO P n ops Q w0 i f (done.setIfInBounds i true) L M) : AW P n ops Q w0 (f + 1) done L M := fun a w fr m =>
  ⟨(fun e => by rw [hr] at e; cases e), (fun j hj => by rw [hr] at hj; obtain rfl : j = i := by simpa using hj
                                                        exact h a w fr m)⟩
theorem AW.two (i j : Nat) (hr : Region.ready .any ops done = [i, j]) (h1 : AO P n ops Q w0 i f (done.setIfInBounds i true) L M) (h2 : AO P n ops Q w0 j f (done.setIfInBounds j true) L M) : AW P n ops Q w0 (f + 1) done L M := fun a w fr m =>
  ⟨(fun e => by rw [hr] at e; cases e), fun k hk => by
    rw [hr] at hk
    rcases (by simpa using hk : k = i ∨ k = j) with rfl | rfl
    · exact h1 a w fr m
    · exact h2 a w fr m⟩
theorem AO.rv {i : Nat} (ho : ops[i]? = some ⟨some d, op, ty, pos, aft, none⟩) (hop : RV P w0 L M op v) (hd : Nat.blt d n = true) (k : AW P n ops Q w0 f done ((d, v) :: L) M) : AO P n ops Q w0 i f done L M := fun a w fr m => by
  unfold wpOp
  rw [ho]
  refine (if_pos (by simp [Region.wanted])).mpr (.inl ?_)
  unfold Oper.wp
  rw [hop a.eval w (fun x u hx => fr.eval hx) m _ rfl]
  exact k _ _ (fr.put hd v) m
theorem AO.sv {i : Nat} {M' : List Ent} (ho : ops[i]? = some ⟨none, op, ty, pos, aft, none⟩) (hop : SV P w0 L M op M') (k : AW P n ops Q w0 f done L M') : AO P n ops Q w0 i f done L M := fun a w fr m => by
  unfold wpOp
  rw [ho]
  obtain ⟨w', hr, m'⟩ := hop a.eval w (fun x u hx => fr.eval hx) m ⟨none, op, ty, pos, aft, none⟩ rfl
  refine (if_pos (by simp [Region.wanted])).mpr (.inl ?_)
  unfold Oper.wp
  rw [hr]
  exact k _ _ fr m'
theorem AO.av {i : Nat} {τ : Type} {I : τ → Prop} {v : τ → Value} {M' : τ → List Ent} (ho : ops[i]? = some ⟨some d, op, ty, pos, aft, none⟩) (hop : AV P w0 L M op I v M') (hd : Nat.blt d n = true) (k : ∀ x, I x → AW P n ops Q w0 f done ((d, v x) :: L) (M' x)) : AO P n ops Q w0 i f done L M := fun a w fr m => by
  unfold wpOp
  rw [ho]
  obtain ⟨x, w', hI, hr, m'⟩ := hop a.eval w (fun x u hx => fr.eval hx) m ⟨some d, op, ty, pos, aft, none⟩ rfl
  refine (if_pos (by simp [Region.wanted])).mpr (.inl ?_)
  unfold Oper.wp
  rw [hr]
  exact k x hI _ _ (fr.put hd _) m'
theorem CW.drawsA {id : Nat} {l : List Oper} (hm : P.follows .mixedOrders = true) (h : AW P n l.toArray Q w0 l.length (Array.replicate l.length false) L M) : CW P n Q w0 (.region id l.toArray true) L M :=
  CW.intro fun a w f m => wp_region_any hm (by simpa using h a _ f (m.like (w' := { w with drawn := w.drawn + 1 }) rfl rfl rfl rfl))
theorem AO.alloc [Types P] {i : Nat} {e ty1 : TypeId} {ti : TI} {l : List Value} (ho : ops[i]? = some ⟨some d, .alloc e, ty1, pos, aft, none⟩) (hi : Fw.ty P e = some ti) (hl : ti.z.cells = l.toArray) (hd : Nat.blt d n = true) (k : ∀ b : Nat, AW P n ops Q w0 f done ((d, ptr (some b) 0) :: L) ((some b, blk l e) :: M)) : AO P n ops Q w0 i f done L M :=
  AO.av (τ := Nat) (I := fun _ => True) (v := fun b => ptr (some b) 0) (M' := fun b => (some b, blk l e) :: M) ho (fun ρ w hρ m o ho => ⟨w.heap.size, w.alloc (blk l e), trivial, by
    obtain ⟨_, ti, h1, h2, h3, h4⟩ := ty_ok hi
    simp [execOp, ho, Instr.alloc, zeroValue, typeInfo, h1, h4, newVar, newRow, ptr, blk, hl], m.alloc _⟩) hd (fun b _ => k b)
end
end Go.Fw

/- Part of a proof over Ytgdohhccpghofaa: rules and contracts that the law's text uses. No condition. -/
import Derived.Test.YtgdohhccpghofaaFw16
namespace Go.Fw
open Go Go.RowKit
set_option linter.unusedVariables false
set_option linter.unusedSectionVars false
section
variable {P : Program} {n : Nat} {Q : Exit → Act → World → Prop} {w0 : World} {L : Slots} {M E N : List Ent} {f : FuncId} {args : List Value} {R : Value → List Ent → Prop}
variable {ops : Array Oper} {rest : List Oper} {ty ty1 : TypeId} {pos : String} {aft : Array Edge} {d : Nat} {v : Value}
theorem OW.mem {M' : List Ent} (hs : ∀ w, Mem w0 w M → Mem w0 w M') (k : OW P n ops Q w0 rest L M') : OW P n ops Q w0 rest L M := OW.intro fun a w f m => k.elim a w f (hs w m)
theorem OW.nilEnt {o : Obj} (k : OW P n ops Q w0 rest L ((none, o) :: M)) : OW P n ops Q w0 rest L M := OW.mem (fun w m => m.nil_ent o) k
theorem OW.callG {xs : List Operand} {ats : Array TypeId} (hc : ∀ (args : Array Value) (w : World), (callFunc f args).run P w = .ok (.enter f args) w)
    (hxs : evs L xs = some args) (hdo : DoesG P f args w0 E N R) (hE : E ++ N = M) (hd : Nat.blt d n = true) (k : ∀ v G, R v G → OW P n ops Q w0 rest ((d, v) :: L) (G ++ N)) :
    OW P n ops Q w0 (⟨some d, .call ⟨.value (.func f), xs.toArray, ats⟩, ty, pos, aft, none⟩ :: rest) L M := by
  subst hE
  exact OW.call hc hxs hdo hd (fun q ⟨G, h1, h2⟩ => by rw [h2]; exact k q.1 G h1)
theorem OW.callG_none {xs : List Operand} {ats : Array TypeId} (hc : ∀ (args : Array Value) (w : World), (callFunc f args).run P w = .ok (.enter f args) w)
    (hxs : evs L xs = some args) (hdo : DoesG P f args w0 E N R) (hE : E ++ N = M) (k : ∀ v G, R v G → OW P n ops Q w0 rest L (G ++ N)) :
    OW P n ops Q w0 (⟨none, .call ⟨.value (.func f), xs.toArray, ats⟩, ty, pos, aft, none⟩ :: rest) L M := by
  subst hE
  exact OW.call_none hc hxs hdo (fun q ⟨G, h1, h2⟩ => by rw [h2]; exact k q.1 G h1)
variable {tail : List Oper} {m g : Nat} {done : Array Bool} {op : Op} {gd : Option (Nat × Bool)}
theorem UW.mem {M' : List Ent} (hs : ∀ w, Mem w0 w M → Mem w0 w M') (k : UW P n ops Q w0 tail m g done L M') : UW P n ops Q w0 tail m g done L M := by
  unfold UW
  exact fun hB inv a w f mm => k.elim hB inv a w f (hs w mm)
/-- A call in a region that draws its order, when nothing else is ready. -/
theorem UW.callG (i : Nat) {xs : List Operand} {ats : Array TypeId} (ho : ops[i]? = some ⟨some d, .call ⟨.value (.func f), xs.toArray, ats⟩, ty, pos, aft, gd⟩) (hr : (Region.ready .any ops done == [i] && Nat.blt i m) = true) (hw : Wt ops L gd = true)
    (hc : ∀ (args : Array Value) (w : World), (callFunc f args).run P w = .ok (.enter f args) w) (hxs : evs L xs = some args) (hdo : ∀ N, (∀ w, Mem w0 w N → Mem w0 w M) → DoesG P f args w0 [] N R)
    (hd : Nat.blt d n = true) (k : ∀ v G, R v G → UW P n ops Q w0 tail m g (done.setIfInBounds i true) ((d, v) :: L) (G ++ M)) : UW P n ops Q w0 tail m (g + 1) done L M := by
  unfold UW
  exact fun hB inv a w fr mm w' hu => by
    simp only [Bool.and_eq_true, beq_iff_eq] at hr
    obtain ⟨hr, hi⟩ := hr
    have hi' : i < m := by simpa using hi
    refine ⟨by rw [hr]; simp, fun j hj => ?_⟩
    rw [hr] at hj
    obtain rfl : j = i := by simpa using hj
    refine ⟨hi', _, ho, .inl ⟨wt_spec fr hw, ?_⟩⟩
    have hev := evs_map (fun x u hx => fr.eval hx) xs args hxs
    have hrun : (execOp a.eval ⟨some d, .call ⟨.value (.func f), xs.toArray, ats⟩, ty, pos, aft, gd⟩).run P w' = .ok (.enter f args.toArray) w' := by
      simp [execOp, resolve, Deferred.ofValue, Act.eval, invoke, hev, hc]
    rw [hrun]
    have mw := hu _ mm
    refine (hdo (allEnts w0 w') (fun w2 m2 => Upw.of_all m2 _ mw) w' mw.all).mono ?_
    rintro e w2 ⟨q, ⟨G, h1, h2⟩, rfl, m'⟩
    have m' : Mem w0 w2 (G ++ allEnts w0 w') := by have m2 := m'; rwa [show (fun q : Value × List Ent => q.2) q = G ++ allEnts w0 w' from h2] at m2
    exact ⟨_, rfl, Upw.of_all m'.appR, (k q.1 G h1).elim hB (inv.set (by rw [hr]; simp) hi') _ _ (fr.put hd _) (m'.graft mw)⟩
end

section
variable {P : Program} [Types P] {n : Nat} {Q : Exit → Act → World → Prop} {w0 : World} {L : Slots} {M : List Ent}
variable {ops : Array Oper} {rest : List Oper} {ty1 : TypeId} {pos : String} {aft : Array Edge} {d : Nat} {v : Value} {t e : TypeId} {x y : Operand}
/-- append to a slice of one's own. -/
theorem OW.appendOwn {i : TI} {ob : Option Nat} {len cap m c s : Nat} {l r vs : List Value} {B : Option Addr} {t2 e2 : TypeId} (hx : ev L x = some (sl ob 0 len cap)) (hy : ev L y = some (.slice B m c)) (ht : tyU P t = some (.slice e)) (hi : ty P e = some i) (hs : i.sz = s) (ht2 : tyU P t2 = some (.slice e2))
    (hl : OwnS ob len cap s l r) (hR : Mem.Says w0 ((ob, blk (l ++ r) e) :: M) (fun w => Rd w B vs)) (hvl : vs.length = m * s) (hv1 : ∀ u ∈ vs, u.oneCell' = true) (hB : B = none → m = 0) (hspos : 0 < s)
    (hby : 0 < i.bytes) (hb : (len + m) * i.bytes ≤ 140737488355328) (hz : i.z.cells.size = s) (hd : Nat.blt d n = true) (len' : Nat) (l' : List Value) (hlen : len + m = len') (hcs : l ++ vs = l')
    (k : ∀ (ob' : Option Nat) (r' : List Value) (cap' : Nat), OwnS ob' len' cap' s l' r' → OW P n ops Q w0 rest ((d, sl ob' 0 len' cap') :: L) ((ob', blk (l' ++ r') e) :: M)) :
    OW P n ops Q w0 (⟨some d, .call ⟨.builtin .append, #[x, y], #[t, t2]⟩, ty1, pos, aft, none⟩ :: rest) L ((ob, blk (l ++ r) e) :: M) := by
  have hm : len + m ≤ (len + m) * i.bytes := Nat.le_mul_of_pos_right _ hby
  subst hlen hcs
  exact OW.append hx hy ht hi hs ht2 hl.n hl.hr hl.hn hR hvl hv1 hB hspos (by omega) hb hz hd (fun ob' r' cap' h1 h2 => k ob' r' cap' ⟨by rw [List.length_append, hl.n, hvl, Nat.add_mul], h1, h2, by omega⟩)
end

/-! ### Reading pure lists -/
theorem some_bind {α β : Type} {o : Option α} {f : α → Option β} {r : β} (h : o.bind f = some r) : ∃ x, o = some x ∧ f x = some r := by
  cases o with
  | none => cases h
  | some x => exact ⟨x, rfl, h⟩
theorem some_if {α : Type} {p : Prop} [Decidable p] {x : Option α} {r : α} (h : (if p then x else none) = some r) : p ∧ x = some r := by
  split at h
  · exact ⟨‹_›, h⟩
  · cases h
theorem if_t {α : Type} {p : Prop} [Decidable p] {x y : Option α} {r : α} (h : (if p then x else y) = some r) (hp : p) : x = some r := by rwa [if_pos hp] at h
theorem if_f {α : Type} {p : Prop} [Decidable p] {x y : Option α} {r : α} (h : (if p then x else y) = some r) (hp : ¬ p) : y = some r := by rwa [if_neg hp] at h
theorem u8s_app (a b : List (BitVec 8)) : u8s a ++ u8s b = u8s (a ++ b) := by simp [u8s]
theorem u32s_app (a b : List (BitVec 32)) : u32s a ++ u32s b = u32s (a ++ b) := by simp [u32s]
theorem u64s_app (a b : List (BitVec 64)) : u64s a ++ u64s b = u64s (a ++ b) := by simp [u64s]
theorem u8s_at {l : List (BitVec 8)} {i : Nat} {x : BitVec 8} (h : l[i]? = some x) : (u8s l)[i]? = some (U8 x) := by simp [u8s, h]
theorem u32s_at {l : List (BitVec 32)} {i : Nat} {x : BitVec 32} (h : l[i]? = some x) : (u32s l)[i]? = some (U32 x) := by simp [u32s, h]
theorem u64s_at {l : List (BitVec 64)} {i : Nat} {x : BitVec 64} (h : l[i]? = some x) : (u64s l)[i]? = some (U64 x) := by simp [u64s, h]
theorem i64s_at {l : List Int} {i : Nat} {x : Int} (h : l[i]? = some x) : (i64s l)[i]? = some (.int .i64 x) := by simp [i64s, h]
/-- How a call goes on: it has answered, or it stands somewhere. -/
inductive Lp (R S : Type) where
  | ret (o : Option R)
  | go (s : S)

end Go.Fw

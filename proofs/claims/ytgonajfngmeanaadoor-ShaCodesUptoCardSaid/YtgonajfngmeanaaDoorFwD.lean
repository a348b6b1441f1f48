/- Part of a proof: rules that its law uses. -/
import Derived.Test.YtgonajfngmeanaaDoorFwC
import Derived.Scope
namespace Go.Fw
open Go
set_option linter.unusedVariables false
def JumpJ (n : Nat) (w0 : World) (J : Nat → Nat → Slots → List Ent → Prop) (m : Nat) (Q : Exit → Act → World → Prop) : Exit → Act → World → Prop
  | .goto l, a, w => ∃ k L M, k < m ∧ J l k L M ∧ Fr n L a ∧ Mem w0 w M
  | e, a, w => Q e a w
section
variable {P : Program} {a : Act} {w : World} {Q : Exit → Act → World → Prop}
theorem wp_scope_many {c : Code} (R : Nat → Nat → Act → World → Prop) {m : Nat}
    (first : c.wp P (fun e a w => match e with | .goto l => ∃ k, k < m ∧ R l k a w | e => Q e a w) a w)
    (pass : ∀ l k a w, R l k a w → ∃ rest, findLabel c l = some rest ∧ rest.wp P (fun e a w => match e with | .goto l' => ∃ k', k' < k ∧ R l' k' a w | e => Q e a w) a w) : (Code.scope c).wp P Q a w := by
  intro b k cs
  have key : ∀ n l a w, R l n a w → ∃ rest, findLabel c l = some rest ∧ ∃ e a' w', Q e a' w' ∧ Arrives P (lone (b.at a (.code rest :: .inScope c :: k)) cs w) b k cs e a' w' := by
    intro n
    induction n using Nat.strongRecOn with
    | _ n ih =>
      intro l a w hJ
      obtain ⟨rest, hf, hw⟩ := pass l n a w hJ
      refine ⟨rest, hf, ?_⟩
      obtain ⟨e, a₁, w₁, hq, harr⟩ := hw b (.inScope c :: k) cs
      cases e with
      | normal => exact ⟨.normal, a₁, w₁, hq, Steps.trans harr (.one step_inScope)⟩
      | exit id => exact ⟨.exit id, a₁, w₁, hq, fun k' hk => harr k' (by simp [exitTo, hk])⟩
      | goto l' =>
        obtain ⟨k', hlt, hJ'⟩ := hq
        obtain ⟨rest', hf', e₂, a₂, w₂, hq₂, harr₂⟩ := ih k' hlt l' a₁ w₁ hJ'
        exact ⟨e₂, a₂, w₂, hq₂, .of_steps (harr _ (by simp [gotoIn, hf'])) harr₂⟩
      | ret => exact ⟨_, a₁, w₁, hq, harr⟩
      | panic ch => exact ⟨_, a₁, w₁, hq, harr⟩
      | outgrown => exact ⟨_, a₁, w₁, hq, harr⟩
  obtain ⟨e, a₁, w₁, hq, harr⟩ := first b (.inScope c :: k) cs
  cases e with
  | normal => exact ⟨.normal, a₁, w₁, hq, .head step_scope (Steps.trans harr (.one step_inScope))⟩
  | exit id => exact ⟨.exit id, a₁, w₁, hq, fun k' hk => .head step_scope (harr k' (by simp [exitTo, hk]))⟩
  | goto l' =>
    obtain ⟨k', _, hJ'⟩ := hq
    obtain ⟨rest', hf', e₂, a₂, w₂, hq₂, harr₂⟩ := key k' l' a₁ w₁ hJ'
    exact ⟨e₂, a₂, w₂, hq₂, .of_steps (.head step_scope (harr _ (by simp [gotoIn, hf']))) harr₂⟩
  | ret => exact ⟨_, a₁, w₁, hq, .of_steps (.one step_scope) harr⟩
  | panic ch => exact ⟨_, a₁, w₁, hq, .of_steps (.one step_scope) harr⟩
  | outgrown => exact ⟨_, a₁, w₁, hq, .of_steps (.one step_scope) harr⟩
end
section
variable {P : Program} {n : Nat} {Q : Exit → Act → World → Prop} {w0 : World} {L : Slots} {M : List Ent}
theorem CW.scopeJ {c : Code} (J : Nat → Nat → Slots → List Ent → Prop) (m : Nat)
    (first : CW P n (JumpJ n w0 J m Q) w0 c L M)
    (pass : ∀ l k L M, J l k L M → ∃ rest, findLabel c l = some rest ∧ CW P n (JumpJ n w0 J k Q) w0 rest L M) : CW P n Q w0 (.scope c) L M := CW.intro fun a w f mm => by
  refine wp_scope_many (fun l k a w => ∃ L M, J l k L M ∧ Fr n L a ∧ Mem w0 w M) (m := m) ?_ ?_
  · refine wp_mono (first.elim a w f mm) ?_
    intro e a w h
    cases e <;> first
      | exact h
      | (obtain ⟨k, L, M, h1, h2, h3, h4⟩ := h; exact ⟨k, h1, L, M, h2, h3, h4⟩)
  · rintro l k a w ⟨L, M, h1, h2, h3⟩
    obtain ⟨rest, e, h⟩ := pass l k L M h1
    refine ⟨rest, e, wp_mono (h.elim a w h2 h3) ?_⟩
    intro e a w h
    cases e <;> first
      | exact h
      | (obtain ⟨k, L, M, h1, h2, h3, h4⟩ := h; exact ⟨k, h1, L, M, h2, h3, h4⟩)
theorem CW.goto {l : Nat} (h : QW n Q w0 (.goto l) L M) : CW P n Q w0 (.goto l) L M := CW.intro fun a w f m => wp_goto (h.elim a w f m)
theorem CW.label {l : Nat} (h : QW n Q w0 .normal L M) : CW P n Q w0 (.label l) L M := CW.intro fun a w f m => wp_label (h.elim a w f m)
theorem QW.jump {J : Nat → Nat → Slots → List Ent → Prop} {m k l : Nat} {L' : Slots} {M' : List Ent} (hk : k < m) (h : J l k L' M') (hL : Sub L L') (hM : ∀ w, Mem w0 w M → Mem w0 w M') : QW n (JumpJ n w0 J m Q) w0 (.goto l) L M := QW.intro fun a w f mm => ⟨k, L', M', hk, h, f.weaken hL, hM w mm⟩
theorem QW.jump_n {J : Nat → Nat → Slots → List Ent → Prop} {m : Nat} (h : QW n Q w0 .normal L M) : QW n (JumpJ n w0 J m Q) w0 .normal L M := QW.intro fun a w f mm => h.elim a w f mm
theorem QW.jump_r {J : Nat → Nat → Slots → List Ent → Prop} {m : Nat} (h : QW n Q w0 .ret L M) : QW n (JumpJ n w0 J m Q) w0 .ret L M := QW.intro fun a w f mm => h.elim a w f mm
theorem QW.jump_x {J : Nat → Nat → Slots → List Ent → Prop} {m id : Nat} (h : QW n Q w0 (.exit id) L M) : QW n (JumpJ n w0 J m Q) w0 (.exit id) L M := QW.intro fun a w f mm => h.elim a w f mm
theorem QW.block_g {id l : Nat} (h : QW n Q w0 (.goto l) L M) : QW n (Exit.inBlock id Q) w0 (.goto l) L M := QW.intro fun a w f m => h.elim a w f m
end
end Go.Fw
namespace Go.Fw
open Go
set_option linter.unusedVariables false
section
variable {P : Program} {n : Nat} {Q : Exit → Act → World → Prop} {w0 : World} {L : Slots} {M : List Ent} {ops : Array Oper} {f : Nat} {done : Array Bool} {d : Nat} {op : Op} {ty : TypeId} {pos : String} {aft : Array Edge} {v : Value}
def AW (P : Program) (n : Nat) (ops : Array Oper) (Q : Exit → Act → World → Prop) (w0 : World) (f : Nat) (done : Array Bool) (L : Slots) (M : List Ent) : Prop :=
  ∀ a w, Fr n L a → Mem w0 w M → wpAny P .any ops Q f done a w
def AO (P : Program) (n : Nat) (ops : Array Oper) (Q : Exit → Act → World → Prop) (w0 : World) (i f : Nat) (done : Array Bool) (L : Slots) (M : List Ent) : Prop :=
  ∀ a w, Fr n L a → Mem w0 w M → wpOp P ops Q i (wpAny P .any ops Q f done) a w
theorem AW.nil (hr : Region.ready .any ops done = []) (h : QW n Q w0 .normal L M) : AW P n ops Q w0 0 done L M := fun a w fr m => ⟨hr, h.elim a w fr m⟩
theorem AW.one (i : Nat) (hr : Region.ready .any ops done = [i]) (h : AO P n ops Q w0 i f (done.setIfInBounds i true) L M) : AW P n ops Q w0 (f + 1) done L M := fun a w fr m =>
  ⟨(fun e => by rw [hr] at e; cases e), (fun j hj => by rw [hr] at hj; obtain rfl : j = i := by simpa using hj
                                                        exact h a w fr m)⟩
theorem AW.two (i j : Nat) (hr : Region.ready .any ops done = [i, j]) (h1 : AO P n ops Q w0 i f (done.setIfInBounds i true) L M) (h2 : AO P n ops Q w0 j f (done.setIfInBounds j true) L M) : AW P n ops Q w0 (f + 1) done L M := fun a w fr m =>
  ⟨(fun e => by rw [hr] at e; cases e), fun k hk => by
    rw [hr] at hk
    rcases (by simpa using hk : k = i ∨ k = j) with rfl | rfl
    · exact h1 a w fr m
    · exact h2 a w fr m⟩
theorem AO.rv {i : Nat} (ho : ops[i]? = some ⟨some d, op, ty, pos, aft, none⟩) (hop : RV P w0 L M op v) (hd : Nat.blt d n = true) (k : AW P n ops Q w0 f done ((d, v) :: L) M) : AO P n ops Q w0 i f done L M := fun a w fr m => by
  unfold wpOp
  rw [ho]
  refine (if_pos (by simp [Region.wanted])).mpr (.inl ?_)
  unfold Oper.wp
  rw [hop a.eval w (fun x u hx => fr.eval hx) m _ rfl]
  exact k _ _ (fr.put hd v) m
theorem AO.sv {i : Nat} {M' : List Ent} (ho : ops[i]? = some ⟨none, op, ty, pos, aft, none⟩) (hop : SV P w0 L M op M') (k : AW P n ops Q w0 f done L M') : AO P n ops Q w0 i f done L M := fun a w fr m => by
  unfold wpOp
  rw [ho]
  obtain ⟨w', hr, m'⟩ := hop a.eval w (fun x u hx => fr.eval hx) m ⟨none, op, ty, pos, aft, none⟩ rfl
  refine (if_pos (by simp [Region.wanted])).mpr (.inl ?_)
  unfold Oper.wp
  rw [hr]
  exact k _ _ fr m'
theorem AO.av {i : Nat} {τ : Type} {I : τ → Prop} {v : τ → Value} {M' : τ → List Ent} (ho : ops[i]? = some ⟨some d, op, ty, pos, aft, none⟩) (hop : AV P w0 L M op I v M') (hd : Nat.blt d n = true) (k : ∀ x, I x → AW P n ops Q w0 f done ((d, v x) :: L) (M' x)) : AO P n ops Q w0 i f done L M := fun a w fr m => by
  unfold wpOp
  rw [ho]
  obtain ⟨x, w', hI, hr, m'⟩ := hop a.eval w (fun x u hx => fr.eval hx) m ⟨some d, op, ty, pos, aft, none⟩ rfl
  refine (if_pos (by simp [Region.wanted])).mpr (.inl ?_)
  unfold Oper.wp
  rw [hr]
  exact k x hI _ _ (fr.put hd _) m'
theorem CW.drawsA {id : Nat} {l : List Oper} (hm : P.follows .mixedOrders = true) (h : AW P n l.toArray Q w0 l.length (Array.replicate l.length false) L M) : CW P n Q w0 (.region id l.toArray true) L M :=
  CW.intro fun a w f m => wp_region_any hm (by simpa using h a _ f (m.like (w' := { w with drawn := w.drawn + 1 }) rfl rfl rfl rfl))
theorem AO.alloc [Types P] {i : Nat} {e ty1 : TypeId} {ti : TI} {l : List Value} (ho : ops[i]? = some ⟨some d, .alloc e, ty1, pos, aft, none⟩) (hi : Fw.ty P e = some ti) (hl : ti.z.cells = l.toArray) (hd : Nat.blt d n = true) (k : ∀ b : Nat, AW P n ops Q w0 f done ((d, ptr (some b) 0) :: L) ((some b, blk l e) :: M)) : AO P n ops Q w0 i f done L M :=
  AO.av (τ := Nat) (I := fun _ => True) (v := fun b => ptr (some b) 0) (M' := fun b => (some b, blk l e) :: M) ho (fun ρ w hρ m o ho => ⟨w.heap.size, w.alloc (blk l e), trivial, by
    obtain ⟨_, ti, h1, h2, h3, h4⟩ := ty_ok hi
    simp [execOp, ho, Instr.alloc, zeroValue, typeInfo, h1, h4, newVar, newRow, ptr, blk, hl], m.alloc _⟩) hd (fun b _ => k b)
end
end Go.Fw
namespace Go.Fw
open Go
set_option linter.unusedVariables false
theorem skip_get {A L : List Value} {n m : Nat} {v : Value} (hA : A.length = n) (h : L[m]? = some v) : (A ++ L)[n + m]? = some v := by
  rw [List.getElem?_append_right (by omega), show n + m - A.length = m by omega]; exact h
theorem here_get {B C : List Value} {i : Nat} {v : Value} (h : B[i]? = some v) : (B ++ C)[i]? = some v := by
  have := (List.getElem?_eq_some_iff.1 h).1
  rw [List.getElem?_append_left this]; exact h
theorem skip_set {A L L' : List Value} {n m : Nat} {v : Value} (hA : A.length = n) (h : L.set m v = L') : (A ++ L).set (n + m) v = A ++ L' := by
  subst hA; subst h
  rw [List.set_append_right _ _ (by omega), show A.length + m - A.length = m by omega]
theorem here_set {B B' C : List Value} {i : Nat} {v : Value} (hi : i < B.length) (h : B.set i v = B') : (B ++ C).set i v = B' ++ C := by
  subst h
  rw [List.set_append_left _ _ hi]
theorem skip_spl {A L L' cs : List Value} {n m : Nat} (hA : A.length = n) (h : spl L m cs = L') : spl (A ++ L) (n + m) cs = A ++ L' := by
  subst hA; subst h
  unfold spl
  rw [List.take_length_add_append, show A.length + m + cs.length = A.length + (m + cs.length) by omega, List.drop_length_add_append]
  simp [List.append_assoc]
theorem here_spl {B C cs : List Value} (h : cs.length = B.length) : spl (B ++ C) 0 cs = cs ++ C := by
  unfold spl
  rw [List.take_zero, List.nil_append, Nat.zero_add, h, List.drop_left]
theorem last_spl {B cs : List Value} (h : cs.length = B.length) : spl B 0 cs = cs := by
  unfold spl
  rw [List.take_zero, List.nil_append, Nat.zero_add, h, List.drop_length, List.append_nil]
end Go.Fw
namespace Go.Fw
open Go Go.RowKit
set_option linter.unusedVariables false
set_option linter.unusedSectionVars false
section
variable {P : Program} [Types P] {w0 : World} {L : Slots} {M : List Ent} {t e : TypeId} {x y z : Operand} {idx idx' : Int} {k k' : IntKind}
theorem RV.arr_loS {b off n : Nat} (a : Nat) (hx : ev L x = some (ptr (some b) off)) (hy : ev L y = some (.int k idx)) (hj : idx = (a : Int)) (ht : tyU P t = some (.array n e)) (hs : tyS P e = some 1) (h1 : idx < n) :
    RV P w0 L M (.slice t x (some y) none none) (sl (some b) (off + a) (n - a) (n - a)) := by
  have h := RV.arr_lo (P := P) (w0 := w0) (M := M) (A := ⟨b, off, none⟩) a hx hy hj ht hs (by omega)
  have e : subA (some ⟨b, off, none⟩) n a 1 = some ⟨b, off + a, none⟩ := by
    unfold subA
    rw [if_neg (by omega)]
    simp [Addr.add]
  rw [e] at h
  exact h
end
def cpV {α : Type} {n : Nat} (v : Vector α n) (lo : Nat) (l : List α) : Vector α n :=
  if h : lo + l.length ≤ n then ⟨(v.toList.take lo ++ l ++ v.toList.drop (lo + l.length)).toArray, by simp; omega⟩ else v
theorem cpV_toList {α : Type} {n : Nat} (v : Vector α n) {lo : Nat} {l : List α} (h : lo + l.length ≤ n) : (cpV v lo l).toList = v.toList.take lo ++ l ++ v.toList.drop (lo + l.length) := by
  unfold cpV
  rw [dif_pos h]
  rfl
theorem u8s_cpV {n : Nat} (v : Vector (BitVec 8) n) {lo : Nat} {l : List (BitVec 8)} (h : lo + l.length ≤ n) : spl (u8s v.toList) lo (u8s l) = u8s (cpV v lo l).toList := by
  rw [cpV_toList v h]
  unfold spl
  rw [u8s_length]
  simp [u8s, List.map_take, List.map_drop]
theorem at_spl {B B' C cs : List Value} {i : Nat} (hi : i + cs.length ≤ B.length) (h : spl B i cs = B') : spl (B ++ C) i cs = B' ++ C := by
  subst h
  unfold spl
  rw [List.take_append_of_le_length (by omega), List.drop_append_of_le_length hi]
  simp [List.append_assoc]
theorem u8s_take (l : List (BitVec 8)) (k : Nat) : (u8s l).take k = u8s (l.take k) := by simp [u8s, List.map_take]
end Go.Fw
namespace Go.Fw
open Go Go.RowKit
set_option linter.unusedVariables false
set_option linter.unusedSectionVars false
section
variable {P : Program} [Types P] {n : Nat} {Q : Exit → Act → World → Prop} {w0 : World} {L : Slots} {M : List Ent} {ops : Array Oper} {rest : List Oper} {t e ty1 : TypeId} {x : Operand} {pos : String} {aft : Array Edge}
theorem OW.clear {b off len cap : Nat} {l : List Value} {te : TypeId} {i : TI} {z : Value} (hx : ev L x = some (sl (some b) off len cap)) (ht : tyU P t = some (.slice e)) (hi : Fw.ty P e = some i) (hz : i.z.cells = #[z]) (h1 : z.oneCell' = true) (hp : 0 < len) (hl : off + len ≤ l.length)
    (k : OW P n ops Q w0 rest L ((some b, blk (spl l off (List.replicate len z)) te) :: M)) :
    OW P n ops Q w0 (⟨none, .call ⟨.builtin .clear, #[x], #[t]⟩, ty1, pos, aft, none⟩ :: rest) L ((some b, blk l te) :: M) := by
  refine OW.av_none (τ := Unit) (I := fun _ => True) (v := fun _ => .tuple #[]) (M' := fun _ => (some b, blk (spl l off (List.replicate len z)) te) :: M) (fun ρ w hρ mm o ho => ?_) (fun _ _ => k)
  obtain ⟨_, ti, h1', h2, h3, h4⟩ := ty_ok hi
  have hv : ∀ w, (zeroValue e).run P w = .ok i.z w := fun w => by simp [zeroValue, typeInfo, h1', h4]
  have hzc : (Builtin.zeroCells i.z.cells len).toList = List.replicate len z := by
    rw [hz]
    simp [Builtin.zeroCells]
    apply List.ext_getElem
    · simp
    · intro i h1 h2
      simp [Nat.mod_one]
  have hm := mm.ents _ (List.mem_cons_self ..) b rfl
  have hst := run_storeCells_at (P := P) b off te (List.replicate len z) 0 l.toArray w hm.2 (by simpa using hl) (fun v hv => by rw [List.eq_of_mem_replicate hv]; exact h1)
  simp only [Nat.add_zero] at hst
  obtain ⟨m, rfl⟩ : ∃ m, len = m + 1 := ⟨len - 1, by omega⟩
  refine ⟨(), _, trivial, ?_, mm.turned (w' := w.setRow b (l.toArray.toList.take off ++ List.replicate (m + 1) z ++ l.toArray.toList.drop (off + (List.replicate (m + 1) z).length)).toArray) rfl rfl rfl (by simp [World.setRow]) ?_ ?_⟩
  · simp [execOp, ho, resolve, hρ x _ hx, invoke, builtin, Builtin.clear_, tyU_run ht, sl, hv, hzc, hst]
  · intro b' hb'
    cases hb'
    rw [setRow_heap w b l.toArray _ te (0, 0) hm.2]
    simp [blk, spl]
  · intro kk hk
    exact setRow_other _ _ _ _ (fun e => hk (by rw [e]))
end
theorem u8s_rep0 (k : Nat) : List.replicate k (Value.int .u8 0) = u8s (List.replicate k 0#8) := by simp [u8s, U8]
end Go.Fw
namespace Go.Fw
theorem OwnS.same {ob : Option Nat} {len len' cap s : Nat} {cells cells' r : List Value} (h : OwnS ob len cap s cells r) (h1 : cells'.length = cells.length) (h2 : len' = len) : OwnS ob len' cap s cells' r := by
  subst h2
  exact ⟨by rw [h1]; exact h.n, by have := h.hr; rw [List.length_append] at this ⊢; omega, h.hn, h.mx⟩
end Go.Fw
namespace Go.Fw
open Go Go.RowKit
set_option linter.unusedVariables false
set_option linter.unusedSectionVars false
section
variable {P : Program} [Types P] {n : Nat} {Q : Exit → Act → World → Prop} {w0 : World} {L : Slots} {M R : List Ent} {x y : Operand} {t e : TypeId}
theorem AV.append {i : TI} {ob : Option Nat} {len cap m c s : Nat} {l r vs : List Value} {B : Option Addr} {t2 e2 : TypeId} (hx : ev L x = some (sl ob 0 len cap)) (hy : ev L y = some (.slice B m c)) (ht : tyU P t = some (.slice e)) (hi : ty P e = some i) (hs : i.sz = s) (ht2 : tyU P t2 = some (.slice e2))
    (hl : l.length = len * s) (hr : (l ++ r).length = cap * s) (hn : ob = none → cap = 0) (hR : Mem.Says w0 ((ob, blk (l ++ r) e) :: M) (fun w => Rd w B vs)) (hvl : vs.length = m * s) (hv1 : ∀ u ∈ vs, u.oneCell' = true) (hB : B = none → m = 0) (hspos : 0 < s)
    (h63 : len + m ≤ 9223372036854775807) (hb : (len + m) * i.bytes ≤ 140737488355328) (hz : i.z.cells.size = s) :
    AV P w0 L ((ob, blk (l ++ r) e) :: M) (.call ⟨.builtin .append, #[x, y], #[t, t2]⟩) (τ := Option Nat × List Value × Nat) (fun q => (l ++ vs ++ q.2.1).length = q.2.2 * s ∧ (q.1 = none → q.2.2 = 0)) (fun q => sl q.1 0 (len + m) q.2.2) (fun q => (q.1, blk (l ++ vs ++ q.2.1) e) :: M) := by
  intro ρ w hρ mm o ho
  obtain ⟨hu, ti, g1, g2, g3, g4⟩ := ty_ok hi
  have hrd := hR w mm
  have hsrc : Src P ti.size t2 (.slice B m c) m vs w := by rw [g2, hs]; exact rd_src ht2 hrd hvl hv1 hB
  have hrun : ∀ (v' : Value) (w' : World), (Builtin.append_ #[t, t2] o.type #[sl ob 0 len cap, .slice B m c]).run P w = .ok v' w' → (execOp ρ o).run P w = .ok (.value v') w' := fun v' w' hh => by
    simp [execOp, ho, resolve, hρ x _ hx, hρ y _ hy, invoke, builtin, hh]
  have hsz : ti.size = s := by rw [g2, hs]
  by_cases hroom : len + m ≤ cap
  · -- it fits
    cases ob with
    | none =>
      have hc0 := hn rfl
      subst hc0
      have hm0 : m = 0 := by omega
      have hl0 : len = 0 := by omega
      subst hm0 hl0
      have hv0 : vs = [] := List.length_eq_zero_iff.1 (by simpa using hvl)
      subst hv0
      have e1 : l = [] := List.length_eq_zero_iff.1 (by simpa using hl)
      subst e1
      refine ⟨(none, r, 0), w, ⟨by simpa using hr, fun _ => rfl⟩, hrun _ _ ?_, ?_⟩
      · exact run_append_nothing w t t2 o.type e ti (tyU_ok ht) g1 none 0 0 (Nat.le_refl _) _ hsrc
      · exact mm.tail.nil_ent _
    | some b =>
      have hm := mm.ents _ (List.mem_cons_self ..) b rfl
      have hlen : l.length + vs.length ≤ (l ++ r).length := by rw [hl, hvl, hr, ← Nat.add_mul]; exact Nat.mul_le_mul_right _ hroom
      have hra := run_append_room_src (P := P) w t t2 o.type e ti (tyU_ok ht) g1 b 0 len cap (.slice B m c) m vs hsrc hroom (fun j hj => by
          rw [mm.cell (List.mem_cons_self ..), hsz]
          have : 0 + len * s + j < (l ++ r).length := by omega
          rw [List.getElem?_eq_getElem this]; rfl) (fun j hj => mm.notFrozen (List.mem_cons_self ..) _)
      rw [hsz] at hra
      have hset : w.setCells b (0 + len * s) vs = w.setRow b ((l ++ r).toArray.toList.take (0 + len * s) ++ vs ++ (l ++ r).toArray.toList.drop (0 + len * s + vs.length)).toArray := by
        have q1 := run_storeCells_at (P := P) b (0 + len * s) e vs 0 (l ++ r).toArray w hm.2 (by simp; simp at hlen; omega) hv1
        have q2 := run_storeCells_cells (P := P) b (0 + len * s) vs 0 w (fun j hj => by
          rw [mm.cell (List.mem_cons_self ..)]
          have : 0 + len * s + 0 + j < (l ++ r).length := by omega
          rw [List.getElem?_eq_getElem this]; rfl) (fun j hj => mm.notFrozen (List.mem_cons_self ..) _) hv1
        rw [q1] at q2
        simp only [Nat.add_zero] at q2
        injection q2 with _ q3
        exact q3.symm
      rw [hset] at hra
      refine ⟨(some b, r.drop vs.length, cap), _, ⟨?_, fun h => by cases h⟩, hrun _ _ (by simpa [sl] using hra), mm.turned (w' := w.setRow b _) rfl rfl rfl (by simp [World.setRow]) ?_ ?_⟩
      · rw [← hr]; simp at hlen ⊢; omega
      · intro b' hb'
        cases hb'
        rw [setRow_heap w b (l ++ r).toArray _ e (0, 0) hm.2]
        simp only [blk]
        simp [← hl, List.drop_append]
      · intro kk hk
        exact setRow_other _ _ _ _ (fun e => hk (by rw [e]))
  · -- it grows
    have hold : (Builtin.firstCells ti.size len (sl ob 0 len cap)).run P w.drew = .ok l.toArray w.drew := by
      cases ob with
      | none =>
        have hc0 := hn rfl
        have e0 : (l ++ r).length = 0 := by rw [hr, hc0]; simp
        have e1 : l = [] := by cases l with | nil => rfl | cons a b => simp at e0
        subst e1
        simp [sl, Builtin.firstCells]
      | some b =>
        have := run_firstCells_some (P := P) w.drew ti.size len ⟨b, 0, none⟩ len cap l (by rw [hsz]; exact hl) (fun j u hj => by
          rw [Addr.add_none, (mm.drew).cell (List.mem_cons_self ..)]
          have hj' : j < l.length := (List.getElem?_eq_some_iff.1 hj).1
          rw [Nat.zero_add, List.getElem?_append_left hj']; exact hj)
        exact this
    have hg := run_append_grow_src (P := P) w t t2 o.type e ti i.z (tyU_ok ht) g1 g4 (ob.map fun k => ⟨k, 0, none⟩) len cap l hold (.slice B m c) m vs hsrc (by omega) (by omega)
      (growslice_fits (by omega) (by rw [g3]; exact hb))
    refine ⟨(some w.heap.size, (Builtin.zeroCells i.z.cells (grownCap w (len + m) cap e - (len + m))).toList, grownCap w (len + m) cap e), _, ⟨?_, fun h => by cases h⟩, hrun _ _ (by simpa [sl] using hg), ?_⟩
    · have hge := grownCap_ge w (len + m) cap e
      simp only [List.length_append, Array.length_toList, size_zeroCells, hz, hl, hvl]
      rw [← Nat.add_mul, ← Nat.add_mul]
      congr 1; omega
    · have := mm.drew.tail.alloc (blk (l ++ vs ++ (Builtin.zeroCells i.z.cells (grownCap w (len + m) cap e - (len + m))).toList) e)
      have e3 : (.cells ((l ++ vs).toArray ++ Builtin.zeroCells i.z.cells (grownCap w (len + m) cap e - (len + m))) e : Obj) = blk (l ++ vs ++ (Builtin.zeroCells i.z.cells (grownCap w (len + m) cap e - (len + m))).toList) e := by
        unfold blk
        congr 1
        apply Array.ext'
        simp
      rw [e3]
      exact this
theorem AV.appendOwn {i : TI} {ob : Option Nat} {len cap m c s : Nat} {l r vs : List Value} {B : Option Addr} {t2 e2 : TypeId} (hx : ev L x = some (sl ob 0 len cap)) (hy : ev L y = some (.slice B m c)) (ht : tyU P t = some (.slice e)) (hi : ty P e = some i) (hs : i.sz = s) (ht2 : tyU P t2 = some (.slice e2))
    (hl : OwnS ob len cap s l r) (hR : Mem.Says w0 ((ob, blk (l ++ r) e) :: M) (fun w => Rd w B vs)) (hvl : vs.length = m * s) (hv1 : ∀ u ∈ vs, u.oneCell' = true) (hB : B = none → m = 0) (hspos : 0 < s)
    (hby : 0 < i.bytes) (hb : (len + m) * i.bytes ≤ 140737488355328) (hz : i.z.cells.size = s) (len' : Nat) (l' : List Value) (hlen : len + m = len') (hcs : l ++ vs = l') :
    AV P w0 L ((ob, blk (l ++ r) e) :: M) (.call ⟨.builtin .append, #[x, y], #[t, t2]⟩) (τ := Option Nat × List Value × Nat) (fun q => OwnS q.1 len' q.2.2 s l' q.2.1) (fun q => sl q.1 0 len' q.2.2) (fun q => (q.1, blk (l' ++ q.2.1) e) :: M) := by
  have hm : len + m ≤ (len + m) * i.bytes := Nat.le_mul_of_pos_right _ hby
  subst hlen hcs
  intro ρ w hρ mm o ho
  obtain ⟨q, w', h1, h2, h3⟩ := AV.append (P := P) hx hy ht hi hs ht2 hl.n hl.hr hl.hn hR hvl hv1 hB hspos (by omega) hb hz ρ w hρ mm o ho
  exact ⟨q, w', ⟨by rw [List.length_append, hl.n, hvl, Nat.add_mul], h1.1, h1.2, by omega⟩, h2, h3⟩
variable {ops : Array Oper} {hard : List Nat} {f : Nat} {done : Array Bool} {op : Op} {ty : TypeId} {pos : String} {aft : Array Edge} {d : Nat}
theorem XW.av (i : Nat) {τ : Type} {I : τ → Prop} {v : τ → Value} {M' : τ → List Ent} (ho : ops[i]? = some ⟨some d, op, ty, pos, aft, none⟩) (hr : (Region.ready .any ops done == [i] && hard.contains i) = true) (hop : AV P w0 L M op I v M') (hMR : ∀ x, I x → ∀ w, Mem w0 w (M' x) → Mem w0 w R) (hd : Nat.blt d n = true)
    (k : ∀ x, I x → XW P n ops Q w0 R hard f (done.setIfInBounds i true) ((d, v x) :: L) (M' x)) : XW P n ops Q w0 R hard (f + 1) done L M := by
  unfold XW at *
  intro hR hB inv a w fr mm
  simp only [Bool.and_eq_true, beq_iff_eq] at hr
  obtain ⟨hr, hi⟩ := hr
  have him : i < ops.size := (Array.getElem?_eq_some_iff.1 ho).1
  refine ⟨by rw [hr]; simp, fun j hj => ?_⟩
  rw [hr] at hj
  obtain rfl : j = i := by simpa using hj
  refine ⟨him, _, ho, .inl ⟨by simp [Region.wanted], ?_⟩⟩
  obtain ⟨x, w', hI, hrun, m'⟩ := hop a.eval w (fun x u hx => fr.eval hx) mm ⟨some d, op, ty, pos, aft, none⟩ rfl
  rw [hrun]
  refine ⟨?_, k x hI (hMR x hI) hB (inv.set (by rw [hr]; simp) him) _ _ (fr.put hd _) m'⟩
  unfold Rl
  rw [if_pos hi]
  exact fun _ => hMR x hI _ m'
theorem XW.appendOwn (i : Nat) {ti : TI} {ob : Option Nat} {len cap m c s : Nat} {l r vs : List Value} {B : Option Addr} {t2 e2 : TypeId} (ho : ops[i]? = some ⟨some d, .call ⟨.builtin .append, #[x, y], #[t, t2]⟩, ty, pos, aft, none⟩) (hr : (Region.ready .any ops done == [i] && hard.contains i) = true)
    (hx : ev L x = some (sl ob 0 len cap)) (hy : ev L y = some (.slice B m c)) (ht : tyU P t = some (.slice e)) (hi : Fw.ty P e = some ti) (hs : ti.sz = s) (ht2 : tyU P t2 = some (.slice e2))
    (hl : OwnS ob len cap s l r) (hR : Mem.Says w0 ((ob, blk (l ++ r) e) :: M) (fun w => Rd w B vs)) (hvl : vs.length = m * s) (hv1 : ∀ u ∈ vs, u.oneCell' = true) (hB : B = none → m = 0) (hspos : 0 < s)
    (hby : 0 < ti.bytes) (hb : (len + m) * ti.bytes ≤ 140737488355328) (hz : ti.z.cells.size = s) (len' : Nat) (l' : List Value) (hlen : len + m = len') (hcs : l ++ vs = l') (hMR : ∀ w, Mem w0 w M → Mem w0 w R) (hd : Nat.blt d n = true)
    (k : ∀ (ob' : Option Nat) (r' : List Value) (cap' : Nat), OwnS ob' len' cap' s l' r' → XW P n ops Q w0 R hard f (done.setIfInBounds i true) ((d, sl ob' 0 len' cap') :: L) ((ob', blk (l' ++ r') e) :: M)) : XW P n ops Q w0 R hard (f + 1) done L ((ob, blk (l ++ r) e) :: M) :=
  XW.av i ho hr (AV.appendOwn hx hy ht hi hs ht2 hl hR hvl hv1 hB hspos hby hb hz len' l' hlen hcs) (fun q _ w m => hMR w m.tail) hd (fun q hq => k q.1 q.2.1 q.2.2 hq)
end
end Go.Fw
namespace Go.Fw
open Go Go.RowKit
set_option linter.unusedVariables false
set_option linter.unusedSectionVars false
theorem View.capn {Φ : Ctx} {A : Option Addr} {len c s : Nat} {cells : List Value} (h : View Φ A len c s cells) {c' : Nat} (hle : len ≤ c') : View Φ A len c' s cells := ⟨h.rd, h.so, h.n, hle, h.mx⟩
theorem wf_u8_in {n : Int} (h : (Lit.int .u8 n).wf = true) : ∃ y : BitVec 8, Value.int .u8 n = U8 y := by
  have h2 : 0 ≤ n ∧ n ≤ 255 := by
    simp only [Lit.wf, Bool.and_eq_true, decide_eq_true_eq] at h
    have e1 : IntKind.u8.min = 0 := by decide
    have e2 : IntKind.u8.max = 255 := by decide
    rw [e1, e2] at h
    exact h
  refine ⟨BitVec.ofInt 8 n, ?_⟩
  unfold U8
  congr 1
  rw [BitVec.toNat_ofInt]
  omega
section
variable {P : Program} [Types P] {n : Nat} {Q : Exit → Act → World → Prop} {w0 : World} {L : Slots} {M : List Ent} {x y z : Operand} {t e : TypeId} {idx : Int} {k : IntKind}
theorem RV.cut_hi3 {A : Option Addr} {len cap : Nat} (h m : Nat) {idx' : Int} {k' : IntKind} (hx : ev L x = some (.slice A len cap)) (hy : ev L y = some (.int k idx)) (hz : ev L z = some (.int k' idx')) (hj : idx = (h : Int)) (hj' : idx' = (m : Int))
    (ht : tyU P t = some (.slice e)) {s : Nat} (hs : tyS P e = some s) (h1 : h ≤ m) (h2 : m ≤ cap) :
    RV P w0 L M (.slice t x none (some y) (some z)) (.slice A h m) := fun ρ w hρ mm o ho => by
  subst hj hj'
  by_cases hc : cap = 0
  · subst hc
    obtain rfl : m = 0 := by omega
    obtain rfl : h = 0 := by omega
    simp [execOp, ho, hρ x _ hx, hρ y _ hy, hρ z _ hz, Instr.sliceAt, Instr.slice, Instr.sliceBounds, Instr.sliceBound, asIntOf, tyU_run ht, tyS_run hs]
  · simp [execOp, ho, hρ x _ hx, hρ y _ hy, hρ z _ hz, Instr.sliceAt, Instr.slice, Instr.sliceBounds, sliceBound_run w h1, sliceBound_run w h2, tyU_run ht, tyS_run hs]
    cases A <;> simp [Addr.add]
variable {ops : Array Oper} {rest : List Oper} {ty1 : TypeId} {pos : String} {aft : Array Edge} {d : Nat}
theorem OW.appendV {i : TI} {A B : Option Addr} {len m c s : Nat} {l vs : List Value} {t2 e2 : TypeId} {Ψ : Ctx} (hΨ : ∀ w, Mem w0 w M → Ψ w) (hx : ev L x = some (.slice A len len)) (hy : ev L y = some (.slice B m c)) (ht : tyU P t = some (.slice e)) (hi : ty P e = some i) (hs : i.sz = s) (ht2 : tyU P t2 = some (.slice e2))
    (hl : View Ψ A len len s l) (hr : View Ψ B m c s vs) (hv1 : ∀ u ∈ vs, u.oneCell' = true) (hspos : 0 < s) (hby : 0 < i.bytes) (hb : (len + m) * i.bytes ≤ 140737488355328) (hz : i.z.cells.size = s) (hd : Nat.blt d n = true) (len' : Nat) (l' : List Value) (hlen : len + m = len') (hcs : l ++ vs = l')
    (kk : ∀ (A' : Option Addr) (c' : Nat) (en : Ent), View (fun w => Ψ w ∧ Mem w0 w [en]) A' len' c' s l' → OW P n ops Q w0 rest ((d, .slice A' len' c') :: L) (en :: M)) :
    OW P n ops Q w0 (⟨some d, .call ⟨.builtin .append, #[x, y], #[t, t2]⟩, ty1, pos, aft, none⟩ :: rest) L M := by
  have hm : len + m ≤ (len + m) * i.bytes := Nat.le_mul_of_pos_right _ hby
  subst hlen hcs
  by_cases h0 : m = 0
  · subst h0
    have hv0 : vs = [] := List.length_eq_zero_iff.1 (by have := hr.n; omega)
    subst hv0
    refine OW.rv (v := .slice A len len) (fun ρ w hρ mm o ho => ?_) hd (OW.mem (fun w m => m.nil_ent (blk [] e)) ?_)
    · obtain ⟨hu, ti, g1, g2, g3, g4⟩ := ty_ok hi
      have hsrc : Src P ti.size t2 (.slice B 0 c) 0 [] w := by rw [g2, hs]; exact rd_src ht2 (hr.rd w (hΨ w mm)) (by simp) (fun u hu => nomatch hu) (fun _ => rfl)
      have hh := run_append_nothing w t t2 o.type e ti (tyU_ok ht) g1 A len len (Nat.le_refl _) _ hsrc
      simp [execOp, ho, resolve, hρ x _ hx, hρ y _ hy, invoke, builtin, hh]
    · have := kk A len (none, blk [] e) (by rw [List.append_nil]; exact hl.mono (fun w q => q.1))
      exact this
  · refine OW.appendG hx hy ht hi hs ht2 hl.n (fun w mm => hl.rd w (hΨ w mm)) (hl.zero hspos) (fun w mm => hr.rd w (hΨ w mm)) hr.n hv1 (hr.zero hspos) (by omega) (by omega) hb hz hd (fun b' r' cap' h1 => ?_)
    have o : OwnS (some b') (len + m) cap' s (l ++ vs) r' := ⟨by rw [List.length_append, hl.n, hr.n, Nat.add_mul], h1, (fun h => nomatch h), by omega⟩
    exact kk (some ⟨b', 0, none⟩) cap' (some b', blk ((l ++ vs) ++ r') e) (o.view hspos (fun w q => q.2))
end
end Go.Fw
namespace Go.Fw
open Go
set_option linter.unusedVariables false
theorem MRoom.view {Φ : Ctx} {A : Option Addr} {c : Nat} {x y : List (BitVec 8)} (h : View Φ A (x ++ y).length c 1 (u8s (x ++ y))) : View Φ A x.length c 1 (u8s x) := by
  have h1 := h.hi (k := x.length) (by rw [List.length_append]; omega)
  rwa [Nat.mul_one, show (u8s (x ++ y)).take x.length = u8s x by simp [u8s]] at h1
theorem OwnS.mroom {w0 : World} {ob : Option Nat} {len cap : Nat} {x y : List (BitVec 8)} {r : List Value} {te : TypeId} (h : OwnS ob len cap 1 (u8s x) (u8s y ++ r)) {Ψ : Ctx} (hΨ : ∀ w, Ψ w → Mem w0 w [(ob, blk (u8s x ++ (u8s y ++ r)) te)]) (hm : x.length + y.length ≤ 140737488355328) : View Ψ (ob.map fun k => ⟨k, 0, none⟩) (x ++ y).length cap 1 (u8s (x ++ y)) := by
  have h1 := h.hr
  have o : OwnS ob (x ++ y).length cap 1 (u8s (x ++ y)) r := ⟨by rw [u8s_length]; omega, by rw [← u8s_app, List.append_assoc]; exact h1, h.hn, by rw [List.length_append]; exact hm⟩
  refine o.view (w0 := w0) (te := te) (by decide) (fun w q => ?_)
  rw [← u8s_app, List.append_assoc]
  exact hΨ w q
theorem OwnS.shrink8 {ob : Option Nat} {cap k : Nat} {t y : List (BitVec 8)} {r : List Value} (h : OwnS ob t.length cap 1 (u8s t) r) (hk : k ≤ t.length) (g : t.drop k = y) : OwnS ob (t.take k).length cap 1 (u8s (t.take k)) (u8s y ++ r) := by
  have h1 := h.hr
  have h2 := h.mx
  refine ⟨by rw [u8s_length]; omega, ?_, h.hn, by rw [List.length_take]; omega⟩
  rw [← g, ← List.append_assoc, u8s_app, List.take_append_drop]
  exact h1
theorem shrink8 {k : Nat} {t y : List (BitVec 8)} {r : List Value} (g : t.drop k = y) : u8s t ++ r = u8s (t.take k) ++ (u8s y ++ r) := by
  rw [← g, ← List.append_assoc, u8s_app, List.take_append_drop]
theorem shrink_mx {k n M : Nat} {t : List (BitVec 8)} {m : BitVec 8} (g : t.drop k = List.replicate n m) (hm : t.length ≤ M) (hk : k ≤ t.length) : (t.take k).length + n ≤ M := by
  have := congrArg List.length g
  rw [List.length_drop, List.length_replicate] at this
  rw [List.length_take]
  omega
end Go.Fw
namespace Go.Fw
open Go Go.RowKit
set_option linter.unusedVariables false
set_option linter.unusedSectionVars false
def others (w0 w : World) (b : Nat) : List Ent := (allEnts w0 w).filter (fun e => decide (e.1 ≠ some b))
theorem Mem.graftE {w0 w w' : World} {G M : List Ent} {b : Nat} (m : Mem w0 w' (G ++ others w0 w b)) (mM : Mem w0 w M) (hb : ∀ e ∈ M, e.1 ≠ some b) : Mem w0 w' (G ++ M) := by
  have hin : ∀ e ∈ M, ∀ b', e.1 = some b' → ((some b', e.2) : Ent) ∈ others w0 w b := fun e he b' hb' => by
    obtain ⟨h1, h2⟩ := mM.ents e he b' hb'
    have hlt : b' < w.heap.size := (Array.getElem?_eq_some_iff.1 h2).1
    have hall : ((some b', e.2) : Ent) ∈ allEnts w0 w := by
      refine List.mem_map.2 ⟨b' - w0.heap.size, List.mem_range.2 (by omega), ?_⟩
      have e1 : w0.heap.size + (b' - w0.heap.size) = b' := by omega
      simp [e1, h2]
    exact List.mem_filter.2 ⟨hall, decide_eq_true (by have := hb e he; rw [hb'] at this; exact this)⟩
  have hap := List.pairwise_append.1 m.apart
  refine ⟨m.os, m.tape, m.output, m.size, m.old, fun e he b' hb' => ?_, List.pairwise_append.2 ⟨hap.1, mM.apart, fun g hg e he b' hb1 hb2 => hap.2.2 g hg _ (hin e he b' hb2) b' hb1 rfl⟩⟩
  rcases List.mem_append.1 he with he | he
  · exact m.ents e (List.mem_append_left _ he) b' hb'
  · exact m.ents _ (List.mem_append_right _ (hin e he b' hb')) b' rfl
theorem Mem.others {w0 w : World} {b : Nat} {o : Obj} {M : List Ent} (m : Mem w0 w ((some b, o) :: M)) : Mem w0 w ((some b, o) :: others w0 w b) := by
  have ma := m.all
  have hf : ∀ e ∈ Go.Fw.others w0 w b, e.1 ≠ some b := fun e he => of_decide_eq_true (List.mem_filter.1 he).2
  refine ⟨m.os, m.tape, m.output, m.size, m.old, fun e he b' hb' => ?_, List.pairwise_cons.2 ⟨fun e he b' h1 h2 => ?_, ma.apart.sublist List.filter_sublist⟩⟩
  · rcases List.mem_cons.1 he with rfl | he
    · exact m.ents _ (List.mem_cons_self ..) b' hb'
    · exact ma.ents e (List.mem_filter.1 he).1 b' hb'
  · exact hf e he (h2.trans h1.symm)
section
variable {P : Program} {n : Nat} {Q : Exit → Act → World → Prop} {w0 : World} {L : Slots} {M R : List Ent}
variable {ops : Array Oper} {hard : List Nat} {f : Nat} {done : Array Bool} {op : Op} {ty : TypeId} {pos : String} {aft : Array Edge} {g : Option (Nat × Bool)} {d : Nat} {v : Value}
theorem XW.callE (i : Nat) {fn : FuncId} {xs : List Operand} {ats : Array TypeId} {args : List Value} {Rr : Value → List Ent → Prop} {b : Nat} {o : Obj} (ho : ops[i]? = some ⟨some d, .call ⟨.value (.func fn), xs.toArray, ats⟩, ty, pos, aft, g⟩) (hr : (Region.ready .any ops done == [i] && hard.contains i) = true) (hw : Wt ops L g = true)
    (hc : ∀ (args : Array Value) (w : World), (callFunc fn args).run P w = .ok (.enter fn args) w) (hxs : evs L xs = some args) (hdo : ∀ N, (∀ w, Mem w0 w N → Mem w0 w M) → DoesG P fn args w0 [(some b, o)] N Rr) (hMR : ∀ w, Mem w0 w M → Mem w0 w R)
    (hd : Nat.blt d n = true) (k : ∀ v G, Rr v G → XW P n ops Q w0 R hard f (done.setIfInBounds i true) ((d, v) :: L) (G ++ M)) : XW P n ops Q w0 R hard (f + 1) done L ((some b, o) :: M) := by
  unfold XW at *
  intro hR hB inv a w fr mm
  simp only [Bool.and_eq_true, beq_iff_eq] at hr
  obtain ⟨hr, hi⟩ := hr
  have him : i < ops.size := (Array.getElem?_eq_some_iff.1 ho).1
  have hne : ∀ e ∈ M, e.1 ≠ some b := fun e he h => (List.pairwise_cons.1 mm.apart).1 e he b rfl h
  refine ⟨by rw [hr]; simp, fun j hj => ?_⟩
  rw [hr] at hj
  obtain rfl : j = i := by simpa using hj
  refine ⟨him, _, ho, .inl ⟨wt_spec fr hw, ?_⟩⟩
  have hev := evs_map (fun x u hx => fr.eval hx) xs args hxs
  have hrun : (execOp a.eval ⟨some d, .call ⟨.value (.func fn), xs.toArray, ats⟩, ty, pos, aft, g⟩).run P w = .ok (.enter fn args.toArray) w := by
    simp [execOp, resolve, Deferred.ofValue, Act.eval, invoke, hev, hc]
  rw [hrun]
  refine (hdo (others w0 w b) (fun w2 m2 => by have := Mem.graftE (G := []) m2 mm.tail hne; exact this) w (by simpa using mm.others)).mono ?_
  rintro e w2 ⟨q, ⟨G, h1, h2⟩, rfl, m'⟩
  have m' : Mem w0 w2 (G ++ others w0 w b) := by have m2 := m'; rwa [show (fun q : Value × List Ent => q.2) q = G ++ others w0 w b from h2] at m2
  have m3 := m'.graftE mm.tail hne
  refine ⟨_, rfl, ?_, (k q.1 G h1) (fun w m => hMR w m.appR) hB (inv.set (by rw [hr]; simp) him) _ _ (fr.put hd _) m3⟩
  unfold Rl
  rw [if_pos hi]
  exact fun _ => hMR _ m3.appR
end
end Go.Fw
namespace Go.Fw
open Go Go.RowKit
set_option linter.unusedVariables false
set_option linter.unusedSectionVars false
def toVec (n : Nat) (l : List (BitVec 8)) : Option (Vector (BitVec 8) n) := if h : (l.take n).length = n then some ⟨(l.take n).toArray, by simpa using h⟩ else none
theorem toVec_list {n : Nat} {l : List (BitVec 8)} {x : Vector (BitVec 8) n} (h : toVec n l = some x) : x.toList = l.take n ∧ n ≤ l.length := by
  unfold toVec at h
  split at h
  · rename_i hl
    cases h
    exact ⟨rfl, by rw [List.length_take] at hl; omega⟩
  · cases h
theorem toVec_some {n : Nat} {l : List (BitVec 8)} (h : n ≤ l.length) : ∃ x, toVec n l = some x := by
  unfold toVec
  rw [dif_pos (by rw [List.length_take]; omega)]
  exact ⟨_, rfl⟩
theorem View.vec8 {Φ : Ctx} {A : Option Addr} {c : Nat} {l : List (BitVec 8)} {n : Nat} {x : Vector (BitVec 8) n} (h : View Φ A l.length c 1 (u8s l)) (hx : toVec n l = some x) {w : World} (q : Φ w) : ∀ j u, (u8s x.toList)[j]? = some u → w.cell? (((A.getD default).add 0).add j) = some u := fun j u hj => by
  have e : ((A.getD default).add 0).add j = (A.getD default).add j := by simp [Addr.add]
  rw [e]
  refine h.cell q ?_
  rw [(toVec_list hx).1] at hj
  have hl : j < n := by
    have := (List.getElem?_eq_some_iff.1 hj).1
    rw [u8s_length, List.length_take] at this
    omega
  rw [← u8s_take, List.getElem?_take, if_pos hl] at hj
  exact hj
section
variable {P : Program} [Types P] {n : Nat} {w0 : World} {L : Slots} {M : List Ent} {x : Operand} {t e : TypeId}
theorem RV.s2a {A : Option Addr} {len cap k : Nat} (hx : ev L x = some (.slice A len cap)) (ht : tyU P t = some (.array k e)) (hA : A.isSome = true) (hk : k ≤ len) :
    RV P w0 L M (.sliceToArrayPointer t x) (rptr A 0) := fun ρ w hρ m o ho => by
  obtain ⟨a, rfl⟩ := Option.isSome_iff_exists.1 hA
  have hk' : ¬ len < k := by omega
  simp [execOp, ho, hρ x _ hx, Instr.arrayAt, tyU_run ht, rptr, hk', Addr.add]
end
end Go.Fw
namespace Go.Fw
open Go Go.RowKit
set_option linter.unusedVariables false
set_option linter.unusedSectionVars false
theorem lk_cons_ne {L : Slots} {d k : Nat} {u : Value} (h : d ≠ k) : lk ((d, u) :: L) k = lk L k := by
  simp only [lk]
  split
  · rename_i e; exact absurd (by simpa using e) h
  · rfl
theorem nbeq {a b : Nat} (h : Nat.beq a b = false) : a ≠ b := fun e => by subst e; simp at h
theorem lk_swap {L : Slots} {d e q : Nat} {u v w : Value} (h : d ≠ e) (hq : lk ((e, u) :: (d, v) :: L) q = some w) : lk ((d, v) :: (e, u) :: L) q = some w := by
  by_cases h1 : e = q
  · subst h1
    rw [lk_cons_ne h]
    simpa [lk] using hq
  · rw [lk_cons_ne h1] at hq
    by_cases h2 : d = q
    · subst h2; simpa [lk] using hq
    · rw [lk_cons_ne h2] at hq ⊢
      rw [lk_cons_ne h1]; exact hq
theorem lk_mono {L : Slots} {d : Nat} {u : Value} (h : lk L d = none) : ∀ k v, lk L k = some v → lk ((d, u) :: L) k = some v := fun k v hk => by
  rw [lk_cons_ne (fun e => by subst e; rw [h] at hk; cases hk)]; exact hk
theorem ev_mono {L L' : Slots} (h : ∀ k v, lk L k = some v → lk L' k = some v) {x : Operand} {v : Value} (hx : ev L x = some v) : ev L' x = some v := by
  cases x with
  | tmp t => exact h t v hx
  | const c => exact hx
  | global g => exact hx
  | func f => exact hx
theorem evs_mono {L L' : Slots} (h : ∀ k v, lk L k = some v → lk L' k = some v) : ∀ (l : List Operand) (vs : List Value), evs L l = some vs → evs L' l = some vs
  | [], vs, e => e
  | x :: r, vs, e => by
    simp only [evs] at e ⊢
    split at e
    · rename_i u hu
      rw [ev_mono h hu]
      split at e
      · rename_i us hus
        rw [evs_mono h r us hus]
        exact e
      · cases e
    · cases e
theorem Mem.under {w0 : World} {M M' : List Ent} (hs : ∀ w, Mem w0 w M → Mem w0 w M') {b : Nat} {l : List Value} {t : TypeId} {w : World} (m : Mem w0 w ((some b, blk l t) :: M)) : Mem w0 w ((some b, blk l t) :: M') := by
  have m1 := hs w m.tail
  obtain ⟨hb, hw⟩ := m.ents _ (List.mem_cons_self ..) b rfl
  have hlt : b < w.heap.size := (Array.getElem?_eq_some_iff.1 hw).1
  refine ⟨m.os, m.tape, m.output, m.size, m.old, fun e he b' hb' => ?_, List.pairwise_cons.2 ⟨fun e he b' h1 h2 => ?_, m1.apart⟩⟩
  · rcases List.mem_cons.1 he with rfl | he
    · exact m.ents _ (List.mem_cons_self ..) b' hb'
    · exact m1.ents e he b' hb'
  · obtain rfl : b = b' := by simpa using h1
    have hne : ∀ x ∈ M, ∀ b', x.1 = some b' → b' ≠ b := fun x hx b' h3 e => (List.pairwise_cons.1 m.apart).1 x hx b rfl (by rw [h3, e])
    have m2 : Mem w0 { w with heap := w.heap.set b (blk (undef :: l) t) hlt } M := by
      refine ⟨m.os, m.tape, m.output, by simpa using m.size, fun b' h => ?_, fun x hx b' h3 => ?_, m.tail.apart⟩
      · show (w.heap.set b _ hlt)[b']? = _
        rw [Array.getElem?_set_ne hlt (by omega)]
        exact m.old b' h
      · obtain ⟨h4, h5⟩ := m.tail.ents x hx b' h3
        refine ⟨h4, ?_⟩
        show (w.heap.set b _ hlt)[b']? = _
        rw [Array.getElem?_set_ne hlt (fun e => hne x hx b' h3 e.symm)]
        exact h5
    have q1 := (m1.ents e he b h2).2
    have q2 := ((hs _ m2).ents e he b h2).2
    have q3 : (w.heap.set b (blk (undef :: l) t) hlt)[b]? = some (blk (undef :: l) t) := Array.getElem?_set_self hlt
    have q4 : some (blk (undef :: l) t) = some (blk l t) := (q3.symm.trans q2).trans (q1.symm.trans hw)
    simp [blk] at q4
section
variable {P : Program} {n : Nat} {Q : Exit → Act → World → Prop} {w0 : World} {L : Slots} {M R : List Ent}
variable {ops : Array Oper} {hard : List Nat} {f : Nat} {done : Array Bool} {op opp : Op} {ty typ : TypeId} {pos posp : String} {aft aftp : Array Edge} {g : Option (Nat × Bool)} {d dp p : Nat} {v : Value} {fv : Nat → Value} {l : List Value} {te : TypeId}
theorem XW.sub {L' : Slots} (hs : ∀ k v, lk L' k = some v → lk L k = some v) (k : XW P n ops Q w0 R hard f done L' M) : XW P n ops Q w0 R hard f done L M := by
  unfold XW at *
  exact fun hR hB inv a w fr mm => k hR hB inv a w (fr.sub hs) mm
def XWp (P : Program) (n : Nat) (ops : Array Oper) (Q : Exit → Act → World → Prop) (w0 : World) (R : List Ent) (hard : List Nat) (p dp : Nat) (fv : Nat → Value) (l : List Value) (te : TypeId) (f : Nat) (done : Array Bool) (L : Slots) (M : List Ent) : Prop :=
  (∃ op ty pos aft, ops[p]? = some ⟨some dp, op, ty, pos, aft, none⟩ ∧ NV P w0 [] [] op fv l te ∧ Nat.blt dp n = true) → lk L dp = none →
    XW P n ops Q w0 R hard (f + 1) done L M ∧ ∀ b, XW P n ops Q w0 R hard f (done.setIfInBounds p true) ((dp, fv b) :: L) ((some b, blk l te) :: M)
theorem XWp.start (p : Nat) (ho : ops[p]? = some ⟨some dp, op, ty, pos, aft, none⟩) (hop : NV P w0 [] [] op fv l te) (hd : Nat.blt dp n = true) (hl : lk L dp = none) (k : XWp P n ops Q w0 R hard p dp fv l te f done L M) : XW P n ops Q w0 R hard (f + 1) done L M := (k ⟨_, _, _, _, ho, hop, hd⟩ hl).1
theorem NV.any (h : NV P w0 [] [] op fv l te) : NV P w0 L M op fv l te := fun ρ w hρ m o ho => h ρ w (fun x u hx => hρ x u (ev_mono (fun k v hk => by simp [lk] at hk) hx)) (m.sublist (List.nil_sublist _)) o ho
theorem XWp.fin (hr : (Region.ready .any ops done == [p]) = true) (k : ∀ b, XW P n ops Q w0 R hard f (done.setIfInBounds p true) ((dp, fv b) :: L) ((some b, blk l te) :: M)) : XWp P n ops Q w0 R hard p dp fv l te f done L M := fun ⟨_, _, _, _, ho, hop, hd⟩ hl =>
  ⟨XW.new p ho hr rfl hop.any hd k, k⟩
theorem XWp.slot (v' : Value) (hv : v = v') (k : XWp P n ops Q w0 R hard p dp fv l te f done ((d, v') :: L) M) : XWp P n ops Q w0 R hard p dp fv l te f done ((d, v) :: L) M := by subst hv; exact k
theorem XWp.mem {M' : List Ent} (hs : ∀ w, Mem w0 w M → Mem w0 w M') (hMR : ∀ w, Mem w0 w M' → Mem w0 w R) (k : XWp P n ops Q w0 R hard p dp fv l te f done L M') : XWp P n ops Q w0 R hard p dp fv l te f done L M := fun hp hl =>
  ⟨XW.mem hs hMR (k hp hl).1, fun b => XW.mem (fun w m => m.under hs) (fun w m => hMR w m.tail) ((k hp hl).2 b)⟩
theorem RV.more {L' : Slots} {M' : List Ent} (hL : ∀ k v, lk L k = some v → lk L' k = some v) (hM : ∀ w, Mem w0 w M' → Mem w0 w M) (h : RV P w0 L M op v) : RV P w0 L' M' op v := fun ρ w hρ m o ho => h ρ w (fun x u hx => hρ x u (ev_mono hL hx)) (hM w m) o ho
theorem XWp.rs (i : Nat) (ho : ops[i]? = some ⟨some d, op, ty, pos, aft, none⟩) (hr : (XR ops done i && XR ops (done.setIfInBounds p true) i && !Nat.beq d dp && !Nat.beq i p) = true) (hw : Wt ops L none = true) (hop : RV P w0 L R op v) (hd : Nat.blt d n = true) (k : XWp P n ops Q w0 R hard p dp fv l te f (done.setIfInBounds i true) ((d, v) :: L) M) : XWp P n ops Q w0 R hard p dp fv l te (f + 1) done L M := fun hp hl => by
  simp only [Bool.and_eq_true, Bool.not_eq_true'] at hr
  obtain ⟨⟨⟨h1, h2⟩, h3⟩, h4⟩ := hr
  have hl' : lk ((d, v) :: L) dp = none := by rw [lk_cons_ne (nbeq h3)]; exact hl
  obtain ⟨k1, k2⟩ := k hp hl'
  refine ⟨XW.rs i ho h1 rfl hop hd k1, fun b => XW.rs i ho h2 rfl (hop.more (lk_mono hl) fun _ m => m) hd ?_⟩
  rw [Array.setIfInBounds_comm _ _ (Ne.symm (nbeq h4))]
  refine XW.sub (fun q u hq => ?_) (k2 b)
  exact lk_swap (nbeq h3) hq
theorem XWp.rv (i : Nat) (ho : ops[i]? = some ⟨some d, op, ty, pos, aft, none⟩) (hr : (XR ops done i && XR ops (done.setIfInBounds p true) i && !Nat.beq d dp && !Nat.beq i p) = true) (hw : Wt ops L none = true) (hS : XS ops hard i = true) (hop : RV P w0 L M op v) (hd : Nat.blt d n = true) (k : XWp P n ops Q w0 R hard p dp fv l te f (done.setIfInBounds i true) ((d, v) :: L) M) : XWp P n ops Q w0 R hard p dp fv l te (f + 1) done L M := fun hp hl => by
  simp only [Bool.and_eq_true, Bool.not_eq_true'] at hr
  obtain ⟨⟨⟨h1, h2⟩, h3⟩, h4⟩ := hr
  have hl' : lk ((d, v) :: L) dp = none := by rw [lk_cons_ne (nbeq h3)]; exact hl
  obtain ⟨k1, k2⟩ := k hp hl'
  refine ⟨XW.rv i ho h1 rfl hS hop hd k1, fun b => XW.rv i ho h2 rfl hS (hop.more (lk_mono hl) fun _ m => m.tail) hd ?_⟩
  rw [Array.setIfInBounds_comm _ _ (Ne.symm (nbeq h4))]
  refine XW.sub (fun q u hq => ?_) (k2 b)
  exact lk_swap (nbeq h3) hq
theorem XWp.callG (i : Nat) {fn : FuncId} {xs : List Operand} {ats : Array TypeId} {args : List Value} {Rr : Value → List Ent → Prop} (ho : ops[i]? = some ⟨some d, .call ⟨.value (.func fn), xs.toArray, ats⟩, ty, pos, aft, none⟩) (hr : ((Region.ready .any ops done == [i, p] || Region.ready .any ops done == [p, i]) && Region.ready .any ops (done.setIfInBounds p true) == [i] && !Nat.beq d dp && !Nat.beq i p) = true) (hw : Wt ops L none = true)
    (hc : ∀ (args : Array Value) (w : World), (callFunc fn args).run P w = .ok (.enter fn args) w) (hxs : evs L xs = some args) (hdo : ∀ N, (∀ w, Mem w0 w N → Mem w0 w M) → DoesG P fn args w0 [] N Rr)
    (hd : Nat.blt d n = true) (k : ∀ v G, Rr v G → XWp P n ops Q w0 R hard p dp fv l te f (done.setIfInBounds i true) ((d, v) :: L) (G ++ M)) : XWp P n ops Q w0 R hard p dp fv l te (f + 1) done L M := fun hp hl => by
  simp only [Bool.and_eq_true, Bool.not_eq_true', Bool.or_eq_true, beq_iff_eq] at hr
  obtain ⟨⟨⟨h1, h2⟩, h3⟩, h4⟩ := hr
  have hl' : ∀ v, lk ((d, v) :: L) dp = none := fun v => by rw [lk_cons_ne (nbeq h3)]; exact hl
  have k2 : ∀ b, XW P n ops Q w0 R hard (f + 1) (done.setIfInBounds p true) ((dp, fv b) :: L) ((some b, blk l te) :: M) := fun b => by
    refine XW.callG i ho (by simpa using h2) rfl hc (evs_mono (lk_mono hl) _ _ hxs) (fun N hN => hdo N fun w m => (hN w m).tail) hd (fun v G hv => ?_)
    rw [Array.setIfInBounds_comm _ _ (Ne.symm (nbeq h4))]
    have q := (k v G hv hp (hl' v)).2 b
    unfold XW at q ⊢
    intro hR hB inv a w fr mm
    have mp : ∀ w, Mem w0 w ((some b, blk l te) :: (G ++ M)) → Mem w0 w (G ++ (some b, blk l te) :: M) := fun w m => m.perm List.perm_middle.symm
    refine q (fun w m => hR w (mp w m)) hB inv a w (fr.sub fun q u hq => ?_) (mm.perm List.perm_middle)
    exact lk_swap (nbeq h3) hq
  refine ⟨?_, k2⟩
  have k1 := fun v G hv => (k v G hv hp (hl' v)).1
  obtain ⟨op, tyq, posq, aftq, hop, hnv, hdp⟩ := hp
  unfold XW at k1 k2 ⊢
  intro hR hB inv a w fr mm
  have hmem : ∀ j, j ∈ Region.ready .any ops done ↔ j = i ∨ j = p := fun j => by rcases h1 with h | h <;> simp [h, or_comm]
  have him : i < ops.size := (Array.getElem?_eq_some_iff.1 ho).1
  have hpm : p < ops.size := (Array.getElem?_eq_some_iff.1 hop).1
  refine ⟨by rcases h1 with h | h <;> simp [h], fun j hj => ?_⟩
  rcases (hmem j).1 hj with rfl | rfl
  · refine ⟨him, _, ho, .inl ⟨wt_spec fr rfl, ?_⟩⟩
    have hev := evs_map (fun x u hx => fr.eval hx) xs args hxs
    have hrun : (execOp a.eval ⟨some d, .call ⟨.value (.func fn), xs.toArray, ats⟩, ty, pos, aft, none⟩).run P w = .ok (.enter fn args.toArray) w := by
      simp [execOp, resolve, Deferred.ofValue, Act.eval, invoke, hev, hc]
    rw [hrun]
    refine (hdo (allEnts w0 w) (fun w2 m2 => Upw.of_all m2 _ mm) w mm.all).mono ?_
    rintro e w2 ⟨q, ⟨G, h1, h2⟩, rfl, m'⟩
    have m' : Mem w0 w2 (G ++ allEnts w0 w) := by have m2 := m'; rwa [show (fun q : Value × List Ent => q.2) q = G ++ allEnts w0 w from h2] at m2
    refine ⟨_, rfl, ?_, (k1 q.1 G h1) (fun w m => hR w m.appR) hB (inv.set hj him) _ _ (fr.put hd _) (m'.graft mm)⟩
    have hu := Upw.of_all m'.appR
    unfold Rl
    split
    · exact hu R
    · exact hu
  · refine ⟨hpm, _, hop, .inl ⟨wt_spec fr rfl, ?_⟩⟩
    rw [hnv.any (L := L) (M := M) a.eval w (fun x u hx => fr.eval hx) mm _ rfl]
    refine ⟨?_, k2 _ (fun w m => hR w m.tail) hB (inv.set hj hpm) _ _ (fr.put hdp _) (mm.alloc _)⟩
    unfold Rl
    split
    · exact Upw.alloc _ _ _ R
    · exact Upw.alloc _ _ _
attribute [irreducible] XWp
theorem NV.alloc [Types P] {e : TypeId} {ti : TI} {l : List Value} (hi : Fw.ty P e = some ti) (hl : ti.z.cells = l.toArray) : NV P w0 L M (.alloc e) (fun b => ptr (some b) 0) l e := fun ρ w hρ m o ho => by
  obtain ⟨_, ti, h1, h2, h3, h4⟩ := ty_ok hi
  simp [execOp, ho, Instr.alloc, zeroValue, typeInfo, h1, h4, newVar, newRow, ptr, blk, hl]
end
end Go.Fw

/- Part of a proof: rules that its law uses. -/
import Derived.Test.YtgonajfngmeanaaDoorFwD
import Derived.Test.YtgonajfngmeanaaDoorRmL2
import Derived.Scope
import Derived.Test.YtgonajfngmeanaaDoorLentP
namespace Go.Fw
open Go Go.RowKit
set_option linter.unusedVariables false
set_option linter.unusedSectionVars false
section
variable {P : Program} [Types P] {n : Nat} {Q : Exit → Act → World → Prop} {w0 : World} {L : Slots} {M : List Ent} {t e : TypeId} {x : Operand} {v : Value}
def Held (w0 : World) (Φ : Ctx) (b : Nat) (l : List Value) (te : TypeId) : Prop := ∀ w, Φ w → Mem w0 w [(some b, blk l te)]
theorem Held.mono {Φ Ψ : Ctx} {b : Nat} {l : List Value} {te : TypeId} (h : Held w0 Φ b l te) (hh : ∀ w, Ψ w → Φ w) : Held w0 Ψ b l te := fun w q => h w (hh w q)
theorem RV.loadH {Φ : Ctx} {b i : Nat} {l : List Value} {te : TypeId} {u : TypeDesc} (hx : ev L x = some (ptr (some b) i)) (he : Held w0 Φ b l te) (hM : ∀ w, Mem w0 w M → Φ w) (hu : tyU P t = some u) (hg : TypeDesc.agg u = false) (hv : l[i]? = some v) : RV P w0 L M (.load t x) v :=
  RV.load_at (a := ⟨b, i, none⟩) hx hu hg (fun w m => by show w.cell? ⟨b, i, none⟩ = some v; rw [(he w (hM w m)).cell (List.mem_cons_self ..)]; exact hv)
theorem RV.loadAH {Φ : Ctx} {b i s : Nat} {l vs : List Value} {te : TypeId} {u : TypeDesc} (hx : ev L x = some (ptr (some b) i)) (he : Held w0 Φ b l te) (hM : ∀ w, Mem w0 w M → Φ w) (hu : tyU P t = some u) (hg : TypeDesc.agg u = true) (hsz : tyS P t = some s)
    (hv : ∀ j u, vs[j]? = some u → l[i + j]? = some u) (hl : vs.length = s) : RV P w0 L M (.load t x) (.agg vs.toArray) :=
  RV.loadA_at (a := ⟨b, i, none⟩) hx hu hg (by rw [hl]; exact hsz) (fun w m j u hj => by rw [Addr.add_none, (he w (hM w m)).cell (List.mem_cons_self ..)]; exact hv j u hj)
theorem RV.loadWH {Φ : Ctx} {b s : Nat} {l : List Value} {te : TypeId} {u : TypeDesc} (hx : ev L x = some (ptr (some b) 0)) (he : Held w0 Φ b l te) (hM : ∀ w, Mem w0 w M → Φ w) (hu : tyU P t = some u) (hg : TypeDesc.agg u = true) (hsz : tyS P t = some s) (hl : l.length = s) : RV P w0 L M (.load t x) (.agg l.toArray) :=
  RV.loadAH hx he hM hu hg hsz (fun j u hj => by rw [Nat.zero_add]; exact hj) hl
theorem Held.part {Φ : Ctx} {b i : Nat} {l : List Value} {te : TypeId} {m : Nat} {a : Vector (BitVec 8) m} (h : Held w0 Φ b l te) (hp : ∀ (k : Nat) (u : Value), (u8s a.toList)[k]? = some u → l[i + k]? = some u) (hm : m ≤ 140737488355328) : View Φ (some ⟨b, i, none⟩) a.toList.length m 1 (u8s a.toList) :=
  ⟨fun w q => ⟨fun _ => rfl, fun j u hj => by
    show w.cell? ((⟨b, i, none⟩ : Addr).add j) = some u
    rw [Addr.add_none, (h w q).cell (List.mem_cons_self ..)]; exact hp j u hj⟩, fun _ => rfl, by rw [u8s_length]; omega, by rw [Vector.length_toList]; exact Nat.le_refl _, by rw [Vector.length_toList]; exact hm⟩
theorem View.part {Φ : Ctx} {A : Option Addr} {len c s off f : Nat} {cells cs : List Value} {m : Nat} {a : Vector (BitVec 8) m} (h : View Φ A len c s cells) (hc : ∀ j u, cs[j]? = some u → cells[off + j]? = some u) (hp : ∀ (k : Nat) (u : Value), (u8s a.toList)[k]? = some u → cs[f + k]? = some u) (hm : m ≤ 140737488355328) :
    View Φ (some (((A.getD default).add off).add f)) a.toList.length m 1 (u8s a.toList) :=
  ⟨fun w q => ⟨fun _ => rfl, fun j u hj => by
    show w.cell? ((((A.getD default).add off).add f).add j) = some u
    rw [Addr.add_add]; exact h.load q hc _ u (hp j u hj)⟩, fun _ => rfl, by rw [u8s_length]; omega, by rw [Vector.length_toList]; exact Nat.le_refl _, by rw [Vector.length_toList]; exact hm⟩
theorem View.elem {Φ : Ctx} {A : Option Addr} {len c s off : Nat} {cells : List Value} {m : Nat} {a : Vector (BitVec 8) m} (h : View Φ A len c s cells) (hc : ∀ j u, (u8s a.toList)[j]? = some u → cells[off + j]? = some u) (hm : m ≤ 140737488355328) :
    View Φ (some ((A.getD default).add off)) a.toList.length m 1 (u8s a.toList) :=
  ⟨fun w q => ⟨fun _ => rfl, fun j u hj => h.load q hc _ u hj⟩, fun _ => rfl, by rw [u8s_length]; omega, by rw [Vector.length_toList]; exact Nat.le_refl _, by rw [Vector.length_toList]; exact hm⟩
theorem View.load_part {Φ : Ctx} {A : Option Addr} {len c s off f : Nat} {cells cs vs : List Value} (h : View Φ A len c s cells) {w : World} (q : Φ w) (hc : ∀ j u, cs[j]? = some u → cells[off + j]? = some u) (hp : ∀ (k : Nat) (u : Value), vs[k]? = some u → cs[f + k]? = some u) :
    ∀ j u, vs[j]? = some u → w.cell? ((((A.getD default).add off).add f).add j) = some u := fun j u hj => by
  rw [Addr.add_add]; exact h.load q hc _ u (hp j u hj)
theorem View.load_fld {Φ : Ctx} {A : Option Addr} {len c s off f : Nat} {cells cs : List Value} (h : View Φ A len c s cells) {w : World} (q : Φ w) (hc : ∀ j u, cs[j]? = some u → cells[off + j]? = some u) (hp : cs[f]? = some v) :
    w.cell? (((A.getD default).add off).add f) = some v := h.load q hc f v hp
end
section
variable {P : Program} {n : Nat} {Q : Exit → Act → World → Prop} {w0 : World} {L : Slots} {M : List Ent}
theorem CW.scope0 {c : Code} (h : CW P n (Exit.noGoto Q) w0 c L M) : CW P n Q w0 (.scope c) L M := CW.intro fun a w f m => wp_scope_straight (h.elim a w f m)
theorem QW.scope_n (h : QW n Q w0 .normal L M) : QW n (Exit.noGoto Q) w0 .normal L M := QW.intro fun a w f m => h.elim a w f m
theorem QW.scope_r (h : QW n Q w0 .ret L M) : QW n (Exit.noGoto Q) w0 .ret L M := QW.intro fun a w f m => h.elim a w f m
theorem QW.scope_x {id : Nat} (h : QW n Q w0 (.exit id) L M) : QW n (Exit.noGoto Q) w0 (.exit id) L M := QW.intro fun a w f m => h.elim a w f m
end
inductive Lq (α β : Type) where
  | ret (o : Option α)
  | out
  | go (b : β)
def LsRd {T : Type} (s : Nat) (R : Ctx → List Value → T → Prop) (Φ : Ctx) (cs : List Value) (x : List T) : Prop := ∃ A c cs2, cs = [.slice A x.length c] ∧ View Φ A x.length c s cs2 ∧ Reps (R Φ) cs2 x
abbrev HsRd (Φ : Ctx) (cs : List Value) (x : List (Vector (BitVec 8) 32)) : Prop := LsRd 32 Ar8Rd Φ cs x
theorem HsRd.mono {Φ Ψ : Ctx} (hh : ∀ w, Ψ w → Φ w) (cs : List Value) (x : List (Vector (BitVec 8) 32)) : HsRd Φ cs x → HsRd Ψ cs x := fun ⟨A, c, cs2, h1, h2, h3⟩ => ⟨A, c, cs2, h1, h2.mono hh, h3.mono (Ar8Rd.mono hh)⟩
theorem HsRd.len {Φ : Ctx} (cs : List Value) (x : List (Vector (BitVec 8) 32)) (h : HsRd Φ cs x) : cs.length = 1 := by obtain ⟨A, c, cs2, rfl, _⟩ := h; rfl
theorem HsRd.one {Φ : Ctx} (cs : List Value) (x : List (Vector (BitVec 8) 32)) (h : HsRd Φ cs x) : ∀ u ∈ cs, u.oneCell' = true := by
  obtain ⟨A, c, cs2, rfl, _⟩ := h
  intro u hu; simp at hu; subst hu; rfl
theorem HsRd.mk {Φ : Ctx} {A : Option Addr} {c : Nat} {cs2 : List Value} {x : List (Vector (BitVec 8) 32)} (h1 : View Φ A x.length c 32 cs2) (h2 : Reps (Ar8Rd Φ) cs2 x) : HsRd Φ [.slice A x.length c] x := ⟨A, c, cs2, rfl, h1, h2⟩
end Go.Fw
namespace Go.Fw
open Go
set_option linter.unusedVariables false
def MkRd (m : List (BitVec 8)) (Φ : Ctx) (cs : List Value) (x : List (BitVec 8)) : Prop := ∃ A c, cs = [.slice A x.length c] ∧ View Φ A (x ++ m).length c 1 (u8s (x ++ m))
theorem MkRd.mono' {m : List (BitVec 8)} {Φ Ψ : Ctx} (hh : ∀ w, Ψ w → Φ w) (cs : List Value) (x : List (BitVec 8)) : MkRd m Φ cs x → MkRd m Ψ cs x := fun ⟨A, c, h1, h2⟩ => ⟨A, c, h1, h2.mono hh⟩
theorem MkRd.len' {m : List (BitVec 8)} {Φ : Ctx} (cs : List Value) (x : List (BitVec 8)) (h : MkRd m Φ cs x) : cs.length = 1 := by obtain ⟨A, c, rfl, _⟩ := h; rfl
theorem MkRd.bs' {m : List (BitVec 8)} {Φ : Ctx} (cs : List Value) (x : List (BitVec 8)) (h : MkRd m Φ cs x) : BsRd Φ cs x := by
  obtain ⟨A, c, h1, h2⟩ := h
  exact ⟨A, c, h1, MRoom.view h2⟩
abbrev MkRd02 : Ctx → List Value → List (BitVec 8) → Prop := MkRd (List.replicate 200 195#8)
theorem MkRd02.mono {Φ Ψ : Ctx} (hh : ∀ w, Ψ w → Φ w) (cs : List Value) (x : List (BitVec 8)) : MkRd02 Φ cs x → MkRd02 Ψ cs x := MkRd.mono' hh cs x
theorem MkRd02.len {Φ : Ctx} (cs : List Value) (x : List (BitVec 8)) (h : MkRd02 Φ cs x) : cs.length = 1 := MkRd.len' cs x h
abbrev MkRd03 : Ctx → List Value → List (BitVec 8) → Prop := MkRd (List.replicate 70 165#8)
theorem MkRd03.mono {Φ Ψ : Ctx} (hh : ∀ w, Ψ w → Φ w) (cs : List Value) (x : List (BitVec 8)) : MkRd03 Φ cs x → MkRd03 Ψ cs x := MkRd.mono' hh cs x
theorem MkRd03.len {Φ : Ctx} (cs : List Value) (x : List (BitVec 8)) (h : MkRd03 Φ cs x) : cs.length = 1 := MkRd.len' cs x h
def MRooms (m : List (BitVec 8)) (k : List (List (BitVec 8))) (Φ : Ctx) (A : Option Addr) (c : Nat) (x : List (List (BitVec 8))) : Prop :=
  ∃ cs mk : List Value, View Φ A (x ++ k).length c 1 (cs ++ mk) ∧ Reps (MkRd m Φ) cs x ∧ Reps (BsRd Φ) (cs ++ mk) (x ++ k)
theorem MRooms.mono {m : List (BitVec 8)} {k : List (List (BitVec 8))} {Φ Ψ : Ctx} {A : Option Addr} {c : Nat} {x : List (List (BitVec 8))} (h : MRooms m k Φ A c x) (hh : ∀ w, Ψ w → Φ w) : MRooms m k Ψ A c x := by
  obtain ⟨cs, mk, v, r, rb⟩ := h
  exact ⟨cs, mk, v.mono hh, r.mono (MkRd.mono' hh), rb.mono (BsRd.mono hh)⟩
structure Lt where
  b : Nat
  t : List (BitVec 8)
  c : Nat
  r : List Value
def Lt.ent (te : TypeId) (m : List (BitVec 8)) (x : Lt) : Ent := (some x.b, blk (u8s x.t ++ (u8s m ++ x.r)) te)
def Lt.cell (x : Lt) : Value := .slice (some ⟨x.b, 0, none⟩) x.t.length x.c
structure Lt.Ok (m : List (BitVec 8)) (x : Lt) : Prop where
  own : OwnS (some x.b) x.t.length x.c 1 (u8s x.t) (u8s m ++ x.r)
  mx : x.t.length + m.length ≤ 140737488355328
theorem Lt.mroom {w0 : World} {Φ : Ctx} {te : TypeId} {m : List (BitVec 8)} {x : Lt} (h : x.Ok m) (hM : ∀ w, Φ w → Mem w0 w [x.ent te m]) : View Φ (some ⟨x.b, 0, none⟩) (x.t ++ m).length x.c 1 (u8s (x.t ++ m)) := OwnS.mroom h.own hM h.mx
theorem Lt.mk_rd {w0 : World} {Φ : Ctx} {te : TypeId} {m : List (BitVec 8)} {x : Lt} (h : x.Ok m) (hM : ∀ w, Φ w → Mem w0 w [x.ent te m]) : MkRd m Φ [x.cell] x.t := ⟨_, _, rfl, x.mroom h hM⟩
def lents (te : TypeId) (m : List (BitVec 8)) (l : List Lt) : List Ent := l.map (Lt.ent te m)
theorem lents_reps {w0 : World} {Φ : Ctx} {te : TypeId} {m : List (BitVec 8)} : ∀ (l : List Lt), (∀ x ∈ l, x.Ok m) → (∀ w, Φ w → Mem w0 w (lents te m l)) → Reps (MkRd m Φ) (l.map Lt.cell) (l.map (·.t))
  | [], _, _ => .nil
  | x :: l, h, hM => by
    have h1 : Reps (MkRd m Φ) ([x.cell] ++ l.map Lt.cell) (x.t :: l.map (·.t)) := .cons (x.mk_rd (h x (List.mem_cons_self ..)) (fun w q => (hM w q).sublist (by rw [lents, List.map_cons]; exact List.singleton_sublist.2 (List.mem_cons_self ..)))) (lents_reps l (fun y hy => h y (List.mem_cons_of_mem _ hy)) (fun w q => (hM w q).tail))
    exact h1
theorem Reps.bs {m : List (BitVec 8)} {Φ : Ctx} {cs : List Value} {xs : List (List (BitVec 8))} (h : Reps (MkRd m Φ) cs xs) : Reps (BsRd Φ) cs xs := h.mono MkRd.bs'
theorem perm_mid2 (X A C : List Ent) (y : Ent) : (X ++ (A ++ y :: C)).Perm (y :: (X ++ (A ++ C))) := by
  have := List.perm_middle (l₁ := X ++ A) (a := y) (l₂ := C)
  simpa [List.append_assoc] using this
theorem lents_front {w0 w : World} {te : TypeId} {m : List (BitVec 8)} {l : List Lt} {i : Nat} {x : Lt} {X N : List Ent} (hx : l[i]? = some x) (h : Mem w0 w (X ++ (lents te m l ++ N))) : Mem w0 w (x.ent te m :: (X ++ (lents te m (l.take i ++ l.drop (i + 1)) ++ N))) := by
  obtain ⟨hi, rfl⟩ := List.getElem?_eq_some_iff.1 hx
  refine h.perm ?_
  have e : lents te m l = lents te m (l.take i) ++ (l[i].ent te m :: lents te m (l.drop (i + 1))) := by
    unfold lents
    rw [← List.map_cons, ← List.drop_eq_getElem_cons hi, ← List.map_append, List.take_append_drop]
  rw [e]
  have e2 : lents te m (l.take i ++ l.drop (i + 1)) = lents te m (l.take i) ++ lents te m (l.drop (i + 1)) := by simp [lents]
  rw [e2]
  simp only [List.append_assoc, List.cons_append]
  exact perm_mid2 X (lents te m (l.take i)) (lents te m (l.drop (i + 1)) ++ N) (l[i].ent te m)
theorem lents_back {w0 w : World} {te : TypeId} {m : List (BitVec 8)} {l : List Lt} {i : Nat} {y : Lt} {X N : List Ent} (hi : i < l.length) (h : Mem w0 w (y.ent te m :: (X ++ (lents te m (l.take i ++ l.drop (i + 1)) ++ N)))) : Mem w0 w (X ++ (lents te m (l.set i y) ++ N)) := by
  refine h.perm ?_
  have e : lents te m (l.set i y) = lents te m (l.take i) ++ (y.ent te m :: lents te m (l.drop (i + 1))) := by
    unfold lents
    rw [← List.map_cons, ← List.map_append, List.set_eq_take_append_cons_drop, if_pos hi]
  rw [e]
  have e2 : lents te m (l.take i ++ l.drop (i + 1)) = lents te m (l.take i) ++ lents te m (l.drop (i + 1)) := by simp [lents]
  rw [e2]
  simp only [List.append_assoc, List.cons_append]
  exact (perm_mid2 X (lents te m (l.take i)) (lents te m (l.drop (i + 1)) ++ N) (y.ent te m)).symm
theorem lents_snoc {w0 w : World} {te : TypeId} {m : List (BitVec 8)} {l : List Lt} {x : Lt} {X N : List Ent} (h : Mem w0 w (X ++ (x.ent te m :: (lents te m l ++ N)))) : Mem w0 w (X ++ (lents te m (l ++ [x]) ++ N)) := by
  refine h.perm ?_
  have e : lents te m (l ++ [x]) ++ N = lents te m l ++ (x.ent te m :: N) := by simp [lents]
  rw [e]
  exact List.Perm.append_left X (List.perm_middle.symm)
theorem lcell_len (l : List Lt) : (l.map Lt.cell).length = l.length := List.length_map ..
theorem set_rep {l : List Lt} {i n : Nat} {z : Value} (hl : l.length = i) (hi : i < n) (x : Lt) : (l.map Lt.cell ++ List.replicate (n - i) z).set (0 + i) x.cell = (l ++ [x]).map Lt.cell ++ List.replicate (n - (i + 1)) z := by
  rw [Nat.zero_add, List.set_append_right _ _ (by simp [hl]), List.length_map, hl, Nat.sub_self, show n - i = (n - (i + 1)) + 1 by omega, List.replicate_succ, List.set_cons_zero, List.map_append, List.append_assoc]
  rfl
def lx (te2 te : TypeId) (m : List (BitVec 8)) (b0 : Nat) (r : List Value) (mks ls : List Lt) : List Ent := (some b0, blk (ls.map Lt.cell ++ (mks.map Lt.cell ++ r)) te2) :: (lents te [] mks ++ lents te m ls)
theorem lx_view {w0 : World} {Φ : Ctx} {te2 te : TypeId} {m : List (BitVec 8)} {b0 c0 : Nat} {r : List Value} {mks ls : List Lt} (hM : ∀ w, Φ w → Mem w0 w (lx te2 te m b0 r mks ls)) (hc : ls.length + mks.length ≤ c0) (hmx : ls.length + mks.length ≤ 140737488355328) :
    View Φ (some ⟨b0, 0, none⟩) (ls.length + mks.length) c0 1 (ls.map Lt.cell ++ mks.map Lt.cell) :=
  ⟨fun w q => ⟨fun _ => rfl, fun j u hj => by
    show w.cell? ((⟨b0, 0, none⟩ : Addr).add j) = some u
    rw [Addr.add_none, (hM w q).cell (List.mem_cons_self ..), Nat.zero_add, ← List.append_assoc]
    rw [List.getElem?_append_left (List.getElem?_eq_some_iff.1 hj).1]; exact hj⟩, fun _ => rfl, by simp, hc, hmx⟩
theorem lx_rooms {w0 : World} {Φ : Ctx} {te2 te : TypeId} {m : List (BitVec 8)} {b0 c0 : Nat} {r : List Value} {mks ls : List Lt} (hok : ∀ x ∈ ls, x.Ok m) (hok2 : ∀ x ∈ mks, x.Ok []) (hM : ∀ w, Φ w → Mem w0 w (lx te2 te m b0 r mks ls)) (hc : ls.length + mks.length ≤ c0) (hmx : ls.length + mks.length ≤ 140737488355328) :
    MRooms m (mks.map (·.t)) Φ (some ⟨b0, 0, none⟩) c0 (ls.map (·.t)) := by
  have hR := lents_reps (w0 := w0) (te := te) ls hok (fun w q => ((hM w q).tail).sublist (List.sublist_append_right _ _))
  have hK := lents_reps (w0 := w0) (te := te) mks hok2 (fun w q => ((hM w q).tail).sublist (List.sublist_append_left _ _))
  refine ⟨ls.map Lt.cell, mks.map Lt.cell, ?_, hR, hR.bs.app hK.bs⟩
  have hv := lx_view hM hc hmx
  rw [List.length_append, List.length_map, List.length_map]
  exact hv
theorem lx_list {w0 : World} {Φ : Ctx} {te2 te : TypeId} {m : List (BitVec 8)} {b0 c0 : Nat} {r : List Value} {mks ls : List Lt} (hok : ∀ x ∈ ls, x.Ok m) (hM : ∀ w, Φ w → Mem w0 w (lx te2 te m b0 r mks ls)) (hc : ls.length + mks.length ≤ c0) (hmx : ls.length + mks.length ≤ 140737488355328) :
    View Φ (some ⟨b0, 0, none⟩) (ls.map (·.t)).length c0 1 (ls.map Lt.cell) ∧ Reps (BsRd Φ) (ls.map Lt.cell) (ls.map (·.t)) := by
  have hR := lents_reps (w0 := w0) (te := te) ls hok (fun w q => ((hM w q).tail).sublist (List.sublist_append_right _ _))
  have hv := lx_view hM hc hmx
  refine ⟨?_, hR.bs⟩
  exact View.pre (xs := ls.map (·.t)) hv (by simp) (by simp)
theorem lx_front {w0 w : World} {te2 te : TypeId} {m : List (BitVec 8)} {b0 : Nat} {r : List Value} {mks ls : List Lt} {i : Nat} {x : Lt} {X N : List Ent} (hx : ls[i]? = some x) (h : Mem w0 w (X ++ (lx te2 te m b0 r mks ls ++ N))) :
    Mem w0 w (x.ent te m :: ((X ++ ((some b0, blk (ls.map Lt.cell ++ (mks.map Lt.cell ++ r)) te2) :: lents te [] mks)) ++ (lents te m (ls.take i ++ ls.drop (i + 1)) ++ N))) :=
  lents_front hx (by rw [lx] at h; simpa [List.append_assoc] using h)
theorem lx_back {w0 w : World} {te2 te : TypeId} {m : List (BitVec 8)} {b0 : Nat} {r : List Value} {mks ls : List Lt} {i : Nat} {x y : Lt} {X N : List Ent} (hx : ls[i]? = some x) (hc : y.cell = x.cell) (h : Mem w0 w (y.ent te m :: ((X ++ ((some b0, blk (ls.map Lt.cell ++ (mks.map Lt.cell ++ r)) te2) :: lents te [] mks)) ++ (lents te m (ls.take i ++ ls.drop (i + 1)) ++ N)))) :
    Mem w0 w (X ++ (lx te2 te m b0 r mks (ls.set i y) ++ N)) := by
  obtain ⟨hi, rfl⟩ := List.getElem?_eq_some_iff.1 hx
  have h2 := lents_back hi h
  have e : (ls.set i y).map Lt.cell = ls.map Lt.cell := by
    rw [List.map_set, hc, ← List.getElem_map (f := Lt.cell) (h := by simpa using hi)]
    exact List.set_getElem_self (by simpa using hi)
  rw [lx, e]
  simpa [List.append_assoc] using h2
end Go.Fw
namespace Go.Fw
open Go
set_option linter.unusedVariables false
def restOf (w0 w : World) (E : List Ent) : List Ent := (allEnts w0 w).filter fun e => E.all fun x => decide (x.1 ≠ e.1)
theorem Mem.restOf {w0 w : World} {E : List Ent} (m : Mem w0 w E) : Mem w0 w (E ++ Go.Fw.restOf w0 w E) := by
  have ma := m.all
  have hf : ∀ e ∈ Go.Fw.restOf w0 w E, ∀ x ∈ E, x.1 ≠ e.1 := fun e he x hx => of_decide_eq_true (List.all_eq_true.1 (List.mem_filter.1 he).2 x hx)
  refine ⟨m.os, m.tape, m.output, m.size, m.old, fun e he b hb => ?_, List.pairwise_append.2 ⟨m.apart, ma.apart.sublist List.filter_sublist, fun x hx e he b h1 h2 => hf e he x hx (h1.trans h2.symm)⟩⟩
  rcases List.mem_append.1 he with he | he
  · exact m.ents e he b hb
  · exact ma.ents e (List.mem_filter.1 he).1 b hb
theorem Mem.unrest {w0 w w2 : World} {E N : List Ent} (mE : Mem w0 w E) (mN : Mem w0 w N) (m : Mem w0 w2 (E ++ Go.Fw.restOf w0 w E)) : Mem w0 w2 N := by
  refine ⟨m.os, m.tape, m.output, m.size, m.old, fun e he b hb => ?_, mN.apart⟩
  obtain ⟨h1, h2⟩ := mN.ents e he b hb
  refine ⟨h1, ?_⟩
  by_cases hE : ∃ x ∈ E, x.1 = some b
  · obtain ⟨x, hx, hxb⟩ := hE
    have q1 := (mE.ents x hx b hxb).2
    have q2 := (m.ents x (List.mem_append_left _ hx) b hxb).2
    rw [q2, ← q1, h2]
  · have hlt : b < w.heap.size := (Array.getElem?_eq_some_iff.1 h2).1
    have hall : ((some b, e.2) : Ent) ∈ allEnts w0 w := by
      refine List.mem_map.2 ⟨b - w0.heap.size, List.mem_range.2 (by omega), ?_⟩
      have e1 : w0.heap.size + (b - w0.heap.size) = b := by omega
      simp [e1, h2]
    have hin : ((some b, e.2) : Ent) ∈ Go.Fw.restOf w0 w E := List.mem_filter.2 ⟨hall, List.all_eq_true.2 fun x hx => decide_eq_true fun h => hE ⟨x, hx, h⟩⟩
    exact (m.ents _ (List.mem_append_right _ hin) b rfl).2
theorem DoesG.ro {P : Program} {f : FuncId} {args : List Value} {w0 : World} {E N : List Ent} {R : Value → Prop} (h : ∀ N0, DoesG P f args w0 E N0 (fun v G => R v ∧ G = E)) (hN : ∀ w, Mem w0 w N → Mem w0 w E) : DoesG P f args w0 [] N (fun v _ => R v) := fun w m => by
  have mE := hN w m
  refine (h (restOf w0 w E) w mE.restOf).mono ?_
  rintro e w2 ⟨q, ⟨G, ⟨h1, rfl⟩, h2⟩, h3, h4⟩
  have h4 : Mem w0 w2 q.2 := h4
  rw [h2] at h4
  exact ⟨(q.1, [] ++ N), ⟨[], h1, rfl⟩, h3, mE.unrest m h4⟩
end Go.Fw

/- Part of a proof: rules that its law uses. -/
import Derived.Test.YtogfjkomkpbjpaaDoorFwD
import Derived.Test.YtogfjkomkpbjpaaDoorLentP
namespace Go.Fw
open Go
set_option linter.unusedVariables false
def MkRd (m : List (BitVec 8)) (Φ : Ctx) (cs : List Value) (x : List (BitVec 8)) : Prop := ∃ A c, cs = [.slice A x.length c] ∧ View Φ A (x ++ m).length c 1 (u8s (x ++ m))
theorem MkRd.mono' {m : List (BitVec 8)} {Φ Ψ : Ctx} (hh : ∀ w, Ψ w → Φ w) (cs : List Value) (x : List (BitVec 8)) : MkRd m Φ cs x → MkRd m Ψ cs x := fun ⟨A, c, h1, h2⟩ => ⟨A, c, h1, h2.mono hh⟩
theorem MkRd.len' {m : List (BitVec 8)} {Φ : Ctx} (cs : List Value) (x : List (BitVec 8)) (h : MkRd m Φ cs x) : cs.length = 1 := by obtain ⟨A, c, rfl, _⟩ := h; rfl
theorem MkRd.bs' {m : List (BitVec 8)} {Φ : Ctx} (cs : List Value) (x : List (BitVec 8)) (h : MkRd m Φ cs x) : BsRd Φ cs x := by
  obtain ⟨A, c, h1, h2⟩ := h
  exact ⟨A, c, h1, MRoom.view h2⟩
abbrev MkRd02 : Ctx → List Value → List (BitVec 8) → Prop := MkRd (List.replicate 200 195#8)
theorem MkRd02.mono {Φ Ψ : Ctx} (hh : ∀ w, Ψ w → Φ w) (cs : List Value) (x : List (BitVec 8)) : MkRd02 Φ cs x → MkRd02 Ψ cs x := MkRd.mono' hh cs x
theorem MkRd02.len {Φ : Ctx} (cs : List Value) (x : List (BitVec 8)) (h : MkRd02 Φ cs x) : cs.length = 1 := MkRd.len' cs x h
abbrev MkRd03 : Ctx → List Value → List (BitVec 8) → Prop := MkRd (List.replicate 70 165#8)
theorem MkRd03.mono {Φ Ψ : Ctx} (hh : ∀ w, Ψ w → Φ w) (cs : List Value) (x : List (BitVec 8)) : MkRd03 Φ cs x → MkRd03 Ψ cs x := MkRd.mono' hh cs x
theorem MkRd03.len {Φ : Ctx} (cs : List Value) (x : List (BitVec 8)) (h : MkRd03 Φ cs x) : cs.length = 1 := MkRd.len' cs x h
def MRooms (m : List (BitVec 8)) (k : List (List (BitVec 8))) (Φ : Ctx) (A : Option Addr) (c : Nat) (x : List (List (BitVec 8))) : Prop :=
  ∃ cs mk : List Value, View Φ A (x ++ k).length c 1 (cs ++ mk) ∧ Reps (MkRd m Φ) cs x ∧ Reps (BsRd Φ) (cs ++ mk) (x ++ k)
theorem MRooms.mono {m : List (BitVec 8)} {k : List (List (BitVec 8))} {Φ Ψ : Ctx} {A : Option Addr} {c : Nat} {x : List (List (BitVec 8))} (h : MRooms m k Φ A c x) (hh : ∀ w, Ψ w → Φ w) : MRooms m k Ψ A c x := by
  obtain ⟨cs, mk, v, r, rb⟩ := h
  exact ⟨cs, mk, v.mono hh, r.mono (MkRd.mono' hh), rb.mono (BsRd.mono hh)⟩
structure Lt where
  b : Nat
  t : List (BitVec 8)
  c : Nat
  r : List Value
def Lt.ent (te : TypeId) (m : List (BitVec 8)) (x : Lt) : Ent := (some x.b, blk (u8s x.t ++ (u8s m ++ x.r)) te)
def Lt.cell (x : Lt) : Value := .slice (some ⟨x.b, 0, none⟩) x.t.length x.c
structure Lt.Ok (m : List (BitVec 8)) (x : Lt) : Prop where
  own : OwnS (some x.b) x.t.length x.c 1 (u8s x.t) (u8s m ++ x.r)
  mx : x.t.length + m.length ≤ 140737488355328
theorem Lt.mroom {w0 : World} {Φ : Ctx} {te : TypeId} {m : List (BitVec 8)} {x : Lt} (h : x.Ok m) (hM : ∀ w, Φ w → Mem w0 w [x.ent te m]) : View Φ (some ⟨x.b, 0, none⟩) (x.t ++ m).length x.c 1 (u8s (x.t ++ m)) := OwnS.mroom h.own hM h.mx
theorem Lt.mk_rd {w0 : World} {Φ : Ctx} {te : TypeId} {m : List (BitVec 8)} {x : Lt} (h : x.Ok m) (hM : ∀ w, Φ w → Mem w0 w [x.ent te m]) : MkRd m Φ [x.cell] x.t := ⟨_, _, rfl, x.mroom h hM⟩
def lents (te : TypeId) (m : List (BitVec 8)) (l : List Lt) : List Ent := l.map (Lt.ent te m)
theorem lents_reps {w0 : World} {Φ : Ctx} {te : TypeId} {m : List (BitVec 8)} : ∀ (l : List Lt), (∀ x ∈ l, x.Ok m) → (∀ w, Φ w → Mem w0 w (lents te m l)) → Reps (MkRd m Φ) (l.map Lt.cell) (l.map (·.t))
  | [], _, _ => .nil
  | x :: l, h, hM => by
    have h1 : Reps (MkRd m Φ) ([x.cell] ++ l.map Lt.cell) (x.t :: l.map (·.t)) := .cons (x.mk_rd (h x (List.mem_cons_self ..)) (fun w q => (hM w q).sublist (by rw [lents, List.map_cons]; exact List.singleton_sublist.2 (List.mem_cons_self ..)))) (lents_reps l (fun y hy => h y (List.mem_cons_of_mem _ hy)) (fun w q => (hM w q).tail))
    exact h1
theorem Reps.bs {m : List (BitVec 8)} {Φ : Ctx} {cs : List Value} {xs : List (List (BitVec 8))} (h : Reps (MkRd m Φ) cs xs) : Reps (BsRd Φ) cs xs := h.mono MkRd.bs'
theorem perm_mid2 (X A C : List Ent) (y : Ent) : (X ++ (A ++ y :: C)).Perm (y :: (X ++ (A ++ C))) := by
  have := List.perm_middle (l₁ := X ++ A) (a := y) (l₂ := C)
  simpa [List.append_assoc] using this
theorem lents_front {w0 w : World} {te : TypeId} {m : List (BitVec 8)} {l : List Lt} {i : Nat} {x : Lt} {X N : List Ent} (hx : l[i]? = some x) (h : Mem w0 w (X ++ (lents te m l ++ N))) : Mem w0 w (x.ent te m :: (X ++ (lents te m (l.take i ++ l.drop (i + 1)) ++ N))) := by
  obtain ⟨hi, rfl⟩ := List.getElem?_eq_some_iff.1 hx
  refine h.perm ?_
  have e : lents te m l = lents te m (l.take i) ++ (l[i].ent te m :: lents te m (l.drop (i + 1))) := by
    unfold lents
    rw [← List.map_cons, ← List.drop_eq_getElem_cons hi, ← List.map_append, List.take_append_drop]
  rw [e]
  have e2 : lents te m (l.take i ++ l.drop (i + 1)) = lents te m (l.take i) ++ lents te m (l.drop (i + 1)) := by simp [lents]
  rw [e2]
  simp only [List.append_assoc, List.cons_append]
  exact perm_mid2 X (lents te m (l.take i)) (lents te m (l.drop (i + 1)) ++ N) (l[i].ent te m)
theorem lents_back {w0 w : World} {te : TypeId} {m : List (BitVec 8)} {l : List Lt} {i : Nat} {y : Lt} {X N : List Ent} (hi : i < l.length) (h : Mem w0 w (y.ent te m :: (X ++ (lents te m (l.take i ++ l.drop (i + 1)) ++ N)))) : Mem w0 w (X ++ (lents te m (l.set i y) ++ N)) := by
  refine h.perm ?_
  have e : lents te m (l.set i y) = lents te m (l.take i) ++ (y.ent te m :: lents te m (l.drop (i + 1))) := by
    unfold lents
    rw [← List.map_cons, ← List.map_append, List.set_eq_take_append_cons_drop, if_pos hi]
  rw [e]
  have e2 : lents te m (l.take i ++ l.drop (i + 1)) = lents te m (l.take i) ++ lents te m (l.drop (i + 1)) := by simp [lents]
  rw [e2]
  simp only [List.append_assoc, List.cons_append]
  exact (perm_mid2 X (lents te m (l.take i)) (lents te m (l.drop (i + 1)) ++ N) (y.ent te m)).symm
theorem lents_snoc {w0 w : World} {te : TypeId} {m : List (BitVec 8)} {l : List Lt} {x : Lt} {X N : List Ent} (h : Mem w0 w (X ++ (x.ent te m :: (lents te m l ++ N)))) : Mem w0 w (X ++ (lents te m (l ++ [x]) ++ N)) := by
  refine h.perm ?_
  have e : lents te m (l ++ [x]) ++ N = lents te m l ++ (x.ent te m :: N) := by simp [lents]
  rw [e]
  exact List.Perm.append_left X (List.perm_middle.symm)
theorem lcell_len (l : List Lt) : (l.map Lt.cell).length = l.length := List.length_map ..
theorem set_rep {l : List Lt} {i n : Nat} {z : Value} (hl : l.length = i) (hi : i < n) (x : Lt) : (l.map Lt.cell ++ List.replicate (n - i) z).set (0 + i) x.cell = (l ++ [x]).map Lt.cell ++ List.replicate (n - (i + 1)) z := by
  rw [Nat.zero_add, List.set_append_right _ _ (by simp [hl]), List.length_map, hl, Nat.sub_self, show n - i = (n - (i + 1)) + 1 by omega, List.replicate_succ, List.set_cons_zero, List.map_append, List.append_assoc]
  rfl
def lx (te2 te : TypeId) (m : List (BitVec 8)) (b0 : Nat) (r : List Value) (mks ls : List Lt) : List Ent := (some b0, blk (ls.map Lt.cell ++ (mks.map Lt.cell ++ r)) te2) :: (lents te [] mks ++ lents te m ls)
theorem lx_view {w0 : World} {Φ : Ctx} {te2 te : TypeId} {m : List (BitVec 8)} {b0 c0 : Nat} {r : List Value} {mks ls : List Lt} (hM : ∀ w, Φ w → Mem w0 w (lx te2 te m b0 r mks ls)) (hc : ls.length + mks.length ≤ c0) (hmx : ls.length + mks.length ≤ 140737488355328) :
    View Φ (some ⟨b0, 0, none⟩) (ls.length + mks.length) c0 1 (ls.map Lt.cell ++ mks.map Lt.cell) :=
  ⟨fun w q => ⟨fun _ => rfl, fun j u hj => by
    show w.cell? ((⟨b0, 0, none⟩ : Addr).add j) = some u
    rw [Addr.add_none, (hM w q).cell (List.mem_cons_self ..), Nat.zero_add, ← List.append_assoc]
    rw [List.getElem?_append_left (List.getElem?_eq_some_iff.1 hj).1]; exact hj⟩, fun _ => rfl, by simp, hc, hmx⟩
theorem lx_rooms {w0 : World} {Φ : Ctx} {te2 te : TypeId} {m : List (BitVec 8)} {b0 c0 : Nat} {r : List Value} {mks ls : List Lt} (hok : ∀ x ∈ ls, x.Ok m) (hok2 : ∀ x ∈ mks, x.Ok []) (hM : ∀ w, Φ w → Mem w0 w (lx te2 te m b0 r mks ls)) (hc : ls.length + mks.length ≤ c0) (hmx : ls.length + mks.length ≤ 140737488355328) :
    MRooms m (mks.map (·.t)) Φ (some ⟨b0, 0, none⟩) c0 (ls.map (·.t)) := by
  have hR := lents_reps (w0 := w0) (te := te) ls hok (fun w q => ((hM w q).tail).sublist (List.sublist_append_right _ _))
  have hK := lents_reps (w0 := w0) (te := te) mks hok2 (fun w q => ((hM w q).tail).sublist (List.sublist_append_left _ _))
  refine ⟨ls.map Lt.cell, mks.map Lt.cell, ?_, hR, hR.bs.app hK.bs⟩
  have hv := lx_view hM hc hmx
  rw [List.length_append, List.length_map, List.length_map]
  exact hv
theorem lx_list {w0 : World} {Φ : Ctx} {te2 te : TypeId} {m : List (BitVec 8)} {b0 c0 : Nat} {r : List Value} {mks ls : List Lt} (hok : ∀ x ∈ ls, x.Ok m) (hM : ∀ w, Φ w → Mem w0 w (lx te2 te m b0 r mks ls)) (hc : ls.length + mks.length ≤ c0) (hmx : ls.length + mks.length ≤ 140737488355328) :
    View Φ (some ⟨b0, 0, none⟩) (ls.map (·.t)).length c0 1 (ls.map Lt.cell) ∧ Reps (BsRd Φ) (ls.map Lt.cell) (ls.map (·.t)) := by
  have hR := lents_reps (w0 := w0) (te := te) ls hok (fun w q => ((hM w q).tail).sublist (List.sublist_append_right _ _))
  have hv := lx_view hM hc hmx
  refine ⟨?_, hR.bs⟩
  exact View.pre (xs := ls.map (·.t)) hv (by simp) (by simp)
theorem lx_front {w0 w : World} {te2 te : TypeId} {m : List (BitVec 8)} {b0 : Nat} {r : List Value} {mks ls : List Lt} {i : Nat} {x : Lt} {X N : List Ent} (hx : ls[i]? = some x) (h : Mem w0 w (X ++ (lx te2 te m b0 r mks ls ++ N))) :
    Mem w0 w (x.ent te m :: ((X ++ ((some b0, blk (ls.map Lt.cell ++ (mks.map Lt.cell ++ r)) te2) :: lents te [] mks)) ++ (lents te m (ls.take i ++ ls.drop (i + 1)) ++ N))) :=
  lents_front hx (by rw [lx] at h; simpa [List.append_assoc] using h)
theorem lx_back {w0 w : World} {te2 te : TypeId} {m : List (BitVec 8)} {b0 : Nat} {r : List Value} {mks ls : List Lt} {i : Nat} {x y : Lt} {X N : List Ent} (hx : ls[i]? = some x) (hc : y.cell = x.cell) (h : Mem w0 w (y.ent te m :: ((X ++ ((some b0, blk (ls.map Lt.cell ++ (mks.map Lt.cell ++ r)) te2) :: lents te [] mks)) ++ (lents te m (ls.take i ++ ls.drop (i + 1)) ++ N)))) :
    Mem w0 w (X ++ (lx te2 te m b0 r mks (ls.set i y) ++ N)) := by
  obtain ⟨hi, rfl⟩ := List.getElem?_eq_some_iff.1 hx
  have h2 := lents_back hi h
  have e : (ls.set i y).map Lt.cell = ls.map Lt.cell := by
    rw [List.map_set, hc, ← List.getElem_map (f := Lt.cell) (h := by simpa using hi)]
    exact List.set_getElem_self (by simpa using hi)
  rw [lx, e]
  simpa [List.append_assoc] using h2
end Go.Fw

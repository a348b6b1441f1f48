/- Part of a proof: rules that its law uses. -/
import Derived.Test.YtojnakdlnlcmiaaDoorT2
namespace Go.Fw
open Go Go.RowKit
set_option linter.unusedVariables false
set_option linter.unusedSectionVars false
section
variable {P : Program} [Types P] {n : Nat} {Q : Exit → Act → World → Prop} {w0 : World} {L : Slots} {M : List Ent}
variable {ops : Array Oper} {rest : List Oper} {ty1 : TypeId} {pos : String} {aft : Array Edge} {d : Nat} {v : Value} {x y : Operand} {t e : TypeId}
theorem OW.appendIn {i : TI} {b : Nat} {len cap m c s : Nat} {l r vs : List Value} {B : Option Addr} {t2 e2 : TypeId} (hx : ev L x = some (sl (some b) 0 len cap)) (hy : ev L y = some (.slice B m c)) (ht : tyU P t = some (.slice e)) (hi : ty P e = some i) (hs : i.sz = s) (ht2 : tyU P t2 = some (.slice e2))
    (hl : l.length = len * s) (hr : (l ++ r).length = cap * s) (hR : Mem.Says w0 ((some b, blk (l ++ r) e) :: M) (fun w => Rd w B vs)) (hvl : vs.length = m * s) (hv1 : ∀ u ∈ vs, u.oneCell' = true) (hB : B = none → m = 0) (hspos : 0 < s)
    (hroom : len + m ≤ cap) (hd : Nat.blt d n = true)
    (k : OW P n ops Q w0 rest ((d, sl (some b) 0 (len + m) cap) :: L) ((some b, blk (l ++ vs ++ r.drop vs.length) e) :: M)) :
    OW P n ops Q w0 (⟨some d, .call ⟨.builtin .append, #[x, y], #[t, t2]⟩, ty1, pos, aft, none⟩ :: rest) L ((some b, blk (l ++ r) e) :: M) := by
  refine OW.av (τ := Unit) (I := fun _ => True) (v := fun _ => sl (some b) 0 (len + m) cap) (M' := fun _ => (some b, blk (l ++ vs ++ r.drop vs.length) e) :: M) (fun ρ w hρ mm o ho => ?_) hd (fun _ _ => k)
  obtain ⟨hu, ti, g1, g2, g3, g4⟩ := ty_ok hi
  have hrd := hR w mm
  have hsrc : Src P ti.size t2 (.slice B m c) m vs w := by rw [g2, hs]; exact rd_src ht2 hrd hvl hv1 hB
  have hrun : ∀ (v' : Value) (w' : World), (Builtin.append_ #[t, t2] o.type #[sl (some b) 0 len cap, .slice B m c]).run P w = .ok v' w' → (execOp ρ o).run P w = .ok (.value v') w' := fun v' w' hh => by
    simp [execOp, ho, resolve, hρ x _ hx, hρ y _ hy, invoke, builtin, hh]
  have hsz : ti.size = s := by rw [g2, hs]
  have hm := mm.ents _ (List.mem_cons_self ..) b rfl
  have hlen : l.length + vs.length ≤ (l ++ r).length := by rw [hl, hvl, hr, ← Nat.add_mul]; exact Nat.mul_le_mul_right _ hroom
  have hra := run_append_room_src (P := P) w t t2 o.type e ti (tyU_ok ht) g1 b 0 len cap (.slice B m c) m vs hsrc hroom (fun j hj => by
      rw [mm.cell (List.mem_cons_self ..), hsz]
      have : 0 + len * s + j < (l ++ r).length := by omega
      rw [List.getElem?_eq_getElem this]; rfl) (fun j hj => mm.notFrozen (List.mem_cons_self ..) _)
  rw [hsz] at hra
  have hset : w.setCells b (0 + len * s) vs = w.setRow b ((l ++ r).toArray.toList.take (0 + len * s) ++ vs ++ (l ++ r).toArray.toList.drop (0 + len * s + vs.length)).toArray := by
    have q1 := run_storeCells_at (P := P) b (0 + len * s) e vs 0 (l ++ r).toArray w hm.2 (by simp; simp at hlen; omega) hv1
    have q2 := run_storeCells_cells (P := P) b (0 + len * s) vs 0 w (fun j hj => by
      rw [mm.cell (List.mem_cons_self ..)]
      have : 0 + len * s + 0 + j < (l ++ r).length := by omega
      rw [List.getElem?_eq_getElem this]; rfl) (fun j hj => mm.notFrozen (List.mem_cons_self ..) _) hv1
    rw [q1] at q2
    simp only [Nat.add_zero] at q2
    injection q2 with _ q3
    exact q3.symm
  rw [hset] at hra
  refine ⟨(), _, trivial, hrun _ _ (by simpa [sl] using hra), mm.turned (w' := w.setRow b _) rfl rfl rfl (by simp [World.setRow]) ?_ ?_⟩
  · intro b' hb'
    cases hb'
    rw [setRow_heap w b (l ++ r).toArray _ e (0, 0) hm.2]
    simp only [blk]
    simp [← hl, List.drop_append]
  · intro kk hk
    exact setRow_other _ _ _ _ (fun e => hk (by rw [e]))
def Grw (tb : Option Nat) (l : List Value) (rl : Nat) (e : TypeId) (ob : Option Nat) (cur r : List Value) (X : List Ent) : Prop :=
  (ob = tb ∧ X = [] ∧ ∃ ex : List Value, cur = l ++ ex ∧ ex.length + r.length = rl) ∨ (∃ tr : List Value, tr.length = rl ∧ X = [(tb, blk (l ++ tr) e)])
theorem Grw.start (tb : Option Nat) (l r : List Value) (e : TypeId) : Grw tb l r.length e tb l r [] := .inl ⟨rfl, rfl, [], by simp, by simp⟩
theorem Grw.fin {tb ob : Option Nat} {l cur r : List Value} {rl : Nat} {e : TypeId} {X : List Ent} (h : Grw tb l rl e ob cur r X) : ∃ tr : List Value, tr.length = rl ∧ ∀ (w0 w : World) (K : List Ent), Mem w0 w ((ob, blk (cur ++ r) e) :: (X ++ K)) → Mem w0 w ((tb, blk (l ++ tr) e) :: K) := by
  rcases h with ⟨rfl, rfl, ex, rfl, hl⟩ | ⟨tr, hl, rfl⟩
  · exact ⟨ex ++ r, by rw [List.length_append]; exact hl, fun w0 w K m => by rw [List.append_assoc] at m; exact m⟩
  · exact ⟨tr, hl, fun w0 w K m => m.tail⟩
theorem OW.appendGw {i : TI} {tb ob : Option Nat} {l0 cur r vs : List Value} {rl : Nat} {X : List Ent} {len cap m c s : Nat} {B : Option Addr} {t2 e2 : TypeId} (hG : Grw tb l0 rl e ob cur r X) (hO : OwnS ob len cap s cur r)
    (hx : ev L x = some (sl ob 0 len cap)) (hy : ev L y = some (.slice B m c)) (ht : tyU P t = some (.slice e)) (hi : ty P e = some i) (hs : i.sz = s) (ht2 : tyU P t2 = some (.slice e2))
    (hR : Mem.Says w0 ((ob, blk (cur ++ r) e) :: (X ++ M)) (fun w => Rd w B vs)) (hvl : vs.length = m * s) (hv1 : ∀ u ∈ vs, u.oneCell' = true) (hB : B = none → m = 0) (hspos : 0 < s) (hm0 : 0 < m)
    (hby : 0 < i.bytes) (hb : (len + m) * i.bytes ≤ 140737488355328) (hz : i.z.cells.size = s) (hd : Nat.blt d n = true) (len' : Nat) (l' : List Value) (hlen : len + m = len') (hcs : cur ++ vs = l')
    (k : ∀ (ob' : Option Nat) (r' : List Value) (cap' : Nat) (X' : List Ent), Grw tb l0 rl e ob' l' r' X' → OwnS ob' len' cap' s l' r' → OW P n ops Q w0 rest ((d, sl ob' 0 len' cap') :: L) ((ob', blk (l' ++ r') e) :: (X' ++ M))) :
    OW P n ops Q w0 (⟨some d, .call ⟨.builtin .append, #[x, y], #[t, t2]⟩, ty1, pos, aft, none⟩ :: rest) L ((ob, blk (cur ++ r) e) :: (X ++ M)) := by
  have hm : len + m ≤ (len + m) * i.bytes := Nat.le_mul_of_pos_right _ hby
  have hle := hO.le hspos
  subst hlen hcs
  by_cases hroom : len + m ≤ cap
  · cases ob with
    | none => have := hO.hn rfl; omega
    | some b =>
      have h1 := hO.n
      have h2 := hO.hr
      have h3 : vs.length ≤ r.length := by
        rw [List.length_append] at h2
        have := Nat.mul_le_mul_right s hroom
        rw [Nat.add_mul] at this
        omega
      refine OW.appendIn hx hy ht hi hs ht2 hO.n hO.hr hR hvl hv1 hB hspos hroom hd (k (some b) (r.drop vs.length) cap X ?_ ⟨by rw [List.length_append, h1, hvl, Nat.add_mul], by rw [← h2]; simp; omega, (fun h => nomatch h), by omega⟩)
      rcases hG with ⟨g1, g2, ex, g3, g4⟩ | ⟨tr, g1, g2⟩
      · exact .inl ⟨g1, g2, ex ++ vs, by rw [g3, List.append_assoc], by rw [List.length_append, List.length_drop]; omega⟩
      · exact .inr ⟨tr, g1, g2⟩
  · refine OW.appendG (A := ob.map fun k => ⟨k, 0, none⟩) hx hy ht hi hs ht2 hO.n (fun w mm => ?_) (fun h => ?_) hR hvl hv1 hB (by omega) (by omega) hb hz hd (fun b' r' cap' hc => ?_)
    · exact ((hO.view (te := e) (w0 := w0) (Ψ := fun w => Mem w0 w ((ob, blk (cur ++ r) e) :: (X ++ M))) hspos (fun w q => q.sublist (List.singleton_sublist.2 (List.mem_cons_self ..)))).rd w mm)
    · have : ob = none := by cases ob <;> simp_all
      have := hO.hn this
      omega
    · have hown : OwnS (some b') (len + m) cap' s (cur ++ vs) r' := ⟨by rw [List.length_append, hO.n, hvl, Nat.add_mul], hc, (fun h => nomatch h), by omega⟩
      rcases hG with ⟨g1, g2, ex, g3, g4⟩ | ⟨tr, g1, g2⟩
      · subst g1 g2 g3
        refine OW.mem (M' := (some b', blk (l0 ++ ex ++ vs ++ r') e) :: ([(ob, blk (l0 ++ (ex ++ r)) e)] ++ M)) (fun w m => by rw [List.append_assoc l0 ex r] at m; exact m) ?_
        exact k (some b') r' cap' [(ob, blk (l0 ++ (ex ++ r)) e)] (.inr ⟨ex ++ r, by rw [List.length_append]; exact g4, rfl⟩) hown
      · subst g2
        refine OW.mem (M' := (some b', blk (cur ++ vs ++ r') e) :: ([(tb, blk (l0 ++ tr) e)] ++ M)) (fun w m => m.pick [0, 2] 3 rfl rfl) ?_
        exact k (some b') r' cap' _ (.inr ⟨tr, g1, rfl⟩) hown
end
theorem Mem.swapX {w0 w : World} {a b : Ent} {X Y K : List Ent} (m : Mem w0 w (a :: (X ++ (b :: (Y ++ K))))) : Mem w0 w (b :: (Y ++ (a :: (X ++ K)))) :=
  m.perm (by
    have h := List.perm_append_comm_assoc (a :: X) (b :: Y) K
    simpa only [List.cons_append] using h)
end Go.Fw
namespace Go.Fw
set_option linter.unusedVariables false
set_option maxRecDepth 100000
def waybilllaw17_stand.l2 (a0 : List (Log)) (a1 : BitVec 8) (n9 : Nat) : Nat → (Nat) → Option (Lp (Lp ((Bool)) (Unit)) (Unit))
  | 0, _ => none
  | k35 + 1, n33 => (a0[n9]?).bind fun x42 => (if n33 < x42.data.length then (a0[n9]?).bind fun x61 => (x61.data[n33]?).bind fun x79 => (if x79 = (a1 + (BitVec.ofNat 8 (n9 % 8))) then (waybilllaw17_stand.l2 a0 a1 n9 k35 (n33 + 1)) else (some (Lp.ret (some (Lp.ret (some false)))))) else (some (Lp.go ())))
def waybilllaw17_stand.l3 (a0 : List (Log)) (a1 : BitVec 8) (n9 : Nat) : Nat → (Nat) → Option (Lp (Lp ((Bool)) (Unit)) (Unit))
  | 0, _ => none
  | k85 + 1, n83 => (a0[n9]?).bind fun x92 => (if n83 < x92.topics.length then (a0[n9]?).bind fun x111 => (x111.topics[n83]?).bind fun x129 => (if x129 = ((((Vector.replicate 32 0#8).setIfInBounds 0 a1).setIfInBounds 1 (BitVec.ofNat 8 n9)).setIfInBounds 2 (BitVec.ofNat 8 (n9 / 256))) then (waybilllaw17_stand.l3 a0 a1 n9 k85 (n83 + 1)) else (some (Lp.ret (some (Lp.ret (some false)))))) else (some (Lp.go ())))
def waybilllaw17_stand.l1 (a0 : List (Log)) (a1 : BitVec 8) : Nat → (Nat) → Option (Lp ((Bool)) (Unit))
  | 0, _ => none
  | k11 + 1, n9 => (if n9 < a0.length then (((waybilllaw17_stand.l3 a0 a1 n9 (((a0[n9]?)).elim 2 fun x87 => (x87.topics.length - 0 + 2)) 0) : Option (Lp (Lp ((Bool)) (Unit)) (Unit))).bind fun | .ret o => o | .go () => (((waybilllaw17_stand.l2 a0 a1 n9 (((a0[n9]?)).elim 2 fun x37 => (x37.data.length - 0 + 2)) 0) : Option (Lp (Lp ((Bool)) (Unit)) (Unit))).bind fun | .ret o => o | .go () => (waybilllaw17_stand.l1 a0 a1 k11 (n9 + 1)))) else (some (Lp.go ())))
def waybilllaw17_stand (a0 : List (Log)) (a1 : BitVec 8) : Option ((Bool)) := (((waybilllaw17_stand.l1 a0 a1 (a0.length - 0 + 2) 0) : Option (Lp ((Bool)) (Unit))).bind fun | .ret o => o | .go () => (some true))
end Go.Fw
namespace Go.Fw
open Go
set_option linter.unusedVariables false
set_option linter.unusedSimpArgs false
set_option maxRecDepth 10000
def wh (mark : BitVec 8) (i : Nat) : Vector (BitVec 8) 32 := ((((Vector.replicate 32 0#8).setIfInBounds 0 mark).setIfInBounds 1 (BitVec.ofNat 8 i)).setIfInBounds 2 (BitVec.ofNat 8 (i / 256)))
def wd (mark : BitVec 8) (i : Nat) : BitVec 8 := mark + BitVec.ofNat 8 (i % 8)
def gh (mark : BitVec 8) (j : BitVec 8) : Vector (BitVec 8) 32 := ((Vector.replicate 32 0#8).setIfInBounds 0 (mark + 9#8)).setIfInBounds 1 j
structure SameG (gs hs : List Lg) : Prop where
  c : lgC hs = lgC gs
  n : hs.length = gs.length
  ok : ∀ g ∈ hs, g.Ok
def Wrt (mark : BitVec 8) (j : Nat) (hs : List Lg) : Prop := ∀ (k : Nat) g, hs[k]? = some g → k < j → (∀ x ∈ g.t, x = wh mark k) ∧ ∀ y ∈ g.d, y = wd mark k
theorem lgs_split {tH tB : TypeId} {g : Lg} : ∀ {l : List Lg} {i : Nat}, l[i]? = some g → List.Perm (lgs tH tB l) (g.ents tH tB ++ lgs tH tB (l.eraseIdx i))
  | [], i, h => by simp at h
  | x :: l, 0, h => by
    simp at h
    subst h
    exact List.Perm.refl _
  | x :: l, i + 1, h => by
    have h1 := lgs_split (tH := tH) (tB := tB) (l := l) (i := i) (by simpa using h)
    rw [List.eraseIdx_cons_succ, lgs_cons, lgs_cons]
    exact (List.Perm.append_left _ h1).trans (List.perm_append_comm_assoc ..)
theorem lgs_join {tH tB : TypeId} {g : Lg} {l : List Lg} {i : Nat} (hi : i < l.length) : List.Perm (g.ents tH tB ++ lgs tH tB (l.eraseIdx i)) (lgs tH tB (l.set i g)) := by
  have h := lgs_split (tH := tH) (tB := tB) (l := l.set i g) (i := i) (g := g) (by rw [List.getElem?_set_self hi])
  rw [List.eraseIdx_set_eq] at h
  exact h.symm
theorem lgC_set {g g' : Lg} (hc : g'.cells = g.cells) : ∀ {l : List Lg} {i : Nat}, l[i]? = some g → lgC (l.set i g') = lgC l
  | [], i, h => by simp at h
  | x :: l, 0, h => by
    simp at h
    subst h
    rw [List.set_cons_zero, lgC, List.flatMap_cons, hc]; rfl
  | x :: l, i + 1, h => by
    have h1 := lgC_set hc (l := l) (i := i) (by simpa using h)
    rw [List.set_cons_succ, lgC, List.flatMap_cons, show (l.set i g').flatMap Lg.cells = lgC l from h1]; rfl
theorem Mem.outG {w0 w : World} {tH tB : TypeId} {a : Ent} {l : List Lg} {i : Nat} {g : Lg} {N : List Ent} (h : l[i]? = some g) (m : Mem w0 w (a :: (lgs tH tB l ++ N))) : Mem w0 w ((g.tb, blk (hs32 g.t ++ g.tr) tH) :: (g.db, blk (u8s g.d ++ g.dr) tB) :: a :: (lgs tH tB (l.eraseIdx i) ++ N)) := by
  refine m.perm ?_
  have h1 := List.Perm.append_right N (lgs_split (tH := tH) (tB := tB) h)
  have h2 : List.Perm (a :: (lgs tH tB l ++ N)) (a :: (g.tb, blk (hs32 g.t ++ g.tr) tH) :: (g.db, blk (u8s g.d ++ g.dr) tB) :: (lgs tH tB (l.eraseIdx i) ++ N)) := List.Perm.cons _ h1
  refine h2.trans ?_
  refine (List.Perm.swap ..).trans (List.Perm.cons _ (List.Perm.swap ..))
theorem Mem.inG {w0 w : World} {tH tB : TypeId} {a : Ent} {l : List Lg} {i : Nat} {g : Lg} {N : List Ent} (hi : i < l.length) (m : Mem w0 w ((g.tb, blk (hs32 g.t ++ g.tr) tH) :: (g.db, blk (u8s g.d ++ g.dr) tB) :: a :: (lgs tH tB (l.eraseIdx i) ++ N))) : Mem w0 w (a :: (lgs tH tB (l.set i g) ++ N)) := by
  refine m.perm ?_
  have h1 := List.Perm.append_right N (lgs_join (tH := tH) (tB := tB) (g := g) hi)
  have h2 : List.Perm (a :: (g.tb, blk (hs32 g.t ++ g.tr) tH) :: (g.db, blk (u8s g.d ++ g.dr) tB) :: (lgs tH tB (l.eraseIdx i) ++ N)) (a :: (lgs tH tB (l.set i g) ++ N)) := List.Perm.cons _ h1
  refine List.Perm.trans ?_ h2
  exact (List.Perm.cons _ (List.Perm.swap ..)).trans (List.Perm.swap ..)
theorem spl_seg {a y b x : List Value} {o : Nat} (ho : o = a.length) (h : y.length = x.length) : spl (a ++ (y ++ b)) o x = a ++ (x ++ b) := by
  subst ho
  unfold spl
  rw [List.take_append_of_le_length (Nat.le_refl _), List.take_length, ← List.append_assoc, List.drop_append, List.drop_of_length_le (by rw [List.length_append]; omega), List.length_append, h, Nat.sub_self, List.drop_zero, List.nil_append, List.append_assoc]
theorem hs32_set {t : List (Vector (BitVec 8) 32)} {k : Nat} (hk : k < t.length) (x : Vector (BitVec 8) 32) (r : List Value) : spl (hs32 t ++ r) (0 + k * 32) (u8s x.toList) = hs32 (t.set k x) ++ r := by
  have hx : (u8s x.toList).length = 32 := (u8s_length _).trans Vector.length_toList
  have e1 : t = t.take k ++ (t[k] :: t.drop (k + 1)) := by rw [← List.drop_eq_getElem_cons hk, List.take_append_drop]
  have e2 : t.set k x = t.take k ++ (x :: t.drop (k + 1)) := List.set_eq_take_append_cons_drop .. |>.trans (if_pos hk)
  have hl : (hs32 (t.take k)).length = k * 32 := by rw [hs32_length, List.length_take, Nat.min_eq_left (by omega)]
  have hy : (u8s (t[k]).toList).length = 32 := (u8s_length _).trans Vector.length_toList
  have e3 : hs32 t = hs32 (t.take k) ++ (u8s (t[k]).toList ++ hs32 (t.drop (k + 1))) := (congrArg hs32 e1).trans (by rw [hs32_app]; rfl)
  have e4 : hs32 (t.set k x) = hs32 (t.take k) ++ (u8s x.toList ++ hs32 (t.drop (k + 1))) := by rw [e2, hs32_app]; rfl
  rw [e3, e4, List.append_assoc, List.append_assoc, List.append_assoc, List.append_assoc]
  exact spl_seg (by omega) (by omega)
theorem setG_at {α : Type} {l : List α} {i q : Nat} {a x : α} (h : (l.set i a)[q]? = some x) : (q = i ∧ x = a) ∨ (q ≠ i ∧ l[q]? = some x) := by
  by_cases e : q = i
  · subst e
    have hl := (List.getElem?_eq_some_iff.1 h).1
    rw [List.length_set] at hl
    rw [List.getElem?_set_self hl] at h
    exact .inl ⟨rfl, (Option.some.inj h).symm⟩
  · rw [List.getElem?_set_ne (fun h => e h.symm)] at h
    exact .inr ⟨e, h⟩
theorem Mem.moveX {w0 w : World} {a b : Ent} {X K : List Ent} (m : Mem w0 w (b :: a :: (X ++ K))) : Mem w0 w (a :: (X ++ (b :: K))) :=
  m.perm ((List.Perm.swap ..).trans (List.Perm.cons _ List.perm_middle.symm))
theorem Mem.dropX {w0 w : World} {a b : Ent} {X K : List Ent} (m : Mem w0 w (a :: (X ++ (b :: K)))) : Mem w0 w (a :: (X ++ K)) :=
  m.sublist (List.Sublist.cons_cons _ (List.Sublist.append (List.Sublist.refl _) (List.sublist_cons_self ..)))
theorem stand2 (l : List Log) (mark : BitVec 8) (i : Nat) (x : Log) (hx : l[i]? = some x) (hd : ∀ y ∈ x.data, y = wd mark i) : ∀ (d j k : Nat), j + d = x.data.length → d < k → waybilllaw17_stand.l2 l mark i k j = some (Lp.go ())
  | 0, j, k, h, hk => by
    obtain ⟨k, rfl⟩ : ∃ m, k = m + 1 := ⟨k - 1, by omega⟩
    rw [waybilllaw17_stand.l2, hx, Option.bind_some, if_neg (by omega)]
  | d + 1, j, k, h, hk => by
    obtain ⟨k, rfl⟩ : ∃ m, k = m + 1 := ⟨k - 1, by omega⟩
    have h1 : j < x.data.length := by omega
    rw [waybilllaw17_stand.l2, hx, Option.bind_some, if_pos h1, Option.bind_some, List.getElem?_eq_getElem h1, Option.bind_some, if_pos (show _ = mark + BitVec.ofNat 8 (i % 8) from hd _ (List.getElem_mem h1)), stand2 l mark i x hx hd d (j + 1) k (by omega) (by omega)]
theorem stand3 (l : List Log) (mark : BitVec 8) (i : Nat) (x : Log) (hx : l[i]? = some x) (hd : ∀ y ∈ x.topics, y = wh mark i) : ∀ (d j k : Nat), j + d = x.topics.length → d < k → waybilllaw17_stand.l3 l mark i k j = some (Lp.go ())
  | 0, j, k, h, hk => by
    obtain ⟨k, rfl⟩ : ∃ m, k = m + 1 := ⟨k - 1, by omega⟩
    rw [waybilllaw17_stand.l3, hx, Option.bind_some, if_neg (by omega)]
  | d + 1, j, k, h, hk => by
    obtain ⟨k, rfl⟩ : ∃ m, k = m + 1 := ⟨k - 1, by omega⟩
    have h1 : j < x.topics.length := by omega
    rw [waybilllaw17_stand.l3, hx, Option.bind_some, if_pos h1, Option.bind_some, List.getElem?_eq_getElem h1, Option.bind_some, if_pos (show _ = ((((Vector.replicate 32 0#8).setIfInBounds 0 mark).setIfInBounds 1 (BitVec.ofNat 8 i)).setIfInBounds 2 (BitVec.ofNat 8 (i / 256))) from hd _ (List.getElem_mem h1)), stand3 l mark i x hx hd d (j + 1) k (by omega) (by omega)]
theorem stand1 (l : List Log) (mark : BitVec 8) (h : ∀ (k : Nat) x, l[k]? = some x → (∀ t ∈ x.topics, t = wh mark k) ∧ ∀ y ∈ x.data, y = wd mark k) : ∀ (d i k : Nat), i + d = l.length → d < k → waybilllaw17_stand.l1 l mark k i = some (Lp.go ())
  | 0, i, k, he, hk => by
    obtain ⟨k, rfl⟩ : ∃ m, k = m + 1 := ⟨k - 1, by omega⟩
    rw [waybilllaw17_stand.l1, if_neg (by omega)]
  | d + 1, i, k, he, hk => by
    obtain ⟨k, rfl⟩ : ∃ m, k = m + 1 := ⟨k - 1, by omega⟩
    have h1 : i < l.length := by omega
    have hx : l[i]? = some l[i] := List.getElem?_eq_getElem h1
    obtain ⟨h2, h3⟩ := h i _ hx
    rw [waybilllaw17_stand.l1, if_pos h1, hx, Option.elim_some, stand3 l mark i _ hx h2 (l[i]).topics.length 0 _ (by omega) (by omega), Option.bind_some]
    dsimp only
    rw [Option.elim_some, stand2 l mark i _ hx h3 (l[i]).data.length 0 _ (by omega) (by omega), Option.bind_some]
    dsimp only
    exact stand1 l mark h d (i + 1) k (by omega) (by omega)
theorem stand_true (l : List Log) (mark : BitVec 8) (h : ∀ (k : Nat) x, l[k]? = some x → (∀ t ∈ x.topics, t = wh mark k) ∧ ∀ y ∈ x.data, y = wd mark k) : waybilllaw17_stand l mark = some true := by
  unfold waybilllaw17_stand
  rw [stand1 l mark h l.length 0 _ (by omega) (by omega), Option.bind_some]
theorem Wrt.stand {mark : BitVec 8} {hs : List Lg} (h : Wrt mark hs.length hs) : waybilllaw17_stand (hs.map Lg.val) mark = some true :=
  stand_true _ _ fun k x hx => by
    rw [List.getElem?_map] at hx
    obtain ⟨g, hg, rfl⟩ := Option.map_eq_some_iff.1 hx
    exact h k g hg (List.getElem?_eq_some_iff.1 hg).1
theorem SameG.own {gs hs : List Lg} {ob : Option Nat} {c : Nat} {r : List Value} (h : SameG gs hs) (o : OwnS ob gs.length c 22 (lgC gs) r) : OwnS ob hs.length c 22 (lgC hs) r := by rw [h.n, h.c]; exact o
theorem lens_fit {gs hs : List Lg} (hl : hs.map (fun g => (g.t.length, g.d.length)) = gs.map (fun g => (g.t.length, g.d.length))) (h : ∀ g ∈ gs, (g.t.length + 101) * 32 ≤ 140737488355328 ∧ g.d.length + 100 ≤ 140737488355328) : ∀ g ∈ hs, (g.t.length + 101) * 32 ≤ 140737488355328 ∧ g.d.length + 100 ≤ 140737488355328 := fun g hg => by
  have h1 : (g.t.length, g.d.length) ∈ gs.map (fun g => (g.t.length, g.d.length)) := by rw [← hl]; exact List.mem_map.2 ⟨g, hg, rfl⟩
  obtain ⟨q, hq, e⟩ := List.mem_map.1 h1
  have h2 := h q hq
  obtain ⟨e1, e2⟩ := Prod.mk.inj e
  rw [← e1, ← e2]; exact h2
end Go.Fw
namespace Go.Fw
set_option linter.unusedVariables false
set_option maxRecDepth 100000
def waybillref17_text (a0 : List (BitVec 8)) : Option ((It)) := (some (It.mk false a0 ([] : List (It))))
def waybillref17_BloomOf.l2 (a0 : List (Log)) (n34 : Nat) : Nat → (List (List (BitVec 8))) → (Nat) → Option ((List (List (BitVec 8))))
  | 0, _, _ => none
  | k130 + 1, l121, n128 => (a0[n34]?).bind fun x138 => (if n128 < x138.topics.length then (a0[n34]?).bind fun x157 => (x157.topics[n128]?).bind fun x175 => ((waybillref17_text x175.toList).bind fun x186 => (if (l121.length + ([x186.data] : List (List (BitVec 8))).length) * 24 ≤ 140737488355328 then (waybillref17_BloomOf.l2 a0 n34 k130 (l121 ++ ([x186.data] : List (List (BitVec 8)))) (n128 + 1)) else none)) else (some (l121)))
def waybillref17_BloomOf.l1 (a0 : List (Log)) : Nat → (List (List (BitVec 8))) → (Nat) → Option ((List (List (BitVec 8))))
  | 0, _, _ => none
  | k36 + 1, l27, n34 => (if n34 < a0.length then (a0[n34]?).bind fun x45 => ((waybillref17_text x45.address.toList).bind fun x68 => (if (l27.length + ([x68.data] : List (List (BitVec 8))).length) * 24 ≤ 140737488355328 then (((waybillref17_BloomOf.l2 a0 n34 (((a0[n34]?)).elim 2 fun x132 => (x132.topics.length - 0 + 2)) (l27 ++ ([x68.data] : List (List (BitVec 8)))) 0) : Option ((List (List (BitVec 8))))).bind fun l106 => (waybillref17_BloomOf.l1 a0 k36 l106 (n34 + 1))) else none)) else (some (l27)))
def waybillref17_BloomOf (a0 : List (Log)) : Option ((Vector (BitVec 8) 256)) := (((waybillref17_BloomOf.l1 a0 (a0.length - 0 + 2) ([] : List (List (BitVec 8))) 0) : Option ((List (List (BitVec 8))))).bind fun l7 => ((waybillref10_Of l7).bind fun x22 => (some x22)))
def waybillref17_Check.l1 (a0 : Rcpt) : Nat → (Nat) → Option (Lp ((Nat)) (Unit))
  | 0, _ => none
  | k52 + 1, n50 => (if n50 < a0.logs.length then (a0.logs[n50]?).bind fun x60 => (if 4 < x60.topics.length then (some (Lp.ret (some 174))) else (waybillref17_Check.l1 a0 k52 (n50 + 1))) else (some (Lp.go ())))
def waybillref17_Check (a0 : Rcpt) : Option ((Nat)) := (((if a0.kind < (0 : Int) then (some (true)) else (some ((decide ((4 : Int) < a0.kind))))) : Option ((Bool))).bind fun p13 => (if p13 = true then (some 170) else (((if a0.rooted = true then (if a0.kind = (0 : Int) then (some ((!decide (a0.status = 0#64)))) else (some (true))) else (some (false))) : Option ((Bool))).bind fun p22 => (if p22 = true then (some 172) else (((if a0.rooted = true then (some (false)) else (if a0.root = (Vector.replicate 32 0#8) then (some ((decide (1 < a0.status.toNat)))) else (some (true)))) : Option ((Bool))).bind fun p31 => (if p31 = true then (some 172) else (((waybillref17_Check.l1 a0 (a0.logs.length - 0 + 2) 0) : Option (Lp ((Nat)) (Unit))).bind fun | .ret o => o | .go () => ((waybillref17_BloomOf a0.logs).bind fun x46 => (if a0.bloom = x46 then (some 0) else (some 173))))))))))
def waybillref17_clone.l1 (a0 : List (Log)) : Nat → (List (Log)) → (Nat) → Option ((List (Log)))
  | 0, _, _ => none
  | k30 + 1, l21, n28 => (if n28 < a0.length then (a0[n28]?).bind fun x39 => (a0[n28]?).bind fun x58 => (if x58.topics.length * 32 ≤ 140737488355328 then (a0[n28]?).bind fun x83 => (if (l21.length + ([(Log.mk x39.address x58.topics x83.data)] : List (Log)).length) * 72 ≤ 140737488355328 then (waybillref17_clone.l1 a0 k30 (l21 ++ ([(Log.mk x39.address x58.topics x83.data)] : List (Log))) (n28 + 1)) else none) else none) else (some (l21)))
def waybillref17_clone (a0 : List (Log)) : Option ((List (Log))) := (((waybillref17_clone.l1 a0 (a0.length - 0 + 2) ([] : List (Log)) 0) : Option ((List (Log)))).bind fun l6 => (some l6))
def waybillref17_Make (a0 : Int) (a1 : BitVec 64) (a2 : BitVec 64) (a3 : List (Log)) : Option ((Rcpt) × (Nat)) := ((waybillref17_BloomOf a3).bind fun x4 => ((waybillref17_clone a3).bind fun x8 => ((waybillref17_Check (Rcpt.mk a0 false (Vector.replicate 32 0#8) a1 a2 x4 x8)).bind fun x25 => (if x25 = 0 then (some ((Rcpt.mk a0 false (Vector.replicate 32 0#8) a1 a2 x4 x8), 0)) else (some ((Rcpt.mk (0 : Int) false (Vector.replicate 32 0#8) (0#64) (0#64) (Vector.replicate 256 0#8) ([] : List (Log))), x25))))))
end Go.Fw
namespace Go.Fw
set_option linter.unusedVariables false
set_option maxRecDepth 100000
def waybilllaw17_still.l1 (a0 : List (BitVec 8)) (a1 : List (BitVec 8)) : Nat → (Nat) → Option (Lp ((Bool)) (Unit))
  | 0, _ => none
  | k17 + 1, n15 => (if n15 < ((a0 ++ List.replicate 70 195#8).take (a1.length + 70)).length then (((if n15 < a1.length then (((a0 ++ List.replicate 70 195#8).take (a1.length + 70))[n15]?).bind fun x35 => (a1[n15]?).bind fun x38 => (if x35 = x38 then (if a1.length ≤ n15 then (((a0 ++ List.replicate 70 195#8).take (a1.length + 70))[n15]?).bind fun x43 => (some ((!decide (x43 = 195#8)))) else (some (false))) else (some (true))) else (if a1.length ≤ n15 then (((a0 ++ List.replicate 70 195#8).take (a1.length + 70))[n15]?).bind fun x47 => (some ((!decide (x47 = 195#8)))) else (some (false)))) : Option ((Bool))).bind fun p27 => (if p27 = true then (some (Lp.ret (some false))) else (waybilllaw17_still.l1 a0 a1 k17 (n15 + 1)))) else (some (Lp.go ())))
def waybilllaw17_still (a0 : List (BitVec 8)) (a1 : List (BitVec 8)) : Option ((Bool)) := (if a0.length = a1.length then (if (a1.length + 70) ≤ (a0 ++ List.replicate 70 195#8).length then (((waybilllaw17_still.l1 a0 a1 ((((a0 ++ List.replicate 70 195#8).take (a1.length + 70)).length) - 0 + 2) 0) : Option (Lp ((Bool)) (Unit))).bind fun | .ret o => o | .go () => (some true)) else none) else (some false))
end Go.Fw
namespace Go.Fw
open Go
set_option linter.unusedVariables false
set_option maxRecDepth 10000
def mk20 : Vector (BitVec 8) 20 := (Vector.replicate 20 0#8).setIfInBounds 0 195#8
def mk32 : Vector (BitVec 8) 32 := (Vector.replicate 32 0#8).setIfInBounds 0 195#8
abbrev LogZ0 : LogC := ⟨Vector.replicate 20 0#8, .slice none 0 0, .slice none 0 0⟩
abbrev LgMk : LogC := ⟨mk20, .slice none 0 0, .slice none 0 0⟩
theorem OwnS.full {ob : Option Nat} {len cap s : Nat} {cells r : List Value} (h : OwnS ob len cap s cells r) (hm : cap ≤ 140737488355328) : OwnS ob cap cap s (cells ++ r) [] := ⟨h.hr, by rw [List.append_nil]; exact h.hr, h.hn, hm⟩
structure LgM (g : Lg) : Prop where
  ok : g.Ok
  tc : g.tc = g.t.length + 1
  tr : g.tr = u8s mk32.toList
  dc : g.dc = g.d.length + 70
  dr : g.dr = u8s (List.replicate 70 195#8) ++ []
  tm : g.t.length + 1 ≤ 140737488355328
  dm : g.d.length + 70 ≤ 140737488355328
def LmRd (Φ : Ctx) (cs : List Value) (x : Log) : Prop := ∃ (A1 A2 : Option Addr), cs = (⟨x.address, .slice A1 x.topics.length (x.topics.length + 1), .slice A2 x.data.length (x.data.length + 70)⟩ : LogC).C ∧
  View Φ A1 (x.topics.length + 1) (x.topics.length + 1) 32 (hs32 x.topics ++ u8s mk32.toList) ∧ View Φ A2 (x.data.length + 70) (x.data.length + 70) 1 (u8s (x.data ++ List.replicate 70 195#8))
theorem LmRd.mono {Φ Ψ : Ctx} (hh : ∀ w, Ψ w → Φ w) (cs : List Value) (x : Log) : LmRd Φ cs x → LmRd Ψ cs x := fun ⟨A1, A2, e, v1, v2⟩ => ⟨A1, A2, e, v1.mono hh, v2.mono hh⟩
theorem LmRd.len {Φ : Ctx} (cs : List Value) (x : Log) (h : LmRd Φ cs x) : cs.length = 22 := by
  obtain ⟨A1, A2, e, _, _⟩ := h
  rw [e]; exact LogC.C_length _
theorem LmRd.one {Φ : Ctx} (cs : List Value) (x : Log) (h : LmRd Φ cs x) : ∀ u ∈ cs, u.oneCell' = true := by
  obtain ⟨A1, A2, e, _, _⟩ := h
  rw [e]; exact LogC.C_one _ rfl rfl
theorem LmRd.log {Φ : Ctx} (cs : List Value) (x : Log) (h : LmRd Φ cs x) : LogRd Φ cs x := by
  obtain ⟨A1, A2, rfl, v1, v2⟩ := h
  have h1 := v1.hi (k := x.topics.length) (by omega)
  rw [List.take_append_of_le_length (by rw [hs32_length]; omega), List.take_of_length_le (by rw [hs32_length]; omega)] at h1
  have h2 := v2.hi (k := x.data.length) (by omega)
  rw [Nat.mul_one, show (u8s (x.data ++ List.replicate 70 195#8)).take x.data.length = u8s x.data by simp [u8s]] at h2
  exact LogRd.mk h1 (hs32_reps _) h2
theorem LgM.rd {w0 : World} {Φ : Ctx} {tH tB : TypeId} {g : Lg} (h : LgM g) (hm : ∀ w, Φ w → Mem w0 w (g.ents tH tB)) : LmRd Φ g.cells g.val := by
  obtain ⟨a, tb, t, tc, tr, db, d, dc, dr⟩ := g
  obtain ⟨ok, e1, e2, e3, e4, m1, m2⟩ := h
  obtain ⟨ok1, ok2⟩ := ok
  dsimp only at e1 e2 e3 e4 m1 m2 ok1 ok2
  subst e1 e2 e3 e4
  refine ⟨_, _, rfl, ?_, ?_⟩
  · have := (ok1.full m1).view (te := tH) (w0 := w0) (Ψ := Φ) (by decide) (fun w q => by rw [List.append_nil]; exact (hm w q).sublist (by unfold Lg.ents; exact List.Sublist.cons_cons _ (List.nil_sublist _)))
    exact this
  · have := (ok2.full m2).view (te := tB) (w0 := w0) (Ψ := Φ) (by decide) (fun w q => by rw [List.append_nil]; exact (hm w q).tail)
    rw [List.append_nil, u8s_app] at this
    exact this
theorem lgm_reps {w0 : World} {Φ : Ctx} {tH tB : TypeId} : ∀ {l : List Lg}, (∀ g ∈ l, LgM g) → (∀ w, Φ w → Mem w0 w (lgs tH tB l)) → Reps (LmRd Φ) (lgC l) (l.map Lg.val)
  | [], _, _ => .nil
  | g :: l, ok, h => by
    have h1 : LmRd Φ g.cells g.val := LgM.rd (tH := tH) (tB := tB) (ok g (List.mem_cons_self ..)) (fun w q => (h w q).appL)
    have h2 := lgm_reps (l := l) (fun x hx => ok x (List.mem_cons_of_mem _ hx)) (fun w q => (h w q).appR)
    exact .cons h1 h2
def LRooms (Φ : Ctx) (A : Option Addr) (c : Nat) (x : List Log) : Prop := ∃ cs : List Value, View Φ A (x.length + 1) c 22 (cs ++ LgMk.C) ∧ Reps (LmRd Φ) cs x
theorem LRooms.mono {Φ Ψ : Ctx} {A : Option Addr} {c : Nat} {x : List Log} (h : LRooms Φ A c x) (hh : ∀ w, Ψ w → Φ w) : LRooms Ψ A c x := by
  obtain ⟨cs, v, r⟩ := h
  exact ⟨cs, v.mono hh, r.mono (LmRd.mono hh)⟩
theorem LRooms.opn {Φ : Ctx} {A : Option Addr} {c : Nat} {x : List Log} (h : LRooms Φ A c x) : ∃ cs : List Value, View Φ A (x.length + 1) c 22 (cs ++ LgMk.C) ∧ View Φ A x.length c 22 cs ∧ Reps (LmRd Φ) cs x := by
  obtain ⟨cs, v, r⟩ := h
  have h1 := v.hi (k := x.length) (by omega)
  have hl := r.len LmRd.len
  rw [List.take_append_of_le_length (by omega), List.take_of_length_le (by omega)] at h1
  exact ⟨cs, v, h1, r⟩
theorem LRooms.mk {Φ : Ctx} {A : Option Addr} {c : Nat} {x : List Log} {cs : List Value} (v : View Φ A (x.length + 1) c 22 (cs ++ LgMk.C)) (r : Reps (LmRd Φ) cs x) : LRooms Φ A c x := ⟨cs, v, r⟩
def twfit (l : List Log) : Bool := l.all (fun x => decide (x.topics.length * 32 ≤ 140737488355328 ∧ x.data.length + 70 ≤ 140737488355328)) && decide (l.length * 72 ≤ 140737488355328)
def waybilllaw17_twin (l : List Log) : Option (List Log) := if twfit l = true then some l else none
def zc (k : Nat) : List Value := (List.replicate k LogZ0.C).flatten
theorem zc_length (k : Nat) : (zc k).length = k * 22 := by
  rw [zc, List.length_flatten, List.map_replicate, List.sum_replicate_nat, LogC.C_length]
theorem zc_succ (k : Nat) : zc (k + 1) = LogZ0.C ++ zc k := by simp [zc, List.replicate_succ]
theorem zc_snoc (k : Nat) : zc (k + 1) = zc k ++ LogZ0.C := by simp [zc, List.replicate_succ']
theorem tw_mark (k : Nat) : spl (zc (k + 1)) (k * 22) LgMk.C = zc k ++ LgMk.C := by
  have h1 : (zc k ++ LogZ0.C).length = k * 22 + 22 := by rw [List.length_append, zc_length, LogC.C_length]
  rw [zc_snoc]
  unfold spl
  rw [List.take_append_of_le_length (by rw [zc_length]; omega), List.take_of_length_le (by rw [zc_length]; omega), LogC.C_length, List.drop_of_length_le (by omega), List.append_nil]
theorem tw_set {gs : List Lg} {g : Lg} {m off : Nat} {X : List Value} (h : off = gs.length * 22) : spl (lgC gs ++ (zc (m + 1) ++ X)) off g.cells = lgC (gs ++ [g]) ++ (zc m ++ X) := by
  subst h
  have h1 : (lgC gs).length = gs.length * 22 := lgC_length _
  have h2 : LogZ0.C.length = 22 := LogC.C_length _
  unfold spl
  rw [zc_succ, Lg.cells_length, List.take_append_of_le_length (by omega), List.take_of_length_le (by omega), List.append_assoc LogZ0.C, ← List.append_assoc (lgC gs), List.drop_append, List.drop_of_length_le (by rw [List.length_append]; omega), List.length_append, h1, h2, Nat.sub_self, List.drop_zero, List.nil_append, lgC_app, lgC_one1]
theorem tw_topic (t : List (Vector (BitVec 8) 32)) (zs : List Value) (hz : zs.length = 32) : spl (hs32 t ++ zs) (t.length * 32) (u8s mk32.toList) = hs32 t ++ u8s mk32.toList := by
  unfold spl
  have h1 := hs32_length t
  have h2 : (u8s mk32.toList).length = 32 := (u8s_length _).trans Vector.length_toList
  rw [List.take_append_of_le_length (by omega), List.take_of_length_le (by omega), h2, List.drop_of_length_le (by rw [List.length_append]; omega), List.append_nil]
end Go.Fw
namespace Go.Fw
set_option linter.unusedVariables false
set_option linter.unusedSimpArgs false
set_option maxRecDepth 10000
theorem same17_to (a b : List (BitVec 8)) : ∀ (k i : Nat), waybilllaw17_same.l1 a b k i = some (Lp.go ()) → ∀ j, i ≤ j → j < a.length → a[j]? = b[j]?
  | 0, i, h => by cases h
  | k + 1, i, h => by
    rw [waybilllaw17_same.l1] at h
    intro j hj hl
    rw [if_pos (by omega)] at h
    obtain ⟨x, hx, h⟩ := Option.bind_eq_some_iff.1 h
    obtain ⟨y, hy, h⟩ := Option.bind_eq_some_iff.1 h
    by_cases e : x = y
    · rw [if_pos e] at h
      rcases Nat.eq_or_lt_of_le hj with rfl | hj
      · rw [hx, hy, e]
      · exact same17_to a b k (i + 1) h j hj hl
    · rw [if_neg e] at h; cases h
theorem same17_true {a b : List (BitVec 8)} (h : waybilllaw17_same a b = some true) : a = b := by
  unfold waybilllaw17_same at h
  by_cases hl : a.length = b.length
  · rw [if_pos hl] at h
    obtain ⟨o, ho, h⟩ := Option.bind_eq_some_iff.1 h
    cases o with
    | ret o =>
      exfalso
      have : ∀ (k i : Nat) o, waybilllaw17_same.l1 a b k i = some (Lp.ret o) → o = some false := by
        intro k
        induction k with
        | zero => intro i o h; cases h
        | succ k ih =>
          intro i o h
          rw [waybilllaw17_same.l1] at h
          by_cases hi : i < a.length
          · rw [if_pos hi] at h
            obtain ⟨x, hx, h⟩ := Option.bind_eq_some_iff.1 h
            obtain ⟨y, hy, h⟩ := Option.bind_eq_some_iff.1 h
            by_cases e : x = y
            · rw [if_pos e] at h; exact ih _ _ h
            · rw [if_neg e] at h; simp only [Option.some.injEq, Lp.ret.injEq] at h; exact h.symm
          · rw [if_neg hi] at h; cases h
      have := this _ _ _ ho
      dsimp only at h
      rw [this] at h
      cases h
    | go u =>
      apply List.ext_getElem?
      intro j
      by_cases hj : j < a.length
      · exact same17_to a b _ 0 ho j (by omega) hj
      · rw [List.getElem?_eq_none (by omega), List.getElem?_eq_none (by omega)]
  · rw [if_neg hl] at h; cases h
theorem sameLog_ret {a b : Log} : ∀ (k i : Nat) o, waybilllaw17_sameLog.l1 a b k i = some (Lp.ret o) → o = some false := by
  intro k
  induction k with
  | zero => intro i o h; cases h
  | succ k ih =>
    intro i o h
    rw [waybilllaw17_sameLog.l1] at h
    by_cases hi : i < a.topics.length
    · rw [if_pos hi] at h
      obtain ⟨x, hx, h⟩ := Option.bind_eq_some_iff.1 h
      obtain ⟨y, hy, h⟩ := Option.bind_eq_some_iff.1 h
      by_cases e : x = y
      · rw [if_pos e] at h; exact ih _ _ h
      · rw [if_neg e] at h; simp only [Option.some.injEq, Lp.ret.injEq] at h; exact h.symm
    · rw [if_neg hi] at h; cases h
theorem sameLog_to (a b : Log) : ∀ (k i : Nat), waybilllaw17_sameLog.l1 a b k i = some (Lp.go ()) → ∀ j, i ≤ j → j < a.topics.length → a.topics[j]? = b.topics[j]?
  | 0, i, h => by cases h
  | k + 1, i, h => by
    rw [waybilllaw17_sameLog.l1] at h
    intro j hj hl
    rw [if_pos (by omega)] at h
    obtain ⟨x, hx, h⟩ := Option.bind_eq_some_iff.1 h
    obtain ⟨y, hy, h⟩ := Option.bind_eq_some_iff.1 h
    by_cases e : x = y
    · rw [if_pos e] at h
      rcases Nat.eq_or_lt_of_le hj with rfl | hj
      · rw [hx, hy, e]
      · exact sameLog_to a b k (i + 1) h j hj hl
    · rw [if_neg e] at h; cases h
theorem sameLog_true {a b : Log} (h : waybilllaw17_sameLog a b = some true) : a = b := by
  unfold waybilllaw17_sameLog at h
  by_cases ha : a.address = b.address
  · rw [if_pos ha, Option.bind_some] at h
    by_cases hl : a.topics.length = b.topics.length
    · rw [if_neg (by simp [hl])] at h
      obtain ⟨o, ho, h⟩ := Option.bind_eq_some_iff.1 h
      cases o with
      | ret o =>
        have := sameLog_ret _ _ _ ho
        dsimp only at h
        rw [this] at h
        cases h
      | go u =>
        dsimp only at h
        obtain ⟨r, hr, h⟩ := Option.bind_eq_some_iff.1 h
        obtain rfl := Option.some.inj h
        have ht : a.topics = b.topics := by
          apply List.ext_getElem?
          intro j
          by_cases hj : j < a.topics.length
          · exact sameLog_to a b _ 0 ho j (by omega) hj
          · rw [List.getElem?_eq_none (by omega), List.getElem?_eq_none (by omega)]
        have hd := same17_true hr
        obtain ⟨a1, a2, a3⟩ := a
        obtain ⟨b1, b2, b3⟩ := b
        dsimp only at ha ht hd
        rw [ha, ht, hd]
    · rw [if_pos (by simp [hl])] at h; cases h
  · rw [if_neg ha, Option.bind_some, if_pos rfl] at h; cases h
theorem sameLogs_ret {a b : List Log} : ∀ (k i : Nat) o, waybilllaw17_sameLogs.l1 a b k i = some (Lp.ret o) → o = some false := by
  intro k
  induction k with
  | zero => intro i o h; cases h
  | succ k ih =>
    intro i o h
    rw [waybilllaw17_sameLogs.l1] at h
    by_cases hi : i < a.length
    · rw [if_pos hi] at h
      obtain ⟨x, hx, h⟩ := Option.bind_eq_some_iff.1 h
      obtain ⟨y, hy, h⟩ := Option.bind_eq_some_iff.1 h
      obtain ⟨r, hr, h⟩ := Option.bind_eq_some_iff.1 h
      by_cases e : r = true
      · rw [if_pos e] at h; exact ih _ _ h
      · rw [if_neg e] at h; simp only [Option.some.injEq, Lp.ret.injEq] at h; exact h.symm
    · rw [if_neg hi] at h; cases h
theorem sameLogs_to (a b : List Log) : ∀ (k i : Nat), waybilllaw17_sameLogs.l1 a b k i = some (Lp.go ()) → ∀ j, i ≤ j → j < a.length → a[j]? = b[j]?
  | 0, i, h => by cases h
  | k + 1, i, h => by
    rw [waybilllaw17_sameLogs.l1] at h
    intro j hj hl
    rw [if_pos (by omega)] at h
    obtain ⟨x, hx, h⟩ := Option.bind_eq_some_iff.1 h
    obtain ⟨y, hy, h⟩ := Option.bind_eq_some_iff.1 h
    obtain ⟨r, hr, h⟩ := Option.bind_eq_some_iff.1 h
    by_cases e : r = true
    · rw [if_pos e] at h
      subst e
      rcases Nat.eq_or_lt_of_le hj with rfl | hj
      · rw [hx, hy, sameLog_true hr]
      · exact sameLogs_to a b k (i + 1) h j hj hl
    · rw [if_neg e] at h; cases h
theorem sameLogs_true {a b : List Log} (h : waybilllaw17_sameLogs a b = some true) : a = b := by
  unfold waybilllaw17_sameLogs at h
  by_cases hl : a.length = b.length
  · rw [if_pos hl] at h
    obtain ⟨o, ho, h⟩ := Option.bind_eq_some_iff.1 h
    cases o with
    | ret o =>
      have := sameLogs_ret _ _ _ ho
      dsimp only at h
      rw [this] at h
      cases h
    | go u =>
      apply List.ext_getElem?
      intro j
      by_cases hj : j < a.length
      · exact sameLogs_to a b _ 0 ho j (by omega) hj
      · rw [List.getElem?_eq_none (by omega), List.getElem?_eq_none (by omega)]
  · rw [if_neg hl] at h; cases h
def waybilllaw17_stillLogs (x y : List Log) : Option Bool := (waybilllaw17_sameLogs x y).bind fun r => if r = true then some true else none
theorem stillLogs_true {x y : List Log} {r : Bool} (h : waybilllaw17_stillLogs x y = some r) : x = y ∧ r = true ∧ waybilllaw17_sameLogs x y = some true := by
  unfold waybilllaw17_stillLogs at h
  obtain ⟨q, hq, h⟩ := Option.bind_eq_some_iff.1 h
  by_cases e : q = true
  · rw [if_pos e] at h
    subst e
    exact ⟨sameLogs_true hq, (Option.some.inj h).symm, hq⟩
  · rw [if_neg e] at h; cases h
end Go.Fw
namespace Go.Fw
set_option linter.unusedVariables false
set_option maxRecDepth 10000
theorem still17_loop (a : List (BitVec 8)) : ∀ (d i k : Nat), i + d = a.length + 70 → d < k → waybilllaw17_still.l1 a a k i = some (Lp.go ())
  | 0, i, k, h, hk => by
    obtain ⟨k, rfl⟩ : ∃ m, k = m + 1 := ⟨k - 1, by omega⟩
    rw [waybilllaw17_still.l1, if_neg (by rw [List.length_take, List.length_append, List.length_replicate]; omega)]
  | d + 1, i, k, h, hk => by
    obtain ⟨k, rfl⟩ : ∃ m, k = m + 1 := ⟨k - 1, by omega⟩
    have hT : (a ++ List.replicate 70 195#8).take (a.length + 70) = a ++ List.replicate 70 195#8 := List.take_of_length_le (by rw [List.length_append, List.length_replicate]; omega)
    have hl : (a ++ List.replicate 70 195#8).length = a.length + 70 := by rw [List.length_append, List.length_replicate]
    rw [waybilllaw17_still.l1, hT, if_pos (by omega)]
    by_cases h1 : i < a.length
    · rw [if_pos h1, List.getElem?_append_left h1, List.getElem?_eq_getElem h1, Option.bind_some, Option.bind_some, if_pos rfl, if_neg (by omega), Option.bind_some, if_neg (by decide)]
      exact still17_loop a d (i + 1) k (by omega) (by omega)
    · rw [if_neg h1, if_pos (by omega), List.getElem?_append_right (by omega), List.getElem?_replicate, if_pos (by omega), Option.bind_some, decide_eq_true rfl, Option.bind_some, if_neg (by decide)]
      exact still17_loop a d (i + 1) k (by omega) (by omega)
theorem still17_eq (a : List (BitVec 8)) : waybilllaw17_still a a = some true := by
  have hT : ((a ++ List.replicate 70 195#8).take (a.length + 70)).length = a.length + 70 := by rw [List.length_take, List.length_append, List.length_replicate]; omega
  have hl : (a ++ List.replicate 70 195#8).length = a.length + 70 := by rw [List.length_append, List.length_replicate]
  unfold waybilllaw17_still
  rw [if_pos rfl, if_pos (by omega), still17_loop a (a.length + 70) 0 _ (by omega) (by rw [hT]; omega), Option.bind_some]
end Go.Fw

/- Part of a proof: rules that its law uses. -/
import Derived.Test.YtgonajfngmeanaaDoorFw6
namespace Go.Fw
open Go Go.RowKit
set_option linter.unusedVariables false
def i64s (l : List Int) : List Value := l.map (.int .i64)
@[simp] theorem i64s_length (l : List Int) : (i64s l).length = l.length := by simp [i64s]
theorem i64s_get {l : List Int} {i : Nat} (h : i < l.length) : (i64s l)[i]? = some (.int .i64 (l.getD i 0)) := by simp [i64s, h]
theorem i64s_one (l : List Int) : ∀ u ∈ i64s l, u.oneCell' = true := fun u hu => by
  simp only [i64s, List.mem_map] at hu
  obtain ⟨x, _, rfl⟩ := hu
  rfl
theorem i64s_set (l : List Int) (i : Nat) (v : Int) : (i64s l).set i (.int .i64 v) = i64s (l.set i v) := by simp [i64s, List.map_set]
theorem i64s_app (a b : List Int) : i64s a ++ i64s b = i64s (a ++ b) := by simp [i64s]
theorem i64s_rep (n : Nat) : List.replicate n (Value.int .i64 0) = i64s (List.replicate n 0) := by simp [i64s]
theorem u8s_rep' (n : Nat) : List.replicate n (Value.int .u8 0) = u8s (List.replicate n 0#8) := by simp [u8s, U8]
@[simp] theorem u32s_length (l : List (BitVec 32)) : (u32s l).length = l.length := by simp [u32s]
@[simp] theorem u64s_length (l : List (BitVec 64)) : (u64s l).length = l.length := by simp [u64s]
theorem u32s_rep (n : Nat) : List.replicate n (Value.int .u32 0) = u32s (List.replicate n 0#32) := by simp [u32s, U32]
theorem u64s_rep (n : Nat) : List.replicate n (Value.int .u64 0) = u64s (List.replicate n 0#64) := by simp [u64s, U64]
theorem u32s_get {l : List (BitVec 32)} {i : Nat} (h : i < l.length) : (u32s l)[i]? = some (U32 (l.getD i 0#32)) := by simp [u32s, h]
theorem u64s_get {l : List (BitVec 64)} {i : Nat} (h : i < l.length) : (u64s l)[i]? = some (U64 (l.getD i 0#64)) := by simp [u64s, h]
theorem u32s_one (l : List (BitVec 32)) : ∀ u ∈ u32s l, u.oneCell' = true := fun u hu => by
  simp only [u32s, List.mem_map] at hu
  obtain ⟨x, _, rfl⟩ := hu
  rfl
theorem u64s_one (l : List (BitVec 64)) : ∀ u ∈ u64s l, u.oneCell' = true := fun u hu => by
  simp only [u64s, List.mem_map] at hu
  obtain ⟨x, _, rfl⟩ := hu
  rfl
theorem u8s_set' (l : List (BitVec 8)) (i : Nat) (v : BitVec 8) : (u8s l).set i (U8 v) = u8s (l.set i v) := by simp [u8s, List.map_set]
theorem u32s_set (l : List (BitVec 32)) (i : Nat) (v : BitVec 32) : (u32s l).set i (U32 v) = u32s (l.set i v) := by simp [u32s, List.map_set]
theorem u64s_set (l : List (BitVec 64)) (i : Nat) (v : BitVec 64) : (u64s l).set i (U64 v) = u64s (l.set i v) := by simp [u64s, List.map_set]
section
variable {P : Program} [Types P] {w0 : World} {L : Slots} {M : List Ent} {x y z : Operand} {t t' e : TypeId} {v : Value} {n : Nat} {Q : Exit → Act → World → Prop}
  {ops : Array Oper} {rest : List Oper} {ty1 : TypeId} {pos : String} {aft : Array Edge} {d : Nat}
theorem RV.build0 {i : TI} {l : List Value} {k s : Nat} (hi : ty P t = some i) (hu : i.u = .array k e) (hs : tyS P e = some s) (hl : i.z.cells = l.toArray) : RV P w0 L M (.build t #[]) (.agg l.toArray) := fun ρ w hρ m o ho => by
  obtain ⟨h0, ti, h1, h2, h3, h4⟩ := ty_ok hi
  rw [hu] at h0
  have hsz := tyS_run (P := P) hs w
  simp [execOp, ho, Instr.build, zeroValue, typeInfo, h1, h4, run_underlying h0, hsz, Instr.fill, hl]
def spl (l : List Value) (off : Nat) (vs : List Value) : List Value := l.take off ++ vs ++ l.drop (off + vs.length)
theorem spl_length {l : List Value} {off : Nat} {vs : List Value} (h : off + vs.length ≤ l.length) : (spl l off vs).length = l.length := by simp [spl]; omega
theorem set_spl : ∀ (vs : List Value) (off : Nat) (cells : Array Value), off + vs.length ≤ cells.size → (vs.toArray.zipIdx.foldl (fun (cs : Array Value) (p : Value × Nat) => cs.setIfInBounds (off + p.2) p.1) cells) = (spl cells.toList off vs).toArray := by
  intro vs off cells h
  rw [← Array.foldl_toList]
  simp only [Array.toList_zipIdx]
  have key : ∀ (vs : List Value) (k : Nat) (cells : Array Value), off + k + vs.length ≤ cells.size → ((vs.zipIdx k).foldl (fun (cs : Array Value) (p : Value × Nat) => cs.setIfInBounds (off + p.2) p.1) cells) = (spl cells.toList (off + k) vs).toArray := by
    intro vs
    induction vs with
    | nil => intro k cells _; simp [spl]
    | cons v vs ih =>
      intro k cells h
      simp only [List.length_cons] at h
      simp only [List.zipIdx_cons, List.foldl_cons]
      rw [ih (k + 1) (cells.setIfInBounds (off + k) v) (by simp; omega)]
      congr 1
      apply List.ext_getElem?
      intro j
      have hlt : off + k < cells.toList.length := by simp; omega
      simp only [spl, Array.toList_setIfInBounds, List.length_cons, List.getElem?_append, List.length_append, List.length_take, List.getElem?_take, List.getElem?_drop, List.getElem?_set, List.length_set, List.getElem?_cons]
      have e1 : min (off + (k + 1)) cells.toList.length = off + k + 1 := by omega
      have e2 : min (off + k) cells.toList.length = off + k := by omega
      rw [e1, e2]
      by_cases h1 : j < off + k
      · have a1 : j < off + (k + 1) := by omega
        have a2 : ¬ (off + k = j) := by omega
        have a3 : j < off + k + 1 + vs.length := by omega
        have a4 : j < off + k + (vs.length + 1) := by omega
        have a5 : j < off + k + 1 := by omega
        simp [h1, a1, a2, a3, a4, a5]
      · by_cases h2 : j = off + k
        · subst h2
          have a3 : off + k < off + k + 1 + vs.length := by omega
          have a9 : off + k < cells.size := by simpa using hlt
          simp [a3, a9]
        · have a1 : ¬ j < off + (k + 1) := by omega
          have a5 : ¬ j < off + k + 1 := by omega
          have a6 : j - (off + k) ≠ 0 := by omega
          have a7 : j - (off + k) - 1 = j - (off + k + 1) := by omega
          by_cases h3 : j < off + k + 1 + vs.length
          · have a4 : j < off + k + (vs.length + 1) := by omega
            simp [h1, a5, h3, a4, a6, a7]
          · have a4 : ¬ j < off + k + (vs.length + 1) := by omega
            have a8 : off + (k + 1) + vs.length + (j - (off + k + 1 + vs.length)) = j := by omega
            have a9 : off + k + (vs.length + 1) + (j - (off + k + (vs.length + 1))) = j := by omega
            have a10 : ¬ (off + k = j) := by omega
            simp [h3, a4, a8, a9, a10]
  have := key vs 0 cells (by omega)
  simpa using this
theorem OW.copy {ob : Option Nat} {off len cap m c : Nat} {l vs : List Value} {te : TypeId} {B : Option Addr} {t2 : TypeId} (hx : ev L x = some (sl ob off len cap)) (hy : ev L y = some (.slice B m c)) (ht : tyU P t = some (.slice e)) (hs : tyS P e = some 1)
    (hn : ob = none → len = 0) (hl : off + len ≤ l.length) (hR : Mem.Says w0 ((ob, blk l te) :: M) (fun w => Rd w B vs)) (hvl : vs.length = m) (hv1 : ∀ u ∈ vs, u.oneCell' = true) (hB : B = none → m = 0) (hd : Nat.blt d n = true)
    (k : OW P n ops Q w0 rest ((d, .int .i64 ((min m len : Nat) : Int)) :: L) ((ob, blk (spl l off (vs.take (min m len))) te) :: M)) :
    OW P n ops Q w0 (⟨some d, .call ⟨.builtin .copy, #[x, y], #[t, t2]⟩, ty1, pos, aft, none⟩ :: rest) L ((ob, blk l te) :: M) := by
  refine OW.av (τ := Unit) (I := fun _ => True) (v := fun _ => .int .i64 ((min m len : Nat) : Int)) (M' := fun _ => (ob, blk (spl l off (vs.take (min m len))) te) :: M) (fun ρ w hρ mm o ho => ?_) hd (fun _ _ => k)
  have hrd := hR w mm
  have hfc : (Builtin.firstCells 1 (min m len) (.slice B m c)).run P w = .ok (vs.take (min m len)).toArray w := by
    cases B with
    | none =>
      have h0 := hB rfl
      subst h0
      have : vs = [] := List.length_eq_zero_iff.1 hvl
      subst this
      simp [Builtin.firstCells]
    | some a => exact run_firstCells_some (P := P) w 1 (min m len) a m c _ (by simp; omega) (fun j u hj => hrd.2 j u (by
        rw [List.getElem?_take] at hj
        split at hj
        · exact hj
        · cases hj))
  have hlen : (Builtin.lenOf (.slice B m c)).run P w = .ok m w := rfl
  have hnm : Nat.min m len = min m len := rfl
  cases ob with
  | none =>
    have h0 := hn rfl
    subst h0
    refine ⟨(), w, trivial, ?_, mm.tail.nil_ent _⟩
    have hfc0 : (Builtin.firstCells 1 0 (.slice B m c)).run P w = .ok #[] w := by simpa using hfc
    simp [execOp, ho, resolve, hρ x _ hx, hρ y _ hy, invoke, builtin, Builtin.copy_, tyU_run ht, tyS_run hs, sl, hlen, goInt, hfc0]
  | some b =>
    have hm := mm.ents _ (List.mem_cons_self ..) b rfl
    have hst := run_storeCells_at (P := P) b off te (vs.take (min m len)) 0 l.toArray w hm.2 (by simp; omega) (fun v hv => hv1 v (List.mem_of_mem_take hv))
    simp only [Nat.add_zero] at hst
    refine ⟨(), _, trivial, ?_, mm.turned (w' := w.setRow b (l.toArray.toList.take off ++ vs.take (min m len) ++ l.toArray.toList.drop (off + (vs.take (min m len)).length)).toArray) rfl rfl rfl (by simp [World.setRow]) ?_ ?_⟩
    · have hst' := hst
      simp only [execOp, ho, resolve, Array.map, invoke, builtin] at hst' ⊢
      simp [hρ x _ hx, hρ y _ hy, Builtin.copy_, tyU_run ht, tyS_run hs, sl, hlen, hfc, hnm, goInt, hst]
    · intro b' hb'
      cases hb'
      rw [setRow_heap w b l.toArray _ te (0, 0) hm.2]
      simp [blk, spl]
    · intro kk hk
      exact setRow_other _ _ _ _ (fun e => hk (by rw [e]))
end
section
variable {P : Program} {w0 : World} {L : Slots} {M : List Ent} {x y z : Operand} {t t' e : TypeId} {v : Value}
theorem RV.rem8 {p q : BitVec 8} {a b : Value} (hx : ev L x = some a) (hp : a = U8 p) (hy : ev L y = some b) (hq : b = U8 q) (hz : ¬ q = 0#8) : RV P w0 L M (.binOp .rem t x y t') (U8 (p % q)) := fun ρ w hρ _ o ho => by
  subst hp hq
  have hn : ¬ ((q.toNat : Int) = 0) := fun e => hz (BitVec.eq_of_toNat_eq (by simp; omega))
  have e : (execOp ρ o).run P w = .ok (.value (.int .u8 ((p.toNat : Int).tmod (q.toNat : Int)))) w := by
    simp only [execOp, ho, hρ x _ hx, hρ y _ hy, eqGuard, binOp, Op.intDiv, U8, hn, if_false]; rfl
  have e2 : ((p.toNat : Int).tmod (q.toNat : Int)) = ((p % q).toNat : Int) := by
    rw [BitVec.toNat_umod, Int.tmod_eq_emod_of_nonneg (by omega)]; norm_cast
  rw [e, e2]; rfl
theorem RV.quo8 {p q : BitVec 8} {a b : Value} (hx : ev L x = some a) (hp : a = U8 p) (hy : ev L y = some b) (hq : b = U8 q) (hz : ¬ q = 0#8) : RV P w0 L M (.binOp .quo t x y t') (U8 (p / q)) := fun ρ w hρ _ o ho => by
  subst hp hq
  have hn : ¬ ((q.toNat : Int) = 0) := fun e => hz (BitVec.eq_of_toNat_eq (by simp; omega))
  have e : (execOp ρ o).run P w = .ok (.value (.int .u8 (IntKind.u8.wrap ((p.toNat : Int).tdiv (q.toNat : Int))))) w := by
    simp only [execOp, ho, hρ x _ hx, hρ y _ hy, eqGuard, binOp, Op.intDiv, U8, hn, if_false]; rfl
  have e2 : (IntKind.u8.wrap ((p.toNat : Int).tdiv (q.toNat : Int))) = ((p / q).toNat : Int) := by
    have h1 : ((p.toNat : Int).tdiv (q.toNat : Int)) = (((p / q).toNat : Nat) : Int) := by
      rw [BitVec.toNat_udiv, Int.tdiv_eq_ediv_of_nonneg (by omega)]; norm_cast
    rw [h1, wrap8]
  rw [e, e2]; rfl
theorem RV.rem16 {p q : BitVec 16} {a b : Value} (hx : ev L x = some a) (hp : a = U16 p) (hy : ev L y = some b) (hq : b = U16 q) (hz : ¬ q = 0#16) : RV P w0 L M (.binOp .rem t x y t') (U16 (p % q)) := fun ρ w hρ _ o ho => by
  subst hp hq
  have hn : ¬ ((q.toNat : Int) = 0) := fun e => hz (BitVec.eq_of_toNat_eq (by simp; omega))
  have e : (execOp ρ o).run P w = .ok (.value (.int .u16 ((p.toNat : Int).tmod (q.toNat : Int)))) w := by
    simp only [execOp, ho, hρ x _ hx, hρ y _ hy, eqGuard, binOp, Op.intDiv, U16, hn, if_false]; rfl
  have e2 : ((p.toNat : Int).tmod (q.toNat : Int)) = ((p % q).toNat : Int) := by
    rw [BitVec.toNat_umod, Int.tmod_eq_emod_of_nonneg (by omega)]; norm_cast
  rw [e, e2]; rfl
theorem RV.quo16 {p q : BitVec 16} {a b : Value} (hx : ev L x = some a) (hp : a = U16 p) (hy : ev L y = some b) (hq : b = U16 q) (hz : ¬ q = 0#16) : RV P w0 L M (.binOp .quo t x y t') (U16 (p / q)) := fun ρ w hρ _ o ho => by
  subst hp hq
  have hn : ¬ ((q.toNat : Int) = 0) := fun e => hz (BitVec.eq_of_toNat_eq (by simp; omega))
  have e : (execOp ρ o).run P w = .ok (.value (.int .u16 (IntKind.u16.wrap ((p.toNat : Int).tdiv (q.toNat : Int))))) w := by
    simp only [execOp, ho, hρ x _ hx, hρ y _ hy, eqGuard, binOp, Op.intDiv, U16, hn, if_false]; rfl
  have e2 : (IntKind.u16.wrap ((p.toNat : Int).tdiv (q.toNat : Int))) = ((p / q).toNat : Int) := by
    have h1 : ((p.toNat : Int).tdiv (q.toNat : Int)) = (((p / q).toNat : Nat) : Int) := by
      rw [BitVec.toNat_udiv, Int.tdiv_eq_ediv_of_nonneg (by omega)]; norm_cast
    rw [h1, wrap16]
  rw [e, e2]; rfl
theorem RV.rem32 {p q : BitVec 32} {a b : Value} (hx : ev L x = some a) (hp : a = U32 p) (hy : ev L y = some b) (hq : b = U32 q) (hz : ¬ q = 0#32) : RV P w0 L M (.binOp .rem t x y t') (U32 (p % q)) := fun ρ w hρ _ o ho => by
  subst hp hq
  have hn : ¬ ((q.toNat : Int) = 0) := fun e => hz (BitVec.eq_of_toNat_eq (by simp; omega))
  have e : (execOp ρ o).run P w = .ok (.value (.int .u32 ((p.toNat : Int).tmod (q.toNat : Int)))) w := by
    simp only [execOp, ho, hρ x _ hx, hρ y _ hy, eqGuard, binOp, Op.intDiv, U32, hn, if_false]; rfl
  have e2 : ((p.toNat : Int).tmod (q.toNat : Int)) = ((p % q).toNat : Int) := by
    rw [BitVec.toNat_umod, Int.tmod_eq_emod_of_nonneg (by omega)]; norm_cast
  rw [e, e2]; rfl
theorem RV.quo32 {p q : BitVec 32} {a b : Value} (hx : ev L x = some a) (hp : a = U32 p) (hy : ev L y = some b) (hq : b = U32 q) (hz : ¬ q = 0#32) : RV P w0 L M (.binOp .quo t x y t') (U32 (p / q)) := fun ρ w hρ _ o ho => by
  subst hp hq
  have hn : ¬ ((q.toNat : Int) = 0) := fun e => hz (BitVec.eq_of_toNat_eq (by simp; omega))
  have e : (execOp ρ o).run P w = .ok (.value (.int .u32 (IntKind.u32.wrap ((p.toNat : Int).tdiv (q.toNat : Int))))) w := by
    simp only [execOp, ho, hρ x _ hx, hρ y _ hy, eqGuard, binOp, Op.intDiv, U32, hn, if_false]; rfl
  have e2 : (IntKind.u32.wrap ((p.toNat : Int).tdiv (q.toNat : Int))) = ((p / q).toNat : Int) := by
    have h1 : ((p.toNat : Int).tdiv (q.toNat : Int)) = (((p / q).toNat : Nat) : Int) := by
      rw [BitVec.toNat_udiv, Int.tdiv_eq_ediv_of_nonneg (by omega)]; norm_cast
    rw [h1, wrap32]
  rw [e, e2]; rfl
theorem RV.rem64 {p q : BitVec 64} {a b : Value} (hx : ev L x = some a) (hp : a = U64 p) (hy : ev L y = some b) (hq : b = U64 q) (hz : ¬ q = 0#64) : RV P w0 L M (.binOp .rem t x y t') (U64 (p % q)) := fun ρ w hρ _ o ho => by
  subst hp hq
  have hn : ¬ ((q.toNat : Int) = 0) := fun e => hz (BitVec.eq_of_toNat_eq (by simp; omega))
  have e : (execOp ρ o).run P w = .ok (.value (.int .u64 ((p.toNat : Int).tmod (q.toNat : Int)))) w := by
    simp only [execOp, ho, hρ x _ hx, hρ y _ hy, eqGuard, binOp, Op.intDiv, U64, hn, if_false]; rfl
  have e2 : ((p.toNat : Int).tmod (q.toNat : Int)) = ((p % q).toNat : Int) := by
    rw [BitVec.toNat_umod, Int.tmod_eq_emod_of_nonneg (by omega)]; norm_cast
  rw [e, e2]; rfl
theorem RV.quo64 {p q : BitVec 64} {a b : Value} (hx : ev L x = some a) (hp : a = U64 p) (hy : ev L y = some b) (hq : b = U64 q) (hz : ¬ q = 0#64) : RV P w0 L M (.binOp .quo t x y t') (U64 (p / q)) := fun ρ w hρ _ o ho => by
  subst hp hq
  have hn : ¬ ((q.toNat : Int) = 0) := fun e => hz (BitVec.eq_of_toNat_eq (by simp; omega))
  have e : (execOp ρ o).run P w = .ok (.value (.int .u64 (IntKind.u64.wrap ((p.toNat : Int).tdiv (q.toNat : Int))))) w := by
    simp only [execOp, ho, hρ x _ hx, hρ y _ hy, eqGuard, binOp, Op.intDiv, U64, hn, if_false]; rfl
  have e2 : (IntKind.u64.wrap ((p.toNat : Int).tdiv (q.toNat : Int))) = ((p / q).toNat : Int) := by
    have h1 : ((p.toNat : Int).tdiv (q.toNat : Int)) = (((p / q).toNat : Nat) : Int) := by
      rw [BitVec.toNat_udiv, Int.tdiv_eq_ediv_of_nonneg (by omega)]; norm_cast
    rw [h1, wrap64]
  rw [e, e2]; rfl
end
section
variable {P : Program} [Types P] {n : Nat} {w0 : World} {L : Slots} {M : List Ent}
theorem loadVar_run {w : World} {ob : Option Nat} {l : List Value} {te ty : TypeId} {u : TypeDesc} {s : Nat} (m : Mem w0 w M) (he : (ob, blk l te) ∈ M) (hs : ob.isSome = true) (hu : tyU P ty = some u) (hg : TypeDesc.agg u = true) (hsz : tyS P ty = some s) (hl : l.length = s) :
    (loadVar ty ⟨ob.getD 0, 0, none⟩).run P w = .ok (.agg l.toArray) w := by
  have e := isSome_getD hs
  rw [e] at he
  have hc := run_loadCells_list (P := P) w ⟨ob.getD 0, 0, none⟩ l (fun j u hj => by rw [Addr.add_none, m.cell he, Nat.zero_add]; exact hj)
  rw [hl] at hc
  simp [loadVar, isAgg_run hu, hg, tyS_run hsz, hc]
theorem QW.retC1 {fn : Func} {p : Tmp} {ty : TypeId} {ob : Option Nat} {l : List Value} {te : TypeId} {u : TypeDesc} {s : Nat} {τ : Type} {I : τ → Prop} {v : τ → Value} {M' : τ → List Ent} (hr : fn.results = #[.cell p ty]) (x : τ) (hI : I x) (hp : lk L p = some (ptr ob 0)) (he : (ob, blk l te) ∈ M) (hs : ob.isSome = true)
    (hu : tyU P ty = some u) (hg : TypeDesc.agg u = true) (hsz : tyS P ty = some s) (hl : l.length = s) (hv : .agg l.toArray = v x) (hM : ∀ w, Mem w0 w M → Mem w0 w (M' x)) : QW n (bodyPost P fn (Ends w0 I v M')) w0 .ret L M := QW.intro fun a w f m => by
  refine ⟨f.nd, v x, ?_, x, hI, rfl, hM w m⟩
  have hload := loadVar_run (P := P) m he hs hu hg hsz hl
  have hp' := f.get p _ hp
  simp [results, hr, hp', ptr, asAddr, hload, hv]
theorem QW.retC2 {fn : Func} {p q : Tmp} {ty : TypeId} {ob : Option Nat} {l : List Value} {te : TypeId} {u : TypeDesc} {s : Nat} {τ : Type} {I : τ → Prop} {v : τ → Value} {M' : τ → List Ent} {v2 : Value} (hr : fn.results = #[.cell p ty, .tmp q]) (x : τ) (hI : I x) (hp : lk L p = some (ptr ob 0)) (hq : lk L q = some v2) (he : (ob, blk l te) ∈ M) (hs : ob.isSome = true)
    (hu : tyU P ty = some u) (hg : TypeDesc.agg u = true) (hsz : tyS P ty = some s) (hl : l.length = s) (hv : .tuple #[.agg l.toArray, v2] = v x) (hM : ∀ w, Mem w0 w M → Mem w0 w (M' x)) : QW n (bodyPost P fn (Ends w0 I v M')) w0 .ret L M := QW.intro fun a w f m => by
  refine ⟨f.nd, v x, ?_, x, hI, rfl, hM w m⟩
  have hload := loadVar_run (P := P) m he hs hu hg hsz hl
  have hp' := f.get p _ hp
  have hq' := f.get q _ hq
  simp [results, hr, hp', hq', ptr, asAddr, hload, hv]
end
end Go.Fw

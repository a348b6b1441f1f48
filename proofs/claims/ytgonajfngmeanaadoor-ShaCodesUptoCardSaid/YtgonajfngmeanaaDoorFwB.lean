/- Part of a proof: rules that its law uses. -/
import Derived.Test.YtgonajfngmeanaaDoorFw9
import Derived.Lib.LaidTab
import Derived.LaidSub
import Derived.KernelRfl
namespace Go.Fw
open Go Go.RowKit
set_option linter.unusedVariables false
theorem fill_cons {place : Nat → Option (Nat × Nat)} {cells : List Value} {i off size : Nat} {v : Value} {vs : List Value} {rest : List (Nat × Value)} (hp : place i = some (off, size)) (hv : v.cells = vs.toArray) (hl : vs.length = size) (hle : off + size ≤ cells.length) :
    Instr.fill place cells.toArray ((i, v) :: rest) = Instr.fill place (spl cells off vs).toArray rest := by
  have hf := set_spl vs off cells.toArray (by simp; omega)
  simp only [Instr.fill, hp]
  rw [hv]
  rw [if_neg (by simp [hl]; omega)]
  rw [hf]
theorem fill_all {s : Nat} : ∀ (vss : List (List Value)) (i : Nat) (cells : List Value) (vs : List Value), (∀ x ∈ vss, x.length = s) → cells.length = (i + vss.length) * s →
    Instr.fill (fun j => some (j * s, s)) cells.toArray ((vss.zipIdx i).map fun p => (p.2, .agg p.1.toArray)) = some (cells.take (i * s) ++ vss.flatten).toArray
  | [], i, cells, vs, h, hl => by
    simp only [List.length_nil, Nat.add_zero] at hl
    simp only [List.zipIdx_nil, List.map_nil, Instr.fill, List.flatten_nil, List.append_nil]
    rw [List.take_of_length_le (by omega)]
  | x :: vss, i, cells, vs, h, hl => by
    have hx := h x (List.mem_cons_self ..)
    have hmul : (i + (vss.length + 1)) * s = i * s + s + vss.length * s := by rw [Nat.add_mul, Nat.add_mul]; omega
    have hl2 : cells.length = i * s + s + vss.length * s := by rw [← hmul, hl, List.length_cons]
    have hm2 : (i + 1 + vss.length) * s = i * s + s + vss.length * s := by rw [Nat.add_mul, Nat.add_mul, Nat.one_mul]
    have hm3 : (i + 1) * s = i * s + s := by rw [Nat.add_mul, Nat.one_mul]
    rw [List.zipIdx_cons, List.map_cons, fill_cons (off := i * s) (size := s) (vs := x) rfl rfl hx (by omega)]
    rw [fill_all vss (i + 1) _ vs (fun y hy => h y (List.mem_cons_of_mem _ hy)) (by rw [spl_length (by omega), hl2, hm2])]
    congr 2
    rw [List.flatten_cons, ← List.append_assoc]
    congr 1
    unfold spl
    rw [hm3, List.take_append_of_le_length (by rw [List.length_append, List.length_take]; omega)]
    exact List.take_of_length_le (by rw [List.length_append, List.length_take]; omega)
section
variable {P : Program} [Types P] {w0 : World} {L : Slots} {M : List Ent} {t e : TypeId} {x : Operand} {v : Value}
def evA (L : Slots) : Nat → List (Nat × Operand) → Option (List (List Value))
  | _, [] => some []
  | i, (j, x) :: r => match Nat.beq j i with
    | true => (match ev L x with
      | some (.agg c) => (match evA L (i + 1) r with
        | some vs => some (c.toList :: vs)
        | none => none)
      | _ => none)
    | false => none
omit [Types P] in
theorem evA_spec {ρ : Operand → Value} (hρ : ∀ x u, ev L x = some u → ρ x = u) : ∀ (ps : List (Nat × Operand)) (i : Nat) (vss : List (List Value)), evA L i ps = some vss → ps.map (fun p => (p.1, ρ p.2)) = (vss.zipIdx i).map fun p => (p.2, .agg p.1.toArray)
  | [], i, vss, h => by simp [evA] at h; subst h; rfl
  | (j, x) :: r, i, vss, h => by
    simp only [evA] at h
    split at h
    · rename_i hb
      have hji : j = i := Nat.eq_of_beq_eq_true hb
      subst hji
      split at h
      · rename_i c hc
        split at h
        · rename_i us hus
          simp only [Option.some.injEq] at h
          subst h
          simp [hρ x _ hc, evA_spec hρ r (j + 1) us hus]
        · cases h
      · cases h
    · cases h
theorem NV.bsA {i : TI} {len s : Nat} {ps : List (Nat × Operand)} {vss : List (List Value)} {cs : List Value} (hp : evA L 0 ps = some vss) (hlen : vss.length = len) (hv : ∀ x ∈ vss, x.length = s) (ht : tyU P t = some (.slice e)) (hi : ty P e = some i) (hs : i.sz = s) (hpos : 0 < len * s) (hle : len * s ≤ 16777216) (hcs : vss.flatten = cs) :
    NV P w0 L M (.buildSlice t len ps.toArray) (fun b => sl (some b) 0 len len) cs e := fun ρ w hρ m o ho => by
  subst hcs hs hlen
  have hf := fill_all (s := i.sz) vss 0 (madeCells i.z.cells (vss.length * i.sz)).toList [] hv (by simp [size_madeCells])
  rw [Nat.zero_mul, List.take_zero, List.nil_append, ← evA_spec hρ ps 0 vss hp] at hf
  obtain ⟨_, ti, g1, g2, g3, g4⟩ := ty_ok hi
  have e2 : ¬ (16777216 < vss.length * i.sz) := by omega
  have e3 : ¬ (vss.length * i.sz = 0) := by omega
  rw [Array.toArray_toList] at hf
  unfold madeCells at hf
  simp [execOp, ho, Instr.buildSlice, tyU_run ht, Go.sizeOf, typeInfo, zeroValue, g1, g2, g4, e2, e3, hf, newRow, sl, blk]
omit [Types P] in
theorem OW.ofN {n : Nat} {ops : Array Oper} {Q : Exit → Act → World → Prop} {rest : List Oper} {op : Op} {l : List Value} {te ty1 : TypeId} {pos : String} {aft : Array Edge} {d : Nat} {f : Nat → Value} (h : NV P w0 L M op f l te) (hd : Nat.blt d n = true)
    (k : ∀ b : Nat, OW P n ops Q w0 rest ((d, f b) :: L) ((some b, blk l te) :: M)) : OW P n ops Q w0 (⟨some d, op, ty1, pos, aft, none⟩ :: rest) L M := OW.new h hd k
theorem RV.loadAs {a : Addr} {u : TypeDesc} {vs : List Value} {s : Nat} (hx : ev L x = some (.pointer (some a))) (hu : tyU P t = some u) (hg : TypeDesc.agg u = true) (hsz : tyS P t = some s)
    (hv : Mem.Says w0 M (fun w => ∀ j u, vs[j]? = some u → w.cell? (a.add j) = some u)) (hl : vs.length = s) : RV P w0 L M (.load t x) (.agg vs.toArray) := RV.loadA_at hx hu hg (by rw [hl]; exact hsz) hv
theorem RV.loadAo {ob : Option Nat} {i : Nat} {l vs : List Value} {te : TypeId} {u : TypeDesc} {s : Nat} (hx : ev L x = some (ptr ob i)) (he : (ob, blk l te) ∈ M) (hs : ob.isSome = true) (hu : tyU P t = some u) (hg : TypeDesc.agg u = true) (hsz : tyS P t = some s)
    (hv : ∀ j u, vs[j]? = some u → l[i + j]? = some u) (hl : vs.length = s) : RV P w0 L M (.load t x) (.agg vs.toArray) := RV.loadA hx he hs hu hg (by rw [hl]; exact hsz) hv
theorem RV.indexStr {y : Operand} {s : ByteArray} {k : IntKind} {i : Nat} (b : BitVec 8) (hx : ev L x = some (.string s)) (hy : ev L y = some (.int k (i : Int))) (ht : tyU P t = some .string) (hb : (s[i]?).map (fun c => c.toNat) = some b.toNat) : RV P w0 L M (.index t x y) (U8 b) := fun ρ w hρ m o ho => by
  obtain ⟨c, hc, e⟩ := Option.map_eq_some_iff.1 hb
  simp [execOp, ho, hρ x _ hx, hρ y _ hy, Instr.index, asIntOf, tyU_run ht, hc, U8, ← e]
def evP (L : Slots) : List (Nat × Operand) → Option (List (Nat × Value))
  | [] => some []
  | (j, x) :: r => match ev L x with
    | some v => (match evP L r with
      | some vs => some ((j, v) :: vs)
      | none => none)
    | none => none
omit [Types P] in
theorem evP_spec {ρ : Operand → Value} (hρ : ∀ x u, ev L x = some u → ρ x = u) : ∀ (ps : List (Nat × Operand)) (vs : List (Nat × Value)), evP L ps = some vs → ps.map (fun p => (p.1, ρ p.2)) = vs
  | [], vs, h => by simp [evP] at h; subst h; rfl
  | (j, x) :: r, vs, h => by
    simp only [evP] at h
    split at h
    · rename_i v hv
      split at h
      · rename_i us hus
        simp only [Option.some.injEq] at h
        subst h
        simp [hρ x _ hv, evP_spec hρ r us hus]
      · cases h
    · cases h
def setL (l : List Value) (ps : List (Nat × Value)) : List Value := ps.foldl (fun l p => l.set p.1 p.2) l
theorem fill_sets : ∀ (ps : List (Nat × Value)) (cells : List Value), (∀ p ∈ ps, p.2.oneCell' = true ∧ p.1 < cells.length) → Instr.fill (fun j => some (j * 1, 1)) cells.toArray ps = some (setL cells ps).toArray
  | [], cells, h => rfl
  | (j, v) :: r, cells, h => by
    obtain ⟨h1, h2⟩ := h (j, v) (List.mem_cons_self ..)
    have hs : spl cells j [v] = cells.set j v := by
      unfold spl
      rw [List.set_eq_take_append_cons_drop, if_pos h2]
      simp
    rw [fill_cons (vs := [v]) (off := j) (size := 1) (by rw [Nat.mul_one]) (by rw [cells_one h1]) rfl (by have : j < cells.length := h2; omega), hs]
    exact fill_sets r (cells.set j v) (fun p hp => by
      obtain ⟨a, b⟩ := h p (List.mem_cons_of_mem _ hp)
      exact ⟨a, by rw [List.length_set]; exact b⟩)
theorem RV.buildA {i : TI} {l cs : List Value} {k : Nat} {ps : List (Nat × Operand)} {vs : List (Nat × Value)} (hi : ty P t = some i) (hu : i.u = .array k e) (hs : tyS P e = some 1) (hl : i.z.cells = l.toArray) (hp : evP L ps = some vs) (hb : vs.all (fun p => p.2.oneCell' && Nat.blt p.1 l.length) = true) (hcs : setL l vs = cs) :
    RV P w0 L M (.build t ps.toArray) (.agg cs.toArray) := fun ρ w hρ m o ho => by
  subst hcs
  obtain ⟨h0, ti, h1, h2, h3, h4⟩ := ty_ok hi
  rw [hu] at h0
  have hsz := tyS_run (P := P) hs w
  have hf := fill_sets vs l (fun p hp => by
    have := List.all_eq_true.1 hb p hp
    simpa using this)
  have he := evP_spec hρ ps vs hp
  simp only [Nat.mul_one] at hf
  simp [execOp, ho, Instr.build, zeroValue, typeInfo, h1, h4, run_underlying h0, hsz, hl, he, hf]
variable {n : Nat} {ops : Array Oper} {Q : Exit → Act → World → Prop} {rest : List Oper} {ty1 : TypeId} {pos : String} {aft : Array Edge} {d : Nat} {y : Operand}
theorem OW.copyS {ob : Option Nat} {off len cap m c s : Nat} {l vs : List Value} {te : TypeId} {B : Option Addr} {t2 : TypeId} (hx : ev L x = some (sl ob off len cap)) (hy : ev L y = some (.slice B m c)) (ht : tyU P t = some (.slice e)) (hs : tyS P e = some s)
    (hn : ob = none → len = 0) (hl : off + len * s ≤ l.length) (hR : Mem.Says w0 ((ob, blk l te) :: M) (fun w => Rd w B vs)) (hvl : vs.length = m * s) (hv1 : ∀ u ∈ vs, u.oneCell' = true) (hB : B = none → m = 0) (hd : Nat.blt d n = true)
    (k : OW P n ops Q w0 rest ((d, .int .i64 ((min m len : Nat) : Int)) :: L) ((ob, blk (spl l off (vs.take (min m len * s))) te) :: M)) :
    OW P n ops Q w0 (⟨some d, .call ⟨.builtin .copy, #[x, y], #[t, t2]⟩, ty1, pos, aft, none⟩ :: rest) L ((ob, blk l te) :: M) := by
  refine OW.av (τ := Unit) (I := fun _ => True) (v := fun _ => .int .i64 ((min m len : Nat) : Int)) (M' := fun _ => (ob, blk (spl l off (vs.take (min m len * s))) te) :: M) (fun ρ w hρ mm o ho => ?_) hd (fun _ _ => k)
  have hrd := hR w mm
  have hfc : (Builtin.firstCells s (min m len) (.slice B m c)).run P w = .ok (vs.take (min m len * s)).toArray w := by
    cases B with
    | none =>
      have h0 := hB rfl
      subst h0
      have : vs = [] := List.length_eq_zero_iff.1 (by rw [hvl, Nat.zero_mul])
      subst this
      simp [Builtin.firstCells]
    | some a => exact run_firstCells_some (P := P) w s (min m len) a m c _ (by rw [List.length_take, hvl]; exact (Nat.min_eq_left (Nat.mul_le_mul_right s (Nat.min_le_left m len)))) (fun j u hj => hrd.2 j u (by
        rw [List.getElem?_take] at hj
        split at hj
        · exact hj
        · cases hj))
  have hlen : (Builtin.lenOf (.slice B m c)).run P w = .ok m w := rfl
  have hnm : Nat.min m len = min m len := rfl
  cases ob with
  | none =>
    have h0 := hn rfl
    subst h0
    refine ⟨(), w, trivial, ?_, mm.tail.nil_ent _⟩
    have hfc0 : (Builtin.firstCells s 0 (.slice B m c)).run P w = .ok #[] w := by simpa using hfc
    simp [execOp, ho, resolve, hρ x _ hx, hρ y _ hy, invoke, builtin, Builtin.copy_, tyU_run ht, tyS_run hs, sl, hlen, goInt, hfc0]
  | some b =>
    have hm := mm.ents _ (List.mem_cons_self ..) b rfl
    have hroom : off + 0 + (vs.take (min m len * s)).length ≤ l.toArray.size := by
      have h1 : min m len * s ≤ len * s := Nat.mul_le_mul_right s (Nat.min_le_right m len)
      have h2 : (vs.take (min m len * s)).length ≤ min m len * s := by rw [List.length_take]; exact Nat.min_le_left _ _
      rw [List.size_toArray]; omega
    have hst := run_storeCells_at (P := P) b off te (vs.take (min m len * s)) 0 l.toArray w hm.2 hroom (fun v hv => hv1 v (List.mem_of_mem_take hv))
    simp only [Nat.add_zero] at hst
    refine ⟨(), _, trivial, ?_, mm.turned (w' := w.setRow b (l.toArray.toList.take off ++ vs.take (min m len * s) ++ l.toArray.toList.drop (off + (vs.take (min m len * s)).length)).toArray) rfl rfl rfl (by simp [World.setRow]) ?_ ?_⟩
    · have hst' := hst
      simp only [execOp, ho, resolve, Array.map, invoke, builtin] at hst' ⊢
      simp [hρ x _ hx, hρ y _ hy, Builtin.copy_, tyU_run ht, tyS_run hs, sl, hlen, hfc, hnm, goInt, hst]
    · intro b' hb'
      cases hb'
      rw [setRow_heap w b l.toArray _ te (0, 0) hm.2]
      simp [blk, spl]
    · intro kk hk
      exact setRow_other _ _ _ _ (fun e => hk (by rw [e]))
theorem made_flat (zs : List Value) (c : Nat) : (madeCells zs.toArray (c * zs.length)).toList = (List.replicate c zs).flatten := by
  apply List.ext_getElem?
  intro k
  have hlen : ((List.replicate c zs).flatten).length = c * zs.length := by simp
  by_cases hk : k < c * zs.length
  · have hpos : 0 < zs.length := by
      rcases Nat.eq_zero_or_pos zs.length with h | h
      · rw [h] at hk; omega
      · exact h
    have hu : ((List.replicate c zs).flatten)[k]? = some (((List.replicate c zs).flatten)[k]'(by omega)) := List.getElem?_eq_getElem (by omega)
    obtain ⟨x, h1, h2⟩ := flatMap_get (fun x => x) zs.length hpos (List.replicate c zs) (fun x hx => by rw [(List.mem_replicate.1 hx).2]) k _ (by rw [List.flatMap_id']; exact hu)
    have hx : x = zs := by
      have := List.mem_of_getElem? h1
      exact (List.mem_replicate.1 this).2
    subst hx
    rw [hu, ← h2]
    have hm : k % x.length < x.length := Nat.mod_lt _ hpos
    simp [madeCells, hk, hm]
  · rw [List.getElem?_eq_none (by simp [madeCells]; omega), List.getElem?_eq_none (by omega)]
theorem OW.makeS {kl kc : IntKind} {i : TI} {zs : List Value} {s : Nat} (l c : Nat) {il ic : Int} (hx : ev L x = some (.int kl il)) (hl : il = (l : Int)) (hy : ev L y = some (.int kc ic)) (hc : ic = (c : Int)) (ht : tyU P t = some (.slice e)) (hi : ty P e = some i) (hs : i.sz = s) (hz : i.z.cells = zs.toArray) (hzl : zs.length = s)
    (hlc : l ≤ c) (hb : i.bytes * c ≤ 281474976710656) (h63 : c ≤ 9223372036854775807) (hd : Nat.blt d n = true) (k : ∀ b : Nat, OW P n ops Q w0 rest ((d, sl (some b) 0 l c) :: L) ((some b, blk (List.replicate c zs).flatten e) :: M)) :
    OW P n ops Q w0 (⟨some d, .makeSlice t x y, ty1, pos, aft, none⟩ :: rest) L M :=
  OW.new (f := fun b => sl (some b) 0 l c) (fun ρ w hρ m o ho => by
    subst hl hc hs
    obtain ⟨_, ti, h1, h2, h3, h4⟩ := ty_ok hi
    have hm := run_make (P := P) w t e ti i.z (tyU_ok ht) h1 h4 kl kc (l : Int) (c : Int) (by omega) (by omega) (by rw [h3]; have : ((i.bytes * c : Nat) : Int) = (i.bytes : Int) * (c : Int) := Int.natCast_mul _ _; omega) (by omega)
    simp only [Int.toNat_natCast, h2, hz] at hm
    have e1 : madeCells zs.toArray (c * i.sz) = ((List.replicate c zs).flatten).toArray := by
      apply Array.ext'
      rw [← hzl, made_flat]
    rw [e1] at hm
    simpa [execOp, ho, hρ x _ hx, hρ y _ hy, sl, blk] using congrArg (fun r => r.andThen fun v w => .ok (Next.value v) w) hm) hd k
theorem SV.storeAs {ob : Option Nat} {i s : Nat} {l vs : List Value} {te : TypeId} (hx : ev L x = some (ptr ob i)) (hs : ob.isSome = true) (hy : ev L y = some (.agg vs.toArray)) (h1 : ∀ v ∈ vs, v.oneCell' = true) (hsz : tyS P t = some s) (hv : vs.length = s) (hi : i + s ≤ l.length) :
    SV P w0 L ((ob, blk l te) :: M) (.store t x y) ((ob, blk (spl l i vs) te) :: M) := SV.storeA hx hs hy h1 (by rw [hv]; exact hsz) (by omega)
theorem replicate_flat {α : Type} (n m : Nat) (z : α) : (List.replicate n (List.replicate m z)).flatten = List.replicate (n * m) z := by simp
theorem make_copyS (vs zs : List Value) {n m s : Nat} (hs : zs.length = s) (hn : vs.length = n * s) (hm : m = n) : spl (List.replicate (n + 1) zs).flatten 0 (vs.take (m * s)) = vs ++ zs := by
  subst hm
  have hl : ((List.replicate (m + 1) zs).flatten).length = m * s + s := by simp [hs, Nat.add_mul]
  rw [← hn, List.take_length, spl_front _ _ (by omega)]
  congr 1
  have e : (List.replicate (m + 1) zs).flatten = (List.replicate m zs).flatten ++ zs := by rw [List.replicate_succ', List.flatten_append]; simp
  have hd : ((List.replicate m zs).flatten).length = vs.length := by simp [hs, hn]
  rw [e, ← hd, List.drop_left]
theorem spl_end (vs zs us : List Value) {p : Nat} (hp : p = vs.length) (hz : zs.length = us.length) : spl (vs ++ zs) p us = vs ++ us := by
  subst hp
  simp [spl, ← hz]
variable {t' : TypeId} {p q : Bool}
theorem run_equal_bool {w : World} (ht : tyU P t = some .bool) : (Op.equal t (.bool p) (.bool q)).run P w = .ok (p == q) w := by
  unfold Op.equal
  have : Op.maxDepth = (Op.maxDepth - 1) + 1 := by decide
  rw [this]
  simp only [Op.equalIn, Sem.run_bind, tyU_run ht, Result.andThen_ok]
  rfl
theorem RV.eqlB (hx : ev L x = some (.bool p)) (hy : ev L y = some (.bool q)) (ht : tyU P t = some .bool) : RV P w0 L M (.binOp .eql t x y t') (.bool (p == q)) := fun ρ w hρ _ o ho => by
  simp [execOp, ho, hρ x _ hx, hρ y _ hy, eqGuard, binOp, run_equal_bool ht]
theorem RV.neqB (hx : ev L x = some (.bool p)) (hy : ev L y = some (.bool q)) (ht : tyU P t = some .bool) : RV P w0 L M (.binOp .neq t x y t') (.bool (!(p == q))) := fun ρ w hρ _ o ho => by
  simp [execOp, ho, hρ x _ hx, hρ y _ hy, eqGuard, binOp, run_equal_bool ht]
theorem RV.eqlB_t (hx : ev L x = some (.bool p)) (hy : ev L y = some (.bool q)) (ht : tyU P t = some .bool) (h : p = q) : RV P w0 L M (.binOp .eql t x y t') (.bool true) := by
  have := RV.eqlB (P := P) (w0 := w0) (M := M) (t := t) (t' := t') hx hy ht
  rw [h, beq_self_eq_true] at this
  exact this
theorem RV.neqB_f (hx : ev L x = some (.bool p)) (hy : ev L y = some (.bool q)) (ht : tyU P t = some .bool) (h : p = q) : RV P w0 L M (.binOp .neq t x y t') (.bool false) := by
  have := RV.neqB (P := P) (w0 := w0) (M := M) (t := t) (t' := t') hx hy ht
  rw [h, beq_self_eq_true] at this
  exact this
end
end Go.Fw
namespace Go.Fw
open Go Go.RowKit Go.Deep Go.WideShapes
set_option linter.unusedVariables false
section
variable {H : Type} {enc : TypeId × Value → H} {P : Program} {W : World} {t e : TypeId} {v : Value}
theorem okWide_agg {n : Nat} {b0 : Nat} (ht : P.underlying t = some (.array n e)) (h : Value.okWide P W .any b0 t v) : ∃ xs : Array Value, v = .agg xs := by
  simp only [Value.okWide, ht] at h
  obtain ⟨cs, h1, _⟩ := h
  exact ⟨cs, h1⟩
theorem okWide_st {fs : Array Field} {b0 : Nat} (ht : P.underlying t = some (.struct fs)) (h : Value.okWide P W .any b0 t v) : ∃ xs : Array Value, v = .agg xs := by
  simp only [Value.okWide, ht] at h
  obtain ⟨cs, h1, _⟩ := h
  exact ⟨cs, h1⟩
theorem reads_arr {α : Type} (f : α → Value) {n : Nat} (ht : P.underlying t = some (.array n e)) (hs : P.cellsOf e = 1) (hct : P.cellsOf t = n)
    (hel : ∀ m c r, reads enc P W m e [c] = some r → ∃ x : α, c = f x) {fuel : Nat} {cs : List Value} {r : DataW H × List MemPlace} (h : reads enc P W fuel t cs = some r) : ∃ xs : List α, cs = xs.map f ∧ xs.length = n := by
  cases fuel with
  | zero => simp [reads, DataW.trod] at h
  | succ fuel =>
    simp only [reads, DataW.trod, ht, hs, hct, Nat.mul_one] at h
    split at h
    · rename_i hl
      obtain ⟨ys, hm, _⟩ := Option.map_eq_some_iff.1 h
      obtain ⟨xs, hlen, hx⟩ := list_of (Q := fun i x => cs[i]? = some (f x)) n (fun i hi => by
        have h1 := (mapM_some_get _ _ _ hm).2 i i (by rw [List.getElem?_range hi])
        have h2 : (cs.drop i).take 1 = [cs[i]] := by rw [List.drop_eq_getElem_cons (by omega)]; rfl
        rw [h2] at h1
        have hy : i < ys.length := by rw [(mapM_some_get _ _ _ hm).1, List.length_range]; exact hi
        rw [List.getElem?_eq_getElem hy] at h1
        obtain ⟨x, hx⟩ := hel fuel _ _ h1
        exact ⟨x, by rw [List.getElem?_eq_getElem (by omega), hx]⟩)
      refine ⟨xs, ?_, hlen⟩
      apply List.ext_getElem?
      intro i
      by_cases hi : i < n
      · rw [List.getElem?_map, List.getElem?_eq_getElem (by omega), List.getElem?_eq_getElem (by omega)]
        have h3 := hx i xs[i] (List.getElem?_eq_getElem (by omega))
        rw [List.getElem?_eq_getElem (by omega)] at h3
        exact h3
      · rw [List.getElem?_eq_none (by omega), List.getElem?_eq_none (by rw [List.length_map]; omega)]
    · cases h
theorem reads_arr8 {n : Nat} (ht : P.underlying t = some (.array n e)) (he : P.underlying e = some (.int .u8)) (hs : P.cellsOf e = 1) (hct : P.cellsOf t = n) {fuel : Nat} {cs : List Value} {r : DataW H × List MemPlace} (h : reads enc P W fuel t cs = some r) : ∃ xs : List (BitVec 8), cs = u8s xs ∧ xs.length = n :=
  reads_arr U8 ht hs hct (fun m c r hr => by
    obtain ⟨x, e⟩ := reads_u8 he hr
    exact ⟨x, by simpa using e⟩) h
theorem reads_arr64 {n : Nat} (ht : P.underlying t = some (.array n e)) (he : P.underlying e = some (.int .u64)) (hs : P.cellsOf e = 1) (hct : P.cellsOf t = n) {fuel : Nat} {cs : List Value} {r : DataW H × List MemPlace} (h : reads enc P W fuel t cs = some r) : ∃ xs : List (BitVec 64), cs = u64s xs ∧ xs.length = n :=
  reads_arr U64 ht hs hct (fun m c r hr => by
    obtain ⟨x, e⟩ := reads_u64 he hr
    exact ⟨x, by simpa using e⟩) h
theorem reads_arr32 {n : Nat} (ht : P.underlying t = some (.array n e)) (he : P.underlying e = some (.int .u32)) (hs : P.cellsOf e = 1) (hct : P.cellsOf t = n) {fuel : Nat} {cs : List Value} {r : DataW H × List MemPlace} (h : reads enc P W fuel t cs = some r) : ∃ xs : List (BitVec 32), cs = u32s xs ∧ xs.length = n :=
  reads_arr U32 ht hs hct (fun m c r hr => by
    obtain ⟨x, e⟩ := reads_u32 he hr
    exact ⟨x, by simpa using e⟩) h
theorem arg_arr8 {n : Nat} (ht : P.underlying t = some (.array n e)) (he : P.underlying e = some (.int .u8)) (hs : P.cellsOf e = 1) (hct : P.cellsOf t = n) {b0 : Nat} (hval : Value.okWide P W .any b0 t v) {d : DataW H} {ps : List MemPlace} (h : DataW.Trod enc P W 0 (fun _ => true) true t v d ps) : ∃ xs : List (BitVec 8), v = .agg (u8s xs).toArray ∧ xs.length = n := by
  obtain ⟨cs, rfl⟩ := okWide_agg ht hval
  obtain ⟨fuel, hf⟩ := h
  obtain ⟨xs, e, hl⟩ := reads_arr8 ht he hs hct (r := (d, ps)) (by simpa [Value.cells] using hf)
  exact ⟨xs, by rw [← e], hl⟩
theorem arg_arr64 {n : Nat} (ht : P.underlying t = some (.array n e)) (he : P.underlying e = some (.int .u64)) (hs : P.cellsOf e = 1) (hct : P.cellsOf t = n) {b0 : Nat} (hval : Value.okWide P W .any b0 t v) {d : DataW H} {ps : List MemPlace} (h : DataW.Trod enc P W 0 (fun _ => true) true t v d ps) : ∃ xs : List (BitVec 64), v = .agg (u64s xs).toArray ∧ xs.length = n := by
  obtain ⟨cs, rfl⟩ := okWide_agg ht hval
  obtain ⟨fuel, hf⟩ := h
  obtain ⟨xs, e, hl⟩ := reads_arr64 ht he hs hct (r := (d, ps)) (by simpa [Value.cells] using hf)
  exact ⟨xs, by rw [← e], hl⟩
theorem arg_arr32 {n : Nat} (ht : P.underlying t = some (.array n e)) (he : P.underlying e = some (.int .u32)) (hs : P.cellsOf e = 1) (hct : P.cellsOf t = n) {b0 : Nat} (hval : Value.okWide P W .any b0 t v) {d : DataW H} {ps : List MemPlace} (h : DataW.Trod enc P W 0 (fun _ => true) true t v d ps) : ∃ xs : List (BitVec 32), v = .agg (u32s xs).toArray ∧ xs.length = n := by
  obtain ⟨cs, rfl⟩ := okWide_agg ht hval
  obtain ⟨fuel, hf⟩ := h
  obtain ⟨xs, e, hl⟩ := reads_arr32 ht he hs hct (r := (d, ps)) (by simpa [Value.cells] using hf)
  exact ⟨xs, by rw [← e], hl⟩
theorem arg_arrs8 {n eb : Nat} {e2 : TypeId} (ht : P.underlying t = some (.slice e)) (he : P.underlying e = some (.array n e2)) (he2 : P.underlying e2 = some (.int .u8)) (hs2 : P.cellsOf e2 = 1) (hs : P.cellsOf e = n) (hpos : 0 < n) (hb : P.bytesOf e = eb) {b0 : Nat} (hval : Value.okWide P W .any b0 t v) {d : DataW H} {ps : List MemPlace} (h : DataW.Trod enc P W 0 (fun _ => true) true t v d ps) (hz : Fits P t d) :
    ∃ (A : Option Addr) (cap : Nat) (xs : List (List (BitVec 8))) (el sp : List (DataW H)), v = .slice A xs.length cap ∧ xs.length ≤ cap ∧ (A = none → cap = 0) ∧ Rd W A (xs.flatMap u8s) ∧ Els d el sp ∧ el.length = xs.length ∧ el.length + sp.length = cap ∧ cap * eb ≤ 140737488351232 ∧ ∀ x ∈ xs, x.length = n := by
  obtain ⟨A, cap, xs, el, sp, h1, h2, h3, h4, h5, h6, h7, h8, h9, h10⟩ := arg_slice (α := List (BitVec 8)) u8s (fun x _ => x.length = n) n ht hs hpos (fun m cs r _ hr => by
    obtain ⟨x, rfl, hl⟩ := reads_arr8 he he2 hs2 hs hr; exact ⟨x, rfl, hl⟩) hval h
  have := (hz.slice ht h7).1
  rw [hb, h9] at this
  refine ⟨A, cap, xs, el, sp, h1, h2, h4, h6, h7, h8, h9, by simpa [reachBytes] using this, fun x hx => ?_⟩
  obtain ⟨i, hi⟩ := List.getElem?_of_mem hx
  have hlt := (List.getElem?_eq_some_iff.1 hi).1
  exact h10 i x (el[i]'(by omega)) hi (by simp)
end
theorem u32s_set' (l : List (BitVec 32)) (i : Nat) (v : BitVec 32) : (u32s l).set i (U32 v) = u32s (l.set i v) := by simp [u32s, List.map_set]
theorem u64s_set' (l : List (BitVec 64)) (i : Nat) (v : BitVec 64) : (u64s l).set i (U64 v) = u64s (l.set i v) := by simp [u64s, List.map_set]
section
variable {P : Program} [Types P] {n : Nat} {ops : Array Oper} {Q : Exit → Act → World → Prop} {w0 : World} {L : Slots} {M : List Ent} {rest : List Oper} {t e ty1 : TypeId} {pos : String} {aft : Array Edge} {d : Nat} {x y : Operand} {v : Value}
theorem OW.app1 {i : TI} {z : Value} {ob : Option Nat} {b len cap : Nat} {l r : List Value} (hx : ev L x = some (sl ob 0 len cap)) (hy : ev L y = some (sl (some b) 0 1 1)) (h1 : v.oneCell' = true) (ht : tyU P t = some (.slice e)) (hi : ty P e = some i) (hs : i.sz = 1) (hz : i.z.cells = #[z])
    (hl : l.length = len) (hr : (l ++ r).length = cap) (hn : ob = none → cap = 0) (h63 : len + 1 ≤ 9223372036854775807) (hb : (len + 1) * i.bytes ≤ 140737488355328) (hd : Nat.blt d n = true)
    (k : ∀ (ob' : Option Nat) (r' : List Value) (cap' : Nat), (l ++ [v] ++ r').length = cap' → (ob' = none → cap' = 0) → OW P n ops Q w0 rest ((d, sl ob' 0 (len + 1) cap') :: L) ((ob', blk (l ++ [v] ++ r') e) :: M)) :
    OW P n ops Q w0 (⟨some d, .call ⟨.builtin .append, #[x, y], #[t, t]⟩, ty1, pos, aft, none⟩ :: rest) L ((some b, blk [v] e) :: (ob, blk (l ++ r) e) :: M) := by
  refine OW.rot1 (OW.append (P := P) (vs := [v]) (s := 1) hx hy ht hi hs ht (by omega) (by omega) hn ?_ rfl (fun u hu => by simp at hu; exact hu ▸ h1) (fun h => nomatch h) (by omega) h63 hb (by rw [hz]; rfl) hd (fun ob' r' cap' h2 h3 => ?_))
  · intro w m
    exact m.rdl (List.Mem.tail _ (List.Mem.head _)) (fun h => nomatch h)
  · exact OW.drop1 (k ob' r' cap' (by omega) h3)
end
end Go.Fw
namespace Go.Fw
open Go
theorem laid_tab {P : Program} {W : World} {l : List (String × DataW Unit)} {name : String} {k : IntKind} {zs : List Int} (h : laidMetH P l W) (hh : (l.filter fun x => x.2.handleName?.isSome) = []) (hf : (l.filter fun x => x.1 == name) = [(name, Lib.tabData k zs)]) {g : Nat} {t e : TypeId} {n : Nat}
    (hg : P.globalNamed name = some g) (hty : (P.globals[g]?).map (·.type) = some t) (ht : P.underlying t = some (.array n e)) (he : P.underlying e = some (.int k)) (hce : P.cellsOf e = 1) (hct : P.cellsOf t = n) (i : Nat) (hi : i < zs.length) :
    W.cell? ⟨g, i, none⟩ = some (.int k (zs.getD i 0)) := by
  unfold laidMetH at h
  rw [hh] at h
  have h2 := laidMet.filter (fun x => x.1 == name) h
  rw [hf] at h2
  exact (Lib.tabIs_of_head hg hty ht he hce hct h2).cell hg i hi
theorem laid_u32 {P : Program} {W : World} {l : List (String × DataW Unit)} {name : String} {K : List (BitVec 32)} (h : laidMetH P l W) (hh : (l.filter fun x => x.2.handleName?.isSome) = []) (hf : (l.filter fun x => x.1 == name) = [(name, Lib.tabData .u32 (K.map fun x => (x.toNat : Int)))]) {g : Nat} {t e : TypeId} {n : Nat}
    (hg : P.globalNamed name = some g) (hty : (P.globals[g]?).map (·.type) = some t) (ht : P.underlying t = some (.array n e)) (he : P.underlying e = some (.int .u32)) (hce : P.cellsOf e = 1) (hct : P.cellsOf t = n) :
    ∀ (j : Nat) (u : Value), (u32s K)[j]? = some u → W.cell? ((⟨g, 0, none⟩ : Addr).add j) = some u := fun j u hj => by
  have hl : j < K.length := by have := (List.getElem?_eq_some_iff.1 hj).1; rwa [u32s_length] at this
  have := laid_tab h hh hf hg hty ht he hce hct j (by rw [List.length_map]; exact hl)
  rw [Addr.add_none, Nat.zero_add, this]
  rw [u32s_get hl] at hj
  rw [← Option.some.inj hj]
  simp [U32, List.getD, hl]
theorem laid_u64 {P : Program} {W : World} {l : List (String × DataW Unit)} {name : String} {K : List (BitVec 64)} (h : laidMetH P l W) (hh : (l.filter fun x => x.2.handleName?.isSome) = []) (hf : (l.filter fun x => x.1 == name) = [(name, Lib.tabData .u64 (K.map fun x => (x.toNat : Int)))]) {g : Nat} {t e : TypeId} {n : Nat}
    (hg : P.globalNamed name = some g) (hty : (P.globals[g]?).map (·.type) = some t) (ht : P.underlying t = some (.array n e)) (he : P.underlying e = some (.int .u64)) (hce : P.cellsOf e = 1) (hct : P.cellsOf t = n) :
    ∀ (j : Nat) (u : Value), (u64s K)[j]? = some u → W.cell? ((⟨g, 0, none⟩ : Addr).add j) = some u := fun j u hj => by
  have hl : j < K.length := by have := (List.getElem?_eq_some_iff.1 hj).1; rwa [u64s_length] at this
  have := laid_tab h hh hf hg hty ht he hce hct j (by rw [List.length_map]; exact hl)
  rw [Addr.add_none, Nat.zero_add, this]
  rw [u64s_get hl] at hj
  rw [← Option.some.inj hj]
  simp [U64, List.getD, hl]
end Go.Fw
namespace Go.Fw
open Go Go.RowKit
set_option linter.unusedVariables false
section
variable {P : Program} [Types P] {w0 : World} {L : Slots} {M : List Ent} {t t' e : TypeId} {x y : Operand} {v : Value}
theorem run_equal_nil {w : World} (ht : tyU P t = some (.pointer e)) : (Op.equal t (.pointer none) (.pointer none)).run P w = .ok true w := by
  unfold Op.equal
  have : Op.maxDepth = (Op.maxDepth - 1) + 1 := by decide
  rw [this]
  simp only [Op.equalIn, Sem.run_bind, tyU_run ht, Result.andThen_ok]
  rfl
theorem run_equal_some {w : World} {a : Addr} (ht : tyU P t = some (.pointer e)) : (Op.equal t (.pointer (some a)) (.pointer none)).run P w = .ok false w := by
  unfold Op.equal
  have : Op.maxDepth = (Op.maxDepth - 1) + 1 := by decide
  rw [this]
  simp only [Op.equalIn, Sem.run_bind, tyU_run ht, Result.andThen_ok]
  rfl
theorem RV.eqlN (hx : ev L x = some (.pointer none)) (hy : ev L y = some (.pointer none)) (ht : tyU P t = some (.pointer e)) : RV P w0 L M (.binOp .eql t x y t') (.bool true) := fun ρ w hρ _ o ho => by
  simp [execOp, ho, hρ x _ hx, hρ y _ hy, eqGuard, binOp, run_equal_nil ht]
theorem RV.neqN (hx : ev L x = some (.pointer none)) (hy : ev L y = some (.pointer none)) (ht : tyU P t = some (.pointer e)) : RV P w0 L M (.binOp .neq t x y t') (.bool false) := fun ρ w hρ _ o ho => by
  simp [execOp, ho, hρ x _ hx, hρ y _ hy, eqGuard, binOp, run_equal_nil ht]
theorem RV.eqlS {a : Addr} (hx : ev L x = some (.pointer (some a))) (hy : ev L y = some (.pointer none)) (ht : tyU P t = some (.pointer e)) : RV P w0 L M (.binOp .eql t x y t') (.bool false) := fun ρ w hρ _ o ho => by
  simp [execOp, ho, hρ x _ hx, hρ y _ hy, eqGuard, binOp, run_equal_some ht]
theorem RV.neqS {a : Addr} (hx : ev L x = some (.pointer (some a))) (hy : ev L y = some (.pointer none)) (ht : tyU P t = some (.pointer e)) : RV P w0 L M (.binOp .neq t x y t') (.bool true) := fun ρ w hρ _ o ho => by
  simp [execOp, ho, hρ x _ hx, hρ y _ hy, eqGuard, binOp, run_equal_some ht]
omit [Types P] in
theorem RV.nilCheck {a : Addr} (hx : ev L x = some (.pointer (some a))) : RV P w0 L M (.nilCheck x) (.pointer (some a)) := fun ρ w hρ _ o ho => by
  simp [execOp, ho, hρ x _ hx]
end
end Go.Fw
namespace Go.Fw
open Go Go.RowKit
set_option linter.unusedVariables false
section
variable {P : Program} [Types P] {n : Nat} {w0 : World} {L : Slots} {M : List Ent}
theorem QW.retCC {fn : Func} {p q : Tmp} {ty ty2 : TypeId} {ob ob2 : Option Nat} {l l2 : List Value} {te te2 : TypeId} {u u2 : TypeDesc} {s s2 : Nat} {τ : Type} {I : τ → Prop} {v : τ → Value} {M' : τ → List Ent} (hr : fn.results = #[.cell p ty, .cell q ty2]) (x : τ) (hI : I x) (hp : lk L p = some (ptr ob 0)) (hq : lk L q = some (ptr ob2 0)) (he : (ob, blk l te) ∈ M) (he2 : (ob2, blk l2 te2) ∈ M) (hs : ob.isSome = true) (hs2 : ob2.isSome = true)
    (hu : tyU P ty = some u) (hg : TypeDesc.agg u = true) (hsz : tyS P ty = some s) (hl : l.length = s) (hu2 : tyU P ty2 = some u2) (hg2 : TypeDesc.agg u2 = true) (hsz2 : tyS P ty2 = some s2) (hl2 : l2.length = s2) (hv : .tuple #[.agg l.toArray, .agg l2.toArray] = v x) (hM : ∀ w, Mem w0 w M → Mem w0 w (M' x)) : QW n (bodyPost P fn (Ends w0 I v M')) w0 .ret L M := QW.intro fun a w f m => by
  refine ⟨f.nd, v x, ?_, x, hI, rfl, hM w m⟩
  have hload := loadVar_run (P := P) m he hs hu hg hsz hl
  have hload2 := loadVar_run (P := P) m he2 hs2 hu2 hg2 hsz2 hl2
  have hp' := f.get p _ hp
  have hq' := f.get q _ hq
  simp [results, hr, hp', hq', ptr, asAddr, hload, hload2, hv]
variable {ops : Array Oper} {Q : Exit → Act → World → Prop} {tail : List Oper} {m f : Nat} {done : Array Bool} {op : Op} {ty1 : TypeId} {pos : String} {aft : Array Edge}
omit [Types P] in
theorem UW.same (i : Nat) {b : Nat} {o : Obj} (ho : ops[i]? = some ⟨none, op, ty1, pos, aft, none⟩) (hr : UR ops m done i = true) (he : (some b, o) ∈ M) (hop : ∀ M', SV P w0 L ((some b, o) :: M') op ((some b, o) :: M'))
    (k : UW P n ops Q w0 tail m f (done.setIfInBounds i true) L M) : UW P n ops Q w0 tail m (f + 1) done L M :=
  UW.take i (C := fun w => Mem w0 w M) (fun w w' h u => u _ h) (fun _ h => h) hr ho undef (fun a fr => .inl ⟨rfl, fun w mm => by
    obtain ⟨h1, h2⟩ := mm.ents _ he b rfl
    have hlt : b < w.heap.size := (Array.getElem?_eq_some_iff.1 h2).1
    have hm : ((some b, o) : Ent) ∈ allEnts w0 w := by
      refine List.mem_map.2 ⟨b - w0.heap.size, List.mem_range.2 (by omega), ?_⟩
      have e1 : w0.heap.size + (b - w0.heap.size) = b := by omega
      simp [e1, h2]
    obtain ⟨s, t, e⟩ := List.append_of_mem hm
    have hp : (allEnts w0 w).Perm ((some b, o) :: (s ++ t)) := by rw [e]; exact List.perm_middle
    obtain ⟨w', hrun, hm'⟩ := hop (s ++ t) a.eval w (fun x u hx => fr.eval hx) (mm.all.perm hp) ⟨none, op, ty1, pos, aft, none⟩ rfl
    rw [hrun]
    exact ⟨rfl, Upw.of_all (hm'.perm hp.symm)⟩⟩) (fun a w fr mm hB inv => k.elim hB inv _ _ fr mm)
end
end Go.Fw
namespace Go.Fw
open Go Go.RowKit
set_option linter.unusedVariables false
set_option linter.unusedSectionVars false
abbrev Ctx := World → Prop
def More (w0 : World) (Φ : Ctx) (B : List Ent) : Ctx := fun w => Φ w ∧ Mem w0 w B
theorem Mem.appR {w0 w : World} {B M : List Ent} (m : Mem w0 w (B ++ M)) : Mem w0 w M := m.sublist (List.sublist_append_right _ _)
theorem Mem.appL {w0 w : World} {B M : List Ent} (m : Mem w0 w (B ++ M)) : Mem w0 w B := m.sublist (List.sublist_append_left _ _)
theorem Mem.drop {w0 w : World} {M : List Ent} (m : Mem w0 w M) (k : Nat) : Mem w0 w (M.drop k) := m.sublist (List.drop_sublist _ _)
theorem Mem.nil {w0 w : World} {M : List Ent} (m : Mem w0 w M) : Mem w0 w [] := m.sublist (List.nil_sublist _)
theorem Mem.assoc {w0 w : World} {A B M : List Ent} (m : Mem w0 w ((A ++ B) ++ M)) : Mem w0 w (A ++ (B ++ M)) := by rwa [List.append_assoc] at m
theorem Mem.join {w0 w : World} {A B M : List Ent} (m : Mem w0 w (A ++ (B ++ M))) : Mem w0 w ((A ++ B) ++ M) := by rwa [List.append_assoc]
theorem Mem.sink {w0 w : World} {A N B M0 : List Ent} (m : Mem w0 w (A ++ N)) (k : Nat) (hN : N.drop k = B ++ M0) : Mem w0 w (N.take k ++ ((A ++ B) ++ M0)) := by
  have e : N = N.take k ++ N.drop k := (List.take_append_drop k N).symm
  rw [e, hN] at m
  refine m.perm ?_
  have h1 := (List.perm_append_comm (l₁ := A) (l₂ := N.take k)).append_right (B ++ M0)
  simpa only [List.append_assoc] using h1
def pickL (M : List Ent) : List Nat → List Ent
  | [] => []
  | i :: r => match M[i]? with
    | some e => e :: pickL M r
    | none => pickL M r
theorem pickL_mem {M : List Ent} : ∀ {is : List Nat} {e : Ent}, e ∈ pickL M is → ∃ i ∈ is, M[i]? = some e
  | i :: r, e, h => by
    unfold pickL at h
    split at h
    · rename_i e' he
      rcases List.mem_cons.1 h with rfl | h
      · exact ⟨i, List.mem_cons_self .., he⟩
      · obtain ⟨j, hj, h2⟩ := pickL_mem h
        exact ⟨j, List.mem_cons_of_mem _ hj, h2⟩
    · obtain ⟨j, hj, h2⟩ := pickL_mem h
      exact ⟨j, List.mem_cons_of_mem _ hj, h2⟩
def pickOk (k : Nat) : List Nat → Bool
  | [] => true
  | i :: r => Nat.blt i k && !r.contains i && pickOk k r
theorem Mem.pick {w0 w : World} {M M' : List Ent} (m : Mem w0 w M) (is : List Nat) (k : Nat) (h : pickOk k is = true) (e : pickL M is ++ M.drop k = M') : Mem w0 w M' := by
  subst e
  have key : ∀ (is : List Nat), pickOk k is = true → (pickL M is ++ M.drop k).Pairwise (fun (e e' : Ent) => ∀ b, e.1 = some b → e'.1 ≠ some b) := by
    intro is
    have hap := m.apart
    have hij : ∀ (i j : Nat) (e e' : Ent), i ≠ j → M[i]? = some e → M[j]? = some e' → ∀ b, e.1 = some b → e'.1 ≠ some b := by
      intro i j e e' hne hi hj b hb hb'
      rw [List.pairwise_iff_getElem] at hap
      obtain ⟨h1, h2⟩ := List.getElem?_eq_some_iff.1 hi
      obtain ⟨h3, h4⟩ := List.getElem?_eq_some_iff.1 hj
      rcases Nat.lt_or_gt_of_ne hne with h | h
      · exact hap i j h1 h3 h b (by rw [h2]; exact hb) (by rw [h4]; exact hb')
      · exact hap j i h3 h1 h b (by rw [h4]; exact hb') (by rw [h2]; exact hb)
    induction is with
    | nil => intro _; simpa [pickL] using hap.sublist (List.drop_sublist _ _)
    | cons i r ih =>
      intro h
      simp only [pickOk, Bool.and_eq_true, Nat.blt_eq, Bool.not_eq_true', List.contains_eq_mem, decide_eq_false_iff_not] at h
      obtain ⟨⟨h1, h2⟩, h3⟩ := h
      have := ih h3
      unfold pickL
      split
      · rename_i e he
        rw [List.cons_append, List.pairwise_cons]
        refine ⟨fun e' he' b hb hb' => ?_, this⟩
        rcases List.mem_append.1 he' with he' | he'
        · obtain ⟨j, hj, hje⟩ := pickL_mem he'
          exact hij i j e e' (fun q => h2 (q ▸ hj)) he hje b hb hb'
        · obtain ⟨j, hj⟩ := List.getElem?_of_mem he'
          rw [List.getElem?_drop] at hj
          exact hij i (k + j) e e' (by omega) he hj b hb hb'
      · exact this
  refine ⟨m.os, m.tape, m.output, m.size, m.old, fun e he b hb => ?_, key is h⟩
  rcases List.mem_append.1 he with he | he
  · obtain ⟨i, _, hi⟩ := pickL_mem he
    exact m.ents e (List.mem_of_getElem? hi) b hb
  · exact m.ents e (List.mem_of_mem_drop he) b hb
theorem More.of {w0 : World} {Φ : Ctx} {B M0 N : List Ent} (hΦ : ∀ w, Mem w0 w M0 → Φ w) (k : Nat) {w : World} (m : Mem w0 w N) (hN : N.drop k = B ++ M0) : More w0 Φ B w := by
  have := m.drop k
  rw [hN] at this
  exact ⟨hΦ w this.appR, this.appL⟩
theorem More.app {w0 : World} {Φ : Ctx} {A B : List Ent} {w : World} (m : More w0 Φ (A ++ B) w) : More w0 Φ B w := ⟨m.1, m.2.appR⟩
theorem More.mono {w0 : World} {Φ : Ctx} {A B : List Ent} (h : ∀ w, Mem w0 w A → Mem w0 w B) {w : World} (m : More w0 Φ A w) : More w0 Φ B w := ⟨m.1, h w m.2⟩
theorem More.nil {w0 : World} {Φ : Ctx} {w : World} (m : More w0 Φ [] w) : Φ w := m.1
structure View (Φ : Ctx) (A : Option Addr) (len c s : Nat) (cells : List Value) : Prop where
  rd : ∀ w, Φ w → Rd w A cells
  so : cells ≠ [] → A.isSome = true
  n : cells.length = len * s
  le : len ≤ c
  mx : len ≤ 140737488355328
theorem View.mono {Φ Ψ : Ctx} {A : Option Addr} {len c s : Nat} {cells : List Value} (h : View Φ A len c s cells) (hh : ∀ w, Ψ w → Φ w) : View Ψ A len c s cells := ⟨fun w q => h.rd w (hh w q), h.so, h.n, h.le, h.mx⟩
theorem View.nil {Φ : Ctx} {A : Option Addr} {c s : Nat} : View Φ A 0 c s [] := ⟨fun w _ => Rd.nil _ _, fun h => absurd rfl h, by simp, Nat.zero_le _, by omega⟩
theorem View.hi {Φ : Ctx} {A : Option Addr} {len c s : Nat} {cells : List Value} (h : View Φ A len c s cells) {k : Nat} (hk : k ≤ len) : View Φ A k c s (cells.take (k * s)) :=
  ⟨fun w q => (h.rd w q).take _, fun hn => h.so (fun e => hn (by simp [e])), by rw [List.length_take, h.n]; exact Nat.min_eq_left (Nat.mul_le_mul_right _ hk), Nat.le_trans hk h.le, Nat.le_trans hk h.mx⟩
theorem View.lo {Φ : Ctx} {A : Option Addr} {len c s : Nat} {cells : List Value} (h : View Φ A len c s cells) {k : Nat} (hk : k ≤ len) : View Φ (subA A c k s) (len - k) (c - k) s (cells.drop (k * s)) := by
  have hl : cells.length ≤ c * s := by rw [h.n]; exact Nat.mul_le_mul_right _ h.le
  refine ⟨fun w q => (h.rd w q).sub hl, fun hn => ?_, by rw [List.length_drop, h.n, Nat.sub_mul], by have := h.le; omega, by have := h.mx; omega⟩
  have hA := h.so (fun e => hn (by simp [e]))
  unfold subA
  split
  · exact hA
  · simpa using hA
theorem View.isSome {Φ : Ctx} {A : Option Addr} {len c s : Nat} {cells : List Value} (h : View Φ A len c s cells) (hs : 0 < s) {i : Nat} (hi : i < len) : A.isSome = true := h.so (fun e => by
  have h1 := h.n
  rw [e] at h1
  have h2 : 0 < len * s := Nat.mul_pos (by omega) hs
  simp at h1
  omega)
theorem View.zero {Φ : Ctx} {A : Option Addr} {len c s : Nat} {cells : List Value} (h : View Φ A len c s cells) (hs : 0 < s) : A = none → len = 0 := fun e => by
  cases hc : cells with
  | nil => exact Nat.eq_zero_of_not_pos (fun hp => by have h1 := h.n; have h2 : 0 < len * s := Nat.mul_pos hp hs; rw [hc] at h1; simp at h1; omega)
  | cons x r => have := h.so (by simp [hc]); simp [e] at this
theorem View.cell {Φ : Ctx} {A : Option Addr} {len c s : Nat} {cells : List Value} (h : View Φ A len c s cells) {w : World} (q : Φ w) {j : Nat} {u : Value} (hj : cells[j]? = some u) : w.cell? ((A.getD default).add j) = some u := (h.rd w q).cell hj
structure OwnS (ob : Option Nat) (len cap s : Nat) (cells r : List Value) : Prop where
  n : cells.length = len * s
  hr : (cells ++ r).length = cap * s
  hn : ob = none → cap = 0
  mx : len ≤ 140737488355328
theorem OwnS.nil {s : Nat} : OwnS none 0 0 s [] [] := ⟨by simp, by simp, fun _ => rfl, by omega⟩
theorem OwnS.le {ob : Option Nat} {len cap s : Nat} {cells r : List Value} (h : OwnS ob len cap s cells r) (hs : 0 < s) : len ≤ cap := by
  have h1 := h.n
  have h2 := h.hr
  rw [List.length_append, h1] at h2
  exact Nat.le_of_mul_le_mul_right (by omega) hs
theorem OwnS.so {ob : Option Nat} {len cap s : Nat} {cells r : List Value} (h : OwnS ob len cap s cells r) (hs : 0 < s) (hne : cells ≠ []) : ob.isSome = true := by
  cases ob with
  | some _ => rfl
  | none =>
    have h1 := h.hn rfl
    have h2 := h.hr
    rw [h1] at h2
    simp at h2
    exact absurd h2.1 hne
theorem OwnS.view {w0 : World} {ob : Option Nat} {len cap s : Nat} {cells r : List Value} {te : TypeId} (h : OwnS ob len cap s cells r) (hs : 0 < s) {Ψ : Ctx} (hΨ : ∀ w, Ψ w → Mem w0 w [(ob, blk (cells ++ r) te)]) : View Ψ (ob.map fun k => ⟨k, 0, none⟩) len cap s cells :=
  ⟨fun w q => (hΨ w q).rd0 (List.mem_cons_self ..) (fun e => by
    cases hc : cells with
    | nil => rfl
    | cons x r => have := h.so hs (by simp [hc]); simp [e] at this), fun hne => by have := h.so hs hne; cases ob <;> simp_all, h.n, h.le hs, h.mx⟩
section
variable {P : Program} {n : Nat} {Q : Exit → Act → World → Prop} {w0 : World} {L : Slots} {M : List Ent} {x y : Code} {c : Code}
def Joined (n : Nat) (w0 : World) (J : Slots → List Ent → Prop) (a : Act) (w : World) : Prop := ∃ L' M', J L' M' ∧ Fr n L' a ∧ Mem w0 w M'
theorem CW.seqJ (J : Slots → List Ent → Prop) (hy : ∀ L M, J L M → CW P n Q w0 y L M) (hx : CW P n (Exit.then (Joined n w0 J) Q) w0 x L M) : CW P n Q w0 (.seq x y) L M := by
  refine CW.seq (CW.intro fun a w f m => wp_mono (hx.elim a w f m) ?_)
  intro e a w h
  cases e <;> first
    | exact h
    | (obtain ⟨L', M', h1, h2, h3⟩ := h; exact (hy L' M' h1).elim a w h2 h3)
theorem QW.join {J : Slots → List Ent → Prop} {L' : Slots} {M' : List Ent} (h : J L' M') (hL : Sub L L') (hM : ∀ w, Mem w0 w M → Mem w0 w M') : QW n (Exit.then (Joined n w0 J) Q) w0 .normal L M := QW.intro fun a w f m => ⟨L', M', h, f.weaken hL, hM w m⟩
def AgainJ (n : Nat) (w0 : World) (J : Nat → Slots → List Ent → Prop) (k : Nat) (a : Act) (w : World) : Prop := ∃ k' L' M', k' < k ∧ J k' L' M' ∧ Fr n L' a ∧ Mem w0 w M'
theorem CW.loopJ (J : Nat → Slots → List Ent → Prop) {k0 : Nat} {L0 : Slots} {M0 : List Ent} (h0 : J k0 L0 M0) (hL : Sub L L0) (hM : ∀ w, Mem w0 w M → Mem w0 w M0)
    (round : ∀ k L M, J k L M → CW P n (Exit.then (AgainJ n w0 J k) Q) w0 c L M) : CW P n Q w0 (.loop c) L M := by
  refine CW.loop (σ := Nat × Slots × List Ent) (fun s => J s.1 s.2.1 s.2.2) (fun s => s.2.1) (fun s => s.2.2) (fun s => s.1) (k0, L0, M0) h0 hL hM ?_
  rintro ⟨k, L, M⟩ hJ
  refine CW.intro fun a w f m => wp_mono ((round k L M hJ).elim a w f m) ?_
  intro e a w h
  cases e <;> first
    | exact h
    | (obtain ⟨k', L', M', h0, h1, h2, h3⟩ := h; exact ⟨(k', L', M'), h1, h0, h2, h3⟩)
theorem QW.againJ {J : Nat → Slots → List Ent → Prop} {k k' : Nat} {L' : Slots} {M' : List Ent} (hk : k' < k) (h : J k' L' M') (hL : Sub L L') (hM : ∀ w, Mem w0 w M → Mem w0 w M') : QW n (Exit.then (AgainJ n w0 J k) Q) w0 .normal L M := QW.intro fun a w f m => ⟨k', L', M', hk, h, f.weaken hL, hM w m⟩
theorem CW.cond_is {z : Operand} {p : Bool} (b : Bool) (hc : ev L z = some (.bool p)) (hb : p = b) (h : CW P n Q w0 (if b then x else y) L M) : CW P n Q w0 (.cond z x y) L M := by
  subst hb
  refine CW.cond hc (fun e => ?_) (fun e => ?_)
  · subst e; exact h
  · subst e; exact h
theorem CW.is_t {z : Operand} {p : Bool} (hc : ev L z = some (.bool p)) (hb : p = true) (h : CW P n Q w0 x L M) : CW P n Q w0 (.cond z x y) L M := CW.cond_is true hc hb h
theorem CW.is_f {z : Operand} {p : Bool} (hc : ev L z = some (.bool p)) (hb : p = false) (h : CW P n Q w0 y L M) : CW P n Q w0 (.cond z x y) L M := CW.cond_is false hc hb h
def DoesJ (P : Program) (f : FuncId) (args : List Value) (w0 : World) (M : List Ent) (R : Value → List Ent → Prop) : Prop :=
  Does P f args w0 M (τ := Value × List Ent) (fun q => R q.1 q.2) (fun q => q.1) (fun q => q.2)
theorem Does.toJ {f : FuncId} {args : List Value} {τ : Type} {I : τ → Prop} {v : τ → Value} {M' : τ → List Ent} (h : Does P f args w0 M I v M') : DoesJ P f args w0 M (fun u N => ∃ q, I q ∧ u = v q ∧ N = M' q) := fun w m =>
  (h w m).mono fun e w' ⟨q, h1, h2, h3⟩ => ⟨(v q, M' q), ⟨q, h1, rfl, rfl⟩, h2, h3⟩
theorem DoesJ.mono {f : FuncId} {args : List Value} {R R' : Value → List Ent → Prop} (h : DoesJ P f args w0 M R) (hh : ∀ v N, R v N → R' v N) : DoesJ P f args w0 M R' := fun w m =>
  (h w m).mono fun e w' ⟨q, h1, h2, h3⟩ => ⟨q, hh _ _ h1, h2, h3⟩
theorem DoesJ.of_mem {f : FuncId} {args : List Value} {R : Value → List Ent → Prop} (h : ∀ w, Mem w0 w M → DoesJ P f args w0 M R) : DoesJ P f args w0 M R := fun w m => h w m w m
theorem DoesJ.to {f : FuncId} {args : List Value} {R : Value → List Ent → Prop} (h : DoesJ P f args w0 M R) (v : Value) (hh : ∀ u N, R u N → u = v ∧ ∀ w, Mem w0 w N → Mem w0 w M) : Does P f args w0 M (τ := Unit) (fun _ => True) (fun _ => v) (fun _ => M) := fun w m =>
  (h w m).mono fun e w' ⟨q, h1, h2, h3⟩ => ⟨(), trivial, h2.trans (congrArg Ending.returned (hh _ _ h1).1), (hh _ _ h1).2 _ h3⟩
theorem DoesJ.law {f : FuncId} {args : List Value} {W : World} {R : Value → List Ent → Prop} (h : DoesJ P f args W [] R) (hR : ∀ v N, R v N → v = .bool true) : Calls P f args.toArray W fun e W' => e = .returned (.bool true) ∧ Below W.heap.size W W' :=
  (h W (Mem.refl W)).mono fun e W' ⟨q, h1, h2, m⟩ => ⟨h2.trans (congrArg Ending.returned (hR _ _ h1)), m.below⟩
abbrev EndsJ (w0 : World) (R : Value → List Ent → Prop) : Ending → World → Prop := Ends w0 (τ := Value × List Ent) (fun q => R q.1 q.2) (fun q => q.1) (fun q => q.2)
theorem DoesJ.enter {f : FuncId} {fn : Func} {c : Code} {args : List Value} {R : Value → List Ent → Prop} (hf : P.funcs[f]? = some fn) (hb : fn.body = some c) (hn : fn.ntmps = n) (ha : Nat.ble args.length n = true)
    (h : CW P n (bodyPost P fn (EndsJ w0 R)) w0 c (slotsFrom 0 args) M) : DoesJ P f args w0 M R := Does.enter hf hb hn ha h
theorem QW.ret1J {fn : Func} {t : Tmp} {R : Value → List Ent → Prop} {v : Value} {M' : List Ent} (hr : fn.results = #[.tmp t]) (hv : lk L t = some v) (hI : R v M') (hM : ∀ w, Mem w0 w M → Mem w0 w M') :
    QW n (bodyPost P fn (EndsJ w0 R)) w0 .ret L M := QW.ret1 hr (v, M') hI hv hM
theorem QW.ret2J {fn : Func} {t u : Tmp} {R : Value → List Ent → Prop} {v1 v2 : Value} {M' : List Ent} (hr : fn.results = #[.tmp t, .tmp u]) (h1 : lk L t = some v1) (h2 : lk L u = some v2) (hI : R (.tuple #[v1, v2]) M') (hM : ∀ w, Mem w0 w M → Mem w0 w M') :
    QW n (bodyPost P fn (EndsJ w0 R)) w0 .ret L M := QW.ret2 hr (_, M') hI h1 h2 rfl hM
theorem QW.ret0J {fn : Func} {R : Value → List Ent → Prop} {M' : List Ent} (hr : fn.results = #[]) (hI : R (.tuple #[]) M') (hM : ∀ w, Mem w0 w M → Mem w0 w M') (e : Exit) (he : e = .ret ∨ e = .normal) :
    QW n (bodyPost P fn (EndsJ w0 R)) w0 e L M := QW.ret0 hr (_, M') hI rfl hM e he
end
end Go.Fw
namespace Go.Fw
open Go Go.RowKit
set_option linter.unusedVariables false
set_option linter.unusedSectionVars false
theorem Mem.sinkAt {w0 w : World} {N A N2 B M0 : List Ent} (m : Mem w0 w N) (j k : Nat) (h1 : N.drop j = A ++ N2) (h2 : N2.drop k = B ++ M0) : Mem w0 w (N.take j ++ (N2.take k ++ ((A ++ B) ++ M0))) := by
  refine m.perm ?_
  have e1 : N = N.take j ++ (A ++ (N2.take k ++ (B ++ M0))) := by rw [← h2, List.take_append_drop, ← h1, List.take_append_drop]
  have h : (A ++ (N2.take k ++ (B ++ M0))).Perm (N2.take k ++ ((A ++ B) ++ M0)) := by
    have h1 := (List.perm_append_comm (l₁ := A) (l₂ := N2.take k)).append_right (B ++ M0)
    simpa only [List.append_assoc] using h1
  have h3 := List.Perm.append_left (N.take j) h
  rwa [← e1] at h3
theorem Mem.graft {w0 w w' : World} {G M : List Ent} (m : Mem w0 w' (G ++ allEnts w0 w)) (mM : Mem w0 w M) : Mem w0 w' (G ++ M) := by
  have hin : ∀ e ∈ M, ∀ b, e.1 = some b → ((some b, e.2) : Ent) ∈ allEnts w0 w := fun e he b hb => by
    obtain ⟨h1, h2⟩ := mM.ents e he b hb
    have hlt : b < w.heap.size := (Array.getElem?_eq_some_iff.1 h2).1
    refine List.mem_map.2 ⟨b - w0.heap.size, List.mem_range.2 (by omega), ?_⟩
    have e1 : w0.heap.size + (b - w0.heap.size) = b := by omega
    simp [e1, h2]
  have hap := List.pairwise_append.1 m.apart
  refine ⟨m.os, m.tape, m.output, m.size, m.old, fun e he b hb => ?_, List.pairwise_append.2 ⟨hap.1, mM.apart, fun g hg e he b hb hb' => hap.2.2 g hg _ (hin e he b hb') b hb rfl⟩⟩
  rcases List.mem_append.1 he with he | he
  · exact m.ents e (List.mem_append_left _ he) b hb
  · exact m.ents _ (List.mem_append_right _ (hin e he b hb)) b rfl
def DoesG (P : Program) (f : FuncId) (args : List Value) (w0 : World) (E N : List Ent) (R : Value → List Ent → Prop) : Prop :=
  DoesJ P f args w0 (E ++ N) (fun v M' => ∃ G, R v G ∧ M' = G ++ N)
section
variable {P : Program} {n : Nat} {Q : Exit → Act → World → Prop} {w0 : World} {L : Slots} {M E N : List Ent} {f : FuncId} {args : List Value} {R R' : Value → List Ent → Prop}
theorem DoesG.of_mem (h : ∀ w, Mem w0 w (E ++ N) → DoesG P f args w0 E N R) : DoesG P f args w0 E N R := DoesJ.of_mem h
theorem DoesG.mono (h : DoesG P f args w0 E N R) (hh : ∀ v G, R v G → R' v G) : DoesG P f args w0 E N R' := DoesJ.mono h (fun v M' ⟨G, h1, h2⟩ => ⟨G, hh v G h1, h2⟩)
theorem Does.toG {v : Value} (h : Does P f args w0 N (τ := Unit) (fun _ => True) (fun _ => v) (fun _ => N)) : DoesG P f args w0 [] N (fun u G => u = v ∧ G = []) :=
  (Does.toJ h).mono fun u M' ⟨_, _, h1, h2⟩ => ⟨[], ⟨h1, rfl⟩, h2⟩
theorem DoesG.law {W : World} (h : DoesG P f args W [] [] R) (hR : ∀ v G, R v G → v = .bool true) : Calls P f args.toArray W fun e W' => e = .returned (.bool true) ∧ Below W.heap.size W W' :=
  DoesJ.law h (fun v M' ⟨G, h1, _⟩ => hR v G h1)
theorem DoesG.to (h : DoesG P f args w0 [] N R) (v : Value) (hh : ∀ u G, R u G → u = v) : Does P f args w0 N (τ := Unit) (fun _ => True) (fun _ => v) (fun _ => N) :=
  DoesJ.to (M := N) h v (fun u M' ⟨G, h1, h2⟩ => ⟨hh u G h1, fun w m => by rw [h2] at m; exact m.appR⟩)
theorem DoesG.enter {fn : Func} {c : Code} (hf : P.funcs[f]? = some fn) (hb : fn.body = some c) (hn : fn.ntmps = n) (ha : Nat.ble args.length n = true) {M : List Ent} (hE : E ++ N = M)
    (h : CW P n (bodyPost P fn (EndsJ w0 (fun v M' => ∃ G, R v G ∧ M' = G ++ N))) w0 c (slotsFrom 0 args) M) : DoesG P f args w0 E N R := by
  subst hE
  exact DoesJ.enter hf hb hn ha h
def ResOk (P : Program) [Types P] (L : Slots) (M : List Ent) : List ResultVar → List Value → Prop
  | [], [] => True
  | .tmp t :: rs, v :: vs => lk L t = some v ∧ ResOk P L M rs vs
  | .cell p ty :: rs, v :: vs => (∃ b l te u, lk L p = some (ptr (some b) 0) ∧ (some b, blk l te) ∈ M ∧ tyU P ty = some u ∧ TypeDesc.agg u = true ∧ tyS P ty = some l.length ∧ v = .agg l.toArray) ∧ ResOk P L M rs vs
  | _, _ => False
def resF (tmps : Array Value) : ResultVar → Sem Value
  | .tmp t => pure (tmps.getD t undef)
  | .cell a t => do loadVar t (← asAddr (tmps.getD a undef))
theorem ResOk.run [Types P] {a : Act} {w : World} (f : Fr n L a) (m : Mem w0 w M) : ∀ (rs : List ResultVar) (vs : List Value), ResOk P L M rs vs →
    (rs.mapM (resF a.tmps)).run P w = .ok vs w
  | [], [], _ => by simp
  | [], _ :: _, h => by cases h
  | .tmp t :: rs, [], h => by cases h
  | .cell p ty :: rs, [], h => by cases h
  | .tmp t :: rs, v :: vs, h => by
    have ih := ResOk.run f m rs vs h.2
    have ht := f.get t v h.1
    have h1 : (resF a.tmps (.tmp t)).run P w = .ok v w := by simp [resF, ht]
    simp only [List.mapM_cons, Sem.run_bind, h1, ih, Result.andThen, Sem.run_pure]
  | .cell p ty :: rs, v :: vs, h => by
    obtain ⟨⟨b, l, te, u, h1, h2, h3, h4, h5, rfl⟩, h6⟩ := h
    have ih := ResOk.run f m rs vs h6
    have hp := f.get p _ h1
    have hload := loadVar_run (P := P) m h2 rfl h3 h4 h5 rfl
    simp only [Option.getD_some] at hload
    have h1 : (resF a.tmps (.cell p ty)).run P w = .ok (.agg l.toArray) w := by simp [resF, hp, ptr, asAddr, hload]
    simp only [List.mapM_cons, Sem.run_bind, h1, ih, Result.andThen, Sem.run_pure]
theorem ResOk.len [Types P] : ∀ (rs : List ResultVar) (vs : List Value), ResOk P L M rs vs → vs.length = rs.length
  | [], [], _ => rfl
  | [], _ :: _, h => by cases h
  | .tmp t :: rs, [], h => by cases h
  | .cell p ty :: rs, [], h => by cases h
  | .tmp t :: rs, v :: vs, h => by simp [ResOk.len rs vs h.2]
  | .cell p ty :: rs, v :: vs, h => by simp [ResOk.len rs vs h.2]
def tup : List Value → Value
  | [v] => v
  | vs => .tuple vs.toArray
theorem results_run {fn : Func} {rs : List ResultVar} {tmps : Array Value} {vs : List Value} {w : World} (hr : fn.results = rs.toArray) (h : (rs.mapM (resF tmps)).run P w = .ok vs w) : (results fn tmps).run P w = .ok (tup vs) w := by
  have e : results fn tmps = (do let vs ← fn.results.mapM (resF tmps); pure (if h : vs.size = 1 then vs[0] else .tuple vs)) := by
    unfold results
    congr 1
  rw [e, hr]
  simp [h, Result.andThen]
  split
  · rename_i h1
    match vs, h1 with
    | [v], _ => rfl
  · rename_i h1
    match vs, h1 with
    | [], _ => rfl
    | [v], h1 => exact absurd rfl h1
    | _ :: _ :: _, _ => rfl
theorem QW.retG [Types P] {fn : Func} {rs : List ResultVar} (vs : List Value) {v : Value} (G : List Ent) (hr : fn.results = rs.toArray) (hok : ResOk P L M rs vs) (hv : tup vs = v) (hR : R v G) (hM : ∀ w, Mem w0 w M → Mem w0 w (G ++ N)) (e : Exit) (he : e = .ret ∨ e = .normal) :
    QW n (bodyPost P fn (EndsJ w0 (fun v M' => ∃ G, R v G ∧ M' = G ++ N))) w0 e L M := QW.intro fun a w f m => by
  have hrun := results_run (tmps := a.tmps) hr (ResOk.run (P := P) f m rs vs hok)
  rw [hv] at hrun
  have key : bodyPost P fn (EndsJ w0 (fun v M' => ∃ G, R v G ∧ M' = G ++ N)) .ret a w := ⟨f.nd, v, hrun, (v, G ++ N), ⟨G, hR, rfl⟩, rfl, hM w m⟩
  rcases he with rfl | rfl
  · exact key
  · exact key
end
end Go.Fw
namespace Go.Fw
open Go Go.RowKit
set_option linter.unusedVariables false
set_option linter.unusedSectionVars false
section
variable {P : Program} {n : Nat} {Q : Exit → Act → World → Prop} {w0 : World} {L : Slots} {M E N : List Ent} {f : FuncId} {args : List Value} {R : Value → List Ent → Prop}
variable {ops : Array Oper} {rest : List Oper} {ty ty1 : TypeId} {pos : String} {aft : Array Edge} {d : Nat} {v : Value}
theorem OW.mem {M' : List Ent} (hs : ∀ w, Mem w0 w M → Mem w0 w M') (k : OW P n ops Q w0 rest L M') : OW P n ops Q w0 rest L M := OW.intro fun a w f m => k.elim a w f (hs w m)
theorem OW.nilEnt {o : Obj} (k : OW P n ops Q w0 rest L ((none, o) :: M)) : OW P n ops Q w0 rest L M := OW.mem (fun w m => m.nil_ent o) k
theorem OW.callG {xs : List Operand} {ats : Array TypeId} (hc : ∀ (args : Array Value) (w : World), (callFunc f args).run P w = .ok (.enter f args) w)
    (hxs : evs L xs = some args) (hdo : DoesG P f args w0 E N R) (hE : E ++ N = M) (hd : Nat.blt d n = true) (k : ∀ v G, R v G → OW P n ops Q w0 rest ((d, v) :: L) (G ++ N)) :
    OW P n ops Q w0 (⟨some d, .call ⟨.value (.func f), xs.toArray, ats⟩, ty, pos, aft, none⟩ :: rest) L M := by
  subst hE
  exact OW.call hc hxs hdo hd (fun q ⟨G, h1, h2⟩ => by rw [h2]; exact k q.1 G h1)
theorem OW.callG_none {xs : List Operand} {ats : Array TypeId} (hc : ∀ (args : Array Value) (w : World), (callFunc f args).run P w = .ok (.enter f args) w)
    (hxs : evs L xs = some args) (hdo : DoesG P f args w0 E N R) (hE : E ++ N = M) (k : ∀ v G, R v G → OW P n ops Q w0 rest L (G ++ N)) :
    OW P n ops Q w0 (⟨none, .call ⟨.value (.func f), xs.toArray, ats⟩, ty, pos, aft, none⟩ :: rest) L M := by
  subst hE
  exact OW.call_none hc hxs hdo (fun q ⟨G, h1, h2⟩ => by rw [h2]; exact k q.1 G h1)
variable {tail : List Oper} {m g : Nat} {done : Array Bool} {op : Op} {gd : Option (Nat × Bool)}
theorem UW.mem {M' : List Ent} (hs : ∀ w, Mem w0 w M → Mem w0 w M') (k : UW P n ops Q w0 tail m g done L M') : UW P n ops Q w0 tail m g done L M := by
  unfold UW
  exact fun hB inv a w f mm => k.elim hB inv a w f (hs w mm)
theorem UW.callG (i : Nat) {xs : List Operand} {ats : Array TypeId} (ho : ops[i]? = some ⟨some d, .call ⟨.value (.func f), xs.toArray, ats⟩, ty, pos, aft, gd⟩) (hr : (Region.ready .any ops done == [i] && Nat.blt i m) = true) (hw : Wt ops L gd = true)
    (hc : ∀ (args : Array Value) (w : World), (callFunc f args).run P w = .ok (.enter f args) w) (hxs : evs L xs = some args) (hdo : ∀ N, (∀ w, Mem w0 w N → Mem w0 w M) → DoesG P f args w0 [] N R)
    (hd : Nat.blt d n = true) (k : ∀ v G, R v G → UW P n ops Q w0 tail m g (done.setIfInBounds i true) ((d, v) :: L) (G ++ M)) : UW P n ops Q w0 tail m (g + 1) done L M := by
  unfold UW
  exact fun hB inv a w fr mm w' hu => by
    simp only [Bool.and_eq_true, beq_iff_eq] at hr
    obtain ⟨hr, hi⟩ := hr
    have hi' : i < m := by simpa using hi
    refine ⟨by rw [hr]; simp, fun j hj => ?_⟩
    rw [hr] at hj
    obtain rfl : j = i := by simpa using hj
    refine ⟨hi', _, ho, .inl ⟨wt_spec fr hw, ?_⟩⟩
    have hev := evs_map (fun x u hx => fr.eval hx) xs args hxs
    have hrun : (execOp a.eval ⟨some d, .call ⟨.value (.func f), xs.toArray, ats⟩, ty, pos, aft, gd⟩).run P w' = .ok (.enter f args.toArray) w' := by
      simp [execOp, resolve, Deferred.ofValue, Act.eval, invoke, hev, hc]
    rw [hrun]
    have mw := hu _ mm
    refine (hdo (allEnts w0 w') (fun w2 m2 => Upw.of_all m2 _ mw) w' mw.all).mono ?_
    rintro e w2 ⟨q, ⟨G, h1, h2⟩, rfl, m'⟩
    have m' : Mem w0 w2 (G ++ allEnts w0 w') := by have m2 := m'; rwa [show (fun q : Value × List Ent => q.2) q = G ++ allEnts w0 w' from h2] at m2
    exact ⟨_, rfl, Upw.of_all m'.appR, (k q.1 G h1).elim hB (inv.set (by rw [hr]; simp) hi') _ _ (fr.put hd _) (m'.graft mw)⟩
end
section
variable {P : Program} [Types P] {n : Nat} {Q : Exit → Act → World → Prop} {w0 : World} {L : Slots} {M : List Ent}
variable {ops : Array Oper} {rest : List Oper} {ty1 : TypeId} {pos : String} {aft : Array Edge} {d : Nat} {v : Value} {t e : TypeId} {x y : Operand}
theorem OW.appendOwn {i : TI} {ob : Option Nat} {len cap m c s : Nat} {l r vs : List Value} {B : Option Addr} {t2 e2 : TypeId} (hx : ev L x = some (sl ob 0 len cap)) (hy : ev L y = some (.slice B m c)) (ht : tyU P t = some (.slice e)) (hi : ty P e = some i) (hs : i.sz = s) (ht2 : tyU P t2 = some (.slice e2))
    (hl : OwnS ob len cap s l r) (hR : Mem.Says w0 ((ob, blk (l ++ r) e) :: M) (fun w => Rd w B vs)) (hvl : vs.length = m * s) (hv1 : ∀ u ∈ vs, u.oneCell' = true) (hB : B = none → m = 0) (hspos : 0 < s)
    (hby : 0 < i.bytes) (hb : (len + m) * i.bytes ≤ 140737488355328) (hz : i.z.cells.size = s) (hd : Nat.blt d n = true) (len' : Nat) (l' : List Value) (hlen : len + m = len') (hcs : l ++ vs = l')
    (k : ∀ (ob' : Option Nat) (r' : List Value) (cap' : Nat), OwnS ob' len' cap' s l' r' → OW P n ops Q w0 rest ((d, sl ob' 0 len' cap') :: L) ((ob', blk (l' ++ r') e) :: M)) :
    OW P n ops Q w0 (⟨some d, .call ⟨.builtin .append, #[x, y], #[t, t2]⟩, ty1, pos, aft, none⟩ :: rest) L ((ob, blk (l ++ r) e) :: M) := by
  have hm : len + m ≤ (len + m) * i.bytes := Nat.le_mul_of_pos_right _ hby
  subst hlen hcs
  exact OW.append hx hy ht hi hs ht2 hl.n hl.hr hl.hn hR hvl hv1 hB hspos (by omega) hb hz hd (fun ob' r' cap' h1 h2 => k ob' r' cap' ⟨by rw [List.length_append, hl.n, hvl, Nat.add_mul], h1, h2, by omega⟩)
end
theorem some_bind {α β : Type} {o : Option α} {f : α → Option β} {r : β} (h : o.bind f = some r) : ∃ x, o = some x ∧ f x = some r := by
  cases o with
  | none => cases h
  | some x => exact ⟨x, rfl, h⟩
theorem some_if {α : Type} {p : Prop} [Decidable p] {x : Option α} {r : α} (h : (if p then x else none) = some r) : p ∧ x = some r := by
  split at h
  · exact ⟨‹_›, h⟩
  · cases h
theorem if_t {α : Type} {p : Prop} [Decidable p] {x y : Option α} {r : α} (h : (if p then x else y) = some r) (hp : p) : x = some r := by rwa [if_pos hp] at h
theorem if_f {α : Type} {p : Prop} [Decidable p] {x y : Option α} {r : α} (h : (if p then x else y) = some r) (hp : ¬ p) : y = some r := by rwa [if_neg hp] at h
theorem u8s_app (a b : List (BitVec 8)) : u8s a ++ u8s b = u8s (a ++ b) := by simp [u8s]
theorem u32s_app (a b : List (BitVec 32)) : u32s a ++ u32s b = u32s (a ++ b) := by simp [u32s]
theorem u64s_app (a b : List (BitVec 64)) : u64s a ++ u64s b = u64s (a ++ b) := by simp [u64s]
theorem u8s_at {l : List (BitVec 8)} {i : Nat} {x : BitVec 8} (h : l[i]? = some x) : (u8s l)[i]? = some (U8 x) := by simp [u8s, h]
theorem u32s_at {l : List (BitVec 32)} {i : Nat} {x : BitVec 32} (h : l[i]? = some x) : (u32s l)[i]? = some (U32 x) := by simp [u32s, h]
theorem u64s_at {l : List (BitVec 64)} {i : Nat} {x : BitVec 64} (h : l[i]? = some x) : (u64s l)[i]? = some (U64 x) := by simp [u64s, h]
theorem i64s_at {l : List Int} {i : Nat} {x : Int} (h : l[i]? = some x) : (i64s l)[i]? = some (.int .i64 x) := by simp [i64s, h]
inductive Lp (R S : Type) where
  | ret (o : Option R)
  | go (s : S)
end Go.Fw
namespace Go.Fw
open Go Go.RowKit
set_option linter.unusedVariables false
set_option linter.unusedSectionVars false
inductive Reps {T : Type} (R : List Value → T → Prop) : List Value → List T → Prop
  | nil : Reps R [] []
  | cons {c cs : List Value} {x : T} {xs : List T} : R c x → Reps R cs xs → Reps R (c ++ cs) (x :: xs)
namespace Reps
variable {T : Type} {R R' : List Value → T → Prop}
theorem mono (hh : ∀ c x, R c x → R' c x) : ∀ {cs : List Value} {xs : List T}, Reps R cs xs → Reps R' cs xs := by
  intro cs xs h
  induction h with
  | nil => exact .nil
  | cons h _ ih => exact .cons (hh _ _ h) ih
theorem app {as bs : List Value} {xs ys : List T} (h : Reps R as xs) (k : Reps R bs ys) : Reps R (as ++ bs) (xs ++ ys) := by
  induction h with
  | nil => exact k
  | cons h _ ih => rw [List.append_assoc]; exact .cons h ih
theorem one {c : List Value} {x : T} (h : R c x) : Reps R c [x] := by have := Reps.cons h .nil; simpa using this
theorem snoc {as c : List Value} {xs : List T} {x : T} (h : Reps R as xs) (k : R c x) : Reps R (as ++ c) (xs ++ [x]) := h.app (one k)
theorem len {s : Nat} (hl : ∀ c x, R c x → c.length = s) {cs : List Value} {xs : List T} (h : Reps R cs xs) : cs.length = xs.length * s := by
  induction h with
  | nil => simp
  | cons h _ ih => rw [List.length_append, hl _ _ h, ih, List.length_cons, Nat.add_mul]; omega
theorem cell1 (h1 : ∀ c x, R c x → ∀ u ∈ c, u.oneCell' = true) {cs : List Value} {xs : List T} (h : Reps R cs xs) : ∀ u ∈ cs, u.oneCell' = true := by
  induction h with
  | nil => intro u hu; cases hu
  | cons h _ ih =>
    intro u hu
    rcases List.mem_append.1 hu with hu | hu
    · exact h1 _ _ h u hu
    · exact ih u hu
theorem get {s : Nat} (hl : ∀ c x, R c x → c.length = s) {cs : List Value} {xs : List T} (h : Reps R cs xs) : ∀ {i : Nat} {x : T}, xs[i]? = some x → ∃ c, R c x ∧ ∀ j u, c[j]? = some u → cs[i * s + j]? = some u := by
  induction h with
  | nil => intro i x hx; simp at hx
  | @cons c cs y ys h _ ih =>
    intro i x hx
    cases i with
    | zero =>
      simp at hx; subst hx
      exact ⟨c, h, fun j u hj => by rw [Nat.zero_mul, Nat.zero_add, List.getElem?_append_left (List.getElem?_eq_some_iff.1 hj).1]; exact hj⟩
    | succ i =>
      simp at hx
      obtain ⟨c', h1, h2⟩ := ih hx
      refine ⟨c', h1, fun j u hj => ?_⟩
      have h3 := hl _ _ h
      rw [List.getElem?_append_right (by rw [h3, Nat.succ_mul]; omega), h3]
      have := h2 j u hj
      rw [← this]
      congr 1
      rw [Nat.succ_mul]; omega
theorem drop {s : Nat} (hl : ∀ c x, R c x → c.length = s) {cs : List Value} {xs : List T} (h : Reps R cs xs) : ∀ (k : Nat), Reps R (cs.drop (k * s)) (xs.drop k) := by
  induction h with
  | nil => intro k; simp; exact .nil
  | @cons c cs y ys h hr ih =>
    intro k
    cases k with
    | zero => simpa using Reps.cons h hr
    | succ k =>
      have h3 := hl _ _ h
      rw [Nat.succ_mul, Nat.add_comm (k * s) s, ← List.drop_drop, show List.drop s (c ++ cs) = cs by rw [← h3]; simp]
      exact ih k
theorem take {s : Nat} (hl : ∀ c x, R c x → c.length = s) {cs : List Value} {xs : List T} (h : Reps R cs xs) : ∀ (k : Nat), Reps R (cs.take (k * s)) (xs.take k) := by
  induction h with
  | nil => intro k; simp; exact .nil
  | @cons c cs y ys h hr ih =>
    intro k
    cases k with
    | zero => simp; exact .nil
    | succ k =>
      have h3 := hl _ _ h
      rw [show List.take ((k + 1) * s) (c ++ cs) = c ++ cs.take (k * s) by
        rw [List.take_append, h3, List.take_of_length_le (by rw [h3, Nat.succ_mul]; omega)]
        congr 2
        rw [Nat.succ_mul]; omega]
      exact Reps.cons h (ih k)
end Reps
theorem View.load {Φ : Ctx} {A : Option Addr} {len c s : Nat} {cells : List Value} (h : View Φ A len c s cells) {w : World} (q : Φ w) {off : Nat} {cs : List Value} (hc : ∀ j u, cs[j]? = some u → cells[off + j]? = some u) : ∀ j u, cs[j]? = some u → w.cell? (((A.getD default).add off).add j) = some u := fun j u hj => by
  rw [Addr.add_add]; exact h.cell q (hc j u hj)
def BsRd (Φ : Ctx) (cs : List Value) (x : List (BitVec 8)) : Prop := ∃ A c, cs = [.slice A x.length c] ∧ View Φ A x.length c 1 (u8s x)
theorem BsRd.mono {Φ Ψ : Ctx} (hh : ∀ w, Ψ w → Φ w) (cs : List Value) (x : List (BitVec 8)) : BsRd Φ cs x → BsRd Ψ cs x := fun ⟨A, c, h1, h2⟩ => ⟨A, c, h1, h2.mono hh⟩
theorem BsRd.len {Φ : Ctx} (cs : List Value) (x : List (BitVec 8)) (h : BsRd Φ cs x) : cs.length = 1 := by obtain ⟨A, c, rfl, _⟩ := h; rfl
theorem BsRd.one {Φ : Ctx} (cs : List Value) (x : List (BitVec 8)) (h : BsRd Φ cs x) : ∀ u ∈ cs, u.oneCell' = true := by
  obtain ⟨A, c, rfl, _⟩ := h
  intro u hu; simp at hu; subst hu; rfl
theorem BsRd.mk {Φ : Ctx} {A : Option Addr} {x : List (BitVec 8)} {c : Nat} (h : View Φ A x.length c 1 (u8s x)) : BsRd Φ [.slice A x.length c] x := ⟨A, c, rfl, h⟩
inductive It where
  | mk (list : Bool) (data : List (BitVec 8)) (items : List It)
def It.list : It → Bool | .mk l _ _ => l
def It.data : It → List (BitVec 8) | .mk _ d _ => d
def It.items : It → List It | .mk _ _ i => i
inductive ItRd (Φ : Ctx) : List Value → It → Prop
  | mk {A B : Option Addr} {l : Bool} {d : List (BitVec 8)} {c e : Nat} {its : List It} {cells : List Value} :
    View Φ A d.length c 1 (u8s d) → View Φ B its.length e 3 cells → Reps (ItRd Φ) cells its → ItRd Φ [.bool l, .slice A d.length c, .slice B its.length e] (.mk l d its)
theorem ItRd.len {Φ : Ctx} (cs : List Value) (x : It) (h : ItRd Φ cs x) : cs.length = 3 := by cases h; rfl
theorem ItRd.one {Φ : Ctx} (cs : List Value) (x : It) (h : ItRd Φ cs x) : ∀ u ∈ cs, u.oneCell' = true := by
  cases h
  intro u hu; simp at hu; rcases hu with rfl | rfl | rfl <;> rfl
mutual
theorem ItRd.mono' {Φ Ψ : Ctx} (hh : ∀ w, Ψ w → Φ w) : ∀ (x : It) (cs : List Value), ItRd Φ cs x → ItRd Ψ cs x
  | .mk l d its, _, .mk h1 h2 h3 => .mk (h1.mono hh) (h2.mono hh) (ItsRd.mono' hh its _ h3)
theorem ItsRd.mono' {Φ Ψ : Ctx} (hh : ∀ w, Ψ w → Φ w) : ∀ (xs : List It) (cs : List Value), Reps (ItRd Φ) cs xs → Reps (ItRd Ψ) cs xs
  | [], _, .nil => .nil
  | x :: xs, _, .cons h hr => .cons (ItRd.mono' hh x _ h) (ItsRd.mono' hh xs _ hr)
end
theorem ItRd.mono {Φ Ψ : Ctx} (hh : ∀ w, Ψ w → Φ w) (cs : List Value) (x : It) : ItRd Φ cs x → ItRd Ψ cs x := ItRd.mono' hh x cs
theorem ItRd.opn {Φ : Ctx} {cs : List Value} {x : It} (h : ItRd Φ cs x) : ∃ A c B e cells, cs = [.bool x.list, .slice A x.data.length c, .slice B x.items.length e] ∧ View Φ A x.data.length c 1 (u8s x.data) ∧ View Φ B x.items.length e 3 cells ∧ Reps (ItRd Φ) cells x.items := by
  cases h with
  | mk h1 h2 h3 => exact ⟨_, _, _, _, _, rfl, h1, h2, h3⟩
theorem It.eta (x : It) : x = .mk x.list x.data x.items := by cases x; rfl
end Go.Fw
namespace Go.Fw
open Go Go.RowKit
set_option linter.unusedVariables false
set_option linter.unusedSectionVars false
section
variable {P : Program} {n : Nat} {Q : Exit → Act → World → Prop} {w0 : World} {L : Slots} {M : List Ent}
variable {ops : Array Oper} {rest : List Oper} {d : Nat} {v v' : Value} {tail : List Oper} {m g : Nat} {done : Array Bool}
theorem OW.slot (v' : Value) (hv : v = v') (k : OW P n ops Q w0 rest ((d, v') :: L) M) : OW P n ops Q w0 rest ((d, v) :: L) M := by subst hv; exact k
theorem UW.slot (v' : Value) (hv : v = v') (k : UW P n ops Q w0 tail m g done ((d, v') :: L) M) : UW P n ops Q w0 tail m g done ((d, v) :: L) M := by subst hv; exact k
theorem OW.cells {ob : Option Nat} {l : List Value} {t : TypeId} (l' : List Value) (e : l = l') (k : OW P n ops Q w0 rest L ((ob, blk l' t) :: M)) : OW P n ops Q w0 rest L ((ob, blk l t) :: M) := by subst e; exact k
end
section
variable {P : Program} [Types P] {w0 : World} {L : Slots} {M : List Ent} {t e : TypeId} {x y : Operand} {v : Value}
theorem RV.field_at {A : Addr} {s f : Nat} {fs : Array Field} {fd : Field} (hx : ev L x = some (.pointer (some A))) (ht : tyU P t = some (.struct fs)) (hf : fs[f]? = some fd) (hs : tyS P fd.type = some (s + 1)) :
    RV P w0 L M (.fieldAddr t x f) (.pointer (some (A.add fd.offset))) := fun ρ w hρ m o ho => by
  simp [execOp, ho, hρ x _ hx, Instr.fieldAt, Instr.sureAddr, tyU_run ht, hf, Go.fieldPlace, tyS_run hs]
def plcs (P : Program) [Types P] : List Field → Option (List (Nat × Nat))
  | [] => some []
  | f :: r => match tyS P f.type, plcs P r with
    | some s, some l => some ((f.offset, s) :: l)
    | _, _ => none
theorem plcs_run {w : World} : ∀ (fs : List Field) (pl : List (Nat × Nat)), plcs P fs = some pl → (fs.mapM (m := Sem) fun f => do pure (f.offset, ← Go.sizeOf f.type)).run P w = .ok pl w
  | [], pl, h => by simp [plcs] at h; subst h; simp
  | f :: r, pl, h => by
    simp only [plcs] at h
    split at h
    · rename_i s l h1 h2
      simp at h; subst h
      have ih := plcs_run (w := w) r l h2
      have hs := tyS_run (P := P) h1 w
      simp only [List.mapM_cons, Sem.run_bind, hs, ih, Result.andThen, Sem.run_pure]
    · cases h
def fillL (pl : List (Nat × Nat)) : List Value → List (Nat × List Value) → Option (List Value)
  | l, [] => some l
  | l, (i, vs) :: r => match pl[i]? with
    | some (off, size) => if Nat.beq vs.length size && Nat.ble (off + size) l.length then fillL pl (spl l off vs) r else none
    | none => none
theorem fillL_run {pl : List (Nat × Nat)} : ∀ (ps : List (Nat × List Value)) (us : List (Nat × Value)) (l cs : List Value), us.map (fun p => (p.1, p.2.cells)) = ps.map (fun p => (p.1, p.2.toArray)) → fillL pl l ps = some cs →
    Instr.fill (fun i => pl[i]?) l.toArray us = some cs.toArray
  | [], us, l, cs, hu, h => by
    cases us with
    | nil => simp [fillL] at h; subst h; rfl
    | cons _ _ => simp at hu
  | (i, vs) :: r, us, l, cs, hu, h => by
    cases us with
    | nil => simp at hu
    | cons p us =>
      obtain ⟨j, u⟩ := p
      simp only [List.map_cons, List.cons.injEq, Prod.mk.injEq] at hu
      obtain ⟨⟨rfl, h2⟩, h3⟩ := hu
      simp only [fillL] at h
      split at h
      · rename_i off size hp
        split at h
        · rename_i hc
          simp only [Bool.and_eq_true, Nat.beq_eq, Nat.ble_eq] at hc
          obtain ⟨h4, h5⟩ := hc
          rw [fill_cons (vs := vs) (off := off) (size := size) hp h2 h4 (by omega)]
          exact fillL_run r us _ cs h3 h
        · cases h
      · cases h
def evC (L : Slots) : List (Nat × Operand) → Option (List (Nat × Value))
  | [] => some []
  | (j, x) :: r => match ev L x, evC L r with
    | some v, some vs => some ((j, v) :: vs)
    | _, _ => none
theorem evC_spec {ρ : Operand → Value} (hρ : ∀ x u, ev L x = some u → ρ x = u) : ∀ (ps : List (Nat × Operand)) (vs : List (Nat × Value)), evC L ps = some vs → ps.map (fun p => (p.1, ρ p.2)) = vs
  | [], vs, h => by simp [evC] at h; subst h; rfl
  | (j, x) :: r, vs, h => by
    simp only [evC] at h
    split at h
    · rename_i v us hv hus
      simp only [Option.some.injEq] at h
      subst h
      simp [hρ x _ hv, evC_spec hρ r us hus]
    · cases h
theorem RV.buildSt {i : TI} {l cs : List Value} {fs : List Field} {pl : List (Nat × Nat)} {ps : List (Nat × Operand)} {us : List (Nat × Value)} (vs : List (Nat × List Value)) (hi : ty P t = some i) (hu : i.u = .struct fs.toArray) (hpl : plcs P fs = some pl) (hl : i.z.cells = l.toArray) (hp : evC L ps = some us)
    (hv : us.map (fun p => (p.1, p.2.cells)) = vs.map (fun p => (p.1, p.2.toArray))) (hcs : fillL pl l vs = some cs) : RV P w0 L M (.build t ps.toArray) (.agg cs.toArray) := fun ρ w hρ m o ho => by
  obtain ⟨h0, ti, h1, h2, h3, h4⟩ := ty_ok hi
  rw [hu] at h0
  have hf := fillL_run vs us l cs hv hcs
  have he := evC_spec hρ ps us hp
  have hp2 := plcs_run (P := P) (w := w) fs pl hpl
  have hp3 : ((fs.toArray).mapM (m := Sem) fun f => do pure (f.offset, ← Go.sizeOf f.type)).run P w = .ok pl.toArray w := by
    rw [List.mapM_toArray]
    simp only [map_eq_pure_bind, Sem.run_bind, hp2, Result.andThen, Sem.run_pure]
  have hz : (zeroValue t).run P w = .ok i.z w := by simp [zeroValue, typeInfo, h1, h4]
  have hg : (fun i : Nat => (pl.toArray)[i]?) = fun i : Nat => pl[i]? := by funext i; simp
  have hb : (Instr.build t (ps.map fun p => (p.1, ρ p.2)).toArray).run P w = .ok (.agg cs.toArray) w := by
    unfold Instr.build
    simp only [Sem.run_bind, hz, Result.andThen, run_underlying h0, hp3, he, hl, hg, hf, Sem.run_pure]
  simp [execOp, ho] at hb ⊢
  simp [hb]
end
end Go.Fw
namespace Go.Fw
open Go Go.RowKit
section
variable {P : Program} {n : Nat} {Q : Exit → Act → World → Prop} {w0 : World} {L : Slots} {M : List Ent} {x : Code}
theorem CW.cutJ (J : Slots → List Ent → Prop) (hy : ∀ L M, J L M → QW n Q w0 .normal L M) (hx : CW P n (Exit.then (Joined n w0 J) Q) w0 x L M) : CW P n Q w0 x L M := CW.intro fun a w f m => by
  refine wp_mono (hx.elim a w f m) ?_
  intro e a w h
  cases e <;> first
    | exact h
    | (obtain ⟨L', M', h1, h2, h3⟩ := h; exact (hy L' M' h1).elim a w h2 h3)
end
theorem More.flat {w0 : World} {Φ : Ctx} {A B : List Ent} {w : World} (q : More w0 Φ (A ++ B) w) : More w0 (More w0 Φ B) A w := ⟨⟨q.1, q.2.appR⟩, q.2.appL⟩
theorem More.base {w0 : World} {Φ : Ctx} {B : List Ent} {w : World} (q : More w0 Φ B w) : Φ w := q.1
theorem View.hi8 {α : Type} {Φ : Ctx} {A : Option Addr} {c : Nat} {f : α → Value} {xs : List α} (h : View Φ A xs.length c 1 (xs.map f)) {k : Nat} (hk : k ≤ xs.length) : View Φ A (xs.take k).length c 1 ((xs.take k).map f) := by
  have := h.hi hk
  rw [Nat.mul_one, ← List.map_take] at this
  rwa [List.length_take, Nat.min_eq_left hk]
theorem View.lo8 {α : Type} {Φ : Ctx} {A : Option Addr} {c : Nat} {f : α → Value} {xs : List α} (h : View Φ A xs.length c 1 (xs.map f)) {k : Nat} (hk : k ≤ xs.length) : View Φ (subA A c k 1) (xs.drop k).length (c - k) 1 ((xs.drop k).map f) := by
  have := h.lo hk
  rw [Nat.mul_one, ← List.map_drop] at this
  rwa [List.length_drop]
theorem View.mid8 {α : Type} {Φ : Ctx} {A : Option Addr} {c : Nat} {f : α → Value} {xs : List α} (h : View Φ A xs.length c 1 (xs.map f)) {j k : Nat} (hj : j ≤ k) (hk : k ≤ xs.length) : View Φ (subA A c j 1) ((xs.take k).drop j).length (c - j) 1 (((xs.take k).drop j).map f) :=
  (h.hi8 hk).lo8 (by rw [List.length_take]; omega)
theorem own_at {cells r : List Value} {i : Nat} {v : Value} (h : cells[i]? = some v) : (cells ++ r)[i]? = some v := by
  rw [List.getElem?_append_left (List.getElem?_eq_some_iff.1 h).1]; exact h
theorem own_at0 {cells r : List Value} {i : Nat} {v : Value} (h : cells[i]? = some v) : (cells ++ r)[0 + i]? = some v := by rw [Nat.zero_add]; exact own_at h
theorem OwnS.isSome {ob : Option Nat} {len cap s : Nat} {cells r : List Value} (h : OwnS ob len cap s cells r) (hs : 0 < s) {i : Nat} (hi : i < len) : ob.isSome = true := h.so hs (fun e => by
  have h1 := h.n
  rw [e] at h1
  have h2 : 0 < len * s := Nat.mul_pos (by omega) hs
  simp at h1
  omega)
theorem OwnS.nilc {ob : Option Nat} {len cap s : Nat} {cells r : List Value} (h : OwnS ob len cap s cells r) (hs : 0 < s) (e : ob = none) : cells = [] := by
  cases hc : cells with
  | nil => rfl
  | cons x r => have := h.so hs (by simp [hc]); simp [e] at this
theorem OwnS.zeroO {ob : Option Nat} {len cap s : Nat} {cells r : List Value} (h : OwnS ob len cap s cells r) (hs : 0 < s) (e : ob.map (fun k => (⟨k, 0, none⟩ : Addr)) = none) : len = 0 := by
  have e2 : ob = none := by cases ob <;> simp_all
  have h1 := h.n
  rw [h.nilc hs e2] at h1
  exact Nat.eq_zero_of_not_pos (fun hp => by have h2 : 0 < len * s := Nat.mul_pos hp hs; simp at h1; omega)
theorem lt_of_at {α : Type} {l : List α} {i : Nat} {x : α} (h : l[i]? = some x) : i < l.length := (List.getElem?_eq_some_iff.1 h).1
theorem vlt_of_at {α : Type} {k : Nat} {v : Vector α k} {i : Nat} {x : α} (h : v[i]? = some x) : i < k := (Vector.getElem?_eq_some_iff.1 h).1
theorem vat {α : Type} {k : Nat} {v : Vector α k} {i : Nat} {x : α} (h : v[i]? = some x) : v.toList[i]? = some x := by rw [Vector.getElem?_toList]; exact h
theorem vat' {α : Type} {k : Nat} {v : Vector α k} {i : Nat} (h : i < k) : v.toList[i]? = some (v[i]'h) := by rw [Vector.getElem?_toList]; exact Vector.getElem?_eq_getElem h
theorem vset {α : Type} {k : Nat} {v : Vector α k} {i : Nat} {x : α} : v.toList.set i x = (v.setIfInBounds i x).toList := by simp
end Go.Fw
namespace Go.Fw
open Go Go.RowKit
set_option linter.unusedVariables false
set_option linter.unusedSectionVars false
def sub64c (x y b : BitVec 64) : Option (BitVec 64 × BitVec 64) := if b.toNat ≤ 1 then some (x - y - b, if x.toNat < y.toNat + b.toNat then 1#64 else 0#64) else none
def add64c (x y b : BitVec 64) : Option (BitVec 64 × BitVec 64) := if b.toNat ≤ 1 then some (x + y + b, if 2 ^ 64 ≤ x.toNat + y.toNat + b.toNat then 1#64 else 0#64) else none
def SubLaw (P : Program) (f : FuncId) : Prop := ∀ (x y b : Nat), b ≤ 1 → ∀ w : World, (callFunc f #[.int .u64 x, .int .u64 y, .int .u64 b]).run P w =
  .ok (.value (.tuple #[.int .u64 (((x + 18446744073709551616 - y - b) % 18446744073709551616 : Nat) : Int), .int .u64 ((if x < y + b then 1 else 0 : Nat) : Int)])) w
def AddLaw (P : Program) (f : FuncId) : Prop := ∀ (x y c : Nat), c ≤ 1 → ∀ w : World, (callFunc f #[.int .u64 x, .int .u64 y, .int .u64 c]).run P w =
  .ok (.value (.tuple #[.int .u64 (((x + y + c) % 18446744073709551616 : Nat) : Int), .int .u64 (((x + y + c) / 18446744073709551616 : Nat) : Int)])) w
section
variable {P : Program} [Types P] {w0 : World} {L : Slots} {M : List Ent} {f : FuncId}
theorem RV.sub64c {x y b d c : BitVec 64} {xs : List Operand} {ats : Array TypeId} (hl : SubLaw P f) (hxs : evs L xs = some [U64 x, U64 y, U64 b]) (h : Go.Fw.sub64c x y b = some (d, c)) : RV P w0 L M (.call ⟨.value (.func f), xs.toArray, ats⟩) (.tuple #[U64 d, U64 c]) := fun ρ w hρ m o ho => by
  unfold Go.Fw.sub64c at h
  obtain ⟨hb, h⟩ := some_if h
  obtain ⟨rfl, rfl⟩ := Prod.mk.inj (Option.some.inj h)
  have hev := evs_map hρ xs _ hxs
  have h1 := hl x.toNat y.toNat b.toNat hb w
  have hx := x.isLt; have hy := y.isLt
  have e1 : (x - y - b).toNat = (x.toNat + 18446744073709551616 - y.toNat - b.toNat) % 18446744073709551616 := by
    simp only [BitVec.toNat_sub]; omega
  have e2 : (if x.toNat < y.toNat + b.toNat then 1#64 else 0#64).toNat = (if x.toNat < y.toNat + b.toNat then 1 else 0 : Nat) := by split <;> rfl
  have hfn := hρ (.func f) _ rfl
  simp only [U64] at *
  rw [e1, e2]
  simp [execOp, ho, resolve, hfn, Deferred.ofValue, invoke, hev, h1]
theorem RV.add64c {x y b d c : BitVec 64} {xs : List Operand} {ats : Array TypeId} (hl : AddLaw P f) (hxs : evs L xs = some [U64 x, U64 y, U64 b]) (h : Go.Fw.add64c x y b = some (d, c)) : RV P w0 L M (.call ⟨.value (.func f), xs.toArray, ats⟩) (.tuple #[U64 d, U64 c]) := fun ρ w hρ m o ho => by
  unfold Go.Fw.add64c at h
  obtain ⟨hb, h⟩ := some_if h
  obtain ⟨rfl, rfl⟩ := Prod.mk.inj (Option.some.inj h)
  have hev := evs_map hρ xs _ hxs
  have h1 := hl x.toNat y.toNat b.toNat hb w
  have hx := x.isLt; have hy := y.isLt
  have e1 : (x + y + b).toNat = (x.toNat + y.toNat + b.toNat) % 18446744073709551616 := by
    simp only [BitVec.toNat_add]; omega
  have e2 : (if 2 ^ 64 ≤ x.toNat + y.toNat + b.toNat then 1#64 else 0#64).toNat = (x.toNat + y.toNat + b.toNat) / 18446744073709551616 := by
    split
    · show 1 = _; omega
    · show 0 = _; omega
  have hfn := hρ (.func f) _ rfl
  simp only [U64] at *
  rw [e1, e2]
  simp [execOp, ho, resolve, hfn, Deferred.ofValue, invoke, hev, h1]
variable {t : TypeId} {x y : Operand} {m n : Int}
theorem RV.max2 {ats : Array TypeId} (hx : ev L x = some (.int .i64 m)) (hy : ev L y = some (.int .i64 n)) : RV P w0 L M (.call ⟨.builtin .max, #[x, y], ats⟩) (.int .i64 (max m n)) := fun ρ w hρ mm o ho => by
  have e : (if n > m then n else m) = max m n := by omega
  simp [execOp, ho, resolve, hρ x _ hx, hρ y _ hy, invoke, builtin, Builtin.max_, Builtin.max2, e]
theorem RV.min2 {ats : Array TypeId} (hx : ev L x = some (.int .i64 m)) (hy : ev L y = some (.int .i64 n)) : RV P w0 L M (.call ⟨.builtin .min, #[x, y], ats⟩) (.int .i64 (min m n)) := fun ρ w hρ mm o ho => by
  have e : (if n < m then n else m) = min m n := by omega
  simp [execOp, ho, resolve, hρ x _ hx, hρ y _ hy, invoke, builtin, Builtin.min_, Builtin.min2, e]
end
end Go.Fw

/- Part of a proof over Ytgdohhccpghofaa: rules and contracts that the law's text uses. No condition. -/
import Derived.Test.YtgdohhccpghofaaFw9
namespace Go.Fw
open Go Go.RowKit
set_option linter.unusedVariables false
/-! Composite literals. -/
theorem fill_cons {place : Nat → Option (Nat × Nat)} {cells : List Value} {i off size : Nat} {v : Value} {vs : List Value} {rest : List (Nat × Value)} (hp : place i = some (off, size)) (hv : v.cells = vs.toArray) (hl : vs.length = size) (hle : off + size ≤ cells.length) :
    Instr.fill place cells.toArray ((i, v) :: rest) = Instr.fill place (spl cells off vs).toArray rest := by
  have hf := set_spl vs off cells.toArray (by simp; omega)
  simp only [Instr.fill, hp]
  rw [hv]
  rw [if_neg (by simp [hl]; omega)]
  rw [hf]
/-- A literal of elements that are arrays (or of one cell), in order. -/
theorem fill_all {s : Nat} : ∀ (vss : List (List Value)) (i : Nat) (cells : List Value) (vs : List Value), (∀ x ∈ vss, x.length = s) → cells.length = (i + vss.length) * s →
    Instr.fill (fun j => some (j * s, s)) cells.toArray ((vss.zipIdx i).map fun p => (p.2, .agg p.1.toArray)) = some (cells.take (i * s) ++ vss.flatten).toArray
  | [], i, cells, vs, h, hl => by
    simp only [List.length_nil, Nat.add_zero] at hl
    simp only [List.zipIdx_nil, List.map_nil, Instr.fill, List.flatten_nil, List.append_nil]
    rw [List.take_of_length_le (by omega)]
  | x :: vss, i, cells, vs, h, hl => by
    have hx := h x (List.mem_cons_self ..)
    have hmul : (i + (vss.length + 1)) * s = i * s + s + vss.length * s := by rw [Nat.add_mul, Nat.add_mul]; omega
    have hl2 : cells.length = i * s + s + vss.length * s := by rw [← hmul, hl, List.length_cons]
    have hm2 : (i + 1 + vss.length) * s = i * s + s + vss.length * s := by rw [Nat.add_mul, Nat.add_mul, Nat.one_mul]
    have hm3 : (i + 1) * s = i * s + s := by rw [Nat.add_mul, Nat.one_mul]
    rw [List.zipIdx_cons, List.map_cons, fill_cons (off := i * s) (size := s) (vs := x) rfl rfl hx (by omega)]
    rw [fill_all vss (i + 1) _ vs (fun y hy => h y (List.mem_cons_of_mem _ hy)) (by rw [spl_length (by omega), hl2, hm2])]
    congr 2
    rw [List.flatten_cons, ← List.append_assoc]
    congr 1
    unfold spl
    rw [hm3, List.take_append_of_le_length (by rw [List.length_append, List.length_take]; omega)]
    exact List.take_of_length_le (by rw [List.length_append, List.length_take]; omega)
section
variable {P : Program} [Types P] {w0 : World} {L : Slots} {M : List Ent} {t e : TypeId} {x : Operand} {v : Value}
/-- The parts of a literal whose elements are arrays. -/
def evA (L : Slots) : Nat → List (Nat × Operand) → Option (List (List Value))
  | _, [] => some []
  | i, (j, x) :: r => match Nat.beq j i with
    | true => (match ev L x with
      | some (.agg c) => (match evA L (i + 1) r with
        | some vs => some (c.toList :: vs)
        | none => none)
      | _ => none)
    | false => none
omit [Types P] in
theorem evA_spec {ρ : Operand → Value} (hρ : ∀ x u, ev L x = some u → ρ x = u) : ∀ (ps : List (Nat × Operand)) (i : Nat) (vss : List (List Value)), evA L i ps = some vss → ps.map (fun p => (p.1, ρ p.2)) = (vss.zipIdx i).map fun p => (p.2, .agg p.1.toArray)
  | [], i, vss, h => by simp [evA] at h; subst h; rfl
  | (j, x) :: r, i, vss, h => by
    simp only [evA] at h
    split at h
    · rename_i hb
      have hji : j = i := Nat.eq_of_beq_eq_true hb
      subst hji
      split at h
      · rename_i c hc
        split at h
        · rename_i us hus
          simp only [Option.some.injEq] at h
          subst h
          simp [hρ x _ hc, evA_spec hρ r (j + 1) us hus]
        · cases h
      · cases h
    · cases h
theorem NV.bsA {i : TI} {len s : Nat} {ps : List (Nat × Operand)} {vss : List (List Value)} {cs : List Value} (hp : evA L 0 ps = some vss) (hlen : vss.length = len) (hv : ∀ x ∈ vss, x.length = s) (ht : tyU P t = some (.slice e)) (hi : ty P e = some i) (hs : i.sz = s) (hpos : 0 < len * s) (hle : len * s ≤ 16777216) (hcs : vss.flatten = cs) :
    NV P w0 L M (.buildSlice t len ps.toArray) (fun b => sl (some b) 0 len len) cs e := fun ρ w hρ m o ho => by
  subst hcs hs hlen
  have hf := fill_all (s := i.sz) vss 0 (madeCells i.z.cells (vss.length * i.sz)).toList [] hv (by simp [size_madeCells])
  rw [Nat.zero_mul, List.take_zero, List.nil_append, ← evA_spec hρ ps 0 vss hp] at hf
  obtain ⟨_, ti, g1, g2, g3, g4⟩ := ty_ok hi
  have e2 : ¬ (16777216 < vss.length * i.sz) := by omega
  have e3 : ¬ (vss.length * i.sz = 0) := by omega
  rw [Array.toArray_toList] at hf
  unfold madeCells at hf
  simp [execOp, ho, Instr.buildSlice, tyU_run ht, Go.sizeOf, typeInfo, zeroValue, g1, g2, g4, e2, e3, hf, newRow, sl, blk]
omit [Types P] in
theorem OW.ofN {n : Nat} {ops : Array Oper} {Q : Exit → Act → World → Prop} {rest : List Oper} {op : Op} {l : List Value} {te ty1 : TypeId} {pos : String} {aft : Array Edge} {d : Nat} {f : Nat → Value} (h : NV P w0 L M op f l te) (hd : Nat.blt d n = true)
    (k : ∀ b : Nat, OW P n ops Q w0 rest ((d, f b) :: L) ((some b, blk l te) :: M)) : OW P n ops Q w0 (⟨some d, op, ty1, pos, aft, none⟩ :: rest) L M := OW.new h hd k
theorem RV.loadAs {a : Addr} {u : TypeDesc} {vs : List Value} {s : Nat} (hx : ev L x = some (.pointer (some a))) (hu : tyU P t = some u) (hg : TypeDesc.agg u = true) (hsz : tyS P t = some s)
    (hv : Mem.Says w0 M (fun w => ∀ j u, vs[j]? = some u → w.cell? (a.add j) = some u)) (hl : vs.length = s) : RV P w0 L M (.load t x) (.agg vs.toArray) := RV.loadA_at hx hu hg (by rw [hl]; exact hsz) hv
theorem RV.loadAo {ob : Option Nat} {i : Nat} {l vs : List Value} {te : TypeId} {u : TypeDesc} {s : Nat} (hx : ev L x = some (ptr ob i)) (he : (ob, blk l te) ∈ M) (hs : ob.isSome = true) (hu : tyU P t = some u) (hg : TypeDesc.agg u = true) (hsz : tyS P t = some s)
    (hv : ∀ j u, vs[j]? = some u → l[i + j]? = some u) (hl : vs.length = s) : RV P w0 L M (.load t x) (.agg vs.toArray) := RV.loadA hx he hs hu hg (by rw [hl]; exact hsz) hv
/-- A constant text's letter. -/
theorem RV.indexStr {y : Operand} {s : ByteArray} {k : IntKind} {i : Nat} (b : BitVec 8) (hx : ev L x = some (.string s)) (hy : ev L y = some (.int k (i : Int))) (ht : tyU P t = some .string) (hb : (s[i]?).map (fun c => c.toNat) = some b.toNat) : RV P w0 L M (.index t x y) (U8 b) := fun ρ w hρ m o ho => by
  obtain ⟨c, hc, e⟩ := Option.map_eq_some_iff.1 hb
  simp [execOp, ho, hρ x _ hx, hρ y _ hy, Instr.index, asIntOf, tyU_run ht, hc, U8, ← e]
/-- A literal of an array of cells. -/
def evP (L : Slots) : List (Nat × Operand) → Option (List (Nat × Value))
  | [] => some []
  | (j, x) :: r => match ev L x with
    | some v => (match evP L r with
      | some vs => some ((j, v) :: vs)
      | none => none)
    | none => none
omit [Types P] in
theorem evP_spec {ρ : Operand → Value} (hρ : ∀ x u, ev L x = some u → ρ x = u) : ∀ (ps : List (Nat × Operand)) (vs : List (Nat × Value)), evP L ps = some vs → ps.map (fun p => (p.1, ρ p.2)) = vs
  | [], vs, h => by simp [evP] at h; subst h; rfl
  | (j, x) :: r, vs, h => by
    simp only [evP] at h
    split at h
    · rename_i v hv
      split at h
      · rename_i us hus
        simp only [Option.some.injEq] at h
        subst h
        simp [hρ x _ hv, evP_spec hρ r us hus]
      · cases h
    · cases h
def setL (l : List Value) (ps : List (Nat × Value)) : List Value := ps.foldl (fun l p => l.set p.1 p.2) l
theorem fill_sets : ∀ (ps : List (Nat × Value)) (cells : List Value), (∀ p ∈ ps, p.2.oneCell' = true ∧ p.1 < cells.length) → Instr.fill (fun j => some (j * 1, 1)) cells.toArray ps = some (setL cells ps).toArray
  | [], cells, h => rfl
  | (j, v) :: r, cells, h => by
    obtain ⟨h1, h2⟩ := h (j, v) (List.mem_cons_self ..)
    have hs : spl cells j [v] = cells.set j v := by
      unfold spl
      rw [List.set_eq_take_append_cons_drop, if_pos h2]
      simp
    rw [fill_cons (vs := [v]) (off := j) (size := 1) (by rw [Nat.mul_one]) (by rw [cells_one h1]) rfl (by have : j < cells.length := h2; omega), hs]
    exact fill_sets r (cells.set j v) (fun p hp => by
      obtain ⟨a, b⟩ := h p (List.mem_cons_of_mem _ hp)
      exact ⟨a, by rw [List.length_set]; exact b⟩)
theorem RV.buildA {i : TI} {l cs : List Value} {k : Nat} {ps : List (Nat × Operand)} {vs : List (Nat × Value)} (hi : ty P t = some i) (hu : i.u = .array k e) (hs : tyS P e = some 1) (hl : i.z.cells = l.toArray) (hp : evP L ps = some vs) (hb : vs.all (fun p => p.2.oneCell' && Nat.blt p.1 l.length) = true) (hcs : setL l vs = cs) :
    RV P w0 L M (.build t ps.toArray) (.agg cs.toArray) := fun ρ w hρ m o ho => by
  subst hcs
  obtain ⟨h0, ti, h1, h2, h3, h4⟩ := ty_ok hi
  rw [hu] at h0
  have hsz := tyS_run (P := P) hs w
  have hf := fill_sets vs l (fun p hp => by
    have := List.all_eq_true.1 hb p hp
    simpa using this)
  have he := evP_spec hρ ps vs hp
  simp only [Nat.mul_one] at hf
  simp [execOp, ho, Instr.build, zeroValue, typeInfo, h1, h4, run_underlying h0, hsz, hl, he, hf]
variable {n : Nat} {ops : Array Oper} {Q : Exit → Act → World → Prop} {rest : List Oper} {ty1 : TypeId} {pos : String} {aft : Array Edge} {d : Nat} {y : Operand}
theorem OW.copyS {ob : Option Nat} {off len cap m c s : Nat} {l vs : List Value} {te : TypeId} {B : Option Addr} {t2 : TypeId} (hx : ev L x = some (sl ob off len cap)) (hy : ev L y = some (.slice B m c)) (ht : tyU P t = some (.slice e)) (hs : tyS P e = some s)
    (hn : ob = none → len = 0) (hl : off + len * s ≤ l.length) (hR : Mem.Says w0 ((ob, blk l te) :: M) (fun w => Rd w B vs)) (hvl : vs.length = m * s) (hv1 : ∀ u ∈ vs, u.oneCell' = true) (hB : B = none → m = 0) (hd : Nat.blt d n = true)
    (k : OW P n ops Q w0 rest ((d, .int .i64 ((min m len : Nat) : Int)) :: L) ((ob, blk (spl l off (vs.take (min m len * s))) te) :: M)) :
    OW P n ops Q w0 (⟨some d, .call ⟨.builtin .copy, #[x, y], #[t, t2]⟩, ty1, pos, aft, none⟩ :: rest) L ((ob, blk l te) :: M) := by
  refine OW.av (τ := Unit) (I := fun _ => True) (v := fun _ => .int .i64 ((min m len : Nat) : Int)) (M' := fun _ => (ob, blk (spl l off (vs.take (min m len * s))) te) :: M) (fun ρ w hρ mm o ho => ?_) hd (fun _ _ => k)
  have hrd := hR w mm
  have hfc : (Builtin.firstCells s (min m len) (.slice B m c)).run P w = .ok (vs.take (min m len * s)).toArray w := by
    cases B with
    | none =>
      have h0 := hB rfl
      subst h0
      have : vs = [] := List.length_eq_zero_iff.1 (by rw [hvl, Nat.zero_mul])
      subst this
      simp [Builtin.firstCells]
    | some a => exact run_firstCells_some (P := P) w s (min m len) a m c _ (by rw [List.length_take, hvl]; exact (Nat.min_eq_left (Nat.mul_le_mul_right s (Nat.min_le_left m len)))) (fun j u hj => hrd.2 j u (by
        rw [List.getElem?_take] at hj
        split at hj
        · exact hj
        · cases hj))
  have hlen : (Builtin.lenOf (.slice B m c)).run P w = .ok m w := rfl
  have hnm : Nat.min m len = min m len := rfl
  cases ob with
  | none =>
    have h0 := hn rfl
    subst h0
    refine ⟨(), w, trivial, ?_, mm.tail.nil_ent _⟩
    have hfc0 : (Builtin.firstCells s 0 (.slice B m c)).run P w = .ok #[] w := by simpa using hfc
    simp [execOp, ho, resolve, hρ x _ hx, hρ y _ hy, invoke, builtin, Builtin.copy_, tyU_run ht, tyS_run hs, sl, hlen, goInt, hfc0]
  | some b =>
    have hm := mm.ents _ (List.mem_cons_self ..) b rfl
    have hroom : off + 0 + (vs.take (min m len * s)).length ≤ l.toArray.size := by
      have h1 : min m len * s ≤ len * s := Nat.mul_le_mul_right s (Nat.min_le_right m len)
      have h2 : (vs.take (min m len * s)).length ≤ min m len * s := by rw [List.length_take]; exact Nat.min_le_left _ _
      rw [List.size_toArray]; omega
    have hst := run_storeCells_at (P := P) b off te (vs.take (min m len * s)) 0 l.toArray w hm.2 hroom (fun v hv => hv1 v (List.mem_of_mem_take hv))
    simp only [Nat.add_zero] at hst
    refine ⟨(), _, trivial, ?_, mm.turned (w' := w.setRow b (l.toArray.toList.take off ++ vs.take (min m len * s) ++ l.toArray.toList.drop (off + (vs.take (min m len * s)).length)).toArray) rfl rfl rfl (by simp [World.setRow]) ?_ ?_⟩
    · have hst' := hst
      simp only [execOp, ho, resolve, Array.map, invoke, builtin] at hst' ⊢
      simp [hρ x _ hx, hρ y _ hy, Builtin.copy_, tyU_run ht, tyS_run hs, sl, hlen, hfc, hnm, goInt, hst]
    · intro b' hb'
      cases hb'
      rw [setRow_heap w b l.toArray _ te (0, 0) hm.2]
      simp [blk, spl]
    · intro kk hk
      exact setRow_other _ _ _ _ (fun e => hk (by rw [e]))
theorem made_flat (zs : List Value) (c : Nat) : (madeCells zs.toArray (c * zs.length)).toList = (List.replicate c zs).flatten := by
  apply List.ext_getElem?
  intro k
  have hlen : ((List.replicate c zs).flatten).length = c * zs.length := by simp
  by_cases hk : k < c * zs.length
  · have hpos : 0 < zs.length := by
      rcases Nat.eq_zero_or_pos zs.length with h | h
      · rw [h] at hk; omega
      · exact h
    have hu : ((List.replicate c zs).flatten)[k]? = some (((List.replicate c zs).flatten)[k]'(by omega)) := List.getElem?_eq_getElem (by omega)
    obtain ⟨x, h1, h2⟩ := flatMap_get (fun x => x) zs.length hpos (List.replicate c zs) (fun x hx => by rw [(List.mem_replicate.1 hx).2]) k _ (by rw [List.flatMap_id']; exact hu)
    have hx : x = zs := by
      have := List.mem_of_getElem? h1
      exact (List.mem_replicate.1 this).2
    subst hx
    rw [hu, ← h2]
    have hm : k % x.length < x.length := Nat.mod_lt _ hpos
    simp [madeCells, hk, hm]
  · rw [List.getElem?_eq_none (by simp [madeCells]; omega), List.getElem?_eq_none (by omega)]
theorem OW.makeS {kl kc : IntKind} {i : TI} {zs : List Value} {s : Nat} (l c : Nat) {il ic : Int} (hx : ev L x = some (.int kl il)) (hl : il = (l : Int)) (hy : ev L y = some (.int kc ic)) (hc : ic = (c : Int)) (ht : tyU P t = some (.slice e)) (hi : ty P e = some i) (hs : i.sz = s) (hz : i.z.cells = zs.toArray) (hzl : zs.length = s)
    (hlc : l ≤ c) (hb : i.bytes * c ≤ 281474976710656) (h63 : c ≤ 9223372036854775807) (hd : Nat.blt d n = true) (k : ∀ b : Nat, OW P n ops Q w0 rest ((d, sl (some b) 0 l c) :: L) ((some b, blk (List.replicate c zs).flatten e) :: M)) :
    OW P n ops Q w0 (⟨some d, .makeSlice t x y, ty1, pos, aft, none⟩ :: rest) L M :=
  OW.new (f := fun b => sl (some b) 0 l c) (fun ρ w hρ m o ho => by
    subst hl hc hs
    obtain ⟨_, ti, h1, h2, h3, h4⟩ := ty_ok hi
    have hm := run_make (P := P) w t e ti i.z (tyU_ok ht) h1 h4 kl kc (l : Int) (c : Int) (by omega) (by omega) (by rw [h3]; have : ((i.bytes * c : Nat) : Int) = (i.bytes : Int) * (c : Int) := Int.natCast_mul _ _; omega) (by omega)
    simp only [Int.toNat_natCast, h2, hz] at hm
    have e1 : madeCells zs.toArray (c * i.sz) = ((List.replicate c zs).flatten).toArray := by
      apply Array.ext'
      rw [← hzl, made_flat]
    rw [e1] at hm
    simpa [execOp, ho, hρ x _ hx, hρ y _ hy, sl, blk] using congrArg (fun r => r.andThen fun v w => .ok (Next.value v) w) hm) hd k
theorem SV.storeAs {ob : Option Nat} {i s : Nat} {l vs : List Value} {te : TypeId} (hx : ev L x = some (ptr ob i)) (hs : ob.isSome = true) (hy : ev L y = some (.agg vs.toArray)) (h1 : ∀ v ∈ vs, v.oneCell' = true) (hsz : tyS P t = some s) (hv : vs.length = s) (hi : i + s ≤ l.length) :
    SV P w0 L ((ob, blk l te) :: M) (.store t x y) ((ob, blk (spl l i vs) te) :: M) := SV.storeA hx hs hy h1 (by rw [hv]; exact hsz) (by omega)
theorem replicate_flat {α : Type} (n m : Nat) (z : α) : (List.replicate n (List.replicate m z)).flatten = List.replicate (n * m) z := by simp
/-- make(n + 1), copy, of elements of many cells. -/
theorem make_copyS (vs zs : List Value) {n m s : Nat} (hs : zs.length = s) (hn : vs.length = n * s) (hm : m = n) : spl (List.replicate (n + 1) zs).flatten 0 (vs.take (m * s)) = vs ++ zs := by
  subst hm
  have hl : ((List.replicate (m + 1) zs).flatten).length = m * s + s := by simp [hs, Nat.add_mul]
  rw [← hn, List.take_length, spl_front _ _ (by omega)]
  congr 1
  have e : (List.replicate (m + 1) zs).flatten = (List.replicate m zs).flatten ++ zs := by rw [List.replicate_succ', List.flatten_append]; simp
  have hd : ((List.replicate m zs).flatten).length = vs.length := by simp [hs, hn]
  rw [e, ← hd, List.drop_left]
theorem spl_end (vs zs us : List Value) {p : Nat} (hp : p = vs.length) (hz : zs.length = us.length) : spl (vs ++ zs) p us = vs ++ us := by
  subst hp
  simp [spl, ← hz]
variable {t' : TypeId} {p q : Bool}
theorem run_equal_bool {w : World} (ht : tyU P t = some .bool) : (Op.equal t (.bool p) (.bool q)).run P w = .ok (p == q) w := by
  unfold Op.equal
  have : Op.maxDepth = (Op.maxDepth - 1) + 1 := by decide
  rw [this]
  simp only [Op.equalIn, Sem.run_bind, tyU_run ht, Result.andThen_ok]
  rfl
theorem RV.eqlB (hx : ev L x = some (.bool p)) (hy : ev L y = some (.bool q)) (ht : tyU P t = some .bool) : RV P w0 L M (.binOp .eql t x y t') (.bool (p == q)) := fun ρ w hρ _ o ho => by
  simp [execOp, ho, hρ x _ hx, hρ y _ hy, eqGuard, binOp, run_equal_bool ht]
theorem RV.neqB (hx : ev L x = some (.bool p)) (hy : ev L y = some (.bool q)) (ht : tyU P t = some .bool) : RV P w0 L M (.binOp .neq t x y t') (.bool (!(p == q))) := fun ρ w hρ _ o ho => by
  simp [execOp, ho, hρ x _ hx, hρ y _ hy, eqGuard, binOp, run_equal_bool ht]
theorem RV.eqlB_t (hx : ev L x = some (.bool p)) (hy : ev L y = some (.bool q)) (ht : tyU P t = some .bool) (h : p = q) : RV P w0 L M (.binOp .eql t x y t') (.bool true) := by
  have := RV.eqlB (P := P) (w0 := w0) (M := M) (t := t) (t' := t') hx hy ht
  rw [h, beq_self_eq_true] at this
  exact this
theorem RV.neqB_f (hx : ev L x = some (.bool p)) (hy : ev L y = some (.bool q)) (ht : tyU P t = some .bool) (h : p = q) : RV P w0 L M (.binOp .neq t x y t') (.bool false) := by
  have := RV.neqB (P := P) (w0 := w0) (M := M) (t := t) (t' := t') hx hy ht
  rw [h, beq_self_eq_true] at this
  exact this
end
end Go.Fw

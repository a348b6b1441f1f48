/- Part of a proof: rules that its law uses. -/
import Derived.Test.YtgonajfngmeanaaDoorFw4
import Derived.Laws.StructEq
namespace Go.Fw
open Go Go.RowKit
set_option linter.unusedVariables false
class NoGuard (P : Program) where
  ts : List Nat
  ok : ∀ t, ts.contains t = true → P.eqGuardType P.depth t = false
def AllNG (P : Program) : List Nat → Prop
  | [] => True
  | t :: r => P.eqGuardType P.depth t = false ∧ AllNG P r
theorem AllNG.mem {P : Program} : ∀ {l : List Nat}, AllNG P l → ∀ t, l.contains t = true → P.eqGuardType P.depth t = false
  | [], _, t, h => by simp at h
  | x :: r, hl, t, h => by
    simp only [List.contains_cons, Bool.or_eq_true, beq_iff_eq] at h
    rcases h with rfl | h
    · exact hl.1
    · exact AllNG.mem hl.2 t h
section
variable {P : Program} [Types P] {w : World}
theorem part_run {e : TypeId} {u : TypeDesc} (hu : tyU P e = some u) (hg : TypeDesc.agg u = false) {cs : Array Value} {i : Nat} {v : Value} (hv : cs[i]? = some v) : (part e cs i).run P w = .ok v w := by
  simp [part, isAgg_run hu, hg, hv]
theorem eq_loop {e : TypeId} {k : IntKind} (he : tyU P e = some (.int k)) (hs : tyS P e = some 1) (d : Nat) (xs ys : Array Value) (f g : Nat → Int) :
    ∀ (l : List Nat), (∀ i ∈ l, xs[i]? = some (.int k (f i)) ∧ ys[i]? = some (.int k (g i))) →
    ((forIn l (none, PUnit.unit) fun i (r : Option Bool × PUnit) => (do
        let a ← part e xs (i * 1)
        let b ← part e ys (i * 1)
        let c ← Op.equalIn (d + 1) e a b
        if (!c) = true then pure (ForInStep.done (some false, PUnit.unit)) else pure (ForInStep.yield (none, PUnit.unit)) : Sem (ForInStep (Option Bool × PUnit)))) : Sem (Option Bool × PUnit)).run P w =
      .ok (if (∀ i ∈ l, f i = g i) then none else some false, PUnit.unit) w
  | [], _ => by simp
  | i :: l, h => by
    obtain ⟨h1, h2⟩ := h i (List.mem_cons_self ..)
    have ih := eq_loop he hs d xs ys f g l (fun j hj => h j (List.mem_cons_of_mem _ hj))
    simp only [List.forIn_cons, Sem.run_bind, Nat.mul_one] at ih ⊢
    rw [part_run he rfl h1]
    simp only [Result.andThen_ok]
    rw [part_run he rfl h2]
    simp only [Result.andThen_ok]
    rw [run_equalIn_int w d e k k (f i) (g i) (tyU_ok he)]
    simp only [Result.andThen_ok]
    by_cases hfg : f i = g i
    · have : (!(f i == g i)) = false := by simp [hfg]
      simp only [this, Bool.false_eq_true, if_false, Sem.run_pure, Result.andThen_ok]
      rw [ih]
      simp [hfg]
    · have : (!(f i == g i)) = true := by simp [hfg]
      simp [this, hfg]
theorem run_equalIn_array {t e : TypeId} {n : Nat} {k : IntKind} (ht : tyU P t = some (.array n e)) (he : tyU P e = some (.int k)) (hs : tyS P e = some 1) (d : Nat) (xs ys : List Int) (hx : xs.length = n) (hy : ys.length = n) :
    (Op.equalIn (d + 2) t (.agg (xs.map (.int k)).toArray) (.agg (ys.map (.int k)).toArray)).run P w = .ok (decide (xs = ys)) w := by
  unfold Op.equalIn
  simp only [Sem.run_bind, tyU_run ht, Result.andThen_ok, tyS_run hs, Std.Legacy.Range.forIn_eq_forIn_range', Std.Legacy.Range.size]
  have h := eq_loop (P := P) (w := w) he hs d (xs.map (.int k)).toArray (ys.map (.int k)).toArray (fun i => xs.getD i 0) (fun i => ys.getD i 0) (List.range' 0 n) (fun i hi => by
    have : i < n := by simpa using hi
    have h1 : i < xs.length := by omega
    have h2 : i < ys.length := by omega
    simp [h1, h2])
  have e0 : (n - 0 + 1 - 1) / 1 = n := by omega
  rw [e0]
  rw [h]
  have key : (∀ i ∈ List.range' 0 n, xs.getD i 0 = ys.getD i 0) ↔ xs = ys := by
    constructor
    · intro hh
      apply List.ext_getElem (by omega)
      intro i h1 h2
      have := hh i (by simp; omega)
      simpa [h1, h2] using this
    · intro e; subst e; intro i _; rfl
  by_cases e : xs = ys
  · simp [e]
  · have : ¬ (∀ i ∈ List.range' 0 n, xs.getD i 0 = ys.getD i 0) := fun hh => e (key.1 hh)
    simp only [if_neg this]
    simp [e]
end
section
variable {P : Program} [Types P] [NoGuard P] {w0 : World} {L : Slots} {M : List Ent} {x y z : Operand} {t t' e : TypeId} {v u : Value}
theorem RV.eqA {n : Nat} {k : IntKind} {xs ys : List Int} (hx : ev L x = some (.agg (xs.map (.int k)).toArray)) (hy : ev L y = some (.agg (ys.map (.int k)).toArray)) (ht : tyU P t = some (.array n e)) (he : tyU P e = some (.int k)) (hs : tyS P e = some 1)
    (hg : (NoGuard.ts P).contains t = true) (hlx : xs.length = n) (hly : ys.length = n) : RV P w0 L M (.binOp .eql t x y t') (.bool (decide (xs = ys))) := fun ρ w hρ m o ho => by
  have h1 := run_equalIn_array (P := P) (w := w) ht he hs 9998 xs ys hlx hly
  simp only [execOp, ho, hρ x _ hx, hρ y _ hy, Sem.run_bind, run_eqGuard_agg w .eql t x y _ _ (NoGuard.ok t hg), Result.andThen_ok, run_eql_struct, h1]
  rfl
theorem RV.neA {n : Nat} {k : IntKind} {xs ys : List Int} (hx : ev L x = some (.agg (xs.map (.int k)).toArray)) (hy : ev L y = some (.agg (ys.map (.int k)).toArray)) (ht : tyU P t = some (.array n e)) (he : tyU P e = some (.int k)) (hs : tyS P e = some 1)
    (hg : (NoGuard.ts P).contains t = true) (hlx : xs.length = n) (hly : ys.length = n) : RV P w0 L M (.binOp .neq t x y t') (.bool (!decide (xs = ys))) := fun ρ w hρ m o ho => by
  have h1 := run_equalIn_array (P := P) (w := w) ht he hs 9998 xs ys hlx hly
  simp only [execOp, ho, hρ x _ hx, hρ y _ hy, Sem.run_bind, run_eqGuard_agg w .neq t x y _ _ (NoGuard.ok t hg), Result.andThen_ok, run_neq_struct, h1]
  rfl
end
def u32s (l : List (BitVec 32)) : List Value := l.map U32
def u64s (l : List (BitVec 64)) : List Value := l.map U64
theorem u8s_ints (l : List (BitVec 8)) : u8s l = (l.map fun x => (x.toNat : Int)).map (.int .u8) := by simp [u8s, U8]
theorem ints8_inj {a b : List (BitVec 8)} (h : (a.map fun x => (x.toNat : Int)) = b.map fun x => (x.toNat : Int)) : a = b := by
  refine List.map_inj_right (fun x y hxy => BitVec.eq_of_toNat_eq (by omega)) |>.1 h
section
variable {P : Program} [Types P] [NoGuard P] {w0 : World} {L : Slots} {M : List Ent} {x y z : Operand} {t t' e : TypeId} {v u : Value} {n : Nat} {a b : List (BitVec 8)}
theorem RV.eqA8 (hx : ev L x = some (.agg (u8s a).toArray)) (hy : ev L y = some (.agg (u8s b).toArray)) (ht : tyU P t = some (.array n e)) (he : tyU P e = some (.int .u8)) (hs : tyS P e = some 1)
    (hg : (NoGuard.ts P).contains t = true) (hlx : a.length = n) (hly : b.length = n) : RV P w0 L M (.binOp .eql t x y t') (.bool (decide (a = b))) := by
  rw [u8s_ints] at hx hy
  have := RV.eqA (P := P) (w0 := w0) (M := M) (t' := t') hx hy ht he hs hg (by simp [hlx]) (by simp [hly])
  rwa [show decide ((a.map fun x => (x.toNat : Int)) = b.map fun x => (x.toNat : Int)) = decide (a = b) from decide_eq_decide.2 ⟨ints8_inj, fun h => by rw [h]⟩] at this
theorem RV.neA8 (hx : ev L x = some (.agg (u8s a).toArray)) (hy : ev L y = some (.agg (u8s b).toArray)) (ht : tyU P t = some (.array n e)) (he : tyU P e = some (.int .u8)) (hs : tyS P e = some 1)
    (hg : (NoGuard.ts P).contains t = true) (hlx : a.length = n) (hly : b.length = n) : RV P w0 L M (.binOp .neq t x y t') (.bool (!decide (a = b))) := by
  rw [u8s_ints] at hx hy
  have := RV.neA (P := P) (w0 := w0) (M := M) (t' := t') hx hy ht he hs hg (by simp [hlx]) (by simp [hly])
  rwa [show decide ((a.map fun x => (x.toNat : Int)) = b.map fun x => (x.toNat : Int)) = decide (a = b) from decide_eq_decide.2 ⟨ints8_inj, fun h => by rw [h]⟩] at this
theorem RV.eqA8_t (hx : ev L x = some (.agg (u8s a).toArray)) (hy : ev L y = some (.agg (u8s b).toArray)) (ht : tyU P t = some (.array n e)) (he : tyU P e = some (.int .u8)) (hs : tyS P e = some 1)
    (hg : (NoGuard.ts P).contains t = true) (hlx : a.length = n) (h : a = b) : RV P w0 L M (.binOp .eql t x y t') (.bool true) := by
  subst h
  have := RV.eqA8 (P := P) (w0 := w0) (M := M) (t' := t') hx hy ht he hs hg hlx hlx
  rwa [decide_eq_true rfl] at this
theorem RV.neA8_f (hx : ev L x = some (.agg (u8s a).toArray)) (hy : ev L y = some (.agg (u8s b).toArray)) (ht : tyU P t = some (.array n e)) (he : tyU P e = some (.int .u8)) (hs : tyS P e = some 1)
    (hg : (NoGuard.ts P).contains t = true) (hlx : a.length = n) (h : a = b) : RV P w0 L M (.binOp .neq t x y t') (.bool false) := by
  subst h
  have := RV.neA8 (P := P) (w0 := w0) (M := M) (t' := t') hx hy ht he hs hg hlx hlx
  rwa [decide_eq_true rfl] at this
end
theorem u32s_ints (l : List (BitVec 32)) : u32s l = (l.map fun x => (x.toNat : Int)).map (.int .u32) := by simp [u32s, U32]
theorem ints32_inj {a b : List (BitVec 32)} (h : (a.map fun x => (x.toNat : Int)) = b.map fun x => (x.toNat : Int)) : a = b := by
  refine List.map_inj_right (fun x y hxy => BitVec.eq_of_toNat_eq (by omega)) |>.1 h
section
variable {P : Program} [Types P] [NoGuard P] {w0 : World} {L : Slots} {M : List Ent} {x y z : Operand} {t t' e : TypeId} {v u : Value} {n : Nat} {a b : List (BitVec 32)}
theorem RV.eqA32 (hx : ev L x = some (.agg (u32s a).toArray)) (hy : ev L y = some (.agg (u32s b).toArray)) (ht : tyU P t = some (.array n e)) (he : tyU P e = some (.int .u32)) (hs : tyS P e = some 1)
    (hg : (NoGuard.ts P).contains t = true) (hlx : a.length = n) (hly : b.length = n) : RV P w0 L M (.binOp .eql t x y t') (.bool (decide (a = b))) := by
  rw [u32s_ints] at hx hy
  have := RV.eqA (P := P) (w0 := w0) (M := M) (t' := t') hx hy ht he hs hg (by simp [hlx]) (by simp [hly])
  rwa [show decide ((a.map fun x => (x.toNat : Int)) = b.map fun x => (x.toNat : Int)) = decide (a = b) from decide_eq_decide.2 ⟨ints32_inj, fun h => by rw [h]⟩] at this
theorem RV.neA32 (hx : ev L x = some (.agg (u32s a).toArray)) (hy : ev L y = some (.agg (u32s b).toArray)) (ht : tyU P t = some (.array n e)) (he : tyU P e = some (.int .u32)) (hs : tyS P e = some 1)
    (hg : (NoGuard.ts P).contains t = true) (hlx : a.length = n) (hly : b.length = n) : RV P w0 L M (.binOp .neq t x y t') (.bool (!decide (a = b))) := by
  rw [u32s_ints] at hx hy
  have := RV.neA (P := P) (w0 := w0) (M := M) (t' := t') hx hy ht he hs hg (by simp [hlx]) (by simp [hly])
  rwa [show decide ((a.map fun x => (x.toNat : Int)) = b.map fun x => (x.toNat : Int)) = decide (a = b) from decide_eq_decide.2 ⟨ints32_inj, fun h => by rw [h]⟩] at this
theorem RV.eqA32_t (hx : ev L x = some (.agg (u32s a).toArray)) (hy : ev L y = some (.agg (u32s b).toArray)) (ht : tyU P t = some (.array n e)) (he : tyU P e = some (.int .u32)) (hs : tyS P e = some 1)
    (hg : (NoGuard.ts P).contains t = true) (hlx : a.length = n) (h : a = b) : RV P w0 L M (.binOp .eql t x y t') (.bool true) := by
  subst h
  have := RV.eqA32 (P := P) (w0 := w0) (M := M) (t' := t') hx hy ht he hs hg hlx hlx
  rwa [decide_eq_true rfl] at this
theorem RV.neA32_f (hx : ev L x = some (.agg (u32s a).toArray)) (hy : ev L y = some (.agg (u32s b).toArray)) (ht : tyU P t = some (.array n e)) (he : tyU P e = some (.int .u32)) (hs : tyS P e = some 1)
    (hg : (NoGuard.ts P).contains t = true) (hlx : a.length = n) (h : a = b) : RV P w0 L M (.binOp .neq t x y t') (.bool false) := by
  subst h
  have := RV.neA32 (P := P) (w0 := w0) (M := M) (t' := t') hx hy ht he hs hg hlx hlx
  rwa [decide_eq_true rfl] at this
end
theorem u64s_ints (l : List (BitVec 64)) : u64s l = (l.map fun x => (x.toNat : Int)).map (.int .u64) := by simp [u64s, U64]
theorem ints64_inj {a b : List (BitVec 64)} (h : (a.map fun x => (x.toNat : Int)) = b.map fun x => (x.toNat : Int)) : a = b := by
  refine List.map_inj_right (fun x y hxy => BitVec.eq_of_toNat_eq (by omega)) |>.1 h
section
variable {P : Program} [Types P] [NoGuard P] {w0 : World} {L : Slots} {M : List Ent} {x y z : Operand} {t t' e : TypeId} {v u : Value} {n : Nat} {a b : List (BitVec 64)}
theorem RV.eqA64 (hx : ev L x = some (.agg (u64s a).toArray)) (hy : ev L y = some (.agg (u64s b).toArray)) (ht : tyU P t = some (.array n e)) (he : tyU P e = some (.int .u64)) (hs : tyS P e = some 1)
    (hg : (NoGuard.ts P).contains t = true) (hlx : a.length = n) (hly : b.length = n) : RV P w0 L M (.binOp .eql t x y t') (.bool (decide (a = b))) := by
  rw [u64s_ints] at hx hy
  have := RV.eqA (P := P) (w0 := w0) (M := M) (t' := t') hx hy ht he hs hg (by simp [hlx]) (by simp [hly])
  rwa [show decide ((a.map fun x => (x.toNat : Int)) = b.map fun x => (x.toNat : Int)) = decide (a = b) from decide_eq_decide.2 ⟨ints64_inj, fun h => by rw [h]⟩] at this
theorem RV.neA64 (hx : ev L x = some (.agg (u64s a).toArray)) (hy : ev L y = some (.agg (u64s b).toArray)) (ht : tyU P t = some (.array n e)) (he : tyU P e = some (.int .u64)) (hs : tyS P e = some 1)
    (hg : (NoGuard.ts P).contains t = true) (hlx : a.length = n) (hly : b.length = n) : RV P w0 L M (.binOp .neq t x y t') (.bool (!decide (a = b))) := by
  rw [u64s_ints] at hx hy
  have := RV.neA (P := P) (w0 := w0) (M := M) (t' := t') hx hy ht he hs hg (by simp [hlx]) (by simp [hly])
  rwa [show decide ((a.map fun x => (x.toNat : Int)) = b.map fun x => (x.toNat : Int)) = decide (a = b) from decide_eq_decide.2 ⟨ints64_inj, fun h => by rw [h]⟩] at this
theorem RV.eqA64_t (hx : ev L x = some (.agg (u64s a).toArray)) (hy : ev L y = some (.agg (u64s b).toArray)) (ht : tyU P t = some (.array n e)) (he : tyU P e = some (.int .u64)) (hs : tyS P e = some 1)
    (hg : (NoGuard.ts P).contains t = true) (hlx : a.length = n) (h : a = b) : RV P w0 L M (.binOp .eql t x y t') (.bool true) := by
  subst h
  have := RV.eqA64 (P := P) (w0 := w0) (M := M) (t' := t') hx hy ht he hs hg hlx hlx
  rwa [decide_eq_true rfl] at this
theorem RV.neA64_f (hx : ev L x = some (.agg (u64s a).toArray)) (hy : ev L y = some (.agg (u64s b).toArray)) (ht : tyU P t = some (.array n e)) (he : tyU P e = some (.int .u64)) (hs : tyS P e = some 1)
    (hg : (NoGuard.ts P).contains t = true) (hlx : a.length = n) (h : a = b) : RV P w0 L M (.binOp .neq t x y t') (.bool false) := by
  subst h
  have := RV.neA64 (P := P) (w0 := w0) (M := M) (t' := t') hx hy ht he hs hg hlx hlx
  rwa [decide_eq_true rfl] at this
end
section
variable {P : Program} [Types P] {w0 : World} {L : Slots} {M : List Ent} {x y z : Operand} {t t' e : TypeId} {v u : Value}
theorem RV.loadW {ob : Option Nat} {l : List Value} {te : TypeId} {u : TypeDesc} {s : Nat} (hx : ev L x = some (ptr ob 0)) (he : (ob, blk l te) ∈ M) (hs : ob.isSome = true) (hu : tyU P t = some u) (hg : TypeDesc.agg u = true) (hsz : tyS P t = some s) (hl : l.length = s) : RV P w0 L M (.load t x) (.agg l.toArray) :=
  RV.loadA hx he hs hu hg (by rw [hl]; exact hsz) (fun j u hj => by rw [Nat.zero_add]; exact hj)
theorem SV.storeW {ob : Option Nat} {l vs : List Value} {te : TypeId} {s : Nat} (hx : ev L x = some (ptr ob 0)) (hs : ob.isSome = true) (hy : ev L y = some (.agg vs.toArray)) (h1 : ∀ v ∈ vs, v.oneCell' = true) (hsz : tyS P t = some s) (hl : l.length = s) (hv : vs.length = s) :
    SV P w0 L ((ob, blk l te) :: M) (.store t x y) ((ob, blk vs te) :: M) := by
  have h := SV.storeA (P := P) (w0 := w0) (M := M) (te := te) (l := l) hx hs hy h1 (by rw [hv]; exact hsz) (by omega)
  have e : l.take 0 ++ vs ++ l.drop (0 + vs.length) = vs := by rw [List.drop_of_length_le (by omega)]; simp
  rw [e] at h
  exact h
theorem RV.indexV {l : List Value} {idx : Int} {k : IntKind} {n : Nat} {u : TypeDesc} (j : Nat) (hx : ev L x = some (.agg l.toArray)) (hy : ev L y = some (.int k idx)) (hj : idx = (j : Int)) (ht : tyU P t = some (.array n e)) (he : tyU P e = some u) (hg : TypeDesc.agg u = false) (hs : tyS P e = some 1) (h1 : idx < n) (hv : l[j]? = some v) :
    RV P w0 L M (.index t x y) v := fun ρ w hρ m o ho => by
  subst hj
  have h0 : (0 : Int) ≤ (j : Int) ∧ (j : Int) < (n : Int) := by omega
  have hp := part_run (P := P) (w := w) he hg (cs := l.toArray) (i := j) (v := v) (by simpa using hv)
  simp [execOp, ho, hρ x _ hx, hρ y _ hy, Instr.index, asIntOf, tyU_run ht, tyS_run hs, h0, hp]
  intro hh; omega
theorem RV.fieldV {l : List Value} {f : Nat} {fs : Array Field} {fd : Field} {u : TypeDesc} (hx : ev L x = some (.agg l.toArray)) (ht : tyU P t = some (.struct fs)) (hf : fs[f]? = some fd) (he : tyU P fd.type = some u) (hg : TypeDesc.agg u = false) (hv : l[fd.offset]? = some v) :
    RV P w0 L M (.field t x f) v := fun ρ w hρ m o ho => by
  have hp := part_run (P := P) (w := w) he hg (cs := l.toArray) (i := fd.offset) (v := v) (by simpa using hv)
  simp [execOp, ho, hρ x _ hx, Instr.field, tyU_run ht, hf, asAgg, hp]
theorem RV.fieldVA {l : List Value} {f s : Nat} {fs : Array Field} {fd : Field} {u : TypeDesc} (hx : ev L x = some (.agg l.toArray)) (ht : tyU P t = some (.struct fs)) (hf : fs[f]? = some fd) (he : tyU P fd.type = some u) (hg : TypeDesc.agg u = true) (hs : tyS P fd.type = some s) :
    RV P w0 L M (.field t x f) (.agg ((l.drop fd.offset).take s).toArray) := fun ρ w hρ m o ho => by
  simp [execOp, ho, hρ x _ hx, Instr.field, tyU_run ht, hf, asAgg, part, isAgg_run he, hg, tyS_run hs]
end
end Go.Fw

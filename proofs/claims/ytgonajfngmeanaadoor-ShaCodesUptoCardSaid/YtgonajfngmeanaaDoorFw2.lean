/- Part of a proof: rules that its law uses. -/
import Derived.Test.YtgonajfngmeanaaDoorFw
namespace Go.Fw
open Go Go.RowKit
set_option linter.unusedVariables false
structure TI where
  u : TypeDesc
  sz : Nat
  bytes : Nat
  z : Value
def lkT : List (Nat × TI) → Nat → Option TI
  | [], _ => none
  | (i, v) :: r, k => match Nat.beq i k with
    | true => some v
    | false => lkT r k
def TI.ok (P : Program) (t : Nat) (i : TI) : Prop := P.underlying t = some i.u ∧ ∃ ti, P.info? t = some ti ∧ ti.size = i.sz ∧ ti.bytes = i.bytes ∧ ti.zero = some i.z
class Types (P : Program) where
  tbl : List (Nat × TI)
  ok : ∀ t i, lkT tbl t = some i → TI.ok P t i
def ty (P : Program) [Types P] (t : Nat) : Option TI := lkT (Types.tbl P) t
def tyU (P : Program) [Types P] (t : Nat) : Option TypeDesc := match ty P t with | some i => some i.u | none => none
def tyS (P : Program) [Types P] (t : Nat) : Option Nat := match ty P t with | some i => some i.sz | none => none
theorem TI.lk_all {P : Program} : ∀ (l : List (Nat × TI)), (∀ e ∈ l, TI.ok P e.1 e.2) → ∀ t i, lkT l t = some i → TI.ok P t i
  | [], _, t, i, h => by simp [lkT] at h
  | (k, v) :: r, hl, t, i, h => by
    simp only [lkT] at h
    split at h
    · rename_i hb
      have : k = t := Nat.eq_of_beq_eq_true hb
      subst this
      cases h
      exact hl _ (List.mem_cons_self ..)
    · exact TI.lk_all r (fun e he => hl e (List.mem_cons_of_mem _ he)) t i h
def AllOk (P : Program) : List (Nat × TI) → Prop
  | [] => True
  | e :: r => TI.ok P e.1 e.2 ∧ AllOk P r
theorem AllOk.mem {P : Program} : ∀ {l : List (Nat × TI)}, AllOk P l → ∀ e ∈ l, TI.ok P e.1 e.2
  | [], _, e, h => by cases h
  | x :: r, hl, e, h => by
    rcases List.mem_cons.1 h with rfl | h
    · exact hl.1
    · exact AllOk.mem hl.2 e h
section
variable {P : Program} [Types P]
theorem ty_ok {t : Nat} {i : TI} (h : ty P t = some i) : TI.ok P t i := Types.ok t i h
theorem tyU_ok {t : Nat} {u : TypeDesc} (h : tyU P t = some u) : P.underlying t = some u := by
  unfold tyU at h
  split at h
  · rename_i i hi
    cases h
    exact (ty_ok hi).1
  · cases h
theorem tyS_ok {t : Nat} {s : Nat} (h : tyS P t = some s) : (P.info? t).map (·.size) = some s := by
  unfold tyS at h
  split at h
  · rename_i i hi
    cases h
    obtain ⟨_, ti, h1, h2, _⟩ := ty_ok hi
    simp [h1, h2]
  · cases h
theorem tyU_run {t : Nat} {u : TypeDesc} (h : tyU P t = some u) (w : World) : (underlying t).run P w = .ok u w := run_underlying (tyU_ok h) w
theorem tyS_run {t : Nat} {s : Nat} (h : tyS P t = some s) (w : World) : (Go.sizeOf t).run P w = .ok s w := by
  have := tyS_ok h
  cases hq : P.info? t with
  | none => simp [hq] at this
  | some i => simp [hq] at this; simp [Go.sizeOf, typeInfo, hq, this]
def TypeDesc.agg : TypeDesc → Bool
  | .struct _ | .array _ _ => true
  | _ => false
theorem isAgg_run {t : Nat} {u : TypeDesc} (h : tyU P t = some u) (w : World) : (isAgg t).run P w = .ok (TypeDesc.agg u) w := by
  unfold isAgg
  rw [Sem.run_bind, tyU_run h w]
  cases u <;> simp [TypeDesc.agg]
end
def U8 (x : BitVec 8) : Value := .int .u8 (x.toNat : Int)
def U16 (x : BitVec 16) : Value := .int .u16 (x.toNat : Int)
def U32 (x : BitVec 32) : Value := .int .u32 (x.toNat : Int)
def U64 (x : BitVec 64) : Value := .int .u64 (x.toNat : Int)
def I64 (n : Int) : Value := .int .i64 n
def ptr (b : Option Nat) (i : Nat) : Value := .pointer (some ⟨b.getD 0, i, none⟩)
def sl (b : Option Nat) (off len cap : Nat) : Value := .slice (b.map fun k => ⟨k, off, none⟩) len cap
def rptr (A : Option Addr) (i : Nat) : Value := .pointer (some ((A.getD default).add i))
theorem Addr.add_add (a : Addr) (i j : Nat) : (a.add i).add j = a.add (i + j) := by
  unfold Addr.add
  by_cases hi : i = 0
  · subst hi; simp
  · by_cases hj : j = 0
    · subst hj; simp
    · simp [hi, hj, Nat.add_assoc]
theorem Addr.add_none (b o i : Nat) : (⟨b, o, none⟩ : Addr).add i = ⟨b, o + i, none⟩ := by
  unfold Addr.add
  split
  · simp_all
  · rfl
section
variable {P : Program} {w0 : World} {L : Slots} {M : List Ent} {x y z : Operand} {t t' : TypeId} {v u : Value}
theorem RV.move (hx : ev L x = some v) : RV P w0 L M (.move x) v := fun ρ w hρ m o ho => by simp [execOp, ho, hρ x v hx]
theorem RV.assign (hx : ev L x = some v) : RV P w0 L M (.assign x) v := fun ρ w hρ m o ho => by simp [execOp, ho, hρ x v hx]
theorem RV.pick {b : Bool} (hc : ev L z = some (.bool b)) (hx : ev L x = some v) (hy : ev L y = some u) : RV P w0 L M (.pick z x y) (if b then v else u) := fun ρ w hρ m o ho => by
  simp [execOp, ho, hρ x v hx, hρ y u hy, hρ z _ hc, asBool]
theorem RV.pick_t (hc : ev L z = some (.bool true)) (hx : ev L x = some v) (hy : ev L y = some u) : RV P w0 L M (.pick z x y) v := by simpa using RV.pick (P := P) (w0 := w0) (M := M) hc hx hy
theorem RV.pick_f (hc : ev L z = some (.bool false)) (hx : ev L x = some v) (hy : ev L y = some u) : RV P w0 L M (.pick z x y) u := by simpa using RV.pick (P := P) (w0 := w0) (M := M) hc hx hy
theorem RV.not {b : Bool} (hx : ev L x = some (.bool b)) : RV P w0 L M (.unOp .not t x) (.bool (!b)) := fun ρ w hρ m o ho => by
  simp [execOp, ho, hρ x _ hx, Op.unary]
theorem i64_in {n : Int} (h : -9223372036854775808 ≤ n ∧ n ≤ 9223372036854775807) : IntKind.i64.wrap n = n := by
  rw [IntKind.wrap_i64]; omega
variable {m n : Int}
theorem RV.add (hx : ev L x = some (.int .i64 m)) (hy : ev L y = some (.int .i64 n)) (h : -9223372036854775808 ≤ m + n ∧ m + n ≤ 9223372036854775807) : RV P w0 L M (.binOp .add t x y t') (.int .i64 (m + n)) := fun ρ w hρ _ o ho => by
  simp [execOp, ho, hρ x _ hx, hρ y _ hy, eqGuard, binOp, Op.intArith, i64_in h]
theorem RV.sub (hx : ev L x = some (.int .i64 m)) (hy : ev L y = some (.int .i64 n)) (h : -9223372036854775808 ≤ m - n ∧ m - n ≤ 9223372036854775807) : RV P w0 L M (.binOp .sub t x y t') (.int .i64 (m - n)) := fun ρ w hρ _ o ho => by
  simp [execOp, ho, hρ x _ hx, hρ y _ hy, eqGuard, binOp, Op.intArith, i64_in h]
theorem RV.mul (hx : ev L x = some (.int .i64 m)) (hy : ev L y = some (.int .i64 n)) (h : -9223372036854775808 ≤ m * n ∧ m * n ≤ 9223372036854775807) : RV P w0 L M (.binOp .mul t x y t') (.int .i64 (m * n)) := fun ρ w hρ _ o ho => by
  simp [execOp, ho, hρ x _ hx, hρ y _ hy, eqGuard, binOp, Op.intArith, i64_in h]
theorem RV.rem (hx : ev L x = some (.int .i64 m)) (hy : ev L y = some (.int .i64 n)) (h0 : 0 ≤ m) (h : 0 < n) : RV P w0 L M (.binOp .rem t x y t') (.int .i64 (m % n)) := fun ρ w hρ _ o ho => by
  have hn : ¬ n = 0 := by omega
  simp [execOp, ho, hρ x _ hx, hρ y _ hy, eqGuard, binOp, Op.intDiv, hn, Int.tmod_eq_emod_of_nonneg h0]
theorem RV.quo (hx : ev L x = some (.int .i64 m)) (hy : ev L y = some (.int .i64 n)) (h0 : 0 ≤ m) (h : 0 < n) (hm : m ≤ 9223372036854775807) : RV P w0 L M (.binOp .quo t x y t') (.int .i64 (m / n)) := fun ρ w hρ _ o ho => by
  have hn : ¬ n = 0 := by omega
  have h1 : 0 ≤ m / n := Int.ediv_nonneg h0 (by omega)
  have h2 : m / n ≤ m := Int.ediv_le_self n h0
  simp [execOp, ho, hρ x _ hx, hρ y _ hy, eqGuard, binOp, Op.intDiv, hn, Int.tdiv_eq_ediv_of_nonneg h0, i64_in (n := m / n) ⟨by omega, by omega⟩]
theorem RV.trem (hx : ev L x = some (.int .i64 m)) (hy : ev L y = some (.int .i64 n)) (h : 0 < n) : RV P w0 L M (.binOp .rem t x y t') (.int .i64 (m.tmod n)) := fun ρ w hρ _ o ho => by
  have hn : ¬ n = 0 := by omega
  simp [execOp, ho, hρ x _ hx, hρ y _ hy, eqGuard, binOp, Op.intDiv, hn]
theorem RV.lss {k : IntKind} (hx : ev L x = some (.int k m)) (hy : ev L y = some (.int k n)) : RV P w0 L M (.binOp .lss t x y t') (.bool (decide (m < n))) := fun ρ w hρ _ o ho => by
  simp [execOp, ho, hρ x _ hx, hρ y _ hy, eqGuard, binOp, Op.intCmp]
theorem RV.leq {k : IntKind} (hx : ev L x = some (.int k m)) (hy : ev L y = some (.int k n)) : RV P w0 L M (.binOp .leq t x y t') (.bool (decide (m ≤ n))) := fun ρ w hρ _ o ho => by
  simp [execOp, ho, hρ x _ hx, hρ y _ hy, eqGuard, binOp, Op.intCmp]
theorem RV.gtr {k : IntKind} (hx : ev L x = some (.int k m)) (hy : ev L y = some (.int k n)) : RV P w0 L M (.binOp .gtr t x y t') (.bool (decide (n < m))) := fun ρ w hρ _ o ho => by
  simp [execOp, ho, hρ x _ hx, hρ y _ hy, eqGuard, binOp, Op.intCmp]
theorem RV.geq {k : IntKind} (hx : ev L x = some (.int k m)) (hy : ev L y = some (.int k n)) : RV P w0 L M (.binOp .geq t x y t') (.bool (decide (n ≤ m))) := fun ρ w hρ _ o ho => by
  simp [execOp, ho, hρ x _ hx, hρ y _ hy, eqGuard, binOp, Op.intCmp]
theorem RV.eql {k : IntKind} (hx : ev L x = some (.int k m)) (hy : ev L y = some (.int k n)) : RV P w0 L M (.binOp .eql t x y t') (.bool (decide (m = n))) := fun ρ w hρ _ o ho => by
  simp [execOp, ho, hρ x _ hx, hρ y _ hy, eqGuard, binOp, Op.intCmp]; rfl
theorem RV.neq {k : IntKind} (hx : ev L x = some (.int k m)) (hy : ev L y = some (.int k n)) : RV P w0 L M (.binOp .neq t x y t') (.bool (!decide (m = n))) := fun ρ w hρ _ o ho => by
  simp [execOp, ho, hρ x _ hx, hρ y _ hy, eqGuard, binOp, Op.intCmp]; rfl
section
variable {p q : BitVec 8}
theorem lit8 (k : Nat) (h : Nat.blt k 256 = true) : Value.int .u8 (Int.ofNat k) = U8 (BitVec.ofNat 8 k) := by
  have h' : k < 256 := by simpa using h
  simp [U8, Nat.mod_eq_of_lt h']
theorem wrap8 (r : BitVec 8) : IntKind.u8.wrap (r.toNat : Int) = (r.toNat : Int) := by
  have := r.isLt
  simp only [IntKind.wrap, IntKind.bits, IntKind.signed, Bool.false_and]
  simp only [Bool.false_eq_true, if_false]
  omega
theorem ofInt8 (p : BitVec 8) : BitVec.ofInt 8 (p.toNat : Int) = p := by simp
theorem U8.inj (h : U8 p = U8 q) : p = q := by
  simp only [U8, Value.int.injEq, true_and] at h
  exact BitVec.eq_of_toNat_eq (by omega)
theorem RV.xor8 {a b : Value} (hx : ev L x = some a) (hp : a = U8 p) (hy : ev L y = some b) (hq : b = U8 q) : RV P w0 L M (.binOp .xor t x y t') (U8 (p ^^^ q)) := fun ρ w hρ _ o ho => by
  subst hp hq
  have e : (execOp ρ o).run P w = .ok (.value (.int .u8 (IntKind.u8.wrap ((BitVec.ofInt 8 (p.toNat : Int) ^^^ BitVec.ofInt 8 (q.toNat : Int)).toNat : Int)))) w := by
    simp only [execOp, ho, hρ x _ hx, hρ y _ hy, eqGuard, binOp, Op.intBits, U8]; rfl
  rw [e, ofInt8, ofInt8, wrap8]; rfl
theorem RV.and8 {a b : Value} (hx : ev L x = some a) (hp : a = U8 p) (hy : ev L y = some b) (hq : b = U8 q) : RV P w0 L M (.binOp .and t x y t') (U8 (p &&& q)) := fun ρ w hρ _ o ho => by
  subst hp hq
  have e : (execOp ρ o).run P w = .ok (.value (.int .u8 (IntKind.u8.wrap ((BitVec.ofInt 8 (p.toNat : Int) &&& BitVec.ofInt 8 (q.toNat : Int)).toNat : Int)))) w := by
    simp only [execOp, ho, hρ x _ hx, hρ y _ hy, eqGuard, binOp, Op.intBits, U8]; rfl
  rw [e, ofInt8, ofInt8, wrap8]; rfl
theorem RV.or8 {a b : Value} (hx : ev L x = some a) (hp : a = U8 p) (hy : ev L y = some b) (hq : b = U8 q) : RV P w0 L M (.binOp .or t x y t') (U8 (p ||| q)) := fun ρ w hρ _ o ho => by
  subst hp hq
  have e : (execOp ρ o).run P w = .ok (.value (.int .u8 (IntKind.u8.wrap ((BitVec.ofInt 8 (p.toNat : Int) ||| BitVec.ofInt 8 (q.toNat : Int)).toNat : Int)))) w := by
    simp only [execOp, ho, hρ x _ hx, hρ y _ hy, eqGuard, binOp, Op.intBits, U8]; rfl
  rw [e, ofInt8, ofInt8, wrap8]; rfl
theorem RV.andNot8 {a b : Value} (hx : ev L x = some a) (hp : a = U8 p) (hy : ev L y = some b) (hq : b = U8 q) : RV P w0 L M (.binOp .andNot t x y t') (U8 (p &&& ~~~q)) := fun ρ w hρ _ o ho => by
  subst hp hq
  have e : (execOp ρ o).run P w = .ok (.value (.int .u8 (IntKind.u8.wrap ((BitVec.ofInt 8 (p.toNat : Int) &&& ~~~BitVec.ofInt 8 (q.toNat : Int)).toNat : Int)))) w := by
    simp only [execOp, ho, hρ x _ hx, hρ y _ hy, eqGuard, binOp, Op.intBits, U8]; rfl
  rw [e, ofInt8, ofInt8, wrap8]; rfl
theorem RV.compl8 {a : Value} (hx : ev L x = some a) (hp : a = U8 p) : RV P w0 L M (.unOp .xor t x) (U8 (~~~p)) := fun ρ w hρ _ o ho => by
  subst hp
  have e : (execOp ρ o).run P w = .ok (.value (.int .u8 (IntKind.u8.wrap ((BitVec.ofInt 8 (IntKind.u8.max) ^^^ BitVec.ofInt 8 (p.toNat : Int)).toNat : Int)))) w := by
    simp only [execOp, ho, hρ x _ hx, Op.unary, Op.intBits, U8]; rfl
  rw [e, ofInt8, wrap8]
  have : BitVec.ofInt 8 (IntKind.u8.max) = BitVec.allOnes 8 := by decide
  rw [this, BitVec.allOnes_xor]; rfl
theorem RV.add8 {a b : Value} (hx : ev L x = some a) (hp : a = U8 p) (hy : ev L y = some b) (hq : b = U8 q) : RV P w0 L M (.binOp .add t x y t') (U8 (p + q)) := fun ρ w hρ _ o ho => by
  subst hp hq
  have e : (execOp ρ o).run P w = .ok (.value (.int .u8 (IntKind.u8.wrap ((p.toNat : Int) + (q.toNat : Int))))) w := by
    simp only [execOp, ho, hρ x _ hx, hρ y _ hy, eqGuard, binOp, Op.intArith, U8]; rfl
  have e2 : IntKind.u8.wrap ((p.toNat : Int) + (q.toNat : Int)) = ((p + q).toNat : Int) := by
    rw [BitVec.toNat_add]
    simp only [IntKind.wrap, IntKind.bits, IntKind.signed, Bool.false_and]
    simp only [Bool.false_eq_true, if_false]
    omega
  rw [e, e2]; rfl
theorem RV.sub8 {a b : Value} (hx : ev L x = some a) (hp : a = U8 p) (hy : ev L y = some b) (hq : b = U8 q) : RV P w0 L M (.binOp .sub t x y t') (U8 (p - q)) := fun ρ w hρ _ o ho => by
  subst hp hq
  have e : (execOp ρ o).run P w = .ok (.value (.int .u8 (IntKind.u8.wrap ((p.toNat : Int) - (q.toNat : Int))))) w := by
    simp only [execOp, ho, hρ x _ hx, hρ y _ hy, eqGuard, binOp, Op.intArith, U8]; rfl
  have e2 : IntKind.u8.wrap ((p.toNat : Int) - (q.toNat : Int)) = ((p - q).toNat : Int) := by
    have := q.isLt
    rw [BitVec.toNat_sub]
    simp only [IntKind.wrap, IntKind.bits, IntKind.signed, Bool.false_and]
    simp only [Bool.false_eq_true, if_false]
    omega
  rw [e, e2]; rfl
theorem RV.mul8 {a b : Value} (hx : ev L x = some a) (hp : a = U8 p) (hy : ev L y = some b) (hq : b = U8 q) : RV P w0 L M (.binOp .mul t x y t') (U8 (p * q)) := fun ρ w hρ _ o ho => by
  subst hp hq
  have e : (execOp ρ o).run P w = .ok (.value (.int .u8 (IntKind.u8.wrap ((p.toNat : Int) * (q.toNat : Int))))) w := by
    simp only [execOp, ho, hρ x _ hx, hρ y _ hy, eqGuard, binOp, Op.intArith, U8]; rfl
  have e2 : IntKind.u8.wrap ((p.toNat : Int) * (q.toNat : Int)) = ((p * q).toNat : Int) := by
    rw [BitVec.toNat_mul]
    simp only [IntKind.wrap, IntKind.bits, IntKind.signed, Bool.false_and]
    simp only [Bool.false_eq_true, if_false]
    omega
  rw [e, e2]; rfl
theorem RV.eql8 {a b : Value} (hx : ev L x = some a) (hp : a = U8 p) (hy : ev L y = some b) (hq : b = U8 q) : RV P w0 L M (.binOp .eql t x y t') (.bool (decide (p = q))) := fun ρ w hρ m o ho => by
  subst hp hq
  rw [RV.eql (P := P) (t := t) (t' := t') hx hy ρ w hρ m o ho]
  congr 3
  rw [decide_eq_decide]
  exact ⟨fun h => BitVec.eq_of_toNat_eq (by omega), fun h => by rw [h]⟩
theorem RV.neq8 {a b : Value} (hx : ev L x = some a) (hp : a = U8 p) (hy : ev L y = some b) (hq : b = U8 q) : RV P w0 L M (.binOp .neq t x y t') (.bool (!decide (p = q))) := fun ρ w hρ m o ho => by
  subst hp hq
  rw [RV.neq (P := P) (t := t) (t' := t') hx hy ρ w hρ m o ho]
  congr 4
  rw [decide_eq_decide]
  exact ⟨fun h => BitVec.eq_of_toNat_eq (by omega), fun h => by rw [h]⟩
theorem RV.shl8 {k : IntKind} {s : Nat} {a b : Value} (hx : ev L x = some a) (hp : a = U8 p) (hy : ev L y = some b) (hq : b = .int k (s : Int)) : RV P w0 L M (.binOp .shl t x y t') (U8 (p <<< s)) := fun ρ w hρ _ o ho => by
  subst hp hq
  have e : (execOp ρ o).run P w = .ok (.value (.int .u8 (IntKind.u8.wrap ((p.toNat : Int) * 2 ^ (min s 8))))) w := by
    simp [execOp, ho, hρ x _ hx, hρ y _ hy, eqGuard, binOp, Op.shift, show ¬ ((s : Int) < 0) by omega, U8, IntKind.bits]
  have e2 : IntKind.u8.wrap ((p.toNat : Int) * 2 ^ (min s 8)) = ((p <<< s).toNat : Int) := by
    simp only [IntKind.wrap, IntKind.bits, IntKind.signed, Bool.false_and]
    simp only [Bool.false_eq_true, if_false]
    rw [BitVec.toNat_shiftLeft, Nat.shiftLeft_eq]
    have e3 : ((p.toNat : Int) * 2 ^ (min s 8)) = ((p.toNat * 2 ^ (min s 8) : Nat) : Int) := by push_cast; rfl
    rw [e3]
    by_cases hs : s ≤ 8
    · rw [Nat.min_eq_left hs]; norm_cast
    · rw [Nat.min_eq_right (by omega)]
      have h2 : 2 ^ s = 2 ^ 8 * 2 ^ (s - 8) := by rw [← Nat.pow_add]; congr 1; omega
      rw [h2, show p.toNat * (2 ^ 8 * 2 ^ (s - 8)) = (p.toNat * 2 ^ (s - 8)) * 2 ^ 8 by rw [Nat.mul_comm (2 ^ 8), Nat.mul_assoc], Nat.mul_mod_left]
      norm_cast
      rw [Nat.mul_mod_left]
  rw [e, e2]; rfl
theorem RV.shr8 {k : IntKind} {s : Nat} {a b : Value} (hx : ev L x = some a) (hp : a = U8 p) (hy : ev L y = some b) (hq : b = .int k (s : Int)) : RV P w0 L M (.binOp .shr t x y t') (U8 (p >>> s)) := fun ρ w hρ _ o ho => by
  subst hp hq
  have e : (execOp ρ o).run P w = .ok (.value (.int .u8 ((p.toNat : Int).fdiv (2 ^ (min s 8))))) w := by
    simp [execOp, ho, hρ x _ hx, hρ y _ hy, eqGuard, binOp, Op.shift, show ¬ ((s : Int) < 0) by omega, U8, IntKind.bits]
  have e2 : (p.toNat : Int).fdiv (2 ^ (min s 8)) = ((p >>> s).toNat : Int) := by
    have e3 : ((2 : Int) ^ (min s 8)) = ((2 ^ (min s 8) : Nat) : Int) := by push_cast; rfl
    rw [e3, Int.fdiv_eq_ediv_of_nonneg _ (Int.natCast_nonneg _), BitVec.toNat_ushiftRight, Nat.shiftRight_eq_div_pow]
    by_cases hs : s ≤ 8
    · rw [Nat.min_eq_left hs]; norm_cast
    · rw [Nat.min_eq_right (by omega)]
      have h1 : p.toNat / 2 ^ s = 0 := Nat.div_eq_of_lt (Nat.lt_of_lt_of_le p.isLt (Nat.pow_le_pow_right (by omega) (by omega)))
      have h2 : p.toNat / 2 ^ 8 = 0 := Nat.div_eq_of_lt p.isLt
      rw [h1]; norm_cast
  rw [e, e2]; rfl
end
section
variable {p q : BitVec 16}
theorem lit16 (k : Nat) (h : Nat.blt k 65536 = true) : Value.int .u16 (Int.ofNat k) = U16 (BitVec.ofNat 16 k) := by
  have h' : k < 65536 := by simpa using h
  simp [U16, Nat.mod_eq_of_lt h']
theorem wrap16 (r : BitVec 16) : IntKind.u16.wrap (r.toNat : Int) = (r.toNat : Int) := by
  have := r.isLt
  simp only [IntKind.wrap, IntKind.bits, IntKind.signed, Bool.false_and]
  simp only [Bool.false_eq_true, if_false]
  omega
theorem ofInt16 (p : BitVec 16) : BitVec.ofInt 16 (p.toNat : Int) = p := by simp
theorem U16.inj (h : U16 p = U16 q) : p = q := by
  simp only [U16, Value.int.injEq, true_and] at h
  exact BitVec.eq_of_toNat_eq (by omega)
theorem RV.xor16 {a b : Value} (hx : ev L x = some a) (hp : a = U16 p) (hy : ev L y = some b) (hq : b = U16 q) : RV P w0 L M (.binOp .xor t x y t') (U16 (p ^^^ q)) := fun ρ w hρ _ o ho => by
  subst hp hq
  have e : (execOp ρ o).run P w = .ok (.value (.int .u16 (IntKind.u16.wrap ((BitVec.ofInt 16 (p.toNat : Int) ^^^ BitVec.ofInt 16 (q.toNat : Int)).toNat : Int)))) w := by
    simp only [execOp, ho, hρ x _ hx, hρ y _ hy, eqGuard, binOp, Op.intBits, U16]; rfl
  rw [e, ofInt16, ofInt16, wrap16]; rfl
theorem RV.and16 {a b : Value} (hx : ev L x = some a) (hp : a = U16 p) (hy : ev L y = some b) (hq : b = U16 q) : RV P w0 L M (.binOp .and t x y t') (U16 (p &&& q)) := fun ρ w hρ _ o ho => by
  subst hp hq
  have e : (execOp ρ o).run P w = .ok (.value (.int .u16 (IntKind.u16.wrap ((BitVec.ofInt 16 (p.toNat : Int) &&& BitVec.ofInt 16 (q.toNat : Int)).toNat : Int)))) w := by
    simp only [execOp, ho, hρ x _ hx, hρ y _ hy, eqGuard, binOp, Op.intBits, U16]; rfl
  rw [e, ofInt16, ofInt16, wrap16]; rfl
theorem RV.or16 {a b : Value} (hx : ev L x = some a) (hp : a = U16 p) (hy : ev L y = some b) (hq : b = U16 q) : RV P w0 L M (.binOp .or t x y t') (U16 (p ||| q)) := fun ρ w hρ _ o ho => by
  subst hp hq
  have e : (execOp ρ o).run P w = .ok (.value (.int .u16 (IntKind.u16.wrap ((BitVec.ofInt 16 (p.toNat : Int) ||| BitVec.ofInt 16 (q.toNat : Int)).toNat : Int)))) w := by
    simp only [execOp, ho, hρ x _ hx, hρ y _ hy, eqGuard, binOp, Op.intBits, U16]; rfl
  rw [e, ofInt16, ofInt16, wrap16]; rfl
theorem RV.andNot16 {a b : Value} (hx : ev L x = some a) (hp : a = U16 p) (hy : ev L y = some b) (hq : b = U16 q) : RV P w0 L M (.binOp .andNot t x y t') (U16 (p &&& ~~~q)) := fun ρ w hρ _ o ho => by
  subst hp hq
  have e : (execOp ρ o).run P w = .ok (.value (.int .u16 (IntKind.u16.wrap ((BitVec.ofInt 16 (p.toNat : Int) &&& ~~~BitVec.ofInt 16 (q.toNat : Int)).toNat : Int)))) w := by
    simp only [execOp, ho, hρ x _ hx, hρ y _ hy, eqGuard, binOp, Op.intBits, U16]; rfl
  rw [e, ofInt16, ofInt16, wrap16]; rfl
theorem RV.compl16 {a : Value} (hx : ev L x = some a) (hp : a = U16 p) : RV P w0 L M (.unOp .xor t x) (U16 (~~~p)) := fun ρ w hρ _ o ho => by
  subst hp
  have e : (execOp ρ o).run P w = .ok (.value (.int .u16 (IntKind.u16.wrap ((BitVec.ofInt 16 (IntKind.u16.max) ^^^ BitVec.ofInt 16 (p.toNat : Int)).toNat : Int)))) w := by
    simp only [execOp, ho, hρ x _ hx, Op.unary, Op.intBits, U16]; rfl
  rw [e, ofInt16, wrap16]
  have : BitVec.ofInt 16 (IntKind.u16.max) = BitVec.allOnes 16 := by decide
  rw [this, BitVec.allOnes_xor]; rfl
theorem RV.add16 {a b : Value} (hx : ev L x = some a) (hp : a = U16 p) (hy : ev L y = some b) (hq : b = U16 q) : RV P w0 L M (.binOp .add t x y t') (U16 (p + q)) := fun ρ w hρ _ o ho => by
  subst hp hq
  have e : (execOp ρ o).run P w = .ok (.value (.int .u16 (IntKind.u16.wrap ((p.toNat : Int) + (q.toNat : Int))))) w := by
    simp only [execOp, ho, hρ x _ hx, hρ y _ hy, eqGuard, binOp, Op.intArith, U16]; rfl
  have e2 : IntKind.u16.wrap ((p.toNat : Int) + (q.toNat : Int)) = ((p + q).toNat : Int) := by
    rw [BitVec.toNat_add]
    simp only [IntKind.wrap, IntKind.bits, IntKind.signed, Bool.false_and]
    simp only [Bool.false_eq_true, if_false]
    omega
  rw [e, e2]; rfl
theorem RV.sub16 {a b : Value} (hx : ev L x = some a) (hp : a = U16 p) (hy : ev L y = some b) (hq : b = U16 q) : RV P w0 L M (.binOp .sub t x y t') (U16 (p - q)) := fun ρ w hρ _ o ho => by
  subst hp hq
  have e : (execOp ρ o).run P w = .ok (.value (.int .u16 (IntKind.u16.wrap ((p.toNat : Int) - (q.toNat : Int))))) w := by
    simp only [execOp, ho, hρ x _ hx, hρ y _ hy, eqGuard, binOp, Op.intArith, U16]; rfl
  have e2 : IntKind.u16.wrap ((p.toNat : Int) - (q.toNat : Int)) = ((p - q).toNat : Int) := by
    have := q.isLt
    rw [BitVec.toNat_sub]
    simp only [IntKind.wrap, IntKind.bits, IntKind.signed, Bool.false_and]
    simp only [Bool.false_eq_true, if_false]
    omega
  rw [e, e2]; rfl
theorem RV.mul16 {a b : Value} (hx : ev L x = some a) (hp : a = U16 p) (hy : ev L y = some b) (hq : b = U16 q) : RV P w0 L M (.binOp .mul t x y t') (U16 (p * q)) := fun ρ w hρ _ o ho => by
  subst hp hq
  have e : (execOp ρ o).run P w = .ok (.value (.int .u16 (IntKind.u16.wrap ((p.toNat : Int) * (q.toNat : Int))))) w := by
    simp only [execOp, ho, hρ x _ hx, hρ y _ hy, eqGuard, binOp, Op.intArith, U16]; rfl
  have e2 : IntKind.u16.wrap ((p.toNat : Int) * (q.toNat : Int)) = ((p * q).toNat : Int) := by
    rw [BitVec.toNat_mul]
    simp only [IntKind.wrap, IntKind.bits, IntKind.signed, Bool.false_and]
    simp only [Bool.false_eq_true, if_false]
    omega
  rw [e, e2]; rfl
theorem RV.eql16 {a b : Value} (hx : ev L x = some a) (hp : a = U16 p) (hy : ev L y = some b) (hq : b = U16 q) : RV P w0 L M (.binOp .eql t x y t') (.bool (decide (p = q))) := fun ρ w hρ m o ho => by
  subst hp hq
  rw [RV.eql (P := P) (t := t) (t' := t') hx hy ρ w hρ m o ho]
  congr 3
  rw [decide_eq_decide]
  exact ⟨fun h => BitVec.eq_of_toNat_eq (by omega), fun h => by rw [h]⟩
theorem RV.neq16 {a b : Value} (hx : ev L x = some a) (hp : a = U16 p) (hy : ev L y = some b) (hq : b = U16 q) : RV P w0 L M (.binOp .neq t x y t') (.bool (!decide (p = q))) := fun ρ w hρ m o ho => by
  subst hp hq
  rw [RV.neq (P := P) (t := t) (t' := t') hx hy ρ w hρ m o ho]
  congr 4
  rw [decide_eq_decide]
  exact ⟨fun h => BitVec.eq_of_toNat_eq (by omega), fun h => by rw [h]⟩
theorem RV.shl16 {k : IntKind} {s : Nat} {a b : Value} (hx : ev L x = some a) (hp : a = U16 p) (hy : ev L y = some b) (hq : b = .int k (s : Int)) : RV P w0 L M (.binOp .shl t x y t') (U16 (p <<< s)) := fun ρ w hρ _ o ho => by
  subst hp hq
  have e : (execOp ρ o).run P w = .ok (.value (.int .u16 (IntKind.u16.wrap ((p.toNat : Int) * 2 ^ (min s 16))))) w := by
    simp [execOp, ho, hρ x _ hx, hρ y _ hy, eqGuard, binOp, Op.shift, show ¬ ((s : Int) < 0) by omega, U16, IntKind.bits]
  have e2 : IntKind.u16.wrap ((p.toNat : Int) * 2 ^ (min s 16)) = ((p <<< s).toNat : Int) := by
    simp only [IntKind.wrap, IntKind.bits, IntKind.signed, Bool.false_and]
    simp only [Bool.false_eq_true, if_false]
    rw [BitVec.toNat_shiftLeft, Nat.shiftLeft_eq]
    have e3 : ((p.toNat : Int) * 2 ^ (min s 16)) = ((p.toNat * 2 ^ (min s 16) : Nat) : Int) := by push_cast; rfl
    rw [e3]
    by_cases hs : s ≤ 16
    · rw [Nat.min_eq_left hs]; norm_cast
    · rw [Nat.min_eq_right (by omega)]
      have h2 : 2 ^ s = 2 ^ 16 * 2 ^ (s - 16) := by rw [← Nat.pow_add]; congr 1; omega
      rw [h2, show p.toNat * (2 ^ 16 * 2 ^ (s - 16)) = (p.toNat * 2 ^ (s - 16)) * 2 ^ 16 by rw [Nat.mul_comm (2 ^ 16), Nat.mul_assoc], Nat.mul_mod_left]
      norm_cast
      rw [Nat.mul_mod_left]
  rw [e, e2]; rfl
theorem RV.shr16 {k : IntKind} {s : Nat} {a b : Value} (hx : ev L x = some a) (hp : a = U16 p) (hy : ev L y = some b) (hq : b = .int k (s : Int)) : RV P w0 L M (.binOp .shr t x y t') (U16 (p >>> s)) := fun ρ w hρ _ o ho => by
  subst hp hq
  have e : (execOp ρ o).run P w = .ok (.value (.int .u16 ((p.toNat : Int).fdiv (2 ^ (min s 16))))) w := by
    simp [execOp, ho, hρ x _ hx, hρ y _ hy, eqGuard, binOp, Op.shift, show ¬ ((s : Int) < 0) by omega, U16, IntKind.bits]
  have e2 : (p.toNat : Int).fdiv (2 ^ (min s 16)) = ((p >>> s).toNat : Int) := by
    have e3 : ((2 : Int) ^ (min s 16)) = ((2 ^ (min s 16) : Nat) : Int) := by push_cast; rfl
    rw [e3, Int.fdiv_eq_ediv_of_nonneg _ (Int.natCast_nonneg _), BitVec.toNat_ushiftRight, Nat.shiftRight_eq_div_pow]
    by_cases hs : s ≤ 16
    · rw [Nat.min_eq_left hs]; norm_cast
    · rw [Nat.min_eq_right (by omega)]
      have h1 : p.toNat / 2 ^ s = 0 := Nat.div_eq_of_lt (Nat.lt_of_lt_of_le p.isLt (Nat.pow_le_pow_right (by omega) (by omega)))
      have h2 : p.toNat / 2 ^ 16 = 0 := Nat.div_eq_of_lt p.isLt
      rw [h1]; norm_cast
  rw [e, e2]; rfl
end
section
variable {p q : BitVec 32}
theorem lit32 (k : Nat) (h : Nat.blt k 4294967296 = true) : Value.int .u32 (Int.ofNat k) = U32 (BitVec.ofNat 32 k) := by
  have h' : k < 4294967296 := by simpa using h
  simp [U32, Nat.mod_eq_of_lt h']
theorem wrap32 (r : BitVec 32) : IntKind.u32.wrap (r.toNat : Int) = (r.toNat : Int) := by
  have := r.isLt
  simp only [IntKind.wrap, IntKind.bits, IntKind.signed, Bool.false_and]
  simp only [Bool.false_eq_true, if_false]
  omega
theorem ofInt32 (p : BitVec 32) : BitVec.ofInt 32 (p.toNat : Int) = p := by simp
theorem U32.inj (h : U32 p = U32 q) : p = q := by
  simp only [U32, Value.int.injEq, true_and] at h
  exact BitVec.eq_of_toNat_eq (by omega)
theorem RV.xor32 {a b : Value} (hx : ev L x = some a) (hp : a = U32 p) (hy : ev L y = some b) (hq : b = U32 q) : RV P w0 L M (.binOp .xor t x y t') (U32 (p ^^^ q)) := fun ρ w hρ _ o ho => by
  subst hp hq
  have e : (execOp ρ o).run P w = .ok (.value (.int .u32 (IntKind.u32.wrap ((BitVec.ofInt 32 (p.toNat : Int) ^^^ BitVec.ofInt 32 (q.toNat : Int)).toNat : Int)))) w := by
    simp only [execOp, ho, hρ x _ hx, hρ y _ hy, eqGuard, binOp, Op.intBits, U32]; rfl
  rw [e, ofInt32, ofInt32, wrap32]; rfl
theorem RV.and32 {a b : Value} (hx : ev L x = some a) (hp : a = U32 p) (hy : ev L y = some b) (hq : b = U32 q) : RV P w0 L M (.binOp .and t x y t') (U32 (p &&& q)) := fun ρ w hρ _ o ho => by
  subst hp hq
  have e : (execOp ρ o).run P w = .ok (.value (.int .u32 (IntKind.u32.wrap ((BitVec.ofInt 32 (p.toNat : Int) &&& BitVec.ofInt 32 (q.toNat : Int)).toNat : Int)))) w := by
    simp only [execOp, ho, hρ x _ hx, hρ y _ hy, eqGuard, binOp, Op.intBits, U32]; rfl
  rw [e, ofInt32, ofInt32, wrap32]; rfl
theorem RV.or32 {a b : Value} (hx : ev L x = some a) (hp : a = U32 p) (hy : ev L y = some b) (hq : b = U32 q) : RV P w0 L M (.binOp .or t x y t') (U32 (p ||| q)) := fun ρ w hρ _ o ho => by
  subst hp hq
  have e : (execOp ρ o).run P w = .ok (.value (.int .u32 (IntKind.u32.wrap ((BitVec.ofInt 32 (p.toNat : Int) ||| BitVec.ofInt 32 (q.toNat : Int)).toNat : Int)))) w := by
    simp only [execOp, ho, hρ x _ hx, hρ y _ hy, eqGuard, binOp, Op.intBits, U32]; rfl
  rw [e, ofInt32, ofInt32, wrap32]; rfl
theorem RV.andNot32 {a b : Value} (hx : ev L x = some a) (hp : a = U32 p) (hy : ev L y = some b) (hq : b = U32 q) : RV P w0 L M (.binOp .andNot t x y t') (U32 (p &&& ~~~q)) := fun ρ w hρ _ o ho => by
  subst hp hq
  have e : (execOp ρ o).run P w = .ok (.value (.int .u32 (IntKind.u32.wrap ((BitVec.ofInt 32 (p.toNat : Int) &&& ~~~BitVec.ofInt 32 (q.toNat : Int)).toNat : Int)))) w := by
    simp only [execOp, ho, hρ x _ hx, hρ y _ hy, eqGuard, binOp, Op.intBits, U32]; rfl
  rw [e, ofInt32, ofInt32, wrap32]; rfl
theorem RV.compl32 {a : Value} (hx : ev L x = some a) (hp : a = U32 p) : RV P w0 L M (.unOp .xor t x) (U32 (~~~p)) := fun ρ w hρ _ o ho => by
  subst hp
  have e : (execOp ρ o).run P w = .ok (.value (.int .u32 (IntKind.u32.wrap ((BitVec.ofInt 32 (IntKind.u32.max) ^^^ BitVec.ofInt 32 (p.toNat : Int)).toNat : Int)))) w := by
    simp only [execOp, ho, hρ x _ hx, Op.unary, Op.intBits, U32]; rfl
  rw [e, ofInt32, wrap32]
  have : BitVec.ofInt 32 (IntKind.u32.max) = BitVec.allOnes 32 := by decide
  rw [this, BitVec.allOnes_xor]; rfl
theorem RV.add32 {a b : Value} (hx : ev L x = some a) (hp : a = U32 p) (hy : ev L y = some b) (hq : b = U32 q) : RV P w0 L M (.binOp .add t x y t') (U32 (p + q)) := fun ρ w hρ _ o ho => by
  subst hp hq
  have e : (execOp ρ o).run P w = .ok (.value (.int .u32 (IntKind.u32.wrap ((p.toNat : Int) + (q.toNat : Int))))) w := by
    simp only [execOp, ho, hρ x _ hx, hρ y _ hy, eqGuard, binOp, Op.intArith, U32]; rfl
  have e2 : IntKind.u32.wrap ((p.toNat : Int) + (q.toNat : Int)) = ((p + q).toNat : Int) := by
    rw [BitVec.toNat_add]
    simp only [IntKind.wrap, IntKind.bits, IntKind.signed, Bool.false_and]
    simp only [Bool.false_eq_true, if_false]
    omega
  rw [e, e2]; rfl
theorem RV.sub32 {a b : Value} (hx : ev L x = some a) (hp : a = U32 p) (hy : ev L y = some b) (hq : b = U32 q) : RV P w0 L M (.binOp .sub t x y t') (U32 (p - q)) := fun ρ w hρ _ o ho => by
  subst hp hq
  have e : (execOp ρ o).run P w = .ok (.value (.int .u32 (IntKind.u32.wrap ((p.toNat : Int) - (q.toNat : Int))))) w := by
    simp only [execOp, ho, hρ x _ hx, hρ y _ hy, eqGuard, binOp, Op.intArith, U32]; rfl
  have e2 : IntKind.u32.wrap ((p.toNat : Int) - (q.toNat : Int)) = ((p - q).toNat : Int) := by
    have := q.isLt
    rw [BitVec.toNat_sub]
    simp only [IntKind.wrap, IntKind.bits, IntKind.signed, Bool.false_and]
    simp only [Bool.false_eq_true, if_false]
    omega
  rw [e, e2]; rfl
theorem RV.mul32 {a b : Value} (hx : ev L x = some a) (hp : a = U32 p) (hy : ev L y = some b) (hq : b = U32 q) : RV P w0 L M (.binOp .mul t x y t') (U32 (p * q)) := fun ρ w hρ _ o ho => by
  subst hp hq
  have e : (execOp ρ o).run P w = .ok (.value (.int .u32 (IntKind.u32.wrap ((p.toNat : Int) * (q.toNat : Int))))) w := by
    simp only [execOp, ho, hρ x _ hx, hρ y _ hy, eqGuard, binOp, Op.intArith, U32]; rfl
  have e2 : IntKind.u32.wrap ((p.toNat : Int) * (q.toNat : Int)) = ((p * q).toNat : Int) := by
    rw [BitVec.toNat_mul]
    simp only [IntKind.wrap, IntKind.bits, IntKind.signed, Bool.false_and]
    simp only [Bool.false_eq_true, if_false]
    omega
  rw [e, e2]; rfl
theorem RV.eql32 {a b : Value} (hx : ev L x = some a) (hp : a = U32 p) (hy : ev L y = some b) (hq : b = U32 q) : RV P w0 L M (.binOp .eql t x y t') (.bool (decide (p = q))) := fun ρ w hρ m o ho => by
  subst hp hq
  rw [RV.eql (P := P) (t := t) (t' := t') hx hy ρ w hρ m o ho]
  congr 3
  rw [decide_eq_decide]
  exact ⟨fun h => BitVec.eq_of_toNat_eq (by omega), fun h => by rw [h]⟩
theorem RV.neq32 {a b : Value} (hx : ev L x = some a) (hp : a = U32 p) (hy : ev L y = some b) (hq : b = U32 q) : RV P w0 L M (.binOp .neq t x y t') (.bool (!decide (p = q))) := fun ρ w hρ m o ho => by
  subst hp hq
  rw [RV.neq (P := P) (t := t) (t' := t') hx hy ρ w hρ m o ho]
  congr 4
  rw [decide_eq_decide]
  exact ⟨fun h => BitVec.eq_of_toNat_eq (by omega), fun h => by rw [h]⟩
theorem RV.shl32 {k : IntKind} {s : Nat} {a b : Value} (hx : ev L x = some a) (hp : a = U32 p) (hy : ev L y = some b) (hq : b = .int k (s : Int)) : RV P w0 L M (.binOp .shl t x y t') (U32 (p <<< s)) := fun ρ w hρ _ o ho => by
  subst hp hq
  have e : (execOp ρ o).run P w = .ok (.value (.int .u32 (IntKind.u32.wrap ((p.toNat : Int) * 2 ^ (min s 32))))) w := by
    simp [execOp, ho, hρ x _ hx, hρ y _ hy, eqGuard, binOp, Op.shift, show ¬ ((s : Int) < 0) by omega, U32, IntKind.bits]
  have e2 : IntKind.u32.wrap ((p.toNat : Int) * 2 ^ (min s 32)) = ((p <<< s).toNat : Int) := by
    simp only [IntKind.wrap, IntKind.bits, IntKind.signed, Bool.false_and]
    simp only [Bool.false_eq_true, if_false]
    rw [BitVec.toNat_shiftLeft, Nat.shiftLeft_eq]
    have e3 : ((p.toNat : Int) * 2 ^ (min s 32)) = ((p.toNat * 2 ^ (min s 32) : Nat) : Int) := by push_cast; rfl
    rw [e3]
    by_cases hs : s ≤ 32
    · rw [Nat.min_eq_left hs]; norm_cast
    · rw [Nat.min_eq_right (by omega)]
      have h2 : 2 ^ s = 2 ^ 32 * 2 ^ (s - 32) := by rw [← Nat.pow_add]; congr 1; omega
      rw [h2, show p.toNat * (2 ^ 32 * 2 ^ (s - 32)) = (p.toNat * 2 ^ (s - 32)) * 2 ^ 32 by rw [Nat.mul_comm (2 ^ 32), Nat.mul_assoc], Nat.mul_mod_left]
      norm_cast
      rw [Nat.mul_mod_left]
  rw [e, e2]; rfl
theorem RV.shr32 {k : IntKind} {s : Nat} {a b : Value} (hx : ev L x = some a) (hp : a = U32 p) (hy : ev L y = some b) (hq : b = .int k (s : Int)) : RV P w0 L M (.binOp .shr t x y t') (U32 (p >>> s)) := fun ρ w hρ _ o ho => by
  subst hp hq
  have e : (execOp ρ o).run P w = .ok (.value (.int .u32 ((p.toNat : Int).fdiv (2 ^ (min s 32))))) w := by
    simp [execOp, ho, hρ x _ hx, hρ y _ hy, eqGuard, binOp, Op.shift, show ¬ ((s : Int) < 0) by omega, U32, IntKind.bits]
  have e2 : (p.toNat : Int).fdiv (2 ^ (min s 32)) = ((p >>> s).toNat : Int) := by
    have e3 : ((2 : Int) ^ (min s 32)) = ((2 ^ (min s 32) : Nat) : Int) := by push_cast; rfl
    rw [e3, Int.fdiv_eq_ediv_of_nonneg _ (Int.natCast_nonneg _), BitVec.toNat_ushiftRight, Nat.shiftRight_eq_div_pow]
    by_cases hs : s ≤ 32
    · rw [Nat.min_eq_left hs]; norm_cast
    · rw [Nat.min_eq_right (by omega)]
      have h1 : p.toNat / 2 ^ s = 0 := Nat.div_eq_of_lt (Nat.lt_of_lt_of_le p.isLt (Nat.pow_le_pow_right (by omega) (by omega)))
      have h2 : p.toNat / 2 ^ 32 = 0 := Nat.div_eq_of_lt p.isLt
      rw [h1]; norm_cast
  rw [e, e2]; rfl
end
section
variable {p q : BitVec 64}
theorem lit64 (k : Nat) (h : Nat.blt k 18446744073709551616 = true) : Value.int .u64 (Int.ofNat k) = U64 (BitVec.ofNat 64 k) := by
  have h' : k < 18446744073709551616 := by simpa using h
  simp [U64, Nat.mod_eq_of_lt h']
theorem wrap64 (r : BitVec 64) : IntKind.u64.wrap (r.toNat : Int) = (r.toNat : Int) := by
  have := r.isLt
  simp only [IntKind.wrap, IntKind.bits, IntKind.signed, Bool.false_and]
  simp only [Bool.false_eq_true, if_false]
  omega
theorem ofInt64 (p : BitVec 64) : BitVec.ofInt 64 (p.toNat : Int) = p := by simp
theorem U64.inj (h : U64 p = U64 q) : p = q := by
  simp only [U64, Value.int.injEq, true_and] at h
  exact BitVec.eq_of_toNat_eq (by omega)
theorem RV.xor64 {a b : Value} (hx : ev L x = some a) (hp : a = U64 p) (hy : ev L y = some b) (hq : b = U64 q) : RV P w0 L M (.binOp .xor t x y t') (U64 (p ^^^ q)) := fun ρ w hρ _ o ho => by
  subst hp hq
  have e : (execOp ρ o).run P w = .ok (.value (.int .u64 (IntKind.u64.wrap ((BitVec.ofInt 64 (p.toNat : Int) ^^^ BitVec.ofInt 64 (q.toNat : Int)).toNat : Int)))) w := by
    simp only [execOp, ho, hρ x _ hx, hρ y _ hy, eqGuard, binOp, Op.intBits, U64]; rfl
  rw [e, ofInt64, ofInt64, wrap64]; rfl
theorem RV.and64 {a b : Value} (hx : ev L x = some a) (hp : a = U64 p) (hy : ev L y = some b) (hq : b = U64 q) : RV P w0 L M (.binOp .and t x y t') (U64 (p &&& q)) := fun ρ w hρ _ o ho => by
  subst hp hq
  have e : (execOp ρ o).run P w = .ok (.value (.int .u64 (IntKind.u64.wrap ((BitVec.ofInt 64 (p.toNat : Int) &&& BitVec.ofInt 64 (q.toNat : Int)).toNat : Int)))) w := by
    simp only [execOp, ho, hρ x _ hx, hρ y _ hy, eqGuard, binOp, Op.intBits, U64]; rfl
  rw [e, ofInt64, ofInt64, wrap64]; rfl
theorem RV.or64 {a b : Value} (hx : ev L x = some a) (hp : a = U64 p) (hy : ev L y = some b) (hq : b = U64 q) : RV P w0 L M (.binOp .or t x y t') (U64 (p ||| q)) := fun ρ w hρ _ o ho => by
  subst hp hq
  have e : (execOp ρ o).run P w = .ok (.value (.int .u64 (IntKind.u64.wrap ((BitVec.ofInt 64 (p.toNat : Int) ||| BitVec.ofInt 64 (q.toNat : Int)).toNat : Int)))) w := by
    simp only [execOp, ho, hρ x _ hx, hρ y _ hy, eqGuard, binOp, Op.intBits, U64]; rfl
  rw [e, ofInt64, ofInt64, wrap64]; rfl
theorem RV.andNot64 {a b : Value} (hx : ev L x = some a) (hp : a = U64 p) (hy : ev L y = some b) (hq : b = U64 q) : RV P w0 L M (.binOp .andNot t x y t') (U64 (p &&& ~~~q)) := fun ρ w hρ _ o ho => by
  subst hp hq
  have e : (execOp ρ o).run P w = .ok (.value (.int .u64 (IntKind.u64.wrap ((BitVec.ofInt 64 (p.toNat : Int) &&& ~~~BitVec.ofInt 64 (q.toNat : Int)).toNat : Int)))) w := by
    simp only [execOp, ho, hρ x _ hx, hρ y _ hy, eqGuard, binOp, Op.intBits, U64]; rfl
  rw [e, ofInt64, ofInt64, wrap64]; rfl
theorem RV.compl64 {a : Value} (hx : ev L x = some a) (hp : a = U64 p) : RV P w0 L M (.unOp .xor t x) (U64 (~~~p)) := fun ρ w hρ _ o ho => by
  subst hp
  have e : (execOp ρ o).run P w = .ok (.value (.int .u64 (IntKind.u64.wrap ((BitVec.ofInt 64 (IntKind.u64.max) ^^^ BitVec.ofInt 64 (p.toNat : Int)).toNat : Int)))) w := by
    simp only [execOp, ho, hρ x _ hx, Op.unary, Op.intBits, U64]; rfl
  rw [e, ofInt64, wrap64]
  have : BitVec.ofInt 64 (IntKind.u64.max) = BitVec.allOnes 64 := by decide
  rw [this, BitVec.allOnes_xor]; rfl
theorem RV.add64 {a b : Value} (hx : ev L x = some a) (hp : a = U64 p) (hy : ev L y = some b) (hq : b = U64 q) : RV P w0 L M (.binOp .add t x y t') (U64 (p + q)) := fun ρ w hρ _ o ho => by
  subst hp hq
  have e : (execOp ρ o).run P w = .ok (.value (.int .u64 (IntKind.u64.wrap ((p.toNat : Int) + (q.toNat : Int))))) w := by
    simp only [execOp, ho, hρ x _ hx, hρ y _ hy, eqGuard, binOp, Op.intArith, U64]; rfl
  have e2 : IntKind.u64.wrap ((p.toNat : Int) + (q.toNat : Int)) = ((p + q).toNat : Int) := by
    rw [BitVec.toNat_add]
    simp only [IntKind.wrap, IntKind.bits, IntKind.signed, Bool.false_and]
    simp only [Bool.false_eq_true, if_false]
    omega
  rw [e, e2]; rfl
theorem RV.sub64 {a b : Value} (hx : ev L x = some a) (hp : a = U64 p) (hy : ev L y = some b) (hq : b = U64 q) : RV P w0 L M (.binOp .sub t x y t') (U64 (p - q)) := fun ρ w hρ _ o ho => by
  subst hp hq
  have e : (execOp ρ o).run P w = .ok (.value (.int .u64 (IntKind.u64.wrap ((p.toNat : Int) - (q.toNat : Int))))) w := by
    simp only [execOp, ho, hρ x _ hx, hρ y _ hy, eqGuard, binOp, Op.intArith, U64]; rfl
  have e2 : IntKind.u64.wrap ((p.toNat : Int) - (q.toNat : Int)) = ((p - q).toNat : Int) := by
    have := q.isLt
    rw [BitVec.toNat_sub]
    simp only [IntKind.wrap, IntKind.bits, IntKind.signed, Bool.false_and]
    simp only [Bool.false_eq_true, if_false]
    omega
  rw [e, e2]; rfl
theorem RV.mul64 {a b : Value} (hx : ev L x = some a) (hp : a = U64 p) (hy : ev L y = some b) (hq : b = U64 q) : RV P w0 L M (.binOp .mul t x y t') (U64 (p * q)) := fun ρ w hρ _ o ho => by
  subst hp hq
  have e : (execOp ρ o).run P w = .ok (.value (.int .u64 (IntKind.u64.wrap ((p.toNat : Int) * (q.toNat : Int))))) w := by
    simp only [execOp, ho, hρ x _ hx, hρ y _ hy, eqGuard, binOp, Op.intArith, U64]; rfl
  have e2 : IntKind.u64.wrap ((p.toNat : Int) * (q.toNat : Int)) = ((p * q).toNat : Int) := by
    rw [BitVec.toNat_mul]
    simp only [IntKind.wrap, IntKind.bits, IntKind.signed, Bool.false_and]
    simp only [Bool.false_eq_true, if_false]
    omega
  rw [e, e2]; rfl
theorem RV.eql64 {a b : Value} (hx : ev L x = some a) (hp : a = U64 p) (hy : ev L y = some b) (hq : b = U64 q) : RV P w0 L M (.binOp .eql t x y t') (.bool (decide (p = q))) := fun ρ w hρ m o ho => by
  subst hp hq
  rw [RV.eql (P := P) (t := t) (t' := t') hx hy ρ w hρ m o ho]
  congr 3
  rw [decide_eq_decide]
  exact ⟨fun h => BitVec.eq_of_toNat_eq (by omega), fun h => by rw [h]⟩
theorem RV.neq64 {a b : Value} (hx : ev L x = some a) (hp : a = U64 p) (hy : ev L y = some b) (hq : b = U64 q) : RV P w0 L M (.binOp .neq t x y t') (.bool (!decide (p = q))) := fun ρ w hρ m o ho => by
  subst hp hq
  rw [RV.neq (P := P) (t := t) (t' := t') hx hy ρ w hρ m o ho]
  congr 4
  rw [decide_eq_decide]
  exact ⟨fun h => BitVec.eq_of_toNat_eq (by omega), fun h => by rw [h]⟩
theorem RV.shl64 {k : IntKind} {s : Nat} {a b : Value} (hx : ev L x = some a) (hp : a = U64 p) (hy : ev L y = some b) (hq : b = .int k (s : Int)) : RV P w0 L M (.binOp .shl t x y t') (U64 (p <<< s)) := fun ρ w hρ _ o ho => by
  subst hp hq
  have e : (execOp ρ o).run P w = .ok (.value (.int .u64 (IntKind.u64.wrap ((p.toNat : Int) * 2 ^ (min s 64))))) w := by
    simp [execOp, ho, hρ x _ hx, hρ y _ hy, eqGuard, binOp, Op.shift, show ¬ ((s : Int) < 0) by omega, U64, IntKind.bits]
  have e2 : IntKind.u64.wrap ((p.toNat : Int) * 2 ^ (min s 64)) = ((p <<< s).toNat : Int) := by
    simp only [IntKind.wrap, IntKind.bits, IntKind.signed, Bool.false_and]
    simp only [Bool.false_eq_true, if_false]
    rw [BitVec.toNat_shiftLeft, Nat.shiftLeft_eq]
    have e3 : ((p.toNat : Int) * 2 ^ (min s 64)) = ((p.toNat * 2 ^ (min s 64) : Nat) : Int) := by push_cast; rfl
    rw [e3]
    by_cases hs : s ≤ 64
    · rw [Nat.min_eq_left hs]; norm_cast
    · rw [Nat.min_eq_right (by omega)]
      have h2 : 2 ^ s = 2 ^ 64 * 2 ^ (s - 64) := by rw [← Nat.pow_add]; congr 1; omega
      rw [h2, show p.toNat * (2 ^ 64 * 2 ^ (s - 64)) = (p.toNat * 2 ^ (s - 64)) * 2 ^ 64 by rw [Nat.mul_comm (2 ^ 64), Nat.mul_assoc], Nat.mul_mod_left]
      norm_cast
      rw [Nat.mul_mod_left]
  rw [e, e2]; rfl
theorem RV.shr64 {k : IntKind} {s : Nat} {a b : Value} (hx : ev L x = some a) (hp : a = U64 p) (hy : ev L y = some b) (hq : b = .int k (s : Int)) : RV P w0 L M (.binOp .shr t x y t') (U64 (p >>> s)) := fun ρ w hρ _ o ho => by
  subst hp hq
  have e : (execOp ρ o).run P w = .ok (.value (.int .u64 ((p.toNat : Int).fdiv (2 ^ (min s 64))))) w := by
    simp [execOp, ho, hρ x _ hx, hρ y _ hy, eqGuard, binOp, Op.shift, show ¬ ((s : Int) < 0) by omega, U64, IntKind.bits]
  have e2 : (p.toNat : Int).fdiv (2 ^ (min s 64)) = ((p >>> s).toNat : Int) := by
    have e3 : ((2 : Int) ^ (min s 64)) = ((2 ^ (min s 64) : Nat) : Int) := by push_cast; rfl
    rw [e3, Int.fdiv_eq_ediv_of_nonneg _ (Int.natCast_nonneg _), BitVec.toNat_ushiftRight, Nat.shiftRight_eq_div_pow]
    by_cases hs : s ≤ 64
    · rw [Nat.min_eq_left hs]; norm_cast
    · rw [Nat.min_eq_right (by omega)]
      have h1 : p.toNat / 2 ^ s = 0 := Nat.div_eq_of_lt (Nat.lt_of_lt_of_le p.isLt (Nat.pow_le_pow_right (by omega) (by omega)))
      have h2 : p.toNat / 2 ^ 64 = 0 := Nat.div_eq_of_lt p.isLt
      rw [h1]; norm_cast
  rw [e, e2]; rfl
end
theorem RV.shl8_i {p : BitVec 8} {k : IntKind} {a : Value} (hx : ev L x = some a) (hp : a = U8 p) (hy : ev L y = some (.int k n)) (h0 : 0 ≤ n) : RV P w0 L M (.binOp .shl t x y t') (U8 (p <<< n.toNat)) :=
  RV.shl8 (s := n.toNat) hx hp hy (by rw [Int.toNat_of_nonneg h0])
theorem RV.shr8_i {p : BitVec 8} {k : IntKind} {a : Value} (hx : ev L x = some a) (hp : a = U8 p) (hy : ev L y = some (.int k n)) (h0 : 0 ≤ n) : RV P w0 L M (.binOp .shr t x y t') (U8 (p >>> n.toNat)) :=
  RV.shr8 (s := n.toNat) hx hp hy (by rw [Int.toNat_of_nonneg h0])
theorem RV.shl16_i {p : BitVec 16} {k : IntKind} {a : Value} (hx : ev L x = some a) (hp : a = U16 p) (hy : ev L y = some (.int k n)) (h0 : 0 ≤ n) : RV P w0 L M (.binOp .shl t x y t') (U16 (p <<< n.toNat)) :=
  RV.shl16 (s := n.toNat) hx hp hy (by rw [Int.toNat_of_nonneg h0])
theorem RV.shr16_i {p : BitVec 16} {k : IntKind} {a : Value} (hx : ev L x = some a) (hp : a = U16 p) (hy : ev L y = some (.int k n)) (h0 : 0 ≤ n) : RV P w0 L M (.binOp .shr t x y t') (U16 (p >>> n.toNat)) :=
  RV.shr16 (s := n.toNat) hx hp hy (by rw [Int.toNat_of_nonneg h0])
theorem RV.shl32_i {p : BitVec 32} {k : IntKind} {a : Value} (hx : ev L x = some a) (hp : a = U32 p) (hy : ev L y = some (.int k n)) (h0 : 0 ≤ n) : RV P w0 L M (.binOp .shl t x y t') (U32 (p <<< n.toNat)) :=
  RV.shl32 (s := n.toNat) hx hp hy (by rw [Int.toNat_of_nonneg h0])
theorem RV.shr32_i {p : BitVec 32} {k : IntKind} {a : Value} (hx : ev L x = some a) (hp : a = U32 p) (hy : ev L y = some (.int k n)) (h0 : 0 ≤ n) : RV P w0 L M (.binOp .shr t x y t') (U32 (p >>> n.toNat)) :=
  RV.shr32 (s := n.toNat) hx hp hy (by rw [Int.toNat_of_nonneg h0])
theorem RV.shl64_i {p : BitVec 64} {k : IntKind} {a : Value} (hx : ev L x = some a) (hp : a = U64 p) (hy : ev L y = some (.int k n)) (h0 : 0 ≤ n) : RV P w0 L M (.binOp .shl t x y t') (U64 (p <<< n.toNat)) :=
  RV.shl64 (s := n.toNat) hx hp hy (by rw [Int.toNat_of_nonneg h0])
theorem RV.shr64_i {p : BitVec 64} {k : IntKind} {a : Value} (hx : ev L x = some a) (hp : a = U64 p) (hy : ev L y = some (.int k n)) (h0 : 0 ≤ n) : RV P w0 L M (.binOp .shr t x y t') (U64 (p >>> n.toNat)) :=
  RV.shr64 (s := n.toNat) hx hp hy (by rw [Int.toNat_of_nonneg h0])
theorem RV.lss_t {k : IntKind} (hx : ev L x = some (.int k m)) (hy : ev L y = some (.int k n)) (h : m < n) : RV P w0 L M (.binOp .lss t x y t') (.bool true) := by
  have := RV.lss (P := P) (w0 := w0) (M := M) (t := t) (t' := t') hx hy
  rwa [decide_eq_true h] at this
theorem RV.lss_f {k : IntKind} (hx : ev L x = some (.int k m)) (hy : ev L y = some (.int k n)) (h : ¬ (m < n)) : RV P w0 L M (.binOp .lss t x y t') (.bool false) := by
  have := RV.lss (P := P) (w0 := w0) (M := M) (t := t) (t' := t') hx hy
  rwa [decide_eq_false h] at this
theorem RV.leq_t {k : IntKind} (hx : ev L x = some (.int k m)) (hy : ev L y = some (.int k n)) (h : m ≤ n) : RV P w0 L M (.binOp .leq t x y t') (.bool true) := by
  have := RV.leq (P := P) (w0 := w0) (M := M) (t := t) (t' := t') hx hy
  rwa [decide_eq_true h] at this
theorem RV.leq_f {k : IntKind} (hx : ev L x = some (.int k m)) (hy : ev L y = some (.int k n)) (h : ¬ (m ≤ n)) : RV P w0 L M (.binOp .leq t x y t') (.bool false) := by
  have := RV.leq (P := P) (w0 := w0) (M := M) (t := t) (t' := t') hx hy
  rwa [decide_eq_false h] at this
theorem RV.gtr_t {k : IntKind} (hx : ev L x = some (.int k m)) (hy : ev L y = some (.int k n)) (h : n < m) : RV P w0 L M (.binOp .gtr t x y t') (.bool true) := by
  have := RV.gtr (P := P) (w0 := w0) (M := M) (t := t) (t' := t') hx hy
  rwa [decide_eq_true h] at this
theorem RV.gtr_f {k : IntKind} (hx : ev L x = some (.int k m)) (hy : ev L y = some (.int k n)) (h : ¬ (n < m)) : RV P w0 L M (.binOp .gtr t x y t') (.bool false) := by
  have := RV.gtr (P := P) (w0 := w0) (M := M) (t := t) (t' := t') hx hy
  rwa [decide_eq_false h] at this
theorem RV.geq_t {k : IntKind} (hx : ev L x = some (.int k m)) (hy : ev L y = some (.int k n)) (h : n ≤ m) : RV P w0 L M (.binOp .geq t x y t') (.bool true) := by
  have := RV.geq (P := P) (w0 := w0) (M := M) (t := t) (t' := t') hx hy
  rwa [decide_eq_true h] at this
theorem RV.geq_f {k : IntKind} (hx : ev L x = some (.int k m)) (hy : ev L y = some (.int k n)) (h : ¬ (n ≤ m)) : RV P w0 L M (.binOp .geq t x y t') (.bool false) := by
  have := RV.geq (P := P) (w0 := w0) (M := M) (t := t) (t' := t') hx hy
  rwa [decide_eq_false h] at this
theorem RV.eql_t {k : IntKind} (hx : ev L x = some (.int k m)) (hy : ev L y = some (.int k n)) (h : m = n) : RV P w0 L M (.binOp .eql t x y t') (.bool true) := by
  have := RV.eql (P := P) (w0 := w0) (M := M) (t := t) (t' := t') hx hy
  rwa [decide_eq_true h] at this
theorem RV.eql_f {k : IntKind} (hx : ev L x = some (.int k m)) (hy : ev L y = some (.int k n)) (h : ¬ (m = n)) : RV P w0 L M (.binOp .eql t x y t') (.bool false) := by
  have := RV.eql (P := P) (w0 := w0) (M := M) (t := t) (t' := t') hx hy
  rwa [decide_eq_false h] at this
theorem RV.neq_t {k : IntKind} (hx : ev L x = some (.int k m)) (hy : ev L y = some (.int k n)) (h : ¬ m = n) : RV P w0 L M (.binOp .neq t x y t') (.bool true) := by
  have := RV.neq (P := P) (w0 := w0) (M := M) (t := t) (t' := t') hx hy
  rwa [decide_eq_false h] at this
theorem RV.neq_f {k : IntKind} (hx : ev L x = some (.int k m)) (hy : ev L y = some (.int k n)) (h : m = n) : RV P w0 L M (.binOp .neq t x y t') (.bool false) := by
  have := RV.neq (P := P) (w0 := w0) (M := M) (t := t) (t' := t') hx hy
  rwa [decide_eq_true h] at this
theorem RV.eql8_t {p q : BitVec 8} {a b : Value} (hx : ev L x = some a) (hp : a = U8 p) (hy : ev L y = some b) (hq : b = U8 q) (h : p = q) : RV P w0 L M (.binOp .eql t x y t') (.bool true) := by
  have := RV.eql8 (P := P) (w0 := w0) (M := M) (t := t) (t' := t') hx hp hy hq
  rwa [decide_eq_true h] at this
theorem RV.eql8_f {p q : BitVec 8} {a b : Value} (hx : ev L x = some a) (hp : a = U8 p) (hy : ev L y = some b) (hq : b = U8 q) (h : ¬ p = q) : RV P w0 L M (.binOp .eql t x y t') (.bool false) := by
  have := RV.eql8 (P := P) (w0 := w0) (M := M) (t := t) (t' := t') hx hp hy hq
  rwa [decide_eq_false h] at this
theorem RV.neq8_t {p q : BitVec 8} {a b : Value} (hx : ev L x = some a) (hp : a = U8 p) (hy : ev L y = some b) (hq : b = U8 q) (h : ¬ p = q) : RV P w0 L M (.binOp .neq t x y t') (.bool true) := by
  have := RV.neq8 (P := P) (w0 := w0) (M := M) (t := t) (t' := t') hx hp hy hq
  rwa [decide_eq_false h] at this
theorem RV.neq8_f {p q : BitVec 8} {a b : Value} (hx : ev L x = some a) (hp : a = U8 p) (hy : ev L y = some b) (hq : b = U8 q) (h : p = q) : RV P w0 L M (.binOp .neq t x y t') (.bool false) := by
  have := RV.neq8 (P := P) (w0 := w0) (M := M) (t := t) (t' := t') hx hp hy hq
  rwa [decide_eq_true h] at this
theorem RV.eql16_t {p q : BitVec 16} {a b : Value} (hx : ev L x = some a) (hp : a = U16 p) (hy : ev L y = some b) (hq : b = U16 q) (h : p = q) : RV P w0 L M (.binOp .eql t x y t') (.bool true) := by
  have := RV.eql16 (P := P) (w0 := w0) (M := M) (t := t) (t' := t') hx hp hy hq
  rwa [decide_eq_true h] at this
theorem RV.eql16_f {p q : BitVec 16} {a b : Value} (hx : ev L x = some a) (hp : a = U16 p) (hy : ev L y = some b) (hq : b = U16 q) (h : ¬ p = q) : RV P w0 L M (.binOp .eql t x y t') (.bool false) := by
  have := RV.eql16 (P := P) (w0 := w0) (M := M) (t := t) (t' := t') hx hp hy hq
  rwa [decide_eq_false h] at this
theorem RV.neq16_t {p q : BitVec 16} {a b : Value} (hx : ev L x = some a) (hp : a = U16 p) (hy : ev L y = some b) (hq : b = U16 q) (h : ¬ p = q) : RV P w0 L M (.binOp .neq t x y t') (.bool true) := by
  have := RV.neq16 (P := P) (w0 := w0) (M := M) (t := t) (t' := t') hx hp hy hq
  rwa [decide_eq_false h] at this
theorem RV.neq16_f {p q : BitVec 16} {a b : Value} (hx : ev L x = some a) (hp : a = U16 p) (hy : ev L y = some b) (hq : b = U16 q) (h : p = q) : RV P w0 L M (.binOp .neq t x y t') (.bool false) := by
  have := RV.neq16 (P := P) (w0 := w0) (M := M) (t := t) (t' := t') hx hp hy hq
  rwa [decide_eq_true h] at this
theorem RV.eql32_t {p q : BitVec 32} {a b : Value} (hx : ev L x = some a) (hp : a = U32 p) (hy : ev L y = some b) (hq : b = U32 q) (h : p = q) : RV P w0 L M (.binOp .eql t x y t') (.bool true) := by
  have := RV.eql32 (P := P) (w0 := w0) (M := M) (t := t) (t' := t') hx hp hy hq
  rwa [decide_eq_true h] at this
theorem RV.eql32_f {p q : BitVec 32} {a b : Value} (hx : ev L x = some a) (hp : a = U32 p) (hy : ev L y = some b) (hq : b = U32 q) (h : ¬ p = q) : RV P w0 L M (.binOp .eql t x y t') (.bool false) := by
  have := RV.eql32 (P := P) (w0 := w0) (M := M) (t := t) (t' := t') hx hp hy hq
  rwa [decide_eq_false h] at this
theorem RV.neq32_t {p q : BitVec 32} {a b : Value} (hx : ev L x = some a) (hp : a = U32 p) (hy : ev L y = some b) (hq : b = U32 q) (h : ¬ p = q) : RV P w0 L M (.binOp .neq t x y t') (.bool true) := by
  have := RV.neq32 (P := P) (w0 := w0) (M := M) (t := t) (t' := t') hx hp hy hq
  rwa [decide_eq_false h] at this
theorem RV.neq32_f {p q : BitVec 32} {a b : Value} (hx : ev L x = some a) (hp : a = U32 p) (hy : ev L y = some b) (hq : b = U32 q) (h : p = q) : RV P w0 L M (.binOp .neq t x y t') (.bool false) := by
  have := RV.neq32 (P := P) (w0 := w0) (M := M) (t := t) (t' := t') hx hp hy hq
  rwa [decide_eq_true h] at this
theorem RV.eql64_t {p q : BitVec 64} {a b : Value} (hx : ev L x = some a) (hp : a = U64 p) (hy : ev L y = some b) (hq : b = U64 q) (h : p = q) : RV P w0 L M (.binOp .eql t x y t') (.bool true) := by
  have := RV.eql64 (P := P) (w0 := w0) (M := M) (t := t) (t' := t') hx hp hy hq
  rwa [decide_eq_true h] at this
theorem RV.eql64_f {p q : BitVec 64} {a b : Value} (hx : ev L x = some a) (hp : a = U64 p) (hy : ev L y = some b) (hq : b = U64 q) (h : ¬ p = q) : RV P w0 L M (.binOp .eql t x y t') (.bool false) := by
  have := RV.eql64 (P := P) (w0 := w0) (M := M) (t := t) (t' := t') hx hp hy hq
  rwa [decide_eq_false h] at this
theorem RV.neq64_t {p q : BitVec 64} {a b : Value} (hx : ev L x = some a) (hp : a = U64 p) (hy : ev L y = some b) (hq : b = U64 q) (h : ¬ p = q) : RV P w0 L M (.binOp .neq t x y t') (.bool true) := by
  have := RV.neq64 (P := P) (w0 := w0) (M := M) (t := t) (t' := t') hx hp hy hq
  rwa [decide_eq_false h] at this
theorem RV.neq64_f {p q : BitVec 64} {a b : Value} (hx : ev L x = some a) (hp : a = U64 p) (hy : ev L y = some b) (hq : b = U64 q) (h : p = q) : RV P w0 L M (.binOp .neq t x y t') (.bool false) := by
  have := RV.neq64 (P := P) (w0 := w0) (M := M) (t := t) (t' := t') hx hp hy hq
  rwa [decide_eq_true h] at this
end
end Go.Fw

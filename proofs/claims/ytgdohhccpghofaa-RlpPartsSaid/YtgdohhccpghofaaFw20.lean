/- Part of a proof over Ytgdohhccpghofaa: rules and contracts that the law's text uses. No condition. -/
import Derived.Test.YtgdohhccpghofaaFw19
namespace Go.Fw
open Go Go.RowKit
set_option linter.unusedVariables false
set_option linter.unusedSectionVars false
/-! The difference and the sum with a carry (the model's own), max and min. -/
def sub64c (x y b : BitVec 64) : Option (BitVec 64 × BitVec 64) := if b.toNat ≤ 1 then some (x - y - b, if x.toNat < y.toNat + b.toNat then 1#64 else 0#64) else none
def add64c (x y b : BitVec 64) : Option (BitVec 64 × BitVec 64) := if b.toNat ≤ 1 then some (x + y + b, if 2 ^ 64 ≤ x.toNat + y.toNat + b.toNat then 1#64 else 0#64) else none
/-- The model's entry, as a law of the call. -/
def SubLaw (P : Program) (f : FuncId) : Prop := ∀ (x y b : Nat), b ≤ 1 → ∀ w : World, (callFunc f #[.int .u64 x, .int .u64 y, .int .u64 b]).run P w =
  .ok (.value (.tuple #[.int .u64 (((x + 18446744073709551616 - y - b) % 18446744073709551616 : Nat) : Int), .int .u64 ((if x < y + b then 1 else 0 : Nat) : Int)])) w
def AddLaw (P : Program) (f : FuncId) : Prop := ∀ (x y c : Nat), c ≤ 1 → ∀ w : World, (callFunc f #[.int .u64 x, .int .u64 y, .int .u64 c]).run P w =
  .ok (.value (.tuple #[.int .u64 (((x + y + c) % 18446744073709551616 : Nat) : Int), .int .u64 (((x + y + c) / 18446744073709551616 : Nat) : Int)])) w
section
variable {P : Program} [Types P] {w0 : World} {L : Slots} {M : List Ent} {f : FuncId}
theorem RV.sub64c {x y b d c : BitVec 64} {xs : List Operand} {ats : Array TypeId} (hl : SubLaw P f) (hxs : evs L xs = some [U64 x, U64 y, U64 b]) (h : Go.Fw.sub64c x y b = some (d, c)) : RV P w0 L M (.call ⟨.value (.func f), xs.toArray, ats⟩) (.tuple #[U64 d, U64 c]) := fun ρ w hρ m o ho => by
  unfold Go.Fw.sub64c at h
  obtain ⟨hb, h⟩ := some_if h
  obtain ⟨rfl, rfl⟩ := Prod.mk.inj (Option.some.inj h)
  have hev := evs_map hρ xs _ hxs
  have h1 := hl x.toNat y.toNat b.toNat hb w
  have hx := x.isLt; have hy := y.isLt
  have e1 : (x - y - b).toNat = (x.toNat + 18446744073709551616 - y.toNat - b.toNat) % 18446744073709551616 := by
    simp only [BitVec.toNat_sub]; omega
  have e2 : (if x.toNat < y.toNat + b.toNat then 1#64 else 0#64).toNat = (if x.toNat < y.toNat + b.toNat then 1 else 0 : Nat) := by split <;> rfl
  have hfn := hρ (.func f) _ rfl
  simp only [U64] at *
  rw [e1, e2]
  simp [execOp, ho, resolve, hfn, Deferred.ofValue, invoke, hev, h1]
theorem RV.add64c {x y b d c : BitVec 64} {xs : List Operand} {ats : Array TypeId} (hl : AddLaw P f) (hxs : evs L xs = some [U64 x, U64 y, U64 b]) (h : Go.Fw.add64c x y b = some (d, c)) : RV P w0 L M (.call ⟨.value (.func f), xs.toArray, ats⟩) (.tuple #[U64 d, U64 c]) := fun ρ w hρ m o ho => by
  unfold Go.Fw.add64c at h
  obtain ⟨hb, h⟩ := some_if h
  obtain ⟨rfl, rfl⟩ := Prod.mk.inj (Option.some.inj h)
  have hev := evs_map hρ xs _ hxs
  have h1 := hl x.toNat y.toNat b.toNat hb w
  have hx := x.isLt; have hy := y.isLt
  have e1 : (x + y + b).toNat = (x.toNat + y.toNat + b.toNat) % 18446744073709551616 := by
    simp only [BitVec.toNat_add]; omega
  have e2 : (if 2 ^ 64 ≤ x.toNat + y.toNat + b.toNat then 1#64 else 0#64).toNat = (x.toNat + y.toNat + b.toNat) / 18446744073709551616 := by
    split
    · show 1 = _; omega
    · show 0 = _; omega
  have hfn := hρ (.func f) _ rfl
  simp only [U64] at *
  rw [e1, e2]
  simp [execOp, ho, resolve, hfn, Deferred.ofValue, invoke, hev, h1]
variable {t : TypeId} {x y : Operand} {m n : Int}
theorem RV.max2 {ats : Array TypeId} (hx : ev L x = some (.int .i64 m)) (hy : ev L y = some (.int .i64 n)) : RV P w0 L M (.call ⟨.builtin .max, #[x, y], ats⟩) (.int .i64 (max m n)) := fun ρ w hρ mm o ho => by
  have e : (if n > m then n else m) = max m n := by omega
  simp [execOp, ho, resolve, hρ x _ hx, hρ y _ hy, invoke, builtin, Builtin.max_, Builtin.max2, e]
theorem RV.min2 {ats : Array TypeId} (hx : ev L x = some (.int .i64 m)) (hy : ev L y = some (.int .i64 n)) : RV P w0 L M (.call ⟨.builtin .min, #[x, y], ats⟩) (.int .i64 (min m n)) := fun ρ w hρ mm o ho => by
  have e : (if n < m then n else m) = min m n := by omega
  simp [execOp, ho, resolve, hρ x _ hx, hρ y _ hy, invoke, builtin, Builtin.min_, Builtin.min2, e]
end
end Go.Fw

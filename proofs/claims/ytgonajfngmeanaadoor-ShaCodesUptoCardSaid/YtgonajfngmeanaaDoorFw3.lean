/- Part of a proof: rules that its law uses. -/
import Derived.Test.YtgonajfngmeanaaDoorFw2
import Derived.Deep.Upon
namespace Go.Fw
open Go Go.RowKit
set_option linter.unusedVariables false
def Rd (w : World) (A : Option Addr) (vs : List Value) : Prop := (vs ≠ [] → A.isSome = true) ∧ ∀ j u, vs[j]? = some u → w.cell? ((A.getD default).add j) = some u
def subA (A : Option Addr) (cap a s : Nat) : Option Addr := if cap = a then A else A.map (·.add (a * s))
theorem Rd.nil (w : World) (A : Option Addr) : Rd w A [] := ⟨fun h => absurd rfl h, fun j u h => by simp at h⟩
theorem Rd.take {w : World} {A : Option Addr} {vs : List Value} (h : Rd w A vs) (k : Nat) : Rd w A (vs.take k) :=
  ⟨fun hn => h.1 (fun e => hn (by simp [e])), fun j u hj => h.2 j u (by
    rw [List.getElem?_take] at hj
    split at hj
    · exact hj
    · cases hj)⟩
theorem Rd.sub {w : World} {A : Option Addr} {vs : List Value} {cap a s : Nat} (h : Rd w A vs) (hl : vs.length ≤ cap * s) : Rd w (subA A cap a s) (vs.drop (a * s)) := by
  unfold subA
  by_cases hc : cap = a
  · subst hc
    rw [List.drop_of_length_le hl]
    exact Rd.nil _ _
  · rw [if_neg hc]
    by_cases hv : vs = []
    · subst hv; simp; exact Rd.nil _ _
    · have hA := h.1 hv
      obtain ⟨b, rfl⟩ := Option.isSome_iff_exists.1 hA
      refine ⟨fun _ => by simp, fun j u hj => ?_⟩
      rw [List.getElem?_drop] at hj
      have := h.2 _ u hj
      simp only [Option.map_some, Option.getD_some] at this ⊢
      rw [Addr.add_add]; exact this
theorem Rd.cell {w : World} {A : Option Addr} {vs : List Value} (h : Rd w A vs) {j : Nat} {u : Value} (hj : vs[j]? = some u) : w.cell? ((A.getD default).add j) = some u := h.2 j u hj
theorem Rd.old {w0 w : World} {M : List Ent} {A : Option Addr} {vs : List Value} (h : Rd w0 A vs) (m : Mem w0 w M) : Rd w A vs := ⟨h.1, fun j u hj => m.oldSome (h.2 j u hj)⟩
theorem Rd.says {w0 : World} {M : List Ent} {A : Option Addr} {vs : List Value} (h : Rd w0 A vs) : Mem.Says w0 M (fun w => Rd w A vs) := fun w m => h.old m
theorem Mem.rd {w0 w : World} {M : List Ent} (m : Mem w0 w M) {ob : Option Nat} {l : List Value} {t : TypeId} (he : (ob, blk l t) ∈ M) (hs : ob = none → l = []) (off n : Nat) : Rd w (ob.map fun k => ⟨k, off, none⟩) ((l.drop off).take n) := by
  cases ob with
  | none => rw [hs rfl]; simp; exact Rd.nil _ _
  | some b =>
    refine ⟨fun _ => rfl, fun j u hj => ?_⟩
    simp only [Option.map_some, Option.getD_some]
    rw [Addr.add_none, m.cell he]
    rw [List.getElem?_take] at hj
    split at hj
    · rwa [List.getElem?_drop] at hj
    · cases hj
theorem Mem.rd0 {w0 w : World} {M : List Ent} (m : Mem w0 w M) {ob : Option Nat} {l r : List Value} {t : TypeId} (he : (ob, blk (l ++ r) t) ∈ M) (hs : ob = none → l = []) : Rd w (ob.map fun k => ⟨k, 0, none⟩) l := by
  cases ob with
  | none => rw [hs rfl]; exact Rd.nil _ _
  | some b =>
    refine ⟨fun _ => rfl, fun j u hj => ?_⟩
    simp only [Option.map_some, Option.getD_some]
    rw [Addr.add_none, m.cell he, Nat.zero_add, List.getElem?_append_left (List.getElem?_eq_some_iff.1 hj).1]
    exact hj
theorem Mem.rdl {w0 w : World} {M : List Ent} (m : Mem w0 w M) {ob : Option Nat} {l : List Value} {t : TypeId} (he : (ob, blk l t) ∈ M) (hs : ob = none → l = []) : Rd w (ob.map fun k => ⟨k, 0, none⟩) l := by
  have := m.rd0 (ob := ob) (l := l) (r := []) (t := t) (by simpa using he) hs
  exact this
theorem isSome_getD {ob : Option Nat} (h : ob.isSome = true) : ob = some (ob.getD 0) := by cases ob <;> simp_all
section
variable {P : Program} [Types P] {w0 : World} {L : Slots} {M : List Ent} {x y z : Operand} {t t' e : TypeId} {v u : Value}
variable {m n : Int}
theorem RV.conv_i {us : TypeDesc} (hx : ev L x = some (.int .i64 n)) (hs : tyU P t = some us) (ht : tyU P t' = some (.int .i64)) (h : -9223372036854775808 ≤ n ∧ n ≤ 9223372036854775807) : RV P w0 L M (.convert t t' x) (.int .i64 n) := fun ρ w hρ _ o ho => by
  simp [execOp, ho, hρ x _ hx, convert, tyU_run hs, tyU_run ht, Conv.intToInt, i64_in h]
theorem RV.conv8_16 {p : BitVec 8} {us : TypeDesc} (hx : ev L x = some v) (hp : v = U8 p) (hs : tyU P t = some us) (ht : tyU P t' = some (.int .u16)) : RV P w0 L M (.convert t t' x) (U16 (p.setWidth 16)) := fun ρ w hρ _ o ho => by
  subst hp
  have e : IntKind.u16.wrap (p.toNat : Int) = ((p.setWidth 16).toNat : Int) := by
    have := p.isLt
    rw [BitVec.toNat_setWidth]
    simp only [IntKind.wrap, IntKind.bits, IntKind.signed, Bool.false_and]
    simp only [Bool.false_eq_true, if_false]
    omega
  simp only [U8] at hx
  simp [execOp, ho, hρ x _ hx, convert, tyU_run hs, tyU_run ht, Conv.intToInt, U16]
  simpa using e
theorem RV.conv8_32 {p : BitVec 8} {us : TypeDesc} (hx : ev L x = some v) (hp : v = U8 p) (hs : tyU P t = some us) (ht : tyU P t' = some (.int .u32)) : RV P w0 L M (.convert t t' x) (U32 (p.setWidth 32)) := fun ρ w hρ _ o ho => by
  subst hp
  have e : IntKind.u32.wrap (p.toNat : Int) = ((p.setWidth 32).toNat : Int) := by
    have := p.isLt
    rw [BitVec.toNat_setWidth]
    simp only [IntKind.wrap, IntKind.bits, IntKind.signed, Bool.false_and]
    simp only [Bool.false_eq_true, if_false]
    omega
  simp only [U8] at hx
  simp [execOp, ho, hρ x _ hx, convert, tyU_run hs, tyU_run ht, Conv.intToInt, U32]
  simpa using e
theorem RV.conv8_64 {p : BitVec 8} {us : TypeDesc} (hx : ev L x = some v) (hp : v = U8 p) (hs : tyU P t = some us) (ht : tyU P t' = some (.int .u64)) : RV P w0 L M (.convert t t' x) (U64 (p.setWidth 64)) := fun ρ w hρ _ o ho => by
  subst hp
  have e : IntKind.u64.wrap (p.toNat : Int) = ((p.setWidth 64).toNat : Int) := by
    have := p.isLt
    rw [BitVec.toNat_setWidth]
    simp only [IntKind.wrap, IntKind.bits, IntKind.signed, Bool.false_and]
    simp only [Bool.false_eq_true, if_false]
    omega
  simp only [U8] at hx
  simp [execOp, ho, hρ x _ hx, convert, tyU_run hs, tyU_run ht, Conv.intToInt, U64]
  simpa using e
theorem RV.conv_i8 {us : TypeDesc} {k : IntKind} (hx : ev L x = some (.int k n)) (hs : tyU P t = some us) (ht : tyU P t' = some (.int .u8)) : RV P w0 L M (.convert t t' x) (U8 (BitVec.ofInt 8 n)) := fun ρ w hρ _ o ho => by
  have e : IntKind.u8.wrap n = ((BitVec.ofInt 8 n).toNat : Int) := by
    rw [BitVec.toNat_ofInt]
    simp only [IntKind.wrap, IntKind.bits, IntKind.signed, Bool.false_and]
    simp only [Bool.false_eq_true, if_false]
    omega
  simp only [execOp, ho, hρ x _ hx, convert, Sem.run_bind, tyU_run hs, tyU_run ht, Result.andThen_ok, Conv.intToInt, U8, e]
  rfl
theorem RV.conv8_i {p : BitVec 8} {us : TypeDesc} (hx : ev L x = some v) (hp : v = U8 p) (hs : tyU P t = some us) (ht : tyU P t' = some (.int .i64)) : RV P w0 L M (.convert t t' x) (.int .i64 (p.toNat : Int)) := fun ρ w hρ _ o ho => by
  subst hp
  have := p.isLt
  simp only [U8] at hx
  have e : IntKind.i64.wrap (p.toNat : Int) = (p.toNat : Int) := i64_in (by omega)
  simp only [execOp, ho, hρ x _ hx, convert, Sem.run_bind, tyU_run hs, tyU_run ht, Result.andThen_ok, Conv.intToInt, e]
  rfl
theorem RV.conv16_8 {p : BitVec 16} {us : TypeDesc} (hx : ev L x = some v) (hp : v = U16 p) (hs : tyU P t = some us) (ht : tyU P t' = some (.int .u8)) : RV P w0 L M (.convert t t' x) (U8 (p.setWidth 8)) := fun ρ w hρ _ o ho => by
  subst hp
  have e : IntKind.u8.wrap (p.toNat : Int) = ((p.setWidth 8).toNat : Int) := by
    have := p.isLt
    rw [BitVec.toNat_setWidth]
    simp only [IntKind.wrap, IntKind.bits, IntKind.signed, Bool.false_and]
    simp only [Bool.false_eq_true, if_false]
    omega
  simp only [U16] at hx
  simp [execOp, ho, hρ x _ hx, convert, tyU_run hs, tyU_run ht, Conv.intToInt, U8]
  simpa using e
theorem RV.conv16_32 {p : BitVec 16} {us : TypeDesc} (hx : ev L x = some v) (hp : v = U16 p) (hs : tyU P t = some us) (ht : tyU P t' = some (.int .u32)) : RV P w0 L M (.convert t t' x) (U32 (p.setWidth 32)) := fun ρ w hρ _ o ho => by
  subst hp
  have e : IntKind.u32.wrap (p.toNat : Int) = ((p.setWidth 32).toNat : Int) := by
    have := p.isLt
    rw [BitVec.toNat_setWidth]
    simp only [IntKind.wrap, IntKind.bits, IntKind.signed, Bool.false_and]
    simp only [Bool.false_eq_true, if_false]
    omega
  simp only [U16] at hx
  simp [execOp, ho, hρ x _ hx, convert, tyU_run hs, tyU_run ht, Conv.intToInt, U32]
  simpa using e
theorem RV.conv16_64 {p : BitVec 16} {us : TypeDesc} (hx : ev L x = some v) (hp : v = U16 p) (hs : tyU P t = some us) (ht : tyU P t' = some (.int .u64)) : RV P w0 L M (.convert t t' x) (U64 (p.setWidth 64)) := fun ρ w hρ _ o ho => by
  subst hp
  have e : IntKind.u64.wrap (p.toNat : Int) = ((p.setWidth 64).toNat : Int) := by
    have := p.isLt
    rw [BitVec.toNat_setWidth]
    simp only [IntKind.wrap, IntKind.bits, IntKind.signed, Bool.false_and]
    simp only [Bool.false_eq_true, if_false]
    omega
  simp only [U16] at hx
  simp [execOp, ho, hρ x _ hx, convert, tyU_run hs, tyU_run ht, Conv.intToInt, U64]
  simpa using e
theorem RV.conv_i16 {us : TypeDesc} {k : IntKind} (hx : ev L x = some (.int k n)) (hs : tyU P t = some us) (ht : tyU P t' = some (.int .u16)) : RV P w0 L M (.convert t t' x) (U16 (BitVec.ofInt 16 n)) := fun ρ w hρ _ o ho => by
  have e : IntKind.u16.wrap n = ((BitVec.ofInt 16 n).toNat : Int) := by
    rw [BitVec.toNat_ofInt]
    simp only [IntKind.wrap, IntKind.bits, IntKind.signed, Bool.false_and]
    simp only [Bool.false_eq_true, if_false]
    omega
  simp only [execOp, ho, hρ x _ hx, convert, Sem.run_bind, tyU_run hs, tyU_run ht, Result.andThen_ok, Conv.intToInt, U16, e]
  rfl
theorem RV.conv16_i {p : BitVec 16} {us : TypeDesc} (hx : ev L x = some v) (hp : v = U16 p) (hs : tyU P t = some us) (ht : tyU P t' = some (.int .i64)) : RV P w0 L M (.convert t t' x) (.int .i64 (p.toNat : Int)) := fun ρ w hρ _ o ho => by
  subst hp
  have := p.isLt
  simp only [U16] at hx
  have e : IntKind.i64.wrap (p.toNat : Int) = (p.toNat : Int) := i64_in (by omega)
  simp only [execOp, ho, hρ x _ hx, convert, Sem.run_bind, tyU_run hs, tyU_run ht, Result.andThen_ok, Conv.intToInt, e]
  rfl
theorem RV.conv32_8 {p : BitVec 32} {us : TypeDesc} (hx : ev L x = some v) (hp : v = U32 p) (hs : tyU P t = some us) (ht : tyU P t' = some (.int .u8)) : RV P w0 L M (.convert t t' x) (U8 (p.setWidth 8)) := fun ρ w hρ _ o ho => by
  subst hp
  have e : IntKind.u8.wrap (p.toNat : Int) = ((p.setWidth 8).toNat : Int) := by
    have := p.isLt
    rw [BitVec.toNat_setWidth]
    simp only [IntKind.wrap, IntKind.bits, IntKind.signed, Bool.false_and]
    simp only [Bool.false_eq_true, if_false]
    omega
  simp only [U32] at hx
  simp [execOp, ho, hρ x _ hx, convert, tyU_run hs, tyU_run ht, Conv.intToInt, U8]
  simpa using e
theorem RV.conv32_16 {p : BitVec 32} {us : TypeDesc} (hx : ev L x = some v) (hp : v = U32 p) (hs : tyU P t = some us) (ht : tyU P t' = some (.int .u16)) : RV P w0 L M (.convert t t' x) (U16 (p.setWidth 16)) := fun ρ w hρ _ o ho => by
  subst hp
  have e : IntKind.u16.wrap (p.toNat : Int) = ((p.setWidth 16).toNat : Int) := by
    have := p.isLt
    rw [BitVec.toNat_setWidth]
    simp only [IntKind.wrap, IntKind.bits, IntKind.signed, Bool.false_and]
    simp only [Bool.false_eq_true, if_false]
    omega
  simp only [U32] at hx
  simp [execOp, ho, hρ x _ hx, convert, tyU_run hs, tyU_run ht, Conv.intToInt, U16]
  simpa using e
theorem RV.conv32_64 {p : BitVec 32} {us : TypeDesc} (hx : ev L x = some v) (hp : v = U32 p) (hs : tyU P t = some us) (ht : tyU P t' = some (.int .u64)) : RV P w0 L M (.convert t t' x) (U64 (p.setWidth 64)) := fun ρ w hρ _ o ho => by
  subst hp
  have e : IntKind.u64.wrap (p.toNat : Int) = ((p.setWidth 64).toNat : Int) := by
    have := p.isLt
    rw [BitVec.toNat_setWidth]
    simp only [IntKind.wrap, IntKind.bits, IntKind.signed, Bool.false_and]
    simp only [Bool.false_eq_true, if_false]
    omega
  simp only [U32] at hx
  simp [execOp, ho, hρ x _ hx, convert, tyU_run hs, tyU_run ht, Conv.intToInt, U64]
  simpa using e
theorem RV.conv_i32 {us : TypeDesc} {k : IntKind} (hx : ev L x = some (.int k n)) (hs : tyU P t = some us) (ht : tyU P t' = some (.int .u32)) : RV P w0 L M (.convert t t' x) (U32 (BitVec.ofInt 32 n)) := fun ρ w hρ _ o ho => by
  have e : IntKind.u32.wrap n = ((BitVec.ofInt 32 n).toNat : Int) := by
    rw [BitVec.toNat_ofInt]
    simp only [IntKind.wrap, IntKind.bits, IntKind.signed, Bool.false_and]
    simp only [Bool.false_eq_true, if_false]
    omega
  simp only [execOp, ho, hρ x _ hx, convert, Sem.run_bind, tyU_run hs, tyU_run ht, Result.andThen_ok, Conv.intToInt, U32, e]
  rfl
theorem RV.conv32_i {p : BitVec 32} {us : TypeDesc} (hx : ev L x = some v) (hp : v = U32 p) (hs : tyU P t = some us) (ht : tyU P t' = some (.int .i64)) : RV P w0 L M (.convert t t' x) (.int .i64 (p.toNat : Int)) := fun ρ w hρ _ o ho => by
  subst hp
  have := p.isLt
  simp only [U32] at hx
  have e : IntKind.i64.wrap (p.toNat : Int) = (p.toNat : Int) := i64_in (by omega)
  simp only [execOp, ho, hρ x _ hx, convert, Sem.run_bind, tyU_run hs, tyU_run ht, Result.andThen_ok, Conv.intToInt, e]
  rfl
theorem RV.conv64_8 {p : BitVec 64} {us : TypeDesc} (hx : ev L x = some v) (hp : v = U64 p) (hs : tyU P t = some us) (ht : tyU P t' = some (.int .u8)) : RV P w0 L M (.convert t t' x) (U8 (p.setWidth 8)) := fun ρ w hρ _ o ho => by
  subst hp
  have e : IntKind.u8.wrap (p.toNat : Int) = ((p.setWidth 8).toNat : Int) := by
    have := p.isLt
    rw [BitVec.toNat_setWidth]
    simp only [IntKind.wrap, IntKind.bits, IntKind.signed, Bool.false_and]
    simp only [Bool.false_eq_true, if_false]
    omega
  simp only [U64] at hx
  simp [execOp, ho, hρ x _ hx, convert, tyU_run hs, tyU_run ht, Conv.intToInt, U8]
  simpa using e
theorem RV.conv64_16 {p : BitVec 64} {us : TypeDesc} (hx : ev L x = some v) (hp : v = U64 p) (hs : tyU P t = some us) (ht : tyU P t' = some (.int .u16)) : RV P w0 L M (.convert t t' x) (U16 (p.setWidth 16)) := fun ρ w hρ _ o ho => by
  subst hp
  have e : IntKind.u16.wrap (p.toNat : Int) = ((p.setWidth 16).toNat : Int) := by
    have := p.isLt
    rw [BitVec.toNat_setWidth]
    simp only [IntKind.wrap, IntKind.bits, IntKind.signed, Bool.false_and]
    simp only [Bool.false_eq_true, if_false]
    omega
  simp only [U64] at hx
  simp [execOp, ho, hρ x _ hx, convert, tyU_run hs, tyU_run ht, Conv.intToInt, U16]
  simpa using e
theorem RV.conv64_32 {p : BitVec 64} {us : TypeDesc} (hx : ev L x = some v) (hp : v = U64 p) (hs : tyU P t = some us) (ht : tyU P t' = some (.int .u32)) : RV P w0 L M (.convert t t' x) (U32 (p.setWidth 32)) := fun ρ w hρ _ o ho => by
  subst hp
  have e : IntKind.u32.wrap (p.toNat : Int) = ((p.setWidth 32).toNat : Int) := by
    have := p.isLt
    rw [BitVec.toNat_setWidth]
    simp only [IntKind.wrap, IntKind.bits, IntKind.signed, Bool.false_and]
    simp only [Bool.false_eq_true, if_false]
    omega
  simp only [U64] at hx
  simp [execOp, ho, hρ x _ hx, convert, tyU_run hs, tyU_run ht, Conv.intToInt, U32]
  simpa using e
theorem RV.conv_i64 {us : TypeDesc} {k : IntKind} (hx : ev L x = some (.int k n)) (hs : tyU P t = some us) (ht : tyU P t' = some (.int .u64)) : RV P w0 L M (.convert t t' x) (U64 (BitVec.ofInt 64 n)) := fun ρ w hρ _ o ho => by
  have e : IntKind.u64.wrap n = ((BitVec.ofInt 64 n).toNat : Int) := by
    rw [BitVec.toNat_ofInt]
    simp only [IntKind.wrap, IntKind.bits, IntKind.signed, Bool.false_and]
    simp only [Bool.false_eq_true, if_false]
    omega
  simp only [execOp, ho, hρ x _ hx, convert, Sem.run_bind, tyU_run hs, tyU_run ht, Result.andThen_ok, Conv.intToInt, U64, e]
  rfl
theorem RV.conv64_i {p : BitVec 64} {us : TypeDesc} (hx : ev L x = some v) (hp : v = U64 p) (hs : tyU P t = some us) (ht : tyU P t' = some (.int .i64)) (hb : (p.toNat : Int) ≤ 9223372036854775807) : RV P w0 L M (.convert t t' x) (.int .i64 (p.toNat : Int)) := fun ρ w hρ _ o ho => by
  subst hp
  have := p.isLt
  simp only [U64] at hx
  have e : IntKind.i64.wrap (p.toNat : Int) = (p.toNat : Int) := i64_in (by omega)
  simp only [execOp, ho, hρ x _ hx, convert, Sem.run_bind, tyU_run hs, tyU_run ht, Result.andThen_ok, Conv.intToInt, e]
  rfl
end
section
variable {P : Program} {w0 : World} {L : Slots} {M : List Ent} {x : Operand} {v : Value}
theorem RV.extract {vs : Array Value} {i : Nat} (hx : ev L x = some (.tuple vs)) (hi : vs[i]? = some v) : RV P w0 L M (.extract x i) v := fun ρ w hρ m o ho => by
  simp [execOp, ho, hρ x _ hx, Instr.extract, hi]
end
section
variable {P : Program} [Types P] {w0 : World} {L : Slots} {M : List Ent} {x y z : Operand} {t t' e : TypeId} {v : Value}
theorem RV.load_at {a : Addr} {u : TypeDesc} (hx : ev L x = some (.pointer (some a))) (hu : tyU P t = some u) (hg : TypeDesc.agg u = false) (hv : Mem.Says w0 M (fun w => w.cell? a = some v)) : RV P w0 L M (.load t x) v := fun ρ w hρ m o ho => by
  simp [execOp, ho, hρ x _ hx, Instr.loadAt, Instr.sureAddr, loadVar, isAgg_run hu, hg, hv w m]
theorem RV.load {ob : Option Nat} {i : Nat} {l : List Value} {te : TypeId} {u : TypeDesc} (hx : ev L x = some (ptr ob i)) (he : (ob, blk l te) ∈ M) (hs : ob.isSome = true) (hu : tyU P t = some u) (hg : TypeDesc.agg u = false) (hv : l[i]? = some v) : RV P w0 L M (.load t x) v :=
  RV.load_at (a := ⟨ob.getD 0, i, none⟩) hx hu hg (fun w m => by
    have e := isSome_getD hs
    rw [e] at he
    show w.cell? ⟨ob.getD 0, i, none⟩ = some v
    rw [m.cell he]; exact hv)
theorem RV.loadA_at {a : Addr} {u : TypeDesc} {vs : List Value} (hx : ev L x = some (.pointer (some a))) (hu : tyU P t = some u) (hg : TypeDesc.agg u = true) (hsz : tyS P t = some vs.length)
    (hv : Mem.Says w0 M (fun w => ∀ j u, vs[j]? = some u → w.cell? (a.add j) = some u)) : RV P w0 L M (.load t x) (.agg vs.toArray) := fun ρ w hρ m o ho => by
  simp [execOp, ho, hρ x _ hx, Instr.loadAt, Instr.sureAddr, loadVar, isAgg_run hu, hg, tyS_run hsz, run_loadCells_list w a vs (hv w m)]
theorem RV.loadA {ob : Option Nat} {i : Nat} {l vs : List Value} {te : TypeId} {u : TypeDesc} (hx : ev L x = some (ptr ob i)) (he : (ob, blk l te) ∈ M) (hs : ob.isSome = true) (hu : tyU P t = some u) (hg : TypeDesc.agg u = true) (hsz : tyS P t = some vs.length)
    (hv : ∀ j u, vs[j]? = some u → l[i + j]? = some u) : RV P w0 L M (.load t x) (.agg vs.toArray) :=
  RV.loadA_at (a := ⟨ob.getD 0, i, none⟩) hx hu hg hsz (fun w m j u hj => by
    have e := isSome_getD hs
    rw [e] at he
    rw [Addr.add_none, m.cell he]; exact hv j u hj)
theorem RV.len {A : Option Addr} {len cap : Nat} {te : TypeId} (hx : ev L x = some (.slice A len cap)) (ht : tyU P t = some (.slice te)) :
    RV P w0 L M (.call ⟨.builtin .len, #[x], #[t]⟩) (.int .i64 (len : Int)) := fun ρ w hρ m o ho => by
  simp [execOp, ho, resolve, hρ x _ hx, invoke, builtin, Builtin.len_, tyU_run ht, goInt]
theorem RV.lenArr {k : Nat} {te : TypeId} (hx : ev L x = some v) (ht : tyU P t = some (.array k te)) :
    RV P w0 L M (.call ⟨.builtin .len, #[x], #[t]⟩) (.int .i64 (k : Int)) := fun ρ w hρ m o ho => by
  simp [execOp, ho, resolve, hρ x _ hx, invoke, builtin, Builtin.len_, tyU_run ht, goInt]
variable {idx : Int} {k : IntKind}
theorem RV.idx_slice {A : Option Addr} {len cap s : Nat} (hx : ev L x = some (.slice A len cap)) (hy : ev L y = some (.int k idx)) (ht : tyU P t = some (.slice e)) (hs : tyS P e = some s) (hA : A.isSome = true) (h0 : 0 ≤ idx) (h1 : idx < len) :
    RV P w0 L M (.indexAddr t x y) (.pointer (some ((A.getD default).add (idx.toNat * s)))) := fun ρ w hρ m o ho => by
  obtain ⟨a, rfl⟩ := Option.isSome_iff_exists.1 hA
  simp [execOp, ho, hρ x _ hx, hρ y _ hy, Instr.indexAt, asIntOf, tyU_run ht, tyS_run hs, h0, h1]
theorem RV.idx_r {A : Option Addr} {len cap : Nat} (j : Nat) (hx : ev L x = some (.slice A len cap)) (hy : ev L y = some (.int k idx)) (hj : idx = (j : Int)) (ht : tyU P t = some (.slice e)) (hs : tyS P e = some 1) (hA : A.isSome = true) (h1 : idx < len) :
    RV P w0 L M (.indexAddr t x y) (rptr A j) := by
  subst hj
  have := RV.idx_slice (P := P) (w0 := w0) (M := M) hx hy ht hs hA (by omega) h1
  simpa [rptr] using this
theorem RV.idx_rs {A : Option Addr} {len cap s : Nat} (j : Nat) (hx : ev L x = some (.slice A len cap)) (hy : ev L y = some (.int k idx)) (hj : idx = (j : Int)) (ht : tyU P t = some (.slice e)) (hs : tyS P e = some s) (hA : A.isSome = true) (h1 : idx < len) :
    RV P w0 L M (.indexAddr t x y) (rptr A (j * s)) := by
  subst hj
  have := RV.idx_slice (P := P) (w0 := w0) (M := M) hx hy ht hs hA (by omega) h1
  simpa [rptr] using this
theorem RV.idx_o {ob : Option Nat} {off len cap : Nat} (j : Nat) (hx : ev L x = some (sl ob off len cap)) (hy : ev L y = some (.int k idx)) (hj : idx = (j : Int)) (ht : tyU P t = some (.slice e)) (hs : tyS P e = some 1) (hA : ob.isSome = true) (h1 : idx < len) :
    RV P w0 L M (.indexAddr t x y) (ptr ob (off + j)) := by
  obtain ⟨b, rfl⟩ := Option.isSome_iff_exists.1 hA
  subst hj
  have := RV.idx_slice (P := P) (w0 := w0) (M := M) hx hy ht hs rfl (by omega) h1
  simpa [ptr, Addr.add_none] using this
theorem RV.idx_os {ob : Option Nat} {off len cap s : Nat} (j : Nat) (hx : ev L x = some (sl ob off len cap)) (hy : ev L y = some (.int k idx)) (hj : idx = (j : Int)) (ht : tyU P t = some (.slice e)) (hs : tyS P e = some s) (hA : ob.isSome = true) (h1 : idx < len) :
    RV P w0 L M (.indexAddr t x y) (ptr ob (off + j * s)) := by
  obtain ⟨b, rfl⟩ := Option.isSome_iff_exists.1 hA
  subst hj
  have := RV.idx_slice (P := P) (w0 := w0) (M := M) hx hy ht hs rfl (by omega) h1
  simpa [ptr, Addr.add_none] using this
theorem RV.idx_arr_at {a : Addr} {len s : Nat} (hx : ev L x = some (.pointer (some a))) (hy : ev L y = some (.int k idx)) (ht : tyU P t = some (.array len e)) (hs : tyS P e = some s) (h0 : 0 ≤ idx) (h1 : idx < len) :
    RV P w0 L M (.indexAddr t x y) (.pointer (some (a.add (idx.toNat * s)))) := fun ρ w hρ m o ho => by
  simp [execOp, ho, hρ x _ hx, hρ y _ hy, Instr.indexAt, Instr.sureAddr, asIntOf, tyU_run ht, tyS_run hs, h0, h1]
theorem RV.idx_a {ob : Option Nat} {off len : Nat} (j : Nat) (hx : ev L x = some (ptr ob off)) (hy : ev L y = some (.int k idx)) (hj : idx = (j : Int)) (ht : tyU P t = some (.array len e)) (hs : tyS P e = some 1) (h1 : idx < len) :
    RV P w0 L M (.indexAddr t x y) (ptr ob (off + j)) := by
  subst hj
  have := RV.idx_arr_at (P := P) (w0 := w0) (M := M) hx hy ht hs (by omega) h1
  simpa [ptr, Addr.add_none] using this
theorem RV.idx_oz {ob : Option Nat} {off len cap : Nat} (hx : ev L x = some (sl ob off len cap)) (hy : ev L y = some (.int k idx)) (h0 : 0 ≤ idx) (ht : tyU P t = some (.slice e)) (hs : tyS P e = some 1) (hA : ob.isSome = true) (h1 : idx < len) :
    RV P w0 L M (.indexAddr t x y) (ptr ob (off + idx.toNat)) := RV.idx_o idx.toNat hx hy (by omega) ht hs hA h1
theorem RV.idx_rz {A : Option Addr} {len cap : Nat} (hx : ev L x = some (.slice A len cap)) (hy : ev L y = some (.int k idx)) (h0 : 0 ≤ idx) (ht : tyU P t = some (.slice e)) (hs : tyS P e = some 1) (hA : A.isSome = true) (h1 : idx < len) :
    RV P w0 L M (.indexAddr t x y) (rptr A idx.toNat) := RV.idx_r idx.toNat hx hy (by omega) ht hs hA h1
theorem RV.idx_az {ob : Option Nat} {off len : Nat} (hx : ev L x = some (ptr ob off)) (hy : ev L y = some (.int k idx)) (h0 : 0 ≤ idx) (ht : tyU P t = some (.array len e)) (hs : tyS P e = some 1) (h1 : idx < len) :
    RV P w0 L M (.indexAddr t x y) (ptr ob (off + idx.toNat)) := RV.idx_a idx.toNat hx hy (by omega) ht hs h1
theorem RV.field {ob : Option Nat} {off s f : Nat} {fs : Array Field} {fd : Field} (hx : ev L x = some (ptr ob off)) (ht : tyU P t = some (.struct fs)) (hf : fs[f]? = some fd) (hs : tyS P fd.type = some (s + 1)) :
    RV P w0 L M (.fieldAddr t x f) (ptr ob (off + fd.offset)) := fun ρ w hρ m o ho => by
  simp [execOp, ho, hρ x _ hx, Instr.fieldAt, Instr.sureAddr, ptr, tyU_run ht, hf, Go.fieldPlace, tyS_run hs, Addr.add_none]
omit [Types P] in
theorem sliceBound_run (w : World) {kk : IntKind} {i y : Nat} (h : i ≤ y) (code : BoundsCode) : (Instr.sliceBound (.int kk (i : Int)) y code).run P w = .ok i w := by
  have h0 : (0 : Int) ≤ (i : Int) ∧ (i : Int) ≤ (y : Int) := by omega
  simp only [Instr.sliceBound, asIntOf, Sem.run_bind, Sem.run_pure, Result.andThen_ok, if_pos h0, Int.toNat_natCast]
theorem RV.cut_hi {A : Option Addr} {len cap : Nat} (h : Nat) (hx : ev L x = some (.slice A len cap)) (hy : ev L y = some (.int k idx)) (hj : idx = (h : Int)) (ht : tyU P t = some (.slice e)) {s : Nat} (hs : tyS P e = some s) (h1 : idx ≤ cap) :
    RV P w0 L M (.slice t x none (some y) none) (.slice A h cap) := fun ρ w hρ m o ho => by
  subst hj
  have h2 : h ≤ cap := by omega
  by_cases hc : cap = 0
  · subst hc
    simp [execOp, ho, hρ x _ hx, hρ y _ hy, Instr.sliceAt, Instr.slice, Instr.sliceBounds, sliceBound_run w h2, tyU_run ht, tyS_run hs]
  · simp [execOp, ho, hρ x _ hx, hρ y _ hy, Instr.sliceAt, Instr.slice, Instr.sliceBounds, sliceBound_run w h2, tyU_run ht, tyS_run hs, hc]
    cases A <;> simp [Addr.add]
theorem RV.cut_lo {A : Option Addr} {len cap : Nat} (a : Nat) (hx : ev L x = some (.slice A len cap)) (hy : ev L y = some (.int k idx)) (hj : idx = (a : Int)) (ht : tyU P t = some (.slice e)) {s : Nat} (hs : tyS P e = some s) (h1 : idx ≤ len) :
    RV P w0 L M (.slice t x (some y) none none) (.slice (subA A cap a s) (len - a) (cap - a)) := fun ρ w hρ m o ho => by
  subst hj
  have h2 : a ≤ len := by omega
  simp [execOp, ho, hρ x _ hx, hρ y _ hy, Instr.sliceAt, Instr.slice, Instr.sliceBounds, sliceBound_run w h2, tyU_run ht, tyS_run hs, subA]
theorem RV.cut_both {A : Option Addr} {len cap : Nat} (a h : Nat) {idx' : Int} {k' : IntKind} (hx : ev L x = some (.slice A len cap)) (hy : ev L y = some (.int k idx)) (hz : ev L z = some (.int k' idx')) (hj : idx = (a : Int)) (hj' : idx' = (h : Int))
    (ht : tyU P t = some (.slice e)) {s : Nat} (hs : tyS P e = some s) (h1 : idx ≤ idx') (h2 : idx' ≤ cap) :
    RV P w0 L M (.slice t x (some y) (some z) none) (.slice (subA A cap a s) (h - a) (cap - a)) := fun ρ w hρ m o ho => by
  subst hj hj'
  have h3 : h ≤ cap := by omega
  have h4 : a ≤ h := by omega
  simp [execOp, ho, hρ x _ hx, hρ y _ hy, hρ z _ hz, Instr.sliceAt, Instr.slice, Instr.sliceBounds, sliceBound_run w h3, sliceBound_run w h4, tyU_run ht, tyS_run hs, subA]
theorem RV.cut_o {ob : Option Nat} {off len cap : Nat} (h : Nat) (hx : ev L x = some (sl ob off len cap)) (hy : ev L y = some (.int k idx)) (hj : idx = (h : Int)) (ht : tyU P t = some (.slice e)) {s : Nat} (hs : tyS P e = some s) (h1 : idx ≤ cap) :
    RV P w0 L M (.slice t x none (some y) none) (sl ob off h cap) := RV.cut_hi h hx hy hj ht hs h1
theorem cells_one {v : Value} (h : v.oneCell' = true) : v.cells = #[v] := by cases v <;> simp_all [Value.cells, Value.oneCell']
theorem SV.store {ob : Option Nat} {i : Nat} {l : List Value} {te : TypeId} (hx : ev L x = some (ptr ob i)) (hs : ob.isSome = true) (hy : ev L y = some v) (h1 : v.oneCell' = true) (hsz : tyS P t = some 1) (hi : i < l.length) :
    SV P w0 L ((ob, blk l te) :: M) (.store t x y) ((ob, blk (l.set i v) te) :: M) := fun ρ w hρ m o ho => by
  obtain ⟨b, rfl⟩ := Option.isSome_iff_exists.1 hs
  have hm := m.ents _ (List.mem_cons_self ..) b rfl
  have hc : w.cell? ⟨b, i, none⟩ = l[i]? := m.cell (List.mem_cons_self ..) i
  have hc' : w.cell? ⟨b, i, none⟩ = some l[i] := by rw [hc]; simp [hi]
  have hf : w.frozen? ⟨b, i, none⟩ = false := m.notFrozen (List.mem_cons_self ..) i
  have hst : (Go.store (⟨b, i, none⟩ : Addr) v).run P w = .ok () (w.setCell ⟨b, i, none⟩ v) := by
    rw [run_store P w _ v _ h1, hc']; simp [hf]
  have hcs : v.cells.size = 1 := by simp [cells_one h1]
  have hcl : v.cells.toList = [v] := by simp [cells_one h1]
  refine ⟨w.setCell ⟨b, i, none⟩ v, ?_, m.turned rfl rfl rfl (by simp) ?_ ?_⟩
  · simp [execOp, ho, hρ x _ hx, hρ y _ hy, Instr.storeAt, Instr.sureAddr, ptr, storeVar, tyS_run hsz, hcs, hcl, storeCells, Addr.add_none, hst]
  · intro b' hb'
    cases hb'
    rw [setCell_eq_setRow w b i l.toArray te (0, 0) v hm.2, setRow_heap w b l.toArray _ te (0, 0) hm.2]
    simp [blk]
  · intro k hk
    exact Below.heap_setCell _ _ _ _ (fun e => hk (by rw [e]))
theorem SV.storeA {ob : Option Nat} {i : Nat} {l vs : List Value} {te : TypeId} (hx : ev L x = some (ptr ob i)) (hs : ob.isSome = true) (hy : ev L y = some (.agg vs.toArray)) (h1 : ∀ v ∈ vs, v.oneCell' = true) (hsz : tyS P t = some vs.length) (hi : i + vs.length ≤ l.length) :
    SV P w0 L ((ob, blk l te) :: M) (.store t x y) ((ob, blk (l.take i ++ vs ++ l.drop (i + vs.length)) te) :: M) := fun ρ w hρ m o ho => by
  obtain ⟨b, rfl⟩ := Option.isSome_iff_exists.1 hs
  have hm := m.ents _ (List.mem_cons_self ..) b rfl
  have hst := run_storeCells_at (P := P) b i te vs 0 l.toArray w hm.2 (by simpa using hi) h1
  simp only [Nat.add_zero] at hst
  refine ⟨_, ?_, m.turned (w' := w.setRow b (l.take i ++ vs ++ l.drop (i + vs.length)).toArray) rfl rfl rfl (by simp [World.setRow]) ?_ ?_⟩
  · simp [execOp, ho, hρ x _ hx, hρ y _ hy, Instr.storeAt, Instr.sureAddr, ptr, storeVar, tyS_run hsz, Value.cells, hst]
  · intro b' hb'
    cases hb'
    rw [setRow_heap w b l.toArray _ te (0, 0) hm.2]
    simp [blk]
  · intro k hk
    exact setRow_other _ _ _ _ (fun e => hk (by rw [e]))
end
section
variable {P : Program} [Types P] {w0 : World} {L : Slots} {M : List Ent} {x y z : Operand} {t t' e : TypeId} {v : Value} {n : Nat} {Q : Exit → Act → World → Prop}
  {ops : Array Oper} {rest : List Oper} {ty1 : TypeId} {pos : String} {aft : Array Edge} {d : Nat}
omit [Types P] in
theorem OW.new {op : Op} {l : List Value} {te : TypeId} {f : Nat → Value}
    (hop : ∀ (ρ : Operand → Value) (w : World), (∀ x u, ev L x = some u → ρ x = u) → Mem w0 w M → ∀ o : Oper, o.op = op → (execOp ρ o).run P w = .ok (.value (f w.heap.size)) (w.alloc (blk l te)))
    (hd : Nat.blt d n = true) (k : ∀ b : Nat, OW P n ops Q w0 rest ((d, f b) :: L) ((some b, blk l te) :: M)) : OW P n ops Q w0 (⟨some d, op, ty1, pos, aft, none⟩ :: rest) L M :=
  OW.av (τ := Nat) (I := fun _ => True) (v := f) (M' := fun b => (some b, blk l te) :: M) (fun ρ w hρ m o ho => ⟨w.heap.size, w.alloc (blk l te), trivial, hop ρ w hρ m o ho, m.alloc _⟩) hd (fun b _ => k b)
omit [Types P] in
theorem OW.box (hx : ev L x = some v) (hd : Nat.blt d n = true) (k : ∀ b : Nat, OW P n ops Q w0 rest ((d, ptr (some b) 0) :: L) ((some b, blk v.cells.toList e) :: M)) :
    OW P n ops Q w0 (⟨some d, .box e x, ty1, pos, aft, none⟩ :: rest) L M :=
  OW.new (f := fun b => ptr (some b) 0) (fun ρ w hρ m o ho => by
    simp [execOp, ho, hρ x _ hx, Instr.box, newVar, newRow, ptr, blk]) hd k
omit [Types P] in
theorem OW.boxA {vs : List Value} (hx : ev L x = some (.agg vs.toArray)) (hd : Nat.blt d n = true) (k : ∀ b : Nat, OW P n ops Q w0 rest ((d, ptr (some b) 0) :: L) ((some b, blk vs e) :: M)) :
    OW P n ops Q w0 (⟨some d, .box e x, ty1, pos, aft, none⟩ :: rest) L M :=
  OW.new (f := fun b => ptr (some b) 0) (fun ρ w hρ m o ho => by
    simp [execOp, ho, hρ x _ hx, Instr.box, newVar, newRow, ptr, blk, Value.cells]) hd k
omit [Types P] in
theorem OW.box1 (hx : ev L x = some v) (h1 : v.oneCell' = true) (hd : Nat.blt d n = true) (k : ∀ b : Nat, OW P n ops Q w0 rest ((d, ptr (some b) 0) :: L) ((some b, blk [v] e) :: M)) :
    OW P n ops Q w0 (⟨some d, .box e x, ty1, pos, aft, none⟩ :: rest) L M :=
  OW.new (f := fun b => ptr (some b) 0) (fun ρ w hρ m o ho => by
    simp [execOp, ho, hρ x _ hx, Instr.box, newVar, newRow, ptr, blk, cells_one h1]) hd k
theorem OW.alloc {i : TI} {l : List Value} (hi : ty P e = some i) (hl : i.z.cells = l.toArray) (hd : Nat.blt d n = true) (k : ∀ b : Nat, OW P n ops Q w0 rest ((d, ptr (some b) 0) :: L) ((some b, blk l e) :: M)) :
    OW P n ops Q w0 (⟨some d, .alloc e, ty1, pos, aft, none⟩ :: rest) L M :=
  OW.new (f := fun b => ptr (some b) 0) (fun ρ w hρ m o ho => by
    obtain ⟨_, ti, h1, h2, h3, h4⟩ := ty_ok hi
    simp [execOp, ho, Instr.alloc, zeroValue, typeInfo, h1, h4, newVar, newRow, ptr, blk, hl]) hd k
theorem OW.make {kl kc : IntKind} {i : TI} {z : Value} (l c : Nat) {il ic : Int} (hx : ev L x = some (.int kl il)) (hl : il = (l : Int)) (hy : ev L y = some (.int kc ic)) (hc : ic = (c : Int)) (ht : tyU P t = some (.slice e)) (hi : ty P e = some i) (hs : i.sz = 1) (hz : i.z.cells = #[z])
    (hlc : l ≤ c) (hb : i.bytes * c ≤ 281474976710656) (h63 : c ≤ 9223372036854775807) (hd : Nat.blt d n = true) (k : ∀ b : Nat, OW P n ops Q w0 rest ((d, sl (some b) 0 l c) :: L) ((some b, blk (List.replicate c z) e) :: M)) :
    OW P n ops Q w0 (⟨some d, .makeSlice t x y, ty1, pos, aft, none⟩ :: rest) L M :=
  OW.new (f := fun b => sl (some b) 0 l c) (fun ρ w hρ m o ho => by
    subst hl hc
    obtain ⟨_, ti, h1, h2, h3, h4⟩ := ty_ok hi
    have hm := run_make (P := P) w t e ti i.z (tyU_ok ht) h1 h4 kl kc (l : Int) (c : Int) (by omega) (by omega) (by rw [h3]; have : ((i.bytes * c : Nat) : Int) = (i.bytes : Int) * (c : Int) := Int.natCast_mul _ _; omega) (by omega)
    simp only [Int.toNat_natCast, h2, hs, Nat.mul_one, hz] at hm
    have e1 : madeCells #[z] c = (List.replicate c z).toArray := by
      apply Array.ext'
      rw [toList_madeCells_one]
    rw [e1] at hm
    simp [execOp, ho, hρ x _ hx, hρ y _ hy, hm, sl, blk]) hd k
theorem OW.bs {i : TI} {len : Nat} {parts : Array (Nat × Operand)} {vs : List (Nat × Value)} {cs : List Value} (hp : ∀ ρ : Operand → Value, (∀ x u, ev L x = some u → ρ x = u) → parts.toList.map (fun p => (p.1, ρ p.2)) = vs) (ht : tyU P t = some (.slice e)) (hi : ty P e = some i) (hpos : 0 < len * i.sz) (hle : len * i.sz ≤ 16777216)
    (hf : Instr.fill (fun j => some (j * i.sz, i.sz)) (madeCells i.z.cells (len * i.sz)) vs = some cs.toArray) (hd : Nat.blt d n = true) (k : ∀ b : Nat, OW P n ops Q w0 rest ((d, sl (some b) 0 len len) :: L) ((some b, blk cs e) :: M)) :
    OW P n ops Q w0 (⟨some d, .buildSlice t len parts, ty1, pos, aft, none⟩ :: rest) L M :=
  OW.new (f := fun b => sl (some b) 0 len len) (fun ρ w hρ m o ho => by
    obtain ⟨_, ti, h1, h2, h3, h4⟩ := ty_ok hi
    have e1 := hp ρ hρ
    have e2 : ¬ (16777216 < len * i.sz) := by omega
    have e3 : ¬ (len * i.sz = 0) := by omega
    unfold madeCells at hf
    simp [execOp, ho, Instr.buildSlice, tyU_run ht, Go.sizeOf, typeInfo, zeroValue, h1, h2, h4, e1, e2, e3, hf, newRow, sl, blk]) hd k
theorem OW.bs1 {i : TI} {z : Value} (hx : ev L x = some v) (h1 : v.oneCell' = true) (ht : tyU P t = some (.slice e)) (hi : ty P e = some i) (hs : i.sz = 1) (hz : i.z.cells = #[z]) (hd : Nat.blt d n = true)
    (k : ∀ b : Nat, OW P n ops Q w0 rest ((d, sl (some b) 0 1 1) :: L) ((some b, blk [v] e) :: M)) : OW P n ops Q w0 (⟨some d, .buildSlice t 1 #[(0, x)], ty1, pos, aft, none⟩ :: rest) L M :=
  OW.bs (i := i) (vs := [(0, v)]) (cs := [v]) (fun ρ hρ => by simp [hρ x v hx]) ht hi (by rw [hs]; decide) (by rw [hs]; decide) (by
    rw [hs, hz]
    have : madeCells #[z] (1 * 1) = #[z] := by
      apply Array.ext'
      rw [toList_madeCells_one]
      rfl
    rw [this]
    simp [Instr.fill, cells_one h1]) hd k
def evN (L : Slots) : Nat → List (Nat × Operand) → Option (List Value)
  | _, [] => some []
  | i, (j, x) :: r => match Nat.beq j i with
    | true => (match ev L x with
      | some v => (match evN L (i + 1) r with
        | some vs => some (v :: vs)
        | none => none)
      | none => none)
    | false => none
omit [Types P] in
theorem fill_one : ∀ (ps : List (Nat × Operand)) (vs : List Value) (i : Nat) (cells : Array Value) (ρ : Operand → Value), (∀ x u, ev L x = some u → ρ x = u) → evN L i ps = some vs → (∀ v ∈ vs, v.oneCell' = true) → i + vs.length = cells.size →
    Instr.fill (fun j => some (j * 1, 1)) cells (ps.map fun p => (p.1, ρ p.2)) = some (cells.toList.take i ++ vs).toArray
  | [], vs, i, cells, ρ, hρ, h, h1, hl => by
    simp only [evN, Option.some.injEq] at h
    subst h
    simp only [List.length_nil, Nat.add_zero] at hl
    simp only [Instr.fill, List.map_nil, List.append_nil, hl]
    rw [List.take_of_length_le (by simp)]
  | (j, x) :: r, vs, i, cells, ρ, hρ, h, h1, hl => by
    simp only [evN] at h
    split at h
    · rename_i hb
      have hji : j = i := Nat.eq_of_beq_eq_true hb
      subst hji
      split at h
      · rename_i v hv
        split at h
        · rename_i us hus
          simp only [Option.some.injEq] at h
          subst h
          have hv1 := h1 v (List.mem_cons_self ..)
          simp only [List.length_cons] at hl
          have ih := fill_one r us (j + 1) (cells.setIfInBounds j v) ρ hρ hus (fun u hu => h1 u (List.mem_cons_of_mem _ hu)) (by simp; omega)
          have hlt : j < cells.size := by omega
          simp only [List.map_cons, Instr.fill, hρ x v hv, cells_one hv1]
          have e0 : ¬ (j * 1 + 1 > cells.size) := by omega
          simp
          have : cells.set j v hlt = cells.setIfInBounds j v := by simp [Array.setIfInBounds, hlt]
          simp only [Nat.mul_one] at ih
          rw [ih]
          refine ⟨by omega, ?_⟩
          congr 2
          apply List.ext_getElem?
          intro k
          simp only [Array.toList_setIfInBounds]
          by_cases hk : k < j
          · simp [List.getElem?_append, hk, show k < j + 1 by omega, show ¬ j = k by omega, show min j cells.size = j by omega, show min (j + 1) cells.size = j + 1 by omega]
          · by_cases hk2 : k = j
            · subst hk2
              simp [List.getElem?_append, show min k cells.size = k by omega, show min (k + 1) cells.size = k + 1 by omega]
            · simp [List.getElem?_append, hk, show ¬ k < j + 1 by omega, show min j cells.size = j by omega, show min (j + 1) cells.size = j + 1 by omega, show k - j = (k - (j + 1)) + 1 by omega]
        · cases h
      · cases h
    · cases h
theorem OW.bsN {i : TI} {z : Value} {len : Nat} {ps : List (Nat × Operand)} {vs : List Value} (hp : evN L 0 ps = some vs) (h1 : vs.all (·.oneCell') = true) (hlen : vs.length = len) (hpos : 0 < len) (hle : len ≤ 16777216) (ht : tyU P t = some (.slice e)) (hi : ty P e = some i) (hs : i.sz = 1) (hz : i.z.cells = #[z])
    (hd : Nat.blt d n = true) (k : ∀ b : Nat, OW P n ops Q w0 rest ((d, sl (some b) 0 len len) :: L) ((some b, blk vs e) :: M)) :
    OW P n ops Q w0 (⟨some d, .buildSlice t len ps.toArray, ty1, pos, aft, none⟩ :: rest) L M :=
  OW.new (f := fun b => sl (some b) 0 len len) (fun ρ w hρ m o ho => by
    obtain ⟨_, ti, g1, g2, g3, g4⟩ := ty_ok hi
    have e2 : ¬ (16777216 < len) := by omega
    have e3 : ¬ (len = 0) := by omega
    have hf := fill_one (L := L) ps vs 0 (madeCells #[z] len) ρ hρ hp (by simpa using h1) (by simp [size_madeCells, hlen])
    unfold madeCells at hf
    simp at hf
    simp [execOp, ho, Instr.buildSlice, tyU_run ht, Go.sizeOf, typeInfo, zeroValue, g1, g2, g4, hs, hz, e2, e3, hf, newRow, sl, blk]) hd k
theorem rd_src {w : World} {B : Option Addr} {m c s : Nat} {vs : List Value} {t2 e2 : TypeId} (ht2 : tyU P t2 = some (.slice e2)) (hr : Rd w B vs) (hl : vs.length = m * s) (h1 : ∀ u ∈ vs, u.oneCell' = true) (hB : B = none → m = 0) : Src P s t2 (.slice B m c) m vs w := by
  cases B with
  | none =>
    have : vs = [] := by
      by_cases hv : vs = []
      · exact hv
      · have := hr.1 hv; cases this
    subst this
    have hm := hB rfl
    subst hm
    exact Src.ofNil w (tyU_ok ht2) c
  | some a => exact Src.ofSlice w (tyU_ok ht2) a m c vs hl (fun j u hj => hr.2 j u hj) h1
theorem OW.append {i : TI} {ob : Option Nat} {len cap m c s : Nat} {l r vs : List Value} {B : Option Addr} {t2 e2 : TypeId} (hx : ev L x = some (sl ob 0 len cap)) (hy : ev L y = some (.slice B m c)) (ht : tyU P t = some (.slice e)) (hi : ty P e = some i) (hs : i.sz = s) (ht2 : tyU P t2 = some (.slice e2))
    (hl : l.length = len * s) (hr : (l ++ r).length = cap * s) (hn : ob = none → cap = 0) (hR : Mem.Says w0 ((ob, blk (l ++ r) e) :: M) (fun w => Rd w B vs)) (hvl : vs.length = m * s) (hv1 : ∀ u ∈ vs, u.oneCell' = true) (hB : B = none → m = 0) (hspos : 0 < s)
    (h63 : len + m ≤ 9223372036854775807) (hb : (len + m) * i.bytes ≤ 140737488355328) (hz : i.z.cells.size = s) (hd : Nat.blt d n = true)
    (k : ∀ (ob' : Option Nat) (r' : List Value) (cap' : Nat), (l ++ vs ++ r').length = cap' * s → (ob' = none → cap' = 0) → OW P n ops Q w0 rest ((d, sl ob' 0 (len + m) cap') :: L) ((ob', blk (l ++ vs ++ r') e) :: M)) :
    OW P n ops Q w0 (⟨some d, .call ⟨.builtin .append, #[x, y], #[t, t2]⟩, ty1, pos, aft, none⟩ :: rest) L ((ob, blk (l ++ r) e) :: M) := by
  refine OW.av (τ := Option Nat × List Value × Nat) (I := fun q => (l ++ vs ++ q.2.1).length = q.2.2 * s ∧ (q.1 = none → q.2.2 = 0)) (v := fun q => sl q.1 0 (len + m) q.2.2) (M' := fun q => (q.1, blk (l ++ vs ++ q.2.1) e) :: M)
    (fun ρ w hρ mm o ho => ?_) hd (fun q hq => k q.1 q.2.1 q.2.2 hq.1 hq.2)
  obtain ⟨hu, ti, g1, g2, g3, g4⟩ := ty_ok hi
  have hrd := hR w mm
  have hsrc : Src P ti.size t2 (.slice B m c) m vs w := by rw [g2, hs]; exact rd_src ht2 hrd hvl hv1 hB
  have hrun : ∀ (v' : Value) (w' : World), (Builtin.append_ #[t, t2] o.type #[sl ob 0 len cap, .slice B m c]).run P w = .ok v' w' → (execOp ρ o).run P w = .ok (.value v') w' := fun v' w' hh => by
    simp [execOp, ho, resolve, hρ x _ hx, hρ y _ hy, invoke, builtin, hh]
  have hsz : ti.size = s := by rw [g2, hs]
  by_cases hroom : len + m ≤ cap
  · -- it fits
    cases ob with
    | none =>
      have hc0 := hn rfl
      subst hc0
      have hm0 : m = 0 := by omega
      have hl0 : len = 0 := by omega
      subst hm0 hl0
      have hv0 : vs = [] := List.length_eq_zero_iff.1 (by simpa using hvl)
      subst hv0
      have e1 : l = [] := List.length_eq_zero_iff.1 (by simpa using hl)
      subst e1
      refine ⟨(none, r, 0), w, ⟨by simpa using hr, fun _ => rfl⟩, hrun _ _ ?_, ?_⟩
      · exact run_append_nothing w t t2 o.type e ti (tyU_ok ht) g1 none 0 0 (Nat.le_refl _) _ hsrc
      · exact mm.tail.nil_ent _
    | some b =>
      have hm := mm.ents _ (List.mem_cons_self ..) b rfl
      have hlen : l.length + vs.length ≤ (l ++ r).length := by rw [hl, hvl, hr, ← Nat.add_mul]; exact Nat.mul_le_mul_right _ hroom
      have hra := run_append_room_src (P := P) w t t2 o.type e ti (tyU_ok ht) g1 b 0 len cap (.slice B m c) m vs hsrc hroom (fun j hj => by
          rw [mm.cell (List.mem_cons_self ..), hsz]
          have : 0 + len * s + j < (l ++ r).length := by omega
          rw [List.getElem?_eq_getElem this]; rfl) (fun j hj => mm.notFrozen (List.mem_cons_self ..) _)
      rw [hsz] at hra
      have hset : w.setCells b (0 + len * s) vs = w.setRow b ((l ++ r).toArray.toList.take (0 + len * s) ++ vs ++ (l ++ r).toArray.toList.drop (0 + len * s + vs.length)).toArray := by
        have q1 := run_storeCells_at (P := P) b (0 + len * s) e vs 0 (l ++ r).toArray w hm.2 (by simp; simp at hlen; omega) hv1
        have q2 := run_storeCells_cells (P := P) b (0 + len * s) vs 0 w (fun j hj => by
          rw [mm.cell (List.mem_cons_self ..)]
          have : 0 + len * s + 0 + j < (l ++ r).length := by omega
          rw [List.getElem?_eq_getElem this]; rfl) (fun j hj => mm.notFrozen (List.mem_cons_self ..) _) hv1
        rw [q1] at q2
        simp only [Nat.add_zero] at q2
        injection q2 with _ q3
        exact q3.symm
      rw [hset] at hra
      refine ⟨(some b, r.drop vs.length, cap), _, ⟨?_, fun h => by cases h⟩, hrun _ _ (by simpa [sl] using hra), mm.turned (w' := w.setRow b _) rfl rfl rfl (by simp [World.setRow]) ?_ ?_⟩
      · rw [← hr]; simp at hlen ⊢; omega
      · intro b' hb'
        cases hb'
        rw [setRow_heap w b (l ++ r).toArray _ e (0, 0) hm.2]
        simp only [blk]
        simp [← hl, List.drop_append]
      · intro kk hk
        exact setRow_other _ _ _ _ (fun e => hk (by rw [e]))
  · -- it grows
    have hold : (Builtin.firstCells ti.size len (sl ob 0 len cap)).run P w.drew = .ok l.toArray w.drew := by
      cases ob with
      | none =>
        have hc0 := hn rfl
        have e0 : (l ++ r).length = 0 := by rw [hr, hc0]; simp
        have e1 : l = [] := by cases l with | nil => rfl | cons a b => simp at e0
        subst e1
        simp [sl, Builtin.firstCells]
      | some b =>
        have := run_firstCells_some (P := P) w.drew ti.size len ⟨b, 0, none⟩ len cap l (by rw [hsz]; exact hl) (fun j u hj => by
          rw [Addr.add_none, (mm.drew).cell (List.mem_cons_self ..)]
          have hj' : j < l.length := (List.getElem?_eq_some_iff.1 hj).1
          rw [Nat.zero_add, List.getElem?_append_left hj']; exact hj)
        exact this
    have hg := run_append_grow_src (P := P) w t t2 o.type e ti i.z (tyU_ok ht) g1 g4 (ob.map fun k => ⟨k, 0, none⟩) len cap l hold (.slice B m c) m vs hsrc (by omega) (by omega)
      (growslice_fits (by omega) (by rw [g3]; exact hb))
    refine ⟨(some w.heap.size, (Builtin.zeroCells i.z.cells (grownCap w (len + m) cap e - (len + m))).toList, grownCap w (len + m) cap e), _, ⟨?_, fun h => by cases h⟩, hrun _ _ (by simpa [sl] using hg), ?_⟩
    · have hge := grownCap_ge w (len + m) cap e
      simp only [List.length_append, Array.length_toList, size_zeroCells, hz, hl, hvl]
      rw [← Nat.add_mul, ← Nat.add_mul]
      congr 1; omega
    · have := mm.drew.tail.alloc (blk (l ++ vs ++ (Builtin.zeroCells i.z.cells (grownCap w (len + m) cap e - (len + m))).toList) e)
      have e3 : (.cells ((l ++ vs).toArray ++ Builtin.zeroCells i.z.cells (grownCap w (len + m) cap e - (len + m))) e : Obj) = blk (l ++ vs ++ (Builtin.zeroCells i.z.cells (grownCap w (len + m) cap e - (len + m))).toList) e := by
        unfold blk
        congr 1
        apply Array.ext'
        simp
      rw [e3]
      exact this
end
section
variable {P : Program} {n : Nat} {ops : Array Oper} {Q : Exit → Act → World → Prop} {w0 : World} {l : List Oper} {L : Slots} {M : List Ent} {e0 e1 e2 e3 e4 e5 : Ent}
theorem OW.perm {M' : List Ent} (h : M.Perm M') (k : OW P n ops Q w0 l L M') : OW P n ops Q w0 l L M := OW.intro fun a w f m => k.elim a w f (m.perm h)
theorem OW.rot1 (k : OW P n ops Q w0 l L (e1 :: e0 :: M)) : OW P n ops Q w0 l L (e0 :: e1 :: M) := OW.perm (List.Perm.swap _ _ _) k
theorem OW.rot2 (k : OW P n ops Q w0 l L (e2 :: e0 :: e1 :: M)) : OW P n ops Q w0 l L (e0 :: e1 :: e2 :: M) := OW.perm (List.perm_middle (l₁ := [e0, e1])) k
theorem OW.rot3 (k : OW P n ops Q w0 l L (e3 :: e0 :: e1 :: e2 :: M)) : OW P n ops Q w0 l L (e0 :: e1 :: e2 :: e3 :: M) := OW.perm (List.perm_middle (l₁ := [e0, e1, e2])) k
theorem OW.rot4 (k : OW P n ops Q w0 l L (e4 :: e0 :: e1 :: e2 :: e3 :: M)) : OW P n ops Q w0 l L (e0 :: e1 :: e2 :: e3 :: e4 :: M) := OW.perm (List.perm_middle (l₁ := [e0, e1, e2, e3])) k
theorem OW.rot5 (k : OW P n ops Q w0 l L (e5 :: e0 :: e1 :: e2 :: e3 :: e4 :: M)) : OW P n ops Q w0 l L (e0 :: e1 :: e2 :: e3 :: e4 :: e5 :: M) := OW.perm (List.perm_middle (l₁ := [e0, e1, e2, e3, e4])) k
theorem OW.rot6 {e0 e1 e2 e3 e4 e5 e6 : Ent} (k : OW P n ops Q w0 l L (e6 :: e0 :: e1 :: e2 :: e3 :: e4 :: e5 :: M)) : OW P n ops Q w0 l L (e0 :: e1 :: e2 :: e3 :: e4 :: e5 :: e6 :: M) := OW.perm (List.perm_middle (l₁ := [e0, e1, e2, e3, e4, e5])) k
theorem OW.rot7 {e0 e1 e2 e3 e4 e5 e6 e7 : Ent} (k : OW P n ops Q w0 l L (e7 :: e0 :: e1 :: e2 :: e3 :: e4 :: e5 :: e6 :: M)) : OW P n ops Q w0 l L (e0 :: e1 :: e2 :: e3 :: e4 :: e5 :: e6 :: e7 :: M) := OW.perm (List.perm_middle (l₁ := [e0, e1, e2, e3, e4, e5, e6])) k
theorem OW.rot8 {e0 e1 e2 e3 e4 e5 e6 e7 e8 : Ent} (k : OW P n ops Q w0 l L (e8 :: e0 :: e1 :: e2 :: e3 :: e4 :: e5 :: e6 :: e7 :: M)) : OW P n ops Q w0 l L (e0 :: e1 :: e2 :: e3 :: e4 :: e5 :: e6 :: e7 :: e8 :: M) := OW.perm (List.perm_middle (l₁ := [e0, e1, e2, e3, e4, e5, e6, e7])) k
theorem OW.drop0 (k : OW P n ops Q w0 l L M) : OW P n ops Q w0 l L (e0 :: M) := OW.intro fun a w f m => k.elim a w f m.tail
theorem OW.drop1 (k : OW P n ops Q w0 l L (e0 :: M)) : OW P n ops Q w0 l L (e0 :: e1 :: M) := OW.intro fun a w f m => k.elim a w f (m.sublist (by simp))
end
def Sub' (L L' : Slots) : Prop := ∀ k v, lk L' k = some v → lk L k = some v
theorem OW.frame {P : Program} {n : Nat} {ops : Array Oper} {Q : Exit → Act → World → Prop} {w0 : World} {l : List Oper} {L L' : Slots} {M : List Ent} (hs : Sub' L L') (k : OW P n ops Q w0 l L' M) : OW P n ops Q w0 l L M := OW.intro fun a w f m => k.elim a w (f.sub hs) m
section
variable {P : Program} [Types P] {w0 : World} {L : Slots} {M : List Ent} {x y z : Operand} {t t' e : TypeId} {v : Value} {n : Nat} {Q : Exit → Act → World → Prop}
  {ops : Array Oper} {rest : List Oper} {ty1 ty2 : TypeId} {pos pos2 : String} {aft aft2 : Array Edge} {d d1 : Nat}
theorem OW.appendG {i : TI} {A : Option Addr} {len cap m c s : Nat} {l vs : List Value} {B : Option Addr} {t2 e2 : TypeId} (hx : ev L x = some (.slice A len cap)) (hy : ev L y = some (.slice B m c)) (ht : tyU P t = some (.slice e)) (hi : ty P e = some i) (hs : i.sz = s) (ht2 : tyU P t2 = some (.slice e2))
    (hl : l.length = len * s) (hA : Mem.Says w0 M (fun w => Rd w A l)) (hAn : A = none → len = 0) (hR : Mem.Says w0 M (fun w => Rd w B vs)) (hvl : vs.length = m * s) (hv1 : ∀ u ∈ vs, u.oneCell' = true) (hB : B = none → m = 0) (hg : cap < len + m)
    (h63 : len + m ≤ 9223372036854775807) (hb : (len + m) * i.bytes ≤ 140737488355328) (hz : i.z.cells.size = s) (hd : Nat.blt d n = true)
    (k : ∀ (b' : Nat) (r' : List Value) (cap' : Nat), (l ++ vs ++ r').length = cap' * s → OW P n ops Q w0 rest ((d, sl (some b') 0 (len + m) cap') :: L) ((some b', blk (l ++ vs ++ r') e) :: M)) :
    OW P n ops Q w0 (⟨some d, .call ⟨.builtin .append, #[x, y], #[t, t2]⟩, ty1, pos, aft, none⟩ :: rest) L M := by
  refine OW.av (τ := Nat × List Value × Nat) (I := fun q => (l ++ vs ++ q.2.1).length = q.2.2 * s) (v := fun q => sl (some q.1) 0 (len + m) q.2.2) (M' := fun q => (some q.1, blk (l ++ vs ++ q.2.1) e) :: M)
    (fun ρ w hρ mm o ho => ?_) hd (fun q hq => k q.1 q.2.1 q.2.2 hq)
  obtain ⟨hu, ti, g1, g2, g3, g4⟩ := ty_ok hi
  have hsz : ti.size = s := by rw [g2, hs]
  have hsrc : Src P ti.size t2 (.slice B m c) m vs w := by rw [hsz]; exact rd_src ht2 (hR w mm) hvl hv1 hB
  have hrun : ∀ (v' : Value) (w' : World), (Builtin.append_ #[t, t2] o.type #[.slice A len cap, .slice B m c]).run P w = .ok v' w' → (execOp ρ o).run P w = .ok (.value v') w' := fun v' w' hh => by
    simp [execOp, ho, resolve, hρ x _ hx, hρ y _ hy, invoke, builtin, hh]
  have hold : (Builtin.firstCells ti.size len (.slice A len cap)).run P w.drew = .ok l.toArray w.drew := by
    have hrd := hA w.drew mm.drew
    cases A with
    | none =>
      have h0 := hAn rfl
      subst h0
      have e1 : l = [] := List.length_eq_zero_iff.1 (by simpa using hl)
      subst e1
      simp [Builtin.firstCells]
    | some a => exact run_firstCells_some (P := P) w.drew ti.size len a len cap l (by rw [hsz]; exact hl) (fun j u hj => hrd.2 j u hj)
  have hgr := run_append_grow_src (P := P) w t t2 o.type e ti i.z (tyU_ok ht) g1 g4 A len cap l hold (.slice B m c) m vs hsrc hg (by omega) (growslice_fits hg (by rw [g3]; exact hb))
  refine ⟨(w.heap.size, (Builtin.zeroCells i.z.cells (grownCap w (len + m) cap e - (len + m))).toList, grownCap w (len + m) cap e), _, ?_, hrun _ _ (by simpa [sl] using hgr), ?_⟩
  · have hge := grownCap_ge w (len + m) cap e
    simp only [List.length_append, Array.length_toList, size_zeroCells, hz, hl, hvl]
    rw [← Nat.add_mul, ← Nat.add_mul]
    congr 1; omega
  · have := mm.drew.alloc (blk (l ++ vs ++ (Builtin.zeroCells i.z.cells (grownCap w (len + m) cap e - (len + m))).toList) e)
    have e3 : (.cells ((l ++ vs).toArray ++ Builtin.zeroCells i.z.cells (grownCap w (len + m) cap e - (len + m))) e : Obj) = blk (l ++ vs ++ (Builtin.zeroCells i.z.cells (grownCap w (len + m) cap e - (len + m))).toList) e := by
      unfold blk
      congr 1
      apply Array.ext'
      simp
    rw [e3]
    exact this
theorem OW.pushG {i : TI} {z : Value} {A : Option Addr} {len cap : Nat} {l : List Value} (hx : ev L x = some (.slice A len cap)) (hxd : (match x with | .tmp k => Nat.beq d1 k | _ => false) = false) (hy : ev L y = some v) (h1 : v.oneCell' = true) (ht : tyU P t = some (.slice e)) (hi : ty P e = some i) (hs : i.sz = 1) (hz : i.z.cells = #[z])
    (hl : l.length = len) (hA : Mem.Says w0 M (fun w => Rd w A l)) (hAn : A = none → len = 0) (hg : cap < len + 1) (h63 : len + 1 ≤ 9223372036854775807) (hb : (len + 1) * i.bytes ≤ 140737488355328) (hd1 : Nat.blt d1 n = true) (hd : Nat.blt d n = true)
    (k : ∀ (b : Nat) (b' : Nat) (r' : List Value) (cap' : Nat), (l ++ [v] ++ r').length = cap' → OW P n ops Q w0 rest ((d, sl (some b') 0 (len + 1) cap') :: (d1, sl (some b) 0 1 1) :: L) ((some b', blk (l ++ [v] ++ r') e) :: M)) :
    OW P n ops Q w0 (⟨some d1, .buildSlice t 1 #[(0, y)], ty1, pos, aft, none⟩ :: ⟨some d, .call ⟨.builtin .append, #[x, .tmp d1], #[t, t]⟩, ty2, pos2, aft2, none⟩ :: rest) L M := by
  refine OW.bs1 hy h1 ht hi hs hz hd1 (fun b => ?_)
  have hx' : ev ((d1, sl (some b) 0 1 1) :: L) x = some (.slice A len cap) := by
    cases x with
    | tmp k => simp only [ev, lk]; simp only at hxd; rw [hxd]; exact hx
    | _ => exact hx
  have hy' : ev ((d1, sl (some b) 0 1 1) :: L) (.tmp d1) = some (sl (some b) 0 1 1) := by simp [ev, lk]
  refine OW.appendG (i := i) (s := 1) (vs := [v]) (B := some ⟨b, 0, none⟩) (m := 1) (c := 1) hx' hy' ht hi hs ht (by omega) hA.cons hAn ?_ rfl (fun u hu => by simp at hu; rw [hu]; exact h1) (fun h => by cases h) hg h63 hb (by rw [hz]; rfl) hd ?_
  · intro w m
    exact m.rdl (ob := some b) (l := [v]) (t := e) (by simp) (fun h => by cases h)
  · intro b' r' cap' h1'
    exact OW.drop1 (k b b' r' cap' (by omega))
end
theorem CW.cells {P : Program} {n : Nat} {Q : Exit → Act → World → Prop} {w0 : World} {c : Code} {L : Slots} {M : List Ent} {ob : Option Nat} {l : List Value} {t : TypeId} (l' : List Value) (e : l = l') (k : CW P n Q w0 c L ((ob, blk l' t) :: M)) : CW P n Q w0 c L ((ob, blk l t) :: M) := by rw [e]; exact k
section
variable {P : Program} [Types P] {w0 : World} {L : Slots} {M : List Ent} {x y z : Operand} {t t' e : TypeId} {v : Value} {n : Nat} {Q : Exit → Act → World → Prop}
  {ops : Array Oper} {rest : List Oper} {ty1 ty2 : TypeId} {pos pos2 : String} {aft aft2 : Array Edge} {d d1 : Nat}
theorem OW.push {i : TI} {z : Value} {ob : Option Nat} {len cap : Nat} {l r : List Value} (hx : ev L x = some (sl ob 0 len cap)) (hxd : (match x with | .tmp k => Nat.beq d1 k | _ => false) = false) (hy : ev L y = some v) (h1 : v.oneCell' = true) (ht : tyU P t = some (.slice e)) (hi : ty P e = some i) (hs : i.sz = 1) (hz : i.z.cells = #[z])
    (hl : l.length = len) (hr : (l ++ r).length = cap) (hn : ob = none → cap = 0) (h63 : len + 1 ≤ 9223372036854775807) (hb : (len + 1) * i.bytes ≤ 140737488355328) (hd1 : Nat.blt d1 n = true) (hd : Nat.blt d n = true)
    (k : ∀ (b : Nat) (ob' : Option Nat) (r' : List Value) (cap' : Nat), (l ++ [v] ++ r').length = cap' → (ob' = none → cap' = 0) → OW P n ops Q w0 rest ((d, sl ob' 0 (len + 1) cap') :: (d1, sl (some b) 0 1 1) :: L) ((ob', blk (l ++ [v] ++ r') e) :: M)) :
    OW P n ops Q w0 (⟨some d1, .buildSlice t 1 #[(0, y)], ty1, pos, aft, none⟩ :: ⟨some d, .call ⟨.builtin .append, #[x, .tmp d1], #[t, t]⟩, ty2, pos2, aft2, none⟩ :: rest) L ((ob, blk (l ++ r) e) :: M) := by
  refine OW.bs1 hy h1 ht hi hs hz hd1 (fun b => OW.rot1 ?_)
  have hx' : ev ((d1, sl (some b) 0 1 1) :: L) x = some (sl ob 0 len cap) := by
    cases x with
    | tmp k => simp only [ev, lk]; simp only at hxd; rw [hxd]; exact hx
    | _ => exact hx
  have hy' : ev ((d1, sl (some b) 0 1 1) :: L) (.tmp d1) = some (sl (some b) 0 1 1) := by simp [ev, lk]
  refine OW.append (i := i) (s := 1) (vs := [v]) (B := some ⟨b, 0, none⟩) (m := 1) (c := 1) hx' hy' ht hi hs ht (by omega) (by omega) hn ?_ rfl (fun u hu => by simp at hu; rw [hu]; exact h1) (fun h => by cases h) (by omega) h63 hb (by rw [hz]; rfl) hd ?_
  · intro w m
    have := m.rd (ob := some b) (l := [v]) (t := e) (by simp) (fun h => by cases h) 0 1
    simpa using this
  · intro ob' r' cap' h1' h2'
    exact OW.drop1 (k b ob' r' cap' (by omega) h2')
end
def u8s (l : List (BitVec 8)) : List Value := l.map U8
theorem u8s_get {l : List (BitVec 8)} {i : Nat} (h : i < l.length) : (u8s l)[i]? = some (U8 (l.getD i 0#8)) := by
  simp [u8s, h]
@[simp] theorem u8s_length (l : List (BitVec 8)) : (u8s l).length = l.length := by simp [u8s]
theorem u8s_one (l : List (BitVec 8)) : ∀ u ∈ u8s l, u.oneCell' = true := fun u hu => by
  simp only [u8s, List.mem_map] at hu
  obtain ⟨x, _, rfl⟩ := hu
  rfl
theorem Rd.some8 {w : World} {A : Option Addr} {xs : List (BitVec 8)} (h : Rd w A (u8s xs)) {i : Nat} (hi : i < xs.length) : A.isSome = true := h.1 (fun e => by
  have : (u8s xs).length = 0 := by rw [e]; rfl
  rw [u8s_length] at this; omega)
theorem wf_i64_in {n : Int} (h : (Lit.int .i64 n).wf = true) : -9223372036854775808 ≤ n ∧ n ≤ 9223372036854775807 := by
  simp only [Lit.wf, Bool.and_eq_true, decide_eq_true_eq] at h
  have e1 : IntKind.i64.min = -9223372036854775808 := by decide
  have e2 : IntKind.i64.max = 9223372036854775807 := by decide
  rw [e1, e2] at h
  exact h
end Go.Fw

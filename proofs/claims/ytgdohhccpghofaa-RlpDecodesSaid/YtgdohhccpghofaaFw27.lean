/- Part of a proof over Ytgdohhccpghofaa: rules and contracts that the law's text uses. No condition. -/
import Derived.Test.YtgdohhccpghofaaFw26
import Derived.Test.YtgdohhccpghofaaSegL
namespace Go.Fw
open Go Go.RowKit
set_option linter.unusedVariables false
set_option linter.unusedSectionVars false
/-! Parts of arrays in a block of one's own: written by copy, cleared. -/
section
variable {P : Program} [Types P] {w0 : World} {L : Slots} {M : List Ent} {t e : TypeId} {x y z : Operand} {idx idx' : Int} {k k' : IntKind}
theorem RV.arr_loS {b off n : Nat} (a : Nat) (hx : ev L x = some (ptr (some b) off)) (hy : ev L y = some (.int k idx)) (hj : idx = (a : Int)) (ht : tyU P t = some (.array n e)) (hs : tyS P e = some 1) (h1 : idx < n) :
    RV P w0 L M (.slice t x (some y) none none) (sl (some b) (off + a) (n - a) (n - a)) := by
  have h := RV.arr_lo (P := P) (w0 := w0) (M := M) (A := ⟨b, off, none⟩) a hx hy hj ht hs (by omega)
  have e : subA (some ⟨b, off, none⟩) n a 1 = some ⟨b, off + a, none⟩ := by
    unfold subA
    rw [if_neg (by omega)]
    simp [Addr.add]
  rw [e] at h
  exact h
end
/-- A vector, written over from a place on. -/
def cpV {α : Type} {n : Nat} (v : Vector α n) (lo : Nat) (l : List α) : Vector α n :=
  if h : lo + l.length ≤ n then ⟨(v.toList.take lo ++ l ++ v.toList.drop (lo + l.length)).toArray, by simp; omega⟩ else v
theorem cpV_toList {α : Type} {n : Nat} (v : Vector α n) {lo : Nat} {l : List α} (h : lo + l.length ≤ n) : (cpV v lo l).toList = v.toList.take lo ++ l ++ v.toList.drop (lo + l.length) := by
  unfold cpV
  rw [dif_pos h]
  rfl
theorem u8s_cpV {n : Nat} (v : Vector (BitVec 8) n) {lo : Nat} {l : List (BitVec 8)} (h : lo + l.length ≤ n) : spl (u8s v.toList) lo (u8s l) = u8s (cpV v lo l).toList := by
  rw [cpV_toList v h]
  unfold spl
  rw [u8s_length]
  simp [u8s, List.map_take, List.map_drop]
theorem at_spl {B B' C cs : List Value} {i : Nat} (hi : i + cs.length ≤ B.length) (h : spl B i cs = B') : spl (B ++ C) i cs = B' ++ C := by
  subst h
  unfold spl
  rw [List.take_append_of_le_length (by omega), List.drop_append_of_le_length hi]
  simp [List.append_assoc]
theorem u8s_take (l : List (BitVec 8)) (k : Nat) : (u8s l).take k = u8s (l.take k) := by simp [u8s, List.map_take]
end Go.Fw
namespace Go.Fw
open Go Go.RowKit
set_option linter.unusedVariables false
set_option linter.unusedSectionVars false
section
variable {P : Program} [Types P] {n : Nat} {Q : Exit → Act → World → Prop} {w0 : World} {L : Slots} {M : List Ent} {ops : Array Oper} {rest : List Oper} {t e ty1 : TypeId} {x : Operand} {pos : String} {aft : Array Edge}
/-- clear of a part that is not empty. -/
theorem OW.clear {b off len cap : Nat} {l : List Value} {te : TypeId} {i : TI} {z : Value} (hx : ev L x = some (sl (some b) off len cap)) (ht : tyU P t = some (.slice e)) (hi : Fw.ty P e = some i) (hz : i.z.cells = #[z]) (h1 : z.oneCell' = true) (hp : 0 < len) (hl : off + len ≤ l.length)
    (k : OW P n ops Q w0 rest L ((some b, blk (spl l off (List.replicate len z)) te) :: M)) :
    OW P n ops Q w0 (⟨none, .call ⟨.builtin .clear, #[x], #[t]⟩, ty1, pos, aft, none⟩ :: rest) L ((some b, blk l te) :: M) := by
  refine OW.av_none (τ := Unit) (I := fun _ => True) (v := fun _ => .tuple #[]) (M' := fun _ => (some b, blk (spl l off (List.replicate len z)) te) :: M) (fun ρ w hρ mm o ho => ?_) (fun _ _ => k)
  obtain ⟨_, ti, h1', h2, h3, h4⟩ := ty_ok hi
  have hv : ∀ w, (zeroValue e).run P w = .ok i.z w := fun w => by simp [zeroValue, typeInfo, h1', h4]
  have hzc : (Builtin.zeroCells i.z.cells len).toList = List.replicate len z := by
    rw [hz]
    simp [Builtin.zeroCells]
    apply List.ext_getElem
    · simp
    · intro i h1 h2
      simp [Nat.mod_one]
  have hm := mm.ents _ (List.mem_cons_self ..) b rfl
  have hst := run_storeCells_at (P := P) b off te (List.replicate len z) 0 l.toArray w hm.2 (by simpa using hl) (fun v hv => by rw [List.eq_of_mem_replicate hv]; exact h1)
  simp only [Nat.add_zero] at hst
  obtain ⟨m, rfl⟩ : ∃ m, len = m + 1 := ⟨len - 1, by omega⟩
  refine ⟨(), _, trivial, ?_, mm.turned (w' := w.setRow b (l.toArray.toList.take off ++ List.replicate (m + 1) z ++ l.toArray.toList.drop (off + (List.replicate (m + 1) z).length)).toArray) rfl rfl rfl (by simp [World.setRow]) ?_ ?_⟩
  · simp [execOp, ho, resolve, hρ x _ hx, invoke, builtin, Builtin.clear_, tyU_run ht, sl, hv, hzc, hst]
  · intro b' hb'
    cases hb'
    rw [setRow_heap w b l.toArray _ te (0, 0) hm.2]
    simp [blk, spl]
  · intro kk hk
    exact setRow_other _ _ _ _ (fun e => hk (by rw [e]))
end
theorem u8s_rep0 (k : Nat) : List.replicate k (Value.int .u8 0) = u8s (List.replicate k 0#8) := by simp [u8s, U8]
end Go.Fw
namespace Go.Fw
/-- Other cells in the same place. -/
theorem OwnS.same {ob : Option Nat} {len len' cap s : Nat} {cells cells' r : List Value} (h : OwnS ob len cap s cells r) (h1 : cells'.length = cells.length) (h2 : len' = len) : OwnS ob len' cap s cells' r := by
  subst h2
  exact ⟨by rw [h1]; exact h.n, by have := h.hr; rw [List.length_append] at this ⊢; omega, h.hn, h.mx⟩
end Go.Fw

/- Part of a proof over Ytgdohhccpghofaa: rules and contracts that the law's text uses. No condition. -/
import Derived.Test.YtgdohhccpghofaaFw13
namespace Go.Fw
open Go Go.RowKit
set_option linter.unusedVariables false
section
variable {P : Program} [Types P] {n : Nat} {w0 : World} {L : Slots} {M : List Ent}
theorem QW.retCC {fn : Func} {p q : Tmp} {ty ty2 : TypeId} {ob ob2 : Option Nat} {l l2 : List Value} {te te2 : TypeId} {u u2 : TypeDesc} {s s2 : Nat} {τ : Type} {I : τ → Prop} {v : τ → Value} {M' : τ → List Ent} (hr : fn.results = #[.cell p ty, .cell q ty2]) (x : τ) (hI : I x) (hp : lk L p = some (ptr ob 0)) (hq : lk L q = some (ptr ob2 0)) (he : (ob, blk l te) ∈ M) (he2 : (ob2, blk l2 te2) ∈ M) (hs : ob.isSome = true) (hs2 : ob2.isSome = true)
    (hu : tyU P ty = some u) (hg : TypeDesc.agg u = true) (hsz : tyS P ty = some s) (hl : l.length = s) (hu2 : tyU P ty2 = some u2) (hg2 : TypeDesc.agg u2 = true) (hsz2 : tyS P ty2 = some s2) (hl2 : l2.length = s2) (hv : .tuple #[.agg l.toArray, .agg l2.toArray] = v x) (hM : ∀ w, Mem w0 w M → Mem w0 w (M' x)) : QW n (bodyPost P fn (Ends w0 I v M')) w0 .ret L M := QW.intro fun a w f m => by
  refine ⟨f.nd, v x, ?_, x, hI, rfl, hM w m⟩
  have hload := loadVar_run (P := P) m he hs hu hg hsz hl
  have hload2 := loadVar_run (P := P) m he2 hs2 hu2 hg2 hsz2 hl2
  have hp' := f.get p _ hp
  have hq' := f.get q _ hq
  simp [results, hr, hp', hq', ptr, asAddr, hload, hload2, hv]
variable {ops : Array Oper} {Q : Exit → Act → World → Prop} {tail : List Oper} {m f : Nat} {done : Array Bool} {op : Op} {ty1 : TypeId} {pos : String} {aft : Array Edge}
omit [Types P] in
/-- A write of what lies there already, whenever it comes. -/
theorem UW.same (i : Nat) {b : Nat} {o : Obj} (ho : ops[i]? = some ⟨none, op, ty1, pos, aft, none⟩) (hr : UR ops m done i = true) (he : (some b, o) ∈ M) (hop : ∀ M', SV P w0 L ((some b, o) :: M') op ((some b, o) :: M'))
    (k : UW P n ops Q w0 tail m f (done.setIfInBounds i true) L M) : UW P n ops Q w0 tail m (f + 1) done L M :=
  UW.take i (C := fun w => Mem w0 w M) (fun w w' h u => u _ h) (fun _ h => h) hr ho undef (fun a fr => .inl ⟨rfl, fun w mm => by
    obtain ⟨h1, h2⟩ := mm.ents _ he b rfl
    have hlt : b < w.heap.size := (Array.getElem?_eq_some_iff.1 h2).1
    have hm : ((some b, o) : Ent) ∈ allEnts w0 w := by
      refine List.mem_map.2 ⟨b - w0.heap.size, List.mem_range.2 (by omega), ?_⟩
      have e1 : w0.heap.size + (b - w0.heap.size) = b := by omega
      simp [e1, h2]
    obtain ⟨s, t, e⟩ := List.append_of_mem hm
    have hp : (allEnts w0 w).Perm ((some b, o) :: (s ++ t)) := by rw [e]; exact List.perm_middle
    obtain ⟨w', hrun, hm'⟩ := hop (s ++ t) a.eval w (fun x u hx => fr.eval hx) (mm.all.perm hp) ⟨none, op, ty1, pos, aft, none⟩ rfl
    rw [hrun]
    exact ⟨rfl, Upw.of_all (hm'.perm hp.symm)⟩⟩) (fun a w fr mm hB inv => k.elim hB inv _ _ fr mm)
end
end Go.Fw

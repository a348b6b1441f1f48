/- Part of a proof: rules that its law uses. -/
import Derived.Test.YtgonajfngmeanaaDoorFw5
import Derived.StillTail
namespace Go.Fw
open Go Go.RowKit
set_option linter.unusedVariables false
section
variable {P : Program} {ops : Array Oper} {md : Region.Mode} {C : World → Prop}
def headAny (P : Program) (md : Region.Mode) (ops : Array Oper) (C : World → Prop) (n : Nat) (E : Array Bool → Act → Prop) : Nat → Array Bool → Act → Prop
  | 0, done, a => E done a
  | f + 1, done, a => Region.ready md ops done ≠ [] ∧ ∀ i, i ∈ Region.ready md ops done → i < n ∧ qOp P ops C i (headAny P md ops C n E f (done.setIfInBounds i true)) a
theorem headAny.any {n g : Nat} {E : Array Bool → Act → Prop} {Q : Exit → Act → World → Prop} (hE : ∀ done a w, C w → E done a → wpAny P md ops Q g done a w) :
    ∀ (f : Nat) (done : Array Bool) (a : Act) (w : World), C w → headAny P md ops C n E f done a → wpAny P md ops Q (f + g) done a w
  | 0, done, a, w, hw, h => by simpa using hE done a w hw h
  | f + 1, done, a, w, hw, h => by
    have hfg : f + 1 + g = (f + g) + 1 := by omega
    rw [hfg]
    refine ⟨fun e => absurd e h.1, fun i hi => ?_⟩
    exact wpOp_of_qOp hw (fun a' w' hw' h' => headAny.any hE f _ a' w' hw' h') (h.2 i hi).2
theorem headAny.take {n i : Nat} {oi : Oper} {v : Value} {E : Array Bool → Act → Prop} (hi : ops[i]? = some oi) (hsel : ∀ (j : Nat) (o : Oper) cs b, ops[j]? = some o → o.op ≠ .select cs b)
    (hs : Region.sinkB md ops n = true) (hc : Region.chainB md ops n = true) (hn : n < ops.size) (hin : i < n) (hE : ∀ done a, E done a → ∀ j ∈ Region.ready md ops done, n ≤ j) :
    ∀ (f : Nat) (done : Array Bool) (a : Act), HeadInv md ops n done →
      (∀ j oj, ops[j]? = some oj → j ≠ i → done.getD j true = false → (∀ e ∈ oj.after, Region.binds md e = true → e.on ≠ i) → oi.apart ops oj = true) →
      i ∈ Region.ready md ops done → YieldsIn P ops C oi v a → headAny P md ops C n E f (done.setIfInBounds i true) (a.put oi.dst v) → headAny P md ops C n E (f + 1) done a := by
  intro f
  induction f with
  | zero =>
    intro done a inv _ hr hy h
    refine ⟨(fun e => by rw [e] at hr; cases hr), fun j hj => ?_⟩
    have hjn : j < n := Nat.lt_of_not_le fun hle => tail_waits hs hc hn inv _ i rfl hin (mem_ready.1 hr).1 j hle hj
    by_cases e : j = i
    · subst e
      exact ⟨hjn, hy.qOp hi h⟩
    · have := hE _ _ h j (ready_mono hj e)
      omega
  | succ f ih =>
    intro done a inv hfree hr hy h
    refine ⟨(fun e => by rw [e] at hr; cases hr), fun j hj => ?_⟩
    have hjn : j < n := Nat.lt_of_not_le fun hle => tail_waits hs hc hn inv _ i rfl hin (mem_ready.1 hr).1 j hle hj
    by_cases e : j = i
    · subst e
      exact ⟨hjn, hy.qOp hi h⟩
    · refine ⟨hjn, ?_⟩
      obtain ⟨hju, oj, hoj, hall⟩ := mem_ready.1 hj
      have hno : ∀ e ∈ oj.after, Region.binds md e = true → e.on ≠ i := fun x hx hb hxi => by
        have q := hall x hx hb
        rw [hxi, getD_both (mem_ready.1 hr).1] at q
        cases q
      have step := qOp_put hoj (hfree j oj hoj e hju hno) (fun cs b => hsel i oi cs b hi) (fun cs b => hsel j oj cs b hoj) hy (h.2 j (ready_mono hj e)).2
      refine qOp_mono (fun a' q => ih _ a' (inv.set hj hjn) (fun k ok hk hki hku hnk => hfree k ok hk hki ?_ hnk) (ready_mono hr (Ne.symm e)) q.1 ?_) step
      · by_cases hjk : j = k
        · subst hjk; exact hju
        · rwa [getD_set_ne true hjk] at hku
      · rw [Array.setIfInBounds_comm _ _ e]
        exact q.2
theorem headAny.lex {n g : Nat} {E : Act → Prop} (hsel : Region.noSelect ops = true) (hs : Region.sinkB md ops n = true) (hc : Region.chainB md ops n = true) (hn : n < ops.size) :
    ∀ (l : List Oper) (k : Nat) (done : Array Bool) (a : Act), (∀ j, j < l.length → l[j]? = ops[k + j]?) → k + l.length = n → HeadInv md ops n done → Region.lexHead md ops g l.length k done = true → wpQuiet P ops C E l a →
      headAny P md ops C n (fun done' a' => Region.seqB md ops g n done' = true ∧ E a') l.length done a
  | [], k, done, a, _, hk, _, hB, h => by
    have e : k = n := by simpa using hk
    subst e
    exact ⟨by simpa [Region.lexHead] using hB, h⟩
  | o :: l, k, done, a, hl, hk, inv, hB, h => by
    have h0 : ops[k]? = some o := by simpa using (hl 0 (by simp)).symm
    have hB2 := hB
    simp only [List.length_cons, Region.lexHead, Bool.and_eq_true] at hB2
    have hkn : k < n := by simp only [List.length_cons] at hk; omega
    have hr : k ∈ Region.ready md ops done := by simpa using hB2.1.1
    have hq : qOp P ops C k (wpQuiet P ops C E l) a := by unfold qOp; simp only [h0]; exact h
    obtain ⟨v, hy, hK⟩ := yieldsIn_of_qOp h0 hq
    refine headAny.take h0 (Region.noSelect_spec hsel) hs hc hn hkn (fun done' a' q => seqB_ready q.1) l.length done a inv (Region.free_spec h0 hB2.1.2) hr hy ?_
    refine headAny.lex hsel hs hc hn l (k + 1) _ _ (fun j hj => ?_) (by simp only [List.length_cons] at hk; omega) (inv.set hr hkn) hB2.2 hK
    have := hl (j + 1) (by simp; omega)
    simpa [Nat.add_assoc, Nat.add_comm 1 j] using this
theorem wp_region_quiet_tail {id : Nat} {Q : Exit → Act → World → Prop} {a : Act} {w : World} {l : List Oper} (n : Nat) (hm : P.follows .mixedOrders = true) (hB : Region.lexTailB .any l.toArray n = true) (hC : C { w with drawn := w.drawn + 1 })
    (h : wpQuiet P l.toArray C (fun a' => ∀ w', C w' → wpList P l.toArray Q (l.drop n) a' w') (l.take n) a) : (Code.region id l.toArray true).wp P Q a w := by
  simp only [Region.lexTailB, Bool.and_eq_true, decide_eq_true_eq] at hB
  obtain ⟨⟨⟨⟨hsel, hn⟩, hs⟩, hc⟩, hlex⟩ := hB
  have hnl : n < l.length := by simpa using hn
  have htl : (l.take n).length = n := by simp; omega
  have hdl : (l.drop n).length = l.toArray.size - n := by simp
  have inv : HeadInv .any l.toArray n (Array.replicate l.toArray.size false) :=
    ⟨by simp, (fun j oj _ q => by rw [getD_replicate_false] at q; cases q), fun t _ ht => getD_in (by simpa using ht) (getD_replicate_false _ _)⟩
  have H := headAny.lex (md := .any) (g := l.toArray.size - n) hsel hs hc hn (l.take n) 0 _ a (fun j hj => by
    have : j < n := by omega
    simp [this]) (by omega) inv (by rw [htl]; exact hlex) h
  refine wp_region_any hm ?_
  have R := headAny.any (Q := Q) (g := l.toArray.size - n) (fun done a' w' hw' q => by
    have s := wpAny_of_seq (md := .any) (Q' := Q) (l.drop n) n done a' w' (fun j => by simp [List.getElem?_drop]) (by rw [hdl]; exact q.1) (q.2 w' hw')
    rwa [hdl] at s) _ _ _ _ hC H
  rw [htl, show n + (l.toArray.size - n) = l.toArray.size by omega] at R
  exact R
end
section
variable {P : Program} {n : Nat} {Q : Exit → Act → World → Prop} {w0 : World} {L : Slots} {M : List Ent}
def TW (P : Program) (n : Nat) (ops : Array Oper) (Q : Exit → Act → World → Prop) (w0 : World) (tail : List Oper) (l : List Oper) (L : Slots) (M : List Ent) : Prop :=
  ∀ a, Fr n L a → wpQuiet P ops (fun w => Mem w0 w M) (fun a' => ∀ w', Mem w0 w' M → wpList P ops Q tail a' w') l a
theorem CW.drawsT {id : Nat} {l : List Oper} (k : Nat) (hm : P.follows .mixedOrders = true) (hB : Region.lexTailB .any l.toArray k = true) (h : TW P n l.toArray Q w0 (l.drop k) (l.take k) L M) : CW P n Q w0 (.region id l.toArray true) L M :=
  CW.intro fun a w f m => wp_region_quiet_tail (C := fun w => Mem w0 w M) k hm hB (m.like rfl rfl rfl rfl) (h a f)
variable {ops : Array Oper} {rest tail : List Oper} {op : Op} {ty : TypeId} {pos : String} {aft : Array Edge} {d : Nat} {v : Value}
theorem TW.nil (h : OW P n ops Q w0 tail L M) : TW P n ops Q w0 tail [] L M := fun a f => wpQuiet_nil fun w m => h.elim a w f m
theorem TW.rv (hop : RV P w0 L M op v) (hd : Nat.blt d n = true) (k : TW P n ops Q w0 tail rest ((d, v) :: L) M) : TW P n ops Q w0 tail (⟨some d, op, ty, pos, aft, none⟩ :: rest) L M := fun a f =>
  wpQuiet_step fun K hK => by
    simp only [Region.wanted, if_true]
    refine ⟨v, fun w m => ?_, hK _ (k _ (f.put hd v))⟩
    unfold Oper.quietAt
    rw [hop a.eval w (fun x u hx => f.eval hx) m _ rfl]
    exact ⟨rfl, rfl⟩
theorem TW.call {f : FuncId} {xs : List Operand} {ats : Array TypeId} {args : List Value} {τ : Type} {I : τ → Prop} {u : τ → Value} {M' : τ → List Ent} (v : Value) (hc : ∀ (args : Array Value) (w : World), (callFunc f args).run P w = .ok (.enter f args) w)
    (hxs : evs L xs = some args) (hdo : Does P f args w0 M I u M') (hu : ∀ x, I x → u x = v) (hM : ∀ x, I x → ∀ w, Mem w0 w (M' x) → Mem w0 w M) (hd : Nat.blt d n = true) (k : TW P n ops Q w0 tail rest ((d, v) :: L) M) :
    TW P n ops Q w0 tail (⟨some d, .call ⟨.value (.func f), xs.toArray, ats⟩, ty, pos, aft, none⟩ :: rest) L M := fun a fr =>
  wpQuiet_step fun K hK => by
    simp only [Region.wanted, if_true]
    refine ⟨v, fun w m => ?_, hK _ (k _ (fr.put hd v))⟩
    have hev := evs_map (fun x u hx => fr.eval hx) xs args hxs
    have hrun : (execOp a.eval ⟨some d, .call ⟨.value (.func f), xs.toArray, ats⟩, ty, pos, aft, none⟩).run P w = .ok (.enter f args.toArray) w := by
      simp [execOp, resolve, Deferred.ofValue, Act.eval, invoke, hev, hc]
    unfold Oper.quietAt
    rw [hrun]
    refine ⟨rfl, (hdo w m).mono ?_⟩
    rintro e w' ⟨x, hI, rfl, m'⟩
    exact ⟨by rw [hu x hI], hM x hI w' m'⟩
theorem TW.want {dst : Option Nat} {j : Nat} {b : Bool} (hy : yl ops L j = some (.bool b)) (h : TW P n ops Q w0 tail (⟨dst, op, ty, pos, aft, none⟩ :: rest) L M) : TW P n ops Q w0 tail (⟨dst, op, ty, pos, aft, some (j, b)⟩ :: rest) L M := fun a f => by
  have h' := h a f
  have hw : Region.wanted ⟨dst, op, ty, pos, aft, some (j, b)⟩ (yielded ops a.tmps) = true := by simp [Region.wanted, yielded_of f hy]
  unfold wpQuiet at h' ⊢
  rw [if_pos (by simp [Region.wanted])] at h'
  rw [if_pos hw]
  exact h'
theorem TW.skip {j : Nat} {b : Bool} {y : Value} (hy : yl ops L j = some y) (hne : (match y with | .bool c => c == b | _ => false) = false) (hd : Nat.blt d n = true) (h : TW P n ops Q w0 tail rest ((d, undef) :: L) M) :
    TW P n ops Q w0 tail (⟨some d, op, ty, pos, aft, some (j, b)⟩ :: rest) L M := fun a f => by
  have hw : Region.wanted ⟨some d, op, ty, pos, aft, some (j, b)⟩ (yielded ops a.tmps) = false := by
    simp only [Region.wanted, yielded_of f hy]
    cases y <;> simp_all
  unfold wpQuiet
  rw [if_neg (by simp [hw])]
  exact h _ (f.put hd undef)
attribute [irreducible] TW
end
end Go.Fw

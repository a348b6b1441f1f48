/- Part of a proof over Ytgdohhccpghofaa: rules and contracts that the law's text uses. No condition. -/
import Derived.Test.YtgdohhccpghofaaFw14
namespace Go.Fw
open Go Go.RowKit
set_option linter.unusedVariables false
set_option linter.unusedSectionVars false
/-! Contexts (what is known for good), slices that are only read, slices of one's own, answers told by a predicate. -/
abbrev Ctx := World → Prop
/-- More is known: these blocks too. -/
def More (w0 : World) (Φ : Ctx) (B : List Ent) : Ctx := fun w => Φ w ∧ Mem w0 w B
theorem Mem.appR {w0 w : World} {B M : List Ent} (m : Mem w0 w (B ++ M)) : Mem w0 w M := m.sublist (List.sublist_append_right _ _)
theorem Mem.appL {w0 w : World} {B M : List Ent} (m : Mem w0 w (B ++ M)) : Mem w0 w B := m.sublist (List.sublist_append_left _ _)
theorem Mem.drop {w0 w : World} {M : List Ent} (m : Mem w0 w M) (k : Nat) : Mem w0 w (M.drop k) := m.sublist (List.drop_sublist _ _)
theorem Mem.nil {w0 w : World} {M : List Ent} (m : Mem w0 w M) : Mem w0 w [] := m.sublist (List.nil_sublist _)
theorem Mem.assoc {w0 w : World} {A B M : List Ent} (m : Mem w0 w ((A ++ B) ++ M)) : Mem w0 w (A ++ (B ++ M)) := by rwa [List.append_assoc] at m
theorem Mem.join {w0 w : World} {A B M : List Ent} (m : Mem w0 w (A ++ (B ++ M))) : Mem w0 w ((A ++ B) ++ M) := by rwa [List.append_assoc]
/-- New blocks behind the first k entries. -/
theorem Mem.sink {w0 w : World} {A N B M0 : List Ent} (m : Mem w0 w (A ++ N)) (k : Nat) (hN : N.drop k = B ++ M0) : Mem w0 w (N.take k ++ ((A ++ B) ++ M0)) := by
  have e : N = N.take k ++ N.drop k := (List.take_append_drop k N).symm
  rw [e, hN] at m
  refine m.perm ?_
  have h1 := (List.perm_append_comm (l₁ := A) (l₂ := N.take k)).append_right (B ++ M0)
  simpa only [List.append_assoc] using h1
def pickL (M : List Ent) : List Nat → List Ent
  | [] => []
  | i :: r => match M[i]? with
    | some e => e :: pickL M r
    | none => pickL M r
theorem pickL_mem {M : List Ent} : ∀ {is : List Nat} {e : Ent}, e ∈ pickL M is → ∃ i ∈ is, M[i]? = some e
  | i :: r, e, h => by
    unfold pickL at h
    split at h
    · rename_i e' he
      rcases List.mem_cons.1 h with rfl | h
      · exact ⟨i, List.mem_cons_self .., he⟩
      · obtain ⟨j, hj, h2⟩ := pickL_mem h
        exact ⟨j, List.mem_cons_of_mem _ hj, h2⟩
    · obtain ⟨j, hj, h2⟩ := pickL_mem h
      exact ⟨j, List.mem_cons_of_mem _ hj, h2⟩
def pickOk (k : Nat) : List Nat → Bool
  | [] => true
  | i :: r => Nat.blt i k && !r.contains i && pickOk k r
theorem Mem.pick {w0 w : World} {M M' : List Ent} (m : Mem w0 w M) (is : List Nat) (k : Nat) (h : pickOk k is = true) (e : pickL M is ++ M.drop k = M') : Mem w0 w M' := by
  subst e
  have key : ∀ (is : List Nat), pickOk k is = true → (pickL M is ++ M.drop k).Pairwise (fun (e e' : Ent) => ∀ b, e.1 = some b → e'.1 ≠ some b) := by
    intro is
    have hap := m.apart
    have hij : ∀ (i j : Nat) (e e' : Ent), i ≠ j → M[i]? = some e → M[j]? = some e' → ∀ b, e.1 = some b → e'.1 ≠ some b := by
      intro i j e e' hne hi hj b hb hb'
      rw [List.pairwise_iff_getElem] at hap
      obtain ⟨h1, h2⟩ := List.getElem?_eq_some_iff.1 hi
      obtain ⟨h3, h4⟩ := List.getElem?_eq_some_iff.1 hj
      rcases Nat.lt_or_gt_of_ne hne with h | h
      · exact hap i j h1 h3 h b (by rw [h2]; exact hb) (by rw [h4]; exact hb')
      · exact hap j i h3 h1 h b (by rw [h4]; exact hb') (by rw [h2]; exact hb)
    induction is with
    | nil => intro _; simpa [pickL] using hap.sublist (List.drop_sublist _ _)
    | cons i r ih =>
      intro h
      simp only [pickOk, Bool.and_eq_true, Nat.blt_eq, Bool.not_eq_true', List.contains_eq_mem, decide_eq_false_iff_not] at h
      obtain ⟨⟨h1, h2⟩, h3⟩ := h
      have := ih h3
      unfold pickL
      split
      · rename_i e he
        rw [List.cons_append, List.pairwise_cons]
        refine ⟨fun e' he' b hb hb' => ?_, this⟩
        rcases List.mem_append.1 he' with he' | he'
        · obtain ⟨j, hj, hje⟩ := pickL_mem he'
          exact hij i j e e' (fun q => h2 (q ▸ hj)) he hje b hb hb'
        · obtain ⟨j, hj⟩ := List.getElem?_of_mem he'
          rw [List.getElem?_drop] at hj
          exact hij i (k + j) e e' (by omega) he hj b hb hb'
      · exact this
  refine ⟨m.os, m.tape, m.output, m.size, m.old, fun e he b hb => ?_, key is h⟩
  rcases List.mem_append.1 he with he | he
  · obtain ⟨i, _, hi⟩ := pickL_mem he
    exact m.ents e (List.mem_of_getElem? hi) b hb
  · exact m.ents e (List.mem_of_mem_drop he) b hb

theorem More.of {w0 : World} {Φ : Ctx} {B M0 N : List Ent} (hΦ : ∀ w, Mem w0 w M0 → Φ w) (k : Nat) {w : World} (m : Mem w0 w N) (hN : N.drop k = B ++ M0) : More w0 Φ B w := by
  have := m.drop k
  rw [hN] at this
  exact ⟨hΦ w this.appR, this.appL⟩
theorem More.app {w0 : World} {Φ : Ctx} {A B : List Ent} {w : World} (m : More w0 Φ (A ++ B) w) : More w0 Φ B w := ⟨m.1, m.2.appR⟩
theorem More.mono {w0 : World} {Φ : Ctx} {A B : List Ent} (h : ∀ w, Mem w0 w A → Mem w0 w B) {w : World} (m : More w0 Φ A w) : More w0 Φ B w := ⟨m.1, h w m.2⟩
theorem More.nil {w0 : World} {Φ : Ctx} {w : World} (m : More w0 Φ [] w) : Φ w := m.1

/-- A slice that is only read. -/
structure View (Φ : Ctx) (A : Option Addr) (len c s : Nat) (cells : List Value) : Prop where
  rd : ∀ w, Φ w → Rd w A cells
  so : cells ≠ [] → A.isSome = true
  n : cells.length = len * s
  le : len ≤ c
  mx : len ≤ 140737488355328
theorem View.mono {Φ Ψ : Ctx} {A : Option Addr} {len c s : Nat} {cells : List Value} (h : View Φ A len c s cells) (hh : ∀ w, Ψ w → Φ w) : View Ψ A len c s cells := ⟨fun w q => h.rd w (hh w q), h.so, h.n, h.le, h.mx⟩
theorem View.nil {Φ : Ctx} {A : Option Addr} {c s : Nat} : View Φ A 0 c s [] := ⟨fun w _ => Rd.nil _ _, fun h => absurd rfl h, by simp, Nat.zero_le _, by omega⟩
theorem View.hi {Φ : Ctx} {A : Option Addr} {len c s : Nat} {cells : List Value} (h : View Φ A len c s cells) {k : Nat} (hk : k ≤ len) : View Φ A k c s (cells.take (k * s)) :=
  ⟨fun w q => (h.rd w q).take _, fun hn => h.so (fun e => hn (by simp [e])), by rw [List.length_take, h.n]; exact Nat.min_eq_left (Nat.mul_le_mul_right _ hk), Nat.le_trans hk h.le, Nat.le_trans hk h.mx⟩
theorem View.lo {Φ : Ctx} {A : Option Addr} {len c s : Nat} {cells : List Value} (h : View Φ A len c s cells) {k : Nat} (hk : k ≤ len) : View Φ (subA A c k s) (len - k) (c - k) s (cells.drop (k * s)) := by
  have hl : cells.length ≤ c * s := by rw [h.n]; exact Nat.mul_le_mul_right _ h.le
  refine ⟨fun w q => (h.rd w q).sub hl, fun hn => ?_, by rw [List.length_drop, h.n, Nat.sub_mul], by have := h.le; omega, by have := h.mx; omega⟩
  have hA := h.so (fun e => hn (by simp [e]))
  unfold subA
  split
  · exact hA
  · simpa using hA
theorem View.isSome {Φ : Ctx} {A : Option Addr} {len c s : Nat} {cells : List Value} (h : View Φ A len c s cells) (hs : 0 < s) {i : Nat} (hi : i < len) : A.isSome = true := h.so (fun e => by
  have h1 := h.n
  rw [e] at h1
  have h2 : 0 < len * s := Nat.mul_pos (by omega) hs
  simp at h1
  omega)
theorem View.zero {Φ : Ctx} {A : Option Addr} {len c s : Nat} {cells : List Value} (h : View Φ A len c s cells) (hs : 0 < s) : A = none → len = 0 := fun e => by
  cases hc : cells with
  | nil => exact Nat.eq_zero_of_not_pos (fun hp => by have h1 := h.n; have h2 : 0 < len * s := Nat.mul_pos hp hs; rw [hc] at h1; simp at h1; omega)
  | cons x r => have := h.so (by simp [hc]); simp [e] at this
theorem View.cell {Φ : Ctx} {A : Option Addr} {len c s : Nat} {cells : List Value} (h : View Φ A len c s cells) {w : World} (q : Φ w) {j : Nat} {u : Value} (hj : cells[j]? = some u) : w.cell? ((A.getD default).add j) = some u := (h.rd w q).cell hj

/-- A slice of one's own, from its block's begin. -/
structure OwnS (ob : Option Nat) (len cap s : Nat) (cells r : List Value) : Prop where
  n : cells.length = len * s
  hr : (cells ++ r).length = cap * s
  hn : ob = none → cap = 0
  mx : len ≤ 140737488355328
theorem OwnS.nil {s : Nat} : OwnS none 0 0 s [] [] := ⟨by simp, by simp, fun _ => rfl, by omega⟩
theorem OwnS.le {ob : Option Nat} {len cap s : Nat} {cells r : List Value} (h : OwnS ob len cap s cells r) (hs : 0 < s) : len ≤ cap := by
  have h1 := h.n
  have h2 := h.hr
  rw [List.length_append, h1] at h2
  exact Nat.le_of_mul_le_mul_right (by omega) hs
theorem OwnS.so {ob : Option Nat} {len cap s : Nat} {cells r : List Value} (h : OwnS ob len cap s cells r) (hs : 0 < s) (hne : cells ≠ []) : ob.isSome = true := by
  cases ob with
  | some _ => rfl
  | none =>
    have h1 := h.hn rfl
    have h2 := h.hr
    rw [h1] at h2
    simp at h2
    exact absurd h2.1 hne
/-- From now on only read. -/
theorem OwnS.view {w0 : World} {ob : Option Nat} {len cap s : Nat} {cells r : List Value} {te : TypeId} (h : OwnS ob len cap s cells r) (hs : 0 < s) {Ψ : Ctx} (hΨ : ∀ w, Ψ w → Mem w0 w [(ob, blk (cells ++ r) te)]) : View Ψ (ob.map fun k => ⟨k, 0, none⟩) len cap s cells :=
  ⟨fun w q => (hΨ w q).rd0 (List.mem_cons_self ..) (fun e => by
    cases hc : cells with
    | nil => rfl
    | cons x r => have := h.so hs (by simp [hc]); simp [e] at this), fun hne => by have := h.so hs hne; cases ob <;> simp_all, h.n, h.le hs, h.mx⟩

section
variable {P : Program} {n : Nat} {Q : Exit → Act → World → Prop} {w0 : World} {L : Slots} {M : List Ent} {x y : Code} {c : Code}

/-! ### Joins -/
def Joined (n : Nat) (w0 : World) (J : Slots → List Ent → Prop) (a : Act) (w : World) : Prop := ∃ L' M', J L' M' ∧ Fr n L' a ∧ Mem w0 w M'
theorem CW.seqJ (J : Slots → List Ent → Prop) (hy : ∀ L M, J L M → CW P n Q w0 y L M) (hx : CW P n (Exit.then (Joined n w0 J) Q) w0 x L M) : CW P n Q w0 (.seq x y) L M := by
  refine CW.seq (CW.intro fun a w f m => wp_mono (hx.elim a w f m) ?_)
  intro e a w h
  cases e <;> first
    | exact h
    | (obtain ⟨L', M', h1, h2, h3⟩ := h; exact (hy L' M' h1).elim a w h2 h3)
theorem QW.join {J : Slots → List Ent → Prop} {L' : Slots} {M' : List Ent} (h : J L' M') (hL : Sub L L') (hM : ∀ w, Mem w0 w M → Mem w0 w M') : QW n (Exit.then (Joined n w0 J) Q) w0 .normal L M := QW.intro fun a w f m => ⟨L', M', h, f.weaken hL, hM w m⟩
def AgainJ (n : Nat) (w0 : World) (J : Nat → Slots → List Ent → Prop) (k : Nat) (a : Act) (w : World) : Prop := ∃ k' L' M', k' < k ∧ J k' L' M' ∧ Fr n L' a ∧ Mem w0 w M'
theorem CW.loopJ (J : Nat → Slots → List Ent → Prop) {k0 : Nat} {L0 : Slots} {M0 : List Ent} (h0 : J k0 L0 M0) (hL : Sub L L0) (hM : ∀ w, Mem w0 w M → Mem w0 w M0)
    (round : ∀ k L M, J k L M → CW P n (Exit.then (AgainJ n w0 J k) Q) w0 c L M) : CW P n Q w0 (.loop c) L M := by
  refine CW.loop (σ := Nat × Slots × List Ent) (fun s => J s.1 s.2.1 s.2.2) (fun s => s.2.1) (fun s => s.2.2) (fun s => s.1) (k0, L0, M0) h0 hL hM ?_
  rintro ⟨k, L, M⟩ hJ
  refine CW.intro fun a w f m => wp_mono ((round k L M hJ).elim a w f m) ?_
  intro e a w h
  cases e <;> first
    | exact h
    | (obtain ⟨k', L', M', h0, h1, h2, h3⟩ := h; exact ⟨(k', L', M'), h1, h0, h2, h3⟩)
theorem QW.againJ {J : Nat → Slots → List Ent → Prop} {k k' : Nat} {L' : Slots} {M' : List Ent} (hk : k' < k) (h : J k' L' M') (hL : Sub L L') (hM : ∀ w, Mem w0 w M → Mem w0 w M') : QW n (Exit.then (AgainJ n w0 J k) Q) w0 .normal L M := QW.intro fun a w f m => ⟨k', L', M', hk, h, f.weaken hL, hM w m⟩
theorem CW.cond_is {z : Operand} {p : Bool} (b : Bool) (hc : ev L z = some (.bool p)) (hb : p = b) (h : CW P n Q w0 (if b then x else y) L M) : CW P n Q w0 (.cond z x y) L M := by
  subst hb
  refine CW.cond hc (fun e => ?_) (fun e => ?_)
  · subst e; exact h
  · subst e; exact h
theorem CW.is_t {z : Operand} {p : Bool} (hc : ev L z = some (.bool p)) (hb : p = true) (h : CW P n Q w0 x L M) : CW P n Q w0 (.cond z x y) L M := CW.cond_is true hc hb h
theorem CW.is_f {z : Operand} {p : Bool} (hc : ev L z = some (.bool p)) (hb : p = false) (h : CW P n Q w0 y L M) : CW P n Q w0 (.cond z x y) L M := CW.cond_is false hc hb h

/-! ### Answers told by a predicate -/
def DoesJ (P : Program) (f : FuncId) (args : List Value) (w0 : World) (M : List Ent) (R : Value → List Ent → Prop) : Prop :=
  Does P f args w0 M (τ := Value × List Ent) (fun q => R q.1 q.2) (fun q => q.1) (fun q => q.2)
theorem Does.toJ {f : FuncId} {args : List Value} {τ : Type} {I : τ → Prop} {v : τ → Value} {M' : τ → List Ent} (h : Does P f args w0 M I v M') : DoesJ P f args w0 M (fun u N => ∃ q, I q ∧ u = v q ∧ N = M' q) := fun w m =>
  (h w m).mono fun e w' ⟨q, h1, h2, h3⟩ => ⟨(v q, M' q), ⟨q, h1, rfl, rfl⟩, h2, h3⟩
theorem DoesJ.mono {f : FuncId} {args : List Value} {R R' : Value → List Ent → Prop} (h : DoesJ P f args w0 M R) (hh : ∀ v N, R v N → R' v N) : DoesJ P f args w0 M R' := fun w m =>
  (h w m).mono fun e w' ⟨q, h1, h2, h3⟩ => ⟨q, hh _ _ h1, h2, h3⟩
theorem DoesJ.of_mem {f : FuncId} {args : List Value} {R : Value → List Ent → Prop} (h : ∀ w, Mem w0 w M → DoesJ P f args w0 M R) : DoesJ P f args w0 M R := fun w m => h w m w m
/-- An answer that is known, memory as it was. -/
theorem DoesJ.to {f : FuncId} {args : List Value} {R : Value → List Ent → Prop} (h : DoesJ P f args w0 M R) (v : Value) (hh : ∀ u N, R u N → u = v ∧ ∀ w, Mem w0 w N → Mem w0 w M) : Does P f args w0 M (τ := Unit) (fun _ => True) (fun _ => v) (fun _ => M) := fun w m =>
  (h w m).mono fun e w' ⟨q, h1, h2, h3⟩ => ⟨(), trivial, h2.trans (congrArg Ending.returned (hh _ _ h1).1), (hh _ _ h1).2 _ h3⟩
theorem DoesJ.law {f : FuncId} {args : List Value} {W : World} {R : Value → List Ent → Prop} (h : DoesJ P f args W [] R) (hR : ∀ v N, R v N → v = .bool true) : Calls P f args.toArray W fun e W' => e = .returned (.bool true) ∧ Below W.heap.size W W' :=
  (h W (Mem.refl W)).mono fun e W' ⟨q, h1, h2, m⟩ => ⟨h2.trans (congrArg Ending.returned (hR _ _ h1)), m.below⟩
abbrev EndsJ (w0 : World) (R : Value → List Ent → Prop) : Ending → World → Prop := Ends w0 (τ := Value × List Ent) (fun q => R q.1 q.2) (fun q => q.1) (fun q => q.2)
theorem DoesJ.enter {f : FuncId} {fn : Func} {c : Code} {args : List Value} {R : Value → List Ent → Prop} (hf : P.funcs[f]? = some fn) (hb : fn.body = some c) (hn : fn.ntmps = n) (ha : Nat.ble args.length n = true)
    (h : CW P n (bodyPost P fn (EndsJ w0 R)) w0 c (slotsFrom 0 args) M) : DoesJ P f args w0 M R := Does.enter hf hb hn ha h
theorem QW.ret1J {fn : Func} {t : Tmp} {R : Value → List Ent → Prop} {v : Value} {M' : List Ent} (hr : fn.results = #[.tmp t]) (hv : lk L t = some v) (hI : R v M') (hM : ∀ w, Mem w0 w M → Mem w0 w M') :
    QW n (bodyPost P fn (EndsJ w0 R)) w0 .ret L M := QW.ret1 hr (v, M') hI hv hM
theorem QW.ret2J {fn : Func} {t u : Tmp} {R : Value → List Ent → Prop} {v1 v2 : Value} {M' : List Ent} (hr : fn.results = #[.tmp t, .tmp u]) (h1 : lk L t = some v1) (h2 : lk L u = some v2) (hI : R (.tuple #[v1, v2]) M') (hM : ∀ w, Mem w0 w M → Mem w0 w M') :
    QW n (bodyPost P fn (EndsJ w0 R)) w0 .ret L M := QW.ret2 hr (_, M') hI h1 h2 rfl hM
theorem QW.ret0J {fn : Func} {R : Value → List Ent → Prop} {M' : List Ent} (hr : fn.results = #[]) (hI : R (.tuple #[]) M') (hM : ∀ w, Mem w0 w M → Mem w0 w M') (e : Exit) (he : e = .ret ∨ e = .normal) :
    QW n (bodyPost P fn (EndsJ w0 R)) w0 e L M := QW.ret0 hr (_, M') hI rfl hM e he
end
end Go.Fw

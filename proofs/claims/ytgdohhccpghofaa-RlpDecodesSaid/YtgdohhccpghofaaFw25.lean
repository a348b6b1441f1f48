/- Part of a proof over Ytgdohhccpghofaa: rules and contracts that the law's text uses. No condition. -/
import Derived.Test.YtgdohhccpghofaaFwC
import Derived.Scope
namespace Go.Fw
open Go
set_option linter.unusedVariables false
/-! A scope with several labels: what holds at each label ('J label measure slots blocks'). -/
def JumpJ (n : Nat) (w0 : World) (J : Nat → Nat → Slots → List Ent → Prop) (m : Nat) (Q : Exit → Act → World → Prop) : Exit → Act → World → Prop
  | .goto l, a, w => ∃ k L M, k < m ∧ J l k L M ∧ Fr n L a ∧ Mem w0 w M
  | e, a, w => Q e a w
section
variable {P : Program} {a : Act} {w : World} {Q : Exit → Act → World → Prop}
theorem wp_scope_many {c : Code} (R : Nat → Nat → Act → World → Prop) {m : Nat}
    (first : c.wp P (fun e a w => match e with | .goto l => ∃ k, k < m ∧ R l k a w | e => Q e a w) a w)
    (pass : ∀ l k a w, R l k a w → ∃ rest, findLabel c l = some rest ∧ rest.wp P (fun e a w => match e with | .goto l' => ∃ k', k' < k ∧ R l' k' a w | e => Q e a w) a w) : (Code.scope c).wp P Q a w := by
  intro b k cs
  have key : ∀ n l a w, R l n a w → ∃ rest, findLabel c l = some rest ∧ ∃ e a' w', Q e a' w' ∧ Arrives P (lone (b.at a (.code rest :: .inScope c :: k)) cs w) b k cs e a' w' := by
    intro n
    induction n using Nat.strongRecOn with
    | _ n ih =>
      intro l a w hJ
      obtain ⟨rest, hf, hw⟩ := pass l n a w hJ
      refine ⟨rest, hf, ?_⟩
      obtain ⟨e, a₁, w₁, hq, harr⟩ := hw b (.inScope c :: k) cs
      cases e with
      | normal => exact ⟨.normal, a₁, w₁, hq, Steps.trans harr (.one step_inScope)⟩
      | exit id => exact ⟨.exit id, a₁, w₁, hq, fun k' hk => harr k' (by simp [exitTo, hk])⟩
      | goto l' =>
        obtain ⟨k', hlt, hJ'⟩ := hq
        obtain ⟨rest', hf', e₂, a₂, w₂, hq₂, harr₂⟩ := ih k' hlt l' a₁ w₁ hJ'
        exact ⟨e₂, a₂, w₂, hq₂, .of_steps (harr _ (by simp [gotoIn, hf'])) harr₂⟩
      | ret => exact ⟨_, a₁, w₁, hq, harr⟩
      | panic ch => exact ⟨_, a₁, w₁, hq, harr⟩
      | outgrown => exact ⟨_, a₁, w₁, hq, harr⟩
  obtain ⟨e, a₁, w₁, hq, harr⟩ := first b (.inScope c :: k) cs
  cases e with
  | normal => exact ⟨.normal, a₁, w₁, hq, .head step_scope (Steps.trans harr (.one step_inScope))⟩
  | exit id => exact ⟨.exit id, a₁, w₁, hq, fun k' hk => .head step_scope (harr k' (by simp [exitTo, hk]))⟩
  | goto l' =>
    obtain ⟨k', _, hJ'⟩ := hq
    obtain ⟨rest', hf', e₂, a₂, w₂, hq₂, harr₂⟩ := key k' l' a₁ w₁ hJ'
    exact ⟨e₂, a₂, w₂, hq₂, .of_steps (.head step_scope (harr _ (by simp [gotoIn, hf']))) harr₂⟩
  | ret => exact ⟨_, a₁, w₁, hq, .of_steps (.one step_scope) harr⟩
  | panic ch => exact ⟨_, a₁, w₁, hq, .of_steps (.one step_scope) harr⟩
  | outgrown => exact ⟨_, a₁, w₁, hq, .of_steps (.one step_scope) harr⟩
end
section
variable {P : Program} {n : Nat} {Q : Exit → Act → World → Prop} {w0 : World} {L : Slots} {M : List Ent}
theorem CW.scopeJ {c : Code} (J : Nat → Nat → Slots → List Ent → Prop) (m : Nat)
    (first : CW P n (JumpJ n w0 J m Q) w0 c L M)
    (pass : ∀ l k L M, J l k L M → ∃ rest, findLabel c l = some rest ∧ CW P n (JumpJ n w0 J k Q) w0 rest L M) : CW P n Q w0 (.scope c) L M := CW.intro fun a w f mm => by
  refine wp_scope_many (fun l k a w => ∃ L M, J l k L M ∧ Fr n L a ∧ Mem w0 w M) (m := m) ?_ ?_
  · refine wp_mono (first.elim a w f mm) ?_
    intro e a w h
    cases e <;> first
      | exact h
      | (obtain ⟨k, L, M, h1, h2, h3, h4⟩ := h; exact ⟨k, h1, L, M, h2, h3, h4⟩)
  · rintro l k a w ⟨L, M, h1, h2, h3⟩
    obtain ⟨rest, e, h⟩ := pass l k L M h1
    refine ⟨rest, e, wp_mono (h.elim a w h2 h3) ?_⟩
    intro e a w h
    cases e <;> first
      | exact h
      | (obtain ⟨k, L, M, h1, h2, h3, h4⟩ := h; exact ⟨k, h1, L, M, h2, h3, h4⟩)
theorem CW.goto {l : Nat} (h : QW n Q w0 (.goto l) L M) : CW P n Q w0 (.goto l) L M := CW.intro fun a w f m => wp_goto (h.elim a w f m)
theorem CW.label {l : Nat} (h : QW n Q w0 .normal L M) : CW P n Q w0 (.label l) L M := CW.intro fun a w f m => wp_label (h.elim a w f m)
theorem QW.jump {J : Nat → Nat → Slots → List Ent → Prop} {m k l : Nat} {L' : Slots} {M' : List Ent} (hk : k < m) (h : J l k L' M') (hL : Sub L L') (hM : ∀ w, Mem w0 w M → Mem w0 w M') : QW n (JumpJ n w0 J m Q) w0 (.goto l) L M := QW.intro fun a w f mm => ⟨k, L', M', hk, h, f.weaken hL, hM w mm⟩
theorem QW.jump_n {J : Nat → Nat → Slots → List Ent → Prop} {m : Nat} (h : QW n Q w0 .normal L M) : QW n (JumpJ n w0 J m Q) w0 .normal L M := QW.intro fun a w f mm => h.elim a w f mm
theorem QW.jump_r {J : Nat → Nat → Slots → List Ent → Prop} {m : Nat} (h : QW n Q w0 .ret L M) : QW n (JumpJ n w0 J m Q) w0 .ret L M := QW.intro fun a w f mm => h.elim a w f mm
theorem QW.jump_x {J : Nat → Nat → Slots → List Ent → Prop} {m id : Nat} (h : QW n Q w0 (.exit id) L M) : QW n (JumpJ n w0 J m Q) w0 (.exit id) L M := QW.intro fun a w f mm => h.elim a w f mm
theorem QW.block_g {id l : Nat} (h : QW n Q w0 (.goto l) L M) : QW n (Exit.inBlock id Q) w0 (.goto l) L M := QW.intro fun a w f m => h.elim a w f m
end
end Go.Fw

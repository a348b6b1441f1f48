/- Part of a proof: rules that its law uses. -/
import Derived.Test.YtpkcehpoohmbfaaDoorRlpQs
import Derived.Test.YtpkcehpoohmbfaaDoorOpnIt
namespace Go.Fw
set_option linter.unusedVariables false
set_option linter.unusedSimpArgs false
set_option maxRecDepth 100000
mutual
def It.wt : It → Nat
  | .mk _ d its => d.length + its.length + 1 + Its.wt its
def Its.wt : List It → Nat
  | [] => 0
  | x :: xs => It.wt x + Its.wt xs
end
mutual
def It.lens : It → Prop
  | .mk _ d its => d.length ≤ 140737488355328 ∧ its.length ≤ 140737488355328 ∧ Its.lens its
def Its.lens : List It → Prop
  | [] => True
  | x :: xs => It.lens x ∧ Its.lens xs
end
theorem It.wt_eq (x : It) : x.wt = x.data.length + x.items.length + 1 + Its.wt x.items := by cases x; simp [It.wt, It.data, It.items]
theorem It.sz_eq (x : It) : x.sz = 1 + Its.sz x.items := by cases x; simp [It.sz, It.items]
theorem It.lens_eq (x : It) : x.lens ↔ x.data.length ≤ 140737488355328 ∧ x.items.length ≤ 140737488355328 ∧ Its.lens x.items := by cases x; simp [It.lens, It.data, It.items]
theorem Its.wt_app : ∀ (a b : List It), Its.wt (a ++ b) = Its.wt a + Its.wt b
  | [], b => by simp [Its.wt]
  | x :: a, b => by simp [Its.wt, Its.wt_app a b]; omega
theorem Its.lens_app : ∀ (a b : List It), Its.lens (a ++ b) ↔ Its.lens a ∧ Its.lens b
  | [], b => by simp [Its.lens]
  | x :: a, b => by simp [Its.lens, Its.lens_app a b, and_assoc]
theorem Its.lens_mem : ∀ {l : List It}, Its.lens l → ∀ x ∈ l, It.lens x
  | [], _, x, hx => by cases hx
  | y :: l, h, x, hx => by
    simp only [Its.lens] at h
    rcases List.mem_cons.1 hx with rfl | hx
    · exact h.1
    · exact Its.lens_mem h.2 x hx
theorem Its.lens_drop {l : List It} (h : Its.lens l) (i : Nat) : Its.lens (l.drop i) := by
  have := (Its.lens_app (l.take i) (l.drop i)).1 (by rwa [List.take_append_drop])
  exact this.2
theorem Its.wt_mem : ∀ {l : List It} {x : It}, x ∈ l → It.wt x ≤ Its.wt l
  | y :: l, x, hx => by
    simp only [Its.wt]
    rcases List.mem_cons.1 hx with rfl | hx
    · omega
    · have := Its.wt_mem hx; omega
theorem Its.sz_mem : ∀ {l : List It} {x : It}, x ∈ l → It.sz x ≤ Its.sz l
  | y :: l, x, hx => by
    simp only [Its.sz]
    rcases List.mem_cons.1 hx with rfl | hx
    · omega
    · have := Its.sz_mem hx; omega
theorem Its.wt_drop {l : List It} {i : Nat} (h : i < l.length) : Its.wt (l.drop i) = It.wt l[i] + Its.wt (l.drop (i + 1)) := by rw [drop_cons_at h, Its.wt]
mutual
theorem ItRd.lens {Φ : Ctx} : ∀ (x : It) (cs : List Value), ItRd Φ cs x → x.lens
  | .mk l d its, _, .mk h1 h2 h3 => by simp only [It.lens]; exact ⟨h1.mx, h2.mx, ItsRd.lens its _ h3⟩
theorem ItsRd.lens {Φ : Ctx} : ∀ (xs : List It) (cs : List Value), Reps (ItRd Φ) cs xs → Its.lens xs
  | [], _, .nil => by simp only [Its.lens]
  | x :: xs, _, .cons h hr => by simp only [Its.lens]; exact ⟨ItRd.lens x _ h, ItsRd.lens xs _ hr⟩
end
theorem beyond2 (l : List It) (hl : Its.lens l) : ∀ (d i k T : Nat) (nx : List It), i + d = l.length → d < k → T ≤ 2147483647 → nx.length ≤ T → Its.lens nx →
    ∃ q, waybillref07_Beyond.l2 k l T nx i = some q ∧ (∀ T' nx', q = .go (T', nx') → T' ≤ 2147483647 ∧ Its.lens nx' ∧ T' + Its.wt nx' = T + Its.wt (l.drop i) + Its.wt nx) ∧ (∀ o, q = .ret o → o = some (.ret (some true)))
  | 0, i, k, T, nx, h, hk, hT, hn, hx => by
    obtain ⟨k, rfl⟩ : ∃ m, k = m + 1 := ⟨k - 1, by omega⟩
    refine ⟨.go (T, nx), by rw [waybillref07_Beyond.l2, if_neg (by omega)], fun T' nx' e => ?_, fun o e => by cases e⟩
    cases e
    rw [List.drop_of_length_le (by omega)]
    exact ⟨hT, hx, by simp [Its.wt]⟩
  | d + 1, i, k, T, nx, h, hk, hT, hn, hx => by
    obtain ⟨k, rfl⟩ : ∃ m, k = m + 1 := ⟨k - 1, by omega⟩
    have h1 : i < l.length := by omega
    have hli := (It.lens_eq _).1 (Its.lens_mem hl l[i] (List.getElem_mem h1))
    have hw := It.wt_eq l[i]
    rw [waybillref07_Beyond.l2, if_pos h1, List.getElem?_eq_getElem h1, Option.bind_some, if_pos (by omega), Option.bind_some, if_pos (by omega), if_pos (by omega), Option.bind_some]
    by_cases hb : 2147483647 < T + (l[i]).data.length + (l[i]).items.length + 1
    · rw [if_pos hb]
      exact ⟨_, rfl, (fun T' nx' e => by cases e), (fun o e => by cases e; rfl)⟩
    · rw [if_neg hb, if_pos (by omega)]
      obtain ⟨q, e1, e2, e3⟩ := beyond2 l hl d (i + 1) k (T + (l[i]).data.length + (l[i]).items.length + 1) (nx ++ (l[i]).items) (by omega) (by omega) (by omega) (by rw [List.length_append]; omega) ((Its.lens_app _ _).2 ⟨hx, hli.2.2⟩)
      refine ⟨q, e1, fun T' nx' e => ?_, e3⟩
      obtain ⟨a, b, c⟩ := e2 T' nx' e
      refine ⟨a, b, ?_⟩
      rw [c, Its.wt_drop h1, Its.wt_app, hw]
      omega
theorem beyond1 : ∀ (d dep k T : Nat) (l : List It), dep + d = 65538 → d < k → T ≤ 2147483647 → Its.lens l →
    ∃ q, waybillref07_Beyond.l1 k l T dep = some q ∧ (q = .go () → T + Its.wt l ≤ 2147483647) ∧ (∀ o, q = .ret o → o = some true)
  | 0, dep, k, T, l, h, hk, hT, hl => by
    obtain ⟨k, rfl⟩ : ∃ m, k = m + 1 := ⟨k - 1, by omega⟩
    rw [waybillref07_Beyond.l1]
    by_cases h0 : 0 < l.length
    · rw [if_pos h0, if_pos (by omega)]
      exact ⟨_, rfl, (fun e => by cases e), (fun o e => by cases e; rfl)⟩
    · rw [if_neg h0]
      have : l = [] := List.length_eq_zero_iff.1 (by omega)
      subst this
      exact ⟨_, rfl, (fun _ => by simp [Its.wt]; omega), (fun o e => by cases e)⟩
  | d + 1, dep, k, T, l, h, hk, hT, hl => by
    obtain ⟨k, rfl⟩ : ∃ m, k = m + 1 := ⟨k - 1, by omega⟩
    rw [waybillref07_Beyond.l1]
    by_cases h0 : 0 < l.length
    · rw [if_pos h0]
      by_cases h1 : 65536 < dep
      · rw [if_pos h1]
        exact ⟨_, rfl, (fun e => by cases e), (fun o e => by cases e; rfl)⟩
      · rw [if_neg h1]
        obtain ⟨q, e1, e2, e3⟩ := beyond2 l hl l.length 0 (l.length - 0 + 2) T [] (by omega) (by omega) hT (by simp) (by simp [Its.lens])
        rw [e1, Option.bind_some]
        cases q with
        | ret o =>
          have := e3 o rfl
          subst this
          exact ⟨_, rfl, (fun e => by cases e), (fun o e => by cases e; rfl)⟩
        | go s =>
          obtain ⟨T', nx⟩ := s
          obtain ⟨a, b, c⟩ := e2 T' nx rfl
          obtain ⟨q, f1, f2, f3⟩ := beyond1 d (dep + 1) k T' nx (by omega) (by omega) a b
          refine ⟨q, f1, fun e => ?_, f3⟩
          have := f2 e
          rw [List.drop_zero] at c
          simp only [Its.wt] at c
          omega
    · rw [if_neg h0]
      have : l = [] := List.length_eq_zero_iff.1 (by omega)
      subst this
      exact ⟨_, rfl, (fun _ => by simp [Its.wt]; omega), (fun o e => by cases e)⟩
theorem beyond_ok (x : It) (hx : x.lens) : ∃ b, waybillref07_Beyond x = some b ∧ (b = false → x.wt ≤ 2147483647) := by
  obtain ⟨q, e1, e2, e3⟩ := beyond1 65538 0 65540 0 [x] (by omega) (by omega) (by omega) (by simp [Its.lens, hx])
  unfold waybillref07_Beyond
  rw [e1, Option.bind_some]
  cases q with
  | ret o =>
    have := e3 o rfl
    subst this
    exact ⟨true, rfl, fun e => by cases e⟩
  | go s =>
    refine ⟨false, rfl, fun _ => ?_⟩
    have := e2 rfl
    simp only [Its.wt] at this
    omega
end Go.Fw

/- Part of a proof over Ytgdohhccpghofaa: rules and contracts that the law's text uses. No condition. -/
import Derived.Test.YtgdohhccpghofaaFw28
namespace Go.Fw
open Go
set_option linter.unusedVariables false
/-! Decode's stack: open lists, the innermost first; each has a block of its own. -/
theorem CW.sub {P : Program} {n : Nat} {Q : Exit → Act → World → Prop} {w0 : World} {L : Slots} {M : List Ent} {L' : Slots} {c : Code} (hL : Sub L L') (h : CW P n Q w0 c L' M) : CW P n Q w0 c L M := CW.intro fun a w f m => h.elim a w (f.weaken hL) m
def scopeOf (o : Option Code) : Code := match o with
  | some (.seq _ (.scope c)) => c
  | _ => .skip
def afterL (c : Code) (l : Nat) : Code := match findLabel c l with
  | some (.seq _ y) => y
  | _ => .skip
structure Frm where
  ob : Option Nat
  c : Nat
  cells : List Value
  r : List Value
  A : Option Addr
  cb : Nat
  items : List It
  behind : List (BitVec 8)
def Frm.ent (te : TypeId) (f : Frm) : Ent := (f.ob, blk (f.cells ++ f.r) te)
def Frm.cs (f : Frm) : List Value := [sl f.ob 0 f.items.length f.c, .slice f.A f.behind.length f.cb]
def Frm.pure (f : Frm) : List It × List (BitVec 8) := (f.items, f.behind)
structure Frm.Ok (Φ : Ctx) (f : Frm) : Prop where
  o : OwnS f.ob f.items.length f.c 3 f.cells f.r
  h : Reps (ItRd Φ) f.cells f.items
  v : View Φ f.A f.behind.length f.cb 1 (u8s f.behind)
theorem Frm.Ok.mono {Φ Ψ : Ctx} (hh : ∀ w, Ψ w → Φ w) {f : Frm} (h : f.Ok Φ) : f.Ok Ψ := ⟨h.o, h.h.mono (ItRd.mono hh), h.v.mono hh⟩
def stC : List Frm → List Value
  | [] => []
  | f :: F => stC F ++ f.cs
theorem stC_len : ∀ F : List Frm, (stC F).length = F.length * 2
  | [] => rfl
  | f :: F => by rw [stC, List.length_append, stC_len F, List.length_cons, Frm.cs]; simp; omega
theorem stC_pop (F : List Frm) (f : Frm) (r : List Value) : stC (f :: F) ++ r = stC F ++ (f.cs ++ r) := by rw [stC, List.append_assoc]
theorem stC_at0 (F : List Frm) (f : Frm) (r : List Value) : (stC (f :: F) ++ r)[0 + F.length * 2 + 0]? = some (sl f.ob 0 f.items.length f.c) := by
  rw [stC_pop, List.getElem?_append_right (by rw [stC_len]; omega), stC_len, show 0 + F.length * 2 + 0 - F.length * 2 = 0 by omega]; rfl
theorem stC_at1 (F : List Frm) (f : Frm) (r : List Value) : (stC (f :: F) ++ r)[0 + F.length * 2 + 1]? = some (.slice f.A f.behind.length f.cb) := by
  rw [stC_pop, List.getElem?_append_right (by rw [stC_len]; omega), stC_len, show 0 + F.length * 2 + 1 - F.length * 2 = 1 by omega]; rfl
theorem stC_set0 (F : List Frm) (f g : Frm) (r : List Value) (hA : g.A = f.A) (hb : g.behind = f.behind) (hc : g.cb = f.cb) : (stC (f :: F) ++ r).set (0 + F.length * 2 + 0) (sl g.ob 0 g.items.length g.c) = stC (g :: F) ++ r := by
  rw [stC_pop, stC_pop, List.set_append_right _ _ (by rw [stC_len]; omega), stC_len, show 0 + F.length * 2 + 0 - F.length * 2 = 0 by omega]
  simp [Frm.cs, hA, hb, hc]
theorem OwnS.pop {ob : Option Nat} {n c : Nat} {F : List Frm} {f : Frm} {r : List Value} (h : OwnS ob (n + 1) c 2 (stC (f :: F)) r) (hn : F.length = n) : OwnS ob n c 2 (stC F) (f.cs ++ r) := by
  have h1 := h.hr
  have h2 := h.mx
  rw [stC_pop] at h1
  exact ⟨by rw [stC_len, hn], h1, h.hn, by omega⟩
theorem OwnS.swap {ob : Option Nat} {n c : Nat} {F : List Frm} {f g : Frm} {r : List Value} (h : OwnS ob n c 2 (stC (f :: F)) r) : OwnS ob n c 2 (stC (g :: F)) r := by
  have h1 := h.hr
  have h0 := h.n
  rw [List.length_append, stC_len] at h1
  rw [stC_len] at h0
  exact ⟨by rw [stC_len]; exact h0, by rw [List.length_append, stC_len]; exact h1, h.hn, h.mx⟩
theorem Frm.one {f : Frm} : ∀ u ∈ f.cs, u.oneCell' = true := by
  intro u hu
  simp [Frm.cs] at hu
  rcases hu with rfl | rfl <;> rfl
theorem spl_last (a z cs r : List Value) (i : Nat) (hi : 0 + i = a.length) (hz : z.length = cs.length) : spl ((a ++ z) ++ r) (0 + i) cs = (a ++ cs) ++ r := by
  have h1 : List.take (0 + i) ((a ++ z) ++ r) = a := by rw [hi, List.append_assoc, List.take_left' rfl]
  have h2 : List.drop (0 + i + cs.length) ((a ++ z) ++ r) = r := by rw [hi, ← hz, ← List.length_append, List.drop_left' rfl]
  unfold spl
  rw [h1, h2]
/-- New blocks sink below the open lists' blocks. -/
theorem Mem.deep {w0 w : World} {A B N : List Ent} (P X : List Ent) (m : Mem w0 w (A ++ (P ++ (X ++ (B ++ N))))) : Mem w0 w (P ++ (X ++ ((A ++ B) ++ N))) := by
  refine m.perm ?_
  have h1 : (A ++ (P ++ (X ++ (B ++ N)))).Perm ((P ++ X) ++ (A ++ (B ++ N))) := by
    have := (List.perm_append_comm (l₁ := A) (l₂ := P ++ X)).append_right (B ++ N)
    simpa only [List.append_assoc] using this
  simpa only [List.append_assoc] using h1
theorem Mem.under {w0 w : World} {e : Ent} {B N : List Ent} (P X : List Ent) (m : Mem w0 w (P ++ (e :: (X ++ (B ++ N))))) : Mem w0 w (P ++ (X ++ ((e :: B) ++ N))) := by
  refine m.perm ?_
  refine List.Perm.append_left P ?_
  have h1 : (e :: (X ++ (B ++ N))).Perm (X ++ (e :: (B ++ N))) := List.perm_middle.symm
  simpa only [List.append_assoc, List.cons_append] using h1
theorem Mem.low {w0 w : World} {B N : List Ent} (P X : List Ent) (m : Mem w0 w (P ++ (X ++ (B ++ N)))) : Mem w0 w (B ++ N) := m.appR.appR
theorem More.low {w0 : World} {Φ : Ctx} {B N : List Ent} (hΦ : ∀ w, Mem w0 w N → Φ w) (P X : List Ent) {w : World} (m : Mem w0 w (P ++ (X ++ (B ++ N)))) : More w0 Φ B w := ⟨hΦ w (m.low P X).appR, (m.low P X).appL⟩
end Go.Fw

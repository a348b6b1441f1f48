/- Part of a proof over Ytgdohhccpghofaa: rules and contracts that the law's text uses. No condition. -/
import Derived.Test.YtgdohhccpghofaaRlpP1
namespace Go.Fw
set_option linter.unusedVariables false
set_option linter.unusedSimpArgs false
set_option maxRecDepth 100000
/-! Numbers of four limbs, and their bytes: what the two texts compute. -/
def val4 (v : Vector (BitVec 64) 4) : Nat := v[0].toNat + 2 ^ 64 * v[1].toNat + 2 ^ 128 * v[2].toNat + 2 ^ 192 * v[3].toNat
def lim (n : Nat) : Vector (BitVec 64) 4 := #v[BitVec.ofNat 64 n, BitVec.ofNat 64 (n / 2 ^ 64), BitVec.ofNat 64 (n / 2 ^ 128), BitVec.ofNat 64 (n / 2 ^ 192)]
theorem vec4_ext {a b : Vector (BitVec 64) 4} (h0 : a[0] = b[0]) (h1 : a[1] = b[1]) (h2 : a[2] = b[2]) (h3 : a[3] = b[3]) : a = b := by
  apply Vector.ext
  intro i hi
  match i, hi with
  | 0, _ => exact h0
  | 1, _ => exact h1
  | 2, _ => exact h2
  | 3, _ => exact h3
theorem val4_lt (v : Vector (BitVec 64) 4) : val4 v < 2 ^ 256 := by
  have h0 := v[0].isLt; have h1 := v[1].isLt; have h2 := v[2].isLt; have h3 := v[3].isLt
  unfold val4
  omega
theorem val4_lim (n : Nat) (h : n < 2 ^ 256) : val4 (lim n) = n := by
  simp only [val4, lim, Vector.getElem_mk, List.getElem_toArray, List.getElem_cons_zero, List.getElem_cons_succ, BitVec.toNat_ofNat]
  omega
theorem lim_val4 (v : Vector (BitVec 64) 4) : lim (val4 v) = v := by
  have h0 := v[0].isLt; have h1 := v[1].isLt; have h2 := v[2].isLt; have h3 := v[3].isLt
  apply vec4_ext <;> (apply BitVec.eq_of_toNat_eq; simp only [lim, Vector.getElem_mk, List.getElem_toArray, List.getElem_cons_zero, List.getElem_cons_succ, BitVec.toNat_ofNat, val4]; omega)
theorem val4_inj {a b : Vector (BitVec 64) 4} (h : val4 a = val4 b) : a = b := by rw [← lim_val4 a, ← lim_val4 b, h]
theorem from_eq (x : BitVec 64) : u256_From x = some (lim x.toNat) := by
  unfold u256_From
  congr 1
  have := x.isLt
  apply vec4_ext <;> (apply BitVec.eq_of_toNat_eq; simp [lim]; try omega)
theorem rfrom_eq (x : BitVec 64) : waybillref01_From x = some (lim x.toNat) := by
  unfold waybillref01_From
  congr 1
  have := x.isLt
  apply vec4_ext <;> (apply BitVec.eq_of_toNat_eq; simp [lim]; try omega)
def cmpN (a b : Nat) : Int := if a < b then -1 else if a = b then 0 else 1
theorem sub64c_eq (x y b : BitVec 64) (hb : b.toNat ≤ 1) : sub64c x y b = some (x - y - b, if x.toNat < y.toNat + b.toNat then 1#64 else 0#64) := by
  unfold sub64c; rw [if_pos hb]
theorem brw (p : Prop) [Decidable p] : (if p then 1#64 else 0#64).toNat = if p then 1 else 0 := by split <;> rfl
theorem u256_Sub_brw (x y : Vector (BitVec 64) 4) : ∃ d, u256_Sub x y = some (d, if val4 x < val4 y then 1#64 else 0#64) := by
  have g : ∀ (v : Vector (BitVec 64) 4) (i : Nat) (h : i < 4), v[i]? = some v[i] := fun v i h => Vector.getElem?_eq_getElem h
  have hb : ∀ (p : Prop) [Decidable p], (if p then 1#64 else 0#64).toNat ≤ 1 := fun p _ => by rw [brw]; split <;> omega
  have x0 := x[0].isLt; have x1 := x[1].isLt; have x2 := x[2].isLt; have x3 := x[3].isLt
  have y0 := y[0].isLt; have y1 := y[1].isLt; have y2 := y[2].isLt; have y3 := y[3].isLt
  unfold u256_Sub
  simp only [u256_Sub.l1, g x 0 (by omega), g x 1 (by omega), g x 2 (by omega), g x 3 (by omega), g y 0 (by omega), g y 1 (by omega), g y 2 (by omega), g y 3 (by omega), Option.bind_some, Nat.zero_add, Nat.reduceAdd, Nat.reduceLT, if_true, if_false, Nat.lt_irrefl, Nat.reduceSub]
  rw [sub64c_eq _ _ _ (by simp)]
  simp only [Option.bind_some]
  rw [sub64c_eq _ _ _ (hb _)]
  simp only [Option.bind_some]
  rw [sub64c_eq _ _ _ (hb _)]
  simp only [Option.bind_some]
  rw [sub64c_eq _ _ _ (hb _)]
  simp only [Option.bind_some, brw]
  have key : (x[3].toNat < y[3].toNat + if x[2].toNat < y[2].toNat + (if x[1].toNat < y[1].toNat + (if x[0].toNat < y[0].toNat + (0#64).toNat then 1 else 0) then 1 else 0) then 1 else 0) ↔ val4 x < val4 y := by
    unfold val4
    have h0 : (0#64).toNat = 0 := rfl
    rw [h0]
    split <;> split <;> split <;> omega
  simp only [key]
  exact ⟨_, rfl⟩
theorem cmp_eq (x y : Vector (BitVec 64) 4) : u256_Cmp x y = some (cmpN (val4 x) (val4 y)) := by
  unfold u256_Cmp cmpN
  by_cases h : x = y
  · subst h; simp
  · rw [if_neg h]
    obtain ⟨d, hd⟩ := u256_Sub_brw x y
    rw [hd]
    have hne : ¬ val4 x = val4 y := fun e => h (val4_inj e)
    by_cases hl : val4 x < val4 y
    · simp [hl]
    · simp [hl, hne]
theorem rcmp_eq (x y : Vector (BitVec 64) 4) : waybillref01_Cmp x y = some (cmpN (val4 x) (val4 y)) := by
  have g : ∀ (v : Vector (BitVec 64) 4) (i : Nat) (h : i < 4), v[i]? = some v[i] := fun v i h => Vector.getElem?_eq_getElem h
  have x0 := x[0].isLt; have x1 := x[1].isLt; have x2 := x[2].isLt; have x3 := x[3].isLt
  have y0 := y[0].isLt; have y1 := y[1].isLt; have y2 := y[2].isLt; have y3 := y[3].isLt
  unfold waybillref01_Cmp cmpN val4
  simp only [waybillref01_Cmp.l1, Int.reduceLE, if_true, Int.reduceSub, Int.reduceToNat, Int.toNat_zero, Int.reduceNeg, and_self, Nat.reduceLT, g x 0 (by omega), g x 1 (by omega), g x 2 (by omega), g x 3 (by omega), g y 0 (by omega), g y 1 (by omega), g y 2 (by omega), g y 3 (by omega), Option.bind_some, if_false, Nat.zero_lt_succ, Nat.lt_add_one]
  repeat' split
  all_goals first
    | rfl
    | (simp; omega)
    | (simp_all; omega)
    | omega
end Go.Fw

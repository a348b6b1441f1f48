/- Part of a proof: rules that its law uses. -/
import Derived.Test.YtgonajfngmeanaaDoorShaL
import Derived.Test.YtgonajfngmeanaaDoorRootL
import Derived.Test.YtgonajfngmeanaaDoorPadL
import Derived.Test.YtgonajfngmeanaaDoorFwD
namespace Go.Fw
open Go
set_option linter.unusedVariables false
set_option maxRecDepth 10000
def soakS : Nat → List (BitVec 8) → List (BitVec 32) → List (BitVec 32)
  | 0, _, s => s
  | n + 1, l, s => soakS n (l.drop 64) (behindL constL s (l.take 64))
theorem soakS_snoc : ∀ (n : Nat) (l : List (BitVec 8)) (a : List (BitVec 32)), soakS (n + 1) l a = behindL constL (soakS n l a) ((l.drop (64 * n)).take 64)
  | 0, l, a => by rw [soakS, soakS, soakS, Nat.mul_zero, List.drop_zero]
  | n + 1, l, a => by
    rw [soakS, soakS_snoc n, soakS, List.drop_drop]
    congr 3
    omega
theorem soakS_congr : ∀ (n : Nat) (l l' : List (BitVec 8)) (a : List (BitVec 32)), l.take (64 * n) = l'.take (64 * n) → soakS n l a = soakS n l' a
  | 0, l, l', a, h => rfl
  | n + 1, l, l', a, h => by
    rw [soakS_snoc, soakS_snoc]
    have h1 : l.take (64 * n) = l'.take (64 * n) := by
      have := congrArg (List.take (64 * n)) h
      rwa [List.take_take, List.take_take, Nat.min_eq_left (by omega)] at this
    have h2 : (l.drop (64 * n)).take 64 = (l'.drop (64 * n)).take 64 := by
      have := congrArg (List.drop (64 * n)) h
      rwa [List.drop_take, List.drop_take, show 64 * (n + 1) - 64 * n = 64 by omega] at this
    rw [h2, soakS_congr n l l' a h1]
theorem soakS_length : ∀ (n : Nat) (l : List (BitVec 8)) (a : List (BitVec 32)), a.length = 8 → (soakS n l a).length = 8
  | 0, _, a, h => h
  | n + 1, l, a, h => soakS_length n _ _ (behindL_length h)
structure HT (s : List (BitVec 32)) (rest : List (BitVec 8)) (n : Int) (t : List (BitVec 8)) : Prop where
  n : n = (t.length : Int)
  rest : rest = t.drop (64 * (t.length / 64))
  st : 64 ≤ t.length → s = soakS (t.length / 64) t startL
  sl : s.length = 8
def nowS (t : List (BitVec 8)) : List (BitVec 32) := soakS (t.length / 64) t startL
theorem nowS_length (t : List (BitVec 8)) : (nowS t).length = 8 := soakS_length _ _ _ rfl
theorem nowS_short {t : List (BitVec 8)} (h : t.length < 64) : nowS t = startL := by
  unfold nowS
  rw [Nat.div_eq_of_lt h]
  rfl
theorem rest_len (t : List (BitVec 8)) : (t.drop (64 * (t.length / 64))).length = t.length % 64 := by rw [List.length_drop]; omega
theorem nowS_step (t d : List (BitVec 8)) (k : Nat) (hk : k = 64 - t.length % 64) (hd : k ≤ d.length) : nowS (t ++ d.take k) = behindL constL (nowS t) (t.drop (64 * (t.length / 64)) ++ d.take k) ∧ (t ++ d.take k).length / 64 = t.length / 64 + 1 ∧ (t ++ d.take k).length % 64 = 0 := by
  have hm : t.length % 64 < 64 := Nat.mod_lt _ (by decide)
  have hq : t.length = 64 * (t.length / 64) + t.length % 64 := (Nat.div_add_mod _ _).symm
  have hl : (t ++ d.take k).length = t.length + k := by rw [List.length_append, List.length_take]; omega
  have h1 : (t ++ d.take k).length / 64 = t.length / 64 + 1 := by omega
  refine ⟨?_, h1, by omega⟩
  unfold nowS
  have hT : (t.drop (64 * (t.length / 64)) ++ d.take k).take 64 = t.drop (64 * (t.length / 64)) ++ d.take k := List.take_of_length_le (by rw [List.length_append, List.length_drop, List.length_take]; omega)
  rw [h1, soakS_snoc, List.drop_append_of_le_length (by omega), hT]
  congr 1
  exact soakS_congr _ _ _ _ (by rw [List.take_append_of_le_length (by omega)])
theorem nowS_more (t d : List (BitVec 8)) (h : t.length % 64 + d.length < 64) : nowS (t ++ d) = nowS t ∧ (t ++ d).drop (64 * ((t ++ d).length / 64)) = t.drop (64 * (t.length / 64)) ++ d := by
  have hq : t.length = 64 * (t.length / 64) + t.length % 64 := (Nat.div_add_mod _ _).symm
  have h1 : (t ++ d).length / 64 = t.length / 64 := by rw [List.length_append]; omega
  refine ⟨?_, ?_⟩
  · unfold nowS
    rw [h1]
    exact soakS_congr _ _ _ _ (by rw [List.take_append_of_le_length (by omega)])
  · rw [h1, List.drop_append_of_le_length (by omega)]
def sqS (s : List (BitVec 32)) : List (BitVec 8) := (List.range 32).map fun k => ((s.getD (k / 4) 0#32) >>> (24 - 8 * (k % 4))).setWidth 8
theorem sqS_length (s : List (BitVec 32)) : (sqS s).length = 32 := by simp [sqS]
theorem sqS_get (s : List (BitVec 32)) {k : Nat} (h : k < 32) : (sqS s)[k]? = some (((s.getD (k / 4) 0#32) >>> (24 - 8 * (k % 4))).setWidth 8) := by simp [sqS, h]
def sqTo (s : List (BitVec 32)) (k : Nat) : List (BitVec 8) := (sqS s).take k ++ List.replicate (32 - k) 0#8
theorem sqTo_length (s : List (BitVec 32)) {k : Nat} (h : k ≤ 32) : (sqTo s k).length = 32 := by simp [sqTo, sqS_length]; omega
theorem sqTo_all (s : List (BitVec 32)) : sqTo s 32 = sqS s := by simp [sqTo, List.take_of_length_le (Nat.le_of_eq (sqS_length s))]
theorem sqTo_set (s : List (BitVec 32)) {k : Nat} (h : k < 32) (v : BitVec 8) (hv : v = ((s.getD (k / 4) 0#32) >>> (24 - 8 * (k % 4))).setWidth 8) : (sqTo s k).set k v = sqTo s (k + 1) := by
  have hl : ((sqS s).take k).length = k := by rw [List.length_take, sqS_length]; omega
  unfold sqTo
  rw [List.set_append_right _ _ (by omega), hl, Nat.sub_self, show 32 - k = (32 - (k + 1)) + 1 by omega, List.replicate_succ, List.set_cons_zero, List.take_add_one, sqS_get s h, ← hv, List.append_assoc]
  rfl
def shaR (t : List (BitVec 8)) : List (BitVec 8) := sqS (soakS ((t ++ padL (t.length : Int)).length / 64) (t ++ padL (t.length : Int)) startL)
theorem hs_len {s : List (BitVec 32)} (h : s.length = 8) (u v : Value) : (u32s s ++ [u, v]).length = 10 := by rw [List.length_append, u32s_length, h]; rfl
theorem hs_at8 {s : List (BitVec 32)} (h : s.length = 8) (u v : Value) : (u32s s ++ [u, v])[0 + 8]? = some u := by
  rw [List.getElem?_append_right (by rw [u32s_length]; omega), u32s_length, h]; rfl
theorem hs_at9 {s : List (BitVec 32)} (h : s.length = 8) (u v : Value) : (u32s s ++ [u, v])[0 + 9]? = some v := by
  rw [List.getElem?_append_right (by rw [u32s_length]; omega), u32s_length, h]; rfl
theorem hs_set8 {s : List (BitVec 32)} (h : s.length = 8) (u v u' : Value) : (u32s s ++ [u, v]).set (0 + 8) u' = u32s s ++ [u', v] := by
  rw [List.set_append_right _ _ (by rw [u32s_length]; omega), u32s_length, h]; rfl
theorem hs_set9 {s : List (BitVec 32)} (h : s.length = 8) (u v v' : Value) : (u32s s ++ [u, v]).set (0 + 9) v' = u32s s ++ [u, v'] := by
  rw [List.set_append_right _ _ (by rw [u32s_length]; omega), u32s_length, h]; rfl
theorem hs_ld0 {s : List (BitVec 32)} (h : s.length = 8) (u v : Value) : ∀ j x, (u32s s)[j]? = some x → (u32s s ++ [u, v])[0 + 0 + j]? = some x := by
  intro j x hj
  have : j < (u32s s).length := (List.getElem?_eq_some_iff.1 hj).1
  rw [show 0 + 0 + j = j by omega, List.getElem?_append_left this]; exact hj
theorem hs_spl0 {s s' : List (BitVec 32)} (h : s.length = 8) (h' : s'.length = 8) (u v : Value) : spl (u32s s ++ [u, v]) (0 + 0) (u32s s') = u32s s' ++ [u, v] := by
  unfold spl
  rw [Nat.add_zero, List.take_zero, List.nil_append, Nat.zero_add, u32s_length, h', List.drop_left' (by rw [u32s_length, h])]
theorem shaR_length (t : List (BitVec 8)) : (shaR t).length = 32 := sqS_length _
def shaV (t : List (BitVec 8)) : Vector (BitVec 8) 32 := ⟨(shaR t).toArray, by simp [shaR_length]⟩
theorem shaV_list (t : List (BitVec 8)) : (shaV t).toList = shaR t := rfl
def sha_Sum (a : List (List (BitVec 8))) : Option (Vector (BitVec 8) 32) := if a.flatten.length ≤ 4611686018427387904 then some (shaV a.flatten) else none
def sha_Pad (n : Int) : Option (List (BitVec 8) × Nat) := if 0 ≤ n then some (padL n, 0) else none
def toV8 (s : List (BitVec 32)) : Vector (BitVec 32) 8 := if h : s.length = 8 then ⟨s.toArray, by simpa using h⟩ else Vector.replicate 8 0#32
theorem toV8_list {s : List (BitVec 32)} (h : s.length = 8) : (toV8 s).toList = s := by unfold toV8; rw [dif_pos h]; rfl
def sha_Start : Option (Vector (BitVec 32) 8) := some (toV8 startL)
def sha_Compress (s : Vector (BitVec 32) 8) (b : List (BitVec 8)) : Option (Vector (BitVec 32) 8 × Int) := some (toV8 (compL constL s.toList b), compE b)
def hsE (hty by_ : TypeId) (b : Nat) (ob : Option Nat) (c : Nat) (r : List Value) (s : List (BitVec 32)) (rest : List (BitVec 8)) (n : Int) : List Ent :=
  [(some b, blk (u32s s ++ [sl ob 0 rest.length c, .int .i64 n]) hty), (ob, blk (u8s rest ++ r) by_)]
end Go.Fw

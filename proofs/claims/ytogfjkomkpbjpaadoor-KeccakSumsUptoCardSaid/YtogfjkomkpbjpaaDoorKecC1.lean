/- Part of a proof: rules that its law uses. -/
import Derived.Test.YtogfjkomkpbjpaaDoorKecSs
import Derived.Test.YtogfjkomkpbjpaaDoorKecP5
namespace Go.Fw
set_option linter.unusedVariables false
set_option linter.unusedSimpArgs false
set_option maxRecDepth 100000
theorem none_list : (digestR [] 1#8).toList = [197#8, 210#8, 70#8, 1#8, 134#8, 247#8, 35#8, 60#8, 146#8, 126#8, 125#8, 178#8, 220#8, 199#8, 3#8, 192#8, 229#8, 0#8, 182#8, 83#8, 202#8, 130#8, 39#8, 59#8, 123#8, 250#8, 216#8, 4#8, 93#8, 133#8, 164#8, 112#8] := by decide +kernel
theorem none_eq : waybilllaw02_none = some (digestR [] 1#8) := by
  unfold waybilllaw02_none
  refine congrArg some ?_
  rw [← Vector.toList_inj, none_list]
  rfl
theorem sha3_eq (a : List (List (BitVec 8))) (hl : a.flatten.length ≤ 9223372036854775807) : keccak_Sha3 a = some (digestR a.flatten 6#8) := by
  unfold keccak_Sha3
  rw [digest_eq 1 a 6#8 (.inr ⟨rfl, rfl⟩) hl, Option.bind_some]
theorem new0 : keccak_New 0 = some (⟨0, Vector.replicate 25 0#64, Vector.replicate 136 0#8, 0, 0⟩, 0) := rfl
theorem new1 : keccak_New 1 = some (⟨1, Vector.replicate 25 0#64, Vector.replicate 136 0#8, 0, 0⟩, 0) := rfl
structure CutI (a : List (BitVec 8)) (z : Nat) (l : List (List (BitVec 8))) (t s : Sponge) : Prop where
  le : z ≤ a.length
  fl : l.flatten = a.take z
  ts : Took s (a.take z)
  tt : Took t (a.take z)
  ks : s.kind = 0
  kt : t.kind = 1
  ls : s.long = (z : Int)
  lt : t.long = (z : Int)
theorem take_mid (a : List (BitVec 8)) (z m : Nat) : a.take z ++ (a.take (z + m)).drop z = a.take (z + m) := by
  have h : (a.take (z + m)).take z = a.take z := by rw [List.take_take, Nat.min_eq_left (by omega)]
  rw [← h, List.take_append_drop]
theorem cut_step (a : List (BitVec 8)) (ha : a.length + 200 ≤ 140737488355328) (z m : Nat) (hm : z + m ≤ a.length) (l : List (List (BitVec 8))) (t s : Sponge) (h : CutI a z l t s) :
    ∃ t' s', waybilllaw02_lent ((a.take (z + m)).drop z) = some ((a.take (z + m)).drop z) ∧ keccak_Sponge_Write s ((a.take (z + m)).drop z) = some s' ∧ keccak_Sponge_Write t ((a.take (z + m)).drop z) = some t' ∧ CutI a (z + m) (l ++ ([(a.take (z + m)).drop z] : List (List (BitVec 8)))) t' s' := by
  have hlen : ((a.take (z + m)).drop z).length = m := by rw [List.length_drop, List.length_take]; omega
  obtain ⟨s', e1, e2, e3, e4⟩ := write_took s (a.take z) ((a.take (z + m)).drop z) h.ts (by rw [h.ls]; omega)
  obtain ⟨t', f1, f2, f3, f4⟩ := write_took t (a.take z) ((a.take (z + m)).drop z) h.tt (by rw [h.lt]; omega)
  rw [take_mid] at e2 f2
  refine ⟨t', s', by unfold waybilllaw02_lent lentN; rw [if_pos (by omega)], e1, f1, ⟨hm, ?_, e2, f2, e3.trans h.ks, f3.trans h.kt, by rw [e4, h.ls]; omega, by rw [f4, h.lt]; omega⟩⟩
  rw [List.flatten_append, h.fl]
  simp only [List.flatten_cons, List.flatten_nil, List.append_nil]
  rw [take_mid]
theorem cuts_loop (a : List (BitVec 8)) (ha : a.length + 200 ≤ 140737488355328) (b : List Int) (hb : b.length ≤ 1000000000000) : ∀ (d i k : Nat) (l : List (List (BitVec 8))) (z : Nat) (t s : Sponge), i + d = b.length + 1 → d < k → l.length = i → CutI a z l t s → (d = 0 → z = a.length) → ∃ l' t' s', waybilllaw02_KeccakCuts.l1 a b k l (z : Int) i t s = some (l', t', s') ∧ CutI a a.length l' t' s'
  | 0, i, k, l, z, t, s, h, hk, hl, hI, hz => by
    obtain ⟨k, rfl⟩ : ∃ m, k = m + 1 := ⟨k - 1, by omega⟩
    refine ⟨l, t, s, by rw [waybilllaw02_KeccakCuts.l1, if_neg (by omega)], ?_⟩
    rw [← hz rfl]
    exact hI
  | d + 1, i, k, l, z, t, s, h, hk, hl, hI, hz => by
    obtain ⟨k, rfl⟩ : ∃ m, k = m + 1 := ⟨k - 1, by omega⟩
    have hle := hI.le
    have key : ∃ m : Nat, z + m ≤ a.length ∧ (d = 0 → z + m = a.length) ∧ (if i < b.length then (b[i]?).bind fun x265 => (some ((min (max x265 (0 : Int)) (((a.length : Nat) : Int) - (z : Int))))) else (some ((((a.length : Nat) : Int) - (z : Int))))) = some ((m : Nat) : Int) := by
      by_cases h1 : i < b.length
      · refine ⟨(min (max b[i] (0 : Int)) (((a.length : Nat) : Int) - (z : Int))).toNat, by omega, fun hd => by omega, ?_⟩
        rw [if_pos h1, List.getElem?_eq_getElem h1, Option.bind_some]
        congr 1
        omega
      · refine ⟨a.length - z, by omega, fun _ => by omega, ?_⟩
        rw [if_neg h1]
        congr 1
        omega
    obtain ⟨m, hm1, hm2, hm3⟩ := key
    obtain ⟨t', s', e0, e1, e2, e3⟩ := cut_step a ha z m hm1 l t s hI
    obtain ⟨l2, t2, s2, g1, g2⟩ := cuts_loop a ha b hb d (i + 1) k _ (z + m) t' s' (by omega) (by omega) (by simp only [List.length_append, List.length_cons, List.length_nil]; omega) e3 hm2
    refine ⟨l2, t2, s2, ?_, g2⟩
    have hc : (z : Int) + (m : Int) = ((z + m : Nat) : Int) := by omega
    rw [waybilllaw02_KeccakCuts.l1, if_pos (by omega), if_pos (by omega), hm3, Option.bind_some, hc, if_pos (by omega), if_pos (by omega), if_pos (by omega), Int.toNat_natCast, Int.toNat_natCast, if_pos (by omega), if_pos hm1, e0, Option.bind_some, if_pos (by simp only [List.length_cons, List.length_nil]; omega), Option.bind_some, e1, Option.bind_some, Option.bind_some, e2, Option.bind_some]
    exact g1
theorem cuts_law (a : List (BitVec 8)) (ha : a.length + 200 ≤ 140737488355328) (b : List Int) (hb : b.length ≤ 1000000000000) : waybilllaw02_KeccakCuts a b = some true := by
  have h0 : CutI a 0 [] (⟨1, Vector.replicate 25 0#64, Vector.replicate 136 0#8, 0, 0⟩ : Sponge) (⟨0, Vector.replicate 25 0#64, Vector.replicate 136 0#8, 0, 0⟩ : Sponge) := ⟨Nat.zero_le _, by simp, by rw [List.take_zero]; exact took_zero 0, by rw [List.take_zero]; exact took_zero 1, rfl, rfl, rfl, rfl⟩
  obtain ⟨l, t, s, e1, e2⟩ := cuts_loop a ha b hb (b.length + 1) 0 (b.length - 0 + 2) [] 0 _ _ (by omega) (by omega) rfl h0 (fun h => by omega)
  have hfl := e2.fl
  have hts := e2.ts
  have htt := e2.tt
  rw [List.take_length] at hfl hts htt
  have e1' : waybilllaw02_KeccakCuts.l1 a b (b.length - 0 + 2) [] (0 : Int) 0 (⟨1, Vector.replicate 25 0#64, Vector.replicate 136 0#8, 0, 0⟩ : Sponge) (⟨0, Vector.replicate 25 0#64, Vector.replicate 136 0#8, 0, 0⟩ : Sponge) = some (l, t, s) := e1
  have hL : waybilllaw02_lent a = some a := by unfold waybilllaw02_lent lentN; rw [if_pos ha]
  have hk1 : keccak_Sum [a] = some (digestR a 1#8) := by rw [ksum_eq [a] (by simp; omega)]; simp
  have hk2 : keccak_Sha3 [a] = some (digestR a 6#8) := by rw [sha3_eq [a] (by simp; omega)]; simp
  have hk3 : keccak_Sum l = some (digestR a 1#8) := by rw [ksum_eq l (by rw [hfl]; omega), hfl]
  have hk4 : keccak_Sha3 l = some (digestR a 6#8) := by rw [sha3_eq l (by rw [hfl]; omega), hfl]
  have hn : keccak_Sum [] = some (digestR [] 1#8) := by rw [ksum_eq [] (by simp)]; rfl
  have hs := ssum_eq s a hts 1#8 (.inl ⟨e2.ks, rfl⟩)
  have ht := ssum_eq t a htt 6#8 (.inr ⟨e2.kt, rfl⟩)
  have hlen : keccak_Sponge_Len s = some (((a.length : Nat) : Int), s) := by unfold keccak_Sponge_Len; rw [if_pos (by rw [e2.ls]; omega), e2.ls]
  unfold waybilllaw02_KeccakCuts waybilllaw02_num
  rw [hn, Option.bind_some, none_eq, Option.bind_some, if_pos rfl, new0, Option.bind_some]
  dsimp only
  rw [new1, Option.bind_some]
  dsimp only
  rw [show ((0 : Nat) : Int) = 0 from rfl, Option.bind_some, if_pos rfl, Option.bind_some, Option.bind_some, if_neg (by decide), e1', Option.bind_some]
  dsimp only
  rw [hL, Option.bind_some, hk1, Option.bind_some, Option.bind_some, hk2, Option.bind_some, hk3, Option.bind_some, if_pos rfl, hk4, Option.bind_some, if_pos rfl, hs, Option.bind_some]
  dsimp only
  rw [if_pos rfl, ht, Option.bind_some]
  dsimp only
  rw [if_pos rfl, hlen, Option.bind_some]
  dsimp only
  rw [decide_eq_true rfl, Option.bind_some]
end Go.Fw

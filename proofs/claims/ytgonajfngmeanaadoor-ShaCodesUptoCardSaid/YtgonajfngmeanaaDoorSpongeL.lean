/- Part of a proof: rules that its law uses. -/
import Derived.Test.YtgonajfngmeanaaDoorFwD
namespace Go.Fw
open Go
set_option linter.unusedVariables false
set_option maxRecDepth 10000
structure Sponge where
  kind : Int
  lanes : Vector (BitVec 64) 25
  part : Vector (BitVec 8) 136
  held : Int
  long : Int
def Sponge.C (s : Sponge) : List Value := [.int .i64 s.kind] ++ (u64s s.lanes.toList ++ (u8s s.part.toList ++ ([.int .i64 s.held] ++ ([.int .i64 s.long]))))
theorem Sponge.C_length (s : Sponge) : s.C.length = 164 := by simp [Sponge.C, u64s_length, u8s_length]
theorem Sponge.C_one (s : Sponge) : ∀ u ∈ s.C, u.oneCell' = true := by
  intro u hu
  simp only [Sponge.C, List.mem_append, List.mem_singleton] at hu
  rcases hu with rfl | hu | hu | rfl | rfl
  · rfl
  · exact u64s_one _ u hu
  · exact u8s_one _ u hu
  · rfl
  · rfl
theorem Sponge.C_kind (s : Sponge) : s.C[0]? = some (.int .i64 s.kind) := by
  rw [show 0 = 0 by rfl]; exact (here_get rfl)
theorem Sponge.C_kind_set (s : Sponge) (x : Int) : s.C.set 0 (.int .i64 x) = ({ s with kind := x } : Sponge).C := by
  rw [show 0 = 0 by rfl]; exact (here_set (by simp) rfl)
theorem Sponge.C_lanes (s : Sponge) {i : Nat} {x : BitVec 64} (h : s.lanes[i]? = some x) : s.C[1 + i]? = some (U64 x) := by
  rw [show 1 + i = 1 + (i) by omega]; exact (skip_get rfl (here_get (u64s_at (vat h))))
theorem Sponge.C_lanes_all (s : Sponge) : ∀ (k : Nat) (u : Value), (u64s s.lanes.toList)[k]? = some u → s.C[1 + k]? = some u := by
  intro k u h; rw [show 1 + k = 1 + (k) by omega]; exact (skip_get rfl (here_get h))
theorem Sponge.C_lanes_set (s : Sponge) {i : Nat} (hi : i < 25) (x : BitVec 64) : s.C.set (1 + i) (U64 x) = ({ s with lanes := s.lanes.setIfInBounds i x } : Sponge).C := by
  rw [show 1 + i = 1 + (i) by omega]; exact (skip_set rfl (here_set (by rw [u64s_length, Vector.length_toList]; omega) (by rw [u64s_set', vset])))
theorem Sponge.C_lanes_spl (s : Sponge) (x : Vector (BitVec 64) 25) : spl s.C 1 (u64s x.toList) = ({ s with lanes := x } : Sponge).C := by
  rw [show 1 = 1 + (0) by rfl]; exact (skip_spl rfl (here_spl (by simp [u64s_length])))
theorem Sponge.C_part (s : Sponge) {i : Nat} {x : BitVec 8} (h : s.part[i]? = some x) : s.C[26 + i]? = some (U8 x) := by
  rw [show 26 + i = 1 + (25 + (i)) by omega]; exact (skip_get rfl (skip_get ((u64s_length _).trans Vector.length_toList) (here_get (u8s_at (vat h)))))
theorem Sponge.C_part_all (s : Sponge) : ∀ (k : Nat) (u : Value), (u8s s.part.toList)[k]? = some u → s.C[26 + k]? = some u := by
  intro k u h; rw [show 26 + k = 1 + (25 + (k)) by omega]; exact (skip_get rfl (skip_get ((u64s_length _).trans Vector.length_toList) (here_get h)))
theorem Sponge.C_part_set (s : Sponge) {i : Nat} (hi : i < 136) (x : BitVec 8) : s.C.set (26 + i) (U8 x) = ({ s with part := s.part.setIfInBounds i x } : Sponge).C := by
  rw [show 26 + i = 1 + (25 + (i)) by omega]; exact (skip_set rfl (skip_set ((u64s_length _).trans Vector.length_toList) (here_set (by rw [u8s_length, Vector.length_toList]; omega) (by rw [u8s_set', vset]))))
theorem Sponge.C_part_spl (s : Sponge) (x : Vector (BitVec 8) 136) : spl s.C 26 (u8s x.toList) = ({ s with part := x } : Sponge).C := by
  rw [show 26 = 1 + (25 + (0)) by rfl]; exact (skip_spl rfl (skip_spl ((u64s_length _).trans Vector.length_toList) (here_spl (by simp [u8s_length]))))
theorem Sponge.C_part_cpy (s : Sponge) {lo : Nat} {l : List (BitVec 8)} (h : lo + l.length ≤ 136) : spl s.C (26 + lo) (u8s l) = ({ s with part := cpV s.part lo l } : Sponge).C := by
  rw [show 26 + lo = 1 + (25 + (lo)) by omega]; exact (skip_spl rfl (skip_spl ((u64s_length _).trans Vector.length_toList) (at_spl (by rw [u8s_length, u8s_length, Vector.length_toList]; exact h) (u8s_cpV _ h))))
theorem Sponge.C_held (s : Sponge) : s.C[162]? = some (.int .i64 s.held) := by
  rw [show 162 = 1 + (25 + (136 + (0))) by rfl]; exact (skip_get rfl (skip_get ((u64s_length _).trans Vector.length_toList) (skip_get ((u8s_length _).trans Vector.length_toList) (here_get rfl))))
theorem Sponge.C_held_set (s : Sponge) (x : Int) : s.C.set 162 (.int .i64 x) = ({ s with held := x } : Sponge).C := by
  rw [show 162 = 1 + (25 + (136 + (0))) by rfl]; exact (skip_set rfl (skip_set ((u64s_length _).trans Vector.length_toList) (skip_set ((u8s_length _).trans Vector.length_toList) (here_set (by simp) rfl))))
theorem Sponge.C_long (s : Sponge) : s.C[163]? = some (.int .i64 s.long) := by
  rw [show 163 = 1 + (25 + (136 + (1 + (0)))) by rfl]; exact (skip_get rfl (skip_get ((u64s_length _).trans Vector.length_toList) (skip_get ((u8s_length _).trans Vector.length_toList) (skip_get rfl rfl))))
theorem Sponge.C_long_set (s : Sponge) (x : Int) : s.C.set 163 (.int .i64 x) = ({ s with long := x } : Sponge).C := by
  rw [show 163 = 1 + (25 + (136 + (1 + (0)))) by rfl]; exact (skip_set rfl (skip_set ((u64s_length _).trans Vector.length_toList) (skip_set ((u8s_length _).trans Vector.length_toList) (skip_set rfl rfl))))
end Go.Fw

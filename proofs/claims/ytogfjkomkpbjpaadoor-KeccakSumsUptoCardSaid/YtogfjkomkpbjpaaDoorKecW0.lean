/- Part of a proof: rules that its law uses. -/
import Derived.Test.YtogfjkomkpbjpaaDoorKecB
import Derived.Test.YtogfjkomkpbjpaaDoorKecLs
namespace Go.Fw.Tryd
open Go Go.Proofs Go.Fw
set_option linter.unusedVariables false
theorem keccak_Permute_does (w0 : World) (Φ : Ctx) (N : List Ent) (hΦ : ∀ w, Mem w0 w N → Φ w) (a0 res0 : Vector (BitVec 64) 25) (hf : keccak_Permute a0 = some res0) : DoesG Tryd.prog 9 [.agg (u64s a0.toList).toArray] w0 [] N (fun v G => v = .agg (u64s res0.toList).toArray) := by
  have h := Does.toG (perm_does w0 N a0.toList Vector.length_toList)
  rw [← keccak_Permute_list hf] at h
  exact h.mono fun v G h => h.1
end Go.Fw.Tryd

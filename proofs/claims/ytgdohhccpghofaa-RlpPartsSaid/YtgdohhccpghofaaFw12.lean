/- Part of a proof over Ytgdohhccpghofaa: rules and contracts that the law's text uses. No condition. -/
import Derived.Test.YtgdohhccpghofaaFw11
import Derived.Lib.LaidTab
import Derived.LaidSub
import Derived.KernelRfl
namespace Go.Fw
open Go
/-! Tables that a row lists. -/
theorem laid_tab {P : Program} {W : World} {l : List (String × DataW Unit)} {name : String} {k : IntKind} {zs : List Int} (h : laidMetH P l W) (hh : (l.filter fun x => x.2.handleName?.isSome) = []) (hf : (l.filter fun x => x.1 == name) = [(name, Lib.tabData k zs)]) {g : Nat} {t e : TypeId} {n : Nat}
    (hg : P.globalNamed name = some g) (hty : (P.globals[g]?).map (·.type) = some t) (ht : P.underlying t = some (.array n e)) (he : P.underlying e = some (.int k)) (hce : P.cellsOf e = 1) (hct : P.cellsOf t = n) (i : Nat) (hi : i < zs.length) :
    W.cell? ⟨g, i, none⟩ = some (.int k (zs.getD i 0)) := by
  unfold laidMetH at h
  rw [hh] at h
  have h2 := laidMet.filter (fun x => x.1 == name) h
  rw [hf] at h2
  exact (Lib.tabIs_of_head hg hty ht he hce hct h2).cell hg i hi
theorem laid_u32 {P : Program} {W : World} {l : List (String × DataW Unit)} {name : String} {K : List (BitVec 32)} (h : laidMetH P l W) (hh : (l.filter fun x => x.2.handleName?.isSome) = []) (hf : (l.filter fun x => x.1 == name) = [(name, Lib.tabData .u32 (K.map fun x => (x.toNat : Int)))]) {g : Nat} {t e : TypeId} {n : Nat}
    (hg : P.globalNamed name = some g) (hty : (P.globals[g]?).map (·.type) = some t) (ht : P.underlying t = some (.array n e)) (he : P.underlying e = some (.int .u32)) (hce : P.cellsOf e = 1) (hct : P.cellsOf t = n) :
    ∀ (j : Nat) (u : Value), (u32s K)[j]? = some u → W.cell? ((⟨g, 0, none⟩ : Addr).add j) = some u := fun j u hj => by
  have hl : j < K.length := by have := (List.getElem?_eq_some_iff.1 hj).1; rwa [u32s_length] at this
  have := laid_tab h hh hf hg hty ht he hce hct j (by rw [List.length_map]; exact hl)
  rw [Addr.add_none, Nat.zero_add, this]
  rw [u32s_get hl] at hj
  rw [← Option.some.inj hj]
  simp [U32, List.getD, hl]
theorem laid_u64 {P : Program} {W : World} {l : List (String × DataW Unit)} {name : String} {K : List (BitVec 64)} (h : laidMetH P l W) (hh : (l.filter fun x => x.2.handleName?.isSome) = []) (hf : (l.filter fun x => x.1 == name) = [(name, Lib.tabData .u64 (K.map fun x => (x.toNat : Int)))]) {g : Nat} {t e : TypeId} {n : Nat}
    (hg : P.globalNamed name = some g) (hty : (P.globals[g]?).map (·.type) = some t) (ht : P.underlying t = some (.array n e)) (he : P.underlying e = some (.int .u64)) (hce : P.cellsOf e = 1) (hct : P.cellsOf t = n) :
    ∀ (j : Nat) (u : Value), (u64s K)[j]? = some u → W.cell? ((⟨g, 0, none⟩ : Addr).add j) = some u := fun j u hj => by
  have hl : j < K.length := by have := (List.getElem?_eq_some_iff.1 hj).1; rwa [u64s_length] at this
  have := laid_tab h hh hf hg hty ht he hce hct j (by rw [List.length_map]; exact hl)
  rw [Addr.add_none, Nat.zero_add, this]
  rw [u64s_get hl] at hj
  rw [← Option.some.inj hj]
  simp [U64, List.getD, hl]
end Go.Fw

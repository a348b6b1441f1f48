/- Part of a proof: rules that its law uses. -/
import Derived.ChangeArms
import Derived.Test.YtdpbljnedobmeaaDoorT2
set_option linter.unusedVariables false
set_option linter.unusedSimpArgs false
set_option linter.unusedSectionVars false
set_option maxRecDepth 100000
set_option maxHeartbeats 1000000
namespace Go.Fw.Tryd
open Go Go.Proofs
theorem rstart_does (w0 : World) (M : List Ent) : Does Tryd.prog 77 [] w0 M (τ := Unit) (fun _ => True) (fun _ => .agg (u32s startL).toArray) (fun _ => M) := by
 refine Does.enter Tryd.func77 rfl Tryd.ntmps77 rfl (Z4 (Z2 (OW.alloc (l := u32s (List.replicate 8 0#32)) rfl (by rw [← Z123]; rfl) rfl (fun b0 => (Z6 ?_)))))
 (refine Z1 ?_; refine Z4 ?_)
 refine Z2 (OW.call Tryd.call76 rfl (roots2_does w0 _ 20 8 (by decide) (by decide) len2 cert2) rfl (fun q hq => (Z0 (Z5 rfl) rfl (Z6 ?_))))
 (refine Z1 ?_; refine Z4 ?_)
 rw [start_roots] at hq ⊢
 obtain ⟨ob, r, cap⟩ := q
 dsimp only at hq ⊢
 have hl : startL.length = 8 := rfl
 have hob : ob.isSome = true := by
  rcases hoo : ob with _ | b
  ·have h1 := hq.1
   have := hq.2 hoo
   rw [List.length_append, Z100, hl] at h1; omega
  ·rfl
 refine Z2 (OW.alloc (l := u32s (List.replicate 8 0#32)) rfl (by rw [← Z123]; rfl) rfl (fun b2 => (Z6 ?_)))
 (refine Z1 ?_; refine Z4 ?_; refine Z4 ?_)
 refine Z2 (Z0 (Z5 rfl) rfl (Z6 ?_))
 (refine Z1 ?_; refine CW.block ?_)
 refine CW.loop (σ := Nat × List (BitVec 32)) (fun s => s.1 ≤ 8 ∧ s.2.length = 8 ∧ ∀ k, k < s.1 → s.2.getD k 0#32 = startL.getD k 0#32) (fun s => [(0, ptr (some b0) 0), (1, sl ob 0 8 cap), (2, ptr (some b2) 0), (3, .int .i64 (s.1 : Int))])
  (fun s => (some b2, blk (u32s s.2) 26) :: (ob, blk (u32s startL ++ r) 25) :: (some b0, blk (u32s z8) 26) :: M) (fun s => 8 - s.1) (0, z8) ⟨by simp, rfl, fun k hk => by omega⟩ ⟨rfl, rfl, rfl, rfl, trivial⟩ (fun _ m => m) ?_
 rintro ⟨i, hL⟩ ⟨hi, hh, he⟩
 dsimp only at hi hh he ⊢
 have hz : z8.length = 8 := rfl
 (refine Z4 ?_; refine Z4 ?_)
 refine Z2 (Z0 (Z3 rfl) rfl (Z0 (RV.lss rfl rfl) rfl (Z6 (Z1 ?_))))
 refine Z104 rfl (fun hlt => ?_) (fun hlt => ?_)
 ·have hi2 : i < 8 := by omega
  have g1 : (u32s startL ++ r)[0 + i]? = some (U32 (startL.getD i 0#32)) := by rw [Nat.zero_add, List.getElem?_append_left (by rw [Z100]; omega)]; exact Z124 (by omega)
  have hl2 : 0 + i < (u32s hL).length := by rw [Z100]; omega
  (refine CW.skip ?_; refine Z1 ?_; refine Z4 ?_; refine CW.block ?_)
  refine Z2 (Z0 (Z3 rfl) rfl (Z0 (Z3 rfl) rfl (Z0 (Z3 rfl) rfl (Z0 (Z119 _ rfl rfl rfl rfl rfl (by assumption) (by omega)) rfl ?_))))
  refine Z0 (Z29 rfl (by (refine List.Mem.tail _ ?_; exact List.Mem.head _); done) (by assumption) rfl rfl (by assumption)) rfl ?_
  refine Z0 (Z103 _ rfl rfl rfl rfl rfl (by omega)) rfl (Z28 (SV.store rfl rfl rfl rfl rfl (by assumption)) (Z6 ?_))
  (refine Z27 ?_; refine Z1 ?_)
  refine Z2 (Z0 (Z3 rfl) rfl (Z0 (RV.add rfl rfl (by omega)) rfl (Z0 (Z5 rfl) rfl (Z6 ?_))))
  refine Z108 (i + 1, hL.set i (startL.getD i 0#32)) ⟨by show i + 1 ≤ 8; omega, by simp [hh], fun k hk => ?_⟩ (by show 8 - (i + 1) < 8 - i; omega) ⟨rfl, rfl, rfl, rfl, trivial⟩ (fun _ m => ?_)
  ·have hk' : k < i + 1 := hk
   show (hL.set i (startL.getD i 0#32)).getD k 0#32 = _
   simp only [List.getD, List.getElem?_set]
   by_cases hm : i = k
   ·subst hm; simp [hh, hi2]
   ·rw [if_neg hm]; exact he k (by omega)
  ·rw [Nat.zero_add, u32s_set'] at m
   exact m
 have hi2 : i = 8 := by omega
 subst hi2
 have e : hL = startL := by
  rw [list8 hh, he 0 (by decide), he 1 (by decide), he 2 (by decide), he 3 (by decide), he 4 (by decide), he 5 (by decide), he 6 (by decide), he 7 (by decide)]
  exact (list8 hl).symm
 rw [e]
 (refine CW.exit ?_; refine Z9 ?_; refine Z9 ?_; refine Z15 ?_; refine Z1 ?_; refine Z4 ?_)
 refine Z2 ?_
 refine Z0 (Z22 rfl (by exact List.Mem.head _; done) rfl rfl rfl rfl (by assumption)) rfl ?_
 refine OW.rot2 ?_; refine Z28 (Z105 rfl rfl rfl (Z120 _) rfl (by assumption) (by assumption)) ?_
 refine Z6 ?_
 (refine Z1 ?_; refine CW.ret ?_)
 exact QW.retC1 rfl () trivial rfl Zh rfl rfl rfl rfl ((Z100 _).trans hl) rfl (fun _ m => m.tail.tail.tail)
theorem waybillref03_Start_does (w0 : World) (Φ : Ctx) (N : List Ent) (hΦ : ∀ w, Mem w0 w N → Φ w) (res0 : Vector (BitVec 32) 8) (hf : waybillref03_Start = some res0) : DoesG Tryd.prog 77 [] w0 [] N (fun v G => v = .agg (u32s res0.toList).toArray) := by
 cases hf
 rw [toV8_list rfl]
 exact (Does.toG (rstart_does w0 N)).mono fun v G h => h.1
theorem waybillref03_Roots_does (w0 : World) (Φ : Ctx) (N : List Ent) (hΦ : ∀ w, Mem w0 w N → Φ w) (a0 a1 : Int) (res0 : List (BitVec 32)) (ba0 : -9223372036854775808 ≤ a0 ∧ a0 ≤ 9223372036854775807) (ba1 : -9223372036854775808 ≤ a1 ∧ a1 ≤ 9223372036854775807) (hf : waybillref03_Roots a0 a1 = some res0) :
  DoesG Tryd.prog 76 [.int .i64 a0, .int .i64 a1] w0 [] N (fun v G => ∃ B : List Ent, ∃ or0 : Option Nat, ∃ kr0 : Nat, ∃ rr0 : List Value, (OwnS or0 res0.length kr0 1 (u32s res0) rr0) ∧ v = sl or0 0 res0.length kr0 ∧ G = (or0, blk ((u32s res0) ++ rr0) 25) :: B) := by
 unfold waybillref03_Roots at hf
 obtain ⟨⟨h0, h1⟩, hf⟩ := some_if hf
 cases hf
 subst h0
 subst h1
 have h := roots3_does w0 N 312 64 (by decide) (by decide) len3 cert3
 rw [const_roots] at h
 refine (Does.toJ h).mono ?_
 rintro v M' ⟨⟨ob, r, cap⟩, hq, rfl, rfl⟩
 dsimp only at hq ⊢
 have hcl : constL.length = 64 := rfl
 have hl2 : (u32s constL).length + r.length = cap := by have := hq.1; rwa [List.length_append] at this
 exact ⟨[(ob, blk (u32s constL ++ r) 25)], ⟨[], ob, cap, r, ⟨by rw [Z100]; omega, by rw [hq.1]; omega, (fun hn => by have := hq.2 hn; rw [Z100, hcl] at hl2; omega), by rw [hcl]; omega⟩, by rw [hcl], rfl⟩, rfl⟩
theorem waybillref03_rounds_does (w0 : World) (Φ : Ctx) (N : List Ent) (hΦ : ∀ w, Mem w0 w N → Φ w) (a0 : Vector (BitVec 32) 8) (A1_ : Option Addr) (c1_ : Nat) (a1 : List (BitVec 8)) (A2_ : Option Addr) (c2_ : Nat) (a2 : List (BitVec 32)) (res0 : Vector (BitVec 32) 8) (va1 : View Φ A1_ a1.length c1_ 1 (u8s a1)) (va2 : View Φ A2_ a2.length c2_ 1 (u32s a2)) (hf : waybillref03_rounds a0 a1 a2 = some res0) :
  DoesG Tryd.prog 78 [.agg (u32s a0.toList).toArray, .slice A1_ a1.length c1_, .slice A2_ a2.length c2_] w0 [] N (fun v G => v = .agg (u32s res0.toList).toArray) := by
 unfold waybillref03_rounds at hf
 obtain ⟨⟨h0, h1⟩, hf⟩ := some_if hf
 cases hf
 subst h1
 rw [toV8_list (behindL_length Zv), h0]
 exact (Does.toG (rounds_does w0 N constL rfl A2_ c2_ (fun w m => va2.rd w (hΦ w m)) a0.toList Zv A1_ c1_ a1 (fun w m => va1.rd w (hΦ w m)) h0)).mono fun v G h => h.1
end Go.Fw.Tryd
namespace Go.Fw
open Go
theorem fillL_cons {pl : List (Nat × Nat)} {l vs : List Value} {i off size : Nat} {r : List (Nat × List Value)} (h : pl[i]? = some (off, size)) (hl : vs.length = size) (hb : off + size ≤ l.length) : fillL pl l ((i, vs) :: r) = fillL pl (spl l off vs) r := by
 rw [fillL, h]
 dsimp only
 rw [if_pos (by simp [hl, hb])]
end Go.Fw
namespace Go.Fw
open Go Go.RowKit
def othersL (w0 w : World) (E : List Ent) : List Ent := (allEnts w0 w).filter (fun e => E.all (fun x => decide (x.1 ≠ e.1)))
theorem othersL_mem {w0 w : World} {E : List Ent} {e : Ent} : e ∈ othersL w0 w E ↔ e ∈ allEnts w0 w ∧ ∀ x ∈ E, x.1 ≠ e.1 := by
 unfold othersL
 rw [List.mem_filter, List.all_eq_true]
 simp only [decide_eq_true_eq]
theorem Mem.graftL {w0 w w' : World} {G M E : List Ent} (m : Mem w0 w' (G ++ othersL w0 w E)) (mM : Mem w0 w M) (hb : ∀ e ∈ M, ∀ x ∈ E, ∀ b, e.1 = some b → x.1 ≠ some b) : Mem w0 w' (G ++ M) := by
 have hin : ∀ e ∈ M, ∀ b', e.1 = some b' → ((some b', e.2) : Ent) ∈ othersL w0 w E := fun e he b' hb' => by
  obtain ⟨h1, h2⟩ := mM.ents e he b' hb'
  have hlt : b' < w.heap.size := (Array.getElem?_eq_some_iff.1 h2).1
  have hall : ((some b', e.2) : Ent) ∈ allEnts w0 w := by
   refine List.mem_map.2 ⟨b' - w0.heap.size, List.mem_range.2 (by omega), ?_⟩
   have e1 : w0.heap.size + (b' - w0.heap.size) = b' := by omega
   simp [e1, h2]
  exact othersL_mem.2 ⟨hall, fun x hx => hb e he x hx b' hb'⟩
 have hap := List.pairwise_append.1 m.apart
 refine ⟨m.os, m.tape, m.output, m.size, m.old, fun e he b' hb' => ?_, List.pairwise_append.2 ⟨hap.1, mM.apart, fun g hg e he b' hb1 hb2 => hap.2.2 g hg _ (hin e he b' hb2) b' hb1 rfl⟩⟩
 rcases List.mem_append.1 he with he | he
 ·exact m.ents e (List.mem_append_left _ he) b' hb'
 ·exact m.ents _ (List.mem_append_right _ (hin e he b' hb')) b' rfl
theorem Mem.othersL {w0 w : World} {E M : List Ent} (m : Mem w0 w (E ++ M)) : Mem w0 w (E ++ othersL w0 w E) := by
 have ma := m.all
 have hap := List.pairwise_append.1 m.apart
 refine ⟨m.os, m.tape, m.output, m.size, m.old, fun e he b' hb' => ?_, List.pairwise_append.2 ⟨hap.1, ma.apart.sublist List.filter_sublist, fun x hx e he b' h1 h2 => ?_⟩⟩
 ·rcases List.mem_append.1 he with he | he
  ·exact m.ents _ (List.mem_append_left _ he) b' hb'
  ·exact ma.ents e (othersL_mem.1 he).1 b' hb'
 ·exact (othersL_mem.1 he).2 x hx (h1.trans h2.symm)
section
variable {P : Program} {n : Nat} {Q : Exit → Act → World → Prop} {w0 : World} {L : Z109} {M E R : List Ent}
variable {ops : Array Oper} {hard : List Nat} {f : Nat} {done : Array Bool} {op : Op} {ty : TypeId} {pos : String} {aft : Array Edge} {g : Option (Nat × Bool)} {d : Nat} {v : Value}
theorem NV.boxA {x : Operand} {e : TypeId} {vs : List Value} (hx : ev L x = some (.agg vs.toArray)) : NV P w0 L M (.box e x) (fun b => ptr (some b) 0) vs e := fun ρ w hρ m o ho => by
 simp [execOp, ho, hρ x _ hx, Instr.box, newVar, newRow, ptr, blk, Value.cells]
theorem XW.callEs (i : Nat) {fn : FuncId} {xs : List Operand} {ats : Array TypeId} {args : List Value} {Rr : Value → List Ent → Prop} (ho : ops[i]? = some ⟨some d, .call ⟨.value (.func fn), xs.toArray, ats⟩, ty, pos, aft, g⟩) (hr : (Region.ready .any ops done == [i] && hard.contains i) = true) (hw : Wt ops L g = true)
    (hc : ∀ (args : Array Value) (w : World), (callFunc fn args).run P w = .ok (.enter fn args) w) (hxs : evs L xs = some args) (hdo : ∀ N, (∀ w, Mem w0 w N → Mem w0 w M) → DoesG P fn args w0 E N Rr)
    (hd : Nat.blt d n = true) (hMR : ∀ v G, Rr v G → ∀ w, Mem w0 w (G ++ M) → Mem w0 w R) (k : ∀ v G, Rr v G → XW P n ops Q w0 R hard f (done.setIfInBounds i true) ((d, v) :: L) (G ++ M)) : XW P n ops Q w0 R hard (f + 1) done L (E ++ M) := by
 unfold XW at *
 intro hR hB inv a w fr mm
 simp only [Bool.and_eq_true, beq_iff_eq] at hr
 obtain ⟨hr, hi⟩ := hr
 have him : i < ops.size := (Array.getElem?_eq_some_iff.1 ho).1
 have hne : ∀ e ∈ M, ∀ x ∈ E, ∀ b, e.1 = some b → x.1 ≠ some b := fun e he x hx b hb hxb => (List.pairwise_append.1 mm.apart).2.2 x hx e he b hxb hb
 refine ⟨by rw [hr]; simp, fun j hj => ?_⟩
 rw [hr] at hj
 obtain rfl : j = i := by simpa using hj
 refine ⟨him, _, ho, .inl ⟨wt_spec fr hw, ?_⟩⟩
 have hev := evs_map (fun x u hx => fr.eval hx) xs args hxs
 have hrun : (execOp a.eval ⟨some d, .call ⟨.value (.func fn), xs.toArray, ats⟩, ty, pos, aft, g⟩).run P w = .ok (.enter fn args.toArray) w := by
  simp [execOp, resolve, Deferred.ofValue, Act.eval, invoke, hev, hc]
 rw [hrun]
 refine (hdo (othersL w0 w E) (fun w2 m2 => by have := Mem.graftL (G := []) m2 mm.appR hne; exact this) w mm.othersL).mono ?_
 rintro e w2 ⟨q, ⟨G, h1, h2⟩, rfl, m'⟩
 have m' : Mem w0 w2 (G ++ othersL w0 w E) := by have m2 := m'; rwa [show (fun q : Value × List Ent => q.2) q = G ++ othersL w0 w E from h2] at m2
 have m3 := m'.graftL mm.appR hne
 refine ⟨_, rfl, ?_, (k q.1 G h1) (hMR q.1 G h1) hB (inv.set (by rw [hr]; simp) him) _ _ (fr.put hd _) m3⟩
 unfold Rl
 rw [if_pos hi]
 exact fun _ => hMR q.1 G h1 _ m3
end
end Go.Fw
namespace Go.Fw
def waybillref03_Pad.l1 (a0 : Int) : Nat → (List (BitVec 8)) → (Int) → Option ((List (BitVec 8)))
 | 0, _, _ => none
 | k37 + 1, l30, z35 => (if (0 : Int) ≤ z35 then (if -9223372036854775808 ≤ ((8 : Int) * z35) ∧ ((8 : Int) * z35) ≤ 9223372036854775807 then (if l30.length + ([((((BitVec.ofInt 64 a0) * 8#64) >>> (BitVec.ofInt 64 ((8 : Int) * z35)).toNat).setWidth 8)] : List (BitVec 8)).length ≤ 140737488355328 then (if -9223372036854775808 ≤ (z35 - (1 : Int)) ∧ (z35 - (1 : Int)) ≤ 9223372036854775807 then (waybillref03_Pad.l1 a0 k37 (l30 ++ ([((((BitVec.ofInt 64 a0) * 8#64) >>> (BitVec.ofInt 64 ((8 : Int) * z35)).toNat).setWidth 8)] : List (BitVec 8))) (z35 - (1 : Int))) else none) else none) else none) else (some (l30)))
def waybillref03_Pad.l2 (a0 : Int) : Nat → (List (BitVec 8)) → Option ((List (BitVec 8)))
 | 0, _ => none
 | k61 + 1, l56 => (if (((((a0).toNat % 64) + l56.length) + 8) % 64) = 0 then (some (l56)) else (if l56.length + ([0#8] : List (BitVec 8)).length ≤ 140737488355328 then (waybillref03_Pad.l2 a0 k61 (l56 ++ ([0#8] : List (BitVec 8)))) else none))
def waybillref03_Pad (a0 : Int) : Option ((List (BitVec 8)) × (Nat)) := (if a0 < (0 : Int) then (some (([] : List (BitVec 8)), 1)) else (((waybillref03_Pad.l2 a0 80 ([128#8] : List (BitVec 8))) : Option ((List (BitVec 8)))).bind fun l6 => (((waybillref03_Pad.l1 a0 80 l6 (7 : Int)) : Option ((List (BitVec 8)))).bind fun l19 => (some (l19, 0)))))
def waybillref03_joined.l2 (a0 : List (List (BitVec 8))) (n20 : Nat) : Nat → (List (BitVec 8)) → (Nat) → Option ((List (BitVec 8)))
 | 0, _, _ => none
 | k51 + 1, l44, n49 => (a0[n20]?).bind fun x59 => (if n49 < x59.length then (a0[n20]?).bind fun x71 => (x71[n49]?).bind fun x82 => (if l44.length + ([x82] : List (BitVec 8)).length ≤ 140737488355328 then (waybillref03_joined.l2 a0 n20 k51 (l44 ++ ([x82] : List (BitVec 8))) (n49 + 1)) else none) else (some (l44)))
def waybillref03_joined.l1 (a0 : List (List (BitVec 8))) : Nat → (List (BitVec 8)) → (Nat) → Option ((List (BitVec 8)))
 | 0, _, _ => none
 | k22 + 1, l15, n20 => (if n20 < a0.length then (((waybillref03_joined.l2 a0 n20 ((a0).flatten.length + 2) l15 0) : Option ((List (BitVec 8)))).bind fun l33 => (waybillref03_joined.l1 a0 k22 l33 (n20 + 1))) else (some (l15)))
def waybillref03_joined (a0 : List (List (BitVec 8))) : Option ((List (BitVec 8))) := (((waybillref03_joined.l1 a0 (a0.length - 0 + 2) ([] : List (BitVec 8)) 0) : Option ((List (BitVec 8)))).bind fun l4 => (some l4))
def waybillref03_digest.l1 (w56 : Vector (BitVec 32) 8) : Nat → (Nat) → (Vector (BitVec 8) 32) → Option ((Vector (BitVec 8) 32))
 | 0, _, _ => none
 | k74 + 1, n71, w73 => (if n71 < 32 then (if (n71 / 4) < 8 then (w56[(n71 / 4)]?).bind fun x83 => (waybillref03_digest.l1 w56 k74 (n71 + 1) (w73.setIfInBounds n71 ((x83 >>> (BitVec.ofInt 64 ((24 : Int) - (((8 * (n71 % 4)) : Nat) : Int))).toNat).setWidth 8))) else none) else (some (w73)))
def waybillref03_digest.l2 : Nat → (List (BitVec 8)) → (List (BitVec 32)) → (Nat) → (Vector (BitVec 32) 8) → Option ((Vector (BitVec 32) 8))
 | 0, _, _, _, _ => none
 | k98 + 1, l104, l108, n112, w114 => (if n112 < l104.length then (if n112 ≤ (n112 + 64) then (if (n112 + 64) ≤ l104.length then ((waybillref03_rounds w114 ((l104.take (n112 + 64)).drop n112) l108).bind fun x128 => (waybillref03_digest.l2 k98 l104 l108 (n112 + 64) x128)) else none) else none) else (some (w114)))
def waybillref03_digest (a0 : List (BitVec 8)) : Option ((Vector (BitVec 8) 32)) := ((waybillref03_Pad ((a0.length : Nat) : Int)).bind fun (x4, x5) => ((waybillref03_joined ([a0, x4] : List (List (BitVec 8)))).bind fun x24 => ((waybillref03_Roots (64 : Int) (3 : Int)).bind fun x36 => ((waybillref03_Start).bind fun x48 => (((waybillref03_digest.l2 (x24.length - 0 + 2) x24 x36 0 x48) : Option ((Vector (BitVec 32) 8))).bind fun w56 => (((waybillref03_digest.l1 w56 (32 - 0 + 2) 0 (Vector.replicate 32 0#8)) : Option ((Vector (BitVec 8) 32))).bind fun w65 => (some w65)))))))
def waybilllaw03_lent.l1 : Nat → (List (BitVec 8)) → (Nat) → Option ((List (BitVec 8)))
 | 0, _, _ => none
 | k37 + 1, l30, n35 => (if n35 < 70 then (if l30.length + ([165#8] : List (BitVec 8)).length ≤ 140737488355328 then (waybilllaw03_lent.l1 k37 (l30 ++ ([165#8] : List (BitVec 8))) (n35 + 1)) else none) else (some (l30)))
def waybilllaw03_lent (a0 : List (BitVec 8)) : Option ((List (BitVec 8))) := ((waybilllaw03_copied a0).bind fun x3 => (((waybilllaw03_lent.l1 (70 - 0 + 2) x3 0) : Option ((List (BitVec 8)))).bind fun l16 => (if a0.length ≤ l16.length then (if l16.drop a0.length = List.replicate 70 165#8 then (some (l16.take a0.length)) else none) else none)))
def waybilllaw03_still.l1 (a0 : List (BitVec 8)) (a1 : List (BitVec 8)) : Nat → (Nat) → Option (Lp ((Bool)) (Unit))
 | 0, _ => none
 | k17 + 1, n15 => (if n15 < ((a0 ++ List.replicate 70 165#8).take (a1.length + 70)).length then (((if n15 < a1.length then (((a0 ++ List.replicate 70 165#8).take (a1.length + 70))[n15]?).bind fun x35 => (a1[n15]?).bind fun x38 => (if x35 = x38 then (if a1.length ≤ n15 then (((a0 ++ List.replicate 70 165#8).take (a1.length + 70))[n15]?).bind fun x43 => (some ((!decide (x43 = 165#8)))) else (some (false))) else (some (true))) else (if a1.length ≤ n15 then (((a0 ++ List.replicate 70 165#8).take (a1.length + 70))[n15]?).bind fun x47 => (some ((!decide (x47 = 165#8)))) else (some (false)))) : Option ((Bool))).bind fun p27 => (if p27 = true then (some (Lp.ret (some false))) else (waybilllaw03_still.l1 a0 a1 k17 (n15 + 1)))) else (some (Lp.go ())))
def waybilllaw03_still (a0 : List (BitVec 8)) (a1 : List (BitVec 8)) : Option ((Bool)) := (if a0.length = a1.length then (if (a1.length + 70) ≤ (a0 ++ List.replicate 70 165#8).length then (((waybilllaw03_still.l1 a0 a1 ((((a0 ++ List.replicate 70 165#8).take (a1.length + 70)).length) - 0 + 2) 0) : Option (Lp ((Bool)) (Unit))).bind fun | .ret o => o | .go () => (some true)) else none) else (some false))
end Go.Fw
namespace Go.Fw
open Go
theorem rjoined3_in (a : List (List (BitVec 8))) (n : Nat) (x : List (BitVec 8)) (hx : a[n]? = some x) : ∀ (d i k : Nat) (l : List (BitVec 8)), i + d = x.length → d < k → l.length + d ≤ 140737488355328 → waybillref03_joined.l2 a n k l i = some (l ++ x.drop i)
 | 0, i, k, l, h, hk, hb => by
  obtain ⟨k, rfl⟩ : ∃ m, k = m + 1 := ⟨k - 1, by omega⟩
  rw [waybillref03_joined.l2, hx, Zb, if_neg (by omega), List.drop_eq_nil_of_le (by omega), List.append_nil]
 | d + 1, i, k, l, h, hk, hb => by
  obtain ⟨k, rfl⟩ : ∃ m, k = m + 1 := ⟨k - 1, by omega⟩
  have h1 : i < x.length := by omega
  rw [waybillref03_joined.l2, hx, Zb, if_pos h1, Zb, List.getElem?_eq_getElem h1, Zb, if_pos (by simp; omega), rjoined3_in a n x hx d (i + 1) k _ (by omega) (by omega) (by simp; omega), List.append_assoc, List.singleton_append, ← List.drop_eq_getElem_cons h1]
theorem rjoined3_loop (a : List (List (BitVec 8))) : ∀ (d i k : Nat) (l : List (BitVec 8)), i + d = a.length → d < k → l.length + (a.drop i).flatten.length ≤ 140737488355328 → waybillref03_joined.l1 a k l i = some (l ++ (a.drop i).flatten)
 | 0, i, k, l, h, hk, hb => by
  obtain ⟨k, rfl⟩ : ∃ m, k = m + 1 := ⟨k - 1, by omega⟩
  rw [waybillref03_joined.l1, if_neg (by omega), List.drop_eq_nil_of_le (by omega)]
  simp
 | d + 1, i, k, l, h, hk, hb => by
  obtain ⟨k, rfl⟩ : ∃ m, k = m + 1 := ⟨k - 1, by omega⟩
  have h1 : i < a.length := by omega
  rw [List.drop_eq_getElem_cons h1, List.flatten_cons, List.length_append] at hb
  have hx : a[i]? = some a[i] := List.getElem?_eq_getElem h1
  have hl := flat_len hx
  rw [waybillref03_joined.l1, if_pos h1, rjoined3_in a i _ hx _ 0 _ l (Nat.zero_add _) (by omega) (by omega), Zb, List.drop_zero, rjoined3_loop a d (i + 1) k _ (by omega) (by omega) (by rw [List.length_append]; omega), List.drop_eq_getElem_cons h1, List.flatten_cons, List.append_assoc]
theorem rjoined3_eq (a : List (List (BitVec 8))) (hb : a.flatten.length ≤ 140737488355328) : waybillref03_joined a = some a.flatten := by
 unfold waybillref03_joined
 rw [rjoined3_loop a a.length 0 (a.length - 0 + 2) [] (by omega) (by omega) (by simpa using hb), Zb, List.drop_zero, List.nil_append]
theorem rfold_in {s : List (BitVec 32)} (hs : s.length = 8) : ∀ (d i k : Nat), i + d = 32 → d < k → waybillref03_digest.l1 (toV8 s) k i (sqV s i) = some (sqV s 32)
 | 0, i, k, h, hk => by
  obtain ⟨k, rfl⟩ : ∃ m, k = m + 1 := ⟨k - 1, by omega⟩
  obtain rfl : i = 32 := by omega
  rw [waybillref03_digest.l1, if_neg (by omega)]
 | d + 1, i, k, h, hk => by
  obtain ⟨k, rfl⟩ : ∃ m, k = m + 1 := ⟨k - 1, by omega⟩
  have hsh : (BitVec.ofInt 64 ((24 : Int) - (((8 * (i % 4)) : Nat) : Int))).toNat = 24 - 8 * (i % 4) := by
   rw [show ((24 : Int) - (((8 * (i % 4)) : Nat) : Int)) = ((24 - 8 * (i % 4) : Nat) : Int) by omega, BitVec.ofInt_natCast, BitVec.toNat_ofNat]
   exact Nat.mod_eq_of_lt (by omega)
  rw [waybillref03_digest.l1, if_pos (by omega), if_pos (by omega), toV8_get hs (by omega), Zb, hsh, sqV_set s (by omega) _ rfl]
  exact rfold_in hs d (i + 1) k (by omega) (by omega)
theorem rfold_out (l : List (BitVec 8)) : ∀ (d i k : Nat), 64 * (i + d) = l.length → d < k → l.length ≤ 140737488355328 → waybillref03_digest.l2 k l constL (64 * i) (toV8 (soakS i l startL)) = some (toV8 (soakS (i + d) l startL))
 | 0, i, k, h, hk, hb => by
  obtain ⟨k, rfl⟩ : ∃ m, k = m + 1 := ⟨k - 1, by omega⟩
  rw [waybillref03_digest.l2, if_neg (by omega), Nat.add_zero]
 | d + 1, i, k, h, hk, hb => by
  obtain ⟨k, rfl⟩ : ∃ m, k = m + 1 := ⟨k - 1, by omega⟩
  have hl : ((l.take (64 * i + 64)).drop (64 * i)).length = 64 := by rw [List.length_drop, List.length_take]; omega
  have hd : (l.take (64 * i + 64)).drop (64 * i) = (l.drop (64 * i)).take 64 := by rw [List.drop_take]; congr 1; omega
  have h8 : (soakS i l startL).length = 8 := soakS_length _ _ _ rfl
  rw [waybillref03_digest.l2, if_pos (by omega), if_pos (by omega), if_pos (by omega)]
  unfold waybillref03_rounds
  rw [if_pos ⟨hl, rfl⟩, Zb, toV8_list h8, hd, ← soakS_snoc, show 64 * i + 64 = 64 * (i + 1) by omega, rfold_out l d (i + 1) k (by omega) (by omega) hb, show i + 1 + d = i + (d + 1) by omega]
theorem rpz_loop (n : Nat) : ∀ (d j k : Nat), j + d + 9 = padLen (n : Int) → d < k → waybillref03_Pad.l2 (n : Int) k (128#8 :: List.replicate j 0#8) = some (128#8 :: List.replicate (j + d) 0#8)
 | 0, j, k, h, hk => by
  obtain ⟨k, rfl⟩ : ∃ m, k = m + 1 := ⟨k - 1, by omega⟩
  have h3 := (padLen_ge n).2.2
  have hl : (128#8 :: List.replicate j 0#8).length = j + 1 := by simp
  rw [waybillref03_Pad.l2, if_pos (by rw [hl, Int.toNat_natCast]; omega), Nat.add_zero]
 | d + 1, j, k, h, hk => by
  obtain ⟨k, rfl⟩ : ∃ m, k = m + 1 := ⟨k - 1, by omega⟩
  have hl : (128#8 :: List.replicate j 0#8).length = j + 1 := by simp
  have hz : padLen (n : Int) = 9 + (64 - (n % 64 + 9) % 64) % 64 := by unfold padLen; omega
  rw [waybillref03_Pad.l2, if_neg (by rw [hl, Int.toNat_natCast]; omega), if_pos (by rw [hl, List.length_singleton]; have := padLen_ge n; omega)]
  rw [List.cons_append, ← List.replicate_succ', rpz_loop n d (j + 1) k (by omega) (by omega), show j + 1 + d = j + (d + 1) by omega]
theorem rpb_loop (n : Int) (P : List (BitVec 8)) (hP : P.length ≤ 1000) : ∀ (i k : Nat), i ≤ 8 → i < k → waybillref03_Pad.l1 n k (P ++ beL (BitVec.ofInt 64 n * 8#64) (8 - i)) (((i : Nat) : Int) - 1) = some (P ++ beL (BitVec.ofInt 64 n * 8#64) 8)
 | 0, k, hi, hk => by
  obtain ⟨k, rfl⟩ : ∃ m, k = m + 1 := ⟨k - 1, by omega⟩
  rw [waybillref03_Pad.l1, if_neg (by omega)]
 | i + 1, k, hi, hk => by
  obtain ⟨k, rfl⟩ : ∃ m, k = m + 1 := ⟨k - 1, by omega⟩
  have hl : (beL (BitVec.ofInt 64 n * 8#64) (8 - (i + 1))).length = 8 - (i + 1) := by simp [beL]
  have hsh : (BitVec.ofInt 64 ((8 : Int) * (((i + 1 : Nat) : Int) - 1))).toNat = 8 * i := by
   rw [show ((8 : Int) * (((i + 1 : Nat) : Int) - 1)) = ((8 * i : Nat) : Int) by omega, BitVec.ofInt_natCast, BitVec.toNat_ofNat]
   exact Nat.mod_eq_of_lt (by omega)
  rw [waybillref03_Pad.l1, if_pos (by omega), if_pos (by omega), if_pos (by rw [List.length_append, hl, List.length_singleton]; omega), if_pos (by omega), hsh, List.append_assoc]
  have e : beL (BitVec.ofInt 64 n * 8#64) (8 - (i + 1)) ++ [((BitVec.ofInt 64 n * 8#64) >>> (8 * i)).setWidth 8] = beL (BitVec.ofInt 64 n * 8#64) (8 - i) := by
   rw [show 8 - i = 8 - (i + 1) + 1 by omega, beL_succ, show 7 - (8 - (i + 1)) = i by omega]
  rw [e, show (((i + 1 : Nat) : Int) - 1 - 1) = ((i : Nat) : Int) - 1 by omega]
  exact rpb_loop n P hP i k (by omega) (by omega)
theorem rpad_eq (n : Nat) : waybillref03_Pad (n : Int) = some (padL (n : Int), 0) := by
 obtain ⟨h1, h2, h3⟩ := padLen_ge n
 have hp := rpb_loop (n : Int) (128#8 :: List.replicate (padLen (n : Int) - 9) 0#8) (by simp; omega) 8 80 (by omega) (by omega)
 rw [show (8 : Nat) - 8 = 0 by rfl, show beL (BitVec.ofInt 64 (n : Int) * 8#64) 0 = [] by rfl, List.append_nil, padL_parts h1] at hp
 unfold waybillref03_Pad
 rw [if_neg (by omega)]
 have hz := rpz_loop n (padLen (n : Int) - 9) 0 80 (by omega) (by omega)
 rw [Nat.zero_add] at hz
 rw [show ([128#8] : List (BitVec 8)) = 128#8 :: List.replicate 0 0#8 by rfl, hz, Zb]
 rw [show (7 : Int) = ((8 : Nat) : Int) - 1 by rfl, hp, Zb]
theorem rdig_eq (t : List (BitVec 8)) (hb : t.length ≤ 140737488351232) : waybillref03_digest t = some (shaV t) := by
 obtain ⟨h1, h2, h3⟩ := padLen_ge t.length
 have hl : (t ++ padL (t.length : Int)).length = t.length + padLen (t.length : Int) := by rw [List.length_append, padL_length]
 have hf : ([t, padL (t.length : Int)] : List (List (BitVec 8))).flatten = t ++ padL (t.length : Int) := by simp
 unfold waybillref03_digest
 rw [rpad_eq, Zb]
 dsimp only
 rw [rjoined3_eq _ (by rw [hf, hl]; omega), hf, Zb]
 unfold waybillref03_Roots waybillref03_Start
 rw [if_pos ⟨rfl, rfl⟩, Zb, Zb]
 have hq : 64 * (0 + (t ++ padL (t.length : Int)).length / 64) = (t ++ padL (t.length : Int)).length := by rw [hl]; omega
 have := rfold_out (t ++ padL (t.length : Int)) ((t ++ padL (t.length : Int)).length / 64) 0 ((t ++ padL (t.length : Int)).length - 0 + 2) hq (by omega) (by rw [hl]; omega)
 rw [Nat.mul_zero, soakS] at this
 rw [this, Zb]
 have h8 : (soakS (0 + (t ++ padL (t.length : Int)).length / 64) (t ++ padL (t.length : Int)) startL).length = 8 := soakS_length _ _ _ rfl
 have h0 : sqV (soakS (0 + (t ++ padL (t.length : Int)).length / 64) (t ++ padL (t.length : Int)) startL) 0 = Vector.replicate 32 0#8 := by
  apply Vector.toList_inj.1
  rw [sqV_list _ (by omega)]
  simp [sqTo]
 rw [← h0, rfold_in h8 32 0 (32 - 0 + 2) (by omega) (by omega), Zb]
 congr 1
 apply Vector.toList_inj.1
 rw [sqV_list _ (by omega), sqTo_all, shaV_list, shaR, Nat.zero_add]
theorem slent_loop : ∀ (d i k : Nat) (l : List (BitVec 8)), i + d = 70 → d < k → l.length + d ≤ 140737488355328 → waybilllaw03_lent.l1 k l i = some (l ++ List.replicate d 165#8)
 | 0, i, k, l, h, hk, hb => by
  obtain ⟨k, rfl⟩ : ∃ m, k = m + 1 := ⟨k - 1, by omega⟩
  rw [waybilllaw03_lent.l1, if_neg (by omega)]; simp
 | d + 1, i, k, l, h, hk, hb => by
  obtain ⟨k, rfl⟩ : ∃ m, k = m + 1 := ⟨k - 1, by omega⟩
  rw [waybilllaw03_lent.l1, if_pos (by omega), if_pos (by simp; omega), slent_loop d (i + 1) k _ (by omega) (by omega) (by simp; omega), List.append_assoc]
  rfl
theorem slent_eq (a : List (BitVec 8)) (ha : a.length + 70 ≤ 140737488355328) : waybilllaw03_lent a = some a := by
 unfold waybilllaw03_lent
 rw [scopied_eq a (by omega), Zb, slent_loop 70 0 (70 - 0 + 2) a (by omega) (by omega) (by omega), Zb, if_pos (by rw [List.length_append]; omega), if_pos (by rw [List.drop_left' rfl]), List.take_left' rfl]
theorem sstill_loop (a : List (BitVec 8)) : ∀ (d i k : Nat), i + d = a.length + 70 → d < k → waybilllaw03_still.l1 a a k i = some (Lp.go ())
 | 0, i, k, h, hk => by
  obtain ⟨k, rfl⟩ : ∃ m, k = m + 1 := ⟨k - 1, by omega⟩
  rw [waybilllaw03_still.l1, if_neg (by rw [List.length_take, List.length_append, List.length_replicate]; omega)]
 | d + 1, i, k, h, hk => by
  obtain ⟨k, rfl⟩ : ∃ m, k = m + 1 := ⟨k - 1, by omega⟩
  have hT : (a ++ List.replicate 70 165#8).take (a.length + 70) = a ++ List.replicate 70 165#8 := List.take_of_length_le (Nat.le_of_eq (by rw [List.length_append, List.length_replicate]))
  have hl : (a ++ List.replicate 70 165#8).length = a.length + 70 := by rw [List.length_append, List.length_replicate]
  rw [waybilllaw03_still.l1, hT, if_pos (by omega)]
  by_cases h1 : i < a.length
  ·rw [if_pos h1, List.getElem?_append_left h1, List.getElem?_eq_getElem h1, Zb, Zb, if_pos rfl, if_neg (by omega), Zb, if_neg (by decide)]
   exact sstill_loop a d (i + 1) k (by omega) (by omega)
  ·have h2 : (a ++ List.replicate 70 165#8)[i]? = some 165#8 := by rw [List.getElem?_append_right (by omega), List.getElem?_replicate, if_pos (by omega)]
   rw [if_neg h1, if_pos (by omega), h2, Zb, Zb, if_neg (by decide)]
   exact sstill_loop a d (i + 1) k (by omega) (by omega)
theorem sstill_eq (a : List (BitVec 8)) : waybilllaw03_still a a = some true := by
 have hT : (a ++ List.replicate 70 165#8).take (a.length + 70) = a ++ List.replicate 70 165#8 := List.take_of_length_le (Nat.le_of_eq (by rw [List.length_append, List.length_replicate]))
 have hl : (a ++ List.replicate 70 165#8).length = a.length + 70 := by rw [List.length_append, List.length_replicate]
 unfold waybilllaw03_still
 rw [if_pos rfl, if_pos (by omega), sstill_loop a (a.length + 70) 0 _ (by omega) (by rw [hT]; omega), Zb]
end Go.Fw
namespace Go.Fw
open Go
theorem set_own {α : Type} {l : List α} {i : Nat} {x : α} (h : l[i]? = some x) : l.set i x = l := by
 obtain ⟨hi, rfl⟩ := List.getElem?_eq_some_iff.1 h
 exact List.set_getElem_self hi
structure Hs where
 b : Nat
 s : List (BitVec 32)
 ob : Option Nat
 c : Nat
 r : List Value
 rest : List (BitVec 8)
 n : Int
 t : List (BitVec 8)
 d : Nat
 oe : Option Nat
 ce : Nat
 re : List Value
def Hs.cP (h : Hs) : List Value := u32s h.s ++ [sl h.ob 0 h.rest.length h.c, .int .i64 h.n]
def Hs.cD (h : Hs) : List Value := [sl h.oe 0 h.t.length h.ce]
def Hs.pEnts (tS t8 : TypeId) (h : Hs) : List Ent := [(some h.b, blk h.cP tS), (h.ob, blk (u8s h.rest ++ h.r) t8)]
def Hs.dEnts (tT t8 : TypeId) (h : Hs) : List Ent := [(some h.d, blk h.cD tT), (h.oe, blk (u8s h.t ++ h.re) t8)]
def Hs.ents (tS tT t8 : TypeId) (h : Hs) : List Ent := h.pEnts tS t8 ++ h.dEnts tT t8
structure Hs.Ok (h : Hs) : Prop where
 ht : HT h.s h.rest h.n h.t
 o1 : OwnS h.ob h.rest.length h.c 1 (u8s h.rest) h.r
 o2 : OwnS h.oe h.t.length h.ce 1 (u8s h.t) h.re
def plyE (tS tT t8 : TypeId) (l : List Hs) : List Ent := l.flatMap (Hs.ents tS tT t8)
theorem plyE_out {tS tT t8 : TypeId} {l : List Hs} {i : Nat} {x : Hs} (h : l[i]? = some x) : List.Perm (plyE tS tT t8 l) (x.ents tS tT t8 ++ plyE tS tT t8 (l.eraseIdx i)) := by
 obtain ⟨hi, rfl⟩ := List.getElem?_eq_some_iff.1 h
 have e : l = l.take i ++ l[i] :: l.drop (i + 1) := by rw [← List.drop_eq_getElem_cons hi, List.take_append_drop]
 have p : List.Perm l (l[i] :: l.eraseIdx i) := by
  rw [List.eraseIdx_eq_take_drop_succ]
  exact (List.Perm.of_eq e).trans List.perm_middle
 exact p.flatMap_right _
theorem plyE_in {tS tT t8 : TypeId} {l : List Hs} {i : Nat} {x : Hs} (h : i < l.length) : List.Perm (x.ents tS tT t8 ++ plyE tS tT t8 (l.eraseIdx i)) (plyE tS tT t8 (l.set i x)) := by
 have hs : (l.set i x)[i]? = some x := by rw [List.getElem?_set_self h]
 have p := (plyE_out (tS := tS) (tT := tT) (t8 := t8) hs).symm
 rwa [List.eraseIdx_set_eq] at p
def Hs.pp (h : Hs) : Value := ptr (some h.b) 0
def Hs.pd (h : Hs) : Value := ptr (some h.d) 0
theorem ply_get {l : List Hs} {i : Nat} {x : Hs} (f : Hs → Value) (h : l[i]? = some x) : (l.map f)[0 + i]? = some (f x) := by rw [Nat.zero_add, List.getElem?_map, h]; rfl
theorem ply_set {l : List Hs} {i : Nat} {y : Hs} (f : Hs → Value) : (l.map f).set (0 + i) (f y) = (l.set i y).map f := by rw [Nat.zero_add, List.map_set]
structure POp where
 kind : Int
 ath : Int
 data : List (BitVec 8)
def POpRd (Φ : Ctx) (cs : List Value) (o : POp) : Prop := ∃ (A : Option Addr) (c : Nat), cs = [.int .i64 o.kind, .int .i64 o.ath, .slice A o.data.length c] ∧ (-9223372036854775808 ≤ o.ath ∧ o.ath ≤ 9223372036854775807) ∧ View Φ A o.data.length c 1 (u8s o.data)
theorem POpRd.len {Φ : Ctx} (cs : List Value) (o : POp) (h : POpRd Φ cs o) : cs.length = 3 := by obtain ⟨A, c, rfl, _, _⟩ := h; rfl
theorem POpRd.one {Φ : Ctx} (cs : List Value) (o : POp) (h : POpRd Φ cs o) : ∀ u ∈ cs, u.oneCell' = true := by
 obtain ⟨A, c, rfl, _, _⟩ := h
 intro u hu
 simp only [List.mem_cons, List.not_mem_nil, or_false] at hu
 rcases hu with rfl | rfl | rfl <;> rfl
theorem POpRd.mono {Φ Ψ : Ctx} (hh : ∀ w, Ψ w → Φ w) (cs : List Value) (o : POp) : POpRd Φ cs o → POpRd Ψ cs o := fun ⟨A, c, e, b, v⟩ => ⟨A, c, e, b, v.mono hh⟩
def popTot (l : List POp) (i : Nat) : Nat := ((l.take i).map fun o => o.data.length).sum
theorem popTot_succ {l : List POp} {i : Nat} {o : POp} (h : l[i]? = some o) : popTot l (i + 1) = popTot l i + o.data.length := by
 unfold popTot
 rw [List.take_add_one, h, List.map_append, List.sum_append]
 simp
theorem popTot_le (l : List POp) (i : Nat) : popTot l i ≤ (l.map fun o => o.data.length).sum := by
 unfold popTot
 conv => rhs; rw [← List.take_append_drop i l, List.map_append, List.sum_append]
 omega
theorem ply_front {w0 w : World} {tS tT t8 : TypeId} {l : List Hs} {k : Nat} {x : Hs} {F X : List Ent} (hx : l[k]? = some x) (m : Mem w0 w (F ++ (plyE tS tT t8 l ++ X))) : Mem w0 w (x.ents tS tT t8 ++ (F ++ (plyE tS tT t8 (l.eraseIdx k) ++ X))) := by
 have p : List.Perm (F ++ (plyE tS tT t8 l ++ X)) (F ++ ((x.ents tS tT t8 ++ plyE tS tT t8 (l.eraseIdx k)) ++ X)) := List.Perm.append_left F (List.Perm.append_right X (plyE_out hx))
 have m2 := m.perm p
 rw [List.append_assoc] at m2
 exact m2.perm (List.perm_append_comm_assoc F _ _)
theorem ply_back {w0 w : World} {tS tT t8 : TypeId} {l : List Hs} {k : Nat} {y : Hs} {F X : List Ent} (hk : k < l.length) (m : Mem w0 w (y.ents tS tT t8 ++ (F ++ (plyE tS tT t8 (l.eraseIdx k) ++ X)))) : Mem w0 w (F ++ (plyE tS tT t8 (l.set k y) ++ X)) := by
 have m2 := m.perm (List.perm_append_comm_assoc _ F _)
 rw [← List.append_assoc (y.ents tS tT t8)] at m2
 exact m2.perm (List.Perm.append_left F (List.Perm.append_right X (plyE_in hk)))
theorem ply_take {w0 w : World} {tS tT t8 : TypeId} {l : List Hs} {k : Nat} {y : Hs} {F X : List Ent} (hk : k < l.length) (m : Mem w0 w (y.ents tS tT t8 ++ (F ++ (plyE tS tT t8 l ++ X)))) : Mem w0 w (F ++ (plyE tS tT t8 (l.set k y) ++ X)) := by
 have m2 := ply_front (F := y.ents tS tT t8 ++ F) (List.getElem?_eq_getElem hk) (by rw [List.append_assoc]; exact m)
 have m3 := m2.appR
 rw [List.append_assoc] at m3
 exact ply_back hk m3
theorem ply_wr {w0 w : World} {e o t1 b : Ent} {B N : List Ent} (m : Mem w0 w ((o :: B) ++ (b :: e :: t1 :: N))) : Mem w0 w (e :: o :: (B ++ N)) := by
 have p : List.Perm ((o :: B) ++ (e :: N)) (e :: o :: (B ++ N)) := List.perm_middle (l₁ := o :: B)
 exact (m.sublist (List.Sublist.append (List.Sublist.refl _) (List.Sublist.cons _ (List.Sublist.cons_cons _ (List.Sublist.cons _ (List.Sublist.refl _)))))).perm p
end Go.Fw
namespace Go.Fw.Tryd
open Go Go.Proofs Go.Fw
theorem waybilllaw03_copied_does (w0 : World) (Φ : Ctx) (N : List Ent) (hΦ : ∀ w, Mem w0 w N → Φ w) (A0_ : Option Addr) (c0_ : Nat) (a0 : List (BitVec 8)) (res0 : List (BitVec 8)) (va0 : View Φ A0_ a0.length c0_ 1 (u8s a0)) (hf : waybilllaw03_copied a0 = some res0) : DoesG Tryd.prog 72 [.slice A0_ a0.length c0_] w0 [] N (fun v G => ∃ B : List Ent, ∃ or0 : Option Nat, ∃ kr0 : Nat, ∃ rr0 : List Value, (OwnS or0 res0.length kr0 1 (u8s res0) rr0) ∧ v = sl or0 0 res0.length kr0 ∧ G = (or0, blk ((u8s res0) ++ rr0) 5) :: B) := by
 unfold waybilllaw03_copied at hf
 replace va0 := va0.mono (Ψ := More w0 Φ []) (fun w q => q.1)
 have m1 := va0.mx
 refine DoesG.enter Tryd.func72 rfl Tryd.ntmps72 rfl (M := (([] ++ N))) rfl (Z4 (Z2 (Z0 (Z5 rfl) rfl (Z6 (Z1 (Z4 (Z2 (Z0 (Z5 rfl) rfl (Z6 (Z1 (Z4 (Z4 (Z2 (Z0 (Z5 rfl) rfl (Z6 (Z1 ?_))))))))))))))))
 obtain ⟨q2, hq3, hf⟩ := Z106 hf
 refine CW.cutJ (fun L' M' => ∃ l4 : List (BitVec 8), ∃ ob5 : Option Nat, ∃ c6 : Nat, ∃ r7 : List Value, q2 = l4 ∧ (OwnS ob5 l4.length c6 1 (u8s l4) r7) ∧ L' = [(3, sl ob5 0 l4.length c6)] ∧ M' = ((ob5, blk ((u8s l4) ++ r7) 5) :: ([] ++ N))) ?_ ?_
 ·rintro L10 M11 ⟨l4, ob5, c6, r7, e9, o8, e12, e13⟩
  rw [e12, e13]
  clear e12 e13 L10 M11
  clear hq3
  rw [e9] at hf
  clear e9
  try dsimp only at hf
  have m14 := o8.mx
  refine Z1 (Z4 (Z2 (Z0 (Z3 rfl) rfl (Z0 (Z5 rfl) rfl (Z6 (Z1 (CW.ret ?_)))))))
  have e0 := Zi hf
  subst e0
  refine Z110 (rs := [.tmp 2]) ([sl ob5 0 l4.length c6]) ((ob5, blk ((u8s l4) ++ r7) 5) :: []) rfl ?_ rfl ?_ ?_ _ (.inl rfl)
  ·exact ⟨rfl, trivial⟩
  ·exact ⟨[], ob5, c6, r7, o8, rfl, rfl⟩
  ·exact (fun w m => m.pick [0] 1 rfl rfl)
 ·skip
  refine CW.block (CW.mem (M' := ((none, blk ((u8s ([] : List (BitVec 8))) ++ []) 5) :: ([] ++ N))) (fun w m => m.nil_ent _) (Z121 (fun k L' M' => ∃ l15 : List (BitVec 8), ∃ n20 : Nat, ∃ ob16 : Option Nat, ∃ c17 : Nat, ∃ r18 : List Value, (waybilllaw03_copied.l1 a0 k l15 n20) = some q2 ∧ (OwnS ob16 l15.length c17 1 (u8s l15) r18) ∧ (n20 ≤ 9223372036854775807) ∧ L' = [(0, .slice A0_ a0.length c0_), (3, sl ob16 0 l15.length c17), (4, .int .i64 ((n20 : Nat) : Int))] ∧ M' = ((ob16, blk ((u8s l15) ++ r18) 5) :: ([] ++ N))) (k0 := (a0.length - 0 + 2)) ⟨([] : List (BitVec 8)), 0, none, 0, [], hq3, OwnS.nil, (by omega), rfl, rfl⟩ ⟨rfl, rfl, rfl, trivial⟩ (fun w m => m.pick [0] 1 rfl rfl) ?_))
  clear hq3
  rintro k22 L25 M26 ⟨l15, n20, ob16, c17, r18, hl23, o19, b21, e27, e28⟩
  rw [e27, e28]
  clear e27 e28 L25 M26
  rcases k22 with _ | k22
  ·rw [waybilllaw03_copied.l1] at hl23; cases hl23
  rw [waybilllaw03_copied.l1] at hl23
  have m29 := o19.mx
  refine Z4 (Z4 (Z2 (Z0 (Z3 rfl) rfl (Z0 (Z3 rfl) rfl (Z0 (RV.len rfl rfl) rfl (Z0 (RV.lss rfl rfl) rfl (Z7 (.bool (decide (n20 < a0.length))) (congrArg Value.bool (decide_eq_decide.2 (by omega))) (Z6 (Z1 ?_)))))))))
  by_cases h30 : n20 < a0.length
  ·replace hl23 := if_t hl23 h30
   refine Z13 rfl (decide_eq_true h30) (CW.skip (Z1 (Z4 (CW.block (Z2 (Z0 (Z3 rfl) rfl (Z0 (Z3 rfl) rfl (Z0 (Z3 rfl) rfl ?_))))))))
   obtain ⟨x31, hx32, hl23⟩ := Z106 hl23
   have hl33 := lt_of_at hx32
   refine Z0 (Z127 (n20) rfl rfl rfl rfl rfl (va0.isSome (by decide) hl33) (by omega)) rfl (Z0 (Z21 rfl rfl rfl (fun w m => va0.cell (More.of hΦ 1 m rfl) (u8s_at hx32))) rfl (OW.ofN (NV.bs1 rfl rfl rfl rfl rfl rfl) rfl (fun b34 => (Z20 (M' := (((some b34), blk ((u8s ([x31] : List (BitVec 8))) ++ []) 5) :: (ob16, blk ((u8s l15) ++ r18) 5) :: ([] ++ N))) (fun w m => by first | exact m | simpa [u8s] using m) ?_))))
   have o35 : OwnS (some b34) ([x31] : List (BitVec 8)).length 1 1 (u8s ([x31] : List (BitVec 8))) [] := ⟨by simp [u8s], by simp [u8s], (fun h => nomatch h), by simp⟩
   have mx_o35 := o35.mx
   refine Z7 (sl (some b34) 0 ([x31] : List (BitVec 8)).length 1) (rfl) (OW.rot1 ?_)
   obtain ⟨g36, hl23⟩ := some_if hl23
   refine OW.appendOwn (s := 1) rfl rfl rfl rfl rfl rfl o19 (fun w m => m.rd0 (List.Mem.tail _ Zh) (fun e => o35.nilc (by decide) e)) o35.n (u8s_one _) (o35.zeroO (by decide)) (by decide) (by decide) (by first | omega | (simp only [i5, List.length_nil]; omega)) rfl rfl ((l15 ++ ([x31] : List (BitVec 8))).length) (u8s (l15 ++ ([x31] : List (BitVec 8)))) (List.length_append ..).symm (u8s_app _ _) (fun ob37 r38 c39 o40 => ?_)
   have m41 := o40.mx
   refine Z0 (Z5 rfl) rfl (Z6 (Z27 (Z1 (Z2 (Z0 (Z3 rfl) rfl (Z0 (RV.add rfl rfl (by omega)) rfl (Z7 (.int .i64 (((n20 + 1) : Nat) : Int)) (by first | rfl | (congr 1) | (congr 1; omega)) (Z0 (Z5 rfl) rfl (Z6 ?_)))))))))
   exact Z113 (k' := k22) (Nat.lt_succ_self _) ⟨(l15 ++ ([x31] : List (BitVec 8))), (n20 + 1), ob37, c39, r38, hl23, o40, (by omega), rfl, rfl⟩ ⟨rfl, rfl, rfl, trivial⟩ (fun w m => m.pick [0] 2 rfl rfl)
  ·replace hl23 := if_f hl23 h30
   refine Z14 rfl (decide_eq_false h30) (CW.exit (Z9 (Z9 (Z15 ?_))))
   exact QW.join ⟨l15, ob16, c17, r18, (Zi hl23).symm, o19, rfl, rfl⟩ ⟨rfl, trivial⟩ (fun w m => m.pick [0] 1 rfl rfl)
theorem waybilllaw03_which_does (w0 : World) (Φ : Ctx) (N : List Ent) (hΦ : ∀ w, Mem w0 w N → Φ w) (a0 : Int) (a1 : Int) (res0 : Int) (ba0 : -9223372036854775808 ≤ a0 ∧ a0 ≤ 9223372036854775807) (ba1 : -9223372036854775808 ≤ a1 ∧ a1 ≤ 9223372036854775807) (hf : waybilllaw03_which a0 a1 = some res0) : DoesG Tryd.prog 10 [.int .i64 a0, .int .i64 a1] w0 [] N (fun v G => (-9223372036854775808 ≤ res0 ∧ res0 ≤ 9223372036854775807) ∧ v = .int .i64 res0) := by
 unfold waybilllaw03_which at hf
 refine DoesG.enter Tryd.func10 rfl Tryd.ntmps10 rfl (M := (([] ++ N))) rfl (Z4 (Z2 (Z0 (Z5 rfl) rfl (Z6 (Z1 (Z4 (Z2 (Z0 (Z3 rfl) rfl (Z0 (Z3 rfl) rfl ?_)))))))))
 obtain ⟨g1, hf⟩ := some_if hf
 refine Z0 (RV.trem rfl rfl (by omega)) rfl ?_
 have b2 := And.intro (Int.lt_tmod_of_pos (a0) (show (0 : Int) < a1 by omega)) (Int.tmod_lt_of_pos (a0) (show (0 : Int) < a1 by omega))
 refine Z7 (.int .i64 ((a0).tmod a1)) (rfl) (Z0 (Z5 rfl) rfl (Z6 (Z1 (Z4 (Z4 (Z2 (Z0 (Z3 rfl) rfl (Z0 (RV.lss rfl rfl) rfl (Z6 (Z1 ?_))))))))))
 obtain ⟨q3, hq4, hf⟩ := Z106 hf
 refine CW.cutJ (fun L' M' => ∃ z5 : Int, q3 = z5 ∧ (-9223372036854775808 ≤ z5 ∧ z5 ≤ 9223372036854775807) ∧ L' = [(5, .int .i64 z5)] ∧ M' = (([] ++ N))) ?_ ?_
 ·rintro L8 M9 ⟨z5, e7, b6, e10, e11⟩
  rw [e10, e11]
  clear e10 e11 L8 M9
  clear hq4
  rw [e7] at hf
  clear e7
  try dsimp only at hf
  refine Z1 (Z4 (Z2 (Z0 (Z3 rfl) rfl (Z0 (Z5 rfl) rfl (Z6 (Z1 (CW.ret ?_)))))))
  have e0 := Zi hf
  subst e0
  refine Z110 (rs := [.tmp 4]) ([.int .i64 z5]) ([]) rfl ?_ rfl ?_ ?_ _ (.inl rfl)
  ·exact ⟨rfl, trivial⟩
  ·exact ⟨(by omega), rfl⟩
  ·exact (fun w m => m)
 ·skip
  by_cases h12 : ((a0).tmod a1) < (0 : Int)
  ·replace hq4 := if_t hq4 h12
   refine Z13 rfl (decide_eq_true h12) (Z2 (Z0 (Z3 rfl) rfl (Z0 (Z3 rfl) rfl ?_)))
   obtain ⟨g13, hq4⟩ := some_if hq4
   refine Z0 (RV.add rfl rfl (by omega)) rfl (Z0 (Z5 rfl) rfl (Z6 ?_))
   exact QW.join ⟨(((a0).tmod a1) + a1), (Zi hq4).symm, (by omega), rfl, rfl⟩ ⟨rfl, trivial⟩ (fun w m => m.pick [] 0 rfl rfl)
  ·replace hq4 := if_f hq4 h12
   refine Z14 rfl (decide_eq_false h12) (CW.skip ?_)
   exact QW.join ⟨((a0).tmod a1), (Zi hq4).symm, (by omega), rfl, rfl⟩ ⟨rfl, trivial⟩ (fun w m => m.pick [] 0 rfl rfl)
theorem waybillref03_Pad_does (w0 : World) (Φ : Ctx) (N : List Ent) (hΦ : ∀ w, Mem w0 w N → Φ w) (a0 : Int) (res0 : List (BitVec 8)) (res1 : Nat) (ba0 : -9223372036854775808 ≤ a0 ∧ a0 ≤ 9223372036854775807) (hf : waybillref03_Pad a0 = some (res0, res1)) : DoesG Tryd.prog 75 [.int .i64 a0] w0 [] N (fun v G => ∃ B : List Ent, ∃ or0 : Option Nat, ∃ kr0 : Nat, ∃ rr0 : List Value, (OwnS or0 res0.length kr0 1 (u8s res0) rr0) ∧ (res1 ≤ 9223372036854775807) ∧ v = .tuple #[sl or0 0 res0.length kr0, .int .i64 ((res1 : Nat) : Int)] ∧ G = (or0, blk ((u8s res0) ++ rr0) 5) :: B) := by
 unfold waybillref03_Pad at hf
 refine DoesG.enter Tryd.func75 rfl Tryd.ntmps75 rfl (M := (([] ++ N))) rfl (Z4 (Z2 (Z0 (Z5 rfl) rfl (Z0 (Z5 rfl) rfl (Z6 (Z1 (Z4 (Z4 (Z2 (Z0 (Z3 rfl) rfl (Z0 (RV.lss rfl rfl) rfl (Z6 (Z1 ?_)))))))))))))
 by_cases h1 : a0 < (0 : Int)
 ·replace hf := if_t hf h1
  refine Z13 rfl (decide_eq_true h1) (Z4 (Z2 (Z0 (Z5 rfl) rfl (Z0 (Z5 rfl) rfl (Z6 (Z1 (CW.ret (Z8 (QW.mem (M' := ((none, blk ((u8s ([] : List (BitVec 8))) ++ []) 5) :: ([] ++ N))) (fun w m => m.nil_ent _) ?_)))))))))
  have er0 := Zi hf
  obtain ⟨e0, er1⟩ := Prod.mk.inj er0
  clear er0
  subst e0
  subst er1
  refine Z110 (rs := [.tmp 2, .tmp 3]) ([sl none 0 ([] : List (BitVec 8)).length 0, .int .i64 (1 : Int)]) ((none, blk ((u8s ([] : List (BitVec 8))) ++ []) 5) :: []) rfl ?_ rfl ?_ ?_ _ (.inl rfl)
  ·exact ⟨rfl, rfl, trivial⟩
  ·exact ⟨[], none, 0, [], OwnS.nil, (by omega), rfl, rfl⟩
  ·exact (fun w m => m.pick [0] 1 rfl rfl)
 ·replace hf := if_f hf h1
  refine Z14 rfl (decide_eq_false h1) (CW.skip (Z1 (Z4 (Z2 (OW.ofN (NV.bs1 rfl rfl rfl rfl rfl rfl) rfl (fun b2 => (Z20 (M' := (((some b2), blk ((u8s ([128#8] : List (BitVec 8))) ++ []) 5) :: ([] ++ N))) (fun w m => by first | exact m | simpa [u8s] using m) ?_)))))))
  have o3 : OwnS (some b2) ([128#8] : List (BitVec 8)).length 1 1 (u8s ([128#8] : List (BitVec 8))) [] := ⟨by simp [u8s], by simp [u8s], (fun h => nomatch h), by simp⟩
  have mx_o3 := o3.mx
  refine Z7 (sl (some b2) 0 ([128#8] : List (BitVec 8)).length 1) (rfl) (Z0 (Z5 rfl) rfl (Z6 (Z1 (Z4 ?_))))
  obtain ⟨q4, hq5, hf⟩ := Z106 hf
  refine CW.cutJ (fun L' M' => ∃ l6 : List (BitVec 8), ∃ ob7 : Option Nat, ∃ c8 : Nat, ∃ r9 : List Value, q4 = l6 ∧ (OwnS ob7 l6.length c8 1 (u8s l6) r9) ∧ L' = [(0, .int .i64 a0), (4, sl ob7 0 l6.length c8)] ∧ M' = ((ob7, blk ((u8s l6) ++ r9) 5) :: ([] ++ N))) ?_ ?_
  ·rintro L12 M13 ⟨l6, ob7, c8, r9, e11, o10, e14, e15⟩
   rw [e14, e15]
   clear e14 e15 L12 M13
   clear hq5
   rw [e11] at hf
   clear e11
   try dsimp only at hf
   have m16 := o10.mx
   refine Z1 (Z4 (Z2 (Z0 (Z3 rfl) rfl (Z0 (RV.conv_i64 rfl rfl rfl) rfl (Z0 (RV.mul64 rfl (by first | rfl | exact lit64 _ rfl) rfl (by first | rfl | exact lit64 _ rfl)) rfl (Z0 (Z5 rfl) rfl (Z6 (Z1 (Z4 (Z4 (Z2 (Z0 (Z5 rfl) rfl (Z6 (Z1 ?_))))))))))))))
   obtain ⟨q17, hq18, hf⟩ := Z106 hf
   refine CW.cutJ (fun L' M' => ∃ l19 : List (BitVec 8), ∃ ob20 : Option Nat, ∃ c21 : Nat, ∃ r22 : List Value, q17 = l19 ∧ (OwnS ob20 l19.length c21 1 (u8s l19) r22) ∧ L' = [(4, sl ob20 0 l19.length c21)] ∧ M' = ((ob20, blk ((u8s l19) ++ r22) 5) :: ([] ++ N))) ?_ ?_
   ·rintro L25 M26 ⟨l19, ob20, c21, r22, e24, o23, e27, e28⟩
    rw [e27, e28]
    clear e27 e28 L25 M26
    clear hq18
    rw [e24] at hf
    clear e24
    try dsimp only at hf
    have m29 := o23.mx
    refine Z1 (Z4 (Z2 (Z0 (Z3 rfl) rfl (Z0 (Z5 rfl) rfl (Z0 (Z5 rfl) rfl (Z6 (Z1 (CW.ret ?_))))))))
    have er0 := Zi hf
    obtain ⟨e0, er1⟩ := Prod.mk.inj er0
    clear er0
    subst e0
    subst er1
    refine Z110 (rs := [.tmp 2, .tmp 3]) ([sl ob20 0 l19.length c21, .int .i64 (0 : Int)]) ((ob20, blk ((u8s l19) ++ r22) 5) :: []) rfl ?_ rfl ?_ ?_ _ (.inl rfl)
    ·exact ⟨rfl, rfl, trivial⟩
    ·exact ⟨[], ob20, c21, r22, o23, (by omega), rfl, rfl⟩
    ·exact (fun w m => m.pick [0] 1 rfl rfl)
   ·skip
    refine CW.block (Z121 (fun k L' M' => ∃ l30 : List (BitVec 8), ∃ z35 : Int, ∃ ob31 : Option Nat, ∃ c32 : Nat, ∃ r33 : List Value, (waybillref03_Pad.l1 a0 k l30 z35) = some q17 ∧ (OwnS ob31 l30.length c32 1 (u8s l30) r33) ∧ (-9223372036854775808 ≤ z35 ∧ z35 ≤ 9223372036854775807) ∧ L' = [(4, sl ob31 0 l30.length c32), (5, U64 ((BitVec.ofInt 64 a0) * 8#64)), (6, .int .i64 z35)] ∧ M' = ((ob31, blk ((u8s l30) ++ r33) 5) :: ([] ++ N))) (k0 := 80) ⟨l6, (7 : Int), ob7, c8, r9, hq18, o10, (by omega), rfl, rfl⟩ ⟨rfl, rfl, rfl, trivial⟩ (fun w m => m.pick [0] 1 rfl rfl) ?_)
    clear hq18
    rintro k37 L40 M41 ⟨l30, z35, ob31, c32, r33, hl38, o34, b36, e42, e43⟩
    rw [e42, e43]
    clear e42 e43 L40 M41
    rcases k37 with _ | k37
    ·rw [waybillref03_Pad.l1] at hl38; cases hl38
    rw [waybillref03_Pad.l1] at hl38
    have m44 := o34.mx
    refine Z4 (Z4 (Z2 (Z0 (Z3 rfl) rfl (Z0 (RV.geq rfl rfl) rfl (Z6 (Z1 ?_))))))
    by_cases h45 : (0 : Int) ≤ z35
    ·replace hl38 := if_t hl38 h45
     refine Z13 rfl (decide_eq_true h45) (CW.skip (Z1 (Z4 (CW.block (Z2 (Z0 (Z3 rfl) rfl (Z0 (Z3 rfl) rfl (Z0 (Z3 rfl) rfl ?_))))))))
     obtain ⟨g46, hl38⟩ := some_if hl38
     refine Z0 (RV.mul rfl rfl (by omega)) rfl (Z0 (RV.conv_i64 rfl rfl rfl) rfl ?_)
     refine Z0 (RV.shr64 (s := (BitVec.ofInt 64 ((8 : Int) * z35)).toNat) rfl (by first | rfl | exact lit64 _ rfl) rfl (by first | rfl | (simp [U64]; done))) rfl ?_
     refine Z0 (RV.conv64_8 rfl (by first | rfl | exact lit64 _ rfl) rfl rfl) rfl (OW.ofN (NV.bs1 rfl rfl rfl rfl rfl rfl) rfl (fun b47 => (Z20 (M' := (((some b47), blk ((u8s ([((((BitVec.ofInt 64 a0) * 8#64) >>> (BitVec.ofInt 64 ((8 : Int) * z35)).toNat).setWidth 8)] : List (BitVec 8))) ++ []) 5) :: (ob31, blk ((u8s l30) ++ r33) 5) :: ([] ++ N))) (fun w m => by first | exact m | simpa [u8s] using m) ?_)))
     have o48 : OwnS (some b47) ([((((BitVec.ofInt 64 a0) * 8#64) >>> (BitVec.ofInt 64 ((8 : Int) * z35)).toNat).setWidth 8)] : List (BitVec 8)).length 1 1 (u8s ([((((BitVec.ofInt 64 a0) * 8#64) >>> (BitVec.ofInt 64 ((8 : Int) * z35)).toNat).setWidth 8)] : List (BitVec 8))) [] := ⟨by simp [u8s], by simp [u8s], (fun h => nomatch h), by simp⟩
     have mx_o48 := o48.mx
     refine Z7 (sl (some b47) 0 ([((((BitVec.ofInt 64 a0) * 8#64) >>> (BitVec.ofInt 64 ((8 : Int) * z35)).toNat).setWidth 8)] : List (BitVec 8)).length 1) (rfl) (OW.rot1 ?_)
     obtain ⟨g49, hl38⟩ := some_if hl38
     refine OW.appendOwn (s := 1) rfl rfl rfl rfl rfl rfl o34 (fun w m => m.rd0 (List.Mem.tail _ Zh) (fun e => o48.nilc (by decide) e)) o48.n (u8s_one _) (o48.zeroO (by decide)) (by decide) (by decide) (by first | omega | (simp only [i5, List.length_nil]; omega)) rfl rfl ((l30 ++ ([((((BitVec.ofInt 64 a0) * 8#64) >>> (BitVec.ofInt 64 ((8 : Int) * z35)).toNat).setWidth 8)] : List (BitVec 8))).length) (u8s (l30 ++ ([((((BitVec.ofInt 64 a0) * 8#64) >>> (BitVec.ofInt 64 ((8 : Int) * z35)).toNat).setWidth 8)] : List (BitVec 8)))) (List.length_append ..).symm (u8s_app _ _) (fun ob50 r51 c52 o53 => ?_)
     have m54 := o53.mx
     refine Z0 (Z5 rfl) rfl (Z6 (Z27 (Z1 (Z2 (Z0 (Z3 rfl) rfl ?_)))))
     obtain ⟨g55, hl38⟩ := some_if hl38
     refine Z0 (RV.sub rfl rfl (by omega)) rfl (Z0 (Z5 rfl) rfl (Z6 ?_))
     exact Z113 (k' := k37) (Nat.lt_succ_self _) ⟨(l30 ++ ([((((BitVec.ofInt 64 a0) * 8#64) >>> (BitVec.ofInt 64 ((8 : Int) * z35)).toNat).setWidth 8)] : List (BitVec 8))), (z35 - (1 : Int)), ob50, c52, r51, hl38, o53, (by omega), rfl, rfl⟩ ⟨rfl, rfl, rfl, trivial⟩ (fun w m => m.pick [0] 2 rfl rfl)
    ·replace hl38 := if_f hl38 h45
     refine Z14 rfl (decide_eq_false h45) (CW.exit (Z9 (Z9 (Z15 ?_))))
     exact QW.join ⟨l30, ob31, c32, r33, (Zi hl38).symm, o34, rfl, rfl⟩ ⟨rfl, trivial⟩ (fun w m => m.pick [0] 1 rfl rfl)
  ·skip
   refine CW.block (Z121 (fun k L' M' => ∃ l56 : List (BitVec 8), ∃ ob57 : Option Nat, ∃ c58 : Nat, ∃ r59 : List Value, (waybillref03_Pad.l2 a0 k l56) = some q4 ∧ (OwnS ob57 l56.length c58 1 (u8s l56) r59) ∧ L' = [(0, .int .i64 a0), (4, sl ob57 0 l56.length c58)] ∧ M' = ((ob57, blk ((u8s l56) ++ r59) 5) :: ([] ++ N))) (k0 := 80) ⟨([128#8] : List (BitVec 8)), (some b2), 1, [], hq5, o3, rfl, rfl⟩ ⟨rfl, rfl, trivial⟩ (fun w m => m.pick [0] 1 rfl rfl) ?_)
   clear hq5
   rintro k61 L64 M65 ⟨l56, ob57, c58, r59, hl62, o60, e66, e67⟩
   rw [e66, e67]
   clear e66 e67 L64 M65
   rcases k61 with _ | k61
   ·rw [waybillref03_Pad.l2] at hl62; cases hl62
   rw [waybillref03_Pad.l2] at hl62
   have m68 := o60.mx
   refine Z4 (Z4 (Z2 (Z0 (Z3 rfl) rfl (Z0 (RV.rem rfl rfl (by omega) (by omega)) rfl (Z7 (.int .i64 (((a0).toNat % 64 : Nat) : Int)) (by first | rfl | (congr 1; omega)) (Z0 (Z3 rfl) rfl (Z0 (RV.len rfl rfl) rfl (Z0 (RV.add rfl rfl (by omega)) rfl (Z7 (.int .i64 (((((a0).toNat % 64) + l56.length) : Nat) : Int)) (by first | rfl | (congr 1) | (congr 1; omega)) ?_)))))))))
   refine Z0 (RV.add rfl rfl (by omega)) rfl (Z7 (.int .i64 ((((((a0).toNat % 64) + l56.length) + 8) : Nat) : Int)) (by first | rfl | (congr 1) | (congr 1; omega)) (Z0 (RV.rem rfl rfl (by omega) (by omega)) rfl (Z7 (.int .i64 ((((((a0).toNat % 64) + l56.length) + 8) % 64 : Nat) : Int)) (by first | rfl | (congr 1; omega)) (Z0 (RV.neq rfl rfl) rfl (Z7 (.bool (!decide ((((((a0).toNat % 64) + l56.length) + 8) % 64) = 0))) (congrArg (fun b => Value.bool (!b)) (decide_eq_decide.2 (by omega))) (Z6 (Z1 ?_)))))))
   by_cases h69 : (((((a0).toNat % 64) + l56.length) + 8) % 64) = 0
   ·replace hl62 := if_t hl62 h69
    refine Z14 rfl (congrArg (fun b => !b) (decide_eq_true h69)) (CW.exit (Z9 (Z9 (Z15 ?_))))
    exact QW.join ⟨l56, ob57, c58, r59, (Zi hl62).symm, o60, rfl, rfl⟩ ⟨rfl, rfl, trivial⟩ (fun w m => m.pick [0] 1 rfl rfl)
   ·replace hl62 := if_f hl62 h69
    refine Z13 rfl (congrArg (fun b => !b) (decide_eq_false h69)) (CW.skip (Z1 (CW.block (Z2 (Z0 (Z3 rfl) rfl (OW.ofN (NV.bs1 rfl rfl rfl rfl rfl rfl) rfl (fun b70 => (Z20 (M' := (((some b70), blk ((u8s ([0#8] : List (BitVec 8))) ++ []) 5) :: (ob57, blk ((u8s l56) ++ r59) 5) :: ([] ++ N))) (fun w m => by first | exact m | simpa [u8s] using m) ?_))))))))
    have o71 : OwnS (some b70) ([0#8] : List (BitVec 8)).length 1 1 (u8s ([0#8] : List (BitVec 8))) [] := ⟨by simp [u8s], by simp [u8s], (fun h => nomatch h), by simp⟩
    have mx_o71 := o71.mx
    refine Z7 (sl (some b70) 0 ([0#8] : List (BitVec 8)).length 1) (rfl) (OW.rot1 ?_)
    obtain ⟨g72, hl62⟩ := some_if hl62
    refine OW.appendOwn (s := 1) rfl rfl rfl rfl rfl rfl o60 (fun w m => m.rd0 (List.Mem.tail _ Zh) (fun e => o71.nilc (by decide) e)) o71.n (u8s_one _) (o71.zeroO (by decide)) (by decide) (by decide) (by first | omega | (simp only [i5, List.length_nil]; omega)) rfl rfl ((l56 ++ ([0#8] : List (BitVec 8))).length) (u8s (l56 ++ ([0#8] : List (BitVec 8)))) (List.length_append ..).symm (u8s_app _ _) (fun ob73 r74 c75 o76 => ?_)
    have m77 := o76.mx
    refine Z0 (Z5 rfl) rfl (Z6 (Z27 ?_))
    exact Z113 (k' := k61) (Nat.lt_succ_self _) ⟨(l56 ++ ([0#8] : List (BitVec 8))), ob73, c75, r74, hl62, o76, rfl, rfl⟩ ⟨rfl, rfl, trivial⟩ (fun w m => m.pick [0] 2 rfl rfl)
theorem Z115 (w0 : World) (Φ : Ctx) (N : List Ent) (hΦ : ∀ w, Mem w0 w N → Φ w) (A0_ : Option Addr) (c0_ : Nat) (cs0_ : List Value) (a0 : List (List (BitVec 8))) (res0 : List (BitVec 8)) (va0 : View Φ A0_ a0.length c0_ 1 cs0_) (ha0 : Reps (BsRd Φ) cs0_ a0) (hf : waybillref03_joined a0 = some res0) : DoesG Tryd.prog 41 [.slice A0_ a0.length c0_] w0 [] N (fun v G => ∃ B : List Ent, ∃ or0 : Option Nat, ∃ kr0 : Nat, ∃ rr0 : List Value, (OwnS or0 res0.length kr0 1 (u8s res0) rr0) ∧ v = sl or0 0 res0.length kr0 ∧ G = (or0, blk ((u8s res0) ++ rr0) 5) :: B) := by
 unfold waybillref03_joined at hf
 replace va0 := va0.mono (Ψ := More w0 Φ []) (fun w q => q.1)
 replace ha0 := ha0.mono (BsRd.mono (Ψ := More w0 Φ []) (fun w q => q.1))
 have m1 := va0.mx
 refine DoesG.enter Tryd.func41 rfl Tryd.ntmps41 rfl (M := (([] ++ N))) rfl (Z4 (Z2 (Z0 (Z5 rfl) rfl (Z6 (Z1 (Z4 (Z2 (Z0 (Z5 rfl) rfl (Z6 (Z1 (Z4 (Z4 (Z2 (Z0 (Z5 rfl) rfl (Z6 (Z1 ?_))))))))))))))))
 obtain ⟨q2, hq3, hf⟩ := Z106 hf
 refine CW.cutJ (fun L' M' => ∃ l4 : List (BitVec 8), ∃ ob5 : Option Nat, ∃ c6 : Nat, ∃ r7 : List Value, q2 = l4 ∧ (OwnS ob5 l4.length c6 1 (u8s l4) r7) ∧ L' = [(3, sl ob5 0 l4.length c6)] ∧ M' = ((ob5, blk ((u8s l4) ++ r7) 5) :: ([] ++ N))) ?_ ?_
 ·rintro L10 M11 ⟨l4, ob5, c6, r7, e9, o8, e12, e13⟩
  rw [e12, e13]
  clear e12 e13 L10 M11
  clear hq3
  rw [e9] at hf
  clear e9
  try dsimp only at hf
  have m14 := o8.mx
  refine Z1 (Z4 (Z2 (Z0 (Z3 rfl) rfl (Z0 (Z5 rfl) rfl (Z6 (Z1 (CW.ret ?_)))))))
  have e0 := Zi hf
  subst e0
  refine Z110 (rs := [.tmp 2]) ([sl ob5 0 l4.length c6]) ((ob5, blk ((u8s l4) ++ r7) 5) :: []) rfl ?_ rfl ?_ ?_ _ (.inl rfl)
  ·exact ⟨rfl, trivial⟩
  ·exact ⟨[], ob5, c6, r7, o8, rfl, rfl⟩
  ·exact (fun w m => m.pick [0] 1 rfl rfl)
 ·skip
  refine CW.block (CW.mem (M' := ((none, blk ((u8s ([] : List (BitVec 8))) ++ []) 5) :: ([] ++ N))) (fun w m => m.nil_ent _) (Z121 (fun k L' M' => ∃ l15 : List (BitVec 8), ∃ n20 : Nat, ∃ ob16 : Option Nat, ∃ c17 : Nat, ∃ r18 : List Value, (waybillref03_joined.l1 a0 k l15 n20) = some q2 ∧ (OwnS ob16 l15.length c17 1 (u8s l15) r18) ∧ (n20 ≤ 9223372036854775807) ∧ L' = [(0, .slice A0_ a0.length c0_), (3, sl ob16 0 l15.length c17), (4, .int .i64 ((n20 : Nat) : Int))] ∧ M' = ((ob16, blk ((u8s l15) ++ r18) 5) :: ([] ++ N))) (k0 := (a0.length - 0 + 2)) ⟨([] : List (BitVec 8)), 0, none, 0, [], hq3, OwnS.nil, (by omega), rfl, rfl⟩ ⟨rfl, rfl, rfl, trivial⟩ (fun w m => m.pick [0] 1 rfl rfl) ?_))
  clear hq3
  rintro k22 L25 M26 ⟨l15, n20, ob16, c17, r18, hl23, o19, b21, e27, e28⟩
  rw [e27, e28]
  clear e27 e28 L25 M26
  rcases k22 with _ | k22
  ·rw [waybillref03_joined.l1] at hl23; cases hl23
  rw [waybillref03_joined.l1] at hl23
  have m29 := o19.mx
  refine Z4 (Z4 (Z2 (Z0 (Z3 rfl) rfl (Z0 (Z3 rfl) rfl (Z0 (RV.len rfl rfl) rfl (Z0 (RV.lss rfl rfl) rfl (Z7 (.bool (decide (n20 < a0.length))) (congrArg Value.bool (decide_eq_decide.2 (by omega))) (Z6 (Z1 ?_)))))))))
  by_cases h30 : n20 < a0.length
  ·replace hl23 := if_t hl23 h30
   refine Z13 rfl (decide_eq_true h30) (CW.skip (Z1 (Z4 (CW.block (Z4 (Z2 (Z0 (Z5 rfl) rfl (Z6 (Z1 ?_)))))))))
   obtain ⟨q31, hq32, hl23⟩ := Z106 hl23
   refine CW.cutJ (fun L' M' => ∃ l33 : List (BitVec 8), ∃ ob34 : Option Nat, ∃ c35 : Nat, ∃ r36 : List Value, q31 = l33 ∧ (OwnS ob34 l33.length c35 1 (u8s l33) r36) ∧ L' = [(0, .slice A0_ a0.length c0_), (3, sl ob34 0 l33.length c35), (4, .int .i64 ((n20 : Nat) : Int))] ∧ M' = ((ob34, blk ((u8s l33) ++ r36) 5) :: ([] ++ N))) ?_ ?_
   ·rintro L39 M40 ⟨l33, ob34, c35, r36, e38, o37, e41, e42⟩
    rw [e41, e42]
    clear e41 e42 L39 M40
    clear hq32
    rw [e38] at hl23
    clear e38
    try dsimp only at hl23
    have m43 := o37.mx
    refine Z27 (Z1 (Z2 (Z0 (Z3 rfl) rfl (Z0 (RV.add rfl rfl (by omega)) rfl (Z7 (.int .i64 (((n20 + 1) : Nat) : Int)) (by first | rfl | (congr 1) | (congr 1; omega)) (Z0 (Z5 rfl) rfl (Z6 ?_)))))))
    exact Z113 (k' := k22) (Nat.lt_succ_self _) ⟨l33, (n20 + 1), ob34, c35, r36, hl23, o37, (by omega), rfl, rfl⟩ ⟨rfl, rfl, rfl, trivial⟩ (fun w m => m.pick [0] 1 rfl rfl)
   ·skip
    refine CW.block (Z121 (fun k L' M' => ∃ l44 : List (BitVec 8), ∃ n49 : Nat, ∃ ob45 : Option Nat, ∃ c46 : Nat, ∃ r47 : List Value, (waybillref03_joined.l2 a0 n20 k l44 n49) = some q31 ∧ (OwnS ob45 l44.length c46 1 (u8s l44) r47) ∧ (n49 ≤ 9223372036854775807) ∧ L' = [(0, .slice A0_ a0.length c0_), (3, sl ob45 0 l44.length c46), (4, .int .i64 ((n20 : Nat) : Int)), (5, .int .i64 ((n49 : Nat) : Int))] ∧ M' = ((ob45, blk ((u8s l44) ++ r47) 5) :: ([] ++ N))) (k0 := ((a0).flatten.length + 2)) ⟨l15, 0, ob16, c17, r18, hq32, o19, (by omega), rfl, rfl⟩ ⟨rfl, rfl, rfl, rfl, trivial⟩ (fun w m => m.pick [0] 1 rfl rfl) ?_)
    clear hq32
    rintro k51 L54 M55 ⟨l44, n49, ob45, c46, r47, hl52, o48, b50, e56, e57⟩
    rw [e56, e57]
    clear e56 e57 L54 M55
    rcases k51 with _ | k51
    ·rw [waybillref03_joined.l2] at hl52; cases hl52
    rw [waybillref03_joined.l2] at hl52
    have m58 := o48.mx
    refine Z4 (Z4 (Z2 (Z0 (Z3 rfl) rfl (Z0 (Z3 rfl) rfl (Z0 (Z3 rfl) rfl ?_)))))
    obtain ⟨x59, hx60, hl52⟩ := Z106 hl52
    have hl61 := lt_of_at hx60
    refine Z0 (Z127 (n20) rfl rfl rfl rfl rfl (va0.isSome (by decide) hl61) (by omega)) rfl ?_
    obtain ⟨cs62, h63, h64⟩ := ha0.get BsRd.len hx60
    obtain ⟨A65, c66, e68, v67⟩ := h63
    subst e68
    have m69 := v67.mx
    refine Z0 (Z21 rfl rfl rfl (fun w m => by have := va0.load (More.of hΦ 1 m rfl) h64 0 _ rfl; simpa [Addr.add] using this)) rfl ?_
    refine Z0 (RV.len rfl rfl) rfl (Z0 (RV.lss rfl rfl) rfl (Z7 (.bool (decide (n49 < x59.length))) (congrArg Value.bool (decide_eq_decide.2 (by omega))) (Z6 (Z1 ?_))))
    by_cases h70 : n49 < x59.length
    ·replace hl52 := if_t hl52 h70
     refine Z13 rfl (decide_eq_true h70) (CW.skip (Z1 (Z4 (CW.block (Z2 (Z0 (Z3 rfl) rfl (Z0 (Z3 rfl) rfl (Z0 (Z3 rfl) rfl ?_))))))))
     obtain ⟨x71, hx72, hl52⟩ := Z106 hl52
     have hl73 := lt_of_at hx72
     refine Z0 (Z127 (n20) rfl rfl rfl rfl rfl (va0.isSome (by decide) hl73) (by omega)) rfl ?_
     obtain ⟨cs74, h75, h76⟩ := ha0.get BsRd.len hx72
     obtain ⟨A77, c78, e80, v79⟩ := h75
     subst e80
     have m81 := v79.mx
     refine Z0 (Z21 rfl rfl rfl (fun w m => by have := va0.load (More.of hΦ 1 m rfl) h76 0 _ rfl; simpa [Addr.add] using this)) rfl ?_
     refine Z0 (Z3 rfl) rfl ?_
     obtain ⟨x82, hx83, hl52⟩ := Z106 hl52
     have hl84 := lt_of_at hx83
     refine Z0 (Z127 (n49) rfl rfl rfl rfl rfl (v79.isSome (by decide) hl84) (by omega)) rfl (Z0 (Z21 rfl rfl rfl (fun w m => v79.cell (More.of hΦ 1 m rfl) (u8s_at hx83))) rfl (OW.ofN (NV.bs1 rfl rfl rfl rfl rfl rfl) rfl (fun b85 => (Z20 (M' := (((some b85), blk ((u8s ([x82] : List (BitVec 8))) ++ []) 5) :: (ob45, blk ((u8s l44) ++ r47) 5) :: ([] ++ N))) (fun w m => by first | exact m | simpa [u8s] using m) ?_))))
     have o86 : OwnS (some b85) ([x82] : List (BitVec 8)).length 1 1 (u8s ([x82] : List (BitVec 8))) [] := ⟨by simp [u8s], by simp [u8s], (fun h => nomatch h), by simp⟩
     have mx_o86 := o86.mx
     refine Z7 (sl (some b85) 0 ([x82] : List (BitVec 8)).length 1) (rfl) (OW.rot1 ?_)
     obtain ⟨g87, hl52⟩ := some_if hl52
     refine OW.appendOwn (s := 1) rfl rfl rfl rfl rfl rfl o48 (fun w m => m.rd0 (List.Mem.tail _ Zh) (fun e => o86.nilc (by decide) e)) o86.n (u8s_one _) (o86.zeroO (by decide)) (by decide) (by decide) (by first | omega | (simp only [i5, List.length_nil]; omega)) rfl rfl ((l44 ++ ([x82] : List (BitVec 8))).length) (u8s (l44 ++ ([x82] : List (BitVec 8)))) (List.length_append ..).symm (u8s_app _ _) (fun ob88 r89 c90 o91 => ?_)
     have m92 := o91.mx
     refine Z0 (Z5 rfl) rfl (Z6 (Z27 (Z1 (Z2 (Z0 (Z3 rfl) rfl (Z0 (RV.add rfl rfl (by omega)) rfl (Z7 (.int .i64 (((n49 + 1) : Nat) : Int)) (by first | rfl | (congr 1) | (congr 1; omega)) (Z0 (Z5 rfl) rfl (Z6 ?_)))))))))
     exact Z113 (k' := k51) (Nat.lt_succ_self _) ⟨(l44 ++ ([x82] : List (BitVec 8))), (n49 + 1), ob88, c90, r89, hl52, o91, (by omega), rfl, rfl⟩ ⟨rfl, rfl, rfl, rfl, trivial⟩ (fun w m => m.pick [0] 2 rfl rfl)
    ·replace hl52 := if_f hl52 h70
     refine Z14 rfl (decide_eq_false h70) (CW.exit (Z9 (Z9 (Z15 ?_))))
     exact QW.join ⟨l44, ob45, c46, r47, (Zi hl52).symm, o48, rfl, rfl⟩ ⟨rfl, rfl, rfl, trivial⟩ (fun w m => m.pick [0] 1 rfl rfl)
  ·replace hl23 := if_f hl23 h30
   refine Z14 rfl (decide_eq_false h30) (CW.exit (Z9 (Z9 (Z15 ?_))))
   exact QW.join ⟨l15, ob16, c17, r18, (Zi hl23).symm, o19, rfl, rfl⟩ ⟨rfl, trivial⟩ (fun w m => m.pick [0] 1 rfl rfl)
theorem waybillref03_digest_does (w0 : World) (Φ : Ctx) (N : List Ent) (hΦ : ∀ w, Mem w0 w N → Φ w) (A0_ : Option Addr) (c0_ : Nat) (a0 : List (BitVec 8)) (res0 : Vector (BitVec 8) 32) (va0 : View Φ A0_ a0.length c0_ 1 (u8s a0)) (hf : waybillref03_digest a0 = some res0) : DoesG Tryd.prog 51 [.slice A0_ a0.length c0_] w0 [] N (fun v G => v = .agg (u8s res0.toList).toArray) := by
 unfold waybillref03_digest at hf
 replace va0 := va0.mono (Ψ := More w0 Φ []) (fun w q => q.1)
 have m1 := va0.mx
 refine DoesG.enter Tryd.func51 rfl Tryd.ntmps51 rfl (M := (([] ++ N))) rfl (Z4 (Z2 (OW.alloc (l := (u8s (Vector.replicate 32 0#8).toList)) rfl (by rw [Vector.toList_replicate, ← u8s_rep']; rfl) rfl (fun b2 => (Z6 (Z1 (Z4 (Z2 (Z0 (Z3 rfl) rfl (Z0 (RV.len rfl rfl) rfl ?_))))))))))
 obtain ⟨⟨x4, x5⟩, hx3, hf⟩ := Z106 hf
 try dsimp only at hf
 refine Z12 Tryd.call75 rfl (waybillref03_Pad_does w0 (More w0 Φ []) ((some b2, blk (u8s (Vector.replicate 32 0#8).toList) 39) :: ([] ++ N)) (fun w m => More.of hΦ 1 m rfl) ((a0.length : Nat) : Int) x4 x5 (by omega) hx3) rfl rfl ?_
 rintro L12 M13 ⟨B6, ob7, c8, r9, o10, b11, e14, e15⟩
 rw [e14, e15]
 clear e14 e15 L12 M13
 refine Z20 (M' := ((ob7, blk ((u8s x4) ++ r9) 5) :: (some b2, blk (u8s (Vector.replicate 32 0#8).toList) 39) :: ((B6 ++ []) ++ N))) (fun w m => by have h := Mem.sinkAt (A := B6) m 1 1 rfl rfl; exact h) ?_
 have gq1 : ∀ w, More w0 Φ (B6 ++ []) w → More w0 Φ [] w := fun w q => More.mono (fun w m => (m).appR) q
 replace va0 := va0.mono gq1
 have m16 := o10.mx
 refine Z0 (Z3 rfl) rfl (Z0 (Z17 rfl rfl) rfl (Z7 (sl ob7 0 x4.length c8) (rfl) (Z0 (Z17 rfl rfl) rfl (Z7 (.int .i64 ((x5 : Nat) : Int)) (rfl) (Z0 (Z5 rfl) rfl (Z0 (Z5 rfl) rfl (Z6 (Z1 (Z4 (Z2 ?_))))))))))
 refine Z0 (Z3 rfl) rfl (Z0 (Z3 rfl) rfl (Z20 (M' := (some b2, blk (u8s (Vector.replicate 32 0#8).toList) 39) :: (((ob7, blk ((u8s x4) ++ r9) 5) :: (B6 ++ [])) ++ N)) (fun w m => m.pick [1, 0] 2 rfl rfl) ?_))
 have gq2 : ∀ w, More w0 Φ ((ob7, blk ((u8s x4) ++ r9) 5) :: (B6 ++ [])) w → More w0 Φ (B6 ++ []) w := fun w q => More.mono (fun w m => (m).tail) q
 replace va0 := va0.mono gq2
 have v19 : View (More w0 Φ ((ob7, blk ((u8s x4) ++ r9) 5) :: (B6 ++ []))) ((ob7).map fun k => ⟨k, 0, none⟩) x4.length c8 1 (u8s x4) := o10.view (by decide) (fun w q => q.2.sublist (List.singleton_sublist.2 (List.mem_cons_self ..)))
 refine OW.ofN (NV.bsN rfl rfl rfl (by decide) (by decide) rfl rfl rfl rfl) rfl (fun b17 => ?_)
 have h21 : Reps (BsRd (More w0 Φ ((ob7, blk ((u8s x4) ++ r9) 5) :: (B6 ++ [])))) (([.slice A0_ a0.length c0_] : List Value) ++ ([.slice ((ob7).map fun k => ⟨k, 0, none⟩) x4.length c8] : List Value)) [a0, x4] := by simpa using (show Reps (BsRd (More w0 Φ ((ob7, blk ((u8s x4) ++ r9) 5) :: (B6 ++ [])))) _ [a0, x4] from (.cons (BsRd.mk va0) (.cons (BsRd.mk v19) .nil)))
 refine Z20 (M' := (((some b17), blk ((([.slice A0_ a0.length c0_] : List Value) ++ ([.slice ((ob7).map fun k => ⟨k, 0, none⟩) x4.length c8] : List Value)) ++ []) 27) :: (some b2, blk (u8s (Vector.replicate 32 0#8).toList) 39) :: (((ob7, blk ((u8s x4) ++ r9) 5) :: (B6 ++ [])) ++ N))) (fun w m => m) ?_
 have o18 : OwnS (some b17) ([a0, x4] : List (List (BitVec 8))).length 2 1 (([.slice A0_ a0.length c0_] : List Value) ++ ([.slice ((ob7).map fun k => ⟨k, 0, none⟩) x4.length c8] : List Value)) [] := ⟨by simp [BsRd], by simp [BsRd], (fun h => nomatch h), by simp⟩
 have mx_o18 := o18.mx
 refine Z7 (sl (some b17) 0 ([a0, x4] : List (List (BitVec 8))).length 2) (rfl) (Z20 (M' := (some b2, blk (u8s (Vector.replicate 32 0#8).toList) 39) :: ((((some b17), blk ((([.slice A0_ a0.length c0_] : List Value) ++ ([.slice ((ob7).map fun k => ⟨k, 0, none⟩) x4.length c8] : List Value)) ++ []) 27) :: ((ob7, blk ((u8s x4) ++ r9) 5) :: (B6 ++ []))) ++ N)) (fun w m => m.pick [1, 0] 2 rfl rfl) ?_)
 have gq3 : ∀ w, More w0 Φ (((some b17), blk ((([.slice A0_ a0.length c0_] : List Value) ++ ([.slice ((ob7).map fun k => ⟨k, 0, none⟩) x4.length c8] : List Value)) ++ []) 27) :: ((ob7, blk ((u8s x4) ++ r9) 5) :: (B6 ++ []))) w → More w0 Φ ((ob7, blk ((u8s x4) ++ r9) 5) :: (B6 ++ [])) w := fun w q => More.mono (fun w m => (m).tail) q
 replace va0 := va0.mono gq3
 replace v19 := v19.mono gq3
 replace h21 := h21.mono (BsRd.mono gq3)
 have v22 : View (More w0 Φ (((some b17), blk ((([.slice A0_ a0.length c0_] : List Value) ++ ([.slice ((ob7).map fun k => ⟨k, 0, none⟩) x4.length c8] : List Value)) ++ []) 27) :: ((ob7, blk ((u8s x4) ++ r9) 5) :: (B6 ++ [])))) (((some b17)).map fun k => ⟨k, 0, none⟩) ([a0, x4] : List (List (BitVec 8))).length 2 1 (([.slice A0_ a0.length c0_] : List Value) ++ ([.slice ((ob7).map fun k => ⟨k, 0, none⟩) x4.length c8] : List Value)) := o18.view (by decide) (fun w q => q.2.sublist (List.singleton_sublist.2 (List.mem_cons_self ..)))
 obtain ⟨x24, hx23, hf⟩ := Z106 hf
 refine Z12 Tryd.call41 rfl (Z115 w0 (More w0 Φ (((some b17), blk ((([.slice A0_ a0.length c0_] : List Value) ++ ([.slice ((ob7).map fun k => ⟨k, 0, none⟩) x4.length c8] : List Value)) ++ []) 27) :: ((ob7, blk ((u8s x4) ++ r9) 5) :: (B6 ++ [])))) ((some b2, blk (u8s (Vector.replicate 32 0#8).toList) 39) :: ((((some b17), blk ((([.slice A0_ a0.length c0_] : List Value) ++ ([.slice ((ob7).map fun k => ⟨k, 0, none⟩) x4.length c8] : List Value)) ++ []) 27) :: ((ob7, blk ((u8s x4) ++ r9) 5) :: (B6 ++ []))) ++ N)) (fun w m => More.of hΦ 1 m rfl) (((some b17)).map fun k => ⟨k, 0, none⟩) 2 (([.slice A0_ a0.length c0_] : List Value) ++ ([.slice ((ob7).map fun k => ⟨k, 0, none⟩) x4.length c8] : List Value)) ([a0, x4] : List (List (BitVec 8))) x24 v22 h21 hx23) rfl rfl ?_
 rintro L30 M31 ⟨B25, ob26, c27, r28, o29, e32, e33⟩
 rw [e32, e33]
 clear e32 e33 L30 M31
 refine Z20 (M' := ((ob26, blk ((u8s x24) ++ r28) 5) :: (some b2, blk (u8s (Vector.replicate 32 0#8).toList) 39) :: ((B25 ++ (((some b17), blk ((([.slice A0_ a0.length c0_] : List Value) ++ ([.slice ((ob7).map fun k => ⟨k, 0, none⟩) x4.length c8] : List Value)) ++ []) 27) :: ((ob7, blk ((u8s x4) ++ r9) 5) :: (B6 ++ [])))) ++ N))) (fun w m => by have h := Mem.sinkAt (A := B25) m 1 1 rfl rfl; exact h) ?_
 have gq4 : ∀ w, More w0 Φ (B25 ++ (((some b17), blk ((([.slice A0_ a0.length c0_] : List Value) ++ ([.slice ((ob7).map fun k => ⟨k, 0, none⟩) x4.length c8] : List Value)) ++ []) 27) :: ((ob7, blk ((u8s x4) ++ r9) 5) :: (B6 ++ [])))) w → More w0 Φ (((some b17), blk ((([.slice A0_ a0.length c0_] : List Value) ++ ([.slice ((ob7).map fun k => ⟨k, 0, none⟩) x4.length c8] : List Value)) ++ []) 27) :: ((ob7, blk ((u8s x4) ++ r9) 5) :: (B6 ++ []))) w := fun w q => More.mono (fun w m => (m).appR) q
 replace va0 := va0.mono gq4
 replace v19 := v19.mono gq4
 replace v22 := v22.mono gq4
 replace h21 := h21.mono (BsRd.mono gq4)
 have m34 := o29.mx
 refine Z0 (Z5 rfl) rfl (Z6 (Z1 (Z4 (Z2 ?_))))
 obtain ⟨x36, hx35, hf⟩ := Z106 hf
 refine Z12 Tryd.call76 rfl (waybillref03_Roots_does w0 (More w0 Φ (B25 ++ (((some b17), blk ((([.slice A0_ a0.length c0_] : List Value) ++ ([.slice ((ob7).map fun k => ⟨k, 0, none⟩) x4.length c8] : List Value)) ++ []) 27) :: ((ob7, blk ((u8s x4) ++ r9) 5) :: (B6 ++ []))))) ((ob26, blk ((u8s x24) ++ r28) 5) :: (some b2, blk (u8s (Vector.replicate 32 0#8).toList) 39) :: ((B25 ++ (((some b17), blk ((([.slice A0_ a0.length c0_] : List Value) ++ ([.slice ((ob7).map fun k => ⟨k, 0, none⟩) x4.length c8] : List Value)) ++ []) 27) :: ((ob7, blk ((u8s x4) ++ r9) 5) :: (B6 ++ [])))) ++ N)) (fun w m => More.of hΦ 2 m rfl) (64 : Int) (3 : Int) x36 (by omega) (by omega) hx35) rfl rfl ?_
 rintro L42 M43 ⟨B37, ob38, c39, r40, o41, e44, e45⟩
 rw [e44, e45]
 clear e44 e45 L42 M43
 refine Z20 (M' := ((ob38, blk ((u32s x36) ++ r40) 25) :: (ob26, blk ((u8s x24) ++ r28) 5) :: (some b2, blk (u8s (Vector.replicate 32 0#8).toList) 39) :: ((B37 ++ (B25 ++ (((some b17), blk ((([.slice A0_ a0.length c0_] : List Value) ++ ([.slice ((ob7).map fun k => ⟨k, 0, none⟩) x4.length c8] : List Value)) ++ []) 27) :: ((ob7, blk ((u8s x4) ++ r9) 5) :: (B6 ++ []))))) ++ N))) (fun w m => by have h := Mem.sinkAt (A := B37) m 1 2 rfl rfl; exact h) ?_
 have gq5 : ∀ w, More w0 Φ (B37 ++ (B25 ++ (((some b17), blk ((([.slice A0_ a0.length c0_] : List Value) ++ ([.slice ((ob7).map fun k => ⟨k, 0, none⟩) x4.length c8] : List Value)) ++ []) 27) :: ((ob7, blk ((u8s x4) ++ r9) 5) :: (B6 ++ []))))) w → More w0 Φ (B25 ++ (((some b17), blk ((([.slice A0_ a0.length c0_] : List Value) ++ ([.slice ((ob7).map fun k => ⟨k, 0, none⟩) x4.length c8] : List Value)) ++ []) 27) :: ((ob7, blk ((u8s x4) ++ r9) 5) :: (B6 ++ [])))) w := fun w q => More.mono (fun w m => (m).appR) q
 replace va0 := va0.mono gq5
 replace v19 := v19.mono gq5
 replace v22 := v22.mono gq5
 replace h21 := h21.mono (BsRd.mono gq5)
 have m46 := o41.mx
 refine Z0 (Z5 rfl) rfl (Z6 (Z1 (Z4 (Z2 ?_))))
 obtain ⟨x48, hx47, hf⟩ := Z106 hf
 refine Z12 Tryd.call77 rfl (waybillref03_Start_does w0 (More w0 Φ (B37 ++ (B25 ++ (((some b17), blk ((([.slice A0_ a0.length c0_] : List Value) ++ ([.slice ((ob7).map fun k => ⟨k, 0, none⟩) x4.length c8] : List Value)) ++ []) 27) :: ((ob7, blk ((u8s x4) ++ r9) 5) :: (B6 ++ [])))))) ((ob38, blk ((u32s x36) ++ r40) 25) :: (ob26, blk ((u8s x24) ++ r28) 5) :: (some b2, blk (u8s (Vector.replicate 32 0#8).toList) 39) :: ((B37 ++ (B25 ++ (((some b17), blk ((([.slice A0_ a0.length c0_] : List Value) ++ ([.slice ((ob7).map fun k => ⟨k, 0, none⟩) x4.length c8] : List Value)) ++ []) 27) :: ((ob7, blk ((u8s x4) ++ r9) 5) :: (B6 ++ []))))) ++ N)) (fun w m => More.of hΦ 3 m rfl) x48 hx47) rfl rfl ?_
 rintro _ G49 rfl
 refine Z20 (M' := ((ob38, blk ((u32s x36) ++ r40) 25) :: (ob26, blk ((u8s x24) ++ r28) 5) :: (some b2, blk (u8s (Vector.replicate 32 0#8).toList) 39) :: ((B37 ++ (B25 ++ (((some b17), blk ((([.slice A0_ a0.length c0_] : List Value) ++ ([.slice ((ob7).map fun k => ⟨k, 0, none⟩) x4.length c8] : List Value)) ++ []) 27) :: ((ob7, blk ((u8s x4) ++ r9) 5) :: (B6 ++ []))))) ++ N))) (fun w m => m.appR) (OW.alloc (l := (u32s (Vector.replicate 8 0#32).toList)) rfl (by rw [Vector.toList_replicate, ← Z123]; rfl) rfl (fun b51 => (Z28 (Z105 rfl rfl rfl (Z120 _) rfl ((Z100 _).trans Zv) ((Z100 _).trans Zv)) (Z6 (Z1 (Z4 (Z4 (Z2 (Z0 (Z5 rfl) rfl (Z6 (Z1 ?_)))))))))))
 obtain ⟨q52, hq53, hf⟩ := Z106 hf
 refine CW.cutJ (fun L' M' => ∃ w56 : Vector (BitVec 32) 8, ∃ B54 : List Ent, q52 = w56 ∧ (∀ w, Mem w0 w B54 → Mem w0 w (B37 ++ (B25 ++ (((some b17), blk ((([.slice A0_ a0.length c0_] : List Value) ++ ([.slice ((ob7).map fun k => ⟨k, 0, none⟩) x4.length c8] : List Value)) ++ []) 27) :: ((ob7, blk ((u8s x4) ++ r9) 5) :: (B6 ++ [])))))) ∧ L' = [(2, ptr (some b2) 0), (7, ptr (some b51) 0)] ∧ M' = ((some b51, blk (u32s w56.toList) 26) :: (some b2, blk (u8s (Vector.replicate 32 0#8).toList) 39) :: (B54 ++ N))) ?_ ?_
 ·rintro L58 M59 ⟨w56, B54, e57, hB55, e60, e61⟩
  rw [e60, e61]
  clear e60 e61 L58 M59
  clear hq53
  rw [e57] at hf
  clear e57
  try dsimp only at hf
  refine Z1 (Z4 (Z2 (OW.alloc (l := (u8s (Vector.replicate 32 0#8).toList)) rfl (by rw [Vector.toList_replicate, ← u8s_rep']; rfl) rfl (fun b62 => (Z6 (Z1 (Z4 (Z4 (Z2 (Z0 (Z5 rfl) rfl (Z6 (Z1 ?_))))))))))))
  obtain ⟨q63, hq64, hf⟩ := Z106 hf
  refine CW.cutJ (fun L' M' => ∃ w65 : Vector (BitVec 8) 32, q63 = w65 ∧ L' = [(2, ptr (some b2) 0), (9, ptr (some b62) 0)] ∧ M' = ((some b62, blk (u8s w65.toList) 39) :: (some b2, blk (u8s (Vector.replicate 32 0#8).toList) 39) :: (B54 ++ N))) ?_ ?_
  ·rintro L67 M68 ⟨w65, e66, e69, e70⟩
   rw [e69, e70]
   clear e69 e70 L67 M68
   clear hq64
   rw [e66] at hf
   clear e66
   try dsimp only at hf
   refine Z1 (Z4 (Z2 (Z0 (Z22 rfl Zh rfl rfl rfl rfl ((Z102 _).trans Zv)) rfl (OW.rot1 (Z28 (Z105 rfl rfl rfl (u8s_one _) rfl ((Z102 _).trans Zv) ((Z102 _).trans Zv)) (Z6 (Z1 (CW.ret ?_))))))))
   have e0 := Zi hf
   subst e0
   refine Z110 (rs := [.cell 2 39]) ([.agg (u8s w65.toList).toArray]) ((some b2, blk (u8s w65.toList) 39) :: (some b62, blk (u8s w65.toList) 39) :: B54) rfl ?_ rfl ?_ ?_ _ (.inl rfl)
   ·exact ⟨⟨_, _, _, _, rfl, Zh, rfl, rfl, (congrArg some ((Z102 _).trans Zv).symm), rfl⟩, trivial⟩
   ·exact rfl
   ·exact (fun w m => m)
  ·skip
   refine CW.block (Z121 (fun k L' M' => ∃ n71 : Nat, ∃ w73 : Vector (BitVec 8) 32, (waybillref03_digest.l1 w56 k n71 w73) = some q63 ∧ (n71 ≤ 9223372036854775807) ∧ L' = [(2, ptr (some b2) 0), (7, ptr (some b51) 0), (9, ptr (some b62) 0), (10, .int .i64 ((n71 : Nat) : Int))] ∧ M' = ((some b62, blk (u8s w73.toList) 39) :: (some b51, blk (u32s w56.toList) 26) :: (some b2, blk (u8s (Vector.replicate 32 0#8).toList) 39) :: (B54 ++ N))) (k0 := (32 - 0 + 2)) ⟨0, (Vector.replicate 32 0#8), hq64, (by omega), rfl, rfl⟩ ⟨rfl, rfl, rfl, rfl, trivial⟩ (fun w m => m.pick [0, 1, 2] 3 rfl rfl) ?_)
   clear hq64
   rintro k74 L77 M78 ⟨n71, w73, hl75, b72, e79, e80⟩
   rw [e79, e80]
   clear e79 e80 L77 M78
   rcases k74 with _ | k74
   ·rw [waybillref03_digest.l1] at hl75; cases hl75
   rw [waybillref03_digest.l1] at hl75
   refine Z4 (Z4 (Z2 (Z0 (Z3 rfl) rfl (Z0 (RV.lss rfl rfl) rfl (Z7 (.bool (decide (n71 < 32))) (congrArg Value.bool (decide_eq_decide.2 (by omega))) (Z6 (Z1 ?_)))))))
   by_cases h81 : n71 < 32
   ·replace hl75 := if_t hl75 h81
    refine Z13 rfl (decide_eq_true h81) (CW.skip (Z1 (Z4 (CW.block (Z2 (Z0 (Z3 rfl) rfl (Z0 (Z3 rfl) rfl (Z0 (RV.quo rfl rfl (by omega) (by omega) (by omega)) rfl (Z7 (.int .i64 ((n71 / 4 : Nat) : Int)) (by first | rfl | (congr 1; omega)) ?_)))))))))
    obtain ⟨g82, hl75⟩ := some_if hl75
    refine Z0 (Z103 ((n71 / 4)) rfl rfl rfl rfl rfl (by omega)) rfl ?_
    obtain ⟨x83, hx84, hl75⟩ := Z106 hl75
    refine Z0 (Z29 rfl (List.Mem.tail _ Zh) rfl rfl rfl (by rw [Nat.zero_add]; exact u32s_at (vat hx84))) rfl ?_
    refine Z0 (Z3 rfl) rfl (Z0 (RV.rem rfl rfl (by omega) (by omega)) rfl (Z7 (.int .i64 ((n71 % 4 : Nat) : Int)) (by first | rfl | (congr 1; omega)) (Z0 (RV.mul rfl rfl (by omega)) rfl (Z7 (.int .i64 (((8 * (n71 % 4)) : Nat) : Int)) (by first | rfl | (congr 1) | (congr 1; omega)) (Z0 (RV.sub rfl rfl (by omega)) rfl (Z0 (RV.conv_i64 rfl rfl rfl) rfl ?_))))))
    refine Z0 (RV.shr32 (s := (BitVec.ofInt 64 ((24 : Int) - (((8 * (n71 % 4)) : Nat) : Int))).toNat) rfl (by first | rfl | exact lit32 _ rfl) rfl (by first | rfl | (simp [U64]; done))) rfl ?_
    refine Z0 (RV.conv32_8 rfl (by first | rfl | exact lit32 _ rfl) rfl rfl) rfl (Z0 (Z103 (n71) rfl rfl rfl rfl rfl (by omega)) rfl (Z28 (SV.store rfl rfl rfl rfl rfl (by rw [Z102, Zv]; omega)) (OW.cells (u8s (w73.setIfInBounds n71 ((x83 >>> (BitVec.ofInt 64 ((24 : Int) - (((8 * (n71 % 4)) : Nat) : Int))).toNat).setWidth 8)).toList) (by rw [Nat.zero_add, u8s_set', vset]) (Z6 (Z27 (Z1 (Z2 (Z0 (Z3 rfl) rfl (Z0 (RV.add rfl rfl (by omega)) rfl (Z7 (.int .i64 (((n71 + 1) : Nat) : Int)) (by first | rfl | (congr 1) | (congr 1; omega)) ?_))))))))))
    refine Z0 (Z5 rfl) rfl (Z6 ?_)
    exact Z113 (k' := k74) (Nat.lt_succ_self _) ⟨(n71 + 1), (w73.setIfInBounds n71 ((x83 >>> (BitVec.ofInt 64 ((24 : Int) - (((8 * (n71 % 4)) : Nat) : Int))).toNat).setWidth 8)), hl75, (by omega), rfl, rfl⟩ ⟨rfl, rfl, rfl, rfl, trivial⟩ (fun w m => m.pick [0, 1, 2] 3 rfl rfl)
   ·replace hl75 := if_f hl75 h81
    refine Z14 rfl (decide_eq_false h81) (CW.exit (Z9 (Z9 (Z15 ?_))))
    exact QW.join ⟨w73, (Zi hl75).symm, rfl, rfl⟩ ⟨rfl, rfl, trivial⟩ (fun w m => m.pick [0, 2] 3 rfl rfl)
 ·skip
  refine CW.block (CW.mem (M' := (some b51, blk (u32s x48.toList) 26) :: (ob38, blk ((u32s x36) ++ r40) 25) :: (some b2, blk (u8s (Vector.replicate 32 0#8).toList) 39) :: (((ob26, blk ((u8s x24) ++ r28) 5) :: (B37 ++ (B25 ++ (((some b17), blk ((([.slice A0_ a0.length c0_] : List Value) ++ ([.slice ((ob7).map fun k => ⟨k, 0, none⟩) x4.length c8] : List Value)) ++ []) 27) :: ((ob7, blk ((u8s x4) ++ r9) 5) :: (B6 ++ [])))))) ++ N)) (fun w m => m.pick [0, 1, 3, 2] 4 rfl rfl) ?_)
  have gq6 : ∀ w, More w0 Φ ((ob26, blk ((u8s x24) ++ r28) 5) :: (B37 ++ (B25 ++ (((some b17), blk ((([.slice A0_ a0.length c0_] : List Value) ++ ([.slice ((ob7).map fun k => ⟨k, 0, none⟩) x4.length c8] : List Value)) ++ []) 27) :: ((ob7, blk ((u8s x4) ++ r9) 5) :: (B6 ++ [])))))) w → More w0 Φ (B37 ++ (B25 ++ (((some b17), blk ((([.slice A0_ a0.length c0_] : List Value) ++ ([.slice ((ob7).map fun k => ⟨k, 0, none⟩) x4.length c8] : List Value)) ++ []) 27) :: ((ob7, blk ((u8s x4) ++ r9) 5) :: (B6 ++ []))))) w := fun w q => More.mono (fun w m => (m).tail) q
  replace va0 := va0.mono gq6
  replace v19 := v19.mono gq6
  replace v22 := v22.mono gq6
  replace h21 := h21.mono (BsRd.mono gq6)
  have v100 : View (More w0 Φ ((ob26, blk ((u8s x24) ++ r28) 5) :: (B37 ++ (B25 ++ (((some b17), blk ((([.slice A0_ a0.length c0_] : List Value) ++ ([.slice ((ob7).map fun k => ⟨k, 0, none⟩) x4.length c8] : List Value)) ++ []) 27) :: ((ob7, blk ((u8s x4) ++ r9) 5) :: (B6 ++ []))))))) ((ob26).map fun k => ⟨k, 0, none⟩) x24.length c27 1 (u8s x24) := o29.view (by decide) (fun w q => q.2.sublist (List.singleton_sublist.2 (List.mem_cons_self ..)))
  refine CW.mem (M' := (some b51, blk (u32s x48.toList) 26) :: (some b2, blk (u8s (Vector.replicate 32 0#8).toList) 39) :: (((ob38, blk ((u32s x36) ++ r40) 25) :: ((ob26, blk ((u8s x24) ++ r28) 5) :: (B37 ++ (B25 ++ (((some b17), blk ((([.slice A0_ a0.length c0_] : List Value) ++ ([.slice ((ob7).map fun k => ⟨k, 0, none⟩) x4.length c8] : List Value)) ++ []) 27) :: ((ob7, blk ((u8s x4) ++ r9) 5) :: (B6 ++ []))))))) ++ N)) (fun w m => m.pick [0, 2, 1] 3 rfl rfl) ?_
  have gq7 : ∀ w, More w0 Φ ((ob38, blk ((u32s x36) ++ r40) 25) :: ((ob26, blk ((u8s x24) ++ r28) 5) :: (B37 ++ (B25 ++ (((some b17), blk ((([.slice A0_ a0.length c0_] : List Value) ++ ([.slice ((ob7).map fun k => ⟨k, 0, none⟩) x4.length c8] : List Value)) ++ []) 27) :: ((ob7, blk ((u8s x4) ++ r9) 5) :: (B6 ++ []))))))) w → More w0 Φ ((ob26, blk ((u8s x24) ++ r28) 5) :: (B37 ++ (B25 ++ (((some b17), blk ((([.slice A0_ a0.length c0_] : List Value) ++ ([.slice ((ob7).map fun k => ⟨k, 0, none⟩) x4.length c8] : List Value)) ++ []) 27) :: ((ob7, blk ((u8s x4) ++ r9) 5) :: (B6 ++ [])))))) w := fun w q => More.mono (fun w m => (m).tail) q
  replace va0 := va0.mono gq7
  replace v19 := v19.mono gq7
  replace v22 := v22.mono gq7
  replace h21 := h21.mono (BsRd.mono gq7)
  replace v100 := v100.mono gq7
  have v101 : View (More w0 Φ ((ob38, blk ((u32s x36) ++ r40) 25) :: ((ob26, blk ((u8s x24) ++ r28) 5) :: (B37 ++ (B25 ++ (((some b17), blk ((([.slice A0_ a0.length c0_] : List Value) ++ ([.slice ((ob7).map fun k => ⟨k, 0, none⟩) x4.length c8] : List Value)) ++ []) 27) :: ((ob7, blk ((u8s x4) ++ r9) 5) :: (B6 ++ [])))))))) ((ob38).map fun k => ⟨k, 0, none⟩) x36.length c39 1 (u32s x36) := o41.view (by decide) (fun w q => q.2.sublist (List.singleton_sublist.2 (List.mem_cons_self ..)))
  refine Z121 (fun k L' M' => ∃ l104 : List (BitVec 8), ∃ l108 : List (BitVec 32), ∃ n112 : Nat, ∃ w114 : Vector (BitVec 32) 8, ∃ B102 : List Ent, ∃ A105 : Option Addr, ∃ c106 : Nat, ∃ A109 : Option Addr, ∃ c110 : Nat, (waybillref03_digest.l2 k l104 l108 n112 w114) = some q52 ∧ (∀ w, Mem w0 w B102 → Mem w0 w ((ob38, blk ((u32s x36) ++ r40) 25) :: ((ob26, blk ((u8s x24) ++ r28) 5) :: (B37 ++ (B25 ++ (((some b17), blk ((([.slice A0_ a0.length c0_] : List Value) ++ ([.slice ((ob7).map fun k => ⟨k, 0, none⟩) x4.length c8] : List Value)) ++ []) 27) :: ((ob7, blk ((u8s x4) ++ r9) 5) :: (B6 ++ [])))))))) ∧ (View (More w0 Φ B102) A105 l104.length c106 1 (u8s l104)) ∧ (View (More w0 Φ B102) A109 l108.length c110 1 (u32s l108)) ∧ (n112 ≤ 9223372036854775807) ∧ L' = [(2, ptr (some b2) 0), (5, .slice A105 l104.length c106), (6, .slice A109 l108.length c110), (7, ptr (some b51) 0), (8, .int .i64 ((n112 : Nat) : Int))] ∧ M' = ((some b51, blk (u32s w114.toList) 26) :: (some b2, blk (u8s (Vector.replicate 32 0#8).toList) 39) :: (B102 ++ N))) (k0 := (x24.length - 0 + 2)) ⟨x24, x36, 0, x48, ((ob38, blk ((u32s x36) ++ r40) 25) :: ((ob26, blk ((u8s x24) ++ r28) 5) :: (B37 ++ (B25 ++ (((some b17), blk ((([.slice A0_ a0.length c0_] : List Value) ++ ([.slice ((ob7).map fun k => ⟨k, 0, none⟩) x4.length c8] : List Value)) ++ []) 27) :: ((ob7, blk ((u8s x4) ++ r9) 5) :: (B6 ++ []))))))), ((ob26).map fun k => ⟨k, 0, none⟩), c27, ((ob38).map fun k => ⟨k, 0, none⟩), c39, hq53, (fun w m => m), v100, v101, (by omega), rfl, rfl⟩ ⟨rfl, rfl, rfl, rfl, rfl, trivial⟩ (fun w m => m.pick [0, 1] 2 rfl rfl) ?_
  clear hq53
  rintro k98 L116 M117 ⟨l104, l108, n112, w114, B102, A105, c106, A109, c110, hl99, hB103, v107, v111, b113, e118, e119⟩
  rw [e118, e119]
  clear e118 e119 L116 M117
  rcases k98 with _ | k98
  ·rw [waybillref03_digest.l2] at hl99; cases hl99
  rw [waybillref03_digest.l2] at hl99
  have m120 := v107.mx
  have m121 := v111.mx
  refine Z4 (Z4 (Z2 (Z0 (Z3 rfl) rfl (Z0 (Z3 rfl) rfl (Z0 (RV.len rfl rfl) rfl (Z0 (RV.lss rfl rfl) rfl (Z7 (.bool (decide (n112 < l104.length))) (congrArg Value.bool (decide_eq_decide.2 (by omega))) (Z6 (Z1 ?_)))))))))
  by_cases h122 : n112 < l104.length
  ·replace hl99 := if_t hl99 h122
   refine Z13 rfl (decide_eq_true h122) (CW.skip (Z1 (Z4 (CW.block (CW.drawsX ((some b2, blk (u8s (Vector.replicate 32 0#8).toList) 39) :: (B102 ++ N)) [8] (fun w m => m.pick [1] 2 rfl rfl) mixed (by kernel_rfl) (XW.rv 0 rfl (by kernel_rfl) rfl (by kernel_rfl) (Z22 rfl Zh rfl rfl rfl rfl ((Z100 _).trans Zv)) rfl (Z10 1 rfl (by kernel_rfl) rfl (Z3 rfl) rfl (Z10 2 rfl (by kernel_rfl) rfl (Z3 rfl) rfl (Z10 3 rfl (by kernel_rfl) rfl (Z3 rfl) rfl (Z10 4 rfl (by kernel_rfl) rfl (RV.add rfl rfl (by omega)) rfl ?_))))))))))
   refine XW.slot (.int .i64 (((n112 + 64) : Nat) : Int)) (by first | rfl | (congr 1) | (congr 1; omega)) ?_
   obtain ⟨g124, hl99⟩ := some_if hl99
   obtain ⟨g125, hl99⟩ := some_if hl99
   have hle := v107.le
   refine Z10 5 rfl (by kernel_rfl) rfl (RV.cut_both (s := 1) (n112) ((n112 + 64)) rfl rfl rfl (by omega) (by omega) rfl rfl (by omega) (by omega)) rfl (XW.slot (.slice (subA A105 c106 n112 1) ((l104.take (n112 + 64)).drop n112).length (c106 - n112)) (by rw [show (((l104.take (n112 + 64)).drop n112)).length = ((n112 + 64)) - (n112) from List.length_drop.trans (by rw [List.length_take, Nat.min_eq_left (by omega)])]) ?_)
   have v123 : View (More w0 Φ B102) (subA A105 c106 n112 1) ((l104.take (n112 + 64)).drop n112).length (c106 - n112) 1 (u8s ((l104.take (n112 + 64)).drop n112)) := v107.mid8 (by omega) (by omega)
   have m126 := v123.mx
   refine Z10 6 rfl (by kernel_rfl) rfl (Z3 rfl) rfl ?_
   obtain ⟨x128, hx127, hl99⟩ := Z106 hl99
   refine Z11 7 rfl (by kernel_rfl) rfl Tryd.call78 rfl (fun N' hN' => waybillref03_rounds_does w0 (More w0 Φ B102) N' (fun w m => More.of hΦ 2 (hN' w m) rfl) w114 (subA A105 c106 n112 1) (c106 - n112) ((l104.take (n112 + 64)).drop n112) A109 c110 l108 x128 v123 v111 hx127) rfl ?_
   rintro _ G129 rfl
   refine Z19 (M' := ((some b51, blk (u32s w114.toList) 26) :: (some b2, blk (u8s (Vector.replicate 32 0#8).toList) 39) :: (B102 ++ N))) (fun w m => m.appR) (fun w m => m.pick [1] 2 rfl rfl) (XW.sv 8 rfl (by kernel_rfl) (Z105 rfl rfl rfl (Z120 _) rfl ((Z100 _).trans Zv) ((Z100 _).trans Zv)) (fun w m => m.pick [1] 2 rfl rfl) (XW.nil (by kernel_rfl) (Z27 (Z1 (Z2 (Z0 (Z3 rfl) rfl (Z0 (RV.add rfl rfl (by omega)) rfl (Z7 (.int .i64 (((n112 + 64) : Nat) : Int)) (by first | rfl | (congr 1) | (congr 1; omega)) (Z0 (Z5 rfl) rfl ?_)))))))))
   refine Z6 ?_
   exact Z113 (k' := k98) (Nat.lt_succ_self _) ⟨l104, l108, (n112 + 64), x128, B102, A105, c106, A109, c110, hl99, (fun w m => hB103 w (m)), v107, v111, (by omega), rfl, rfl⟩ ⟨rfl, rfl, rfl, rfl, rfl, trivial⟩ (fun w m => m.pick [0, 1] 2 rfl rfl)
  ·replace hl99 := if_f hl99 h122
   refine Z14 rfl (decide_eq_false h122) (CW.exit (Z9 (Z9 (Z15 ?_))))
   exact QW.join ⟨w114, B102, (Zi hl99).symm, (fun w m => ((hB103 w (m)).tail).tail), rfl, rfl⟩ ⟨rfl, rfl, trivial⟩ (fun w m => m.pick [0, 1] 2 rfl rfl)
theorem waybilllaw03_lent_does (w0 : World) (Φ : Ctx) (N : List Ent) (hΦ : ∀ w, Mem w0 w N → Φ w) (A0_ : Option Addr) (c0_ : Nat) (a0 : List (BitVec 8)) (res0 : List (BitVec 8)) (va0 : View Φ A0_ a0.length c0_ 1 (u8s a0)) (hf : waybilllaw03_lent a0 = some res0) : DoesG Tryd.prog 42 [.slice A0_ a0.length c0_] w0 [] N (fun v G => ∃ B : List Ent, ∃ or0 : Option Nat, ∃ kr0 : Nat, ∃ rr0 : List Value, (OwnS or0 res0.length kr0 1 (u8s res0) (u8s (List.replicate 70 165#8) ++ rr0)) ∧ (res0.length + 70 ≤ 140737488355328) ∧ v = sl or0 0 res0.length kr0 ∧ G = (or0, blk ((u8s res0) ++ (u8s (List.replicate 70 165#8) ++ rr0)) 5) :: B) := by
 unfold waybilllaw03_lent at hf
 replace va0 := va0.mono (Ψ := More w0 Φ []) (fun w q => q.1)
 have m1 := va0.mx
 refine DoesG.enter Tryd.func42 rfl Tryd.ntmps42 rfl (M := (([] ++ N))) rfl (Z4 (Z2 (Z0 (Z5 rfl) rfl (Z6 (Z1 (Z4 (Z2 (Z0 (Z3 rfl) rfl ?_))))))))
 obtain ⟨x3, hx2, hf⟩ := Z106 hf
 refine Z12 Tryd.call72 rfl (waybilllaw03_copied_does w0 (More w0 Φ []) (([] ++ N)) (fun w m => More.of hΦ 0 m rfl) A0_ c0_ a0 x3 va0 hx2) rfl rfl ?_
 rintro L9 M10 ⟨B4, ob5, c6, r7, o8, e11, e12⟩
 rw [e11, e12]
 clear e11 e12 L9 M10
 refine Z20 (M' := ((ob5, blk ((u8s x3) ++ r7) 5) :: ((B4 ++ []) ++ N))) (fun w m => by have h := Mem.sinkAt (A := B4) m 1 0 rfl rfl; exact h) ?_
 have gq1 : ∀ w, More w0 Φ (B4 ++ []) w → More w0 Φ [] w := fun w q => More.mono (fun w m => (m).appR) q
 replace va0 := va0.mono gq1
 have m13 := o8.mx
 refine Z0 (Z5 rfl) rfl (Z6 (Z1 (Z4 (Z4 (Z2 (Z0 (Z5 rfl) rfl (Z6 (Z1 ?_))))))))
 obtain ⟨q14, hq15, hf⟩ := Z106 hf
 refine CW.cutJ (fun L' M' => ∃ l16 : List (BitVec 8), ∃ ob17 : Option Nat, ∃ c18 : Nat, ∃ r19 : List Value, q14 = l16 ∧ (OwnS ob17 l16.length c18 1 (u8s l16) r19) ∧ L' = [(0, .slice A0_ a0.length c0_), (3, sl ob17 0 l16.length c18)] ∧ M' = ((ob17, blk ((u8s l16) ++ r19) 5) :: ((B4 ++ []) ++ N))) ?_ ?_
 ·rintro L22 M23 ⟨l16, ob17, c18, r19, e21, o20, e24, e25⟩
  rw [e24, e25]
  clear e24 e25 L22 M23
  clear hq15
  rw [e21] at hf
  clear e21
  try dsimp only at hf
  have m26 := o20.mx
  refine Z1 (Z4 (Z2 (Z0 (Z3 rfl) rfl (Z0 (Z3 rfl) rfl (Z0 (RV.len rfl rfl) rfl ?_)))))
  obtain ⟨g27, hf⟩ := some_if hf
  obtain ⟨g28, hf⟩ := some_if hf
  have hle := o20.le (by decide)
  refine Z0 (RV.cut_o (a0.length) rfl rfl (by omega) rfl rfl (by omega)) rfl ?_
  have o29 : OwnS ob17 (l16.take a0.length).length c18 1 (u8s (l16.take a0.length)) (u8s (List.replicate 70 165#8) ++ r19) := OwnS.shrink8 o20 (by omega) g28
  refine OW.cells (u8s (l16.take a0.length) ++ (u8s (List.replicate 70 165#8) ++ r19)) (shrink8 g28) (Z7 (sl ob17 0 (l16.take a0.length).length c18) (by rw [show ((l16.take a0.length)).length = a0.length from List.length_take.trans (Nat.min_eq_left (by omega))]) (Z0 (Z5 rfl) rfl (Z6 (Z1 (CW.ret ?_)))))
  have e0 := Zi hf
  subst e0
  refine Z110 (rs := [.tmp 2]) ([sl ob17 0 (l16.take a0.length).length c18]) ((ob17, blk ((u8s (l16.take a0.length)) ++ (u8s (List.replicate 70 165#8) ++ r19)) 5) :: (B4 ++ [])) rfl ?_ rfl ?_ ?_ _ (.inl rfl)
  ·exact ⟨rfl, trivial⟩
  ·exact ⟨(B4 ++ []), ob17, c18, r19, o29, (shrink_mx g28 o20.mx (by omega)), rfl, rfl⟩
  ·exact (fun w m => m.pick [0] 1 rfl rfl)
 ·skip
  refine CW.block (Z121 (fun k L' M' => ∃ l30 : List (BitVec 8), ∃ n35 : Nat, ∃ ob31 : Option Nat, ∃ c32 : Nat, ∃ r33 : List Value, (waybilllaw03_lent.l1 k l30 n35) = some q14 ∧ (OwnS ob31 l30.length c32 1 (u8s l30) r33) ∧ (n35 ≤ 9223372036854775807) ∧ L' = [(0, .slice A0_ a0.length c0_), (3, sl ob31 0 l30.length c32), (4, .int .i64 ((n35 : Nat) : Int))] ∧ M' = ((ob31, blk ((u8s l30) ++ r33) 5) :: ((B4 ++ []) ++ N))) (k0 := (70 - 0 + 2)) ⟨x3, 0, ob5, c6, r7, hq15, o8, (by omega), rfl, rfl⟩ ⟨rfl, rfl, rfl, trivial⟩ (fun w m => m.pick [0] 1 rfl rfl) ?_)
  clear hq15
  rintro k37 L40 M41 ⟨l30, n35, ob31, c32, r33, hl38, o34, b36, e42, e43⟩
  rw [e42, e43]
  clear e42 e43 L40 M41
  rcases k37 with _ | k37
  ·rw [waybilllaw03_lent.l1] at hl38; cases hl38
  rw [waybilllaw03_lent.l1] at hl38
  have m44 := o34.mx
  refine Z4 (Z4 (Z2 (Z0 (Z3 rfl) rfl (Z0 (RV.lss rfl rfl) rfl (Z7 (.bool (decide (n35 < 70))) (congrArg Value.bool (decide_eq_decide.2 (by omega))) (Z6 (Z1 ?_)))))))
  by_cases h45 : n35 < 70
  ·replace hl38 := if_t hl38 h45
   refine Z13 rfl (decide_eq_true h45) (CW.skip (Z1 (Z4 (CW.block (Z2 (Z0 (Z3 rfl) rfl (OW.ofN (NV.bs1 rfl rfl rfl rfl rfl rfl) rfl (fun b46 => (Z20 (M' := (((some b46), blk ((u8s ([165#8] : List (BitVec 8))) ++ []) 5) :: (ob31, blk ((u8s l30) ++ r33) 5) :: ((B4 ++ []) ++ N))) (fun w m => by first | exact m | simpa [u8s] using m) ?_)))))))))
   have o47 : OwnS (some b46) ([165#8] : List (BitVec 8)).length 1 1 (u8s ([165#8] : List (BitVec 8))) [] := ⟨by simp [u8s], by simp [u8s], (fun h => nomatch h), by simp⟩
   have mx_o47 := o47.mx
   refine Z7 (sl (some b46) 0 ([165#8] : List (BitVec 8)).length 1) (rfl) (OW.rot1 ?_)
   obtain ⟨g48, hl38⟩ := some_if hl38
   refine OW.appendOwn (s := 1) rfl rfl rfl rfl rfl rfl o34 (fun w m => m.rd0 (List.Mem.tail _ Zh) (fun e => o47.nilc (by decide) e)) o47.n (u8s_one _) (o47.zeroO (by decide)) (by decide) (by decide) (by first | omega | (simp only [i5, List.length_nil]; omega)) rfl rfl ((l30 ++ ([165#8] : List (BitVec 8))).length) (u8s (l30 ++ ([165#8] : List (BitVec 8)))) (List.length_append ..).symm (u8s_app _ _) (fun ob49 r50 c51 o52 => ?_)
   have m53 := o52.mx
   refine Z0 (Z5 rfl) rfl (Z6 (Z27 (Z1 (Z2 (Z0 (Z3 rfl) rfl (Z0 (RV.add rfl rfl (by omega)) rfl (Z7 (.int .i64 (((n35 + 1) : Nat) : Int)) (by first | rfl | (congr 1) | (congr 1; omega)) (Z0 (Z5 rfl) rfl (Z6 ?_)))))))))
   exact Z113 (k' := k37) (Nat.lt_succ_self _) ⟨(l30 ++ ([165#8] : List (BitVec 8))), (n35 + 1), ob49, c51, r50, hl38, o52, (by omega), rfl, rfl⟩ ⟨rfl, rfl, rfl, trivial⟩ (fun w m => m.pick [0] 2 rfl rfl)
  ·replace hl38 := if_f hl38 h45
   refine Z14 rfl (decide_eq_false h45) (CW.exit (Z9 (Z9 (Z15 ?_))))
   exact QW.join ⟨l30, ob31, c32, r33, (Zi hl38).symm, o34, rfl, rfl⟩ ⟨rfl, rfl, trivial⟩ (fun w m => m.pick [0] 1 rfl rfl)
theorem waybilllaw03_still_does (w0 : World) (Φ : Ctx) (N : List Ent) (hΦ : ∀ w, Mem w0 w N → Φ w) (A0_ : Option Addr) (c0_ : Nat) (a0 : List (BitVec 8)) (A1_ : Option Addr) (c1_ : Nat) (a1 : List (BitVec 8)) (res0 : Bool) (va0 : View Φ A0_ (a0 ++ List.replicate 70 165#8).length c0_ 1 (u8s (a0 ++ List.replicate 70 165#8))) (va1 : View Φ A1_ a1.length c1_ 1 (u8s a1)) (hf : waybilllaw03_still a0 a1 = some res0) : DoesG Tryd.prog 45 [.slice A0_ a0.length c0_, .slice A1_ a1.length c1_] w0 [] N (fun v G => v = .bool res0) := by
 unfold waybilllaw03_still at hf
 replace va0 := va0.mono (Ψ := More w0 Φ []) (fun w q => q.1)
 replace va1 := va1.mono (Ψ := More w0 Φ []) (fun w q => q.1)
 have hle := va0.mx
 have hle2 : (a0 ++ List.replicate 70 165#8).length = a0.length + 70 := by rw [List.length_append, List.length_replicate]
 have v1 : View (More w0 Φ []) A0_ a0.length c0_ 1 (u8s a0) := MRoom.view va0
 have m2 := v1.mx
 have m3 := va1.mx
 refine DoesG.enter Tryd.func45 rfl Tryd.ntmps45 rfl (M := (([] ++ N))) rfl (Z4 (Z2 (Z0 (Z5 rfl) rfl (Z6 (Z1 (Z4 (Z4 (Z2 (Z0 (Z3 rfl) rfl (Z0 (RV.len rfl rfl) rfl (Z0 (Z3 rfl) rfl (Z0 (RV.len rfl rfl) rfl ?_))))))))))))
 refine Z0 (RV.neq rfl rfl) rfl (Z7 (.bool (!decide (a0.length = a1.length))) (congrArg (fun b => Value.bool (!b)) (decide_eq_decide.2 (by omega))) (Z6 (Z1 ?_)))
 by_cases h4 : a0.length = a1.length
 ·replace hf := if_t hf h4
  refine Z14 rfl (congrArg (fun b => !b) (decide_eq_true h4)) (CW.skip (Z1 (Z4 (Z2 (Z0 (Z3 rfl) rfl (Z0 (Z3 rfl) rfl (Z0 (RV.len rfl rfl) rfl (Z0 (RV.add rfl rfl (by omega)) rfl (Z7 (.int .i64 (((a1.length + 70) : Nat) : Int)) (by first | rfl | (congr 1) | (congr 1; omega)) ?_)))))))))
  obtain ⟨g6, hf⟩ := some_if hf
  have hle := va0.le
  have hlen_ : (a0 ++ List.replicate 70 165#8).length = (a0 ++ List.replicate 70 165#8).length := rfl
  refine Z0 (RV.cut_hi ((a1.length + 70)) rfl rfl (by omega) rfl rfl (by omega)) rfl (Z7 (.slice A0_ ((a0 ++ List.replicate 70 165#8).take (a1.length + 70)).length c0_) (by rw [show (((a0 ++ List.replicate 70 165#8).take (a1.length + 70))).length = (a1.length + 70) from List.length_take.trans (Nat.min_eq_left (by omega))]) ?_)
  have v5 : View (More w0 Φ []) A0_ ((a0 ++ List.replicate 70 165#8).take (a1.length + 70)).length c0_ 1 (u8s ((a0 ++ List.replicate 70 165#8).take (a1.length + 70))) := va0.hi8 (by omega)
  have m7 := v5.mx
  refine Z0 (Z5 rfl) rfl (Z6 (Z1 (Z4 (Z4 (Z2 (Z0 (Z5 rfl) rfl (Z6 (Z1 ?_))))))))
  obtain ⟨q8, hq9, hf⟩ := Z106 hf
  refine CW.cutJ (fun L' M' => q8 = Lp.go () ∧ L' = [] ∧ M' = (([] ++ N))) ?_ ?_
  ·rintro L11 M12 ⟨e10, e13, e14⟩
   rw [e13, e14]
   clear e13 e14 L11 M12
   clear hq9
   rw [e10] at hf
   clear e10
   try dsimp only at hf
   refine Z1 (Z4 (Z2 (Z0 (Z5 rfl) rfl (Z6 (Z1 (CW.ret ?_))))))
   have e0 := Zi hf
   subst e0
   refine Z110 (rs := [.tmp 4]) ([.bool true]) ([]) rfl ?_ rfl ?_ ?_ _ (.inl rfl)
   ·exact ⟨rfl, trivial⟩
   ·exact rfl
   ·exact (fun w m => m)
  ·skip
   refine CW.block (Z121 (fun k L' M' => ∃ n15 : Nat, (waybilllaw03_still.l1 a0 a1 k n15) = some q8 ∧ (n15 ≤ 9223372036854775807) ∧ L' = [(1, .slice A1_ a1.length c1_), (5, .slice A0_ ((a0 ++ List.replicate 70 165#8).take (a1.length + 70)).length c0_), (6, .int .i64 ((n15 : Nat) : Int))] ∧ M' = (([] ++ N))) (k0 := ((((a0 ++ List.replicate 70 165#8).take (a1.length + 70)).length) - 0 + 2)) ⟨0, hq9, (by omega), rfl, rfl⟩ ⟨rfl, rfl, rfl, trivial⟩ (fun w m => m.pick [] 0 rfl rfl) ?_)
   clear hq9
   rintro k17 L20 M21 ⟨n15, hl18, b16, e22, e23⟩
   rw [e22, e23]
   clear e22 e23 L20 M21
   rcases k17 with _ | k17
   ·rw [waybilllaw03_still.l1] at hl18; cases hl18
   rw [waybilllaw03_still.l1] at hl18
   refine Z4 (Z4 (Z2 (Z0 (Z3 rfl) rfl (Z0 (Z3 rfl) rfl (Z0 (RV.len rfl rfl) rfl (Z0 (RV.lss rfl rfl) rfl (Z7 (.bool (decide (n15 < ((a0 ++ List.replicate 70 165#8).take (a1.length + 70)).length))) (congrArg Value.bool (decide_eq_decide.2 (by omega))) (Z6 (Z1 ?_)))))))))
   by_cases h24 : n15 < ((a0 ++ List.replicate 70 165#8).take (a1.length + 70)).length
   ·replace hl18 := if_t hl18 h24
    refine Z13 rfl (decide_eq_true h24) (CW.skip (Z1 (Z4 (CW.block (Z4 ?_)))))
    obtain ⟨q25, hq26, hl18⟩ := Z106 hl18
    refine CW.cutJ (fun L' M' => ∃ p27 : Bool, q25 = p27 ∧ L' = [(1, .slice A1_ a1.length c1_), (5, .slice A0_ ((a0 ++ List.replicate 70 165#8).take (a1.length + 70)).length c0_), (6, .int .i64 ((n15 : Nat) : Int)), (50, .bool (p27))] ∧ M' = (([] ++ N))) ?_ ?_
    ·rintro L29 M30 ⟨p27, e28, e31, e32⟩
     rw [e31, e32]
     clear e31 e32 L29 M30
     clear hq26
     rw [e28] at hl18
     clear e28
     try dsimp only at hl18
     refine Z1 ?_
     by_cases h33 : p27 = true
     ·replace hl18 := if_t hl18 h33
      refine Z13 rfl (h33) (Z4 (Z2 (Z0 (Z5 rfl) rfl (Z6 (Z1 (CW.ret (Z16 (Z8 (Z8 (Z16 (Z8 ?_)))))))))))
      have hc := Zi hl18
      subst hc
      try dsimp only at hf
      refine Z8 ?_
      have e0 := Zi hf
      subst e0
      refine Z110 (rs := [.tmp 4]) ([.bool false]) ([]) rfl ?_ rfl ?_ ?_ _ (.inl rfl)
      ·exact ⟨rfl, trivial⟩
      ·exact rfl
      ·exact (fun w m => m)
     ·replace hl18 := if_f hl18 h33
      refine Z14 rfl (Bool.eq_false_iff.2 h33) (CW.skip (Z27 (Z1 (Z2 (Z0 (Z3 rfl) rfl (Z0 (RV.add rfl rfl (by omega)) rfl (Z7 (.int .i64 (((n15 + 1) : Nat) : Int)) (by first | rfl | (congr 1) | (congr 1; omega)) (Z0 (Z5 rfl) rfl (Z6 ?_)))))))))
      exact Z113 (k' := k17) (Nat.lt_succ_self _) ⟨(n15 + 1), hl18, (by omega), rfl, rfl⟩ ⟨rfl, rfl, rfl, trivial⟩ (fun w m => m.pick [] 0 rfl rfl)
    ·skip
     refine CW.drawsU 28 mixed (by kernel_rfl) rfl (Z18 0 rfl (by kernel_rfl) rfl (Z3 rfl) rfl (Z18 1 rfl (by kernel_rfl) rfl (Z3 rfl) rfl (Z18 2 rfl (by kernel_rfl) rfl (RV.len rfl rfl) rfl (Z18 3 rfl (by kernel_rfl) rfl (RV.lss rfl rfl) rfl (UW.slot (.bool (decide (n15 < a1.length))) (congrArg Value.bool (decide_eq_decide.2 (by omega))) (Z18 4 rfl (by kernel_rfl) rfl (Z3 rfl) rfl ?_))))))
     by_cases h34 : n15 < a1.length
     ·replace hq26 := if_t hq26 h34
      refine UW.slot (.bool true) (congrArg Value.bool (decide_eq_true h34)) (Z18 5 rfl (by kernel_rfl) rfl (Z3 rfl) rfl (Z18 6 rfl (by kernel_rfl) rfl (Z3 rfl) rfl ?_))
      obtain ⟨x35, hx36, hq26⟩ := Z106 hq26
      have hl37 := lt_of_at hx36
      refine Z18 7 rfl (by kernel_rfl) rfl (Z127 (n15) rfl rfl rfl rfl rfl (v5.isSome (by decide) hl37) (by omega)) rfl (Z18 8 rfl (by kernel_rfl) rfl (Z21 rfl rfl rfl (fun w m => v5.cell (More.of hΦ 0 m rfl) (u8s_at hx36))) rfl (Z18 9 rfl (by kernel_rfl) rfl (Z3 rfl) rfl (Z18 10 rfl (by kernel_rfl) rfl (Z3 rfl) rfl ?_)))
      obtain ⟨x38, hx39, hq26⟩ := Z106 hq26
      have hl40 := lt_of_at hx39
      refine Z18 11 rfl (by kernel_rfl) rfl (Z127 (n15) rfl rfl rfl rfl rfl (va1.isSome (by decide) hl40) (by omega)) rfl (Z18 12 rfl (by kernel_rfl) rfl (Z21 rfl rfl rfl (fun w m => va1.cell (More.of hΦ 0 m rfl) (u8s_at hx39))) rfl (Z18 13 rfl (by kernel_rfl) rfl (RV.neq8 rfl (by first | rfl | exact lit8 _ rfl) rfl (by first | rfl | exact lit8 _ rfl)) rfl (Z18 14 rfl (by kernel_rfl) rfl (RV.pick_t rfl rfl rfl) rfl (Z18 15 rfl (by kernel_rfl) rfl (Z3 rfl) rfl ?_))))
      by_cases h41 : x35 = x38
      ·replace hq26 := if_t hq26 h41
       refine UW.slot (.bool false) (congrArg Value.bool (congrArg (fun b => !b) (decide_eq_true h41))) (Z18 16 rfl (by kernel_rfl) rfl (Z3 rfl) rfl (Z18 17 rfl (by kernel_rfl) rfl (Z3 rfl) rfl (Z18 18 rfl (by kernel_rfl) rfl (RV.len rfl rfl) rfl (Z18 19 rfl (by kernel_rfl) rfl (RV.geq rfl rfl) rfl (UW.slot (.bool (decide (a1.length ≤ n15))) (congrArg Value.bool (decide_eq_decide.2 (by omega))) (Z18 20 rfl (by kernel_rfl) rfl (Z3 rfl) rfl ?_))))))
       by_cases h42 : a1.length ≤ n15
       ·replace hq26 := if_t hq26 h42
        refine UW.slot (.bool true) (congrArg Value.bool (decide_eq_true h42)) (Z18 21 rfl (by kernel_rfl) rfl (Z3 rfl) rfl (Z18 22 rfl (by kernel_rfl) rfl (Z3 rfl) rfl ?_))
        obtain ⟨x43, hx44, hq26⟩ := Z106 hq26
        have hl45 := lt_of_at hx44
        refine Z18 23 rfl (by kernel_rfl) rfl (Z127 (n15) rfl rfl rfl rfl rfl (v5.isSome (by decide) hl45) (by omega)) rfl (Z18 24 rfl (by kernel_rfl) rfl (Z21 rfl rfl rfl (fun w m => v5.cell (More.of hΦ 0 m rfl) (u8s_at hx44))) rfl (Z18 25 rfl (by kernel_rfl) rfl (RV.neq8 rfl (by first | rfl | exact lit8 _ rfl) rfl (by first | rfl | exact lit8 _ rfl)) rfl (Z18 26 rfl (by kernel_rfl) rfl (RV.pick_t rfl rfl rfl) rfl (Z18 27 rfl (by kernel_rfl) rfl (RV.pick_f rfl rfl rfl) rfl (UW.nil (by kernel_rfl) (Z6 ?_))))))
        exact QW.join ⟨(!decide (x43 = 165#8)), (Zi hq26).symm, rfl, rfl⟩ ⟨rfl, rfl, rfl, rfl, trivial⟩ (fun w m => m.pick [] 0 rfl rfl)
       ·replace hq26 := if_f hq26 h42
        refine UW.slot (.bool false) (congrArg Value.bool (decide_eq_false h42)) (UW.skip 21 rfl (by kernel_rfl) rfl rfl (UW.skip 22 rfl (by kernel_rfl) rfl rfl (UW.skip 23 rfl (by kernel_rfl) rfl rfl (UW.skip 24 rfl (by kernel_rfl) rfl rfl (UW.skip 25 rfl (by kernel_rfl) rfl rfl (Z18 26 rfl (by kernel_rfl) rfl (RV.pick_f rfl rfl rfl) rfl (Z18 27 rfl (by kernel_rfl) rfl (RV.pick_f rfl rfl rfl) rfl ?_)))))))
        refine UW.nil (by kernel_rfl) (Z6 ?_)
        exact QW.join ⟨false, (Zi hq26).symm, rfl, rfl⟩ ⟨rfl, rfl, rfl, rfl, trivial⟩ (fun w m => m.pick [] 0 rfl rfl)
      ·replace hq26 := if_f hq26 h41
       refine UW.slot (.bool true) (congrArg Value.bool (congrArg (fun b => !b) (decide_eq_false h41))) (UW.skip 16 rfl (by kernel_rfl) rfl rfl (UW.skip 17 rfl (by kernel_rfl) rfl rfl (UW.skip 18 rfl (by kernel_rfl) rfl rfl (UW.skip 19 rfl (by kernel_rfl) rfl rfl (UW.skip 20 rfl (by kernel_rfl) rfl rfl (UW.skip 21 rfl (by kernel_rfl) rfl rfl (UW.skip 22 rfl (by kernel_rfl) rfl rfl ?_)))))))
       refine UW.skip 23 rfl (by kernel_rfl) rfl rfl (UW.skip 24 rfl (by kernel_rfl) rfl rfl (UW.skip 25 rfl (by kernel_rfl) rfl rfl (UW.skip 26 rfl (by kernel_rfl) rfl rfl (Z18 27 rfl (by kernel_rfl) rfl (RV.pick_t rfl rfl rfl) rfl (UW.nil (by kernel_rfl) (Z6 ?_))))))
       exact QW.join ⟨true, (Zi hq26).symm, rfl, rfl⟩ ⟨rfl, rfl, rfl, rfl, trivial⟩ (fun w m => m.pick [] 0 rfl rfl)
     ·replace hq26 := if_f hq26 h34
      refine UW.slot (.bool false) (congrArg Value.bool (decide_eq_false h34)) (UW.skip 5 rfl (by kernel_rfl) rfl rfl (UW.skip 6 rfl (by kernel_rfl) rfl rfl (UW.skip 7 rfl (by kernel_rfl) rfl rfl (UW.skip 8 rfl (by kernel_rfl) rfl rfl (UW.skip 9 rfl (by kernel_rfl) rfl rfl (UW.skip 10 rfl (by kernel_rfl) rfl rfl (UW.skip 11 rfl (by kernel_rfl) rfl rfl ?_)))))))
      refine UW.skip 12 rfl (by kernel_rfl) rfl rfl (UW.skip 13 rfl (by kernel_rfl) rfl rfl (Z18 14 rfl (by kernel_rfl) rfl (RV.pick_f rfl rfl rfl) rfl (Z18 15 rfl (by kernel_rfl) rfl (Z3 rfl) rfl (Z18 16 rfl (by kernel_rfl) rfl (Z3 rfl) rfl (Z18 17 rfl (by kernel_rfl) rfl (Z3 rfl) rfl (Z18 18 rfl (by kernel_rfl) rfl (RV.len rfl rfl) rfl (Z18 19 rfl (by kernel_rfl) rfl (RV.geq rfl rfl) rfl ?_)))))))
      refine UW.slot (.bool (decide (a1.length ≤ n15))) (congrArg Value.bool (decide_eq_decide.2 (by omega))) (Z18 20 rfl (by kernel_rfl) rfl (Z3 rfl) rfl ?_)
      by_cases h46 : a1.length ≤ n15
      ·replace hq26 := if_t hq26 h46
       refine UW.slot (.bool true) (congrArg Value.bool (decide_eq_true h46)) (Z18 21 rfl (by kernel_rfl) rfl (Z3 rfl) rfl (Z18 22 rfl (by kernel_rfl) rfl (Z3 rfl) rfl ?_))
       obtain ⟨x47, hx48, hq26⟩ := Z106 hq26
       have hl49 := lt_of_at hx48
       refine Z18 23 rfl (by kernel_rfl) rfl (Z127 (n15) rfl rfl rfl rfl rfl (v5.isSome (by decide) hl49) (by omega)) rfl (Z18 24 rfl (by kernel_rfl) rfl (Z21 rfl rfl rfl (fun w m => v5.cell (More.of hΦ 0 m rfl) (u8s_at hx48))) rfl (Z18 25 rfl (by kernel_rfl) rfl (RV.neq8 rfl (by first | rfl | exact lit8 _ rfl) rfl (by first | rfl | exact lit8 _ rfl)) rfl (Z18 26 rfl (by kernel_rfl) rfl (RV.pick_t rfl rfl rfl) rfl (Z18 27 rfl (by kernel_rfl) rfl (RV.pick_f rfl rfl rfl) rfl (UW.nil (by kernel_rfl) (Z6 ?_))))))
       exact QW.join ⟨(!decide (x47 = 165#8)), (Zi hq26).symm, rfl, rfl⟩ ⟨rfl, rfl, rfl, rfl, trivial⟩ (fun w m => m.pick [] 0 rfl rfl)
      ·replace hq26 := if_f hq26 h46
       refine UW.slot (.bool false) (congrArg Value.bool (decide_eq_false h46)) (UW.skip 21 rfl (by kernel_rfl) rfl rfl (UW.skip 22 rfl (by kernel_rfl) rfl rfl (UW.skip 23 rfl (by kernel_rfl) rfl rfl (UW.skip 24 rfl (by kernel_rfl) rfl rfl (UW.skip 25 rfl (by kernel_rfl) rfl rfl (Z18 26 rfl (by kernel_rfl) rfl (RV.pick_f rfl rfl rfl) rfl (Z18 27 rfl (by kernel_rfl) rfl (RV.pick_f rfl rfl rfl) rfl ?_)))))))
       refine UW.nil (by kernel_rfl) (Z6 ?_)
       exact QW.join ⟨false, (Zi hq26).symm, rfl, rfl⟩ ⟨rfl, rfl, rfl, rfl, trivial⟩ (fun w m => m.pick [] 0 rfl rfl)
   ·replace hl18 := if_f hl18 h24
    refine Z14 rfl (decide_eq_false h24) (CW.exit (Z9 (Z9 (Z15 ?_))))
    exact QW.join ⟨(Zi hl18).symm, rfl, rfl⟩ trivial (fun w m => m.pick [] 0 rfl rfl)
 ·replace hf := if_f hf h4
  refine Z13 rfl (congrArg (fun b => !b) (decide_eq_false h4)) (Z4 (Z2 (Z0 (Z5 rfl) rfl (Z6 (Z1 (CW.ret (Z8 ?_)))))))
  have e0 := Zi hf
  subst e0
  refine Z110 (rs := [.tmp 4]) ([.bool false]) ([]) rfl ?_ rfl ?_ ?_ _ (.inl rfl)
  ·exact ⟨rfl, trivial⟩
  ·exact rfl
  ·exact (fun w m => m)
theorem HLen_does (w0 : World) (N : List Ent) (b : Nat) (s : List (BitVec 32)) (v : Value) (n : Int) (hs : s.length = 8) :
  DoesG Tryd.prog 16 [ptr (some b) 0] w0 [(some b, blk (u32s s ++ [v, .int .i64 n]) 29)] N (fun u G => u = .int .i64 n ∧ G = [(some b, blk (u32s s ++ [v, .int .i64 n]) 29)]) := by
 refine DoesG.enter Tryd.func16 rfl Tryd.ntmps16 rfl (M := (some b, blk (u32s s ++ [v, .int .i64 n]) 29) :: N) rfl (Z4 (Z2 (Z0 (Z5 rfl) rfl (Z6 ?_))))
 (refine Z1 ?_; refine Z4 ?_; refine Z4 ?_)
 refine Z2 (Z0 (Z3 rfl) rfl (Z0 (RV.eqlS rfl rfl rfl) rfl (Z6 (Z1 (Z118 rfl ?_)))))
 (refine CW.skip ?_; refine Z1 ?_; refine Z4 ?_)
 refine Z2 (Z0 (Z3 rfl) rfl (Z0 (RV.nilCheck rfl) rfl (Z0 (Z30 rfl rfl rfl rfl) rfl ?_)))
 refine Z0 (Z29 rfl Zh rfl rfl rfl (v := .int .i64 n) (by rw [List.getElem?_append_right (by rw [Z100, hs]; exact Nat.le_of_ble_eq_true rfl), Z100, hs]; rfl)) rfl ?_
 refine Z0 (Z5 rfl) rfl (Z6 ?_)
 (refine Z1 ?_; refine CW.ret ?_)
 refine Z110 (rs := [.tmp 2]) [.int .i64 n] [(some b, blk (u32s s ++ [v, .int .i64 n]) 29)] rfl ⟨rfl, trivial⟩ rfl ⟨rfl, rfl⟩ (fun w m => m) _ (.inl rfl)
theorem HReset_does (w0 : World) (N : List Ent) (b : Nat) (l : List Value) (hl : l.length = 10) :
  DoesG Tryd.prog 46 [ptr (some b) 0] w0 [(some b, blk l 29)] N (fun u G => u = .tuple #[] ∧ G = [(some b, blk zH 29)]) := by
 refine DoesG.enter Tryd.func46 rfl Tryd.ntmps46 rfl (M := (some b, blk l 29) :: N) rfl (Z4 (Z2 (Z0 (Z3 rfl) rfl (Z0 (RV.neqS rfl rfl rfl) rfl (Z6 (Z1 (CW.cond_t rfl (Z2 (Z0 (Z3 rfl) rfl ?_)))))))))
 refine Z0 (RV.buildSt (l := zH) (cs := zH) [] rfl rfl rfl rfl rfl rfl rfl) rfl (Z0 (RV.nilCheck rfl) rfl ?_)
 refine Z28 (Z105 (s := 10) rfl rfl rfl (by intro u hu; simp [zH, u32s, sl] at hu; rcases hu with rfl | rfl | rfl <;> rfl) rfl hl rfl) ?_
 refine Z6 ?_
 refine Z110 (rs := []) [] [(some b, blk zH 29)] rfl trivial rfl ⟨rfl, rfl⟩ (fun w m => m) _ (.inr rfl)
theorem RNew_does (w0 : World) (N : List Ent) : DoesG Tryd.prog 9 [] w0 [] N (fun u G => ∃ d : Nat, u = ptr (some d) 0 ∧ G = [(some d, blk [sl none 0 0 0] 76)]) := by
 refine DoesG.enter Tryd.func9 rfl Tryd.ntmps9 rfl (M := N) rfl (Z4 (Z2 (Z0 (Z5 rfl) rfl (Z6 ?_))))
 (refine Z1 ?_; refine Z4 ?_)
 refine Z2 (Z0 (RV.buildSt (l := [sl none 0 0 0]) (cs := [sl none 0 0 0]) [] rfl rfl rfl rfl rfl rfl rfl) rfl (OW.boxA rfl rfl (fun b => (Z0 (Z5 rfl) rfl (Z6 ?_)))))
 (refine Z1 ?_; refine CW.ret ?_)
 refine Z110 (rs := [.tmp 0]) [ptr (some b) 0] [(some b, blk [sl none 0 0 0] 76)] rfl ⟨rfl, trivial⟩ rfl ⟨b, rfl, rfl⟩ (fun w m => m) _ (.inl rfl)
theorem RLen_does (w0 : World) (N : List Ent) (d : Nat) (oe : Option Nat) (ce : Nat) (t : List (BitVec 8)) :
  DoesG Tryd.prog 17 [ptr (some d) 0] w0 [(some d, blk [sl oe 0 t.length ce] 76)] N (fun u G => u = .int .i64 (t.length : Int) ∧ G = [(some d, blk [sl oe 0 t.length ce] 76)]) := by
 refine DoesG.enter Tryd.func17 rfl Tryd.ntmps17 rfl (M := (some d, blk [sl oe 0 t.length ce] 76) :: N) rfl (Z4 (Z2 (Z0 (Z5 rfl) rfl (Z6 ?_))))
 (refine Z1 ?_; refine Z4 ?_; refine Z4 ?_)
 refine Z2 (Z0 (Z3 rfl) rfl (Z0 (RV.eqlS rfl rfl rfl) rfl (Z6 (Z1 (Z118 rfl ?_)))))
 (refine CW.skip ?_; refine Z1 ?_; refine Z4 ?_)
 refine Z2 (Z0 (Z3 rfl) rfl (Z0 (RV.nilCheck rfl) rfl (Z0 (Z30 rfl rfl rfl rfl) rfl (Z0 (Z29 rfl Zh rfl rfl rfl (v := sl oe 0 t.length ce) rfl) rfl (Z0 (RV.len rfl rfl) rfl (Z0 (Z5 rfl) rfl (Z6 ?_)))))))
 (refine Z1 ?_; refine CW.ret ?_)
 refine Z110 (rs := [.tmp 2]) [.int .i64 (t.length : Int)] [(some d, blk [sl oe 0 t.length ce] 76)] rfl ⟨rfl, trivial⟩ rfl ⟨rfl, rfl⟩ (fun w m => m) _ (.inl rfl)
theorem RReset_does (w0 : World) (N : List Ent) (d : Nat) (oe : Option Nat) (ce k : Nat) :
  DoesG Tryd.prog 47 [ptr (some d) 0] w0 [(some d, blk [sl oe 0 k ce] 76)] N (fun u G => u = .tuple #[] ∧ G = [(some d, blk [sl none 0 0 0] 76)]) := by
 refine DoesG.enter Tryd.func47 rfl Tryd.ntmps47 rfl (M := (some d, blk [sl oe 0 k ce] 76) :: N) rfl (Z4 (Z2 (Z0 (Z3 rfl) rfl (Z0 (RV.neqS rfl rfl rfl) rfl (Z6 (Z1 (CW.cond_t rfl (Z2 (Z0 (Z3 rfl) rfl ?_)))))))))
 refine Z0 (RV.nilCheck rfl) rfl (Z0 (Z30 rfl rfl rfl rfl) rfl (Z28 (SV.store (v := sl none 0 0 0) rfl rfl rfl rfl rfl (by exact Nat.le_of_ble_eq_true rfl)) (Z6 ?_)))
 refine Z110 (rs := []) [] [(some d, blk [sl none 0 0 0] 76)] rfl trivial rfl ⟨rfl, rfl⟩ (fun w m => m) _ (.inr rfl)
theorem RSum_does (w0 : World) (N : List Ent) (d : Nat) (oe : Option Nat) (ce : Nat) (re : List Value) (t : List (BitVec 8)) (ho : OwnS oe t.length ce 1 (u8s t) re) (hb : t.length ≤ 140737488351232) :
  DoesG Tryd.prog 15 [ptr (some d) 0] w0 [(some d, blk [sl oe 0 t.length ce] 76), (oe, blk (u8s t ++ re) 5)] N (fun u G => u = .agg (u8s (shaV t).toList).toArray ∧ G = [(some d, blk [sl oe 0 t.length ce] 76), (oe, blk (u8s t ++ re) 5)]) := by
 refine DoesG.enter Tryd.func15 rfl Tryd.ntmps15 rfl (M := (some d, blk [sl oe 0 t.length ce] 76) :: (oe, blk (u8s t ++ re) 5) :: N) rfl (Z4 (Z2 (OW.alloc (l := u8s (List.replicate 32 0#8)) rfl (by rw [← u8s_rep]; rfl) rfl (fun b2 => (Z6 ?_)))))
 (refine Z1 ?_; refine Z4 ?_; refine Z4 ?_)
 refine Z2 (Z0 (Z3 rfl) rfl (Z0 (RV.eqlS rfl rfl rfl) rfl (Z6 (Z1 (Z118 rfl ?_)))))
 (refine CW.skip ?_; refine Z1 ?_; refine Z4 ?_)
 refine Z2 (Z0 (Z3 rfl) rfl (Z0 (RV.nilCheck rfl) rfl (Z0 (Z30 rfl rfl rfl rfl) rfl (Z0 (Z29 rfl (List.Mem.tail _ Zh) rfl rfl rfl (v := sl oe 0 t.length ce) rfl) rfl ?_))))
 refine Z12 Tryd.call51 rfl (waybillref03_digest_does w0 (fun w => Mem w0 w [(oe, blk (u8s t ++ re) 5)]) ((some b2, blk (u8s (List.replicate 32 0#8)) 39) :: (some d, blk [sl oe 0 t.length ce] 76) :: (oe, blk (u8s t ++ re) 5) :: N) (fun w m => m.tail.tail.sublist (List.singleton_sublist.2 (List.mem_cons_self ..))) (oe.map fun k => ⟨k, 0, none⟩) ce t (shaV t) (ho.view (te := 5) (w0 := w0) (by decide) (fun w q => q)) (rdig_eq t hb)) rfl rfl ?_; rintro _ G3 rfl; refine Z20 (M' := (some b2, blk (u8s (List.replicate 32 0#8)) 39) :: (some d, blk [sl oe 0 t.length ce] 76) :: (oe, blk (u8s t ++ re) 5) :: N) (fun w m => m.appR) ?_
 refine Z28 (Z105 (s := 32) rfl rfl rfl (u8s_one _) rfl ((Z102 _).trans (List.length_replicate ..)) ((Z102 _).trans Zv)) (Z6 ?_)
 (refine Z1 ?_; refine CW.ret ?_)
 refine Z110 (rs := [.cell 2 39]) [.agg (u8s (shaV t).toList).toArray] [(some d, blk [sl oe 0 t.length ce] 76), (oe, blk (u8s t ++ re) 5)] rfl ?_ rfl ⟨rfl, rfl⟩ (fun w m => m.tail) _ (.inl rfl)
 exact ⟨⟨_, _, _, _, rfl, Zh, rfl, rfl, (congrArg some ((Z102 _).trans Zv)).symm, rfl⟩, trivial⟩
theorem RWrite_does (w0 : World) (Φ : Ctx) (N : List Ent) (hΦ : ∀ w, Mem w0 w N → Φ w) (d : Nat) (oe : Option Nat) (ce : Nat) (re : List Value) (t : List (BitVec 8)) (ho : OwnS oe t.length ce 1 (u8s t) re) (A : Option Addr) (cA : Nat) (data : List (BitVec 8)) (va : View Φ A data.length cA 1 (u8s data)) (hb : t.length + data.length ≤ 140737488355328) :
  DoesG Tryd.prog 44 [ptr (some d) 0, .slice A data.length cA] w0 [(some d, blk [sl oe 0 t.length ce] 76), (oe, blk (u8s t ++ re) 5)] N
   (fun u G => ∃ (oe' : Option Nat) (ce' : Nat) (re' : List Value), OwnS oe' (t ++ data).length ce' 1 (u8s (t ++ data)) re' ∧ u = .tuple #[] ∧ G = [(some d, blk [sl oe' 0 (t ++ data).length ce'] 76), (oe', blk (u8s (t ++ data) ++ re') 5)]) := by
 refine DoesG.enter Tryd.func44 rfl Tryd.ntmps44 rfl (M := (some d, blk [sl oe 0 t.length ce] 76) :: (oe, blk (u8s t ++ re) 5) :: N) rfl ?_
 (refine Z4 ?_; refine Z4 ?_)
 refine Z2 (Z0 (Z3 rfl) rfl (Z0 (RV.eqlS rfl rfl rfl) rfl (Z6 (Z1 (Z118 rfl ?_)))))
 (refine CW.skip ?_; refine Z1 ?_)
 refine Z2 (Z0 (Z3 rfl) rfl (Z0 (Z3 rfl) rfl (Z0 (RV.nilCheck rfl) rfl (Z0 (Z30 rfl rfl rfl rfl) rfl (Z0 (Z29 rfl Zh rfl rfl rfl (v := sl oe 0 t.length ce) rfl) rfl (Z0 (Z3 rfl) rfl (OW.bsN (vs := [sl oe 0 t.length ce, .slice A data.length cA]) rfl rfl rfl (by decide) (by decide) rfl rfl rfl rfl rfl (fun b12 => ?_))))))))
 refine Z12 Tryd.call41 rfl (Z115 w0 (fun w => Mem w0 w ((some b12, blk [sl oe 0 t.length ce, .slice A data.length cA] 27) :: (some d, blk [sl oe 0 t.length ce] 76) :: (oe, blk (u8s t ++ re) 5) :: N)) ((some b12, blk [sl oe 0 t.length ce, .slice A data.length cA] 27) :: (some d, blk [sl oe 0 t.length ce] 76) :: (oe, blk (u8s t ++ re) 5) :: N) (fun w m => m) (some ⟨b12, 0, none⟩) 2 [sl oe 0 t.length ce, .slice A data.length cA] [t, data] (t ++ data) ((show OwnS (some b12) 2 2 1 [sl oe 0 t.length ce, .slice A data.length cA] [] from ⟨rfl, rfl, (fun h => nomatch h), by omega⟩).view (te := 27) (w0 := w0) (by decide) (fun w q => q.sublist (List.singleton_sublist.2 (List.mem_cons_self ..)))) (Reps.cons (c := [_]) (BsRd.mk (ho.view (te := 5) (w0 := w0) (by decide) (fun w q => (q.drop 2).sublist (List.singleton_sublist.2 (List.mem_cons_self ..))))) (Reps.one (BsRd.mk (va.mono (fun w q => hΦ w (q.drop 3)))))) (by rw [rjoined3_eq _ (by simp; omega)]; simp)) rfl rfl ?_; rintro _ G3 ⟨B, o2, c2, r2, ow2, rfl, rfl⟩; refine Z20 (M' := (some d, blk [sl oe 0 t.length ce] 76) :: (o2, blk (u8s (t ++ data) ++ r2) 5) :: (B ++ N)) (fun w m => ply_wr m) ?_
 refine Z0 (RV.nilCheck rfl) rfl (Z0 (Z30 rfl rfl rfl rfl) rfl (Z28 (SV.store (v := sl o2 0 (t ++ data).length c2) rfl rfl rfl rfl rfl (by exact Nat.le_of_ble_eq_true rfl)) (Z6 ?_)))
 refine Z110 (rs := []) [] [(some d, blk [sl o2 0 (t ++ data).length c2] 76), (o2, blk (u8s (t ++ data) ++ r2) 5)] rfl trivial rfl ⟨o2, c2, r2, ow2, rfl, rfl⟩ (fun w m => m.sublist (List.Sublist.cons_cons _ (List.Sublist.cons_cons _ (List.sublist_append_right _ _)))) _ (.inr rfl)
theorem RCopy_does (w0 : World) (N : List Ent) (d : Nat) (oe : Option Nat) (ce : Nat) (re : List Value) (t : List (BitVec 8)) (ho : OwnS oe t.length ce 1 (u8s t) re) :
  DoesG Tryd.prog 12 [ptr (some d) 0] w0 [(some d, blk [sl oe 0 t.length ce] 76), (oe, blk (u8s t ++ re) 5)] N
   (fun u G => ∃ (d2 : Nat) (o2 : Option Nat) (c2 : Nat) (r2 : List Value), OwnS o2 t.length c2 1 (u8s t) r2 ∧ u = ptr (some d2) 0 ∧ G = [(some d2, blk [sl o2 0 t.length c2] 76), (o2, blk (u8s t ++ r2) 5), (some d, blk [sl oe 0 t.length ce] 76), (oe, blk (u8s t ++ re) 5)]) := by
 have hm := ho.mx
 refine DoesG.enter Tryd.func12 rfl Tryd.ntmps12 rfl (M := (some d, blk [sl oe 0 t.length ce] 76) :: (oe, blk (u8s t ++ re) 5) :: N) rfl (Z4 (Z2 (Z0 (Z5 rfl) rfl (Z6 ?_))))
 (refine Z1 ?_; refine Z4 ?_; refine Z4 ?_)
 refine Z2 (Z0 (Z3 rfl) rfl (Z0 (RV.eqlS rfl rfl rfl) rfl (Z6 (Z1 (Z118 rfl ?_)))))
 (refine CW.skip ?_; refine Z1 ?_; refine Z4 ?_)
 refine Z2 (Z0 (Z3 rfl) rfl (Z0 (RV.nilCheck rfl) rfl (Z0 (Z30 rfl rfl rfl rfl) rfl (Z0 (Z29 rfl Zh rfl rfl rfl (v := sl oe 0 t.length ce) rfl) rfl (OW.bs1 rfl rfl rfl rfl rfl rfl rfl (fun b9 => ?_))))))
 refine Z12 Tryd.call41 rfl (Z115 w0 (fun w => Mem w0 w ((some b9, blk [sl oe 0 t.length ce] 27) :: (some d, blk [sl oe 0 t.length ce] 76) :: (oe, blk (u8s t ++ re) 5) :: N)) ((some b9, blk [sl oe 0 t.length ce] 27) :: (some d, blk [sl oe 0 t.length ce] 76) :: (oe, blk (u8s t ++ re) 5) :: N) (fun w m => m) (some ⟨b9, 0, none⟩) 1 [sl oe 0 t.length ce] [t] t ((show OwnS (some b9) 1 1 1 [sl oe 0 t.length ce] [] from ⟨rfl, rfl, (fun h => nomatch h), by omega⟩).view (te := 27) (w0 := w0) (by decide) (fun w q => q.sublist (List.singleton_sublist.2 (List.mem_cons_self ..)))) (Reps.one (BsRd.mk (ho.view (te := 5) (w0 := w0) (by decide) (fun w q => (q.drop 2).sublist (List.singleton_sublist.2 (List.mem_cons_self ..)))))) (by rw [rjoined3_eq _ (by simp; omega)]; simp)) rfl rfl ?_; rintro _ G3 ⟨B, o2, c2, r2, ow2, rfl, rfl⟩
 refine Z0 (RV.buildSt (l := [sl none 0 0 0]) (cs := [sl o2 0 t.length c2]) [(0, [sl o2 0 t.length c2])] rfl rfl rfl rfl rfl rfl rfl) rfl (OW.boxA rfl rfl (fun b2 => (Z0 (Z5 rfl) rfl (Z6 ?_))))
 (refine Z1 ?_; refine CW.ret ?_)
 refine Z110 (rs := [.tmp 2]) [ptr (some b2) 0] [(some b2, blk [sl o2 0 t.length c2] 76), (o2, blk (u8s t ++ r2) 5), (some d, blk [sl oe 0 t.length ce] 76), (oe, blk (u8s t ++ re) 5)] rfl ⟨rfl, trivial⟩ rfl ⟨b2, o2, c2, r2, ow2, rfl, rfl⟩ (fun w m => m.sublist (List.Sublist.cons_cons _ (List.Sublist.cons_cons _ ((List.Sublist.cons _ (List.Sublist.refl _)).trans (List.sublist_append_right _ _))))) _ (.inl rfl)
theorem HCopy_does (w0 : World) (N : List Ent) (b : Nat) (s : List (BitVec 32)) (n : Int) (ob : Option Nat) (c : Nat) (r : List Value) (rest : List (BitVec 8)) (hs : s.length = 8) (ho : OwnS ob rest.length c 1 (u8s rest) r) :
  DoesG Tryd.prog 11 [ptr (some b) 0] w0 [(some b, blk (u32s s ++ [sl ob 0 rest.length c, .int .i64 n]) 29), (ob, blk (u8s rest ++ r) 5)] N
   (fun u G => ∃ (b2 : Nat) (o2 : Option Nat) (c2 : Nat) (r2 : List Value), OwnS o2 rest.length c2 1 (u8s rest) r2 ∧ u = ptr (some b2) 0 ∧ G = [(some b2, blk (u32s s ++ [sl o2 0 rest.length c2, .int .i64 n]) 29), (o2, blk (u8s rest ++ r2) 5), (some b, blk (u32s s ++ [sl ob 0 rest.length c, .int .i64 n]) 29), (ob, blk (u8s rest ++ r) 5)]) := by
 have hm := ho.mx
 generalize hS : (some b, blk (u32s s ++ [sl ob 0 rest.length c, .int .i64 n]) 29) = S
 refine DoesG.enter Tryd.func11 rfl Tryd.ntmps11 rfl (M := S :: (ob, blk (u8s rest ++ r) 5) :: N) rfl (Z4 (Z2 (Z0 (Z5 rfl) rfl (Z6 ?_))))
 (refine Z1 ?_; refine Z4 ?_; refine Z4 ?_)
 refine Z2 (Z0 (Z3 rfl) rfl (Z0 (RV.eqlS rfl rfl rfl) rfl (Z6 (Z1 (Z118 rfl ?_)))))
 (refine CW.skip ?_; refine Z1 ?_; refine Z4 ?_)
 refine CW.mem (M' := (none, blk ([] ++ []) 5) :: S :: (ob, blk (u8s rest ++ r) 5) :: N) (fun w m => m.nil_ent _) (CW.drawsX (S :: (ob, blk (u8s rest ++ r) 5) :: N) [8] (fun w m => m.tail) mixed (by kernel_rfl) (Z10 0 rfl (by kernel_rfl) rfl (Z3 rfl) rfl (Z10 1 rfl (by kernel_rfl) rfl (RV.nilCheck rfl) rfl (Z10 2 rfl (by kernel_rfl) rfl (Z30 rfl rfl rfl rfl) rfl ?_))))
 refine Z10 3 rfl (by kernel_rfl) rfl (RV.loadAo (ob := some b) (i := 0) (l := u32s s ++ [sl ob 0 rest.length c, .int .i64 n]) (te := 29) (vs := u32s s) rfl (by rw [hS]; exact Zh) rfl rfl rfl rfl (fun j u hj => by rw [Nat.zero_add, List.getElem?_append_left (List.getElem?_eq_some_iff.1 hj).1]; exact hj) ((Z100 _).trans hs)) rfl ?_
 refine Z10 4 rfl (by kernel_rfl) rfl (Z3 rfl) rfl (Z10 5 rfl (by kernel_rfl) rfl (RV.nilCheck rfl) rfl (Z10 6 rfl (by kernel_rfl) rfl (Z30 rfl rfl rfl rfl) rfl ?_))
 refine Z10 7 rfl (by kernel_rfl) rfl (Z29 (ob := some b) (i := 8) (l := u32s s ++ [sl ob 0 rest.length c, .int .i64 n]) (te := 29) (v := sl ob 0 rest.length c) rfl (by rw [hS]; exact Zh) rfl rfl rfl (by rw [List.getElem?_append_right (by rw [Z100, hs]; exact Nat.le_refl _), Z100, hs]; rfl)) rfl ?_
 refine Z10 9 rfl (by kernel_rfl) rfl (Z3 rfl) rfl (Z10 10 rfl (by kernel_rfl) rfl (RV.nilCheck rfl) rfl (Z10 11 rfl (by kernel_rfl) rfl (Z30 rfl rfl rfl rfl) rfl ?_))
 refine Z10 12 rfl (by kernel_rfl) rfl (Z29 (ob := some b) (i := 9) (l := u32s s ++ [sl ob 0 rest.length c, .int .i64 n]) (te := 29) (v := .int .i64 n) rfl (by rw [hS]; exact Zh) rfl rfl rfl (by rw [List.getElem?_append_right (by rw [Z100, hs]; exact Nat.le_of_ble_eq_true rfl), Z100, hs]; rfl)) rfl ?_
 refine XW.appendOwn 8 (s := 1) (vs := u8s rest) rfl (by kernel_rfl) rfl rfl rfl rfl rfl rfl OwnS.nil (fun w m => m.tail.tail.rd0 Zh (fun e => by have h1 := ho.hn e; have h2 := ho.le (by decide); exact List.length_eq_zero_iff.1 (by rw [Z102]; omega))) ((Z102 _).trans (Nat.mul_one _).symm) (u8s_one _) (fun e => by cases ob with
  | none => have h1 := ho.hn rfl; have h2 := ho.le (by decide); omega
  | some _ => cases e) (by decide) (by decide) (by simp only [i5]; omega) rfl rest.length (u8s rest) (Nat.zero_add _) rfl (fun w m => m) rfl (fun o2 r2 c2 ow2 => ?_)
 refine Z10 13 rfl (by kernel_rfl) rfl (RV.buildSt (l := zH) (cs := u32s s ++ [sl o2 0 rest.length c2, .int .i64 n]) [(0, u32s s), (1, [sl o2 0 rest.length c2]), (2, [.int .i64 n])] rfl rfl rfl rfl rfl rfl (by
  have hl : (u32s s).length = 8 := (Z100 _).trans hs
  refine (fillL_cons rfl hl (by exact Nat.le_of_ble_eq_true rfl)).trans ?_
  rw [show spl zH 0 (u32s s) = u32s s ++ [sl none 0 0 0, .int .i64 0] from by unfold spl; rw [hl]; rfl]
  refine (fillL_cons rfl rfl (by rw [List.length_append, hl]; exact Nat.le_of_ble_eq_true rfl)).trans ?_
  rw [show spl (u32s s ++ [sl none 0 0 0, .int .i64 0]) 8 [sl o2 0 rest.length c2] = u32s s ++ [sl o2 0 rest.length c2, .int .i64 0] from by unfold spl; rw [List.take_append_of_le_length (by omega), List.take_of_length_le (by omega), List.drop_append, List.drop_of_length_le (by rw [hl]; exact Nat.le_of_ble_eq_true rfl), hl, List.append_assoc]; rfl]
  refine (fillL_cons rfl rfl (by rw [List.length_append, hl]; exact Nat.le_of_ble_eq_true rfl)).trans ?_
  rw [show spl (u32s s ++ [sl o2 0 rest.length c2, .int .i64 0]) 9 [.int .i64 n] = u32s s ++ [sl o2 0 rest.length c2, .int .i64 n] from by unfold spl; rw [List.take_append, List.take_of_length_le (by rw [hl]; exact Nat.le_of_ble_eq_true rfl), hl, List.drop_of_length_le (by rw [List.length_append, hl]; exact Nat.le_of_ble_eq_true rfl), List.append_nil, List.append_assoc]; rfl]
  rfl)) rfl ?_
 refine XW.new 14 rfl (by kernel_rfl) rfl (NV.boxA rfl) rfl (fun b2 => (Z10 15 rfl (by kernel_rfl) rfl (Z5 rfl) rfl (XW.nil (by kernel_rfl) ?_)))
 (refine Z1 ?_; refine CW.ret ?_)
 refine Z110 (rs := [.tmp 2]) [ptr (some b2) 0] [(some b2, blk (u32s s ++ [sl o2 0 rest.length c2, .int .i64 n]) 29), (o2, blk (u8s rest ++ r2) 5), S, (ob, blk (u8s rest ++ r) 5)] rfl ⟨rfl, trivial⟩ rfl ⟨b2, o2, c2, r2, ow2, rfl, rfl⟩ (fun w m => m) _ (.inl rfl)
theorem waybilllaw03_step_does (w0 : World) (Φ : Ctx) (N : List Ent) (hΦ : ∀ w, Mem w0 w N → Φ w) (hK : TabAt w0 2 constL) (hS : TabAt w0 1 startL) (x : Hs) (ok : x.Ok) (kind ath : Int) (A : Option Addr) (cA : Nat) (data : List (BitVec 8)) (va : View Φ A data.length cA 1 (u8s data)) (hb : x.t.length + data.length + 70 ≤ 1099511627776) :
  DoesG Tryd.prog 13 [ptr (some x.b) 0, ptr (some x.d) 0, .agg [.int .i64 kind, .int .i64 ath, .slice A data.length cA].toArray] w0 (x.ents 29 76 5) N
   (fun u G => ∃ (y : Hs) (B : List Ent), y.Ok ∧ y.b = x.b ∧ y.d = x.d ∧ y.t.length ≤ x.t.length + data.length ∧ u = .bool true ∧ G = y.ents 29 76 5 ++ B) := by
 obtain ⟨b, s, ob, c, r, rest, n, t, d, oe, ce, re⟩ := x
 obtain ⟨ht, o1, o2⟩ := ok
 dsimp only at ht o1 o2 hb
 have hsl := ht.sl
 have hn := ht.n
 refine DoesG.enter Tryd.func13 rfl Tryd.ntmps13 rfl (M := (some b, blk (u32s s ++ [sl ob 0 rest.length c, .int .i64 n]) 29) :: (ob, blk (u8s rest ++ r) 5) :: (some d, blk [sl oe 0 t.length ce] 76) :: (oe, blk (u8s t ++ re) 5) :: N) rfl (Z4 (Z2 (OW.boxA rfl rfl (fun b5 => (Z0 (Z5 rfl) rfl (Z6 ?_))))))
 (refine Z1 ?_; refine Z4 ?_; refine Z4 ?_)
 refine Z2 (Z0 (Z30 rfl rfl rfl rfl) rfl (Z0 (Z29 rfl Zh rfl rfl rfl (v := .int .i64 kind) rfl) rfl (Z6 ?_)))
 (refine Z1 ?_; refine CW.block ?_; refine Z4 ?_)
 refine Z2 (Z0 (RV.eql rfl rfl) rfl (Z0 (Z5 rfl) rfl (Z6 (Z1 ?_))))
 refine Z104 rfl (fun h1 => ?_) (fun h1 => ?_)
 ·have hlent : waybilllaw03_lent data = some data := slent_eq data (by omega)
  refine Z4 (Z2 (Z0 (Z30 rfl rfl rfl rfl) rfl (Z0 (Z29 rfl Zh rfl rfl rfl (v := .slice A data.length cA) rfl) rfl ?_)))
  refine Z12 Tryd.call42 rfl (waybilllaw03_lent_does w0 Φ ((some b5, blk [.int .i64 kind, .int .i64 ath, .slice A data.length cA] 35) :: (some b, blk (u32s s ++ [sl ob 0 rest.length c, .int .i64 n]) 29) :: (ob, blk (u8s rest ++ r) 5) :: (some d, blk [sl oe 0 t.length ce] 76) :: (oe, blk (u8s t ++ re) 5) :: N) (fun w m => hΦ w (m.drop 5)) A cA data data va hlent) rfl rfl ?_; rintro _ _ ⟨B, og, kg, rg, owg, hbg, rfl, rfl⟩; refine Z20 (M' := (some b, blk (u32s s ++ [sl ob 0 rest.length c, .int .i64 n]) 29) :: (ob, blk (u8s rest ++ r) 5) :: (some d, blk [sl oe 0 t.length ce] 76) :: (oe, blk (u8s t ++ re) 5) :: (og, blk (u8s data ++ (u8s (List.replicate 70 165#8) ++ rg)) 5) :: (some b5, blk [.int .i64 kind, .int .i64 ath, .slice A data.length cA] 35) :: (B ++ N)) (fun w m => Mem.pick (Mem.perm m (List.Perm.cons _ (List.perm_append_comm_assoc B [_, _, _, _, _] N))) [2, 3, 4, 5, 0, 1] 6 rfl rfl) ?_
  refine Z0 (Z5 rfl) rfl (Z6 ?_)
  (refine Z1 ?_; refine Z4 ?_)
  have hN : ∀ w, Mem w0 w ((og, blk (u8s data ++ (u8s (List.replicate 70 165#8) ++ rg)) 5) :: (some b5, blk [.int .i64 kind, .int .i64 ath, .slice A data.length cA] 35) :: (B ++ N)) → Φ w := fun w m => hΦ w (m.drop 2).appR
  refine Z2 (Z0 (Z3 rfl) rfl (Z0 (Z3 rfl) rfl ?_))
  refine Z12 Tryd.call43 rfl (Write_does w0 (fun w => Mem w0 w ((some d, blk [sl oe 0 t.length ce] 76) :: (oe, blk (u8s t ++ re) 5) :: (og, blk (u8s data ++ (u8s (List.replicate 70 165#8) ++ rg)) 5) :: (some b5, blk [.int .i64 kind, .int .i64 ath, .slice A data.length cA] 35) :: (B ++ N))) ((some d, blk [sl oe 0 t.length ce] 76) :: (oe, blk (u8s t ++ re) 5) :: (og, blk (u8s data ++ (u8s (List.replicate 70 165#8) ++ rg)) 5) :: (some b5, blk [.int .i64 kind, .int .i64 ath, .slice A data.length cA] 35) :: (B ++ N)) (fun w m => m) hK hS b ob c r s rest n t ht o1 (og.map fun k => ⟨k, 0, none⟩) kg data (owg.view (te := 5) (w0 := w0) (by decide) (fun w q => (q.drop 2).sublist (List.singleton_sublist.2 (List.mem_cons_self ..)))) (by omega)) rfl rfl ?_; rintro _ _ ⟨ob', c', r', s', rest', n', ht', o1', rfl, rfl⟩; refine Z20 (M' := (some d, blk [sl oe 0 t.length ce] 76) :: (oe, blk (u8s t ++ re) 5) :: (some b, blk (u32s s' ++ [sl ob' 0 rest'.length c', .int .i64 n']) 29) :: (ob', blk (u8s rest' ++ r') 5) :: (og, blk (u8s data ++ (u8s (List.replicate 70 165#8) ++ rg)) 5) :: (some b5, blk [.int .i64 kind, .int .i64 ath, .slice A data.length cA] 35) :: (B ++ N)) (fun w m => m.pick [2, 3, 0, 1] 4 rfl rfl) ?_
  refine Z6 ?_
  (refine Z1 ?_; refine Z4 ?_)
  refine Z2 (Z0 (Z3 rfl) rfl (Z0 (Z30 rfl rfl rfl rfl) rfl (Z0 (Z29 rfl (List.Mem.tail _ (List.Mem.tail _ (List.Mem.tail _ (List.Mem.tail _ (List.Mem.tail _ Zh))))) rfl rfl rfl (v := .slice A data.length cA) rfl) rfl ?_)))
  refine Z12 Tryd.call44 rfl (RWrite_does w0 Φ ((some b, blk (u32s s' ++ [sl ob' 0 rest'.length c', .int .i64 n']) 29) :: (ob', blk (u8s rest' ++ r') 5) :: (og, blk (u8s data ++ (u8s (List.replicate 70 165#8) ++ rg)) 5) :: (some b5, blk [.int .i64 kind, .int .i64 ath, .slice A data.length cA] 35) :: (B ++ N)) (fun w m => hN w (m.drop 2)) d oe ce re t o2 A cA data va (by omega)) rfl rfl ?_; rintro _ _ ⟨oe', ce', re', o2', rfl, rfl⟩; refine Z20 (M' := (og, blk (u8s data ++ (u8s (List.replicate 70 165#8) ++ rg)) 5) :: (some b5, blk [.int .i64 kind, .int .i64 ath, .slice A data.length cA] 35) :: (some b, blk (u32s s' ++ [sl ob' 0 rest'.length c', .int .i64 n']) 29) :: (ob', blk (u8s rest' ++ r') 5) :: (some d, blk [sl oe' 0 (t ++ data).length ce'] 76) :: (oe', blk (u8s (t ++ data) ++ re') 5) :: (B ++ N)) (fun w m => m.pick [4, 5, 2, 3, 0, 1] 6 rfl rfl) ?_
  refine Z6 ?_
  (refine Z1 ?_; refine Z4 ?_)
  have hN2 : ∀ w, Mem w0 w ((og, blk (u8s data ++ (u8s (List.replicate 70 165#8) ++ rg)) 5) :: (some b5, blk [.int .i64 kind, .int .i64 ath, .slice A data.length cA] 35) :: (some b, blk (u32s s' ++ [sl ob' 0 rest'.length c', .int .i64 n']) 29) :: (ob', blk (u8s rest' ++ r') 5) :: (some d, blk [sl oe' 0 (t ++ data).length ce'] 76) :: (oe', blk (u8s (t ++ data) ++ re') 5) :: (B ++ N)) → Φ w := fun w m => hΦ w (m.drop 6).appR
  refine Z2 (Z0 (Z3 rfl) rfl (Z0 (Z30 rfl rfl rfl rfl) rfl (Z0 (Z29 rfl (List.Mem.tail _ Zh) rfl rfl rfl (v := .slice A data.length cA) rfl) rfl ?_)))
  refine Z12 Tryd.call45 rfl (waybilllaw03_still_does w0 (fun w => Mem w0 w ((og, blk (u8s data ++ (u8s (List.replicate 70 165#8) ++ rg)) 5) :: (some b5, blk [.int .i64 kind, .int .i64 ath, .slice A data.length cA] 35) :: (some b, blk (u32s s' ++ [sl ob' 0 rest'.length c', .int .i64 n']) 29) :: (ob', blk (u8s rest' ++ r') 5) :: (some d, blk [sl oe' 0 (t ++ data).length ce'] 76) :: (oe', blk (u8s (t ++ data) ++ re') 5) :: (B ++ N))) ((og, blk (u8s data ++ (u8s (List.replicate 70 165#8) ++ rg)) 5) :: (some b5, blk [.int .i64 kind, .int .i64 ath, .slice A data.length cA] 35) :: (some b, blk (u32s s' ++ [sl ob' 0 rest'.length c', .int .i64 n']) 29) :: (ob', blk (u8s rest' ++ r') 5) :: (some d, blk [sl oe' 0 (t ++ data).length ce'] 76) :: (oe', blk (u8s (t ++ data) ++ re') 5) :: (B ++ N)) (fun w m => m) (og.map fun k => ⟨k, 0, none⟩) kg data A cA data true (OwnS.mroom (te := 5) (w0 := w0) owg (fun w q => q.sublist (List.singleton_sublist.2 (List.mem_cons_self ..))) (by rw [List.length_replicate]; omega)) (va.mono hN2) (sstill_eq data)) rfl rfl ?_; rintro _ G3 rfl; refine Z20 (M' := (og, blk (u8s data ++ (u8s (List.replicate 70 165#8) ++ rg)) 5) :: (some b5, blk [.int .i64 kind, .int .i64 ath, .slice A data.length cA] 35) :: (some b, blk (u32s s' ++ [sl ob' 0 rest'.length c', .int .i64 n']) 29) :: (ob', blk (u8s rest' ++ r') 5) :: (some d, blk [sl oe' 0 (t ++ data).length ce'] 76) :: (oe', blk (u8s (t ++ data) ++ re') 5) :: (B ++ N)) (fun w m => m.appR) ?_
  refine Z0 (Z5 rfl) rfl (Z6 ?_)
  (refine Z1 ?_; refine Z4 ?_; refine Z4 ?_)
  refine Z2 (Z0 (Z5 rfl) rfl (Z6 ?_))
  (refine Z1 ?_; refine CW.block ?_)
  refine Z121 (fun k L' M' => ∃ (i : Nat), k = data.length - i ∧ i ≤ data.length ∧ L' = [(7, sl og 0 data.length kg), (8, .bool true), (9, .int .i64 (i : Int))] ∧
   M' = (og, blk (u8s (List.replicate i 77#8 ++ data.drop i) ++ (u8s (List.replicate 70 165#8) ++ rg)) 5) :: (some b5, blk [.int .i64 kind, .int .i64 ath, .slice A data.length cA] 35) :: (some b, blk (u32s s' ++ [sl ob' 0 rest'.length c', .int .i64 n']) 29) :: (ob', blk (u8s rest' ++ r') 5) :: (some d, blk [sl oe' 0 (t ++ data).length ce'] 76) :: (oe', blk (u8s (t ++ data) ++ re') 5) :: (B ++ N)) (k0 := data.length) ⟨0, rfl, by omega, rfl, rfl⟩ ⟨rfl, rfl, rfl, trivial⟩ (fun w m => m) ?_
  rintro k L' M' ⟨i, rfl, hi, rfl, hM⟩
  rw [hM]
  clear hM M'
  (refine Z4 ?_; refine Z4 ?_)
  refine Z2 (Z0 (Z3 rfl) rfl (Z0 (Z3 rfl) rfl (Z0 (RV.len rfl rfl) rfl (Z0 (RV.lss rfl rfl) rfl (Z6 (Z1 ?_))))))
  refine Z104 rfl (fun hlt2 => ?_) (fun hlt2 => ?_)
  ·have h1 : i < data.length := by omega
   have hsg := owg.isSome (by decide) h1
   (refine CW.skip ?_; refine Z1 ?_; refine Z4 ?_; refine CW.block ?_)
   refine Z2 (Z0 (Z3 rfl) rfl (Z0 (Z3 rfl) rfl (Z0 (Z119 (i) rfl rfl rfl rfl rfl hsg (by omega)) rfl ?_)))
   refine Z28 (SV.store (v := U8 77#8) rfl hsg rfl rfl rfl (by rw [List.length_append, Z102, List.length_append, List.length_replicate, List.length_drop]; omega)) ?_; refine OW.cells (u8s (List.replicate (i + 1) 77#8 ++ data.drop (i + 1)) ++ (u8s (List.replicate 70 165#8) ++ rg)) (by rw [Nat.zero_add, List.set_append_left _ _ (by rw [Z102, List.length_append, List.length_replicate, List.length_drop]; omega), u8s_set', List.set_append_right _ _ (by rw [List.length_replicate]; omega), List.length_replicate, Nat.sub_self, List.drop_eq_getElem_cons h1, List.set_cons_zero, show List.replicate (i + 1) 77#8 = List.replicate i 77#8 ++ [77#8] from List.replicate_succ' .., List.append_assoc (List.replicate i 77#8)]; rfl) ?_
   refine Z6 ?_
   (refine Z27 ?_; refine Z1 ?_)
   refine Z2 (Z0 (Z3 rfl) rfl (Z0 (RV.add rfl rfl (by omega)) rfl (Z0 (Z5 rfl) rfl (Z6 ?_))))
   refine Z113 (k' := data.length - (i + 1)) (by omega) ⟨i + 1, rfl, by omega, rfl, rfl⟩ ⟨rfl, rfl, rfl, trivial⟩ (fun w m => m)
  ·(refine CW.exit ?_; refine Z9 ?_; refine Z9 ?_; refine Z15 ?_; refine Z1 ?_; refine Z4 ?_)
   refine Z2 (Z0 (Z3 rfl) rfl (Z0 (Z5 rfl) rfl (Z6 ?_)))
   (refine Z1 ?_; refine CW.ret ?_; refine Z16 ?_; refine Z8 ?_)
   refine Z110 (rs := [.tmp 6]) [.bool true] ((some b, blk (u32s s' ++ [sl ob' 0 rest'.length c', .int .i64 n']) 29) :: (ob', blk (u8s rest' ++ r') 5) :: (some d, blk [sl oe' 0 (t ++ data).length ce'] 76) :: (oe', blk (u8s (t ++ data) ++ re') 5) :: B) rfl ⟨rfl, trivial⟩ rfl ⟨⟨b, s', ob', c', r', rest', n', t ++ data, d, oe', ce', re'⟩, B, ⟨ht', o1', o2'⟩, rfl, rfl, by simp, rfl, rfl⟩ (fun w m => m.tail.tail) _ (.inl rfl)
 ·refine Z4 (Z2 (Z0 (RV.eql rfl rfl) rfl (Z0 (Z5 rfl) rfl (Z6 (Z1 ?_)))))
  refine Z104 rfl (fun h2 => ?_) (fun h2 => ?_)
  ·refine Z4 (Z2 (Z0 (Z3 rfl) rfl ?_))
   refine Z20 (M' := (some b, blk (u32s s ++ [sl ob 0 rest.length c, .int .i64 n]) 29) :: (ob, blk (u8s rest ++ r) 5) :: (some b5, blk [.int .i64 kind, .int .i64 ath, .slice A data.length cA] 35) :: (some d, blk [sl oe 0 t.length ce] 76) :: (oe, blk (u8s t ++ re) 5) :: N) (fun w m => m.pick [1, 2, 0] 3 rfl rfl) ?_; refine Z12 Tryd.call14 rfl (HSum_does w0 ((some b5, blk [.int .i64 kind, .int .i64 ath, .slice A data.length cA] 35) :: (some d, blk [sl oe 0 t.length ce] 76) :: (oe, blk (u8s t ++ re) 5) :: N) hK hS b ob c r s rest n t ht o1 (by omega)) rfl rfl ?_; rintro _ _ ⟨rfl, rfl⟩; refine Z20 (M' := (some d, blk [sl oe 0 t.length ce] 76) :: (oe, blk (u8s t ++ re) 5) :: (some b5, blk [.int .i64 kind, .int .i64 ath, .slice A data.length cA] 35) :: (some b, blk (u32s s ++ [sl ob 0 rest.length c, .int .i64 n]) 29) :: (ob, blk (u8s rest ++ r) 5) :: N) (fun w m => m.pick [3, 4, 2, 0, 1] 5 rfl rfl) ?_
   refine Z0 (Z3 rfl) rfl ?_
   refine Z12 Tryd.call15 rfl (RSum_does w0 ((some b5, blk [.int .i64 kind, .int .i64 ath, .slice A data.length cA] 35) :: (some b, blk (u32s s ++ [sl ob 0 rest.length c, .int .i64 n]) 29) :: (ob, blk (u8s rest ++ r) 5) :: N) d oe ce re t o2 (by omega)) rfl rfl ?_; rintro _ _ ⟨rfl, rfl⟩
   refine Z0 (RV.eqA8_t rfl rfl rfl rfl rfl rfl ((congrArg List.length (shaV_list t)).symm.trans Zv) (shaV_list t).symm) rfl (Z0 (Z5 rfl) rfl (Z6 ?_))
   (refine Z1 ?_; refine CW.ret ?_; refine Z16 ?_; refine Z8 ?_)
   refine Z110 (rs := [.tmp 6]) [.bool true] ((some b, blk (u32s s ++ [sl ob 0 rest.length c, .int .i64 n]) 29) :: (ob, blk (u8s rest ++ r) 5) :: (some d, blk [sl oe 0 t.length ce] 76) :: (oe, blk (u8s t ++ re) 5) :: []) rfl ⟨rfl, trivial⟩ rfl ⟨⟨b, s, ob, c, r, rest, n, t, d, oe, ce, re⟩, [], ⟨ht, o1, o2⟩, rfl, rfl, Nat.le_add_right _ _, rfl, rfl⟩ (fun w m => m.pick [3, 4, 0, 1] 5 rfl rfl) _ (.inl rfl)
  ·refine Z4 (Z2 (Z0 (RV.eql rfl rfl) rfl (Z0 (Z5 rfl) rfl (Z6 (Z1 ?_)))))
   refine Z104 rfl (fun h3 => ?_) (fun h3 => ?_)
   ·refine Z4 (Z2 (Z0 (Z3 rfl) rfl ?_))
    refine Z20 (M' := (some b, blk (u32s s ++ [sl ob 0 rest.length c, .int .i64 n]) 29) :: (ob, blk (u8s rest ++ r) 5) :: (some b5, blk [.int .i64 kind, .int .i64 ath, .slice A data.length cA] 35) :: (some d, blk [sl oe 0 t.length ce] 76) :: (oe, blk (u8s t ++ re) 5) :: N) (fun w m => m.pick [1, 2, 0] 3 rfl rfl) ?_; refine Z12 Tryd.call16 rfl (HLen_does w0 ((ob, blk (u8s rest ++ r) 5) :: (some b5, blk [.int .i64 kind, .int .i64 ath, .slice A data.length cA] 35) :: (some d, blk [sl oe 0 t.length ce] 76) :: (oe, blk (u8s t ++ re) 5) :: N) b s (sl ob 0 rest.length c) n hsl) rfl rfl ?_; rintro _ _ ⟨rfl, rfl⟩; refine Z20 (M' := (some d, blk [sl oe 0 t.length ce] 76) :: (oe, blk (u8s t ++ re) 5) :: (some b5, blk [.int .i64 kind, .int .i64 ath, .slice A data.length cA] 35) :: (some b, blk (u32s s ++ [sl ob 0 rest.length c, .int .i64 n]) 29) :: (ob, blk (u8s rest ++ r) 5) :: N) (fun w m => m.pick [3, 4, 2, 0, 1] 5 rfl rfl) ?_
    refine Z0 (Z3 rfl) rfl ?_
    refine Z12 Tryd.call17 rfl (RLen_does w0 ((oe, blk (u8s t ++ re) 5) :: (some b5, blk [.int .i64 kind, .int .i64 ath, .slice A data.length cA] 35) :: (some b, blk (u32s s ++ [sl ob 0 rest.length c, .int .i64 n]) 29) :: (ob, blk (u8s rest ++ r) 5) :: N) d oe ce t) rfl rfl ?_; rintro _ _ ⟨rfl, rfl⟩
    refine Z0 (RV.eql_t rfl rfl hn) rfl (Z0 (Z5 rfl) rfl (Z6 ?_))
    (refine Z1 ?_; refine CW.ret ?_; refine Z16 ?_; refine Z8 ?_)
    refine Z110 (rs := [.tmp 6]) [.bool true] ((some b, blk (u32s s ++ [sl ob 0 rest.length c, .int .i64 n]) 29) :: (ob, blk (u8s rest ++ r) 5) :: (some d, blk [sl oe 0 t.length ce] 76) :: (oe, blk (u8s t ++ re) 5) :: []) rfl ⟨rfl, trivial⟩ rfl ⟨⟨b, s, ob, c, r, rest, n, t, d, oe, ce, re⟩, [], ⟨ht, o1, o2⟩, rfl, rfl, Nat.le_add_right _ _, rfl, rfl⟩ (fun w m => m.pick [3, 4, 0, 1] 5 rfl rfl) _ (.inl rfl)
   ·refine Z4 (Z2 (Z0 (RV.eql rfl rfl) rfl (Z0 (Z5 rfl) rfl (Z6 (Z1 ?_)))))
    refine Z104 rfl (fun h4 => ?_) (fun h4 => ?_)
    ·refine Z4 (Z2 (Z0 (Z3 rfl) rfl ?_))
     refine Z20 (M' := (some b, blk (u32s s ++ [sl ob 0 rest.length c, .int .i64 n]) 29) :: (some b5, blk [.int .i64 kind, .int .i64 ath, .slice A data.length cA] 35) :: (some d, blk [sl oe 0 t.length ce] 76) :: (oe, blk (u8s t ++ re) 5) :: N) (fun w m => m.pick [1, 0, 3, 4] 5 rfl rfl) ?_; refine Z12 Tryd.call46 rfl (HReset_does w0 ((some b5, blk [.int .i64 kind, .int .i64 ath, .slice A data.length cA] 35) :: (some d, blk [sl oe 0 t.length ce] 76) :: (oe, blk (u8s t ++ re) 5) :: N) b (u32s s ++ [sl ob 0 rest.length c, .int .i64 n]) (by rw [List.length_append, Z100, hsl]; rfl)) rfl rfl ?_; rintro _ _ ⟨rfl, rfl⟩; refine Z20 (M' := (some d, blk [sl oe 0 t.length ce] 76) :: (some b, blk zH 29) :: N) (fun w m => m.pick [2, 0] 4 rfl rfl) ?_
     refine Z6 (Z1 (Z2 (Z0 (Z3 rfl) rfl ?_)))
     refine Z12 Tryd.call47 rfl (RReset_does w0 ((some b, blk zH 29) :: N) d oe ce t.length) rfl rfl ?_; rintro _ _ ⟨rfl, rfl⟩
     refine Z6 ?_
     (refine Z27 ?_; refine Z1 ?_; refine Z4 ?_)
     refine Z2 (Z0 (Z5 rfl) rfl (Z6 ?_))
     (refine Z1 ?_; refine CW.ret ?_)
     refine Z110 (rs := [.tmp 6]) [.bool true] ((some b, blk zH 29) :: (none, blk ([] ++ []) 5) :: (some d, blk [sl none 0 0 0] 76) :: (none, blk ([] ++ []) 5) :: []) rfl ⟨rfl, trivial⟩ rfl ⟨⟨b, List.replicate 8 0#32, none, 0, [], [], 0, [], d, none, 0, []⟩, [], ⟨zH_HT, OwnS.nil, OwnS.nil⟩, rfl, rfl, Nat.zero_le _, rfl, rfl⟩ (fun w m => ((m.nil_ent _).nil_ent _).pick [3, 0, 2, 1] 4 rfl rfl) _ (.inl rfl)
    ·(refine CW.skip ?_; refine Z27 ?_; refine Z1 ?_; refine Z4 ?_)
     refine Z2 (Z0 (Z5 rfl) rfl (Z6 ?_))
     (refine Z1 ?_; refine CW.ret ?_)
     refine Z110 (rs := [.tmp 6]) [.bool true] ((some b, blk (u32s s ++ [sl ob 0 rest.length c, .int .i64 n]) 29) :: (ob, blk (u8s rest ++ r) 5) :: (some d, blk [sl oe 0 t.length ce] 76) :: (oe, blk (u8s t ++ re) 5) :: []) rfl ⟨rfl, trivial⟩ rfl ⟨⟨b, s, ob, c, r, rest, n, t, d, oe, ce, re⟩, [], ⟨ht, o1, o2⟩, rfl, rfl, Nat.le_add_right _ _, rfl, rfl⟩ (fun w m => m.tail) _ (.inl rfl)
theorem waybilllaw03_ShaPlays_does (w0 : World) (Φ : Ctx) (N : List Ent) (hΦ : ∀ w, Mem w0 w N → Φ w) (hK : TabAt w0 2 constL) (hS : TabAt w0 1 startL) (A : Option Addr) (c : Nat) (cs : List Value) (ops : List POp) (va : View Φ A ops.length c 3 cs) (ra : Reps (POpRd Φ) cs ops) (hb : (ops.map fun o => o.data.length).sum + 70 ≤ 1099511627776) :
  DoesG Tryd.prog 3 [.slice A ops.length c] w0 [] N (fun v G => v = .bool true) := by
 have hm := va.mx
 refine DoesG.enter Tryd.func3 rfl Tryd.ntmps3 rfl (M := N) rfl (Z4 (Z2 (Z0 (Z5 rfl) rfl (Z6 ?_))))
 (refine Z1 ?_; refine Z4 ?_)
 refine Z2 ?_
 refine Z12 Tryd.call8 rfl (New_does w0 N) rfl rfl ?_; rintro _ _ ⟨b1, rfl, rfl⟩
 refine Z12 Tryd.call8 rfl (New_does w0 ((some b1, blk zH 29) :: N)) rfl rfl ?_; rintro _ _ ⟨b2, rfl, rfl⟩
 refine Z0 (RV.buildSt (l := zH) (cs := zH) [] rfl rfl rfl rfl rfl rfl rfl) rfl (OW.boxA rfl rfl (fun b3 => (OW.bsN (vs := [ptr (some b1) 0, ptr (some b2) 0, ptr (some b3) 0]) rfl rfl rfl (by decide) (by decide) rfl rfl rfl rfl rfl (fun bp => (Z0 (Z5 rfl) rfl (Z6 ?_))))))
 (refine Z1 ?_; refine Z4 ?_)
 refine Z2 ?_
 refine Z12 Tryd.call9 rfl (RNew_does w0 _) rfl rfl ?_; rintro _ _ ⟨d1, rfl, rfl⟩
 refine Z12 Tryd.call9 rfl (RNew_does w0 _) rfl rfl ?_; rintro _ _ ⟨d2, rfl, rfl⟩
 refine Z12 Tryd.call9 rfl (RNew_does w0 _) rfl rfl ?_; rintro _ _ ⟨d3, rfl, rfl⟩
 refine OW.bsN (vs := [ptr (some d1) 0, ptr (some d2) 0, ptr (some d3) 0]) rfl rfl rfl (by decide) (by decide) rfl rfl rfl rfl rfl (fun bd => (Z0 (Z5 rfl) rfl (Z6 ?_)))
 (refine Z1 ?_; refine Z4 ?_; refine Z4 ?_)
 refine CW.mem (M' := (some bp, blk [ptr (some b1) 0, ptr (some b2) 0, ptr (some b3) 0] 23) :: (some bd, blk [ptr (some d1) 0, ptr (some d2) 0, ptr (some d3) 0] 31) :: (some b1, blk zH 29) :: (none, blk ([] ++ []) 5) :: (some d1, blk [sl none 0 0 0] 76) :: (none, blk ([] ++ []) 5) :: (some b2, blk zH 29) :: (none, blk ([] ++ []) 5) :: (some d2, blk [sl none 0 0 0] 76) :: (none, blk ([] ++ []) 5) :: (some b3, blk zH 29) :: (none, blk ([] ++ []) 5) :: (some d3, blk [sl none 0 0 0] 76) :: (none, blk ([] ++ []) 5) :: N) (fun w m => ((((((m.nil_ent (blk ([] ++ []) 5)).nil_ent (blk ([] ++ []) 5)).nil_ent (blk ([] ++ []) 5)).nil_ent (blk ([] ++ []) 5)).nil_ent (blk ([] ++ []) 5)).nil_ent (blk ([] ++ []) 5)).pick [10, 6, 13, 0, 9, 1, 12, 2, 8, 3, 11, 4, 7, 5] 14 rfl rfl) (Z2 (Z0 (Z3 rfl) rfl (Z0 (Z119 0 rfl rfl rfl rfl rfl rfl (by omega)) rfl (Z0 (Z29 rfl Zh rfl rfl rfl (v := ptr (some b1) 0) rfl) rfl (Z0 (RV.eqlS rfl rfl rfl) rfl (Z0 (Z3 rfl) rfl (Z24 rfl ?_)))))))
 refine Z0 (Z3 rfl) rfl (Z24 rfl (Z0 (Z119 1 rfl rfl rfl rfl rfl rfl (by omega)) rfl (Z24 rfl (Z0 (Z29 rfl Zh rfl rfl rfl (v := ptr (some b2) 0) rfl) rfl (Z24 rfl (Z0 (RV.eqlS rfl rfl rfl) rfl (Z0 (RV.pick_f rfl rfl rfl) rfl ?_)))))))
 refine Z6 (Z1 (Z118 rfl ?_))
 (refine CW.skip ?_; refine Z1 ?_; refine Z4 ?_; refine Z4 ?_)
 refine Z2 (Z0 (Z5 rfl) rfl (Z6 ?_))
 (refine Z1 ?_; refine CW.block ?_)
 refine Z121 (fun k L' M' => ∃ (i : Nat) (l : List Hs) (B : List Ent), k = ops.length - i ∧ i ≤ ops.length ∧ l.length = 3 ∧ (∀ x ∈ l, x.Ok ∧ x.t.length ≤ popTot ops i) ∧ L' = [(0, .slice A ops.length c), (3, sl (some bp) 0 3 3), (4, sl (some bd) 0 3 3), (5, .int .i64 (i : Int))] ∧
  M' = [(some bp, blk (l.map Hs.pp) 23), (some bd, blk (l.map Hs.pd) 31)] ++ (plyE 29 76 5 l ++ (B ++ N))) (k0 := ops.length) ⟨0, [⟨b1, List.replicate 8 0#32, none, 0, [], [], 0, [], d1, none, 0, []⟩, ⟨b2, List.replicate 8 0#32, none, 0, [], [], 0, [], d2, none, 0, []⟩, ⟨b3, List.replicate 8 0#32, none, 0, [], [], 0, [], d3, none, 0, []⟩], [], rfl, by omega, rfl, (by
   intro x hx
   simp only [List.mem_cons, List.not_mem_nil, or_false] at hx
   rcases hx with rfl | rfl | rfl <;> exact ⟨⟨zH_HT, OwnS.nil, OwnS.nil⟩, Nat.zero_le _⟩), rfl, rfl⟩ ⟨rfl, rfl, rfl, rfl, trivial⟩ (fun w m => m) ?_
 rintro k L' M' ⟨i, l, B, rfl, hi, hl3, hok, rfl, hM⟩
 rw [hM]
 clear hM M'
 (refine Z4 ?_; refine Z4 ?_)
 refine Z2 (Z0 (Z3 rfl) rfl (Z0 (Z3 rfl) rfl (Z0 (RV.len rfl rfl) rfl (Z0 (RV.lss rfl rfl) rfl (Z6 (Z1 ?_))))))
 refine Z104 rfl (fun hlt2 => ?_) (fun hlt2 => ?_)
 ·have h1 : i < ops.length := by omega
  have hx : ops[i]? = some ops[i] := List.getElem?_eq_getElem h1
  obtain ⟨ci, ⟨Ao, co, rfl, hath, vo⟩, hcc⟩ := ra.get POpRd.len hx
  have hsome := va.isSome (by decide) h1
  have htot := popTot_succ hx
  have htle := popTot_le ops (i + 1)
  generalize hox : ops[i] = ox at *
  obtain ⟨r, hr, hr0, hr3⟩ := which_eq ox.ath 3 (by decide) (by decide) hath
  obtain ⟨kx, rfl⟩ : ∃ kx : Nat, r = (kx : Int) := ⟨r.toNat, by omega⟩
  have hkl : kx < l.length := by omega
  have hlx : l[kx]? = some l[kx] := List.getElem?_eq_getElem hkl
  obtain ⟨okx, hxt⟩ := hok _ (List.getElem_mem hkl)
  generalize hxx : l[kx] = x at *
  (refine CW.skip ?_; refine Z1 ?_; refine Z4 ?_; refine CW.block ?_; refine Z4 ?_)
  refine Z2 (Z0 (Z3 rfl) rfl (Z0 (Z3 rfl) rfl (Z0 (RV.idx_rs (i) rfl rfl rfl rfl rfl hsome (by omega)) rfl (Z0 (RV.loadAs rfl rfl rfl rfl (fun w m => va.load (hΦ w ((m.appR (B := [_, _])).appR.appR)) hcc) rfl) rfl (OW.alloc (l := [.int .i64 0, .int .i64 0, .slice none 0 0]) rfl rfl rfl (fun b6 => ?_))))))
  refine Z28 (Z105 (s := 3) rfl rfl rfl (by intro u hu; simp only [List.mem_cons, List.not_mem_nil, or_false] at hu; rcases hu with rfl | rfl | rfl <;> rfl) rfl rfl rfl) ?_
  refine Z6 ?_
  (refine Z1 ?_; refine Z4 ?_)
  refine Z2 (Z0 (Z30 rfl rfl rfl rfl) rfl (Z0 (Z29 rfl Zh rfl rfl rfl (v := .int .i64 ox.ath) rfl) rfl ?_))
  refine Z12 Tryd.call10 rfl (waybilllaw03_which_does w0 (fun w => Mem w0 w ((some b6, blk [.int .i64 ox.kind, .int .i64 ox.ath, .slice Ao ox.data.length co] 35) :: ([(some bp, blk (l.map Hs.pp) 23), (some bd, blk (l.map Hs.pd) 31)] ++ (plyE 29 76 5 l ++ (B ++ N))))) ((some b6, blk [.int .i64 ox.kind, .int .i64 ox.ath, .slice Ao ox.data.length co] 35) :: ([(some bp, blk (l.map Hs.pp) 23), (some bd, blk (l.map Hs.pd) 31)] ++ (plyE 29 76 5 l ++ (B ++ N)))) (fun w m => m) ox.ath 3 (kx : Int) hath (by omega) hr) rfl rfl ?_; rintro _ G3 ⟨_, rfl⟩; refine Z20 (M' := ((some b6, blk [.int .i64 ox.kind, .int .i64 ox.ath, .slice Ao ox.data.length co] 35) :: ([(some bp, blk (l.map Hs.pp) 23), (some bd, blk (l.map Hs.pd) 31)] ++ (plyE 29 76 5 l ++ (B ++ N))))) (fun w m => m.appR) ?_
  refine Z0 (Z5 rfl) rfl (Z6 ?_)
  (refine Z1 ?_; refine Z4 ?_; refine Z4 ?_)
  refine Z2 (Z0 (Z30 rfl rfl rfl rfl) rfl (Z0 (Z29 rfl Zh rfl rfl rfl (v := .int .i64 ox.kind) rfl) rfl (Z0 (RV.eql rfl rfl) rfl (Z6 (Z1 ?_)))))
  refine Z104 rfl (fun hk5 => ?_) (fun hk5 => ?_)
  ·refine CW.mem (M' := x.ents 29 76 5 ++ ([(some b6, blk [.int .i64 ox.kind, .int .i64 ox.ath, .slice Ao ox.data.length co] 35), (some bp, blk (l.map Hs.pp) 23), (some bd, blk (l.map Hs.pd) 31)] ++ (plyE 29 76 5 (l.eraseIdx kx) ++ (B ++ N)))) (fun w m => ply_front (F := [_, _, _]) hlx m) ?_
   have hmod : (kx + 1) % 3 < l.length := by omega
   generalize hkk : (kx + 1) % 3 = kk at hmod
   have hpp := ply_get Hs.pp hlx
   have hpd := ply_get Hs.pd hlx
   obtain ⟨b, s, ob, c', r, rest, n, t, d, oe, ce, re⟩ := x
   obtain ⟨ht, o1, o2⟩ := okx
   dsimp only at ht o1 o2 hxt
   have hsl := ht.sl
   refine Z4 (Z2 (Z0 (Z3 rfl) rfl (Z0 (Z3 rfl) rfl (Z0 (Z119 (kx) rfl rfl rfl rfl rfl rfl (by omega)) rfl (Z0 (Z29 (ob := some bp) (l := l.map Hs.pp) rfl (List.Mem.tail _ (List.Mem.tail _ (List.Mem.tail _ (List.Mem.tail _ (List.Mem.tail _ Zh))))) rfl rfl rfl hpp) rfl ?_)))))
   refine Z12 Tryd.call11 rfl (HCopy_does w0 ((some d, blk [sl oe 0 t.length ce] 76) :: (oe, blk (u8s t ++ re) 5) :: (some b6, blk [.int .i64 ox.kind, .int .i64 ox.ath, .slice Ao ox.data.length co] 35) :: (some bp, blk (l.map Hs.pp) 23) :: (some bd, blk (l.map Hs.pd) 31) :: (plyE 29 76 5 (l.eraseIdx kx) ++ (B ++ N))) b s n ob c' r rest hsl o1) rfl rfl ?_; rintro _ _ ⟨b2', p2, c2, r2, ow2, rfl, rfl⟩
   refine Z0 (Z5 rfl) rfl (Z6 ?_)
   (refine Z1 ?_; refine Z4 ?_; refine Z4 ?_)
   refine Z2 (Z0 (Z3 rfl) rfl (Z0 (RV.eqlS rfl rfl rfl) rfl (Z6 (Z1 (Z118 rfl (CW.mem (M' := (some bp, blk (l.map Hs.pp) 23) :: (some b2', blk (u32s s ++ [sl p2 0 rest.length c2, .int .i64 n]) 29) :: (p2, blk (u8s rest ++ r2) 5) :: (some b, blk (u32s s ++ [sl ob 0 rest.length c', .int .i64 n]) 29) :: (ob, blk (u8s rest ++ r) 5) :: (some d, blk [sl oe 0 t.length ce] 76) :: (oe, blk (u8s t ++ re) 5) :: (some bd, blk (l.map Hs.pd) 31) :: (plyE 29 76 5 (l.eraseIdx kx) ++ (B ++ N))) (fun w m => m.pick [7, 0, 1, 2, 3, 4, 5, 8] 9 rfl rfl) ?_))))))
   (refine CW.skip ?_; refine Z1 ?_; refine Z4 ?_)
   refine Z2 (Z0 (Z3 rfl) rfl (Z0 (Z3 rfl) rfl (Z0 (RV.add rfl rfl (by omega)) rfl ?_)))
   refine Z0 (RV.rem rfl rfl (by omega) (by omega)) rfl ?_; refine Z7 (.int .i64 (kk : Int)) (by congr 1; omega) ?_
   refine Z0 (Z3 rfl) rfl (Z0 (Z119 (kk) rfl rfl rfl rfl rfl rfl (by omega)) rfl (Z28 (SV.store (v := ptr (some b2') 0) rfl rfl rfl rfl rfl (by rw [List.length_map]; omega)) (Z6 ?_)))
   (refine Z1 ?_; refine Z4 ?_)
   refine CW.mem (M' := (some d, blk [sl oe 0 t.length ce] 76) :: (oe, blk (u8s t ++ re) 5) :: (some bd, blk (l.map Hs.pd) 31) :: (some bp, blk ((l.map Hs.pp).set (0 + kk) (ptr (some b2') 0)) 23) :: (some b2', blk (u32s s ++ [sl p2 0 rest.length c2, .int .i64 n]) 29) :: (p2, blk (u8s rest ++ r2) 5) :: (some b, blk (u32s s ++ [sl ob 0 rest.length c', .int .i64 n]) 29) :: (ob, blk (u8s rest ++ r) 5) :: (plyE 29 76 5 (l.eraseIdx kx) ++ (B ++ N))) (fun w m => m.pick [5, 6, 7, 0, 1, 2, 3, 4] 8 rfl rfl) (Z2 (Z0 (Z3 rfl) rfl (Z0 (Z3 rfl) rfl (Z0 (RV.add rfl rfl (by omega)) rfl ?_))))
   refine Z0 (RV.rem rfl rfl (by omega) (by omega)) rfl ?_; refine Z7 (.int .i64 (kk : Int)) (by congr 1; omega) ?_
   refine Z0 (Z3 rfl) rfl (Z0 (Z3 rfl) rfl (Z0 (Z119 (kx) rfl rfl rfl rfl rfl rfl (by omega)) rfl (Z0 (Z29 (ob := some bd) (l := l.map Hs.pd) rfl (List.Mem.tail _ (List.Mem.tail _ Zh)) rfl rfl rfl hpd) rfl ?_)))
   refine Z12 Tryd.call12 rfl (RCopy_does w0 ((some bd, blk (l.map Hs.pd) 31) :: (some bp, blk ((l.map Hs.pp).set (0 + kk) (ptr (some b2') 0)) 23) :: (some b2', blk (u32s s ++ [sl p2 0 rest.length c2, .int .i64 n]) 29) :: (p2, blk (u8s rest ++ r2) 5) :: (some b, blk (u32s s ++ [sl ob 0 rest.length c', .int .i64 n]) 29) :: (ob, blk (u8s rest ++ r) 5) :: (plyE 29 76 5 (l.eraseIdx kx) ++ (B ++ N))) d oe ce re t o2) rfl rfl ?_; rintro _ _ ⟨d2', q2, e2, s2, ow3, rfl, rfl⟩; refine Z20 (M' := (some bd, blk (l.map Hs.pd) 31) :: (some d2', blk [sl q2 0 t.length e2] 76) :: (q2, blk (u8s t ++ s2) 5) :: (some d, blk [sl oe 0 t.length ce] 76) :: (oe, blk (u8s t ++ re) 5) :: (some bp, blk ((l.map Hs.pp).set (0 + kk) (ptr (some b2') 0)) 23) :: (some b2', blk (u32s s ++ [sl p2 0 rest.length c2, .int .i64 n]) 29) :: (p2, blk (u8s rest ++ r2) 5) :: (some b, blk (u32s s ++ [sl ob 0 rest.length c', .int .i64 n]) 29) :: (ob, blk (u8s rest ++ r) 5) :: (plyE 29 76 5 (l.eraseIdx kx) ++ (B ++ N))) (fun w m => m.pick [4, 0, 1, 2, 3] 5 rfl rfl) ?_
   refine Z0 (Z119 (kk) rfl rfl rfl rfl rfl rfl (by omega)) rfl (Z28 (SV.store (v := ptr (some d2') 0) rfl rfl rfl rfl rfl (by rw [List.length_map]; omega)) (Z6 ?_))
   (refine Z1 ?_; refine CW.exit ?_; refine Z9 ?_; refine Z15 ?_; refine Z1 ?_)
   generalize hy : (⟨b2', s, p2, c2, r2, rest, n, t, d2', q2, e2, s2⟩ : Hs) = y
   have yok : y.Ok ∧ y.t = t := by rw [← hy]; exact ⟨⟨ht, ow2, ow3⟩, rfl⟩
   refine Z2 (Z0 (Z3 rfl) rfl (Z0 (RV.add rfl rfl (by omega)) rfl (Z0 (Z5 rfl) rfl (Z6 ?_))))
   refine Z113 (k' := ops.length - (i + 1)) (by omega) ⟨i + 1, l.set kk y, B, rfl, by omega, by rw [List.length_set]; exact hl3, ?_, rfl, rfl⟩ ⟨rfl, rfl, rfl, rfl, trivial⟩ (fun w m => ?_)
   ·intro z hz
    rcases List.mem_or_eq_of_mem_set hz with hz | rfl
    ·exact ⟨(hok z hz).1, by have := (hok z hz).2; omega⟩
    ·exact ⟨yok.1, by rw [yok.2]; omega⟩
   ·have m2 : Mem w0 w (y.ents 29 76 5 ++ ((Hs.ents 29 76 5 ⟨b, s, ob, c', r, rest, n, t, d, oe, ce, re⟩) ++ ([(some bp, blk ((l.set kk y).map Hs.pp) 23), (some bd, blk ((l.set kk y).map Hs.pd) 31)] ++ (plyE 29 76 5 (l.eraseIdx kx) ++ (B ++ N))))) := by
     rw [← ply_set Hs.pp, ← ply_set Hs.pd, ← hy]
     exact m.pick [6, 7, 1, 2, 8, 9, 3, 4, 5, 0] 10 rfl rfl
    have m3 := Mem.perm m2 (List.Perm.append_left _ (List.perm_append_comm_assoc _ [_, _] _))
    have m4 : Mem w0 w (y.ents 29 76 5 ++ ([(some bp, blk ((l.set kk y).map Hs.pp) 23), (some bd, blk ((l.set kk y).map Hs.pd) 31)] ++ (plyE 29 76 5 l ++ (B ++ N)))) := by
     refine Mem.perm m3 (List.Perm.append_left _ (List.Perm.append_left _ ?_))
     rw [← List.append_assoc]
     exact List.Perm.append_right _ (plyE_out hlx).symm
    exact ply_take (F := [_, _]) hmod m4
  ·refine CW.mem (M' := x.ents 29 76 5 ++ ([(some b6, blk [.int .i64 ox.kind, .int .i64 ox.ath, .slice Ao ox.data.length co] 35), (some bp, blk (l.map Hs.pp) 23), (some bd, blk (l.map Hs.pd) 31)] ++ (plyE 29 76 5 (l.eraseIdx kx) ++ (B ++ N)))) (fun w m => ply_front (F := [_, _, _]) hlx m) ?_
   have hpp := ply_get Hs.pp hlx
   have hpd := ply_get Hs.pd hlx
   (refine CW.skip ?_; refine Z1 ?_; refine Z4 ?_)
   refine CW.drawsX ([(some b6, blk [.int .i64 ox.kind, .int .i64 ox.ath, .slice Ao ox.data.length co] 35), (some bp, blk (l.map Hs.pp) 23), (some bd, blk (l.map Hs.pd) 31)] ++ (plyE 29 76 5 (l.eraseIdx kx) ++ (B ++ N))) [9] (fun w m => m.appR) mixed (by kernel_rfl) (Z10 0 rfl (by kernel_rfl) rfl (Z3 rfl) rfl (Z10 1 rfl (by kernel_rfl) rfl (Z3 rfl) rfl (Z10 2 rfl (by kernel_rfl) rfl (Z119 (kx) rfl rfl rfl rfl rfl rfl (by omega)) rfl (Z10 3 rfl (by kernel_rfl) rfl (Z29 (ob := some bp) (l := l.map Hs.pp) rfl (List.Mem.tail _ Zh) rfl rfl rfl hpp) rfl (Z10 4 rfl (by kernel_rfl) rfl (Z3 rfl) rfl (Z10 5 rfl (by kernel_rfl) rfl (Z3 rfl) rfl (Z10 6 rfl (by kernel_rfl) rfl (Z119 (kx) rfl rfl rfl rfl rfl rfl (by omega)) rfl ?_)))))))
   refine Z10 7 rfl (by kernel_rfl) rfl (Z29 (ob := some bd) (l := l.map Hs.pd) rfl (List.Mem.tail _ (List.Mem.tail _ Zh)) rfl rfl rfl hpd) rfl (Z10 8 rfl (by kernel_rfl) rfl (Z22 (l := [.int .i64 ox.kind, .int .i64 ox.ath, .slice Ao ox.data.length co]) rfl Zh rfl rfl rfl rfl rfl) rfl (XW.callEs 9 rfl (by kernel_rfl) rfl Tryd.call13 rfl (fun N' hN' => waybilllaw03_step_does w0 Φ N' (fun w m => hΦ w ((hN' w m).appR (B := [_, _, _])).appR.appR) hK hS x okx ox.kind ox.ath Ao co ox.data vo (by omega)) rfl (fun v G hG w m => m.appR) ?_))
   rintro _ _ ⟨y, B5, yok, yb, yd, yt, rfl, rfl⟩
   refine Z10 10 rfl (by kernel_rfl) rfl (Z5 rfl) rfl (XW.nil (by kernel_rfl) ?_)
   (refine Z1 ?_; refine Z4 ?_)
   refine Z2 (Z0 (Z3 rfl) rfl (Z0 (RV.not rfl) rfl (Z6 (Z1 (Z118 rfl ?_)))))
   (refine CW.skip ?_; refine Z27 ?_; refine Z1 ?_)
   refine Z2 (Z0 (Z3 rfl) rfl (Z0 (RV.add rfl rfl (by omega)) rfl (Z0 (Z5 rfl) rfl (Z6 ?_))))
   refine Z113 (k' := ops.length - (i + 1)) (by omega) ⟨i + 1, l.set kx y, B5 ++ B, rfl, by omega, by rw [List.length_set]; exact hl3, ?_, rfl, rfl⟩ ⟨rfl, rfl, rfl, rfl, trivial⟩ (fun w m => ?_)
   ·intro z hz
    rcases List.mem_or_eq_of_mem_set hz with hz | rfl
    ·exact ⟨(hok z hz).1, by have := (hok z hz).2; omega⟩
    ·exact ⟨yok, by omega⟩
   ·have e1 : (l.set kx y).map Hs.pp = l.map Hs.pp := by
     have hy : Hs.pp y = Hs.pp x := by unfold Hs.pp; rw [yb]
     rw [List.map_set, hy]
     exact set_own (by rw [List.getElem?_map, hlx]; rfl)
    have e2 : (l.set kx y).map Hs.pd = l.map Hs.pd := by
     have hy : Hs.pd y = Hs.pd x := by unfold Hs.pd; rw [yd]
     rw [List.map_set, hy]
     exact set_own (by rw [List.getElem?_map, hlx]; rfl)
    rw [e1, e2]
    rw [List.append_assoc] at m
    have m2 : Mem w0 w (y.ents 29 76 5 ++ ([(some b6, blk [.int .i64 ox.kind, .int .i64 ox.ath, .slice Ao ox.data.length co] 35), (some bp, blk (l.map Hs.pp) 23), (some bd, blk (l.map Hs.pd) 31)] ++ (plyE 29 76 5 (l.eraseIdx kx) ++ ((B5 ++ B) ++ N)))) := by
     refine Mem.perm m (List.Perm.append_left _ ?_)
     refine (List.perm_append_comm_assoc B5 [_, _, _] _).trans (List.Perm.append_left _ ?_)
     refine (List.perm_append_comm_assoc B5 _ _).trans (List.Perm.append_left _ ?_)
     rw [List.append_assoc]
    exact (ply_back (F := [(some b6, blk [.int .i64 ox.kind, .int .i64 ox.ath, .slice Ao ox.data.length co] 35), (some bp, blk (l.map Hs.pp) 23), (some bd, blk (l.map Hs.pd) 31)]) hkl m2).tail
 ·have hie : i = ops.length := by omega
  (repeat (first | refine Z4 ?_ | refine Z1 ?_ | refine CW.block ?_ | refine CW.ret ?_ | refine CW.skip ?_ | refine CW.exit ?_ | refine Z9 ?_ | refine Z8 ?_ | refine Z27 ?_ | refine Z15 ?_ | refine QW.block_xn rfl ?_ | refine Z16 ?_))
  refine Z2 (Z0 (Z5 rfl) rfl (Z6 ?_))
  (refine Z1 ?_; refine CW.block ?_)
  refine Z121 (fun k L' M' => ∃ (q : Nat), k = 3 - q ∧ q ≤ 3 ∧ L' = [(3, sl (some bp) 0 3 3), (4, sl (some bd) 0 3 3), (10, .int .i64 (q : Int))] ∧
   M' = [(some bp, blk (l.map Hs.pp) 23), (some bd, blk (l.map Hs.pd) 31)] ++ (plyE 29 76 5 l ++ (B ++ N))) (k0 := 3) ⟨0, rfl, by omega, rfl, rfl⟩ ⟨rfl, rfl, rfl, trivial⟩ (fun w m => m) ?_
  rintro k L' M' ⟨q, rfl, hq, rfl, hM⟩
  rw [hM]
  clear hM M'
  (refine Z4 ?_; refine Z4 ?_)
  refine Z2 (Z0 (Z3 rfl) rfl (Z0 (RV.lss rfl rfl) rfl (Z6 (Z1 ?_))))
  refine Z104 rfl (fun hlt3 => ?_) (fun hlt3 => ?_)
  ·have hql : q < l.length := by omega
   have hlx : l[q]? = some l[q] := List.getElem?_eq_getElem hql
   obtain ⟨okx, hxt⟩ := hok _ (List.getElem_mem hql)
   have htle := popTot_le ops i
   have hpp := ply_get Hs.pp hlx
   have hpd := ply_get Hs.pd hlx
   generalize hxx : l[q] = x at *
   refine CW.mem (M' := x.ents 29 76 5 ++ ([(some bp, blk (l.map Hs.pp) 23), (some bd, blk (l.map Hs.pd) 31)] ++ (plyE 29 76 5 (l.eraseIdx q) ++ (B ++ N)))) (fun w m => ply_front (F := [_, _]) hlx m) ?_
   have hback : ∀ w, Mem w0 w (x.ents 29 76 5 ++ ([(some bp, blk (l.map Hs.pp) 23), (some bd, blk (l.map Hs.pd) 31)] ++ (plyE 29 76 5 (l.eraseIdx q) ++ (B ++ N)))) → Mem w0 w ([(some bp, blk (l.map Hs.pp) 23), (some bd, blk (l.map Hs.pd) 31)] ++ (plyE 29 76 5 l ++ (B ++ N))) := fun w m => by
    have := ply_back (F := [(some bp, blk (l.map Hs.pp) 23), (some bd, blk (l.map Hs.pd) 31)]) hql m
    rwa [set_own hlx] at this
   generalize hX : (plyE 29 76 5 (l.eraseIdx q) ++ (B ++ N)) = X at hback ⊢
   obtain ⟨b, s, ob, c', r, rest, n, t, d, oe, ce, re⟩ := x
   obtain ⟨ht, o1, o2⟩ := okx
   dsimp only at ht o1 o2 hxt
   have hsl := ht.sl
   have hn := ht.n
   generalize hE1 : ((some b, blk (u32s s ++ [sl ob 0 rest.length c', .int .i64 n]) 29) : Ent) = E1
   generalize hE2 : ((ob, blk (u8s rest ++ r) 5) : Ent) = E2
   generalize hE3 : ((some d, blk [sl oe 0 t.length ce] 76) : Ent) = E3
   generalize hE4 : ((oe, blk (u8s t ++ re) 5) : Ent) = E4
   refine CW.mem (M' := E1 :: E2 :: E3 :: E4 :: (some bp, blk (l.map Hs.pp) 23) :: (some bd, blk (l.map Hs.pd) 31) :: X) (fun w m => by rw [← hE1, ← hE2, ← hE3, ← hE4]; exact m) ?_
   (refine CW.skip ?_; refine Z1 ?_; refine Z4 ?_; refine CW.block ?_; refine Z4 ?_)
   refine CW.drawsX (E1 :: E2 :: E3 :: E4 :: (some bp, blk (l.map Hs.pp) 23) :: (some bd, blk (l.map Hs.pd) 31) :: X) [4, 9, 16, 21] (fun w m => m) mixed (by kernel_rfl) (Z10 0 rfl (by kernel_rfl) rfl (Z3 rfl) rfl (Z10 1 rfl (by kernel_rfl) rfl (Z3 rfl) rfl (Z10 2 rfl (by kernel_rfl) rfl (Z119 (q) rfl rfl rfl rfl rfl rfl (by omega)) rfl (Z10 3 rfl (by kernel_rfl) rfl (Z29 (ob := some bp) (l := l.map Hs.pp) rfl (List.Mem.tail _ (List.Mem.tail _ (List.Mem.tail _ (List.Mem.tail _ Zh)))) rfl rfl rfl hpp) rfl (Z10 5 rfl (by kernel_rfl) rfl (Z3 rfl) rfl (Z10 6 rfl (by kernel_rfl) rfl (Z3 rfl) rfl (Z10 7 rfl (by kernel_rfl) rfl (Z119 (q) rfl rfl rfl rfl rfl rfl (by omega)) rfl ?_)))))))
   refine Z10 8 rfl (by kernel_rfl) rfl (Z29 (ob := some bd) (l := l.map Hs.pd) rfl (List.Mem.tail _ (List.Mem.tail _ (List.Mem.tail _ (List.Mem.tail _ (List.Mem.tail _ Zh))))) rfl rfl rfl hpd) rfl ?_
   refine XW.callEs (E := [E1, E2]) (M := E3 :: E4 :: (some bp, blk (l.map Hs.pp) 23) :: (some bd, blk (l.map Hs.pd) 31) :: X) 4 rfl (by kernel_rfl) rfl Tryd.call14 rfl (fun N' hN' => by rw [← hE1, ← hE2]; exact HSum_does w0 N' hK hS b ob c' r s rest n t ht o1 (by omega)) rfl (fun v G hG w m => by rw [hG.2, hE1, hE2] at m; exact m) ?_
   rintro _ _ ⟨rfl, hG⟩
   rw [hE1, hE2] at hG
   rw [hG]
   clear hG
   refine Z19 (M' := E3 :: E4 :: (E1 :: E2 :: (some bp, blk (l.map Hs.pp) 23) :: (some bd, blk (l.map Hs.pd) 31) :: X)) (fun w m => m.pick [2, 3, 0, 1] 4 rfl rfl) (fun w m => m.pick [2, 3, 0, 1] 4 rfl rfl) ?_
   refine XW.callEs (E := [E3, E4]) (M := E1 :: E2 :: (some bp, blk (l.map Hs.pp) 23) :: (some bd, blk (l.map Hs.pd) 31) :: X) 9 rfl (by kernel_rfl) rfl Tryd.call15 rfl (fun N' hN' => by rw [← hE3, ← hE4]; exact RSum_does w0 N' d oe ce re t o2 (by omega)) rfl (fun v G hG w m => by rw [hG.2, hE3, hE4] at m; exact m.pick [2, 3, 0, 1] 4 rfl rfl) ?_
   rintro _ _ ⟨rfl, hG⟩
   rw [hE3, hE4] at hG
   rw [hG]
   clear hG
   refine Z19 (M' := E1 :: E2 :: E3 :: E4 :: (some bp, blk (l.map Hs.pp) 23) :: (some bd, blk (l.map Hs.pd) 31) :: X) (fun w m => m.pick [2, 3, 0, 1] 4 rfl rfl) (fun w m => m) (Z10 10 rfl (by kernel_rfl) rfl (RV.neA8_f rfl rfl rfl rfl rfl rfl ((congrArg List.length (shaV_list t)).symm.trans Zv) (shaV_list t).symm) rfl (Z10 11 rfl (by kernel_rfl) rfl (Z3 rfl) rfl (Z10 12 rfl (by kernel_rfl) rfl (Z3 rfl) rfl (Z10 13 rfl (by kernel_rfl) rfl (Z3 rfl) rfl (Z10 14 rfl (by kernel_rfl) rfl (Z119 (q) rfl rfl rfl rfl rfl rfl (by omega)) rfl (Z10 15 rfl (by kernel_rfl) rfl (Z29 (ob := some bp) (l := l.map Hs.pp) rfl (List.Mem.tail _ (List.Mem.tail _ (List.Mem.tail _ (List.Mem.tail _ Zh)))) rfl rfl rfl hpp) rfl (Z10 17 rfl (by kernel_rfl) rfl (Z3 rfl) rfl ?_)))))))
   refine Z10 18 rfl (by kernel_rfl) rfl (Z3 rfl) rfl (Z10 19 rfl (by kernel_rfl) rfl (Z119 (q) rfl rfl rfl rfl rfl rfl (by omega)) rfl (Z10 20 rfl (by kernel_rfl) rfl (Z29 (ob := some bd) (l := l.map Hs.pd) rfl (List.Mem.tail _ (List.Mem.tail _ (List.Mem.tail _ (List.Mem.tail _ (List.Mem.tail _ Zh))))) rfl rfl rfl hpd) rfl ?_))
   refine XW.callEs (E := [E1]) (M := E2 :: E3 :: E4 :: (some bp, blk (l.map Hs.pp) 23) :: (some bd, blk (l.map Hs.pd) 31) :: X) 16 rfl (by kernel_rfl) rfl Tryd.call16 rfl (fun N' hN' => by rw [← hE1]; exact HLen_does w0 N' b s (sl ob 0 rest.length c') n hsl) rfl (fun v G hG w m => by rw [hG.2, hE1] at m; exact m) ?_
   rintro _ _ ⟨rfl, hG⟩
   rw [hE1] at hG
   rw [hG]
   clear hG
   refine Z19 (M' := E3 :: (E4 :: E1 :: E2 :: (some bp, blk (l.map Hs.pp) 23) :: (some bd, blk (l.map Hs.pd) 31) :: X)) (fun w m => m.pick [2, 3, 0, 1] 4 rfl rfl) (fun w m => m.pick [2, 3, 0, 1] 4 rfl rfl) ?_
   refine XW.callEs (E := [E3]) (M := E4 :: E1 :: E2 :: (some bp, blk (l.map Hs.pp) 23) :: (some bd, blk (l.map Hs.pd) 31) :: X) 21 rfl (by kernel_rfl) rfl Tryd.call17 rfl (fun N' hN' => by rw [← hE3]; exact RLen_does w0 N' d oe ce t) rfl (fun v G hG w m => by rw [hG.2, hE3] at m; exact m.pick [2, 3, 0, 1] 4 rfl rfl) ?_
   rintro _ _ ⟨rfl, hG⟩
   rw [hE3] at hG
   rw [hG]
   clear hG
   refine Z19 (M' := E1 :: E2 :: E3 :: E4 :: (some bp, blk (l.map Hs.pp) 23) :: (some bd, blk (l.map Hs.pd) 31) :: X) (fun w m => m.pick [2, 3, 0, 1] 4 rfl rfl) (fun w m => m) (Z10 22 rfl (by kernel_rfl) rfl (RV.neq_f rfl rfl hn) rfl (Z10 23 rfl (by kernel_rfl) rfl (RV.pick_f rfl rfl rfl) rfl (XW.nil (by kernel_rfl) (Z1 (Z118 rfl ?_)))))
   refine CW.mem (M' := [(some bp, blk (l.map Hs.pp) 23), (some bd, blk (l.map Hs.pd) 31)] ++ (plyE 29 76 5 l ++ (B ++ N))) (fun w m => hback w (by rw [← hE1, ← hE2, ← hE3, ← hE4] at m; exact m)) ?_
   (refine CW.skip ?_; refine Z27 ?_; refine Z1 ?_)
   refine Z2 (Z0 (Z3 rfl) rfl (Z0 (RV.add rfl rfl (by omega)) rfl (Z0 (Z5 rfl) rfl (Z6 ?_))))
   refine Z113 (k' := 3 - (q + 1)) (by omega) ⟨q + 1, rfl, by omega, rfl, rfl⟩ ⟨rfl, rfl, rfl, trivial⟩ (fun w m => m)
  ·(refine CW.exit ?_; refine Z9 ?_; refine Z9 ?_; refine Z15 ?_; refine Z1 ?_; refine Z4 ?_)
   refine Z2 (Z0 (Z5 rfl) rfl (Z6 ?_))
   (refine Z1 ?_; refine CW.ret ?_)
   refine Z110 (R := fun v G => v = .bool true) (N := N) (rs := [.tmp 2]) [.bool true] [] rfl ⟨rfl, trivial⟩ rfl rfl (fun w m => (m.appR (B := [_, _])).appR.appR) _ (.inl rfl)
end Go.Fw.Tryd
namespace Go.Fw
open Go Go.RowKit Go.Deep Go.WideShapes
theorem Reps.of_list {α T : Type} {R : List Value → T → Prop} (cells : α → List Value) (pr : α → T) : ∀ (l : List α), (∀ x ∈ l, R (cells x) (pr x)) → Reps R (l.flatMap cells) (l.map pr)
 | [], _ => .nil
 | x :: l, h => by
  rw [List.flatMap_cons, List.map_cons]
  exact .cons (h x (List.mem_cons_self ..)) (Reps.of_list cells pr l (fun y hy => h y (List.mem_cons_of_mem _ hy)))
section
variable {H : Type} {enc : TypeId × Value → H} {P : Program} {W : World} {t e e2 : TypeId} {v : Value}
theorem reads_bs (ht : P.underlying e = some (.slice e2)) (he : P.underlying e2 = some (.int .u8)) (hs : P.cellsOf e2 = 1) (hb : P.bytesOf e2 = 1) {n : Nat} {u : Value} {r : DataW H × List MemPlace} (h : reads enc P W n e [u] = some r) (hz : Fits P e r.1) :
    ∃ (A : Option Addr) (cap : Nat) (x : List (BitVec 8)), u = .slice A x.length cap ∧ View (fun w => Mem W w []) A x.length cap 1 (u8s x) ∧ x.length ≤ 140737488351232 ∧ ∃ el sp, Els r.1 el sp ∧ el.length = x.length := by
 obtain ⟨A, cap, xs, el, sp, h1, h2, h3, h4, h5, h6, h7, h8, h9, h10⟩ := cells_of_slice (α := BitVec 8) (fun x => [U8 x]) (fun _ _ => True) 1 hs (by omega) (fun n cs r _ hr => by
  obtain ⟨x, rfl⟩ := reads_u8 he hr; exact ⟨x, rfl, trivial⟩) ht h
 rw [flat1] at h6
 have hw := (hz.slice ht h7).1
 rw [hb, h9] at hw
 have hc : cap ≤ 140737488351232 := by simpa [reachBytes] using hw
 exact ⟨A, cap, xs, h1, View.of8 h6 h2 hc, by omega, el, sp, h7, h8⟩
end
end Go.Fw
namespace Go.Fw
open Go
structure LogC where
 address : Vector (BitVec 8) 20
 topics : Value
 data : Value
def LogC.C (s : LogC) : List Value := u8s s.address.toList ++ ([s.topics] ++ ([s.data]))
theorem LogC.C_length (s : LogC) : s.C.length = 22 := by simp [LogC.C, Z102]
theorem LogC.C_one (s : LogC) (h_topics : s.topics.oneCell' = true) (h_data : s.data.oneCell' = true) : ∀ u ∈ s.C, u.oneCell' = true := by
 intro u hu
 simp only [LogC.C, List.mem_append, List.mem_singleton] at hu
 rcases hu with hu | rfl | rfl
 ·exact u8s_one _ u hu
 ·exact h_topics
 ·exact h_data
structure Log where
 address : Vector (BitVec 8) 20
 topics : List (Vector (BitVec 8) 32)
 data : List (BitVec 8)
def LogRd (Φ : Ctx) (cs : List Value) (x : Log) : Prop := ∃ (A_topics : Option Addr), ∃ (c_topics : Nat), ∃ (cs_topics : List Value), ∃ (A_data : Option Addr), ∃ (c_data : Nat), cs = (⟨x.address, .slice A_topics x.topics.length c_topics, .slice A_data x.data.length c_data⟩ : LogC).C ∧ (View Φ A_topics x.topics.length c_topics 32 cs_topics) ∧ (Reps (Ar8Rd Φ) cs_topics x.topics) ∧ (View Φ A_data x.data.length c_data 1 (u8s x.data))
theorem LogRd.mono {Φ Ψ : Ctx} (hh : ∀ w, Ψ w → Φ w) (cs : List Value) (x : Log) : LogRd Φ cs x → LogRd Ψ cs x := fun ⟨A_topics, c_topics, cs_topics, A_data, c_data, e, v_topics, h_topics, v_data⟩ => ⟨A_topics, c_topics, cs_topics, A_data, c_data, e, v_topics.mono hh, h_topics.mono (Ar8Rd.mono hh), v_data.mono hh⟩
theorem LogRd.len {Φ : Ctx} (cs : List Value) (x : Log) (h : LogRd Φ cs x) : cs.length = 22 := by
 obtain ⟨A_topics, c_topics, cs_topics, A_data, c_data, e, v_topics, h_topics, v_data⟩ := h
 rw [e]; exact LogC.C_length _
theorem LogRd.one {Φ : Ctx} (cs : List Value) (x : Log) (h : LogRd Φ cs x) : ∀ u ∈ cs, u.oneCell' = true := by
 obtain ⟨A_topics, c_topics, cs_topics, A_data, c_data, e, v_topics, h_topics, v_data⟩ := h
 rw [e]; exact LogC.C_one _ rfl rfl
theorem LogRd.mk {Φ : Ctx} {address : Vector (BitVec 8) 20} {topics : List (Vector (BitVec 8) 32)} {data : List (BitVec 8)} {A_topics : Option Addr} {c_topics : Nat} {cs_topics : List Value} {A_data : Option Addr} {c_data : Nat} (v_topics : View Φ A_topics topics.length c_topics 32 cs_topics) (h_topics : Reps (Ar8Rd Φ) cs_topics topics) (v_data : View Φ A_data data.length c_data 1 (u8s data)) : LogRd Φ (⟨address, .slice A_topics topics.length c_topics, .slice A_data data.length c_data⟩ : LogC).C (⟨address, topics, data⟩ : Log) := ⟨A_topics, c_topics, cs_topics, A_data, c_data, rfl, v_topics, h_topics, v_data⟩
structure RcptC where
 kind : Int
 rooted : Bool
 root : Vector (BitVec 8) 32
 status : BitVec 64
 used : BitVec 64
 bloom : Vector (BitVec 8) 256
 logs : Value
def RcptC.C (s : RcptC) : List Value := [.int .i64 s.kind] ++ ([.bool s.rooted] ++ (u8s s.root.toList ++ ([U64 s.status] ++ ([U64 s.used] ++ (u8s s.bloom.toList ++ ([s.logs]))))))
theorem RcptC.C_length (s : RcptC) : s.C.length = 293 := by simp [RcptC.C, Z102]
theorem RcptC.C_one (s : RcptC) (h_logs : s.logs.oneCell' = true) : ∀ u ∈ s.C, u.oneCell' = true := by
 intro u hu
 simp only [RcptC.C, List.mem_append, List.mem_singleton] at hu
 rcases hu with rfl | rfl | hu | rfl | rfl | hu | rfl
 ·rfl
 ·rfl
 ·exact u8s_one _ u hu
 ·rfl
 ·rfl
 ·exact u8s_one _ u hu
 ·exact h_logs
structure Rcpt where
 kind : Int
 rooted : Bool
 root : Vector (BitVec 8) 32
 status : BitVec 64
 used : BitVec 64
 bloom : Vector (BitVec 8) 256
 logs : List (Log)
def RcptRd (Φ : Ctx) (cs : List Value) (x : Rcpt) : Prop := ∃ (A_logs : Option Addr), ∃ (c_logs : Nat), ∃ (cs_logs : List Value), cs = (⟨x.kind, x.rooted, x.root, x.status, x.used, x.bloom, .slice A_logs x.logs.length c_logs⟩ : RcptC).C ∧ (-9223372036854775808 ≤ x.kind ∧ x.kind ≤ 9223372036854775807) ∧ (View Φ A_logs x.logs.length c_logs 22 cs_logs) ∧ (Reps (LogRd Φ) cs_logs x.logs)
theorem RcptRd.mono {Φ Ψ : Ctx} (hh : ∀ w, Ψ w → Φ w) (cs : List Value) (x : Rcpt) : RcptRd Φ cs x → RcptRd Ψ cs x := fun ⟨A_logs, c_logs, cs_logs, e, b_kind, v_logs, h_logs⟩ => ⟨A_logs, c_logs, cs_logs, e, b_kind, v_logs.mono hh, h_logs.mono (LogRd.mono hh)⟩
theorem RcptRd.len {Φ : Ctx} (cs : List Value) (x : Rcpt) (h : RcptRd Φ cs x) : cs.length = 293 := by
 obtain ⟨A_logs, c_logs, cs_logs, e, b_kind, v_logs, h_logs⟩ := h
 rw [e]; exact RcptC.C_length _
theorem RcptRd.one {Φ : Ctx} (cs : List Value) (x : Rcpt) (h : RcptRd Φ cs x) : ∀ u ∈ cs, u.oneCell' = true := by
 obtain ⟨A_logs, c_logs, cs_logs, e, b_kind, v_logs, h_logs⟩ := h
 rw [e]; exact RcptC.C_one _ rfl
theorem RcptRd.mk {Φ : Ctx} {kind : Int} {rooted : Bool} {root : Vector (BitVec 8) 32} {status : BitVec 64} {used : BitVec 64} {bloom : Vector (BitVec 8) 256} {logs : List (Log)} {A_logs : Option Addr} {c_logs : Nat} {cs_logs : List Value} (b_kind : -9223372036854775808 ≤ kind ∧ kind ≤ 9223372036854775807) (v_logs : View Φ A_logs logs.length c_logs 22 cs_logs) (h_logs : Reps (LogRd Φ) cs_logs logs) : RcptRd Φ (⟨kind, rooted, root, status, used, bloom, .slice A_logs logs.length c_logs⟩ : RcptC).C (⟨kind, rooted, root, status, used, bloom, logs⟩ : Rcpt) := ⟨A_logs, c_logs, cs_logs, rfl, b_kind, v_logs, h_logs⟩
end Go.Fw
namespace Go.Fw
open Go
theorem bulk_len {H : Type} (ub : DataW H → Nat) (uba : List (DataW H) → Nat) (h0 : uba [] = 0) (h1 : ∀ d r, uba (d :: r) = ub d + uba r) (h2 : ∀ el sp, ub (.slice el sp) = uba el + uba sp + 1) (hp : ∀ d : DataW H, 1 ≤ ub d)
    {d : DataW H} {el sp : List (DataW H)} (he : Els d el sp) : el.length ≤ ub d := by
 have hlen : ∀ l : List (DataW H), l.length ≤ uba l := fun l => by
  induction l with
  | nil => simp
  | cons x r ih => rw [h1]; have := hp x; simp; omega
 rcases he with ⟨_, rfl, _⟩ | rfl
 ·simp
 ·rw [h2]; have := hlen el; omega
end Go.Fw
namespace Go.Fw
open Go
structure BulkFn {H : Type} (ub : DataW H → Nat) (uba : List (DataW H) → Nat) : Prop where
 h0 : uba [] = 0
 h1 : ∀ d r, uba (d :: r) = ub d + uba r
 hs : ∀ el sp, ub (.slice el sp) = uba el + uba sp + 1
 ha : ∀ l, ub (.agg l) = uba l + 1
 hp : ∀ d : DataW H, 1 ≤ ub d
namespace BulkFn
variable {H : Type} {ub : DataW H → Nat} {uba : List (DataW H) → Nat} (B : BulkFn ub uba)
include B
theorem mem {d : DataW H} : ∀ {l : List (DataW H)}, d ∈ l → ub d ≤ uba l
 | x :: l, h => by
  rw [B.h1]
  rcases List.mem_cons.1 h with rfl | h
  ·omega
  ·have := mem h; omega
theorem els {d : DataW H} {el sp : List (DataW H)} (h : Els d el sp) : uba el ≤ ub d := by
 rcases h with ⟨_, rfl, _⟩ | rfl
 ·rw [B.h0]; omega
 ·rw [B.hs]; omega
theorem len {d : DataW H} {el sp : List (DataW H)} (h : Els d el sp) : el.length ≤ ub d := bulk_len ub uba B.h0 B.h1 B.hs B.hp h
theorem sum {α : Type} (f : α → Nat) : ∀ (xs : List α) (el : List (DataW H)), el.length = xs.length → (∀ (i : Nat) x d, xs[i]? = some x → el[i]? = some d → f x ≤ ub d) → (xs.map f).sum ≤ uba el
 | [], el, hl, h => by simp
 | x :: xs, [], hl, h => by simp at hl
 | x :: xs, d :: el, hl, h => by
  rw [List.map_cons, List.sum_cons, B.h1]
  have h1 := h 0 x d rfl rfl
  have h2 := sum f xs el (by simpa using hl) (fun i y e hy he => h (i + 1) y e (by simpa using hy) (by simpa using he))
  omega
end BulkFn
end Go.Fw
namespace Go.Fw
open Go Go.RowKit Go.Deep Go.WideShapes
section
variable {H : Type} {enc : TypeId × Value → H} {P : Program} {W : World} {t e e2 : TypeId}
def LogD (d : DataW H) (x : Log) : Prop := ∃ ds d0 d1 d2 el sp el2 sp2, d = .agg (d0 :: d1 :: d2 :: ds) ∧ Els d1 el sp ∧ el.length = x.topics.length ∧ Els d2 el2 sp2 ∧ el2.length = x.data.length
theorem LogD.bulk2 {ub : DataW H → Nat} {uba : List (DataW H) → Nat} (B : BulkFn ub uba) {d : DataW H} {x : Log} (h : LogD d x) : x.topics.length + x.data.length + 1 ≤ ub d := by
 obtain ⟨ds, d0, d1, d2, el, sp, el2, sp2, rfl, he, hl, he2, hl2⟩ := h
 have h1 := B.len he
 have h2 := B.len he2
 rw [B.ha, B.h1, B.h1, B.h1]
 omega
theorem LogD.bulk {ub : DataW H → Nat} {uba : List (DataW H) → Nat} (B : BulkFn ub uba) {d : DataW H} {x : Log} (h : LogD d x) : x.topics.length + 1 ≤ ub d := by
 have := h.bulk2 B; omega
variable {tL tA tS tH tB t8 : TypeId}
end
end Go.Fw
namespace Go.Fw
abbrev It.zero : It := It.mk false [] []
end Go.Fw
namespace Go.Fw
def be : Nat → Nat → List (BitVec 8)
 | 0, _ => []
 | k + 1, n => BitVec.ofNat 8 (n / 256 ^ k) :: be k n
def bl (n : Nat) : Nat := if n = 0 then 0 else n.log2 + 1
end Go.Fw
namespace Go.Fw
def nb (n : Nat) : Nat := (bl n + 7) / 8
def bytesN (n : Nat) : List (BitVec 8) := be (nb n) n
end Go.Fw
namespace Go.Fw
def small (s : List (BitVec 8)) (h : Nat) : Bool := match s[h]? with
 | some x => decide (x.toNat < 128)
 | none => false
end Go.Fw
namespace Go.Fw
def headB (c n : Nat) : List (BitVec 8) := if n ≤ 55 then [BitVec.ofNat 8 (c + n)] else BitVec.ofNat 8 (c + 55 + nb n) :: bytesN n
end Go.Fw
namespace Go.Fw
def oneB (d : List (BitVec 8)) : Bool := decide (d.length = 1) && small d 0
mutual
def It.enc : It → List (BitVec 8)
 | .mk l d its => if l = true then headB 192 (Its.enc its).length ++ Its.enc its else if oneB d = true then d else headB 128 d.length ++ d
def Its.enc : List It → List (BitVec 8)
 | [] => []
 | x :: xs => It.enc x ++ Its.enc xs
end
end Go.Fw
namespace Go.Fw
def rotl (x : BitVec 64) (n : Nat) : BitVec 64 := x <<< n ||| x >>> (64 - n)
def turnsL : List Int := [0, 1, 62, 28, 27, 36, 44, 6, 55, 20, 3, 10, 43, 25, 39, 41, 45, 15, 21, 8, 18, 2, 61, 56, 14]
def goesN (i : Nat) : Nat := i / 5 + 5 * ((2 * (i % 5) + 3 * (i / 5)) % 5)
def roundsL : List (BitVec 64) := [0x0000000000000001#64, 0x0000000000008082#64, 0x800000000000808A#64, 0x8000000080008000#64,
    0x000000000000808B#64, 0x0000000080000001#64, 0x8000000080008081#64, 0x8000000000008009#64,
    0x000000000000008A#64, 0x0000000000000088#64, 0x0000000080008009#64, 0x000000008000000A#64,
    0x000000008000808B#64, 0x800000000000008B#64, 0x8000000000008089#64, 0x8000000000008003#64,
    0x8000000000008002#64, 0x8000000000000080#64, 0x000000000000800A#64, 0x800000008000000A#64,
    0x8000000080008081#64, 0x8000000000008080#64, 0x0000000080000001#64, 0x8000000080008008#64]
def g64 (l : List (BitVec 64)) (i : Nat) : BitVec 64 := l.getD i 0#64
def colS (a : List (BitVec 64)) (x : Nat) : BitVec 64 := g64 a x ^^^ g64 a (x + 5) ^^^ g64 a (x + 10) ^^^ g64 a (x + 15) ^^^ g64 a (x + 20)
def thetaE (a : List (BitVec 64)) (i : Nat) : BitVec 64 := g64 a i ^^^ (colS a ((i + 4) % 5) ^^^ rotl (colS a ((i + 1) % 5)) 1)
def chiE (b : List (BitVec 64)) (i : Nat) : BitVec 64 := g64 b i ^^^ (~~~ (g64 b (i / 5 * 5 + (i % 5 + 1) % 5)) &&& g64 b (i / 5 * 5 + (i % 5 + 2) % 5))
def chiL (b : List (BitVec 64)) : List (BitVec 64) := (List.range 25).map (chiE b)
end Go.Fw
namespace Go.Fw
end Go.Fw
namespace Go.Fw
def invN (j : Nat) : Nat := ((List.range 25).find? fun i => goesN i == j).getD 0
def movedE (a : List (BitVec 64)) (i : Nat) : BitVec 64 := rotl (thetaE a i) (turnsL.getD i 0).toNat
def movedL (a : List (BitVec 64)) : List (BitVec 64) := (List.range 25).map fun j => movedE a (invN j)
def roundL (a : List (BitVec 64)) (rc : BitVec 64) : List (BitVec 64) := (chiL (movedL a)).set 0 (g64 (chiL (movedL a)) 0 ^^^ rc)
def permTo (a : List (BitVec 64)) : Nat → List (BitVec 64)
 | 0 => a
 | t + 1 => roundL (permTo a t) (g64 roundsL t)
def permL (a : List (BitVec 64)) : List (BitVec 64) := permTo a 24
@[simp] theorem chiL_length (b : List (BitVec 64)) : (chiL b).length = 25 := by simp [chiL]
theorem roundL_length (a : List (BitVec 64)) (rc : BitVec 64) : (roundL a rc).length = 25 := by simp [roundL]
theorem permTo_length {a : List (BitVec 64)} (h : a.length = 25) : ∀ t, (permTo a t).length = 25
 | 0 => h
 | t + 1 => roundL_length _ _
end Go.Fw
namespace Go.Fw
end Go.Fw
namespace Go.Fw
end Go.Fw
namespace Go.Fw
end Go.Fw
namespace Go.Fw
end Go.Fw
namespace Go.Fw
end Go.Fw
namespace Go.Fw
end Go.Fw
namespace Go.Fw
def bt (x : BitVec 64) (z : Nat) : Bool := x.getLsbD (z % 64)
def dl (a b : List (BitVec 64)) (i z : Nat) : Bool := bt (g64 a i) z ^^ bt (g64 b i) z
def dc (a b : List (BitVec 64)) (x z : Nat) : Bool := bt (colS a (x % 5)) z ^^ bt (colS b (x % 5)) z
end Go.Fw
namespace Go.Fw
def keccak_Permute (v : Vector (BitVec 64) 25) : Option (Vector (BitVec 64) 25) := some ⟨(permL v.toList).toArray, by simp only [List.size_toArray]; exact permTo_length Zv 24⟩
def firstL : List (BitVec 8) := [1#8, 6#8]
end Go.Fw
namespace Go.Fw
def keccak_Sponge_absorb.l1 (a0 : Sponge) : Nat → (Nat) → (Sponge) → Option ((Sponge))
 | 0, _, _ => none
 | k16 + 1, n13, w15 => (if n13 < 136 then (a0.part[n13]?).bind fun x24 => (if (n13 / 8) < 25 then (w15.lanes[(n13 / 8)]?).bind fun x28 => (keccak_Sponge_absorb.l1 a0 k16 (n13 + 1) ({ w15 with lanes := w15.lanes.setIfInBounds (n13 / 8) (x28 ^^^ ((x24.setWidth 64) <<< (8 * (n13 % 8)))) } : Sponge)) else none) else (some (w15)))
def keccak_Sponge_absorb (a0 : Sponge) : Option ((Sponge)) := (((keccak_Sponge_absorb.l1 a0 (136 - 0 + 2) 0 a0) : Option ((Sponge))).bind fun w3 => ((keccak_Permute w3.lanes).bind fun x10 => (some ({ ({ w3 with lanes := x10 } : Sponge) with held := (0 : Int) } : Sponge))))
def keccak_Sponge_Write.l1 : Nat → (List (BitVec 8)) → (Sponge) → Option ((Sponge))
 | 0, _, _ => none
 | k20 + 1, l15, w19 => (if 0 < l15.length then (if 0 ≤ w19.held then (if (w19.held).toNat < 136 then (if (min l15.length (136 - ((w19.held).toNat))) ≤ l15.length then (if -9223372036854775808 ≤ (({ w19 with part := cpV w19.part ((w19.held).toNat) (l15.take (min l15.length (136 - ((w19.held).toNat)))) } : Sponge).held + (((min l15.length (136 - ((w19.held).toNat))) : Nat) : Int)) ∧ (({ w19 with part := cpV w19.part ((w19.held).toNat) (l15.take (min l15.length (136 - ((w19.held).toNat)))) } : Sponge).held + (((min l15.length (136 - ((w19.held).toNat))) : Nat) : Int)) ≤ 9223372036854775807 then (((if ({ ({ w19 with part := cpV w19.part ((w19.held).toNat) (l15.take (min l15.length (136 - ((w19.held).toNat)))) } : Sponge) with held := (({ w19 with part := cpV w19.part ((w19.held).toNat) (l15.take (min l15.length (136 - ((w19.held).toNat)))) } : Sponge).held + (((min l15.length (136 - ((w19.held).toNat))) : Nat) : Int)) } : Sponge).held = (136 : Int) then ((keccak_Sponge_absorb ({ ({ w19 with part := cpV w19.part ((w19.held).toNat) (l15.take (min l15.length (136 - ((w19.held).toNat)))) } : Sponge) with held := (({ w19 with part := cpV w19.part ((w19.held).toNat) (l15.take (min l15.length (136 - ((w19.held).toNat)))) } : Sponge).held + (((min l15.length (136 - ((w19.held).toNat))) : Nat) : Int)) } : Sponge)).bind fun x47 => (some (x47))) else (some (({ ({ w19 with part := cpV w19.part ((w19.held).toNat) (l15.take (min l15.length (136 - ((w19.held).toNat)))) } : Sponge) with held := (({ w19 with part := cpV w19.part ((w19.held).toNat) (l15.take (min l15.length (136 - ((w19.held).toNat)))) } : Sponge).held + (((min l15.length (136 - ((w19.held).toNat))) : Nat) : Int)) } : Sponge)))) : Option ((Sponge))).bind fun w39 => (keccak_Sponge_Write.l1 k20 (l15.drop (min l15.length (136 - ((w19.held).toNat)))) w39)) else none) else none) else none) else none) else (some (w19)))
def keccak_Sponge_Write (a0 : Sponge) (a1 : List (BitVec 8)) : Option ((Sponge)) := (if -9223372036854775808 ≤ (a0.long + ((a1.length : Nat) : Int)) ∧ (a0.long + ((a1.length : Nat) : Int)) ≤ 9223372036854775807 then (((keccak_Sponge_Write.l1 (a1.length - 0 + 2) a1 ({ a0 with long := (a0.long + ((a1.length : Nat) : Int)) } : Sponge)) : Option ((Sponge))).bind fun w7 => (some w7)) else none)
def keccak_Sponge_Sum.l1 (x14 : Sponge) : Nat → (Nat) → (Vector (BitVec 8) 32) → Option ((Vector (BitVec 8) 32))
 | 0, _, _ => none
 | k32 + 1, n29, w31 => (if n29 < 32 then (if (n29 / 8) < 25 then (x14.lanes[(n29 / 8)]?).bind fun x41 => (keccak_Sponge_Sum.l1 x14 k32 (n29 + 1) (w31.setIfInBounds n29 ((x41 >>> (8 * (n29 % 8))).setWidth 8))) else none) else (some (w31)))
def keccak_Sponge_Sum (a0 : Sponge) : Option ((Vector (BitVec 8) 32) × (Sponge)) := (if 0 ≤ a0.held then (if (a0.held).toNat < 136 then (if 0 ≤ ({ a0 with part := cpV a0.part ((a0.held).toNat) (List.replicate (136 - ((a0.held).toNat)) 0#8) } : Sponge).held then (if (({ a0 with part := cpV a0.part ((a0.held).toNat) (List.replicate (136 - ((a0.held).toNat)) 0#8) } : Sponge).held).toNat < 136 then (({ a0 with part := cpV a0.part ((a0.held).toNat) (List.replicate (136 - ((a0.held).toNat)) 0#8) } : Sponge).part[(({ a0 with part := cpV a0.part ((a0.held).toNat) (List.replicate (136 - ((a0.held).toNat)) 0#8) } : Sponge).held).toNat]?).bind fun x7 => (if 0 ≤ ({ a0 with part := cpV a0.part ((a0.held).toNat) (List.replicate (136 - ((a0.held).toNat)) 0#8) } : Sponge).kind then (firstL[(({ a0 with part := cpV a0.part ((a0.held).toNat) (List.replicate (136 - ((a0.held).toNat)) 0#8) } : Sponge).kind).toNat]?).bind fun x10 => ((keccak_Sponge_absorb ({ ({ ({ a0 with part := cpV a0.part ((a0.held).toNat) (List.replicate (136 - ((a0.held).toNat)) 0#8) } : Sponge) with part := ({ a0 with part := cpV a0.part ((a0.held).toNat) (List.replicate (136 - ((a0.held).toNat)) 0#8) } : Sponge).part.setIfInBounds ((({ a0 with part := cpV a0.part ((a0.held).toNat) (List.replicate (136 - ((a0.held).toNat)) 0#8) } : Sponge).held).toNat) (x7 ^^^ x10) } : Sponge) with part := ({ ({ a0 with part := cpV a0.part ((a0.held).toNat) (List.replicate (136 - ((a0.held).toNat)) 0#8) } : Sponge) with part := ({ a0 with part := cpV a0.part ((a0.held).toNat) (List.replicate (136 - ((a0.held).toNat)) 0#8) } : Sponge).part.setIfInBounds ((({ a0 with part := cpV a0.part ((a0.held).toNat) (List.replicate (136 - ((a0.held).toNat)) 0#8) } : Sponge).held).toNat) (x7 ^^^ x10) } : Sponge).part.setIfInBounds 135 (({ ({ a0 with part := cpV a0.part ((a0.held).toNat) (List.replicate (136 - ((a0.held).toNat)) 0#8) } : Sponge) with part := ({ a0 with part := cpV a0.part ((a0.held).toNat) (List.replicate (136 - ((a0.held).toNat)) 0#8) } : Sponge).part.setIfInBounds ((({ a0 with part := cpV a0.part ((a0.held).toNat) (List.replicate (136 - ((a0.held).toNat)) 0#8) } : Sponge).held).toNat) (x7 ^^^ x10) } : Sponge).part[135] ^^^ 128#8) } : Sponge)).bind fun x14 => (((keccak_Sponge_Sum.l1 x14 (32 - 0 + 2) 0 (Vector.replicate 32 0#8)) : Option ((Vector (BitVec 8) 32))).bind fun w23 => (some (w23, a0)))) else none) else none) else none) else none) else none)
def keccak_digest.l1 (a1 : List (List (BitVec 8))) : Nat → (Nat) → (Sponge) → Option ((Sponge))
 | 0, _, _ => none
 | k27 + 1, n24, w26 => (if n24 < a1.length then (a1[n24]?).bind fun x35 => ((keccak_Sponge_Write w26 x35).bind fun x47 => (keccak_digest.l1 a1 k27 (n24 + 1) x47)) else (some (w26)))
def keccak_digest (a0 : Int) (a1 : List (List (BitVec 8))) : Option ((Vector (BitVec 8) 32)) := (((keccak_digest.l1 a1 (a1.length - 0 + 2) 0 ({ (⟨0, (Vector.replicate 25 0#64), (Vector.replicate 136 0#8), 0, 0⟩ : Sponge) with kind := a0 } : Sponge)) : Option ((Sponge))).bind fun w8 => ((keccak_Sponge_Sum w8).bind fun (x15, x16) => (some x15)))
def keccak_Sum (a0 : List (List (BitVec 8))) : Option ((Vector (BitVec 8) 32)) := ((keccak_digest (0 : Int) a0).bind fun x4 => (some x4))
end Go.Fw
namespace Go.Fw
def bloom_Places.l1 (x9 : Vector (BitVec 8) 32) : Nat → (Nat) → (Vector (Int) 3) → Option ((Vector (Int) 3))
 | 0, _, _ => none
 | k25 + 1, n22, w24 => (if n22 < 3 then (if (2 * n22) < 32 then (x9[(2 * n22)]?).bind fun x34 => (if ((2 * n22) + 1) < 32 then (x9[((2 * n22) + 1)]?).bind fun x38 => (bloom_Places.l1 x9 k25 (n22 + 1) (w24.setIfInBounds n22 ((((256 * x34.toNat) + x38.toNat) % 2048 : Nat) : Int))) else none) else none) else (some (w24)))
def bloom_Places (a0 : List (BitVec 8)) : Option ((Vector (Int) 3)) := ((keccak_Sum ([a0] : List (List (BitVec 8)))).bind fun x9 => (((bloom_Places.l1 x9 (3 - 0 + 2) 0 (Vector.replicate 3 0)) : Option ((Vector (Int) 3))).bind fun w16 => (some w16)))
def bloom_set (a0 : Vector (BitVec 8) 256) (a1 : Int) : Option ((Vector (BitVec 8) 256)) := (if 0 ≤ a1 then (if 0 ≤ ((255 : Int) - (((a1).toNat / 8 : Nat) : Int)) then (if (((255 : Int) - (((a1).toNat / 8 : Nat) : Int))).toNat < 256 then (a0[(((255 : Int) - (((a1).toNat / 8 : Nat) : Int))).toNat]?).bind fun x6 => (some (a0.setIfInBounds ((((255 : Int) - (((a1).toNat / 8 : Nat) : Int))).toNat) (x6 ||| (1#8 <<< ((a1).toNat % 8))))) else none) else none) else none)
def bloom_Add.l1 (x5 : Vector (Int) 3) : Nat → (Nat) → (Vector (BitVec 8) 256) → Option ((Vector (BitVec 8) 256))
 | 0, _, _ => none
 | k19 + 1, n16, w18 => (if n16 < 3 then (x5[n16]?).bind fun x27 => (if -9223372036854775808 ≤ x27 ∧ x27 ≤ 9223372036854775807 then ((bloom_set w18 x27).bind fun x32 => (bloom_Add.l1 x5 k19 (n16 + 1) x32)) else none) else (some (w18)))
def bloom_Add (a0 : Vector (BitVec 8) 256) (a1 : List (BitVec 8)) : Option ((Vector (BitVec 8) 256)) := ((bloom_Places a1).bind fun x5 => (((bloom_Add.l1 x5 (3 - 0 + 2) 0 a0) : Option ((Vector (BitVec 8) 256))).bind fun w10 => (some w10)))
def bloom_Of.l1 (a0 : List (List (BitVec 8))) : Nat → (Nat) → (Vector (BitVec 8) 256) → Option ((Vector (BitVec 8) 256))
 | 0, _, _ => none
 | k15 + 1, n12, w14 => (if n12 < a0.length then (a0[n12]?).bind fun x23 => ((bloom_Add w14 x23).bind fun x35 => (bloom_Of.l1 a0 k15 (n12 + 1) x35)) else (some (w14)))
def bloom_Of (a0 : List (List (BitVec 8))) : Option ((Vector (BitVec 8) 256)) := (((bloom_Of.l1 a0 (a0.length - 0 + 2) 0 (Vector.replicate 256 0#8)) : Option ((Vector (BitVec 8) 256))).bind fun w6 => (some w6))
end Go.Fw
namespace Go.Fw
open Go
structure Rdr where
 err : Int
def Rdr.C (s : Rdr) : List Value := [.int .i64 s.err]
theorem Rdr.C_length (s : Rdr) : s.C.length = 1 := by simp [Rdr.C]
theorem Rdr.C_one (s : Rdr) : ∀ u ∈ s.C, u.oneCell' = true := by
 intro u hu
 simp only [Rdr.C, List.mem_append, List.mem_singleton] at hu
 rcases hu with rfl
 ·rfl
end Go.Fw
namespace Go.Fw
open Go
abbrev hs32 (l : List (Vector (BitVec 8) 32)) : List Value := l.flatMap fun x => u8s x.toList
theorem hs32_reps {Φ : Ctx} (l : List (Vector (BitVec 8) 32)) : Reps (Ar8Rd Φ) (hs32 l) l := by
 have := Reps.of_list (R := Ar8Rd (n := 32) Φ) (fun x : Vector (BitVec 8) 32 => u8s x.toList) (fun x => x) l (fun x _ => rfl)
 rwa [List.map_id'] at this
structure Lg where
 a : Vector (BitVec 8) 20
 tb : Option Nat
 t : List (Vector (BitVec 8) 32)
 tc : Nat
 tr : List Value
 db : Option Nat
 d : List (BitVec 8)
 dc : Nat
 dr : List Value
def Lg.val (g : Lg) : Log := ⟨g.a, g.t, g.d⟩
def Lg.cell (g : Lg) : LogC := ⟨g.a, sl g.tb 0 g.t.length g.tc, sl g.db 0 g.d.length g.dc⟩
def Lg.cells (g : Lg) : List Value := g.cell.C
def Lg.ents (tH tB : TypeId) (g : Lg) : List Ent := [(g.tb, blk (hs32 g.t ++ g.tr) tH), (g.db, blk (u8s g.d ++ g.dr) tB)]
structure Lg.Ok (g : Lg) : Prop where
 t : OwnS g.tb g.t.length g.tc 32 (hs32 g.t) g.tr
 d : OwnS g.db g.d.length g.dc 1 (u8s g.d) g.dr
theorem Lg.cells_one (g : Lg) : ∀ u ∈ g.cells, u.oneCell' = true := LogC.C_one _ rfl rfl
theorem Lg.rd {w0 : World} {Φ : Ctx} {tH tB : TypeId} {g : Lg} (ok : g.Ok) (h : ∀ w, Φ w → Mem w0 w (g.ents tH tB)) : LogRd Φ g.cells g.val := by
 have h1 := ok.t.view (te := tH) (w0 := w0) (Ψ := Φ) (by decide) (fun w q => (h w q).sublist (by unfold Lg.ents; exact List.Sublist.cons_cons _ (List.nil_sublist _)))
 have h2 := ok.d.view (te := tB) (w0 := w0) (Ψ := Φ) (by decide) (fun w q => (h w q).tail)
 exact LogRd.mk h1 (hs32_reps _) h2
end Go.Fw
namespace Go.Fw
def Log.zero : Log := ⟨Vector.replicate 20 0#8, [], []⟩
def Rdr.bd (r : Rdr) : Prop := 0 ≤ r.err ∧ r.err ≤ 1000
def Rcpt.zero : Rcpt := ⟨0, false, Vector.replicate 32 0#8, 0#64, 0#64, Vector.replicate 256 0#8, []⟩
end Go.Fw
namespace Go.Fw
theorem absorb_loop (a0 : Sponge) : ∀ (d i k : Nat) (w : Sponge), i + d = 136 → d < k → ∃ w', keccak_Sponge_absorb.l1 a0 k i w = some w' ∧ w'.kind = w.kind ∧ w'.long = w.long
 | 0, i, k, w, h, hk => by
  obtain ⟨k, rfl⟩ : ∃ m, k = m + 1 := ⟨k - 1, by omega⟩
  exact ⟨w, by rw [keccak_Sponge_absorb.l1, if_neg (by omega)], rfl, rfl⟩
 | d + 1, i, k, w, h, hk => by
  obtain ⟨k, rfl⟩ : ∃ m, k = m + 1 := ⟨k - 1, by omega⟩
  rw [keccak_Sponge_absorb.l1, if_pos (by omega), Vector.getElem?_eq_getElem (by omega), Zb, if_pos (by omega), Vector.getElem?_eq_getElem (by omega), Zb]
  obtain ⟨w', e1, e2, e3⟩ := absorb_loop a0 d (i + 1) k _ (by omega) (by omega)
  exact ⟨w', e1, e2, e3⟩
theorem absorb_total (s : Sponge) : ∃ s', keccak_Sponge_absorb s = some s' ∧ s'.kind = s.kind ∧ s'.long = s.long ∧ s'.held = 0 := by
 unfold keccak_Sponge_absorb
 obtain ⟨w, e1, e2, e3⟩ := absorb_loop s 136 0 (136 - 0 + 2) s (by omega) (by omega)
 rw [e1, Zb]
 exact ⟨_, rfl, e2, e3, rfl⟩
theorem write_loop : ∀ (n k : Nat) (l : List (BitVec 8)) (w : Sponge), l.length ≤ n → n < k → 0 ≤ w.held → w.held < 136 → ∃ w', keccak_Sponge_Write.l1 k l w = some w' ∧ 0 ≤ w'.held ∧ w'.held < 136 ∧ w'.kind = w.kind ∧ w'.long = w.long
 | n, 0, l, w, hn, hk, h0, h1 => by omega
 | n, k + 1, l, w, hn, hk, h0, h1 => by
  rw [keccak_Sponge_Write.l1]
  by_cases hl : 0 < l.length
  ·have hm : 0 < min l.length (136 - w.held.toNat) := by omega
   rw [if_pos hl, if_pos h0, if_pos (by omega), if_pos (Nat.min_le_left ..), if_pos (by constructor <;> (show _ ≤ _; dsimp only; omega))]
   by_cases hf : w.held + ((min l.length (136 - w.held.toNat) : Nat) : Int) = 136
   ·rw [if_pos hf]
    obtain ⟨s', e1, e2, e3, e4⟩ := absorb_total ({ ({ w with part := cpV w.part ((w.held).toNat) (l.take (min l.length (136 - ((w.held).toNat)))) } : Sponge) with held := (({ w with part := cpV w.part ((w.held).toNat) (l.take (min l.length (136 - ((w.held).toNat)))) } : Sponge).held + (((min l.length (136 - ((w.held).toNat))) : Nat) : Int)) } : Sponge)
    rw [e1, Zb, Zb]
    obtain ⟨w', f1, f2, f3, f4, f5⟩ := write_loop (n - 1) k (l.drop (min l.length (136 - w.held.toNat))) s' (by rw [List.length_drop]; omega) (by omega) (by omega) (by omega)
    exact ⟨w', f1, f2, f3, f4.trans e2, f5.trans e3⟩
   ·rw [if_neg hf, Zb]
    obtain ⟨w', f1, f2, f3, f4, f5⟩ := write_loop (n - 1) k (l.drop (min l.length (136 - w.held.toNat))) ({ ({ w with part := cpV w.part ((w.held).toNat) (l.take (min l.length (136 - ((w.held).toNat)))) } : Sponge) with held := (({ w with part := cpV w.part ((w.held).toNat) (l.take (min l.length (136 - ((w.held).toNat)))) } : Sponge).held + (((min l.length (136 - ((w.held).toNat))) : Nat) : Int)) } : Sponge) (by rw [List.length_drop]; omega) (by omega) (show 0 ≤ w.held + ((min l.length (136 - w.held.toNat) : Nat) : Int) by omega) (show w.held + ((min l.length (136 - w.held.toNat) : Nat) : Int) < 136 by omega)
    exact ⟨w', f1, f2, f3, f4, f5⟩
  ·rw [if_neg hl]
   exact ⟨w, rfl, h0, h1, rfl, rfl⟩
theorem write_total (s : Sponge) (l : List (BitVec 8)) (h0 : 0 ≤ s.held) (h1 : s.held < 136) (h2 : -9223372036854775808 ≤ s.long + ((l.length : Nat) : Int) ∧ s.long + ((l.length : Nat) : Int) ≤ 9223372036854775807) : ∃ s', keccak_Sponge_Write s l = some s' ∧ 0 ≤ s'.held ∧ s'.held < 136 ∧ s'.kind = s.kind ∧ s'.long = s.long + ((l.length : Nat) : Int) := by
 unfold keccak_Sponge_Write
 rw [if_pos h2]
 obtain ⟨w, e1, e2, e3, e4, e5⟩ := write_loop l.length (l.length - 0 + 2) l ({ s with long := (s.long + ((l.length : Nat) : Int)) } : Sponge) (Nat.le_refl _) (by omega) h0 h1
 rw [e1, Zb]
 exact ⟨w, rfl, e2, e3, e4, e5⟩
end Go.Fw
namespace Go.Fw
theorem ssum_loop (x : Sponge) : ∀ (d i k : Nat) (w : Vector (BitVec 8) 32), i + d = 32 → d < k → ∃ w', keccak_Sponge_Sum.l1 x k i w = some w'
 | 0, i, k, w, h, hk => by
  obtain ⟨k, rfl⟩ : ∃ m, k = m + 1 := ⟨k - 1, by omega⟩
  exact ⟨w, by rw [keccak_Sponge_Sum.l1, if_neg (by omega)]⟩
 | d + 1, i, k, w, h, hk => by
  obtain ⟨k, rfl⟩ : ∃ m, k = m + 1 := ⟨k - 1, by omega⟩
  rw [keccak_Sponge_Sum.l1, if_pos (by omega), if_pos (by omega), Vector.getElem?_eq_getElem (by omega), Zb]
  exact ssum_loop x d (i + 1) k _ (by omega) (by omega)
theorem ssum_total (s : Sponge) (h0 : 0 ≤ s.held) (h1 : s.held < 136) (hk : s.kind = 0 ∨ s.kind = 1) : ∃ r, keccak_Sponge_Sum s = some r := by
 unfold keccak_Sponge_Sum
 rw [if_pos h0, if_pos (by omega)]
 dsimp only
 have hf : ∃ f, firstL[s.kind.toNat]? = some f := by
  rcases hk with e | e <;> rw [e]
  ·exact ⟨1#8, rfl⟩
  ·exact ⟨6#8, rfl⟩
 obtain ⟨f, hf⟩ := hf
 rw [if_pos h0, if_pos (by omega), Vector.getElem?_eq_getElem (by omega), Zb, if_pos (by omega), hf, Zb]
 generalize hS : (Sponge.mk _ _ _ _ _ : Sponge) = S
 obtain ⟨s', e1, _⟩ := absorb_total S
 rw [e1, Zb]
 obtain ⟨w', e2⟩ := ssum_loop s' 32 0 (32 - 0 + 2) (Vector.replicate 32 0#8) (by omega) (by omega)
 rw [e2, Zb]
 exact ⟨_, rfl⟩
theorem sum_total (t : List (BitVec 8)) (ht : t.length ≤ 140737488355328) : ∃ h, keccak_Sum [t] = some h := by
 unfold keccak_Sum keccak_digest
 obtain ⟨w, e1, e2, e3, e4, e5⟩ := write_total ({ (⟨0, (Vector.replicate 25 0#64), (Vector.replicate 136 0#8), 0, 0⟩ : Sponge) with kind := (0 : Int) } : Sponge) t (by show (0 : Int) ≤ 0; omega) (by show (0 : Int) < 136; omega) (by show -9223372036854775808 ≤ (0 : Int) + _ ∧ (0 : Int) + _ ≤ _; omega)
 have hl : keccak_digest.l1 [t] ([t].length - 0 + 2) 0 ({ (⟨0, (Vector.replicate 25 0#64), (Vector.replicate 136 0#8), 0, 0⟩ : Sponge) with kind := (0 : Int) } : Sponge) = some w := by
  show keccak_digest.l1 [t] (2 + 1) 0 _ = some w
  rw [keccak_digest.l1, if_pos (by simp)]
  show (some t).bind _ = _
  rw [Zb, e1, Zb, keccak_digest.l1, if_neg (by simp)]
 rw [hl, Zb]
 obtain ⟨⟨h, w'⟩, e6⟩ := ssum_total w e2 e3 (.inl e4)
 rw [e6, Zb]
 exact ⟨h, rfl⟩
theorem places_total (t : List (BitVec 8)) (ht : t.length ≤ 140737488355328) : ∃ p : Vector Int 3, bloom_Places t = some p ∧ ∀ (i : Nat) (h : i < 3), 0 ≤ p[i] ∧ p[i] < (2048 : Int) := by
 unfold bloom_Places
 obtain ⟨h, e⟩ := sum_total t ht
 rw [e, Zb]
 have loop : ∀ (d i k : Nat) (w : Vector Int 3), i + d = 3 → d < k → (∀ (j : Nat) (hj : j < 3), 0 ≤ w[j] ∧ w[j] < (2048 : Int)) → ∃ p, bloom_Places.l1 h k i w = some p ∧ ∀ (j : Nat) (hj : j < 3), 0 ≤ p[j] ∧ p[j] < (2048 : Int) := by
  intro d
  induction d with
  | zero =>
   intro i k w h1 h2 h3
   obtain ⟨k, rfl⟩ : ∃ m, k = m + 1 := ⟨k - 1, by omega⟩
   exact ⟨w, by rw [bloom_Places.l1, if_neg (by omega)], h3⟩
  | succ d ih =>
   intro i k w h1 h2 h3
   obtain ⟨k, rfl⟩ : ∃ m, k = m + 1 := ⟨k - 1, by omega⟩
   rw [bloom_Places.l1, if_pos (by omega), if_pos (by omega), Vector.getElem?_eq_getElem (by omega), Zb, if_pos (by omega), Vector.getElem?_eq_getElem (by omega), Zb]
   refine ih (i + 1) k _ (by omega) (by omega) fun j hj => ?_
   rw [Vector.getElem_setIfInBounds]
   split
   ·omega
   ·exact h3 j hj
 obtain ⟨p, e1, e2⟩ := loop 3 0 (3 - 0 + 2) (Vector.replicate 3 0) (by omega) (by omega) (by intro j hj; simp)
 rw [e1, Zb]
 exact ⟨p, rfl, e2⟩
end Go.Fw
namespace Go.Fw
def bitV (b : Vector (BitVec 8) 256) (k : Nat) : Bool := (b[255 - k / 8]'(by omega)).getLsbD (k % 8)
theorem place_eq (k : Nat) (hk : k < 2048) : ((255 : Int) - ((((k : Nat) : Int).toNat / 8 : Nat) : Int)).toNat = 255 - k / 8 := by omega
theorem set_eq (b : Vector (BitVec 8) 256) (j : Nat) (hj : j < 2048) : ∃ b', bloom_set b ((j : Nat) : Int) = some b' ∧ ∀ k, k < 2048 → bitV b' k = (bitV b k || decide (k = j)) := by
 unfold bloom_set
 rw [if_pos (by omega), if_pos (by omega), place_eq j hj, if_pos (by omega), Vector.getElem?_eq_getElem (by omega), Zb, Int.toNat_natCast]
 refine ⟨_, rfl, fun k hk => ?_⟩
 unfold bitV
 rw [Vector.getElem_setIfInBounds]
 by_cases h : 255 - j / 8 = 255 - k / 8
 ·rw [if_pos h, BitVec.getLsbD_or, BitVec.getLsbD_shiftLeft]
  have e : b[255 - j / 8] = b[255 - k / 8]'(by omega) := by congr 1
  rw [e]
  congr 1
  by_cases h2 : k = j
  ·subst h2
   have : k % 8 < 8 := by omega
   simp [this]
  ·have : k % 8 ≠ j % 8 := by omega
   rw [decide_eq_false h2]
   by_cases h3 : k % 8 < j % 8
   ·simp [h3]
   ·have : 0 < k % 8 - j % 8 := by omega
    have h4 : (1#8).getLsbD (k % 8 - j % 8) = false := by
     have : ∀ d, 0 < d → (1#8 : BitVec 8).getLsbD d = false := by
      intro d hd
      rw [BitVec.getLsbD_one]
      simp; omega
     exact this _ (by omega)
    rw [h4]; simp
 ·rw [if_neg h]
  have : k ≠ j := fun e => h (by rw [e])
  simp [this]
theorem zero_bits (k : Nat) : bitV (Vector.replicate 256 0#8) k = false := by unfold bitV; simp
def inP (p : Vector Int 3) (k : Nat) : Bool := decide (p[0] = (k : Int)) || decide (p[1] = (k : Int)) || decide (p[2] = (k : Int))
theorem add_eq (b : Vector (BitVec 8) 256) (t : List (BitVec 8)) (p : Vector Int 3) (hp : bloom_Places t = some p) (hr : ∀ (i : Nat) (h : i < 3), 0 ≤ p[i] ∧ p[i] < (2048 : Int)) : ∃ b', bloom_Add b t = some b' ∧ ∀ k, k < 2048 → bitV b' k = (bitV b k || inP p k) := by
 unfold bloom_Add
 rw [hp, Zb]
 have r0 := hr 0 (by omega)
 have r1 := hr 1 (by omega)
 have r2 := hr 2 (by omega)
 obtain ⟨a0, e0⟩ : ∃ n : Nat, p[0] = (n : Int) := ⟨p[0].toNat, by omega⟩
 obtain ⟨a1, e1⟩ : ∃ n : Nat, p[1] = (n : Int) := ⟨p[1].toNat, by omega⟩
 obtain ⟨a2, e2⟩ : ∃ n : Nat, p[2] = (n : Int) := ⟨p[2].toNat, by omega⟩
 rw [e0] at r0; rw [e1] at r1; rw [e2] at r2
 obtain ⟨b1, f1, g1⟩ := set_eq b a0 (by omega)
 obtain ⟨b2, f2, g2⟩ := set_eq b1 a1 (by omega)
 obtain ⟨b3, f3, g3⟩ := set_eq b2 a2 (by omega)
 have h : bloom_Add.l1 p (3 - 0 + 2) 0 b = some b3 := by
  show bloom_Add.l1 p (4 + 1) 0 b = _
  rw [bloom_Add.l1, if_pos (by omega), Vector.getElem?_eq_getElem (by omega), Zb, e0, if_pos (by omega), f1, Zb]
  rw [bloom_Add.l1, if_pos (by omega), Vector.getElem?_eq_getElem (by omega), Zb]
  show (if -9223372036854775808 ≤ p[1] ∧ p[1] ≤ 9223372036854775807 then (bloom_set b1 p[1]).bind _ else none) = _
  rw [e1, if_pos (by omega), f2, Zb]
  rw [bloom_Add.l1, if_pos (by omega), Vector.getElem?_eq_getElem (by omega), Zb]
  show (if -9223372036854775808 ≤ p[2] ∧ p[2] ≤ 9223372036854775807 then (bloom_set b2 p[2]).bind _ else none) = _
  rw [e2, if_pos (by omega), f3, Zb]
  rw [bloom_Add.l1, if_neg (by omega)]
 rw [h, Zb]
 refine ⟨b3, rfl, fun k hk => ?_⟩
 rw [g3 k hk, g2 k hk, g1 k hk]
 unfold inP
 rw [e0, e1, e2]
 have c : ∀ m : Nat, decide (k = m) = decide ((m : Int) = (k : Int)) := fun m => decide_eq_decide.2 (by omega)
 rw [c, c, c]
 cases bitV b k <;> cases decide ((a0 : Int) = (k : Int)) <;> cases decide ((a1 : Int) = (k : Int)) <;> cases decide ((a2 : Int) = (k : Int)) <;> rfl
end Go.Fw
namespace Go.Fw
def inT (t : List (BitVec 8)) (k : Nat) : Bool := match bloom_Places t with
 | some p => inP p k
 | none => false
def inL (l : List (List (BitVec 8))) (k : Nat) : Bool := l.any (fun t => inT t k)
theorem of_loop (a : List (List (BitVec 8))) (ha : ∀ t ∈ a, t.length ≤ 140737488355328) : ∀ (d i k : Nat) (w : Vector (BitVec 8) 256), i + d = a.length → d < k → (∀ q, q < 2048 → bitV w q = inL (a.take i) q) → ∃ w', bloom_Of.l1 a k i w = some w' ∧ ∀ q, q < 2048 → bitV w' q = inL a q
 | 0, i, k, w, h, hk, hw => by
  obtain ⟨k, rfl⟩ : ∃ m, k = m + 1 := ⟨k - 1, by omega⟩
  refine ⟨w, by rw [bloom_Of.l1, if_neg (by omega)], ?_⟩
  rwa [List.take_of_length_le (by omega)] at hw
 | d + 1, i, k, w, h, hk, hw => by
  obtain ⟨k, rfl⟩ : ∃ m, k = m + 1 := ⟨k - 1, by omega⟩
  have h1 : i < a.length := by omega
  obtain ⟨p, e1, e2⟩ := places_total a[i] (ha _ (List.getElem_mem h1))
  obtain ⟨b', f1, f2⟩ := add_eq w a[i] p e1 e2
  rw [bloom_Of.l1, if_pos h1, List.getElem?_eq_getElem h1, Zb, f1, Zb]
  refine of_loop a ha d (i + 1) k b' (by omega) (by omega) fun q hq => ?_
  rw [f2 q hq, hw q hq, List.take_add_one, List.getElem?_eq_getElem h1]
  unfold inL
  rw [List.any_append]
  simp [inT, e1]
theorem of_eq (a : List (List (BitVec 8))) (ha : ∀ t ∈ a, t.length ≤ 140737488355328) : ∃ b, bloom_Of a = some b ∧ (∀ q, q < 2048 → bitV b q = inL a q) ∧ (a = [] → b = Vector.replicate 256 0#8) := by
 unfold bloom_Of
 by_cases h0 : a = []
 ·subst h0
  refine ⟨Vector.replicate 256 0#8, rfl, fun q _ => by rw [zero_bits]; rfl, fun _ => rfl⟩
 ·obtain ⟨w, e1, e2⟩ := of_loop a ha a.length 0 (a.length - 0 + 2) (Vector.replicate 256 0#8) (by omega) (by omega) (fun q _ => by rw [zero_bits]; simp [inL])
  rw [e1, Zb]
  exact ⟨w, rfl, e2, fun h => absurd h h0⟩
end Go.Fw
namespace Go.Fw
open Go Go.RowKit Go.Deep Go.WideShapes
section
variable {H : Type} {enc : TypeId × Value → H} {P : Program} {W : World} {tL tA tS tH tB t8 : TypeId}
theorem seg_list (cs : List Value) (o n : Nat) : cs.drop o = (cs.drop o).take n ++ cs.drop (o + n) := by
 rw [← List.drop_drop, List.take_append_drop]
def RcptD (d : DataW H) (x : Rcpt) : Prop := ∃ ds el sp, d = .agg ds ∧ (∃ dl ∈ ds, Els dl el sp) ∧ el.length = x.logs.length ∧ ∀ (i : Nat) x' d', x.logs[i]? = some x' → el[i]? = some d' → LogD d' x'
theorem RcptD.bulk {ub : DataW H → Nat} {uba : List (DataW H) → Nat} (B : BulkFn ub uba) {d : DataW H} {x : Rcpt} (h : RcptD d x) : (x.logs.map fun x => x.topics.length + x.data.length + 1).sum ≤ ub d := by
 obtain ⟨ds, el, sp, rfl, ⟨dl, hm, he⟩, hl, hq⟩ := h
 have h1 := B.sum (fun x : Log => x.topics.length + x.data.length + 1) x.logs el hl (fun i x d hx hd => (hq i x d hx hd).bulk2 B)
 have h2 := B.els he
 have h3 := B.mem hm
 rw [B.ha]
 omega
end
end Go.Fw
namespace Go.Fw
open Go Go.RowKit Go.Deep Go.WideShapes
section
variable {H : Type} {enc : TypeId × Value → H} {P : Program} {W : World}
structure PopTypes (P : Program) (tO tN tB t8 : TypeId) where
 fs : Array Field
 f0 : Field
 f1 : Field
 f2 : Field
 hO : P.underlying tO = some (.struct fs)
 h0 : fs[0]? = some f0
 h1 : fs[1]? = some f1
 h2 : fs[2]? = some f2
 o0 : f0.offset = 0
 o1 : f1.offset = 1
 o2 : f2.offset = 2
 y0 : f0.type = tN
 y1 : f1.type = tN
 y2 : f2.type = tB
 uN : P.underlying tN = some (.int .i64)
 uB : P.underlying tB = some (.slice t8)
 u8 : P.underlying t8 = some (.int .u8)
 cN : P.cellsOf tN = 1
 cB : P.cellsOf tB = 1
 c8 : P.cellsOf t8 = 1
 cO : P.cellsOf tO = 3
 b8 : P.bytesOf t8 = 1
def POpD (d : DataW H) (o : POp) : Prop := ∃ ds d0 d1 d2 el sp, d = .agg (d0 :: d1 :: d2 :: ds) ∧ Els d2 el sp ∧ el.length = o.data.length
theorem POpD.bulk {ub : DataW H → Nat} {uba : List (DataW H) → Nat} (B : BulkFn ub uba) {d : DataW H} {o : POp} (h : POpD d o) : o.data.length ≤ ub d := by
 obtain ⟨ds, d0, d1, d2, el, sp, rfl, he, hl⟩ := h
 have h1 := B.len he
 rw [B.ha, B.h1, B.h1, B.h1]
 omega
variable {tO tN tB t8 : TypeId}
theorem reads_pop (T : PopTypes P tO tN tB t8) {n : Nat} {cs : List Value} {d : DataW H} {ps : List MemPlace} (hl : cs.length = 3) (hr : reads enc P W n tO cs = some (d, ps)) (hz : Fits P tO d) :
    ∃ o : POp, POpRd (fun w => Mem W w []) cs o ∧ POpD d o := by
 obtain ⟨xs, m, hn, hx, hcl, hxl, hf⟩ := DataW.trod_struct T.hO hr
 have g0 := hf 0 T.f0 T.h0
 have g1 := hf 1 T.f1 T.h1
 have g2 := hf 2 T.f2 T.h2
 rw [T.o0, T.y0, T.cN] at g0
 rw [T.o1, T.y1, T.cN] at g1
 rw [T.o2, T.y2, T.cB] at g2
 have hsz : 2 < T.fs.size := (Array.getElem?_eq_some_iff.1 T.h2).1
 obtain ⟨x0, e0⟩ : ∃ x, xs[0]? = some x := ⟨_, List.getElem?_eq_getElem (by omega)⟩
 obtain ⟨x1, e1⟩ : ∃ x, xs[1]? = some x := ⟨_, List.getElem?_eq_getElem (by omega)⟩
 obtain ⟨x2, e2⟩ : ∃ x, xs[2]? = some x := ⟨_, List.getElem?_eq_getElem (by omega)⟩
 rw [e0] at g0; rw [e1] at g1; rw [e2] at g2
 have hd2 : d = .agg (xs.map (·.1)) := congrArg Prod.fst hx
 subst hd2
 have hz2 : Fits P tB x2.1 := by have := Fits.struct T.hO hz T.h2 (d := x2.1) (by simp [e2]); rwa [T.y2] at this
 obtain ⟨n0, a0, w0⟩ := reads_int T.uN g0
 obtain ⟨n1, a1, w1⟩ := reads_int T.uN g1
 obtain ⟨u2, hu2⟩ : ∃ u, (cs.drop 2).take 1 = [u] := List.length_eq_one_iff.1 (by rw [List.length_take, List.length_drop]; omega)
 rw [hu2] at g2
 obtain ⟨A2, c2, x, rfl, v2, m2, el2, sp2, hel2, hlen2⟩ := reads_bs T.uB T.u8 T.c8 T.b8 g2 hz2
 have hcs : cs = [.int .i64 n0, .int .i64 n1, .slice A2 x.length c2] := by
  have h0 : cs = cs.drop 0 := rfl
  have h7 : cs.drop 3 = [] := List.drop_of_length_le (by omega)
  rw [h0, seg_list cs 0 1, seg_list cs 1 1, seg_list cs 2 1, a0, a1, hu2, h7]
  rfl
 refine ⟨⟨n0, n1, x⟩, ?_, ?_⟩
 ·rw [hcs]
  exact ⟨A2, c2, rfl, wf_i64_in w1, v2⟩
 ·match xs, e0, e1, e2 with
  | [], e, _, _ => simp at e
  | [_], _, e, _ => simp at e
  | [_, _], _, _, e => simp at e
  | y0 :: y1 :: y2 :: r, _, e1, e2 =>
   simp at e1 e2
   subst e1 e2
   exact ⟨r.map (·.1), y0.1, _, _, el2, sp2, rfl, hel2, hlen2⟩
theorem arg_pops {tOs : TypeId} (T : PopTypes P tO tN tB t8) (uO : P.underlying tOs = some (.slice tO)) (bO : P.bytesOf tO = 40) {b0 : Nat} {v : Value} (hval : Value.okWide P W .any b0 tOs v) {d : DataW H} {ps : List MemPlace} (h : DataW.Trod enc P W 0 (fun _ => true) true tOs v d ps) (hz : Fits P tOs d) :
    ∃ (A : Option Addr) (cap : Nat) (cells : List Value) (xs : List POp) (el sp : List (DataW H)), v = .slice A xs.length cap ∧ View (fun w => Mem W w []) A xs.length cap 3 cells ∧ Reps (POpRd (fun w => Mem W w [])) cells xs ∧ Els d el sp ∧ el.length = xs.length ∧ ∀ (i : Nat) x d, xs[i]? = some x → el[i]? = some d → POpD d x := by
 obtain ⟨a, l, c, rfl⟩ := okWide_slice uO hval
 obtain ⟨fuel, hf⟩ := h
 have hr : reads enc P W fuel tOs [.slice a l c] = some (d, ps) := by simpa [Value.cells] using hf
 obtain ⟨A, cap, ys, el, sp, h1, h2, h3, h4, h5, h6, h7, h8, h9, h10⟩ := cells_of_slice (α := List Value) (fun u => u) (fun cs d => ∃ n ps, cs.length = 3 ∧ reads enc P W n tO cs = some (d, ps)) 3 T.cO (by omega) (fun n cs r hl hr => ⟨cs, rfl, n, r.2, hl, hr⟩) uO hr
 have hw := hz.slice uO h7
 rw [bO, h9] at hw
 obtain ⟨xs, hlen, hq⟩ := list_of (Q := fun i x => ∃ cs d, ys[i]? = some cs ∧ el[i]? = some d ∧ POpRd (fun w => Mem W w []) cs x ∧ POpD d x) ys.length (fun i hi => by
  have hu : ys[i]? = some ys[i] := List.getElem?_eq_getElem hi
  have hd : el[i]? = some (el[i]'(by omega)) := List.getElem?_eq_getElem (by omega)
  obtain ⟨n, ps', hl, hr⟩ := h10 i _ _ hu hd
  obtain ⟨x, e1, e2⟩ := reads_pop T hl hr (hw.2 _ (List.mem_of_getElem? hd))
  exact ⟨x, _, _, hu, hd, e1, e2⟩)
 have hreps : ∀ (ys : List (List Value)) (xs : List POp), xs.length = ys.length → (∀ (i : Nat) (x : POp), xs[i]? = some x → ∃ cs, ys[i]? = some cs ∧ POpRd (fun w => Mem W w []) cs x) → Reps (POpRd (fun w => Mem W w [])) (ys.flatMap fun u => u) xs := by
  intro ys
  induction ys with
  | nil => intro its hl _; cases its with | nil => exact .nil | cons _ _ => simp at hl
  | cons y ys ih =>
   intro its hl hq
   cases its with
   | nil => simp at hl
   | cons it its =>
    obtain ⟨cs, e1, e2⟩ := hq 0 it rfl
    simp at e1
    subst e1
    rw [List.flatMap_cons]
    exact .cons e2 (ih its (by simpa using hl) (fun i x hx => by simpa using hq (i + 1) x (by simpa using hx)))
 have hc : cap * 40 ≤ 140737488351232 := by simpa [reachBytes] using hw.1
 have hR := hreps ys xs hlen (fun i x hx => by obtain ⟨cs, d, e1, _, e3, _⟩ := hq i x hx; exact ⟨cs, e1, e3⟩)
 refine ⟨A, cap, _, xs, el, sp, by rw [hlen]; exact h1, View.of_rd h6 (hR.len POpRd.len) (by omega) (by omega), hR, h7, by omega, fun i x d hx hd => ?_⟩
 obtain ⟨cs, d', _, e2', _, e4⟩ := hq i x hx
 obtain rfl : d = d' := Zi (hd.symm.trans e2')
 exact e4
end
end Go.Fw

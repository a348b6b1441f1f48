/- Part of a proof: rules that its law uses. -/
import Derived.Test.YtgonajfngmeanaaDoorShaK
namespace Go.Fw.Tryd
open Go Go.Proofs
set_option maxRecDepth 100000
set_option linter.unusedVariables false
set_option maxHeartbeats 1000000
theorem Write_does (w0 : World) (Φ : Ctx) (N : List Ent) (hΦ : ∀ w, Mem w0 w N → Φ w) (hK : TabAt w0 1 constL) (hS : TabAt w0 0 startL) (b : Nat) (ob : Option Nat) (c : Nat) (r : List Value) (s : List (BitVec 32)) (rest : List (BitVec 8)) (n : Int) (t : List (BitVec 8)) (h : HT s rest n t) (ho : OwnS ob rest.length c 1 (u8s rest) r)
    (A : Option Addr) (cA : Nat) (data : List (BitVec 8)) (va : View Φ A data.length cA 1 (u8s data)) (hmx : t.length + data.length ≤ 4611686018427387904) :
    DoesG Tryd.prog 25 [ptr (some b) 0, .slice A data.length cA] w0 [(some b, blk (u32s s ++ [sl ob 0 rest.length c, .int .i64 n]) 56), (ob, blk (u8s rest ++ r) 5)] N
      (fun u G => ∃ (ob' : Option Nat) (c' : Nat) (r' : List Value) (s' : List (BitVec 32)) (rest' : List (BitVec 8)) (n' : Int), HT s' rest' n' (t ++ data) ∧ OwnS ob' rest'.length c' 1 (u8s rest') r' ∧ u = .tuple #[] ∧ G = [(some b, blk (u32s s' ++ [sl ob' 0 rest'.length c', .int .i64 n']) 56), (ob', blk (u8s rest' ++ r') 5)]) := by
  have hn0 := h.n
  subst hn0
  refine DoesG.enter Tryd.func25 rfl Tryd.ntmps25 rfl (M := (some b, blk (u32s s ++ [sl ob 0 rest.length c, .int .i64 (t.length : Int)]) 56) :: (ob, blk (u8s rest ++ r) 5) :: N) rfl ?_
  refine CW.seq ?_
  refine CW.seq ?_
  refine CW.region ?_
  refine OW.rv (RV.move rfl) rfl ?_
  refine OW.rv (RV.eqlS rfl rfl rfl) rfl ?_
  refine OW.nil ?_
  refine QW.then_n ?_
  refine CW.is_f rfl rfl ?_
  refine CW.skip ?_
  refine QW.then_n ?_
  refine CW.seq ?_
  refine CW.region ?_
  refine OW.rv (RV.move rfl) rfl ?_
  refine OW.callG Tryd.call46 rfl (now_does w0 ((ob, blk (u8s rest ++ r) 5) :: N) hS b (sl ob 0 rest.length c) s rest _ t h (by omega)) rfl rfl ?_
  rintro L1 M1 ⟨e1, e2⟩
  rw [e1, e2]
  clear e1 e2 L1 M1
  refine OW.alloc (l := u32s (List.replicate 8 0#32)) rfl (by rw [← u32s_rep]; rfl) rfl (fun b4 => ?_)
  refine OW.sv (SV.storeW rfl rfl rfl (u32s_one _) rfl ((u32s_length _).trans (List.length_replicate ..)) ((u32s_length _).trans (nowS_length t))) ?_
  refine OW.nil ?_
  refine QW.then_n ?_
  refine CW.seq ?_
  refine CW.cutJ (fun L' M' => ∃ (t1 d1 : List (BitVec 8)) (A1 : Option Addr) (c1 : Nat) (s1 : List (BitVec 32)) (ob1 : Option Nat) (c2 : Nat) (r1 : List Value) (rest1 : List (BitVec 8)), t1 ++ d1 = t ++ data ∧ s1.length = 8 ∧ rest1 = t1.drop (64 * (t1.length / 64)) ∧ t1.length % 64 + d1.length < 64 ∧ View Φ A1 d1.length c1 1 (u8s d1) ∧ OwnS ob1 rest1.length c2 1 (u8s rest1) r1 ∧
      L' = [(0, ptr (some b) 0), (1, .slice A1 d1.length c1), (4, ptr (some b4) 0)] ∧ M' = (ob1, blk (u8s rest1 ++ r1) 5) :: (some b, blk (u32s s1 ++ [sl ob1 0 rest1.length c2, .int .i64 (t1.length : Int)]) 56) :: (some b4, blk (u32s (nowS t1)) 23) :: N) ?_ ?_
  · rintro L' M' ⟨t1, d1, A1, c1, s1, ob1, c2, r1, rest1, htd, hs1, hrest, hshort, v1, o1, rfl, rfl⟩
    have hlen := congrArg List.length htd
    rw [List.length_append, List.length_append] at hlen
    have m1 := v1.mx
    have m2 := o1.mx
    have hrl := rest_len t1
    rw [← hrest] at hrl
    obtain ⟨hn1, hn2⟩ := nowS_more t1 d1 hshort
    refine QW.then_n ?_
    refine CW.seq ?_
    refine CW.region ?_
    refine OW.rv (RV.move rfl) rfl ?_
    refine OW.rv (RV.move rfl) rfl ?_
    refine OW.rv (RV.nilCheck rfl) rfl ?_
    refine OW.rv (RV.field (ob := some b) (off := 0) rfl rfl rfl rfl) rfl ?_
    refine OW.rv (RV.load rfl (List.Mem.tail _ (List.Mem.head _)) rfl rfl rfl (hs_at8 hs1 _ _)) rfl ?_
    refine OW.rv (RV.move rfl) rfl ?_
    refine OW.appendOwn (s := 1) rfl rfl rfl rfl rfl rfl o1 (fun w m => v1.rd w (hΦ w (m.drop 3))) v1.n (u8s_one _) (v1.zero (by decide)) (by decide) (by decide) (show (rest1.length + d1.length) * 1 ≤ _ by omega) rfl rfl ((rest1 ++ d1).length) (u8s (rest1 ++ d1)) (List.length_append ..).symm (u8s_app _ _) (fun ob2 r2 c3 o2 => ?_)
    refine OW.rv (RV.nilCheck rfl) rfl ?_
    refine OW.rv (RV.field (ob := some b) (off := 0) rfl rfl rfl rfl) rfl ?_
    refine OW.rot1 ?_
    refine OW.sv (SV.store rfl rfl rfl rfl rfl (by rw [hs_len hs1]; decide)) ?_
    refine OW.cells (u32s s1 ++ [sl ob2 0 (rest1 ++ d1).length c3, .int .i64 (t1.length : Int)]) (hs_set8 hs1 _ _ _) ?_
    refine OW.nil ?_
    refine QW.then_n ?_
    refine CW.seq ?_
    refine CW.region ?_
    refine OW.rv (RV.move rfl) rfl ?_
    refine OW.rv (RV.nilCheck rfl) rfl ?_
    refine OW.rv (RV.field (ob := some b) (off := 0) rfl rfl rfl rfl) rfl ?_
    refine OW.rv (RV.load rfl (List.Mem.head _) rfl rfl rfl (hs_at9 hs1 _ _)) rfl ?_
    refine OW.rv (RV.move rfl) rfl ?_
    refine OW.rv (RV.len rfl rfl) rfl ?_
    refine OW.rv (RV.add rfl rfl (by omega)) rfl ?_
    refine OW.slot (.int .i64 (((t1 ++ d1).length : Nat) : Int)) (by congr 1; rw [List.length_append]; omega) ?_
    refine OW.rv (RV.nilCheck rfl) rfl ?_
    refine OW.rv (RV.field (ob := some b) (off := 0) rfl rfl rfl rfl) rfl ?_
    refine OW.sv (SV.store rfl rfl rfl rfl rfl (by rw [hs_len hs1]; decide)) ?_
    refine OW.cells (u32s s1 ++ [sl ob2 0 (rest1 ++ d1).length c3, .int .i64 (((t1 ++ d1).length : Nat) : Int)]) (hs_set9 hs1 _ _ _) ?_
    refine OW.nil ?_
    refine QW.then_n ?_
    refine CW.region ?_
    refine OW.rv (RV.move rfl) rfl ?_
    refine OW.rv (RV.loadW rfl (List.Mem.tail _ (List.Mem.tail _ (List.Mem.head _))) rfl rfl rfl rfl ((u32s_length _).trans (nowS_length _))) rfl ?_
    refine OW.rv (RV.nilCheck rfl) rfl ?_
    refine OW.rv (RV.field (ob := some b) (off := 0) rfl rfl rfl rfl) rfl ?_
    refine OW.sv (SV.storeAs rfl rfl rfl (u32s_one _) rfl ((u32s_length _).trans (nowS_length _)) (by rw [hs_len hs1]; decide)) ?_
    refine OW.cells (u32s (nowS t1) ++ [sl ob2 0 (rest1 ++ d1).length c3, .int .i64 (((t1 ++ d1).length : Nat) : Int)]) (hs_spl0 hs1 (nowS_length _) _ _) ?_
    refine OW.nil ?_
    refine QW.retG (rs := []) [] [(some b, blk (u32s (nowS t1) ++ [sl ob2 0 (rest1 ++ d1).length c3, .int .i64 (((t1 ++ d1).length : Nat) : Int)]) 56), (ob2, blk (u8s (rest1 ++ d1) ++ r2) 5)] rfl ?_ rfl ?_ ?_ _ (.inr rfl)
    · exact trivial
    · refine ⟨ob2, c3, r2, nowS t1, rest1 ++ d1, _, ⟨?_, ?_, ?_, nowS_length _⟩, o2, rfl, rfl⟩
      · rw [htd]
      · rw [← htd, hn2, hrest]
      · intro _
        rw [← htd, ← hn1]
        rfl
    · exact (fun w m => m.pick [0, 1] 3 rfl rfl)
  · refine CW.block ?_
    refine CW.loopJ (fun k L' M' => ∃ (t1 d1 : List (BitVec 8)) (A1 : Option Addr) (c1 : Nat) (s1 : List (BitVec 32)) (ob1 : Option Nat) (c2 : Nat) (r1 : List Value) (rest1 : List (BitVec 8)), k = d1.length ∧ t1 ++ d1 = t ++ data ∧ s1.length = 8 ∧ rest1 = t1.drop (64 * (t1.length / 64)) ∧ View Φ A1 d1.length c1 1 (u8s d1) ∧ OwnS ob1 rest1.length c2 1 (u8s rest1) r1 ∧
      L' = [(0, ptr (some b) 0), (1, .slice A1 d1.length c1), (4, ptr (some b4) 0)] ∧ M' = (ob1, blk (u8s rest1 ++ r1) 5) :: (some b, blk (u32s s1 ++ [sl ob1 0 rest1.length c2, .int .i64 (t1.length : Int)]) 56) :: (some b4, blk (u32s (nowS t1)) 23) :: N)
      (k0 := data.length) ⟨t, data, A, cA, s, ob, c, r, rest, rfl, rfl, h.sl, h.rest, va, ho, rfl, rfl⟩ ⟨rfl, rfl, rfl, trivial⟩ (fun w m => m.pick [2, 1, 0] 3 rfl rfl) ?_
    rintro k L' M' ⟨t1, d1, A1, c1, s1, ob1, c2, r1, rest1, rfl, htd, hs1, hrest, v1, o1, rfl, rfl⟩
    have hlen := congrArg List.length htd
    rw [List.length_append, List.length_append] at hlen
    have m1 := v1.mx
    have m2 := o1.mx
    have hrl := rest_len t1
    rw [← hrest] at hrl
    have hmod : t1.length % 64 < 64 := Nat.mod_lt _ (by decide)
    refine CW.seq ?_
    refine CW.seq ?_
    refine CW.region ?_
    refine OW.rv (RV.move rfl) rfl ?_
    refine OW.rv (RV.nilCheck rfl) rfl ?_
    refine OW.rv (RV.field (ob := some b) (off := 0) rfl rfl rfl rfl) rfl ?_
    refine OW.rv (RV.load rfl (List.Mem.tail _ (List.Mem.head _)) rfl rfl rfl (hs_at8 hs1 _ _)) rfl ?_
    refine OW.rv (RV.len rfl rfl) rfl ?_
    refine OW.rv (RV.move rfl) rfl ?_
    refine OW.rv (RV.len rfl rfl) rfl ?_
    refine OW.rv (RV.add rfl rfl (by omega)) rfl ?_
    refine OW.rv (RV.geq rfl rfl) rfl ?_
    refine OW.slot (.bool (decide (64 ≤ rest1.length + d1.length))) (congrArg Value.bool (decide_eq_decide.2 (by omega))) ?_
    refine OW.nil ?_
    refine QW.then_n ?_
    by_cases h1 : 64 ≤ rest1.length + d1.length
    · refine CW.is_t rfl (decide_eq_true h1) ?_
      refine CW.skip ?_
      refine QW.then_n ?_
      refine CW.block ?_
      refine CW.seq ?_
      refine CW.region ?_
      refine OW.rv (RV.move rfl) rfl ?_
      refine OW.rv (RV.nilCheck rfl) rfl ?_
      refine OW.rv (RV.field (ob := some b) (off := 0) rfl rfl rfl rfl) rfl ?_
      refine OW.rv (RV.load rfl (List.Mem.tail _ (List.Mem.head _)) rfl rfl rfl (hs_at8 hs1 _ _)) rfl ?_
      refine OW.rv (RV.len rfl rfl) rfl ?_
      refine OW.rv (RV.sub rfl rfl (by omega)) rfl ?_
      refine OW.slot (.int .i64 (((64 - rest1.length : Nat)) : Int)) (by congr 1; omega) ?_
      refine OW.rv (RV.assign rfl) rfl ?_
      refine OW.nil ?_
      refine QW.then_n ?_
      generalize hk : 64 - rest1.length = k
      have hkd : k ≤ d1.length := by omega
      have htk : (d1.take k).length = k := by rw [List.length_take]; omega
      have hfull : (rest1 ++ d1.take k).length = 64 := by rw [List.length_append, htk]; omega
      have hle := v1.le
      obtain ⟨hst1, hst2, hst3⟩ := nowS_step t1 d1 k (by omega) hkd
      have vk : View Φ A1 (d1.take k).length c1 1 (u8s (d1.take k)) := v1.hi8 hkd
      have vd : View Φ (subA A1 c1 k 1) (d1.drop k).length (c1 - k) 1 (u8s (d1.drop k)) := v1.lo8 hkd
      refine CW.seq ?_
      refine CW.drawsX ((some b4, blk (u32s (nowS t1)) 23) :: N) [8, 11] (fun w m => m.drop 2) mixed (by kernel_rfl) ?_
      refine XW.rs 0 rfl (by kernel_rfl) rfl (RV.move rfl) rfl ?_
      refine XW.rs 1 rfl (by kernel_rfl) rfl (RV.move rfl) rfl ?_
      refine XW.rs 2 rfl (by kernel_rfl) rfl (RV.nilCheck rfl) rfl ?_
      refine XW.rs 3 rfl (by kernel_rfl) rfl (RV.field (ob := some b) (off := 0) rfl rfl rfl rfl) rfl ?_
      refine XW.rv 4 rfl (by kernel_rfl) rfl (by kernel_rfl) (RV.load rfl (List.Mem.tail _ (List.Mem.head _)) rfl rfl rfl (hs_at8 hs1 _ _)) rfl ?_
      refine XW.rs 5 rfl (by kernel_rfl) rfl (RV.move rfl) rfl ?_
      refine XW.rs 6 rfl (by kernel_rfl) rfl (RV.move rfl) rfl ?_
      refine XW.rs 7 rfl (by kernel_rfl) rfl (RV.cut_hi (k) rfl rfl rfl rfl rfl (by omega)) rfl ?_
      refine XW.slot (.slice A1 (d1.take k).length c1) (by rw [htk]) ?_
      refine XW.appendOwn 8 (s := 1) rfl (by kernel_rfl) rfl rfl rfl rfl rfl rfl o1 (fun w m => vk.rd w (hΦ w (m.drop 3))) vk.n (u8s_one _) (vk.zero (by decide)) (by decide) (by decide) (show (rest1.length + (d1.take k).length) * 1 ≤ _ by omega) rfl ((rest1 ++ d1.take k).length) (u8s (rest1 ++ d1.take k)) (List.length_append ..).symm (u8s_app _ _) (fun w m => m.drop 1) rfl (fun ob2 r2 c3 o2 => ?_)
      refine XW.rs 9 rfl (by kernel_rfl) rfl (RV.nilCheck rfl) rfl ?_
      refine XW.rs 10 rfl (by kernel_rfl) rfl (RV.field (ob := some b) (off := 0) rfl rfl rfl rfl) rfl ?_
      refine XW.mem (M' := ((some b, blk (u32s s1 ++ [sl ob1 0 rest1.length c2, .int .i64 (t1.length : Int)]) 56) :: (ob2, blk (u8s (rest1 ++ d1.take k) ++ r2) 5) :: (some b4, blk (u32s (nowS t1)) 23) :: N)) (fun w m => m.pick [1, 0] 2 rfl rfl) (fun w m => m.drop 2) ?_
      refine XW.sv 11 rfl (by kernel_rfl) (SV.store rfl rfl rfl rfl rfl (by rw [hs_len hs1]; decide)) (fun w m => m.drop 2) ?_
      refine XW.cells (u32s s1 ++ [sl ob2 0 (rest1 ++ d1.take k).length c3, .int .i64 (t1.length : Int)]) (hs_set8 hs1 _ _ _) ?_
      refine XW.nil (by kernel_rfl) ?_
      refine QW.then_n ?_
      refine CW.seq ?_
      refine CW.drawsX ((some b, blk (u32s s1 ++ [sl ob2 0 (rest1 ++ d1.take k).length c3, .int .i64 (t1.length : Int)]) 56) :: (ob2, blk (u8s (rest1 ++ d1.take k) ++ r2) 5) :: N) [6] (fun w m => m.pick [0, 1] 3 rfl rfl) mixed (by kernel_rfl) ?_
      refine XW.rv 0 rfl (by kernel_rfl) rfl (by kernel_rfl) (RV.loadW rfl (List.Mem.tail _ (List.Mem.tail _ (List.Mem.head _))) rfl rfl rfl rfl ((u32s_length _).trans (nowS_length _))) rfl ?_
      refine XW.rs 1 rfl (by kernel_rfl) rfl (RV.move rfl) rfl ?_
      refine XW.rs 2 rfl (by kernel_rfl) rfl (RV.nilCheck rfl) rfl ?_
      refine XW.rs 3 rfl (by kernel_rfl) rfl (RV.field (ob := some b) (off := 0) rfl rfl rfl rfl) rfl ?_
      refine XW.rs 4 rfl (by kernel_rfl) rfl (RV.load rfl (List.Mem.head _) rfl rfl rfl (hs_at8 hs1 _ _)) rfl ?_
      refine XW.slot (sl ob2 0 64 c3) (by rw [hfull]) ?_
      have hca : 64 ≤ c3 := by have := o2.le (by decide); omega
      refine XW.callG 5 rfl (by kernel_rfl) rfl Tryd.call39 rfl (fun N' hN' => Does.toG (behind_does w0 N' constL hK rfl (nowS t1) (nowS_length _) (ob2.map fun k => ⟨k, 0, none⟩) c3 (rest1 ++ d1.take k) (fun w m => (hN' w m).rd0 (List.Mem.tail _ (List.Mem.head _)) (fun e => o2.nilc (by decide) e)) hfull hca)) rfl ?_
      rintro u G ⟨e1, e2⟩
      rw [e1, e2]
      clear e1 e2 u G
      refine XW.mem (M' := ((some b4, blk (u32s (nowS t1)) 23) :: (some b, blk (u32s s1 ++ [sl ob2 0 (rest1 ++ d1.take k).length c3, .int .i64 (t1.length : Int)]) 56) :: (ob2, blk (u8s (rest1 ++ d1.take k) ++ r2) 5) :: N)) (fun w m => m.pick [2, 0, 1] 3 rfl rfl) (fun w m => m.drop 1) ?_
      refine XW.sv 6 rfl (by kernel_rfl) (SV.storeW rfl rfl rfl (u32s_one _) rfl ((u32s_length _).trans (nowS_length _)) ((u32s_length _).trans (behindL_length (nowS_length _)))) (fun w m => m.drop 1) ?_
      refine XW.nil (by kernel_rfl) ?_
      refine QW.then_n ?_
      refine CW.seq ?_
      refine CW.drawsX ((ob2, blk (u8s ([] : List (BitVec 8)) ++ (u8s (rest1 ++ d1.take k) ++ r2)) 5) :: (some b4, blk (u32s (behindL constL (nowS t1) (rest1 ++ d1.take k))) 23) :: N) [11] (fun w m => m.pick [2, 0] 3 rfl rfl) mixed (by kernel_rfl) ?_
      refine XW.rs 0 rfl (by kernel_rfl) rfl (RV.move rfl) rfl ?_
      refine XW.rs 1 rfl (by kernel_rfl) rfl (RV.move rfl) rfl ?_
      refine XW.rs 2 rfl (by kernel_rfl) rfl (RV.nilCheck rfl) rfl ?_
      refine XW.rs 3 rfl (by kernel_rfl) rfl (RV.field (ob := some b) (off := 0) rfl rfl rfl rfl) rfl ?_
      refine XW.rv 4 rfl (by kernel_rfl) rfl (by kernel_rfl) (RV.load rfl (List.Mem.tail _ (List.Mem.head _)) rfl rfl rfl (hs_at8 hs1 _ _)) rfl ?_
      refine XW.rs 5 rfl (by kernel_rfl) rfl (RV.cut_o (0) rfl rfl rfl rfl rfl (by omega)) rfl ?_
      refine XW.rs 6 rfl (by kernel_rfl) rfl (RV.move rfl) rfl ?_
      refine XW.rs 7 rfl (by kernel_rfl) rfl (RV.move rfl) rfl ?_
      refine XW.rs 8 rfl (by kernel_rfl) rfl (RV.cut_lo (s := 1) (k) rfl rfl rfl rfl rfl (by omega)) rfl ?_
      refine XW.slot (.slice (subA A1 c1 k 1) (d1.drop k).length (c1 - k)) (by rw [List.length_drop]) ?_
      refine XW.rs 9 rfl (by kernel_rfl) rfl (RV.nilCheck rfl) rfl ?_
      refine XW.rs 10 rfl (by kernel_rfl) rfl (RV.field (ob := some b) (off := 0) rfl rfl rfl rfl) rfl ?_
      refine XW.mem (M' := ((some b, blk (u32s s1 ++ [sl ob2 0 (rest1 ++ d1.take k).length c3, .int .i64 (t1.length : Int)]) 56) :: (ob2, blk (u8s ([] : List (BitVec 8)) ++ (u8s (rest1 ++ d1.take k) ++ r2)) 5) :: (some b4, blk (u32s (behindL constL (nowS t1) (rest1 ++ d1.take k))) 23) :: N)) (fun w m => m.pick [1, 2, 0] 3 rfl rfl) (fun w m => m.drop 1) ?_
      refine XW.sv 11 rfl (by kernel_rfl) (SV.store rfl rfl rfl rfl rfl (by rw [hs_len hs1]; decide)) (fun w m => m.drop 1) ?_
      refine XW.cells (u32s s1 ++ [sl ob2 0 0 c3, .int .i64 (t1.length : Int)]) (hs_set8 hs1 _ _ _) ?_
      refine XW.rs 12 rfl (by kernel_rfl) rfl (RV.assign rfl) rfl ?_
      refine XW.nil (by kernel_rfl) ?_
      refine QW.then_n ?_
      refine CW.region ?_
      refine OW.rv (RV.move rfl) rfl ?_
      refine OW.rv (RV.nilCheck rfl) rfl ?_
      refine OW.rv (RV.field (ob := some b) (off := 0) rfl rfl rfl rfl) rfl ?_
      refine OW.rv (RV.load rfl (List.Mem.head _) rfl rfl rfl (hs_at9 hs1 _ _)) rfl ?_
      refine OW.rv (RV.move rfl) rfl ?_
      refine OW.rv (RV.add rfl rfl (by omega)) rfl ?_
      refine OW.slot (.int .i64 (((t1 ++ d1.take k).length : Nat) : Int)) (by congr 1; rw [List.length_append, htk]; omega) ?_
      refine OW.rv (RV.nilCheck rfl) rfl ?_
      refine OW.rv (RV.field (ob := some b) (off := 0) rfl rfl rfl rfl) rfl ?_
      refine OW.sv (SV.store rfl rfl rfl rfl rfl (by rw [hs_len hs1]; decide)) ?_
      refine OW.cells (u32s s1 ++ [sl ob2 0 0 c3, .int .i64 (((t1 ++ d1.take k).length : Nat) : Int)]) (hs_set9 hs1 _ _ _) ?_
      refine OW.nil ?_
      refine QW.block_n ?_
      have hrest2 : ([] : List (BitVec 8)) = (t1 ++ d1.take k).drop (64 * ((t1 ++ d1.take k).length / 64)) := by
        rw [List.drop_eq_nil_of_le]
        have := Nat.div_add_mod (t1 ++ d1.take k).length 64
        omega
      have hns : nowS (t1 ++ d1.take k) = behindL constL (nowS t1) (rest1 ++ d1.take k) := by rw [hst1, hrest]
      have o3 : OwnS ob2 ([] : List (BitVec 8)).length c3 1 (u8s []) (u8s (rest1 ++ d1.take k) ++ r2) := ⟨rfl, o2.hr, o2.hn, by simp⟩
      exact QW.againJ (k' := (d1.drop k).length) (by rw [List.length_drop]; omega) ⟨t1 ++ d1.take k, d1.drop k, _, _, s1, ob2, c3, u8s (rest1 ++ d1.take k) ++ r2, [], rfl, by rw [List.append_assoc, List.take_append_drop]; exact htd, hs1, hrest2, vd, o3, rfl, rfl⟩ ⟨rfl, rfl, rfl, trivial⟩ (fun w m => by rw [hns]; exact m.pick [1, 0, 2] 3 rfl rfl)
    · refine CW.is_f rfl (decide_eq_false h1) ?_
      refine CW.exit ?_
      refine QW.then_x ?_
      refine QW.then_x ?_
      refine QW.block_xe ?_
      exact QW.join ⟨t1, d1, A1, c1, s1, ob1, c2, r1, rest1, htd, hs1, hrest, by omega, v1, o1, rfl, rfl⟩ ⟨rfl, rfl, rfl, trivial⟩ (fun w m => m)
end Go.Fw.Tryd

/- Part of a proof: rules that its law uses. -/
import Derived.Test.YtdmnfcjekomaiaaDoorT2
set_option linter.unusedVariables false
set_option linter.unusedSimpArgs false
set_option linter.unusedSectionVars false
set_option maxRecDepth 100000
set_option maxHeartbeats 1000000
namespace Go.Fw
open Go
structure LogC where
 address : Vector (BitVec 8) 20
 topics : Value
 data : Value
def LogC.C (s : LogC) : List Value := u8s s.address.toList ++ ([s.topics] ++ ([s.data]))
theorem LogC.C_length (s : LogC) : s.C.length = 22 := by simp [LogC.C, Z100]
theorem LogC.C_one (s : LogC) (h_topics : s.topics.oneCell' = true) (h_data : s.data.oneCell' = true) : ∀ u ∈ s.C, u.oneCell' = true := by
 intro u hu
 simp only [LogC.C, List.mem_append, List.mem_singleton] at hu
 rcases hu with hu | rfl | rfl
 ·exact Z133 _ u hu
 ·exact h_topics
 ·exact h_data
structure Log where
 address : Vector (BitVec 8) 20
 topics : List (Vector (BitVec 8) 32)
 data : List (BitVec 8)
def LogRd (Φ : Ctx) (cs : List Value) (x : Log) : Prop := ∃ (A_topics : Option Addr), ∃ (c_topics : Nat), ∃ (cs_topics : List Value), ∃ (A_data : Option Addr), ∃ (c_data : Nat), cs = (⟨x.address, .slice A_topics x.topics.length c_topics, .slice A_data x.data.length c_data⟩ : LogC).C ∧ (View Φ A_topics x.topics.length c_topics 32 cs_topics) ∧ (Reps (Ar8Rd Φ) cs_topics x.topics) ∧ (View Φ A_data x.data.length c_data 1 (u8s x.data))
theorem LogRd.opn {Φ : Ctx} {cs : List Value} {x : Log} (h : LogRd Φ cs x) : ∃ (A_topics : Option Addr), ∃ (c_topics : Nat), ∃ (cs_topics : List Value), ∃ (A_data : Option Addr), ∃ (c_data : Nat), cs = (⟨x.address, .slice A_topics x.topics.length c_topics, .slice A_data x.data.length c_data⟩ : LogC).C ∧ (View Φ A_topics x.topics.length c_topics 32 cs_topics) ∧ (Reps (Ar8Rd Φ) cs_topics x.topics) ∧ (View Φ A_data x.data.length c_data 1 (u8s x.data)) := h
theorem LogRd.mono {Φ Ψ : Ctx} (hh : ∀ w, Ψ w → Φ w) (cs : List Value) (x : Log) : LogRd Φ cs x → LogRd Ψ cs x := fun ⟨A_topics, c_topics, cs_topics, A_data, c_data, e, v_topics, h_topics, v_data⟩ => ⟨A_topics, c_topics, cs_topics, A_data, c_data, e, v_topics.mono hh, h_topics.mono (Ar8Rd.mono hh), v_data.mono hh⟩
theorem LogRd.len {Φ : Ctx} (cs : List Value) (x : Log) (h : LogRd Φ cs x) : cs.length = 22 := by
 obtain ⟨A_topics, c_topics, cs_topics, A_data, c_data, e, v_topics, h_topics, v_data⟩ := h
 rw [e]; exact LogC.C_length _
theorem LogRd.one {Φ : Ctx} (cs : List Value) (x : Log) (h : LogRd Φ cs x) : ∀ u ∈ cs, u.oneCell' = true := by
 obtain ⟨A_topics, c_topics, cs_topics, A_data, c_data, e, v_topics, h_topics, v_data⟩ := h
 rw [e]; exact LogC.C_one _ rfl rfl
theorem LogRd.mk {Φ : Ctx} {address : Vector (BitVec 8) 20} {topics : List (Vector (BitVec 8) 32)} {data : List (BitVec 8)} {A_topics : Option Addr} {c_topics : Nat} {cs_topics : List Value} {A_data : Option Addr} {c_data : Nat} (v_topics : View Φ A_topics topics.length c_topics 32 cs_topics) (h_topics : Reps (Ar8Rd Φ) cs_topics topics) (v_data : View Φ A_data data.length c_data 1 (u8s data)) : LogRd Φ (⟨address, .slice A_topics topics.length c_topics, .slice A_data data.length c_data⟩ : LogC).C (⟨address, topics, data⟩ : Log) := ⟨A_topics, c_topics, cs_topics, A_data, c_data, rfl, v_topics, h_topics, v_data⟩
structure RcptC where
 kind : Int
 rooted : Bool
 root : Vector (BitVec 8) 32
 status : BitVec 64
 used : BitVec 64
 bloom : Vector (BitVec 8) 256
 logs : Value
def RcptC.C (s : RcptC) : List Value := [.int .i64 s.kind] ++ ([.bool s.rooted] ++ (u8s s.root.toList ++ ([U64 s.status] ++ ([U64 s.used] ++ (u8s s.bloom.toList ++ ([s.logs]))))))
theorem RcptC.C_length (s : RcptC) : s.C.length = 293 := by simp [RcptC.C, Z100]
theorem RcptC.C_one (s : RcptC) (h_logs : s.logs.oneCell' = true) : ∀ u ∈ s.C, u.oneCell' = true := by
 intro u hu
 simp only [RcptC.C, List.mem_append, List.mem_singleton] at hu
 rcases hu with rfl | rfl | hu | rfl | rfl | hu | rfl
 ·rfl
 ·rfl
 ·exact Z133 _ u hu
 ·rfl
 ·rfl
 ·exact Z133 _ u hu
 ·exact h_logs
theorem RcptC.C_kind (s : RcptC) : s.C[0]? = some (.int .i64 s.kind) := by
 rw [show 0 = 0 by rfl]; exact (Z127 rfl)
theorem RcptC.C_used (s : RcptC) : s.C[35]? = some (U64 s.used) := by
 rw [show 35 = 1 + (1 + (32 + (1 + (0)))) by rfl]; exact (Z103 rfl (Z103 rfl (Z103 ((Z100 _).trans Zv) (Z103 rfl (Z127 rfl)))))
theorem RcptC.C_used_set (s : RcptC) (x : BitVec 64) : s.C.set 35 (U64 x) = ({ s with used := x } : RcptC).C := by
 rw [show 35 = 1 + (1 + (32 + (1 + (0)))) by rfl]; exact (Z109 rfl (Z109 rfl (Z109 ((Z100 _).trans Zv) (Z109 rfl (here_set (by simp) rfl)))))
theorem RcptC.C_bloom_all (s : RcptC) : ∀ (k : Nat) (u : Value), (u8s s.bloom.toList)[k]? = some u → s.C[36 + k]? = some u := by
 intro k u h; rw [show 36 + k = 1 + (1 + (32 + (1 + (1 + (k))))) by omega]; exact (Z103 rfl (Z103 rfl (Z103 ((Z100 _).trans Zv) (Z103 rfl (Z103 rfl (Z127 h))))))
theorem RcptC.C_bloom_cpy (s : RcptC) {lo : Nat} {l : List (BitVec 8)} (h : lo + l.length ≤ 256) : spl s.C (36 + lo) (u8s l) = ({ s with bloom := cpV s.bloom lo l } : RcptC).C := by
 rw [show 36 + lo = 1 + (1 + (32 + (1 + (1 + (lo))))) by omega]; exact (Z106 rfl (Z106 rfl (Z106 ((Z100 _).trans Zv) (Z106 rfl (Z106 rfl (at_spl (by rw [Z100, Z100, Zv]; exact h) (u8s_cpV _ h)))))))
structure Rcpt where
 kind : Int
 rooted : Bool
 root : Vector (BitVec 8) 32
 status : BitVec 64
 used : BitVec 64
 bloom : Vector (BitVec 8) 256
 logs : List (Log)
def RcptRd (Φ : Ctx) (cs : List Value) (x : Rcpt) : Prop := ∃ (A_logs : Option Addr), ∃ (c_logs : Nat), ∃ (cs_logs : List Value), cs = (⟨x.kind, x.rooted, x.root, x.status, x.used, x.bloom, .slice A_logs x.logs.length c_logs⟩ : RcptC).C ∧ (-9223372036854775808 ≤ x.kind ∧ x.kind ≤ 9223372036854775807) ∧ (View Φ A_logs x.logs.length c_logs 22 cs_logs) ∧ (Reps (LogRd Φ) cs_logs x.logs)
theorem RcptRd.opn {Φ : Ctx} {cs : List Value} {x : Rcpt} (h : RcptRd Φ cs x) : ∃ (A_logs : Option Addr), ∃ (c_logs : Nat), ∃ (cs_logs : List Value), cs = (⟨x.kind, x.rooted, x.root, x.status, x.used, x.bloom, .slice A_logs x.logs.length c_logs⟩ : RcptC).C ∧ (-9223372036854775808 ≤ x.kind ∧ x.kind ≤ 9223372036854775807) ∧ (View Φ A_logs x.logs.length c_logs 22 cs_logs) ∧ (Reps (LogRd Φ) cs_logs x.logs) := h
theorem RcptRd.mono {Φ Ψ : Ctx} (hh : ∀ w, Ψ w → Φ w) (cs : List Value) (x : Rcpt) : RcptRd Φ cs x → RcptRd Ψ cs x := fun ⟨A_logs, c_logs, cs_logs, e, b_kind, v_logs, h_logs⟩ => ⟨A_logs, c_logs, cs_logs, e, b_kind, v_logs.mono hh, h_logs.mono (LogRd.mono hh)⟩
theorem RcptRd.len {Φ : Ctx} (cs : List Value) (x : Rcpt) (h : RcptRd Φ cs x) : cs.length = 293 := by
 obtain ⟨A_logs, c_logs, cs_logs, e, b_kind, v_logs, h_logs⟩ := h
 rw [e]; exact RcptC.C_length _
theorem RcptRd.one {Φ : Ctx} (cs : List Value) (x : Rcpt) (h : RcptRd Φ cs x) : ∀ u ∈ cs, u.oneCell' = true := by
 obtain ⟨A_logs, c_logs, cs_logs, e, b_kind, v_logs, h_logs⟩ := h
 rw [e]; exact RcptC.C_one _ rfl
theorem RcptRd.mk {Φ : Ctx} {kind : Int} {rooted : Bool} {root : Vector (BitVec 8) 32} {status : BitVec 64} {used : BitVec 64} {bloom : Vector (BitVec 8) 256} {logs : List (Log)} {A_logs : Option Addr} {c_logs : Nat} {cs_logs : List Value} (b_kind : -9223372036854775808 ≤ kind ∧ kind ≤ 9223372036854775807) (v_logs : View Φ A_logs logs.length c_logs 22 cs_logs) (h_logs : Reps (LogRd Φ) cs_logs logs) : RcptRd Φ (⟨kind, rooted, root, status, used, bloom, .slice A_logs logs.length c_logs⟩ : RcptC).C (⟨kind, rooted, root, status, used, bloom, logs⟩ : Rcpt) := ⟨A_logs, c_logs, cs_logs, rfl, b_kind, v_logs, h_logs⟩
end Go.Fw
namespace Go.Fw
open Go
structure HdrC where
 parent : Vector (BitVec 8) 32
 uncles : Vector (BitVec 8) 32
 coinbase : Vector (BitVec 8) 20
 state : Vector (BitVec 8) 32
 txRoot : Vector (BitVec 8) 32
 receiptRoot : Vector (BitVec 8) 32
 bloom : Vector (BitVec 8) 256
 difficulty : Vector (BitVec 64) 4
 number : BitVec 64
 limit : BitVec 64
 used : BitVec 64
 time : BitVec 64
 extra : Value
 mix : Vector (BitVec 8) 32
 nonce : Vector (BitVec 8) 8
 tail : Int
 baseFee : Vector (BitVec 64) 4
 withdrawals : Vector (BitVec 8) 32
 blobUsed : BitVec 64
 blobExcess : BitVec 64
 beacon : Vector (BitVec 8) 32
 requests : Vector (BitVec 8) 32
def HdrC.C (s : HdrC) : List Value := u8s s.parent.toList ++ (u8s s.uncles.toList ++ (u8s s.coinbase.toList ++ (u8s s.state.toList ++ (u8s s.txRoot.toList ++ (u8s s.receiptRoot.toList ++ (u8s s.bloom.toList ++ (u64s s.difficulty.toList ++ ([U64 s.number] ++ ([U64 s.limit] ++ ([U64 s.used] ++ ([U64 s.time] ++ ([s.extra] ++ (u8s s.mix.toList ++ (u8s s.nonce.toList ++ ([.int .i64 s.tail] ++ (u64s s.baseFee.toList ++ (u8s s.withdrawals.toList ++ ([U64 s.blobUsed] ++ ([U64 s.blobExcess] ++ (u8s s.beacon.toList ++ (u8s s.requests.toList)))))))))))))))))))))
theorem HdrC.C_length (s : HdrC) : s.C.length = 588 := by simp [HdrC.C, Z102, Z100]
theorem HdrC.C_one (s : HdrC) (h_extra : s.extra.oneCell' = true) : ∀ u ∈ s.C, u.oneCell' = true := by
 intro u hu
 simp only [HdrC.C, List.mem_append, List.mem_singleton] at hu
 rcases hu with hu | hu | hu | hu | hu | hu | hu | hu | rfl | rfl | rfl | rfl | rfl | hu | hu | rfl | hu | hu | rfl | rfl | hu | hu
 ·exact Z133 _ u hu
 ·exact Z133 _ u hu
 ·exact Z133 _ u hu
 ·exact Z133 _ u hu
 ·exact Z133 _ u hu
 ·exact Z133 _ u hu
 ·exact Z133 _ u hu
 ·exact Z119 _ u hu
 ·rfl
 ·rfl
 ·rfl
 ·rfl
 ·exact h_extra
 ·exact Z133 _ u hu
 ·exact Z133 _ u hu
 ·rfl
 ·exact Z119 _ u hu
 ·exact Z133 _ u hu
 ·rfl
 ·rfl
 ·exact Z133 _ u hu
 ·exact Z133 _ u hu
theorem HdrC.C_parent_all (s : HdrC) : ∀ (k : Nat) (u : Value), (u8s s.parent.toList)[k]? = some u → s.C[0 + k]? = some u := by
 intro k u h; rw [show 0 + k = k by omega]; exact (Z127 h)
theorem HdrC.C_parent_cpy (s : HdrC) {lo : Nat} {l : List (BitVec 8)} (h : lo + l.length ≤ 32) : spl s.C (0 + lo) (u8s l) = ({ s with parent := cpV s.parent lo l } : HdrC).C := by
 rw [show 0 + lo = lo by omega]; exact (at_spl (by rw [Z100, Z100, Zv]; exact h) (u8s_cpV _ h))
theorem HdrC.C_uncles_all (s : HdrC) : ∀ (k : Nat) (u : Value), (u8s s.uncles.toList)[k]? = some u → s.C[32 + k]? = some u := by
 intro k u h; rw [show 32 + k = 32 + (k) by omega]; exact (Z103 ((Z100 _).trans Zv) (Z127 h))
theorem HdrC.C_uncles_cpy (s : HdrC) {lo : Nat} {l : List (BitVec 8)} (h : lo + l.length ≤ 32) : spl s.C (32 + lo) (u8s l) = ({ s with uncles := cpV s.uncles lo l } : HdrC).C := by
 rw [show 32 + lo = 32 + (lo) by omega]; exact (Z106 ((Z100 _).trans Zv) (at_spl (by rw [Z100, Z100, Zv]; exact h) (u8s_cpV _ h)))
theorem Z160 (s : HdrC) : ∀ (k : Nat) (u : Value), (u8s s.coinbase.toList)[k]? = some u → s.C[64 + k]? = some u := by
 intro k u h; rw [show 64 + k = 32 + (32 + (k)) by omega]; exact (Z103 ((Z100 _).trans Zv) (Z103 ((Z100 _).trans Zv) (Z127 h)))
theorem HdrC.C_coinbase_cpy (s : HdrC) {lo : Nat} {l : List (BitVec 8)} (h : lo + l.length ≤ 20) : spl s.C (64 + lo) (u8s l) = ({ s with coinbase := cpV s.coinbase lo l } : HdrC).C := by
 rw [show 64 + lo = 32 + (32 + (lo)) by omega]; exact (Z106 ((Z100 _).trans Zv) (Z106 ((Z100 _).trans Zv) (at_spl (by rw [Z100, Z100, Zv]; exact h) (u8s_cpV _ h))))
theorem HdrC.C_state_all (s : HdrC) : ∀ (k : Nat) (u : Value), (u8s s.state.toList)[k]? = some u → s.C[84 + k]? = some u := by
 intro k u h; rw [show 84 + k = 32 + (32 + (20 + (k))) by omega]; exact (Z103 ((Z100 _).trans Zv) (Z103 ((Z100 _).trans Zv) (Z103 ((Z100 _).trans Zv) (Z127 h))))
theorem HdrC.C_state_cpy (s : HdrC) {lo : Nat} {l : List (BitVec 8)} (h : lo + l.length ≤ 32) : spl s.C (84 + lo) (u8s l) = ({ s with state := cpV s.state lo l } : HdrC).C := by
 rw [show 84 + lo = 32 + (32 + (20 + (lo))) by omega]; exact (Z106 ((Z100 _).trans Zv) (Z106 ((Z100 _).trans Zv) (Z106 ((Z100 _).trans Zv) (at_spl (by rw [Z100, Z100, Zv]; exact h) (u8s_cpV _ h)))))
theorem HdrC.C_txRoot_all (s : HdrC) : ∀ (k : Nat) (u : Value), (u8s s.txRoot.toList)[k]? = some u → s.C[116 + k]? = some u := by
 intro k u h; rw [show 116 + k = 32 + (32 + (20 + (32 + (k)))) by omega]; exact (Z103 ((Z100 _).trans Zv) (Z103 ((Z100 _).trans Zv) (Z103 ((Z100 _).trans Zv) (Z103 ((Z100 _).trans Zv) (Z127 h)))))
theorem HdrC.C_txRoot_cpy (s : HdrC) {lo : Nat} {l : List (BitVec 8)} (h : lo + l.length ≤ 32) : spl s.C (116 + lo) (u8s l) = ({ s with txRoot := cpV s.txRoot lo l } : HdrC).C := by
 rw [show 116 + lo = 32 + (32 + (20 + (32 + (lo)))) by omega]; exact (Z106 ((Z100 _).trans Zv) (Z106 ((Z100 _).trans Zv) (Z106 ((Z100 _).trans Zv) (Z106 ((Z100 _).trans Zv) (at_spl (by rw [Z100, Z100, Zv]; exact h) (u8s_cpV _ h))))))
theorem Z147 (s : HdrC) : ∀ (k : Nat) (u : Value), (u8s s.receiptRoot.toList)[k]? = some u → s.C[148 + k]? = some u := by
 intro k u h; rw [show 148 + k = 32 + (32 + (20 + (32 + (32 + (k))))) by omega]; exact (Z103 ((Z100 _).trans Zv) (Z103 ((Z100 _).trans Zv) (Z103 ((Z100 _).trans Zv) (Z103 ((Z100 _).trans Zv) (Z103 ((Z100 _).trans Zv) (Z127 h))))))
theorem HdrC.C_receiptRoot_cpy (s : HdrC) {lo : Nat} {l : List (BitVec 8)} (h : lo + l.length ≤ 32) : spl s.C (148 + lo) (u8s l) = ({ s with receiptRoot := cpV s.receiptRoot lo l } : HdrC).C := by
 rw [show 148 + lo = 32 + (32 + (20 + (32 + (32 + (lo))))) by omega]; exact (Z106 ((Z100 _).trans Zv) (Z106 ((Z100 _).trans Zv) (Z106 ((Z100 _).trans Zv) (Z106 ((Z100 _).trans Zv) (Z106 ((Z100 _).trans Zv) (at_spl (by rw [Z100, Z100, Zv]; exact h) (u8s_cpV _ h)))))))
theorem HdrC.C_bloom_all (s : HdrC) : ∀ (k : Nat) (u : Value), (u8s s.bloom.toList)[k]? = some u → s.C[180 + k]? = some u := by
 intro k u h; rw [show 180 + k = 32 + (32 + (20 + (32 + (32 + (32 + (k)))))) by omega]; exact (Z103 ((Z100 _).trans Zv) (Z103 ((Z100 _).trans Zv) (Z103 ((Z100 _).trans Zv) (Z103 ((Z100 _).trans Zv) (Z103 ((Z100 _).trans Zv) (Z103 ((Z100 _).trans Zv) (Z127 h)))))))
theorem HdrC.C_bloom_cpy (s : HdrC) {lo : Nat} {l : List (BitVec 8)} (h : lo + l.length ≤ 256) : spl s.C (180 + lo) (u8s l) = ({ s with bloom := cpV s.bloom lo l } : HdrC).C := by
 rw [show 180 + lo = 32 + (32 + (20 + (32 + (32 + (32 + (lo)))))) by omega]; exact (Z106 ((Z100 _).trans Zv) (Z106 ((Z100 _).trans Zv) (Z106 ((Z100 _).trans Zv) (Z106 ((Z100 _).trans Zv) (Z106 ((Z100 _).trans Zv) (Z106 ((Z100 _).trans Zv) (at_spl (by rw [Z100, Z100, Zv]; exact h) (u8s_cpV _ h))))))))
theorem Z149 (s : HdrC) : ∀ (k : Nat) (u : Value), (u64s s.difficulty.toList)[k]? = some u → s.C[436 + k]? = some u := by
 intro k u h; rw [show 436 + k = 32 + (32 + (20 + (32 + (32 + (32 + (256 + (k))))))) by omega]; exact (Z103 ((Z100 _).trans Zv) (Z103 ((Z100 _).trans Zv) (Z103 ((Z100 _).trans Zv) (Z103 ((Z100 _).trans Zv) (Z103 ((Z100 _).trans Zv) (Z103 ((Z100 _).trans Zv) (Z103 ((Z100 _).trans Zv) (Z127 h))))))))
theorem HdrC.C_difficulty_spl (s : HdrC) (x : Vector (BitVec 64) 4) : spl s.C 436 (u64s x.toList) = ({ s with difficulty := x } : HdrC).C := by
 show spl s.C (32 + (32 + (20 + (32 + (32 + (32 + (256 + (0)))))))) _ = _; exact (Z106 ((Z100 _).trans Zv) (Z106 ((Z100 _).trans Zv) (Z106 ((Z100 _).trans Zv) (Z106 ((Z100 _).trans Zv) (Z106 ((Z100 _).trans Zv) (Z106 ((Z100 _).trans Zv) (Z106 ((Z100 _).trans Zv) (here_spl (by simp [Z102])))))))))
theorem HdrC.C_number (s : HdrC) : s.C[440]? = some (U64 s.number) := by
 show s.C[32 + (32 + (20 + (32 + (32 + (32 + (256 + (4 + (0))))))))]? = _; exact (Z103 ((Z100 _).trans Zv) (Z103 ((Z100 _).trans Zv) (Z103 ((Z100 _).trans Zv) (Z103 ((Z100 _).trans Zv) (Z103 ((Z100 _).trans Zv) (Z103 ((Z100 _).trans Zv) (Z103 ((Z100 _).trans Zv) (Z103 ((Z102 _).trans Zv) (Z127 rfl)))))))))
theorem HdrC.C_number_set (s : HdrC) (x : BitVec 64) : s.C.set 440 (U64 x) = ({ s with number := x } : HdrC).C := by
 show s.C.set (32 + (32 + (20 + (32 + (32 + (32 + (256 + (4 + (0))))))))) _ = _; exact (Z109 ((Z100 _).trans Zv) (Z109 ((Z100 _).trans Zv) (Z109 ((Z100 _).trans Zv) (Z109 ((Z100 _).trans Zv) (Z109 ((Z100 _).trans Zv) (Z109 ((Z100 _).trans Zv) (Z109 ((Z100 _).trans Zv) (Z109 ((Z102 _).trans Zv) (here_set (by simp) rfl)))))))))
theorem HdrC.C_limit (s : HdrC) : s.C[441]? = some (U64 s.limit) := by
 show s.C[32 + (32 + (20 + (32 + (32 + (32 + (256 + (4 + (1 + (0)))))))))]? = _; exact (Z103 ((Z100 _).trans Zv) (Z103 ((Z100 _).trans Zv) (Z103 ((Z100 _).trans Zv) (Z103 ((Z100 _).trans Zv) (Z103 ((Z100 _).trans Zv) (Z103 ((Z100 _).trans Zv) (Z103 ((Z100 _).trans Zv) (Z103 ((Z102 _).trans Zv) (Z103 rfl (Z127 rfl))))))))))
theorem HdrC.C_limit_set (s : HdrC) (x : BitVec 64) : s.C.set 441 (U64 x) = ({ s with limit := x } : HdrC).C := by
 show s.C.set (32 + (32 + (20 + (32 + (32 + (32 + (256 + (4 + (1 + (0)))))))))) _ = _; exact (Z109 ((Z100 _).trans Zv) (Z109 ((Z100 _).trans Zv) (Z109 ((Z100 _).trans Zv) (Z109 ((Z100 _).trans Zv) (Z109 ((Z100 _).trans Zv) (Z109 ((Z100 _).trans Zv) (Z109 ((Z100 _).trans Zv) (Z109 ((Z102 _).trans Zv) (Z109 rfl (here_set (by simp) rfl))))))))))
theorem HdrC.C_used (s : HdrC) : s.C[442]? = some (U64 s.used) := by
 show s.C[32 + (32 + (20 + (32 + (32 + (32 + (256 + (4 + (1 + (1 + (0))))))))))]? = _; exact (Z103 ((Z100 _).trans Zv) (Z103 ((Z100 _).trans Zv) (Z103 ((Z100 _).trans Zv) (Z103 ((Z100 _).trans Zv) (Z103 ((Z100 _).trans Zv) (Z103 ((Z100 _).trans Zv) (Z103 ((Z100 _).trans Zv) (Z103 ((Z102 _).trans Zv) (Z103 rfl (Z103 rfl (Z127 rfl)))))))))))
theorem HdrC.C_used_set (s : HdrC) (x : BitVec 64) : s.C.set 442 (U64 x) = ({ s with used := x } : HdrC).C := by
 show s.C.set (32 + (32 + (20 + (32 + (32 + (32 + (256 + (4 + (1 + (1 + (0))))))))))) _ = _; exact (Z109 ((Z100 _).trans Zv) (Z109 ((Z100 _).trans Zv) (Z109 ((Z100 _).trans Zv) (Z109 ((Z100 _).trans Zv) (Z109 ((Z100 _).trans Zv) (Z109 ((Z100 _).trans Zv) (Z109 ((Z100 _).trans Zv) (Z109 ((Z102 _).trans Zv) (Z109 rfl (Z109 rfl (here_set (by simp) rfl)))))))))))
theorem HdrC.C_time (s : HdrC) : s.C[443]? = some (U64 s.time) := by
 show s.C[32 + (32 + (20 + (32 + (32 + (32 + (256 + (4 + (1 + (1 + (1 + (0)))))))))))]? = _; exact (Z103 ((Z100 _).trans Zv) (Z103 ((Z100 _).trans Zv) (Z103 ((Z100 _).trans Zv) (Z103 ((Z100 _).trans Zv) (Z103 ((Z100 _).trans Zv) (Z103 ((Z100 _).trans Zv) (Z103 ((Z100 _).trans Zv) (Z103 ((Z102 _).trans Zv) (Z103 rfl (Z103 rfl (Z103 rfl (Z127 rfl))))))))))))
theorem HdrC.C_time_set (s : HdrC) (x : BitVec 64) : s.C.set 443 (U64 x) = ({ s with time := x } : HdrC).C := by
 show s.C.set (32 + (32 + (20 + (32 + (32 + (32 + (256 + (4 + (1 + (1 + (1 + (0)))))))))))) _ = _; exact (Z109 ((Z100 _).trans Zv) (Z109 ((Z100 _).trans Zv) (Z109 ((Z100 _).trans Zv) (Z109 ((Z100 _).trans Zv) (Z109 ((Z100 _).trans Zv) (Z109 ((Z100 _).trans Zv) (Z109 ((Z100 _).trans Zv) (Z109 ((Z102 _).trans Zv) (Z109 rfl (Z109 rfl (Z109 rfl (here_set (by simp) rfl))))))))))))
theorem Z148 (s : HdrC) : s.C[444]? = some (s.extra) := by
 show s.C[32 + (32 + (20 + (32 + (32 + (32 + (256 + (4 + (1 + (1 + (1 + (1 + (0))))))))))))]? = _; exact (Z103 ((Z100 _).trans Zv) (Z103 ((Z100 _).trans Zv) (Z103 ((Z100 _).trans Zv) (Z103 ((Z100 _).trans Zv) (Z103 ((Z100 _).trans Zv) (Z103 ((Z100 _).trans Zv) (Z103 ((Z100 _).trans Zv) (Z103 ((Z102 _).trans Zv) (Z103 rfl (Z103 rfl (Z103 rfl (Z103 rfl (Z127 rfl)))))))))))))
theorem HdrC.C_extra_set (s : HdrC) (x : Value) : s.C.set 444 (x) = ({ s with extra := x } : HdrC).C := by
 show s.C.set (32 + (32 + (20 + (32 + (32 + (32 + (256 + (4 + (1 + (1 + (1 + (1 + (0))))))))))))) _ = _; exact (Z109 ((Z100 _).trans Zv) (Z109 ((Z100 _).trans Zv) (Z109 ((Z100 _).trans Zv) (Z109 ((Z100 _).trans Zv) (Z109 ((Z100 _).trans Zv) (Z109 ((Z100 _).trans Zv) (Z109 ((Z100 _).trans Zv) (Z109 ((Z102 _).trans Zv) (Z109 rfl (Z109 rfl (Z109 rfl (Z109 rfl (here_set (by simp) rfl)))))))))))))
theorem HdrC.C_mix_all (s : HdrC) : ∀ (k : Nat) (u : Value), (u8s s.mix.toList)[k]? = some u → s.C[445 + k]? = some u := by
 intro k u h; rw [show 445 + k = 32 + (32 + (20 + (32 + (32 + (32 + (256 + (4 + (1 + (1 + (1 + (1 + (1 + (k))))))))))))) by omega]; exact (Z103 ((Z100 _).trans Zv) (Z103 ((Z100 _).trans Zv) (Z103 ((Z100 _).trans Zv) (Z103 ((Z100 _).trans Zv) (Z103 ((Z100 _).trans Zv) (Z103 ((Z100 _).trans Zv) (Z103 ((Z100 _).trans Zv) (Z103 ((Z102 _).trans Zv) (Z103 rfl (Z103 rfl (Z103 rfl (Z103 rfl (Z103 rfl (Z127 h))))))))))))))
theorem HdrC.C_mix_cpy (s : HdrC) {lo : Nat} {l : List (BitVec 8)} (h : lo + l.length ≤ 32) : spl s.C (445 + lo) (u8s l) = ({ s with mix := cpV s.mix lo l } : HdrC).C := by
 rw [show 445 + lo = 32 + (32 + (20 + (32 + (32 + (32 + (256 + (4 + (1 + (1 + (1 + (1 + (1 + (lo))))))))))))) by omega]; exact (Z106 ((Z100 _).trans Zv) (Z106 ((Z100 _).trans Zv) (Z106 ((Z100 _).trans Zv) (Z106 ((Z100 _).trans Zv) (Z106 ((Z100 _).trans Zv) (Z106 ((Z100 _).trans Zv) (Z106 ((Z100 _).trans Zv) (Z106 ((Z102 _).trans Zv) (Z106 rfl (Z106 rfl (Z106 rfl (Z106 rfl (Z106 rfl (at_spl (by rw [Z100, Z100, Zv]; exact h) (u8s_cpV _ h)))))))))))))))
theorem HdrC.C_nonce_all (s : HdrC) : ∀ (k : Nat) (u : Value), (u8s s.nonce.toList)[k]? = some u → s.C[477 + k]? = some u := by
 intro k u h; rw [show 477 + k = 32 + (32 + (20 + (32 + (32 + (32 + (256 + (4 + (1 + (1 + (1 + (1 + (1 + (32 + (k)))))))))))))) by omega]; exact (Z103 ((Z100 _).trans Zv) (Z103 ((Z100 _).trans Zv) (Z103 ((Z100 _).trans Zv) (Z103 ((Z100 _).trans Zv) (Z103 ((Z100 _).trans Zv) (Z103 ((Z100 _).trans Zv) (Z103 ((Z100 _).trans Zv) (Z103 ((Z102 _).trans Zv) (Z103 rfl (Z103 rfl (Z103 rfl (Z103 rfl (Z103 rfl (Z103 ((Z100 _).trans Zv) (Z127 h)))))))))))))))
theorem HdrC.C_nonce_cpy (s : HdrC) {lo : Nat} {l : List (BitVec 8)} (h : lo + l.length ≤ 8) : spl s.C (477 + lo) (u8s l) = ({ s with nonce := cpV s.nonce lo l } : HdrC).C := by
 rw [show 477 + lo = 32 + (32 + (20 + (32 + (32 + (32 + (256 + (4 + (1 + (1 + (1 + (1 + (1 + (32 + (lo)))))))))))))) by omega]; exact (Z106 ((Z100 _).trans Zv) (Z106 ((Z100 _).trans Zv) (Z106 ((Z100 _).trans Zv) (Z106 ((Z100 _).trans Zv) (Z106 ((Z100 _).trans Zv) (Z106 ((Z100 _).trans Zv) (Z106 ((Z100 _).trans Zv) (Z106 ((Z102 _).trans Zv) (Z106 rfl (Z106 rfl (Z106 rfl (Z106 rfl (Z106 rfl (Z106 ((Z100 _).trans Zv) (at_spl (by rw [Z100, Z100, Zv]; exact h) (u8s_cpV _ h))))))))))))))))
theorem HdrC.C_tail (s : HdrC) : s.C[485]? = some (.int .i64 s.tail) := by
 show s.C[32 + (32 + (20 + (32 + (32 + (32 + (256 + (4 + (1 + (1 + (1 + (1 + (1 + (32 + (8 + (0)))))))))))))))]? = _; exact (Z103 ((Z100 _).trans Zv) (Z103 ((Z100 _).trans Zv) (Z103 ((Z100 _).trans Zv) (Z103 ((Z100 _).trans Zv) (Z103 ((Z100 _).trans Zv) (Z103 ((Z100 _).trans Zv) (Z103 ((Z100 _).trans Zv) (Z103 ((Z102 _).trans Zv) (Z103 rfl (Z103 rfl (Z103 rfl (Z103 rfl (Z103 rfl (Z103 ((Z100 _).trans Zv) (Z103 ((Z100 _).trans Zv) (Z127 rfl))))))))))))))))
theorem HdrC.C_tail_set (s : HdrC) (x : Int) : s.C.set 485 (.int .i64 x) = ({ s with tail := x } : HdrC).C := by
 show s.C.set (32 + (32 + (20 + (32 + (32 + (32 + (256 + (4 + (1 + (1 + (1 + (1 + (1 + (32 + (8 + (0)))))))))))))))) _ = _; exact (Z109 ((Z100 _).trans Zv) (Z109 ((Z100 _).trans Zv) (Z109 ((Z100 _).trans Zv) (Z109 ((Z100 _).trans Zv) (Z109 ((Z100 _).trans Zv) (Z109 ((Z100 _).trans Zv) (Z109 ((Z100 _).trans Zv) (Z109 ((Z102 _).trans Zv) (Z109 rfl (Z109 rfl (Z109 rfl (Z109 rfl (Z109 rfl (Z109 ((Z100 _).trans Zv) (Z109 ((Z100 _).trans Zv) (here_set (by simp) rfl))))))))))))))))
theorem HdrC.C_baseFee_all (s : HdrC) : ∀ (k : Nat) (u : Value), (u64s s.baseFee.toList)[k]? = some u → s.C[486 + k]? = some u := by
 intro k u h; rw [show 486 + k = 32 + (32 + (20 + (32 + (32 + (32 + (256 + (4 + (1 + (1 + (1 + (1 + (1 + (32 + (8 + (1 + (k)))))))))))))))) by omega]; exact (Z103 ((Z100 _).trans Zv) (Z103 ((Z100 _).trans Zv) (Z103 ((Z100 _).trans Zv) (Z103 ((Z100 _).trans Zv) (Z103 ((Z100 _).trans Zv) (Z103 ((Z100 _).trans Zv) (Z103 ((Z100 _).trans Zv) (Z103 ((Z102 _).trans Zv) (Z103 rfl (Z103 rfl (Z103 rfl (Z103 rfl (Z103 rfl (Z103 ((Z100 _).trans Zv) (Z103 ((Z100 _).trans Zv) (Z103 rfl (Z127 h)))))))))))))))))
theorem HdrC.C_baseFee_spl (s : HdrC) (x : Vector (BitVec 64) 4) : spl s.C 486 (u64s x.toList) = ({ s with baseFee := x } : HdrC).C := by
 show spl s.C (32 + (32 + (20 + (32 + (32 + (32 + (256 + (4 + (1 + (1 + (1 + (1 + (1 + (32 + (8 + (1 + (0))))))))))))))))) _ = _; exact (Z106 ((Z100 _).trans Zv) (Z106 ((Z100 _).trans Zv) (Z106 ((Z100 _).trans Zv) (Z106 ((Z100 _).trans Zv) (Z106 ((Z100 _).trans Zv) (Z106 ((Z100 _).trans Zv) (Z106 ((Z100 _).trans Zv) (Z106 ((Z102 _).trans Zv) (Z106 rfl (Z106 rfl (Z106 rfl (Z106 rfl (Z106 rfl (Z106 ((Z100 _).trans Zv) (Z106 ((Z100 _).trans Zv) (Z106 rfl (here_spl (by simp [Z102]))))))))))))))))))
theorem Z146 (s : HdrC) : ∀ (k : Nat) (u : Value), (u8s s.withdrawals.toList)[k]? = some u → s.C[490 + k]? = some u := by
 intro k u h; rw [show 490 + k = 32 + (32 + (20 + (32 + (32 + (32 + (256 + (4 + (1 + (1 + (1 + (1 + (1 + (32 + (8 + (1 + (4 + (k))))))))))))))))) by omega]; exact (Z103 ((Z100 _).trans Zv) (Z103 ((Z100 _).trans Zv) (Z103 ((Z100 _).trans Zv) (Z103 ((Z100 _).trans Zv) (Z103 ((Z100 _).trans Zv) (Z103 ((Z100 _).trans Zv) (Z103 ((Z100 _).trans Zv) (Z103 ((Z102 _).trans Zv) (Z103 rfl (Z103 rfl (Z103 rfl (Z103 rfl (Z103 rfl (Z103 ((Z100 _).trans Zv) (Z103 ((Z100 _).trans Zv) (Z103 rfl (Z103 ((Z102 _).trans Zv) (Z127 h))))))))))))))))))
theorem HdrC.C_withdrawals_cpy (s : HdrC) {lo : Nat} {l : List (BitVec 8)} (h : lo + l.length ≤ 32) : spl s.C (490 + lo) (u8s l) = ({ s with withdrawals := cpV s.withdrawals lo l } : HdrC).C := by
 rw [show 490 + lo = 32 + (32 + (20 + (32 + (32 + (32 + (256 + (4 + (1 + (1 + (1 + (1 + (1 + (32 + (8 + (1 + (4 + (lo))))))))))))))))) by omega]; exact (Z106 ((Z100 _).trans Zv) (Z106 ((Z100 _).trans Zv) (Z106 ((Z100 _).trans Zv) (Z106 ((Z100 _).trans Zv) (Z106 ((Z100 _).trans Zv) (Z106 ((Z100 _).trans Zv) (Z106 ((Z100 _).trans Zv) (Z106 ((Z102 _).trans Zv) (Z106 rfl (Z106 rfl (Z106 rfl (Z106 rfl (Z106 rfl (Z106 ((Z100 _).trans Zv) (Z106 ((Z100 _).trans Zv) (Z106 rfl (Z106 ((Z102 _).trans Zv) (at_spl (by rw [Z100, Z100, Zv]; exact h) (u8s_cpV _ h)))))))))))))))))))
theorem HdrC.C_blobUsed (s : HdrC) : s.C[522]? = some (U64 s.blobUsed) := by
 show s.C[32 + (32 + (20 + (32 + (32 + (32 + (256 + (4 + (1 + (1 + (1 + (1 + (1 + (32 + (8 + (1 + (4 + (32 + (0))))))))))))))))))]? = _; exact (Z103 ((Z100 _).trans Zv) (Z103 ((Z100 _).trans Zv) (Z103 ((Z100 _).trans Zv) (Z103 ((Z100 _).trans Zv) (Z103 ((Z100 _).trans Zv) (Z103 ((Z100 _).trans Zv) (Z103 ((Z100 _).trans Zv) (Z103 ((Z102 _).trans Zv) (Z103 rfl (Z103 rfl (Z103 rfl (Z103 rfl (Z103 rfl (Z103 ((Z100 _).trans Zv) (Z103 ((Z100 _).trans Zv) (Z103 rfl (Z103 ((Z102 _).trans Zv) (Z103 ((Z100 _).trans Zv) (Z127 rfl)))))))))))))))))))
theorem HdrC.C_blobUsed_set (s : HdrC) (x : BitVec 64) : s.C.set 522 (U64 x) = ({ s with blobUsed := x } : HdrC).C := by
 show s.C.set (32 + (32 + (20 + (32 + (32 + (32 + (256 + (4 + (1 + (1 + (1 + (1 + (1 + (32 + (8 + (1 + (4 + (32 + (0))))))))))))))))))) _ = _; exact (Z109 ((Z100 _).trans Zv) (Z109 ((Z100 _).trans Zv) (Z109 ((Z100 _).trans Zv) (Z109 ((Z100 _).trans Zv) (Z109 ((Z100 _).trans Zv) (Z109 ((Z100 _).trans Zv) (Z109 ((Z100 _).trans Zv) (Z109 ((Z102 _).trans Zv) (Z109 rfl (Z109 rfl (Z109 rfl (Z109 rfl (Z109 rfl (Z109 ((Z100 _).trans Zv) (Z109 ((Z100 _).trans Zv) (Z109 rfl (Z109 ((Z102 _).trans Zv) (Z109 ((Z100 _).trans Zv) (here_set (by simp) rfl)))))))))))))))))))
theorem HdrC.C_blobExcess (s : HdrC) : s.C[523]? = some (U64 s.blobExcess) := by
 show s.C[32 + (32 + (20 + (32 + (32 + (32 + (256 + (4 + (1 + (1 + (1 + (1 + (1 + (32 + (8 + (1 + (4 + (32 + (1 + (0)))))))))))))))))))]? = _; exact (Z103 ((Z100 _).trans Zv) (Z103 ((Z100 _).trans Zv) (Z103 ((Z100 _).trans Zv) (Z103 ((Z100 _).trans Zv) (Z103 ((Z100 _).trans Zv) (Z103 ((Z100 _).trans Zv) (Z103 ((Z100 _).trans Zv) (Z103 ((Z102 _).trans Zv) (Z103 rfl (Z103 rfl (Z103 rfl (Z103 rfl (Z103 rfl (Z103 ((Z100 _).trans Zv) (Z103 ((Z100 _).trans Zv) (Z103 rfl (Z103 ((Z102 _).trans Zv) (Z103 ((Z100 _).trans Zv) (Z103 rfl (Z127 rfl))))))))))))))))))))
theorem HdrC.C_blobExcess_set (s : HdrC) (x : BitVec 64) : s.C.set 523 (U64 x) = ({ s with blobExcess := x } : HdrC).C := by
 show s.C.set (32 + (32 + (20 + (32 + (32 + (32 + (256 + (4 + (1 + (1 + (1 + (1 + (1 + (32 + (8 + (1 + (4 + (32 + (1 + (0)))))))))))))))))))) _ = _; exact (Z109 ((Z100 _).trans Zv) (Z109 ((Z100 _).trans Zv) (Z109 ((Z100 _).trans Zv) (Z109 ((Z100 _).trans Zv) (Z109 ((Z100 _).trans Zv) (Z109 ((Z100 _).trans Zv) (Z109 ((Z100 _).trans Zv) (Z109 ((Z102 _).trans Zv) (Z109 rfl (Z109 rfl (Z109 rfl (Z109 rfl (Z109 rfl (Z109 ((Z100 _).trans Zv) (Z109 ((Z100 _).trans Zv) (Z109 rfl (Z109 ((Z102 _).trans Zv) (Z109 ((Z100 _).trans Zv) (Z109 rfl (here_set (by simp) rfl))))))))))))))))))))
theorem HdrC.C_beacon_all (s : HdrC) : ∀ (k : Nat) (u : Value), (u8s s.beacon.toList)[k]? = some u → s.C[524 + k]? = some u := by
 intro k u h; rw [show 524 + k = 32 + (32 + (20 + (32 + (32 + (32 + (256 + (4 + (1 + (1 + (1 + (1 + (1 + (32 + (8 + (1 + (4 + (32 + (1 + (1 + (k)))))))))))))))))))) by omega]; exact (Z103 ((Z100 _).trans Zv) (Z103 ((Z100 _).trans Zv) (Z103 ((Z100 _).trans Zv) (Z103 ((Z100 _).trans Zv) (Z103 ((Z100 _).trans Zv) (Z103 ((Z100 _).trans Zv) (Z103 ((Z100 _).trans Zv) (Z103 ((Z102 _).trans Zv) (Z103 rfl (Z103 rfl (Z103 rfl (Z103 rfl (Z103 rfl (Z103 ((Z100 _).trans Zv) (Z103 ((Z100 _).trans Zv) (Z103 rfl (Z103 ((Z102 _).trans Zv) (Z103 ((Z100 _).trans Zv) (Z103 rfl (Z103 rfl (Z127 h)))))))))))))))))))))
theorem HdrC.C_beacon_cpy (s : HdrC) {lo : Nat} {l : List (BitVec 8)} (h : lo + l.length ≤ 32) : spl s.C (524 + lo) (u8s l) = ({ s with beacon := cpV s.beacon lo l } : HdrC).C := by
 rw [show 524 + lo = 32 + (32 + (20 + (32 + (32 + (32 + (256 + (4 + (1 + (1 + (1 + (1 + (1 + (32 + (8 + (1 + (4 + (32 + (1 + (1 + (lo)))))))))))))))))))) by omega]; exact (Z106 ((Z100 _).trans Zv) (Z106 ((Z100 _).trans Zv) (Z106 ((Z100 _).trans Zv) (Z106 ((Z100 _).trans Zv) (Z106 ((Z100 _).trans Zv) (Z106 ((Z100 _).trans Zv) (Z106 ((Z100 _).trans Zv) (Z106 ((Z102 _).trans Zv) (Z106 rfl (Z106 rfl (Z106 rfl (Z106 rfl (Z106 rfl (Z106 ((Z100 _).trans Zv) (Z106 ((Z100 _).trans Zv) (Z106 rfl (Z106 ((Z102 _).trans Zv) (Z106 ((Z100 _).trans Zv) (Z106 rfl (Z106 rfl (at_spl (by rw [Z100, Z100, Zv]; exact h) (u8s_cpV _ h))))))))))))))))))))))
theorem Z159 (s : HdrC) : ∀ (k : Nat) (u : Value), (u8s s.requests.toList)[k]? = some u → s.C[556 + k]? = some u := by
 intro k u h; rw [show 556 + k = 32 + (32 + (20 + (32 + (32 + (32 + (256 + (4 + (1 + (1 + (1 + (1 + (1 + (32 + (8 + (1 + (4 + (32 + (1 + (1 + (32 + (k))))))))))))))))))))) by omega]; exact (Z103 ((Z100 _).trans Zv) (Z103 ((Z100 _).trans Zv) (Z103 ((Z100 _).trans Zv) (Z103 ((Z100 _).trans Zv) (Z103 ((Z100 _).trans Zv) (Z103 ((Z100 _).trans Zv) (Z103 ((Z100 _).trans Zv) (Z103 ((Z102 _).trans Zv) (Z103 rfl (Z103 rfl (Z103 rfl (Z103 rfl (Z103 rfl (Z103 ((Z100 _).trans Zv) (Z103 ((Z100 _).trans Zv) (Z103 rfl (Z103 ((Z102 _).trans Zv) (Z103 ((Z100 _).trans Zv) (Z103 rfl (Z103 rfl (Z103 ((Z100 _).trans Zv) h)))))))))))))))))))))
theorem HdrC.C_requests_cpy (s : HdrC) {lo : Nat} {l : List (BitVec 8)} (h : lo + l.length ≤ 32) : spl s.C (556 + lo) (u8s l) = ({ s with requests := cpV s.requests lo l } : HdrC).C := by
 rw [show 556 + lo = 32 + (32 + (20 + (32 + (32 + (32 + (256 + (4 + (1 + (1 + (1 + (1 + (1 + (32 + (8 + (1 + (4 + (32 + (1 + (1 + (32 + (lo))))))))))))))))))))) by omega]; exact (Z106 ((Z100 _).trans Zv) (Z106 ((Z100 _).trans Zv) (Z106 ((Z100 _).trans Zv) (Z106 ((Z100 _).trans Zv) (Z106 ((Z100 _).trans Zv) (Z106 ((Z100 _).trans Zv) (Z106 ((Z100 _).trans Zv) (Z106 ((Z102 _).trans Zv) (Z106 rfl (Z106 rfl (Z106 rfl (Z106 rfl (Z106 rfl (Z106 ((Z100 _).trans Zv) (Z106 ((Z100 _).trans Zv) (Z106 rfl (Z106 ((Z102 _).trans Zv) (Z106 ((Z100 _).trans Zv) (Z106 rfl (Z106 rfl (Z106 ((Z100 _).trans Zv) (u8s_cpV _ h))))))))))))))))))))))
structure Hdr where
 parent : Vector (BitVec 8) 32
 uncles : Vector (BitVec 8) 32
 coinbase : Vector (BitVec 8) 20
 state : Vector (BitVec 8) 32
 txRoot : Vector (BitVec 8) 32
 receiptRoot : Vector (BitVec 8) 32
 bloom : Vector (BitVec 8) 256
 difficulty : Vector (BitVec 64) 4
 number : BitVec 64
 limit : BitVec 64
 used : BitVec 64
 time : BitVec 64
 extra : List (BitVec 8)
 mix : Vector (BitVec 8) 32
 nonce : Vector (BitVec 8) 8
 tail : Int
 baseFee : Vector (BitVec 64) 4
 withdrawals : Vector (BitVec 8) 32
 blobUsed : BitVec 64
 blobExcess : BitVec 64
 beacon : Vector (BitVec 8) 32
 requests : Vector (BitVec 8) 32
def HdrRd (Φ : Ctx) (cs : List Value) (x : Hdr) : Prop := ∃ (A_extra : Option Addr), ∃ (c_extra : Nat), cs = (⟨x.parent, x.uncles, x.coinbase, x.state, x.txRoot, x.receiptRoot, x.bloom, x.difficulty, x.number, x.limit, x.used, x.time, .slice A_extra x.extra.length c_extra, x.mix, x.nonce, x.tail, x.baseFee, x.withdrawals, x.blobUsed, x.blobExcess, x.beacon, x.requests⟩ : HdrC).C ∧ (View Φ A_extra x.extra.length c_extra 1 (u8s x.extra)) ∧ (-9223372036854775808 ≤ x.tail ∧ x.tail ≤ 9223372036854775807)
theorem HdrRd.opn {Φ : Ctx} {cs : List Value} {x : Hdr} (h : HdrRd Φ cs x) : ∃ (A_extra : Option Addr), ∃ (c_extra : Nat), cs = (⟨x.parent, x.uncles, x.coinbase, x.state, x.txRoot, x.receiptRoot, x.bloom, x.difficulty, x.number, x.limit, x.used, x.time, .slice A_extra x.extra.length c_extra, x.mix, x.nonce, x.tail, x.baseFee, x.withdrawals, x.blobUsed, x.blobExcess, x.beacon, x.requests⟩ : HdrC).C ∧ (View Φ A_extra x.extra.length c_extra 1 (u8s x.extra)) ∧ (-9223372036854775808 ≤ x.tail ∧ x.tail ≤ 9223372036854775807) := h
theorem HdrRd.mono {Φ Ψ : Ctx} (hh : ∀ w, Ψ w → Φ w) (cs : List Value) (x : Hdr) : HdrRd Φ cs x → HdrRd Ψ cs x := fun ⟨A_extra, c_extra, e, v_extra, b_tail⟩ => ⟨A_extra, c_extra, e, v_extra.mono hh, b_tail⟩
theorem HdrRd.len {Φ : Ctx} (cs : List Value) (x : Hdr) (h : HdrRd Φ cs x) : cs.length = 588 := by
 obtain ⟨A_extra, c_extra, e, v_extra, b_tail⟩ := h
 rw [e]; exact HdrC.C_length _
theorem HdrRd.one {Φ : Ctx} (cs : List Value) (x : Hdr) (h : HdrRd Φ cs x) : ∀ u ∈ cs, u.oneCell' = true := by
 obtain ⟨A_extra, c_extra, e, v_extra, b_tail⟩ := h
 rw [e]; exact HdrC.C_one _ rfl
theorem HdrRd.mk {Φ : Ctx} {parent : Vector (BitVec 8) 32} {uncles : Vector (BitVec 8) 32} {coinbase : Vector (BitVec 8) 20} {state : Vector (BitVec 8) 32} {txRoot : Vector (BitVec 8) 32} {receiptRoot : Vector (BitVec 8) 32} {bloom : Vector (BitVec 8) 256} {difficulty : Vector (BitVec 64) 4} {number : BitVec 64} {limit : BitVec 64} {used : BitVec 64} {time : BitVec 64} {extra : List (BitVec 8)} {mix : Vector (BitVec 8) 32} {nonce : Vector (BitVec 8) 8} {tail : Int} {baseFee : Vector (BitVec 64) 4} {withdrawals : Vector (BitVec 8) 32} {blobUsed : BitVec 64} {blobExcess : BitVec 64} {beacon : Vector (BitVec 8) 32} {requests : Vector (BitVec 8) 32} {A_extra : Option Addr} {c_extra : Nat} (v_extra : View Φ A_extra extra.length c_extra 1 (u8s extra)) (b_tail : -9223372036854775808 ≤ tail ∧ tail ≤ 9223372036854775807) : HdrRd Φ (⟨parent, uncles, coinbase, state, txRoot, receiptRoot, bloom, difficulty, number, limit, used, time, .slice A_extra extra.length c_extra, mix, nonce, tail, baseFee, withdrawals, blobUsed, blobExcess, beacon, requests⟩ : HdrC).C (⟨parent, uncles, coinbase, state, txRoot, receiptRoot, bloom, difficulty, number, limit, used, time, extra, mix, nonce, tail, baseFee, withdrawals, blobUsed, blobExcess, beacon, requests⟩ : Hdr) := ⟨A_extra, c_extra, rfl, v_extra, b_tail⟩
end Go.Fw
namespace Go.Fw
def keccak_Sponge_absorb.l1 (a0 : Sponge) : Nat → (Nat) → (Sponge) → Option ((Sponge))
 | 0, _, _ => none
 | k16 + 1, n13, w15 => (if n13 < 136 then (a0.part[n13]?).bind fun x24 => (if (n13 / 8) < 25 then (w15.lanes[(n13 / 8)]?).bind fun x28 => (keccak_Sponge_absorb.l1 a0 k16 (n13 + 1) ({ w15 with lanes := w15.lanes.setIfInBounds (n13 / 8) (x28 ^^^ ((x24.setWidth 64) <<< (8 * (n13 % 8)))) } : Sponge)) else none) else (some (w15)))
def keccak_Sponge_absorb (a0 : Sponge) : Option ((Sponge)) := (((keccak_Sponge_absorb.l1 a0 (136 - 0 + 2) 0 a0) : Option ((Sponge))).bind fun w3 => ((keccak_Permute w3.lanes).bind fun x10 => (some ({ ({ w3 with lanes := x10 } : Sponge) with held := (0 : Int) } : Sponge))))
def keccak_Sponge_Write.l1 : Nat → (List (BitVec 8)) → (Sponge) → Option ((Sponge))
 | 0, _, _ => none
 | k20 + 1, l15, w19 => (if 0 < l15.length then (if 0 ≤ w19.held then (if (w19.held).toNat < 136 then (if (min l15.length (136 - ((w19.held).toNat))) ≤ l15.length then (if -9223372036854775808 ≤ (({ w19 with part := cpV w19.part ((w19.held).toNat) (l15.take (min l15.length (136 - ((w19.held).toNat)))) } : Sponge).held + (((min l15.length (136 - ((w19.held).toNat))) : Nat) : Int)) ∧ (({ w19 with part := cpV w19.part ((w19.held).toNat) (l15.take (min l15.length (136 - ((w19.held).toNat)))) } : Sponge).held + (((min l15.length (136 - ((w19.held).toNat))) : Nat) : Int)) ≤ 9223372036854775807 then (((if ({ ({ w19 with part := cpV w19.part ((w19.held).toNat) (l15.take (min l15.length (136 - ((w19.held).toNat)))) } : Sponge) with held := (({ w19 with part := cpV w19.part ((w19.held).toNat) (l15.take (min l15.length (136 - ((w19.held).toNat)))) } : Sponge).held + (((min l15.length (136 - ((w19.held).toNat))) : Nat) : Int)) } : Sponge).held = (136 : Int) then ((keccak_Sponge_absorb ({ ({ w19 with part := cpV w19.part ((w19.held).toNat) (l15.take (min l15.length (136 - ((w19.held).toNat)))) } : Sponge) with held := (({ w19 with part := cpV w19.part ((w19.held).toNat) (l15.take (min l15.length (136 - ((w19.held).toNat)))) } : Sponge).held + (((min l15.length (136 - ((w19.held).toNat))) : Nat) : Int)) } : Sponge)).bind fun x47 => (some (x47))) else (some (({ ({ w19 with part := cpV w19.part ((w19.held).toNat) (l15.take (min l15.length (136 - ((w19.held).toNat)))) } : Sponge) with held := (({ w19 with part := cpV w19.part ((w19.held).toNat) (l15.take (min l15.length (136 - ((w19.held).toNat)))) } : Sponge).held + (((min l15.length (136 - ((w19.held).toNat))) : Nat) : Int)) } : Sponge)))) : Option ((Sponge))).bind fun w39 => (keccak_Sponge_Write.l1 k20 (l15.drop (min l15.length (136 - ((w19.held).toNat)))) w39)) else none) else none) else none) else none) else (some (w19)))
def keccak_Sponge_Write (a0 : Sponge) (a1 : List (BitVec 8)) : Option ((Sponge)) := (if -9223372036854775808 ≤ (a0.long + ((a1.length : Nat) : Int)) ∧ (a0.long + ((a1.length : Nat) : Int)) ≤ 9223372036854775807 then (((keccak_Sponge_Write.l1 (a1.length - 0 + 2) a1 ({ a0 with long := (a0.long + ((a1.length : Nat) : Int)) } : Sponge)) : Option ((Sponge))).bind fun w7 => (some w7)) else none)
def keccak_Sponge_Sum.l1 (x14 : Sponge) : Nat → (Nat) → (Vector (BitVec 8) 32) → Option ((Vector (BitVec 8) 32))
 | 0, _, _ => none
 | k32 + 1, n29, w31 => (if n29 < 32 then (if (n29 / 8) < 25 then (x14.lanes[(n29 / 8)]?).bind fun x41 => (keccak_Sponge_Sum.l1 x14 k32 (n29 + 1) (w31.setIfInBounds n29 ((x41 >>> (8 * (n29 % 8))).setWidth 8))) else none) else (some (w31)))
def keccak_Sponge_Sum (a0 : Sponge) : Option ((Vector (BitVec 8) 32) × (Sponge)) := (if 0 ≤ a0.held then (if (a0.held).toNat < 136 then (if 0 ≤ ({ a0 with part := cpV a0.part ((a0.held).toNat) (List.replicate (136 - ((a0.held).toNat)) 0#8) } : Sponge).held then (if (({ a0 with part := cpV a0.part ((a0.held).toNat) (List.replicate (136 - ((a0.held).toNat)) 0#8) } : Sponge).held).toNat < 136 then (({ a0 with part := cpV a0.part ((a0.held).toNat) (List.replicate (136 - ((a0.held).toNat)) 0#8) } : Sponge).part[(({ a0 with part := cpV a0.part ((a0.held).toNat) (List.replicate (136 - ((a0.held).toNat)) 0#8) } : Sponge).held).toNat]?).bind fun x7 => (if 0 ≤ ({ a0 with part := cpV a0.part ((a0.held).toNat) (List.replicate (136 - ((a0.held).toNat)) 0#8) } : Sponge).kind then (firstL[(({ a0 with part := cpV a0.part ((a0.held).toNat) (List.replicate (136 - ((a0.held).toNat)) 0#8) } : Sponge).kind).toNat]?).bind fun x10 => ((keccak_Sponge_absorb ({ ({ ({ a0 with part := cpV a0.part ((a0.held).toNat) (List.replicate (136 - ((a0.held).toNat)) 0#8) } : Sponge) with part := ({ a0 with part := cpV a0.part ((a0.held).toNat) (List.replicate (136 - ((a0.held).toNat)) 0#8) } : Sponge).part.setIfInBounds ((({ a0 with part := cpV a0.part ((a0.held).toNat) (List.replicate (136 - ((a0.held).toNat)) 0#8) } : Sponge).held).toNat) (x7 ^^^ x10) } : Sponge) with part := ({ ({ a0 with part := cpV a0.part ((a0.held).toNat) (List.replicate (136 - ((a0.held).toNat)) 0#8) } : Sponge) with part := ({ a0 with part := cpV a0.part ((a0.held).toNat) (List.replicate (136 - ((a0.held).toNat)) 0#8) } : Sponge).part.setIfInBounds ((({ a0 with part := cpV a0.part ((a0.held).toNat) (List.replicate (136 - ((a0.held).toNat)) 0#8) } : Sponge).held).toNat) (x7 ^^^ x10) } : Sponge).part.setIfInBounds 135 (({ ({ a0 with part := cpV a0.part ((a0.held).toNat) (List.replicate (136 - ((a0.held).toNat)) 0#8) } : Sponge) with part := ({ a0 with part := cpV a0.part ((a0.held).toNat) (List.replicate (136 - ((a0.held).toNat)) 0#8) } : Sponge).part.setIfInBounds ((({ a0 with part := cpV a0.part ((a0.held).toNat) (List.replicate (136 - ((a0.held).toNat)) 0#8) } : Sponge).held).toNat) (x7 ^^^ x10) } : Sponge).part[135] ^^^ 128#8) } : Sponge)).bind fun x14 => (((keccak_Sponge_Sum.l1 x14 (32 - 0 + 2) 0 (Vector.replicate 32 0#8)) : Option ((Vector (BitVec 8) 32))).bind fun w23 => (some (w23, a0)))) else none) else none) else none) else none) else none)
def keccak_digest.l1 (a1 : List (List (BitVec 8))) : Nat → (Nat) → (Sponge) → Option ((Sponge))
 | 0, _, _ => none
 | k27 + 1, n24, w26 => (if n24 < a1.length then (a1[n24]?).bind fun x35 => ((keccak_Sponge_Write w26 x35).bind fun x47 => (keccak_digest.l1 a1 k27 (n24 + 1) x47)) else (some (w26)))
def keccak_digest (a0 : Int) (a1 : List (List (BitVec 8))) : Option ((Vector (BitVec 8) 32)) := (((keccak_digest.l1 a1 (a1.length - 0 + 2) 0 ({ (⟨0, (Vector.replicate 25 0#64), (Vector.replicate 136 0#8), 0, 0⟩ : Sponge) with kind := a0 } : Sponge)) : Option ((Sponge))).bind fun w8 => ((keccak_Sponge_Sum w8).bind fun (x15, x16) => (some x15)))
def keccak_Sum (a0 : List (List (BitVec 8))) : Option ((Vector (BitVec 8) 32)) := ((keccak_digest (0 : Int) a0).bind fun x4 => (some x4))
end Go.Fw
namespace Go.Fw
open Go Go.RowKit
section
variable {P : Program} {n : Nat} {Q : Exit → Act → World → Prop} {w0 : World} {L : Z128} {M E R : List Ent}
variable {ops : Array Oper} {hard : List Nat} {f : Nat} {done : Array Bool} {op : Op} {ty : TypeId} {pos : String} {aft : Array Edge} {g : Option (Nat × Bool)} {d : Nat} {v : Value}
theorem NV.boxA {x : Operand} {e : TypeId} {vs : List Value} (hx : ev L x = some (.agg vs.toArray)) : NV P w0 L M (.box e x) (fun b => ptr (some b) 0) vs e := fun ρ w hρ m o ho => by
 simp [execOp, ho, hρ x _ hx, Instr.box, newVar, newRow, ptr, blk, Value.cells]
end
end Go.Fw
namespace Go.Fw
def header_count (a0 : Int) : Option ((Nat)) := (if a0 = (0 : Int) then (some 15) else (if a0 = (1 : Int) then (some 16) else (if a0 = (2 : Int) then (some 17) else (if a0 = (3 : Int) then (some 20) else (some 21)))))
def header_tailOf.l1 (a0 : Int) : Nat → (Nat) → Option (Lp ((Int)) (Unit))
 | 0, _ => none
 | k10 + 1, n8 => (if n8 < 5 then ((header_count ((n8 : Nat) : Int)).bind fun x19 => (if ((x19 : Nat) : Int) = a0 then (some (Lp.ret (some ((n8 : Nat) : Int)))) else (header_tailOf.l1 a0 k10 (n8 + 1)))) else (some (Lp.go ())))
def header_tailOf (a0 : Int) : Option ((Int)) := (((header_tailOf.l1 a0 (5 - 0 + 2) 0) : Option (Lp ((Int)) (Unit))).bind fun | .ret o => o | .go () => (some (-1 : Int)))
def waybilllaw19_equal.l1 (a0 : List (BitVec 8)) (a1 : List (BitVec 8)) : Nat → (Nat) → Option (Lp ((Bool)) (Unit))
 | 0, _ => none
 | k13 + 1, n11 => (if n11 < a0.length then (a0[n11]?).bind fun x21 => (a1[n11]?).bind fun x24 => (if x21 = x24 then (waybilllaw19_equal.l1 a0 a1 k13 (n11 + 1)) else (some (Lp.ret (some false)))) else (some (Lp.go ())))
def waybilllaw19_equal (a0 : List (BitVec 8)) (a1 : List (BitVec 8)) : Option ((Bool)) := (if a0.length = a1.length then (((waybilllaw19_equal.l1 a0 a1 (a0.length - 0 + 2) 0) : Option (Lp ((Bool)) (Unit))).bind fun | .ret o => o | .go () => (some true)) else (some false))
def waybilllaw19_fields (a0 : Int) : Option ((Nat)) := (if a0 = (0 : Int) then (some 15) else (if a0 = (1 : Int) then (some 16) else (if a0 = (2 : Int) then (some 17) else (if a0 = (3 : Int) then (some 20) else (some 21)))))
def waybillref19_Same.l1 (a0 : Hdr) (a1 : Hdr) : Nat → (Nat) → Option (Lp ((Bool)) (Unit))
 | 0, _ => none
 | k71 + 1, n69 => (if n69 < a0.extra.length then (a0.extra[n69]?).bind fun x79 => (a1.extra[n69]?).bind fun x82 => (if x79 = x82 then (waybillref19_Same.l1 a0 a1 k71 (n69 + 1)) else (some (Lp.ret (some false)))) else (some (Lp.go ())))
def waybillref19_Same (a0 : Hdr) (a1 : Hdr) : Option ((Bool)) := (if a0.extra.length = a1.extra.length then (((waybillref19_Same.l1 a0 a1 (a0.extra.length - 0 + 2) 0) : Option (Lp ((Bool)) (Unit))).bind fun | .ret o => o | .go () => (((if a0.parent = a1.parent then (if a0.uncles = a1.uncles then (if a0.coinbase = a1.coinbase then (if a0.state = a1.state then (if a0.txRoot = a1.txRoot then (if a0.receiptRoot = a1.receiptRoot then (some ((!decide (a0.bloom = a1.bloom)))) else (some (true))) else (some (true))) else (some (true))) else (some (true))) else (some (true))) else (some (true))) : Option ((Bool))).bind fun p27 => (if p27 = true then (some false) else (((if a0.difficulty = a1.difficulty then (if a0.number = a1.number then (if a0.limit = a1.limit then (if a0.used = a1.used then (if a0.time = a1.time then (if a0.mix = a1.mix then (if a0.nonce = a1.nonce then (some ((!decide (a0.tail = a1.tail)))) else (some (true))) else (some (true))) else (some (true))) else (some (true))) else (some (true))) else (some (true))) else (some (true))) : Option ((Bool))).bind fun p36 => (if p36 = true then (some false) else (((if a0.baseFee = a1.baseFee then (if a0.withdrawals = a1.withdrawals then (if a0.blobUsed = a1.blobUsed then (if a0.blobExcess = a1.blobExcess then (if a0.beacon = a1.beacon then (some ((decide (a0.requests = a1.requests)))) else (some (false))) else (some (false))) else (some (false))) else (some (false))) else (some (false))) : Option ((Bool))).bind fun p45 => (some (p45)))))))) else (some false))
end Go.Fw
namespace Go.Fw
open Go
section
variable {P : Program} [Types P] {w0 : World} {L : Z128} {M : List Ent} {x y z : Operand} {t t' e : TypeId} {v : Value}
theorem RV.indexVs {l vs : List Value} {idx : Int} {k : IntKind} {n s : Nat} {u : TypeDesc} (j : Nat) (hx : ev L x = some (.agg l.toArray)) (hy : ev L y = some (.int k idx)) (hj : idx = (j : Int)) (ht : tyU P t = some (.array n e)) (he : tyU P e = some u) (hg : TypeDesc.agg u = true) (hs : tyS P e = some s) (h1 : idx < n) (hv : (l.drop (j * s)).take s = vs) :
    RV P w0 L M (.index t x y) (.agg vs.toArray) := fun ρ w hρ m o ho => by
 subst hj
 subst hv
 have h0 : (0 : Int) ≤ (j : Int) ∧ (j : Int) < (n : Int) := by omega
 simp [execOp, ho, hρ x _ hx, hρ y _ hy, Instr.index, asIntOf, Z129 ht, Z140 hs, h0, part, isAgg_run he, hg]
 intro hh; omega
theorem RV.buildAs {i : TI} {l cs : List Value} {k s : Nat} {ps : List (Nat × Operand)} {vss : List (List Value)} (hi : ty P t = some i) (hu : i.u = .array k e) (hs : tyS P e = some s) (hl : i.z.cells = l.toArray) (hp : evA L 0 ps = some vss) (hv : ∀ x ∈ vss, x.length = s) (hlen : l.length = vss.length * s) (hcs : vss.flatten = cs) :
    RV P w0 L M (.build t ps.toArray) (.agg cs.toArray) := fun ρ w hρ m o ho => by
 subst hcs
 obtain ⟨h0, ti, h1, h2, h3, h4⟩ := ty_ok hi
 rw [hu] at h0
 have hsz := Z140 (P := P) hs w
 have hf := fill_all (s := s) vss 0 l [] hv (by simp; omega)
 rw [Nat.zero_mul, List.take_zero, List.nil_append, ← evA_spec hρ ps 0 vss hp] at hf
 simp [execOp, ho, Instr.build, zeroValue, typeInfo, h1, h4, run_underlying h0, hsz, hl, hf]
end
theorem Mem.out1 {w0 w : World} {B N : List Ent} {e : Ent} (m : Mem w0 w (B ++ (e :: N))) : Mem w0 w (e :: (B ++ N)) := m.perm List.perm_middle
theorem Mem.out1d {w0 w : World} {B N : List Ent} {e e' : Ent} (m : Mem w0 w (B ++ (e :: e' :: N))) : Mem w0 w (e :: (B ++ N)) := m.out1.sublist (List.Sublist.cons_cons _ (List.Sublist.append (List.Sublist.refl _) (List.sublist_cons_self ..)))
def doneTo (i m : Nat) : List Bool := List.replicate i true ++ List.replicate (m - i) false
theorem doneTo_next {i m : Nat} (h : i < m) : (doneTo i m).toArray.setIfInBounds i true = (doneTo (i + 1) m).toArray := by
 rw [List.setIfInBounds_toArray]
 congr 1
 unfold doneTo
 rw [List.set_append_right _ _ (by simp), List.length_replicate, Nat.sub_self, show m - i = (m - (i + 1)) + 1 by omega, List.replicate_succ, List.set_cons_zero, show List.replicate (i + 1) true = List.replicate i true ++ [true] from List.replicate_succ', List.append_assoc]
 rfl
section
variable {P : Program} {n : Nat} {Q : Exit → Act → World → Prop} {w0 : World} {L : Z128} {M R : List Ent}
variable {ops : Array Oper} {hard : List Nat} {f : Nat} {done : Array Bool} {op : Op} {ty : TypeId} {pos : String} {aft : Array Edge} {g : Option (Nat × Bool)} {d : Nat} {v : Value}
theorem XW.norm {done' : Array Bool} (e : done = done') (k : XW P n ops Q w0 R hard f done' L M) : XW P n ops Q w0 R hard f done L M := by subst e; exact k
theorem Z120 (i : Nat) {m : Nat} (hx : ∀ i, i < m → XR ops (doneTo i m).toArray i = true) (hi : i < m) (ho : ops[i]? = some ⟨some d, op, ty, pos, aft, g⟩) (hw : Wt ops L g = true) (hop : RV P w0 L R op v) (hd : Nat.blt d n = true) (k : XW P n ops Q w0 R hard f (doneTo (i + 1) m).toArray ((d, v) :: L) M) : XW P n ops Q w0 R hard (f + 1) (doneTo i m).toArray L M :=
 Z10 i ho (hx i hi) hw hop hd (XW.norm (doneTo_next hi) k)
end
def regOps (k : Nat) : Code → Option (List Oper)
 | .region id l _ => if Nat.beq id k then some l.toList else none
 | .seq a b => match regOps k a with
  | some l => some l
  | none => regOps k b
 | .cond _ a b => match regOps k a with
  | some l => some l
  | none => regOps k b
 | .block _ b => regOps k b
 | .loop b => regOps k b
 | .scope b => regOps k b
 | _ => none
def fnOps (f : Func) (k : Nat) : List Oper := match f.body with
 | some c => (regOps k c).getD []
 | none => []
end Go.Fw
namespace Go.Fw
open Go
inductive Slk where
 | text (off n : Nat)
 | big (off : Nat)
 | word (off : Nat)
 | ext (off : Nat)
def npt : Value := .pointer none
def nsl : Value := .slice none 0 0
def Slk.cells (b : Nat) : Slk → List Value
 | .text o n => [sl (some b) o n n, npt, npt, npt]
 | .big o => [nsl, ptr (some b) o, npt, npt]
 | .word o => [nsl, npt, ptr (some b) o, npt]
 | .ext o => [nsl, npt, npt, ptr (some b) o]
def slotL : List Slk := [.text 0 32, .text 32 32, .text 64 20, .text 84 32, .text 116 32, .text 148 32, .text 180 256, .big 436, .word 440, .word 441, .word 442, .word 443, .ext 444, .text 445 32, .text 477 8, .big 486, .text 490 32, .word 522, .word 523, .text 524 32, .text 556 32]
def slotC (b : Nat) : List Value := (slotL.map (Slk.cells b)).flatten
theorem Z135 (b : Nat) (s : Slk) : (s.cells b).length = 4 := by cases s <;> rfl
theorem Slk.cells_one (b : Nat) (s : Slk) : ∀ u ∈ s.cells b, u.oneCell' = true := by cases s <;> (intro u hu; simp [Slk.cells] at hu; rcases hu with rfl | rfl | rfl | rfl <;> rfl)
theorem slotC_part (b i : Nat) {s : Slk} (h : slotL[i]? = some s) : ((slotC b).drop (i * 4)).take 4 = s.cells b := by
 have hi := (List.getElem?_eq_some_iff.1 h).1
 change i < 21 at hi
 rcases i with _ | _ | _ | _ | _ | _ | _ | _ | _ | _ | _ | _ | _ | _ | _ | _ | _ | _ | _ | _ | _ | i
 all_goals first | (obtain rfl := Zi h; rfl) | omega
theorem slotC_one (b : Nat) : ∀ u ∈ slotC b, u.oneCell' = true := by
 intro u hu
 obtain ⟨l, hl, hu⟩ := List.mem_flatten.1 hu
 obtain ⟨s, _, rfl⟩ := List.mem_map.1 hl
 exact Slk.cells_one b s u hu
theorem slotC_def (b : Nat) : (slotL.map (Slk.cells b)).flatten = slotC b := rfl
theorem slotC_hl {b : Nat} : (List.flatten (List.replicate 21 [nsl, npt, npt, npt])).length = (slotL.map (Slk.cells b)).length * 4 := by rw [List.length_map]; rfl
inductive Fd where
 | text (l : List (BitVec 8))
 | big (v : Vector (BitVec 64) 4)
 | word (x : BitVec 64)
 | ext (l : List (BitVec 8))
def Fd.isZero : Fd → Bool
 | .text l => l.all fun x => decide (x = 0#8)
 | .big v => decide (v = Vector.replicate 4 0#64)
 | .word x => decide (x = 0#64)
 | .ext l => decide (l.length = 0)
def Fd.item : Fd → Option It
 | .text l => rlp_Text l
 | .big v => rlp_Number v
 | .word x => rlp_Small x
 | .ext l => rlp_Text l
def SlotAt (Φ : Ctx) (b : Nat) : Slk → Fd → Prop
 | .text o n, .text l => l.length = n ∧ View Φ (some ⟨b, o, none⟩) l.length n 1 (u8s l)
 | .big o, .big v => ∀ w, Φ w → ∀ j u, (u64s v.toList)[j]? = some u → w.cell? ⟨b, o + j, none⟩ = some u
 | .word o, .word x => ∀ w, Φ w → w.cell? ⟨b, o, none⟩ = some (U64 x)
 | .ext o, .ext l => ∃ A c, (∀ w, Φ w → w.cell? ⟨b, o, none⟩ = some (.slice A l.length c)) ∧ View Φ A l.length c 1 (u8s l)
 | _, _ => False
theorem SlotAt.mono {Φ Ψ : Ctx} {b : Nat} {s : Slk} {f : Fd} (h : SlotAt Φ b s f) (hh : ∀ w, Ψ w → Φ w) : SlotAt Ψ b s f := by
 cases s <;> cases f <;> first | exact h.elim | skip
 ·exact ⟨h.1, h.2.mono hh⟩
 ·exact fun w q => h w (hh w q)
 ·exact fun w q => h w (hh w q)
 ·obtain ⟨A, c, h1, h2⟩ := h
  exact ⟨A, c, fun w q => h1 w (hh w q), h2.mono hh⟩
def Hdr.fds (h : Hdr) : List Fd := [.text h.parent.toList, .text h.uncles.toList, .text h.coinbase.toList, .text h.state.toList, .text h.txRoot.toList, .text h.receiptRoot.toList, .text h.bloom.toList, .big h.difficulty, .word h.number, .word h.limit, .word h.used, .word h.time, .ext h.extra, .text h.mix.toList, .text h.nonce.toList, .big h.baseFee, .text h.withdrawals.toList, .word h.blobUsed, .word h.blobExcess, .text h.beacon.toList, .text h.requests.toList]
def Hdr.C (x : Hdr) (A : Option Addr) (c : Nat) : HdrC := ⟨x.parent, x.uncles, x.coinbase, x.state, x.txRoot, x.receiptRoot, x.bloom, x.difficulty, x.number, x.limit, x.used, x.time, .slice A x.extra.length c, x.mix, x.nonce, x.tail, x.baseFee, x.withdrawals, x.blobUsed, x.blobExcess, x.beacon, x.requests⟩
theorem HdrRd.opnC {Φ : Ctx} {cs : List Value} {x : Hdr} (h : HdrRd Φ cs x) : ∃ A c, cs = (x.C A c).C ∧ View Φ A x.extra.length c 1 (u8s x.extra) ∧ (-9223372036854775808 ≤ x.tail ∧ x.tail ≤ 9223372036854775807) := h
theorem Hdr.slotsAt {w0 : World} {Φ : Ctx} {b : Nat} {te : TypeId} (h : Hdr) {A : Option Addr} {c : Nat} (he : Held w0 Φ b (h.C A c).C te) (hv : View Φ A h.extra.length c 1 (u8s h.extra)) {i : Nat} {s : Slk} {f : Fd} (hs : slotL[i]? = some s) (hf : h.fds[i]? = some f) : SlotAt Φ b s f := by
 have hi := (List.getElem?_eq_some_iff.1 hs).1
 change i < 21 at hi
 have hc : ∀ {i u}, (h.C A c).C[i]? = some u → ∀ w, Φ w → w.cell? ⟨b, i, none⟩ = some u := fun hu w q => by rw [(he w q).cell (List.mem_cons_self ..)]; exact hu
 rcases i with _ | _ | _ | _ | _ | _ | _ | _ | _ | _ | _ | _ | _ | _ | _ | _ | _ | _ | _ | _ | _ | i
 ·obtain rfl := Zi hs; obtain rfl := Zi hf
  exact ⟨Zv, he.part (a := h.parent) (HdrC.C_parent_all (h.C A c)) (by decide)⟩
 ·obtain rfl := Zi hs; obtain rfl := Zi hf
  exact ⟨Zv, he.part (a := h.uncles) (HdrC.C_uncles_all (h.C A c)) (by decide)⟩
 ·obtain rfl := Zi hs; obtain rfl := Zi hf
  exact ⟨Zv, he.part (a := h.coinbase) (Z160 (h.C A c)) (by decide)⟩
 ·obtain rfl := Zi hs; obtain rfl := Zi hf
  exact ⟨Zv, he.part (a := h.state) (HdrC.C_state_all (h.C A c)) (by decide)⟩
 ·obtain rfl := Zi hs; obtain rfl := Zi hf
  exact ⟨Zv, he.part (a := h.txRoot) (HdrC.C_txRoot_all (h.C A c)) (by decide)⟩
 ·obtain rfl := Zi hs; obtain rfl := Zi hf
  exact ⟨Zv, he.part (a := h.receiptRoot) (Z147 (h.C A c)) (by decide)⟩
 ·obtain rfl := Zi hs; obtain rfl := Zi hf
  exact ⟨Zv, he.part (a := h.bloom) (HdrC.C_bloom_all (h.C A c)) (by decide)⟩
 ·obtain rfl := Zi hs; obtain rfl := Zi hf
  exact fun w q j u hj => hc (Z149 (h.C A c) j u hj) w q
 ·obtain rfl := Zi hs; obtain rfl := Zi hf
  exact hc (HdrC.C_number (h.C A c))
 ·obtain rfl := Zi hs; obtain rfl := Zi hf
  exact hc (HdrC.C_limit (h.C A c))
 ·obtain rfl := Zi hs; obtain rfl := Zi hf
  exact hc (HdrC.C_used (h.C A c))
 ·obtain rfl := Zi hs; obtain rfl := Zi hf
  exact hc (HdrC.C_time (h.C A c))
 ·obtain rfl := Zi hs; obtain rfl := Zi hf
  exact ⟨A, c, hc (Z148 (h.C A c)), hv⟩
 ·obtain rfl := Zi hs; obtain rfl := Zi hf
  exact ⟨Zv, he.part (a := h.mix) (HdrC.C_mix_all (h.C A c)) (by decide)⟩
 ·obtain rfl := Zi hs; obtain rfl := Zi hf
  exact ⟨Zv, he.part (a := h.nonce) (HdrC.C_nonce_all (h.C A c)) (by decide)⟩
 ·obtain rfl := Zi hs; obtain rfl := Zi hf
  exact fun w q j u hj => hc (HdrC.C_baseFee_all (h.C A c) j u hj) w q
 ·obtain rfl := Zi hs; obtain rfl := Zi hf
  exact ⟨Zv, he.part (a := h.withdrawals) (Z146 (h.C A c)) (by decide)⟩
 ·obtain rfl := Zi hs; obtain rfl := Zi hf
  exact hc (HdrC.C_blobUsed (h.C A c))
 ·obtain rfl := Zi hs; obtain rfl := Zi hf
  exact hc (HdrC.C_blobExcess (h.C A c))
 ·obtain rfl := Zi hs; obtain rfl := Zi hf
  exact ⟨Zv, he.part (a := h.beacon) (HdrC.C_beacon_all (h.C A c)) (by decide)⟩
 ·obtain rfl := Zi hs; obtain rfl := Zi hf
  exact ⟨Zv, he.part (a := h.requests) (Z159 (h.C A c)) (by decide)⟩
 ·omega
def laterZero (h : Hdr) (n : Nat) : Bool := (h.fds.drop n).all Fd.isZero
def itemsOf : List Fd → Option (List It)
 | [] => some []
 | f :: r => f.item.bind fun x => (itemsOf r).bind fun xs => some (x :: xs)
end Go.Fw
namespace Go.Fw
open Go
def header_Check (h : Hdr) : Option Nat := if h.tail < (0 : Int) then some 191 else if (4 : Int) < h.tail then some 191 else
 (header_count h.tail).bind fun n => if laterZero h n = true then (if 32 < h.extra.length then some 192 else some 0) else some 191
def header_Item (h : Hdr) : Option (It × Nat) := (header_Check h).bind fun e => if e = 0 then (header_count h.tail).bind fun n => (itemsOf (h.fds.take n)).bind fun l => (rlp_List l).bind fun x => some (x, 0) else some (It.mk false ([] : List (BitVec 8)) ([] : List It), e)
theorem Hdr.fds_length (h : Hdr) : h.fds.length = 21 := rfl
theorem laterZero_not {h : Hdr} {n i : Nat} {f : Fd} (hi : n ≤ i) (hf : h.fds[i]? = some f) (hz : f.isZero = false) : laterZero h n = false := by
 unfold laterZero
 rw [List.all_eq_false]
 refine ⟨f, List.mem_of_getElem? (i := i - n) ?_, by simp [hz]⟩
 rw [List.getElem?_drop, show n + (i - n) = i by omega]; exact hf
theorem laterZero_all {h : Hdr} {n : Nat} (H : ∀ i f, n ≤ i → h.fds[i]? = some f → f.isZero = true) : laterZero h n = true := by
 unfold laterZero
 rw [List.all_eq_true]
 intro f hf
 obtain ⟨i, hi⟩ := List.getElem?_of_mem hf
 rw [List.getElem?_drop] at hi
 exact H _ f (by omega) hi
theorem itemsOf_snoc {l : List Fd} {f : Fd} {xs : List It} {x : It} (h1 : itemsOf l = some xs) (h2 : f.item = some x) : itemsOf (l ++ [f]) = some (xs ++ [x]) := by
 induction l generalizing xs with
 | nil => simp only [itemsOf, Option.some.injEq] at h1; subst h1; simp [itemsOf, h2]
 | cons g l ih =>
  simp only [itemsOf] at h1
  obtain ⟨y, hy, h1⟩ := Option.bind_eq_some_iff.1 h1
  obtain ⟨ys, hys, h1⟩ := Option.bind_eq_some_iff.1 h1
  obtain rfl := Zi h1
  simp only [List.cons_append, itemsOf, hy, ih hys, Zb]
theorem itemsOf_length {l : List Fd} {xs : List It} (h : itemsOf l = some xs) : xs.length = l.length := by
 induction l generalizing xs with
 | nil => simp only [itemsOf, Option.some.injEq] at h; subst h; rfl
 | cons g l ih =>
  simp only [itemsOf] at h
  obtain ⟨y, hy, h⟩ := Option.bind_eq_some_iff.1 h
  obtain ⟨ys, hys, h⟩ := Option.bind_eq_some_iff.1 h
  obtain rfl := Zi h
  simp [ih hys]
theorem itemsOf_at {l : List Fd} {xs : List It} {i : Nat} {f : Fd} (h : itemsOf l = some xs) (hf : l[i]? = some f) : ∃ x, f.item = some x ∧ xs[i]? = some x := by
 induction l generalizing xs i with
 | nil => simp at hf
 | cons g l ih =>
  simp only [itemsOf] at h
  obtain ⟨y, hy, h⟩ := Option.bind_eq_some_iff.1 h
  obtain ⟨ys, hys, h⟩ := Option.bind_eq_some_iff.1 h
  obtain rfl := Zi h
  rcases i with _ | i
  ·obtain rfl := Zi hf; exact ⟨y, hy, rfl⟩
  ·obtain ⟨x, h1, h2⟩ := ih (i := i) hys (by simpa using hf)
   exact ⟨x, h1, by simpa using h2⟩
def readS : Slk → It → Option (Fd × Nat)
 | .text _ n, x => (rlp_GetFixed x (n : Int)).bind fun p => some (.text p.1, p.2)
 | .big _, x => (rlp_GetNumber x).bind fun p => some (.big p.1, p.2)
 | .word _, x => (rlp_GetSmall x).bind fun p => some (.word p.1, p.2)
 | .ext _, x => (rlp_GetText x).bind fun p => some (.ext p.1, if p.2 = 0 ∧ 32 < p.1.length then 192 else p.2)
def Slk.width : Slk → Int
 | .text _ n => (n : Int)
 | .big _ => -1
 | .word _ => -2
 | .ext _ => -3
def Slk.off : Slk → Nat
 | .text o _ => o
 | .big o => o
 | .word o => o
 | .ext o => o
def Slk.sz : Slk → Nat
 | .text _ n => n
 | .big _ => 4
 | .word _ => 1
 | .ext _ => 1
def Wrote (Ψ : Ctx) (l l' : List Value) : Slk → Fd → Prop
 | .text o n, .text x => x.length ≤ n ∧ l' = spl l o (u8s x)
 | .big o, .big v => l' = spl l o (u64s v.toList)
 | .word o, .word x => l' = l.set o (U64 x)
 | .ext o, .ext x => ∃ A c, l' = l.set o (.slice A x.length c) ∧ View Ψ A x.length c 1 (u8s x)
 | _, _ => False
theorem getFixed_len {x : It} {n : Nat} {b : List (BitVec 8)} {e : Nat} (h : rlp_GetFixed x (n : Int) = some (b, e)) : (e = 0 ∧ b.length = n) ∨ (e ≠ 0 ∧ b = []) := by
 unfold rlp_GetFixed at h
 rw [if_neg (by omega)] at h
 obtain ⟨k, hk, h⟩ := Option.bind_eq_some_iff.1 h
 by_cases h1 : k = 0
 ·rw [if_pos h1] at h
  by_cases h2 : ((x.data.length : Nat) : Int) = (n : Int)
  ·rw [if_pos h2] at h
   obtain ⟨y, hy, h⟩ := Option.bind_eq_some_iff.1 h
   obtain ⟨rfl, rfl⟩ := Prod.mk.inj (Zi h)
   obtain rfl := Zi hy
   exact .inl ⟨rfl, by omega⟩
  ·rw [if_neg h2] at h
   obtain ⟨rfl, rfl⟩ := Prod.mk.inj (Zi h)
   exact .inr ⟨by decide, rfl⟩
 ·rw [if_neg h1] at h
  obtain ⟨rfl, rfl⟩ := Prod.mk.inj (Zi h)
  exact .inr ⟨h1, rfl⟩
def Hdr.put : Nat → Hdr → Fd → Hdr
 | 0, h, .text x => { h with parent := cpV h.parent 0 x }
 | 1, h, .text x => { h with uncles := cpV h.uncles 0 x }
 | 2, h, .text x => { h with coinbase := cpV h.coinbase 0 x }
 | 3, h, .text x => { h with state := cpV h.state 0 x }
 | 4, h, .text x => { h with txRoot := cpV h.txRoot 0 x }
 | 5, h, .text x => { h with receiptRoot := cpV h.receiptRoot 0 x }
 | 6, h, .text x => { h with bloom := cpV h.bloom 0 x }
 | 7, h, .big x => { h with difficulty := x }
 | 8, h, .word x => { h with number := x }
 | 9, h, .word x => { h with limit := x }
 | 10, h, .word x => { h with used := x }
 | 11, h, .word x => { h with time := x }
 | 12, h, .ext x => { h with extra := x }
 | 13, h, .text x => { h with mix := cpV h.mix 0 x }
 | 14, h, .text x => { h with nonce := cpV h.nonce 0 x }
 | 15, h, .big x => { h with baseFee := x }
 | 16, h, .text x => { h with withdrawals := cpV h.withdrawals 0 x }
 | 17, h, .word x => { h with blobUsed := x }
 | 18, h, .word x => { h with blobExcess := x }
 | 19, h, .text x => { h with beacon := cpV h.beacon 0 x }
 | 20, h, .text x => { h with requests := cpV h.requests 0 x }
 | _, h, _ => h
theorem Hdr.put_tail (i : Nat) (h : Hdr) (f : Fd) : (h.put i f).tail = h.tail := by
 unfold Hdr.put
 split <;> rfl
theorem Wrote.put {Ψ : Ctx} {h : Hdr} {A : Option Addr} {c i : Nat} {s : Slk} {f : Fd} {l' : List Value} (hs : slotL[i]? = some s) (hw : Wrote Ψ (h.C A c).C l' s f) (hv : View Ψ A h.extra.length c 1 (u8s h.extra)) :
    ∃ A' c', l' = ((h.put i f).C A' c').C ∧ View Ψ A' (h.put i f).extra.length c' 1 (u8s (h.put i f).extra) := by
 have hi := (List.getElem?_eq_some_iff.1 hs).1
 change i < 21 at hi
 rcases i with _ | _ | _ | _ | _ | _ | _ | _ | _ | _ | _ | _ | _ | _ | _ | _ | _ | _ | _ | _ | _ | i
 ·obtain rfl := Zi hs
  cases f <;> first | exact hw.elim | skip
  exact ⟨A, c, by rw [hw.2]; exact HdrC.C_parent_cpy (h.C A c) (lo := 0) (by rw [Nat.zero_add]; exact hw.1), hv⟩
 ·obtain rfl := Zi hs
  cases f <;> first | exact hw.elim | skip
  exact ⟨A, c, by rw [hw.2]; exact HdrC.C_uncles_cpy (h.C A c) (lo := 0) (by rw [Nat.zero_add]; exact hw.1), hv⟩
 ·obtain rfl := Zi hs
  cases f <;> first | exact hw.elim | skip
  exact ⟨A, c, by rw [hw.2]; exact HdrC.C_coinbase_cpy (h.C A c) (lo := 0) (by rw [Nat.zero_add]; exact hw.1), hv⟩
 ·obtain rfl := Zi hs
  cases f <;> first | exact hw.elim | skip
  exact ⟨A, c, by rw [hw.2]; exact HdrC.C_state_cpy (h.C A c) (lo := 0) (by rw [Nat.zero_add]; exact hw.1), hv⟩
 ·obtain rfl := Zi hs
  cases f <;> first | exact hw.elim | skip
  exact ⟨A, c, by rw [hw.2]; exact HdrC.C_txRoot_cpy (h.C A c) (lo := 0) (by rw [Nat.zero_add]; exact hw.1), hv⟩
 ·obtain rfl := Zi hs
  cases f <;> first | exact hw.elim | skip
  exact ⟨A, c, by rw [hw.2]; exact HdrC.C_receiptRoot_cpy (h.C A c) (lo := 0) (by rw [Nat.zero_add]; exact hw.1), hv⟩
 ·obtain rfl := Zi hs
  cases f <;> first | exact hw.elim | skip
  exact ⟨A, c, by rw [hw.2]; exact HdrC.C_bloom_cpy (h.C A c) (lo := 0) (by rw [Nat.zero_add]; exact hw.1), hv⟩
 ·obtain rfl := Zi hs
  cases f <;> first | exact hw.elim | skip
  exact ⟨A, c, by rw [hw]; exact HdrC.C_difficulty_spl (h.C A c) _, hv⟩
 ·obtain rfl := Zi hs
  cases f <;> first | exact hw.elim | skip
  exact ⟨A, c, by rw [hw]; exact HdrC.C_number_set (h.C A c) _, hv⟩
 ·obtain rfl := Zi hs
  cases f <;> first | exact hw.elim | skip
  exact ⟨A, c, by rw [hw]; exact HdrC.C_limit_set (h.C A c) _, hv⟩
 ·obtain rfl := Zi hs
  cases f <;> first | exact hw.elim | skip
  exact ⟨A, c, by rw [hw]; exact HdrC.C_used_set (h.C A c) _, hv⟩
 ·obtain rfl := Zi hs
  cases f <;> first | exact hw.elim | skip
  exact ⟨A, c, by rw [hw]; exact HdrC.C_time_set (h.C A c) _, hv⟩
 ·obtain rfl := Zi hs
  cases f <;> first | exact hw.elim | skip
  obtain ⟨A2, c2, rfl, hv2⟩ := hw
  exact ⟨A2, c2, HdrC.C_extra_set (h.C A c) _, hv2⟩
 ·obtain rfl := Zi hs
  cases f <;> first | exact hw.elim | skip
  exact ⟨A, c, by rw [hw.2]; exact HdrC.C_mix_cpy (h.C A c) (lo := 0) (by rw [Nat.zero_add]; exact hw.1), hv⟩
 ·obtain rfl := Zi hs
  cases f <;> first | exact hw.elim | skip
  exact ⟨A, c, by rw [hw.2]; exact HdrC.C_nonce_cpy (h.C A c) (lo := 0) (by rw [Nat.zero_add]; exact hw.1), hv⟩
 ·obtain rfl := Zi hs
  cases f <;> first | exact hw.elim | skip
  exact ⟨A, c, by rw [hw]; exact HdrC.C_baseFee_spl (h.C A c) _, hv⟩
 ·obtain rfl := Zi hs
  cases f <;> first | exact hw.elim | skip
  exact ⟨A, c, by rw [hw.2]; exact HdrC.C_withdrawals_cpy (h.C A c) (lo := 0) (by rw [Nat.zero_add]; exact hw.1), hv⟩
 ·obtain rfl := Zi hs
  cases f <;> first | exact hw.elim | skip
  exact ⟨A, c, by rw [hw]; exact HdrC.C_blobUsed_set (h.C A c) _, hv⟩
 ·obtain rfl := Zi hs
  cases f <;> first | exact hw.elim | skip
  exact ⟨A, c, by rw [hw]; exact HdrC.C_blobExcess_set (h.C A c) _, hv⟩
 ·obtain rfl := Zi hs
  cases f <;> first | exact hw.elim | skip
  exact ⟨A, c, by rw [hw.2]; exact HdrC.C_beacon_cpy (h.C A c) (lo := 0) (by rw [Nat.zero_add]; exact hw.1), hv⟩
 ·obtain rfl := Zi hs
  cases f <;> first | exact hw.elim | skip
  exact ⟨A, c, by rw [hw.2]; exact HdrC.C_requests_cpy (h.C A c) (lo := 0) (by rw [Nat.zero_add]; exact hw.1), hv⟩
 ·omega
def Hdr.zero : Hdr := ⟨Vector.replicate 32 0#8, Vector.replicate 32 0#8, Vector.replicate 20 0#8, Vector.replicate 32 0#8, Vector.replicate 32 0#8, Vector.replicate 32 0#8, Vector.replicate 256 0#8, Vector.replicate 4 0#64, 0#64, 0#64, 0#64, 0#64, [], Vector.replicate 32 0#8, Vector.replicate 8 0#8, 0, Vector.replicate 4 0#64, Vector.replicate 32 0#8, 0#64, 0#64, Vector.replicate 32 0#8, Vector.replicate 32 0#8⟩
def fieldsL : List Int := [32, 32, 20, 32, 32, 32, 256, -1, -2, -2, -2, -2, -3, 32, 8, -1, 32, -2, -2, 32, 32]
theorem slot_width {i : Nat} {s : Slk} (h : slotL[i]? = some s) : fieldsL[i]? = some s.width := by
 have e : fieldsL = slotL.map Slk.width := rfl
 rw [e, List.getElem?_map, h]; rfl
theorem slot_le {i : Nat} {s : Slk} (h : slotL[i]? = some s) : s.width ≤ 1000 ∧ s.off + s.sz ≤ 588 := by
 have e : ∀ s ∈ slotL, s.width ≤ 1000 ∧ s.off + s.sz ≤ 588 := by decide
 exact e s (List.mem_of_getElem? h)
def parseL : Nat → List It → Hdr → Option (Hdr × Nat)
 | _, [], h => some (h, 0)
 | i, x :: r, h => match slotL[i]? with
  | none => some (h, 0)
  | some s => (readS s x).bind fun p => if p.2 = 0 then parseL (i + 1) r (h.put i p.1) else some (h.put i p.1, p.2)
def header_Parse (x : It) : Option (Hdr × Nat) := (rlp_GetList x).bind fun p => if p.2 = 0 then (header_tailOf ((p.1.length : Nat) : Int)).bind fun t => if t < (0 : Int) then some (Hdr.zero, 190) else (parseL 0 p.1 { Hdr.zero with tail := t }).bind fun q => if q.2 = 0 then some (q.1, 0) else some (Hdr.zero, q.2) else some (Hdr.zero, p.2)
theorem tailOf_eq (n : Int) : header_tailOf n = some (if n = 15 then 0 else if n = 16 then 1 else if n = 17 then 2 else if n = 20 then 3 else if n = 21 then 4 else -1) := by
 simp only [header_tailOf, header_tailOf.l1, header_count]
 by_cases h1 : n = 15
 ·subst h1; rfl
 by_cases h2 : n = 16
 ·subst h2; rfl
 by_cases h3 : n = 17
 ·subst h3; rfl
 by_cases h4 : n = 20
 ·subst h4; rfl
 by_cases h5 : n = 21
 ·subst h5; rfl
 simp [h1, h2, h3, h4, h5, Ne.symm h1, Ne.symm h2, Ne.symm h3, Ne.symm h4, Ne.symm h5]
theorem tailOf_le {n : Nat} {t : Int} (h : header_tailOf (n : Int) = some t) (ht : ¬ t < 0) : n ≤ 21 := by
 rw [tailOf_eq] at h
 obtain rfl := Zi h
 by_cases h1 : (n : Int) = 15
 ·omega
 by_cases h2 : (n : Int) = 16
 ·omega
 by_cases h3 : (n : Int) = 17
 ·omega
 by_cases h4 : (n : Int) = 20
 ·omega
 by_cases h5 : (n : Int) = 21
 ·omega
 rw [if_neg h1, if_neg h2, if_neg h3, if_neg h4, if_neg h5] at ht
 exact absurd (by decide) ht
theorem fillL_one {pl : List (Nat × Nat)} {l l' : List Value} {i off : Nat} {v : Value} (h1 : pl[i]? = some (off, 1)) (h2 : off + 1 ≤ l.length) (h3 : l.set off v = l') : fillL pl l [(i, [v])] = some l' := by
 subst h3
 have e : spl l off [v] = l.set off v := by
  unfold spl
  rw [List.set_eq_take_append_cons_drop, if_pos (by omega)]
  simp
 simp only [fillL, h1]
 rw [if_pos (by simp; omega), e]
def waybilllaw19_twin (h : Hdr) : Option Hdr := if h.extra.length + 9 ≤ 140737488355328 then some h else none
theorem HdrRd.zero {Φ : Ctx} : HdrRd Φ (⟨(Vector.replicate 32 0#8), (Vector.replicate 32 0#8), (Vector.replicate 20 0#8), (Vector.replicate 32 0#8), (Vector.replicate 32 0#8), (Vector.replicate 32 0#8), (Vector.replicate 256 0#8), (Vector.replicate 4 0#64), 0#64, 0#64, 0#64, 0#64, .slice none 0 0, (Vector.replicate 32 0#8), (Vector.replicate 8 0#8), (0 : Int), (Vector.replicate 4 0#64), (Vector.replicate 32 0#8), 0#64, 0#64, (Vector.replicate 32 0#8), (Vector.replicate 32 0#8)⟩ : HdrC).C (Hdr.mk (Vector.replicate 32 0#8) (Vector.replicate 32 0#8) (Vector.replicate 20 0#8) (Vector.replicate 32 0#8) (Vector.replicate 32 0#8) (Vector.replicate 32 0#8) (Vector.replicate 256 0#8) (Vector.replicate 4 0#64) (0#64) (0#64) (0#64) (0#64) ([] : List (BitVec 8)) (Vector.replicate 32 0#8) (Vector.replicate 8 0#8) (0 : Int) (Vector.replicate 4 0#64) (Vector.replicate 32 0#8) (0#64) (0#64) (Vector.replicate 32 0#8) (Vector.replicate 32 0#8)) := ⟨none, 0, rfl, View.nil, by decide, by decide⟩
end Go.Fw
namespace Go.Fw
abbrev It.zero : It := It.mk false [] []
def dec : Nat → Nat → List (BitVec 8) → It → List (List It × List (BitVec 8)) → Option (It × Nat)
 | 0, _, _, _, _ => none
 | k + 1, 1, b, _, st => (rlp_cut b).bind fun (x1, x2, x3, x4) => (if x4 = 0 then (if x1 = true then (if st.length = 1024 then some (It.zero, 74) else (if (st.length + 1) * 48 ≤ 140737488355328 then dec k 3 x2 It.zero (([], x3) :: st) else none)) else ((rlp_Text x2).bind fun x => dec k 2 x3 x st)) else some (It.zero, x4))
 | _ + 1, 2, b, it, [] => if 0 < b.length then some (It.zero, 73) else some (it, 0)
 | k + 1, 2, b, it, (l, bh) :: st => if (l.length + 1) * 56 ≤ 140737488355328 then dec k 3 b It.zero ((l ++ [it], bh) :: st) else none
 | k + 1, 3, b, _, st => if 0 < b.length then dec k 1 b It.zero st else (match st with
  | [] => none
  | (l, bh) :: st => dec k 2 bh (It.mk true [] l) st)
 | _ + 1, _, _, _, _ => none
theorem dec_1 (k : Nat) (b : List (BitVec 8)) (it : It) (st : List (List It × List (BitVec 8))) : dec (k + 1) 1 b it st = (rlp_cut b).bind fun (x1, x2, x3, x4) => (if x4 = 0 then (if x1 = true then (if st.length = 1024 then some (It.zero, 74) else (if (st.length + 1) * 48 ≤ 140737488355328 then dec k 3 x2 It.zero (([], x3) :: st) else none)) else ((rlp_Text x2).bind fun x => dec k 2 x3 x st)) else some (It.zero, x4)) := by rw [dec]
theorem dec_2n (k : Nat) (b : List (BitVec 8)) (it : It) : dec (k + 1) 2 b it [] = if 0 < b.length then some (It.zero, 73) else some (it, 0) := by rw [dec]
theorem dec_2c (k : Nat) (b : List (BitVec 8)) (it : It) (l : List It) (bh : List (BitVec 8)) (st : List (List It × List (BitVec 8))) : dec (k + 1) 2 b it ((l, bh) :: st) = if (l.length + 1) * 56 ≤ 140737488355328 then dec k 3 b It.zero ((l ++ [it], bh) :: st) else none := by rw [dec]
theorem dec_3 (k : Nat) (b : List (BitVec 8)) (it : It) (st : List (List It × List (BitVec 8))) : dec (k + 1) 3 b it st = if 0 < b.length then dec k 1 b It.zero st else (match st with
    | [] => none
    | (l, bh) :: st => dec k 2 bh (It.mk true [] l) st) := by cases st <;> rfl
def rlp_Decode (a0 : List (BitVec 8)) : Option (It × Nat) := if 16777216 < a0.length then some (It.zero, 2) else dec (4 * a0.length + 8) 1 a0 It.zero []
end Go.Fw
namespace Go.Fw
def header_Encode (a0 : Hdr) : Option ((List (BitVec 8)) × (Nat)) := ((header_Item a0).bind fun (x10, x11) => (if x11 = 0 then ((rlp_Encode x10).bind fun (x37, x38) => (some (x37, x38))) else (some (([] : List (BitVec 8)), x11))))
def header_Decode (a0 : List (BitVec 8)) : Option ((Hdr) × (Nat)) := ((rlp_Decode a0).bind fun (x4, x5) => (if x5 = 0 then ((header_Parse x4).bind fun (x31, x32) => (some (x31, x32))) else (some ((Hdr.mk (Vector.replicate 32 0#8) (Vector.replicate 32 0#8) (Vector.replicate 20 0#8) (Vector.replicate 32 0#8) (Vector.replicate 32 0#8) (Vector.replicate 32 0#8) (Vector.replicate 256 0#8) (Vector.replicate 4 0#64) (0#64) (0#64) (0#64) (0#64) ([] : List (BitVec 8)) (Vector.replicate 32 0#8) (Vector.replicate 8 0#8) (0 : Int) (Vector.replicate 4 0#64) (Vector.replicate 32 0#8) (0#64) (0#64) (Vector.replicate 32 0#8) (Vector.replicate 32 0#8)), x5))))
def header_Hash (a0 : Hdr) : Option ((Vector (BitVec 8) 32) × (Nat)) := ((header_Encode a0).bind fun (x11, x12) => (if x12 = 0 then ((keccak_Sum ([x11] : List (List (BitVec 8)))).bind fun x32 => (some (x32, 0))) else (some ((Vector.replicate 32 0#8), x12))))
def waybilllaw19_HeaderBack (a0 : Hdr) (a1 : List (BitVec 8)) : Option ((Bool)) := ((header_Check (Hdr.mk (Vector.replicate 32 0#8) (Vector.replicate 32 0#8) (Vector.replicate 20 0#8) (Vector.replicate 32 0#8) (Vector.replicate 32 0#8) (Vector.replicate 32 0#8) (Vector.replicate 256 0#8) (Vector.replicate 4 0#64) (0#64) (0#64) (0#64) (0#64) ([] : List (BitVec 8)) (Vector.replicate 32 0#8) (Vector.replicate 8 0#8) (0 : Int) (Vector.replicate 4 0#64) (Vector.replicate 32 0#8) (0#64) (0#64) (Vector.replicate 32 0#8) (Vector.replicate 32 0#8))).bind fun x13 => (if x13 = 0 then ((waybilllaw19_twin a0).bind fun x19 => ((header_Check x19).bind fun x36 => ((waybilllaw19_twin a0).bind fun x41 => ((header_Encode x41).bind fun (x58, x59) => ((waybilllaw19_twin a0).bind fun x72 => ((header_Item x72).bind fun (x89, x90) => ((waybilllaw19_twin a0).bind fun x115 => ((header_Hash x115).bind fun (x132, x133) => (((if x36 = x59 then (if x36 = x90 then (some ((!decide (x36 = x133)))) else (some (true))) else (some (true))) : Option ((Bool))).bind fun p140 => (if p140 = true then (some false) else (((if x36 = 0 then ((header_Decode x58).bind fun (x257, x258) => ((header_Parse x89).bind fun (x277, x278) => ((rlp_Encode x89).bind fun (x297, x298) => (((if x258 = 0 then (if x278 = 0 then (if x298 = 0 then ((waybillref19_Same x257 a0).bind fun x353 => (if x353 = true then ((waybillref19_Same x277 a0).bind fun x358 => (if x358 = true then ((waybilllaw19_equal x297 x58).bind fun x364 => (some ((!x364)))) else (some (true)))) else (some (true)))) else (some (true))) else (some (true))) else (some (true))) : Option ((Bool))).bind fun p314 => (if p314 = true then (some (Lp.ret (some false))) else (((if x89.list = true then ((waybilllaw19_fields a0.tail).bind fun x334 => (if x89.items.length = x334 then ((keccak_Sum ([x58] : List (List (BitVec 8)))).bind fun x345 => (if x132 = x345 then (some ((decide (x58.length < 496)))) else (some (true)))) else (some (true)))) else (some (true))) : Option ((Bool))).bind fun p325 => (if p325 = true then (some (Lp.ret (some false))) else (some (Lp.go ()))))))))) else (some (Lp.go ()))) : Option (Lp ((Bool)) (Unit))).bind fun | .ret o => o | .go () => ((header_Decode a1).bind fun (x158, x159) => (if x159 = 0 then ((waybilllaw19_twin x158).bind fun x179 => ((header_Encode x179).bind fun (x196, x197) => (((if x197 = 0 then ((waybilllaw19_twin x158).bind fun x221 => ((header_Check x221).bind fun x238 => (if x238 = 0 then ((waybilllaw19_equal x196 a1).bind fun x245 => (some ((x245)))) else (some (false))))) else (some (false))) : Option ((Bool))).bind fun p213 => (some (p213))))) else ((waybillref19_Same x158 (Hdr.mk (Vector.replicate 32 0#8) (Vector.replicate 32 0#8) (Vector.replicate 20 0#8) (Vector.replicate 32 0#8) (Vector.replicate 32 0#8) (Vector.replicate 32 0#8) (Vector.replicate 256 0#8) (Vector.replicate 4 0#64) (0#64) (0#64) (0#64) (0#64) ([] : List (BitVec 8)) (Vector.replicate 32 0#8) (Vector.replicate 8 0#8) (0 : Int) (Vector.replicate 4 0#64) (Vector.replicate 32 0#8) (0#64) (0#64) (Vector.replicate 32 0#8) (Vector.replicate 32 0#8))).bind fun x251 => (some (x251)))))))))))))))) else (some false)))
end Go.Fw

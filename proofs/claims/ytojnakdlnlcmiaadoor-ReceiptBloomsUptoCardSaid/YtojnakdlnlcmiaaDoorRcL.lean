/- Part of a proof: rules that its law uses. -/
import Derived.Test.YtojnakdlnlcmiaaDoorFwD
import Derived.Test.YtojnakdlnlcmiaaDoorRmL2
namespace Go.Fw
open Go
set_option linter.unusedVariables false
set_option maxRecDepth 10000
structure LogC where
  address : Vector (BitVec 8) 20
  topics : Value
  data : Value
def LogC.C (s : LogC) : List Value := u8s s.address.toList ++ ([s.topics] ++ ([s.data]))
theorem LogC.C_length (s : LogC) : s.C.length = 22 := by simp [LogC.C, u8s_length]
theorem LogC.C_one (s : LogC) (h_topics : s.topics.oneCell' = true) (h_data : s.data.oneCell' = true) : ∀ u ∈ s.C, u.oneCell' = true := by
  intro u hu
  simp only [LogC.C, List.mem_append, List.mem_singleton] at hu
  rcases hu with hu | rfl | rfl
  · exact u8s_one _ u hu
  · exact h_topics
  · exact h_data
theorem LogC.C_address (s : LogC) {i : Nat} {x : BitVec 8} (h : s.address[i]? = some x) : s.C[0 + i]? = some (U8 x) := by
  rw [show 0 + i = i by omega]; exact (here_get (u8s_at (vat h)))
theorem LogC.C_address_all (s : LogC) : ∀ (k : Nat) (u : Value), (u8s s.address.toList)[k]? = some u → s.C[0 + k]? = some u := by
  intro k u h; rw [show 0 + k = k by omega]; exact (here_get h)
theorem LogC.C_address_set (s : LogC) {i : Nat} (hi : i < 20) (x : BitVec 8) : s.C.set (0 + i) (U8 x) = ({ s with address := s.address.setIfInBounds i x } : LogC).C := by
  rw [show 0 + i = i by omega]; exact (here_set (by rw [u8s_length, Vector.length_toList]; omega) (by rw [u8s_set', vset]))
theorem LogC.C_address_spl (s : LogC) (x : Vector (BitVec 8) 20) : spl s.C 0 (u8s x.toList) = ({ s with address := x } : LogC).C := by
  rw [show 0 = 0 by rfl]; exact (here_spl (by simp [u8s_length]))
theorem LogC.C_topics (s : LogC) : s.C[20]? = some (s.topics) := by
  rw [show 20 = 20 + (0) by rfl]; exact (skip_get ((u8s_length _).trans Vector.length_toList) (here_get rfl))
theorem LogC.C_topics_set (s : LogC) (x : Value) : s.C.set 20 (x) = ({ s with topics := x } : LogC).C := by
  rw [show 20 = 20 + (0) by rfl]; exact (skip_set ((u8s_length _).trans Vector.length_toList) (here_set (by simp) rfl))
theorem LogC.C_data (s : LogC) : s.C[21]? = some (s.data) := by
  rw [show 21 = 20 + (1 + (0)) by rfl]; exact (skip_get ((u8s_length _).trans Vector.length_toList) (skip_get rfl rfl))
theorem LogC.C_data_set (s : LogC) (x : Value) : s.C.set 21 (x) = ({ s with data := x } : LogC).C := by
  rw [show 21 = 20 + (1 + (0)) by rfl]; exact (skip_set ((u8s_length _).trans Vector.length_toList) (skip_set rfl rfl))
structure Log where
  address : Vector (BitVec 8) 20
  topics : List (Vector (BitVec 8) 32)
  data : List (BitVec 8)
def LogRd (Φ : Ctx) (cs : List Value) (x : Log) : Prop := ∃ (A_topics : Option Addr), ∃ (c_topics : Nat), ∃ (cs_topics : List Value), ∃ (A_data : Option Addr), ∃ (c_data : Nat), cs = (⟨x.address, .slice A_topics x.topics.length c_topics, .slice A_data x.data.length c_data⟩ : LogC).C ∧ (View Φ A_topics x.topics.length c_topics 32 cs_topics) ∧ (Reps (Ar8Rd Φ) cs_topics x.topics) ∧ (View Φ A_data x.data.length c_data 1 (u8s x.data))
theorem LogRd.opn {Φ : Ctx} {cs : List Value} {x : Log} (h : LogRd Φ cs x) : ∃ (A_topics : Option Addr), ∃ (c_topics : Nat), ∃ (cs_topics : List Value), ∃ (A_data : Option Addr), ∃ (c_data : Nat), cs = (⟨x.address, .slice A_topics x.topics.length c_topics, .slice A_data x.data.length c_data⟩ : LogC).C ∧ (View Φ A_topics x.topics.length c_topics 32 cs_topics) ∧ (Reps (Ar8Rd Φ) cs_topics x.topics) ∧ (View Φ A_data x.data.length c_data 1 (u8s x.data)) := h
theorem LogRd.mono {Φ Ψ : Ctx} (hh : ∀ w, Ψ w → Φ w) (cs : List Value) (x : Log) : LogRd Φ cs x → LogRd Ψ cs x := fun ⟨A_topics, c_topics, cs_topics, A_data, c_data, e, v_topics, h_topics, v_data⟩ => ⟨A_topics, c_topics, cs_topics, A_data, c_data, e, v_topics.mono hh, h_topics.mono (Ar8Rd.mono hh), v_data.mono hh⟩
theorem LogRd.len {Φ : Ctx} (cs : List Value) (x : Log) (h : LogRd Φ cs x) : cs.length = 22 := by
  obtain ⟨A_topics, c_topics, cs_topics, A_data, c_data, e, v_topics, h_topics, v_data⟩ := h
  rw [e]; exact LogC.C_length _
theorem LogRd.one {Φ : Ctx} (cs : List Value) (x : Log) (h : LogRd Φ cs x) : ∀ u ∈ cs, u.oneCell' = true := by
  obtain ⟨A_topics, c_topics, cs_topics, A_data, c_data, e, v_topics, h_topics, v_data⟩ := h
  rw [e]; exact LogC.C_one _ rfl rfl
theorem LogRd.mk {Φ : Ctx} {address : Vector (BitVec 8) 20} {topics : List (Vector (BitVec 8) 32)} {data : List (BitVec 8)} {A_topics : Option Addr} {c_topics : Nat} {cs_topics : List Value} {A_data : Option Addr} {c_data : Nat} (v_topics : View Φ A_topics topics.length c_topics 32 cs_topics) (h_topics : Reps (Ar8Rd Φ) cs_topics topics) (v_data : View Φ A_data data.length c_data 1 (u8s data)) : LogRd Φ (⟨address, .slice A_topics topics.length c_topics, .slice A_data data.length c_data⟩ : LogC).C (⟨address, topics, data⟩ : Log) := ⟨A_topics, c_topics, cs_topics, A_data, c_data, rfl, v_topics, h_topics, v_data⟩
structure RcptC where
  kind : Int
  rooted : Bool
  root : Vector (BitVec 8) 32
  status : BitVec 64
  used : BitVec 64
  bloom : Vector (BitVec 8) 256
  logs : Value
def RcptC.C (s : RcptC) : List Value := [.int .i64 s.kind] ++ ([.bool s.rooted] ++ (u8s s.root.toList ++ ([U64 s.status] ++ ([U64 s.used] ++ (u8s s.bloom.toList ++ ([s.logs]))))))
theorem RcptC.C_length (s : RcptC) : s.C.length = 293 := by simp [RcptC.C, u8s_length]
theorem RcptC.C_one (s : RcptC) (h_logs : s.logs.oneCell' = true) : ∀ u ∈ s.C, u.oneCell' = true := by
  intro u hu
  simp only [RcptC.C, List.mem_append, List.mem_singleton] at hu
  rcases hu with rfl | rfl | hu | rfl | rfl | hu | rfl
  · rfl
  · rfl
  · exact u8s_one _ u hu
  · rfl
  · rfl
  · exact u8s_one _ u hu
  · exact h_logs
theorem RcptC.C_kind (s : RcptC) : s.C[0]? = some (.int .i64 s.kind) := by
  rw [show 0 = 0 by rfl]; exact (here_get rfl)
theorem RcptC.C_kind_set (s : RcptC) (x : Int) : s.C.set 0 (.int .i64 x) = ({ s with kind := x } : RcptC).C := by
  rw [show 0 = 0 by rfl]; exact (here_set (by simp) rfl)
theorem RcptC.C_rooted (s : RcptC) : s.C[1]? = some (.bool s.rooted) := by
  rw [show 1 = 1 + (0) by rfl]; exact (skip_get rfl (here_get rfl))
theorem RcptC.C_rooted_set (s : RcptC) (x : Bool) : s.C.set 1 (.bool x) = ({ s with rooted := x } : RcptC).C := by
  rw [show 1 = 1 + (0) by rfl]; exact (skip_set rfl (here_set (by simp) rfl))
theorem RcptC.C_root (s : RcptC) {i : Nat} {x : BitVec 8} (h : s.root[i]? = some x) : s.C[2 + i]? = some (U8 x) := by
  rw [show 2 + i = 1 + (1 + (i)) by omega]; exact (skip_get rfl (skip_get rfl (here_get (u8s_at (vat h)))))
theorem RcptC.C_root_all (s : RcptC) : ∀ (k : Nat) (u : Value), (u8s s.root.toList)[k]? = some u → s.C[2 + k]? = some u := by
  intro k u h; rw [show 2 + k = 1 + (1 + (k)) by omega]; exact (skip_get rfl (skip_get rfl (here_get h)))
theorem RcptC.C_root_set (s : RcptC) {i : Nat} (hi : i < 32) (x : BitVec 8) : s.C.set (2 + i) (U8 x) = ({ s with root := s.root.setIfInBounds i x } : RcptC).C := by
  rw [show 2 + i = 1 + (1 + (i)) by omega]; exact (skip_set rfl (skip_set rfl (here_set (by rw [u8s_length, Vector.length_toList]; omega) (by rw [u8s_set', vset]))))
theorem RcptC.C_root_spl (s : RcptC) (x : Vector (BitVec 8) 32) : spl s.C 2 (u8s x.toList) = ({ s with root := x } : RcptC).C := by
  rw [show 2 = 1 + (1 + (0)) by rfl]; exact (skip_spl rfl (skip_spl rfl (here_spl (by simp [u8s_length]))))
theorem RcptC.C_status (s : RcptC) : s.C[34]? = some (U64 s.status) := by
  rw [show 34 = 1 + (1 + (32 + (0))) by rfl]; exact (skip_get rfl (skip_get rfl (skip_get ((u8s_length _).trans Vector.length_toList) (here_get rfl))))
theorem RcptC.C_status_set (s : RcptC) (x : BitVec 64) : s.C.set 34 (U64 x) = ({ s with status := x } : RcptC).C := by
  rw [show 34 = 1 + (1 + (32 + (0))) by rfl]; exact (skip_set rfl (skip_set rfl (skip_set ((u8s_length _).trans Vector.length_toList) (here_set (by simp) rfl))))
theorem RcptC.C_used (s : RcptC) : s.C[35]? = some (U64 s.used) := by
  rw [show 35 = 1 + (1 + (32 + (1 + (0)))) by rfl]; exact (skip_get rfl (skip_get rfl (skip_get ((u8s_length _).trans Vector.length_toList) (skip_get rfl (here_get rfl)))))
theorem RcptC.C_used_set (s : RcptC) (x : BitVec 64) : s.C.set 35 (U64 x) = ({ s with used := x } : RcptC).C := by
  rw [show 35 = 1 + (1 + (32 + (1 + (0)))) by rfl]; exact (skip_set rfl (skip_set rfl (skip_set ((u8s_length _).trans Vector.length_toList) (skip_set rfl (here_set (by simp) rfl)))))
theorem RcptC.C_bloom (s : RcptC) {i : Nat} {x : BitVec 8} (h : s.bloom[i]? = some x) : s.C[36 + i]? = some (U8 x) := by
  rw [show 36 + i = 1 + (1 + (32 + (1 + (1 + (i))))) by omega]; exact (skip_get rfl (skip_get rfl (skip_get ((u8s_length _).trans Vector.length_toList) (skip_get rfl (skip_get rfl (here_get (u8s_at (vat h))))))))
theorem RcptC.C_bloom_all (s : RcptC) : ∀ (k : Nat) (u : Value), (u8s s.bloom.toList)[k]? = some u → s.C[36 + k]? = some u := by
  intro k u h; rw [show 36 + k = 1 + (1 + (32 + (1 + (1 + (k))))) by omega]; exact (skip_get rfl (skip_get rfl (skip_get ((u8s_length _).trans Vector.length_toList) (skip_get rfl (skip_get rfl (here_get h))))))
theorem RcptC.C_bloom_set (s : RcptC) {i : Nat} (hi : i < 256) (x : BitVec 8) : s.C.set (36 + i) (U8 x) = ({ s with bloom := s.bloom.setIfInBounds i x } : RcptC).C := by
  rw [show 36 + i = 1 + (1 + (32 + (1 + (1 + (i))))) by omega]; exact (skip_set rfl (skip_set rfl (skip_set ((u8s_length _).trans Vector.length_toList) (skip_set rfl (skip_set rfl (here_set (by rw [u8s_length, Vector.length_toList]; omega) (by rw [u8s_set', vset])))))))
theorem RcptC.C_bloom_spl (s : RcptC) (x : Vector (BitVec 8) 256) : spl s.C 36 (u8s x.toList) = ({ s with bloom := x } : RcptC).C := by
  rw [show 36 = 1 + (1 + (32 + (1 + (1 + (0))))) by rfl]; exact (skip_spl rfl (skip_spl rfl (skip_spl ((u8s_length _).trans Vector.length_toList) (skip_spl rfl (skip_spl rfl (here_spl (by simp [u8s_length])))))))
theorem RcptC.C_logs (s : RcptC) : s.C[292]? = some (s.logs) := by
  rw [show 292 = 1 + (1 + (32 + (1 + (1 + (256 + (0)))))) by rfl]; exact (skip_get rfl (skip_get rfl (skip_get ((u8s_length _).trans Vector.length_toList) (skip_get rfl (skip_get rfl (skip_get ((u8s_length _).trans Vector.length_toList) rfl))))))
theorem RcptC.C_logs_set (s : RcptC) (x : Value) : s.C.set 292 (x) = ({ s with logs := x } : RcptC).C := by
  rw [show 292 = 1 + (1 + (32 + (1 + (1 + (256 + (0)))))) by rfl]; exact (skip_set rfl (skip_set rfl (skip_set ((u8s_length _).trans Vector.length_toList) (skip_set rfl (skip_set rfl (skip_set ((u8s_length _).trans Vector.length_toList) rfl))))))
structure Rcpt where
  kind : Int
  rooted : Bool
  root : Vector (BitVec 8) 32
  status : BitVec 64
  used : BitVec 64
  bloom : Vector (BitVec 8) 256
  logs : List (Log)
def RcptRd (Φ : Ctx) (cs : List Value) (x : Rcpt) : Prop := ∃ (A_logs : Option Addr), ∃ (c_logs : Nat), ∃ (cs_logs : List Value), cs = (⟨x.kind, x.rooted, x.root, x.status, x.used, x.bloom, .slice A_logs x.logs.length c_logs⟩ : RcptC).C ∧ (-9223372036854775808 ≤ x.kind ∧ x.kind ≤ 9223372036854775807) ∧ (View Φ A_logs x.logs.length c_logs 22 cs_logs) ∧ (Reps (LogRd Φ) cs_logs x.logs)
theorem RcptRd.opn {Φ : Ctx} {cs : List Value} {x : Rcpt} (h : RcptRd Φ cs x) : ∃ (A_logs : Option Addr), ∃ (c_logs : Nat), ∃ (cs_logs : List Value), cs = (⟨x.kind, x.rooted, x.root, x.status, x.used, x.bloom, .slice A_logs x.logs.length c_logs⟩ : RcptC).C ∧ (-9223372036854775808 ≤ x.kind ∧ x.kind ≤ 9223372036854775807) ∧ (View Φ A_logs x.logs.length c_logs 22 cs_logs) ∧ (Reps (LogRd Φ) cs_logs x.logs) := h
theorem RcptRd.mono {Φ Ψ : Ctx} (hh : ∀ w, Ψ w → Φ w) (cs : List Value) (x : Rcpt) : RcptRd Φ cs x → RcptRd Ψ cs x := fun ⟨A_logs, c_logs, cs_logs, e, b_kind, v_logs, h_logs⟩ => ⟨A_logs, c_logs, cs_logs, e, b_kind, v_logs.mono hh, h_logs.mono (LogRd.mono hh)⟩
theorem RcptRd.len {Φ : Ctx} (cs : List Value) (x : Rcpt) (h : RcptRd Φ cs x) : cs.length = 293 := by
  obtain ⟨A_logs, c_logs, cs_logs, e, b_kind, v_logs, h_logs⟩ := h
  rw [e]; exact RcptC.C_length _
theorem RcptRd.one {Φ : Ctx} (cs : List Value) (x : Rcpt) (h : RcptRd Φ cs x) : ∀ u ∈ cs, u.oneCell' = true := by
  obtain ⟨A_logs, c_logs, cs_logs, e, b_kind, v_logs, h_logs⟩ := h
  rw [e]; exact RcptC.C_one _ rfl
theorem RcptRd.mk {Φ : Ctx} {kind : Int} {rooted : Bool} {root : Vector (BitVec 8) 32} {status : BitVec 64} {used : BitVec 64} {bloom : Vector (BitVec 8) 256} {logs : List (Log)} {A_logs : Option Addr} {c_logs : Nat} {cs_logs : List Value} (b_kind : -9223372036854775808 ≤ kind ∧ kind ≤ 9223372036854775807) (v_logs : View Φ A_logs logs.length c_logs 22 cs_logs) (h_logs : Reps (LogRd Φ) cs_logs logs) : RcptRd Φ (⟨kind, rooted, root, status, used, bloom, .slice A_logs logs.length c_logs⟩ : RcptC).C (⟨kind, rooted, root, status, used, bloom, logs⟩ : Rcpt) := ⟨A_logs, c_logs, cs_logs, rfl, b_kind, v_logs, h_logs⟩
end Go.Fw

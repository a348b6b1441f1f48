/- Part of a proof: rules that its law uses. -/
import Derived.ChangeArms
import Derived.Test.YtdmnfcjekomaiaaDoorT2
set_option linter.unusedVariables false
set_option linter.unusedSimpArgs false
set_option linter.unusedSectionVars false
set_option maxRecDepth 100000
set_option maxHeartbeats 1000000
namespace Go.Fw
def header_count (a0 : Int) : Option ((Nat)) := (if a0 = (0 : Int) then (some 15) else (if a0 = (1 : Int) then (some 16) else (if a0 = (2 : Int) then (some 17) else (if a0 = (3 : Int) then (some 20) else (some 21)))))
def waybilllaw19_num (a0 : Int) : Option ((Int)) := (some a0)
def waybilllaw19_equal.l1 (a0 : List (BitVec 8)) (a1 : List (BitVec 8)) : Nat → (Nat) → Option (Lp ((Bool)) (Unit))
 | 0, _ => none
 | k13 + 1, n11 => (if n11 < a0.length then (a0[n11]?).bind fun x21 => (a1[n11]?).bind fun x24 => (if x21 = x24 then (waybilllaw19_equal.l1 a0 a1 k13 (n11 + 1)) else (some (Lp.ret (some false)))) else (some (Lp.go ())))
def waybilllaw19_equal (a0 : List (BitVec 8)) (a1 : List (BitVec 8)) : Option ((Bool)) := (if a0.length = a1.length then (((waybilllaw19_equal.l1 a0 a1 (a0.length - 0 + 2) 0) : Option (Lp ((Bool)) (Unit))).bind fun | .ret o => o | .go () => (some true)) else (some false))
def waybillref19_zero (a0 : Hdr) : Option ((Bool)) := (((if a0.tail < (1 : Int) then (if a0.baseFee = (Vector.replicate 4 0#64) then (if a0.tail < (2 : Int) then (if a0.withdrawals = (Vector.replicate 32 0#8) then (if a0.tail < (4 : Int) then (some ((!decide (a0.requests = (Vector.replicate 32 0#8))))) else (some (false))) else (some (true))) else (if a0.tail < (4 : Int) then (some ((!decide (a0.requests = (Vector.replicate 32 0#8))))) else (some (false)))) else (some (true))) else (if a0.tail < (2 : Int) then (if a0.withdrawals = (Vector.replicate 32 0#8) then (if a0.tail < (4 : Int) then (some ((!decide (a0.requests = (Vector.replicate 32 0#8))))) else (some (false))) else (some (true))) else (if a0.tail < (4 : Int) then (some ((!decide (a0.requests = (Vector.replicate 32 0#8))))) else (some (false))))) : Option ((Bool))).bind fun p11 => (if p11 = true then (some false) else (((if (3 : Int) ≤ a0.tail then (some (true)) else (if a0.blobUsed = 0#64 then (if a0.blobExcess = 0#64 then (some ((decide (a0.beacon = (Vector.replicate 32 0#8))))) else (some (false))) else (some (false)))) : Option ((Bool))).bind fun p20 => (some (p20)))))
def waybillref19_Check (a0 : Hdr) : Option ((Nat)) := (((if a0.tail < (0 : Int) then (some (true)) else (some ((decide ((4 : Int) < a0.tail))))) : Option ((Bool))).bind fun p11 => (if p11 = true then (some 191) else ((waybillref19_zero a0).bind fun x19 => (if x19 = true then (if 32 < a0.extra.length then (some 192) else (some 0)) else (some 191)))))
def waybillref19_hash (a0 : Vector (BitVec 8) 32) : Option ((It)) := ((waybillref07_Text a0.toList).bind fun x7 => (some x7))
def waybillref19_Item (a0 : Hdr) : Option ((It) × (Nat)) := ((waybillref19_Check a0).bind fun x11 => (if x11 = 0 then ((waybillref19_hash a0.parent).bind fun x19 => ((waybillref19_hash a0.uncles).bind fun x42 => ((waybillref07_Text a0.coinbase.toList).bind fun x65 => ((waybillref19_hash a0.state).bind fun x88 => ((waybillref19_hash a0.txRoot).bind fun x111 => ((waybillref19_hash a0.receiptRoot).bind fun x134 => (if ([x19, x42, x65, x88, x111, x134] : List (It)).length * 56 ≤ 140737488355328 then ((waybillref07_Text a0.bloom.toList).bind fun x169 => ((waybillref07_Number a0.difficulty).bind fun x192 => ((waybillref07_Small a0.number).bind fun x215 => ((waybillref07_Small a0.limit).bind fun x238 => (if (([x19, x42, x65, x88, x111, x134] : List (It)).length + ([x169, x192, x215, x238] : List (It)).length) * 56 ≤ 140737488355328 then ((waybillref07_Small a0.used).bind fun x273 => ((waybillref07_Small a0.time).bind fun x296 => ((waybillref07_Text a0.extra).bind fun x319 => ((waybillref19_hash a0.mix).bind fun x342 => ((waybillref07_Text a0.nonce.toList).bind fun x365 => (if ((([x19, x42, x65, x88, x111, x134] : List (It)) ++ ([x169, x192, x215, x238] : List (It))).length + ([x273, x296, x319, x342, x365] : List (It)).length) * 56 ≤ 140737488355328 then (((if (1 : Int) ≤ a0.tail then ((waybillref07_Number a0.baseFee).bind fun x621 => (if (((([x19, x42, x65, x88, x111, x134] : List (It)) ++ ([x169, x192, x215, x238] : List (It))) ++ ([x273, x296, x319, x342, x365] : List (It))).length + ([x621] : List (It)).length) * 56 ≤ 140737488355328 then (some ((((([x19, x42, x65, x88, x111, x134] : List (It)) ++ ([x169, x192, x215, x238] : List (It))) ++ ([x273, x296, x319, x342, x365] : List (It))) ++ ([x621] : List (It))))) else none)) else (some (((([x19, x42, x65, x88, x111, x134] : List (It)) ++ ([x169, x192, x215, x238] : List (It))) ++ ([x273, x296, x319, x342, x365] : List (It)))))) : Option ((List (It)))).bind fun l402 => (((if (2 : Int) ≤ a0.tail then ((waybillref19_hash a0.withdrawals).bind fun x586 => (if (l402.length + ([x586] : List (It)).length) * 56 ≤ 140737488355328 then (some ((l402 ++ ([x586] : List (It))))) else none)) else (some (l402))) : Option ((List (It)))).bind fun l419 => (((if (3 : Int) ≤ a0.tail then ((waybillref07_Small a0.blobUsed).bind fun x505 => ((waybillref07_Small a0.blobExcess).bind fun x528 => ((waybillref19_hash a0.beacon).bind fun x551 => (if (l419.length + ([x505, x528, x551] : List (It)).length) * 56 ≤ 140737488355328 then (some ((l419 ++ ([x505, x528, x551] : List (It))))) else none)))) else (some (l419))) : Option ((List (It)))).bind fun l436 => (((if (4 : Int) ≤ a0.tail then ((waybillref19_hash a0.requests).bind fun x470 => (if (l436.length + ([x470] : List (It)).length) * 56 ≤ 140737488355328 then (some ((l436 ++ ([x470] : List (It))))) else none)) else (some (l436))) : Option ((List (It)))).bind fun l453 => (some ((It.mk true ([] : List (BitVec 8)) l453), 0)))))) else none)))))) else none))))) else none))))))) else (some ((It.mk false ([] : List (BitVec 8)) ([] : List (It))), x11))))
def waybillref19_Encode (a0 : Hdr) : Option ((List (BitVec 8)) × (Nat)) := ((waybillref19_Item a0).bind fun (x10, x11) => (if x11 = 0 then ((waybillref07_Encode x10).bind fun (x37, x38) => (some (x37, x38))) else (some (([] : List (BitVec 8)), x11))))
def waybillref19_Same.l1 (a0 : Hdr) (a1 : Hdr) : Nat → (Nat) → Option (Lp ((Bool)) (Unit))
 | 0, _ => none
 | k71 + 1, n69 => (if n69 < a0.extra.length then (a0.extra[n69]?).bind fun x79 => (a1.extra[n69]?).bind fun x82 => (if x79 = x82 then (waybillref19_Same.l1 a0 a1 k71 (n69 + 1)) else (some (Lp.ret (some false)))) else (some (Lp.go ())))
def waybillref19_Same (a0 : Hdr) (a1 : Hdr) : Option ((Bool)) := (if a0.extra.length = a1.extra.length then (((waybillref19_Same.l1 a0 a1 (a0.extra.length - 0 + 2) 0) : Option (Lp ((Bool)) (Unit))).bind fun | .ret o => o | .go () => (((if a0.parent = a1.parent then (if a0.uncles = a1.uncles then (if a0.coinbase = a1.coinbase then (if a0.state = a1.state then (if a0.txRoot = a1.txRoot then (if a0.receiptRoot = a1.receiptRoot then (some ((!decide (a0.bloom = a1.bloom)))) else (some (true))) else (some (true))) else (some (true))) else (some (true))) else (some (true))) else (some (true))) : Option ((Bool))).bind fun p27 => (if p27 = true then (some false) else (((if a0.difficulty = a1.difficulty then (if a0.number = a1.number then (if a0.limit = a1.limit then (if a0.used = a1.used then (if a0.time = a1.time then (if a0.mix = a1.mix then (if a0.nonce = a1.nonce then (some ((!decide (a0.tail = a1.tail)))) else (some (true))) else (some (true))) else (some (true))) else (some (true))) else (some (true))) else (some (true))) else (some (true))) : Option ((Bool))).bind fun p36 => (if p36 = true then (some false) else (((if a0.baseFee = a1.baseFee then (if a0.withdrawals = a1.withdrawals then (if a0.blobUsed = a1.blobUsed then (if a0.blobExcess = a1.blobExcess then (if a0.beacon = a1.beacon then (some ((decide (a0.requests = a1.requests)))) else (some (false))) else (some (false))) else (some (false))) else (some (false))) else (some (false))) : Option ((Bool))).bind fun p45 => (some (p45)))))))) else (some false))
def waybillref19_Hash (a0 : Hdr) : Option ((Vector (BitVec 8) 32) × (Nat)) := ((waybillref19_Encode a0).bind fun (x11, x12) => (if x12 = 0 then ((waybillref02_Sum ([x11] : List (List (BitVec 8)))).bind fun x32 => (some (x32, 0))) else (some ((Vector.replicate 32 0#8), x12))))
end Go.Fw
namespace Go.Fw
open Go
section
variable {P : Program} [Types P] {w0 : World} {L : Z135} {M : List Ent} {x y z : Operand} {t t' e : TypeId} {v : Value}
theorem RV.indexVs {l vs : List Value} {idx : Int} {k : IntKind} {n s : Nat} {u : TypeDesc} (j : Nat) (hx : ev L x = some (.agg l.toArray)) (hy : ev L y = some (.int k idx)) (hj : idx = (j : Int)) (ht : tyU P t = some (.array n e)) (he : tyU P e = some u) (hg : TypeDesc.agg u = true) (hs : tyS P e = some s) (h1 : idx < n) (hv : (l.drop (j * s)).take s = vs) :
    RV P w0 L M (.index t x y) (.agg vs.toArray) := fun ρ w hρ m o ho => by
 subst hj
 subst hv
 have h0 : (0 : Int) ≤ (j : Int) ∧ (j : Int) < (n : Int) := by omega
 simp [execOp, ho, hρ x _ hx, hρ y _ hy, Instr.index, asIntOf, Z131 ht, Z155 hs, h0, part, isAgg_run he, hg]
 intro hh; omega
theorem RV.buildAs {i : TI} {l cs : List Value} {k s : Nat} {ps : List (Nat × Operand)} {vss : List (List Value)} (hi : ty P t = some i) (hu : i.u = .array k e) (hs : tyS P e = some s) (hl : i.z.cells = l.toArray) (hp : evA L 0 ps = some vss) (hv : ∀ x ∈ vss, x.length = s) (hlen : l.length = vss.length * s) (hcs : vss.flatten = cs) :
    RV P w0 L M (.build t ps.toArray) (.agg cs.toArray) := fun ρ w hρ m o ho => by
 subst hcs
 obtain ⟨h0, ti, h1, h2, h3, h4⟩ := ty_ok hi
 rw [hu] at h0
 have hsz := Z155 (P := P) hs w
 have hf := fill_all (s := s) vss 0 l [] hv (by simp; omega)
 rw [Nat.zero_mul, List.take_zero, List.nil_append, ← evA_spec hρ ps 0 vss hp] at hf
 simp [execOp, ho, Instr.build, zeroValue, typeInfo, h1, h4, run_underlying h0, hsz, hl, hf]
end
theorem Mem.out1 {w0 w : World} {B N : List Ent} {e : Ent} (m : Mem w0 w (B ++ (e :: N))) : Mem w0 w (e :: (B ++ N)) := m.perm List.perm_middle
theorem Mem.out1d {w0 w : World} {B N : List Ent} {e e' : Ent} (m : Mem w0 w (B ++ (e :: e' :: N))) : Mem w0 w (e :: (B ++ N)) := m.out1.sublist (List.Sublist.cons_cons _ (List.Sublist.append (List.Sublist.refl _) (List.sublist_cons_self ..)))
def doneTo (i m : Nat) : List Bool := List.replicate i true ++ List.replicate (m - i) false
theorem doneTo_next {i m : Nat} (h : i < m) : (doneTo i m).toArray.setIfInBounds i true = (doneTo (i + 1) m).toArray := by
 rw [List.setIfInBounds_toArray]
 congr 1
 unfold doneTo
 rw [List.set_append_right _ _ (by simp), List.length_replicate, Nat.sub_self, show m - i = (m - (i + 1)) + 1 by omega, List.replicate_succ, List.set_cons_zero, show List.replicate (i + 1) true = List.replicate i true ++ [true] from List.replicate_succ', List.append_assoc]
 rfl
section
variable {P : Program} {n : Nat} {Q : Exit → Act → World → Prop} {w0 : World} {L : Z135} {M R : List Ent}
variable {ops : Array Oper} {hard : List Nat} {f : Nat} {done : Array Bool} {op : Op} {ty : TypeId} {pos : String} {aft : Array Edge} {g : Option (Nat × Bool)} {d : Nat} {v : Value}
theorem XW.norm {done' : Array Bool} (e : done = done') (k : XW P n ops Q w0 R hard f done' L M) : XW P n ops Q w0 R hard f done L M := by subst e; exact k
theorem Z116 (i : Nat) {m : Nat} (hx : ∀ i, i < m → XR ops (doneTo i m).toArray i = true) (hi : i < m) (ho : ops[i]? = some ⟨some d, op, ty, pos, aft, g⟩) (hw : Wt ops L g = true) (hop : RV P w0 L R op v) (hd : Nat.blt d n = true) (k : XW P n ops Q w0 R hard f (doneTo (i + 1) m).toArray ((d, v) :: L) M) : XW P n ops Q w0 R hard (f + 1) (doneTo i m).toArray L M :=
 Z10 i ho (hx i hi) hw hop hd (XW.norm (doneTo_next hi) k)
end
def regOps (k : Nat) : Code → Option (List Oper)
 | .region id l _ => if Nat.beq id k then some l.toList else none
 | .seq a b => match regOps k a with
  | some l => some l
  | none => regOps k b
 | .cond _ a b => match regOps k a with
  | some l => some l
  | none => regOps k b
 | .block _ b => regOps k b
 | .loop b => regOps k b
 | .scope b => regOps k b
 | _ => none
def fnOps (f : Func) (k : Nat) : List Oper := match f.body with
 | some c => (regOps k c).getD []
 | none => []
end Go.Fw
namespace Go.Fw
open Go
inductive Slk where
 | text (off n : Nat)
 | big (off : Nat)
 | word (off : Nat)
 | ext (off : Nat)
def npt : Value := .pointer none
def nsl : Value := .slice none 0 0
def Slk.cells (b : Nat) : Slk → List Value
 | .text o n => [sl (some b) o n n, npt, npt, npt]
 | .big o => [nsl, ptr (some b) o, npt, npt]
 | .word o => [nsl, npt, ptr (some b) o, npt]
 | .ext o => [nsl, npt, npt, ptr (some b) o]
def slotL : List Slk := [.text 0 32, .text 32 32, .text 64 20, .text 84 32, .text 116 32, .text 148 32, .text 180 256, .big 436, .word 440, .word 441, .word 442, .word 443, .ext 444, .text 445 32, .text 477 8, .big 486, .text 490 32, .word 522, .word 523, .text 524 32, .text 556 32]
def slotC (b : Nat) : List Value := (slotL.map (Slk.cells b)).flatten
theorem Z134 (b : Nat) (s : Slk) : (s.cells b).length = 4 := by cases s <;> rfl
theorem Slk.cells_one (b : Nat) (s : Slk) : ∀ u ∈ s.cells b, u.oneCell' = true := by cases s <;> (intro u hu; simp [Slk.cells] at hu; rcases hu with rfl | rfl | rfl | rfl <;> rfl)
theorem slotC_part (b i : Nat) {s : Slk} (h : slotL[i]? = some s) : ((slotC b).drop (i * 4)).take 4 = s.cells b := by
 have hi := (List.getElem?_eq_some_iff.1 h).1
 change i < 21 at hi
 rcases i with _ | _ | _ | _ | _ | _ | _ | _ | _ | _ | _ | _ | _ | _ | _ | _ | _ | _ | _ | _ | _ | i
 all_goals first | (obtain rfl := Zi h; rfl) | omega
theorem slotC_one (b : Nat) : ∀ u ∈ slotC b, u.oneCell' = true := by
 intro u hu
 obtain ⟨l, hl, hu⟩ := List.mem_flatten.1 hu
 obtain ⟨s, _, rfl⟩ := List.mem_map.1 hl
 exact Slk.cells_one b s u hu
theorem slotC_def (b : Nat) : (slotL.map (Slk.cells b)).flatten = slotC b := rfl
theorem slotC_hl {b : Nat} : (List.flatten (List.replicate 21 [nsl, npt, npt, npt])).length = (slotL.map (Slk.cells b)).length * 4 := by rw [List.length_map]; rfl
inductive Fd where
 | text (l : List (BitVec 8))
 | big (v : Vector (BitVec 64) 4)
 | word (x : BitVec 64)
 | ext (l : List (BitVec 8))
def Fd.isZero : Fd → Bool
 | .text l => l.all fun x => decide (x = 0#8)
 | .big v => decide (v = Vector.replicate 4 0#64)
 | .word x => decide (x = 0#64)
 | .ext l => decide (l.length = 0)
def Fd.item : Fd → Option It
 | .text l => rlp_Text l
 | .big v => rlp_Number v
 | .word x => rlp_Small x
 | .ext l => rlp_Text l
def SlotAt (Φ : Ctx) (b : Nat) : Slk → Fd → Prop
 | .text o n, .text l => l.length = n ∧ View Φ (some ⟨b, o, none⟩) l.length n 1 (u8s l)
 | .big o, .big v => ∀ w, Φ w → ∀ j u, (u64s v.toList)[j]? = some u → w.cell? ⟨b, o + j, none⟩ = some u
 | .word o, .word x => ∀ w, Φ w → w.cell? ⟨b, o, none⟩ = some (U64 x)
 | .ext o, .ext l => ∃ A c, (∀ w, Φ w → w.cell? ⟨b, o, none⟩ = some (.slice A l.length c)) ∧ View Φ A l.length c 1 (u8s l)
 | _, _ => False
theorem SlotAt.mono {Φ Ψ : Ctx} {b : Nat} {s : Slk} {f : Fd} (h : SlotAt Φ b s f) (hh : ∀ w, Ψ w → Φ w) : SlotAt Ψ b s f := by
 cases s <;> cases f <;> first | exact h.elim | skip
 ·exact ⟨h.1, h.2.mono hh⟩
 ·exact fun w q => h w (hh w q)
 ·exact fun w q => h w (hh w q)
 ·obtain ⟨A, c, h1, h2⟩ := h
  exact ⟨A, c, fun w q => h1 w (hh w q), h2.mono hh⟩
def Hdr.fds (h : Hdr) : List Fd := [.text h.parent.toList, .text h.uncles.toList, .text h.coinbase.toList, .text h.state.toList, .text h.txRoot.toList, .text h.receiptRoot.toList, .text h.bloom.toList, .big h.difficulty, .word h.number, .word h.limit, .word h.used, .word h.time, .ext h.extra, .text h.mix.toList, .text h.nonce.toList, .big h.baseFee, .text h.withdrawals.toList, .word h.blobUsed, .word h.blobExcess, .text h.beacon.toList, .text h.requests.toList]
def Hdr.C (x : Hdr) (A : Option Addr) (c : Nat) : HdrC := ⟨x.parent, x.uncles, x.coinbase, x.state, x.txRoot, x.receiptRoot, x.bloom, x.difficulty, x.number, x.limit, x.used, x.time, .slice A x.extra.length c, x.mix, x.nonce, x.tail, x.baseFee, x.withdrawals, x.blobUsed, x.blobExcess, x.beacon, x.requests⟩
theorem HdrRd.opnC {Φ : Ctx} {cs : List Value} {x : Hdr} (h : HdrRd Φ cs x) : ∃ A c, cs = (x.C A c).C ∧ View Φ A x.extra.length c 1 (u8s x.extra) ∧ (-9223372036854775808 ≤ x.tail ∧ x.tail ≤ 9223372036854775807) := h
theorem Hdr.slotsAt {w0 : World} {Φ : Ctx} {b : Nat} {te : TypeId} (h : Hdr) {A : Option Addr} {c : Nat} (he : Held w0 Φ b (h.C A c).C te) (hv : View Φ A h.extra.length c 1 (u8s h.extra)) {i : Nat} {s : Slk} {f : Fd} (hs : slotL[i]? = some s) (hf : h.fds[i]? = some f) : SlotAt Φ b s f := by
 have hi := (List.getElem?_eq_some_iff.1 hs).1
 change i < 21 at hi
 have hc : ∀ {i u}, (h.C A c).C[i]? = some u → ∀ w, Φ w → w.cell? ⟨b, i, none⟩ = some u := fun hu w q => by rw [(he w q).cell (List.mem_cons_self ..)]; exact hu
 rcases i with _ | _ | _ | _ | _ | _ | _ | _ | _ | _ | _ | _ | _ | _ | _ | _ | _ | _ | _ | _ | _ | i
 ·obtain rfl := Zi hs; obtain rfl := Zi hf
  exact ⟨Zv, he.part (a := h.parent) (Z170 (h.C A c)) (by decide)⟩
 ·obtain rfl := Zi hs; obtain rfl := Zi hf
  exact ⟨Zv, he.part (a := h.uncles) (Z168 (h.C A c)) (by decide)⟩
 ·obtain rfl := Zi hs; obtain rfl := Zi hf
  exact ⟨Zv, he.part (a := h.coinbase) (Z158 (h.C A c)) (by decide)⟩
 ·obtain rfl := Zi hs; obtain rfl := Zi hf
  exact ⟨Zv, he.part (a := h.state) (Z181 (h.C A c)) (by decide)⟩
 ·obtain rfl := Zi hs; obtain rfl := Zi hf
  exact ⟨Zv, he.part (a := h.txRoot) (Z169 (h.C A c)) (by decide)⟩
 ·obtain rfl := Zi hs; obtain rfl := Zi hf
  exact ⟨Zv, he.part (a := h.receiptRoot) (Z143 (h.C A c)) (by decide)⟩
 ·obtain rfl := Zi hs; obtain rfl := Zi hf
  exact ⟨Zv, he.part (a := h.bloom) (HdrC.C_bloom_all (h.C A c)) (by decide)⟩
 ·obtain rfl := Zi hs; obtain rfl := Zi hf
  exact fun w q j u hj => hc (Z144 (h.C A c) j u hj) w q
 ·obtain rfl := Zi hs; obtain rfl := Zi hf
  exact hc (HdrC.C_number (h.C A c))
 ·obtain rfl := Zi hs; obtain rfl := Zi hf
  exact hc (HdrC.C_limit (h.C A c))
 ·obtain rfl := Zi hs; obtain rfl := Zi hf
  exact hc (HdrC.C_used (h.C A c))
 ·obtain rfl := Zi hs; obtain rfl := Zi hf
  exact hc (HdrC.C_time (h.C A c))
 ·obtain rfl := Zi hs; obtain rfl := Zi hf
  exact ⟨A, c, hc (Z138 (h.C A c)), hv⟩
 ·obtain rfl := Zi hs; obtain rfl := Zi hf
  exact ⟨Zv, he.part (a := h.mix) (HdrC.C_mix_all (h.C A c)) (by decide)⟩
 ·obtain rfl := Zi hs; obtain rfl := Zi hf
  exact ⟨Zv, he.part (a := h.nonce) (Z182 (h.C A c)) (by decide)⟩
 ·obtain rfl := Zi hs; obtain rfl := Zi hf
  exact fun w q j u hj => hc (Z146 (h.C A c) j u hj) w q
 ·obtain rfl := Zi hs; obtain rfl := Zi hf
  exact ⟨Zv, he.part (a := h.withdrawals) (Z125 (h.C A c)) (by decide)⟩
 ·obtain rfl := Zi hs; obtain rfl := Zi hf
  exact hc (Z167 (h.C A c))
 ·obtain rfl := Zi hs; obtain rfl := Zi hf
  exact hc (Z152 (h.C A c))
 ·obtain rfl := Zi hs; obtain rfl := Zi hf
  exact ⟨Zv, he.part (a := h.beacon) (Z153 (h.C A c)) (by decide)⟩
 ·obtain rfl := Zi hs; obtain rfl := Zi hf
  exact ⟨Zv, he.part (a := h.requests) (Z123 (h.C A c)) (by decide)⟩
 ·omega
def laterZero (h : Hdr) (n : Nat) : Bool := (h.fds.drop n).all Fd.isZero
def itemsOf : List Fd → Option (List It)
 | [] => some []
 | f :: r => f.item.bind fun x => (itemsOf r).bind fun xs => some (x :: xs)
end Go.Fw
namespace Go.Fw
open Go
def header_Check (h : Hdr) : Option Nat := if h.tail < (0 : Int) then some 191 else if (4 : Int) < h.tail then some 191 else
 (header_count h.tail).bind fun n => if laterZero h n = true then (if 32 < h.extra.length then some 192 else some 0) else some 191
def header_Item (h : Hdr) : Option (It × Nat) := (header_Check h).bind fun e => if e = 0 then (header_count h.tail).bind fun n => (itemsOf (h.fds.take n)).bind fun l => (rlp_List l).bind fun x => some (x, 0) else some (It.mk false ([] : List (BitVec 8)) ([] : List It), e)
theorem Hdr.fds_length (h : Hdr) : h.fds.length = 21 := rfl
theorem laterZero_not {h : Hdr} {n i : Nat} {f : Fd} (hi : n ≤ i) (hf : h.fds[i]? = some f) (hz : f.isZero = false) : laterZero h n = false := by
 unfold laterZero
 rw [List.all_eq_false]
 refine ⟨f, List.mem_of_getElem? (i := i - n) ?_, by simp [hz]⟩
 rw [List.getElem?_drop, show n + (i - n) = i by omega]; exact hf
theorem laterZero_all {h : Hdr} {n : Nat} (H : ∀ i f, n ≤ i → h.fds[i]? = some f → f.isZero = true) : laterZero h n = true := by
 unfold laterZero
 rw [List.all_eq_true]
 intro f hf
 obtain ⟨i, hi⟩ := List.getElem?_of_mem hf
 rw [List.getElem?_drop] at hi
 exact H _ f (by omega) hi
theorem itemsOf_snoc {l : List Fd} {f : Fd} {xs : List It} {x : It} (h1 : itemsOf l = some xs) (h2 : f.item = some x) : itemsOf (l ++ [f]) = some (xs ++ [x]) := by
 induction l generalizing xs with
 | nil => simp only [itemsOf, Option.some.injEq] at h1; subst h1; simp [itemsOf, h2]
 | cons g l ih =>
  simp only [itemsOf] at h1
  obtain ⟨y, hy, h1⟩ := Option.bind_eq_some_iff.1 h1
  obtain ⟨ys, hys, h1⟩ := Option.bind_eq_some_iff.1 h1
  obtain rfl := Zi h1
  simp only [List.cons_append, itemsOf, hy, ih hys, Zb]
theorem itemsOf_length {l : List Fd} {xs : List It} (h : itemsOf l = some xs) : xs.length = l.length := by
 induction l generalizing xs with
 | nil => simp only [itemsOf, Option.some.injEq] at h; subst h; rfl
 | cons g l ih =>
  simp only [itemsOf] at h
  obtain ⟨y, hy, h⟩ := Option.bind_eq_some_iff.1 h
  obtain ⟨ys, hys, h⟩ := Option.bind_eq_some_iff.1 h
  obtain rfl := Zi h
  simp [ih hys]
theorem itemsOf_at {l : List Fd} {xs : List It} {i : Nat} {f : Fd} (h : itemsOf l = some xs) (hf : l[i]? = some f) : ∃ x, f.item = some x ∧ xs[i]? = some x := by
 induction l generalizing xs i with
 | nil => simp at hf
 | cons g l ih =>
  simp only [itemsOf] at h
  obtain ⟨y, hy, h⟩ := Option.bind_eq_some_iff.1 h
  obtain ⟨ys, hys, h⟩ := Option.bind_eq_some_iff.1 h
  obtain rfl := Zi h
  rcases i with _ | i
  ·obtain rfl := Zi hf; exact ⟨y, hy, rfl⟩
  ·obtain ⟨x, h1, h2⟩ := ih (i := i) hys (by simpa using hf)
   exact ⟨x, h1, by simpa using h2⟩
def Slk.off : Slk → Nat
 | .text o _ => o
 | .big o => o
 | .word o => o
 | .ext o => o
def Slk.sz : Slk → Nat
 | .text _ n => n
 | .big _ => 4
 | .word _ => 1
 | .ext _ => 1
def Wrote (Ψ : Ctx) (l l' : List Value) : Slk → Fd → Prop
 | .text o n, .text x => x.length ≤ n ∧ l' = spl l o (u8s x)
 | .big o, .big v => l' = spl l o (u64s v.toList)
 | .word o, .word x => l' = l.set o (U64 x)
 | .ext o, .ext x => ∃ A c, l' = l.set o (.slice A x.length c) ∧ View Ψ A x.length c 1 (u8s x)
 | _, _ => False
def Hdr.put : Nat → Hdr → Fd → Hdr
 | 0, h, .text x => { h with parent := cpV h.parent 0 x }
 | 1, h, .text x => { h with uncles := cpV h.uncles 0 x }
 | 2, h, .text x => { h with coinbase := cpV h.coinbase 0 x }
 | 3, h, .text x => { h with state := cpV h.state 0 x }
 | 4, h, .text x => { h with txRoot := cpV h.txRoot 0 x }
 | 5, h, .text x => { h with receiptRoot := cpV h.receiptRoot 0 x }
 | 6, h, .text x => { h with bloom := cpV h.bloom 0 x }
 | 7, h, .big x => { h with difficulty := x }
 | 8, h, .word x => { h with number := x }
 | 9, h, .word x => { h with limit := x }
 | 10, h, .word x => { h with used := x }
 | 11, h, .word x => { h with time := x }
 | 12, h, .ext x => { h with extra := x }
 | 13, h, .text x => { h with mix := cpV h.mix 0 x }
 | 14, h, .text x => { h with nonce := cpV h.nonce 0 x }
 | 15, h, .big x => { h with baseFee := x }
 | 16, h, .text x => { h with withdrawals := cpV h.withdrawals 0 x }
 | 17, h, .word x => { h with blobUsed := x }
 | 18, h, .word x => { h with blobExcess := x }
 | 19, h, .text x => { h with beacon := cpV h.beacon 0 x }
 | 20, h, .text x => { h with requests := cpV h.requests 0 x }
 | _, h, _ => h
theorem Wrote.put {Ψ : Ctx} {h : Hdr} {A : Option Addr} {c i : Nat} {s : Slk} {f : Fd} {l' : List Value} (hs : slotL[i]? = some s) (hw : Wrote Ψ (h.C A c).C l' s f) (hv : View Ψ A h.extra.length c 1 (u8s h.extra)) :
    ∃ A' c', l' = ((h.put i f).C A' c').C ∧ View Ψ A' (h.put i f).extra.length c' 1 (u8s (h.put i f).extra) := by
 have hi := (List.getElem?_eq_some_iff.1 hs).1
 change i < 21 at hi
 rcases i with _ | _ | _ | _ | _ | _ | _ | _ | _ | _ | _ | _ | _ | _ | _ | _ | _ | _ | _ | _ | _ | i
 ·obtain rfl := Zi hs
  cases f <;> first | exact hw.elim | skip
  exact ⟨A, c, by rw [hw.2]; exact HdrC.C_parent_cpy (h.C A c) (lo := 0) (by rw [Nat.zero_add]; exact hw.1), hv⟩
 ·obtain rfl := Zi hs
  cases f <;> first | exact hw.elim | skip
  exact ⟨A, c, by rw [hw.2]; exact HdrC.C_uncles_cpy (h.C A c) (lo := 0) (by rw [Nat.zero_add]; exact hw.1), hv⟩
 ·obtain rfl := Zi hs
  cases f <;> first | exact hw.elim | skip
  exact ⟨A, c, by rw [hw.2]; exact HdrC.C_coinbase_cpy (h.C A c) (lo := 0) (by rw [Nat.zero_add]; exact hw.1), hv⟩
 ·obtain rfl := Zi hs
  cases f <;> first | exact hw.elim | skip
  exact ⟨A, c, by rw [hw.2]; exact HdrC.C_state_cpy (h.C A c) (lo := 0) (by rw [Nat.zero_add]; exact hw.1), hv⟩
 ·obtain rfl := Zi hs
  cases f <;> first | exact hw.elim | skip
  exact ⟨A, c, by rw [hw.2]; exact HdrC.C_txRoot_cpy (h.C A c) (lo := 0) (by rw [Nat.zero_add]; exact hw.1), hv⟩
 ·obtain rfl := Zi hs
  cases f <;> first | exact hw.elim | skip
  exact ⟨A, c, by rw [hw.2]; exact HdrC.C_receiptRoot_cpy (h.C A c) (lo := 0) (by rw [Nat.zero_add]; exact hw.1), hv⟩
 ·obtain rfl := Zi hs
  cases f <;> first | exact hw.elim | skip
  exact ⟨A, c, by rw [hw.2]; exact HdrC.C_bloom_cpy (h.C A c) (lo := 0) (by rw [Nat.zero_add]; exact hw.1), hv⟩
 ·obtain rfl := Zi hs
  cases f <;> first | exact hw.elim | skip
  exact ⟨A, c, by rw [hw]; exact HdrC.C_difficulty_spl (h.C A c) _, hv⟩
 ·obtain rfl := Zi hs
  cases f <;> first | exact hw.elim | skip
  exact ⟨A, c, by rw [hw]; exact HdrC.C_number_set (h.C A c) _, hv⟩
 ·obtain rfl := Zi hs
  cases f <;> first | exact hw.elim | skip
  exact ⟨A, c, by rw [hw]; exact HdrC.C_limit_set (h.C A c) _, hv⟩
 ·obtain rfl := Zi hs
  cases f <;> first | exact hw.elim | skip
  exact ⟨A, c, by rw [hw]; exact HdrC.C_used_set (h.C A c) _, hv⟩
 ·obtain rfl := Zi hs
  cases f <;> first | exact hw.elim | skip
  exact ⟨A, c, by rw [hw]; exact HdrC.C_time_set (h.C A c) _, hv⟩
 ·obtain rfl := Zi hs
  cases f <;> first | exact hw.elim | skip
  obtain ⟨A2, c2, rfl, hv2⟩ := hw
  exact ⟨A2, c2, HdrC.C_extra_set (h.C A c) _, hv2⟩
 ·obtain rfl := Zi hs
  cases f <;> first | exact hw.elim | skip
  exact ⟨A, c, by rw [hw.2]; exact HdrC.C_mix_cpy (h.C A c) (lo := 0) (by rw [Nat.zero_add]; exact hw.1), hv⟩
 ·obtain rfl := Zi hs
  cases f <;> first | exact hw.elim | skip
  exact ⟨A, c, by rw [hw.2]; exact HdrC.C_nonce_cpy (h.C A c) (lo := 0) (by rw [Nat.zero_add]; exact hw.1), hv⟩
 ·obtain rfl := Zi hs
  cases f <;> first | exact hw.elim | skip
  exact ⟨A, c, by rw [hw]; exact HdrC.C_baseFee_spl (h.C A c) _, hv⟩
 ·obtain rfl := Zi hs
  cases f <;> first | exact hw.elim | skip
  exact ⟨A, c, by rw [hw.2]; exact HdrC.C_withdrawals_cpy (h.C A c) (lo := 0) (by rw [Nat.zero_add]; exact hw.1), hv⟩
 ·obtain rfl := Zi hs
  cases f <;> first | exact hw.elim | skip
  exact ⟨A, c, by rw [hw]; exact HdrC.C_blobUsed_set (h.C A c) _, hv⟩
 ·obtain rfl := Zi hs
  cases f <;> first | exact hw.elim | skip
  exact ⟨A, c, by rw [hw]; exact HdrC.C_blobExcess_set (h.C A c) _, hv⟩
 ·obtain rfl := Zi hs
  cases f <;> first | exact hw.elim | skip
  exact ⟨A, c, by rw [hw.2]; exact HdrC.C_beacon_cpy (h.C A c) (lo := 0) (by rw [Nat.zero_add]; exact hw.1), hv⟩
 ·obtain rfl := Zi hs
  cases f <;> first | exact hw.elim | skip
  exact ⟨A, c, by rw [hw.2]; exact HdrC.C_requests_cpy (h.C A c) (lo := 0) (by rw [Nat.zero_add]; exact hw.1), hv⟩
 ·omega
def Hdr.zero : Hdr := ⟨Vector.replicate 32 0#8, Vector.replicate 32 0#8, Vector.replicate 20 0#8, Vector.replicate 32 0#8, Vector.replicate 32 0#8, Vector.replicate 32 0#8, Vector.replicate 256 0#8, Vector.replicate 4 0#64, 0#64, 0#64, 0#64, 0#64, [], Vector.replicate 32 0#8, Vector.replicate 8 0#8, 0, Vector.replicate 4 0#64, Vector.replicate 32 0#8, 0#64, 0#64, Vector.replicate 32 0#8, Vector.replicate 32 0#8⟩
def waybilllaw19_twin (h : Hdr) : Option Hdr := if h.extra.length + 9 ≤ 140737488355328 then some h else none
theorem HdrRd.zero {Φ : Ctx} : HdrRd Φ (⟨(Vector.replicate 32 0#8), (Vector.replicate 32 0#8), (Vector.replicate 20 0#8), (Vector.replicate 32 0#8), (Vector.replicate 32 0#8), (Vector.replicate 32 0#8), (Vector.replicate 256 0#8), (Vector.replicate 4 0#64), 0#64, 0#64, 0#64, 0#64, .slice none 0 0, (Vector.replicate 32 0#8), (Vector.replicate 8 0#8), (0 : Int), (Vector.replicate 4 0#64), (Vector.replicate 32 0#8), 0#64, 0#64, (Vector.replicate 32 0#8), (Vector.replicate 32 0#8)⟩ : HdrC).C (Hdr.mk (Vector.replicate 32 0#8) (Vector.replicate 32 0#8) (Vector.replicate 20 0#8) (Vector.replicate 32 0#8) (Vector.replicate 32 0#8) (Vector.replicate 32 0#8) (Vector.replicate 256 0#8) (Vector.replicate 4 0#64) (0#64) (0#64) (0#64) (0#64) ([] : List (BitVec 8)) (Vector.replicate 32 0#8) (Vector.replicate 8 0#8) (0 : Int) (Vector.replicate 4 0#64) (Vector.replicate 32 0#8) (0#64) (0#64) (Vector.replicate 32 0#8) (Vector.replicate 32 0#8)) := ⟨none, 0, rfl, View.nil, by decide, by decide⟩
end Go.Fw
namespace Go.Fw
abbrev It.zero : It := It.mk false [] []
end Go.Fw
namespace Go.Fw
def header_Encode (a0 : Hdr) : Option ((List (BitVec 8)) × (Nat)) := ((header_Item a0).bind fun (x10, x11) => (if x11 = 0 then ((rlp_Encode x10).bind fun (x37, x38) => (some (x37, x38))) else (some (([] : List (BitVec 8)), x11))))
def header_Hash (a0 : Hdr) : Option ((Vector (BitVec 8) 32) × (Nat)) := ((header_Encode a0).bind fun (x11, x12) => (if x12 = 0 then ((keccak_Sum ([x11] : List (List (BitVec 8)))).bind fun x32 => (some (x32, 0))) else (some ((Vector.replicate 32 0#8), x12))))
end Go.Fw
namespace Go.Fw
def val4 (v : Vector (BitVec 64) 4) : Nat := v[0].toNat + 2 ^ 64 * v[1].toNat + 2 ^ 128 * v[2].toNat + 2 ^ 192 * v[3].toNat
def lim (n : Nat) : Vector (BitVec 64) 4 := #v[BitVec.ofNat 64 n, BitVec.ofNat 64 (n / 2 ^ 64), BitVec.ofNat 64 (n / 2 ^ 128), BitVec.ofNat 64 (n / 2 ^ 192)]
theorem vec4_ext {a b : Vector (BitVec 64) 4} (h0 : a[0] = b[0]) (h1 : a[1] = b[1]) (h2 : a[2] = b[2]) (h3 : a[3] = b[3]) : a = b := by
 apply Vector.ext
 intro i hi
 match i, hi with
 | 0, _ => exact h0
 | 1, _ => exact h1
 | 2, _ => exact h2
 | 3, _ => exact h3
theorem val4_lt (v : Vector (BitVec 64) 4) : val4 v < 2 ^ 256 := by
 have h0 := v[0].isLt; have h1 := v[1].isLt; have h2 := v[2].isLt; have h3 := v[3].isLt
 unfold val4
 omega
theorem val4_lim (n : Nat) (h : n < 2 ^ 256) : val4 (lim n) = n := by
 simp only [val4, lim, Vector.getElem_mk, List.getElem_toArray, List.getElem_cons_zero, List.getElem_cons_succ, BitVec.toNat_ofNat]
 omega
theorem from_eq (x : BitVec 64) : u256_From x = some (lim x.toNat) := by
 unfold u256_From
 congr 1
 have := x.isLt
 apply vec4_ext <;> (apply BitVec.eq_of_toNat_eq; simp [lim]; try omega)
theorem rfrom_eq (x : BitVec 64) : waybillref01_From x = some (lim x.toNat) := by
 unfold waybillref01_From
 congr 1
 have := x.isLt
 apply vec4_ext <;> (apply BitVec.eq_of_toNat_eq; simp [lim]; try omega)
end Go.Fw
namespace Go.Fw
def be : Nat → Nat → List (BitVec 8)
 | 0, _ => []
 | k + 1, n => BitVec.ofNat 8 (n / 256 ^ k) :: be k n
theorem be_length : ∀ (k n : Nat), (be k n).length = k
 | 0, _ => rfl
 | k + 1, n => by simp [be, be_length k n]
theorem be_drop (n : Nat) : ∀ (d j : Nat), (be (j + d) n).drop d = be j n
 | 0, j => by simp
 | d + 1, j => by
  rw [show j + (d + 1) = (j + d) + 1 by omega]
  show ((BitVec.ofNat 8 (n / 256 ^ (j + d))) :: be (j + d) n).drop (d + 1) = be j n
  rw [List.drop_succ_cons]; exact be_drop n d j
theorem be_get (n : Nat) : ∀ (k i : Nat), i < k → (be k n)[i]? = some (BitVec.ofNat 8 (n / 256 ^ (k - 1 - i)))
 | 0, i, h => by omega
 | k + 1, 0, h => by simp [be]
 | k + 1, i + 1, h => by
  simp only [be, List.getElem?_cons_succ]
  rw [be_get n k i (by omega)]
  rw [show k + 1 - 1 - (i + 1) = k - 1 - i by omega]
def bl (n : Nat) : Nat := if n = 0 then 0 else n.log2 + 1
theorem bl_eq {n k : Nat} (h1 : 2 ^ k ≤ n) (h2 : n < 2 ^ (k + 1)) : bl n = k + 1 := by
 have hp : 0 < 2 ^ k := Nat.two_pow_pos k
 unfold bl
 rw [if_neg (by omega)]
 have := (Nat.log2_lt (n := n) (k := k + 1) (by omega)).2 h2
 have := (Nat.le_log2 (n := n) (k := k) (by omega)).2 h1
 omega
theorem bl_spec {n : Nat} (h : n ≠ 0) : ∃ k, bl n = k + 1 ∧ 2 ^ k ≤ n ∧ n < 2 ^ (k + 1) := ⟨n.log2, by unfold bl; rw [if_neg h], Nat.log2_self_le h, Nat.lt_log2_self⟩
theorem bl_le {n k : Nat} (h : n < 2 ^ k) : bl n ≤ k := by
 unfold bl
 split
 ·omega
 ·have := (Nat.log2_lt (n := n) (k := k) (by omega)).2 h; omega
theorem lenB_bl (x : BitVec 8) : lenB x = bl x.toNat := by
 unfold lenB bl
 by_cases h : x = 0#8
 ·subst h; rfl
 ·rw [if_neg h, if_neg (show ¬ x.toNat = 0 from fun e => h (BitVec.eq_of_toNat_eq e))]
theorem bl_shift {n s : Nat} (h : 2 ^ s ≤ n) : bl (n / 2 ^ s) + s = bl n := by
 have hp : 0 < 2 ^ s := Nat.two_pow_pos s
 have hq : n / 2 ^ s ≠ 0 := by
  have := Nat.div_pos h hp; omega
 obtain ⟨k, h1, h2, h3⟩ := bl_spec hq
 rw [h1, bl_eq (k := k + s)]
 ·omega
 ·rw [Nat.pow_add]; exact (Nat.le_div_iff_mul_le hp).1 h2
 ·rw [show k + s + 1 = (k + 1) + s by omega, Nat.pow_add]; exact (Nat.div_lt_iff_lt_mul hp).1 h3
theorem len64_eq (x : BitVec 64) : math_bits_Len64 x = some (bl x.toNat) := by
 have hx := x.isLt
 have fin : ∀ (w : BitVec 64) (n : Nat), w.toNat < 256 → n + bl w.toNat = bl x.toNat → n ≤ 64 →
     (if (n + (BitVec.ofNat 8 (lenB (w.setWidth 8))).toNat) ≤ 9223372036854775807 then (some (n + (BitVec.ofNat 8 (lenB (w.setWidth 8))).toNat)) else none) = some (bl x.toNat) := by
  intro w n hw hn h64
  have h1 : (w.setWidth 8).toNat = w.toNat := by rw [BitVec.toNat_setWidth]; omega
  have h2 := lenB_le (w.setWidth 8)
  have h3 : (BitVec.ofNat 8 (lenB (w.setWidth 8))).toNat = bl w.toNat := by rw [BitVec.toNat_ofNat, lenB_bl, h1]; rw [lenB_bl, h1] at h2; omega
  rw [h3, if_pos (by rw [lenB_bl, h1] at h2; omega), hn]
 have s32 : (x >>> 32).toNat = x.toNat / 2 ^ 32 := by rw [BitVec.toNat_ushiftRight, Nat.shiftRight_eq_div_pow]
 have step8 : ∀ (w : BitVec 64) (n : Nat), w.toNat < 65536 → n + bl w.toNat = bl x.toNat → n ≤ 48 →
     ((((if 256 ≤ w.toNat then (if (n + 8) ≤ 9223372036854775807 then (some (((w >>> 8), (n + 8)))) else none) else (some ((w, n)))) : Option ((BitVec 64) × (Nat))).bind fun (w23, n24) => (if (n24 + (BitVec.ofNat 8 (lenB (w23.setWidth 8))).toNat) ≤ 9223372036854775807 then (some (n24 + (BitVec.ofNat 8 (lenB (w23.setWidth 8))).toNat)) else none))) = some (bl x.toNat) := by
  intro w n hw hn h48
  have s8 : (w >>> 8).toNat = w.toNat / 2 ^ 8 := by rw [BitVec.toNat_ushiftRight, Nat.shiftRight_eq_div_pow]
  by_cases h : 256 ≤ w.toNat
  ·rw [if_pos h, if_pos (by omega)]
   have := bl_shift (n := w.toNat) (s := 8) (by omega)
   rw [← s8] at this
   exact fin _ _ (by omega) (by omega) (by omega)
  ·rw [if_neg h]
   exact fin _ _ (by omega) hn (by omega)
 have step16 : ∀ (w : BitVec 64) (n : Nat), w.toNat < 4294967296 → n + bl w.toNat = bl x.toNat → n ≤ 32 →
     (((if 65536 ≤ w.toNat then (if (n + 16) ≤ 9223372036854775807 then (some (((w >>> 16), (n + 16)))) else none) else (some ((w, n)))) : Option ((BitVec 64) × (Nat))).bind fun (w13, n14) => (((if 256 ≤ w13.toNat then (if (n14 + 8) ≤ 9223372036854775807 then (some (((w13 >>> 8), (n14 + 8)))) else none) else (some ((w13, n14)))) : Option ((BitVec 64) × (Nat))).bind fun (w23, n24) => (if (n24 + (BitVec.ofNat 8 (lenB (w23.setWidth 8))).toNat) ≤ 9223372036854775807 then (some (n24 + (BitVec.ofNat 8 (lenB (w23.setWidth 8))).toNat)) else none))) = some (bl x.toNat) := by
  intro w n hw hn h32
  have s16 : (w >>> 16).toNat = w.toNat / 2 ^ 16 := by rw [BitVec.toNat_ushiftRight, Nat.shiftRight_eq_div_pow]
  by_cases h : 65536 ≤ w.toNat
  ·rw [if_pos h, if_pos (by omega)]
   have := bl_shift (n := w.toNat) (s := 16) (by omega)
   rw [← s16] at this
   exact step8 _ _ (by omega) (by omega) (by omega)
  ·rw [if_neg h]
   exact step8 _ _ (by omega) hn (by omega)
 unfold math_bits_Len64
 by_cases h : 4294967296 ≤ x.toNat
 ·rw [if_pos h]
  have := bl_shift (n := x.toNat) (s := 32) (by omega)
  rw [← s32] at this
  exact step16 _ _ (by omega) (by omega) (by omega)
 ·rw [if_neg h]
  exact step16 _ _ (by omega) (by omega) (by omega)
theorem vget (v : Vector (BitVec 64) 4) (i : Nat) (h : i < 4) : v[i]? = some v[i] := Vector.getElem?_eq_getElem h
theorem bl_top {a b s : Nat} (hb : b < 2 ^ s) (ha : a ≠ 0) : bl (b + 2 ^ s * a) = s + bl a := by
 obtain ⟨k, h1, h2, h3⟩ := bl_spec ha
 have hp : 0 < 2 ^ s := Nat.two_pow_pos s
 rw [h1, bl_eq (k := s + k)]
 ·omega
 ·rw [Nat.pow_add]; have := Nat.mul_le_mul_left (2 ^ s) h2; omega
 ·rw [show s + k + 1 = s + (k + 1) by omega, Nat.pow_add]
  have h4 : 2 ^ s * (a + 1) ≤ 2 ^ s * 2 ^ (k + 1) := Nat.mul_le_mul_left _ h3
  rw [Nat.mul_add] at h4; omega
theorem ulen_eq (v : Vector (BitVec 64) 4) : u256_Len v = some ((bl (val4 v) : Nat) : Int) := by
 have x0 := v[0].isLt; have x1 := v[1].isLt; have x2 := v[2].isLt; have x3 := v[3].isLt
 have hz : ∀ (x : BitVec 64), x = 0#64 ↔ x.toNat = 0 := fun x => ⟨fun h => by subst h; rfl, fun h => BitVec.eq_of_toNat_eq h⟩
 have b0 := bl_le x0; have b1 := bl_le x1; have b2 := bl_le x2; have b3 := bl_le x3
 unfold u256_Len
 simp only [u256_Len.l1, Int.reduceLE, if_true, Int.reduceSub, Int.reduceToNat, Int.toNat_zero, Int.reduceNeg, and_self, Nat.reduceLT, vget v 0 (by omega), vget v 1 (by omega), vget v 2 (by omega), vget v 3 (by omega), Zb, if_false, Nat.zero_lt_succ, Nat.lt_add_one, Int.reduceMul, len64_eq]
 by_cases h3 : v[3] = 0#64
 ·have e3 := (hz _).1 h3
  by_cases h2 : v[2] = 0#64
  ·have e2 := (hz _).1 h2
   by_cases h1 : v[1] = 0#64
   ·have e1 := (hz _).1 h1
    by_cases h0 : v[0] = 0#64
    ·have e0 := (hz _).1 h0
     simp [h0, h1, h2, h3, val4, bl]
    ·have hv : val4 v = v[0].toNat := by unfold val4; omega
     rw [hv]
     simp only [h3, h2, h1, h0, if_true, if_false]
     rw [if_pos (by omega)]
     simp
   ·have hv : val4 v = v[0].toNat + 2 ^ 64 * v[1].toNat := by unfold val4; omega
    rw [hv, bl_top x0 (fun e => h1 ((hz _).2 e))]
    simp only [h3, h2, h1, if_true, if_false]
    rw [if_pos (by omega)]
    simp
  ·have hv : val4 v = (v[0].toNat + 2 ^ 64 * v[1].toNat) + 2 ^ 128 * v[2].toNat := by unfold val4; omega
   rw [hv, bl_top (by omega) (fun e => h2 ((hz _).2 e))]
   simp only [h3, h2, if_true, if_false]
   rw [if_pos (by omega)]
   simp
 ·have hv : val4 v = (v[0].toNat + 2 ^ 64 * v[1].toNat + 2 ^ 128 * v[2].toNat) + 2 ^ 192 * v[3].toNat := by unfold val4; omega
  rw [hv, bl_top (by omega) (fun e => h3 ((hz _).2 e))]
  simp only [h3, if_true, if_false]
  rw [if_pos (by omega)]
  simp
end Go.Fw
namespace Go.Fw
theorem limb (v : Vector (BitVec 64) 4) (q : Nat) (h : q < 4) : val4 v / 2 ^ (64 * q) % 2 ^ 64 = v[q].toNat := by
 have x0 := v[0].isLt; have x1 := v[1].isLt; have x2 := v[2].isLt; have x3 := v[3].isLt
 unfold val4
 match q, h with
 | 0, _ => simp only [Nat.mul_zero, Nat.pow_zero, Nat.div_one]; omega
 | 1, _ => simp only [Nat.mul_one]; omega
 | 2, _ => simp only [Nat.reduceMul]; omega
 | 3, _ => simp only [Nat.reduceMul]; omega
theorem byte_r (m x r : Nat) (h : r < 8) (e : m % 2 ^ 64 = x) : m / 256 ^ r % 256 = x / 256 ^ r % 256 := by
 subst e
 match r, h with
 | 0, _ => simp only [Nat.pow_zero]; omega
 | 1, _ => simp only [Nat.pow_one]; omega
 | 2, _ => simp only [Nat.reducePow]; omega
 | 3, _ => simp only [Nat.reducePow]; omega
 | 4, _ => simp only [Nat.reducePow]; omega
 | 5, _ => simp only [Nat.reducePow]; omega
 | 6, _ => simp only [Nat.reducePow]; omega
 | 7, _ => simp only [Nat.reducePow]; omega
theorem pow256 (r : Nat) : 256 ^ r = 2 ^ (8 * r) := by rw [show (256 : Nat) = 2 ^ 8 by rfl, ← Nat.pow_mul]
theorem put_byte (v : Vector (BitVec 64) 4) (n : Nat) (h : n / 8 < 4) : ((v[n / 8] >>> (8 * (n % 8))).setWidth 8) = BitVec.ofNat 8 (val4 v / 256 ^ n) := by
 apply BitVec.eq_of_toNat_eq
 rw [BitVec.toNat_setWidth, BitVec.toNat_ushiftRight, Nat.shiftRight_eq_div_pow, BitVec.toNat_ofNat, ← pow256]
 have h1 := byte_r (val4 v / 2 ^ (64 * (n / 8))) _ (n % 8) (by omega) (limb v (n / 8) h)
 rw [Nat.div_div_eq_div_mul] at h1
 have e : 2 ^ (64 * (n / 8)) * 256 ^ (n % 8) = 256 ^ n := by
  rw [pow256, pow256, ← Nat.pow_add]
  congr 1
  omega
 rw [e] at h1
 omega
def fillB (v : Vector (BitVec 64) 4) : Nat → Nat → Vector (BitVec 8) 32 → Vector (BitVec 8) 32
 | _, 0, w => w
 | n, d + 1, w => fillB v (n + 1) d (w.setIfInBounds (31 - n) (BitVec.ofNat 8 (val4 v / 256 ^ n)))
theorem put_loop (v : Vector (BitVec 64) 4) : ∀ (d n k : Nat) (w : Vector (BitVec 8) 32), n + d = 32 → d < k → u256_Put.l1 v k n w = some (fillB v n d w)
 | 0, n, k, w, h, hk => by
  obtain ⟨k, rfl⟩ : ∃ m, k = m + 1 := ⟨k - 1, by omega⟩
  simp only [u256_Put.l1]
  rw [if_neg (by omega)]; rfl
 | d + 1, n, k, w, h, hk => by
  obtain ⟨k, rfl⟩ : ∃ m, k = m + 1 := ⟨k - 1, by omega⟩
  simp only [u256_Put.l1]
  rw [if_pos (by omega), if_pos (by omega), if_pos (by omega), vget v (n / 8) (by omega)]
  simp only [Zb]
  rw [if_pos (by omega), put_byte v n (by omega)]
  exact put_loop v d (n + 1) k _ (by omega) (by omega)
theorem rput_loop (v : Vector (BitVec 64) 4) : ∀ (d n k : Nat) (w : Vector (BitVec 8) 32), n + d = 32 → d < k → waybillref01_Put.l1 v k n w = some (fillB v n d w)
 | 0, n, k, w, h, hk => by
  obtain ⟨k, rfl⟩ : ∃ m, k = m + 1 := ⟨k - 1, by omega⟩
  simp only [waybillref01_Put.l1]
  rw [if_neg (by omega)]; rfl
 | d + 1, n, k, w, h, hk => by
  obtain ⟨k, rfl⟩ : ∃ m, k = m + 1 := ⟨k - 1, by omega⟩
  simp only [waybillref01_Put.l1]
  have e : (BitVec.ofNat 64 (8 * (n % 8))).toNat = 8 * (n % 8) := by rw [BitVec.toNat_ofNat]; omega
  rw [if_pos (by omega), if_pos (by omega), if_pos (by omega), vget v (n / 8) (by omega), e]
  simp only [Zb]
  rw [if_pos (by omega), put_byte v n (by omega)]
  exact rput_loop v d (n + 1) k _ (by omega) (by omega)
theorem fillB_get (v : Vector (BitVec 64) 4) : ∀ (d n : Nat) (w : Vector (BitVec 8) 32), n + d = 32 → ∀ i (hi : i < 32), (fillB v n d w)[i] = if i ≤ 31 - n ∧ 0 < d then BitVec.ofNat 8 (val4 v / 256 ^ (31 - i)) else w[i]
 | 0, n, w, h, i, hi => by simp [fillB]
 | d + 1, n, w, h, i, hi => by
  unfold fillB
  rw [fillB_get v d (n + 1) _ (by omega) i hi]
  rw [Vector.getElem_setIfInBounds]
  by_cases h1 : i = 31 - n
  ·subst h1
   rw [if_neg (by omega), if_pos (by omega), if_pos (by omega), show 31 - (31 - n) = n by omega]
  ·by_cases h2 : i ≤ 31 - (n + 1) ∧ 0 < d
   ·rw [if_pos h2, if_pos (by omega)]
   ·rw [if_neg h2, if_neg (by omega), if_neg (by omega)]
theorem fillB_be (v : Vector (BitVec 64) 4) (w : Vector (BitVec 8) 32) : (fillB v 0 32 w).toList = be 32 (val4 v) := by
 apply List.ext_getElem?
 intro i
 rcases Nat.lt_or_ge i 32 with h | h
 ·rw [be_get _ 32 i h, vat' h, fillB_get v 32 0 w (by omega) i h, if_pos (by omega)]
 ·rw [List.getElem?_eq_none (by simp; omega), List.getElem?_eq_none (by rw [be_length]; omega)]
theorem put_eq (v : Vector (BitVec 64) 4) : ∃ w, u256_Put v = some w ∧ waybillref01_Put v = some w ∧ w.toList = be 32 (val4 v) := by
 refine ⟨fillB v 0 32 (Vector.replicate 32 0#8), ?_, ?_, fillB_be v _⟩
 ·unfold u256_Put; rw [put_loop v 32 0 _ _ (by omega) (by omega)]; rfl
 ·unfold waybillref01_Put; rw [rput_loop v 32 0 _ _ (by omega) (by omega)]; rfl
def nb (n : Nat) : Nat := (bl n + 7) / 8
def bytesN (n : Nat) : List (BitVec 8) := be (nb n) n
theorem nb_le {n : Nat} (h : n < 2 ^ 256) : nb n ≤ 32 := by have := bl_le h; unfold nb; omega
theorem be_drop' {n k j : Nat} (h : j ≤ k) : (be k n).drop (k - j) = be j n := by
 have := be_drop n (k - j) j
 rwa [show j + (k - j) = k by omega] at this
theorem bytes_eq (v : Vector (BitVec 64) 4) : u256_Bytes v = some (bytesN (val4 v)) := by
 obtain ⟨w, h1, _, h3⟩ := put_eq v
 unfold u256_Bytes
 have hb : bl (val4 v) ≤ 256 := bl_le (k := 256) (val4_lt v)
 have h32 := nb_le (val4_lt v)
 have hnb : (bl (val4 v) + 7) / 8 = nb (val4 v) := rfl
 have e : (((bl (val4 v) : Nat) : Int) + 7).toNat / 8 = nb (val4 v) := by omega
 rw [h1, Zb, ulen_eq, Zb, if_pos (by omega), if_pos (by omega), e, if_pos (by omega), show ((32 : Int) - ((nb (val4 v) : Nat) : Int)).toNat = 32 - nb (val4 v) by omega, if_pos (by omega), h3, be_drop' h32]
 rfl
theorem byte_hi {n k : Nat} (h : nb n ≤ k) : BitVec.ofNat 8 (n / 256 ^ k) = 0#8 := by
 have : n < 256 ^ k := by
  by_cases h0 : n = 0
  ·subst h0; exact Nat.pow_pos (by omega)
  obtain ⟨j, h1, h2, h3⟩ := bl_spec h0
  rw [pow256]
  refine Nat.lt_of_lt_of_le h3 (Nat.pow_le_pow_right (by omega) ?_)
  unfold nb at h; omega
 rw [Nat.div_eq_of_lt this]
theorem byte_top {n : Nat} (h : n ≠ 0) : BitVec.ofNat 8 (n / 256 ^ (nb n - 1)) ≠ 0#8 := by
 obtain ⟨j, h1, h2, h3⟩ := bl_spec h
 have hnb : nb n = j / 8 + 1 := by unfold nb; omega
 rw [hnb, Nat.add_sub_cancel, pow256]
 have hp : 0 < 2 ^ (8 * (j / 8)) := Nat.two_pow_pos _
 have ha : 0 < n / 2 ^ (8 * (j / 8)) := Nat.div_pos (Nat.le_trans (Nat.pow_le_pow_right (by omega) (by omega)) h2) hp
 have hb : n / 2 ^ (8 * (j / 8)) < 256 := by
  rw [Nat.div_lt_iff_lt_mul hp]
  refine Nat.lt_of_lt_of_le h3 ?_
  rw [show (256 : Nat) = 2 ^ 8 by rfl, ← Nat.pow_add]
  exact Nat.pow_le_pow_right (by omega) (by omega)
 intro e
 have := congrArg BitVec.toNat e
 rw [BitVec.toNat_ofNat] at this
 simp at this
 omega
theorem rbytes_loop (w : Vector (BitVec 8) 32) (n : Nat) (hw : w.toList = be 32 n) (h256 : nb n ≤ 32) : ∀ (d i k : Nat) (l : List (BitVec 8)), i + d = 32 → d < k → l = ((be 32 n).take i).drop (32 - nb n) → waybillref01_Bytes.l1 w k l i = some (bytesN n)
 | 0, i, k, l, h, hk, hl => by
  obtain ⟨k, rfl⟩ : ∃ m, k = m + 1 := ⟨k - 1, by omega⟩
  simp only [waybillref01_Bytes.l1]
  rw [if_neg (by omega), hl, List.take_of_length_le (by rw [be_length]; omega)]
  rw [be_drop' h256]; rfl
 | d + 1, i, k, l, h, hk, hl => by
  obtain ⟨k, rfl⟩ : ∃ m, k = m + 1 := ⟨k - 1, by omega⟩
  have hlen : l.length = i - (32 - nb n) := by rw [hl, List.length_drop, List.length_take, be_length]; omega
  have hx : w[i]? = some (BitVec.ofNat 8 (n / 256 ^ (31 - i))) := by
   rw [← Vector.getElem?_toList, hw, be_get n 32 i (by omega)]
  have hnext : 32 - nb n ≤ i → l ++ [BitVec.ofNat 8 (n / 256 ^ (31 - i))] = ((be 32 n).take (i + 1)).drop (32 - nb n) := fun hi => by
   rw [List.take_add_one, be_get n 32 i (by omega), Option.toList_some, List.drop_append, hl]
   congr 1
   rw [List.length_take, be_length, show 32 - nb n - min i 32 = 0 by omega]; rfl
  simp only [waybillref01_Bytes.l1]
  rw [if_pos (by omega)]
  by_cases h0 : 0 < l.length
  ·rw [if_pos h0, hx]
   simp only [Zb, List.length_cons, List.length_nil]
   rw [if_pos (by omega)]
   simp only [Zb]
   exact rbytes_loop w n hw h256 d (i + 1) k _ (by omega) (by omega) (hnext (by omega))
  ·rw [if_neg h0, hx]
   simp only [Zb]
   by_cases hi : i < 32 - nb n
   ·rw [if_pos (byte_hi (by omega))]
    simp only [Zb]
    refine rbytes_loop w n hw h256 d (i + 1) k _ (by omega) (by omega) ?_
    rw [List.drop_of_length_le (by rw [List.length_take, be_length]; omega)]
    exact List.length_eq_zero_iff.1 (by omega)
   ·have hi2 : i = 32 - nb n := by omega
    have hn0 : n ≠ 0 := fun e => by subst e; simp [nb, bl] at hi2; omega
    have h31 : 31 - i = nb n - 1 := by omega
    rw [if_neg (by rw [h31]; exact byte_top hn0)]
    simp only [Zb, List.length_cons, List.length_nil]
    rw [if_pos (by omega)]
    simp only [Zb]
    exact rbytes_loop w n hw h256 d (i + 1) k _ (by omega) (by omega) (hnext (by omega))
theorem rbytes_eq (v : Vector (BitVec 64) 4) : waybillref01_Bytes v = some (bytesN (val4 v)) := by
 obtain ⟨w, _, h2, h3⟩ := put_eq v
 unfold waybillref01_Bytes
 rw [h2]
 simp only [Zb]
 rw [rbytes_loop w (val4 v) h3 (nb_le (val4_lt v)) 32 0 40 [] (by omega) (by omega) (by simp)]
 rfl
end Go.Fw
namespace Go.Fw
def small (s : List (BitVec 8)) (h : Nat) : Bool := match s[h]? with
 | some x => decide (x.toNat < 128)
 | none => false
theorem val4_lim' {n : Nat} (h : n < 2 ^ 64) : val4 (lim n) = n := val4_lim n (Nat.lt_trans h (by decide))
end Go.Fw
namespace Go.Fw
theorem drop_cons_at {α : Type} {l : List α} {i : Nat} (h : i < l.length) : l.drop i = l[i] :: l.drop (i + 1) := List.drop_eq_getElem_cons h
end Go.Fw
namespace Go.Fw
def headB (c n : Nat) : List (BitVec 8) := if n ≤ 55 then [BitVec.ofNat 8 (c + n)] else BitVec.ofNat 8 (c + 55 + nb n) :: bytesN n
theorem bytesN_length (n : Nat) : (bytesN n).length = nb n := be_length _ _
theorem nb_8 {n : Nat} (h : n < 2 ^ 64) : nb n ≤ 8 := by have := bl_le (k := 64) h; unfold nb; omega
theorem Z161 {c n : Nat} (h : n < 2 ^ 64) : (headB c n).length ≤ 9 ∧ 0 < (headB c n).length := by
 unfold headB
 split
 ·simp
 ·rw [List.length_cons, bytesN_length]; have := nb_8 h; omega
theorem ofNat_toNat64 {n : Nat} (h : n < 2 ^ 64) : (BitVec.ofNat 64 n).toNat = n := by rw [BitVec.toNat_ofNat, Nat.mod_eq_of_lt h]
theorem head_spec (c n : Nat) (hn : n ≤ 9223372036854775807) : rlp_head (BitVec.ofNat 8 c) n = some (headB c n) := by
 unfold rlp_head headB
 by_cases h : n ≤ 55
 ·rw [if_pos h, if_pos h, BitVec.ofNat_add]
 ·have h64 : n < 2 ^ 64 := by omega
  have h8 := nb_8 h64
  rw [if_neg h, if_neg h, from_eq, Zb, bytes_eq, Zb, val4_lim' (BitVec.isLt _), ofNat_toNat64 h64, bytesN_length, if_pos (by simp only [List.length_cons, List.length_nil]; omega)]
  congr 1
  rw [List.singleton_append, BitVec.ofNat_add, BitVec.ofNat_add]
theorem before_spec (c n : Nat) (hc : c ≤ 255) (hn : n ≤ 9223372036854775807) : waybillref07_before n c = some (headB c n) := by
 unfold waybillref07_before headB
 by_cases h : n ≤ 55
 ·rw [if_pos h, if_pos h, if_pos (by omega)]
 ·have h64 : n < 2 ^ 64 := by omega
  have h8 := nb_8 h64
  rw [if_neg h, if_neg h, rfrom_eq, Zb, rbytes_eq, Zb, val4_lim' (BitVec.isLt _), ofNat_toNat64 h64, bytesN_length, if_pos (by omega), if_pos (by omega), if_pos (by simp only [List.length_cons, List.length_nil]; omega)]
  rfl
end Go.Fw
namespace Go.Fw
open Go Go.RowKit
theorem View.of_rd {W : World} {A : Option Addr} {cap len s : Nat} {cells : List Value} (rd : Rd W A cells) (hn : cells.length = len * s) (hle : len ≤ cap) (hmx : cap ≤ 140737488355328) : View (fun w => Mem W w []) A len cap s cells :=
 ⟨fun w q => rd.old q, rd.1, hn, hle, by omega⟩
theorem View.of8 {W : World} {A : Option Addr} {cap : Nat} {xs : List (BitVec 8)} (rd : Rd W A (u8s xs)) (hle : xs.length ≤ cap) (hmx : cap ≤ 140737488351232) : View (fun w => Mem W w []) A xs.length cap 1 (u8s xs) :=
 View.of_rd rd (by rw [Z100, Nat.mul_one]) hle (by omega)
end Go.Fw
namespace Go.Fw
open Go Go.RowKit Go.Deep Go.WideShapes
section
variable {H : Type} {enc : TypeId × Value → H} {P : Program} {W : World} {t e e2 : TypeId} {v : Value}
theorem reads_bs (ht : P.underlying e = some (.slice e2)) (he : P.underlying e2 = some (.int .u8)) (hs : P.cellsOf e2 = 1) (hb : P.bytesOf e2 = 1) {n : Nat} {u : Value} {r : DataW H × List MemPlace} (h : reads enc P W n e [u] = some r) (hz : Fits P e r.1) :
    ∃ (A : Option Addr) (cap : Nat) (x : List (BitVec 8)), u = .slice A x.length cap ∧ View (fun w => Mem W w []) A x.length cap 1 (u8s x) ∧ x.length ≤ 140737488351232 ∧ ∃ el sp, Els r.1 el sp ∧ el.length = x.length := by
 obtain ⟨A, cap, xs, el, sp, h1, h2, h3, h4, h5, h6, h7, h8, h9, h10⟩ := cells_of_slice (α := BitVec 8) (fun x => [U8 x]) (fun _ _ => True) 1 hs (by omega) (fun n cs r _ hr => by
  obtain ⟨x, rfl⟩ := reads_u8 he hr; exact ⟨x, rfl, trivial⟩) ht h
 rw [flat1] at h6
 have hw := (hz.slice ht h7).1
 rw [hb, h9] at hw
 have hc : cap ≤ 140737488351232 := by simpa [reachBytes] using hw
 exact ⟨A, cap, xs, h1, View.of8 h6 h2 hc, by omega, el, sp, h7, h8⟩
end
end Go.Fw
namespace Go.Fw
mutual
def It.wt : It → Nat
 | .mk _ d its => d.length + its.length + 1 + Its.wt its
def Its.wt : List It → Nat
 | [] => 0
 | x :: xs => It.wt x + Its.wt xs
end
theorem It.wt_eq (x : It) : x.wt = x.data.length + x.items.length + 1 + Its.wt x.items := by cases x; simp [It.wt, It.data, It.items]
theorem It.sz_eq (x : It) : x.sz = 1 + Its.sz x.items := by cases x; simp [It.sz, It.items]
theorem Its.wt_mem : ∀ {l : List It} {x : It}, x ∈ l → It.wt x ≤ Its.wt l
 | y :: l, x, hx => by
  simp only [Its.wt]
  rcases List.mem_cons.1 hx with rfl | hx
  ·omega
  ·have := Its.wt_mem hx; omega
theorem Z142 : ∀ {l : List It} {x : It}, x ∈ l → It.sz x ≤ Its.sz l
 | y :: l, x, hx => by
  simp only [Its.sz]
  rcases List.mem_cons.1 hx with rfl | hx
  ·omega
  ·have := Z142 hx; omega
end Go.Fw
namespace Go.Fw
theorem Its.len_wt : ∀ l : List It, l.length ≤ Its.wt l
 | [] => by simp
 | x :: l => by
  have := Its.len_wt l
  have := It.wt_eq x
  simp only [Its.wt, List.length_cons]; omega
theorem Its.wt_items {l : List It} {x : It} (h : x ∈ l) : Its.wt x.items ≤ Its.wt l := by
 have := Its.wt_mem h
 have := It.wt_eq x
 omega
theorem Its.sz_items {l : List It} {x : It} (h : x ∈ l) : Its.sz x.items < Its.sz l := by
 have := Z142 h
 have := It.sz_eq x
 omega
theorem twin_loop (a : List It) (rc : List It → Option (List It)) (ha : a.length ≤ 2147483647) (hrc : ∀ x ∈ a, rc x.items = some x.items) : ∀ (d i k : Nat) (l : List It), i + d = a.length → d < k → l = a.take i → rlp_twin.l1 a rc k l i = some a
 | 0, i, k, l, h, hk, hl => by
  obtain ⟨k, rfl⟩ : ∃ m, k = m + 1 := ⟨k - 1, by omega⟩
  rw [rlp_twin.l1, if_neg (by omega), hl, List.take_of_length_le (by omega)]
 | d + 1, i, k, l, h, hk, hl => by
  obtain ⟨k, rfl⟩ : ∃ m, k = m + 1 := ⟨k - 1, by omega⟩
  have h1 : i < a.length := by omega
  have h5 : l.length = i := by rw [hl, List.length_take]; omega
  rw [rlp_twin.l1, if_pos h1, List.getElem?_eq_getElem h1, Zb, rlp_clone, Zb, hrc _ (List.getElem_mem h1), Zb, if_pos (by simp only [List.length_cons, List.length_nil]; omega), ← It.eta]
  exact twin_loop a rc ha hrc d (i + 1) k _ (by omega) (by omega) (by rw [List.take_add_one, List.getElem?_eq_getElem h1, hl]; rfl)
theorem twin_r : ∀ (k : Nat) (a : List It), Its.sz a < k → Its.wt a ≤ 2147483647 → rlp_twin.r k a = some a
 | 0, a, h, _ => by omega
 | k + 1, a, h, hw => by
  rw [rlp_twin.r, twin_loop a _ (by have := Its.len_wt a; omega) (fun x hx => twin_r k x.items (by have := Its.sz_items hx; omega) (by have := Its.wt_items hx; omega)) a.length 0 _ _ (by omega) (by omega) (by simp), Zb]
theorem twin_eq {a : List It} (h : Its.wt a ≤ 2147483647) : rlp_twin a = some a := twin_r _ a (by omega) h
theorem Same_data (x : It) : ∀ (d i k : Nat), i + d = x.data.length → d < k → waybillref07_Same.l2 x x k i = some (Lp.go ())
 | 0, i, k, h, hk => by
  obtain ⟨k, rfl⟩ : ∃ m, k = m + 1 := ⟨k - 1, by omega⟩
  rw [waybillref07_Same.l2, if_neg (by omega)]
 | d + 1, i, k, h, hk => by
  obtain ⟨k, rfl⟩ : ∃ m, k = m + 1 := ⟨k - 1, by omega⟩
  have h1 : i < x.data.length := by omega
  rw [waybillref07_Same.l2, if_pos h1, List.getElem?_eq_getElem h1, Zb, Zb, if_pos rfl]
  exact Same_data x d (i + 1) k (by omega) (by omega)
theorem Same_items (x : It) (rc : It → It → Option Bool) (hrc : ∀ y ∈ x.items, rc y y = some true) : ∀ (d i k : Nat), i + d = x.items.length → d < k → waybillref07_Same.l1 x x rc k i = some (Lp.go ())
 | 0, i, k, h, hk => by
  obtain ⟨k, rfl⟩ : ∃ m, k = m + 1 := ⟨k - 1, by omega⟩
  rw [waybillref07_Same.l1, if_neg (by omega)]
 | d + 1, i, k, h, hk => by
  obtain ⟨k, rfl⟩ : ∃ m, k = m + 1 := ⟨k - 1, by omega⟩
  have h1 : i < x.items.length := by omega
  rw [waybillref07_Same.l1, if_pos h1, List.getElem?_eq_getElem h1, Zb, Zb, hrc _ (List.getElem_mem h1), Zb, if_pos rfl]
  exact Same_items x rc hrc d (i + 1) k (by omega) (by omega)
theorem Same_r : ∀ (k : Nat) (x : It), x.sz < k → waybillref07_Same.r k x x = some true
 | 0, x, h => by omega
 | k + 1, x, h => by
  rw [waybillref07_Same.r, if_pos rfl, if_pos rfl, Zb, if_neg (by simp), Same_data x x.data.length 0 _ (by omega) (by omega), Zb]
  try dsimp only
  rw [Same_items x _ (fun y hy => Same_r k y (by have := Z142 hy; have := It.sz_eq x; omega)) x.items.length 0 _ (by omega) (by omega), Zb]
theorem Same_refl (x : It) : waybillref07_Same x x = some true := Same_r _ x (by omega)
theorem number_eq (v : Vector (BitVec 64) 4) : rlp_Number v = some (.mk false (bytesN (val4 v)) []) := by unfold rlp_Number; rw [bytes_eq, Zb]
theorem rnumber_eq (v : Vector (BitVec 64) 4) : waybillref07_Number v = some (.mk false (bytesN (val4 v)) []) := by unfold waybillref07_Number; rw [rbytes_eq, Zb]
theorem small_eq (x : BitVec 64) : rlp_Small x = some (.mk false (bytesN (val4 (lim x.toNat))) []) := by unfold rlp_Small; rw [from_eq, Zb, number_eq, Zb]
theorem rsmall_eq (x : BitVec 64) : waybillref07_Small x = some (.mk false (bytesN (val4 (lim x.toNat))) []) := by unfold waybillref07_Small; rw [rfrom_eq, Zb, rnumber_eq, Zb]
end Go.Fw
namespace Go.Fw
def oneB (d : List (BitVec 8)) : Bool := decide (d.length = 1) && small d 0
mutual
def It.enc : It → List (BitVec 8)
 | .mk l d its => if l = true then headB 192 (Its.enc its).length ++ Its.enc its else if oneB d = true then d else headB 128 d.length ++ d
def Its.enc : List It → List (BitVec 8)
 | [] => []
 | x :: xs => It.enc x ++ Its.enc xs
end
mutual
def It.good : It → Prop
 | .mk l d its => (l = true → d = []) ∧ (l = false → its = []) ∧ Its.good its
def Its.good : List It → Prop
 | [] => True
 | x :: xs => It.good x ∧ Its.good xs
end
mutual
def It.w9 : It → Nat
 | .mk _ d its => 9 + d.length + Its.w9 its
def Its.w9 : List It → Nat
 | [] => 0
 | x :: xs => It.w9 x + Its.w9 xs
end
mutual
def It.dep : It → Nat
 | .mk l _ its => if l = true then Its.dep its + 1 else 0
def Its.dep : List It → Nat
 | [] => 0
 | x :: xs => max (It.dep x) (Its.dep xs)
end
theorem It.enc_eq (x : It) : x.enc = if x.list = true then headB 192 (Its.enc x.items).length ++ Its.enc x.items else if oneB x.data = true then x.data else headB 128 x.data.length ++ x.data := by
 cases x; rw [It.enc]; rfl
theorem It.good_eq (x : It) : x.good ↔ (x.list = true → x.data = []) ∧ (x.list = false → x.items = []) ∧ Its.good x.items := by cases x; rw [It.good]; rfl
theorem It.w9_eq (x : It) : x.w9 = 9 + x.data.length + Its.w9 x.items := by cases x; rw [It.w9]; rfl
theorem It.dep_eq (x : It) : x.dep = if x.list = true then Its.dep x.items + 1 else 0 := by cases x; rw [It.dep]; rfl
theorem Its.good_mem : ∀ {l : List It}, Its.good l → ∀ x ∈ l, It.good x
 | [], _, x, hx => by cases hx
 | y :: l, h, x, hx => by
  simp only [Its.good] at h
  rcases List.mem_cons.1 hx with rfl | hx
  ·exact h.1
  ·exact Its.good_mem h.2 x hx
theorem Its.w9_mem : ∀ {l : List It} {x : It}, x ∈ l → It.w9 x ≤ Its.w9 l
 | y :: l, x, hx => by
  simp only [Its.w9]
  rcases List.mem_cons.1 hx with rfl | hx
  ·omega
  ·have := Its.w9_mem hx; omega
theorem Its.dep_mem : ∀ {l : List It} {x : It}, x ∈ l → It.dep x ≤ Its.dep l
 | y :: l, x, hx => by
  simp only [Its.dep]
  rcases List.mem_cons.1 hx with rfl | hx
  ·omega
  ·have := Its.dep_mem hx; omega
theorem Its.dep_drop {l : List It} {i : Nat} (h : i < l.length) : Its.dep (l.drop i) = max (It.dep l[i]) (Its.dep (l.drop (i + 1))) := by rw [drop_cons_at h, Its.dep]
theorem Its.enc_drop {l : List It} {i : Nat} (h : i < l.length) : Its.enc (l.drop i) = It.enc l[i] ++ Its.enc (l.drop (i + 1)) := by rw [drop_cons_at h, Its.enc]
theorem Its.good_drop {l : List It} {i : Nat} (h : i < l.length) : Its.good (l.drop i) ↔ It.good l[i] ∧ Its.good (l.drop (i + 1)) := by rw [drop_cons_at h, Its.good]
mutual
theorem It.wt_w9 : ∀ x : It, x.wt + 1 ≤ x.w9
 | .mk l d its => by
  have := Its.wt_w9 its
  simp only [It.wt, It.w9]; omega
theorem Its.wt_w9 : ∀ l : List It, Its.wt l + l.length ≤ Its.w9 l
 | [] => by simp [Its.wt, Its.w9]
 | x :: l => by
  have := It.wt_w9 x
  have := Its.wt_w9 l
  simp only [Its.wt, Its.w9, List.length_cons]; omega
end
theorem oneB_len {d : List (BitVec 8)} (h : oneB d = true) : d.length = 1 ∧ small d 0 = true := by
 unfold oneB at h
 simpa using h
mutual
theorem It.enc_le : ∀ x : It, x.w9 ≤ 1099511627776 → x.enc.length ≤ x.w9 ∧ 0 < x.enc.length
 | .mk l d its, h => by
  simp only [It.w9] at h ⊢
  have h1 := Its.enc_le its (by omega)
  have h2 := Z161 (c := 192) (n := (Its.enc its).length) (by omega)
  have h3 := Z161 (c := 128) (n := d.length) (by omega)
  rw [It.enc]
  split
  ·rw [List.length_append]; omega
  split
  ·rename_i h4; have := (oneB_len h4).1; omega
  ·rw [List.length_append]; omega
theorem Its.enc_le : ∀ l : List It, Its.w9 l ≤ 1099511627776 → (Its.enc l).length ≤ Its.w9 l
 | [], h => by simp [Its.enc]
 | x :: l, h => by
  simp only [Its.w9] at h ⊢
  have := It.enc_le x (by omega)
  have := Its.enc_le l (by omega)
  rw [Its.enc, List.length_append]; omega
end
theorem odd_good {x : It} (h : x.good) : rlp_odd x = some false := by
 have h := (It.good_eq x).1 h
 unfold rlp_odd
 by_cases hl : x.list = true
 ·rw [if_pos hl, h.1 hl, if_neg (by simp), if_pos hl]; rfl
 ·rw [if_neg hl, if_neg hl, h.2.1 (by simpa using hl)]; rfl
theorem sound_loop (x : It) (rc : It → Option (Nat × Bool)) (hrc : ∀ y ∈ x.items, rc y = some (y.dep, true)) : ∀ (d i k m : Nat), i + d = x.items.length → d < k → rlp_sound.l1 x rc k m i = some (Lp.go (max m (Its.dep (x.items.drop i))))
 | 0, i, k, m, h, hk => by
  obtain ⟨k, rfl⟩ : ∃ m, k = m + 1 := ⟨k - 1, by omega⟩
  rw [rlp_sound.l1, if_neg (by omega), List.drop_of_length_le (by omega), Its.dep, Nat.max_zero]
 | d + 1, i, k, m, h, hk => by
  obtain ⟨k, rfl⟩ : ∃ m, k = m + 1 := ⟨k - 1, by omega⟩
  have h1 : i < x.items.length := by omega
  rw [rlp_sound.l1, if_pos h1, get0' h1, Zb, hrc _ (List.getElem_mem h1), Zb]
  try dsimp only
  rw [if_pos rfl, sound_loop x rc hrc d (i + 1) k _ (by omega) (by omega), Its.dep_drop h1, Nat.max_assoc]
where
 get0' {α : Type} {s : List α} {i : Nat} (h : i < s.length) : s[i]? = some s[i] := List.getElem?_eq_getElem h
theorem sound_r : ∀ (k : Nat) (x : It), x.sz < k → x.good → x.dep ≤ 4611686018427387904 → rlp_sound.r k x = some (x.dep, true)
 | 0, x, h, _, _ => by omega
 | k + 1, x, h, hg, hd => by
  have hg' := (It.good_eq x).1 hg
  have hs := It.sz_eq x
  rw [rlp_sound.r, odd_good hg, Zb, if_neg (by simp)]
  rw [It.dep_eq] at hd ⊢
  by_cases hl : x.list = true
  ·rw [if_pos hl] at hd
   rw [if_pos hl, if_pos hl, sound_loop x _ (fun y hy => sound_r k y (by have := Z142 hy; omega) (Its.good_mem hg'.2.2 y hy) (by have := Its.dep_mem hy; omega)) x.items.length 0 _ 0 (by omega) (by omega), Zb]
   try dsimp only
   rw [List.drop_zero, Nat.zero_max, if_pos (by omega)]
  ·rw [if_neg hl, if_neg hl]
theorem sound_eq {x : It} (hg : x.good) (hd : x.dep ≤ 4611686018427387904) : rlp_sound x = some (x.dep, true) := sound_r _ x (by omega) hg hd
theorem size_loop (x : It) (rc : It → Option Nat) (hw : (Its.enc x.items).length ≤ 1099511627776) (hrc : ∀ y ∈ x.items, rc y = some y.enc.length) : ∀ (d i k m : Nat), i + d = x.items.length → d < k → m + (Its.enc (x.items.drop i)).length = (Its.enc x.items).length → rlp_size.l1 x rc k m i = some (Its.enc x.items).length
 | 0, i, k, m, h, hk, hm => by
  obtain ⟨k, rfl⟩ : ∃ m, k = m + 1 := ⟨k - 1, by omega⟩
  rw [List.drop_of_length_le (by omega), Its.enc, List.length_nil] at hm
  rw [rlp_size.l1, if_neg (by omega)]
  congr 1
 | d + 1, i, k, m, h, hk, hm => by
  obtain ⟨k, rfl⟩ : ∃ m, k = m + 1 := ⟨k - 1, by omega⟩
  have h1 : i < x.items.length := by omega
  rw [Its.enc_drop h1, List.length_append] at hm
  rw [rlp_size.l1, if_pos h1, List.getElem?_eq_getElem h1, Zb, hrc _ (List.getElem_mem h1), Zb, if_pos (by omega)]
  exact size_loop x rc hw hrc d (i + 1) k _ (by omega) (by omega) (by omega)
theorem oneB_get {d : List (BitVec 8)} (h : d.length = 1) : ∃ x, d[0]? = some x ∧ oneB d = decide (x.toNat < 128) := by
 refine ⟨d[0], List.getElem?_eq_getElem (by omega), ?_⟩
 unfold oneB small
 rw [List.getElem?_eq_getElem (by omega)]
 simp [h]
theorem oneB_no {d : List (BitVec 8)} (h : d.length ≠ 1) : oneB d = false := by unfold oneB; simp [h]
theorem size_r : ∀ (k : Nat) (x : It), x.sz < k → x.w9 ≤ 1099511627776 → rlp_size.r k x = some x.enc.length
 | 0, x, h, _ => by omega
 | k + 1, x, h, hw => by
  have hs := It.sz_eq x
  have hw' := It.w9_eq x
  have hle := Its.enc_le x.items (by omega)
  rw [rlp_size.r, It.enc_eq]
  by_cases hl : x.list = true
  ·have hh := Z161 (c := 192) (n := (Its.enc x.items).length) (by omega)
   rw [if_pos hl, if_pos hl, size_loop x _ (by omega) (fun y hy => size_r k y (by have := Z142 hy; omega) (by have := Its.w9_mem hy; omega)) x.items.length 0 _ 0 (by omega) (by omega) (by rw [List.drop_zero]; omega), Zb, show (192#8 : BitVec 8) = BitVec.ofNat 8 192 by rfl, head_spec 192 _ (by omega), Zb, if_pos (by omega), List.length_append]
  ·rw [if_neg hl, if_neg hl]
   by_cases h1 : x.data.length = 1
   ·obtain ⟨c, e1, e2⟩ := oneB_get h1
    rw [if_pos h1, e1, Zb, Zb, ← e2]
    by_cases ho : oneB x.data = true
    ·rw [if_pos ho, if_pos ho, h1]
    ·rw [if_neg ho, if_neg ho, show (128#8 : BitVec 8) = BitVec.ofNat 8 128 by rfl, head_spec 128 _ (by omega), Zb, List.length_append]
   ·rw [if_neg h1, Zb, if_neg (by simp), oneB_no h1, if_neg (by simp), show (128#8 : BitVec 8) = BitVec.ofNat 8 128 by rfl, head_spec 128 _ (by omega), Zb, List.length_append]
theorem size_eq {x : It} (hw : x.w9 ≤ 1099511627776) : rlp_size x = some x.enc.length := size_r _ x (by omega) hw
theorem lay_loop (x : It) (rc : List (BitVec 8) → It → Option (List (BitVec 8))) (hrc : ∀ a, a.length ≤ 1099511627776 → ∀ y ∈ x.items, rc a y = some (a ++ y.enc)) (hw : (Its.enc x.items).length ≤ 1099511627776) : ∀ (d i k : Nat) (l : List (BitVec 8)), i + d = x.items.length → d < k → l ++ Its.enc (x.items.drop i) = Its.enc x.items → rlp_lay.l1 x rc k l i = some (Its.enc x.items)
 | 0, i, k, l, h, hk, hl => by
  obtain ⟨k, rfl⟩ : ∃ m, k = m + 1 := ⟨k - 1, by omega⟩
  rw [List.drop_of_length_le (by omega), Its.enc, List.append_nil] at hl
  rw [rlp_lay.l1, if_neg (by omega), hl]
 | d + 1, i, k, l, h, hk, hl => by
  obtain ⟨k, rfl⟩ : ∃ m, k = m + 1 := ⟨k - 1, by omega⟩
  have h1 : i < x.items.length := by omega
  have h2 := congrArg List.length hl
  rw [List.length_append] at h2
  rw [Its.enc_drop h1] at hl
  rw [rlp_lay.l1, if_pos h1, List.getElem?_eq_getElem h1, Zb, hrc l (by omega) _ (List.getElem_mem h1), Zb]
  exact lay_loop x rc hrc hw d (i + 1) k _ (by omega) (by omega) (by rw [List.append_assoc]; exact hl)
theorem lay_r : ∀ (k : Nat) (a : List (BitVec 8)) (x : It), x.sz < k → x.w9 ≤ 1099511627776 → a.length ≤ 1099511627776 → rlp_lay.r k a x = some (a ++ x.enc)
 | 0, a, x, h, _, _ => by omega
 | k + 1, a, x, h, hw, ha => by
  have hs := It.sz_eq x
  have hw' := It.w9_eq x
  have hle := Its.enc_le x.items (by omega)
  rw [rlp_lay.r, It.enc_eq]
  have hh2 := Z161 (c := 128) (n := x.data.length) (by omega)
  by_cases hl : x.list = true
  ·have hh := Z161 (c := 192) (n := (Its.enc x.items).length) (by omega)
   rw [if_pos hl, if_pos hl, lay_loop x _ (fun a ha y hy => lay_r k a y (by have := Z142 hy; omega) (by have := Its.w9_mem hy; omega) ha) (by omega) x.items.length 0 _ [] (by omega) (by omega) (by rw [List.drop_zero]; rfl), Zb, show (192#8 : BitVec 8) = BitVec.ofNat 8 192 by rfl, head_spec 192 _ (by omega), Zb, if_pos (by omega), if_pos (by rw [List.length_append]; omega), List.append_assoc]
  ·rw [if_neg hl, if_neg hl]
   by_cases h1 : x.data.length = 1
   ·obtain ⟨c, e1, e2⟩ := oneB_get h1
    rw [if_pos h1, e1, Zb, Zb]
    by_cases ho : oneB x.data = true
    ·have hc : ¬ 128 ≤ c.toNat := by rw [ho] at e2; have := of_decide_eq_true e2.symm; omega
     rw [if_neg (by simpa using hc), Zb, if_pos (by omega), if_pos ho]
    ·have hc : 128 ≤ c.toNat := by
       by_cases hc : c.toNat < 128
       ·exact absurd (by rw [e2]; simpa using hc) ho
       ·omega
     rw [if_pos (by simpa using hc), if_neg ho, show (128#8 : BitVec 8) = BitVec.ofNat 8 128 by rfl, head_spec 128 _ (by omega), Zb, if_pos (by omega), Zb, if_pos (by rw [List.length_append]; omega), List.append_assoc]
   ·rw [if_neg h1, Zb, if_pos rfl, oneB_no h1, if_neg (by simp), show (128#8 : BitVec 8) = BitVec.ofNat 8 128 by rfl, head_spec 128 _ (by omega), Zb, if_pos (by omega), Zb, if_pos (by rw [List.length_append]; omega), List.append_assoc]
theorem lay_eq {x : It} (hw : x.w9 ≤ 1099511627776) : rlp_lay [] x = some x.enc := by
 have := lay_r (x.sz + 1) [] x (by omega) hw (by simp)
 simpa [rlp_lay] using this
theorem encode_eq {x : It} (hg : x.good) (hd : x.dep ≤ 1024) (hw : x.w9 ≤ 16777216) : rlp_Encode x = some (x.enc, 0) := by
 have h1 := It.enc_le x (by omega)
 unfold rlp_Encode rlp_Check
 rw [sound_eq hg (by omega), Zb]
 try dsimp only
 rw [if_pos rfl, if_neg (by omega), size_eq (by omega), Zb, if_neg (by omega), Zb, if_pos rfl, lay_eq (by omega), Zb]
end Go.Fw
namespace Go.Fw
mutual
theorem It.w9_wt : ∀ x : It, x.w9 ≤ 9 * x.wt
 | .mk l d its => by
  have := Its.w9_wt its
  simp only [It.wt, It.w9]; omega
theorem Its.w9_wt : ∀ l : List It, Its.w9 l ≤ 9 * Its.wt l
 | [] => by simp [Its.wt, Its.w9]
 | x :: l => by
  have := It.w9_wt x
  have := Its.w9_wt l
  simp only [Its.wt, Its.w9]; omega
end
mutual
theorem It.dep_wt : ∀ x : It, x.dep ≤ x.wt
 | .mk l d its => by
  have := Its.dep_wt its
  simp only [It.wt, It.dep]; split <;> omega
theorem Its.dep_wt : ∀ l : List It, Its.dep l ≤ Its.wt l
 | [] => by simp [Its.wt, Its.dep]
 | x :: l => by
  have := It.dep_wt x
  have := Its.dep_wt l
  simp only [Its.wt, Its.dep]; omega
end
theorem rodd_good {x : It} (h : x.good) : waybillref07_odd x = some false := by
 have h := (It.good_eq x).1 h
 unfold waybillref07_odd
 by_cases hl : x.list = true
 ·rw [if_pos hl, h.1 hl]; rfl
 ·rw [if_neg hl, h.2.1 (by simpa using hl)]; rfl
theorem odd_bad {x : It} (h : ¬ x.good) : (rlp_odd x = some true ∧ waybillref07_odd x = some true) ∨ (rlp_odd x = some false ∧ waybillref07_odd x = some false ∧ x.list = true ∧ ¬ Its.good x.items) := by
 rw [It.good_eq] at h
 unfold rlp_odd waybillref07_odd
 by_cases hl : x.list = true
 ·simp only [hl, if_true]
  by_cases hd : 0 < x.data.length
  ·left; simp [hd]
  ·right
   have : x.data = [] := List.length_eq_zero_iff.1 (by omega)
   simp [this]
   intro hg
   exact h ⟨fun _ => this, fun e => (by rw [hl] at e; cases e), hg⟩
 ·simp only [hl]
  by_cases hi : 0 < x.items.length
  ·left; simp [hi]
  ·exfalso
   have : x.items = [] := List.length_eq_zero_iff.1 (by omega)
   exact h ⟨fun e => absurd e hl, fun _ => this, by rw [this]; simp [Its.good]⟩
theorem sound_badl (x : It) (rc : It → Option (Nat × Bool)) (hrc : ∀ y ∈ x.items, (y.good → rc y = some (y.dep, true)) ∧ (¬ y.good → rc y = some (0, false))) : ∀ (d i k m : Nat), i + d = x.items.length → d < k → ¬ Its.good (x.items.drop i) → rlp_sound.l1 x rc k m i = some (Lp.ret (some (0, false)))
 | 0, i, k, m, h, hk, hg => by
  rw [List.drop_of_length_le (by omega)] at hg
  exact absurd (by simp [Its.good]) hg
 | d + 1, i, k, m, h, hk, hg => by
  obtain ⟨k, rfl⟩ : ∃ m, k = m + 1 := ⟨k - 1, by omega⟩
  have h1 : i < x.items.length := by omega
  have h2 := hrc _ (List.getElem_mem h1)
  rw [rlp_sound.l1, if_pos h1, List.getElem?_eq_getElem h1, Zb]
  rw [Its.good_drop h1] at hg
  by_cases hb : (x.items[i]).good
  ·rw [h2.1 hb, Zb]
   try dsimp only
   rw [if_pos rfl]
   exact sound_badl x rc hrc d (i + 1) k _ (by omega) (by omega) (fun e => hg ⟨hb, e⟩)
  ·rw [h2.2 hb, Zb]
   try dsimp only
   rw [if_neg (by simp)]
theorem sound_bad : ∀ (k : Nat) (x : It), x.sz < k → ¬ x.good → x.wt ≤ 2147483647 → rlp_sound.r k x = some (0, false)
 | 0, x, h, _, _ => by omega
 | k + 1, x, h, hg, hw => by
  have hs := It.sz_eq x
  rw [rlp_sound.r]
  rcases odd_bad hg with ⟨h1, _⟩ | ⟨h1, _, h3, h4⟩
  ·rw [h1, Zb, if_pos rfl]
  ·have hwi : ∀ y ∈ x.items, y.wt ≤ 2147483647 := fun y hy => by have := Its.wt_mem hy; have := It.wt_eq x; omega
   rw [h1, Zb, if_neg (by simp), if_pos h3, sound_badl x _ (fun y hy => ⟨fun hy2 => sound_r k y (by have := Z142 hy; omega) hy2 (by have := hwi y hy; have := It.dep_wt y; omega), fun hy2 => sound_bad k y (by have := Z142 hy; omega) hy2 (hwi y hy)⟩) x.items.length 0 _ 0 (by omega) (by omega) (by rwa [List.drop_zero]), Zb]
theorem oddly_loop (x : It) (rc : It → Option Bool) (hrc : ∀ y ∈ x.items, rc y = some false) : ∀ (d i k : Nat), i + d = x.items.length → d < k → waybillref07_oddly.l1 x rc k i = some (Lp.go ())
 | 0, i, k, h, hk => by
  obtain ⟨k, rfl⟩ : ∃ m, k = m + 1 := ⟨k - 1, by omega⟩
  rw [waybillref07_oddly.l1, if_neg (by omega)]
 | d + 1, i, k, h, hk => by
  obtain ⟨k, rfl⟩ : ∃ m, k = m + 1 := ⟨k - 1, by omega⟩
  have h1 : i < x.items.length := by omega
  rw [waybillref07_oddly.l1, if_pos h1, List.getElem?_eq_getElem h1, Zb, hrc _ (List.getElem_mem h1), Zb, if_neg (by simp)]
  exact oddly_loop x rc hrc d (i + 1) k (by omega) (by omega)
theorem oddly_good : ∀ (k : Nat) (x : It), x.sz < k → x.good → waybillref07_oddly.r k x = some false
 | 0, x, h, _ => by omega
 | k + 1, x, h, hg => by
  have hs := It.sz_eq x
  have hg' := (It.good_eq x).1 hg
  rw [waybillref07_oddly.r, rodd_good hg, Zb, if_neg (by simp), oddly_loop x _ (fun y hy => oddly_good k y (by have := Z142 hy; omega) (Its.good_mem hg'.2.2 y hy)) x.items.length 0 _ (by omega) (by omega), Zb]
theorem oddly_badl (x : It) (rc : It → Option Bool) (hrc : ∀ y ∈ x.items, (y.good → rc y = some false) ∧ (¬ y.good → rc y = some true)) : ∀ (d i k : Nat), i + d = x.items.length → d < k → ¬ Its.good (x.items.drop i) → waybillref07_oddly.l1 x rc k i = some (Lp.ret (some true))
 | 0, i, k, h, hk, hg => by
  rw [List.drop_of_length_le (by omega)] at hg
  exact absurd (by simp [Its.good]) hg
 | d + 1, i, k, h, hk, hg => by
  obtain ⟨k, rfl⟩ : ∃ m, k = m + 1 := ⟨k - 1, by omega⟩
  have h1 : i < x.items.length := by omega
  have h2 := hrc _ (List.getElem_mem h1)
  rw [waybillref07_oddly.l1, if_pos h1, List.getElem?_eq_getElem h1, Zb]
  rw [Its.good_drop h1] at hg
  by_cases hb : (x.items[i]).good
  ·rw [h2.1 hb, Zb, if_neg (by simp)]
   exact oddly_badl x rc hrc d (i + 1) k (by omega) (by omega) (fun e => hg ⟨hb, e⟩)
  ·rw [h2.2 hb, Zb, if_pos rfl]
theorem oddly_bad : ∀ (k : Nat) (x : It), x.sz < k → ¬ x.good → waybillref07_oddly.r k x = some true
 | 0, x, h, _ => by omega
 | k + 1, x, h, hg => by
  have hs := It.sz_eq x
  rw [waybillref07_oddly.r]
  rcases odd_bad hg with ⟨_, h1⟩ | ⟨_, h1, h3, h4⟩
  ·rw [h1, Zb, if_pos rfl]
  ·rw [h1, Zb, if_neg (by simp), oddly_badl x _ (fun y hy => ⟨fun hy2 => oddly_good k y (by have := Z142 hy; omega) hy2, fun hy2 => oddly_bad k y (by have := Z142 hy; omega) hy2⟩) x.items.length 0 _ (by omega) (by omega) (by rwa [List.drop_zero]), Zb]
theorem depth_loop (x : It) (rc : It → Option Nat) (hrc : ∀ y ∈ x.items, rc y = some y.dep) : ∀ (d i k m : Nat), i + d = x.items.length → d < k → waybillref07_depth.l1 x rc k m i = some (max m (Its.dep (x.items.drop i)))
 | 0, i, k, m, h, hk => by
  obtain ⟨k, rfl⟩ : ∃ m, k = m + 1 := ⟨k - 1, by omega⟩
  rw [waybillref07_depth.l1, if_neg (by omega), List.drop_of_length_le (by omega), Its.dep, Nat.max_zero]
 | d + 1, i, k, m, h, hk => by
  obtain ⟨k, rfl⟩ : ∃ m, k = m + 1 := ⟨k - 1, by omega⟩
  have h1 : i < x.items.length := by omega
  rw [waybillref07_depth.l1, if_pos h1, List.getElem?_eq_getElem h1, Zb, hrc _ (List.getElem_mem h1), Zb, depth_loop x rc hrc d (i + 1) k _ (by omega) (by omega), Its.dep_drop h1, Nat.max_assoc]
theorem depth_r : ∀ (k : Nat) (x : It), x.sz < k → x.dep ≤ 4611686018427387904 → waybillref07_depth.r k x = some x.dep
 | 0, x, h, _ => by omega
 | k + 1, x, h, hd => by
  have hs := It.sz_eq x
  rw [It.dep_eq] at hd ⊢
  rw [waybillref07_depth.r]
  by_cases hl : x.list = true
  ·rw [if_pos hl] at hd
   rw [if_pos hl, if_pos hl, depth_loop x _ (fun y hy => depth_r k y (by have := Z142 hy; omega) (by have := Its.dep_mem hy; omega)) x.items.length 0 _ 0 (by omega) (by omega), Zb, List.drop_zero, Nat.zero_max, if_pos (by omega), Nat.add_comm]
  ·rw [if_neg hl, if_neg hl]
theorem headB_len (n : Nat) : (headB 128 n).length = (headB 192 n).length := by unfold headB; split <;> simp
theorem rsize_loop (x : It) (rc : It → Option Nat) (hw : (Its.enc x.items).length ≤ 1099511627776) (hrc : ∀ y ∈ x.items, rc y = some y.enc.length) (b : Nat) (hb : b ≤ 1099511627776) : ∀ (d i k m : Nat), i + d = x.items.length → d < k → m + (Its.enc (x.items.drop i)).length = b + (Its.enc x.items).length → waybillref07_size.l1 x rc k m i = some (b + (Its.enc x.items).length)
 | 0, i, k, m, h, hk, hm => by
  obtain ⟨k, rfl⟩ : ∃ m, k = m + 1 := ⟨k - 1, by omega⟩
  rw [List.drop_of_length_le (by omega), Its.enc, List.length_nil] at hm
  rw [waybillref07_size.l1, if_neg (by omega)]
  congr 1
 | d + 1, i, k, m, h, hk, hm => by
  obtain ⟨k, rfl⟩ : ∃ m, k = m + 1 := ⟨k - 1, by omega⟩
  have h1 : i < x.items.length := by omega
  rw [Its.enc_drop h1, List.length_append] at hm
  rw [waybillref07_size.l1, if_pos h1, List.getElem?_eq_getElem h1, Zb, hrc _ (List.getElem_mem h1), Zb, if_pos (by omega)]
  exact rsize_loop x rc hw hrc b hb d (i + 1) k _ (by omega) (by omega) (by omega)
theorem rsize_r : ∀ (k : Nat) (x : It), x.sz < k → x.good → x.w9 ≤ 1099511627776 → waybillref07_size.r k x = some x.enc.length
 | 0, x, h, _, _ => by omega
 | k + 1, x, h, hg, hw => by
  have hs := It.sz_eq x
  have hw' := It.w9_eq x
  have hg' := (It.good_eq x).1 hg
  have hle := Its.enc_le x.items (by omega)
  have hloop := rsize_loop x (waybillref07_size.r k) (by omega) (fun y hy => rsize_r k y (by have := Z142 hy; omega) (Its.good_mem hg'.2.2 y hy) (by have := Its.w9_mem hy; omega)) x.data.length (by omega) x.items.length 0 (x.items.length - 0 + 2) x.data.length (by omega) (by omega) (by rw [List.drop_zero])
  have hh := Z161 (c := 128) (n := x.data.length + (Its.enc x.items).length) (by omega)
  rw [waybillref07_size.r, It.enc_eq]
  by_cases hl : x.list = true
  ·rw [if_pos hl, if_pos hl, Zb, if_neg (by simp), hloop, Zb, before_spec 128 _ (by omega) (by omega), Zb, if_pos (by omega), headB_len, hg'.1 hl, List.length_nil, Nat.zero_add, List.length_append]
  ·have hi : x.items = [] := hg'.2.1 (by simpa using hl)
   have he : (Its.enc x.items).length = 0 := by rw [hi, Its.enc]; rfl
   simp only [he, Nat.add_zero] at hloop hh
   rw [if_neg hl, if_neg hl]
   by_cases h1 : x.data.length = 1
   ·obtain ⟨c, e1, e2⟩ := oneB_get h1
    rw [if_pos h1, e1, Zb, Zb, ← e2]
    by_cases ho : oneB x.data = true
    ·rw [if_pos ho, if_pos ho, h1]
    ·rw [if_neg ho, if_neg ho, hloop, Zb, before_spec 128 _ (by omega) (by omega), Zb, if_pos (by omega), List.length_append]
   ·rw [if_neg h1, Zb, if_neg (by simp), oneB_no h1, if_neg (by simp), hloop, Zb, before_spec 128 _ (by omega) (by omega), Zb, if_pos (by omega), List.length_append]
theorem rsize_eq {x : It} (hg : x.good) (hw : x.w9 ≤ 1099511627776) : waybillref07_size x = some x.enc.length := rsize_r _ x (by omega) hg hw
theorem put_loop1 (x : It) (rc : List (BitVec 8) → It → Option (List (BitVec 8))) (b : List (BitVec 8)) (hb : b.length + (Its.enc x.items).length ≤ 4398046511104) (hrc : ∀ a, a.length ≤ 4398046511104 → ∀ y ∈ x.items, a.length + y.enc.length ≤ 4398046511104 → rc a y = some (a ++ y.enc)) : ∀ (d i k : Nat) (l : List (BitVec 8)), i + d = x.items.length → d < k → l ++ Its.enc (x.items.drop i) = b ++ Its.enc x.items → waybillref07_put.l1 x rc k l i = some (b ++ Its.enc x.items)
 | 0, i, k, l, h, hk, hl => by
  obtain ⟨k, rfl⟩ : ∃ m, k = m + 1 := ⟨k - 1, by omega⟩
  rw [List.drop_of_length_le (by omega), Its.enc, List.append_nil] at hl
  rw [waybillref07_put.l1, if_neg (by omega), hl]
 | d + 1, i, k, l, h, hk, hl => by
  obtain ⟨k, rfl⟩ : ∃ m, k = m + 1 := ⟨k - 1, by omega⟩
  have h1 : i < x.items.length := by omega
  have h2 := congrArg List.length hl
  rw [List.length_append, List.length_append] at h2
  rw [Its.enc_drop h1] at hl h2
  rw [List.length_append] at h2
  rw [waybillref07_put.l1, if_pos h1, List.getElem?_eq_getElem h1, Zb, hrc l (by omega) _ (List.getElem_mem h1) (by omega), Zb]
  exact put_loop1 x rc b hb hrc d (i + 1) k _ (by omega) (by omega) (by rw [List.append_assoc]; exact hl)
theorem put_loop2 (x : It) (hg : Its.good x.items) (hw9 : Its.w9 x.items ≤ 1099511627776) : ∀ (d i k m : Nat), i + d = x.items.length → d < k → m + (Its.enc (x.items.drop i)).length = (Its.enc x.items).length → waybillref07_put.l2 x k m i = some (Its.enc x.items).length
 | 0, i, k, m, h, hk, hm => by
  obtain ⟨k, rfl⟩ : ∃ m, k = m + 1 := ⟨k - 1, by omega⟩
  rw [List.drop_of_length_le (by omega), Its.enc, List.length_nil] at hm
  rw [waybillref07_put.l2, if_neg (by omega)]
  congr 1
 | d + 1, i, k, m, h, hk, hm => by
  obtain ⟨k, rfl⟩ : ∃ m, k = m + 1 := ⟨k - 1, by omega⟩
  have h1 : i < x.items.length := by omega
  have hle := Its.enc_le x.items hw9
  have hm1 := List.getElem_mem h1
  rw [Its.enc_drop h1, List.length_append] at hm
  rw [waybillref07_put.l2, if_pos h1, List.getElem?_eq_getElem h1, Zb, rsize_eq (Its.good_mem hg _ hm1) (by have := Its.w9_mem hm1; omega), Zb, if_pos (by omega)]
  exact put_loop2 x hg hw9 d (i + 1) k _ (by omega) (by omega) (by omega)
theorem put_r : ∀ (k : Nat) (a : List (BitVec 8)) (x : It), x.sz < k → x.good → x.w9 ≤ 1099511627776 → a.length + x.enc.length ≤ 4398046511104 → waybillref07_put.r k a x = some (a ++ x.enc)
 | 0, a, x, h, _, _, _ => by omega
 | k + 1, a, x, h, hg, hw, ha => by
  have hs := It.sz_eq x
  have hw' := It.w9_eq x
  have hg' := (It.good_eq x).1 hg
  have hle := Its.enc_le x.items (by omega)
  rw [It.enc_eq] at ha ⊢
  rw [waybillref07_put.r]
  have hh2 := Z161 (c := 128) (n := x.data.length) (by omega)
  by_cases hl : x.list = true
  ·have hh := Z161 (c := 192) (n := (Its.enc x.items).length) (by omega)
   rw [if_pos hl, List.length_append] at ha
   rw [if_pos hl, if_pos hl, put_loop2 x hg'.2.2 (by omega) x.items.length 0 _ 0 (by omega) (by omega) (by rw [List.drop_zero]; omega), Zb, before_spec 192 _ (by omega) (by omega), Zb, if_pos (by omega),
    put_loop1 x _ (a ++ headB 192 (Its.enc x.items).length) (by rw [List.length_append]; omega) (fun a ha y hy hay => put_r k a y (by have := Z142 hy; omega) (Its.good_mem hg'.2.2 y hy) (by have := Its.w9_mem hy; omega) hay) x.items.length 0 _ _ (by omega) (by omega) (by rw [List.drop_zero]), Zb, List.append_assoc]
  ·rw [if_neg hl] at ha
   rw [if_neg hl, if_neg hl]
   by_cases h1 : x.data.length = 1
   ·obtain ⟨c, e1, e2⟩ := oneB_get h1
    rw [if_pos h1, e1, Zb, Zb]
    by_cases ho : oneB x.data = true
    ·have hc : ¬ 128 ≤ c.toNat := by rw [ho] at e2; have := of_decide_eq_true e2.symm; omega
     rw [if_pos ho] at ha
     rw [if_neg (by simpa using hc), Zb, if_pos (by omega), if_pos ho]
    ·have hc : 128 ≤ c.toNat := by
       by_cases hc : c.toNat < 128
       ·exact absurd (by rw [e2]; simpa using hc) ho
       ·omega
     rw [if_neg ho, List.length_append] at ha
     rw [if_pos (by simpa using hc), if_neg ho, before_spec 128 _ (by omega) (by omega), Zb, if_pos (by omega), Zb, if_pos (by rw [List.length_append]; omega), List.append_assoc]
   ·rw [oneB_no h1, if_neg (by simp), List.length_append] at ha
    rw [if_neg h1, Zb, if_pos rfl, oneB_no h1, if_neg (by simp), before_spec 128 _ (by omega) (by omega), Zb, if_pos (by omega), Zb, if_pos (by rw [List.length_append]; omega), List.append_assoc]
theorem check_all (x : It) (hw : x.wt ≤ 2147483647) : ∃ e, rlp_Check x = some e ∧ waybillref07_Check x = some e ∧ (e = 0 → x.good ∧ x.enc.length ≤ 16777216) := by
 have h1 := It.w9_wt x
 have h2 := It.dep_wt x
 unfold rlp_Check waybillref07_Check rlp_sound waybillref07_oddly waybillref07_depth
 by_cases hg : x.good
 ·rw [sound_r _ x (by omega) hg (by omega), Zb]
  dsimp only
  rw [if_pos rfl, oddly_good _ x (by omega) hg, Zb, if_neg (show ¬ (false = true) by simp), depth_r _ x (by omega) (by omega), Zb]
  by_cases h3 : 1024 < x.dep
  ·rw [if_pos h3, if_pos h3]; exact ⟨74, rfl, rfl, (fun e => by cases e)⟩
  ·rw [if_neg h3, if_neg h3, rsize_eq hg (by omega), size_eq (by omega), Zb]
   by_cases h4 : 16777216 < x.enc.length
   ·rw [if_pos h4]; exact ⟨2, rfl, rfl, (fun e => by cases e)⟩
   ·rw [if_neg h4]; exact ⟨0, rfl, rfl, fun _ => ⟨hg, by omega⟩⟩
 ·rw [sound_bad _ x (by omega) hg hw, Zb]
  dsimp only
  rw [if_neg (show ¬ (false = true) by simp), oddly_bad _ x (by omega) hg, Zb, if_pos rfl]
  exact ⟨78, rfl, rfl, (fun e => by cases e)⟩
theorem encodes_all (x : It) (hw : x.wt ≤ 2147483647) : ∃ b e, rlp_Encode x = some (b, e) ∧ waybillref07_Encode x = some (b, e) := by
 have hw9 := It.w9_wt x
 obtain ⟨e, c1, c2, c3⟩ := check_all x hw
 unfold rlp_Encode waybillref07_Encode
 rw [c1, c2, Zb]
 by_cases he : e = 0
 ·obtain ⟨hg, hn⟩ := c3 he
  have hput : waybillref07_put [] x = some x.enc := by
   have := put_r (x.sz + 1) [] x (by omega) hg (by omega) (by simp; omega)
   simpa [waybillref07_put] using this
  rw [if_pos he, lay_eq (by omega), hput]
  exact ⟨_, _, rfl, by subst he; rfl⟩
 ·rw [if_neg he]
  refine ⟨_, _, rfl, ?_⟩
  rw [Zb, if_neg he]
end Go.Fw
namespace Go.Fw
open Go
def Fd.itm : Fd → It
 | .text l => .mk false l []
 | .big v => .mk false (bytesN (val4 v)) []
 | .word x => .mk false (bytesN (val4 (lim x.toNat))) []
 | .ext l => .mk false l []
theorem Fd.item_eq (f : Fd) : f.item = some f.itm := by
 cases f with
 | text l => rfl
 | big v => exact number_eq v
 | word x => exact small_eq x
 | ext l => rfl
theorem itemsOf_eq (l : List Fd) : itemsOf l = some (l.map Fd.itm) := by
 induction l with
 | nil => rfl
 | cons f r ih => simp only [itemsOf, Fd.item_eq, ih, Zb, List.map_cons]
def FdFits : Slk → Fd → Prop
 | .text _ n, .text l => l.length = n
 | .big _, .big _ => True
 | .word _, .word _ => True
 | .ext _, .ext l => l.length ≤ 32
 | _, _ => False
theorem val4_word (x : BitVec 64) : val4 (lim x.toNat) = x.toNat := val4_lim _ (by have := x.isLt; omega)
theorem nb_word (x : BitVec 64) : nb x.toNat ≤ 8 := by
 have := bl_le x.isLt
 unfold nb; omega
end Go.Fw
namespace Go.Fw
open Go
theorem Hdr.fds_fit {h : Hdr} (he : h.extra.length ≤ 32) {i : Nat} {s : Slk} {f : Fd} (hs : slotL[i]? = some s) (hf : h.fds[i]? = some f) : FdFits s f := by
 have hi := (List.getElem?_eq_some_iff.1 hs).1
 change i < 21 at hi
 rcases i with _ | _ | _ | _ | _ | _ | _ | _ | _ | _ | _ | _ | _ | _ | _ | _ | _ | _ | _ | _ | _ | i
 all_goals first
  | (obtain rfl := Zi hs; obtain rfl := Zi hf; first | exact Zv | exact trivial | exact he)
  | omega
theorem Hdr.ext {a b : Hdr} (h : a.fds = b.fds) (ht : a.tail = b.tail) : a = b := by
 obtain ⟨a0, a1, a2, a3, a4, a5, a6, a7, a8, a9, a10, a11, a12, a13, a14, a15, a16, a17, a18, a19, a20, a21⟩ := a
 obtain ⟨b0, b1, b2, b3, b4, b5, b6, b7, b8, b9, b10, b11, b12, b13, b14, b15, b16, b17, b18, b19, b20, b21⟩ := b
 simp only [Hdr.fds, List.cons.injEq, Fd.text.injEq, Fd.big.injEq, Fd.word.injEq, Fd.ext.injEq, Vector.toList_inj, and_true] at h
 simp only at ht
 obtain ⟨rfl, rfl, rfl, rfl, rfl, rfl, rfl, rfl, rfl, rfl, rfl, rfl, rfl, rfl, rfl, rfl, rfl, rfl, rfl, rfl, rfl⟩ := h
 subst ht
 rfl
def FitsL : Nat → List Fd → Prop
 | _, [] => True
 | i, f :: r => (∃ s, slotL[i]? = some s ∧ FdFits s f) ∧ FitsL (i + 1) r
theorem FitsL.of {h : Hdr} (he : h.extra.length ≤ 32) : ∀ (d i n : Nat), n = i + d → n ≤ 21 → FitsL i ((h.fds.take n).drop i)
 | 0, i, n, e, hn => by rw [List.drop_eq_nil_of_le (by rw [List.length_take]; omega)]; trivial
 | d + 1, i, n, e, hn => by
  have hl := h.fds_length
  have hi : i < (h.fds.take n).length := by rw [List.length_take]; omega
  rw [List.drop_eq_getElem_cons hi]
  refine ⟨?_, FitsL.of he d (i + 1) n (by omega) hn⟩
  have hs : i < slotL.length := show i < 21 by omega
  exact ⟨slotL[i], List.getElem?_eq_getElem hs, Hdr.fds_fit he (List.getElem?_eq_getElem hs) (by rw [List.getElem_take]; exact List.getElem?_eq_getElem (by omega))⟩
def cnt (t : Int) : Nat := if t = 0 then 15 else if t = 1 then 16 else if t = 2 then 17 else if t = 3 then 20 else 21
theorem count_eq (t : Int) : header_count t = some (cnt t) := by
 unfold header_count cnt
 by_cases h1 : t = 0
 ·rw [if_pos h1, if_pos h1]
 rw [if_neg h1, if_neg h1]
 by_cases h2 : t = 1
 ·rw [if_pos h2, if_pos h2]
 rw [if_neg h2, if_neg h2]
 by_cases h3 : t = 2
 ·rw [if_pos h3, if_pos h3]
 rw [if_neg h3, if_neg h3]
 by_cases h4 : t = 3
 ·rw [if_pos h4, if_pos h4]
 rw [if_neg h4, if_neg h4]
theorem cnt_le (t : Int) : 15 ≤ cnt t ∧ cnt t ≤ 21 := by
 unfold cnt
 (repeat' split) <;> omega
def Hdr.chk (h : Hdr) : Nat := if h.tail < 0 then 191 else if 4 < h.tail then 191 else if laterZero h (cnt h.tail) = true then (if 32 < h.extra.length then 192 else 0) else 191
theorem check_eq (h : Hdr) : header_Check h = some h.chk := by
 unfold header_Check Hdr.chk
 by_cases h1 : h.tail < 0
 ·rw [if_pos h1, if_pos h1]
 rw [if_neg h1, if_neg h1]
 by_cases h2 : 4 < h.tail
 ·rw [if_pos h2, if_pos h2]
 rw [if_neg h2, if_neg h2, count_eq, Zb]
 by_cases h3 : laterZero h (cnt h.tail) = true
 ·rw [if_pos h3, if_pos h3]
  by_cases h4 : 32 < h.extra.length
  ·rw [if_pos h4, if_pos h4]
  ·rw [if_neg h4, if_neg h4]
 ·rw [if_neg h3, if_neg h3]
theorem Hdr.chk_ok {h : Hdr} : h.chk = 0 ↔ 0 ≤ h.tail ∧ h.tail ≤ 4 ∧ laterZero h (cnt h.tail) = true ∧ h.extra.length ≤ 32 := by
 unfold Hdr.chk
 by_cases h1 : h.tail < 0
 ·rw [if_pos h1]; exact ⟨fun e => absurd e (by decide), fun q => by omega⟩
 rw [if_neg h1]
 by_cases h2 : 4 < h.tail
 ·rw [if_pos h2]; exact ⟨fun e => absurd e (by decide), fun q => by omega⟩
 rw [if_neg h2]
 by_cases h3 : laterZero h (cnt h.tail) = true
 ·rw [if_pos h3]
  by_cases h4 : 32 < h.extra.length
  ·rw [if_pos h4]; exact ⟨fun e => absurd e (by decide), fun q => by omega⟩
  ·rw [if_neg h4]; exact ⟨fun _ => ⟨by omega, by omega, h3, by omega⟩, fun _ => rfl⟩
 ·rw [if_neg h3]; exact ⟨fun e => absurd e (by decide), fun q => absurd q.2.2.1 h3⟩
def Hdr.its (h : Hdr) : List It := (h.fds.take (cnt h.tail)).map Fd.itm
theorem Hdr.its_length (h : Hdr) : h.its.length = cnt h.tail := by
 have := cnt_le h.tail
 rw [Hdr.its, List.length_map, List.length_take, Hdr.fds_length]; omega
end Go.Fw
namespace Go.Fw
theorem absorb_loop (a0 : Sponge) : ∀ (d i k : Nat) (w : Sponge), i + d = 136 → d < k → ∃ w', keccak_Sponge_absorb.l1 a0 k i w = some w' ∧ w'.kind = w.kind ∧ w'.long = w.long
 | 0, i, k, w, h, hk => by
  obtain ⟨k, rfl⟩ : ∃ m, k = m + 1 := ⟨k - 1, by omega⟩
  exact ⟨w, by rw [keccak_Sponge_absorb.l1, if_neg (by omega)], rfl, rfl⟩
 | d + 1, i, k, w, h, hk => by
  obtain ⟨k, rfl⟩ : ∃ m, k = m + 1 := ⟨k - 1, by omega⟩
  rw [keccak_Sponge_absorb.l1, if_pos (by omega), Vector.getElem?_eq_getElem (by omega), Zb, if_pos (by omega), Vector.getElem?_eq_getElem (by omega), Zb]
  obtain ⟨w', e1, e2, e3⟩ := absorb_loop a0 d (i + 1) k _ (by omega) (by omega)
  exact ⟨w', e1, e2, e3⟩
theorem absorb_total (s : Sponge) : ∃ s', keccak_Sponge_absorb s = some s' ∧ s'.kind = s.kind ∧ s'.long = s.long ∧ s'.held = 0 := by
 unfold keccak_Sponge_absorb
 obtain ⟨w, e1, e2, e3⟩ := absorb_loop s 136 0 (136 - 0 + 2) s (by omega) (by omega)
 rw [e1, Zb]
 exact ⟨_, rfl, e2, e3, rfl⟩
theorem write_loop : ∀ (n k : Nat) (l : List (BitVec 8)) (w : Sponge), l.length ≤ n → n < k → 0 ≤ w.held → w.held < 136 → ∃ w', keccak_Sponge_Write.l1 k l w = some w' ∧ 0 ≤ w'.held ∧ w'.held < 136 ∧ w'.kind = w.kind ∧ w'.long = w.long
 | n, 0, l, w, hn, hk, h0, h1 => by omega
 | n, k + 1, l, w, hn, hk, h0, h1 => by
  rw [keccak_Sponge_Write.l1]
  by_cases hl : 0 < l.length
  ·have hm : 0 < min l.length (136 - w.held.toNat) := by omega
   rw [if_pos hl, if_pos h0, if_pos (by omega), if_pos (Nat.min_le_left ..), if_pos (by constructor <;> (show _ ≤ _; dsimp only; omega))]
   by_cases hf : w.held + ((min l.length (136 - w.held.toNat) : Nat) : Int) = 136
   ·rw [if_pos hf]
    obtain ⟨s', e1, e2, e3, e4⟩ := absorb_total ({ ({ w with part := cpV w.part ((w.held).toNat) (l.take (min l.length (136 - ((w.held).toNat)))) } : Sponge) with held := (({ w with part := cpV w.part ((w.held).toNat) (l.take (min l.length (136 - ((w.held).toNat)))) } : Sponge).held + (((min l.length (136 - ((w.held).toNat))) : Nat) : Int)) } : Sponge)
    rw [e1, Zb, Zb]
    obtain ⟨w', f1, f2, f3, f4, f5⟩ := write_loop (n - 1) k (l.drop (min l.length (136 - w.held.toNat))) s' (by rw [List.length_drop]; omega) (by omega) (by omega) (by omega)
    exact ⟨w', f1, f2, f3, f4.trans e2, f5.trans e3⟩
   ·rw [if_neg hf, Zb]
    obtain ⟨w', f1, f2, f3, f4, f5⟩ := write_loop (n - 1) k (l.drop (min l.length (136 - w.held.toNat))) ({ ({ w with part := cpV w.part ((w.held).toNat) (l.take (min l.length (136 - ((w.held).toNat)))) } : Sponge) with held := (({ w with part := cpV w.part ((w.held).toNat) (l.take (min l.length (136 - ((w.held).toNat)))) } : Sponge).held + (((min l.length (136 - ((w.held).toNat))) : Nat) : Int)) } : Sponge) (by rw [List.length_drop]; omega) (by omega) (show 0 ≤ w.held + ((min l.length (136 - w.held.toNat) : Nat) : Int) by omega) (show w.held + ((min l.length (136 - w.held.toNat) : Nat) : Int) < 136 by omega)
    exact ⟨w', f1, f2, f3, f4, f5⟩
  ·rw [if_neg hl]
   exact ⟨w, rfl, h0, h1, rfl, rfl⟩
theorem write_total (s : Sponge) (l : List (BitVec 8)) (h0 : 0 ≤ s.held) (h1 : s.held < 136) (h2 : -9223372036854775808 ≤ s.long + ((l.length : Nat) : Int) ∧ s.long + ((l.length : Nat) : Int) ≤ 9223372036854775807) : ∃ s', keccak_Sponge_Write s l = some s' ∧ 0 ≤ s'.held ∧ s'.held < 136 ∧ s'.kind = s.kind ∧ s'.long = s.long + ((l.length : Nat) : Int) := by
 unfold keccak_Sponge_Write
 rw [if_pos h2]
 obtain ⟨w, e1, e2, e3, e4, e5⟩ := write_loop l.length (l.length - 0 + 2) l ({ s with long := (s.long + ((l.length : Nat) : Int)) } : Sponge) (Nat.le_refl _) (by omega) h0 h1
 rw [e1, Zb]
 exact ⟨w, rfl, e2, e3, e4, e5⟩
end Go.Fw
namespace Go.Fw
theorem ssum_loop (x : Sponge) : ∀ (d i k : Nat) (w : Vector (BitVec 8) 32), i + d = 32 → d < k → ∃ w', keccak_Sponge_Sum.l1 x k i w = some w'
 | 0, i, k, w, h, hk => by
  obtain ⟨k, rfl⟩ : ∃ m, k = m + 1 := ⟨k - 1, by omega⟩
  exact ⟨w, by rw [keccak_Sponge_Sum.l1, if_neg (by omega)]⟩
 | d + 1, i, k, w, h, hk => by
  obtain ⟨k, rfl⟩ : ∃ m, k = m + 1 := ⟨k - 1, by omega⟩
  rw [keccak_Sponge_Sum.l1, if_pos (by omega), if_pos (by omega), Vector.getElem?_eq_getElem (by omega), Zb]
  exact ssum_loop x d (i + 1) k _ (by omega) (by omega)
theorem ssum_total (s : Sponge) (h0 : 0 ≤ s.held) (h1 : s.held < 136) (hk : s.kind = 0 ∨ s.kind = 1) : ∃ r, keccak_Sponge_Sum s = some r := by
 unfold keccak_Sponge_Sum
 rw [if_pos h0, if_pos (by omega)]
 dsimp only
 have hf : ∃ f, firstL[s.kind.toNat]? = some f := by
  rcases hk with e | e <;> rw [e]
  ·exact ⟨1#8, rfl⟩
  ·exact ⟨6#8, rfl⟩
 obtain ⟨f, hf⟩ := hf
 rw [if_pos h0, if_pos (by omega), Vector.getElem?_eq_getElem (by omega), Zb, if_pos (by omega), hf, Zb]
 generalize hS : (Sponge.mk _ _ _ _ _ : Sponge) = S
 obtain ⟨s', e1, _⟩ := absorb_total S
 rw [e1, Zb]
 obtain ⟨w', e2⟩ := ssum_loop s' 32 0 (32 - 0 + 2) (Vector.replicate 32 0#8) (by omega) (by omega)
 rw [e2, Zb]
 exact ⟨_, rfl⟩
theorem sum_total (t : List (BitVec 8)) (ht : t.length ≤ 140737488355328) : ∃ h, keccak_Sum [t] = some h := by
 unfold keccak_Sum keccak_digest
 obtain ⟨w, e1, e2, e3, e4, e5⟩ := write_total ({ (⟨0, (Vector.replicate 25 0#64), (Vector.replicate 136 0#8), 0, 0⟩ : Sponge) with kind := (0 : Int) } : Sponge) t (by show (0 : Int) ≤ 0; omega) (by show (0 : Int) < 136; omega) (by show -9223372036854775808 ≤ (0 : Int) + _ ∧ (0 : Int) + _ ≤ _; omega)
 have hl : keccak_digest.l1 [t] ([t].length - 0 + 2) 0 ({ (⟨0, (Vector.replicate 25 0#64), (Vector.replicate 136 0#8), 0, 0⟩ : Sponge) with kind := (0 : Int) } : Sponge) = some w := by
  show keccak_digest.l1 [t] (2 + 1) 0 _ = some w
  rw [keccak_digest.l1, if_pos (by simp)]
  show (some t).bind _ = _
  rw [Zb, e1, Zb, keccak_digest.l1, if_neg (by simp)]
 rw [hl, Zb]
 obtain ⟨⟨h, w'⟩, e6⟩ := ssum_total w e2 e3 (.inl e4)
 rw [e6, Zb]
 exact ⟨h, rfl⟩
end Go.Fw
namespace Go.Fw
open Go
def Flat (xs : List It) : Prop := ∀ x ∈ xs, ∃ d, x = .mk false d [] ∧ d.length ≤ 256
theorem Flat.wt : ∀ {xs : List It}, Flat xs → Its.wt xs ≤ 257 * xs.length
 | [], _ => by simp [Its.wt]
 | x :: r, h => by
  obtain ⟨d, rfl, hd⟩ := h x (List.mem_cons_self ..)
  have := Flat.wt (xs := r) fun y hy => h y (List.mem_cons_of_mem _ hy)
  simp only [Its.wt, It.wt, List.length_nil, List.length_cons]; omega
theorem Flat.w9 : ∀ {xs : List It}, Flat xs → Its.w9 xs ≤ 265 * xs.length
 | [], _ => by simp [Its.w9]
 | x :: r, h => by
  obtain ⟨d, rfl, hd⟩ := h x (List.mem_cons_self ..)
  have := Flat.w9 (xs := r) fun y hy => h y (List.mem_cons_of_mem _ hy)
  simp only [Its.w9, It.w9, List.length_cons]; omega
theorem Flat.good : ∀ {xs : List It}, Flat xs → Its.good xs
 | [], _ => by simp [Its.good]
 | x :: r, h => by
  obtain ⟨d, rfl, hd⟩ := h x (List.mem_cons_self ..)
  have := Flat.good (xs := r) fun y hy => h y (List.mem_cons_of_mem _ hy)
  rw [Its.good]
  exact ⟨by rw [It.good]; simp [Its.good], this⟩
theorem Flat.dep : ∀ {xs : List It}, Flat xs → Its.dep xs = 0
 | [], _ => by simp [Its.dep]
 | x :: r, h => by
  obtain ⟨d, rfl, hd⟩ := h x (List.mem_cons_self ..)
  have := Flat.dep (xs := r) fun y hy => h y (List.mem_cons_of_mem _ hy)
  rw [Its.dep, this, It.dep_eq, if_neg (by simp [It.list])]; rfl
theorem slot_n : ∀ {s : Slk} {f : Fd}, s ∈ slotL → FdFits s f → ∃ d, f.itm = .mk false d [] ∧ d.length ≤ 256
 | .text o n, .text l, hs, h => by
  have e : ∀ s ∈ slotL, s.sz ≤ 256 := by decide
  have h2 := e _ hs
  simp only [FdFits] at h
  exact ⟨l, rfl, by simp only [Slk.sz] at h2; omega⟩
 | .big o, .big v, _, _ => ⟨_, rfl, by have := nb_le (val4_lt v); rw [bytesN_length]; omega⟩
 | .word o, .word x, _, _ => ⟨_, rfl, by have := nb_word x; rw [bytesN_length, val4_word]; omega⟩
 | .ext o, .ext l, _, h => ⟨_, rfl, by simp only [FdFits] at h; omega⟩
theorem FitsL.flat : ∀ {l : List Fd} {i : Nat}, FitsL i l → Flat (l.map Fd.itm)
 | [], _, _ => fun x hx => by simp at hx
 | f :: r, i, ⟨⟨s, hs, hf⟩, hr⟩ => fun x hx => by
  rcases List.mem_cons.1 hx with rfl | hx
  ·exact slot_n (List.mem_of_getElem? hs) hf
  ·exact FitsL.flat hr x hx
theorem Hdr.its_flat {h : Hdr} (hc : h.chk = 0) : Flat h.its := by
 obtain ⟨h1, h2, h3, h4⟩ := Hdr.chk_ok.1 hc
 have hn := cnt_le h.tail
 have hF := FitsL.of h4 (cnt h.tail) 0 (cnt h.tail) (by omega) hn.2
 rw [List.drop_zero] at hF
 exact hF.flat
def Hdr.it (h : Hdr) : It := .mk true [] h.its
theorem Hdr.it_facts {h : Hdr} (hc : h.chk = 0) : h.it.good ∧ h.it.dep ≤ 1024 ∧ h.it.w9 ≤ 16777216 ∧ Its.wt h.its ≤ 2147483647 := by
 have hf := Hdr.its_flat hc
 have hl := h.its_length
 have hn := cnt_le h.tail
 have h1 := hf.w9
 have h2 := hf.wt
 refine ⟨?_, ?_, ?_, by omega⟩
 ·rw [Hdr.it, It.good_eq]; exact ⟨fun _ => rfl, (fun e => by cases e), hf.good⟩
 ·rw [Hdr.it, It.dep_eq]; show (if true = true then Its.dep h.its + 1 else 0) ≤ 1024; rw [if_pos rfl, hf.dep]; decide
 ·rw [Hdr.it, It.w9_eq]; show 9 + ([] : List (BitVec 8)).length + Its.w9 h.its ≤ 16777216; simp only [List.length_nil]; omega
theorem item_ok {h : Hdr} (hc : h.chk = 0) : header_Item h = some (h.it, 0) := by
 obtain ⟨_, _, _, hw⟩ := Hdr.it_facts hc
 unfold header_Item
 rw [check_eq, Zb, if_pos hc, count_eq, Zb, itemsOf_eq, Zb]
 show ((rlp_List h.its).bind _) = _
 unfold rlp_List
 rw [twin_eq hw]
 rfl
theorem item_bad {h : Hdr} (hc : h.chk ≠ 0) : header_Item h = some (It.mk false [] [], h.chk) := by
 unfold header_Item
 rw [check_eq, Zb, if_neg hc]
theorem hencode_ok {h : Hdr} (hc : h.chk = 0) : header_Encode h = some (h.it.enc, 0) := by
 obtain ⟨h1, h2, h3, _⟩ := Hdr.it_facts hc
 unfold header_Encode
 rw [item_ok hc, Zb]
 dsimp only
 rw [if_pos rfl, encode_eq h1 h2 h3]
 rfl
theorem hencode_bad {h : Hdr} (hc : h.chk ≠ 0) : header_Encode h = some ([], h.chk) := by
 unfold header_Encode
 rw [item_bad hc, Zb]
 dsimp only
 rw [if_neg hc]
theorem Hdr.enc_len {h : Hdr} (hc : h.chk = 0) : h.it.enc.length ≤ 16777216 := by
 obtain ⟨h1, h2, h3, _⟩ := Hdr.it_facts hc
 have := (It.enc_le h.it (by omega)).1
 omega
theorem hash_ok {h : Hdr} (hc : h.chk = 0) : ∃ d, keccak_Sum [h.it.enc] = some d ∧ header_Hash h = some (d, 0) := by
 have hl := Hdr.enc_len hc
 obtain ⟨d, hd⟩ := sum_total h.it.enc (by omega)
 refine ⟨d, hd, ?_⟩
 unfold header_Hash
 rw [hencode_ok hc, Zb]
 dsimp only
 rw [if_pos rfl, hd, Zb]
theorem hash_bad {h : Hdr} (hc : h.chk ≠ 0) : header_Hash h = some (Vector.replicate 32 0#8, h.chk) := by
 unfold header_Hash
 rw [hencode_bad hc, Zb]
 dsimp only
 rw [if_neg hc]
theorem equal_loop (a : List (BitVec 8)) : ∀ (d i k : Nat), i + d = a.length → d < k → waybilllaw19_equal.l1 a a k i = some (Lp.go ())
 | 0, i, k + 1, e, _ => by rw [waybilllaw19_equal.l1, if_neg (by omega)]
 | d + 1, i, k + 1, e, hk => by
  rw [waybilllaw19_equal.l1, if_pos (by omega), List.getElem?_eq_getElem (by omega), Zb, Zb, if_pos rfl]
  exact equal_loop a d (i + 1) k (by omega) (by omega)
theorem equal_refl (a : List (BitVec 8)) : waybilllaw19_equal a a = some true := by
 unfold waybilllaw19_equal
 rw [if_pos rfl, equal_loop a a.length 0 _ (by omega) (by omega), Zb]
theorem hsame_loop (a : Hdr) : ∀ (d i k : Nat), i + d = a.extra.length → d < k → waybillref19_Same.l1 a a k i = some (Lp.go ())
 | 0, i, k + 1, e, _ => by rw [waybillref19_Same.l1, if_neg (by omega)]
 | d + 1, i, k + 1, e, hk => by
  rw [waybillref19_Same.l1, if_pos (by omega), List.getElem?_eq_getElem (by omega), Zb, Zb, if_pos rfl]
  exact hsame_loop a d (i + 1) k (by omega) (by omega)
theorem hsame_refl (a : Hdr) : waybillref19_Same a a = some true := by
 unfold waybillref19_Same
 rw [if_pos rfl, hsame_loop a a.extra.length 0 _ (by omega) (by omega), Zb]
 simp
theorem htwin_eq {h : Hdr} (hb : h.extra.length + 9 ≤ 140737488355328) : waybilllaw19_twin h = some h := if_pos hb
end Go.Fw
namespace Go.Fw
abbrev V25 := Vector (BitVec 64) 25
def permV (a : V25) : V25 := match keccak_Permute a with
 | some r => r
 | none => a
theorem perm_eq (a : V25) : keccak_Permute a = some (permV a) := rfl
def xin (b : List (BitVec 8)) : Nat → Nat → V25 → V25
 | 0, _, a => a
 | d + 1, i, a => xin b d (i + 1) (a.setIfInBounds (i / 8) ((a[i / 8]?.getD 0#64) ^^^ (((b[i]?.getD 0#8).setWidth 64) <<< (8 * (i % 8)))))
def takeIn (b : List (BitVec 8)) (a : V25) : V25 := permV (xin b 136 0 a)
def soak : Nat → List (BitVec 8) → V25 → V25
 | 0, _, a => a
 | n + 1, l, a => soak n (l.drop 136) (takeIn (l.take 136) a)
def zeroV : V25 := Vector.replicate 25 0#64
theorem soak_snoc : ∀ (n : Nat) (l : List (BitVec 8)) (a : V25), soak (n + 1) l a = takeIn ((l.drop (136 * n)).take 136) (soak n l a)
 | 0, l, a => by rw [soak, soak, soak, Nat.mul_zero, List.drop_zero]
 | n + 1, l, a => by
  rw [soak, soak_snoc n, soak, List.drop_drop]
  congr 3
  omega
theorem soak_congr : ∀ (n : Nat) (l l' : List (BitVec 8)) (a : V25), l.take (136 * n) = l'.take (136 * n) → soak n l a = soak n l' a
 | 0, l, l', a, h => rfl
 | n + 1, l, l', a, h => by
  rw [soak_snoc, soak_snoc]
  have h1 : l.take (136 * n) = l'.take (136 * n) := by
   have := congrArg (List.take (136 * n)) h
   rwa [List.take_take, List.take_take, Nat.min_eq_left (by omega)] at this
  have h2 : (l.drop (136 * n)).take 136 = (l'.drop (136 * n)).take 136 := by
   have := congrArg (List.drop (136 * n)) h
   rwa [List.drop_take, List.drop_take, show 136 * (n + 1) - 136 * n = 136 by omega] at this
  rw [h2, soak_congr n l l' a h1]
theorem absorb_loop_eq (s : Sponge) : ∀ (d i k : Nat) (w : Sponge), i + d = 136 → d < k → keccak_Sponge_absorb.l1 s k i w = some { w with lanes := xin s.part.toList d i w.lanes }
 | 0, i, k, w, h, hk => by
  obtain ⟨k, rfl⟩ : ∃ m, k = m + 1 := ⟨k - 1, by omega⟩
  rw [keccak_Sponge_absorb.l1, if_neg (by omega)]
  rfl
 | d + 1, i, k, w, h, hk => by
  obtain ⟨k, rfl⟩ : ∃ m, k = m + 1 := ⟨k - 1, by omega⟩
  have h1 : i < 136 := by omega
  have h2 : i / 8 < 25 := by omega
  rw [keccak_Sponge_absorb.l1, if_pos h1, Vector.getElem?_eq_getElem h1, Zb, if_pos h2, Vector.getElem?_eq_getElem h2, Zb, absorb_loop_eq s d (i + 1) k _ (by omega) (by omega)]
  have e1 : (s.part.toList)[i]? = some s.part[i] := by rw [Vector.getElem?_toList, Vector.getElem?_eq_getElem h1]
  simp only [xin, e1, Option.getD_some, Vector.getElem?_eq_getElem h2]
theorem absorb_eq (s : Sponge) : keccak_Sponge_absorb s = some { s with lanes := takeIn s.part.toList s.lanes, held := 0 } := by
 unfold keccak_Sponge_absorb
 rw [absorb_loop_eq s 136 0 (136 - 0 + 2) s (by omega) (by omega), Zb, perm_eq, Zb]
 rfl
structure Took (s : Sponge) (t : List (BitVec 8)) : Prop where
 held : s.held = ((t.length % 136 : Nat) : Int)
 lanes : s.lanes = soak (t.length / 136) t zeroV
 part : s.part.toList.take (t.length % 136) = t.drop (136 * (t.length / 136))
theorem took_loop : ∀ (n k : Nat) (l : List (BitVec 8)) (w : Sponge) (t : List (BitVec 8)), l.length ≤ n → n < k → Took w t → ∃ w', keccak_Sponge_Write.l1 k l w = some w' ∧ Took w' (t ++ l) ∧ w'.kind = w.kind ∧ w'.long = w.long
 | n, 0, l, w, t, hn, hk, ht => by omega
 | n, k + 1, l, w, t, hn, hk, ht => by
  have hq : t.length = 136 * (t.length / 136) + t.length % 136 := (Nat.div_add_mod _ _).symm
  have hm : t.length % 136 < 136 := Nat.mod_lt _ (by decide)
  have hh := ht.held
  rw [keccak_Sponge_Write.l1]
  by_cases hl : 0 < l.length
  ·generalize hM : min l.length (136 - w.held.toNat) = M
   have hM' : M = min l.length (136 - t.length % 136) := by rw [← hM, hh]; rfl
   have hMl : M ≤ l.length := by omega
   have hM0 : 0 < M := by omega
   have hN : w.held.toNat = t.length % 136 := by rw [hh]; rfl
   have hlen : (l.take M).length = M := by rw [List.length_take]; omega
   have hfit : t.length % 136 + (l.take M).length ≤ 136 := by omega
   have hcp := cpV_toList w.part (lo := t.length % 136) (l := l.take M) hfit
   have htl : (t ++ l.take M).length = t.length + M := by rw [List.length_append, hlen]
   rw [if_pos hl, if_pos (by omega), if_pos (by omega), if_pos hMl, if_pos (by constructor <;> (show _ ≤ _; dsimp only; omega)), hN]
   have hsplit : t ++ l = (t ++ l.take M) ++ l.drop M := by rw [List.append_assoc, List.take_append_drop]
   by_cases hf : w.held + ((M : Nat) : Int) = 136
   ·rw [if_pos hf, absorb_eq, Zb, Zb, hsplit]
    have hd : (t.length + M) / 136 = t.length / 136 + 1 := by omega
    have hr : (t.length + M) % 136 = 0 := by omega
    obtain ⟨w', f1, f2, f3, f4⟩ := took_loop (n - 1) k (l.drop M) _ (t ++ l.take M) (by rw [List.length_drop]; omega) (by omega) (⟨by rw [htl, hr]; rfl, by
        rw [htl, hd, soak_snoc]
        show takeIn (cpV w.part (t.length % 136) (l.take M)).toList w.lanes = _
        rw [ht.lanes]
        congr 1
        ·have hz : w.part.toList.drop (t.length % 136 + (l.take M).length) = [] := List.drop_eq_nil_of_le (by rw [Zv, hlen]; omega)
         have hT : (t.drop (136 * (t.length / 136)) ++ l.take M).take 136 = t.drop (136 * (t.length / 136)) ++ l.take M := List.take_of_length_le (by rw [List.length_append, List.length_drop, hlen]; omega)
         rw [hcp, ht.part, hz, List.drop_append_of_le_length (by omega), List.append_nil, hT]
        ·exact soak_congr _ _ _ _ (by rw [List.take_append_of_le_length (by omega)]), by rw [htl, hr, List.take_zero, hd, List.drop_eq_nil_of_le (by rw [htl]; omega)]⟩ : Took ({ ({ ({ w with part := cpV w.part (t.length % 136) (l.take M) } : Sponge) with held := (({ w with part := cpV w.part (t.length % 136) (l.take M) } : Sponge).held + ((M : Nat) : Int)) } : Sponge) with lanes := takeIn (({ ({ w with part := cpV w.part (t.length % 136) (l.take M) } : Sponge) with held := (({ w with part := cpV w.part (t.length % 136) (l.take M) } : Sponge).held + ((M : Nat) : Int)) } : Sponge)).part.toList (({ ({ w with part := cpV w.part (t.length % 136) (l.take M) } : Sponge) with held := (({ w with part := cpV w.part (t.length % 136) (l.take M) } : Sponge).held + ((M : Nat) : Int)) } : Sponge)).lanes, held := 0 } : Sponge) (t ++ l.take M))
    exact ⟨w', f1, f2, f3, f4⟩
   ·have hd : (t.length + M) / 136 = t.length / 136 := by omega
    have hr : (t.length + M) % 136 = t.length % 136 + M := by omega
    rw [if_neg hf, Zb, hsplit]
    obtain ⟨w', f1, f2, f3, f4⟩ := took_loop (n - 1) k (l.drop M) ({ ({ w with part := cpV w.part (t.length % 136) (l.take M) } : Sponge) with held := (({ w with part := cpV w.part (t.length % 136) (l.take M) } : Sponge).held + ((M : Nat) : Int)) } : Sponge) (t ++ l.take M) (by rw [List.length_drop]; omega) (by omega) ⟨by
        show w.held + ((M : Nat) : Int) = _
        rw [htl, hr]; omega, by
        show w.lanes = _
        rw [htl, hd, ht.lanes]
        exact soak_congr _ _ _ _ (by rw [List.take_append_of_le_length (by omega)]), by
        show (cpV w.part (t.length % 136) (l.take M)).toList.take _ = _
        rw [htl, hr, hd, hcp, List.take_left' (by rw [List.length_append, List.length_take, Zv]; omega), ht.part, List.drop_append_of_le_length (by omega)]⟩
    exact ⟨w', f1, f2, f3, f4⟩
  ·rw [if_neg hl]
   obtain rfl : l = [] := List.length_eq_zero_iff.1 (by omega)
   exact ⟨w, rfl, by rw [List.append_nil]; exact ht, rfl, rfl⟩
theorem write_took (s : Sponge) (t l : List (BitVec 8)) (h : Took s t) (h2 : -9223372036854775808 ≤ s.long + ((l.length : Nat) : Int) ∧ s.long + ((l.length : Nat) : Int) ≤ 9223372036854775807) : ∃ s', keccak_Sponge_Write s l = some s' ∧ Took s' (t ++ l) ∧ s'.kind = s.kind ∧ s'.long = s.long + ((l.length : Nat) : Int) := by
 unfold keccak_Sponge_Write
 rw [if_pos h2]
 obtain ⟨w, e1, e2, e3, e4⟩ := took_loop l.length (l.length - 0 + 2) l ({ s with long := (s.long + ((l.length : Nat) : Int)) } : Sponge) t (Nat.le_refl _) (by omega) ⟨h.held, h.lanes, h.part⟩
 rw [e1, Zb]
 exact ⟨w, rfl, e2, e3, e4⟩
def padB (r : List (BitVec 8)) (f : BitVec 8) : List (BitVec 8) := (r ++ f :: List.replicate (135 - r.length) 0#8).set 135 ((if r.length = 135 then f else 0#8) ||| 128#8)
def sq (a : V25) : Nat → Nat → Vector (BitVec 8) 32 → Vector (BitVec 8) 32
 | 0, _, w => w
 | d + 1, i, w => sq a d (i + 1) (w.setIfInBounds i (((a[i / 8]?.getD 0#64) >>> (8 * (i % 8))).setWidth 8))
def digestR (t : List (BitVec 8)) (f : BitVec 8) : Vector (BitVec 8) 32 := sq (takeIn (padB (t.drop (136 * (t.length / 136))) f) (soak (t.length / 136) t zeroV)) 32 0 (Vector.replicate 32 0#8)
theorem sum_loop_eq (x : Sponge) : ∀ (d i k : Nat) (w : Vector (BitVec 8) 32), i + d = 32 → d < k → keccak_Sponge_Sum.l1 x k i w = some (sq x.lanes d i w)
 | 0, i, k, w, h, hk => by
  obtain ⟨k, rfl⟩ : ∃ m, k = m + 1 := ⟨k - 1, by omega⟩
  rw [keccak_Sponge_Sum.l1, if_neg (by omega)]
  rfl
 | d + 1, i, k, w, h, hk => by
  obtain ⟨k, rfl⟩ : ∃ m, k = m + 1 := ⟨k - 1, by omega⟩
  have h2 : i / 8 < 25 := by omega
  rw [keccak_Sponge_Sum.l1, if_pos (by omega), if_pos h2, Vector.getElem?_eq_getElem h2, Zb, sum_loop_eq x d (i + 1) k _ (by omega) (by omega)]
  simp only [sq, Vector.getElem?_eq_getElem h2, Option.getD_some]
theorem setAtS {α : Type} (r : List α) (x y : α) (z : List α) {i : Nat} (h : r.length = i) : (r ++ x :: z).set i y = r ++ y :: z := by
 rw [List.set_append_right _ _ (by omega), show i - r.length = 0 by omega, List.set_cons_zero]
theorem ssum_eq (s : Sponge) (t : List (BitVec 8)) (h : Took s t) (f : BitVec 8) (hk : (s.kind = 0 ∧ f = 1#8) ∨ (s.kind = 1 ∧ f = 6#8)) : keccak_Sponge_Sum s = some (digestR t f, s) := by
 have hm : t.length % 136 < 136 := Nat.mod_lt _ (by decide)
 have hh := h.held
 have hN : s.held.toNat = t.length % 136 := by rw [hh]; rfl
 have hkk : 0 ≤ s.kind := by omega
 have hfst : firstL[s.kind.toNat]? = some f := by
  rcases hk with ⟨e, rfl⟩ | ⟨e, rfl⟩ <;> rw [e] <;> rfl
 have hr : (t.drop (136 * (t.length / 136))).length = t.length % 136 := by rw [List.length_drop]; omega
 have hP1 := cpV_toList s.part (lo := t.length % 136) (l := List.replicate (136 - t.length % 136) 0#8) (by rw [List.length_replicate]; omega)
 have hz : s.part.toList.drop (t.length % 136 + (List.replicate (136 - t.length % 136) 0#8).length) = [] := List.drop_eq_nil_of_le (by rw [Zv, List.length_replicate]; omega)
 rw [h.part, hz, List.append_nil, show 136 - t.length % 136 = (135 - t.length % 136) + 1 by omega, List.replicate_succ] at hP1
 unfold keccak_Sponge_Sum
 rw [if_pos (by omega), if_pos (by omega)]
 dsimp only
 rw [if_pos (by omega), if_pos (by omega), hN]
 generalize hP : cpV s.part (t.length % 136) (List.replicate (136 - t.length % 136) 0#8) = P
 have hPl : P.toList = t.drop (136 * (t.length / 136)) ++ 0#8 :: List.replicate (135 - t.length % 136) 0#8 := by rw [← hP]; rw [show 136 - t.length % 136 = (135 - t.length % 136) + 1 by omega, List.replicate_succ]; exact hP1
 have hPh : P[t.length % 136]? = some 0#8 := by rw [← Vector.getElem?_toList, hPl, List.getElem?_append_right (by omega), hr, Nat.sub_self]; rfl
 rw [hPh, Zb, if_pos hkk, hfst, Zb]
 generalize hS : (Sponge.mk _ _ _ _ _ : Sponge) = S
 rw [absorb_eq, Zb, sum_loop_eq _ 32 0 _ _ (by omega) (by omega), Zb]
 have h1 : S.lanes = s.lanes := by rw [← hS]
 have h2 : S.part.toList = padB (t.drop (136 * (t.length / 136))) f := by
  rw [← hS]
  show ((P.setIfInBounds (t.length % 136) (0#8 ^^^ f)).setIfInBounds 135 ((P.setIfInBounds (t.length % 136) (0#8 ^^^ f))[135] ^^^ 128#8)).toList = _
  generalize hQ : P.setIfInBounds (t.length % 136) (0#8 ^^^ f) = Q
  have hQl : Q.toList = t.drop (136 * (t.length / 136)) ++ f :: List.replicate (135 - t.length % 136) 0#8 := by
   rw [← hQ, ← vset, hPl, setAtS _ _ _ _ hr, BitVec.zero_xor]
  have hQx : Q[135] = if t.length % 136 = 135 then f else 0#8 := by
   have e1 : Q.toList[135]? = some Q[135] := by rw [Vector.getElem?_toList, Vector.getElem?_eq_getElem (by decide)]
   rw [hQl, List.getElem?_append_right (by omega), hr] at e1
   by_cases c : t.length % 136 = 135
   ·rw [if_pos c]
    rw [c] at e1
    exact (Zi e1).symm
   ·rw [if_neg c]
    obtain ⟨j, hj⟩ : ∃ j, 135 - t.length % 136 = j + 1 := ⟨135 - t.length % 136 - 1, by omega⟩
    rw [hj, List.getElem?_cons_succ, List.getElem?_replicate, if_pos (by omega)] at e1
    exact (Zi e1).symm
  have hf : f ^^^ 128#8 = f ||| 128#8 := by rcases hk with ⟨_, rfl⟩ | ⟨_, rfl⟩ <;> rfl
  have hx : Q[135] ^^^ 128#8 = (if t.length % 136 = 135 then f else 0#8) ||| 128#8 := by
   rw [hQx]
   split
   ·exact hf
   ·rfl
  rw [hx, ← vset, hQl]
  unfold padB
  rw [hr]
 dsimp only
 rw [h1, h2, h.lanes]
 rfl
theorem digest_loop_eq (a : List (List (BitVec 8))) : ∀ (d i k : Nat) (w : Sponge) (t : List (BitVec 8)), i + d = a.length → d < k → Took w t → 0 ≤ w.long → w.long + (((a.drop i).flatten.length : Nat) : Int) ≤ 9223372036854775807 → ∃ w', keccak_digest.l1 a k i w = some w' ∧ Took w' (t ++ (a.drop i).flatten) ∧ w'.kind = w.kind
 | 0, i, k, w, t, h, hk, ht, h0, hl => by
  obtain ⟨k, rfl⟩ : ∃ m, k = m + 1 := ⟨k - 1, by omega⟩
  refine ⟨w, by rw [keccak_digest.l1, if_neg (by omega)], ?_, rfl⟩
  rw [List.drop_eq_nil_of_le (by omega), List.flatten_nil, List.append_nil]
  exact ht
 | d + 1, i, k, w, t, h, hk, ht, h0, hl => by
  obtain ⟨k, rfl⟩ : ∃ m, k = m + 1 := ⟨k - 1, by omega⟩
  have h1 : i < a.length := by omega
  rw [List.drop_eq_getElem_cons h1, List.flatten_cons, List.length_append] at hl
  obtain ⟨s', e1, e2, e3, e4⟩ := write_took w t a[i] ht ⟨by omega, by omega⟩
  obtain ⟨w', f1, f2, f3⟩ := digest_loop_eq a d (i + 1) k s' (t ++ a[i]) (by omega) (by omega) e2 (by omega) (by omega)
  refine ⟨w', by rw [keccak_digest.l1, if_pos h1, List.getElem?_eq_getElem h1, Zb, e1, Zb, f1], ?_, f3.trans e3⟩
  rw [List.drop_eq_getElem_cons h1, List.flatten_cons, ← List.append_assoc]
  exact f2
theorem took_zero (k : Int) : Took (⟨k, Vector.replicate 25 0#64, Vector.replicate 136 0#8, 0, 0⟩ : Sponge) [] := ⟨rfl, rfl, by rw [List.length_nil]; rfl⟩
theorem digest_eq (k : Int) (a : List (List (BitVec 8))) (f : BitVec 8) (hk : (k = 0 ∧ f = 1#8) ∨ (k = 1 ∧ f = 6#8)) (hl : a.flatten.length ≤ 9223372036854775807) : keccak_digest k a = some (digestR a.flatten f) := by
 unfold keccak_digest
 obtain ⟨w, e1, e2, e3⟩ := digest_loop_eq a a.length 0 (a.length - 0 + 2) (⟨k, Vector.replicate 25 0#64, Vector.replicate 136 0#8, 0, 0⟩ : Sponge) [] (by omega) (by omega) (took_zero k) (by show (0 : Int) ≤ 0; omega) (by rw [List.drop_zero]; show (0 : Int) + _ ≤ _; omega)
 rw [List.drop_zero, List.nil_append] at e2
 have e1' : keccak_digest.l1 a (a.length - 0 + 2) 0 ({ (⟨0, (Vector.replicate 25 0#64), (Vector.replicate 136 0#8), 0, 0⟩ : Sponge) with kind := k } : Sponge) = some w := e1
 rw [e1', Zb, ssum_eq w a.flatten e2 f (by rw [e3]; exact hk), Zb]
theorem ksum_eq (a : List (List (BitVec 8))) (hl : a.flatten.length ≤ 9223372036854775807) : keccak_Sum a = some (digestR a.flatten 1#8) := by
 unfold keccak_Sum
 rw [digest_eq 0 a 1#8 (.inl ⟨rfl, rfl⟩) hl, Zb]
end Go.Fw
namespace Go.Fw
theorem filled_loop : ∀ (d k : Nat) (l : List (BitVec 8)), (l.length + d) % 136 = 0 → d < 136 → d < k → l.length + d ≤ 140737488355328 → waybillref02_filled.l1 k l = some (l ++ List.replicate d 0#8)
 | 0, k, l, h, hd, hk, hb => by
  obtain ⟨k, rfl⟩ : ∃ m, k = m + 1 := ⟨k - 1, by omega⟩
  rw [waybillref02_filled.l1, if_pos (by omega)]
  simp
 | d + 1, k, l, h, hd, hk, hb => by
  obtain ⟨k, rfl⟩ : ∃ m, k = m + 1 := ⟨k - 1, by omega⟩
  rw [waybillref02_filled.l1, if_neg (by omega), if_pos (by simp; omega), filled_loop d k _ (by simp; omega) (by omega) (by omega) (by simp; omega), List.append_assoc, List.replicate_succ]
  rfl
theorem padB_len (r : List (BitVec 8)) (f : BitVec 8) (h : r.length ≤ 135) : (padB r f).length = 136 := by unfold padB; simp; omega
theorem filled_eq (t : List (BitVec 8)) (f : BitVec 8) (ht : t.length + 137 ≤ 140737488355328) : waybillref02_filled t f = some (t.take (136 * (t.length / 136)) ++ padB (t.drop (136 * (t.length / 136))) f) := by
 have hm : t.length % 136 < 136 := Nat.mod_lt _ (by decide)
 have hq : t.length = 136 * (t.length / 136) + t.length % 136 := (Nat.div_add_mod _ _).symm
 have hr : (t.drop (136 * (t.length / 136))).length = t.length % 136 := by rw [List.length_drop]; omega
 have hlen : (t ++ [f]).length = t.length + 1 := by simp
 unfold waybillref02_filled
 rw [if_pos (by simp; omega), filled_loop (135 - t.length % 136) 140 (t ++ [f]) (by omega) (by omega) (by omega) (by omega), Zb]
 have hL : t ++ [f] ++ List.replicate (135 - t.length % 136) 0#8 = t.take (136 * (t.length / 136)) ++ (t.drop (136 * (t.length / 136)) ++ f :: List.replicate (135 - t.length % 136) 0#8) := by
  rw [← List.append_assoc, List.take_append_drop, List.append_assoc]
  rfl
 have hLl : (t ++ [f] ++ List.replicate (135 - t.length % 136) 0#8).length = 136 * (t.length / 136) + 136 := by simp; omega
 have hi : ((((t ++ [f] ++ List.replicate (135 - t.length % 136) 0#8).length : Nat) : Int) - (1 : Int)).toNat = 136 * (t.length / 136) + 135 := by rw [hLl]; omega
 have htk : (t.take (136 * (t.length / 136))).length = 136 * (t.length / 136) := by rw [List.length_take]; omega
 have hx : (t ++ [f] ++ List.replicate (135 - t.length % 136) 0#8)[136 * (t.length / 136) + 135]? = some (if t.length % 136 = 135 then f else 0#8) := by
  rw [hL, List.getElem?_append_right (by omega), htk, show 136 * (t.length / 136) + 135 - 136 * (t.length / 136) = 135 by omega, List.getElem?_append_right (by omega), hr]
  by_cases c : t.length % 136 = 135
  ·rw [if_pos c, c]; rfl
  ·rw [if_neg c]
   obtain ⟨j, hj⟩ : ∃ j, 135 - t.length % 136 = j + 1 := ⟨135 - t.length % 136 - 1, by omega⟩
   rw [hj, List.getElem?_cons_succ, List.getElem?_replicate, if_pos (by omega)]
 rw [if_pos (by omega), hi, hx, Zb, Zb, hL, List.set_append_right _ _ (by omega), htk, show 136 * (t.length / 136) + 135 - 136 * (t.length / 136) = 135 by omega]
 unfold padB
 rw [hr]
theorem rin_loop (F : List (BitVec 8)) (n : Nat) (hn : n + 136 ≤ F.length) : ∀ (d i k : Nat) (w : V25), i + d = 136 → d < k → waybillref02_Digest.l3 F n k i w = some (xin ((F.drop n).take 136) d i w)
 | 0, i, k, w, h, hk => by
  obtain ⟨k, rfl⟩ : ∃ m, k = m + 1 := ⟨k - 1, by omega⟩
  rw [waybillref02_Digest.l3, if_neg (by omega)]
  rfl
 | d + 1, i, k, w, h, hk => by
  obtain ⟨k, rfl⟩ : ∃ m, k = m + 1 := ⟨k - 1, by omega⟩
  have h2 : i / 8 < 25 := by omega
  have h3 : n + i < F.length := by omega
  have h4 : ((F.drop n).take 136)[i]? = some F[n + i] := by rw [List.getElem?_take, if_pos (by omega), List.getElem?_drop, List.getElem?_eq_getElem h3]
  have h5 : (BitVec.ofNat 64 (8 * (i % 8))).toNat = 8 * (i % 8) := by rw [BitVec.toNat_ofNat]; omega
  rw [waybillref02_Digest.l3, if_pos (by omega), if_pos h2, Vector.getElem?_eq_getElem h2, Zb, List.getElem?_eq_getElem h3, Zb, rin_loop F n hn d (i + 1) k _ (by omega) (by omega), h5]
  simp only [xin, h4, Vector.getElem?_eq_getElem h2, Option.getD_some]
theorem rblk_loop (F : List (BitVec 8)) : ∀ (d j k : Nat) (w : V25), 136 * (j + d) = F.length → d < k → waybillref02_Digest.l2 F k (136 * j) w = some (soak d (F.drop (136 * j)) w)
 | 0, j, k, w, h, hk => by
  obtain ⟨k, rfl⟩ : ∃ m, k = m + 1 := ⟨k - 1, by omega⟩
  rw [waybillref02_Digest.l2, if_neg (by omega)]
  rfl
 | d + 1, j, k, w, h, hk => by
  obtain ⟨k, rfl⟩ : ∃ m, k = m + 1 := ⟨k - 1, by omega⟩
  rw [waybillref02_Digest.l2, if_pos (by omega), rin_loop F _ (by omega) 136 0 (136 - 0 + 2) w (by omega) (by omega), Zb, perm_eq, Zb, show 136 * j + 136 = 136 * (j + 1) by omega, rblk_loop F d (j + 1) k _ (by omega) (by omega), soak, List.drop_drop, show 136 * j + 136 = 136 * (j + 1) by omega]
  rfl
theorem rsq_loop (x : V25) : ∀ (d i k : Nat) (w : Vector (BitVec 8) 32), i + d = 32 → d < k → waybillref02_Digest.l1 x k i w = some (sq x d i w)
 | 0, i, k, w, h, hk => by
  obtain ⟨k, rfl⟩ : ∃ m, k = m + 1 := ⟨k - 1, by omega⟩
  rw [waybillref02_Digest.l1, if_neg (by omega)]
  rfl
 | d + 1, i, k, w, h, hk => by
  obtain ⟨k, rfl⟩ : ∃ m, k = m + 1 := ⟨k - 1, by omega⟩
  have h2 : i / 8 < 25 := by omega
  have h5 : (BitVec.ofNat 64 (8 * (i % 8))).toNat = 8 * (i % 8) := by rw [BitVec.toNat_ofNat]; omega
  rw [waybillref02_Digest.l1, if_pos (by omega), if_pos h2, Vector.getElem?_eq_getElem h2, Zb, rsq_loop x d (i + 1) k _ (by omega) (by omega), h5]
  simp only [sq, Vector.getElem?_eq_getElem h2, Option.getD_some]
theorem rdigest_eq (t : List (BitVec 8)) (f : BitVec 8) (ht : t.length + 137 ≤ 140737488355328) : waybillref02_Digest t f = some (digestR t f) := by
 have hm : t.length % 136 < 136 := Nat.mod_lt _ (by decide)
 have hq : t.length = 136 * (t.length / 136) + t.length % 136 := (Nat.div_add_mod _ _).symm
 have hr : (t.drop (136 * (t.length / 136))).length = t.length % 136 := by rw [List.length_drop]; omega
 have htk : (t.take (136 * (t.length / 136))).length = 136 * (t.length / 136) := by rw [List.length_take]; omega
 have hp := padB_len (t.drop (136 * (t.length / 136))) f (by omega)
 unfold waybillref02_Digest
 rw [filled_eq t f ht, Zb]
 generalize hF : t.take (136 * (t.length / 136)) ++ padB (t.drop (136 * (t.length / 136))) f = F
 have hFl : F.length = 136 * (t.length / 136 + 1) := by rw [← hF, List.length_append, htk, hp]; omega
 have h2 := rblk_loop F (t.length / 136 + 1) 0 (F.length - 0 + 2) zeroV (by omega) (by omega)
 rw [Nat.mul_zero, List.drop_zero] at h2
 have h2' : waybillref02_Digest.l2 F (F.length - 0 + 2) 0 (Vector.replicate 25 0#64) = some (soak (t.length / 136 + 1) F zeroV) := h2
 rw [h2', Zb, rsq_loop _ 32 0 (32 - 0 + 2) _ (by omega) (by omega), Zb, soak_snoc]
 have h3 : (F.drop (136 * (t.length / 136))).take 136 = padB (t.drop (136 * (t.length / 136))) f := by
  rw [← hF, List.drop_left' htk, List.take_of_length_le (by omega)]
 have h4 : soak (t.length / 136) F zeroV = soak (t.length / 136) t zeroV := soak_congr _ _ _ _ (by rw [← hF, List.take_left' htk])
 rw [h3, h4]
 rfl
theorem joined_loop (a : List (List (BitVec 8))) : ∀ (d i k : Nat) (l : List (BitVec 8)), i + d = a.length → d < k → l.length + (a.drop i).flatten.length ≤ 140737488355328 → waybillref02_joined.l1 a k l i = some (l ++ (a.drop i).flatten)
 | 0, i, k, l, h, hk, hb => by
  obtain ⟨k, rfl⟩ : ∃ m, k = m + 1 := ⟨k - 1, by omega⟩
  rw [waybillref02_joined.l1, if_neg (by omega), List.drop_eq_nil_of_le (by omega)]
  simp
 | d + 1, i, k, l, h, hk, hb => by
  obtain ⟨k, rfl⟩ : ∃ m, k = m + 1 := ⟨k - 1, by omega⟩
  have h1 : i < a.length := by omega
  rw [List.drop_eq_getElem_cons h1, List.flatten_cons, List.length_append] at hb
  rw [waybillref02_joined.l1, if_pos h1, List.getElem?_eq_getElem h1, Zb, if_pos (by omega), joined_loop a d (i + 1) k _ (by omega) (by omega) (by rw [List.length_append]; omega), List.drop_eq_getElem_cons h1, List.flatten_cons, List.append_assoc]
theorem joined_eq (a : List (List (BitVec 8))) (hb : a.flatten.length ≤ 140737488355328) : waybillref02_joined a = some a.flatten := by
 unfold waybillref02_joined
 rw [joined_loop a a.length 0 (a.length - 0 + 2) [] (by omega) (by omega) (by rw [List.drop_zero, List.length_nil]; omega), Zb, List.drop_zero, List.nil_append]
theorem rsum_eq (a : List (List (BitVec 8))) (hb : a.flatten.length + 137 ≤ 140737488355328) : waybillref02_Sum a = some (digestR a.flatten 1#8) := by
 unfold waybillref02_Sum
 rw [joined_eq a (by omega), Zb, rdigest_eq _ _ hb, Zb]
end Go.Fw
namespace Go.Fw
open Go
theorem text_zero {n : Nat} (v : Vector (BitVec 8) n) : (Fd.text v.toList).isZero = decide (v = Vector.replicate n 0#8) := by
 by_cases h : v = Vector.replicate n 0#8
 ·rw [decide_eq_true h, h]
  simp [Fd.isZero, Vector.toList_replicate]
 ·rw [decide_eq_false h]
  cases hz : (Fd.text v.toList).isZero with
  | false => rfl
  | true =>
   refine absurd ?_ h
   simp only [Fd.isZero, List.all_eq_true, decide_eq_true_eq] at hz
   apply Vector.ext
   intro j hj
   rw [Vector.getElem_replicate]
   exact hz _ (Vector.mem_toList_iff.2 (Vector.getElem_mem hj))
theorem big_zero (v : Vector (BitVec 64) 4) : (Fd.big v).isZero = decide (v = Vector.replicate 4 0#64) := rfl
theorem word_zero (x : BitVec 64) : (Fd.word x).isZero = decide (x = 0#64) := rfl
theorem later_eq (h : Hdr) : (h.fds.drop 15) = [.big h.baseFee, .text h.withdrawals.toList, .word h.blobUsed, .word h.blobExcess, .text h.beacon.toList, .text h.requests.toList] := rfl
theorem later_n (h : Hdr) (n : Nat) (hn : 15 ≤ n) : laterZero h n = (([Fd.big h.baseFee, .text h.withdrawals.toList, .word h.blobUsed, .word h.blobExcess, .text h.beacon.toList, .text h.requests.toList]).drop (n - 15)).all Fd.isZero := by
 unfold laterZero
 rw [← later_eq, List.drop_drop, show 15 + (n - 15) = n by omega]
theorem rzero_eq (h : Hdr) (h0 : 0 ≤ h.tail) (h4 : h.tail ≤ 4) : waybillref19_zero h = some (laterZero h (cnt h.tail)) := by
 rw [later_n h _ (cnt_le h.tail).1]
 unfold waybillref19_zero
 rcases (by omega : h.tail = 0 ∨ h.tail = 1 ∨ h.tail = 2 ∨ h.tail = 3 ∨ h.tail = 4) with e | e | e | e | e
 all_goals
  simp only [e, cnt]
  simp [text_zero, big_zero, word_zero]
  try (by_cases q1 : h.baseFee = Vector.replicate 4 0#64 <;> by_cases q2 : h.withdrawals = Vector.replicate 32 0#8 <;> by_cases q3 : h.requests = Vector.replicate 32 0#8 <;> by_cases q4 : h.blobUsed = 0#64 <;> by_cases q5 : h.blobExcess = 0#64 <;> by_cases q6 : h.beacon = Vector.replicate 32 0#8 <;> simp [q1, q2, q3, q4, q5, q6])
theorem rcheck_hdr (h : Hdr) : waybillref19_Check h = some h.chk := by
 unfold waybillref19_Check Hdr.chk
 by_cases h1 : h.tail < 0
 ·simp [h1]
 ·by_cases h2 : 4 < h.tail
  ·simp [h1, h2]
  ·rw [rzero_eq h (by omega) (by omega)]
   simp only [h1, h2, if_false, Zb, decide_false, Bool.false_eq_true]
   by_cases h3 : laterZero h (cnt h.tail) = true
   ·by_cases h4 : 32 < h.extra.length <;> simp [h3, h4]
   ·simp [h3]
theorem rhash_it (v : Vector (BitVec 8) 32) : waybillref19_hash v = some (.mk false v.toList []) := rfl
theorem rtext_it (l : List (BitVec 8)) : waybillref07_Text l = some (.mk false l []) := rfl
theorem ritem_ok {h : Hdr} (hc : h.chk = 0) : waybillref19_Item h = some (h.it, 0) := by
 obtain ⟨h0, h4, _, _⟩ := Hdr.chk_ok.1 hc
 unfold waybillref19_Item
 rw [rcheck_hdr, Zb, if_pos hc]
 simp only [rhash_it, rtext_it, rnumber_eq, rsmall_eq, Zb, List.length_append, List.length_cons, List.length_nil]
 rcases (by omega : h.tail = 0 ∨ h.tail = 1 ∨ h.tail = 2 ∨ h.tail = 3 ∨ h.tail = 4) with e | e | e | e | e
 all_goals
  simp only [e]
  simp [Hdr.it, Hdr.its, e, cnt, Hdr.fds, Fd.itm]
theorem ritem_bad {h : Hdr} (hc : h.chk ≠ 0) : waybillref19_Item h = some (It.mk false [] [], h.chk) := by
 unfold waybillref19_Item
 rw [rcheck_hdr, Zb, if_neg hc]
theorem rencode_ok {h : Hdr} (hc : h.chk = 0) : waybillref19_Encode h = some (h.it.enc, 0) := by
 obtain ⟨h1, h2, h3, hw⟩ := Hdr.it_facts hc
 have hwt : h.it.wt ≤ 2147483647 := by have := It.wt_w9 h.it; omega
 obtain ⟨b, e, q1, q2⟩ := encodes_all h.it hwt
 rw [encode_eq h1 h2 h3] at q1
 obtain ⟨rfl, rfl⟩ := Prod.mk.inj (Zi q1)
 unfold waybillref19_Encode
 rw [ritem_ok hc, Zb]
 dsimp only
 rw [if_pos rfl, q2]
 rfl
theorem rencode_bad {h : Hdr} (hc : h.chk ≠ 0) : waybillref19_Encode h = some ([], h.chk) := by
 unfold waybillref19_Encode
 rw [ritem_bad hc, Zb]
 dsimp only
 rw [if_neg hc]
theorem rhash_ok {h : Hdr} (hc : h.chk = 0) : ∃ d, header_Hash h = some (d, 0) ∧ waybillref19_Hash h = some (d, 0) := by
 have hl := Hdr.enc_len hc
 obtain ⟨d, hd, hh⟩ := hash_ok hc
 refine ⟨d, hh, ?_⟩
 have e1 := ksum_eq [h.it.enc] (by simp; omega)
 have e2 := rsum_eq [h.it.enc] (by simp; omega)
 unfold waybillref19_Hash
 rw [rencode_ok hc, Zb]
 dsimp only
 rw [if_pos rfl, e2, ← e1, hd, Zb]
theorem rhash_bad {h : Hdr} (hc : h.chk ≠ 0) : waybillref19_Hash h = some (Vector.replicate 32 0#8, h.chk) := by
 unfold waybillref19_Hash
 rw [rencode_bad hc, Zb]
 dsimp only
 rw [if_neg hc]
end Go.Fw
namespace Go.Fw
open Go
structure Rdr where
 err : Int
def Rdr.C (s : Rdr) : List Value := [.int .i64 s.err]
theorem Rdr.C_length (s : Rdr) : s.C.length = 1 := by simp [Rdr.C]
theorem Rdr.C_one (s : Rdr) : ∀ u ∈ s.C, u.oneCell' = true := by
 intro u hu
 simp only [Rdr.C, List.mem_append, List.mem_singleton] at hu
 rcases hu with rfl
 ·rfl
end Go.Fw
namespace Go.Fw
open Go
theorem Mem.chunk {w0 w : World} {M M' : List Ent} (m : Mem w0 w M) (Cs : List (List Ent)) (is : List Nat) (h : (is ++ (List.range Cs.length).filter fun i => !is.contains i).isPerm (List.range Cs.length) = true) (e1 : M = Cs.flatten) (e2 : (is.map fun i => Cs.getD i []).flatten = M') : Mem w0 w M' := by
 subst e2
 rw [e1] at m
 have e : Cs = (List.range Cs.length).map fun i => Cs.getD i [] := by
  apply List.ext_getElem
  ·simp
  ·intro i h1 h2
   simp [List.getD_eq_getElem?_getD, List.getElem?_eq_getElem h1]
 have hp := (List.isPerm_iff.1 h).map (fun i => Cs.getD i [])
 rw [← e, List.map_append] at hp
 have m2 := m.perm hp.symm.flatten
 rw [List.flatten_append] at m2
 exact m2.appL
inductive Ow where
 | mk (list : Bool) (ob : Option Nat) (data : List (BitVec 8)) (r : List Value) (cap : Nat) (oi : Option Nat) (ci : Nat) (ri : List Value) (its : List Ow)
def Ow.cs : Ow → List Value
 | .mk l ob d r c oi ci ri its => [.bool l, sl ob 0 d.length c, sl oi 0 its.length ci]
def Ows.cs (l : List Ow) : List Value := l.flatMap Ow.cs
mutual
def Ow.it : Ow → It
 | .mk l ob d r c oi ci ri its => .mk l d (Ows.it its)
def Ows.it : List Ow → List It
 | [] => []
 | o :: r => o.it :: Ows.it r
end
mutual
def Ow.ents (t : TypeId) : Ow → List Ent
 | .mk l ob d r c oi ci ri its => (ob, blk (u8s d ++ r) 5) :: (oi, blk (Ows.cs its ++ ri) t) :: Ows.ents t its
def Ows.ents (t : TypeId) : List Ow → List Ent
 | [] => []
 | o :: r => o.ents t ++ Ows.ents t r
end
mutual
def Ow.Ok : Ow → Prop
 | .mk l ob d r c oi ci ri its => OwnS ob d.length c 1 (u8s d) r ∧ OwnS oi its.length ci 3 (Ows.cs its) ri ∧ Ows.Ok its
def Ows.Ok : List Ow → Prop
 | [] => True
 | o :: r => o.Ok ∧ Ows.Ok r
end
theorem Ow.cs_length (o : Ow) : o.cs.length = 3 := by cases o; rfl
theorem Ow.cs_one (o : Ow) : ∀ u ∈ o.cs, u.oneCell' = true := by
 cases o; intro u hu; simp [Ow.cs] at hu; rcases hu with rfl | rfl | rfl <;> rfl
theorem Ows.cs_length (l : List Ow) : (Ows.cs l).length = l.length * 3 := by
 induction l with
 | nil => rfl
 | cons o r ih => simp only [Ows.cs, List.flatMap_cons, List.length_append, Ow.cs_length, List.length_cons] at *; omega
theorem Ows.cs_one (l : List Ow) : ∀ u ∈ Ows.cs l, u.oneCell' = true := by
 intro u hu
 obtain ⟨o, _, h⟩ := List.mem_flatMap.1 hu
 exact o.cs_one u h
theorem Ows.cs_app (a b : List Ow) : Ows.cs (a ++ b) = Ows.cs a ++ Ows.cs b := List.flatMap_append ..
theorem Ows.cs_sing (o : Ow) : Ows.cs [o] = o.cs := by simp [Ows.cs]
theorem Ows.it_app (a b : List Ow) : Ows.it (a ++ b) = Ows.it a ++ Ows.it b := by
 induction a with
 | nil => simp [Ows.it]
 | cons o r ih => simp [Ows.it, ih]
theorem Ows.it_length (l : List Ow) : (Ows.it l).length = l.length := by
 induction l with
 | nil => simp [Ows.it]
 | cons o r ih => simp [Ows.it, ih]
theorem Ows.ents_app (t : TypeId) (a b : List Ow) : Ows.ents t (a ++ b) = Ows.ents t a ++ Ows.ents t b := by
 induction a with
 | nil => simp [Ows.ents]
 | cons o r ih => simp [Ows.ents, ih]
theorem Ows.Ok_app {a b : List Ow} : Ows.Ok (a ++ b) ↔ Ows.Ok a ∧ Ows.Ok b := by
 induction a with
 | nil => simp [Ows.Ok]
 | cons o r ih => simp [Ows.Ok, ih, and_assoc]
mutual
theorem Ow.rd {w0 : World} {Φ : Ctx} {t : TypeId} : ∀ (o : Ow), o.Ok → (∀ w, Φ w → Mem w0 w (o.ents t)) → ItRd Φ o.cs o.it
 | .mk l ob d r c oi ci ri its, h, hm => by
  rw [Ow.Ok] at h
  obtain ⟨h1, h2, h3⟩ := h
  rw [Ow.it]
  have e : (Ows.it its).length = its.length := Ows.it_length its
  show ItRd Φ [.bool l, sl ob 0 d.length c, sl oi 0 its.length ci] _
  rw [← e]
  refine ItRd.mk (h1.view (te := 5) (w0 := w0) (by decide) (fun w q => ?_)) (cells := Ows.cs its) (by rw [e]; exact h2.view (te := t) (w0 := w0) (by decide) (fun w q => by have := hm w q; rw [Ow.ents] at this; exact this.tail.sublist (List.singleton_sublist.2 (List.mem_cons_self ..)))) (Ows.rd (w0 := w0) (t := t) its h3 (fun w q => ?_))
  ·have := hm w q; rw [Ow.ents] at this; exact this.sublist (List.singleton_sublist.2 (List.mem_cons_self ..))
  ·have := hm w q; rw [Ow.ents] at this; exact this.tail.tail
theorem Ows.rd {w0 : World} {Φ : Ctx} {t : TypeId} : ∀ (l : List Ow), Ows.Ok l → (∀ w, Φ w → Mem w0 w (Ows.ents t l)) → Reps (ItRd Φ) (Ows.cs l) (Ows.it l)
 | [], _, _ => Reps.nil
 | o :: r, h, hm => by
  rw [Ows.Ok] at h
  rw [Ows.it]
  exact Reps.cons (Ow.rd o h.1 (fun w q => by have := hm w q; rw [Ows.ents] at this; exact this.appL)) (Ows.rd r h.2 (fun w q => by have := hm w q; rw [Ows.ents] at this; exact this.appR))
end
theorem Ows.cs_at : ∀ {l : List Ow} {p : Nat} {x : Ow}, l[p]? = some x → ∀ (j : Nat) (u : Value), x.cs[j]? = some u → (Ows.cs l)[p * 3 + j]? = some u
 | o :: r, 0, x, h, j, u, hu => by
  obtain rfl := Zi h
  have := (List.getElem?_eq_some_iff.1 hu).1
  rw [Ows.cs, List.flatMap_cons, List.getElem?_append_left (by omega), Nat.zero_mul, Nat.zero_add]; exact hu
 | o :: r, p + 1, x, h, j, u, hu => by
  have ih := Ows.cs_at (l := r) (p := p) (x := x) (by simpa using h) j u hu
  rw [Ows.cs, List.flatMap_cons, List.getElem?_append_right (by rw [o.cs_length]; omega), o.cs_length, show (p + 1) * 3 + j - 3 = p * 3 + j by omega]; exact ih
theorem Ows.write (t : TypeId) : ∀ {l : List Ow} {p : Nat} {lx : Bool} {xob : Option Nat} {xd : List (BitVec 8)} {xr : List Value} {xc : Nat} {xoi : Option Nat} {xci : Nat} {xri : List Value} {xits : List Ow}, l[p]? = some (Ow.mk lx xob xd xr xc xoi xci xri xits) →
    ∃ A B, Ows.ents t l = A ++ ((xob, blk (u8s xd ++ xr) 5) :: B) ∧ ∀ xd' : List (BitVec 8), xd'.length = xd.length →
     Ows.ents t (l.set p (Ow.mk lx xob xd' xr xc xoi xci xri xits)) = A ++ ((xob, blk (u8s xd' ++ xr) 5) :: B) ∧ Ows.cs (l.set p (Ow.mk lx xob xd' xr xc xoi xci xri xits)) = Ows.cs l ∧ (Ows.Ok l → Ows.Ok (l.set p (Ow.mk lx xob xd' xr xc xoi xci xri xits)))
 | o :: r, 0, lx, xob, xd, xr, xc, xoi, xci, xri, xits, h => by
  obtain rfl := Zi h
  refine ⟨[], (xoi, blk (Ows.cs xits ++ xri) t) :: (Ows.ents t xits ++ Ows.ents t r), by simp [Ows.ents, Ow.ents], fun xd' hl => ⟨by simp [Ows.ents, Ow.ents], ?_, ?_⟩⟩
  ·rw [List.set_cons_zero]
   simp only [Ows.cs, List.flatMap_cons, Ow.cs, hl]
  ·rw [List.set_cons_zero]
   simp only [Ows.Ok, Ow.Ok]
   rintro ⟨⟨h1, h2, h3⟩, h4⟩
   exact ⟨⟨⟨by rw [Z100]; omega, by rw [← h1.hr, List.length_append, List.length_append, Z100, Z100, hl], h1.hn, by rw [hl]; exact h1.mx⟩, h2, h3⟩, h4⟩
 | o :: r, p + 1, lx, xob, xd, xr, xc, xoi, xci, xri, xits, h => by
  obtain ⟨A, B, h1, h2⟩ := Ows.write t (l := r) (p := p) (by simpa using h)
  refine ⟨o.ents t ++ A, B, by rw [Ows.ents, h1, List.append_assoc], fun xd' hl => ?_⟩
  obtain ⟨q1, q2, q3⟩ := h2 xd' hl
  rw [List.set_cons_succ]
  refine ⟨by rw [Ows.ents, q1, List.append_assoc], ?_, ?_⟩
  ·simp only [Ows.cs, List.flatMap_cons] at *; rw [q2]
  ·simp only [Ows.Ok]; exact fun ⟨a, b⟩ => ⟨a, q3 b⟩
theorem u8s_set_app (l : List (BitVec 8)) (r : List Value) {i : Nat} (h : i < l.length) (v : BitVec 8) : (u8s l ++ r).set i (U8 v) = u8s (l.set i v) ++ r := by
 rw [List.set_append_left _ _ (by rw [Z100]; exact h), u8s_set']
theorem OwnS.some_of {ob : Option Nat} {len cap s : Nat} {cells r : List Value} (h : OwnS ob len cap s cells r) (hs : 0 < s) {i : Nat} (hi : i < len) : ob.isSome = true := by
 cases ob with
 | none => have h1 := h.hn rfl; have h2 := h.le hs; omega
 | some b => rfl
end Go.Fw

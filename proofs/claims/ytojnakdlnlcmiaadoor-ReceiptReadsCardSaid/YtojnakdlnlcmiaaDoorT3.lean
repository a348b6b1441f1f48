/- Part of a proof: rules that its law uses. -/
import Derived.Test.YtojnakdlnlcmiaaDoorT2
set_option linter.unusedVariables false
set_option linter.unusedSimpArgs false
set_option linter.unusedSectionVars false
set_option maxRecDepth 100000
set_option maxHeartbeats 1000000
namespace Go.Fw
def rsmall (r : Rdr) (old : BitVec 64) (it : It) : Option (BitVec 64 × Rdr) :=
 if r.err = 0 then (rlp_GetSmall it).bind fun p => if p.2 = 0 then some (p.1, r) else (waybill_receipt_reader_refuse r 172).bind fun q => some (p.1, q)
 else some (old, r)
def rbloom (r : Rdr) (old : Vector (BitVec 8) 256) (it : It) : Option (Vector (BitVec 8) 256 × Rdr) :=
 (waybill_receipt_reader_text r it 256).bind fun p => if p.2.err = 0 then (toVec 256 p.1).bind fun v => some (v, p.2) else some (old, p.2)
def rroot (r : Rdr) (o : RcptC) (b : List (BitVec 8)) : Option (RcptC × Rdr) :=
 if b.length = 32 ∧ o.kind = 0 then (toVec 32 b).bind fun v => some ({ { o with rooted := true } with root := v }, r)
 else (waybill_receipt_reader_refuse r 172).bind fun q => some (o, q)
def routcome (r : Rdr) (o : RcptC) (it : It) : Option (RcptC × Rdr) :=
 (waybill_receipt_reader_text r it (-1)).bind fun p =>
  if p.2.err = 0 then
   if p.1.length = 0 then some (o, p.2)
   else if p.1.length = 1 then (p.1[0]?).bind fun x => if x = 1#8 then some ({ o with status := 1#64 }, p.2) else rroot p.2 o p.1
   else rroot p.2 o p.1
  else some (o, p.2)
def rtopicsF : Rdr → List (Vector (BitVec 8) 32) → List It → Option (List (Vector (BitVec 8) 32) × Rdr)
 | r, l, [] => some (l, r)
 | r, l, it :: its => (waybill_receipt_reader_text r it 32).bind fun p =>
   if p.2.err = 0 then if (l.length + 1) * 32 ≤ 140737488355328 then (toVec 32 p.1).bind fun v => rtopicsF p.2 (l ++ [v]) its else none
   else rtopicsF p.2 l its
def rtopics (r : Rdr) (l : List (Vector (BitVec 8) 32)) (it : It) : Option (List (Vector (BitVec 8) 32) × Rdr) :=
 (waybill_receipt_reader_list r it).bind fun p => rtopicsF p.2 l p.1
def Log.zero : Log := ⟨Vector.replicate 20 0#8, [], []⟩
def receipt_ParseLog (it : It) : Option (Log × Int) :=
 (waybill_receipt_reader_list ⟨0⟩ it).bind fun p =>
  if p.2.err = 0 ∧ p.1.length = 3 then
   (p.1[0]?).bind fun x0 => (waybill_receipt_reader_text p.2 x0 20).bind fun a =>
   (if a.2.err = 0 then toVec 20 a.1 else some (Vector.replicate 20 0#8)).bind fun ad =>
   (p.1[1]?).bind fun x1 => (rtopics a.2 [] x1).bind fun t =>
   (p.1[2]?).bind fun x2 => (waybill_receipt_reader_text t.2 x2 (-1)).bind fun d =>
   if d.2.err = 0 then if 4 < t.1.length then some (Log.zero, 174) else some (⟨ad, t.1, d.1⟩, 0)
   else some (Log.zero, d.2.err)
  else some (Log.zero, 172)
def rlogsF : Rdr → List Log → List It → Option (List Log × Rdr)
 | r, l, [] => some (l, r)
 | r, l, it :: its => (receipt_ParseLog it).bind fun p =>
   if p.2 = 0 then if (l.length + 1) * 72 ≤ 140737488355328 then rlogsF r (l ++ [p.1]) its else none
   else (waybill_receipt_reader_refuse r p.2).bind fun q => some (l, q)
def rlogs (r : Rdr) (l : List Log) (it : It) : Option (List Log × Rdr) :=
 (waybill_receipt_reader_list r it).bind fun p => rlogsF p.2 l p.1
def Rdr.bd (r : Rdr) : Prop := 0 ≤ r.err ∧ r.err ≤ 1000
theorem refuse_eq (r : Rdr) (e : Int) : waybill_receipt_reader_refuse r e = some (if r.err = 0 then ⟨e⟩ else r) := by
 unfold waybill_receipt_reader_refuse
 split <;> rfl
theorem refuse_bd {r q : Rdr} {e : Int} (h : r.bd) (he : 0 ≤ e ∧ e ≤ 1000) (hf : waybill_receipt_reader_refuse r e = some q) : q.bd := by
 rw [refuse_eq] at hf
 obtain rfl := Zi hf
 split
 ·exact he
 ·exact h
theorem list_bd {r q : Rdr} {it : It} {l : List It} (h : r.bd) (hf : waybill_receipt_reader_list r it = some (l, q)) : q.bd := by
 unfold waybill_receipt_reader_list at hf
 split at hf
 ·obtain ⟨⟨a, b⟩, h1, h2⟩ := Option.bind_eq_some_iff.1 hf
  dsimp only at h2
  obtain ⟨w, h3, h4⟩ := Option.bind_eq_some_iff.1 h2
  have h5 := Zi h4
  obtain ⟨rfl, rfl⟩ := Prod.mk.inj h5
  split at h3
  ·obtain rfl := Zi h3; exact h
  ·obtain ⟨y, h6, h7⟩ := Option.bind_eq_some_iff.1 h3
   obtain rfl := Zi h7
   exact refuse_bd h (by omega) h6
 ·have h5 := Zi hf
  obtain ⟨rfl, rfl⟩ := Prod.mk.inj h5
  exact h
theorem text_bd {r q : Rdr} {it : It} {n : Int} {l : List (BitVec 8)} (h : r.bd) (hf : waybill_receipt_reader_text r it n = some (l, q)) : q.bd := by
 unfold waybill_receipt_reader_text at hf
 split at hf
 ·obtain ⟨⟨a, b⟩, h1, h2⟩ := Option.bind_eq_some_iff.1 hf
  dsimp only at h2
  obtain ⟨w, h3, h4⟩ := Option.bind_eq_some_iff.1 h2
  split at h4
  ·obtain ⟨y, h6, h7⟩ := Option.bind_eq_some_iff.1 h4
   have h5 := Zi h7
   obtain ⟨rfl, rfl⟩ := Prod.mk.inj h5
   exact refuse_bd h (by omega) h6
  ·have h5 := Zi h4
   obtain ⟨rfl, rfl⟩ := Prod.mk.inj h5
   exact h
 ·have h5 := Zi hf
  obtain ⟨rfl, rfl⟩ := Prod.mk.inj h5
  exact h
theorem topicsF_bd : ∀ {its : List It} {r q : Rdr} {l l2 : List (Vector (BitVec 8) 32)}, r.bd → rtopicsF r l its = some (l2, q) → q.bd
 | [], r, q, l, l2, h, hf => by
  have h5 := Zi hf
  obtain ⟨rfl, rfl⟩ := Prod.mk.inj h5
  exact h
 | it :: its, r, q, l, l2, h, hf => by
  unfold rtopicsF at hf
  obtain ⟨⟨a, b⟩, h1, h2⟩ := Option.bind_eq_some_iff.1 hf
  have hb := text_bd h h1
  dsimp only at h2
  split at h2
  ·split at h2
   ·obtain ⟨v, h3, h4⟩ := Option.bind_eq_some_iff.1 h2
    exact topicsF_bd hb h4
   ·cases h2
  ·exact topicsF_bd hb h2
theorem topics_bd {r q : Rdr} {it : It} {l0 l : List (Vector (BitVec 8) 32)} (h : r.bd) (hf : rtopics r l0 it = some (l, q)) : q.bd := by
 unfold rtopics at hf
 obtain ⟨⟨a, b⟩, h1, h2⟩ := Option.bind_eq_some_iff.1 hf
 exact topicsF_bd (list_bd h h1) h2
def Rcpt.zero : Rcpt := ⟨0, false, Vector.replicate 32 0#8, 0#64, 0#64, Vector.replicate 256 0#8, []⟩
abbrev RcptZ : RcptC := ⟨0, false, Vector.replicate 32 0#8, 0#64, 0#64, Vector.replicate 256 0#8, .slice none 0 0⟩
def dkind (d : List (BitVec 8)) (b : BitVec 8) : Option (Int × List (BitVec 8)) :=
 if 192 ≤ b.toNat then some (0, d) else if 1 ≤ b.toNat ∧ b.toNat ≤ 4 then some ((b.toNat : Int), d.drop 1) else none
def rfields (k : Int) (f : List It) : Option (Rcpt × Int) :=
 (f[0]?).bind fun x0 => (routcome ⟨0⟩ { RcptZ with kind := k } x0).bind fun o =>
 (f[1]?).bind fun x1 => (rsmall o.2 o.1.used x1).bind fun u =>
 (f[2]?).bind fun x2 => (rbloom u.2 o.1.bloom x2).bind fun bl =>
 (f[3]?).bind fun x3 => (rlogs bl.2 [] x3).bind fun l =>
 if l.2.err = 0 then (receipt_BloomOf l.1).bind fun y => if bl.1 = y then some (⟨o.1.kind, o.1.rooted, o.1.root, o.1.status, u.1, bl.1, l.1⟩, 0) else some (Rcpt.zero, 173)
 else some (Rcpt.zero, l.2.err)
def rdecode2 (k : Int) (d : List (BitVec 8)) : Option (Rcpt × Int) :=
 (rlp_Decode d).bind fun p => if p.2 = 0 then (rlp_GetList p.1).bind fun q => if q.2 = 0 ∧ q.1.length = 4 then rfields k q.1 else some (Rcpt.zero, 171) else some (Rcpt.zero, (p.2 : Int))
def receipt_Decode (d : List (BitVec 8)) : Option (Rcpt × Int) :=
 if 16777216 < d.length then some (Rcpt.zero, 2) else if d.length = 0 then some (Rcpt.zero, 70)
 else (d[0]?).bind fun b => match dkind d b with
  | none => some (Rcpt.zero, 170)
  | some p => rdecode2 p.1 p.2
theorem rroot_keep {r q : Rdr} {o o2 : RcptC} {b : List (BitVec 8)} (hf : rroot r o b = some (o2, q)) : o2.kind = o.kind ∧ o2.used = o.used ∧ o2.bloom = o.bloom ∧ o2.logs = o.logs := by
 unfold rroot at hf
 split at hf
 ·obtain ⟨v, _, h⟩ := Option.bind_eq_some_iff.1 hf
  obtain ⟨rfl, rfl⟩ := Prod.mk.inj (Zi h)
  exact ⟨rfl, rfl, rfl, rfl⟩
 ·obtain ⟨v, _, h⟩ := Option.bind_eq_some_iff.1 hf
  obtain ⟨rfl, rfl⟩ := Prod.mk.inj (Zi h)
  exact ⟨rfl, rfl, rfl, rfl⟩
theorem routcome_keep {r q : Rdr} {o o2 : RcptC} {it : It} (hf : routcome r o it = some (o2, q)) : o2.kind = o.kind ∧ o2.used = o.used ∧ o2.bloom = o.bloom ∧ o2.logs = o.logs := by
 unfold routcome at hf
 obtain ⟨p, _, hf⟩ := Option.bind_eq_some_iff.1 hf
 split at hf
 ·split at hf
  ·obtain ⟨rfl, rfl⟩ := Prod.mk.inj (Zi hf)
   exact ⟨rfl, rfl, rfl, rfl⟩
  ·split at hf
   ·obtain ⟨x, _, hf⟩ := Option.bind_eq_some_iff.1 hf
    split at hf
    ·obtain ⟨rfl, rfl⟩ := Prod.mk.inj (Zi hf)
     exact ⟨rfl, rfl, rfl, rfl⟩
    ·exact rroot_keep hf
   ·exact rroot_keep hf
 ·obtain ⟨rfl, rfl⟩ := Prod.mk.inj (Zi hf)
  exact ⟨rfl, rfl, rfl, rfl⟩
theorem rroot_bd {r q : Rdr} {o o2 : RcptC} {b : List (BitVec 8)} (h : r.bd) (hf : rroot r o b = some (o2, q)) : q.bd := by
 unfold rroot at hf
 split at hf
 ·obtain ⟨v, _, h2⟩ := Option.bind_eq_some_iff.1 hf
  obtain ⟨rfl, rfl⟩ := Prod.mk.inj (Zi h2)
  exact h
 ·obtain ⟨v, h1, h2⟩ := Option.bind_eq_some_iff.1 hf
  obtain ⟨rfl, rfl⟩ := Prod.mk.inj (Zi h2)
  exact refuse_bd h (by omega) h1
theorem routcome_bd {r q : Rdr} {o o2 : RcptC} {it : It} (h : r.bd) (hf : routcome r o it = some (o2, q)) : q.bd := by
 unfold routcome at hf
 obtain ⟨p, hp, hf⟩ := Option.bind_eq_some_iff.1 hf
 have hb := text_bd h hp
 split at hf
 ·split at hf
  ·obtain ⟨rfl, rfl⟩ := Prod.mk.inj (Zi hf)
   exact hb
  ·split at hf
   ·obtain ⟨x, _, hf⟩ := Option.bind_eq_some_iff.1 hf
    split at hf
    ·obtain ⟨rfl, rfl⟩ := Prod.mk.inj (Zi hf)
     exact hb
    ·exact rroot_bd hb hf
   ·exact rroot_bd hb hf
 ·obtain ⟨rfl, rfl⟩ := Prod.mk.inj (Zi hf)
  exact hb
theorem rsmall_bd {r q : Rdr} {o v : BitVec 64} {it : It} (h : r.bd) (hf : rsmall r o it = some (v, q)) : q.bd := by
 unfold rsmall at hf
 split at hf
 ·obtain ⟨p, hp, hf⟩ := Option.bind_eq_some_iff.1 hf
  split at hf
  ·obtain ⟨rfl, rfl⟩ := Prod.mk.inj (Zi hf)
   exact h
  ·obtain ⟨x, hx, hf⟩ := Option.bind_eq_some_iff.1 hf
   obtain ⟨rfl, rfl⟩ := Prod.mk.inj (Zi hf)
   exact refuse_bd h (by omega) hx
 ·obtain ⟨rfl, rfl⟩ := Prod.mk.inj (Zi hf)
  exact h
theorem rbloom_bd {r q : Rdr} {o v : Vector (BitVec 8) 256} {it : It} (h : r.bd) (hf : rbloom r o it = some (v, q)) : q.bd := by
 unfold rbloom at hf
 obtain ⟨p, hp, hf⟩ := Option.bind_eq_some_iff.1 hf
 have hb := text_bd h hp
 split at hf
 ·obtain ⟨x, hx, hf⟩ := Option.bind_eq_some_iff.1 hf
  obtain ⟨rfl, rfl⟩ := Prod.mk.inj (Zi hf)
  exact hb
 ·obtain ⟨rfl, rfl⟩ := Prod.mk.inj (Zi hf)
  exact hb
theorem parselog_bd {it : It} {x : Log} {e : Int} (hf : receipt_ParseLog it = some (x, e)) : 0 ≤ e ∧ e ≤ 1000 := by
 unfold receipt_ParseLog at hf
 obtain ⟨p, hp, hf⟩ := Option.bind_eq_some_iff.1 hf
 have hb := list_bd (r := ⟨0⟩) ⟨Int.le_refl _, by decide⟩ hp
 split at hf
 ·obtain ⟨x0, _, hf⟩ := Option.bind_eq_some_iff.1 hf
  obtain ⟨a, ha, hf⟩ := Option.bind_eq_some_iff.1 hf
  have hb2 := text_bd hb ha
  obtain ⟨ad, _, hf⟩ := Option.bind_eq_some_iff.1 hf
  obtain ⟨x1, _, hf⟩ := Option.bind_eq_some_iff.1 hf
  obtain ⟨t, ht, hf⟩ := Option.bind_eq_some_iff.1 hf
  have hb3 := topics_bd hb2 ht
  obtain ⟨x2, _, hf⟩ := Option.bind_eq_some_iff.1 hf
  obtain ⟨d, hd, hf⟩ := Option.bind_eq_some_iff.1 hf
  have hb4 := text_bd hb3 hd
  split at hf
  ·split at hf
   ·obtain ⟨rfl, rfl⟩ := Prod.mk.inj (Zi hf); omega
   ·obtain ⟨rfl, rfl⟩ := Prod.mk.inj (Zi hf); omega
  ·obtain ⟨rfl, rfl⟩ := Prod.mk.inj (Zi hf); exact hb4
 ·obtain ⟨rfl, rfl⟩ := Prod.mk.inj (Zi hf); omega
theorem logsF_bd : ∀ {its : List It} {r q : Rdr} {l l2 : List Log}, r.bd → rlogsF r l its = some (l2, q) → q.bd
 | [], r, q, l, l2, h, hf => by
  obtain ⟨rfl, rfl⟩ := Prod.mk.inj (Zi hf)
  exact h
 | it :: its, r, q, l, l2, h, hf => by
  unfold rlogsF at hf
  obtain ⟨p, hp, hf⟩ := Option.bind_eq_some_iff.1 hf
  split at hf
  ·split at hf
   ·exact logsF_bd h hf
   ·cases hf
  ·obtain ⟨x, hx, hf⟩ := Option.bind_eq_some_iff.1 hf
   obtain ⟨rfl, rfl⟩ := Prod.mk.inj (Zi hf)
   exact refuse_bd h (parselog_bd hp) hx
theorem logs_bd {r q : Rdr} {it : It} {l0 l : List Log} (h : r.bd) (hf : rlogs r l0 it = some (l, q)) : q.bd := by
 unfold rlogs at hf
 obtain ⟨p, hp, hf⟩ := Option.bind_eq_some_iff.1 hf
 exact logsF_bd (list_bd h hp) hf
end Go.Fw
namespace Go.Fw.Tryd
open Go Go.Proofs Go.Fw
theorem set_here {l : List Value} {i : Nat} {v : Value} (h : l[i]? = some v) : l.set i v = l := by
 obtain ⟨h1, h2⟩ := List.getElem?_eq_some_iff.1 h
 subst h2
 exact List.set_getElem_self h1
theorem spl_here {l vs : List Value} {off : Nat} (h : ∀ k u, vs[k]? = some u → l[off + k]? = some u) (hb : off + vs.length ≤ l.length) : spl l off vs = l := by
 apply List.ext_getElem?
 intro i
 unfold spl
 by_cases h1 : i < off
 ·rw [List.append_assoc, List.getElem?_append_left (by rw [List.length_take]; omega), List.getElem?_take, if_pos h1]
 ·by_cases h2 : i < off + vs.length
  ·rw [List.append_assoc, List.getElem?_append_right (by rw [List.length_take]; omega), List.length_take, Nat.min_eq_left (by omega), List.getElem?_append_left (by omega)]
   have h3 := h (i - off) (vs[i - off]'(by omega)) (List.getElem?_eq_getElem (by omega))
   rw [show off + (i - off) = i by omega] at h3
   rw [h3, List.getElem?_eq_getElem]
  ·rw [List.getElem?_append_right (by rw [List.length_append, List.length_take]; omega), List.length_append, List.length_take, Nat.min_eq_left (by omega), List.getElem?_drop, show off + vs.length + (i - (off + vs.length)) = i by omega]
abbrev LogZ : LogC := ⟨Vector.replicate 20 0#8, .slice none 0 0, .slice none 0 0⟩
def LgZ : Lg := ⟨Vector.replicate 20 0#8, none, [], 0, [], none, [], 0, []⟩
theorem LgZ_ok : LgZ.Ok := ⟨OwnS.nil, OwnS.nil⟩
theorem nil2 {w0 w : World} {M : List Ent} {o o2 : Obj} (m : Mem w0 w M) : Mem w0 w ((none, o) :: (none, o2) :: M) := (m.nil_ent _).nil_ent _
def DecO (w0 : World) (x : Rcpt) (e : Int) : Value → List Ent → Prop := fun v G => ∃ (gs : List Lg) (ob : Option Nat) (c : Nat) (r : List Value) (B : List Ent), (∀ g ∈ gs, g.Ok) ∧ OwnS ob gs.length c 22 (lgC gs) r ∧ gs.map Lg.val = x.logs ∧ (-9223372036854775808 ≤ e ∧ e ≤ 9223372036854775807) ∧ (-9223372036854775808 ≤ x.kind ∧ x.kind ≤ 9223372036854775807) ∧
 v = .tuple #[.agg (⟨x.kind, x.rooted, x.root, x.status, x.used, x.bloom, sl ob 0 gs.length c⟩ : RcptC).C.toArray, .int .i64 e] ∧ G = (ob, blk (lgC gs ++ r) 63) :: (lgs 24 5 gs ++ B)
theorem DecO.zero {w0 : World} {e : Int} (he : -9223372036854775808 ≤ e ∧ e ≤ 9223372036854775807) (B : List Ent) : DecO w0 Rcpt.zero e (.tuple #[.agg RcptZ.C.toArray, .int .i64 e]) ((none, blk [] 63) :: B) :=
 ⟨[], none, 0, [], B, (fun g hg => by cases hg), OwnS.nil, rfl, he, (by show _ ≤ (0 : Int) ∧ (0 : Int) ≤ _; omega), rfl, rfl⟩
theorem DecO.rd {w0 : World} {Φ : Ctx} {x : Rcpt} {e : Int} {v : Value} {G : List Ent} (h : DecO w0 x e v G) : ∃ B : List Ent, ∃ cr0 : List Value, RcptRd (More w0 Φ B) cr0 x ∧ (-9223372036854775808 ≤ e ∧ e ≤ 9223372036854775807) ∧ v = .tuple #[.agg cr0.toArray, .int .i64 e] ∧ G = B := by
 obtain ⟨gs, ob, c, r, B, hok, ho, hv, he, hk, rfl, rfl⟩ := h
 refine ⟨_, _, ?_, he, rfl, rfl⟩
 have hvl := ho.view (te := 63) (w0 := w0) (Ψ := More w0 Φ ((ob, blk (lgC gs ++ r) 63) :: (lgs 24 5 gs ++ B))) (by decide) (fun w q => q.2.sublist (List.singleton_sublist.2 (List.mem_cons_self ..)))
 have hrl := lgs_reps (w0 := w0) (Φ := More w0 Φ ((ob, blk (lgC gs ++ r) 63) :: (lgs 24 5 gs ++ B))) (tH := 24) (tB := 5) hok (fun w q => q.2.tail.appL)
 obtain ⟨k, ro, rt, st, us, bl, lg⟩ := x
 dsimp only at hv hk ⊢
 subst hv
 have hvl2 : View (More w0 Φ ((ob, blk (lgC gs ++ r) 63) :: (lgs 24 5 gs ++ B))) (ob.map fun k => ⟨k, 0, none⟩) (gs.map Lg.val).length c 22 (lgC gs) := by rw [List.length_map]; exact hvl
 have := RcptRd.mk (kind := k) (rooted := ro) (root := rt) (status := st) (used := us) (bloom := bl) (logs := gs.map Lg.val) hk hvl2 hrl
 rw [List.length_map] at this
 exact this
theorem own_rcpt {w0 : World} {Φ : Ctx} {gs : List Lg} {ob : Option Nat} {c : Nat} {r : List Value} {x : Rcpt} (hok : ∀ g ∈ gs, g.Ok) (ho : OwnS ob gs.length c 22 (lgC gs) r) (hv : gs.map Lg.val = x.logs) (hk : -9223372036854775808 ≤ x.kind ∧ x.kind ≤ 9223372036854775807) (hm : ∀ w, Φ w → Mem w0 w ((ob, blk (lgC gs ++ r) 63) :: lgs 24 5 gs)) :
  RcptRd Φ (⟨x.kind, x.rooted, x.root, x.status, x.used, x.bloom, sl ob 0 gs.length c⟩ : RcptC).C x := by
 have hvl := ho.view (te := 63) (w0 := w0) (Ψ := Φ) (by decide) (fun w q => (hm w q).sublist (List.singleton_sublist.2 (List.mem_cons_self ..)))
 have hrl := lgs_reps (w0 := w0) (Φ := Φ) (tH := 24) (tB := 5) hok (fun w q => (hm w q).tail)
 obtain ⟨k, ro, rt, st, us, bl, lg⟩ := x
 dsimp only at hv hk ⊢
 subst hv
 have hvl2 : View Φ (ob.map fun k => ⟨k, 0, none⟩) (gs.map Lg.val).length c 22 (lgC gs) := by rw [List.length_map]; exact hvl
 have := RcptRd.mk (kind := k) (rooted := ro) (root := rt) (status := st) (used := us) (bloom := bl) (logs := gs.map Lg.val) hk hvl2 hrl
 rw [List.length_map] at this
 exact this
end Go.Fw.Tryd
namespace Go.Fw
def waybillref02_filled.l1 : Nat → (List (BitVec 8)) → Option ((List (BitVec 8)))
 | 0, _ => none
 | k41 + 1, l36 => (if (l36.length % 136) = 0 then (some (l36)) else (if l36.length + ([0#8] : List (BitVec 8)).length ≤ 140737488355328 then (waybillref02_filled.l1 k41 (l36 ++ ([0#8] : List (BitVec 8)))) else none))
def waybillref02_filled (a0 : List (BitVec 8)) (a1 : BitVec 8) : Option ((List (BitVec 8))) := (if a0.length + ([a1] : List (BitVec 8)).length ≤ 140737488355328 then (((waybillref02_filled.l1 140 (a0 ++ ([a1] : List (BitVec 8)))) : Option ((List (BitVec 8)))).bind fun l17 => (if 0 ≤ (((l17.length : Nat) : Int) - (1 : Int)) then (l17[((((l17.length : Nat) : Int) - (1 : Int))).toNat]?).bind fun x29 => (l17[((((l17.length : Nat) : Int) - (1 : Int))).toNat]?).bind fun x32 => (some (l17.set (((((l17.length : Nat) : Int) - (1 : Int))).toNat) (x29 ||| 128#8))) else none)) else none)
def waybillref02_joined.l1 (a0 : List (List (BitVec 8))) : Nat → (List (BitVec 8)) → (Nat) → Option ((List (BitVec 8)))
 | 0, _, _ => none
 | k22 + 1, l15, n20 => (if n20 < a0.length then (a0[n20]?).bind fun x31 => (if l15.length + x31.length ≤ 140737488355328 then (waybillref02_joined.l1 a0 k22 (l15 ++ x31) (n20 + 1)) else none) else (some (l15)))
def waybillref02_joined (a0 : List (List (BitVec 8))) : Option ((List (BitVec 8))) := (((waybillref02_joined.l1 a0 (a0.length - 0 + 2) ([] : List (BitVec 8)) 0) : Option ((List (BitVec 8)))).bind fun l4 => (some l4))
def waybillref02_Digest.l1 (w18 : Vector (BitVec 64) 25) : Nat → (Nat) → (Vector (BitVec 8) 32) → Option ((Vector (BitVec 8) 32))
 | 0, _, _ => none
 | k36 + 1, n33, w35 => (if n33 < 32 then (if (n33 / 8) < 25 then (w18[(n33 / 8)]?).bind fun x45 => (waybillref02_Digest.l1 w18 k36 (n33 + 1) (w35.setIfInBounds n33 ((x45 >>> (BitVec.ofNat 64 (8 * (n33 % 8))).toNat).setWidth 8))) else none) else (some (w35)))
def waybillref02_Digest.l3 (x4 : List (BitVec 8)) (n47 : Nat) : Nat → (Nat) → (Vector (BitVec 64) 25) → Option ((Vector (BitVec 64) 25))
 | 0, _, _ => none
 | k75 + 1, n72, w74 => (if n72 < 136 then (if (n72 / 8) < 25 then (w74[(n72 / 8)]?).bind fun x85 => (x4[(n47 + n72)]?).bind fun x87 => (waybillref02_Digest.l3 x4 n47 k75 (n72 + 1) (w74.setIfInBounds (n72 / 8) (x85 ^^^ ((x87.setWidth 64) <<< (BitVec.ofNat 64 (8 * (n72 % 8))).toNat)))) else none) else (some (w74)))
def waybillref02_Digest.l2 (x4 : List (BitVec 8)) : Nat → (Nat) → (Vector (BitVec 64) 25) → Option ((Vector (BitVec 64) 25))
 | 0, _, _ => none
 | k50 + 1, n47, w49 => (if n47 < x4.length then (((waybillref02_Digest.l3 x4 n47 (136 - 0 + 2) 0 w49) : Option ((Vector (BitVec 64) 25))).bind fun w61 => ((keccak_Permute w61).bind fun x69 => (waybillref02_Digest.l2 x4 k50 (n47 + 136) x69))) else (some (w49)))
def waybillref02_Digest (a0 : List (BitVec 8)) (a1 : BitVec 8) : Option ((Vector (BitVec 8) 32)) := ((waybillref02_filled a0 a1).bind fun x4 => (((waybillref02_Digest.l2 x4 (x4.length - 0 + 2) 0 (Vector.replicate 25 0#64)) : Option ((Vector (BitVec 64) 25))).bind fun w18 => (((waybillref02_Digest.l1 w18 (32 - 0 + 2) 0 (Vector.replicate 32 0#8)) : Option ((Vector (BitVec 8) 32))).bind fun w27 => (some w27))))
def waybillref02_Sum (a0 : List (List (BitVec 8))) : Option ((Vector (BitVec 8) 32)) := ((waybillref02_joined a0).bind fun x4 => ((waybillref02_Digest x4 (1#8)).bind fun x17 => (some x17)))
end Go.Fw
namespace Go.Fw
def waybillref10_Places.l1 (x9 : Vector (BitVec 8) 32) : Nat → (Nat) → (Vector (Int) 3) → Option ((Vector (Int) 3))
 | 0, _, _ => none
 | k25 + 1, n22, w24 => (if n22 < 3 then (if (2 * n22) < 32 then (x9[(2 * n22)]?).bind fun x34 => (if ((2 * n22) + 1) < 32 then (x9[((2 * n22) + 1)]?).bind fun x38 => (waybillref10_Places.l1 x9 k25 (n22 + 1) (w24.setIfInBounds n22 ((((256 * x34.toNat) + x38.toNat) % 2048 : Nat) : Int))) else none) else none) else (some (w24)))
def waybillref10_Places (a0 : List (BitVec 8)) : Option ((Vector (Int) 3)) := ((waybillref02_Sum ([a0] : List (List (BitVec 8)))).bind fun x9 => (((waybillref10_Places.l1 x9 (3 - 0 + 2) 0 (Vector.replicate 3 0)) : Option ((Vector (Int) 3))).bind fun w16 => (some w16)))
def waybillref10_set (a0 : Vector (BitVec 8) 256) (a1 : Int) : Option ((Vector (BitVec 8) 256)) := (if 0 ≤ a1 then (if 0 ≤ ((255 : Int) - (((a1).toNat / 8 : Nat) : Int)) then (if (((255 : Int) - (((a1).toNat / 8 : Nat) : Int))).toNat < 256 then (a0[(((255 : Int) - (((a1).toNat / 8 : Nat) : Int))).toNat]?).bind fun x6 => (some (a0.setIfInBounds ((((255 : Int) - (((a1).toNat / 8 : Nat) : Int))).toNat) (x6 ||| (1#8 <<< (BitVec.ofNat 64 ((a1).toNat % 8)).toNat)))) else none) else none) else none)
def waybillref10_Add (a0 : Vector (BitVec 8) 256) (a1 : List (BitVec 8)) : Option ((Vector (BitVec 8) 256)) := ((waybillref10_Places a1).bind fun x5 => (if -9223372036854775808 ≤ x5[0] ∧ x5[0] ≤ 9223372036854775807 then ((waybillref10_set a0 (x5[0])).bind fun x11 => (if -9223372036854775808 ≤ x5[1] ∧ x5[1] ≤ 9223372036854775807 then ((waybillref10_set x11 (x5[1])).bind fun x16 => (if -9223372036854775808 ≤ x5[2] ∧ x5[2] ≤ 9223372036854775807 then ((waybillref10_set x16 (x5[2])).bind fun x21 => (some x21)) else none)) else none)) else none))
def waybillref10_Of.l1 (a0 : List (List (BitVec 8))) : Nat → (Nat) → (Vector (BitVec 8) 256) → Option ((Vector (BitVec 8) 256))
 | 0, _, _ => none
 | k15 + 1, n12, w14 => (if n12 < a0.length then (a0[n12]?).bind fun x23 => ((waybillref10_Add w14 x23).bind fun x35 => (waybillref10_Of.l1 a0 k15 (n12 + 1) x35)) else (some (w14)))
def waybillref10_Of (a0 : List (List (BitVec 8))) : Option ((Vector (BitVec 8) 256)) := (((waybillref10_Of.l1 a0 (a0.length - 0 + 2) 0 (Vector.replicate 256 0#8)) : Option ((Vector (BitVec 8) 256))).bind fun w6 => (some w6))
end Go.Fw
namespace Go.Fw
open Go Go.RowKit
section
variable {P : Program} [Types P] {n : Nat} {Q : Exit → Act → World → Prop} {w0 : World} {L : Z132} {M : List Ent}
variable {ops : Array Oper} {rest : List Oper} {ty1 : TypeId} {pos : String} {aft : Array Edge} {d : Nat} {v : Value} {x y : Operand} {t e : TypeId}
theorem OW.appendIn {i : TI} {b : Nat} {len cap m c s : Nat} {l r vs : List Value} {B : Option Addr} {t2 e2 : TypeId} (hx : ev L x = some (sl (some b) 0 len cap)) (hy : ev L y = some (.slice B m c)) (ht : tyU P t = some (.slice e)) (hi : ty P e = some i) (hs : i.sz = s) (ht2 : tyU P t2 = some (.slice e2))
  (hl : l.length = len * s) (hr : (l ++ r).length = cap * s) (hR : Mem.Says w0 ((some b, blk (l ++ r) e) :: M) (fun w => Rd w B vs)) (hvl : vs.length = m * s) (hv1 : ∀ u ∈ vs, u.oneCell' = true) (hB : B = none → m = 0) (hspos : 0 < s)
  (hroom : len + m ≤ cap) (hd : Nat.blt d n = true)
  (k : OW P n ops Q w0 rest ((d, sl (some b) 0 (len + m) cap) :: L) ((some b, blk (l ++ vs ++ r.drop vs.length) e) :: M)) :
  OW P n ops Q w0 (⟨some d, .call ⟨.builtin .append, #[x, y], #[t, t2]⟩, ty1, pos, aft, none⟩ :: rest) L ((some b, blk (l ++ r) e) :: M) := by
 refine OW.av (τ := Unit) (I := fun _ => True) (v := fun _ => sl (some b) 0 (len + m) cap) (M' := fun _ => (some b, blk (l ++ vs ++ r.drop vs.length) e) :: M) (fun ρ w hρ mm o ho => ?_) hd (fun _ _ => k)
 obtain ⟨hu, ti, g1, g2, g3, g4⟩ := ty_ok hi
 have hrd := hR w mm
 have hsrc : Src P ti.size t2 (.slice B m c) m vs w := by rw [g2, hs]; exact rd_src ht2 hrd hvl hv1 hB
 have hrun : ∀ (v' : Value) (w' : World), (Builtin.append_ #[t, t2] o.type #[sl (some b) 0 len cap, .slice B m c]).run P w = .ok v' w' → (execOp ρ o).run P w = .ok (.value v') w' := fun v' w' hh => by
  simp [execOp, ho, resolve, hρ x _ hx, hρ y _ hy, invoke, builtin, hh]
 have hsz : ti.size = s := by rw [g2, hs]
 have hm := mm.ents _ (List.mem_cons_self ..) b rfl
 have hlen : l.length + vs.length ≤ (l ++ r).length := by rw [hl, hvl, hr, ← Nat.add_mul]; exact Nat.mul_le_mul_right _ hroom
 have hra := run_append_room_src (P := P) w t t2 o.type e ti (tyU_ok ht) g1 b 0 len cap (.slice B m c) m vs hsrc hroom (fun j hj => by
   rw [mm.cell (List.mem_cons_self ..), hsz]
   have : 0 + len * s + j < (l ++ r).length := by omega
   rw [List.getElem?_eq_getElem this]; rfl) (fun j hj => mm.notFrozen (List.mem_cons_self ..) _)
 rw [hsz] at hra
 have hset : w.setCells b (0 + len * s) vs = w.setRow b ((l ++ r).toArray.toList.take (0 + len * s) ++ vs ++ (l ++ r).toArray.toList.drop (0 + len * s + vs.length)).toArray := by
  have q1 := run_storeCells_at (P := P) b (0 + len * s) e vs 0 (l ++ r).toArray w hm.2 (by simp; simp at hlen; omega) hv1
  have q2 := run_storeCells_cells (P := P) b (0 + len * s) vs 0 w (fun j hj => by
   rw [mm.cell (List.mem_cons_self ..)]
   have : 0 + len * s + 0 + j < (l ++ r).length := by omega
   rw [List.getElem?_eq_getElem this]; rfl) (fun j hj => mm.notFrozen (List.mem_cons_self ..) _) hv1
  rw [q1] at q2
  simp only [Nat.add_zero] at q2
  injection q2 with _ q3
  exact q3.symm
 rw [hset] at hra
 refine ⟨(), _, trivial, hrun _ _ (by simpa [sl] using hra), mm.turned (w' := w.setRow b _) rfl rfl rfl (by simp [World.setRow]) ?_ ?_⟩
 ·intro b' hb'
  cases hb'
  rw [setRow_heap w b (l ++ r).toArray _ e (0, 0) hm.2]
  simp only [blk]
  simp [← hl, List.drop_append]
 ·intro kk hk
  exact setRow_other _ _ _ _ (fun e => hk (by rw [e]))
def Grw (tb : Option Nat) (l : List Value) (rl : Nat) (e : TypeId) (ob : Option Nat) (cur r : List Value) (X : List Ent) : Prop :=
 (ob = tb ∧ X = [] ∧ ∃ ex : List Value, cur = l ++ ex ∧ ex.length + r.length = rl) ∨ (∃ tr : List Value, tr.length = rl ∧ X = [(tb, blk (l ++ tr) e)])
theorem Grw.start (tb : Option Nat) (l r : List Value) (e : TypeId) : Grw tb l r.length e tb l r [] := .inl ⟨rfl, rfl, [], by simp, by simp⟩
theorem Grw.fin {tb ob : Option Nat} {l cur r : List Value} {rl : Nat} {e : TypeId} {X : List Ent} (h : Grw tb l rl e ob cur r X) : ∃ tr : List Value, tr.length = rl ∧ ∀ (w0 w : World) (K : List Ent), Mem w0 w ((ob, blk (cur ++ r) e) :: (X ++ K)) → Mem w0 w ((tb, blk (l ++ tr) e) :: K) := by
 rcases h with ⟨rfl, rfl, ex, rfl, hl⟩ | ⟨tr, hl, rfl⟩
 ·exact ⟨ex ++ r, by rw [List.length_append]; exact hl, fun w0 w K m => by rw [List.append_assoc] at m; exact m⟩
 ·exact ⟨tr, hl, fun w0 w K m => m.tail⟩
theorem OW.appendGw {i : TI} {tb ob : Option Nat} {l0 cur r vs : List Value} {rl : Nat} {X : List Ent} {len cap m c s : Nat} {B : Option Addr} {t2 e2 : TypeId} (hG : Grw tb l0 rl e ob cur r X) (hO : OwnS ob len cap s cur r)
  (hx : ev L x = some (sl ob 0 len cap)) (hy : ev L y = some (.slice B m c)) (ht : tyU P t = some (.slice e)) (hi : ty P e = some i) (hs : i.sz = s) (ht2 : tyU P t2 = some (.slice e2))
  (hR : Mem.Says w0 ((ob, blk (cur ++ r) e) :: (X ++ M)) (fun w => Rd w B vs)) (hvl : vs.length = m * s) (hv1 : ∀ u ∈ vs, u.oneCell' = true) (hB : B = none → m = 0) (hspos : 0 < s) (hm0 : 0 < m)
  (hby : 0 < i.bytes) (hb : (len + m) * i.bytes ≤ 140737488355328) (hz : i.z.cells.size = s) (hd : Nat.blt d n = true) (len' : Nat) (l' : List Value) (hlen : len + m = len') (hcs : cur ++ vs = l')
  (k : ∀ (ob' : Option Nat) (r' : List Value) (cap' : Nat) (X' : List Ent), Grw tb l0 rl e ob' l' r' X' → OwnS ob' len' cap' s l' r' → OW P n ops Q w0 rest ((d, sl ob' 0 len' cap') :: L) ((ob', blk (l' ++ r') e) :: (X' ++ M))) :
  OW P n ops Q w0 (⟨some d, .call ⟨.builtin .append, #[x, y], #[t, t2]⟩, ty1, pos, aft, none⟩ :: rest) L ((ob, blk (cur ++ r) e) :: (X ++ M)) := by
 have hm : len + m ≤ (len + m) * i.bytes := Nat.le_mul_of_pos_right _ hby
 have hle := hO.le hspos
 subst hlen hcs
 by_cases hroom : len + m ≤ cap
 ·cases ob with
  | none => have := hO.hn rfl; omega
  | some b =>
   have h1 := hO.n
   have h2 := hO.hr
   have h3 : vs.length ≤ r.length := by
    rw [List.length_append] at h2
    have := Nat.mul_le_mul_right s hroom
    rw [Nat.add_mul] at this
    omega
   refine OW.appendIn hx hy ht hi hs ht2 hO.n hO.hr hR hvl hv1 hB hspos hroom hd (k (some b) (r.drop vs.length) cap X ?_ ⟨by rw [List.length_append, h1, hvl, Nat.add_mul], by rw [← h2]; simp; omega, (fun h => nomatch h), by omega⟩)
   rcases hG with ⟨g1, g2, ex, g3, g4⟩ | ⟨tr, g1, g2⟩
   ·exact .inl ⟨g1, g2, ex ++ vs, by rw [g3, List.append_assoc], by rw [List.length_append, List.length_drop]; omega⟩
   ·exact .inr ⟨tr, g1, g2⟩
 ·refine OW.appendG (A := ob.map fun k => ⟨k, 0, none⟩) hx hy ht hi hs ht2 hO.n (fun w mm => ?_) (fun h => ?_) hR hvl hv1 hB (by omega) (by omega) hb hz hd (fun b' r' cap' hc => ?_)
  ·exact ((hO.view (te := e) (w0 := w0) (Ψ := fun w => Mem w0 w ((ob, blk (cur ++ r) e) :: (X ++ M))) hspos (fun w q => q.sublist (List.singleton_sublist.2 (List.mem_cons_self ..)))).rd w mm)
  ·have : ob = none := by cases ob <;> simp_all
   have := hO.hn this
   omega
  ·have hown : OwnS (some b') (len + m) cap' s (cur ++ vs) r' := ⟨by rw [List.length_append, hO.n, hvl, Nat.add_mul], hc, (fun h => nomatch h), by omega⟩
   rcases hG with ⟨g1, g2, ex, g3, g4⟩ | ⟨tr, g1, g2⟩
   ·subst g1 g2 g3
    refine Z20 (M' := (some b', blk (l0 ++ ex ++ vs ++ r') e) :: ([(ob, blk (l0 ++ (ex ++ r)) e)] ++ M)) (fun w m => by rw [List.append_assoc l0 ex r] at m; exact m) ?_
    exact k (some b') r' cap' [(ob, blk (l0 ++ (ex ++ r)) e)] (.inr ⟨ex ++ r, by rw [List.length_append]; exact g4, rfl⟩) hown
   ·subst g2
    refine Z20 (M' := (some b', blk (cur ++ vs ++ r') e) :: ([(tb, blk (l0 ++ tr) e)] ++ M)) (fun w m => m.pick [0, 2] 3 rfl rfl) ?_
    exact k (some b') r' cap' _ (.inr ⟨tr, g1, rfl⟩) hown
end
theorem Mem.swapX {w0 w : World} {a b : Ent} {X Y K : List Ent} (m : Mem w0 w (a :: (X ++ (b :: (Y ++ K))))) : Mem w0 w (b :: (Y ++ (a :: (X ++ K)))) :=
 m.perm (by
  have h := List.perm_append_comm_assoc (a :: X) (b :: Y) K
  simpa only [List.cons_append] using h)
end Go.Fw
namespace Go.Fw
def waybilllaw17_stand.l2 (a0 : List (Log)) (a1 : BitVec 8) (n9 : Nat) : Nat → (Nat) → Option (Lp (Lp ((Bool)) (Unit)) (Unit))
 | 0, _ => none
 | k35 + 1, n33 => (a0[n9]?).bind fun x42 => (if n33 < x42.data.length then (a0[n9]?).bind fun x61 => (x61.data[n33]?).bind fun x79 => (if x79 = (a1 + (BitVec.ofNat 8 (n9 % 8))) then (waybilllaw17_stand.l2 a0 a1 n9 k35 (n33 + 1)) else (some (Lp.ret (some (Lp.ret (some false)))))) else (some (Lp.go ())))
def waybilllaw17_stand.l3 (a0 : List (Log)) (a1 : BitVec 8) (n9 : Nat) : Nat → (Nat) → Option (Lp (Lp ((Bool)) (Unit)) (Unit))
 | 0, _ => none
 | k85 + 1, n83 => (a0[n9]?).bind fun x92 => (if n83 < x92.topics.length then (a0[n9]?).bind fun x111 => (x111.topics[n83]?).bind fun x129 => (if x129 = ((((Vector.replicate 32 0#8).setIfInBounds 0 a1).setIfInBounds 1 (BitVec.ofNat 8 n9)).setIfInBounds 2 (BitVec.ofNat 8 (n9 / 256))) then (waybilllaw17_stand.l3 a0 a1 n9 k85 (n83 + 1)) else (some (Lp.ret (some (Lp.ret (some false)))))) else (some (Lp.go ())))
def waybilllaw17_stand.l1 (a0 : List (Log)) (a1 : BitVec 8) : Nat → (Nat) → Option (Lp ((Bool)) (Unit))
 | 0, _ => none
 | k11 + 1, n9 => (if n9 < a0.length then (((waybilllaw17_stand.l3 a0 a1 n9 (((a0[n9]?)).elim 2 fun x87 => (x87.topics.length - 0 + 2)) 0) : Option (Lp (Lp ((Bool)) (Unit)) (Unit))).bind fun | .ret o => o | .go () => (((waybilllaw17_stand.l2 a0 a1 n9 (((a0[n9]?)).elim 2 fun x37 => (x37.data.length - 0 + 2)) 0) : Option (Lp (Lp ((Bool)) (Unit)) (Unit))).bind fun | .ret o => o | .go () => (waybilllaw17_stand.l1 a0 a1 k11 (n9 + 1)))) else (some (Lp.go ())))
def waybilllaw17_stand (a0 : List (Log)) (a1 : BitVec 8) : Option ((Bool)) := (((waybilllaw17_stand.l1 a0 a1 (a0.length - 0 + 2) 0) : Option (Lp ((Bool)) (Unit))).bind fun | .ret o => o | .go () => (some true))
end Go.Fw
namespace Go.Fw
open Go
def wh (mark : BitVec 8) (i : Nat) : Vector (BitVec 8) 32 := ((((Vector.replicate 32 0#8).setIfInBounds 0 mark).setIfInBounds 1 (BitVec.ofNat 8 i)).setIfInBounds 2 (BitVec.ofNat 8 (i / 256)))
def wd (mark : BitVec 8) (i : Nat) : BitVec 8 := mark + BitVec.ofNat 8 (i % 8)
def gh (mark : BitVec 8) (j : BitVec 8) : Vector (BitVec 8) 32 := ((Vector.replicate 32 0#8).setIfInBounds 0 (mark + 9#8)).setIfInBounds 1 j
structure SameG (gs hs : List Lg) : Prop where
 c : lgC hs = lgC gs
 n : hs.length = gs.length
 ok : ∀ g ∈ hs, g.Ok
def Wrt (mark : BitVec 8) (j : Nat) (hs : List Lg) : Prop := ∀ (k : Nat) g, hs[k]? = some g → k < j → (∀ x ∈ g.t, x = wh mark k) ∧ ∀ y ∈ g.d, y = wd mark k
theorem lgs_split {tH tB : TypeId} {g : Lg} : ∀ {l : List Lg} {i : Nat}, l[i]? = some g → List.Perm (lgs tH tB l) (g.ents tH tB ++ lgs tH tB (l.eraseIdx i))
 | [], i, h => by simp at h
 | x :: l, 0, h => by
  simp at h
  subst h
  exact List.Perm.refl _
 | x :: l, i + 1, h => by
  have h1 := lgs_split (tH := tH) (tB := tB) (l := l) (i := i) (by simpa using h)
  rw [List.eraseIdx_cons_succ, lgs_cons, lgs_cons]
  exact (List.Perm.append_left _ h1).trans (List.perm_append_comm_assoc ..)
theorem lgs_join {tH tB : TypeId} {g : Lg} {l : List Lg} {i : Nat} (hi : i < l.length) : List.Perm (g.ents tH tB ++ lgs tH tB (l.eraseIdx i)) (lgs tH tB (l.set i g)) := by
 have h := lgs_split (tH := tH) (tB := tB) (l := l.set i g) (i := i) (g := g) (by rw [List.getElem?_set_self hi])
 rw [List.eraseIdx_set_eq] at h
 exact h.symm
theorem lgC_set {g g' : Lg} (hc : g'.cells = g.cells) : ∀ {l : List Lg} {i : Nat}, l[i]? = some g → lgC (l.set i g') = lgC l
 | [], i, h => by simp at h
 | x :: l, 0, h => by
  simp at h
  subst h
  rw [List.set_cons_zero, lgC, List.flatMap_cons, hc]; rfl
 | x :: l, i + 1, h => by
  have h1 := lgC_set hc (l := l) (i := i) (by simpa using h)
  rw [List.set_cons_succ, lgC, List.flatMap_cons, show (l.set i g').flatMap Lg.cells = lgC l from h1]; rfl
theorem Mem.outG {w0 w : World} {tH tB : TypeId} {a : Ent} {l : List Lg} {i : Nat} {g : Lg} {N : List Ent} (h : l[i]? = some g) (m : Mem w0 w (a :: (lgs tH tB l ++ N))) : Mem w0 w ((g.tb, blk (hs32 g.t ++ g.tr) tH) :: (g.db, blk (u8s g.d ++ g.dr) tB) :: a :: (lgs tH tB (l.eraseIdx i) ++ N)) := by
 refine m.perm ?_
 have h1 := List.Perm.append_right N (lgs_split (tH := tH) (tB := tB) h)
 have h2 : List.Perm (a :: (lgs tH tB l ++ N)) (a :: (g.tb, blk (hs32 g.t ++ g.tr) tH) :: (g.db, blk (u8s g.d ++ g.dr) tB) :: (lgs tH tB (l.eraseIdx i) ++ N)) := List.Perm.cons _ h1
 refine h2.trans ?_
 refine (List.Perm.swap ..).trans (List.Perm.cons _ (List.Perm.swap ..))
theorem Mem.inG {w0 w : World} {tH tB : TypeId} {a : Ent} {l : List Lg} {i : Nat} {g : Lg} {N : List Ent} (hi : i < l.length) (m : Mem w0 w ((g.tb, blk (hs32 g.t ++ g.tr) tH) :: (g.db, blk (u8s g.d ++ g.dr) tB) :: a :: (lgs tH tB (l.eraseIdx i) ++ N))) : Mem w0 w (a :: (lgs tH tB (l.set i g) ++ N)) := by
 refine m.perm ?_
 have h1 := List.Perm.append_right N (lgs_join (tH := tH) (tB := tB) (g := g) hi)
 have h2 : List.Perm (a :: (g.tb, blk (hs32 g.t ++ g.tr) tH) :: (g.db, blk (u8s g.d ++ g.dr) tB) :: (lgs tH tB (l.eraseIdx i) ++ N)) (a :: (lgs tH tB (l.set i g) ++ N)) := List.Perm.cons _ h1
 refine List.Perm.trans ?_ h2
 exact (List.Perm.cons _ (List.Perm.swap ..)).trans (List.Perm.swap ..)
theorem spl_seg {a y b x : List Value} {o : Nat} (ho : o = a.length) (h : y.length = x.length) : spl (a ++ (y ++ b)) o x = a ++ (x ++ b) := by
 subst ho
 unfold spl
 rw [List.take_append_of_le_length (Nat.le_refl _), List.take_length, ← List.append_assoc, List.drop_append, List.drop_of_length_le (by rw [List.length_append]; omega), List.length_append, h, Nat.sub_self, List.drop_zero, List.nil_append, List.append_assoc]
theorem hs32_set {t : List (Vector (BitVec 8) 32)} {k : Nat} (hk : k < t.length) (x : Vector (BitVec 8) 32) (r : List Value) : spl (hs32 t ++ r) (0 + k * 32) (u8s x.toList) = hs32 (t.set k x) ++ r := by
 have hx : (u8s x.toList).length = 32 := (Z102 _).trans Zv
 have e1 : t = t.take k ++ (t[k] :: t.drop (k + 1)) := by rw [← List.drop_eq_getElem_cons hk, List.take_append_drop]
 have e2 : t.set k x = t.take k ++ (x :: t.drop (k + 1)) := List.set_eq_take_append_cons_drop .. |>.trans (if_pos hk)
 have hl : (hs32 (t.take k)).length = k * 32 := by rw [hs32_length, List.length_take, Nat.min_eq_left (by omega)]
 have hy : (u8s (t[k]).toList).length = 32 := (Z102 _).trans Zv
 have e3 : hs32 t = hs32 (t.take k) ++ (u8s (t[k]).toList ++ hs32 (t.drop (k + 1))) := (congrArg hs32 e1).trans (by rw [hs32_app]; rfl)
 have e4 : hs32 (t.set k x) = hs32 (t.take k) ++ (u8s x.toList ++ hs32 (t.drop (k + 1))) := by rw [e2, hs32_app]; rfl
 rw [e3, e4, List.append_assoc, List.append_assoc, List.append_assoc, List.append_assoc]
 exact spl_seg (by omega) (by omega)
theorem set_at {α : Type} {l : List α} {i q : Nat} {a x : α} (h : (l.set i a)[q]? = some x) : (q = i ∧ x = a) ∨ (q ≠ i ∧ l[q]? = some x) := by
 by_cases e : q = i
 ·subst e
  have hl := (List.getElem?_eq_some_iff.1 h).1
  rw [List.length_set] at hl
  rw [List.getElem?_set_self hl] at h
  exact .inl ⟨rfl, (Zi h).symm⟩
 ·rw [List.getElem?_set_ne (fun h => e h.symm)] at h
  exact .inr ⟨e, h⟩
theorem Mem.moveX {w0 w : World} {a b : Ent} {X K : List Ent} (m : Mem w0 w (b :: a :: (X ++ K))) : Mem w0 w (a :: (X ++ (b :: K))) :=
 m.perm ((List.Perm.swap ..).trans (List.Perm.cons _ List.perm_middle.symm))
theorem Mem.dropX {w0 w : World} {a b : Ent} {X K : List Ent} (m : Mem w0 w (a :: (X ++ (b :: K)))) : Mem w0 w (a :: (X ++ K)) :=
 m.sublist (List.Sublist.cons_cons _ (List.Sublist.append (List.Sublist.refl _) (List.sublist_cons_self ..)))
theorem stand2 (l : List Log) (mark : BitVec 8) (i : Nat) (x : Log) (hx : l[i]? = some x) (hd : ∀ y ∈ x.data, y = wd mark i) : ∀ (d j k : Nat), j + d = x.data.length → d < k → waybilllaw17_stand.l2 l mark i k j = some (Lp.go ())
 | 0, j, k, h, hk => by
  obtain ⟨k, rfl⟩ : ∃ m, k = m + 1 := ⟨k - 1, by omega⟩
  rw [waybilllaw17_stand.l2, hx, Zb, if_neg (by omega)]
 | d + 1, j, k, h, hk => by
  obtain ⟨k, rfl⟩ : ∃ m, k = m + 1 := ⟨k - 1, by omega⟩
  have h1 : j < x.data.length := by omega
  rw [waybilllaw17_stand.l2, hx, Zb, if_pos h1, Zb, List.getElem?_eq_getElem h1, Zb, if_pos (show _ = mark + BitVec.ofNat 8 (i % 8) from hd _ (List.getElem_mem h1)), stand2 l mark i x hx hd d (j + 1) k (by omega) (by omega)]
theorem stand3 (l : List Log) (mark : BitVec 8) (i : Nat) (x : Log) (hx : l[i]? = some x) (hd : ∀ y ∈ x.topics, y = wh mark i) : ∀ (d j k : Nat), j + d = x.topics.length → d < k → waybilllaw17_stand.l3 l mark i k j = some (Lp.go ())
 | 0, j, k, h, hk => by
  obtain ⟨k, rfl⟩ : ∃ m, k = m + 1 := ⟨k - 1, by omega⟩
  rw [waybilllaw17_stand.l3, hx, Zb, if_neg (by omega)]
 | d + 1, j, k, h, hk => by
  obtain ⟨k, rfl⟩ : ∃ m, k = m + 1 := ⟨k - 1, by omega⟩
  have h1 : j < x.topics.length := by omega
  rw [waybilllaw17_stand.l3, hx, Zb, if_pos h1, Zb, List.getElem?_eq_getElem h1, Zb, if_pos (show _ = ((((Vector.replicate 32 0#8).setIfInBounds 0 mark).setIfInBounds 1 (BitVec.ofNat 8 i)).setIfInBounds 2 (BitVec.ofNat 8 (i / 256))) from hd _ (List.getElem_mem h1)), stand3 l mark i x hx hd d (j + 1) k (by omega) (by omega)]
theorem stand1 (l : List Log) (mark : BitVec 8) (h : ∀ (k : Nat) x, l[k]? = some x → (∀ t ∈ x.topics, t = wh mark k) ∧ ∀ y ∈ x.data, y = wd mark k) : ∀ (d i k : Nat), i + d = l.length → d < k → waybilllaw17_stand.l1 l mark k i = some (Lp.go ())
 | 0, i, k, he, hk => by
  obtain ⟨k, rfl⟩ : ∃ m, k = m + 1 := ⟨k - 1, by omega⟩
  rw [waybilllaw17_stand.l1, if_neg (by omega)]
 | d + 1, i, k, he, hk => by
  obtain ⟨k, rfl⟩ : ∃ m, k = m + 1 := ⟨k - 1, by omega⟩
  have h1 : i < l.length := by omega
  have hx : l[i]? = some l[i] := List.getElem?_eq_getElem h1
  obtain ⟨h2, h3⟩ := h i _ hx
  rw [waybilllaw17_stand.l1, if_pos h1, hx, Option.elim_some, stand3 l mark i _ hx h2 (l[i]).topics.length 0 _ (by omega) (by omega), Zb]
  dsimp only
  rw [Option.elim_some, stand2 l mark i _ hx h3 (l[i]).data.length 0 _ (by omega) (by omega), Zb]
  dsimp only
  exact stand1 l mark h d (i + 1) k (by omega) (by omega)
theorem stand_true (l : List Log) (mark : BitVec 8) (h : ∀ (k : Nat) x, l[k]? = some x → (∀ t ∈ x.topics, t = wh mark k) ∧ ∀ y ∈ x.data, y = wd mark k) : waybilllaw17_stand l mark = some true := by
 unfold waybilllaw17_stand
 rw [stand1 l mark h l.length 0 _ (by omega) (by omega), Zb]
theorem Wrt.stand {mark : BitVec 8} {hs : List Lg} (h : Wrt mark hs.length hs) : waybilllaw17_stand (hs.map Lg.val) mark = some true :=
 stand_true _ _ fun k x hx => by
  rw [List.getElem?_map] at hx
  obtain ⟨g, hg, rfl⟩ := Option.map_eq_some_iff.1 hx
  exact h k g hg (List.getElem?_eq_some_iff.1 hg).1
theorem SameG.own {gs hs : List Lg} {ob : Option Nat} {c : Nat} {r : List Value} (h : SameG gs hs) (o : OwnS ob gs.length c 22 (lgC gs) r) : OwnS ob hs.length c 22 (lgC hs) r := by rw [h.n, h.c]; exact o
theorem lens_fit {gs hs : List Lg} (hl : hs.map (fun g => (g.t.length, g.d.length)) = gs.map (fun g => (g.t.length, g.d.length))) (h : ∀ g ∈ gs, (g.t.length + 101) * 32 ≤ 140737488355328 ∧ g.d.length + 100 ≤ 140737488355328) : ∀ g ∈ hs, (g.t.length + 101) * 32 ≤ 140737488355328 ∧ g.d.length + 100 ≤ 140737488355328 := fun g hg => by
 have h1 : (g.t.length, g.d.length) ∈ gs.map (fun g => (g.t.length, g.d.length)) := by rw [← hl]; exact List.mem_map.2 ⟨g, hg, rfl⟩
 obtain ⟨q, hq, e⟩ := List.mem_map.1 h1
 have h2 := h q hq
 obtain ⟨e1, e2⟩ := Prod.mk.inj e
 rw [← e1, ← e2]; exact h2
end Go.Fw
namespace Go.Fw
theorem Mem.dropL {w0 w : World} {a : Ent} {B M : List Ent} (m : Mem w0 w ((a :: B) ++ M)) : Mem w0 w (a :: M) := m.sublist (List.Sublist.cons_cons _ (List.sublist_append_right _ _))
end Go.Fw
namespace Go.Fw
open Go
theorem CW.sub {P : Program} {n : Nat} {Q : Exit → Act → World → Prop} {w0 : World} {L : Z132} {M : List Ent} {L' : Z132} {c : Code} (hL : Sub L L') (h : CW P n Q w0 c L' M) : CW P n Q w0 c L M := CW.intro fun a w f m => h.elim a w (f.weaken hL) m
def scopeOf (o : Option Code) : Code := match o with
 | some (.seq _ (.scope c)) => c
 | _ => .skip
def afterL (c : Code) (l : Nat) : Code := match findLabel c l with
 | some (.seq _ y) => y
 | _ => .skip
structure Frm where
 ob : Option Nat
 c : Nat
 cells : List Value
 r : List Value
 A : Option Addr
 cb : Nat
 items : List It
 behind : List (BitVec 8)
def Frm.ent (te : TypeId) (f : Frm) : Ent := (f.ob, blk (f.cells ++ f.r) te)
def Frm.cs (f : Frm) : List Value := [sl f.ob 0 f.items.length f.c, .slice f.A f.behind.length f.cb]
def Frm.pure (f : Frm) : List It × List (BitVec 8) := (f.items, f.behind)
structure Frm.Ok (Φ : Ctx) (f : Frm) : Prop where
 o : OwnS f.ob f.items.length f.c 3 f.cells f.r
 h : Reps (ItRd Φ) f.cells f.items
 v : View Φ f.A f.behind.length f.cb 1 (u8s f.behind)
theorem Frm.Ok.mono {Φ Ψ : Ctx} (hh : ∀ w, Ψ w → Φ w) {f : Frm} (h : f.Ok Φ) : f.Ok Ψ := ⟨h.o, h.h.mono (ItRd.mono hh), h.v.mono hh⟩
def stC : List Frm → List Value
 | [] => []
 | f :: F => stC F ++ f.cs
theorem stC_len : ∀ F : List Frm, (stC F).length = F.length * 2
 | [] => rfl
 | f :: F => by rw [stC, List.length_append, stC_len F, List.length_cons, Frm.cs]; simp; omega
theorem stC_pop (F : List Frm) (f : Frm) (r : List Value) : stC (f :: F) ++ r = stC F ++ (f.cs ++ r) := by rw [stC, List.append_assoc]
theorem stC_at0 (F : List Frm) (f : Frm) (r : List Value) : (stC (f :: F) ++ r)[0 + F.length * 2 + 0]? = some (sl f.ob 0 f.items.length f.c) := by
 rw [stC_pop, List.getElem?_append_right (by rw [stC_len]; omega), stC_len, show 0 + F.length * 2 + 0 - F.length * 2 = 0 by omega]; rfl
theorem stC_at1 (F : List Frm) (f : Frm) (r : List Value) : (stC (f :: F) ++ r)[0 + F.length * 2 + 1]? = some (.slice f.A f.behind.length f.cb) := by
 rw [stC_pop, List.getElem?_append_right (by rw [stC_len]; omega), stC_len, show 0 + F.length * 2 + 1 - F.length * 2 = 1 by omega]; rfl
theorem stC_set0 (F : List Frm) (f g : Frm) (r : List Value) (hA : g.A = f.A) (hb : g.behind = f.behind) (hc : g.cb = f.cb) : (stC (f :: F) ++ r).set (0 + F.length * 2 + 0) (sl g.ob 0 g.items.length g.c) = stC (g :: F) ++ r := by
 rw [stC_pop, stC_pop, List.set_append_right _ _ (by rw [stC_len]; omega), stC_len, show 0 + F.length * 2 + 0 - F.length * 2 = 0 by omega]
 simp [Frm.cs, hA, hb, hc]
theorem OwnS.pop {ob : Option Nat} {n c : Nat} {F : List Frm} {f : Frm} {r : List Value} (h : OwnS ob (n + 1) c 2 (stC (f :: F)) r) (hn : F.length = n) : OwnS ob n c 2 (stC F) (f.cs ++ r) := by
 have h1 := h.hr
 have h2 := h.mx
 rw [stC_pop] at h1
 exact ⟨by rw [stC_len, hn], h1, h.hn, by omega⟩
theorem OwnS.swap {ob : Option Nat} {n c : Nat} {F : List Frm} {f g : Frm} {r : List Value} (h : OwnS ob n c 2 (stC (f :: F)) r) : OwnS ob n c 2 (stC (g :: F)) r := by
 have h1 := h.hr
 have h0 := h.n
 rw [List.length_append, stC_len] at h1
 rw [stC_len] at h0
 exact ⟨by rw [stC_len]; exact h0, by rw [List.length_append, stC_len]; exact h1, h.hn, h.mx⟩
theorem Frm.one {f : Frm} : ∀ u ∈ f.cs, u.oneCell' = true := by
 intro u hu
 simp [Frm.cs] at hu
 rcases hu with rfl | rfl <;> rfl
theorem spl_last (a z cs r : List Value) (i : Nat) (hi : 0 + i = a.length) (hz : z.length = cs.length) : spl ((a ++ z) ++ r) (0 + i) cs = (a ++ cs) ++ r := by
 have h1 : List.take (0 + i) ((a ++ z) ++ r) = a := by rw [hi, List.append_assoc, List.take_left' rfl]
 have h2 : List.drop (0 + i + cs.length) ((a ++ z) ++ r) = r := by rw [hi, ← hz, ← List.length_append, List.drop_left' rfl]
 unfold spl
 rw [h1, h2]
theorem Mem.deep {w0 w : World} {A B N : List Ent} (P X : List Ent) (m : Mem w0 w (A ++ (P ++ (X ++ (B ++ N))))) : Mem w0 w (P ++ (X ++ ((A ++ B) ++ N))) := by
 refine m.perm ?_
 have h1 : (A ++ (P ++ (X ++ (B ++ N)))).Perm ((P ++ X) ++ (A ++ (B ++ N))) := by
  have := (List.perm_append_comm (l₁ := A) (l₂ := P ++ X)).append_right (B ++ N)
  simpa only [List.append_assoc] using this
 simpa only [List.append_assoc] using h1
theorem Mem.underB {w0 w : World} {e : Ent} {B N : List Ent} (P X : List Ent) (m : Mem w0 w (P ++ (e :: (X ++ (B ++ N))))) : Mem w0 w (P ++ (X ++ ((e :: B) ++ N))) := by
 refine m.perm ?_
 refine List.Perm.append_left P ?_
 have h1 : (e :: (X ++ (B ++ N))).Perm (X ++ (e :: (B ++ N))) := List.perm_middle.symm
 simpa only [List.append_assoc, List.cons_append] using h1
theorem Mem.low {w0 w : World} {B N : List Ent} (P X : List Ent) (m : Mem w0 w (P ++ (X ++ (B ++ N)))) : Mem w0 w (B ++ N) := m.appR.appR
theorem More.low {w0 : World} {Φ : Ctx} {B N : List Ent} (hΦ : ∀ w, Mem w0 w N → Φ w) (P X : List Ent) {w : World} (m : Mem w0 w (P ++ (X ++ (B ++ N)))) : More w0 Φ B w := ⟨hΦ w (m.low P X).appR, (m.low P X).appL⟩
end Go.Fw
namespace Go.Fw
def waybillref14_Text (a0 : It) : Option ((List (BitVec 8)) × (Bool)) := (((if a0.list = true then (some (true)) else (some ((decide (0 < a0.items.length))))) : Option ((Bool))).bind fun p16 => (if p16 = true then (some (([] : List (BitVec 8)), false)) else (some (a0.data, true))))
def waybillref14_List (a0 : It) : Option ((List (It)) × (Bool)) := (((if a0.list = true then (some ((decide (0 < a0.data.length)))) else (some (true))) : Option ((Bool))).bind fun p16 => (if p16 = true then (some (([] : List (It)), false)) else (some (a0.items, true))))
def waybillref14_Fixed (a0 : It) (a1 : Int) : Option ((List (BitVec 8)) × (Bool)) := ((waybillref14_Text a0).bind fun (x15, x16) => (((if x16 = true then (some ((x15, (decide (((x15.length : Nat) : Int) = a1))))) else (some ((x15, false)))) : Option ((List (BitVec 8)) × (Bool))).bind fun (l28, p32) => (some (l28, (p32)))))
def waybillref14_Scalar (a0 : It) (a1 : Int) : Option ((Vector (BitVec 64) 4) × (Bool)) := ((waybillref14_Text a0).bind fun (x16, x17) => (((if x17 = true then (if a1 < ((x16.length : Nat) : Int) then (some (true)) else (if 0 < x16.length then (x16[0]?).bind fun x47 => (some ((decide (x47 = 0#8)))) else (some (false)))) else (some (true))) : Option ((Bool))).bind fun p29 => (if p29 = true then (some ((Vector.replicate 4 0#64), false)) else ((waybillref07_GetNumber (It.mk false x16 ([] : List (It)))).bind fun (x38, x39) => (some (x38, (decide (x39 = 0))))))))
def waybillref17_text (a0 : List (BitVec 8)) : Option ((It)) := (some (It.mk false a0 ([] : List (It))))
def waybillref17_BloomOf.l2 (a0 : List (Log)) (n34 : Nat) : Nat → (List (List (BitVec 8))) → (Nat) → Option ((List (List (BitVec 8))))
 | 0, _, _ => none
 | k130 + 1, l121, n128 => (a0[n34]?).bind fun x138 => (if n128 < x138.topics.length then (a0[n34]?).bind fun x157 => (x157.topics[n128]?).bind fun x175 => ((waybillref17_text x175.toList).bind fun x186 => (if (l121.length + ([x186.data] : List (List (BitVec 8))).length) * 24 ≤ 140737488355328 then (waybillref17_BloomOf.l2 a0 n34 k130 (l121 ++ ([x186.data] : List (List (BitVec 8)))) (n128 + 1)) else none)) else (some (l121)))
def waybillref17_BloomOf.l1 (a0 : List (Log)) : Nat → (List (List (BitVec 8))) → (Nat) → Option ((List (List (BitVec 8))))
 | 0, _, _ => none
 | k36 + 1, l27, n34 => (if n34 < a0.length then (a0[n34]?).bind fun x45 => ((waybillref17_text x45.address.toList).bind fun x68 => (if (l27.length + ([x68.data] : List (List (BitVec 8))).length) * 24 ≤ 140737488355328 then (((waybillref17_BloomOf.l2 a0 n34 (((a0[n34]?)).elim 2 fun x132 => (x132.topics.length - 0 + 2)) (l27 ++ ([x68.data] : List (List (BitVec 8)))) 0) : Option ((List (List (BitVec 8))))).bind fun l106 => (waybillref17_BloomOf.l1 a0 k36 l106 (n34 + 1))) else none)) else (some (l27)))
def waybillref17_BloomOf (a0 : List (Log)) : Option ((Vector (BitVec 8) 256)) := (((waybillref17_BloomOf.l1 a0 (a0.length - 0 + 2) ([] : List (List (BitVec 8))) 0) : Option ((List (List (BitVec 8))))).bind fun l7 => ((waybillref10_Of l7).bind fun x22 => (some x22)))
def waybillref17_first (a0 : Int) (a1 : It) : Option ((Rcpt) × (Bool)) := ((waybillref14_Text a1).bind fun (x17, x18) => (if x18 = true then (if x17.length = 0 then (some ((Rcpt.mk a0 false (Vector.replicate 32 0#8) (0#64) (0#64) (Vector.replicate 256 0#8) ([] : List (Log))), true)) else (((if x17.length = 1 then (x17[0]?).bind fun x50 => (some ((decide (x50 = 1#8)))) else (some (false))) : Option ((Bool))).bind fun p32 => (if p32 = true then (some ((Rcpt.mk a0 false (Vector.replicate 32 0#8) (1#64) (0#64) (Vector.replicate 256 0#8) ([] : List (Log))), true)) else (((if a0 = (0 : Int) then (some ((decide (x17.length = 32)))) else (some (false))) : Option ((Bool))).bind fun p41 => (if p41 = true then (some ((Rcpt.mk a0 true (cpV (Vector.replicate 32 0#8) 0 (x17.take (min x17.length (32 - 0)))) (0#64) (0#64) (Vector.replicate 256 0#8) ([] : List (Log))), true)) else (some ((Rcpt.mk a0 false (Vector.replicate 32 0#8) (0#64) (0#64) (Vector.replicate 256 0#8) ([] : List (Log))), false))))))) else (some ((Rcpt.mk a0 false (Vector.replicate 32 0#8) (0#64) (0#64) (Vector.replicate 256 0#8) ([] : List (Log))), false))))
def waybillref17_ParseLog.l1 (x90 : List (It)) : Nat → (Nat) → (Vector (BitVec 8) 20) → (List (Vector (BitVec 8) 32)) → (List (BitVec 8)) → Option (Lp ((Log) × (Nat)) ((Vector (BitVec 8) 20) × (List (Vector (BitVec 8) 32)) × (List (BitVec 8))))
 | 0, _, _, _, _ => none
 | k196 + 1, n181, w183, l184, l191 => (if n181 < x90.length then (x90[n181]?).bind fun x206 => ((waybillref14_Fixed x206 (32 : Int)).bind fun (x225, x226) => (if x226 = true then (if (l184.length + ([(cpV (Vector.replicate 32 0#8) 0 (x225.take (min x225.length (32 - 0))))] : List (Vector (BitVec 8) 32)).length) * 32 ≤ 140737488355328 then (waybillref17_ParseLog.l1 x90 k196 (n181 + 1) w183 (l184 ++ ([(cpV (Vector.replicate 32 0#8) 0 (x225.take (min x225.length (32 - 0))))] : List (Vector (BitVec 8) 32))) l191) else none) else (some (Lp.ret (some ((Log.mk (Vector.replicate 20 0#8) ([] : List (Vector (BitVec 8) 32)) ([] : List (BitVec 8))), 172)))))) else (some (Lp.go (w183, l184, l191))))
def waybillref17_ParseLog (a0 : It) : Option ((Log) × (Nat)) := ((waybillref14_List a0).bind fun (x16, x17) => (((if x17 = true then (some ((!decide (x16.length = 3)))) else (some (true))) : Option ((Bool))).bind fun p31 => (if p31 = true then (some ((Log.mk (Vector.replicate 20 0#8) ([] : List (Vector (BitVec 8) 32)) ([] : List (BitVec 8))), 172)) else (x16[0]?).bind fun x41 => ((waybillref14_Fixed x41 (20 : Int)).bind fun (x60, x61) => (x16[1]?).bind fun x71 => ((waybillref14_List x71).bind fun (x90, x91) => (x16[2]?).bind fun x103 => ((waybillref14_Text x103).bind fun (x122, x123) => (((if x61 = true then (if x91 = true then (some ((!x123))) else (some (true))) else (some (true))) : Option ((Bool))).bind fun p135 => (if p135 = true then (some ((Log.mk (Vector.replicate 20 0#8) ([] : List (Vector (BitVec 8) 32)) ([] : List (BitVec 8))), 172)) else (((waybillref17_ParseLog.l1 x90 (x90.length - 0 + 2) 0 (cpV (Vector.replicate 20 0#8) 0 (x60.take (min x60.length (20 - 0)))) ([] : List (Vector (BitVec 8) 32)) ([] : List (BitVec 8))) : Option (Lp ((Log) × (Nat)) ((Vector (BitVec 8) 20) × (List (Vector (BitVec 8) 32)) × (List (BitVec 8))))).bind fun | .ret o => o | .go (w148, l149, l156) => (if 4 < l149.length then (some ((Log.mk (Vector.replicate 20 0#8) ([] : List (Vector (BitVec 8) 32)) ([] : List (BitVec 8))), 174)) else (if l156.length + x122.length ≤ 140737488355328 then (some ((Log.mk w148 l149 (l156 ++ x122)), 0)) else none)))))))))))
def waybillref17_fields.l1 (x103 : List (It)) : Nat → (Nat) → (Int) → (Bool) → (Vector (BitVec 8) 32) → (BitVec 64) → (BitVec 64) → (Vector (BitVec 8) 256) → (List (Log)) → Option (Lp ((Rcpt) × (Nat)) ((Int) × (Bool) × (Vector (BitVec 8) 32) × (BitVec 64) × (BitVec 64) × (Vector (BitVec 8) 256) × (List (Log))))
 | 0, _, _, _, _, _, _, _, _ => none
 | k171 + 1, n155, z157, p159, w160, w161, w162, w163, l164 => (if n155 < x103.length then (x103[n155]?).bind fun x180 => ((waybillref17_ParseLog x180).bind fun (x199, x200) => (if x200 = 0 then (if (l164.length + ([x199] : List (Log)).length) * 72 ≤ 140737488355328 then (waybillref17_fields.l1 x103 k171 (n155 + 1) z157 (p159) w160 w161 w162 w163 (l164 ++ ([x199] : List (Log)))) else none) else (some (Lp.ret (some ((Rcpt.mk z157 (p159) w160 w161 w162 w163 l164), x200)))))) else (some (Lp.go (z157, (p159), w160, w161, w162, w163, l164))))
def waybillref17_fields (a0 : Int) (a1 : List (It)) : Option ((Rcpt) × (Nat)) := (a1[0]?).bind fun x3 => ((waybillref17_first a0 x3).bind fun (x22, x23) => (if x23 = true then (a1[1]?).bind fun x30 => ((waybillref14_Scalar x30 (8 : Int)).bind fun (x49, x50) => (a1[2]?).bind fun x54 => ((waybillref14_Fixed x54 (256 : Int)).bind fun (x73, x74) => (a1[3]?).bind fun x84 => ((waybillref14_List x84).bind fun (x103, x104) => (((if x50 = true then (if x74 = true then (some ((!x104))) else (some (true))) else (some (true))) : Option ((Bool))).bind fun p118 => (if p118 = true then (some ((Rcpt.mk x22.kind (x22.rooted) x22.root x22.status x22.used x22.bloom ([] : List (Log))), 172)) else (((waybillref17_fields.l1 x103 (x103.length - 0 + 2) 0 x22.kind (x22.rooted) x22.root x22.status (x49[0]) (cpV x22.bloom 0 (x73.take (min x73.length (256 - 0)))) ([] : List (Log))) : Option (Lp ((Rcpt) × (Nat)) ((Int) × (Bool) × (Vector (BitVec 8) 32) × (BitVec 64) × (BitVec 64) × (Vector (BitVec 8) 256) × (List (Log))))).bind fun | .ret o => o | .go (z131, p133, w134, w135, w136, w137, l138) => (some ((Rcpt.mk z131 (p133) w134 w135 w136 w137 l138), 0)))))))) else (some ((Rcpt.mk x22.kind (x22.rooted) x22.root x22.status x22.used x22.bloom ([] : List (Log))), 172))))
def waybillref17_Decode (a0 : List (BitVec 8)) : Option ((Rcpt) × (Nat)) := (if 16777216 < a0.length then (some ((Rcpt.mk (0 : Int) false (Vector.replicate 32 0#8) (0#64) (0#64) (Vector.replicate 256 0#8) ([] : List (Log))), 2)) else (if a0.length = 0 then (some ((Rcpt.mk (0 : Int) false (Vector.replicate 32 0#8) (0#64) (0#64) (Vector.replicate 256 0#8) ([] : List (Log))), 70)) else (((a0[0]?).bind fun x129 => (if 1 ≤ x129.toNat then (a0[0]?).bind fun x133 => (some ((decide (x133.toNat ≤ 4)))) else (some (false))) : Option ((Bool))).bind fun p11 => (((if p11 = true then (a0[0]?).bind fun x119 => (some (Lp.go (x119.toNat, 1))) else (a0[0]?).bind fun x123 => (if x123.toNat < 192 then (some (Lp.ret (some ((Rcpt.mk (0 : Int) false (Vector.replicate 32 0#8) (0#64) (0#64) (Vector.replicate 256 0#8) ([] : List (Log))), 170)))) else (some (Lp.go (0, 0))))) : Option (Lp ((Rcpt) × (Nat)) ((Nat) × (Nat)))).bind fun | .ret o => o | .go (n19, n21) => (if n21 ≤ a0.length then ((waybillref07_Decode (a0.drop n21)).bind fun (x32, x33) => (if x33 = 0 then ((waybillref14_List x32).bind fun (x59, x60) => (((if x60 = true then (some ((!decide (x59.length = 4)))) else (some (true))) : Option ((Bool))).bind fun p74 => (if p74 = true then (some ((Rcpt.mk (0 : Int) false (Vector.replicate 32 0#8) (0#64) (0#64) (Vector.replicate 256 0#8) ([] : List (Log))), 171)) else ((waybillref17_fields ((n19 : Nat) : Int) x59).bind fun (x84, x85) => (if x85 = 0 then ((waybillref17_BloomOf x84.logs).bind fun x107 => (if x84.bloom = x107 then (some (x84, 0)) else (some ((Rcpt.mk (0 : Int) false (Vector.replicate 32 0#8) (0#64) (0#64) (Vector.replicate 256 0#8) ([] : List (Log))), 173)))) else (some ((Rcpt.mk (0 : Int) false (Vector.replicate 32 0#8) (0#64) (0#64) (Vector.replicate 256 0#8) ([] : List (Log))), x85))))))) else (some ((Rcpt.mk (0 : Int) false (Vector.replicate 32 0#8) (0#64) (0#64) (Vector.replicate 256 0#8) ([] : List (Log))), x33)))) else none)))))
end Go.Fw
namespace Go.Fw
def waybilllaw17_still.l1 (a0 : List (BitVec 8)) (a1 : List (BitVec 8)) : Nat → (Nat) → Option (Lp ((Bool)) (Unit))
 | 0, _ => none
 | k17 + 1, n15 => (if n15 < ((a0 ++ List.replicate 70 195#8).take (a1.length + 70)).length then (((if n15 < a1.length then (((a0 ++ List.replicate 70 195#8).take (a1.length + 70))[n15]?).bind fun x35 => (a1[n15]?).bind fun x38 => (if x35 = x38 then (if a1.length ≤ n15 then (((a0 ++ List.replicate 70 195#8).take (a1.length + 70))[n15]?).bind fun x43 => (some ((!decide (x43 = 195#8)))) else (some (false))) else (some (true))) else (if a1.length ≤ n15 then (((a0 ++ List.replicate 70 195#8).take (a1.length + 70))[n15]?).bind fun x47 => (some ((!decide (x47 = 195#8)))) else (some (false)))) : Option ((Bool))).bind fun p27 => (if p27 = true then (some (Lp.ret (some false))) else (waybilllaw17_still.l1 a0 a1 k17 (n15 + 1)))) else (some (Lp.go ())))
def waybilllaw17_still (a0 : List (BitVec 8)) (a1 : List (BitVec 8)) : Option ((Bool)) := (if a0.length = a1.length then (if (a1.length + 70) ≤ (a0 ++ List.replicate 70 195#8).length then (((waybilllaw17_still.l1 a0 a1 ((((a0 ++ List.replicate 70 195#8).take (a1.length + 70)).length) - 0 + 2) 0) : Option (Lp ((Bool)) (Unit))).bind fun | .ret o => o | .go () => (some true)) else none) else (some false))
def waybilllaw17_backward.l1 (a0 : List (BitVec 8)) : Nat → (List (BitVec 8)) → (Int) → Option ((List (BitVec 8)))
 | 0, _, _ => none
 | k22 + 1, l15, z20 => (if (0 : Int) ≤ z20 then (a0[(z20).toNat]?).bind fun x31 => (if l15.length + ([x31] : List (BitVec 8)).length ≤ 140737488355328 then (if -9223372036854775808 ≤ (z20 - (1 : Int)) ∧ (z20 - (1 : Int)) ≤ 9223372036854775807 then (waybilllaw17_backward.l1 a0 k22 (l15 ++ ([x31] : List (BitVec 8))) (z20 - (1 : Int))) else none) else none) else (some (l15)))
def waybilllaw17_backward (a0 : List (BitVec 8)) : Option ((List (BitVec 8))) := (((waybilllaw17_backward.l1 a0 ((((((a0.length : Nat) : Int) - (1 : Int))) - ((0 : Int)) + 2).toNat) ([] : List (BitVec 8)) (((a0.length : Nat) : Int) - (1 : Int))) : Option ((List (BitVec 8)))).bind fun l4 => (some l4))
end Go.Fw
namespace Go.Fw.Tryd
open Go Go.Proofs Go.Fw
theorem u256_From_does (w0 : World) (Φ : Ctx) (N : List Ent) (hΦ : ∀ w, Mem w0 w N → Φ w) (a0 : BitVec 64) (res0 : Vector (BitVec 64) 4) (hf : u256_From a0 = some res0) : DoesG Tryd.prog 82 [U64 a0] w0 [] N (fun v G => v = .agg (u64s res0.toList).toArray) := by
 unfold u256_From at hf
 refine DoesG.enter Tryd.func82 rfl Tryd.ntmps82 rfl (M := (([] ++ N))) rfl (Z4 (Z2 (OW.alloc (l := (u64s (Vector.replicate 4 0#64).toList)) rfl (by rw [Vector.toList_replicate, ← Z116]; rfl) rfl (fun b1 => (Z6 (Z1 (Z4 (Z2 (Z0 (Z3 rfl) rfl ?_)))))))))
 refine Z0 (RV.buildA (l := (u64s (Vector.replicate 4 0#64).toList)) (cs := (u64s ((Vector.replicate 4 0#64).setIfInBounds 0 a0).toList)) rfl rfl rfl (by rw [Vector.toList_replicate, ← Z116]; rfl) rfl rfl (by simp only [setL, List.foldl, ← vset, Vector.toList_replicate, ← Z139] <;> rfl)) rfl ?_
 refine Z28 (Z103 rfl rfl rfl (Z118 _) rfl ((Z101 _).trans Zv) ((Z101 _).trans Zv)) (Z6 (Z1 (CW.ret ?_)))
 have e0 := Zi hf
 subst e0
 refine Z104 (rs := [.cell 2 128]) ([.agg (u64s ((Vector.replicate 4 0#64).setIfInBounds 0 a0).toList).toArray]) ((some b1, blk (u64s ((Vector.replicate 4 0#64).setIfInBounds 0 a0).toList) 128) :: []) rfl ?_ rfl ?_ ?_ _ (.inl rfl)
 ·exact ⟨⟨_, _, _, _, rfl, Zh, rfl, rfl, (congrArg some ((Z101 _).trans Zv).symm), rfl⟩, trivial⟩
 ·exact rfl
 ·exact (fun w m => m)
theorem waybillref01_From_does (w0 : World) (Φ : Ctx) (N : List Ent) (hΦ : ∀ w, Mem w0 w N → Φ w) (a0 : BitVec 64) (res0 : Vector (BitVec 64) 4) (hf : waybillref01_From a0 = some res0) : DoesG Tryd.prog 117 [U64 a0] w0 [] N (fun v G => v = .agg (u64s res0.toList).toArray) := by
 unfold waybillref01_From at hf
 refine DoesG.enter Tryd.func117 rfl Tryd.ntmps117 rfl (M := (([] ++ N))) rfl (Z4 (Z2 (OW.alloc (l := (u64s (Vector.replicate 4 0#64).toList)) rfl (by rw [Vector.toList_replicate, ← Z116]; rfl) rfl (fun b1 => (Z6 (Z1 (Z4 (Z2 (Z0 (Z3 rfl) rfl ?_)))))))))
 refine Z0 (RV.buildA (l := (u64s (Vector.replicate 4 0#64).toList)) (cs := (u64s (((((Vector.replicate 4 0#64).setIfInBounds 0 a0).setIfInBounds 1 (0#64)).setIfInBounds 2 (0#64)).setIfInBounds 3 (0#64)).toList)) rfl rfl rfl (by rw [Vector.toList_replicate, ← Z116]; rfl) rfl rfl (by simp only [setL, List.foldl, ← vset, Vector.toList_replicate, ← Z139] <;> rfl)) rfl ?_
 refine Z28 (Z103 rfl rfl rfl (Z118 _) rfl ((Z101 _).trans Zv) ((Z101 _).trans Zv)) (Z6 (Z1 (CW.ret ?_)))
 have e0 := Zi hf
 subst e0
 refine Z104 (rs := [.cell 2 128]) ([.agg (u64s (((((Vector.replicate 4 0#64).setIfInBounds 0 a0).setIfInBounds 1 (0#64)).setIfInBounds 2 (0#64)).setIfInBounds 3 (0#64)).toList).toArray]) ((some b1, blk (u64s (((((Vector.replicate 4 0#64).setIfInBounds 0 a0).setIfInBounds 1 (0#64)).setIfInBounds 2 (0#64)).setIfInBounds 3 (0#64)).toList) 128) :: []) rfl ?_ rfl ?_ ?_ _ (.inl rfl)
 ·exact ⟨⟨_, _, _, _, rfl, Zh, rfl, rfl, (congrArg some ((Z101 _).trans Zv).symm), rfl⟩, trivial⟩
 ·exact rfl
 ·exact (fun w m => m)
theorem rlp_clone_does (w0 : World) (Φ : Ctx) (N : List Ent) (hΦ : ∀ w, Mem w0 w N → Φ w) (A0_ : Option Addr) (c0_ : Nat) (a0 : List (BitVec 8)) (res0 : List (BitVec 8)) (va0 : View Φ A0_ a0.length c0_ 1 (u8s a0)) (hf : rlp_clone a0 = some res0) : DoesG Tryd.prog 83 [.slice A0_ a0.length c0_] w0 [] N (fun v G => ∃ B : List Ent, ∃ or0 : Option Nat, ∃ kr0 : Nat, ∃ rr0 : List Value, (OwnS or0 res0.length kr0 1 (u8s res0) rr0) ∧ v = sl or0 0 res0.length kr0 ∧ G = (or0, blk ((u8s res0) ++ rr0) 5) :: B) := by
 unfold rlp_clone at hf
 replace va0 := va0.mono (Ψ := More w0 Φ []) (fun w q => q.1)
 have m1 := va0.mx
 refine DoesG.enter Tryd.func83 rfl Tryd.ntmps83 rfl (M := (([] ++ N))) rfl (Z4 (Z2 (Z0 (Z5 rfl) rfl (Z6 (Z1 (Z4 (Z2 (Z0 (Z3 rfl) rfl (Z20 (M' := ((none, blk ((u8s ([] : List (BitVec 8))) ++ []) 5) :: ([] ++ N))) (fun w m => m.nil_ent _) (OW.appendOwn (s := 1) rfl rfl rfl rfl rfl rfl OwnS.nil (fun w m => va0.rd w (Z105 hΦ 1 m rfl)) va0.n (Z129 _) (va0.zero (by decide)) (by decide) (by decide) (by first | omega | (simp only [i5, List.length_nil]; omega)) rfl rfl (a0.length) (u8s a0) (Nat.zero_add _) rfl (fun ob2 r3 c4 o5 => ?_)))))))))))
 have m6 := o5.mx
 refine Z0 (Z5 rfl) rfl (Z6 (Z1 (CW.ret ?_)))
 have e0 := Zi hf
 subst e0
 refine Z104 (rs := [.tmp 2]) ([sl ob2 0 a0.length c4]) ((ob2, blk ((u8s a0) ++ r3) 5) :: []) rfl ?_ rfl ?_ ?_ _ (.inl rfl)
 ·exact ⟨rfl, trivial⟩
 ·exact ⟨[], ob2, c4, r3, o5, rfl, rfl⟩
 ·exact (fun w m => m.pick [0] 1 rfl rfl)
theorem waybillref07_bytes_does (w0 : World) (Φ : Ctx) (N : List Ent) (hΦ : ∀ w, Mem w0 w N → Φ w) (A0_ : Option Addr) (c0_ : Nat) (a0 : List (BitVec 8)) (res0 : List (BitVec 8)) (va0 : View Φ A0_ a0.length c0_ 1 (u8s a0)) (hf : waybillref07_bytes a0 = some res0) : DoesG Tryd.prog 125 [.slice A0_ a0.length c0_] w0 [] N (fun v G => ∃ B : List Ent, ∃ or0 : Option Nat, ∃ kr0 : Nat, ∃ rr0 : List Value, (OwnS or0 res0.length kr0 1 (u8s res0) rr0) ∧ v = sl or0 0 res0.length kr0 ∧ G = (or0, blk ((u8s res0) ++ rr0) 5) :: B) := by
 unfold waybillref07_bytes at hf
 replace va0 := va0.mono (Ψ := More w0 Φ []) (fun w q => q.1)
 have m1 := va0.mx
 refine DoesG.enter Tryd.func125 rfl Tryd.ntmps125 rfl (M := (([] ++ N))) rfl (Z4 (Z2 (Z0 (Z5 rfl) rfl (Z6 (Z1 (Z4 (Z2 (Z0 (Z5 rfl) rfl (Z6 (Z1 (Z4 (Z2 (Z0 (Z3 rfl) rfl (Z0 (Z3 rfl) rfl ?_))))))))))))))
 refine Z20 (M' := ((none, blk ((u8s ([] : List (BitVec 8))) ++ []) 5) :: ([] ++ N))) (fun w m => m.nil_ent _) (OW.appendOwn (s := 1) rfl rfl rfl rfl rfl rfl OwnS.nil (fun w m => va0.rd w (Z105 hΦ 1 m rfl)) va0.n (Z129 _) (va0.zero (by decide)) (by decide) (by decide) (by first | omega | (simp only [i5, List.length_nil]; omega)) rfl rfl (a0.length) (u8s a0) (Nat.zero_add _) rfl (fun ob2 r3 c4 o5 => ?_))
 have m6 := o5.mx
 refine Z0 (Z5 rfl) rfl (Z6 (Z1 (CW.ret ?_)))
 have e0 := Zi hf
 subst e0
 refine Z104 (rs := [.tmp 2]) ([sl ob2 0 a0.length c4]) ((ob2, blk ((u8s a0) ++ r3) 5) :: []) rfl ?_ rfl ?_ ?_ _ (.inl rfl)
 ·exact ⟨rfl, trivial⟩
 ·exact ⟨[], ob2, c4, r3, o5, rfl, rfl⟩
 ·exact (fun w m => m.pick [0] 1 rfl rfl)
theorem rlp_Text_does (w0 : World) (Φ : Ctx) (N : List Ent) (hΦ : ∀ w, Mem w0 w N → Φ w) (A0_ : Option Addr) (c0_ : Nat) (a0 : List (BitVec 8)) (res0 : It) (va0 : View Φ A0_ a0.length c0_ 1 (u8s a0)) (hf : rlp_Text a0 = some res0) : DoesG Tryd.prog 60 [.slice A0_ a0.length c0_] w0 [] N (fun v G => ∃ B : List Ent, ∃ cr0 : List Value, (ItRd (More w0 Φ B) cr0 res0) ∧ v = .agg cr0.toArray ∧ G = B) := by
 unfold rlp_Text at hf
 replace va0 := va0.mono (Ψ := More w0 Φ []) (fun w q => q.1)
 have m1 := va0.mx
 refine DoesG.enter Tryd.func60 rfl Tryd.ntmps60 rfl (M := (([] ++ N))) rfl (Z4 (Z2 (OW.alloc (l := [.bool false, .slice none 0 0, .slice none 0 0]) rfl rfl rfl (fun b2 => (Z6 (Z1 (Z4 (Z2 (Z0 (Z3 rfl) rfl ?_)))))))))
 obtain ⟨x4, hx3, hf⟩ := Z100 hf
 refine Z12 Tryd.call83 rfl (rlp_clone_does w0 (More w0 Φ []) ((some b2, blk [.bool false, .slice none 0 0, .slice none 0 0] 89) :: ([] ++ N)) (fun w m => Z105 hΦ 1 m rfl) A0_ c0_ a0 x4 va0 hx3) rfl rfl ?_
 rintro L10 M11 ⟨B5, ob6, c7, r8, o9, e12, e13⟩
 rw [e12, e13]
 clear e12 e13 L10 M11
 refine Z20 (M' := ((ob6, blk ((u8s x4) ++ r8) 5) :: (some b2, blk [.bool false, .slice none 0 0, .slice none 0 0] 89) :: ((B5 ++ []) ++ N))) (fun w m => by have h := Z113 (A := B5) m 1 1 rfl rfl; exact h) ?_
 have gq1 : ∀ w, More w0 Φ (B5 ++ []) w → More w0 Φ [] w := fun w q => More.mono (fun w m => (m).appR) q
 replace va0 := va0.mono gq1
 have m14 := o9.mx
 refine Z0 (Z107 (l := [.bool false, .slice none 0 0, .slice none 0 0]) (cs := [.bool false, sl ob6 0 x4.length c7, .slice none 0 0]) [(1, [sl ob6 0 x4.length c7])] rfl rfl rfl rfl rfl rfl rfl) rfl (OW.rot1 ?_)
 refine Z28 (Z103 rfl rfl rfl (by intro u hu; simp at hu; rcases hu with rfl | rfl | rfl <;> rfl) rfl rfl rfl) ?_
 refine Z6 (Z1 (CW.ret (QW.mem (M' := (some b2, blk [.bool false, sl ob6 0 x4.length c7, .slice none 0 0] 89) :: (((ob6, blk ((u8s x4) ++ r8) 5) :: (B5 ++ [])) ++ N)) (fun w m => m.pick [0, 1] 2 rfl rfl) ?_)))
 have gq2 : ∀ w, More w0 Φ ((ob6, blk ((u8s x4) ++ r8) 5) :: (B5 ++ [])) w → More w0 Φ (B5 ++ []) w := fun w q => More.mono (fun w m => (m).tail) q
 replace va0 := va0.mono gq2
 have v15 : View (More w0 Φ ((ob6, blk ((u8s x4) ++ r8) 5) :: (B5 ++ []))) ((ob6).map fun k => ⟨k, 0, none⟩) x4.length c7 1 (u8s x4) := o9.view (by decide) (fun w q => q.2.sublist (List.singleton_sublist.2 (List.mem_cons_self ..)))
 have e0 := Zi hf
 subst e0
 have v16 : View (More w0 Φ ((ob6, blk ((u8s x4) ++ r8) 5) :: (B5 ++ []))) none ([] : List (It)).length 0 3 [] := View.nil
 refine Z104 (rs := [.cell 2 89]) ([.agg [.bool false, .slice ((ob6).map fun k => ⟨k, 0, none⟩) x4.length c7, .slice none 0 0].toArray]) (((ob6, blk ((u8s x4) ++ r8) 5) :: (B5 ++ []))) rfl ?_ rfl ?_ ?_ _ (.inl rfl)
 ·exact ⟨⟨_, _, _, _, rfl, Zh, rfl, rfl, rfl, rfl⟩, trivial⟩
 ·exact ⟨((ob6, blk ((u8s x4) ++ r8) 5) :: (B5 ++ [])), [.bool false, .slice ((ob6).map fun k => ⟨k, 0, none⟩) x4.length c7, .slice none 0 0], (ItRd.mk v15 v16 (Reps.nil)), rfl, rfl⟩
 ·exact (fun w m => m.pick [] 1 rfl rfl)
theorem rlp_odd_does (w0 : World) (Φ : Ctx) (N : List Ent) (hΦ : ∀ w, Mem w0 w N → Φ w) (cs0_ : List Value) (a0 : It) (res0 : Bool) (ha0 : ItRd Φ cs0_ a0) (hf : rlp_odd a0 = some res0) : DoesG Tryd.prog 120 [.agg cs0_.toArray] w0 [] N (fun v G => v = .bool res0) := by
 unfold rlp_odd at hf
 replace ha0 := ItRd.mono (Ψ := More w0 Φ []) (fun w q => q.1) _ _ ha0
 have h10 := ha0
 obtain ⟨A1, c2, A4, c5, cs7, e9, v3, v6, h8⟩ := ItRd.opn ha0
 subst e9
 have m11 := v3.mx
 have m12 := v6.mx
 refine DoesG.enter Tryd.func120 rfl Tryd.ntmps120 rfl (M := (([] ++ N))) rfl (Z4 (Z2 (Z130 rfl rfl (fun b13 => (Z0 (Z5 rfl) rfl (Z6 (Z1 (Z4 ?_))))))))
 obtain ⟨q14, hq15, hf⟩ := Z100 hf
 refine Z115 (fun L' M' => ∃ p16 : Bool, q14 = p16 ∧ L' = [(2, .bool (p16))] ∧ M' = (([] ++ N))) ?_ ?_
 ·rintro L18 M19 ⟨p16, e17, e20, e21⟩
  rw [e20, e21]
  clear e20 e21 L18 M19
  clear hq15
  rw [e17] at hf
  clear e17
  try dsimp only at hf
  refine Z1 (CW.ret ?_)
  have e0 := Zi hf
  subst e0
  refine Z104 (rs := [.tmp 2]) ([.bool (p16)]) ([]) rfl ?_ rfl ?_ ?_ _ (.inl rfl)
  ·exact ⟨rfl, trivial⟩
  ·exact rfl
  ·exact (fun w m => m)
 ·skip
  refine Z2 (Z0 (Z30 rfl rfl rfl rfl) rfl (Z0 (Z29 rfl Zh rfl rfl rfl rfl) rfl (Z0 (Z3 rfl) rfl ?_)))
  by_cases h22 : a0.list = true
  ·replace hq15 := if_t hq15 h22
   refine Z7 (.bool true) (congrArg Value.bool (h22)) (Z24 rfl (Z0 (Z30 rfl rfl rfl rfl) rfl (Z24 rfl (Z0 (Z29 rfl Zh rfl rfl rfl rfl) rfl (Z24 rfl (Z0 (RV.len rfl rfl) rfl (Z24 rfl ?_)))))))
   refine Z0 (RV.gtr rfl rfl) rfl (Z7 (.bool (decide (0 < a0.data.length))) (congrArg Value.bool (decide_eq_decide.2 (by omega))) (Z0 (Z108 rfl rfl rfl) rfl (Z0 (Z3 rfl) rfl ?_)))
   by_cases h23 : 0 < a0.data.length
   ·replace hq15 := if_t hq15 h23
    refine Z7 (.bool true) (congrArg Value.bool (decide_eq_true h23)) (Z23 rfl rfl rfl (Z23 rfl rfl rfl (Z23 rfl rfl rfl (Z23 rfl rfl rfl (Z23 rfl rfl rfl (Z23 rfl rfl rfl (Z23 rfl rfl rfl ?_)))))))
    refine Z23 rfl rfl rfl (Z23 rfl rfl rfl (Z0 (Z108 rfl rfl rfl) rfl (Z0 (Z5 rfl) rfl (Z6 ?_))))
    exact QW.join ⟨true, (Zi hq15).symm, rfl, rfl⟩ ⟨rfl, trivial⟩ (fun w m => m.pick [] 1 rfl rfl)
   ·replace hq15 := if_f hq15 h23
    refine Z7 (.bool false) (congrArg Value.bool (decide_eq_false h23)) (Z24 rfl (Z0 (Z30 rfl rfl rfl rfl) rfl (Z24 rfl (Z0 (Z29 rfl Zh rfl rfl rfl rfl) rfl (Z24 rfl (Z0 (RV.not rfl) rfl (Z24 rfl ?_)))))))
    refine Z0 (Z3 rfl) rfl ?_
    by_cases h24 : a0.list = true
    ·replace hq15 := if_t hq15 h24
     refine Z7 (.bool false) (congrArg Value.bool (congrArg (fun b => !b) (h24))) (Z23 rfl rfl rfl (Z23 rfl rfl rfl (Z23 rfl rfl rfl (Z23 rfl rfl rfl (Z24 rfl (Z0 (Z106 rfl rfl rfl) rfl (Z0 (Z106 rfl rfl rfl) rfl ?_)))))))
     refine Z0 (Z5 rfl) rfl (Z6 ?_)
     exact QW.join ⟨false, (Zi hq15).symm, rfl, rfl⟩ ⟨rfl, trivial⟩ (fun w m => m.pick [] 1 rfl rfl)
    ·replace hq15 := if_f hq15 h24
     refine Z7 (.bool true) (congrArg Value.bool (congrArg (fun b => !b) (Bool.eq_false_iff.2 h24))) (Z24 rfl (Z0 (Z30 rfl rfl rfl rfl) rfl (Z24 rfl (Z0 (Z29 rfl Zh rfl rfl rfl rfl) rfl (Z24 rfl (Z0 (RV.len rfl rfl) rfl (Z24 rfl ?_)))))))
     refine Z0 (RV.gtr rfl rfl) rfl (Z7 (.bool (decide (0 < a0.items.length))) (congrArg Value.bool (decide_eq_decide.2 (by omega))) (Z24 rfl (Z0 (Z108 rfl rfl rfl) rfl (Z0 (Z106 rfl rfl rfl) rfl (Z0 (Z5 rfl) rfl (Z6 ?_))))))
     exact QW.join ⟨(decide (0 < a0.items.length)), (Zi hq15).symm, rfl, rfl⟩ ⟨rfl, trivial⟩ (fun w m => m.pick [] 1 rfl rfl)
  ·replace hq15 := if_f hq15 h22
   refine Z7 (.bool false) (congrArg Value.bool (Bool.eq_false_iff.2 h22)) (Z23 rfl rfl rfl (Z23 rfl rfl rfl (Z23 rfl rfl rfl (Z23 rfl rfl rfl (Z0 (Z106 rfl rfl rfl) rfl (Z0 (Z3 rfl) rfl (Z24 rfl ?_)))))))
   refine Z0 (Z30 rfl rfl rfl rfl) rfl (Z24 rfl (Z0 (Z29 rfl Zh rfl rfl rfl rfl) rfl (Z24 rfl (Z0 (RV.not rfl) rfl (Z24 rfl (Z0 (Z3 rfl) rfl ?_))))))
   by_cases h25 : a0.list = true
   ·replace hq15 := if_t hq15 h25
    refine Z7 (.bool false) (congrArg Value.bool (congrArg (fun b => !b) (h25))) (Z23 rfl rfl rfl (Z23 rfl rfl rfl (Z23 rfl rfl rfl (Z23 rfl rfl rfl (Z24 rfl (Z0 (Z106 rfl rfl rfl) rfl (Z0 (Z106 rfl rfl rfl) rfl ?_)))))))
    refine Z0 (Z5 rfl) rfl (Z6 ?_)
    exact QW.join ⟨false, (Zi hq15).symm, rfl, rfl⟩ ⟨rfl, trivial⟩ (fun w m => m.pick [] 1 rfl rfl)
   ·replace hq15 := if_f hq15 h25
    refine Z7 (.bool true) (congrArg Value.bool (congrArg (fun b => !b) (Bool.eq_false_iff.2 h25))) (Z24 rfl (Z0 (Z30 rfl rfl rfl rfl) rfl (Z24 rfl (Z0 (Z29 rfl Zh rfl rfl rfl rfl) rfl (Z24 rfl (Z0 (RV.len rfl rfl) rfl (Z24 rfl ?_)))))))
    refine Z0 (RV.gtr rfl rfl) rfl (Z7 (.bool (decide (0 < a0.items.length))) (congrArg Value.bool (decide_eq_decide.2 (by omega))) (Z24 rfl (Z0 (Z108 rfl rfl rfl) rfl (Z0 (Z106 rfl rfl rfl) rfl (Z0 (Z5 rfl) rfl (Z6 ?_))))))
    exact QW.join ⟨(decide (0 < a0.items.length)), (Zi hq15).symm, rfl, rfl⟩ ⟨rfl, trivial⟩ (fun w m => m.pick [] 1 rfl rfl)
theorem waybillref07_odd_does (w0 : World) (Φ : Ctx) (N : List Ent) (hΦ : ∀ w, Mem w0 w N → Φ w) (cs0_ : List Value) (a0 : It) (res0 : Bool) (ha0 : ItRd Φ cs0_ a0) (hf : waybillref07_odd a0 = some res0) : DoesG Tryd.prog 133 [.agg cs0_.toArray] w0 [] N (fun v G => v = .bool res0) := by
 unfold waybillref07_odd at hf
 replace ha0 := ItRd.mono (Ψ := More w0 Φ []) (fun w q => q.1) _ _ ha0
 have h10 := ha0
 obtain ⟨A1, c2, A4, c5, cs7, e9, v3, v6, h8⟩ := ItRd.opn ha0
 subst e9
 have m11 := v3.mx
 have m12 := v6.mx
 refine DoesG.enter Tryd.func133 rfl Tryd.ntmps133 rfl (M := (([] ++ N))) rfl (Z4 (Z2 (Z130 rfl rfl (fun b13 => (Z0 (Z5 rfl) rfl (Z6 (Z1 (Z4 (Z4 (Z2 (Z0 (Z30 rfl rfl rfl rfl) rfl (Z0 (Z29 rfl Zh rfl rfl rfl rfl) rfl (Z6 (Z1 ?_))))))))))))))
 by_cases h14 : a0.list = true
 ·replace hf := if_t hf h14
  refine Z13 rfl (h14) (Z4 (Z2 (Z0 (Z30 rfl rfl rfl rfl) rfl (Z0 (Z29 rfl Zh rfl rfl rfl rfl) rfl (Z0 (RV.len rfl rfl) rfl (Z0 (RV.gtr rfl rfl) rfl (Z7 (.bool (decide (0 < a0.data.length))) (congrArg Value.bool (decide_eq_decide.2 (by omega))) (Z0 (Z5 rfl) rfl ?_))))))))
  refine Z6 (Z1 (CW.ret (Z8 ?_)))
  have e0 := Zi hf
  subst e0
  refine Z104 (rs := [.tmp 2]) ([.bool (decide (0 < a0.data.length))]) ((some b13, blk [.bool (a0.list), .slice A1 a0.data.length c2, .slice A4 a0.items.length c5] 89) :: []) rfl ?_ rfl ?_ ?_ _ (.inl rfl)
  ·exact ⟨rfl, trivial⟩
  ·exact rfl
  ·exact (fun w m => m)
 ·replace hf := if_f hf h14
  refine Z14 rfl (Bool.eq_false_iff.2 h14) (CW.skip (Z1 (Z4 (Z2 (Z0 (Z30 rfl rfl rfl rfl) rfl (Z0 (Z29 rfl Zh rfl rfl rfl rfl) rfl (Z0 (RV.len rfl rfl) rfl (Z0 (RV.gtr rfl rfl) rfl (Z7 (.bool (decide (0 < a0.items.length))) (congrArg Value.bool (decide_eq_decide.2 (by omega))) (Z0 (Z5 rfl) rfl ?_))))))))))
  refine Z6 (Z1 (CW.ret ?_))
  have e0 := Zi hf
  subst e0
  refine Z104 (rs := [.tmp 2]) ([.bool (decide (0 < a0.items.length))]) ((some b13, blk [.bool (a0.list), .slice A1 a0.data.length c2, .slice A4 a0.items.length c5] 89) :: []) rfl ?_ rfl ?_ ?_ _ (.inl rfl)
  ·exact ⟨rfl, trivial⟩
  ·exact rfl
  ·exact (fun w m => m)
theorem rlp_kind_does (w0 : World) (Φ : Ctx) (N : List Ent) (hΦ : ∀ w, Mem w0 w N → Φ w) (cs0_ : List Value) (a0 : It) (a1 : Bool) (res0 : Nat) (ha0 : ItRd Φ cs0_ a0) (hf : rlp_kind a0 a1 = some res0) : DoesG Tryd.prog 93 [.agg cs0_.toArray, .bool (a1)] w0 [] N (fun v G => (res0 ≤ 9223372036854775807) ∧ v = .int .i64 ((res0 : Nat) : Int)) := by
 unfold rlp_kind at hf
 replace ha0 := ItRd.mono (Ψ := More w0 Φ []) (fun w q => q.1) _ _ ha0
 have h10 := ha0
 obtain ⟨A1, c2, A4, c5, cs7, e9, v3, v6, h8⟩ := ItRd.opn ha0
 subst e9
 have m11 := v3.mx
 have m12 := v6.mx
 refine DoesG.enter Tryd.func93 rfl Tryd.ntmps93 rfl (M := (([] ++ N))) rfl (Z4 (Z2 (Z130 rfl rfl (fun b13 => (Z0 (Z5 rfl) rfl (Z6 (Z1 (Z4 (CW.block (Z4 (Z2 (Z0 (Z22 rfl Zh rfl rfl rfl rfl rfl) rfl ?_))))))))))))
 obtain ⟨x15, hx14, hf⟩ := Z100 hf
 refine Z12 Tryd.call120 rfl (rlp_odd_does w0 (More w0 Φ []) ((some b13, blk [.bool (a0.list), .slice A1 a0.data.length c2, .slice A4 a0.items.length c5] 89) :: ([] ++ N)) (fun w m => Z105 hΦ 1 m rfl) [.bool (a0.list), .slice A1 a0.data.length c2, .slice A4 a0.items.length c5] a0 x15 h10 hx14) rfl rfl ?_
 rintro _ G16 rfl
 refine Z20 (M' := ((some b13, blk [.bool (a0.list), .slice A1 a0.data.length c2, .slice A4 a0.items.length c5] 89) :: ([] ++ N))) (fun w m => m.appR) (Z0 (Z5 rfl) rfl (Z6 (Z1 ?_)))
 by_cases h18 : x15 = true
 ·replace hf := if_t hf h18
  refine Z13 rfl (h18) (Z4 (Z2 (Z0 (Z5 rfl) rfl (Z6 (Z1 (CW.ret (Z16 (Z8 ?_))))))))
  have e0 := Zi hf
  subst e0
  refine Z104 (rs := [.tmp 4]) ([.int .i64 (78 : Int)]) ((some b13, blk [.bool (a0.list), .slice A1 a0.data.length c2, .slice A4 a0.items.length c5] 89) :: []) rfl ?_ rfl ?_ ?_ _ (.inl rfl)
  ·exact ⟨rfl, trivial⟩
  ·exact ⟨(by omega), rfl⟩
  ·exact (fun w m => m)
 ·replace hf := if_f hf h18
  refine Z14 rfl (Bool.eq_false_iff.2 h18) (Z4 (Z2 (Z0 (Z30 rfl rfl rfl rfl) rfl (Z0 (Z29 rfl Zh rfl rfl rfl rfl) rfl (Z0 (Z3 rfl) rfl (Z0 (RV.neqB rfl rfl rfl) rfl (Z7 (.bool (!decide ((a0.list) = (a1)))) (by first | rfl | (congr 1) | simp) (Z0 (Z5 rfl) rfl ?_))))))))
  refine Z6 (Z1 ?_)
  by_cases h19 : (a0.list) = (a1)
  ·replace hf := if_t hf h19
   refine Z14 rfl (congrArg (fun b => !b) (decide_eq_true h19)) (CW.skip (Z27 (Z1 (Z4 (Z2 (Z0 (Z5 rfl) rfl (Z6 (Z1 (CW.ret ?_)))))))))
   have e0 := Zi hf
   subst e0
   refine Z104 (rs := [.tmp 4]) ([.int .i64 (0 : Int)]) ((some b13, blk [.bool (a0.list), .slice A1 a0.data.length c2, .slice A4 a0.items.length c5] 89) :: []) rfl ?_ rfl ?_ ?_ _ (.inl rfl)
   ·exact ⟨rfl, trivial⟩
   ·exact ⟨(by omega), rfl⟩
   ·exact (fun w m => m)
  ·replace hf := if_f hf h19
   refine Z13 rfl (congrArg (fun b => !b) (decide_eq_false h19)) (Z4 (Z2 (Z0 (Z5 rfl) rfl (Z6 (Z1 (CW.ret (Z16 (Z8 ?_))))))))
   have e0 := Zi hf
   subst e0
   refine Z104 (rs := [.tmp 4]) ([.int .i64 (75 : Int)]) ((some b13, blk [.bool (a0.list), .slice A1 a0.data.length c2, .slice A4 a0.items.length c5] 89) :: []) rfl ?_ rfl ?_ ?_ _ (.inl rfl)
   ·exact ⟨rfl, trivial⟩
   ·exact ⟨(by omega), rfl⟩
   ·exact (fun w m => m)
theorem waybillref07_wanted_does (w0 : World) (Φ : Ctx) (N : List Ent) (hΦ : ∀ w, Mem w0 w N → Φ w) (cs0_ : List Value) (a0 : It) (a1 : Bool) (res0 : Nat) (ha0 : ItRd Φ cs0_ a0) (hf : waybillref07_wanted a0 a1 = some res0) : DoesG Tryd.prog 146 [.agg cs0_.toArray, .bool (a1)] w0 [] N (fun v G => (res0 ≤ 9223372036854775807) ∧ v = .int .i64 ((res0 : Nat) : Int)) := by
 unfold waybillref07_wanted at hf
 replace ha0 := ItRd.mono (Ψ := More w0 Φ []) (fun w q => q.1) _ _ ha0
 have h10 := ha0
 obtain ⟨A1, c2, A4, c5, cs7, e9, v3, v6, h8⟩ := ItRd.opn ha0
 subst e9
 have m11 := v3.mx
 have m12 := v6.mx
 refine DoesG.enter Tryd.func146 rfl Tryd.ntmps146 rfl (M := (([] ++ N))) rfl (Z4 (Z2 (Z130 rfl rfl (fun b13 => (Z0 (Z5 rfl) rfl (Z6 (Z1 (Z4 (Z4 (Z2 (Z0 (Z22 rfl Zh rfl rfl rfl rfl rfl) rfl ?_)))))))))))
 obtain ⟨x15, hx14, hf⟩ := Z100 hf
 refine Z12 Tryd.call133 rfl (waybillref07_odd_does w0 (More w0 Φ []) ((some b13, blk [.bool (a0.list), .slice A1 a0.data.length c2, .slice A4 a0.items.length c5] 89) :: ([] ++ N)) (fun w m => Z105 hΦ 1 m rfl) [.bool (a0.list), .slice A1 a0.data.length c2, .slice A4 a0.items.length c5] a0 x15 h10 hx14) rfl rfl ?_
 rintro _ G16 rfl
 refine Z20 (M' := ((some b13, blk [.bool (a0.list), .slice A1 a0.data.length c2, .slice A4 a0.items.length c5] 89) :: ([] ++ N))) (fun w m => m.appR) (Z6 (Z1 ?_))
 by_cases h18 : x15 = true
 ·replace hf := if_t hf h18
  refine Z13 rfl (h18) (Z4 (Z2 (Z0 (Z5 rfl) rfl (Z6 (Z1 (CW.ret (Z8 ?_)))))))
  have e0 := Zi hf
  subst e0
  refine Z104 (rs := [.tmp 4]) ([.int .i64 (78 : Int)]) ((some b13, blk [.bool (a0.list), .slice A1 a0.data.length c2, .slice A4 a0.items.length c5] 89) :: []) rfl ?_ rfl ?_ ?_ _ (.inl rfl)
  ·exact ⟨rfl, trivial⟩
  ·exact ⟨(by omega), rfl⟩
  ·exact (fun w m => m)
 ·replace hf := if_f hf h18
  refine Z14 rfl (Bool.eq_false_iff.2 h18) (CW.skip (Z1 (Z4 (Z4 (Z2 (Z0 (Z30 rfl rfl rfl rfl) rfl (Z0 (Z29 rfl Zh rfl rfl rfl rfl) rfl (Z0 (Z3 rfl) rfl (Z0 (RV.neqB rfl rfl rfl) rfl (Z7 (.bool (!decide ((a0.list) = (a1)))) (by first | rfl | (congr 1) | simp) (Z6 (Z1 ?_))))))))))))
  by_cases h19 : (a0.list) = (a1)
  ·replace hf := if_t hf h19
   refine Z14 rfl (congrArg (fun b => !b) (decide_eq_true h19)) (CW.skip (Z1 (Z4 (Z2 (Z0 (Z5 rfl) rfl (Z6 (Z1 (CW.ret ?_))))))))
   have e0 := Zi hf
   subst e0
   refine Z104 (rs := [.tmp 4]) ([.int .i64 (0 : Int)]) ((some b13, blk [.bool (a0.list), .slice A1 a0.data.length c2, .slice A4 a0.items.length c5] 89) :: []) rfl ?_ rfl ?_ ?_ _ (.inl rfl)
   ·exact ⟨rfl, trivial⟩
   ·exact ⟨(by omega), rfl⟩
   ·exact (fun w m => m)
  ·replace hf := if_f hf h19
   refine Z13 rfl (congrArg (fun b => !b) (decide_eq_false h19)) (Z4 (Z2 (Z0 (Z5 rfl) rfl (Z6 (Z1 (CW.ret (Z8 ?_)))))))
   have e0 := Zi hf
   subst e0
   refine Z104 (rs := [.tmp 4]) ([.int .i64 (75 : Int)]) ((some b13, blk [.bool (a0.list), .slice A1 a0.data.length c2, .slice A4 a0.items.length c5] 89) :: []) rfl ?_ rfl ?_ ?_ _ (.inl rfl)
   ·exact ⟨rfl, trivial⟩
   ·exact ⟨(by omega), rfl⟩
   ·exact (fun w m => m)
theorem u256_Sub_does (w0 : World) (Φ : Ctx) (N : List Ent) (hΦ : ∀ w, Mem w0 w N → Φ w) (a0 : Vector (BitVec 64) 4) (a1 : Vector (BitVec 64) 4) (res0 : Vector (BitVec 64) 4) (res1 : BitVec 64) (hf : u256_Sub a0 a1 = some (res0, res1)) : DoesG Tryd.prog 135 [.agg (u64s a0.toList).toArray, .agg (u64s a1.toList).toArray] w0 [] N (fun v G => v = .tuple #[.agg (u64s res0.toList).toArray, U64 res1]) := by
 unfold u256_Sub at hf
 refine DoesG.enter Tryd.func135 rfl Tryd.ntmps135 rfl (M := (([] ++ N))) rfl (Z4 (Z2 (Z130 rfl rfl (fun b1 => (Z130 rfl rfl (fun b2 => (OW.alloc (l := (u64s (Vector.replicate 4 0#64).toList)) rfl (by rw [Vector.toList_replicate, ← Z116]; rfl) rfl (fun b3 => (Z0 (Z5 rfl) rfl (Z6 (Z1 (Z4 (Z2 (OW.alloc (l := (u64s (Vector.replicate 4 0#64).toList)) rfl (by rw [Vector.toList_replicate, ← Z116]; rfl) rfl (fun b4 => ?_)))))))))))))))
 refine Z6 (Z1 (Z4 (Z2 (Z0 (Z5 rfl) rfl (Z6 (Z1 (Z4 (Z4 (Z2 (Z0 (Z3 rfl) rfl (Z6 (Z1 ?_))))))))))))
 obtain ⟨q5, hq6, hf⟩ := Z100 hf
 refine Z115 (fun L' M' => ∃ w7 : BitVec 64, ∃ w8 : Vector (BitVec 64) 4, q5 = (w7, w8) ∧ L' = [(4, ptr (some b3) 0), (6, ptr (some b4) 0), (7, U64 w7)] ∧ M' = ((some b4, blk (u64s w8.toList) 128) :: (some b3, blk (u64s (Vector.replicate 4 0#64).toList) 128) :: ([] ++ N))) ?_ ?_
 ·rintro L10 M11 ⟨w7, w8, e9, e12, e13⟩
  rw [e12, e13]
  clear e12 e13 L10 M11
  clear hq6
  rw [e9] at hf
  clear e9
  try dsimp only at hf
  refine Z1 (Z4 (Z2 (Z0 (Z22 rfl Zh rfl rfl rfl rfl ((Z101 _).trans Zv)) rfl (Z0 (Z3 rfl) rfl (OW.rot1 (Z28 (Z103 rfl rfl rfl (Z118 _) rfl ((Z101 _).trans Zv) ((Z101 _).trans Zv)) (Z0 (Z5 rfl) rfl (Z6 (Z1 (CW.ret ?_))))))))))
  have er0 := Zi hf
  obtain ⟨e0, er1⟩ := Prod.mk.inj er0
  clear er0
  subst e0
  subst er1
  refine Z104 (rs := [.cell 4 128, .tmp 5]) ([.agg (u64s w8.toList).toArray, U64 w7]) ((some b3, blk (u64s w8.toList) 128) :: (some b4, blk (u64s w8.toList) 128) :: []) rfl ?_ rfl ?_ ?_ _ (.inl rfl)
  ·exact ⟨⟨_, _, _, _, rfl, Zh, rfl, rfl, (congrArg some ((Z101 _).trans Zv).symm), rfl⟩, rfl, trivial⟩
  ·exact rfl
  ·exact (fun w m => m)
 ·skip
  refine CW.block (Z121 (fun k L' M' => ∃ w14 : BitVec 64, ∃ n15 : Nat, ∃ w17 : Vector (BitVec 64) 4, (u256_Sub.l1 a0 a1 k w14 n15 w17) = some q5 ∧ (n15 ≤ 9223372036854775807) ∧ L' = [(2, ptr (some b1) 0), (3, ptr (some b2) 0), (4, ptr (some b3) 0), (6, ptr (some b4) 0), (7, U64 w14), (9, .int .i64 ((n15 : Nat) : Int))] ∧ M' = ((some b4, blk (u64s w17.toList) 128) :: (some b3, blk (u64s (Vector.replicate 4 0#64).toList) 128) :: (some b2, blk (u64s a1.toList) 128) :: (some b1, blk (u64s a0.toList) 128) :: ([] ++ N))) (k0 := (4 - 0 + 2)) ⟨0#64, 0, (Vector.replicate 4 0#64), hq6, (by omega), rfl, rfl⟩ ⟨rfl, rfl, rfl, rfl, rfl, rfl, trivial⟩ (fun w m => m.pick [0, 1, 2, 3] 4 rfl rfl) ?_)
  clear hq6
  rintro k18 L21 M22 ⟨w14, n15, w17, hl19, b16, e23, e24⟩
  rw [e23, e24]
  clear e23 e24 L21 M22
  rcases k18 with _ | k18
  ·rw [u256_Sub.l1] at hl19; cases hl19
  rw [u256_Sub.l1] at hl19
  refine Z4 (Z2 (Z0 (RV.lss rfl rfl) rfl (Z7 (.bool (decide (n15 < 4))) (congrArg Value.bool (decide_eq_decide.2 (by omega))) (Z6 (Z1 (Z4 ?_))))))
  by_cases h25 : n15 < 4
  ·replace hl19 := if_t hl19 h25
   refine Z13 rfl (decide_eq_true h25) (CW.skip (Z1 (Z4 (CW.block (Z4 (Z2 (Z0 (Z3 rfl) rfl (Z0 (Z5 rfl) rfl (Z6 (Z1 (Z137 ((some b3, blk (u64s (Vector.replicate 4 0#64).toList) 128) :: (some b2, blk (u64s a1.toList) 128) :: (some b1, blk (u64s a0.toList) 128) :: ([] ++ N)) [13] (fun w m => m.pick [1, 2, 3] 4 rfl rfl) mixed (by kernel_rfl) (Z10 0 rfl (by kernel_rfl) rfl (Z3 rfl) rfl (Z10 1 rfl (by kernel_rfl) rfl (Z3 rfl) rfl ?_)))))))))))))
   refine Z10 2 rfl (by kernel_rfl) rfl (Z109 (n15) rfl rfl rfl rfl rfl (by omega)) rfl ?_
   obtain ⟨x26, hx27, hl19⟩ := Z100 hl19
   refine Z10 3 rfl (by kernel_rfl) rfl (Z29 rfl (List.Mem.tail _ (List.Mem.tail _ Zh)) rfl rfl rfl (by rw [Nat.zero_add]; exact u64s_at (vat hx27))) rfl ?_
   refine Z10 4 rfl (by kernel_rfl) rfl (Z3 rfl) rfl (Z10 5 rfl (by kernel_rfl) rfl (Z109 (n15) rfl rfl rfl rfl rfl (by omega)) rfl ?_)
   obtain ⟨x28, hx29, hl19⟩ := Z100 hl19
   refine Z10 6 rfl (by kernel_rfl) rfl (Z29 rfl (List.Mem.tail _ Zh) rfl rfl rfl (by rw [Nat.zero_add]; exact u64s_at (vat hx29))) rfl ?_
   refine Z10 7 rfl (by kernel_rfl) rfl (Z3 rfl) rfl ?_
   obtain ⟨⟨w30, w31⟩, hx32, hl19⟩ := Z100 hl19
   try dsimp only at hl19
   refine Z10 8 rfl (by kernel_rfl) rfl (RV.sub64c Tryd.ext145 rfl hx32) rfl (Z10 9 rfl (by kernel_rfl) rfl (Z3 rfl) rfl (Z10 10 rfl (by kernel_rfl) rfl (Z17 rfl rfl) rfl (XW.slot (U64 w30) (rfl) (Z10 11 rfl (by kernel_rfl) rfl (Z17 rfl rfl) rfl (XW.slot (U64 w31) (rfl) (Z10 12 rfl (by kernel_rfl) rfl (Z109 (n15) rfl rfl rfl rfl rfl (by omega)) rfl (XW.sv 13 rfl (by kernel_rfl) (SV.store rfl rfl rfl rfl rfl (by rw [Z101, Zv]; omega)) (fun w m => m.pick [1, 2, 3] 4 rfl rfl) ?_)))))))
   refine XW.cells (u64s (w17.setIfInBounds n15 w30).toList) (by rw [Nat.zero_add, Z139, vset]) (Z10 14 rfl (by kernel_rfl) rfl (Z5 rfl) rfl (XW.nil (by kernel_rfl) (Z27 (Z1 (Z2 (Z0 (RV.add rfl rfl (by omega)) rfl (Z7 (.int .i64 (((n15 + 1) : Nat) : Int)) (by first | rfl | (congr 1) | (congr 1; omega)) (Z0 (Z3 rfl) rfl (Z6 ?_)))))))))
   exact Z114 (k' := k18) (Nat.lt_succ_self _) ⟨w31, (n15 + 1), (w17.setIfInBounds n15 w30), hl19, (by omega), rfl, rfl⟩ ⟨rfl, rfl, rfl, rfl, rfl, rfl, trivial⟩ (fun w m => m.pick [0, 1, 2, 3] 4 rfl rfl)
  ·replace hl19 := if_f hl19 h25
   refine Z14 rfl (decide_eq_false h25) (CW.exit (Z9 (Z9 (Z15 ?_))))
   exact QW.join ⟨w14, w17, (Zi hl19).symm, rfl, rfl⟩ ⟨rfl, rfl, rfl, trivial⟩ (fun w m => m.pick [0, 1] 4 rfl rfl)
theorem u256_Cmp_does (w0 : World) (Φ : Ctx) (N : List Ent) (hΦ : ∀ w, Mem w0 w N → Φ w) (a0 : Vector (BitVec 64) 4) (a1 : Vector (BitVec 64) 4) (res0 : Int) (hf : u256_Cmp a0 a1 = some res0) : DoesG Tryd.prog 119 [.agg (u64s a0.toList).toArray, .agg (u64s a1.toList).toArray] w0 [] N (fun v G => (-9223372036854775808 ≤ res0 ∧ res0 ≤ 9223372036854775807) ∧ v = .int .i64 res0) := by
 unfold u256_Cmp at hf
 refine DoesG.enter Tryd.func119 rfl Tryd.ntmps119 rfl (M := (([] ++ N))) rfl (Z4 (Z2 (Z130 rfl rfl (fun b1 => (Z130 rfl rfl (fun b2 => (Z0 (Z5 rfl) rfl (Z6 (Z1 (Z4 (Z4 (Z2 (Z0 (Z22 rfl (List.Mem.tail _ Zh) rfl rfl rfl rfl ((Z101 _).trans Zv)) rfl (Z0 (Z22 rfl Zh rfl rfl rfl rfl ((Z101 _).trans Zv)) rfl ?_))))))))))))))
 refine Z0 (RV.eqA64 rfl rfl rfl rfl rfl rfl (Zv) (Zv)) rfl (Z7 (.bool (decide (a0 = a1))) (congrArg Value.bool (decide_eq_decide.2 Vector.toList_inj)) (Z6 (Z1 ?_)))
 by_cases h3 : a0 = a1
 ·replace hf := if_t hf h3
  refine Z13 rfl (decide_eq_true h3) (Z4 (Z2 (Z0 (Z5 rfl) rfl (Z6 (Z1 (CW.ret (Z8 ?_)))))))
  have e0 := Zi hf
  subst e0
  refine Z104 (rs := [.tmp 4]) ([.int .i64 (0 : Int)]) ((some b2, blk (u64s a1.toList) 128) :: (some b1, blk (u64s a0.toList) 128) :: []) rfl ?_ rfl ?_ ?_ _ (.inl rfl)
  ·exact ⟨rfl, trivial⟩
  ·exact ⟨(by omega), rfl⟩
  ·exact (fun w m => m)
 ·replace hf := if_f hf h3
  refine Z14 rfl (decide_eq_false h3) (CW.skip (Z1 (Z4 (Z4 (Z2 (Z0 (Z22 rfl (List.Mem.tail _ Zh) rfl rfl rfl rfl ((Z101 _).trans Zv)) rfl (Z0 (Z22 rfl Zh rfl rfl rfl rfl ((Z101 _).trans Zv)) rfl ?_)))))))
  obtain ⟨⟨x5, x6⟩, hx4, hf⟩ := Z100 hf
  try dsimp only at hf
  refine Z12 Tryd.call135 rfl (u256_Sub_does w0 (More w0 Φ []) ((some b2, blk (u64s a1.toList) 128) :: (some b1, blk (u64s a0.toList) 128) :: ([] ++ N)) (fun w m => Z105 hΦ 2 m rfl) a0 a1 x5 x6 hx4) rfl rfl ?_
  rintro _ G7 rfl
  refine Z20 (M' := ((some b2, blk (u64s a1.toList) 128) :: (some b1, blk (u64s a0.toList) 128) :: ([] ++ N))) (fun w m => m.appR) (Z0 (Z3 rfl) rfl (Z0 (Z17 rfl rfl) rfl (Z7 (.agg (u64s x5.toList).toArray) (rfl) (Z0 (Z17 rfl rfl) rfl (Z7 (U64 x6) (rfl) (OW.alloc (l := (u64s (Vector.replicate 4 0#64).toList)) rfl (by rw [Vector.toList_replicate, ← Z116]; rfl) rfl (fun b9 => (Z28 (Z103 rfl rfl rfl (Z118 _) rfl ((Z101 _).trans Zv) ((Z101 _).trans Zv)) ?_))))))))
  refine Z0 (Z5 rfl) rfl (Z6 (Z1 (Z4 (Z2 (Z0 (Z3 rfl) rfl (Z0 (RV.eql64 rfl (by first | rfl | exact lit64 _ rfl) rfl (by first | rfl | exact lit64 _ rfl)) rfl (Z6 (Z1 ?_))))))))
  by_cases h10 : x6 = 1#64
  ·replace hf := if_t hf h10
   refine Z13 rfl (decide_eq_true h10) (Z4 (Z2 (Z0 (Z5 rfl) rfl (Z6 (Z1 (CW.ret (Z8 ?_)))))))
   have e0 := Zi hf
   subst e0
   refine Z104 (rs := [.tmp 4]) ([.int .i64 (-1 : Int)]) ((some b9, blk (u64s x5.toList) 128) :: (some b2, blk (u64s a1.toList) 128) :: (some b1, blk (u64s a0.toList) 128) :: []) rfl ?_ rfl ?_ ?_ _ (.inl rfl)
   ·exact ⟨rfl, trivial⟩
   ·exact ⟨(by omega), rfl⟩
   ·exact (fun w m => m)
  ·replace hf := if_f hf h10
   refine Z14 rfl (decide_eq_false h10) (CW.skip (Z1 (Z4 (Z2 (Z0 (Z5 rfl) rfl (Z6 (Z1 (CW.ret ?_))))))))
   have e0 := Zi hf
   subst e0
   refine Z104 (rs := [.tmp 4]) ([.int .i64 (1 : Int)]) ((some b9, blk (u64s x5.toList) 128) :: (some b2, blk (u64s a1.toList) 128) :: (some b1, blk (u64s a0.toList) 128) :: []) rfl ?_ rfl ?_ ?_ _ (.inl rfl)
   ·exact ⟨rfl, trivial⟩
   ·exact ⟨(by omega), rfl⟩
   ·exact (fun w m => m)
theorem waybillref01_Cmp_does (w0 : World) (Φ : Ctx) (N : List Ent) (hΦ : ∀ w, Mem w0 w N → Φ w) (a0 : Vector (BitVec 64) 4) (a1 : Vector (BitVec 64) 4) (res0 : Int) (hf : waybillref01_Cmp a0 a1 = some res0) : DoesG Tryd.prog 138 [.agg (u64s a0.toList).toArray, .agg (u64s a1.toList).toArray] w0 [] N (fun v G => (-9223372036854775808 ≤ res0 ∧ res0 ≤ 9223372036854775807) ∧ v = .int .i64 res0) := by
 unfold waybillref01_Cmp at hf
 refine DoesG.enter Tryd.func138 rfl Tryd.ntmps138 rfl (M := (([] ++ N))) rfl (Z4 (Z2 (Z130 rfl rfl (fun b1 => (Z130 rfl rfl (fun b2 => (Z0 (Z5 rfl) rfl (Z6 (Z1 (Z4 (Z4 (Z2 (Z0 (Z5 rfl) rfl (Z6 (Z1 ?_)))))))))))))))
 obtain ⟨q3, hq4, hf⟩ := Z100 hf
 refine Z115 (fun L' M' => q3 = Lp.go () ∧ L' = [] ∧ M' = (([] ++ N))) ?_ ?_
 ·rintro L6 M7 ⟨e5, e8, e9⟩
  rw [e8, e9]
  clear e8 e9 L6 M7
  clear hq4
  rw [e5] at hf
  clear e5
  try dsimp only at hf
  refine Z1 (Z4 (Z2 (Z0 (Z5 rfl) rfl (Z6 (Z1 (CW.ret ?_))))))
  have e0 := Zi hf
  subst e0
  refine Z104 (rs := [.tmp 4]) ([.int .i64 (0 : Int)]) ([]) rfl ?_ rfl ?_ ?_ _ (.inl rfl)
  ·exact ⟨rfl, trivial⟩
  ·exact ⟨(by omega), rfl⟩
  ·exact (fun w m => m)
 ·skip
  refine CW.block (Z121 (fun k L' M' => ∃ z10 : Int, (waybillref01_Cmp.l1 a0 a1 k z10) = some q3 ∧ (-9223372036854775808 ≤ z10 ∧ z10 ≤ 9223372036854775807) ∧ L' = [(2, ptr (some b1) 0), (3, ptr (some b2) 0), (5, .int .i64 z10)] ∧ M' = ((some b2, blk (u64s a1.toList) 128) :: (some b1, blk (u64s a0.toList) 128) :: ([] ++ N))) (k0 := 5) ⟨(3 : Int), hq4, (by omega), rfl, rfl⟩ ⟨rfl, rfl, rfl, trivial⟩ (fun w m => m.pick [0, 1] 2 rfl rfl) ?_)
  clear hq4
  rintro k12 L15 M16 ⟨z10, hl13, b11, e17, e18⟩
  rw [e17, e18]
  clear e17 e18 L15 M16
  rcases k12 with _ | k12
  ·rw [waybillref01_Cmp.l1] at hl13; cases hl13
  rw [waybillref01_Cmp.l1] at hl13
  refine Z4 (Z4 (Z2 (Z0 (Z3 rfl) rfl (Z0 (RV.geq rfl rfl) rfl (Z6 (Z1 ?_))))))
  by_cases h19 : (0 : Int) ≤ z10
  ·replace hl13 := if_t hl13 h19
   refine Z13 rfl (decide_eq_true h19) (CW.skip (Z1 (Z4 (CW.block (Z4 (Z4 (Z138 7 mixed (by kernel_rfl) rfl (Z18 0 rfl (by kernel_rfl) rfl (Z3 rfl) rfl ?_))))))))
   obtain ⟨g20, hl13⟩ := Z112 hl13
   refine Z18 1 rfl (by kernel_rfl) rfl (Z109 ((z10).toNat) rfl rfl (by omega) rfl rfl (by omega)) rfl ?_
   obtain ⟨x21, hx22, hl13⟩ := Z100 hl13
   refine Z18 2 rfl (by kernel_rfl) rfl (Z29 rfl (List.Mem.tail _ Zh) rfl rfl rfl (by rw [Nat.zero_add]; exact u64s_at (vat hx22))) rfl ?_
   refine Z18 3 rfl (by kernel_rfl) rfl (Z3 rfl) rfl (Z18 4 rfl (by kernel_rfl) rfl (Z109 ((z10).toNat) rfl rfl (by omega) rfl rfl (by omega)) rfl ?_)
   obtain ⟨x23, hx24, hl13⟩ := Z100 hl13
   refine Z18 5 rfl (by kernel_rfl) rfl (Z29 rfl Zh rfl rfl rfl (by rw [Nat.zero_add]; exact u64s_at (vat hx24))) rfl ?_
   refine Z18 6 rfl (by kernel_rfl) rfl (RV.lss rfl rfl) rfl (UW.slot (.bool (decide (x21.toNat < x23.toNat))) (congrArg Value.bool (decide_eq_decide.2 (by first | omega | (simp; omega) | simp))) (UW.nil (by kernel_rfl) (Z6 (Z1 ?_))))
   by_cases h25 : x21.toNat < x23.toNat
   ·replace hl13 := if_t hl13 h25
    refine Z13 rfl (decide_eq_true h25) (Z4 (Z2 (Z0 (Z5 rfl) rfl (Z6 (Z1 (CW.ret (Z8 (Z16 (Z8 (Z8 (Z16 (Z8 ?_))))))))))))
    have hc := Zi hl13
    subst hc
    try dsimp only at hf
    refine Z8 ?_
    have e0 := Zi hf
    subst e0
    refine Z104 (rs := [.tmp 4]) ([.int .i64 (-1 : Int)]) ((some b2, blk (u64s a1.toList) 128) :: (some b1, blk (u64s a0.toList) 128) :: []) rfl ?_ rfl ?_ ?_ _ (.inl rfl)
    ·exact ⟨rfl, trivial⟩
    ·exact ⟨(by omega), rfl⟩
    ·exact (fun w m => m)
   ·replace hl13 := if_f hl13 h25
    refine Z14 rfl (decide_eq_false h25) (CW.skip (Z1 (Z4 (Z138 7 mixed (by kernel_rfl) rfl (Z18 0 rfl (by kernel_rfl) rfl (Z3 rfl) rfl (Z18 1 rfl (by kernel_rfl) rfl (Z109 ((z10).toNat) rfl rfl (by omega) rfl rfl (by omega)) rfl ?_))))))
    obtain ⟨x26, hx27, hl13⟩ := Z100 hl13
    refine Z18 2 rfl (by kernel_rfl) rfl (Z29 rfl (List.Mem.tail _ Zh) rfl rfl rfl (by rw [Nat.zero_add]; exact u64s_at (vat hx27))) rfl ?_
    refine Z18 3 rfl (by kernel_rfl) rfl (Z3 rfl) rfl (Z18 4 rfl (by kernel_rfl) rfl (Z109 ((z10).toNat) rfl rfl (by omega) rfl rfl (by omega)) rfl ?_)
    obtain ⟨x28, hx29, hl13⟩ := Z100 hl13
    refine Z18 5 rfl (by kernel_rfl) rfl (Z29 rfl Zh rfl rfl rfl (by rw [Nat.zero_add]; exact u64s_at (vat hx29))) rfl ?_
    refine Z18 6 rfl (by kernel_rfl) rfl (RV.gtr rfl rfl) rfl (UW.slot (.bool (decide (x28.toNat < x26.toNat))) (congrArg Value.bool (decide_eq_decide.2 (by first | omega | (simp; omega) | simp))) (UW.nil (by kernel_rfl) (Z6 (Z1 ?_))))
    by_cases h30 : x28.toNat < x26.toNat
    ·replace hl13 := if_t hl13 h30
     refine Z13 rfl (decide_eq_true h30) (Z4 (Z2 (Z0 (Z5 rfl) rfl (Z6 (Z1 (CW.ret (Z16 (Z8 (Z8 (Z16 (Z8 ?_)))))))))))
     have hc := Zi hl13
     subst hc
     try dsimp only at hf
     refine Z8 ?_
     have e0 := Zi hf
     subst e0
     refine Z104 (rs := [.tmp 4]) ([.int .i64 (1 : Int)]) ((some b2, blk (u64s a1.toList) 128) :: (some b1, blk (u64s a0.toList) 128) :: []) rfl ?_ rfl ?_ ?_ _ (.inl rfl)
     ·exact ⟨rfl, trivial⟩
     ·exact ⟨(by omega), rfl⟩
     ·exact (fun w m => m)
    ·replace hl13 := if_f hl13 h30
     refine Z14 rfl (decide_eq_false h30) (CW.skip (Z27 (Z1 (Z2 (Z0 (Z3 rfl) rfl ?_)))))
     obtain ⟨g31, hl13⟩ := Z112 hl13
     refine Z0 (RV.sub rfl rfl (by omega)) rfl (Z0 (Z5 rfl) rfl (Z6 ?_))
     exact Z114 (k' := k12) (Nat.lt_succ_self _) ⟨(z10 - (1 : Int)), hl13, (by omega), rfl, rfl⟩ ⟨rfl, rfl, rfl, trivial⟩ (fun w m => m.pick [0, 1] 2 rfl rfl)
  ·replace hl13 := if_f hl13 h19
   refine Z14 rfl (decide_eq_false h19) (CW.exit (Z9 (Z9 (Z15 ?_))))
   exact QW.join ⟨(Zi hl13).symm, rfl, rfl⟩ trivial (fun w m => m.pick [] 2 rfl rfl)
theorem u256_Get_does (w0 : World) (Φ : Ctx) (N : List Ent) (hΦ : ∀ w, Mem w0 w N → Φ w) (A0_ : Option Addr) (c0_ : Nat) (a0 : List (BitVec 8)) (res0 : Vector (BitVec 64) 4) (res1 : Nat) (va0 : View Φ A0_ a0.length c0_ 1 (u8s a0)) (hf : u256_Get a0 = some (res0, res1)) : DoesG Tryd.prog 118 [.slice A0_ a0.length c0_] w0 [] N (fun v G => (res1 ≤ 9223372036854775807) ∧ v = .tuple #[.agg (u64s res0.toList).toArray, .int .i64 ((res1 : Nat) : Int)]) := by
 unfold u256_Get at hf
 replace va0 := va0.mono (Ψ := More w0 Φ []) (fun w q => q.1)
 have m1 := va0.mx
 refine DoesG.enter Tryd.func118 rfl Tryd.ntmps118 rfl (M := (([] ++ N))) rfl (Z4 (Z2 (OW.alloc (l := (u64s (Vector.replicate 4 0#64).toList)) rfl (by rw [Vector.toList_replicate, ← Z116]; rfl) rfl (fun b2 => (Z0 (Z5 rfl) rfl (Z6 (Z1 (Z4 (Z4 (Z2 (Z0 (Z3 rfl) rfl (Z0 (RV.len rfl rfl) rfl (Z0 (RV.gtr rfl rfl) rfl ?_)))))))))))))
 refine Z7 (.bool (decide (32 < a0.length))) (congrArg Value.bool (decide_eq_decide.2 (by omega))) (Z6 (Z1 ?_))
 by_cases h3 : 32 < a0.length
 ·replace hf := if_t hf h3
  refine Z13 rfl (decide_eq_true h3) (Z4 (Z2 (Z0 (RV.build0 (l := (u64s (Vector.replicate 4 0#64).toList)) rfl rfl rfl (by rw [Vector.toList_replicate, ← Z116]; rfl)) rfl (Z28 (Z103 rfl rfl rfl (Z118 _) rfl ((Z101 _).trans Zv) ((Z101 _).trans Zv)) (Z0 (Z5 rfl) rfl (Z6 (Z1 (CW.ret (Z8 ?_)))))))))
  have er0 := Zi hf
  obtain ⟨e0, er1⟩ := Prod.mk.inj er0
  clear er0
  subst e0
  subst er1
  refine Z104 (rs := [.cell 2 128, .tmp 3]) ([.agg (u64s (Vector.replicate 4 0#64).toList).toArray, .int .i64 (11 : Int)]) ((some b2, blk (u64s (Vector.replicate 4 0#64).toList) 128) :: []) rfl ?_ rfl ?_ ?_ _ (.inl rfl)
  ·exact ⟨⟨_, _, _, _, rfl, Zh, rfl, rfl, (congrArg some ((Z101 _).trans Zv).symm), rfl⟩, rfl, trivial⟩
  ·exact ⟨(by omega), rfl⟩
  ·exact (fun w m => m)
 ·replace hf := if_f hf h3
  refine Z14 rfl (decide_eq_false h3) (CW.skip (Z1 (Z4 (Z2 (OW.alloc (l := (u64s (Vector.replicate 4 0#64).toList)) rfl (by rw [Vector.toList_replicate, ← Z116]; rfl) rfl (fun b4 => (Z6 (Z1 (Z4 (Z4 (Z2 (Z0 (Z3 rfl) rfl (Z0 (RV.len rfl rfl) rfl (Z0 (Z3 rfl) rfl (Z6 (Z1 ?_))))))))))))))))
  obtain ⟨q5, hq6, hf⟩ := Z100 hf
  refine Z115 (fun L' M' => ∃ w7 : Vector (BitVec 64) 4, q5 = w7 ∧ L' = [(2, ptr (some b2) 0), (4, ptr (some b4) 0)] ∧ M' = ((some b4, blk (u64s w7.toList) 128) :: (some b2, blk (u64s (Vector.replicate 4 0#64).toList) 128) :: ([] ++ N))) ?_ ?_
  ·rintro L9 M10 ⟨w7, e8, e11, e12⟩
   rw [e11, e12]
   clear e11 e12 L9 M10
   clear hq6
   rw [e8] at hf
   clear e8
   try dsimp only at hf
   refine Z1 (Z4 (Z2 (Z0 (Z22 rfl Zh rfl rfl rfl rfl ((Z101 _).trans Zv)) rfl (OW.rot1 (Z28 (Z103 rfl rfl rfl (Z118 _) rfl ((Z101 _).trans Zv) ((Z101 _).trans Zv)) (Z0 (Z5 rfl) rfl (Z6 (Z1 (CW.ret ?_)))))))))
   have er0 := Zi hf
   obtain ⟨e0, er1⟩ := Prod.mk.inj er0
   clear er0
   subst e0
   subst er1
   refine Z104 (rs := [.cell 2 128, .tmp 3]) ([.agg (u64s w7.toList).toArray, .int .i64 (0 : Int)]) ((some b2, blk (u64s w7.toList) 128) :: (some b4, blk (u64s w7.toList) 128) :: []) rfl ?_ rfl ?_ ?_ _ (.inl rfl)
   ·exact ⟨⟨_, _, _, _, rfl, Zh, rfl, rfl, (congrArg some ((Z101 _).trans Zv).symm), rfl⟩, rfl, trivial⟩
   ·exact ⟨(by omega), rfl⟩
   ·exact (fun w m => m)
  ·skip
   refine CW.block (Z121 (fun k L' M' => ∃ n13 : Nat, ∃ w15 : Vector (BitVec 64) 4, (u256_Get.l1 a0 k n13 w15) = some q5 ∧ (n13 ≤ 9223372036854775807) ∧ L' = [(0, .slice A0_ a0.length c0_), (2, ptr (some b2) 0), (4, ptr (some b4) 0), (12, .int .i64 ((a0.length : Nat) : Int)), (13, .int .i64 ((n13 : Nat) : Int))] ∧ M' = ((some b4, blk (u64s w15.toList) 128) :: (some b2, blk (u64s (Vector.replicate 4 0#64).toList) 128) :: ([] ++ N))) (k0 := (a0.length - 0 + 2)) ⟨0, (Vector.replicate 4 0#64), hq6, (by omega), rfl, rfl⟩ ⟨rfl, rfl, rfl, rfl, rfl, trivial⟩ (fun w m => m.pick [0, 1] 2 rfl rfl) ?_)
   clear hq6
   rintro k16 L19 M20 ⟨n13, w15, hl17, b14, e21, e22⟩
   rw [e21, e22]
   clear e21 e22 L19 M20
   rcases k16 with _ | k16
   ·rw [u256_Get.l1] at hl17; cases hl17
   rw [u256_Get.l1] at hl17
   refine Z4 (Z2 (Z0 (RV.lss rfl rfl) rfl (Z7 (.bool (decide (n13 < a0.length))) (congrArg Value.bool (decide_eq_decide.2 (by omega))) (Z6 (Z1 (Z4 ?_))))))
   by_cases h23 : n13 < a0.length
   ·replace hl17 := if_t hl17 h23
    refine Z13 rfl (decide_eq_true h23) (CW.skip (Z1 (Z4 (CW.block (Z4 (Z2 (Z0 (Z3 rfl) rfl (Z0 (Z5 rfl) rfl (Z6 (Z1 (Z4 (Z2 (Z0 (Z3 rfl) rfl (Z0 (RV.len rfl rfl) rfl ?_))))))))))))))
    obtain ⟨g24, hl17⟩ := Z112 hl17
    refine Z0 (RV.sub rfl rfl (by omega)) rfl (Z7 (.int .i64 ((a0.length - 1 : Nat) : Int)) (by congr 1; omega) (Z0 (Z3 rfl) rfl ?_))
    obtain ⟨g25, hl17⟩ := Z112 hl17
    refine Z0 (RV.sub rfl rfl (by omega)) rfl (Z7 (.int .i64 (((a0.length - 1) - n13 : Nat) : Int)) (by congr 1; omega) (Z0 (Z5 rfl) rfl (Z6 (Z1 (Z137 ((some b2, blk (u64s (Vector.replicate 4 0#64).toList) 128) :: ([] ++ N)) [15] (fun w m => m.pick [1] 2 rfl rfl) mixed (by kernel_rfl) (Z10 0 rfl (by kernel_rfl) rfl (Z3 rfl) rfl (Z10 1 rfl (by kernel_rfl) rfl (RV.quo rfl rfl (by omega) (by omega) (by omega)) rfl (XW.slot (.int .i64 ((((a0.length - 1) - n13) / 8 : Nat) : Int)) (by first | rfl | (congr 1; omega)) ?_))))))))
    obtain ⟨g26, hl17⟩ := Z112 hl17
    refine Z10 2 rfl (by kernel_rfl) rfl (Z109 ((((a0.length - 1) - n13) / 8)) rfl rfl rfl rfl rfl (by omega)) rfl ?_
    obtain ⟨x27, hx28, hl17⟩ := Z100 hl17
    refine XW.rv 3 rfl (by kernel_rfl) rfl (by kernel_rfl) (Z29 rfl Zh rfl rfl rfl (by rw [Nat.zero_add]; exact u64s_at (vat hx28))) rfl ?_
    refine Z10 4 rfl (by kernel_rfl) rfl (Z3 rfl) rfl (Z10 5 rfl (by kernel_rfl) rfl (Z3 rfl) rfl ?_)
    obtain ⟨x29, hx30, hl17⟩ := Z100 hl17
    have hl31 := Z111 hx30
    refine Z10 6 rfl (by kernel_rfl) rfl (Z131 (n13) rfl rfl rfl rfl rfl (va0.isSome (by decide) hl31) (by omega)) rfl (Z10 7 rfl (by kernel_rfl) rfl (Z21 rfl rfl rfl (fun w m => va0.cell (Z105 hΦ 1 m rfl) (Z148 hx30))) rfl (Z10 8 rfl (by kernel_rfl) rfl (RV.conv8_64 rfl (by first | rfl | exact lit8 _ rfl) rfl rfl) rfl (Z10 9 rfl (by kernel_rfl) rfl (Z3 rfl) rfl (Z10 10 rfl (by kernel_rfl) rfl (RV.rem rfl rfl (by omega) (by omega)) rfl (XW.slot (.int .i64 ((((a0.length - 1) - n13) % 8 : Nat) : Int)) (by first | rfl | (congr 1; omega)) (Z10 11 rfl (by kernel_rfl) rfl (RV.mul rfl rfl (by omega)) rfl (XW.slot (.int .i64 (((8 * (((a0.length - 1) - n13) % 8)) : Nat) : Int)) (by first | rfl | (congr 1) | (congr 1; omega)) ?_)))))))
    refine Z10 12 rfl (by kernel_rfl) rfl (RV.shl64 (s := (8 * (((a0.length - 1) - n13) % 8))) rfl (by first | rfl | exact lit64 _ rfl) rfl (by first | rfl | (congr 1))) rfl (Z10 13 rfl (by kernel_rfl) rfl (RV.or64 rfl (by first | rfl | exact lit64 _ rfl) rfl (by first | rfl | exact lit64 _ rfl)) rfl (Z10 14 rfl (by kernel_rfl) rfl (Z109 ((((a0.length - 1) - n13) / 8)) rfl rfl rfl rfl rfl (by omega)) rfl (XW.sv 15 rfl (by kernel_rfl) (SV.store rfl rfl rfl rfl rfl (by rw [Z101, Zv]; omega)) (fun w m => m.pick [1] 2 rfl rfl) (XW.cells (u64s (w15.setIfInBounds (((a0.length - 1) - n13) / 8) (x27 ||| ((x29.setWidth 64) <<< (8 * (((a0.length - 1) - n13) % 8))))).toList) (by rw [Nat.zero_add, Z139, vset]) (XW.nil (by kernel_rfl) (Z27 (Z1 (Z2 (Z0 (RV.add rfl rfl (by omega)) rfl ?_)))))))))
    refine Z7 (.int .i64 (((n13 + 1) : Nat) : Int)) (by first | rfl | (congr 1) | (congr 1; omega)) (Z0 (Z3 rfl) rfl (Z6 ?_))
    exact Z114 (k' := k16) (Nat.lt_succ_self _) ⟨(n13 + 1), (w15.setIfInBounds (((a0.length - 1) - n13) / 8) (x27 ||| ((x29.setWidth 64) <<< (8 * (((a0.length - 1) - n13) % 8))))), hl17, (by omega), rfl, rfl⟩ ⟨rfl, rfl, rfl, rfl, rfl, trivial⟩ (fun w m => m.pick [0, 1] 2 rfl rfl)
   ·replace hl17 := if_f hl17 h23
    refine Z14 rfl (decide_eq_false h23) (CW.exit (Z9 (Z9 (Z15 ?_))))
    exact QW.join ⟨w15, (Zi hl17).symm, rfl, rfl⟩ ⟨rfl, rfl, trivial⟩ (fun w m => m.pick [0, 1] 2 rfl rfl)
theorem waybillref01_Get_does (w0 : World) (Φ : Ctx) (N : List Ent) (hΦ : ∀ w, Mem w0 w N → Φ w) (A0_ : Option Addr) (c0_ : Nat) (a0 : List (BitVec 8)) (res0 : Vector (BitVec 64) 4) (res1 : Nat) (va0 : View Φ A0_ a0.length c0_ 1 (u8s a0)) (hf : waybillref01_Get a0 = some (res0, res1)) : DoesG Tryd.prog 137 [.slice A0_ a0.length c0_] w0 [] N (fun v G => (res1 ≤ 9223372036854775807) ∧ v = .tuple #[.agg (u64s res0.toList).toArray, .int .i64 ((res1 : Nat) : Int)]) := by
 unfold waybillref01_Get at hf
 replace va0 := va0.mono (Ψ := More w0 Φ []) (fun w q => q.1)
 have m1 := va0.mx
 refine DoesG.enter Tryd.func137 rfl Tryd.ntmps137 rfl (M := (([] ++ N))) rfl (Z4 (Z2 (OW.alloc (l := (u64s (Vector.replicate 4 0#64).toList)) rfl (by rw [Vector.toList_replicate, ← Z116]; rfl) rfl (fun b2 => (Z0 (Z5 rfl) rfl (Z6 (Z1 (Z4 (Z2 (OW.alloc (l := (u64s (Vector.replicate 4 0#64).toList)) rfl (by rw [Vector.toList_replicate, ← Z116]; rfl) rfl (fun b3 => (Z6 (Z1 (Z4 (Z4 (Z2 (Z0 (Z3 rfl) rfl ?_)))))))))))))))))
 refine Z0 (RV.len rfl rfl) rfl (Z0 (RV.gtr rfl rfl) rfl (Z7 (.bool (decide (32 < a0.length))) (congrArg Value.bool (decide_eq_decide.2 (by omega))) (Z6 (Z1 ?_))))
 by_cases h4 : 32 < a0.length
 ·replace hf := if_t hf h4
  refine Z13 rfl (decide_eq_true h4) (Z4 (Z2 (Z0 (Z22 rfl Zh rfl rfl rfl rfl ((Z101 _).trans Zv)) rfl (OW.rot1 (Z28 (Z103 rfl rfl rfl (Z118 _) rfl ((Z101 _).trans Zv) ((Z101 _).trans Zv)) (Z0 (Z5 rfl) rfl (Z6 (Z1 (CW.ret (Z8 ?_))))))))))
  have er0 := Zi hf
  obtain ⟨e0, er1⟩ := Prod.mk.inj er0
  clear er0
  subst e0
  subst er1
  refine Z104 (rs := [.cell 2 128, .tmp 3]) ([.agg (u64s (Vector.replicate 4 0#64).toList).toArray, .int .i64 (11 : Int)]) ((some b2, blk (u64s (Vector.replicate 4 0#64).toList) 128) :: (some b3, blk (u64s (Vector.replicate 4 0#64).toList) 128) :: []) rfl ?_ rfl ?_ ?_ _ (.inl rfl)
  ·exact ⟨⟨_, _, _, _, rfl, Zh, rfl, rfl, (congrArg some ((Z101 _).trans Zv).symm), rfl⟩, rfl, trivial⟩
  ·exact ⟨(by omega), rfl⟩
  ·exact (fun w m => m)
 ·replace hf := if_f hf h4
  refine Z14 rfl (decide_eq_false h4) (CW.skip (Z1 (Z4 (Z4 (Z2 (Z0 (Z5 rfl) rfl (Z6 (Z1 ?_))))))))
  obtain ⟨q5, hq6, hf⟩ := Z100 hf
  refine Z115 (fun L' M' => ∃ w7 : Vector (BitVec 64) 4, q5 = w7 ∧ L' = [(2, ptr (some b2) 0), (4, ptr (some b3) 0)] ∧ M' = ((some b3, blk (u64s w7.toList) 128) :: (some b2, blk (u64s (Vector.replicate 4 0#64).toList) 128) :: ([] ++ N))) ?_ ?_
  ·rintro L9 M10 ⟨w7, e8, e11, e12⟩
   rw [e11, e12]
   clear e11 e12 L9 M10
   clear hq6
   rw [e8] at hf
   clear e8
   try dsimp only at hf
   refine Z1 (Z4 (Z2 (Z0 (Z22 rfl Zh rfl rfl rfl rfl ((Z101 _).trans Zv)) rfl (OW.rot1 (Z28 (Z103 rfl rfl rfl (Z118 _) rfl ((Z101 _).trans Zv) ((Z101 _).trans Zv)) (Z0 (Z5 rfl) rfl (Z6 (Z1 (CW.ret ?_)))))))))
   have er0 := Zi hf
   obtain ⟨e0, er1⟩ := Prod.mk.inj er0
   clear er0
   subst e0
   subst er1
   refine Z104 (rs := [.cell 2 128, .tmp 3]) ([.agg (u64s w7.toList).toArray, .int .i64 (0 : Int)]) ((some b2, blk (u64s w7.toList) 128) :: (some b3, blk (u64s w7.toList) 128) :: []) rfl ?_ rfl ?_ ?_ _ (.inl rfl)
   ·exact ⟨⟨_, _, _, _, rfl, Zh, rfl, rfl, (congrArg some ((Z101 _).trans Zv).symm), rfl⟩, rfl, trivial⟩
   ·exact ⟨(by omega), rfl⟩
   ·exact (fun w m => m)
  ·skip
   refine CW.block (Z121 (fun k L' M' => ∃ n13 : Nat, ∃ w15 : Vector (BitVec 64) 4, (waybillref01_Get.l1 a0 k n13 w15) = some q5 ∧ (n13 ≤ 9223372036854775807) ∧ L' = [(0, .slice A0_ a0.length c0_), (2, ptr (some b2) 0), (4, ptr (some b3) 0), (5, .int .i64 ((n13 : Nat) : Int))] ∧ M' = ((some b3, blk (u64s w15.toList) 128) :: (some b2, blk (u64s (Vector.replicate 4 0#64).toList) 128) :: ([] ++ N))) (k0 := (a0.length - 0 + 2)) ⟨0, (Vector.replicate 4 0#64), hq6, (by omega), rfl, rfl⟩ ⟨rfl, rfl, rfl, rfl, trivial⟩ (fun w m => m.pick [0, 1] 2 rfl rfl) ?_)
   clear hq6
   rintro k16 L19 M20 ⟨n13, w15, hl17, b14, e21, e22⟩
   rw [e21, e22]
   clear e21 e22 L19 M20
   rcases k16 with _ | k16
   ·rw [waybillref01_Get.l1] at hl17; cases hl17
   rw [waybillref01_Get.l1] at hl17
   refine Z4 (Z4 (Z2 (Z0 (Z3 rfl) rfl (Z0 (Z3 rfl) rfl (Z0 (RV.len rfl rfl) rfl (Z0 (RV.lss rfl rfl) rfl (Z7 (.bool (decide (n13 < a0.length))) (congrArg Value.bool (decide_eq_decide.2 (by omega))) (Z6 (Z1 ?_)))))))))
   by_cases h23 : n13 < a0.length
   ·replace hl17 := if_t hl17 h23
    refine Z13 rfl (decide_eq_true h23) (CW.skip (Z1 (Z4 (CW.block (Z4 (Z2 (Z0 (Z3 rfl) rfl (Z0 (RV.len rfl rfl) rfl ?_))))))))
    obtain ⟨g24, hl17⟩ := Z112 hl17
    refine Z0 (RV.sub rfl rfl (by omega)) rfl (Z7 (.int .i64 ((a0.length - 1 : Nat) : Int)) (by congr 1; omega) (Z0 (Z3 rfl) rfl ?_))
    obtain ⟨g25, hl17⟩ := Z112 hl17
    refine Z0 (RV.sub rfl rfl (by omega)) rfl (Z7 (.int .i64 (((a0.length - 1) - n13 : Nat) : Int)) (by congr 1; omega) (Z0 (Z5 rfl) rfl (Z6 (Z1 (Z137 ((some b2, blk (u64s (Vector.replicate 4 0#64).toList) 128) :: ([] ++ N)) [18] (fun w m => m.pick [1] 2 rfl rfl) mixed (by kernel_rfl) (Z10 0 rfl (by kernel_rfl) rfl (Z3 rfl) rfl (Z10 1 rfl (by kernel_rfl) rfl (RV.quo rfl rfl (by omega) (by omega) (by omega)) rfl (XW.slot (.int .i64 ((((a0.length - 1) - n13) / 8 : Nat) : Int)) (by first | rfl | (congr 1; omega)) ?_))))))))
    refine Z10 2 rfl (by kernel_rfl) rfl (Z3 rfl) rfl (Z10 3 rfl (by kernel_rfl) rfl (RV.quo rfl rfl (by omega) (by omega) (by omega)) rfl (XW.slot (.int .i64 ((((a0.length - 1) - n13) / 8 : Nat) : Int)) (by first | rfl | (congr 1; omega)) ?_))
    obtain ⟨g26, hl17⟩ := Z112 hl17
    refine Z10 4 rfl (by kernel_rfl) rfl (Z109 ((((a0.length - 1) - n13) / 8)) rfl rfl rfl rfl rfl (by omega)) rfl ?_
    obtain ⟨x27, hx28, hl17⟩ := Z100 hl17
    refine XW.rv 5 rfl (by kernel_rfl) rfl (by kernel_rfl) (Z29 rfl Zh rfl rfl rfl (by rw [Nat.zero_add]; exact u64s_at (vat hx28))) rfl ?_
    refine Z10 6 rfl (by kernel_rfl) rfl (Z3 rfl) rfl (Z10 7 rfl (by kernel_rfl) rfl (Z3 rfl) rfl ?_)
    obtain ⟨x29, hx30, hl17⟩ := Z100 hl17
    have hl31 := Z111 hx30
    refine Z10 8 rfl (by kernel_rfl) rfl (Z131 (n13) rfl rfl rfl rfl rfl (va0.isSome (by decide) hl31) (by omega)) rfl (Z10 9 rfl (by kernel_rfl) rfl (Z21 rfl rfl rfl (fun w m => va0.cell (Z105 hΦ 1 m rfl) (Z148 hx30))) rfl (Z10 10 rfl (by kernel_rfl) rfl (RV.conv8_64 rfl (by first | rfl | exact lit8 _ rfl) rfl rfl) rfl (Z10 11 rfl (by kernel_rfl) rfl (Z3 rfl) rfl (Z10 12 rfl (by kernel_rfl) rfl (RV.rem rfl rfl (by omega) (by omega)) rfl (XW.slot (.int .i64 ((((a0.length - 1) - n13) % 8 : Nat) : Int)) (by first | rfl | (congr 1; omega)) (Z10 13 rfl (by kernel_rfl) rfl (RV.mul rfl rfl (by omega)) rfl (XW.slot (.int .i64 (((8 * (((a0.length - 1) - n13) % 8)) : Nat) : Int)) (by first | rfl | (congr 1) | (congr 1; omega)) ?_)))))))
    refine Z10 14 rfl (by kernel_rfl) rfl (Z152 rfl rfl rfl) rfl (XW.slot (U64 (BitVec.ofNat 64 (8 * (((a0.length - 1) - n13) % 8)))) (congrArg U64 (BitVec.ofInt_natCast ..)) ?_)
    refine Z10 15 rfl (by kernel_rfl) rfl (RV.shl64 (s := (BitVec.ofNat 64 (8 * (((a0.length - 1) - n13) % 8))).toNat) rfl (by first | rfl | exact lit64 _ rfl) rfl (by first | rfl | (simp [U64]; done))) rfl ?_
    refine Z10 16 rfl (by kernel_rfl) rfl (RV.add64 rfl (by first | rfl | exact lit64 _ rfl) rfl (by first | rfl | exact lit64 _ rfl)) rfl (Z10 17 rfl (by kernel_rfl) rfl (Z109 ((((a0.length - 1) - n13) / 8)) rfl rfl rfl rfl rfl (by omega)) rfl (XW.sv 18 rfl (by kernel_rfl) (SV.store rfl rfl rfl rfl rfl (by rw [Z101, Zv]; omega)) (fun w m => m.pick [1] 2 rfl rfl) (XW.cells (u64s (w15.setIfInBounds (((a0.length - 1) - n13) / 8) (x27 + ((x29.setWidth 64) <<< (BitVec.ofNat 64 (8 * (((a0.length - 1) - n13) % 8))).toNat))).toList) (by rw [Nat.zero_add, Z139, vset]) (XW.nil (by kernel_rfl) (Z27 (Z1 (Z2 (Z0 (Z3 rfl) rfl (Z0 (RV.add rfl rfl (by omega)) rfl ?_)))))))))
    refine Z7 (.int .i64 (((n13 + 1) : Nat) : Int)) (by first | rfl | (congr 1) | (congr 1; omega)) (Z0 (Z5 rfl) rfl (Z6 ?_))
    exact Z114 (k' := k16) (Nat.lt_succ_self _) ⟨(n13 + 1), (w15.setIfInBounds (((a0.length - 1) - n13) / 8) (x27 + ((x29.setWidth 64) <<< (BitVec.ofNat 64 (8 * (((a0.length - 1) - n13) % 8))).toNat))), hl17, (by omega), rfl, rfl⟩ ⟨rfl, rfl, rfl, rfl, trivial⟩ (fun w m => m.pick [0, 1] 2 rfl rfl)
   ·replace hl17 := if_f hl17 h23
    refine Z14 rfl (decide_eq_false h23) (CW.exit (Z9 (Z9 (Z15 ?_))))
    exact QW.join ⟨w15, (Zi hl17).symm, rfl, rfl⟩ ⟨rfl, rfl, trivial⟩ (fun w m => m.pick [0, 1] 2 rfl rfl)
theorem u256_Strict_does (w0 : World) (Φ : Ctx) (N : List Ent) (hΦ : ∀ w, Mem w0 w N → Φ w) (A0_ : Option Addr) (c0_ : Nat) (a0 : List (BitVec 8)) (res0 : Vector (BitVec 64) 4) (res1 : Nat) (va0 : View Φ A0_ a0.length c0_ 1 (u8s a0)) (hf : u256_Strict a0 = some (res0, res1)) : DoesG Tryd.prog 136 [.slice A0_ a0.length c0_] w0 [] N (fun v G => (res1 ≤ 9223372036854775807) ∧ v = .tuple #[.agg (u64s res0.toList).toArray, .int .i64 ((res1 : Nat) : Int)]) := by
 unfold u256_Strict at hf
 replace va0 := va0.mono (Ψ := More w0 Φ []) (fun w q => q.1)
 have m1 := va0.mx
 refine DoesG.enter Tryd.func136 rfl Tryd.ntmps136 rfl (M := (([] ++ N))) rfl (Z4 (Z2 (OW.alloc (l := (u64s (Vector.replicate 4 0#64).toList)) rfl (by rw [Vector.toList_replicate, ← Z116]; rfl) rfl (fun b2 => (Z0 (Z5 rfl) rfl (Z6 (Z1 (Z4 (Z2 (Z0 (Z3 rfl) rfl ?_))))))))))
 obtain ⟨⟨x4, x5⟩, hx3, hf⟩ := Z100 hf
 try dsimp only at hf
 refine Z12 Tryd.call118 rfl (u256_Get_does w0 (More w0 Φ []) ((some b2, blk (u64s (Vector.replicate 4 0#64).toList) 128) :: ([] ++ N)) (fun w m => Z105 hΦ 1 m rfl) A0_ c0_ a0 x4 x5 va0 hx3) rfl rfl ?_
 rintro _ G7 ⟨b6, rfl⟩
 refine Z20 (M' := ((some b2, blk (u64s (Vector.replicate 4 0#64).toList) 128) :: ([] ++ N))) (fun w m => m.appR) (Z0 (Z3 rfl) rfl (Z0 (Z17 rfl rfl) rfl (Z7 (.agg (u64s x4.toList).toArray) (rfl) (Z0 (Z17 rfl rfl) rfl (Z7 (.int .i64 ((x5 : Nat) : Int)) (rfl) (OW.alloc (l := (u64s (Vector.replicate 4 0#64).toList)) rfl (by rw [Vector.toList_replicate, ← Z116]; rfl) rfl (fun b9 => (Z28 (Z103 rfl rfl rfl (Z118 _) rfl ((Z101 _).trans Zv) ((Z101 _).trans Zv)) ?_))))))))
 refine Z0 (Z5 rfl) rfl (Z6 (Z1 (Z4 (Z4 ?_))))
 obtain ⟨q10, hq11, hf⟩ := Z100 hf
 refine Z115 (fun L' M' => ∃ p12 : Bool, q10 = p12 ∧ L' = [(2, ptr (some b2) 0), (4, ptr (some b9) 0), (5, .int .i64 ((x5 : Nat) : Int)), (23, .bool (p12))] ∧ M' = ((some b9, blk (u64s x4.toList) 128) :: (some b2, blk (u64s (Vector.replicate 4 0#64).toList) 128) :: ([] ++ N))) ?_ ?_
 ·rintro L14 M15 ⟨p12, e13, e16, e17⟩
  rw [e16, e17]
  clear e16 e17 L14 M15
  clear hq11
  rw [e13] at hf
  clear e13
  try dsimp only at hf
  refine Z1 ?_
  by_cases h18 : p12 = true
  ·replace hf := if_t hf h18
   refine Z13 rfl (h18) (Z4 (Z2 (Z0 (RV.build0 (l := (u64s (Vector.replicate 4 0#64).toList)) rfl rfl rfl (by rw [Vector.toList_replicate, ← Z116]; rfl)) rfl (OW.rot1 (Z28 (Z103 rfl rfl rfl (Z118 _) rfl ((Z101 _).trans Zv) ((Z101 _).trans Zv)) (Z0 (Z5 rfl) rfl (Z6 (Z1 (CW.ret (Z8 ?_))))))))))
   have er0 := Zi hf
   obtain ⟨e0, er1⟩ := Prod.mk.inj er0
   clear er0
   subst e0
   subst er1
   refine Z104 (rs := [.cell 2 128, .tmp 3]) ([.agg (u64s (Vector.replicate 4 0#64).toList).toArray, .int .i64 (13 : Int)]) ((some b2, blk (u64s (Vector.replicate 4 0#64).toList) 128) :: (some b9, blk (u64s x4.toList) 128) :: []) rfl ?_ rfl ?_ ?_ _ (.inl rfl)
   ·exact ⟨⟨_, _, _, _, rfl, Zh, rfl, rfl, (congrArg some ((Z101 _).trans Zv).symm), rfl⟩, rfl, trivial⟩
   ·exact ⟨(by omega), rfl⟩
   ·exact (fun w m => m)
  ·replace hf := if_f hf h18
   refine Z14 rfl (Bool.eq_false_iff.2 h18) (CW.skip (Z1 (Z4 (Z2 (Z0 (Z22 rfl Zh rfl rfl rfl rfl ((Z101 _).trans Zv)) rfl (Z0 (Z3 rfl) rfl (OW.rot1 (Z28 (Z103 rfl rfl rfl (Z118 _) rfl ((Z101 _).trans Zv) ((Z101 _).trans Zv)) (Z0 (Z5 rfl) rfl (Z6 (Z1 (CW.ret ?_))))))))))))
   have er0 := Zi hf
   obtain ⟨e0, er1⟩ := Prod.mk.inj er0
   clear er0
   subst e0
   subst er1
   refine Z104 (rs := [.cell 2 128, .tmp 3]) ([.agg (u64s x4.toList).toArray, .int .i64 ((x5 : Nat) : Int)]) ((some b2, blk (u64s x4.toList) 128) :: (some b9, blk (u64s x4.toList) 128) :: []) rfl ?_ rfl ?_ ?_ _ (.inl rfl)
   ·exact ⟨⟨_, _, _, _, rfl, Zh, rfl, rfl, (congrArg some ((Z101 _).trans Zv).symm), rfl⟩, rfl, trivial⟩
   ·exact ⟨(by omega), rfl⟩
   ·exact (fun w m => m)
 ·skip
  refine Z2 (Z0 (Z3 rfl) rfl (Z0 (RV.eql rfl rfl) rfl (Z7 (.bool (decide (x5 = 0))) (congrArg Value.bool (decide_eq_decide.2 (by omega))) (Z0 (Z3 rfl) rfl ?_))))
  by_cases h19 : x5 = 0
  ·replace hq11 := if_t hq11 h19
   refine Z7 (.bool true) (congrArg Value.bool (decide_eq_true h19)) (Z24 rfl (Z0 (Z3 rfl) rfl (Z24 rfl (Z0 (RV.len rfl rfl) rfl (Z24 rfl (Z0 (RV.gtr rfl rfl) rfl (Z7 (.bool (decide (0 < a0.length))) (congrArg Value.bool (decide_eq_decide.2 (by omega))) ?_)))))))
   refine Z0 (Z108 rfl rfl rfl) rfl (Z0 (Z3 rfl) rfl ?_)
   by_cases h20 : 0 < a0.length
   ·replace hq11 := if_t hq11 h20
    refine Z7 (.bool true) (congrArg Value.bool (decide_eq_true h20)) (Z24 rfl (Z0 (Z3 rfl) rfl (Z24 rfl ?_)))
    obtain ⟨x21, hx22, hq11⟩ := Z100 hq11
    have hl23 := Z111 hx22
    refine Z0 (Z131 (0) rfl rfl rfl rfl rfl (va0.isSome (by decide) hl23) (by omega)) rfl (Z24 rfl (Z0 (Z21 rfl rfl rfl (fun w m => va0.cell (Z105 hΦ 2 m rfl) (Z148 hx22))) rfl (Z24 rfl (Z0 (RV.eql8 rfl (by first | rfl | exact lit8 _ rfl) rfl (by first | rfl | exact lit8 _ rfl)) rfl (Z0 (Z108 rfl rfl rfl) rfl (Z6 ?_))))))
    exact QW.join ⟨(decide (x21 = 0#8)), (Zi hq11).symm, rfl, rfl⟩ ⟨rfl, rfl, rfl, rfl, trivial⟩ (fun w m => m.pick [0, 1] 2 rfl rfl)
   ·replace hq11 := if_f hq11 h20
    refine Z7 (.bool false) (congrArg Value.bool (decide_eq_false h20)) (Z23 rfl rfl rfl (Z23 rfl rfl rfl (Z23 rfl rfl rfl (Z23 rfl rfl rfl (Z0 (Z106 rfl rfl rfl) rfl (Z6 ?_))))))
    exact QW.join ⟨false, (Zi hq11).symm, rfl, rfl⟩ ⟨rfl, rfl, rfl, rfl, trivial⟩ (fun w m => m.pick [0, 1] 2 rfl rfl)
  ·replace hq11 := if_f hq11 h19
   refine Z7 (.bool false) (congrArg Value.bool (decide_eq_false h19)) (Z23 rfl rfl rfl (Z23 rfl rfl rfl (Z23 rfl rfl rfl (Z0 (Z106 rfl rfl rfl) rfl (Z0 (Z3 rfl) rfl (Z23 rfl rfl rfl (Z23 rfl rfl rfl ?_)))))))
   refine Z23 rfl rfl rfl (Z23 rfl rfl rfl (Z0 (Z106 rfl rfl rfl) rfl (Z6 ?_)))
   exact QW.join ⟨false, (Zi hq11).symm, rfl, rfl⟩ ⟨rfl, rfl, rfl, rfl, trivial⟩ (fun w m => m.pick [0, 1] 2 rfl rfl)
theorem rlp_twin_rec (w0 : World) : ∀ (kf : Nat) (Φ : Ctx) (N : List Ent) (hΦ : ∀ w, Mem w0 w N → Φ w) (A0_ : Option Addr) (c0_ : Nat) (cs0_ : List Value) (a0 : List (It)) (res0 : List (It)) (va0 : View Φ A0_ a0.length c0_ 3 cs0_) (ha0 : Reps (ItRd Φ) cs0_ a0) (hf : rlp_twin.r kf a0 = some res0), DoesG Tryd.prog 87 [.slice A0_ a0.length c0_] w0 [] N (fun v G => ∃ B : List Ent, ∃ cr0 : List Value, ∃ or0 : Option Nat, ∃ kr0 : Nat, ∃ rr0 : List Value, (Reps (ItRd (More w0 Φ B)) cr0 res0) ∧ (OwnS or0 res0.length kr0 3 cr0 rr0) ∧ v = sl or0 0 res0.length kr0 ∧ G = (or0, blk (cr0 ++ rr0) 89) :: B) := by
 intro kf
 induction kf with
 | zero => intro Φ N hΦ A0_ c0_ cs0_ a0 res0 va0 ha0 hf; rw [rlp_twin.r] at hf; cases hf
 | succ kf ih =>
  intro Φ N hΦ A0_ c0_ cs0_ a0 res0 va0 ha0 hf
  rw [rlp_twin.r] at hf
  replace va0 := va0.mono (Ψ := More w0 Φ []) (fun w q => q.1)
  replace ha0 := ha0.mono (ItRd.mono (Ψ := More w0 Φ []) (fun w q => q.1))
  have m1 := va0.mx
  refine DoesG.enter Tryd.func87 rfl Tryd.ntmps87 rfl (M := (([] ++ N))) rfl (Z4 (Z2 (Z0 (Z5 rfl) rfl (Z6 (Z1 (Z4 (Z2 (Z0 (Z5 rfl) rfl (Z6 (Z1 (Z4 (Z4 (Z2 (Z0 (Z3 rfl) rfl (Z0 (RV.len rfl rfl) rfl ?_)))))))))))))))
  refine Z0 (Z3 rfl) rfl (Z6 (Z1 ?_))
  obtain ⟨q2, hq3, hf⟩ := Z100 hf
  refine Z115 (fun L' M' => ∃ l6 : List (It), ∃ B4 : List Ent, ∃ cs7 : List Value, ∃ ob9 : Option Nat, ∃ c10 : Nat, ∃ r11 : List Value, q2 = l6 ∧ (∀ w, Mem w0 w B4 → Mem w0 w []) ∧ (Reps (ItRd (More w0 Φ B4)) cs7 l6) ∧ (OwnS ob9 l6.length c10 3 cs7 r11) ∧ L' = [(3, sl ob9 0 l6.length c10)] ∧ M' = ((ob9, blk (cs7 ++ r11) 89) :: (B4 ++ N))) ?_ ?_
  ·rintro L14 M15 ⟨l6, B4, cs7, ob9, c10, r11, e13, hB5, h8, o12, e16, e17⟩
   rw [e16, e17]
   clear e16 e17 L14 M15
   clear hq3
   rw [e13] at hf
   clear e13
   try dsimp only at hf
   have m18 := o12.mx
   refine Z1 (Z4 (Z2 (Z0 (Z3 rfl) rfl (Z0 (Z5 rfl) rfl (Z6 (Z1 (CW.ret ?_)))))))
   have e0 := Zi hf
   subst e0
   refine Z104 (rs := [.tmp 2]) ([sl ob9 0 l6.length c10]) ((ob9, blk (cs7 ++ r11) 89) :: B4) rfl ?_ rfl ?_ ?_ _ (.inl rfl)
   ·exact ⟨rfl, trivial⟩
   ·exact ⟨B4, cs7, ob9, c10, r11, h8, o12, rfl, rfl⟩
   ·exact (fun w m => m.pick [0] 1 rfl rfl)
  ·skip
   refine CW.block (CW.mem (M' := ((none, blk ([] ++ []) 89) :: ([] ++ N))) (fun w m => m.nil_ent _) (Z121 (fun k L' M' => ∃ l21 : List (It), ∃ n28 : Nat, ∃ B19 : List Ent, ∃ cs22 : List Value, ∃ ob24 : Option Nat, ∃ c25 : Nat, ∃ r26 : List Value, (rlp_twin.l1 a0 (rlp_twin.r kf) k l21 n28) = some q2 ∧ (∀ w, Mem w0 w B19 → Mem w0 w []) ∧ (Reps (ItRd (More w0 Φ B19)) cs22 l21) ∧ (OwnS ob24 l21.length c25 3 cs22 r26) ∧ (n28 ≤ 9223372036854775807) ∧ L' = [(3, sl ob24 0 l21.length c25), (6, .slice A0_ a0.length c0_), (7, .int .i64 ((a0.length : Nat) : Int)), (8, .int .i64 ((n28 : Nat) : Int))] ∧ M' = ((ob24, blk (cs22 ++ r26) 89) :: (B19 ++ N))) (k0 := (a0.length - 0 + 2)) ⟨([] : List (It)), 0, [], [], none, 0, [], hq3, (fun w m => m), Reps.nil, OwnS.nil, (by omega), rfl, rfl⟩ ⟨rfl, rfl, rfl, rfl, trivial⟩ (fun w m => m.pick [0] 1 rfl rfl) ?_))
   clear hq3
   rintro k30 L33 M34 ⟨l21, n28, B19, cs22, ob24, c25, r26, hl31, hB20, h23, o27, b29, e35, e36⟩
   rw [e35, e36]
   clear e35 e36 L33 M34
   rcases k30 with _ | k30
   ·rw [rlp_twin.l1] at hl31; cases hl31
   rw [rlp_twin.l1] at hl31
   have gq6 : ∀ w, More w0 Φ B19 w → More w0 Φ [] w := fun w q => More.mono (fun w m => hB20 w (m)) q
   replace va0 := va0.mono gq6
   replace ha0 := ha0.mono (ItRd.mono gq6)
   have m37 := o27.mx
   refine Z4 (Z2 (Z0 (RV.lss rfl rfl) rfl (Z7 (.bool (decide (n28 < a0.length))) (congrArg Value.bool (decide_eq_decide.2 (by omega))) (Z6 (Z1 (Z4 ?_))))))
   by_cases h38 : n28 < a0.length
   ·replace hl31 := if_t hl31 h38
    refine Z13 rfl (decide_eq_true h38) (CW.skip (Z1 (Z4 (CW.block (Z4 (Z2 ?_))))))
    obtain ⟨x39, hx40, hl31⟩ := Z100 hl31
    have hl41 := Z111 hx40
    refine Z0 (Z117 (n28) rfl rfl rfl rfl rfl (va0.isSome (by decide) hl41) (by omega)) rfl ?_
    obtain ⟨cs42, h43, h44⟩ := ha0.get ItRd.len hx40
    have h54 := h43
    obtain ⟨A45, c46, A48, c49, cs51, e53, v47, v50, h52⟩ := ItRd.opn h43
    subst e53
    have m55 := v47.mx
    have m56 := v50.mx
    refine Z0 (Z124 rfl rfl rfl rfl (fun w m => va0.load (Z105 hΦ 1 m rfl) h44) rfl) rfl (OW.alloc (l := [.bool false, .slice none 0 0, .slice none 0 0]) rfl rfl rfl (fun b57 => ?_))
    refine Z28 (Z103 rfl rfl rfl (by intro u hu; simp at hu; rcases hu with rfl | rfl | rfl <;> rfl) rfl rfl rfl) ?_
    refine Z6 (Z1 (Z138 11 mixed (by kernel_rfl) rfl (Z18 0 rfl (by kernel_rfl) rfl (Z3 rfl) rfl (Z18 1 rfl (by kernel_rfl) rfl (Z30 rfl rfl rfl rfl) rfl (Z18 2 rfl (by kernel_rfl) rfl (Z29 rfl Zh rfl rfl rfl rfl) rfl (Z18 3 rfl (by kernel_rfl) rfl (Z30 rfl rfl rfl rfl) rfl (Z18 4 rfl (by kernel_rfl) rfl (Z29 rfl Zh rfl rfl rfl rfl) rfl (Z18 6 rfl (by kernel_rfl) rfl (Z30 rfl rfl rfl rfl) rfl ?_))))))))
    refine Z18 7 rfl (by kernel_rfl) rfl (Z29 rfl Zh rfl rfl rfl rfl) rfl ?_
    obtain ⟨x59, hx58, hl31⟩ := Z100 hl31
    refine Z25 5 rfl (by kernel_rfl) rfl Tryd.call83 rfl (fun N' hN' => rlp_clone_does w0 (More w0 Φ B19) N' (fun w m => Z105 hΦ 2 (hN' w m) rfl) A45 c46 x39.data x59 v47 hx58) rfl ?_
    rintro L65 M66 ⟨B60, ob61, c62, r63, o64, e67, e68⟩
    rw [e67, e68]
    clear e67 e68 L65 M66
    refine UW.mem (M' := ((ob61, blk ((u8s x59) ++ r63) 5) :: (some b57, blk [.bool (x39.list), .slice A45 x39.data.length c46, .slice A48 x39.items.length c49] 89) :: (ob24, blk (cs22 ++ r26) 89) :: ((B60 ++ B19) ++ N))) (fun w m => by have h := Z113 (A := B60) m 1 2 rfl rfl; exact h) ?_
    have gq7 : ∀ w, More w0 Φ (B60 ++ B19) w → More w0 Φ B19 w := fun w q => More.mono (fun w m => (m).appR) q
    replace va0 := va0.mono gq7
    replace ha0 := ha0.mono (ItRd.mono gq7)
    replace h23 := h23.mono (ItRd.mono gq7)
    replace h54 := ItRd.mono gq7 _ _ h54
    replace v47 := v47.mono gq7
    replace v50 := v50.mono gq7
    replace h52 := h52.mono (ItRd.mono gq7)
    have m69 := o64.mx
    obtain ⟨x71, hx70, hl31⟩ := Z100 hl31
    refine Z25 8 rfl (by kernel_rfl) rfl Tryd.call87 rfl (fun N' hN' => ih (More w0 Φ (B60 ++ B19)) N' (fun w m => Z105 hΦ 3 (hN' w m) rfl) A48 c49 cs51 x39.items x71 v50 h52 hx70) rfl ?_
    rintro L79 M80 ⟨B72, cs73, ob75, c76, r77, h74, o78, e81, e82⟩
    rw [e81, e82]
    clear e81 e82 L79 M80
    refine UW.mem (M' := ((ob75, blk (cs73 ++ r77) 89) :: (ob61, blk ((u8s x59) ++ r63) 5) :: (some b57, blk [.bool (x39.list), .slice A45 x39.data.length c46, .slice A48 x39.items.length c49] 89) :: (ob24, blk (cs22 ++ r26) 89) :: ((B72 ++ (B60 ++ B19)) ++ N))) (fun w m => by have h := Z113 (A := B72) m 1 3 rfl rfl; exact h) ?_
    have gq8 : ∀ w, More w0 Φ (B72 ++ (B60 ++ B19)) w → More w0 Φ (B60 ++ B19) w := fun w q => More.mono (fun w m => (m).appR) q
    replace va0 := va0.mono gq8
    replace ha0 := ha0.mono (ItRd.mono gq8)
    replace h23 := h23.mono (ItRd.mono gq8)
    replace h54 := ItRd.mono gq8 _ _ h54
    replace v47 := v47.mono gq8
    replace v50 := v50.mono gq8
    replace h52 := h52.mono (ItRd.mono gq8)
    replace h74 := h74.mono (ItRd.mono (Ψ := (More w0 Φ (B72 ++ (B60 ++ B19)))) (fun w q => Z128 q))
    have m83 := o78.mx
    refine Z18 9 rfl (by kernel_rfl) rfl (Z107 (l := [.bool false, .slice none 0 0, .slice none 0 0]) (cs := [.bool (x39.list), sl ob61 0 x59.length c62, sl ob75 0 x71.length c76]) [(0, [.bool (x39.list)]), (1, [sl ob61 0 x59.length c62]), (2, [sl ob75 0 x71.length c76])] rfl rfl rfl rfl rfl rfl rfl) rfl (UW.mem (M' := (ob75, blk (cs73 ++ r77) 89) :: (some b57, blk [.bool (x39.list), .slice A45 x39.data.length c46, .slice A48 x39.items.length c49] 89) :: (ob24, blk (cs22 ++ r26) 89) :: (((ob61, blk ((u8s x59) ++ r63) 5) :: (B72 ++ (B60 ++ B19))) ++ N)) (fun w m => m.pick [0, 2, 3, 1] 4 rfl rfl) ?_)
    have gq9 : ∀ w, More w0 Φ ((ob61, blk ((u8s x59) ++ r63) 5) :: (B72 ++ (B60 ++ B19))) w → More w0 Φ (B72 ++ (B60 ++ B19)) w := fun w q => More.mono (fun w m => (m).tail) q
    replace va0 := va0.mono gq9
    replace ha0 := ha0.mono (ItRd.mono gq9)
    replace h23 := h23.mono (ItRd.mono gq9)
    replace h54 := ItRd.mono gq9 _ _ h54
    replace v47 := v47.mono gq9
    replace v50 := v50.mono gq9
    replace h52 := h52.mono (ItRd.mono gq9)
    replace h74 := h74.mono (ItRd.mono gq9)
    have v86 : View (More w0 Φ ((ob61, blk ((u8s x59) ++ r63) 5) :: (B72 ++ (B60 ++ B19)))) ((ob61).map fun k => ⟨k, 0, none⟩) x59.length c62 1 (u8s x59) := o64.view (by decide) (fun w q => q.2.sublist (List.singleton_sublist.2 (List.mem_cons_self ..)))
    refine UW.mem (M' := (some b57, blk [.bool (x39.list), .slice A45 x39.data.length c46, .slice A48 x39.items.length c49] 89) :: (ob24, blk (cs22 ++ r26) 89) :: (((ob75, blk (cs73 ++ r77) 89) :: ((ob61, blk ((u8s x59) ++ r63) 5) :: (B72 ++ (B60 ++ B19)))) ++ N)) (fun w m => m.pick [1, 2, 0] 3 rfl rfl) ?_
    have gq10 : ∀ w, More w0 Φ ((ob75, blk (cs73 ++ r77) 89) :: ((ob61, blk ((u8s x59) ++ r63) 5) :: (B72 ++ (B60 ++ B19)))) w → More w0 Φ ((ob61, blk ((u8s x59) ++ r63) 5) :: (B72 ++ (B60 ++ B19))) w := fun w q => More.mono (fun w m => (m).tail) q
    replace va0 := va0.mono gq10
    replace ha0 := ha0.mono (ItRd.mono gq10)
    replace h23 := h23.mono (ItRd.mono gq10)
    replace h54 := ItRd.mono gq10 _ _ h54
    replace v47 := v47.mono gq10
    replace v50 := v50.mono gq10
    replace h52 := h52.mono (ItRd.mono gq10)
    replace v86 := v86.mono gq10
    replace h74 := h74.mono (ItRd.mono gq10)
    have v87 : View (More w0 Φ ((ob75, blk (cs73 ++ r77) 89) :: ((ob61, blk ((u8s x59) ++ r63) 5) :: (B72 ++ (B60 ++ B19))))) ((ob75).map fun k => ⟨k, 0, none⟩) x71.length c76 3 cs73 := o78.view (by decide) (fun w q => q.2.sublist (List.singleton_sublist.2 (List.mem_cons_self ..)))
    refine UW.new 10 rfl (by kernel_rfl) rfl (NV.bsA rfl rfl (by intro x hx; simp at hx; subst hx; exact rfl) rfl rfl rfl (by decide) (by decide) rfl) rfl (fun b84 => ?_)
    have h89 : Reps (ItRd (More w0 Φ ((ob75, blk (cs73 ++ r77) 89) :: ((ob61, blk ((u8s x59) ++ r63) 5) :: (B72 ++ (B60 ++ B19)))))) (([.bool (x39.list), .slice ((ob61).map fun k => ⟨k, 0, none⟩) x59.length c62, .slice ((ob75).map fun k => ⟨k, 0, none⟩) x71.length c76] : List Value)) [(It.mk (x39.list) x59 x71)] := Reps.one (ItRd.mk v86 v87 h74)
    refine UW.mem (M' := (((some b84), blk ((([.bool (x39.list), .slice ((ob61).map fun k => ⟨k, 0, none⟩) x59.length c62, .slice ((ob75).map fun k => ⟨k, 0, none⟩) x71.length c76] : List Value)) ++ []) 89) :: (some b57, blk [.bool (x39.list), .slice A45 x39.data.length c46, .slice A48 x39.items.length c49] 89) :: (ob24, blk (cs22 ++ r26) 89) :: (((ob75, blk (cs73 ++ r77) 89) :: ((ob61, blk ((u8s x59) ++ r63) 5) :: (B72 ++ (B60 ++ B19)))) ++ N))) (fun w m => m) ?_
    have o85 : OwnS (some b84) ([(It.mk (x39.list) x59 x71)] : List (It)).length 1 3 (([.bool (x39.list), .slice ((ob61).map fun k => ⟨k, 0, none⟩) x59.length c62, .slice ((ob75).map fun k => ⟨k, 0, none⟩) x71.length c76] : List Value)) [] := ⟨by simp [ItRd], by simp [ItRd], (fun h => nomatch h), by simp⟩
    have mx_o85 := o85.mx
    refine UW.slot (sl (some b84) 0 ([(It.mk (x39.list) x59 x71)] : List (It)).length 1) (rfl) (UW.nil (by kernel_rfl) (OW.rot2 ?_))
    obtain ⟨g90, hl31⟩ := Z112 hl31
    have h95 := h23.app h89
    refine OW.appendOwn (s := 3) rfl rfl rfl rfl rfl rfl o27 (fun w m => m.rd0 (List.Mem.tail _ Zh) (fun e => o85.nilc (by decide) e)) o85.n (h89.cell1 ItRd.one) (o85.zeroO (by decide)) (by decide) (by decide) (by first | omega | (simp only [i89, List.length_nil]; omega)) rfl rfl ((l21 ++ ([(It.mk (x39.list) x59 x71)] : List (It))).length) (cs22 ++ (([.bool (x39.list), .slice ((ob61).map fun k => ⟨k, 0, none⟩) x59.length c62, .slice ((ob75).map fun k => ⟨k, 0, none⟩) x71.length c76] : List Value))) (List.length_append ..).symm rfl (fun ob91 r92 c93 o94 => ?_)
    have m96 := o94.mx
    refine Z0 (Z5 rfl) rfl (Z6 (Z27 (Z1 (Z2 (Z0 (RV.add rfl rfl (by omega)) rfl (Z7 (.int .i64 (((n28 + 1) : Nat) : Int)) (by first | rfl | (congr 1) | (congr 1; omega)) (Z0 (Z3 rfl) rfl (Z6 ?_))))))))
    exact Z114 (k' := k30) (Nat.lt_succ_self _) ⟨(l21 ++ ([(It.mk (x39.list) x59 x71)] : List (It))), (n28 + 1), ((ob75, blk (cs73 ++ r77) 89) :: ((ob61, blk ((u8s x59) ++ r63) 5) :: (B72 ++ (B60 ++ B19)))), (cs22 ++ (([.bool (x39.list), .slice ((ob61).map fun k => ⟨k, 0, none⟩) x59.length c62, .slice ((ob75).map fun k => ⟨k, 0, none⟩) x71.length c76] : List Value))), ob91, c93, r92, hl31, (fun w m => hB20 w (((((m).tail).tail).appR).appR)), h95, o94, (by omega), rfl, rfl⟩ ⟨rfl, rfl, rfl, rfl, trivial⟩ (fun w m => m.pick [0] 3 rfl rfl)
   ·replace hl31 := if_f hl31 h38
    refine Z14 rfl (decide_eq_false h38) (CW.exit (Z9 (Z9 (Z15 ?_))))
    exact QW.join ⟨l21, B19, cs22, ob24, c25, r26, (Zi hl31).symm, (fun w m => hB20 w (m)), h23, o27, rfl, rfl⟩ ⟨rfl, trivial⟩ (fun w m => m.pick [0] 1 rfl rfl)
theorem rlp_twin_does (w0 : World) (Φ : Ctx) (N : List Ent) (hΦ : ∀ w, Mem w0 w N → Φ w) (A0_ : Option Addr) (c0_ : Nat) (cs0_ : List Value) (a0 : List (It)) (res0 : List (It)) (va0 : View Φ A0_ a0.length c0_ 3 cs0_) (ha0 : Reps (ItRd Φ) cs0_ a0) (hf : rlp_twin a0 = some res0) : DoesG Tryd.prog 87 [.slice A0_ a0.length c0_] w0 [] N (fun v G => ∃ B : List Ent, ∃ cr0 : List Value, ∃ or0 : Option Nat, ∃ kr0 : Nat, ∃ rr0 : List Value, (Reps (ItRd (More w0 Φ B)) cr0 res0) ∧ (OwnS or0 res0.length kr0 3 cr0 rr0) ∧ v = sl or0 0 res0.length kr0 ∧ G = (or0, blk (cr0 ++ rr0) 89) :: B) := rlp_twin_rec w0 _ Φ N hΦ A0_ c0_ cs0_ a0 res0 va0 ha0 hf
theorem rlp_GetText_does (w0 : World) (Φ : Ctx) (N : List Ent) (hΦ : ∀ w, Mem w0 w N → Φ w) (cs0_ : List Value) (a0 : It) (res0 : List (BitVec 8)) (res1 : Nat) (ha0 : ItRd Φ cs0_ a0) (hf : rlp_GetText a0 = some (res0, res1)) : DoesG Tryd.prog 121 [.agg cs0_.toArray] w0 [] N (fun v G => ∃ B : List Ent, ∃ or0 : Option Nat, ∃ kr0 : Nat, ∃ rr0 : List Value, (OwnS or0 res0.length kr0 1 (u8s res0) rr0) ∧ (res1 ≤ 9223372036854775807) ∧ v = .tuple #[sl or0 0 res0.length kr0, .int .i64 ((res1 : Nat) : Int)] ∧ G = (or0, blk ((u8s res0) ++ rr0) 5) :: B) := by
 unfold rlp_GetText at hf
 replace ha0 := ItRd.mono (Ψ := More w0 Φ []) (fun w q => q.1) _ _ ha0
 have h10 := ha0
 obtain ⟨A1, c2, A4, c5, cs7, e9, v3, v6, h8⟩ := ItRd.opn ha0
 subst e9
 have m11 := v3.mx
 have m12 := v6.mx
 refine DoesG.enter Tryd.func121 rfl Tryd.ntmps121 rfl (M := (([] ++ N))) rfl (Z4 (Z2 (Z130 rfl rfl (fun b13 => (Z0 (Z5 rfl) rfl (Z0 (Z5 rfl) rfl (Z6 (Z1 (Z4 (Z4 (Z2 (Z0 (Z22 rfl Zh rfl rfl rfl rfl rfl) rfl ?_))))))))))))
 obtain ⟨x15, hx14, hf⟩ := Z100 hf
 refine Z12 Tryd.call93 rfl (rlp_kind_does w0 (More w0 Φ []) ((some b13, blk [.bool (a0.list), .slice A1 a0.data.length c2, .slice A4 a0.items.length c5] 89) :: ([] ++ N)) (fun w m => Z105 hΦ 1 m rfl) [.bool (a0.list), .slice A1 a0.data.length c2, .slice A4 a0.items.length c5] a0 false x15 h10 hx14) rfl rfl ?_
 rintro _ G17 ⟨b16, rfl⟩
 refine Z20 (M' := ((some b13, blk [.bool (a0.list), .slice A1 a0.data.length c2, .slice A4 a0.items.length c5] 89) :: ([] ++ N))) (fun w m => m.appR) (Z0 (Z5 rfl) rfl (Z6 (Z1 (Z4 (Z2 (Z0 (Z3 rfl) rfl (Z0 (RV.neq rfl rfl) rfl (Z7 (.bool (!decide (x15 = 0))) (congrArg (fun b => Value.bool (!b)) (decide_eq_decide.2 (by omega))) (Z6 (Z1 ?_))))))))))
 by_cases h19 : x15 = 0
 ·replace hf := if_t hf h19
  refine Z14 rfl (congrArg (fun b => !b) (decide_eq_true h19)) (CW.skip (Z1 (Z4 (Z2 (Z0 (Z30 rfl rfl rfl rfl) rfl (Z0 (Z29 rfl Zh rfl rfl rfl rfl) rfl ?_))))))
  obtain ⟨x21, hx20, hf⟩ := Z100 hf
  refine Z12 Tryd.call83 rfl (rlp_clone_does w0 (More w0 Φ []) ((some b13, blk [.bool (a0.list), .slice A1 a0.data.length c2, .slice A4 a0.items.length c5] 89) :: ([] ++ N)) (fun w m => Z105 hΦ 1 m rfl) A1 c2 a0.data x21 v3 hx20) rfl rfl ?_
  rintro L27 M28 ⟨B22, ob23, c24, r25, o26, e29, e30⟩
  rw [e29, e30]
  clear e29 e30 L27 M28
  refine Z20 (M' := ((ob23, blk ((u8s x21) ++ r25) 5) :: (some b13, blk [.bool (a0.list), .slice A1 a0.data.length c2, .slice A4 a0.items.length c5] 89) :: ((B22 ++ []) ++ N))) (fun w m => by have h := Z113 (A := B22) m 1 1 rfl rfl; exact h) ?_
  have gq1 : ∀ w, More w0 Φ (B22 ++ []) w → More w0 Φ [] w := fun w q => More.mono (fun w m => (m).appR) q
  replace h10 := ItRd.mono gq1 _ _ h10
  replace v3 := v3.mono gq1
  replace v6 := v6.mono gq1
  replace h8 := h8.mono (ItRd.mono gq1)
  have m31 := o26.mx
  refine Z0 (Z5 rfl) rfl (Z0 (Z5 rfl) rfl (Z6 (Z1 (CW.ret ?_))))
  have er0 := Zi hf
  obtain ⟨e0, er1⟩ := Prod.mk.inj er0
  clear er0
  subst e0
  subst er1
  refine Z104 (rs := [.tmp 2, .tmp 3]) ([sl ob23 0 x21.length c24, .int .i64 (0 : Int)]) ((ob23, blk ((u8s x21) ++ r25) 5) :: (B22 ++ [])) rfl ?_ rfl ?_ ?_ _ (.inl rfl)
  ·exact ⟨rfl, rfl, trivial⟩
  ·exact ⟨(B22 ++ []), ob23, c24, r25, o26, (by omega), rfl, rfl⟩
  ·exact (fun w m => m.pick [0] 2 rfl rfl)
 ·replace hf := if_f hf h19
  refine Z13 rfl (congrArg (fun b => !b) (decide_eq_false h19)) (Z4 (Z2 (Z0 (Z3 rfl) rfl (Z0 (Z5 rfl) rfl (Z0 (Z5 rfl) rfl (Z6 (Z1 (CW.ret (Z8 (QW.mem (M' := ((none, blk ((u8s ([] : List (BitVec 8))) ++ []) 5) :: (some b13, blk [.bool (a0.list), .slice A1 a0.data.length c2, .slice A4 a0.items.length c5] 89) :: ([] ++ N))) (fun w m => m.nil_ent _) ?_))))))))))
  have er0 := Zi hf
  obtain ⟨e0, er1⟩ := Prod.mk.inj er0
  clear er0
  subst e0
  subst er1
  refine Z104 (rs := [.tmp 2, .tmp 3]) ([sl none 0 ([] : List (BitVec 8)).length 0, .int .i64 ((x15 : Nat) : Int)]) ((none, blk ((u8s ([] : List (BitVec 8))) ++ []) 5) :: []) rfl ?_ rfl ?_ ?_ _ (.inl rfl)
  ·exact ⟨rfl, rfl, trivial⟩
  ·exact ⟨[], none, 0, [], OwnS.nil, (by omega), rfl, rfl⟩
  ·exact (fun w m => m.pick [0] 2 rfl rfl)
theorem rlp_number_does (w0 : World) (Φ : Ctx) (N : List Ent) (hΦ : ∀ w, Mem w0 w N → Φ w) (cs0_ : List Value) (a0 : It) (a1 : Int) (res0 : Vector (BitVec 64) 4) (res1 : Nat) (ha0 : ItRd Φ cs0_ a0) (ba1 : -9223372036854775808 ≤ a1 ∧ a1 ≤ 9223372036854775807) (hf : rlp_number a0 a1 = some (res0, res1)) : DoesG Tryd.prog 122 [.agg cs0_.toArray, .int .i64 a1] w0 [] N (fun v G => (res1 ≤ 9223372036854775807) ∧ v = .tuple #[.agg (u64s res0.toList).toArray, .int .i64 ((res1 : Nat) : Int)]) := by
 unfold rlp_number at hf
 replace ha0 := ItRd.mono (Ψ := More w0 Φ []) (fun w q => q.1) _ _ ha0
 have h10 := ha0
 obtain ⟨A1, c2, A4, c5, cs7, e9, v3, v6, h8⟩ := ItRd.opn ha0
 subst e9
 have m11 := v3.mx
 have m12 := v6.mx
 refine DoesG.enter Tryd.func122 rfl Tryd.ntmps122 rfl (M := (([] ++ N))) rfl (Z4 (Z2 (Z130 rfl rfl (fun b13 => (OW.alloc (l := (u64s (Vector.replicate 4 0#64).toList)) rfl (by rw [Vector.toList_replicate, ← Z116]; rfl) rfl (fun b14 => (Z0 (Z5 rfl) rfl (Z6 (Z1 (Z4 (Z4 (Z2 (Z0 (Z22 rfl (List.Mem.tail _ Zh) rfl rfl rfl rfl rfl) rfl ?_)))))))))))))
 obtain ⟨x16, hx15, hf⟩ := Z100 hf
 refine Z12 Tryd.call93 rfl (rlp_kind_does w0 (More w0 Φ []) ((some b14, blk (u64s (Vector.replicate 4 0#64).toList) 128) :: (some b13, blk [.bool (a0.list), .slice A1 a0.data.length c2, .slice A4 a0.items.length c5] 89) :: ([] ++ N)) (fun w m => Z105 hΦ 2 m rfl) [.bool (a0.list), .slice A1 a0.data.length c2, .slice A4 a0.items.length c5] a0 false x16 h10 hx15) rfl rfl ?_
 rintro _ G18 ⟨b17, rfl⟩
 refine Z20 (M' := ((some b14, blk (u64s (Vector.replicate 4 0#64).toList) 128) :: (some b13, blk [.bool (a0.list), .slice A1 a0.data.length c2, .slice A4 a0.items.length c5] 89) :: ([] ++ N))) (fun w m => m.appR) (Z0 (Z5 rfl) rfl (Z6 (Z1 (Z4 (Z2 (Z0 (Z3 rfl) rfl (Z0 (RV.neq rfl rfl) rfl (Z7 (.bool (!decide (x16 = 0))) (congrArg (fun b => Value.bool (!b)) (decide_eq_decide.2 (by omega))) (Z6 (Z1 ?_))))))))))
 by_cases h20 : x16 = 0
 ·replace hf := if_t hf h20
  refine Z14 rfl (congrArg (fun b => !b) (decide_eq_true h20)) (CW.skip (Z1 (Z4 (Z4 (Z2 (Z0 (Z30 rfl rfl rfl rfl) rfl (Z0 (Z29 rfl (List.Mem.tail _ Zh) rfl rfl rfl rfl) rfl (Z0 (RV.len rfl rfl) rfl (Z0 (Z3 rfl) rfl (Z0 (RV.gtr rfl rfl) rfl (Z6 (Z1 ?_))))))))))))
  by_cases h21 : a1 < ((a0.data.length : Nat) : Int)
  ·replace hf := if_t hf h21
   refine Z13 rfl (decide_eq_true h21) (Z4 (Z2 (Z0 (RV.build0 (l := (u64s (Vector.replicate 4 0#64).toList)) rfl rfl rfl (by rw [Vector.toList_replicate, ← Z116]; rfl)) rfl (Z28 (Z103 rfl rfl rfl (Z118 _) rfl ((Z101 _).trans Zv) ((Z101 _).trans Zv)) (Z0 (Z5 rfl) rfl (Z6 (Z1 (CW.ret (Z8 ?_)))))))))
   have er0 := Zi hf
   obtain ⟨e0, er1⟩ := Prod.mk.inj er0
   clear er0
   subst e0
   subst er1
   refine Z104 (rs := [.cell 4 128, .tmp 5]) ([.agg (u64s (Vector.replicate 4 0#64).toList).toArray, .int .i64 (77 : Int)]) ((some b14, blk (u64s (Vector.replicate 4 0#64).toList) 128) :: (some b13, blk [.bool (a0.list), .slice A1 a0.data.length c2, .slice A4 a0.items.length c5] 89) :: []) rfl ?_ rfl ?_ ?_ _ (.inl rfl)
   ·exact ⟨⟨_, _, _, _, rfl, Zh, rfl, rfl, (congrArg some ((Z101 _).trans Zv).symm), rfl⟩, rfl, trivial⟩
   ·exact ⟨(by omega), rfl⟩
   ·exact (fun w m => m)
  ·replace hf := if_f hf h21
   refine Z14 rfl (decide_eq_false h21) (CW.skip (Z1 (Z4 (Z2 (Z0 (Z30 rfl rfl rfl rfl) rfl (Z0 (Z29 rfl (List.Mem.tail _ Zh) rfl rfl rfl rfl) rfl ?_))))))
   obtain ⟨⟨x23, x24⟩, hx22, hf⟩ := Z100 hf
   try dsimp only at hf
   refine Z12 Tryd.call136 rfl (u256_Strict_does w0 (More w0 Φ []) ((some b14, blk (u64s (Vector.replicate 4 0#64).toList) 128) :: (some b13, blk [.bool (a0.list), .slice A1 a0.data.length c2, .slice A4 a0.items.length c5] 89) :: ([] ++ N)) (fun w m => Z105 hΦ 2 m rfl) A1 c2 a0.data x23 x24 v3 hx22) rfl rfl ?_
   rintro _ G26 ⟨b25, rfl⟩
   refine Z20 (M' := ((some b14, blk (u64s (Vector.replicate 4 0#64).toList) 128) :: (some b13, blk [.bool (a0.list), .slice A1 a0.data.length c2, .slice A4 a0.items.length c5] 89) :: ([] ++ N))) (fun w m => m.appR) (Z0 (Z3 rfl) rfl (Z0 (Z17 rfl rfl) rfl (Z7 (.agg (u64s x23.toList).toArray) (rfl) (Z0 (Z17 rfl rfl) rfl (Z7 (.int .i64 ((x24 : Nat) : Int)) (rfl) (OW.alloc (l := (u64s (Vector.replicate 4 0#64).toList)) rfl (by rw [Vector.toList_replicate, ← Z116]; rfl) rfl (fun b28 => (Z28 (Z103 rfl rfl rfl (Z118 _) rfl ((Z101 _).trans Zv) ((Z101 _).trans Zv)) ?_))))))))
   refine Z0 (Z5 rfl) rfl (Z6 (Z1 (Z4 (Z4 (Z2 (Z0 (Z3 rfl) rfl (Z0 (RV.neq rfl rfl) rfl (Z7 (.bool (!decide (x24 = 0))) (congrArg (fun b => Value.bool (!b)) (decide_eq_decide.2 (by omega))) (Z6 (Z1 ?_))))))))))
   by_cases h29 : x24 = 0
   ·replace hf := if_t hf h29
    refine Z14 rfl (congrArg (fun b => !b) (decide_eq_true h29)) (CW.skip (Z1 (Z4 (Z2 (Z0 (Z22 rfl Zh rfl rfl rfl rfl ((Z101 _).trans Zv)) rfl (OW.rot1 (Z28 (Z103 rfl rfl rfl (Z118 _) rfl ((Z101 _).trans Zv) ((Z101 _).trans Zv)) (Z0 (Z5 rfl) rfl (Z6 (Z1 (CW.ret ?_)))))))))))
    have er0 := Zi hf
    obtain ⟨e0, er1⟩ := Prod.mk.inj er0
    clear er0
    subst e0
    subst er1
    refine Z104 (rs := [.cell 4 128, .tmp 5]) ([.agg (u64s x23.toList).toArray, .int .i64 (0 : Int)]) ((some b14, blk (u64s x23.toList) 128) :: (some b28, blk (u64s x23.toList) 128) :: (some b13, blk [.bool (a0.list), .slice A1 a0.data.length c2, .slice A4 a0.items.length c5] 89) :: []) rfl ?_ rfl ?_ ?_ _ (.inl rfl)
    ·exact ⟨⟨_, _, _, _, rfl, Zh, rfl, rfl, (congrArg some ((Z101 _).trans Zv).symm), rfl⟩, rfl, trivial⟩
    ·exact ⟨(by omega), rfl⟩
    ·exact (fun w m => m)
   ·replace hf := if_f hf h29
    refine Z13 rfl (congrArg (fun b => !b) (decide_eq_false h29)) (Z4 (Z2 (Z0 (RV.build0 (l := (u64s (Vector.replicate 4 0#64).toList)) rfl rfl rfl (by rw [Vector.toList_replicate, ← Z116]; rfl)) rfl (OW.rot1 (Z28 (Z103 rfl rfl rfl (Z118 _) rfl ((Z101 _).trans Zv) ((Z101 _).trans Zv)) (Z0 (Z5 rfl) rfl (Z6 (Z1 (CW.ret (Z8 ?_))))))))))
    have er0 := Zi hf
    obtain ⟨e0, er1⟩ := Prod.mk.inj er0
    clear er0
    subst e0
    subst er1
    refine Z104 (rs := [.cell 4 128, .tmp 5]) ([.agg (u64s (Vector.replicate 4 0#64).toList).toArray, .int .i64 (76 : Int)]) ((some b14, blk (u64s (Vector.replicate 4 0#64).toList) 128) :: (some b28, blk (u64s x23.toList) 128) :: (some b13, blk [.bool (a0.list), .slice A1 a0.data.length c2, .slice A4 a0.items.length c5] 89) :: []) rfl ?_ rfl ?_ ?_ _ (.inl rfl)
    ·exact ⟨⟨_, _, _, _, rfl, Zh, rfl, rfl, (congrArg some ((Z101 _).trans Zv).symm), rfl⟩, rfl, trivial⟩
    ·exact ⟨(by omega), rfl⟩
    ·exact (fun w m => m)
 ·replace hf := if_f hf h20
  refine Z13 rfl (congrArg (fun b => !b) (decide_eq_false h20)) (Z4 (Z2 (Z0 (RV.build0 (l := (u64s (Vector.replicate 4 0#64).toList)) rfl rfl rfl (by rw [Vector.toList_replicate, ← Z116]; rfl)) rfl (Z0 (Z3 rfl) rfl (Z28 (Z103 rfl rfl rfl (Z118 _) rfl ((Z101 _).trans Zv) ((Z101 _).trans Zv)) (Z0 (Z5 rfl) rfl (Z6 (Z1 (CW.ret (Z8 ?_))))))))))
  have er0 := Zi hf
  obtain ⟨e0, er1⟩ := Prod.mk.inj er0
  clear er0
  subst e0
  subst er1
  refine Z104 (rs := [.cell 4 128, .tmp 5]) ([.agg (u64s (Vector.replicate 4 0#64).toList).toArray, .int .i64 ((x16 : Nat) : Int)]) ((some b14, blk (u64s (Vector.replicate 4 0#64).toList) 128) :: (some b13, blk [.bool (a0.list), .slice A1 a0.data.length c2, .slice A4 a0.items.length c5] 89) :: []) rfl ?_ rfl ?_ ?_ _ (.inl rfl)
  ·exact ⟨⟨_, _, _, _, rfl, Zh, rfl, rfl, (congrArg some ((Z101 _).trans Zv).symm), rfl⟩, rfl, trivial⟩
  ·exact ⟨(by omega), rfl⟩
  ·exact (fun w m => m)
theorem waybillref07_narrow_does (w0 : World) (Φ : Ctx) (N : List Ent) (hΦ : ∀ w, Mem w0 w N → Φ w) (cs0_ : List Value) (a0 : It) (a1 : Int) (res0 : Vector (BitVec 64) 4) (res1 : Nat) (ha0 : ItRd Φ cs0_ a0) (ba1 : -9223372036854775808 ≤ a1 ∧ a1 ≤ 9223372036854775807) (hf : waybillref07_narrow a0 a1 = some (res0, res1)) : DoesG Tryd.prog 139 [.agg cs0_.toArray, .int .i64 a1] w0 [] N (fun v G => (res1 ≤ 9223372036854775807) ∧ v = .tuple #[.agg (u64s res0.toList).toArray, .int .i64 ((res1 : Nat) : Int)]) := by
 unfold waybillref07_narrow at hf
 replace ha0 := ItRd.mono (Ψ := More w0 Φ []) (fun w q => q.1) _ _ ha0
 have h10 := ha0
 obtain ⟨A1, c2, A4, c5, cs7, e9, v3, v6, h8⟩ := ItRd.opn ha0
 subst e9
 have m11 := v3.mx
 have m12 := v6.mx
 refine DoesG.enter Tryd.func139 rfl Tryd.ntmps139 rfl (M := (([] ++ N))) rfl (Z4 (Z2 (Z130 rfl rfl (fun b13 => (OW.alloc (l := (u64s (Vector.replicate 4 0#64).toList)) rfl (by rw [Vector.toList_replicate, ← Z116]; rfl) rfl (fun b14 => (Z0 (Z5 rfl) rfl (Z6 (Z1 (Z4 (Z2 (Z0 (Z22 rfl (List.Mem.tail _ Zh) rfl rfl rfl rfl rfl) rfl ?_))))))))))))
 obtain ⟨x16, hx15, hf⟩ := Z100 hf
 refine Z12 Tryd.call146 rfl (waybillref07_wanted_does w0 (More w0 Φ []) ((some b14, blk (u64s (Vector.replicate 4 0#64).toList) 128) :: (some b13, blk [.bool (a0.list), .slice A1 a0.data.length c2, .slice A4 a0.items.length c5] 89) :: ([] ++ N)) (fun w m => Z105 hΦ 2 m rfl) [.bool (a0.list), .slice A1 a0.data.length c2, .slice A4 a0.items.length c5] a0 false x16 h10 hx15) rfl rfl ?_
 rintro _ G18 ⟨b17, rfl⟩
 refine Z20 (M' := ((some b14, blk (u64s (Vector.replicate 4 0#64).toList) 128) :: (some b13, blk [.bool (a0.list), .slice A1 a0.data.length c2, .slice A4 a0.items.length c5] 89) :: ([] ++ N))) (fun w m => m.appR) (Z0 (Z5 rfl) rfl (Z6 (Z1 (Z4 (Z4 (Z2 (Z0 (Z3 rfl) rfl (Z0 (RV.neq rfl rfl) rfl (Z7 (.bool (!decide (x16 = 0))) (congrArg (fun b => Value.bool (!b)) (decide_eq_decide.2 (by omega))) (Z6 (Z1 ?_)))))))))))
 by_cases h20 : x16 = 0
 ·replace hf := if_t hf h20
  refine Z14 rfl (congrArg (fun b => !b) (decide_eq_true h20)) (CW.skip (Z1 (Z4 (Z4 (Z2 (Z0 (Z30 rfl rfl rfl rfl) rfl (Z0 (Z29 rfl (List.Mem.tail _ Zh) rfl rfl rfl rfl) rfl (Z0 (RV.len rfl rfl) rfl (Z0 (Z3 rfl) rfl (Z0 (RV.gtr rfl rfl) rfl (Z6 (Z1 ?_))))))))))))
  by_cases h21 : a1 < ((a0.data.length : Nat) : Int)
  ·replace hf := if_t hf h21
   refine Z13 rfl (decide_eq_true h21) (Z4 (Z2 (Z0 (RV.build0 (l := (u64s (Vector.replicate 4 0#64).toList)) rfl rfl rfl (by rw [Vector.toList_replicate, ← Z116]; rfl)) rfl (Z28 (Z103 rfl rfl rfl (Z118 _) rfl ((Z101 _).trans Zv) ((Z101 _).trans Zv)) (Z0 (Z5 rfl) rfl (Z6 (Z1 (CW.ret (Z8 ?_)))))))))
   have er0 := Zi hf
   obtain ⟨e0, er1⟩ := Prod.mk.inj er0
   clear er0
   subst e0
   subst er1
   refine Z104 (rs := [.cell 4 128, .tmp 5]) ([.agg (u64s (Vector.replicate 4 0#64).toList).toArray, .int .i64 (77 : Int)]) ((some b14, blk (u64s (Vector.replicate 4 0#64).toList) 128) :: (some b13, blk [.bool (a0.list), .slice A1 a0.data.length c2, .slice A4 a0.items.length c5] 89) :: []) rfl ?_ rfl ?_ ?_ _ (.inl rfl)
   ·exact ⟨⟨_, _, _, _, rfl, Zh, rfl, rfl, (congrArg some ((Z101 _).trans Zv).symm), rfl⟩, rfl, trivial⟩
   ·exact ⟨(by omega), rfl⟩
   ·exact (fun w m => m)
  ·replace hf := if_f hf h21
   refine Z14 rfl (decide_eq_false h21) (CW.skip (Z1 (Z4 (Z4 ?_))))
   obtain ⟨q22, hq23, hf⟩ := Z100 hf
   refine Z115 (fun L' M' => ∃ p24 : Bool, q22 = p24 ∧ L' = [(2, ptr (some b13) 0), (4, ptr (some b14) 0), (31, .bool (p24))] ∧ M' = ((some b14, blk (u64s (Vector.replicate 4 0#64).toList) 128) :: (some b13, blk [.bool (a0.list), .slice A1 a0.data.length c2, .slice A4 a0.items.length c5] 89) :: ([] ++ N))) ?_ ?_
   ·rintro L26 M27 ⟨p24, e25, e28, e29⟩
    rw [e28, e29]
    clear e28 e29 L26 M27
    clear hq23
    rw [e25] at hf
    clear e25
    try dsimp only at hf
    refine Z1 ?_
    by_cases h30 : p24 = true
    ·replace hf := if_t hf h30
     refine Z13 rfl (h30) (Z4 (Z2 (Z0 (RV.build0 (l := (u64s (Vector.replicate 4 0#64).toList)) rfl rfl rfl (by rw [Vector.toList_replicate, ← Z116]; rfl)) rfl (Z28 (Z103 rfl rfl rfl (Z118 _) rfl ((Z101 _).trans Zv) ((Z101 _).trans Zv)) (Z0 (Z5 rfl) rfl (Z6 (Z1 (CW.ret (Z8 ?_)))))))))
     have er0 := Zi hf
     obtain ⟨e0, er1⟩ := Prod.mk.inj er0
     clear er0
     subst e0
     subst er1
     refine Z104 (rs := [.cell 4 128, .tmp 5]) ([.agg (u64s (Vector.replicate 4 0#64).toList).toArray, .int .i64 (76 : Int)]) ((some b14, blk (u64s (Vector.replicate 4 0#64).toList) 128) :: (some b13, blk [.bool (a0.list), .slice A1 a0.data.length c2, .slice A4 a0.items.length c5] 89) :: []) rfl ?_ rfl ?_ ?_ _ (.inl rfl)
     ·exact ⟨⟨_, _, _, _, rfl, Zh, rfl, rfl, (congrArg some ((Z101 _).trans Zv).symm), rfl⟩, rfl, trivial⟩
     ·exact ⟨(by omega), rfl⟩
     ·exact (fun w m => m)
    ·replace hf := if_f hf h30
     refine Z14 rfl (Bool.eq_false_iff.2 h30) (CW.skip (Z1 (Z4 (Z2 (Z0 (Z30 rfl rfl rfl rfl) rfl (Z0 (Z29 rfl (List.Mem.tail _ Zh) rfl rfl rfl rfl) rfl ?_))))))
     obtain ⟨⟨x32, x33⟩, hx31, hf⟩ := Z100 hf
     try dsimp only at hf
     refine Z12 Tryd.call137 rfl (waybillref01_Get_does w0 (More w0 Φ []) ((some b14, blk (u64s (Vector.replicate 4 0#64).toList) 128) :: (some b13, blk [.bool (a0.list), .slice A1 a0.data.length c2, .slice A4 a0.items.length c5] 89) :: ([] ++ N)) (fun w m => Z105 hΦ 2 m rfl) A1 c2 a0.data x32 x33 v3 hx31) rfl rfl ?_
     rintro _ G35 ⟨b34, rfl⟩
     refine Z20 (M' := ((some b14, blk (u64s (Vector.replicate 4 0#64).toList) 128) :: (some b13, blk [.bool (a0.list), .slice A1 a0.data.length c2, .slice A4 a0.items.length c5] 89) :: ([] ++ N))) (fun w m => m.appR) (Z0 (Z3 rfl) rfl (Z0 (Z17 rfl rfl) rfl (Z7 (.agg (u64s x32.toList).toArray) (rfl) (Z0 (Z17 rfl rfl) rfl (Z7 (.int .i64 ((x33 : Nat) : Int)) (rfl) (OW.alloc (l := (u64s (Vector.replicate 4 0#64).toList)) rfl (by rw [Vector.toList_replicate, ← Z116]; rfl) rfl (fun b37 => (Z28 (Z103 rfl rfl rfl (Z118 _) rfl ((Z101 _).trans Zv) ((Z101 _).trans Zv)) ?_))))))))
     refine Z0 (Z5 rfl) rfl (Z6 (Z1 (Z4 (Z2 (Z0 (Z22 rfl Zh rfl rfl rfl rfl ((Z101 _).trans Zv)) rfl (OW.rot1 (Z28 (Z103 rfl rfl rfl (Z118 _) rfl ((Z101 _).trans Zv) ((Z101 _).trans Zv)) (Z0 (Z5 rfl) rfl (Z6 (Z1 (CW.ret ?_)))))))))))
     have er0 := Zi hf
     obtain ⟨e0, er1⟩ := Prod.mk.inj er0
     clear er0
     subst e0
     subst er1
     refine Z104 (rs := [.cell 4 128, .tmp 5]) ([.agg (u64s x32.toList).toArray, .int .i64 (0 : Int)]) ((some b14, blk (u64s x32.toList) 128) :: (some b37, blk (u64s x32.toList) 128) :: (some b13, blk [.bool (a0.list), .slice A1 a0.data.length c2, .slice A4 a0.items.length c5] 89) :: []) rfl ?_ rfl ?_ ?_ _ (.inl rfl)
     ·exact ⟨⟨_, _, _, _, rfl, Zh, rfl, rfl, (congrArg some ((Z101 _).trans Zv).symm), rfl⟩, rfl, trivial⟩
     ·exact ⟨(by omega), rfl⟩
     ·exact (fun w m => m)
   ·skip
    refine Z2 (Z0 (Z30 rfl rfl rfl rfl) rfl (Z0 (Z29 rfl (List.Mem.tail _ Zh) rfl rfl rfl rfl) rfl (Z0 (RV.len rfl rfl) rfl (Z0 (RV.gtr rfl rfl) rfl (Z7 (.bool (decide (0 < a0.data.length))) (congrArg Value.bool (decide_eq_decide.2 (by omega))) (Z0 (Z3 rfl) rfl ?_))))))
    by_cases h38 : 0 < a0.data.length
    ·replace hq23 := if_t hq23 h38
     refine Z7 (.bool true) (congrArg Value.bool (decide_eq_true h38)) (Z24 rfl (Z0 (Z30 rfl rfl rfl rfl) rfl (Z24 rfl (Z0 (Z29 rfl (List.Mem.tail _ Zh) rfl rfl rfl rfl) rfl (Z24 rfl ?_)))))
     obtain ⟨x39, hx40, hq23⟩ := Z100 hq23
     have hl41 := Z111 hx40
     refine Z0 (Z131 (0) rfl rfl rfl rfl rfl (v3.isSome (by decide) hl41) (by omega)) rfl (Z24 rfl (Z0 (Z21 rfl rfl rfl (fun w m => v3.cell (Z105 hΦ 2 m rfl) (Z148 hx40))) rfl (Z24 rfl (Z0 (RV.eql8 rfl (by first | rfl | exact lit8 _ rfl) rfl (by first | rfl | exact lit8 _ rfl)) rfl (Z0 (Z108 rfl rfl rfl) rfl (Z6 ?_))))))
     exact QW.join ⟨(decide (x39 = 0#8)), (Zi hq23).symm, rfl, rfl⟩ ⟨rfl, rfl, rfl, trivial⟩ (fun w m => m.pick [0, 1] 2 rfl rfl)
    ·replace hq23 := if_f hq23 h38
     refine Z7 (.bool false) (congrArg Value.bool (decide_eq_false h38)) (Z23 rfl rfl rfl (Z23 rfl rfl rfl (Z23 rfl rfl rfl (Z23 rfl rfl rfl (Z23 rfl rfl rfl (Z0 (Z106 rfl rfl rfl) rfl (Z6 ?_)))))))
     exact QW.join ⟨false, (Zi hq23).symm, rfl, rfl⟩ ⟨rfl, rfl, rfl, trivial⟩ (fun w m => m.pick [0, 1] 2 rfl rfl)
 ·replace hf := if_f hf h20
  refine Z13 rfl (congrArg (fun b => !b) (decide_eq_false h20)) (Z4 (Z2 (Z0 (RV.build0 (l := (u64s (Vector.replicate 4 0#64).toList)) rfl rfl rfl (by rw [Vector.toList_replicate, ← Z116]; rfl)) rfl (Z0 (Z3 rfl) rfl (Z28 (Z103 rfl rfl rfl (Z118 _) rfl ((Z101 _).trans Zv) ((Z101 _).trans Zv)) (Z0 (Z5 rfl) rfl (Z6 (Z1 (CW.ret (Z8 ?_))))))))))
  have er0 := Zi hf
  obtain ⟨e0, er1⟩ := Prod.mk.inj er0
  clear er0
  subst e0
  subst er1
  refine Z104 (rs := [.cell 4 128, .tmp 5]) ([.agg (u64s (Vector.replicate 4 0#64).toList).toArray, .int .i64 ((x16 : Nat) : Int)]) ((some b14, blk (u64s (Vector.replicate 4 0#64).toList) 128) :: (some b13, blk [.bool (a0.list), .slice A1 a0.data.length c2, .slice A4 a0.items.length c5] 89) :: []) rfl ?_ rfl ?_ ?_ _ (.inl rfl)
  ·exact ⟨⟨_, _, _, _, rfl, Zh, rfl, rfl, (congrArg some ((Z101 _).trans Zv).symm), rfl⟩, rfl, trivial⟩
  ·exact ⟨(by omega), rfl⟩
  ·exact (fun w m => m)
theorem waybillref07_GetNumber_does (w0 : World) (Φ : Ctx) (N : List Ent) (hΦ : ∀ w, Mem w0 w N → Φ w) (cs0_ : List Value) (a0 : It) (res0 : Vector (BitVec 64) 4) (res1 : Nat) (ha0 : ItRd Φ cs0_ a0) (hf : waybillref07_GetNumber a0 = some (res0, res1)) : DoesG Tryd.prog 127 [.agg cs0_.toArray] w0 [] N (fun v G => (res1 ≤ 9223372036854775807) ∧ v = .tuple #[.agg (u64s res0.toList).toArray, .int .i64 ((res1 : Nat) : Int)]) := by
 unfold waybillref07_GetNumber at hf
 replace ha0 := ItRd.mono (Ψ := More w0 Φ []) (fun w q => q.1) _ _ ha0
 have h10 := ha0
 obtain ⟨A1, c2, A4, c5, cs7, e9, v3, v6, h8⟩ := ItRd.opn ha0
 subst e9
 have m11 := v3.mx
 have m12 := v6.mx
 refine DoesG.enter Tryd.func127 rfl Tryd.ntmps127 rfl (M := (([] ++ N))) rfl (Z4 (Z2 (Z130 rfl rfl (fun b13 => (OW.alloc (l := (u64s (Vector.replicate 4 0#64).toList)) rfl (by rw [Vector.toList_replicate, ← Z116]; rfl) rfl (fun b14 => (Z0 (Z5 rfl) rfl (Z6 (Z1 (Z4 (Z2 (Z0 (Z22 rfl (List.Mem.tail _ Zh) rfl rfl rfl rfl rfl) rfl ?_))))))))))))
 obtain ⟨⟨x16, x17⟩, hx15, hf⟩ := Z100 hf
 try dsimp only at hf
 refine Z12 Tryd.call139 rfl (waybillref07_narrow_does w0 (More w0 Φ []) ((some b14, blk (u64s (Vector.replicate 4 0#64).toList) 128) :: (some b13, blk [.bool (a0.list), .slice A1 a0.data.length c2, .slice A4 a0.items.length c5] 89) :: ([] ++ N)) (fun w m => Z105 hΦ 2 m rfl) [.bool (a0.list), .slice A1 a0.data.length c2, .slice A4 a0.items.length c5] a0 (32 : Int) x16 x17 h10 (by omega) hx15) rfl rfl ?_
 rintro _ G19 ⟨b18, rfl⟩
 refine Z20 (M' := ((some b14, blk (u64s (Vector.replicate 4 0#64).toList) 128) :: (some b13, blk [.bool (a0.list), .slice A1 a0.data.length c2, .slice A4 a0.items.length c5] 89) :: ([] ++ N))) (fun w m => m.appR) (Z0 (Z17 rfl rfl) rfl (Z7 (.agg (u64s x16.toList).toArray) (rfl) (Z0 (Z17 rfl rfl) rfl (Z7 (.int .i64 ((x17 : Nat) : Int)) (rfl) (Z28 (Z103 rfl rfl rfl (Z118 _) rfl ((Z101 _).trans Zv) ((Z101 _).trans Zv)) (Z0 (Z5 rfl) rfl (Z6 (Z1 (CW.ret ?_)))))))))
 have er0 := Zi hf
 obtain ⟨e0, er1⟩ := Prod.mk.inj er0
 clear er0
 subst e0
 subst er1
 refine Z104 (rs := [.cell 2 128, .tmp 3]) ([.agg (u64s x16.toList).toArray, .int .i64 ((x17 : Nat) : Int)]) ((some b14, blk (u64s x16.toList) 128) :: (some b13, blk [.bool (a0.list), .slice A1 a0.data.length c2, .slice A4 a0.items.length c5] 89) :: []) rfl ?_ rfl ?_ ?_ _ (.inl rfl)
 ·exact ⟨⟨_, _, _, _, rfl, Zh, rfl, rfl, (congrArg some ((Z101 _).trans Zv).symm), rfl⟩, rfl, trivial⟩
 ·exact ⟨(by omega), rfl⟩
 ·exact (fun w m => m)
theorem rlp_GetSmall_does (w0 : World) (Φ : Ctx) (N : List Ent) (hΦ : ∀ w, Mem w0 w N → Φ w) (cs0_ : List Value) (a0 : It) (res0 : BitVec 64) (res1 : Nat) (ha0 : ItRd Φ cs0_ a0) (hf : rlp_GetSmall a0 = some (res0, res1)) : DoesG Tryd.prog 96 [.agg cs0_.toArray] w0 [] N (fun v G => (res1 ≤ 9223372036854775807) ∧ v = .tuple #[U64 res0, .int .i64 ((res1 : Nat) : Int)]) := by
 unfold rlp_GetSmall at hf
 replace ha0 := ItRd.mono (Ψ := More w0 Φ []) (fun w q => q.1) _ _ ha0
 have h10 := ha0
 obtain ⟨A1, c2, A4, c5, cs7, e9, v3, v6, h8⟩ := ItRd.opn ha0
 subst e9
 have m11 := v3.mx
 have m12 := v6.mx
 refine DoesG.enter Tryd.func96 rfl Tryd.ntmps96 rfl (M := (([] ++ N))) rfl (Z4 (Z2 (Z130 rfl rfl (fun b13 => (Z0 (Z5 rfl) rfl (Z0 (Z5 rfl) rfl (Z6 (Z1 (Z4 (Z2 (Z0 (Z22 rfl Zh rfl rfl rfl rfl rfl) rfl ?_)))))))))))
 obtain ⟨⟨x15, x16⟩, hx14, hf⟩ := Z100 hf
 try dsimp only at hf
 refine Z12 Tryd.call122 rfl (rlp_number_does w0 (More w0 Φ []) ((some b13, blk [.bool (a0.list), .slice A1 a0.data.length c2, .slice A4 a0.items.length c5] 89) :: ([] ++ N)) (fun w m => Z105 hΦ 1 m rfl) [.bool (a0.list), .slice A1 a0.data.length c2, .slice A4 a0.items.length c5] a0 (8 : Int) x15 x16 h10 (by omega) hx14) rfl rfl ?_
 rintro _ G18 ⟨b17, rfl⟩
 refine Z20 (M' := ((some b13, blk [.bool (a0.list), .slice A1 a0.data.length c2, .slice A4 a0.items.length c5] 89) :: ([] ++ N))) (fun w m => m.appR) (Z0 (Z3 rfl) rfl (Z0 (Z17 rfl rfl) rfl (Z7 (.agg (u64s x15.toList).toArray) (rfl) (Z0 (Z17 rfl rfl) rfl (Z7 (.int .i64 ((x16 : Nat) : Int)) (rfl) (OW.alloc (l := (u64s (Vector.replicate 4 0#64).toList)) rfl (by rw [Vector.toList_replicate, ← Z116]; rfl) rfl (fun b20 => (Z28 (Z103 rfl rfl rfl (Z118 _) rfl ((Z101 _).trans Zv) ((Z101 _).trans Zv)) ?_))))))))
 refine Z0 (Z5 rfl) rfl (Z6 (Z1 (Z4 (Z2 (Z0 (Z109 (0) rfl rfl rfl rfl rfl (by omega)) rfl (Z0 (Z29 rfl Zh rfl rfl rfl (u64s_at (vat' (by decide)))) rfl (Z0 (Z3 rfl) rfl (Z0 (Z5 rfl) rfl (Z0 (Z5 rfl) rfl (Z6 (Z1 (CW.ret ?_))))))))))))
 have er0 := Zi hf
 obtain ⟨e0, er1⟩ := Prod.mk.inj er0
 clear er0
 subst e0
 subst er1
 refine Z104 (rs := [.tmp 2, .tmp 3]) ([U64 x15[0], .int .i64 ((x16 : Nat) : Int)]) ((some b20, blk (u64s x15.toList) 128) :: (some b13, blk [.bool (a0.list), .slice A1 a0.data.length c2, .slice A4 a0.items.length c5] 89) :: []) rfl ?_ rfl ?_ ?_ _ (.inl rfl)
 ·exact ⟨rfl, rfl, trivial⟩
 ·exact ⟨(by omega), rfl⟩
 ·exact (fun w m => m)
theorem rlp_GetList_does (w0 : World) (Φ : Ctx) (N : List Ent) (hΦ : ∀ w, Mem w0 w N → Φ w) (cs0_ : List Value) (a0 : It) (res0 : List (It)) (res1 : Nat) (ha0 : ItRd Φ cs0_ a0) (hf : rlp_GetList a0 = some (res0, res1)) : DoesG Tryd.prog 67 [.agg cs0_.toArray] w0 [] N (fun v G => ∃ B : List Ent, ∃ cr0 : List Value, ∃ or0 : Option Nat, ∃ kr0 : Nat, ∃ rr0 : List Value, (Reps (ItRd (More w0 Φ B)) cr0 res0) ∧ (OwnS or0 res0.length kr0 3 cr0 rr0) ∧ (res1 ≤ 9223372036854775807) ∧ v = .tuple #[sl or0 0 res0.length kr0, .int .i64 ((res1 : Nat) : Int)] ∧ G = (or0, blk (cr0 ++ rr0) 89) :: B) := by
 unfold rlp_GetList at hf
 replace ha0 := ItRd.mono (Ψ := More w0 Φ []) (fun w q => q.1) _ _ ha0
 have h10 := ha0
 obtain ⟨A1, c2, A4, c5, cs7, e9, v3, v6, h8⟩ := ItRd.opn ha0
 subst e9
 have m11 := v3.mx
 have m12 := v6.mx
 refine DoesG.enter Tryd.func67 rfl Tryd.ntmps67 rfl (M := (([] ++ N))) rfl (Z4 (Z2 (Z130 rfl rfl (fun b13 => (Z0 (Z5 rfl) rfl (Z0 (Z5 rfl) rfl (Z6 (Z1 (Z4 (Z4 (Z2 (Z0 (Z22 rfl Zh rfl rfl rfl rfl rfl) rfl ?_))))))))))))
 obtain ⟨x15, hx14, hf⟩ := Z100 hf
 refine Z12 Tryd.call93 rfl (rlp_kind_does w0 (More w0 Φ []) ((some b13, blk [.bool (a0.list), .slice A1 a0.data.length c2, .slice A4 a0.items.length c5] 89) :: ([] ++ N)) (fun w m => Z105 hΦ 1 m rfl) [.bool (a0.list), .slice A1 a0.data.length c2, .slice A4 a0.items.length c5] a0 true x15 h10 hx14) rfl rfl ?_
 rintro _ G17 ⟨b16, rfl⟩
 refine Z20 (M' := ((some b13, blk [.bool (a0.list), .slice A1 a0.data.length c2, .slice A4 a0.items.length c5] 89) :: ([] ++ N))) (fun w m => m.appR) (Z0 (Z5 rfl) rfl (Z6 (Z1 (Z4 (Z2 (Z0 (Z3 rfl) rfl (Z0 (RV.neq rfl rfl) rfl (Z7 (.bool (!decide (x15 = 0))) (congrArg (fun b => Value.bool (!b)) (decide_eq_decide.2 (by omega))) (Z6 (Z1 ?_))))))))))
 by_cases h19 : x15 = 0
 ·replace hf := if_t hf h19
  refine Z14 rfl (congrArg (fun b => !b) (decide_eq_true h19)) (CW.skip (Z1 (Z4 (Z2 (Z0 (Z30 rfl rfl rfl rfl) rfl (Z0 (Z29 rfl Zh rfl rfl rfl rfl) rfl ?_))))))
  obtain ⟨x21, hx20, hf⟩ := Z100 hf
  refine Z12 Tryd.call87 rfl (rlp_twin_does w0 (More w0 Φ []) ((some b13, blk [.bool (a0.list), .slice A1 a0.data.length c2, .slice A4 a0.items.length c5] 89) :: ([] ++ N)) (fun w m => Z105 hΦ 1 m rfl) A4 c5 cs7 a0.items x21 v6 h8 hx20) rfl rfl ?_
  rintro L29 M30 ⟨B22, cs23, ob25, c26, r27, h24, o28, e31, e32⟩
  rw [e31, e32]
  clear e31 e32 L29 M30
  refine Z20 (M' := ((ob25, blk (cs23 ++ r27) 89) :: (some b13, blk [.bool (a0.list), .slice A1 a0.data.length c2, .slice A4 a0.items.length c5] 89) :: ((B22 ++ []) ++ N))) (fun w m => by have h := Z113 (A := B22) m 1 1 rfl rfl; exact h) ?_
  have gq1 : ∀ w, More w0 Φ (B22 ++ []) w → More w0 Φ [] w := fun w q => More.mono (fun w m => (m).appR) q
  replace h10 := ItRd.mono gq1 _ _ h10
  replace v3 := v3.mono gq1
  replace v6 := v6.mono gq1
  replace h8 := h8.mono (ItRd.mono gq1)
  replace h24 := h24.mono (ItRd.mono (Ψ := (More w0 Φ (B22 ++ []))) (fun w q => Z128 q))
  have m33 := o28.mx
  refine Z0 (Z5 rfl) rfl (Z0 (Z5 rfl) rfl (Z6 (Z1 (CW.ret ?_))))
  have er0 := Zi hf
  obtain ⟨e0, er1⟩ := Prod.mk.inj er0
  clear er0
  subst e0
  subst er1
  refine Z104 (rs := [.tmp 2, .tmp 3]) ([sl ob25 0 x21.length c26, .int .i64 (0 : Int)]) ((ob25, blk (cs23 ++ r27) 89) :: (B22 ++ [])) rfl ?_ rfl ?_ ?_ _ (.inl rfl)
  ·exact ⟨rfl, rfl, trivial⟩
  ·exact ⟨(B22 ++ []), cs23, ob25, c26, r27, h24, o28, (by omega), rfl, rfl⟩
  ·exact (fun w m => m.pick [0] 2 rfl rfl)
 ·replace hf := if_f hf h19
  refine Z13 rfl (congrArg (fun b => !b) (decide_eq_false h19)) (Z4 (Z2 (Z0 (Z3 rfl) rfl (Z0 (Z5 rfl) rfl (Z0 (Z5 rfl) rfl (Z6 (Z1 (CW.ret (Z8 (QW.mem (M' := ((none, blk ([] ++ []) 89) :: (some b13, blk [.bool (a0.list), .slice A1 a0.data.length c2, .slice A4 a0.items.length c5] 89) :: ([] ++ N))) (fun w m => m.nil_ent _) ?_))))))))))
  have er0 := Zi hf
  obtain ⟨e0, er1⟩ := Prod.mk.inj er0
  clear er0
  subst e0
  subst er1
  refine Z104 (rs := [.tmp 2, .tmp 3]) ([sl none 0 ([] : List (It)).length 0, .int .i64 ((x15 : Nat) : Int)]) ((none, blk ([] ++ []) 89) :: []) rfl ?_ rfl ?_ ?_ _ (.inl rfl)
  ·exact ⟨rfl, rfl, trivial⟩
  ·exact ⟨[], [], none, 0, [], Reps.nil, OwnS.nil, (by omega), rfl, rfl⟩
  ·exact (fun w m => m.pick [0] 2 rfl rfl)
theorem rlp_cut_does (w0 : World) (Φ : Ctx) (N : List Ent) (hΦ : ∀ w, Mem w0 w N → Φ w) (A0_ : Option Addr) (c0_ : Nat) (a0 : List (BitVec 8)) (res0 : Bool) (res1 : List (BitVec 8)) (res2 : List (BitVec 8)) (res3 : Nat) (va0 : View Φ A0_ a0.length c0_ 1 (u8s a0)) (hf : rlp_cut a0 = some (res0, res1, res2, res3)) : DoesG Tryd.prog 92 [.slice A0_ a0.length c0_] w0 [] N (fun v G => ∃ B : List Ent, ∃ Ar1 : Option Addr, ∃ kr1 : Nat, ∃ Ar2 : Option Addr, ∃ kr2 : Nat, (View (More w0 Φ B) Ar1 res1.length kr1 1 (u8s res1)) ∧ (View (More w0 Φ B) Ar2 res2.length kr2 1 (u8s res2)) ∧ (res3 ≤ 9223372036854775807) ∧ v = .tuple #[.bool res0, .slice Ar1 res1.length kr1, .slice Ar2 res2.length kr2, .int .i64 ((res3 : Nat) : Int)] ∧ G = B) := by
 unfold rlp_cut at hf
 replace va0 := va0.mono (Ψ := More w0 Φ []) (fun w q => q.1)
 have m1 := va0.mx
 refine DoesG.enter Tryd.func92 rfl Tryd.ntmps92 rfl (M := (([] ++ N))) rfl (Z4 (Z2 (Z0 (Z5 rfl) rfl (Z0 (Z5 rfl) rfl (Z0 (Z5 rfl) rfl (Z0 (Z5 rfl) rfl (Z6 (Z1 (Z4 (Z4 (Z2 (Z0 (Z3 rfl) rfl ?_))))))))))))
 refine Z0 (RV.len rfl rfl) rfl (Z0 (RV.eql rfl rfl) rfl (Z7 (.bool (decide (a0.length = 0))) (congrArg Value.bool (decide_eq_decide.2 (by omega))) (Z6 (Z1 ?_))))
 by_cases h2 : a0.length = 0
 ·replace hf := if_t hf h2
  refine Z13 rfl (decide_eq_true h2) (Z4 (Z2 (Z0 (Z5 rfl) rfl (Z0 (Z5 rfl) rfl (Z0 (Z5 rfl) rfl (Z0 (Z5 rfl) rfl (Z6 (Z1 (CW.ret (Z8 ?_))))))))))
  have er0 := Zi hf
  obtain ⟨e0, er1⟩ := Prod.mk.inj er0
  clear er0
  obtain ⟨e1, er2⟩ := Prod.mk.inj er1
  clear er1
  obtain ⟨e2, er3⟩ := Prod.mk.inj er2
  clear er2
  subst e0
  subst e1
  subst e2
  subst er3
  refine Z104 (rs := [.tmp 2, .tmp 3, .tmp 4, .tmp 5]) ([.bool false, .slice none 0 0, .slice none 0 0, .int .i64 (70 : Int)]) ([]) rfl ?_ rfl ?_ ?_ _ (.inl rfl)
  ·exact ⟨rfl, rfl, rfl, rfl, trivial⟩
  ·exact ⟨[], none, 0, none, 0, View.nil, View.nil, (by omega), rfl, rfl⟩
  ·exact (fun w m => m.pick [] 0 rfl rfl)
 ·replace hf := if_f hf h2
  refine Z14 rfl (decide_eq_false h2) (CW.skip (Z1 (Z4 (Z2 (Z0 (Z3 rfl) rfl ?_)))))
  obtain ⟨x3, hx4, hf⟩ := Z100 hf
  have hl5 := Z111 hx4
  refine Z0 (Z131 (0) rfl rfl rfl rfl rfl (va0.isSome (by decide) hl5) (by omega)) rfl (Z0 (Z21 rfl rfl rfl (fun w m => va0.cell (Z105 hΦ 0 m rfl) (Z148 hx4))) rfl (Z0 (Z5 rfl) rfl (Z6 (Z1 (Z4 (Z4 (Z2 (Z0 (Z3 rfl) rfl (Z0 (RV.lss rfl rfl) rfl (Z7 (.bool (decide (x3.toNat < 128))) (congrArg Value.bool (decide_eq_decide.2 (by first | omega | (simp; omega) | simp))) (Z6 (Z1 ?_))))))))))))
  by_cases h6 : x3.toNat < 128
  ·replace hf := if_t hf h6
   refine Z13 rfl (decide_eq_true h6) (Z4 (Z138 8 mixed (by kernel_rfl) rfl (Z18 0 rfl (by kernel_rfl) rfl (Z3 rfl) rfl ?_)))
   obtain ⟨g8, hf⟩ := Z112 hf
   have hle := va0.le
   have hlen_ : a0.length = a0.length := rfl
   refine Z18 1 rfl (by kernel_rfl) rfl (RV.cut_hi (1) rfl rfl (by omega) rfl rfl (by omega)) rfl (UW.slot (.slice A0_ (a0.take 1).length c0_) (by rw [show ((a0.take 1)).length = 1 from List.length_take.trans (Nat.min_eq_left (by omega))]) ?_)
   have v7 : View (More w0 Φ []) A0_ (a0.take 1).length c0_ 1 (u8s (a0.take 1)) := va0.hi8 (by omega)
   have m9 := v7.mx
   refine Z18 2 rfl (by kernel_rfl) rfl (Z3 rfl) rfl (Z18 3 rfl (by kernel_rfl) rfl (RV.cut_lo (s := 1) (1) rfl rfl (by omega) rfl rfl (by omega)) rfl (UW.slot (.slice (subA A0_ c0_ 1 1) (a0.drop 1).length (c0_ - 1)) (by rw [show ((a0.drop 1)).length = (a0).length - (1) from List.length_drop]) ?_))
   have v10 : View (More w0 Φ []) (subA A0_ c0_ 1 1) (a0.drop 1).length (c0_ - 1) 1 (u8s (a0.drop 1)) := va0.lo8 (by omega)
   have m11 := v10.mx
   refine Z18 4 rfl (by kernel_rfl) rfl (Z5 rfl) rfl (Z18 5 rfl (by kernel_rfl) rfl (Z5 rfl) rfl (Z18 6 rfl (by kernel_rfl) rfl (Z5 rfl) rfl (Z18 7 rfl (by kernel_rfl) rfl (Z5 rfl) rfl (UW.nil (by kernel_rfl) (Z6 (Z1 (CW.ret (Z8 ?_))))))))
   have er0 := Zi hf
   obtain ⟨e0, er1⟩ := Prod.mk.inj er0
   clear er0
   obtain ⟨e1, er2⟩ := Prod.mk.inj er1
   clear er1
   obtain ⟨e2, er3⟩ := Prod.mk.inj er2
   clear er2
   subst e0
   subst e1
   subst e2
   subst er3
   refine Z104 (rs := [.tmp 2, .tmp 3, .tmp 4, .tmp 5]) ([.bool false, .slice A0_ (a0.take 1).length c0_, .slice (subA A0_ c0_ 1 1) (a0.drop 1).length (c0_ - 1), .int .i64 (0 : Int)]) ([]) rfl ?_ rfl ?_ ?_ _ (.inl rfl)
   ·exact ⟨rfl, rfl, rfl, rfl, trivial⟩
   ·exact ⟨[], A0_, c0_, (subA A0_ c0_ 1 1), (c0_ - 1), v7, v10, (by omega), rfl, rfl⟩
   ·exact (fun w m => m.pick [] 0 rfl rfl)
  ·replace hf := if_f hf h6
   refine Z14 rfl (decide_eq_false h6) (CW.skip (Z1 (Z4 (Z2 (Z0 (Z3 rfl) rfl (Z0 (RV.geq rfl rfl) rfl (Z7 (.bool (decide (192 ≤ x3.toNat))) (congrArg Value.bool (decide_eq_decide.2 (by first | omega | (simp; omega) | simp))) (Z0 (Z5 rfl) rfl (Z6 (Z1 (Z4 (Z2 (Z0 (Z3 rfl) rfl ?_)))))))))))))
   refine Z0 (RV.sub8 rfl (by first | rfl | exact lit8 _ rfl) rfl (by first | rfl | exact lit8 _ rfl)) rfl (Z0 (Z167 rfl (by first | rfl | exact lit8 _ rfl) rfl rfl) rfl ?_)
   have m12 := ((x3 - 128#8)).isLt
   refine Z0 (Z5 rfl) rfl (Z6 (Z1 (Z4 (Z4 (Z2 (Z0 (Z3 rfl) rfl (Z6 (Z1 ?_))))))))
   obtain ⟨q13, hq14, hf⟩ := Z100 hf
   refine Z115 (fun L' M' => ∃ n15 : Nat, q13 = n15 ∧ (n15 ≤ 9223372036854775807) ∧ L' = [(0, .slice A0_ a0.length c0_), (2, .bool (decide (192 ≤ x3.toNat))), (7, .int .i64 ((n15 : Nat) : Int))] ∧ M' = (([] ++ N))) ?_ ?_
   ·rintro L18 M19 ⟨n15, e17, b16, e20, e21⟩
    rw [e20, e21]
    clear e20 e21 L18 M19
    clear hq14
    rw [e17] at hf
    clear e17
    try dsimp only at hf
    refine Z1 (Z4 (Z2 (Z0 (Z3 rfl) rfl ?_)))
    obtain ⟨g23, hf⟩ := Z112 hf
    refine Z0 (RV.cut_lo (s := 1) (1) rfl rfl (by omega) rfl rfl (by omega)) rfl (Z7 (.slice (subA A0_ c0_ 1 1) (a0.drop 1).length (c0_ - 1)) (by rw [show ((a0.drop 1)).length = (a0).length - (1) from List.length_drop]) ?_)
    have v22 : View (More w0 Φ []) (subA A0_ c0_ 1 1) (a0.drop 1).length (c0_ - 1) 1 (u8s (a0.drop 1)) := va0.lo8 (by omega)
    have m24 := v22.mx
    refine Z0 (Z5 rfl) rfl (Z6 (Z1 (Z4 (Z4 (Z2 (Z0 (Z3 rfl) rfl (Z0 (RV.gtr rfl rfl) rfl (Z7 (.bool (decide (55 < n15))) (congrArg Value.bool (decide_eq_decide.2 (by omega))) (Z6 (Z1 ?_))))))))))
    obtain ⟨q25, hq26, hf⟩ := Z100 hf
    refine Z115 (fun L' M' => ∃ l27 : List (BitVec 8), ∃ n31 : Nat, ∃ A28 : Option Addr, ∃ c29 : Nat, q25 = Lp.go (l27, n31) ∧ (View (More w0 Φ []) A28 l27.length c29 1 (u8s l27)) ∧ (n31 ≤ 9223372036854775807) ∧ L' = [(0, .slice A28 l27.length c29), (2, .bool (decide (192 ≤ x3.toNat))), (7, .int .i64 ((n31 : Nat) : Int))] ∧ M' = (([] ++ N))) ?_ ?_
    ·rintro L34 M35 ⟨l27, n31, A28, c29, e33, v30, b32, e36, e37⟩
     rw [e36, e37]
     clear e36 e37 L34 M35
     clear hq26
     rw [e33] at hf
     clear e33
     try dsimp only at hf
     have m38 := v30.mx
     refine Z1 (Z4 (Z4 (Z2 (Z0 (Z3 rfl) rfl (Z0 (RV.len rfl rfl) rfl (Z0 (Z3 rfl) rfl (Z0 (RV.lss rfl rfl) rfl (Z7 (.bool (decide (l27.length < n31))) (congrArg Value.bool (decide_eq_decide.2 (by omega))) (Z6 (Z1 ?_))))))))))
     by_cases h39 : l27.length < n31
     ·replace hf := if_t hf h39
      refine Z13 rfl (decide_eq_true h39) (Z4 (Z2 (Z0 (Z5 rfl) rfl (Z0 (Z5 rfl) rfl (Z0 (Z5 rfl) rfl (Z0 (Z5 rfl) rfl (Z6 (Z1 (CW.ret (Z8 ?_))))))))))
      have er0 := Zi hf
      obtain ⟨e0, er1⟩ := Prod.mk.inj er0
      clear er0
      obtain ⟨e1, er2⟩ := Prod.mk.inj er1
      clear er1
      obtain ⟨e2, er3⟩ := Prod.mk.inj er2
      clear er2
      subst e0
      subst e1
      subst e2
      subst er3
      refine Z104 (rs := [.tmp 2, .tmp 3, .tmp 4, .tmp 5]) ([.bool false, .slice none 0 0, .slice none 0 0, .int .i64 (70 : Int)]) ([]) rfl ?_ rfl ?_ ?_ _ (.inl rfl)
      ·exact ⟨rfl, rfl, rfl, rfl, trivial⟩
      ·exact ⟨[], none, 0, none, 0, View.nil, View.nil, (by omega), rfl, rfl⟩
      ·exact (fun w m => m.pick [] 0 rfl rfl)
     ·replace hf := if_f hf h39
      refine Z14 rfl (decide_eq_false h39) (CW.skip (Z1 (Z4 (Z4 ?_))))
      obtain ⟨q40, hq41, hf⟩ := Z100 hf
      refine Z115 (fun L' M' => ∃ p42 : Bool, q40 = p42 ∧ L' = [(0, .slice A28 l27.length c29), (2, .bool (decide (192 ≤ x3.toNat))), (7, .int .i64 ((n31 : Nat) : Int)), (87, .bool (p42))] ∧ M' = (([] ++ N))) ?_ ?_
      ·rintro L44 M45 ⟨p42, e43, e46, e47⟩
       rw [e46, e47]
       clear e46 e47 L44 M45
       clear hq41
       rw [e43] at hf
       clear e43
       try dsimp only at hf
       refine Z1 ?_
       by_cases h48 : p42 = true
       ·replace hf := if_t hf h48
        refine Z13 rfl (h48) (Z4 (Z2 (Z0 (Z5 rfl) rfl (Z0 (Z5 rfl) rfl (Z0 (Z5 rfl) rfl (Z0 (Z5 rfl) rfl (Z6 (Z1 (CW.ret (Z8 ?_))))))))))
        have er0 := Zi hf
        obtain ⟨e0, er1⟩ := Prod.mk.inj er0
        clear er0
        obtain ⟨e1, er2⟩ := Prod.mk.inj er1
        clear er1
        obtain ⟨e2, er3⟩ := Prod.mk.inj er2
        clear er2
        subst e0
        subst e1
        subst e2
        subst er3
        refine Z104 (rs := [.tmp 2, .tmp 3, .tmp 4, .tmp 5]) ([.bool false, .slice none 0 0, .slice none 0 0, .int .i64 (71 : Int)]) ([]) rfl ?_ rfl ?_ ?_ _ (.inl rfl)
        ·exact ⟨rfl, rfl, rfl, rfl, trivial⟩
        ·exact ⟨[], none, 0, none, 0, View.nil, View.nil, (by omega), rfl, rfl⟩
        ·exact (fun w m => m.pick [] 0 rfl rfl)
       ·replace hf := if_f hf h48
        refine Z14 rfl (Bool.eq_false_iff.2 h48) (CW.skip (Z1 (Z4 (Z138 11 mixed (by kernel_rfl) rfl (Z18 0 rfl (by kernel_rfl) rfl (Z3 rfl) rfl (Z18 1 rfl (by kernel_rfl) rfl (Z3 rfl) rfl (Z18 2 rfl (by kernel_rfl) rfl (Z3 rfl) rfl ?_)))))))
        obtain ⟨g50, hf⟩ := Z112 hf
        have hle := v30.le
        have hlen_ : l27.length = l27.length := rfl
        refine Z18 3 rfl (by kernel_rfl) rfl (RV.cut_hi (n31) rfl rfl (by omega) rfl rfl (by omega)) rfl (UW.slot (.slice A28 (l27.take n31).length c29) (by rw [show ((l27.take n31)).length = n31 from List.length_take.trans (Nat.min_eq_left (by omega))]) ?_)
        have v49 : View (More w0 Φ []) A28 (l27.take n31).length c29 1 (u8s (l27.take n31)) := v30.hi8 (by omega)
        have m51 := v49.mx
        refine Z18 4 rfl (by kernel_rfl) rfl (Z3 rfl) rfl (Z18 5 rfl (by kernel_rfl) rfl (Z3 rfl) rfl (Z18 6 rfl (by kernel_rfl) rfl (RV.cut_lo (s := 1) (n31) rfl rfl (by omega) rfl rfl (by omega)) rfl (UW.slot (.slice (subA A28 c29 n31 1) (l27.drop n31).length (c29 - n31)) (by rw [show ((l27.drop n31)).length = (l27).length - (n31) from List.length_drop]) ?_)))
        have v52 : View (More w0 Φ []) (subA A28 c29 n31 1) (l27.drop n31).length (c29 - n31) 1 (u8s (l27.drop n31)) := v30.lo8 (by omega)
        have m53 := v52.mx
        refine Z18 7 rfl (by kernel_rfl) rfl (Z5 rfl) rfl (Z18 8 rfl (by kernel_rfl) rfl (Z5 rfl) rfl (Z18 9 rfl (by kernel_rfl) rfl (Z5 rfl) rfl (Z18 10 rfl (by kernel_rfl) rfl (Z5 rfl) rfl (UW.nil (by kernel_rfl) (Z6 (Z1 (CW.ret ?_)))))))
        have er0 := Zi hf
        obtain ⟨e0, er1⟩ := Prod.mk.inj er0
        clear er0
        obtain ⟨e1, er2⟩ := Prod.mk.inj er1
        clear er1
        obtain ⟨e2, er3⟩ := Prod.mk.inj er2
        clear er2
        subst e0
        subst e1
        subst e2
        subst er3
        refine Z104 (rs := [.tmp 2, .tmp 3, .tmp 4, .tmp 5]) ([.bool (decide (192 ≤ x3.toNat)), .slice A28 (l27.take n31).length c29, .slice (subA A28 c29 n31 1) (l27.drop n31).length (c29 - n31), .int .i64 (0 : Int)]) ([]) rfl ?_ rfl ?_ ?_ _ (.inl rfl)
        ·exact ⟨rfl, rfl, rfl, rfl, trivial⟩
        ·exact ⟨[], A28, c29, (subA A28 c29 n31 1), (c29 - n31), v49, v52, (by omega), rfl, rfl⟩
        ·exact (fun w m => m.pick [] 0 rfl rfl)
      ·skip
       refine Z2 (Z0 (Z3 rfl) rfl (Z0 (RV.not rfl) rfl (Z0 (Z3 rfl) rfl ?_)))
       by_cases h54 : 192 ≤ x3.toNat
       ·replace hq41 := if_t hq41 h54
        refine Z7 (.bool false) (congrArg Value.bool (congrArg (fun b => !b) (decide_eq_true h54))) (Z23 rfl rfl rfl (Z23 rfl rfl rfl (Z0 (Z106 rfl rfl rfl) rfl (Z0 (Z3 rfl) rfl (Z23 rfl rfl rfl (Z23 rfl rfl rfl (Z23 rfl rfl rfl ?_)))))))
        refine Z23 rfl rfl rfl (Z0 (Z106 rfl rfl rfl) rfl (Z6 ?_))
        exact QW.join ⟨false, (Zi hq41).symm, rfl, rfl⟩ ⟨rfl, rfl, rfl, rfl, trivial⟩ (fun w m => m.pick [] 0 rfl rfl)
       ·replace hq41 := if_f hq41 h54
        refine Z7 (.bool true) (congrArg Value.bool (congrArg (fun b => !b) (decide_eq_false h54))) (Z24 rfl (Z0 (Z3 rfl) rfl (Z24 rfl (Z0 (RV.eql rfl rfl) rfl (Z7 (.bool (decide (n31 = 1))) (congrArg Value.bool (decide_eq_decide.2 (by omega))) (Z0 (Z108 rfl rfl rfl) rfl (Z0 (Z3 rfl) rfl ?_)))))))
        by_cases h55 : n31 = 1
        ·replace hq41 := if_t hq41 h55
         refine Z7 (.bool true) (congrArg Value.bool (decide_eq_true h55)) (Z24 rfl (Z0 (Z3 rfl) rfl (Z24 rfl ?_)))
         obtain ⟨x56, hx57, hq41⟩ := Z100 hq41
         have hl58 := Z111 hx57
         refine Z0 (Z131 (0) rfl rfl rfl rfl rfl (v30.isSome (by decide) hl58) (by omega)) rfl (Z24 rfl (Z0 (Z21 rfl rfl rfl (fun w m => v30.cell (Z105 hΦ 0 m rfl) (Z148 hx57))) rfl (Z24 rfl (Z0 (RV.lss rfl rfl) rfl (Z7 (.bool (decide (x56.toNat < 128))) (congrArg Value.bool (decide_eq_decide.2 (by first | omega | (simp; omega) | simp))) (Z0 (Z108 rfl rfl rfl) rfl (Z6 ?_)))))))
         exact QW.join ⟨(decide (x56.toNat < 128)), (Zi hq41).symm, rfl, rfl⟩ ⟨rfl, rfl, rfl, rfl, trivial⟩ (fun w m => m.pick [] 0 rfl rfl)
        ·replace hq41 := if_f hq41 h55
         refine Z7 (.bool false) (congrArg Value.bool (decide_eq_false h55)) (Z23 rfl rfl rfl (Z23 rfl rfl rfl (Z23 rfl rfl rfl (Z23 rfl rfl rfl (Z0 (Z106 rfl rfl rfl) rfl (Z6 ?_))))))
         exact QW.join ⟨false, (Zi hq41).symm, rfl, rfl⟩ ⟨rfl, rfl, rfl, rfl, trivial⟩ (fun w m => m.pick [] 0 rfl rfl)
    ·skip
     by_cases h59 : 55 < n15
     ·replace hq26 := if_t hq26 h59
      refine Z13 rfl (decide_eq_true h59) (Z4 (Z2 (Z0 (Z3 rfl) rfl (Z0 (RV.sub rfl rfl (by omega)) rfl (Z7 (.int .i64 ((n15 - 55 : Nat) : Int)) (by congr 1; omega) (Z0 (Z5 rfl) rfl (Z6 (Z1 (Z4 (Z4 (Z2 (Z0 (Z3 rfl) rfl ?_))))))))))))
      refine Z0 (RV.len rfl rfl) rfl (Z0 (Z3 rfl) rfl (Z0 (RV.lss rfl rfl) rfl (Z7 (.bool (decide ((a0.drop 1).length < (n15 - 55)))) (congrArg Value.bool (decide_eq_decide.2 (by omega))) (Z6 (Z1 ?_)))))
      by_cases h60 : (a0.drop 1).length < (n15 - 55)
      ·replace hq26 := if_t hq26 h60
       refine Z13 rfl (decide_eq_true h60) (Z4 (Z2 (Z0 (Z5 rfl) rfl (Z0 (Z5 rfl) rfl (Z0 (Z5 rfl) rfl (Z0 (Z5 rfl) rfl (Z6 (Z1 (CW.ret (Z8 (Z8 ?_)))))))))))
       have hc := Zi hq26
       subst hc
       try dsimp only at hf
       refine Z8 ?_
       have er0 := Zi hf
       obtain ⟨e0, er1⟩ := Prod.mk.inj er0
       clear er0
       obtain ⟨e1, er2⟩ := Prod.mk.inj er1
       clear er1
       obtain ⟨e2, er3⟩ := Prod.mk.inj er2
       clear er2
       subst e0
       subst e1
       subst e2
       subst er3
       refine Z104 (rs := [.tmp 2, .tmp 3, .tmp 4, .tmp 5]) ([.bool false, .slice none 0 0, .slice none 0 0, .int .i64 (70 : Int)]) ([]) rfl ?_ rfl ?_ ?_ _ (.inl rfl)
       ·exact ⟨rfl, rfl, rfl, rfl, trivial⟩
       ·exact ⟨[], none, 0, none, 0, View.nil, View.nil, (by omega), rfl, rfl⟩
       ·exact (fun w m => m.pick [] 0 rfl rfl)
      ·replace hq26 := if_f hq26 h60
       refine Z14 rfl (decide_eq_false h60) (CW.skip (Z1 (Z4 (Z2 (Z0 (Z3 rfl) rfl (Z0 (Z3 rfl) rfl ?_))))))
       obtain ⟨g62, hq26⟩ := Z112 hq26
       have hle := v22.le
       have hlen_ : (a0.drop 1).length = (a0.drop 1).length := rfl
       refine Z0 (RV.cut_hi ((n15 - 55)) rfl rfl (by omega) rfl rfl (by omega)) rfl (Z7 (.slice (subA A0_ c0_ 1 1) ((a0.drop 1).take (n15 - 55)).length (c0_ - 1)) (by rw [show (((a0.drop 1).take (n15 - 55))).length = (n15 - 55) from List.length_take.trans (Nat.min_eq_left (by omega))]) ?_)
       have v61 : View (More w0 Φ []) (subA A0_ c0_ 1 1) ((a0.drop 1).take (n15 - 55)).length (c0_ - 1) 1 (u8s ((a0.drop 1).take (n15 - 55))) := v22.hi8 (by omega)
       have m63 := v61.mx
       obtain ⟨⟨x65, x66⟩, hx64, hq26⟩ := Z100 hq26
       try dsimp only at hq26
       refine Z12 Tryd.call118 rfl (u256_Get_does w0 (More w0 Φ []) (([] ++ N)) (fun w m => Z105 hΦ 0 m rfl) (subA A0_ c0_ 1 1) (c0_ - 1) ((a0.drop 1).take (n15 - 55)) x65 x66 v61 hx64) rfl rfl ?_
       rintro _ G68 ⟨b67, rfl⟩
       refine Z20 (M' := (([] ++ N))) (fun w m => m.appR) (Z0 (Z3 rfl) rfl (Z0 (Z17 rfl rfl) rfl (Z7 (.agg (u64s x65.toList).toArray) (rfl) (Z0 (Z17 rfl rfl) rfl (Z7 (.int .i64 ((x66 : Nat) : Int)) (rfl) (OW.alloc (l := (u64s (Vector.replicate 4 0#64).toList)) rfl (by rw [Vector.toList_replicate, ← Z116]; rfl) rfl (fun b70 => (Z28 (Z103 rfl rfl rfl (Z118 _) rfl ((Z101 _).trans Zv) ((Z101 _).trans Zv)) ?_))))))))
       refine Z0 (Z5 rfl) rfl (Z6 (Z1 (Z4 (Z4 ?_))))
       obtain ⟨q71, hq72, hq26⟩ := Z100 hq26
       refine Z115 (fun L' M' => ∃ p73 : Bool, q71 = p73 ∧ L' = [(0, .slice (subA A0_ c0_ 1 1) (a0.drop 1).length (c0_ - 1)), (2, .bool (decide (192 ≤ x3.toNat))), (8, .int .i64 ((n15 - 55 : Nat) : Int)), (9, ptr (some b70) 0), (58, .bool (p73))] ∧ M' = ((some b70, blk (u64s x65.toList) 128) :: ([] ++ N))) ?_ ?_
       ·rintro L75 M76 ⟨p73, e74, e77, e78⟩
        rw [e77, e78]
        clear e77 e78 L75 M76
        clear hq72
        rw [e74] at hq26
        clear e74
        try dsimp only at hq26
        refine Z1 ?_
        by_cases h79 : p73 = true
        ·replace hq26 := if_t hq26 h79
         refine Z13 rfl (h79) (Z4 (Z2 (Z0 (Z5 rfl) rfl (Z0 (Z5 rfl) rfl (Z0 (Z5 rfl) rfl (Z0 (Z5 rfl) rfl (Z6 (Z1 (CW.ret (Z8 (Z8 ?_)))))))))))
         have hc := Zi hq26
         subst hc
         try dsimp only at hf
         refine Z8 ?_
         have er0 := Zi hf
         obtain ⟨e0, er1⟩ := Prod.mk.inj er0
         clear er0
         obtain ⟨e1, er2⟩ := Prod.mk.inj er1
         clear er1
         obtain ⟨e2, er3⟩ := Prod.mk.inj er2
         clear er2
         subst e0
         subst e1
         subst e2
         subst er3
         refine Z104 (rs := [.tmp 2, .tmp 3, .tmp 4, .tmp 5]) ([.bool false, .slice none 0 0, .slice none 0 0, .int .i64 (72 : Int)]) ([]) rfl ?_ rfl ?_ ?_ _ (.inl rfl)
         ·exact ⟨rfl, rfl, rfl, rfl, trivial⟩
         ·exact ⟨[], none, 0, none, 0, View.nil, View.nil, (by omega), rfl, rfl⟩
         ·exact (fun w m => m.pick [] 1 rfl rfl)
        ·replace hq26 := if_f hq26 h79
         refine Z14 rfl (Bool.eq_false_iff.2 h79) (CW.skip (Z1 (Z4 (Z2 (Z0 (Z3 rfl) rfl (Z0 (Z3 rfl) rfl (Z0 (RV.cut_lo (s := 1) ((n15 - 55)) rfl rfl (by omega) rfl rfl (by omega)) rfl (Z7 (.slice (subA (subA A0_ c0_ 1 1) (c0_ - 1) (n15 - 55) 1) ((a0.drop 1).drop (n15 - 55)).length ((c0_ - 1) - (n15 - 55))) (by rw [show (((a0.drop 1).drop (n15 - 55))).length = ((a0.drop 1)).length - ((n15 - 55)) from List.length_drop]) ?_))))))))
         have v80 : View (More w0 Φ []) (subA (subA A0_ c0_ 1 1) (c0_ - 1) (n15 - 55) 1) ((a0.drop 1).drop (n15 - 55)).length ((c0_ - 1) - (n15 - 55)) 1 (u8s ((a0.drop 1).drop (n15 - 55))) := v22.lo8 (by omega)
         have m81 := v80.mx
         refine Z0 (Z5 rfl) rfl (Z6 (Z1 (Z4 (Z4 (Z138 7 mixed (by kernel_rfl) rfl (Z18 0 rfl (by kernel_rfl) rfl (Z22 rfl Zh rfl rfl rfl rfl ((Z101 _).trans Zv)) rfl (Z18 1 rfl (by kernel_rfl) rfl (Z3 rfl) rfl (Z18 2 rfl (by kernel_rfl) rfl (RV.len rfl rfl) rfl (Z18 3 rfl (by kernel_rfl) rfl (Z152 rfl rfl rfl) rfl (UW.slot (U64 (BitVec.ofNat 64 (((a0.drop 1).drop (n15 - 55)).length))) (congrArg U64 (BitVec.ofInt_natCast ..)) ?_))))))))))
         obtain ⟨x83, hx82, hq26⟩ := Z100 hq26
         refine Z25 4 rfl (by kernel_rfl) rfl Tryd.call82 rfl (fun N' hN' => u256_From_does w0 (More w0 Φ []) N' (fun w m => Z105 hΦ 1 (hN' w m) rfl) (BitVec.ofNat 64 (((a0.drop 1).drop (n15 - 55)).length)) x83 hx82) rfl ?_
         rintro _ G84 rfl
         refine UW.mem (M' := ((some b70, blk (u64s x65.toList) 128) :: ([] ++ N))) (fun w m => m.appR) ?_
         obtain ⟨x87, hx86, hq26⟩ := Z100 hq26
         refine Z25 5 rfl (by kernel_rfl) rfl Tryd.call119 rfl (fun N' hN' => u256_Cmp_does w0 (More w0 Φ []) N' (fun w m => Z105 hΦ 1 (hN' w m) rfl) x65 x83 x87 hx86) rfl ?_
         rintro _ G89 ⟨b88, rfl⟩
         refine UW.mem (M' := ((some b70, blk (u64s x65.toList) 128) :: ([] ++ N))) (fun w m => m.appR) (Z18 6 rfl (by kernel_rfl) rfl (RV.gtr rfl rfl) rfl (UW.nil (by kernel_rfl) (Z6 (Z1 ?_))))
         by_cases h91 : (0 : Int) < x87
         ·replace hq26 := if_t hq26 h91
          refine Z13 rfl (decide_eq_true h91) (Z4 (Z2 (Z0 (Z5 rfl) rfl (Z0 (Z5 rfl) rfl (Z0 (Z5 rfl) rfl (Z0 (Z5 rfl) rfl (Z6 (Z1 (CW.ret (Z8 (Z8 ?_)))))))))))
          have hc := Zi hq26
          subst hc
          try dsimp only at hf
          refine Z8 ?_
          have er0 := Zi hf
          obtain ⟨e0, er1⟩ := Prod.mk.inj er0
          clear er0
          obtain ⟨e1, er2⟩ := Prod.mk.inj er1
          clear er1
          obtain ⟨e2, er3⟩ := Prod.mk.inj er2
          clear er2
          subst e0
          subst e1
          subst e2
          subst er3
          refine Z104 (rs := [.tmp 2, .tmp 3, .tmp 4, .tmp 5]) ([.bool false, .slice none 0 0, .slice none 0 0, .int .i64 (70 : Int)]) ([]) rfl ?_ rfl ?_ ?_ _ (.inl rfl)
          ·exact ⟨rfl, rfl, rfl, rfl, trivial⟩
          ·exact ⟨[], none, 0, none, 0, View.nil, View.nil, (by omega), rfl, rfl⟩
          ·exact (fun w m => m.pick [] 1 rfl rfl)
         ·replace hq26 := if_f hq26 h91
          refine Z14 rfl (decide_eq_false h91) (CW.skip (Z1 (Z2 (Z0 (Z109 (0) rfl rfl rfl rfl rfl (by omega)) rfl (Z0 (Z29 rfl Zh rfl rfl rfl (u64s_at (vat' (by decide)))) rfl ?_)))))
          obtain ⟨g92, hq26⟩ := Z112 hq26
          refine Z0 (RV.conv64_i rfl (by first | rfl | exact lit64 _ rfl) rfl rfl (by first | omega | (simp; omega))) rfl ?_
          have m93 := (x65[0]).isLt
          refine Z0 (Z5 rfl) rfl (Z6 ?_)
          exact QW.join ⟨((a0.drop 1).drop (n15 - 55)), (x65[0]).toNat, (subA (subA A0_ c0_ 1 1) (c0_ - 1) (n15 - 55) 1), ((c0_ - 1) - (n15 - 55)), (Zi hq26).symm, v80, (by omega), rfl, rfl⟩ ⟨rfl, rfl, rfl, trivial⟩ (fun w m => m.pick [] 1 rfl rfl)
       ·skip
        refine Z138 10 mixed (by kernel_rfl) rfl (Z18 0 rfl (by kernel_rfl) rfl (Z3 rfl) rfl ?_)
        obtain ⟨x94, hx95, hq72⟩ := Z100 hq72
        have hl96 := Z111 hx95
        refine Z18 1 rfl (by kernel_rfl) rfl (Z131 (0) rfl rfl rfl rfl rfl (v22.isSome (by decide) hl96) (by omega)) rfl (Z18 2 rfl (by kernel_rfl) rfl (Z21 rfl rfl rfl (fun w m => v22.cell (Z105 hΦ 1 m rfl) (Z148 hx95))) rfl (Z18 3 rfl (by kernel_rfl) rfl (RV.eql8 rfl (by first | rfl | exact lit8 _ rfl) rfl (by first | rfl | exact lit8 _ rfl)) rfl (Z18 4 rfl (by kernel_rfl) rfl (Z3 rfl) rfl ?_)))
        by_cases h97 : x94 = 0#8
        ·replace hq72 := if_t hq72 h97
         refine UW.slot (.bool true) (congrArg Value.bool (decide_eq_true h97)) (UW.skip 5 rfl (by kernel_rfl) rfl rfl (UW.skip 6 rfl (by kernel_rfl) rfl rfl (UW.skip 7 rfl (by kernel_rfl) rfl rfl (UW.skip 8 rfl (by kernel_rfl) rfl rfl (Z18 9 rfl (by kernel_rfl) rfl (Z108 rfl rfl rfl) rfl (UW.nil (by kernel_rfl) (Z6 ?_)))))))
         exact QW.join ⟨true, (Zi hq72).symm, rfl, rfl⟩ ⟨rfl, rfl, rfl, rfl, rfl, trivial⟩ (fun w m => m.pick [0] 1 rfl rfl)
        ·replace hq72 := if_f hq72 h97
         refine UW.slot (.bool false) (congrArg Value.bool (decide_eq_false h97)) (Z18 5 rfl (by kernel_rfl) rfl (Z22 rfl Zh rfl rfl rfl rfl ((Z101 _).trans Zv)) rfl ?_)
         obtain ⟨x99, hx98, hq72⟩ := Z100 hq72
         refine Z25 6 rfl (by kernel_rfl) rfl Tryd.call82 rfl (fun N' hN' => u256_From_does w0 (More w0 Φ []) N' (fun w m => Z105 hΦ 1 (hN' w m) rfl) (55#64) x99 hx98) rfl ?_
         rintro _ G100 rfl
         refine UW.mem (M' := ((some b70, blk (u64s x65.toList) 128) :: ([] ++ N))) (fun w m => m.appR) ?_
         obtain ⟨x103, hx102, hq72⟩ := Z100 hq72
         refine Z25 7 rfl (by kernel_rfl) rfl Tryd.call119 rfl (fun N' hN' => u256_Cmp_does w0 (More w0 Φ []) N' (fun w m => Z105 hΦ 1 (hN' w m) rfl) x65 x99 x103 hx102) rfl ?_
         rintro _ G105 ⟨b104, rfl⟩
         refine UW.mem (M' := ((some b70, blk (u64s x65.toList) 128) :: ([] ++ N))) (fun w m => m.appR) (Z18 8 rfl (by kernel_rfl) rfl (RV.leq rfl rfl) rfl (Z18 9 rfl (by kernel_rfl) rfl (Z106 rfl rfl rfl) rfl (UW.nil (by kernel_rfl) (Z6 ?_))))
         exact QW.join ⟨(decide (x103 ≤ (0 : Int))), (Zi hq72).symm, rfl, rfl⟩ ⟨rfl, rfl, rfl, rfl, rfl, trivial⟩ (fun w m => m.pick [0] 1 rfl rfl)
     ·replace hq26 := if_f hq26 h59
      refine Z14 rfl (decide_eq_false h59) (CW.skip ?_)
      exact QW.join ⟨(a0.drop 1), n15, (subA A0_ c0_ 1 1), (c0_ - 1), (Zi hq26).symm, v22, (by omega), rfl, rfl⟩ ⟨rfl, rfl, rfl, trivial⟩ (fun w m => m.pick [] 0 rfl rfl)
   ·skip
    by_cases h107 : 192 ≤ x3.toNat
    ·replace hq14 := if_t hq14 h107
     refine Z13 rfl (decide_eq_true h107) (Z2 (Z0 (Z3 rfl) rfl (Z0 (RV.sub8 rfl (by first | rfl | exact lit8 _ rfl) rfl (by first | rfl | exact lit8 _ rfl)) rfl (Z0 (Z167 rfl (by first | rfl | exact lit8 _ rfl) rfl rfl) rfl ?_))))
     have m108 := ((x3 - 192#8)).isLt
     refine Z0 (Z5 rfl) rfl (Z6 ?_)
     exact QW.join ⟨(x3 - 192#8).toNat, (Zi hq14).symm, (by omega), rfl, rfl⟩ ⟨rfl, rfl, rfl, trivial⟩ (fun w m => m.pick [] 0 rfl rfl)
    ·replace hq14 := if_f hq14 h107
     refine Z14 rfl (decide_eq_false h107) (CW.skip ?_)
     exact QW.join ⟨(x3 - 128#8).toNat, (Zi hq14).symm, (by omega), rfl, rfl⟩ ⟨rfl, rfl, rfl, trivial⟩ (fun w m => m.pick [] 0 rfl rfl)
theorem waybillref07_head_does (w0 : World) (Φ : Ctx) (N : List Ent) (hΦ : ∀ w, Mem w0 w N → Φ w) (A0_ : Option Addr) (c0_ : Nat) (a0 : List (BitVec 8)) (a1 : Nat) (a2 : Nat) (res0 : Hd) (res1 : Nat) (va0 : View Φ A0_ a0.length c0_ 1 (u8s a0)) (ba1 : a1 ≤ 9223372036854775807) (ba2 : a2 ≤ 9223372036854775807) (hf : waybillref07_head a0 a1 a2 = some (res0, res1)) : DoesG Tryd.prog 124 [.slice A0_ a0.length c0_, .int .i64 ((a1 : Nat) : Int), .int .i64 ((a2 : Nat) : Int)] w0 [] N (fun v G => ∃ B : List Ent, ∃ cr0 : List Value, (HdRd (More w0 Φ B) cr0 res0) ∧ (res1 ≤ 9223372036854775807) ∧ v = .tuple #[.agg cr0.toArray, .int .i64 ((res1 : Nat) : Int)] ∧ G = B) := by
 unfold waybillref07_head at hf
 replace va0 := va0.mono (Ψ := More w0 Φ []) (fun w q => q.1)
 have m1 := va0.mx
 refine DoesG.enter Tryd.func124 rfl Tryd.ntmps124 rfl (M := (([] ++ N))) rfl (Z4 (Z2 (OW.alloc (l := [.bool false, .int .i64 (0 : Int), .int .i64 (0 : Int)]) rfl rfl rfl (fun b2 => (Z0 (Z5 rfl) rfl (Z6 (Z1 (Z4 (Z4 (Z2 (Z0 (Z3 rfl) rfl (Z0 (Z3 rfl) rfl (Z0 (RV.geq rfl rfl) rfl ?_)))))))))))))
 refine Z7 (.bool (decide (a2 ≤ a1))) (congrArg Value.bool (decide_eq_decide.2 (by omega))) (Z6 (Z1 ?_))
 by_cases h3 : a2 ≤ a1
 ·replace hf := if_t hf h3
  refine Z13 rfl (decide_eq_true h3) (Z4 (Z2 (Z0 (Z107 (l := [.bool false, .int .i64 (0 : Int), .int .i64 (0 : Int)]) (cs := [.bool false, .int .i64 (0 : Int), .int .i64 (0 : Int)]) [] rfl rfl rfl rfl rfl rfl rfl) rfl ?_)))
  refine Z28 (Z103 rfl rfl rfl (by intro u hu; simp at hu; rcases hu with rfl | rfl | rfl <;> rfl) rfl rfl rfl) ?_
  refine Z0 (Z5 rfl) rfl (Z6 (Z1 (CW.ret (Z8 ?_))))
  have er0 := Zi hf
  obtain ⟨e0, er1⟩ := Prod.mk.inj er0
  clear er0
  subst e0
  subst er1
  have h4 : HdRd (More w0 Φ []) [.bool false, .int .i64 (0 : Int), .int .i64 (0 : Int)] (Hd.mk false 0 0) := by refine HdRd.mk ?_ ?_ <;> (first | omega | (dsimp only; omega)| (simp; done) | (show 0 ≤ 9223372036854775807; omega))
  refine Z104 (rs := [.cell 6 176, .tmp 7]) ([.agg [.bool false, .int .i64 (0 : Int), .int .i64 (0 : Int)].toArray, .int .i64 (70 : Int)]) ([]) rfl ?_ rfl ?_ ?_ _ (.inl rfl)
  ·exact ⟨⟨_, _, _, _, rfl, Zh, rfl, rfl, rfl, rfl⟩, rfl, trivial⟩
  ·exact ⟨[], [.bool false, .int .i64 (0 : Int), .int .i64 (0 : Int)], h4, (by omega), rfl, rfl⟩
  ·exact (fun w m => m.pick [] 1 rfl rfl)
 ·replace hf := if_f hf h3
  refine Z14 rfl (decide_eq_false h3) (CW.skip (Z1 (Z4 (Z2 (Z0 (Z3 rfl) rfl (Z0 (Z3 rfl) rfl ?_))))))
  obtain ⟨x5, hx6, hf⟩ := Z100 hf
  have hl7 := Z111 hx6
  refine Z0 (Z131 (a1) rfl rfl rfl rfl rfl (va0.isSome (by decide) hl7) (by omega)) rfl (Z0 (Z21 rfl rfl rfl (fun w m => va0.cell (Z105 hΦ 1 m rfl) (Z148 hx6))) rfl (Z0 (Z167 rfl (by first | rfl | exact lit8 _ rfl) rfl rfl) rfl ?_))
  have m8 := (x5).isLt
  refine Z0 (Z5 rfl) rfl (Z6 (Z1 (Z4 (Z4 (Z2 (Z0 (Z3 rfl) rfl (Z0 (RV.lss rfl rfl) rfl (Z7 (.bool (decide (x5.toNat < 128))) (congrArg Value.bool (decide_eq_decide.2 (by omega))) (Z6 (Z1 ?_))))))))))
  by_cases h9 : x5.toNat < 128
  ·replace hf := if_t hf h9
   refine Z13 rfl (decide_eq_true h9) (Z4 (Z2 (Z0 (Z3 rfl) rfl (Z0 (Z3 rfl) rfl (Z0 (RV.add rfl rfl (by omega)) rfl (Z7 (.int .i64 (((a1 + 1) : Nat) : Int)) (by first | rfl | (congr 1) | (congr 1; omega)) (Z0 (Z107 (l := [.bool false, .int .i64 (0 : Int), .int .i64 (0 : Int)]) (cs := [.bool false, .int .i64 ((a1 : Nat) : Int), .int .i64 (((a1 + 1) : Nat) : Int)]) [(1, [.int .i64 ((a1 : Nat) : Int)]), (2, [.int .i64 (((a1 + 1) : Nat) : Int)])] rfl rfl rfl rfl rfl rfl rfl) rfl ?_)))))))
   refine Z28 (Z103 rfl rfl rfl (by intro u hu; simp at hu; rcases hu with rfl | rfl | rfl <;> rfl) rfl rfl rfl) ?_
   refine Z0 (Z5 rfl) rfl (Z6 (Z1 (CW.ret (Z8 ?_))))
   have er0 := Zi hf
   obtain ⟨e0, er1⟩ := Prod.mk.inj er0
   clear er0
   subst e0
   subst er1
   have h10 : HdRd (More w0 Φ []) [.bool false, .int .i64 ((a1 : Nat) : Int), .int .i64 (((a1 + 1) : Nat) : Int)] (Hd.mk false a1 (a1 + 1)) := by refine HdRd.mk ?_ ?_ <;> (first | omega | (dsimp only; omega)| (simp; done) | (show 0 ≤ 9223372036854775807; omega))
   refine Z104 (rs := [.cell 6 176, .tmp 7]) ([.agg [.bool false, .int .i64 ((a1 : Nat) : Int), .int .i64 (((a1 + 1) : Nat) : Int)].toArray, .int .i64 (0 : Int)]) ([]) rfl ?_ rfl ?_ ?_ _ (.inl rfl)
   ·exact ⟨⟨_, _, _, _, rfl, Zh, rfl, rfl, rfl, rfl⟩, rfl, trivial⟩
   ·exact ⟨[], [.bool false, .int .i64 ((a1 : Nat) : Int), .int .i64 (((a1 + 1) : Nat) : Int)], h10, (by omega), rfl, rfl⟩
   ·exact (fun w m => m.pick [] 1 rfl rfl)
  ·replace hf := if_f hf h9
   refine Z14 rfl (decide_eq_false h9) (CW.skip (Z1 (Z4 (Z2 (Z0 (Z3 rfl) rfl (Z0 (RV.geq rfl rfl) rfl (Z7 (.bool (decide (192 ≤ x5.toNat))) (congrArg Value.bool (decide_eq_decide.2 (by omega))) (Z0 (Z3 rfl) rfl (Z0 (RV.add rfl rfl (by omega)) rfl (Z7 (.int .i64 (((a1 + 1) : Nat) : Int)) (by first | rfl | (congr 1) | (congr 1; omega)) ?_))))))))))
   refine Z0 (Z107 (l := [.bool false, .int .i64 (0 : Int), .int .i64 (0 : Int)]) (cs := [.bool (decide (192 ≤ x5.toNat)), .int .i64 (((a1 + 1) : Nat) : Int), .int .i64 (0 : Int)]) [(0, [.bool (decide (192 ≤ x5.toNat))]), (1, [.int .i64 (((a1 + 1) : Nat) : Int)])] rfl rfl rfl rfl rfl rfl rfl) rfl (OW.alloc (l := [.bool false, .int .i64 (0 : Int), .int .i64 (0 : Int)]) rfl rfl rfl (fun b11 => ?_))
   refine Z28 (Z103 rfl rfl rfl (by intro u hu; simp at hu; rcases hu with rfl | rfl | rfl <;> rfl) rfl rfl rfl) ?_
   refine Z6 (Z1 (Z4 (Z2 (Z0 (Z3 rfl) rfl (Z0 (RV.rem rfl rfl (by omega) (by omega)) rfl (Z7 (.int .i64 ((x5.toNat % 64 : Nat) : Int)) (by first | rfl | (congr 1; omega)) (Z0 (Z5 rfl) rfl (Z6 (Z1 (Z4 (Z4 (Z2 (Z0 (Z3 rfl) rfl (Z0 (RV.gtr rfl rfl) rfl ?_))))))))))))))
   refine Z7 (.bool (decide (55 < (x5.toNat % 64)))) (congrArg Value.bool (decide_eq_decide.2 (by omega))) (Z6 (Z1 ?_))
   obtain ⟨q12, hq13, hf⟩ := Z100 hf
   refine Z115 (fun L' M' => ∃ n14 : Nat, ∃ p16 : Bool, ∃ n17 : Nat, ∃ n19 : Nat, q12 = Lp.go (n14, p16, n17, n19) ∧ (n14 ≤ 9223372036854775807) ∧ (n17 ≤ 9223372036854775807) ∧ (n19 ≤ 9223372036854775807) ∧ L' = [(0, .slice A0_ a0.length c0_), (2, .int .i64 ((a2 : Nat) : Int)), (6, ptr (some b2) 0), (9, ptr (some b11) 0), (10, .int .i64 ((n14 : Nat) : Int))] ∧ M' = ((some b11, blk [.bool (p16), .int .i64 ((n17 : Nat) : Int), .int .i64 ((n19 : Nat) : Int)] 176) :: (some b2, blk [.bool false, .int .i64 (0 : Int), .int .i64 (0 : Int)] 176) :: ([] ++ N))) ?_ ?_
   ·rintro L22 M23 ⟨n14, p16, n17, n19, e21, b15, b18, b20, e24, e25⟩
    rw [e24, e25]
    clear e24 e25 L22 M23
    clear hq13
    rw [e21] at hf
    clear e21
    try dsimp only at hf
    refine Z1 (Z4 (Z4 (Z2 (Z0 (Z3 rfl) rfl (Z0 (Z3 rfl) rfl (Z0 (Z30 rfl rfl rfl rfl) rfl (Z0 (Z29 rfl Zh rfl rfl rfl rfl) rfl (Z0 (RV.sub rfl rfl (by omega)) rfl (Z0 (RV.gtr rfl rfl) rfl (Z6 (Z1 ?_)))))))))))
    by_cases h26 : (((a2 : Nat) : Int) - ((n17 : Nat) : Int)) < ((n14 : Nat) : Int)
    ·replace hf := if_t hf h26
     refine Z13 rfl (decide_eq_true h26) (Z4 (Z2 (Z0 (Z107 (l := [.bool false, .int .i64 (0 : Int), .int .i64 (0 : Int)]) (cs := [.bool false, .int .i64 (0 : Int), .int .i64 (0 : Int)]) [] rfl rfl rfl rfl rfl rfl rfl) rfl (OW.rot1 ?_))))
     refine Z28 (Z103 rfl rfl rfl (by intro u hu; simp at hu; rcases hu with rfl | rfl | rfl <;> rfl) rfl rfl rfl) ?_
     refine Z0 (Z5 rfl) rfl (Z6 (Z1 (CW.ret (Z8 ?_))))
     have er0 := Zi hf
     obtain ⟨e0, er1⟩ := Prod.mk.inj er0
     clear er0
     subst e0
     subst er1
     have h27 : HdRd (More w0 Φ []) [.bool false, .int .i64 (0 : Int), .int .i64 (0 : Int)] (Hd.mk false 0 0) := by refine HdRd.mk ?_ ?_ <;> (first | omega | (dsimp only; omega)| (simp; done) | (show 0 ≤ 9223372036854775807; omega))
     refine Z104 (rs := [.cell 6 176, .tmp 7]) ([.agg [.bool false, .int .i64 (0 : Int), .int .i64 (0 : Int)].toArray, .int .i64 (70 : Int)]) ([]) rfl ?_ rfl ?_ ?_ _ (.inl rfl)
     ·exact ⟨⟨_, _, _, _, rfl, Zh, rfl, rfl, rfl, rfl⟩, rfl, trivial⟩
     ·exact ⟨[], [.bool false, .int .i64 (0 : Int), .int .i64 (0 : Int)], h27, (by omega), rfl, rfl⟩
     ·exact (fun w m => m.pick [] 2 rfl rfl)
    ·replace hf := if_f hf h26
     refine Z14 rfl (decide_eq_false h26) (CW.skip (Z1 (Z4 (Z2 (Z0 (Z30 rfl rfl rfl rfl) rfl (Z0 (Z29 rfl Zh rfl rfl rfl rfl) rfl (Z0 (Z3 rfl) rfl ?_)))))))
     obtain ⟨g28, hf⟩ := Z112 hf
     refine Z0 (RV.add rfl rfl (by omega)) rfl (Z7 (.int .i64 (((n17 + n14) : Nat) : Int)) (by first | rfl | (congr 1) | (congr 1; omega)) (Z0 (Z30 rfl rfl rfl rfl) rfl (Z28 (SV.store rfl rfl rfl rfl rfl (by simp)) (OW.cells [.bool (p16), .int .i64 ((n17 : Nat) : Int), .int .i64 (((n17 + n14) : Nat) : Int)] rfl (Z6 (Z1 (Z4 (Z4 ?_))))))))
     obtain ⟨q29, hq30, hf⟩ := Z100 hf
     refine Z115 (fun L' M' => ∃ p31 : Bool, q29 = p31 ∧ L' = [(6, ptr (some b2) 0), (9, ptr (some b11) 0), (116, .bool (p31))] ∧ M' = ((some b11, blk [.bool (p16), .int .i64 ((n17 : Nat) : Int), .int .i64 (((n17 + n14) : Nat) : Int)] 176) :: (some b2, blk [.bool false, .int .i64 (0 : Int), .int .i64 (0 : Int)] 176) :: ([] ++ N))) ?_ ?_
     ·rintro L33 M34 ⟨p31, e32, e35, e36⟩
      rw [e35, e36]
      clear e35 e36 L33 M34
      clear hq30
      rw [e32] at hf
      clear e32
      try dsimp only at hf
      refine Z1 ?_
      by_cases h37 : p31 = true
      ·replace hf := if_t hf h37
       refine Z13 rfl (h37) (Z4 (Z2 (Z0 (Z107 (l := [.bool false, .int .i64 (0 : Int), .int .i64 (0 : Int)]) (cs := [.bool false, .int .i64 (0 : Int), .int .i64 (0 : Int)]) [] rfl rfl rfl rfl rfl rfl rfl) rfl (OW.rot1 ?_))))
       refine Z28 (Z103 rfl rfl rfl (by intro u hu; simp at hu; rcases hu with rfl | rfl | rfl <;> rfl) rfl rfl rfl) ?_
       refine Z0 (Z5 rfl) rfl (Z6 (Z1 (CW.ret (Z8 ?_))))
       have er0 := Zi hf
       obtain ⟨e0, er1⟩ := Prod.mk.inj er0
       clear er0
       subst e0
       subst er1
       have h38 : HdRd (More w0 Φ []) [.bool false, .int .i64 (0 : Int), .int .i64 (0 : Int)] (Hd.mk false 0 0) := by refine HdRd.mk ?_ ?_ <;> (first | omega | (dsimp only; omega)| (simp; done) | (show 0 ≤ 9223372036854775807; omega))
       refine Z104 (rs := [.cell 6 176, .tmp 7]) ([.agg [.bool false, .int .i64 (0 : Int), .int .i64 (0 : Int)].toArray, .int .i64 (71 : Int)]) ([]) rfl ?_ rfl ?_ ?_ _ (.inl rfl)
       ·exact ⟨⟨_, _, _, _, rfl, Zh, rfl, rfl, rfl, rfl⟩, rfl, trivial⟩
       ·exact ⟨[], [.bool false, .int .i64 (0 : Int), .int .i64 (0 : Int)], h38, (by omega), rfl, rfl⟩
       ·exact (fun w m => m.pick [] 2 rfl rfl)
      ·replace hf := if_f hf h37
       refine Z14 rfl (Bool.eq_false_iff.2 h37) (CW.skip (Z1 (Z4 (Z2 (Z0 (Z22 rfl Zh rfl rfl rfl rfl rfl) rfl (OW.rot1 ?_))))))
       refine Z28 (Z103 rfl rfl rfl (by intro u hu; simp at hu; rcases hu with rfl | rfl | rfl <;> rfl) rfl rfl rfl) ?_
       refine Z0 (Z5 rfl) rfl (Z6 (Z1 (CW.ret ?_)))
       have er0 := Zi hf
       obtain ⟨e0, er1⟩ := Prod.mk.inj er0
       clear er0
       subst e0
       subst er1
       have h39 : HdRd (More w0 Φ []) [.bool (p16), .int .i64 ((n17 : Nat) : Int), .int .i64 (((n17 + n14) : Nat) : Int)] (Hd.mk (p16) n17 (n17 + n14)) := by refine HdRd.mk ?_ ?_ <;> (first | omega | (dsimp only; omega)| (simp; done) | (show 0 ≤ 9223372036854775807; omega))
       refine Z104 (rs := [.cell 6 176, .tmp 7]) ([.agg [.bool (p16), .int .i64 ((n17 : Nat) : Int), .int .i64 (((n17 + n14) : Nat) : Int)].toArray, .int .i64 (0 : Int)]) ([]) rfl ?_ rfl ?_ ?_ _ (.inl rfl)
       ·exact ⟨⟨_, _, _, _, rfl, Zh, rfl, rfl, rfl, rfl⟩, rfl, trivial⟩
       ·exact ⟨[], [.bool (p16), .int .i64 ((n17 : Nat) : Int), .int .i64 (((n17 + n14) : Nat) : Int)], h39, (by omega), rfl, rfl⟩
       ·exact (fun w m => m.pick [] 2 rfl rfl)
     ·skip
      refine Z2 (Z0 (Z30 rfl rfl rfl rfl) rfl (Z0 (Z29 rfl Zh rfl rfl rfl rfl) rfl (Z0 (RV.not rfl) rfl (Z0 (Z3 rfl) rfl ?_))))
      by_cases h40 : p16 = true
      ·replace hq30 := if_t hq30 h40
       refine Z7 (.bool false) (congrArg Value.bool (congrArg (fun b => !b) (h40))) (Z23 rfl rfl rfl (Z23 rfl rfl rfl (Z0 (Z106 rfl rfl rfl) rfl (Z0 (Z3 rfl) rfl (Z23 rfl rfl rfl (Z23 rfl rfl rfl (Z23 rfl rfl rfl ?_)))))))
       refine Z23 rfl rfl rfl (Z23 rfl rfl rfl (Z23 rfl rfl rfl (Z0 (Z106 rfl rfl rfl) rfl (Z6 ?_))))
       exact QW.join ⟨false, (Zi hq30).symm, rfl, rfl⟩ ⟨rfl, rfl, rfl, trivial⟩ (fun w m => m.pick [0, 1] 2 rfl rfl)
      ·replace hq30 := if_f hq30 h40
       refine Z7 (.bool true) (congrArg Value.bool (congrArg (fun b => !b) (Bool.eq_false_iff.2 h40))) (Z24 rfl (Z0 (Z3 rfl) rfl (Z24 rfl (Z0 (RV.eql rfl rfl) rfl (Z7 (.bool (decide (n14 = 1))) (congrArg Value.bool (decide_eq_decide.2 (by omega))) (Z0 (Z108 rfl rfl rfl) rfl (Z0 (Z3 rfl) rfl ?_)))))))
       by_cases h41 : n14 = 1
       ·replace hq30 := if_t hq30 h41
        refine Z7 (.bool true) (congrArg Value.bool (decide_eq_true h41)) (Z24 rfl (Z0 (Z3 rfl) rfl (Z24 rfl (Z0 (Z30 rfl rfl rfl rfl) rfl (Z24 rfl (Z0 (Z29 rfl Zh rfl rfl rfl rfl) rfl (Z24 rfl ?_)))))))
        obtain ⟨x42, hx43, hq30⟩ := Z100 hq30
        have hl44 := Z111 hx43
        refine Z0 (Z131 (n17) rfl rfl rfl rfl rfl (va0.isSome (by decide) hl44) (by omega)) rfl (Z24 rfl (Z0 (Z21 rfl rfl rfl (fun w m => va0.cell (Z105 hΦ 2 m rfl) (Z148 hx43))) rfl (Z24 rfl (Z0 (RV.lss rfl rfl) rfl (Z7 (.bool (decide (x42.toNat < 128))) (congrArg Value.bool (decide_eq_decide.2 (by first | omega | (simp; omega) | simp))) (Z0 (Z108 rfl rfl rfl) rfl (Z6 ?_)))))))
        exact QW.join ⟨(decide (x42.toNat < 128)), (Zi hq30).symm, rfl, rfl⟩ ⟨rfl, rfl, rfl, trivial⟩ (fun w m => m.pick [0, 1] 2 rfl rfl)
       ·replace hq30 := if_f hq30 h41
        refine Z7 (.bool false) (congrArg Value.bool (decide_eq_false h41)) (Z23 rfl rfl rfl (Z23 rfl rfl rfl (Z23 rfl rfl rfl (Z23 rfl rfl rfl (Z23 rfl rfl rfl (Z23 rfl rfl rfl (Z0 (Z106 rfl rfl rfl) rfl ?_)))))))
        refine Z6 ?_
        exact QW.join ⟨false, (Zi hq30).symm, rfl, rfl⟩ ⟨rfl, rfl, rfl, trivial⟩ (fun w m => m.pick [0, 1] 2 rfl rfl)
   ·skip
    by_cases h45 : 55 < (x5.toNat % 64)
    ·replace hq13 := if_t hq13 h45
     refine Z13 rfl (decide_eq_true h45) (Z4 (Z2 (Z0 (Z3 rfl) rfl (Z0 (RV.sub rfl rfl (by omega)) rfl (Z7 (.int .i64 (((x5.toNat % 64) - 55 : Nat) : Int)) (by congr 1; omega) (Z0 (Z5 rfl) rfl (Z6 (Z1 (Z4 (Z4 (Z2 (Z0 (Z3 rfl) rfl ?_))))))))))))
     refine Z0 (Z30 rfl rfl rfl rfl) rfl (Z0 (Z29 rfl Zh rfl rfl rfl rfl) rfl (Z0 (RV.sub rfl rfl (by omega)) rfl (Z0 (Z3 rfl) rfl (Z0 (RV.lss rfl rfl) rfl (Z6 (Z1 ?_))))))
     by_cases h46 : (((a2 : Nat) : Int) - (((a1 + 1) : Nat) : Int)) < (((x5.toNat % 64) - 55 : Nat) : Int)
     ·replace hq13 := if_t hq13 h46
      refine Z13 rfl (decide_eq_true h46) (Z4 (Z2 (Z0 (Z107 (l := [.bool false, .int .i64 (0 : Int), .int .i64 (0 : Int)]) (cs := [.bool false, .int .i64 (0 : Int), .int .i64 (0 : Int)]) [] rfl rfl rfl rfl rfl rfl rfl) rfl (OW.rot1 ?_))))
      refine Z28 (Z103 rfl rfl rfl (by intro u hu; simp at hu; rcases hu with rfl | rfl | rfl <;> rfl) rfl rfl rfl) ?_
      refine Z0 (Z5 rfl) rfl (Z6 (Z1 (CW.ret (Z8 (Z8 ?_)))))
      have hc := Zi hq13
      subst hc
      try dsimp only at hf
      refine Z8 ?_
      have er0 := Zi hf
      obtain ⟨e0, er1⟩ := Prod.mk.inj er0
      clear er0
      subst e0
      subst er1
      have h47 : HdRd (More w0 Φ []) [.bool false, .int .i64 (0 : Int), .int .i64 (0 : Int)] (Hd.mk false 0 0) := by refine HdRd.mk ?_ ?_ <;> (first | omega | (dsimp only; omega)| (simp; done) | (show 0 ≤ 9223372036854775807; omega))
      refine Z104 (rs := [.cell 6 176, .tmp 7]) ([.agg [.bool false, .int .i64 (0 : Int), .int .i64 (0 : Int)].toArray, .int .i64 (70 : Int)]) ([]) rfl ?_ rfl ?_ ?_ _ (.inl rfl)
      ·exact ⟨⟨_, _, _, _, rfl, Zh, rfl, rfl, rfl, rfl⟩, rfl, trivial⟩
      ·exact ⟨[], [.bool false, .int .i64 (0 : Int), .int .i64 (0 : Int)], h47, (by omega), rfl, rfl⟩
      ·exact (fun w m => m.pick [] 2 rfl rfl)
     ·replace hq13 := if_f hq13 h46
      refine Z14 rfl (decide_eq_false h46) (CW.skip (Z1 (Z4 (Z2 (Z0 (Z3 rfl) rfl (Z0 (Z30 rfl rfl rfl rfl) rfl (Z0 (Z29 rfl Zh rfl rfl rfl rfl) rfl (Z0 (Z30 rfl rfl rfl rfl) rfl (Z0 (Z29 rfl Zh rfl rfl rfl rfl) rfl (Z0 (Z3 rfl) rfl ?_))))))))))
      obtain ⟨g48, hq13⟩ := Z112 hq13
      refine Z0 (RV.add rfl rfl (by omega)) rfl (Z7 (.int .i64 ((((a1 + 1) + ((x5.toNat % 64) - 55)) : Nat) : Int)) (by first | rfl | (congr 1) | (congr 1; omega)) ?_)
      obtain ⟨g50, hq13⟩ := Z112 hq13
      obtain ⟨g51, hq13⟩ := Z112 hq13
      have hle := va0.le
      refine Z0 (RV.cut_both (s := 1) ((a1 + 1)) (((a1 + 1) + ((x5.toNat % 64) - 55))) rfl rfl rfl (by omega) (by omega) rfl rfl (by omega) (by omega)) rfl (Z7 (.slice (subA A0_ c0_ (a1 + 1) 1) ((a0.take ((a1 + 1) + ((x5.toNat % 64) - 55))).drop (a1 + 1)).length (c0_ - (a1 + 1))) (by rw [show (((a0.take ((a1 + 1) + ((x5.toNat % 64) - 55))).drop (a1 + 1))).length = (((a1 + 1) + ((x5.toNat % 64) - 55))) - ((a1 + 1)) from List.length_drop.trans (by rw [List.length_take, Nat.min_eq_left (by omega)])]) ?_)
      have v49 : View (More w0 Φ []) (subA A0_ c0_ (a1 + 1) 1) ((a0.take ((a1 + 1) + ((x5.toNat % 64) - 55))).drop (a1 + 1)).length (c0_ - (a1 + 1)) 1 (u8s ((a0.take ((a1 + 1) + ((x5.toNat % 64) - 55))).drop (a1 + 1))) := va0.mid8 (by omega) (by omega)
      have m52 := v49.mx
      obtain ⟨⟨x54, x55⟩, hx53, hq13⟩ := Z100 hq13
      try dsimp only at hq13
      refine Z12 Tryd.call137 rfl (waybillref01_Get_does w0 (More w0 Φ []) ((some b11, blk [.bool (decide (192 ≤ x5.toNat)), .int .i64 (((a1 + 1) : Nat) : Int), .int .i64 (0 : Int)] 176) :: (some b2, blk [.bool false, .int .i64 (0 : Int), .int .i64 (0 : Int)] 176) :: ([] ++ N)) (fun w m => Z105 hΦ 2 m rfl) (subA A0_ c0_ (a1 + 1) 1) (c0_ - (a1 + 1)) ((a0.take ((a1 + 1) + ((x5.toNat % 64) - 55))).drop (a1 + 1)) x54 x55 v49 hx53) rfl rfl ?_
      rintro _ G57 ⟨b56, rfl⟩
      refine Z20 (M' := ((some b11, blk [.bool (decide (192 ≤ x5.toNat)), .int .i64 (((a1 + 1) : Nat) : Int), .int .i64 (0 : Int)] 176) :: (some b2, blk [.bool false, .int .i64 (0 : Int), .int .i64 (0 : Int)] 176) :: ([] ++ N))) (fun w m => m.appR) (Z0 (Z3 rfl) rfl (Z0 (Z17 rfl rfl) rfl (Z7 (.agg (u64s x54.toList).toArray) (rfl) (Z0 (Z17 rfl rfl) rfl (Z7 (.int .i64 ((x55 : Nat) : Int)) (rfl) (OW.alloc (l := (u64s (Vector.replicate 4 0#64).toList)) rfl (by rw [Vector.toList_replicate, ← Z116]; rfl) rfl (fun b59 => (Z28 (Z103 rfl rfl rfl (Z118 _) rfl ((Z101 _).trans Zv) ((Z101 _).trans Zv)) ?_))))))))
      refine Z0 (Z5 rfl) rfl (Z6 (Z1 (Z4 (Z4 ?_))))
      obtain ⟨q60, hq61, hq13⟩ := Z100 hq13
      refine Z115 (fun L' M' => ∃ p62 : Bool, q60 = p62 ∧ L' = [(0, .slice A0_ a0.length c0_), (2, .int .i64 ((a2 : Nat) : Int)), (6, ptr (some b2) 0), (9, ptr (some b11) 0), (11, .int .i64 (((x5.toNat % 64) - 55 : Nat) : Int)), (12, ptr (some b59) 0), (70, .bool (p62))] ∧ M' = ((some b59, blk (u64s x54.toList) 128) :: (some b11, blk [.bool (decide (192 ≤ x5.toNat)), .int .i64 (((a1 + 1) : Nat) : Int), .int .i64 (0 : Int)] 176) :: (some b2, blk [.bool false, .int .i64 (0 : Int), .int .i64 (0 : Int)] 176) :: ([] ++ N))) ?_ ?_
      ·rintro L64 M65 ⟨p62, e63, e66, e67⟩
       rw [e66, e67]
       clear e66 e67 L64 M65
       clear hq61
       rw [e63] at hq13
       clear e63
       try dsimp only at hq13
       refine Z1 ?_
       by_cases h68 : p62 = true
       ·replace hq13 := if_t hq13 h68
        refine Z13 rfl (h68) (Z4 (Z2 (Z0 (Z107 (l := [.bool false, .int .i64 (0 : Int), .int .i64 (0 : Int)]) (cs := [.bool false, .int .i64 (0 : Int), .int .i64 (0 : Int)]) [] rfl rfl rfl rfl rfl rfl rfl) rfl (OW.rot2 ?_))))
        refine Z28 (Z103 rfl rfl rfl (by intro u hu; simp at hu; rcases hu with rfl | rfl | rfl <;> rfl) rfl rfl rfl) ?_
        refine Z0 (Z5 rfl) rfl (Z6 (Z1 (CW.ret (Z8 (Z8 ?_)))))
        have hc := Zi hq13
        subst hc
        try dsimp only at hf
        refine Z8 ?_
        have er0 := Zi hf
        obtain ⟨e0, er1⟩ := Prod.mk.inj er0
        clear er0
        subst e0
        subst er1
        have h69 : HdRd (More w0 Φ []) [.bool false, .int .i64 (0 : Int), .int .i64 (0 : Int)] (Hd.mk false 0 0) := by refine HdRd.mk ?_ ?_ <;> (first | omega | (dsimp only; omega)| (simp; done) | (show 0 ≤ 9223372036854775807; omega))
        refine Z104 (rs := [.cell 6 176, .tmp 7]) ([.agg [.bool false, .int .i64 (0 : Int), .int .i64 (0 : Int)].toArray, .int .i64 (72 : Int)]) ([]) rfl ?_ rfl ?_ ?_ _ (.inl rfl)
        ·exact ⟨⟨_, _, _, _, rfl, Zh, rfl, rfl, rfl, rfl⟩, rfl, trivial⟩
        ·exact ⟨[], [.bool false, .int .i64 (0 : Int), .int .i64 (0 : Int)], h69, (by omega), rfl, rfl⟩
        ·exact (fun w m => m.pick [] 3 rfl rfl)
       ·replace hq13 := if_f hq13 h68
        refine Z14 rfl (Bool.eq_false_iff.2 h68) (CW.skip (Z1 (Z4 (Z2 (Z0 (Z30 rfl rfl rfl rfl) rfl (Z0 (Z29 rfl (List.Mem.tail _ Zh) rfl rfl rfl rfl) rfl (Z0 (Z3 rfl) rfl (Z0 (RV.add rfl rfl (by omega)) rfl (Z7 (.int .i64 ((((a1 + 1) + ((x5.toNat % 64) - 55)) : Nat) : Int)) (by first | rfl | (congr 1) | (congr 1; omega)) (Z0 (Z30 rfl rfl rfl rfl) rfl ?_))))))))))
        refine OW.rot1 (Z28 (SV.store rfl rfl rfl rfl rfl (by simp)) (OW.cells [.bool (decide (192 ≤ x5.toNat)), .int .i64 ((((a1 + 1) + ((x5.toNat % 64) - 55)) : Nat) : Int), .int .i64 (0 : Int)] rfl (Z6 (Z1 (Z4 (Z4 (Z138 9 mixed (by kernel_rfl) rfl (Z18 0 rfl (by kernel_rfl) rfl (Z22 rfl (List.Mem.tail _ Zh) rfl rfl rfl rfl ((Z101 _).trans Zv)) rfl (Z18 1 rfl (by kernel_rfl) rfl (Z3 rfl) rfl (Z18 2 rfl (by kernel_rfl) rfl (Z30 rfl rfl rfl rfl) rfl ?_))))))))))
        refine Z18 3 rfl (by kernel_rfl) rfl (Z29 rfl Zh rfl rfl rfl rfl) rfl (Z18 4 rfl (by kernel_rfl) rfl (RV.sub rfl rfl (by omega)) rfl (Z18 5 rfl (by kernel_rfl) rfl (Z152 rfl rfl rfl) rfl ?_))
        obtain ⟨x71, hx70, hq13⟩ := Z100 hq13
        refine Z25 6 rfl (by kernel_rfl) rfl Tryd.call117 rfl (fun N' hN' => waybillref01_From_does w0 (More w0 Φ []) N' (fun w m => Z105 hΦ 3 (hN' w m) rfl) (BitVec.ofInt 64 (((a2 : Nat) : Int) - ((((a1 + 1) + ((x5.toNat % 64) - 55)) : Nat) : Int))) x71 hx70) rfl ?_
        rintro _ G72 rfl
        refine UW.mem (M' := ((some b11, blk [.bool (decide (192 ≤ x5.toNat)), .int .i64 ((((a1 + 1) + ((x5.toNat % 64) - 55)) : Nat) : Int), .int .i64 (0 : Int)] 176) :: (some b59, blk (u64s x54.toList) 128) :: (some b2, blk [.bool false, .int .i64 (0 : Int), .int .i64 (0 : Int)] 176) :: ([] ++ N))) (fun w m => m.appR) ?_
        obtain ⟨x75, hx74, hq13⟩ := Z100 hq13
        refine Z25 7 rfl (by kernel_rfl) rfl Tryd.call138 rfl (fun N' hN' => waybillref01_Cmp_does w0 (More w0 Φ []) N' (fun w m => Z105 hΦ 3 (hN' w m) rfl) x54 x71 x75 hx74) rfl ?_
        rintro _ G77 ⟨b76, rfl⟩
        refine UW.mem (M' := ((some b11, blk [.bool (decide (192 ≤ x5.toNat)), .int .i64 ((((a1 + 1) + ((x5.toNat % 64) - 55)) : Nat) : Int), .int .i64 (0 : Int)] 176) :: (some b59, blk (u64s x54.toList) 128) :: (some b2, blk [.bool false, .int .i64 (0 : Int), .int .i64 (0 : Int)] 176) :: ([] ++ N))) (fun w m => m.appR) (Z18 8 rfl (by kernel_rfl) rfl (RV.gtr rfl rfl) rfl (UW.nil (by kernel_rfl) (Z6 (Z1 ?_))))
        by_cases h79 : (0 : Int) < x75
        ·replace hq13 := if_t hq13 h79
         refine Z13 rfl (decide_eq_true h79) (Z4 (Z2 (Z0 (Z107 (l := [.bool false, .int .i64 (0 : Int), .int .i64 (0 : Int)]) (cs := [.bool false, .int .i64 (0 : Int), .int .i64 (0 : Int)]) [] rfl rfl rfl rfl rfl rfl rfl) rfl (OW.rot2 ?_))))
         refine Z28 (Z103 rfl rfl rfl (by intro u hu; simp at hu; rcases hu with rfl | rfl | rfl <;> rfl) rfl rfl rfl) ?_
         refine Z0 (Z5 rfl) rfl (Z6 (Z1 (CW.ret (Z8 (Z8 ?_)))))
         have hc := Zi hq13
         subst hc
         try dsimp only at hf
         refine Z8 ?_
         have er0 := Zi hf
         obtain ⟨e0, er1⟩ := Prod.mk.inj er0
         clear er0
         subst e0
         subst er1
         have h80 : HdRd (More w0 Φ []) [.bool false, .int .i64 (0 : Int), .int .i64 (0 : Int)] (Hd.mk false 0 0) := by refine HdRd.mk ?_ ?_ <;> (first | omega | (dsimp only; omega)| (simp; done) | (show 0 ≤ 9223372036854775807; omega))
         refine Z104 (rs := [.cell 6 176, .tmp 7]) ([.agg [.bool false, .int .i64 (0 : Int), .int .i64 (0 : Int)].toArray, .int .i64 (70 : Int)]) ([]) rfl ?_ rfl ?_ ?_ _ (.inl rfl)
         ·exact ⟨⟨_, _, _, _, rfl, Zh, rfl, rfl, rfl, rfl⟩, rfl, trivial⟩
         ·exact ⟨[], [.bool false, .int .i64 (0 : Int), .int .i64 (0 : Int)], h80, (by omega), rfl, rfl⟩
         ·exact (fun w m => m.pick [] 3 rfl rfl)
        ·replace hq13 := if_f hq13 h79
         refine Z14 rfl (decide_eq_false h79) (CW.skip (Z1 (Z2 (Z0 (Z109 (0) rfl rfl rfl rfl rfl (by omega)) rfl (Z0 (Z29 rfl (List.Mem.tail _ Zh) rfl rfl rfl (u64s_at (vat' (by decide)))) rfl ?_)))))
         obtain ⟨g81, hq13⟩ := Z112 hq13
         refine Z0 (RV.conv64_i rfl (by first | rfl | exact lit64 _ rfl) rfl rfl (by first | omega | (simp; omega))) rfl ?_
         have m82 := (x54[0]).isLt
         refine Z0 (Z5 rfl) rfl (Z6 ?_)
         exact QW.join ⟨(x54[0]).toNat, (decide (192 ≤ x5.toNat)), ((a1 + 1) + ((x5.toNat % 64) - 55)), 0, (Zi hq13).symm, (by omega), (by omega), (by omega), rfl, rfl⟩ ⟨rfl, rfl, rfl, rfl, rfl, trivial⟩ (fun w m => m.pick [0, 2] 3 rfl rfl)
      ·skip
       refine Z138 12 mixed (by kernel_rfl) rfl (Z18 0 rfl (by kernel_rfl) rfl (Z3 rfl) rfl (Z18 1 rfl (by kernel_rfl) rfl (Z30 rfl rfl rfl rfl) rfl (Z18 2 rfl (by kernel_rfl) rfl (Z29 rfl (List.Mem.tail _ Zh) rfl rfl rfl rfl) rfl ?_)))
       obtain ⟨x83, hx84, hq61⟩ := Z100 hq61
       have hl85 := Z111 hx84
       refine Z18 3 rfl (by kernel_rfl) rfl (Z131 ((a1 + 1)) rfl rfl rfl rfl rfl (va0.isSome (by decide) hl85) (by omega)) rfl (Z18 4 rfl (by kernel_rfl) rfl (Z21 rfl rfl rfl (fun w m => va0.cell (Z105 hΦ 3 m rfl) (Z148 hx84))) rfl (Z18 5 rfl (by kernel_rfl) rfl (RV.eql8 rfl (by first | rfl | exact lit8 _ rfl) rfl (by first | rfl | exact lit8 _ rfl)) rfl (Z18 6 rfl (by kernel_rfl) rfl (Z3 rfl) rfl ?_)))
       by_cases h86 : x83 = 0#8
       ·replace hq61 := if_t hq61 h86
        refine UW.slot (.bool true) (congrArg Value.bool (decide_eq_true h86)) (UW.skip 7 rfl (by kernel_rfl) rfl rfl (UW.skip 8 rfl (by kernel_rfl) rfl rfl (UW.skip 9 rfl (by kernel_rfl) rfl rfl (UW.skip 10 rfl (by kernel_rfl) rfl rfl (Z18 11 rfl (by kernel_rfl) rfl (Z108 rfl rfl rfl) rfl (UW.nil (by kernel_rfl) (Z6 ?_)))))))
        exact QW.join ⟨true, (Zi hq61).symm, rfl, rfl⟩ ⟨rfl, rfl, rfl, rfl, rfl, rfl, rfl, trivial⟩ (fun w m => m.pick [0, 1, 2] 3 rfl rfl)
       ·replace hq61 := if_f hq61 h86
        refine UW.slot (.bool false) (congrArg Value.bool (decide_eq_false h86)) (Z18 7 rfl (by kernel_rfl) rfl (Z22 rfl Zh rfl rfl rfl rfl ((Z101 _).trans Zv)) rfl ?_)
        obtain ⟨x88, hx87, hq61⟩ := Z100 hq61
        refine Z25 8 rfl (by kernel_rfl) rfl Tryd.call117 rfl (fun N' hN' => waybillref01_From_does w0 (More w0 Φ []) N' (fun w m => Z105 hΦ 3 (hN' w m) rfl) (56#64) x88 hx87) rfl ?_
        rintro _ G89 rfl
        refine UW.mem (M' := ((some b59, blk (u64s x54.toList) 128) :: (some b11, blk [.bool (decide (192 ≤ x5.toNat)), .int .i64 (((a1 + 1) : Nat) : Int), .int .i64 (0 : Int)] 176) :: (some b2, blk [.bool false, .int .i64 (0 : Int), .int .i64 (0 : Int)] 176) :: ([] ++ N))) (fun w m => m.appR) ?_
        obtain ⟨x92, hx91, hq61⟩ := Z100 hq61
        refine Z25 9 rfl (by kernel_rfl) rfl Tryd.call138 rfl (fun N' hN' => waybillref01_Cmp_does w0 (More w0 Φ []) N' (fun w m => Z105 hΦ 3 (hN' w m) rfl) x54 x88 x92 hx91) rfl ?_
        rintro _ G94 ⟨b93, rfl⟩
        refine UW.mem (M' := ((some b59, blk (u64s x54.toList) 128) :: (some b11, blk [.bool (decide (192 ≤ x5.toNat)), .int .i64 (((a1 + 1) : Nat) : Int), .int .i64 (0 : Int)] 176) :: (some b2, blk [.bool false, .int .i64 (0 : Int), .int .i64 (0 : Int)] 176) :: ([] ++ N))) (fun w m => m.appR) (Z18 10 rfl (by kernel_rfl) rfl (RV.lss rfl rfl) rfl (Z18 11 rfl (by kernel_rfl) rfl (Z106 rfl rfl rfl) rfl (UW.nil (by kernel_rfl) (Z6 ?_))))
        exact QW.join ⟨(decide (x92 < (0 : Int))), (Zi hq61).symm, rfl, rfl⟩ ⟨rfl, rfl, rfl, rfl, rfl, rfl, rfl, trivial⟩ (fun w m => m.pick [0, 1, 2] 3 rfl rfl)
    ·replace hq13 := if_f hq13 h45
     refine Z14 rfl (decide_eq_false h45) (CW.skip ?_)
     exact QW.join ⟨(x5.toNat % 64), (decide (192 ≤ x5.toNat)), (a1 + 1), 0, (Zi hq13).symm, (by omega), (by omega), (by omega), rfl, rfl⟩ ⟨rfl, rfl, rfl, rfl, rfl, trivial⟩ (fun w m => m.pick [0, 1] 2 rfl rfl)
end Go.Fw.Tryd

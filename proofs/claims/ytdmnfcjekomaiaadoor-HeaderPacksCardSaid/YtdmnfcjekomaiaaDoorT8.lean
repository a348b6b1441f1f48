/- Part of a proof: rules that its law uses. -/
import Derived.Test.YtdmnfcjekomaiaaDoorT7
set_option linter.unusedVariables false
set_option linter.unusedSimpArgs false
set_option linter.unusedSectionVars false
set_option maxRecDepth 100000
set_option maxHeartbeats 1000000
namespace Go.Fw
open Go Go.RowKit Go.Deep Go.WideShapes
section
variable {H : Type} {enc : TypeId × Value → H} {P : Program} {W : World}
structure HdrTypes (P : Program) (tR tN tH tA tM tE tQ tU tS t8 : TypeId) where
 fs : Array Field
 f0 : Field
 f1 : Field
 f2 : Field
 f3 : Field
 f4 : Field
 f5 : Field
 f6 : Field
 f7 : Field
 f8 : Field
 f9 : Field
 f10 : Field
 f11 : Field
 f12 : Field
 f13 : Field
 f14 : Field
 f15 : Field
 f16 : Field
 f17 : Field
 f18 : Field
 f19 : Field
 f20 : Field
 f21 : Field
 hR : P.underlying tR = some (.struct fs)
 h0 : fs[0]? = some f0
 o0 : f0.offset = 0
 y0 : f0.type = tH
 h1 : fs[1]? = some f1
 o1 : f1.offset = 32
 y1 : f1.type = tH
 h2 : fs[2]? = some f2
 o2 : f2.offset = 64
 y2 : f2.type = tA
 h3 : fs[3]? = some f3
 o3 : f3.offset = 84
 y3 : f3.type = tH
 h4 : fs[4]? = some f4
 o4 : f4.offset = 116
 y4 : f4.type = tH
 h5 : fs[5]? = some f5
 o5 : f5.offset = 148
 y5 : f5.type = tH
 h6 : fs[6]? = some f6
 o6 : f6.offset = 180
 y6 : f6.type = tM
 h7 : fs[7]? = some f7
 o7 : f7.offset = 436
 y7 : f7.type = tQ
 h8 : fs[8]? = some f8
 o8 : f8.offset = 440
 y8 : f8.type = tU
 h9 : fs[9]? = some f9
 o9 : f9.offset = 441
 y9 : f9.type = tU
 h10 : fs[10]? = some f10
 o10 : f10.offset = 442
 y10 : f10.type = tU
 h11 : fs[11]? = some f11
 o11 : f11.offset = 443
 y11 : f11.type = tU
 h12 : fs[12]? = some f12
 o12 : f12.offset = 444
 y12 : f12.type = tS
 h13 : fs[13]? = some f13
 o13 : f13.offset = 445
 y13 : f13.type = tH
 h14 : fs[14]? = some f14
 o14 : f14.offset = 477
 y14 : f14.type = tE
 h15 : fs[15]? = some f15
 o15 : f15.offset = 485
 y15 : f15.type = tN
 h16 : fs[16]? = some f16
 o16 : f16.offset = 486
 y16 : f16.type = tQ
 h17 : fs[17]? = some f17
 o17 : f17.offset = 490
 y17 : f17.type = tH
 h18 : fs[18]? = some f18
 o18 : f18.offset = 522
 y18 : f18.type = tU
 h19 : fs[19]? = some f19
 o19 : f19.offset = 523
 y19 : f19.type = tU
 h20 : fs[20]? = some f20
 o20 : f20.offset = 524
 y20 : f20.type = tH
 h21 : fs[21]? = some f21
 o21 : f21.offset = 556
 y21 : f21.type = tH
 uN : P.underlying tN = some (.int .i64)
 uH : P.underlying tH = some (.array 32 t8)
 uA : P.underlying tA = some (.array 20 t8)
 uM : P.underlying tM = some (.array 256 t8)
 uE : P.underlying tE = some (.array 8 t8)
 uQ : P.underlying tQ = some (.array 4 tU)
 uU : P.underlying tU = some (.int .u64)
 uS : P.underlying tS = some (.slice t8)
 u8 : P.underlying t8 = some (.int .u8)
 cN : P.cellsOf tN = 1
 cH : P.cellsOf tH = 32
 cA : P.cellsOf tA = 20
 cM : P.cellsOf tM = 256
 cE : P.cellsOf tE = 8
 cQ : P.cellsOf tQ = 4
 cU : P.cellsOf tU = 1
 cS : P.cellsOf tS = 1
 c8 : P.cellsOf t8 = 1
 b8 : P.bytesOf t8 = 1
 cR : P.cellsOf tR = 588
theorem Z128 (cs : List Value) (o n : Nat) : cs.drop o = (cs.drop o).take n ++ cs.drop (o + n) := by
 rw [← List.drop_drop, List.take_append_drop]
theorem reads_hdr {tR tN tH tA tM tE tQ tU tS t8 : TypeId} (R : HdrTypes P tR tN tH tA tM tE tQ tU tS t8) {fuel : Nat} {cs : List Value} {d : DataW H} {ps : List MemPlace} (hl : cs.length = 588) (hr : reads enc P W fuel tR cs = some (d, ps)) (hz : Fits P tR d) :
    ∃ x : Hdr, HdrRd (fun w => Mem W w []) cs x ∧ x.extra.length ≤ 140737488351232 ∧ ∃ ds dl el sp, d = .agg ds ∧ dl ∈ ds ∧ Els dl el sp ∧ el.length = x.extra.length := by
 obtain ⟨xs, m, hn, hx, hcl, hxl, hf⟩ := DataW.trod_struct R.hR hr
 have g0 := hf 0 R.f0 R.h0
 rw [R.o0, R.y0, R.cH] at g0
 have hs0 : 0 < R.fs.size := (Array.getElem?_eq_some_iff.1 R.h0).1
 obtain ⟨x0, e0⟩ : ∃ x, xs[0]? = some x := ⟨_, List.getElem?_eq_getElem (by omega)⟩
 rw [e0] at g0
 have g1 := hf 1 R.f1 R.h1
 rw [R.o1, R.y1, R.cH] at g1
 have hs1 : 1 < R.fs.size := (Array.getElem?_eq_some_iff.1 R.h1).1
 obtain ⟨x1, e1⟩ : ∃ x, xs[1]? = some x := ⟨_, List.getElem?_eq_getElem (by omega)⟩
 rw [e1] at g1
 have g2 := hf 2 R.f2 R.h2
 rw [R.o2, R.y2, R.cA] at g2
 have hs2 : 2 < R.fs.size := (Array.getElem?_eq_some_iff.1 R.h2).1
 obtain ⟨x2, e2⟩ : ∃ x, xs[2]? = some x := ⟨_, List.getElem?_eq_getElem (by omega)⟩
 rw [e2] at g2
 have g3 := hf 3 R.f3 R.h3
 rw [R.o3, R.y3, R.cH] at g3
 have hs3 : 3 < R.fs.size := (Array.getElem?_eq_some_iff.1 R.h3).1
 obtain ⟨x3, e3⟩ : ∃ x, xs[3]? = some x := ⟨_, List.getElem?_eq_getElem (by omega)⟩
 rw [e3] at g3
 have g4 := hf 4 R.f4 R.h4
 rw [R.o4, R.y4, R.cH] at g4
 have hs4 : 4 < R.fs.size := (Array.getElem?_eq_some_iff.1 R.h4).1
 obtain ⟨x4, e4⟩ : ∃ x, xs[4]? = some x := ⟨_, List.getElem?_eq_getElem (by omega)⟩
 rw [e4] at g4
 have g5 := hf 5 R.f5 R.h5
 rw [R.o5, R.y5, R.cH] at g5
 have hs5 : 5 < R.fs.size := (Array.getElem?_eq_some_iff.1 R.h5).1
 obtain ⟨x5, e5⟩ : ∃ x, xs[5]? = some x := ⟨_, List.getElem?_eq_getElem (by omega)⟩
 rw [e5] at g5
 have g6 := hf 6 R.f6 R.h6
 rw [R.o6, R.y6, R.cM] at g6
 have hs6 : 6 < R.fs.size := (Array.getElem?_eq_some_iff.1 R.h6).1
 obtain ⟨x6, e6⟩ : ∃ x, xs[6]? = some x := ⟨_, List.getElem?_eq_getElem (by omega)⟩
 rw [e6] at g6
 have g7 := hf 7 R.f7 R.h7
 rw [R.o7, R.y7, R.cQ] at g7
 have hs7 : 7 < R.fs.size := (Array.getElem?_eq_some_iff.1 R.h7).1
 obtain ⟨x7, e7⟩ : ∃ x, xs[7]? = some x := ⟨_, List.getElem?_eq_getElem (by omega)⟩
 rw [e7] at g7
 have g8 := hf 8 R.f8 R.h8
 rw [R.o8, R.y8, R.cU] at g8
 have hs8 : 8 < R.fs.size := (Array.getElem?_eq_some_iff.1 R.h8).1
 obtain ⟨x8, e8⟩ : ∃ x, xs[8]? = some x := ⟨_, List.getElem?_eq_getElem (by omega)⟩
 rw [e8] at g8
 have g9 := hf 9 R.f9 R.h9
 rw [R.o9, R.y9, R.cU] at g9
 have hs9 : 9 < R.fs.size := (Array.getElem?_eq_some_iff.1 R.h9).1
 obtain ⟨x9, e9⟩ : ∃ x, xs[9]? = some x := ⟨_, List.getElem?_eq_getElem (by omega)⟩
 rw [e9] at g9
 have g10 := hf 10 R.f10 R.h10
 rw [R.o10, R.y10, R.cU] at g10
 have hs10 : 10 < R.fs.size := (Array.getElem?_eq_some_iff.1 R.h10).1
 obtain ⟨x10, e10⟩ : ∃ x, xs[10]? = some x := ⟨_, List.getElem?_eq_getElem (by omega)⟩
 rw [e10] at g10
 have g11 := hf 11 R.f11 R.h11
 rw [R.o11, R.y11, R.cU] at g11
 have hs11 : 11 < R.fs.size := (Array.getElem?_eq_some_iff.1 R.h11).1
 obtain ⟨x11, e11⟩ : ∃ x, xs[11]? = some x := ⟨_, List.getElem?_eq_getElem (by omega)⟩
 rw [e11] at g11
 have g12 := hf 12 R.f12 R.h12
 rw [R.o12, R.y12, R.cS] at g12
 have hs12 : 12 < R.fs.size := (Array.getElem?_eq_some_iff.1 R.h12).1
 obtain ⟨x12, e12⟩ : ∃ x, xs[12]? = some x := ⟨_, List.getElem?_eq_getElem (by omega)⟩
 rw [e12] at g12
 have g13 := hf 13 R.f13 R.h13
 rw [R.o13, R.y13, R.cH] at g13
 have hs13 : 13 < R.fs.size := (Array.getElem?_eq_some_iff.1 R.h13).1
 obtain ⟨x13, e13⟩ : ∃ x, xs[13]? = some x := ⟨_, List.getElem?_eq_getElem (by omega)⟩
 rw [e13] at g13
 have g14 := hf 14 R.f14 R.h14
 rw [R.o14, R.y14, R.cE] at g14
 have hs14 : 14 < R.fs.size := (Array.getElem?_eq_some_iff.1 R.h14).1
 obtain ⟨x14, e14⟩ : ∃ x, xs[14]? = some x := ⟨_, List.getElem?_eq_getElem (by omega)⟩
 rw [e14] at g14
 have g15 := hf 15 R.f15 R.h15
 rw [R.o15, R.y15, R.cN] at g15
 have hs15 : 15 < R.fs.size := (Array.getElem?_eq_some_iff.1 R.h15).1
 obtain ⟨x15, e15⟩ : ∃ x, xs[15]? = some x := ⟨_, List.getElem?_eq_getElem (by omega)⟩
 rw [e15] at g15
 have g16 := hf 16 R.f16 R.h16
 rw [R.o16, R.y16, R.cQ] at g16
 have hs16 : 16 < R.fs.size := (Array.getElem?_eq_some_iff.1 R.h16).1
 obtain ⟨x16, e16⟩ : ∃ x, xs[16]? = some x := ⟨_, List.getElem?_eq_getElem (by omega)⟩
 rw [e16] at g16
 have g17 := hf 17 R.f17 R.h17
 rw [R.o17, R.y17, R.cH] at g17
 have hs17 : 17 < R.fs.size := (Array.getElem?_eq_some_iff.1 R.h17).1
 obtain ⟨x17, e17⟩ : ∃ x, xs[17]? = some x := ⟨_, List.getElem?_eq_getElem (by omega)⟩
 rw [e17] at g17
 have g18 := hf 18 R.f18 R.h18
 rw [R.o18, R.y18, R.cU] at g18
 have hs18 : 18 < R.fs.size := (Array.getElem?_eq_some_iff.1 R.h18).1
 obtain ⟨x18, e18⟩ : ∃ x, xs[18]? = some x := ⟨_, List.getElem?_eq_getElem (by omega)⟩
 rw [e18] at g18
 have g19 := hf 19 R.f19 R.h19
 rw [R.o19, R.y19, R.cU] at g19
 have hs19 : 19 < R.fs.size := (Array.getElem?_eq_some_iff.1 R.h19).1
 obtain ⟨x19, e19⟩ : ∃ x, xs[19]? = some x := ⟨_, List.getElem?_eq_getElem (by omega)⟩
 rw [e19] at g19
 have g20 := hf 20 R.f20 R.h20
 rw [R.o20, R.y20, R.cH] at g20
 have hs20 : 20 < R.fs.size := (Array.getElem?_eq_some_iff.1 R.h20).1
 obtain ⟨x20, e20⟩ : ∃ x, xs[20]? = some x := ⟨_, List.getElem?_eq_getElem (by omega)⟩
 rw [e20] at g20
 have g21 := hf 21 R.f21 R.h21
 rw [R.o21, R.y21, R.cH] at g21
 have hs21 : 21 < R.fs.size := (Array.getElem?_eq_some_iff.1 R.h21).1
 obtain ⟨x21, e21⟩ : ∃ x, xs[21]? = some x := ⟨_, List.getElem?_eq_getElem (by omega)⟩
 rw [e21] at g21
 have hd2 : d = .agg (xs.map (·.1)) := congrArg Prod.fst hx
 subst hd2
 have hz12 : Fits P tS x12.1 := by have := Fits.struct R.hR hz R.h12 (d := x12.1) (by simp [e12]); rwa [R.y12] at this
 obtain ⟨l0, a0, q0⟩ := Z151 R.uH R.u8 R.c8 R.cH g0
 obtain ⟨v0, rfl⟩ : ∃ v : Vector (BitVec 8) 32, l0 = v.toList := ⟨⟨l0.toArray, by simpa using q0⟩, rfl⟩
 obtain ⟨l1, a1, q1⟩ := Z151 R.uH R.u8 R.c8 R.cH g1
 obtain ⟨v1, rfl⟩ : ∃ v : Vector (BitVec 8) 32, l1 = v.toList := ⟨⟨l1.toArray, by simpa using q1⟩, rfl⟩
 obtain ⟨l2, a2, q2⟩ := Z151 R.uA R.u8 R.c8 R.cA g2
 obtain ⟨v2, rfl⟩ : ∃ v : Vector (BitVec 8) 20, l2 = v.toList := ⟨⟨l2.toArray, by simpa using q2⟩, rfl⟩
 obtain ⟨l3, a3, q3⟩ := Z151 R.uH R.u8 R.c8 R.cH g3
 obtain ⟨v3, rfl⟩ : ∃ v : Vector (BitVec 8) 32, l3 = v.toList := ⟨⟨l3.toArray, by simpa using q3⟩, rfl⟩
 obtain ⟨l4, a4, q4⟩ := Z151 R.uH R.u8 R.c8 R.cH g4
 obtain ⟨v4, rfl⟩ : ∃ v : Vector (BitVec 8) 32, l4 = v.toList := ⟨⟨l4.toArray, by simpa using q4⟩, rfl⟩
 obtain ⟨l5, a5, q5⟩ := Z151 R.uH R.u8 R.c8 R.cH g5
 obtain ⟨v5, rfl⟩ : ∃ v : Vector (BitVec 8) 32, l5 = v.toList := ⟨⟨l5.toArray, by simpa using q5⟩, rfl⟩
 obtain ⟨l6, a6, q6⟩ := Z151 R.uM R.u8 R.c8 R.cM g6
 obtain ⟨v6, rfl⟩ : ∃ v : Vector (BitVec 8) 256, l6 = v.toList := ⟨⟨l6.toArray, by simpa using q6⟩, rfl⟩
 obtain ⟨l7, a7, q7⟩ := reads_arr64 R.uQ R.uU R.cU R.cQ g7
 obtain ⟨v7, rfl⟩ : ∃ v : Vector (BitVec 64) 4, l7 = v.toList := ⟨⟨l7.toArray, by simpa using q7⟩, rfl⟩
 obtain ⟨v8, a8⟩ := reads_u64 R.uU g8
 obtain ⟨v9, a9⟩ := reads_u64 R.uU g9
 obtain ⟨v10, a10⟩ := reads_u64 R.uU g10
 obtain ⟨v11, a11⟩ := reads_u64 R.uU g11
 obtain ⟨u12, a12⟩ : ∃ u, (cs.drop 444).take 1 = [u] := List.length_eq_one_iff.1 (by rw [List.length_take, List.length_drop]; omega)
 rw [a12] at g12
 obtain ⟨A, cap, v12, rfl, hv12, hm12, el, sp, hel, hlen⟩ := reads_bs R.uS R.u8 R.c8 R.b8 g12 hz12
 obtain ⟨l13, a13, q13⟩ := Z151 R.uH R.u8 R.c8 R.cH g13
 obtain ⟨v13, rfl⟩ : ∃ v : Vector (BitVec 8) 32, l13 = v.toList := ⟨⟨l13.toArray, by simpa using q13⟩, rfl⟩
 obtain ⟨l14, a14, q14⟩ := Z151 R.uE R.u8 R.c8 R.cE g14
 obtain ⟨v14, rfl⟩ : ∃ v : Vector (BitVec 8) 8, l14 = v.toList := ⟨⟨l14.toArray, by simpa using q14⟩, rfl⟩
 obtain ⟨v15, a15, w15⟩ := reads_int R.uN g15
 obtain ⟨l16, a16, q16⟩ := reads_arr64 R.uQ R.uU R.cU R.cQ g16
 obtain ⟨v16, rfl⟩ : ∃ v : Vector (BitVec 64) 4, l16 = v.toList := ⟨⟨l16.toArray, by simpa using q16⟩, rfl⟩
 obtain ⟨l17, a17, q17⟩ := Z151 R.uH R.u8 R.c8 R.cH g17
 obtain ⟨v17, rfl⟩ : ∃ v : Vector (BitVec 8) 32, l17 = v.toList := ⟨⟨l17.toArray, by simpa using q17⟩, rfl⟩
 obtain ⟨v18, a18⟩ := reads_u64 R.uU g18
 obtain ⟨v19, a19⟩ := reads_u64 R.uU g19
 obtain ⟨l20, a20, q20⟩ := Z151 R.uH R.u8 R.c8 R.cH g20
 obtain ⟨v20, rfl⟩ : ∃ v : Vector (BitVec 8) 32, l20 = v.toList := ⟨⟨l20.toArray, by simpa using q20⟩, rfl⟩
 obtain ⟨l21, a21, q21⟩ := Z151 R.uH R.u8 R.c8 R.cH g21
 obtain ⟨v21, rfl⟩ : ∃ v : Vector (BitVec 8) 32, l21 = v.toList := ⟨⟨l21.toArray, by simpa using q21⟩, rfl⟩
 have hb : -9223372036854775808 ≤ v15 ∧ v15 ≤ 9223372036854775807 := wf_i64_in w15
 refine ⟨⟨v0, v1, v2, v3, v4, v5, v6, v7, v8, v9, v10, v11, v12, v13, v14, v15, v16, v17, v18, v19, v20, v21⟩, ?_, hm12, _, x12.1, el, sp, rfl, List.mem_map.2 ⟨x12, List.mem_of_getElem? e12, rfl⟩, hel, hlen⟩
 refine ⟨A, cap, ?_, hv12, hb⟩
 have h0 : cs = cs.drop 0 := rfl
 have h7 : cs.drop 588 = [] := List.drop_of_length_le (by omega)
 rw [h0, Z128 cs 0 32, Z128 cs 32 32, Z128 cs 64 20, Z128 cs 84 32, Z128 cs 116 32, Z128 cs 148 32, Z128 cs 180 256, Z128 cs 436 4, Z128 cs 440 1, Z128 cs 441 1, Z128 cs 442 1, Z128 cs 443 1, Z128 cs 444 1, Z128 cs 445 32, Z128 cs 477 8, Z128 cs 485 1, Z128 cs 486 4, Z128 cs 490 32, Z128 cs 522 1, Z128 cs 523 1, Z128 cs 524 32, Z128 cs 556 32, a0, a1, a2, a3, a4, a5, a6, a7, a8, a9, a10, a11, a12, a13, a14, a15, a16, a17, a18, a19, a20, a21, h7, List.append_nil]
 rfl
theorem arg_hdr {tR tN tH tA tM tE tQ tU tS t8 : TypeId} (R : HdrTypes P tR tN tH tA tM tE tQ tU tS t8) {b0 : Nat} {v : Value} (hval : Value.okWide P W .any b0 tR v) {d : DataW H} {ps : List MemPlace} (h : DataW.Trod enc P W 0 (fun _ => true) true tR v d ps) (hz : Fits P tR d) :
    ∃ (cs : List Value) (x : Hdr), v = .agg cs.toArray ∧ HdrRd (fun w => Mem W w []) cs x ∧ x.extra.length ≤ 140737488351232 := by
 obtain ⟨xs0, rfl⟩ := okWide_st R.hR hval
 obtain ⟨fuel, hf⟩ := h
 have hr : reads enc P W fuel tR xs0.toList = some (d, ps) := by simpa [Value.cells] using hf
 obtain ⟨xs, m, hn, hx, hcl, hxl, hf2⟩ := DataW.trod_struct R.hR hr
 rw [R.cR] at hcl
 obtain ⟨x, h1, h2, _⟩ := reads_hdr R hcl hr hz
 exact ⟨xs0.toList, x, rfl, h1, h2⟩
end
end Go.Fw

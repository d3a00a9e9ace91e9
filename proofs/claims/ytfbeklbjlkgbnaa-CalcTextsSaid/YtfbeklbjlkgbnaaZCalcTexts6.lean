/- Laid by a program of this session out of its texts for the law CalcTexts, part 6. -/
import Derived.Test.YtfbeklbjlkgbnaaZCalcTexts5
section
namespace Go.Proofs.Ytfbeklbjlkgbnaa.P
open Go.RowKit Go.Proofs.YtfbeklbjlkgbnaaW.PrintWords Go.Proofs.YtfbeklbjlkgbnaaW.PrintLast Go.Proofs.YtfbeklbjlkgbnaaW.PrintMore
attribute [local go_sem] max2_int min2_int max_two min_two max_three min_three max_four min_four
set_option linter.unusedVariables false
set_option linter.unusedSimpArgs false
attribute [local go_sem high] eqA25
def headR : Code → Option Nat
 | .region n _ _ => some n
 | .seq a _ => headR a
 | _ => none
def fromR (k : Nat) : Code → Option Code
 | .seq a b => if headR a = some k then some (.seq a b) else fromR k b
 | _ => none
def seqL : Code → Code | .seq a _ => a | c => c
def seqR : Code → Code | .seq _ b => b | c => c
noncomputable def quarrylaw02_CalcTexts.partB.code : Code := seqL ((Try.f7.body.bind (fromR 8)).getD .skip)
noncomputable def quarrylaw02_CalcTexts.partB.rest : Code := seqR ((Try.f7.body.bind (fromR 8)).getD .skip)
set_option maxHeartbeats 8000000 in
set_option maxRecDepth 100000 in
theorem quarrylaw02_CalcTexts.partB (a0 a1 : ByteArray) (w : World) (hu25 :  Try.prog.underlying 25 = some (TypeDesc.struct #[{ name := "Kind", type := 3, offset := 0, embedded := false, tag := "", pkgPath := "", byteOffset := 0 }, { name := "Int", type := 2, offset := 1, embedded := false, tag := "", pkgPath := "", byteOffset := 8 }, { name := "Text", type := 9, offset := 2, embedded := false, tag := "", pkgPath := "", byteOffset := 16 }])) (A3 : Aside0 (quarrylaw02_works.f = some true)) (t342 t343 : Int) (t344 : ByteArray) (A5 : Aside0 (quarrylaw02_text.f a0 = some (t342, t343, t344))) (t345 t346 : Int) (t347 : ByteArray) (A6 : Aside0 (quarrylaw02_text.f a1 = some (t345, t346, t347))) (t348 t349 : Int) (t350 : ByteArray) (t351 : Int) (A7 : Aside0 (calc_Binary.f 16 t342 t343 t344 t345 t346 t347 = some (t348, t349, t350, t351))) (c8b0 : (t351 == 0) = true) (c8b1 : (t351 != 0) = false) (y353 : List S25) (Ny353 : Aside0 (y353 = [{ f0 := t348, f1 := t349, f2 := t350 }])) (t356 t357 : Int) (t358 : ByteArray) (t359 : Int) (A9 : Aside0 (calc_Call.f 1 y353 = some (t356, t357, t358, t359))) (t361 t362 : Int) (t363 : ByteArray) (A10 : Aside0 (quarrylaw02_num.f 1 = some (t361, t362, t363))) (t364 t365 : Int) (t366 : ByteArray) (A11 : Aside0 (quarrylaw02_num.f ↑a0.size = some (t364, t365, t366))) (y367 : List S25) (Ny367 :  Aside0 (y367 = [{ f0 := t348, f1 := t349, f2 := t350 }, { f0 := t361, f1 := t362, f2 := t363 }, { f0 := t364, f1 := t365, f2 := t366 }])) (t370 t371 : Int) (t372 : ByteArray) (t373 : Int) (A12 : Aside0 (calc_Call.f 5 y367 = some (t370, t371, t372, t373))) (t375 t376 : Int) (t377 : ByteArray) (A13 : Aside0 (quarrylaw02_num.f (wrap64 (↑a0.size + 1)) = some (t375, t376, t377))) (t378 t379 : Int) (t380 : ByteArray) (A14 : Aside0 (quarrylaw02_num.f 1099511627776 = some (t378, t379, t380))) (y381 : List S25) (Ny381 :  Aside0 (y381 = [{ f0 := t348, f1 := t349, f2 := t350 }, { f0 := t375, f1 := t376, f2 := t377 }, { f0 := t378, f1 := t379, f2 := t380 }])) (t384 t385 : Int) (t386 : ByteArray) (t387 : Int) (A15 : Aside0 (calc_Call.f 5 y381 = some (t384, t385, t386, t387))) (t389 t390 : Int) (t391 : ByteArray) (A16 : Aside0 (quarrylaw02_text.f a0 = some (t389, t390, t391))) (y392 : List S25) (Ny392 : Aside0 (y392 = [{ f0 := t389, f1 := t390, f2 := t391 }])) (t395 t396 : Int) (t397 : ByteArray) (t398 : Int) (A17 : Aside0 (calc_Call.f 3 y392 = some (t395, t396, t397, t398))) (t400 t401 : Int) (t402 : ByteArray) (A18 : Aside0 (quarrylaw02_text.f a0 = some (t400, t401, t402))) (y403 : List S25) (Ny403 : Aside0 (y403 = [{ f0 := t400, f1 := t401, f2 := t402 }])) (t406 t407 : Int) (t408 : ByteArray) (t409 : Int) (A19 : Aside0 (calc_Call.f 4 y403 = some (t406, t407, t408, t409))) (y411 : List S25) (Ny411 : Aside0 (y411 = [{ f0 := t406, f1 := t407, f2 := t408 }])) (t414 t415 : Int) (t416 : ByteArray) (t417 : Int) (A20 : Aside0 (calc_Call.f 3 y411 = some (t414, t415, t416, t417))) (c21b0 : (t359 == 0) = true) (c21b1 : (t359 != 0) = false) (c22b0 : (t373 == 0) = true) (c22b1 : (t373 != 0) = false) (c23b0 : (t387 == 0) = true) (c23b1 : (t387 != 0) = false) (c24b0 : (t398 == 0) = true) (c24b1 : (t398 != 0) = false) (c25b0 : (t409 == 0) = true) (c25b1 : (t409 != 0) = false) (c26b0 : (t417 == 0) = true) (c26b1 : (t417 != 0) = false) (t419 t420 : Int) (t421 : ByteArray) (A27 : Aside0 (quarrylaw02_num.f (wrap64 (↑a0.size + ↑a1.size)) = some (t419, t420, t421))) (c28b0 : (t356 == t419 && (t357 == t420 && t358.toList == t421.toList)) = true) (c28b1 : decide ((decide (t356 = t419) && (t357 == t420 && t358.toList == t421.toList)) = true) = true) (c28b2 : (t356 == t419 && (t357 == t420 && t358.toList == t421.toList)) = true) (t422 t423 : Int) (t424 : ByteArray) (A29 : Aside0 (quarrylaw02_text.f a0 = some (t422, t423, t424))) (c30b0 : (t370 == t422 && (t371 == t423 && t372.toList == t424.toList)) = true) (c30b1 : decide ((decide (t370 = t422) && (t371 == t423 && t372.toList == t424.toList)) = true) = true) (c30b2 : (t370 == t422 && (t371 == t423 && t372.toList == t424.toList)) = true) (t425 t426 : Int) (t427 : ByteArray) (A31 : Aside0 (quarrylaw02_text.f a1 = some (t425, t426, t427))) (c32b0 : (t384 == t425 && (t385 == t426 && t386.toList == t427.toList)) = true) (c32b1 : decide ((decide (t384 = t425) && (t385 == t426 && t386.toList == t427.toList)) = true) = true) (c32b2 : (t384 == t425 && (t385 == t426 && t386.toList == t427.toList)) = true) (gb352 : Nat) (w37 : World) (GW352 GE352 : Aside0 (w.heap.size ≤ gb352)) (hcz38_0 : w37.cell? { block := gb352, off := 0 } = some (Value.int IntKind.i64 0)) (hcz38_1 : w37.cell? { block := gb352, off := 1 } = some (Value.int IntKind.i64 0)) (hcz38_2 : w37.cell? { block := gb352, off := 2 } = some (Value.string { data := #[] })) (hfz38_0 : w37.frozen? { block := gb352, off := 0 } = false) (hfz38_1 : w37.frozen? { block := gb352, off := 1 } = false) (hfz38_2 : w37.frozen? { block := gb352, off := 2 } = false) (Ao41 : Option Addr) (co41 : Nat) (gb360 : Nat) (w43 : World) (GW360 GE360 : Aside0 (w.heap.size ≤ gb360)) (NB352_360 : Aside0 (gb352 ≠ gb360)) (NB360_352 : Aside0 (gb360 ≠ gb352)) (hnb44 : gb360 ≠ gb352) (hnc44 : gb352 ≠ gb360) (hcz45_0 : w43.cell? { block := gb360, off := 0 } = some (Value.int IntKind.i64 0)) (hcz45_1 : w43.cell? { block := gb360, off := 1 } = some (Value.int IntKind.i64 0)) (hcz45_2 : w43.cell? { block := gb360, off := 2 } = some (Value.string { data := #[] })) (hfz45_0 : w43.frozen? { block := gb360, off := 0 } = false) (hfz45_1 : w43.frozen? { block := gb360, off := 1 } = false) (hfz45_2 : w43.frozen? { block := gb360, off := 2 } = false) (H : True) (HT_ :  Aside0 (rtab Region.Mode.any #[{ dst := some 53, op := Op.load 25 (Operand.tmp 5), type := 25, pos := "more.go:45", after := #[], guard := none }, { dst := some 54, op := Op.call { callee := Callee.value (Operand.func 24), args := #[Operand.const (Value.int IntKind.i64 1)], argTypes := #[2] }, type := 25, pos := "more.go:45", after := #[], guard := none }, { dst := some 55, op := Op.move (Operand.tmp 0), type := 9, pos := "more.go:45", after := #[], guard := none }, { dst := some 56, op := Op.call { callee := Callee.builtin Builtin.len, args := #[Operand.tmp 55], argTypes := #[9] }, type := 3, pos := "more.go:45", after := #[{ on := 2, ground := Ground.data }], guard := none }, { dst := some 57, op := Op.call { callee := Callee.value (Operand.func 24), args := #[Operand.tmp 56], argTypes := #[2] }, type := 25, pos := "more.go:45", after := #[{ on := 3, ground := Ground.data }, { on := 1, ground := Ground.chain }], guard := none }, { dst := some 58, op := Op.buildSlice 22 3 #[(0, Operand.tmp 53), (1, Operand.tmp 54), (2, Operand.tmp 57)], type := 22, pos := "more.go:45", after := #[{ on := 0, ground := Ground.data }, { on := 1, ground := Ground.data }, { on := 4, ground := Ground.data }], guard := none }, { dst := some 59, op := Op.call { callee := Callee.value (Operand.func 12), args := #[Operand.const (Value.int IntKind.i64 5), Operand.tmp 58], argTypes := #[3, 22] }, type := 27, pos := "more.go:45", after := #[{ on := 5, ground := Ground.data }, { on := 4, ground := Ground.chain }], guard := none }, { dst := some 52, op := Op.move (Operand.tmp 59), type := 27, pos := "more.go:45", after := #[{ on := 6, ground := Ground.data }], guard := none }, { dst := some 60, op := Op.extract (Operand.tmp 52) 0, type := 25, pos := "more.go:45", after := #[{ on := 7, ground := Ground.data }], guard := none }, { dst := some 61, op := Op.extract (Operand.tmp 52) 1, type := 26, pos := "more.go:45", after := #[{ on := 7, ground := Ground.data }, { on := 11, ground := Ground.gcOnly Departure.lateStores }], guard := none }, { dst := some 9, op := Op.alloc 25, type := 0, pos := "more.go:45", after := #[], guard := none }, { dst := none, op := Op.store 25 (Operand.tmp 9) (Operand.tmp 60), type := 0, pos := "more.go:45", after := #[{ on := 10, ground := Ground.data }, { on := 8, ground := Ground.data }, { on := 6, ground := Ground.chain }, { on := 0, ground := Ground.phase }, { on := 1, ground := Ground.phase }, { on := 2, ground := Ground.phase }, { on := 3, ground := Ground.phase }, { on := 4, ground := Ground.phase }, { on := 5, ground := Ground.phase }, { on := 6, ground := Ground.phase }, { on := 7, ground := Ground.phase }, { on := 8, ground := Ground.phase }, { on := 9, ground := Ground.textOnly Departure.lateStores }, { on := 10, ground := Ground.phase }], guard := none }, { dst := some 10, op := Op.assign (Operand.tmp 61), type := 26, pos := "more.go:45", after := #[{ on := 9, ground := Ground.data }, { on := 11, ground := Ground.chain }, { on := 0, ground := Ground.phase }, { on := 1, ground := Ground.phase }, { on := 2, ground := Ground.phase }, { on := 3, ground := Ground.phase }, { on := 4, ground := Ground.phase }, { on := 5, ground := Ground.phase }, { on := 6, ground := Ground.phase }, { on := 7, ground := Ground.phase }, { on := 8, ground := Ground.phase }, { on := 9, ground := Ground.phase }, { on := 10, ground := Ground.phase }, { on := 11, ground := Ground.phase }], guard := none }] = T7)) (HW_ : Aside0 (waitsOk T7.snd B7 = true)) (v368 : Value) (gb374 : Nat) (w55 : World) (hS_ :  w55.cell? { block := gb352, off := 0 } = some (Value.int IntKind.i64 t348) ∧ w55.cell? { block := gb352, off := 1 } = some (Value.int IntKind.i64 t349) ∧ w55.cell? { block := gb352, off := 2 } = some (Value.string t350)) (HO355 :  Aside0 (k25.R 25 w55 w.heap.size (fun k_ => some k_ ≠ v368.ownBlock ∧ k_ ≠ gb352 ∧ k_ ≠ gb360 ∧ k_ ≠ gb374) (Value.slice Ao41 y353.length co41) y353)) (HO369 :  Aside0 (k25.R 25 w55 w.heap.size (fun k_ => some k_ ≠ (Value.slice Ao41 y353.length co41).ownBlock ∧ k_ ≠ gb352 ∧ k_ ≠ gb360 ∧ k_ ≠ gb374) v368 y367)) (BK352 :  Aside0 (w55.heap[gb352]? = some (Obj.cells #[Value.int IntKind.i64 t348, Value.int IntKind.i64 t349, Value.string t350] 25))) (BK360 :  Aside0 (w55.heap[gb360]? = some (Obj.cells #[Value.int IntKind.i64 t356, Value.int IntKind.i64 t357, Value.string t358] 25))) (BK374 :  Aside0 (w55.heap[gb374]? = some (Obj.cells #[Value.int IntKind.i64 0, Value.int IntKind.i64 0, Value.string { data := #[] }] 25))) (GW374 GE374 : Aside0 (w.heap.size ≤ gb374)) (NB352_374 : Aside0 (gb352 ≠ gb374)) (NB374_352 : Aside0 (gb374 ≠ gb352)) (NB360_374 : Aside0 (gb360 ≠ gb374)) (NB374_360 : Aside0 (gb374 ≠ gb360)) (HB : Aside0 (Below w.heap.size w w55)) (hs56 : w55.cell? { block := gb374, off := 0 } = some (Value.int IntKind.i64 0)) (hfs56 : w55.frozen? { block := gb374, off := 0 } = false) (hns56_0 : gb352 ≠ gb374) (hns56_1 : gb360 ≠ gb374) (hms56_0 : gb374 ≠ gb352) (hms56_1 : gb374 ≠ gb360) (hs57 : w55.cell? { block := gb374, off := 1 } = some (Value.int IntKind.i64 0)) (hfs57 : w55.frozen? { block := gb374, off := 1 } = false) (hns57_0 : gb352 ≠ gb374) (hns57_1 : gb360 ≠ gb374) (hms57_0 : gb374 ≠ gb352) (hms57_1 : gb374 ≠ gb360) (hs58 : w55.cell? { block := gb374, off := 2 } = some (Value.string { data := #[] })) (hfs58 : w55.frozen? { block := gb374, off := 2 } = false) (hns58_0 : gb352 ≠ gb374) (hns58_1 : gb360 ≠ gb374) (hms58_0 : gb374 ≠ gb352) (hms58_1 : gb374 ≠ gb360) (hHeld :  (((w55.setCell { block := gb374, off := 0 } (Value.int IntKind.i64 t370)).setCell { block := gb374, off := 1 } (Value.int IntKind.i64 t371)).setCell { block := gb374, off := 2 } (Value.string t372)).cell? { block := gb352, off := 0 } = some (Value.int IntKind.i64 t348) ∧ (((w55.setCell { block := gb374, off := 0 } (Value.int IntKind.i64 t370)).setCell { block := gb374, off := 1 } (Value.int IntKind.i64 t371)).setCell { block := gb374, off := 2 } (Value.string t372)).cell? { block := gb352, off := 1 } = some (Value.int IntKind.i64 t349) ∧ (((w55.setCell { block := gb374, off := 0 } (Value.int IntKind.i64 t370)).setCell { block := gb374, off := 1 } (Value.int IntKind.i64 t371)).setCell { block := gb374, off := 2 } (Value.string t372)).cell? { block := gb352, off := 2 } = some (Value.string t350)) (K : Act → World → Prop) (hK : ∀ (a : Act) (w_ : World), Code.wp Try.prog quarrylaw02_CalcTexts.partB.rest (bodyPost Try.prog Try.f7 fun e w' => e = Ending.returned (Value.bool (t395 == t414 && (t396 == t415 && t397.toList == t416.toList))) ∧ Below w.heap.size w w') a w_ → K a w_) :
  Code.wp Try.prog quarrylaw02_CalcTexts.partB.code (Exit.then K (bodyPost Try.prog Try.f7 fun e w' => e = Ending.returned (Value.bool (t395 == t414 && (t396 == t415 && t397.toList == t416.toList))) ∧ Below w.heap.size w w')) ⟨#[Value.string a0, Value.string a1, undef, undef, Value.bool false, Value.pointer (some { block := gb352, off := 0 }), Value.int IntKind.i64 t351, Value.pointer (some { block := gb360, off := 0 }), Value.int IntKind.i64 t359, Value.pointer (some { block := gb374, off := 0 }), Value.int IntKind.i64 t373, undef, undef, undef, undef, undef, undef, undef, undef, Value.bool true, Value.bool false, Value.tuple #[Value.agg #[Value.int IntKind.i64 t348, Value.int IntKind.i64 t349, Value.string t350], Value.int IntKind.i64 t351], Value.string a0, Value.agg #[Value.int IntKind.i64 t342, Value.int IntKind.i64 t343, Value.string t344], Value.string a1, Value.agg #[Value.int IntKind.i64 t345, Value.int IntKind.i64 t346, Value.string t347], Value.tuple #[Value.agg #[Value.int IntKind.i64 t348, Value.int IntKind.i64 t349, Value.string t350], Value.int IntKind.i64 t351], Value.agg #[Value.int IntKind.i64 t348, Value.int IntKind.i64 t349, Value.string t350], Value.int IntKind.i64 t351, Value.int IntKind.i64 t351, Value.bool false, undef, undef, undef, undef, undef, undef, undef, undef, undef, undef, undef, undef, undef, undef, undef, Value.tuple #[Value.agg #[Value.int IntKind.i64 t356, Value.int IntKind.i64 t357, Value.string t358], Value.int IntKind.i64 t359], Value.agg #[Value.int IntKind.i64 t348, Value.int IntKind.i64 t349, Value.string t350], Value.slice Ao41 y353.length co41, Value.tuple #[Value.agg #[Value.int IntKind.i64 t356, Value.int IntKind.i64 t357, Value.string t358], Value.int IntKind.i64 t359], Value.agg #[Value.int IntKind.i64 t356, Value.int IntKind.i64 t357, Value.string t358], Value.int IntKind.i64 t359, Value.tuple #[Value.agg #[Value.int IntKind.i64 t370, Value.int IntKind.i64 t371, Value.string t372], Value.int IntKind.i64 t373], Value.agg #[Value.int IntKind.i64 t348, Value.int IntKind.i64 t349, Value.string t350], Value.agg #[Value.int IntKind.i64 t361, Value.int IntKind.i64 t362, Value.string t363], Value.string a0, Value.int IntKind.i64 ↑a0.size, Value.agg #[Value.int IntKind.i64 t364, Value.int IntKind.i64 t365, Value.string t366], v368, Value.tuple #[Value.agg #[Value.int IntKind.i64 t370, Value.int IntKind.i64 t371, Value.string t372], Value.int IntKind.i64 t373], Value.agg #[Value.int IntKind.i64 t370, Value.int IntKind.i64 t371, Value.string t372], Value.int IntKind.i64 t373, undef, undef, undef, undef, undef, undef, undef, undef, undef, undef, undef, undef, undef, undef, undef, undef, undef, undef, undef, undef, undef, undef, undef, undef, undef, undef, undef, undef, undef, undef, undef, undef, undef, undef, undef, undef, undef, undef, undef, undef, undef, undef, undef, undef, undef, undef, undef, undef, undef, undef, undef, undef, undef, undef, undef, undef, undef, undef, undef, undef, undef, undef, undef, undef, undef, undef, undef, undef, undef, undef, undef, undef, undef, undef, undef, undef, undef, undef, undef, undef], []⟩ (((w55.setCell { block := gb374, off := 0 } (Value.int IntKind.i64 t370)).setCell { block := gb374, off := 1 } (Value.int IntKind.i64 t371)).setCell { block := gb374, off := 2 } (Value.string t372)) := by
 conv => arg 2; whnf
 conv at hK => enter [a, w_, 1, 2]; whnf
 try go_wp2
 have n0_ : Aside0 (Kd.R k25 25 (((w55.setCell ⟨gb374, 0, none⟩ (.int .i64 t370)).setCell ⟨gb374, 1, none⟩ (.int .i64 t371)).setCell ⟨gb374, 2, none⟩ (.string t372)) w.heap.size (fun k_ => some k_ ≠ (v368 : Value).ownBlock ∧ k_ ≠ gb352 ∧ k_ ≠ gb360 ∧ k_ ≠ gb374) (.slice Ao41 y353.length co41) y353) := ⟨by (with_reducible repeat (first | apply Kd.R_alloc | apply Kd.R_drewN | apply Kd.R_drew)); exact Kd.R_mono (Kd.R_far (p := ⟨gb374, 2, none⟩) (Kd.R_far (p := ⟨gb374, 1, none⟩) (Kd.R_far (p := ⟨gb374, 0, none⟩) (Kd.R_mono HO355.out (fun k_ hk => (⟨hk, hk.2.2.2⟩ : _ ∧ k_ ≠ gb374))) (fun _ hk => hk.2) (.int .i64 t370)) (fun _ hk => hk.2) (.int .i64 t371)) (fun _ hk => hk.2) (.string t372)) (fun _ hk => ⟨hk.1.1, ⟨hk.1.2.1, ⟨hk.1.2.2.1, hk.1.2.2.2⟩⟩⟩)⟩
 have n1_ : Aside0 (Kd.R k25 25 (((w55.setCell ⟨gb374, 0, none⟩ (.int .i64 t370)).setCell ⟨gb374, 1, none⟩ (.int .i64 t371)).setCell ⟨gb374, 2, none⟩ (.string t372)) w.heap.size (fun k_ => some k_ ≠ (.slice Ao41 y353.length co41 : Value).ownBlock ∧ k_ ≠ gb352 ∧ k_ ≠ gb360 ∧ k_ ≠ gb374) v368 y367) := ⟨by (with_reducible repeat (first | apply Kd.R_alloc | apply Kd.R_drewN | apply Kd.R_drew)); exact Kd.R_mono (Kd.R_far (p := ⟨gb374, 2, none⟩) (Kd.R_far (p := ⟨gb374, 1, none⟩) (Kd.R_far (p := ⟨gb374, 0, none⟩) (Kd.R_mono HO369.out (fun k_ hk => (⟨hk, hk.2.2.2⟩ : _ ∧ k_ ≠ gb374))) (fun _ hk => hk.2) (.int .i64 t370)) (fun _ hk => hk.2) (.int .i64 t371)) (fun _ hk => hk.2) (.string t372)) (fun _ hk => ⟨hk.1.1, ⟨hk.1.2.1, ⟨hk.1.2.2.1, hk.1.2.2.2⟩⟩⟩)⟩
 have n2_ : Aside0 ((((w55.setCell ⟨gb374, 0, none⟩ (.int .i64 t370)).setCell ⟨gb374, 1, none⟩ (.int .i64 t371)).setCell ⟨gb374, 2, none⟩ (.string t372)).heap[gb352]? = some (.cells #[.int .i64 t348, .int .i64 t349, .string t350] 25 (0, 0))) := ⟨by (with_reducible repeat (first | refine blk_drewN ?_ _ | refine blk_drew ?_ | refine blk_alloc ?_ _)); refine blk_far ?_ NB352_374.out _; (with_reducible repeat (first | refine blk_drewN ?_ _ | refine blk_drew ?_ | refine blk_alloc ?_ _)); refine blk_far ?_ NB352_374.out _; (with_reducible repeat (first | refine blk_drewN ?_ _ | refine blk_drew ?_ | refine blk_alloc ?_ _)); refine blk_far ?_ NB352_374.out _; (with_reducible repeat (first | refine blk_drewN ?_ _ | refine blk_drew ?_ | refine blk_alloc ?_ _)); exact BK352.out⟩
 have n3_ : Aside0 ((((w55.setCell ⟨gb374, 0, none⟩ (.int .i64 t370)).setCell ⟨gb374, 1, none⟩ (.int .i64 t371)).setCell ⟨gb374, 2, none⟩ (.string t372)).heap[gb360]? = some (.cells #[.int .i64 t356, .int .i64 t357, .string t358] 25 (0, 0))) := ⟨by (with_reducible repeat (first | refine blk_drewN ?_ _ | refine blk_drew ?_ | refine blk_alloc ?_ _)); refine blk_far ?_ NB360_374.out _; (with_reducible repeat (first | refine blk_drewN ?_ _ | refine blk_drew ?_ | refine blk_alloc ?_ _)); refine blk_far ?_ NB360_374.out _; (with_reducible repeat (first | refine blk_drewN ?_ _ | refine blk_drew ?_ | refine blk_alloc ?_ _)); refine blk_far ?_ NB360_374.out _; (with_reducible repeat (first | refine blk_drewN ?_ _ | refine blk_drew ?_ | refine blk_alloc ?_ _)); exact BK360.out⟩
 have n4_ : Aside0 ((((w55.setCell ⟨gb374, 0, none⟩ (.int .i64 t370)).setCell ⟨gb374, 1, none⟩ (.int .i64 t371)).setCell ⟨gb374, 2, none⟩ (.string t372)).heap[gb374]? = some (.cells #[.int .i64 t370, .int .i64 t371, .string t372] 25 (0, 0))) := ⟨by (with_reducible repeat (first | refine blk_drewN ?_ _ | refine blk_drew ?_ | refine blk_alloc ?_ _)); refine blk_put (cs := #[.int .i64 t370, .int .i64 t371, .string (⟨#[]⟩ : ByteArray)]) ?_ 2 _ rfl; (with_reducible repeat (first | refine blk_drewN ?_ _ | refine blk_drew ?_ | refine blk_alloc ?_ _)); refine blk_put (cs := #[.int .i64 t370, .int .i64 0, .string (⟨#[]⟩ : ByteArray)]) ?_ 1 _ rfl; (with_reducible repeat (first | refine blk_drewN ?_ _ | refine blk_drew ?_ | refine blk_alloc ?_ _)); refine blk_put (cs := #[.int .i64 0, .int .i64 0, .string (⟨#[]⟩ : ByteArray)]) ?_ 0 _ rfl; (with_reducible repeat (first | refine blk_drewN ?_ _ | refine blk_drew ?_ | refine blk_alloc ?_ _)); exact BK374.out⟩
 have n5_ : Aside0 (Below w.heap.size w (((w55.setCell ⟨gb374, 0, none⟩ (.int .i64 t370)).setCell ⟨gb374, 1, none⟩ (.int .i64 t371)).setCell ⟨gb374, 2, none⟩ (.string t372))) := ⟨by repeat (first | (with_reducible first | exact HB.out | apply below_alloc | apply pw_below_drewN | apply below_drew1 | refine below_set ?_ GE352.out | refine below_set ?_ GE360.out | refine below_set ?_ GE374.out) | exact HB.out)⟩
 (try clear HO355)
 (try clear HO369)
 (try clear BK352)
 (try clear BK360)
 (try clear BK374)
 (try clear HB)
 generalize (((w55.setCell ⟨gb374, 0, none⟩ (.int .i64 t370)).setCell ⟨gb374, 1, none⟩ (.int .i64 t371)).setCell ⟨gb374, 2, none⟩ (.string t372)) = w59 at n0_ n1_ n2_ n3_ n4_ n5_ ⊢
 have HO355 := n0_
 have HO369 := n1_
 have BK352 := n2_
 have BK360 := n3_
 have BK374 := n4_
 have HB := n5_
 clear n0_ n1_ n2_ n3_ n4_ n5_
 have n0_ := Aside0.mk (Kd.R_drew HO355.out)
 have n1_ := Aside0.mk (Kd.R_drew HO369.out)
 have n2_ := Aside0.mk (blk_drew BK352.out)
 have n3_ := Aside0.mk (blk_drew BK360.out)
 have n4_ := Aside0.mk (blk_drew BK374.out)
 have n5_ := Aside0.mk (below_drew1 HB.out)
 clear HO355
 clear HO369
 clear BK352
 clear BK360
 clear BK374
 clear HB
 have HO355 := n0_
 have HO369 := n1_
 have BK352 := n2_
 have BK360 := n3_
 have BK374 := n4_
 have HB := n5_
 clear n0_ n1_ n2_ n3_ n4_ n5_
 refine start_ (n := 14) (S := fun w' => w'.cell? ⟨gb352, 0, none⟩ = some (.int .i64 t348) ∧ w'.cell? ⟨gb352, 1, none⟩ = some (.int .i64 t349) ∧ w'.cell? ⟨gb352, 2, none⟩ = some (.string t350)) (ds := []) #[false, false, false, false, false, false, false, false, false, false, false, false, false, false] (by kernel_rfl) rfl rfl ⟨(blk_cell BK352.out 0).trans rfl, (blk_cell BK352.out 1).trans rfl, (blk_cell BK352.out 2).trans rfl⟩ (fun hHeld => ?_); refine with_tabW quarrylaw02_CalcTexts.tab8 quarrylaw02_CalcTexts.bits8 (fun HT_ HW_ => ?_)
 generalize w59.drew = w60 at HO355 HO369 BK352 BK360 BK374 HB hHeld ⊢
 refine pure_ (i := 1) (N := some 64) (v := ?_) (a' := ?_) #[false, true, false, false, false, false, false, false, false, false, false, false, false, false] rfl rfl (any_of HT_.out (by kernel_rfl)) (fun _ _ _ h => h) (Or.inl ⟨by rfl, ?_⟩) ?_ ?_
 rotate_left
 ·intro w'
  go_simp
  with_reducible rfl
 rotate_left
 ·simp only [Act.put, List.setIfInBounds_toArray, List.set_cons_zero, List.set_cons_succ, i64_w, i32_w]
  rfl
 refine pure_ (i := 2) (N := some 65) (v := ?_) (a' := ?_) #[false, true, true, false, false, false, false, false, false, false, false, false, false, false] rfl rfl (any_of HT_.out (by kernel_rfl)) (fun _ _ _ h => h) (Or.inl ⟨by rfl, ?_⟩) ?_ ?_
 rotate_left
 ·intro w'
  go_simp
  with_reducible rfl
 rotate_left
 ·simp only [Act.put, List.setIfInBounds_toArray, List.set_cons_zero, List.set_cons_succ, i64_w, i32_w]
  rfl
 refine pure_ (i := 3) (N := some 66) (v := ?_) (a' := ?_) #[false, true, true, true, false, false, false, false, false, false, false, false, false, false] rfl rfl (any_of HT_.out (by kernel_rfl)) (fun _ _ _ h => h) (Or.inl ⟨by rfl, ?_⟩) ?_ ?_
 rotate_left
 ·intro w'
  go_simp
  with_reducible rfl
 rotate_left
 ·simp only [Act.put, List.setIfInBounds_toArray, List.set_cons_zero, List.set_cons_succ, i64_w, i32_w]
  rfl
 refine take_ (i := 0) (N := some 63) (v := ?_) (a' := ?_) #[true, true, true, true, false, false, false, false, false, false, false, false, false, false] rfl rfl (take_ofW HT_.out HW_.out (by kernel_rfl)) (fun _ _ _ h => h) (Or.inl ⟨by rfl, ?_⟩) hHeld ?_ ?_
 rotate_left
 ·rintro w' ⟨s0, s1, s2⟩
  go_simp
  with_reducible rfl
 rotate_left
 ·simp only [Act.put, List.setIfInBounds_toArray, List.set_cons_zero, List.set_cons_succ, i64_w, i32_w]
  rfl
 refine join_ (σ := Value × Nat) 2 #[true, true, true, true, true, true, true, true, true, true, true, true, false, false] (fun s_ => [(67, .agg #[.int .i64 t375, .int .i64 t376, .string t377]), (68, .agg #[.int .i64 t378, .int .i64 t379, .string t380]), (69, s_.1), (70, .tuple #[.agg #[.int .i64 t384, .int .i64 t385, .string t386], .int .i64 t387]), (11, .pointer (some ⟨s_.2, 0, none⟩)), (62, .tuple #[.agg #[.int .i64 t384, .int .i64 t385, .string t386], .int .i64 t387]), (71, .agg #[.int .i64 t384, .int .i64 t385, .string t386]), (72, .int .i64 t387)]) (fun s_ w' => (w'.cell? ⟨gb352, 0, none⟩ = some (.int .i64 t348) ∧ w'.cell? ⟨gb352, 1, none⟩ = some (.int .i64 t349) ∧ w'.cell? ⟨gb352, 2, none⟩ = some (.string t350)) ∧ (Kd.R k25 25 w' w.heap.size (fun k_ => some k_ ≠ (v368 : Value).ownBlock ∧ some k_ ≠ (s_.1 : Value).ownBlock ∧ k_ ≠ gb352 ∧ k_ ≠ gb360 ∧ k_ ≠ gb374 ∧ k_ ≠ s_.2) (.slice Ao41 y353.length co41) y353) ∧ (Kd.R k25 25 w' w.heap.size (fun k_ => some k_ ≠ (.slice Ao41 y353.length co41 : Value).ownBlock ∧ some k_ ≠ (s_.1 : Value).ownBlock ∧ k_ ≠ gb352 ∧ k_ ≠ gb360 ∧ k_ ≠ gb374 ∧ k_ ≠ s_.2) v368 y367) ∧ (Kd.R k25 25 w' w.heap.size (fun k_ => some k_ ≠ (.slice Ao41 y353.length co41 : Value).ownBlock ∧ some k_ ≠ (v368 : Value).ownBlock ∧ k_ ≠ gb352 ∧ k_ ≠ gb360 ∧ k_ ≠ gb374 ∧ k_ ≠ s_.2) s_.1 y381) ∧ (w'.heap[gb352]? = some (.cells #[.int .i64 t348, .int .i64 t349, .string t350] 25 (0, 0))) ∧ (w'.heap[gb360]? = some (.cells #[.int .i64 t356, .int .i64 t357, .string t358] 25 (0, 0))) ∧ (w'.heap[gb374]? = some (.cells #[.int .i64 t370, .int .i64 t371, .string t372] 25 (0, 0))) ∧ (w'.heap[s_.2]? = some (.cells #[.int .i64 0, .int .i64 0, .string (⟨#[]⟩ : ByteArray)] 25 (0, 0))) ∧ (w.heap.size ≤ s_.2) ∧ (w.heap.size ≤ s_.2) ∧ (gb352 ≠ s_.2) ∧ (s_.2 ≠ gb352) ∧ (gb360 ≠ s_.2) ∧ (s_.2 ≠ gb360) ∧ (gb374 ≠ s_.2) ∧ (s_.2 ≠ gb374) ∧ (Below w.heap.size w w')) ?_ ?_
 rotate_left
 ·intro hJ4_5_6_7_11
  refine join_ (σ := Value) 3 #[true, true, true, true, true, true, true, true, true, true, true, false, false, false] (fun s_ => [(67, .agg #[.int .i64 t375, .int .i64 t376, .string t377]), (68, .agg #[.int .i64 t378, .int .i64 t379, .string t380]), (69, s_), (70, .tuple #[.agg #[.int .i64 t384, .int .i64 t385, .string t386], .int .i64 t387]), (62, .tuple #[.agg #[.int .i64 t384, .int .i64 t385, .string t386], .int .i64 t387]), (71, .agg #[.int .i64 t384, .int .i64 t385, .string t386]), (72, .int .i64 t387)]) (fun s_ w' => (w'.cell? ⟨gb352, 0, none⟩ = some (.int .i64 t348) ∧ w'.cell? ⟨gb352, 1, none⟩ = some (.int .i64 t349) ∧ w'.cell? ⟨gb352, 2, none⟩ = some (.string t350)) ∧ (Kd.R k25 25 w' w.heap.size (fun k_ => some k_ ≠ (v368 : Value).ownBlock ∧ some k_ ≠ (s_ : Value).ownBlock ∧ k_ ≠ gb352 ∧ k_ ≠ gb360 ∧ k_ ≠ gb374) (.slice Ao41 y353.length co41) y353) ∧ (Kd.R k25 25 w' w.heap.size (fun k_ => some k_ ≠ (.slice Ao41 y353.length co41 : Value).ownBlock ∧ some k_ ≠ (s_ : Value).ownBlock ∧ k_ ≠ gb352 ∧ k_ ≠ gb360 ∧ k_ ≠ gb374) v368 y367) ∧ (Kd.R k25 25 w' w.heap.size (fun k_ => some k_ ≠ (.slice Ao41 y353.length co41 : Value).ownBlock ∧ some k_ ≠ (v368 : Value).ownBlock ∧ k_ ≠ gb352 ∧ k_ ≠ gb360 ∧ k_ ≠ gb374) s_ y381) ∧ (w'.heap[gb352]? = some (.cells #[.int .i64 t348, .int .i64 t349, .string t350] 25 (0, 0))) ∧ (w'.heap[gb360]? = some (.cells #[.int .i64 t356, .int .i64 t357, .string t358] 25 (0, 0))) ∧ (w'.heap[gb374]? = some (.cells #[.int .i64 t370, .int .i64 t371, .string t372] 25 (0, 0))) ∧ (Below w.heap.size w w')) ?_ ?_
  rotate_left
  ·intro hJ4_5_6_7
   refine join_ (σ := Value × Nat) 6 #[true, true, true, true, true, true, true, false, false, false, false, true, false, false] (fun s_ => [(67, .agg #[.int .i64 t375, .int .i64 t376, .string t377]), (68, .agg #[.int .i64 t378, .int .i64 t379, .string t380]), (69, s_.1), (11, .pointer (some ⟨s_.2, 0, none⟩))]) (fun s_ w' => (w'.cell? ⟨gb352, 0, none⟩ = some (.int .i64 t348) ∧ w'.cell? ⟨gb352, 1, none⟩ = some (.int .i64 t349) ∧ w'.cell? ⟨gb352, 2, none⟩ = some (.string t350)) ∧ (Kd.R k25 25 w' w.heap.size (fun k_ => some k_ ≠ (v368 : Value).ownBlock ∧ some k_ ≠ (s_.1 : Value).ownBlock ∧ k_ ≠ gb352 ∧ k_ ≠ gb360 ∧ k_ ≠ gb374 ∧ k_ ≠ s_.2) (.slice Ao41 y353.length co41) y353) ∧ (Kd.R k25 25 w' w.heap.size (fun k_ => some k_ ≠ (.slice Ao41 y353.length co41 : Value).ownBlock ∧ some k_ ≠ (s_.1 : Value).ownBlock ∧ k_ ≠ gb352 ∧ k_ ≠ gb360 ∧ k_ ≠ gb374 ∧ k_ ≠ s_.2) v368 y367) ∧ (Kd.R k25 25 w' w.heap.size (fun k_ => some k_ ≠ (.slice Ao41 y353.length co41 : Value).ownBlock ∧ some k_ ≠ (v368 : Value).ownBlock ∧ k_ ≠ gb352 ∧ k_ ≠ gb360 ∧ k_ ≠ gb374 ∧ k_ ≠ s_.2) s_.1 y381) ∧ (w'.heap[gb352]? = some (.cells #[.int .i64 t348, .int .i64 t349, .string t350] 25 (0, 0))) ∧ (w'.heap[gb360]? = some (.cells #[.int .i64 t356, .int .i64 t357, .string t358] 25 (0, 0))) ∧ (w'.heap[gb374]? = some (.cells #[.int .i64 t370, .int .i64 t371, .string t372] 25 (0, 0))) ∧ (w'.heap[s_.2]? = some (.cells #[.int .i64 0, .int .i64 0, .string (⟨#[]⟩ : ByteArray)] 25 (0, 0))) ∧ (w.heap.size ≤ s_.2) ∧ (w.heap.size ≤ s_.2) ∧ (gb352 ≠ s_.2) ∧ (s_.2 ≠ gb352) ∧ (gb360 ≠ s_.2) ∧ (s_.2 ≠ gb360) ∧ (gb374 ≠ s_.2) ∧ (s_.2 ≠ gb374) ∧ (Below w.heap.size w w')) ?_ ?_
   rotate_left
   ·intro hJ4_5_6_11
    refine join_ (σ := Value) 7 #[true, true, true, true, true, true, true, false, false, false, false, false, false, false] (fun s_ => [(67, .agg #[.int .i64 t375, .int .i64 t376, .string t377]), (68, .agg #[.int .i64 t378, .int .i64 t379, .string t380]), (69, s_)]) (fun s_ w' => (w'.cell? ⟨gb352, 0, none⟩ = some (.int .i64 t348) ∧ w'.cell? ⟨gb352, 1, none⟩ = some (.int .i64 t349) ∧ w'.cell? ⟨gb352, 2, none⟩ = some (.string t350)) ∧ (Kd.R k25 25 w' w.heap.size (fun k_ => some k_ ≠ (v368 : Value).ownBlock ∧ some k_ ≠ (s_ : Value).ownBlock ∧ k_ ≠ gb352 ∧ k_ ≠ gb360 ∧ k_ ≠ gb374) (.slice Ao41 y353.length co41) y353) ∧ (Kd.R k25 25 w' w.heap.size (fun k_ => some k_ ≠ (.slice Ao41 y353.length co41 : Value).ownBlock ∧ some k_ ≠ (s_ : Value).ownBlock ∧ k_ ≠ gb352 ∧ k_ ≠ gb360 ∧ k_ ≠ gb374) v368 y367) ∧ (Kd.R k25 25 w' w.heap.size (fun k_ => some k_ ≠ (.slice Ao41 y353.length co41 : Value).ownBlock ∧ some k_ ≠ (v368 : Value).ownBlock ∧ k_ ≠ gb352 ∧ k_ ≠ gb360 ∧ k_ ≠ gb374) s_ y381) ∧ (w'.heap[gb352]? = some (.cells #[.int .i64 t348, .int .i64 t349, .string t350] 25 (0, 0))) ∧ (w'.heap[gb360]? = some (.cells #[.int .i64 t356, .int .i64 t357, .string t358] 25 (0, 0))) ∧ (w'.heap[gb374]? = some (.cells #[.int .i64 t370, .int .i64 t371, .string t372] 25 (0, 0))) ∧ (Below w.heap.size w w')) ?_ ?_
    rotate_left
    ·intro hJ4_5_6
     refine join_ (σ := Nat) 7 #[true, true, true, true, true, true, false, false, false, false, false, true, false, false] (fun s_ => [(67, .agg #[.int .i64 t375, .int .i64 t376, .string t377]), (68, .agg #[.int .i64 t378, .int .i64 t379, .string t380]), (11, .pointer (some ⟨s_, 0, none⟩))]) (fun s_ w' => (w'.cell? ⟨gb352, 0, none⟩ = some (.int .i64 t348) ∧ w'.cell? ⟨gb352, 1, none⟩ = some (.int .i64 t349) ∧ w'.cell? ⟨gb352, 2, none⟩ = some (.string t350)) ∧ (Kd.R k25 25 w' w.heap.size (fun k_ => some k_ ≠ (v368 : Value).ownBlock ∧ k_ ≠ gb352 ∧ k_ ≠ gb360 ∧ k_ ≠ gb374 ∧ k_ ≠ s_) (.slice Ao41 y353.length co41) y353) ∧ (Kd.R k25 25 w' w.heap.size (fun k_ => some k_ ≠ (.slice Ao41 y353.length co41 : Value).ownBlock ∧ k_ ≠ gb352 ∧ k_ ≠ gb360 ∧ k_ ≠ gb374 ∧ k_ ≠ s_) v368 y367) ∧ (w'.heap[gb352]? = some (.cells #[.int .i64 t348, .int .i64 t349, .string t350] 25 (0, 0))) ∧ (w'.heap[gb360]? = some (.cells #[.int .i64 t356, .int .i64 t357, .string t358] 25 (0, 0))) ∧ (w'.heap[gb374]? = some (.cells #[.int .i64 t370, .int .i64 t371, .string t372] 25 (0, 0))) ∧ (w'.heap[s_]? = some (.cells #[.int .i64 0, .int .i64 0, .string (⟨#[]⟩ : ByteArray)] 25 (0, 0))) ∧ (w.heap.size ≤ s_) ∧ (w.heap.size ≤ s_) ∧ (gb352 ≠ s_) ∧ (s_ ≠ gb352) ∧ (gb360 ≠ s_) ∧ (s_ ≠ gb360) ∧ (gb374 ≠ s_) ∧ (s_ ≠ gb374) ∧ (Below w.heap.size w w')) ?_ ?_
     rotate_left
     ·intro hJ4_5_11
      refine join_ (σ := Unit) 8 #[true, true, true, true, true, true, false, false, false, false, false, false, false, false] (fun s_ => [(67, .agg #[.int .i64 t375, .int .i64 t376, .string t377]), (68, .agg #[.int .i64 t378, .int .i64 t379, .string t380])]) (fun s_ w' => (w'.cell? ⟨gb352, 0, none⟩ = some (.int .i64 t348) ∧ w'.cell? ⟨gb352, 1, none⟩ = some (.int .i64 t349) ∧ w'.cell? ⟨gb352, 2, none⟩ = some (.string t350)) ∧ (Kd.R k25 25 w' w.heap.size (fun k_ => some k_ ≠ (v368 : Value).ownBlock ∧ k_ ≠ gb352 ∧ k_ ≠ gb360 ∧ k_ ≠ gb374) (.slice Ao41 y353.length co41) y353) ∧ (Kd.R k25 25 w' w.heap.size (fun k_ => some k_ ≠ (.slice Ao41 y353.length co41 : Value).ownBlock ∧ k_ ≠ gb352 ∧ k_ ≠ gb360 ∧ k_ ≠ gb374) v368 y367) ∧ (w'.heap[gb352]? = some (.cells #[.int .i64 t348, .int .i64 t349, .string t350] 25 (0, 0))) ∧ (w'.heap[gb360]? = some (.cells #[.int .i64 t356, .int .i64 t357, .string t358] 25 (0, 0))) ∧ (w'.heap[gb374]? = some (.cells #[.int .i64 t370, .int .i64 t371, .string t372] 25 (0, 0))) ∧ (Below w.heap.size w w')) ?_ ?_
      rotate_left
      ·intro hJ4_5
       refine join_ (σ := Nat) 8 #[true, true, true, true, true, false, false, false, false, false, false, true, false, false] (fun s_ => [(67, .agg #[.int .i64 t375, .int .i64 t376, .string t377]), (11, .pointer (some ⟨s_, 0, none⟩))]) (fun s_ w' => (w'.cell? ⟨gb352, 0, none⟩ = some (.int .i64 t348) ∧ w'.cell? ⟨gb352, 1, none⟩ = some (.int .i64 t349) ∧ w'.cell? ⟨gb352, 2, none⟩ = some (.string t350)) ∧ (Kd.R k25 25 w' w.heap.size (fun k_ => some k_ ≠ (v368 : Value).ownBlock ∧ k_ ≠ gb352 ∧ k_ ≠ gb360 ∧ k_ ≠ gb374 ∧ k_ ≠ s_) (.slice Ao41 y353.length co41) y353) ∧ (Kd.R k25 25 w' w.heap.size (fun k_ => some k_ ≠ (.slice Ao41 y353.length co41 : Value).ownBlock ∧ k_ ≠ gb352 ∧ k_ ≠ gb360 ∧ k_ ≠ gb374 ∧ k_ ≠ s_) v368 y367) ∧ (w'.heap[gb352]? = some (.cells #[.int .i64 t348, .int .i64 t349, .string t350] 25 (0, 0))) ∧ (w'.heap[gb360]? = some (.cells #[.int .i64 t356, .int .i64 t357, .string t358] 25 (0, 0))) ∧ (w'.heap[gb374]? = some (.cells #[.int .i64 t370, .int .i64 t371, .string t372] 25 (0, 0))) ∧ (w'.heap[s_]? = some (.cells #[.int .i64 0, .int .i64 0, .string (⟨#[]⟩ : ByteArray)] 25 (0, 0))) ∧ (w.heap.size ≤ s_) ∧ (w.heap.size ≤ s_) ∧ (gb352 ≠ s_) ∧ (s_ ≠ gb352) ∧ (gb360 ≠ s_) ∧ (s_ ≠ gb360) ∧ (gb374 ≠ s_) ∧ (s_ ≠ gb374) ∧ (Below w.heap.size w w')) ?_ ?_
       rotate_left
       ·intro hJ4_11
        refine join_ (σ := Unit) 9 #[true, true, true, true, true, false, false, false, false, false, false, false, false, false] (fun s_ => [(67, .agg #[.int .i64 t375, .int .i64 t376, .string t377])]) (fun s_ w' => (w'.cell? ⟨gb352, 0, none⟩ = some (.int .i64 t348) ∧ w'.cell? ⟨gb352, 1, none⟩ = some (.int .i64 t349) ∧ w'.cell? ⟨gb352, 2, none⟩ = some (.string t350)) ∧ (Kd.R k25 25 w' w.heap.size (fun k_ => some k_ ≠ (v368 : Value).ownBlock ∧ k_ ≠ gb352 ∧ k_ ≠ gb360 ∧ k_ ≠ gb374) (.slice Ao41 y353.length co41) y353) ∧ (Kd.R k25 25 w' w.heap.size (fun k_ => some k_ ≠ (.slice Ao41 y353.length co41 : Value).ownBlock ∧ k_ ≠ gb352 ∧ k_ ≠ gb360 ∧ k_ ≠ gb374) v368 y367) ∧ (w'.heap[gb352]? = some (.cells #[.int .i64 t348, .int .i64 t349, .string t350] 25 (0, 0))) ∧ (w'.heap[gb360]? = some (.cells #[.int .i64 t356, .int .i64 t357, .string t358] 25 (0, 0))) ∧ (w'.heap[gb374]? = some (.cells #[.int .i64 t370, .int .i64 t371, .string t372] 25 (0, 0))) ∧ (Below w.heap.size w w')) ?_ ?_
        rotate_left
        ·intro hJ4
         refine join_ (σ := Nat) 9 #[true, true, true, true, false, false, false, false, false, false, false, true, false, false] (fun s_ => [(11, .pointer (some ⟨s_, 0, none⟩))]) (fun s_ w' => (w'.cell? ⟨gb352, 0, none⟩ = some (.int .i64 t348) ∧ w'.cell? ⟨gb352, 1, none⟩ = some (.int .i64 t349) ∧ w'.cell? ⟨gb352, 2, none⟩ = some (.string t350)) ∧ (Kd.R k25 25 w' w.heap.size (fun k_ => some k_ ≠ (v368 : Value).ownBlock ∧ k_ ≠ gb352 ∧ k_ ≠ gb360 ∧ k_ ≠ gb374 ∧ k_ ≠ s_) (.slice Ao41 y353.length co41) y353) ∧ (Kd.R k25 25 w' w.heap.size (fun k_ => some k_ ≠ (.slice Ao41 y353.length co41 : Value).ownBlock ∧ k_ ≠ gb352 ∧ k_ ≠ gb360 ∧ k_ ≠ gb374 ∧ k_ ≠ s_) v368 y367) ∧ (w'.heap[gb352]? = some (.cells #[.int .i64 t348, .int .i64 t349, .string t350] 25 (0, 0))) ∧ (w'.heap[gb360]? = some (.cells #[.int .i64 t356, .int .i64 t357, .string t358] 25 (0, 0))) ∧ (w'.heap[gb374]? = some (.cells #[.int .i64 t370, .int .i64 t371, .string t372] 25 (0, 0))) ∧ (w'.heap[s_]? = some (.cells #[.int .i64 0, .int .i64 0, .string (⟨#[]⟩ : ByteArray)] 25 (0, 0))) ∧ (w.heap.size ≤ s_) ∧ (w.heap.size ≤ s_) ∧ (gb352 ≠ s_) ∧ (s_ ≠ gb352) ∧ (gb360 ≠ s_) ∧ (s_ ≠ gb360) ∧ (gb374 ≠ s_) ∧ (s_ ≠ gb374) ∧ (Below w.heap.size w w')) ?_ ?_
         rotate_left
         ·intro hJ11
          refine two_ (i := 4) (j := 11) (Ni := some 67) (Nj := some 11) #[true, true, true, true, true, false, false, false, false, false, false, false, false, false] #[true, true, true, true, false, false, false, false, false, false, false, true, false, false] rfl rfl rfl rfl (two_of HT_.out (by kernel_rfl)) (by decide) (by decide) (fun K hK => ?_) (fun K hK => ?_)
          ·skip
           refine goes_ Try.func24 (by kernel_rfl) rfl #[.int .i64 (wrap64 ((a0.size : Int) + 1))] (by rfl) rfl rfl (by (try simp only [List.map_toArray, List.map_cons, List.map_nil]); first | done | rfl | (simp only [List.length_drop, List.length_take]; rfl)) ?_
           with_reducible refine (quarrylaw02_num.calls (wrap64 ((a0.size : Int) + 1)) t375 t376 t377 _ A13.out).mono ?_
           rintro e w61 ⟨rfl, hb⟩
           refine ⟨_, rfl, ?_⟩
           have n0_ := Aside0.mk (Kd.R_below (by (with_reducible repeat (first | apply Kd.R_alloc | apply Kd.R_drewN | apply Kd.R_drew)); exact HO355.out) hb)
           have n1_ := Aside0.mk (Kd.R_below (by (with_reducible repeat (first | apply Kd.R_alloc | apply Kd.R_drewN | apply Kd.R_drew)); exact HO369.out) hb)
           have n2_ := Aside0.mk (blk_below (g := gb352) (o := .cells #[.int .i64 t348, .int .i64 t349, .string t350] 25 (0, 0)) (bk_ BK352) hb)
           have n3_ := Aside0.mk (blk_below (g := gb360) (o := .cells #[.int .i64 t356, .int .i64 t357, .string t358] 25 (0, 0)) (bk_ BK360) hb)
           have n4_ := Aside0.mk (blk_below (g := gb374) (o := .cells #[.int .i64 t370, .int .i64 t371, .string t372] 25 (0, 0)) (bk_ BK374) hb)
           have n5_ := Aside0.mk (below_step (by repeat (first | (with_reducible first | exact HB.out | apply below_alloc | apply pw_below_drewN | apply below_drew1 | refine below_set ?_ GE352.out | refine below_set ?_ GE360.out | refine below_set ?_ GE374.out) | exact HB.out)) hb)
           clear HO355
           clear HO369
           clear BK352
           clear BK360
           clear BK374
           clear HB
           have HO355 := n0_
           have HO369 := n1_
           have BK352 := n2_
           have BK360 := n3_
           have BK374 := n4_
           have HB := n5_
           clear n0_ n1_ n2_ n3_ n4_ n5_
           (try clear hb)
           (try clear hb2)
           (try clear hk)
           (try clear hi)
           refine hK.out _ _ ⟨(blk_cell BK352.out 0).trans rfl, (blk_cell BK352.out 1).trans rfl, (blk_cell BK352.out 2).trans rfl⟩ (fun hHeld => ?_)
           clear hK K
           refine norm_ (a' := ?_) ?_ ?_
           rotate_left
           ·show Act.put _ (some 67) _ = _
            simp only [Act.put, List.setIfInBounds_toArray, List.set_cons_zero, List.set_cons_succ, i64_w, i32_w]
            rfl
           exact norm_ (by first | (simp only [putAll, Act.put, List.setIfInBounds_toArray, List.set_cons_zero, List.set_cons_succ]; done) | (simp only [putAll, Act.put, List.setIfInBounds_toArray, List.set_cons_zero, List.set_cons_succ]; rfl)) (hJ4 () _ ⟨hHeld, (by (with_reducible repeat (first | apply Kd.R_alloc | apply Kd.R_drewN | apply Kd.R_drew)); exact HO355.out), (by (with_reducible repeat (first | apply Kd.R_alloc | apply Kd.R_drewN | apply Kd.R_drew)); exact HO369.out), (bk_ BK352), (bk_ BK360), (bk_ BK374), (by repeat (first | (with_reducible first | exact HB.out | apply below_alloc | apply pw_below_drewN | apply below_drew1 | refine below_set ?_ GE352.out | refine below_set ?_ GE360.out | refine below_set ?_ GE374.out) | exact HB.out))⟩)
          ·skip
           refine box_step ?hg (N := 11) ?hd (cs := #[.int .i64 0, .int .i64 0, .string (⟨#[]⟩ : ByteArray)]) (t := 25) ?hr ?_; (case hd => rfl); (case hg => rfl); (case hr => first | (go_simp; done) | (go_simp; rfl))
           intro gb388 hg w61 hbox hb
           have n0_ := Aside0.mk (Kd.R_below (Kd.R_elderB (by (with_reducible repeat (first | apply Kd.R_alloc | apply Kd.R_drewN | apply Kd.R_drew)); exact HO355.out) gb388 (Nat.le_of_eq hg.symm)) hb)
           have n1_ := Aside0.mk (Kd.R_below (Kd.R_elderB (by (with_reducible repeat (first | apply Kd.R_alloc | apply Kd.R_drewN | apply Kd.R_drew)); exact HO369.out) gb388 (Nat.le_of_eq hg.symm)) hb)
           have n2_ := Aside0.mk (blk_below (g := gb352) (o := .cells #[.int .i64 t348, .int .i64 t349, .string t350] 25 (0, 0)) (bk_ BK352) hb)
           have n3_ := Aside0.mk (blk_below (g := gb360) (o := .cells #[.int .i64 t356, .int .i64 t357, .string t358] 25 (0, 0)) (bk_ BK360) hb)
           have n4_ := Aside0.mk (blk_below (g := gb374) (o := .cells #[.int .i64 t370, .int .i64 t371, .string t372] 25 (0, 0)) (bk_ BK374) hb)
           have n5_ := Aside0.mk (below_step (by repeat (first | (with_reducible first | exact HB.out | apply below_alloc | apply pw_below_drewN | apply below_drew1 | refine below_set ?_ GE352.out | refine below_set ?_ GE360.out | refine below_set ?_ GE374.out) | exact HB.out)) hb)
           have n6_ := Aside0.mk (hbox)
           have n7_ := Aside0.mk ((by rw [hg]; exact (below_size (by repeat (first | (with_reducible first | exact HB.out | apply below_alloc | apply pw_below_drewN | apply below_drew1 | refine below_set ?_ GE352.out | refine below_set ?_ GE360.out | refine below_set ?_ GE374.out) | exact HB.out))) : w.heap.size ≤ gb388))
           have n8_ := Aside0.mk ((by rw [hg]; exact (below_size (by repeat (first | (with_reducible first | exact HB.out | apply below_alloc | apply pw_below_drewN | apply below_drew1 | refine below_set ?_ GE352.out | refine below_set ?_ GE360.out | refine below_set ?_ GE374.out) | exact HB.out))) : w.heap.size ≤ gb388))
           have n9_ := Aside0.mk ((by rw [hg]; exact Nat.ne_of_lt (blk_lt (g := gb352) (o := .cells #[.int .i64 t348, .int .i64 t349, .string t350] 25 (0, 0)) (bk_ BK352)) : gb352 ≠ gb388))
           have n10_ := Aside0.mk ((by rw [hg]; exact Nat.ne_of_gt (blk_lt (g := gb352) (o := .cells #[.int .i64 t348, .int .i64 t349, .string t350] 25 (0, 0)) (bk_ BK352)) : gb388 ≠ gb352))
           have n11_ := Aside0.mk ((by rw [hg]; exact Nat.ne_of_lt (blk_lt (g := gb360) (o := .cells #[.int .i64 t356, .int .i64 t357, .string t358] 25 (0, 0)) (bk_ BK360)) : gb360 ≠ gb388))
           have n12_ := Aside0.mk ((by rw [hg]; exact Nat.ne_of_gt (blk_lt (g := gb360) (o := .cells #[.int .i64 t356, .int .i64 t357, .string t358] 25 (0, 0)) (bk_ BK360)) : gb388 ≠ gb360))
           have n13_ := Aside0.mk ((by rw [hg]; exact Nat.ne_of_lt (blk_lt (g := gb374) (o := .cells #[.int .i64 t370, .int .i64 t371, .string t372] 25 (0, 0)) (bk_ BK374)) : gb374 ≠ gb388))
           have n14_ := Aside0.mk ((by rw [hg]; exact Nat.ne_of_gt (blk_lt (g := gb374) (o := .cells #[.int .i64 t370, .int .i64 t371, .string t372] 25 (0, 0)) (bk_ BK374)) : gb388 ≠ gb374))
           clear HO355
           clear HO369
           clear BK352
           clear BK360
           clear BK374
           clear HB
           have HO355 := n0_
           have HO369 := n1_
           have BK352 := n2_
           have BK360 := n3_
           have BK374 := n4_
           have HB := n5_
           have BK388 := n6_
           have GW388 := n7_
           have GE388 := n8_
           have NB352_388 := n9_
           have NB388_352 := n10_
           have NB360_388 := n11_
           have NB388_360 := n12_
           have NB374_388 := n13_
           have NB388_374 := n14_
           clear n0_ n1_ n2_ n3_ n4_ n5_ n6_ n7_ n8_ n9_ n10_ n11_ n12_ n13_ n14_
           clear hb hbox hg
           refine hK.out _ _ ⟨(blk_cell BK352.out 0).trans rfl, (blk_cell BK352.out 1).trans rfl, (blk_cell BK352.out 2).trans rfl⟩ (fun hHeld => ?_)
           clear hK K
           refine norm_ (a' := ?_) ?_ ?_
           rotate_left
           ·show Act.put _ (some 11) _ = _
            simp only [Act.put, List.setIfInBounds_toArray, List.set_cons_zero, List.set_cons_succ, i64_w, i32_w]
            rfl
           exact norm_ (by first | (simp only [putAll, Act.put, List.setIfInBounds_toArray, List.set_cons_zero, List.set_cons_succ]; done) | (simp only [putAll, Act.put, List.setIfInBounds_toArray, List.set_cons_zero, List.set_cons_succ]; rfl)) (hJ11 (gb388) _ ⟨hHeld, (by (with_reducible repeat (first | apply Kd.R_alloc | apply Kd.R_drewN | apply Kd.R_drew)); exact Kd.R_mono HO355.out (fun _ hk => ⟨hk.1.1, ⟨hk.1.2.1, ⟨hk.1.2.2.1, ⟨hk.1.2.2.2, hk.2⟩⟩⟩⟩)), (by (with_reducible repeat (first | apply Kd.R_alloc | apply Kd.R_drewN | apply Kd.R_drew)); exact Kd.R_mono HO369.out (fun _ hk => ⟨hk.1.1, ⟨hk.1.2.1, ⟨hk.1.2.2.1, ⟨hk.1.2.2.2, hk.2⟩⟩⟩⟩)), (bk_ BK352), (bk_ BK360), (bk_ BK374), (bk_ BK388), GW388.out, GE388.out, NB352_388.out, NB388_352.out, NB360_388.out, NB388_360.out, NB374_388.out, NB388_374.out, (by repeat (first | (with_reducible first | exact HB.out | apply below_alloc | apply pw_below_drewN | apply below_drew1 | refine below_set ?_ GE352.out | refine below_set ?_ GE360.out | refine below_set ?_ GE374.out | refine below_set ?_ GE388.out) | exact HB.out))⟩)
         ·skip
          rintro gb388 w62 ⟨hS_, h0_, h1_, h2_, h3_, h4_, h5_, h6_, h7_, h8_, h9_, h10_, h11_, h12_, h13_, h14_⟩
          have n0_ : Aside0 (Kd.R k25 25 w62 w.heap.size (fun k_ => some k_ ≠ (v368 : Value).ownBlock ∧ k_ ≠ gb352 ∧ k_ ≠ gb360 ∧ k_ ≠ gb374 ∧ k_ ≠ gb388) (.slice Ao41 y353.length co41) y353) := ⟨h0_⟩
          have n1_ : Aside0 (Kd.R k25 25 w62 w.heap.size (fun k_ => some k_ ≠ (.slice Ao41 y353.length co41 : Value).ownBlock ∧ k_ ≠ gb352 ∧ k_ ≠ gb360 ∧ k_ ≠ gb374 ∧ k_ ≠ gb388) v368 y367) := ⟨h1_⟩
          have n2_ : Aside0 (w62.heap[gb352]? = some (.cells #[.int .i64 t348, .int .i64 t349, .string t350] 25 (0, 0))) := ⟨h2_⟩
          have n3_ : Aside0 (w62.heap[gb360]? = some (.cells #[.int .i64 t356, .int .i64 t357, .string t358] 25 (0, 0))) := ⟨h3_⟩
          have n4_ : Aside0 (w62.heap[gb374]? = some (.cells #[.int .i64 t370, .int .i64 t371, .string t372] 25 (0, 0))) := ⟨h4_⟩
          have n5_ : Aside0 (w62.heap[gb388]? = some (.cells #[.int .i64 0, .int .i64 0, .string (⟨#[]⟩ : ByteArray)] 25 (0, 0))) := ⟨h5_⟩
          have n6_ : Aside0 (w.heap.size ≤ gb388) := ⟨h6_⟩
          have n7_ : Aside0 (w.heap.size ≤ gb388) := ⟨h7_⟩
          have n8_ : Aside0 (gb352 ≠ gb388) := ⟨h8_⟩
          have n9_ : Aside0 (gb388 ≠ gb352) := ⟨h9_⟩
          have n10_ : Aside0 (gb360 ≠ gb388) := ⟨h10_⟩
          have n11_ : Aside0 (gb388 ≠ gb360) := ⟨h11_⟩
          have n12_ : Aside0 (gb374 ≠ gb388) := ⟨h12_⟩
          have n13_ : Aside0 (gb388 ≠ gb374) := ⟨h13_⟩
          have n14_ : Aside0 (Below w.heap.size w w62) := ⟨h14_⟩
          clear HO355
          clear HO369
          clear BK352
          clear BK360
          clear BK374
          clear HB
          clear h0_ h1_ h2_ h3_ h4_ h5_ h6_ h7_ h8_ h9_ h10_ h11_ h12_ h13_ h14_
          have HO355 := n0_
          have HO369 := n1_
          have BK352 := n2_
          have BK360 := n3_
          have BK374 := n4_
          have BK388 := n5_
          have GW388 := n6_
          have GE388 := n7_
          have NB352_388 := n8_
          have NB388_352 := n9_
          have NB360_388 := n10_
          have NB388_360 := n11_
          have NB374_388 := n12_
          have NB388_374 := n13_
          have HB := n14_
          clear n0_ n1_ n2_ n3_ n4_ n5_ n6_ n7_ n8_ n9_ n10_ n11_ n12_ n13_ n14_
          have hHeld : w62.cell? ⟨gb352, 0, none⟩ = some (.int .i64 t348) ∧ w62.cell? ⟨gb352, 1, none⟩ = some (.int .i64 t349) ∧ w62.cell? ⟨gb352, 2, none⟩ = some (.string t350) := hS_
          refine norm_ (a' := ?_) ?_ ?_
          rotate_left
          ·simp only [putAll, Act.put, List.setIfInBounds_toArray, List.set_cons_zero, List.set_cons_succ]
           rfl
          refine one_ (i := 4) (N := some 67) #[true, true, true, true, true, false, false, false, false, false, false, true, false, false] rfl rfl (one_of HT_.out (by kernel_rfl)) (by decide) (fun K hK => ?_)
          refine goes_ Try.func24 (by kernel_rfl) rfl #[.int .i64 (wrap64 ((a0.size : Int) + 1))] (by rfl) rfl rfl (by (try simp only [List.map_toArray, List.map_cons, List.map_nil]); first | done | rfl | (simp only [List.length_drop, List.length_take]; rfl)) ?_
          with_reducible refine (quarrylaw02_num.calls (wrap64 ((a0.size : Int) + 1)) t375 t376 t377 _ A13.out).mono ?_
          rintro e w63 ⟨rfl, hb⟩
          refine ⟨_, rfl, ?_⟩
          have n0_ := Aside0.mk (Kd.R_below (by (with_reducible repeat (first | apply Kd.R_alloc | apply Kd.R_drewN | apply Kd.R_drew)); exact HO355.out) hb)
          have n1_ := Aside0.mk (Kd.R_below (by (with_reducible repeat (first | apply Kd.R_alloc | apply Kd.R_drewN | apply Kd.R_drew)); exact HO369.out) hb)
          have n2_ := Aside0.mk (blk_below (g := gb352) (o := .cells #[.int .i64 t348, .int .i64 t349, .string t350] 25 (0, 0)) (bk_ BK352) hb)
          have n3_ := Aside0.mk (blk_below (g := gb360) (o := .cells #[.int .i64 t356, .int .i64 t357, .string t358] 25 (0, 0)) (bk_ BK360) hb)
          have n4_ := Aside0.mk (blk_below (g := gb374) (o := .cells #[.int .i64 t370, .int .i64 t371, .string t372] 25 (0, 0)) (bk_ BK374) hb)
          have n5_ := Aside0.mk (blk_below (g := gb388) (o := .cells #[.int .i64 0, .int .i64 0, .string (⟨#[]⟩ : ByteArray)] 25 (0, 0)) (bk_ BK388) hb)
          have n6_ := Aside0.mk (below_step (by repeat (first | (with_reducible first | exact HB.out | apply below_alloc | apply pw_below_drewN | apply below_drew1 | refine below_set ?_ GE352.out | refine below_set ?_ GE360.out | refine below_set ?_ GE374.out | refine below_set ?_ GE388.out) | exact HB.out)) hb)
          clear HO355
          clear HO369
          clear BK352
          clear BK360
          clear BK374
          clear BK388
          clear HB
          have HO355 := n0_
          have HO369 := n1_
          have BK352 := n2_
          have BK360 := n3_
          have BK374 := n4_
          have BK388 := n5_
          have HB := n6_
          clear n0_ n1_ n2_ n3_ n4_ n5_ n6_
          (try clear hb)
          (try clear hb2)
          (try clear hk)
          (try clear hi)
          refine hK.out _ _ ⟨(blk_cell BK352.out 0).trans rfl, (blk_cell BK352.out 1).trans rfl, (blk_cell BK352.out 2).trans rfl⟩ (fun hHeld => ?_)
          clear hK K
          refine norm_ (a' := ?_) ?_ ?_
          rotate_left
          ·show Act.put _ (some 67) _ = _
           simp only [Act.put, List.setIfInBounds_toArray, List.set_cons_zero, List.set_cons_succ, i64_w, i32_w]
           rfl
          exact norm_ (by first | (simp only [putAll, Act.put, List.setIfInBounds_toArray, List.set_cons_zero, List.set_cons_succ]; done) | (simp only [putAll, Act.put, List.setIfInBounds_toArray, List.set_cons_zero, List.set_cons_succ]; rfl)) (hJ4_11 (gb388) _ ⟨hHeld, (by (with_reducible repeat (first | apply Kd.R_alloc | apply Kd.R_drewN | apply Kd.R_drew)); exact HO355.out), (by (with_reducible repeat (first | apply Kd.R_alloc | apply Kd.R_drewN | apply Kd.R_drew)); exact HO369.out), (bk_ BK352), (bk_ BK360), (bk_ BK374), (bk_ BK388), GW388.out, GE388.out, NB352_388.out, NB388_352.out, NB360_388.out, NB388_360.out, NB374_388.out, NB388_374.out, (by repeat (first | (with_reducible first | exact HB.out | apply below_alloc | apply pw_below_drewN | apply below_drew1 | refine below_set ?_ GE352.out | refine below_set ?_ GE360.out | refine below_set ?_ GE374.out | refine below_set ?_ GE388.out) | exact HB.out))⟩)
        ·skip
         rintro _ w62 ⟨hS_, h0_, h1_, h2_, h3_, h4_, h5_⟩
         have n0_ : Aside0 (Kd.R k25 25 w62 w.heap.size (fun k_ => some k_ ≠ (v368 : Value).ownBlock ∧ k_ ≠ gb352 ∧ k_ ≠ gb360 ∧ k_ ≠ gb374) (.slice Ao41 y353.length co41) y353) := ⟨h0_⟩
         have n1_ : Aside0 (Kd.R k25 25 w62 w.heap.size (fun k_ => some k_ ≠ (.slice Ao41 y353.length co41 : Value).ownBlock ∧ k_ ≠ gb352 ∧ k_ ≠ gb360 ∧ k_ ≠ gb374) v368 y367) := ⟨h1_⟩
         have n2_ : Aside0 (w62.heap[gb352]? = some (.cells #[.int .i64 t348, .int .i64 t349, .string t350] 25 (0, 0))) := ⟨h2_⟩
         have n3_ : Aside0 (w62.heap[gb360]? = some (.cells #[.int .i64 t356, .int .i64 t357, .string t358] 25 (0, 0))) := ⟨h3_⟩
         have n4_ : Aside0 (w62.heap[gb374]? = some (.cells #[.int .i64 t370, .int .i64 t371, .string t372] 25 (0, 0))) := ⟨h4_⟩
         have n5_ : Aside0 (Below w.heap.size w w62) := ⟨h5_⟩
         clear HO355
         clear HO369
         clear BK352
         clear BK360
         clear BK374
         clear HB
         clear h0_ h1_ h2_ h3_ h4_ h5_
         have HO355 := n0_
         have HO369 := n1_
         have BK352 := n2_
         have BK360 := n3_
         have BK374 := n4_
         have HB := n5_
         clear n0_ n1_ n2_ n3_ n4_ n5_
         have hHeld : w62.cell? ⟨gb352, 0, none⟩ = some (.int .i64 t348) ∧ w62.cell? ⟨gb352, 1, none⟩ = some (.int .i64 t349) ∧ w62.cell? ⟨gb352, 2, none⟩ = some (.string t350) := hS_
         refine norm_ (a' := ?_) ?_ ?_
         rotate_left
         ·simp only [putAll, Act.put, List.setIfInBounds_toArray, List.set_cons_zero, List.set_cons_succ]
          rfl
         refine two_ (i := 5) (j := 11) (Ni := some 68) (Nj := some 11) #[true, true, true, true, true, true, false, false, false, false, false, false, false, false] #[true, true, true, true, true, false, false, false, false, false, false, true, false, false] rfl rfl rfl rfl (two_of HT_.out (by kernel_rfl)) (by decide) (by decide) (fun K hK => ?_) (fun K hK => ?_)
         ·skip
          refine goes_ Try.func24 (by kernel_rfl) rfl #[.int .i64 1099511627776] (by rfl) rfl rfl (by (try simp only [List.map_toArray, List.map_cons, List.map_nil]); first | done | rfl | (simp only [List.length_drop, List.length_take]; rfl)) ?_
          with_reducible refine (quarrylaw02_num.calls 1099511627776 t378 t379 t380 _ A14.out).mono ?_
          rintro e w63 ⟨rfl, hb⟩
          refine ⟨_, rfl, ?_⟩
          have n0_ := Aside0.mk (Kd.R_below (by (with_reducible repeat (first | apply Kd.R_alloc | apply Kd.R_drewN | apply Kd.R_drew)); exact HO355.out) hb)
          have n1_ := Aside0.mk (Kd.R_below (by (with_reducible repeat (first | apply Kd.R_alloc | apply Kd.R_drewN | apply Kd.R_drew)); exact HO369.out) hb)
          have n2_ := Aside0.mk (blk_below (g := gb352) (o := .cells #[.int .i64 t348, .int .i64 t349, .string t350] 25 (0, 0)) (bk_ BK352) hb)
          have n3_ := Aside0.mk (blk_below (g := gb360) (o := .cells #[.int .i64 t356, .int .i64 t357, .string t358] 25 (0, 0)) (bk_ BK360) hb)
          have n4_ := Aside0.mk (blk_below (g := gb374) (o := .cells #[.int .i64 t370, .int .i64 t371, .string t372] 25 (0, 0)) (bk_ BK374) hb)
          have n5_ := Aside0.mk (below_step (by repeat (first | (with_reducible first | exact HB.out | apply below_alloc | apply pw_below_drewN | apply below_drew1 | refine below_set ?_ GE352.out | refine below_set ?_ GE360.out | refine below_set ?_ GE374.out) | exact HB.out)) hb)
          clear HO355
          clear HO369
          clear BK352
          clear BK360
          clear BK374
          clear HB
          have HO355 := n0_
          have HO369 := n1_
          have BK352 := n2_
          have BK360 := n3_
          have BK374 := n4_
          have HB := n5_
          clear n0_ n1_ n2_ n3_ n4_ n5_
          (try clear hb)
          (try clear hb2)
          (try clear hk)
          (try clear hi)
          refine hK.out _ _ ⟨(blk_cell BK352.out 0).trans rfl, (blk_cell BK352.out 1).trans rfl, (blk_cell BK352.out 2).trans rfl⟩ (fun hHeld => ?_)
          clear hK K
          refine norm_ (a' := ?_) ?_ ?_
          rotate_left
          ·show Act.put _ (some 68) _ = _
           simp only [Act.put, List.setIfInBounds_toArray, List.set_cons_zero, List.set_cons_succ, i64_w, i32_w]
           rfl
          exact norm_ (by first | (simp only [putAll, Act.put, List.setIfInBounds_toArray, List.set_cons_zero, List.set_cons_succ]; done) | (simp only [putAll, Act.put, List.setIfInBounds_toArray, List.set_cons_zero, List.set_cons_succ]; rfl)) (hJ4_5 () _ ⟨hHeld, (by (with_reducible repeat (first | apply Kd.R_alloc | apply Kd.R_drewN | apply Kd.R_drew)); exact HO355.out), (by (with_reducible repeat (first | apply Kd.R_alloc | apply Kd.R_drewN | apply Kd.R_drew)); exact HO369.out), (bk_ BK352), (bk_ BK360), (bk_ BK374), (by repeat (first | (with_reducible first | exact HB.out | apply below_alloc | apply pw_below_drewN | apply below_drew1 | refine below_set ?_ GE352.out | refine below_set ?_ GE360.out | refine below_set ?_ GE374.out) | exact HB.out))⟩)
         ·skip
          refine box_step ?hg (N := 11) ?hd (cs := #[.int .i64 0, .int .i64 0, .string (⟨#[]⟩ : ByteArray)]) (t := 25) ?hr ?_; (case hd => rfl); (case hg => rfl); (case hr => first | (go_simp; done) | (go_simp; rfl))
          intro gb388 hg w63 hbox hb
          have n0_ := Aside0.mk (Kd.R_below (Kd.R_elderB (by (with_reducible repeat (first | apply Kd.R_alloc | apply Kd.R_drewN | apply Kd.R_drew)); exact HO355.out) gb388 (Nat.le_of_eq hg.symm)) hb)
          have n1_ := Aside0.mk (Kd.R_below (Kd.R_elderB (by (with_reducible repeat (first | apply Kd.R_alloc | apply Kd.R_drewN | apply Kd.R_drew)); exact HO369.out) gb388 (Nat.le_of_eq hg.symm)) hb)
          have n2_ := Aside0.mk (blk_below (g := gb352) (o := .cells #[.int .i64 t348, .int .i64 t349, .string t350] 25 (0, 0)) (bk_ BK352) hb)
          have n3_ := Aside0.mk (blk_below (g := gb360) (o := .cells #[.int .i64 t356, .int .i64 t357, .string t358] 25 (0, 0)) (bk_ BK360) hb)
          have n4_ := Aside0.mk (blk_below (g := gb374) (o := .cells #[.int .i64 t370, .int .i64 t371, .string t372] 25 (0, 0)) (bk_ BK374) hb)
          have n5_ := Aside0.mk (below_step (by repeat (first | (with_reducible first | exact HB.out | apply below_alloc | apply pw_below_drewN | apply below_drew1 | refine below_set ?_ GE352.out | refine below_set ?_ GE360.out | refine below_set ?_ GE374.out) | exact HB.out)) hb)
          have n6_ := Aside0.mk (hbox)
          have n7_ := Aside0.mk ((by rw [hg]; exact (below_size (by repeat (first | (with_reducible first | exact HB.out | apply below_alloc | apply pw_below_drewN | apply below_drew1 | refine below_set ?_ GE352.out | refine below_set ?_ GE360.out | refine below_set ?_ GE374.out) | exact HB.out))) : w.heap.size ≤ gb388))
          have n8_ := Aside0.mk ((by rw [hg]; exact (below_size (by repeat (first | (with_reducible first | exact HB.out | apply below_alloc | apply pw_below_drewN | apply below_drew1 | refine below_set ?_ GE352.out | refine below_set ?_ GE360.out | refine below_set ?_ GE374.out) | exact HB.out))) : w.heap.size ≤ gb388))
          have n9_ := Aside0.mk ((by rw [hg]; exact Nat.ne_of_lt (blk_lt (g := gb352) (o := .cells #[.int .i64 t348, .int .i64 t349, .string t350] 25 (0, 0)) (bk_ BK352)) : gb352 ≠ gb388))
          have n10_ := Aside0.mk ((by rw [hg]; exact Nat.ne_of_gt (blk_lt (g := gb352) (o := .cells #[.int .i64 t348, .int .i64 t349, .string t350] 25 (0, 0)) (bk_ BK352)) : gb388 ≠ gb352))
          have n11_ := Aside0.mk ((by rw [hg]; exact Nat.ne_of_lt (blk_lt (g := gb360) (o := .cells #[.int .i64 t356, .int .i64 t357, .string t358] 25 (0, 0)) (bk_ BK360)) : gb360 ≠ gb388))
          have n12_ := Aside0.mk ((by rw [hg]; exact Nat.ne_of_gt (blk_lt (g := gb360) (o := .cells #[.int .i64 t356, .int .i64 t357, .string t358] 25 (0, 0)) (bk_ BK360)) : gb388 ≠ gb360))
          have n13_ := Aside0.mk ((by rw [hg]; exact Nat.ne_of_lt (blk_lt (g := gb374) (o := .cells #[.int .i64 t370, .int .i64 t371, .string t372] 25 (0, 0)) (bk_ BK374)) : gb374 ≠ gb388))
          have n14_ := Aside0.mk ((by rw [hg]; exact Nat.ne_of_gt (blk_lt (g := gb374) (o := .cells #[.int .i64 t370, .int .i64 t371, .string t372] 25 (0, 0)) (bk_ BK374)) : gb388 ≠ gb374))
          clear HO355
          clear HO369
          clear BK352
          clear BK360
          clear BK374
          clear HB
          have HO355 := n0_
          have HO369 := n1_
          have BK352 := n2_
          have BK360 := n3_
          have BK374 := n4_
          have HB := n5_
          have BK388 := n6_
          have GW388 := n7_
          have GE388 := n8_
          have NB352_388 := n9_
          have NB388_352 := n10_
          have NB360_388 := n11_
          have NB388_360 := n12_
          have NB374_388 := n13_
          have NB388_374 := n14_
          clear n0_ n1_ n2_ n3_ n4_ n5_ n6_ n7_ n8_ n9_ n10_ n11_ n12_ n13_ n14_
          clear hb hbox hg
          refine hK.out _ _ ⟨(blk_cell BK352.out 0).trans rfl, (blk_cell BK352.out 1).trans rfl, (blk_cell BK352.out 2).trans rfl⟩ (fun hHeld => ?_)
          clear hK K
          refine norm_ (a' := ?_) ?_ ?_
          rotate_left
          ·show Act.put _ (some 11) _ = _
           simp only [Act.put, List.setIfInBounds_toArray, List.set_cons_zero, List.set_cons_succ, i64_w, i32_w]
           rfl
          exact norm_ (by first | (simp only [putAll, Act.put, List.setIfInBounds_toArray, List.set_cons_zero, List.set_cons_succ]; done) | (simp only [putAll, Act.put, List.setIfInBounds_toArray, List.set_cons_zero, List.set_cons_succ]; rfl)) (hJ4_11 (gb388) _ ⟨hHeld, (by (with_reducible repeat (first | apply Kd.R_alloc | apply Kd.R_drewN | apply Kd.R_drew)); exact Kd.R_mono HO355.out (fun _ hk => ⟨hk.1.1, ⟨hk.1.2.1, ⟨hk.1.2.2.1, ⟨hk.1.2.2.2, hk.2⟩⟩⟩⟩)), (by (with_reducible repeat (first | apply Kd.R_alloc | apply Kd.R_drewN | apply Kd.R_drew)); exact Kd.R_mono HO369.out (fun _ hk => ⟨hk.1.1, ⟨hk.1.2.1, ⟨hk.1.2.2.1, ⟨hk.1.2.2.2, hk.2⟩⟩⟩⟩)), (bk_ BK352), (bk_ BK360), (bk_ BK374), (bk_ BK388), GW388.out, GE388.out, NB352_388.out, NB388_352.out, NB360_388.out, NB388_360.out, NB374_388.out, NB388_374.out, (by repeat (first | (with_reducible first | exact HB.out | apply below_alloc | apply pw_below_drewN | apply below_drew1 | refine below_set ?_ GE352.out | refine below_set ?_ GE360.out | refine below_set ?_ GE374.out | refine below_set ?_ GE388.out) | exact HB.out))⟩)
       ·skip
        rintro gb388 w63 ⟨hS_, h0_, h1_, h2_, h3_, h4_, h5_, h6_, h7_, h8_, h9_, h10_, h11_, h12_, h13_, h14_⟩
        have n0_ : Aside0 (Kd.R k25 25 w63 w.heap.size (fun k_ => some k_ ≠ (v368 : Value).ownBlock ∧ k_ ≠ gb352 ∧ k_ ≠ gb360 ∧ k_ ≠ gb374 ∧ k_ ≠ gb388) (.slice Ao41 y353.length co41) y353) := ⟨h0_⟩
        have n1_ : Aside0 (Kd.R k25 25 w63 w.heap.size (fun k_ => some k_ ≠ (.slice Ao41 y353.length co41 : Value).ownBlock ∧ k_ ≠ gb352 ∧ k_ ≠ gb360 ∧ k_ ≠ gb374 ∧ k_ ≠ gb388) v368 y367) := ⟨h1_⟩
        have n2_ : Aside0 (w63.heap[gb352]? = some (.cells #[.int .i64 t348, .int .i64 t349, .string t350] 25 (0, 0))) := ⟨h2_⟩
        have n3_ : Aside0 (w63.heap[gb360]? = some (.cells #[.int .i64 t356, .int .i64 t357, .string t358] 25 (0, 0))) := ⟨h3_⟩
        have n4_ : Aside0 (w63.heap[gb374]? = some (.cells #[.int .i64 t370, .int .i64 t371, .string t372] 25 (0, 0))) := ⟨h4_⟩
        have n5_ : Aside0 (w63.heap[gb388]? = some (.cells #[.int .i64 0, .int .i64 0, .string (⟨#[]⟩ : ByteArray)] 25 (0, 0))) := ⟨h5_⟩
        have n6_ : Aside0 (w.heap.size ≤ gb388) := ⟨h6_⟩
        have n7_ : Aside0 (w.heap.size ≤ gb388) := ⟨h7_⟩
        have n8_ : Aside0 (gb352 ≠ gb388) := ⟨h8_⟩
        have n9_ : Aside0 (gb388 ≠ gb352) := ⟨h9_⟩
        have n10_ : Aside0 (gb360 ≠ gb388) := ⟨h10_⟩
        have n11_ : Aside0 (gb388 ≠ gb360) := ⟨h11_⟩
        have n12_ : Aside0 (gb374 ≠ gb388) := ⟨h12_⟩
        have n13_ : Aside0 (gb388 ≠ gb374) := ⟨h13_⟩
        have n14_ : Aside0 (Below w.heap.size w w63) := ⟨h14_⟩
        clear HO355
        clear HO369
        clear BK352
        clear BK360
        clear BK374
        clear HB
        clear h0_ h1_ h2_ h3_ h4_ h5_ h6_ h7_ h8_ h9_ h10_ h11_ h12_ h13_ h14_
        have HO355 := n0_
        have HO369 := n1_
        have BK352 := n2_
        have BK360 := n3_
        have BK374 := n4_
        have BK388 := n5_
        have GW388 := n6_
        have GE388 := n7_
        have NB352_388 := n8_
        have NB388_352 := n9_
        have NB360_388 := n10_
        have NB388_360 := n11_
        have NB374_388 := n12_
        have NB388_374 := n13_
        have HB := n14_
        clear n0_ n1_ n2_ n3_ n4_ n5_ n6_ n7_ n8_ n9_ n10_ n11_ n12_ n13_ n14_
        have hHeld : w63.cell? ⟨gb352, 0, none⟩ = some (.int .i64 t348) ∧ w63.cell? ⟨gb352, 1, none⟩ = some (.int .i64 t349) ∧ w63.cell? ⟨gb352, 2, none⟩ = some (.string t350) := hS_
        refine norm_ (a' := ?_) ?_ ?_
        rotate_left
        ·simp only [putAll, Act.put, List.setIfInBounds_toArray, List.set_cons_zero, List.set_cons_succ]
         rfl
        refine one_ (i := 5) (N := some 68) #[true, true, true, true, true, true, false, false, false, false, false, true, false, false] rfl rfl (one_of HT_.out (by kernel_rfl)) (by decide) (fun K hK => ?_)
        refine goes_ Try.func24 (by kernel_rfl) rfl #[.int .i64 1099511627776] (by rfl) rfl rfl (by (try simp only [List.map_toArray, List.map_cons, List.map_nil]); first | done | rfl | (simp only [List.length_drop, List.length_take]; rfl)) ?_
        with_reducible refine (quarrylaw02_num.calls 1099511627776 t378 t379 t380 _ A14.out).mono ?_
        rintro e w64 ⟨rfl, hb⟩
        refine ⟨_, rfl, ?_⟩
        have n0_ := Aside0.mk (Kd.R_below (by (with_reducible repeat (first | apply Kd.R_alloc | apply Kd.R_drewN | apply Kd.R_drew)); exact HO355.out) hb)
        have n1_ := Aside0.mk (Kd.R_below (by (with_reducible repeat (first | apply Kd.R_alloc | apply Kd.R_drewN | apply Kd.R_drew)); exact HO369.out) hb)
        have n2_ := Aside0.mk (blk_below (g := gb352) (o := .cells #[.int .i64 t348, .int .i64 t349, .string t350] 25 (0, 0)) (bk_ BK352) hb)
        have n3_ := Aside0.mk (blk_below (g := gb360) (o := .cells #[.int .i64 t356, .int .i64 t357, .string t358] 25 (0, 0)) (bk_ BK360) hb)
        have n4_ := Aside0.mk (blk_below (g := gb374) (o := .cells #[.int .i64 t370, .int .i64 t371, .string t372] 25 (0, 0)) (bk_ BK374) hb)
        have n5_ := Aside0.mk (blk_below (g := gb388) (o := .cells #[.int .i64 0, .int .i64 0, .string (⟨#[]⟩ : ByteArray)] 25 (0, 0)) (bk_ BK388) hb)
        have n6_ := Aside0.mk (below_step (by repeat (first | (with_reducible first | exact HB.out | apply below_alloc | apply pw_below_drewN | apply below_drew1 | refine below_set ?_ GE352.out | refine below_set ?_ GE360.out | refine below_set ?_ GE374.out | refine below_set ?_ GE388.out) | exact HB.out)) hb)
        clear HO355
        clear HO369
        clear BK352
        clear BK360
        clear BK374
        clear BK388
        clear HB
        have HO355 := n0_
        have HO369 := n1_
        have BK352 := n2_
        have BK360 := n3_
        have BK374 := n4_
        have BK388 := n5_
        have HB := n6_
        clear n0_ n1_ n2_ n3_ n4_ n5_ n6_
        (try clear hb)
        (try clear hb2)
        (try clear hk)
        (try clear hi)
        refine hK.out _ _ ⟨(blk_cell BK352.out 0).trans rfl, (blk_cell BK352.out 1).trans rfl, (blk_cell BK352.out 2).trans rfl⟩ (fun hHeld => ?_)
        clear hK K
        refine norm_ (a' := ?_) ?_ ?_
        rotate_left
        ·show Act.put _ (some 68) _ = _
         simp only [Act.put, List.setIfInBounds_toArray, List.set_cons_zero, List.set_cons_succ, i64_w, i32_w]
         rfl
        exact norm_ (by first | (simp only [putAll, Act.put, List.setIfInBounds_toArray, List.set_cons_zero, List.set_cons_succ]; done) | (simp only [putAll, Act.put, List.setIfInBounds_toArray, List.set_cons_zero, List.set_cons_succ]; rfl)) (hJ4_5_11 (gb388) _ ⟨hHeld, (by (with_reducible repeat (first | apply Kd.R_alloc | apply Kd.R_drewN | apply Kd.R_drew)); exact HO355.out), (by (with_reducible repeat (first | apply Kd.R_alloc | apply Kd.R_drewN | apply Kd.R_drew)); exact HO369.out), (bk_ BK352), (bk_ BK360), (bk_ BK374), (bk_ BK388), GW388.out, GE388.out, NB352_388.out, NB388_352.out, NB360_388.out, NB388_360.out, NB374_388.out, NB388_374.out, (by repeat (first | (with_reducible first | exact HB.out | apply below_alloc | apply pw_below_drewN | apply below_drew1 | refine below_set ?_ GE352.out | refine below_set ?_ GE360.out | refine below_set ?_ GE374.out | refine below_set ?_ GE388.out) | exact HB.out))⟩)
      ·skip
       rintro _ w63 ⟨hS_, h0_, h1_, h2_, h3_, h4_, h5_⟩
       have n0_ : Aside0 (Kd.R k25 25 w63 w.heap.size (fun k_ => some k_ ≠ (v368 : Value).ownBlock ∧ k_ ≠ gb352 ∧ k_ ≠ gb360 ∧ k_ ≠ gb374) (.slice Ao41 y353.length co41) y353) := ⟨h0_⟩
       have n1_ : Aside0 (Kd.R k25 25 w63 w.heap.size (fun k_ => some k_ ≠ (.slice Ao41 y353.length co41 : Value).ownBlock ∧ k_ ≠ gb352 ∧ k_ ≠ gb360 ∧ k_ ≠ gb374) v368 y367) := ⟨h1_⟩
       have n2_ : Aside0 (w63.heap[gb352]? = some (.cells #[.int .i64 t348, .int .i64 t349, .string t350] 25 (0, 0))) := ⟨h2_⟩
       have n3_ : Aside0 (w63.heap[gb360]? = some (.cells #[.int .i64 t356, .int .i64 t357, .string t358] 25 (0, 0))) := ⟨h3_⟩
       have n4_ : Aside0 (w63.heap[gb374]? = some (.cells #[.int .i64 t370, .int .i64 t371, .string t372] 25 (0, 0))) := ⟨h4_⟩
       have n5_ : Aside0 (Below w.heap.size w w63) := ⟨h5_⟩
       clear HO355
       clear HO369
       clear BK352
       clear BK360
       clear BK374
       clear HB
       clear h0_ h1_ h2_ h3_ h4_ h5_
       have HO355 := n0_
       have HO369 := n1_
       have BK352 := n2_
       have BK360 := n3_
       have BK374 := n4_
       have HB := n5_
       clear n0_ n1_ n2_ n3_ n4_ n5_
       have hHeld : w63.cell? ⟨gb352, 0, none⟩ = some (.int .i64 t348) ∧ w63.cell? ⟨gb352, 1, none⟩ = some (.int .i64 t349) ∧ w63.cell? ⟨gb352, 2, none⟩ = some (.string t350) := hS_
       refine norm_ (a' := ?_) ?_ ?_
       rotate_left
       ·simp only [putAll, Act.put, List.setIfInBounds_toArray, List.set_cons_zero, List.set_cons_succ]
        rfl
       refine two_ (i := 6) (j := 11) (Ni := some 69) (Nj := some 11) #[true, true, true, true, true, true, true, false, false, false, false, false, false, false] #[true, true, true, true, true, true, false, false, false, false, false, true, false, false] rfl rfl rfl rfl (two_of HT_.out (by kernel_rfl)) (by decide) (by decide) (fun K hK => ?_) (fun K hK => ?_)
       ·skip
        refine Kd.R_lit_step k25 _ 25 ?hg (N := 69) ?hd (xs := ([(⟨t348, t349, t350⟩ : S25), (⟨t375, t376, t377⟩ : S25), (⟨t378, t379, t380⟩ : S25)] : List (S25))) (inner := [.int .i64 t348, .int .i64 t349, .string t350, .int .i64 t375, .int .i64 t376, .string t377, .int .i64 t378, .int .i64 t379, .string t380]) (ok := fun _ => True) (okp := fun _ => True) ?hr ?hp (fun _ hk => hk) trivial (Below.refl _ _) (Nat.le_refl _) (by simp) ?_; (case hd => rfl); (case hg => rfl); (case hr => first | (go_simp; done) | (go_simp; rfl)); (case hp => exact (Reps.c3 (show Kd.M k25 _ _ _ (⟨t348, t349, t350⟩ : S25) [.int .i64 t348, .int .i64 t349, .string t350] from (k25_mkM _ _ _ (⟨t348, t349, t350⟩ : S25) )) (Reps.c3 (show Kd.M k25 _ _ _ (⟨t375, t376, t377⟩ : S25) [.int .i64 t375, .int .i64 t376, .string t377] from (k25_mkM _ _ _ (⟨t375, t376, t377⟩ : S25) )) (Reps.c3 (show Kd.M k25 _ _ _ (⟨t378, t379, t380⟩ : S25) [.int .i64 t378, .int .i64 t379, .string t380] from (k25_mkM _ _ _ (⟨t378, t379, t380⟩ : S25) )) (Reps.none _ _)))))
        intro v382 w64 ho65 hb hg_ hnew_
        clear hg_ hnew_
        (first | rw [← Ny381.out] at ho65 | (simp only [Int.reduceToNat] at ho65; rw [← Ny381.out] at ho65))
        have n0_ := Aside0.mk (Kd.R_elder' (by (with_reducible repeat (first | apply Kd.R_alloc | apply Kd.R_drewN | apply Kd.R_drew)); exact HO355.out) (Kd.R_base ho65) hb)
        have n1_ := Aside0.mk (Kd.R_elder' (by (with_reducible repeat (first | apply Kd.R_alloc | apply Kd.R_drewN | apply Kd.R_drew)); exact HO369.out) (Kd.R_base ho65) hb)
        have n2_ := Aside0.mk (Kd.R_lower (Kd.R_newB (Kd.R_newB (Kd.R_newB (Kd.R_new' (Kd.R_new' ho65 (Kd.R_lt (by (with_reducible repeat (first | apply Kd.R_alloc | apply Kd.R_drewN | apply Kd.R_drew)); exact HO355.out))) (Kd.R_lt (by (with_reducible repeat (first | apply Kd.R_alloc | apply Kd.R_drewN | apply Kd.R_drew)); exact HO369.out))) (g := gb352) (o := .cells #[.int .i64 t348, .int .i64 t349, .string t350] 25 (0, 0)) (bk_ BK352)) (g := gb360) (o := .cells #[.int .i64 t356, .int .i64 t357, .string t358] 25 (0, 0)) (bk_ BK360)) (g := gb374) (o := .cells #[.int .i64 t370, .int .i64 t371, .string t372] 25 (0, 0)) (bk_ BK374)) (below_size (by repeat (first | (with_reducible first | exact HB.out | apply below_alloc | apply pw_below_drewN | apply below_drew1 | refine below_set ?_ GE352.out | refine below_set ?_ GE360.out | refine below_set ?_ GE374.out) | exact HB.out))))
        have n3_ := Aside0.mk (blk_below (g := gb352) (o := .cells #[.int .i64 t348, .int .i64 t349, .string t350] 25 (0, 0)) (bk_ BK352) hb)
        have n4_ := Aside0.mk (blk_below (g := gb360) (o := .cells #[.int .i64 t356, .int .i64 t357, .string t358] 25 (0, 0)) (bk_ BK360) hb)
        have n5_ := Aside0.mk (blk_below (g := gb374) (o := .cells #[.int .i64 t370, .int .i64 t371, .string t372] 25 (0, 0)) (bk_ BK374) hb)
        have n6_ := Aside0.mk (below_step (by repeat (first | (with_reducible first | exact HB.out | apply below_alloc | apply pw_below_drewN | apply below_drew1 | refine below_set ?_ GE352.out | refine below_set ?_ GE360.out | refine below_set ?_ GE374.out) | exact HB.out)) hb)
        clear HO355
        clear HO369
        clear BK352
        clear BK360
        clear BK374
        clear HB
        have HO355 := n0_
        have HO369 := n1_
        have HO383 := n2_
        have BK352 := n3_
        have BK360 := n4_
        have BK374 := n5_
        have HB := n6_
        clear n0_ n1_ n2_ n3_ n4_ n5_ n6_
        clear hb ho65
        refine hK.out _ _ ⟨(blk_cell BK352.out 0).trans rfl, (blk_cell BK352.out 1).trans rfl, (blk_cell BK352.out 2).trans rfl⟩ (fun hHeld => ?_)
        clear hK K
        refine norm_ (a' := ?_) ?_ ?_
        rotate_left
        ·show Act.put _ (some 69) _ = _
         simp only [Act.put, List.setIfInBounds_toArray, List.set_cons_zero, List.set_cons_succ, i64_w, i32_w]
         rfl
        exact norm_ (by first | (simp only [putAll, Act.put, List.setIfInBounds_toArray, List.set_cons_zero, List.set_cons_succ]; done) | (simp only [putAll, Act.put, List.setIfInBounds_toArray, List.set_cons_zero, List.set_cons_succ]; rfl)) (hJ4_5_6 (v382) _ ⟨hHeld, (by (with_reducible repeat (first | apply Kd.R_alloc | apply Kd.R_drewN | apply Kd.R_drew)); exact Kd.R_mono HO355.out (fun _ hk => ⟨hk.1.1, ⟨hk.2, ⟨hk.1.2.1, ⟨hk.1.2.2.1, hk.1.2.2.2⟩⟩⟩⟩)), (by (with_reducible repeat (first | apply Kd.R_alloc | apply Kd.R_drewN | apply Kd.R_drew)); exact Kd.R_mono HO369.out (fun _ hk => ⟨hk.1.1, ⟨hk.2, ⟨hk.1.2.1, ⟨hk.1.2.2.1, hk.1.2.2.2⟩⟩⟩⟩)), (by (with_reducible repeat (first | apply Kd.R_alloc | apply Kd.R_drewN | apply Kd.R_drew)); exact Kd.R_mono HO383.out (fun _ hk => ⟨hk.1.1.1.1.2, ⟨hk.1.1.1.2, ⟨hk.1.1.2, ⟨hk.1.2, hk.2⟩⟩⟩⟩)), (bk_ BK352), (bk_ BK360), (bk_ BK374), (by repeat (first | (with_reducible first | exact HB.out | apply below_alloc | apply pw_below_drewN | apply below_drew1 | refine below_set ?_ GE352.out | refine below_set ?_ GE360.out | refine below_set ?_ GE374.out) | exact HB.out))⟩)
       ·skip
        refine box_step ?hg (N := 11) ?hd (cs := #[.int .i64 0, .int .i64 0, .string (⟨#[]⟩ : ByteArray)]) (t := 25) ?hr ?_; (case hd => rfl); (case hg => rfl); (case hr => first | (go_simp; done) | (go_simp; rfl))
        intro gb388 hg w64 hbox hb
        have n0_ := Aside0.mk (Kd.R_below (Kd.R_elderB (by (with_reducible repeat (first | apply Kd.R_alloc | apply Kd.R_drewN | apply Kd.R_drew)); exact HO355.out) gb388 (Nat.le_of_eq hg.symm)) hb)
        have n1_ := Aside0.mk (Kd.R_below (Kd.R_elderB (by (with_reducible repeat (first | apply Kd.R_alloc | apply Kd.R_drewN | apply Kd.R_drew)); exact HO369.out) gb388 (Nat.le_of_eq hg.symm)) hb)
        have n2_ := Aside0.mk (blk_below (g := gb352) (o := .cells #[.int .i64 t348, .int .i64 t349, .string t350] 25 (0, 0)) (bk_ BK352) hb)
        have n3_ := Aside0.mk (blk_below (g := gb360) (o := .cells #[.int .i64 t356, .int .i64 t357, .string t358] 25 (0, 0)) (bk_ BK360) hb)
        have n4_ := Aside0.mk (blk_below (g := gb374) (o := .cells #[.int .i64 t370, .int .i64 t371, .string t372] 25 (0, 0)) (bk_ BK374) hb)
        have n5_ := Aside0.mk (below_step (by repeat (first | (with_reducible first | exact HB.out | apply below_alloc | apply pw_below_drewN | apply below_drew1 | refine below_set ?_ GE352.out | refine below_set ?_ GE360.out | refine below_set ?_ GE374.out) | exact HB.out)) hb)
        have n6_ := Aside0.mk (hbox)
        have n7_ := Aside0.mk ((by rw [hg]; exact (below_size (by repeat (first | (with_reducible first | exact HB.out | apply below_alloc | apply pw_below_drewN | apply below_drew1 | refine below_set ?_ GE352.out | refine below_set ?_ GE360.out | refine below_set ?_ GE374.out) | exact HB.out))) : w.heap.size ≤ gb388))
        have n8_ := Aside0.mk ((by rw [hg]; exact (below_size (by repeat (first | (with_reducible first | exact HB.out | apply below_alloc | apply pw_below_drewN | apply below_drew1 | refine below_set ?_ GE352.out | refine below_set ?_ GE360.out | refine below_set ?_ GE374.out) | exact HB.out))) : w.heap.size ≤ gb388))
        have n9_ := Aside0.mk ((by rw [hg]; exact Nat.ne_of_lt (blk_lt (g := gb352) (o := .cells #[.int .i64 t348, .int .i64 t349, .string t350] 25 (0, 0)) (bk_ BK352)) : gb352 ≠ gb388))
        have n10_ := Aside0.mk ((by rw [hg]; exact Nat.ne_of_gt (blk_lt (g := gb352) (o := .cells #[.int .i64 t348, .int .i64 t349, .string t350] 25 (0, 0)) (bk_ BK352)) : gb388 ≠ gb352))
        have n11_ := Aside0.mk ((by rw [hg]; exact Nat.ne_of_lt (blk_lt (g := gb360) (o := .cells #[.int .i64 t356, .int .i64 t357, .string t358] 25 (0, 0)) (bk_ BK360)) : gb360 ≠ gb388))
        have n12_ := Aside0.mk ((by rw [hg]; exact Nat.ne_of_gt (blk_lt (g := gb360) (o := .cells #[.int .i64 t356, .int .i64 t357, .string t358] 25 (0, 0)) (bk_ BK360)) : gb388 ≠ gb360))
        have n13_ := Aside0.mk ((by rw [hg]; exact Nat.ne_of_lt (blk_lt (g := gb374) (o := .cells #[.int .i64 t370, .int .i64 t371, .string t372] 25 (0, 0)) (bk_ BK374)) : gb374 ≠ gb388))
        have n14_ := Aside0.mk ((by rw [hg]; exact Nat.ne_of_gt (blk_lt (g := gb374) (o := .cells #[.int .i64 t370, .int .i64 t371, .string t372] 25 (0, 0)) (bk_ BK374)) : gb388 ≠ gb374))
        clear HO355
        clear HO369
        clear BK352
        clear BK360
        clear BK374
        clear HB
        have HO355 := n0_
        have HO369 := n1_
        have BK352 := n2_
        have BK360 := n3_
        have BK374 := n4_
        have HB := n5_
        have BK388 := n6_
        have GW388 := n7_
        have GE388 := n8_
        have NB352_388 := n9_
        have NB388_352 := n10_
        have NB360_388 := n11_
        have NB388_360 := n12_
        have NB374_388 := n13_
        have NB388_374 := n14_
        clear n0_ n1_ n2_ n3_ n4_ n5_ n6_ n7_ n8_ n9_ n10_ n11_ n12_ n13_ n14_
        clear hb hbox hg
        refine hK.out _ _ ⟨(blk_cell BK352.out 0).trans rfl, (blk_cell BK352.out 1).trans rfl, (blk_cell BK352.out 2).trans rfl⟩ (fun hHeld => ?_)
        clear hK K
        refine norm_ (a' := ?_) ?_ ?_
        rotate_left
        ·show Act.put _ (some 11) _ = _
         simp only [Act.put, List.setIfInBounds_toArray, List.set_cons_zero, List.set_cons_succ, i64_w, i32_w]
         rfl
        exact norm_ (by first | (simp only [putAll, Act.put, List.setIfInBounds_toArray, List.set_cons_zero, List.set_cons_succ]; done) | (simp only [putAll, Act.put, List.setIfInBounds_toArray, List.set_cons_zero, List.set_cons_succ]; rfl)) (hJ4_5_11 (gb388) _ ⟨hHeld, (by (with_reducible repeat (first | apply Kd.R_alloc | apply Kd.R_drewN | apply Kd.R_drew)); exact Kd.R_mono HO355.out (fun _ hk => ⟨hk.1.1, ⟨hk.1.2.1, ⟨hk.1.2.2.1, ⟨hk.1.2.2.2, hk.2⟩⟩⟩⟩)), (by (with_reducible repeat (first | apply Kd.R_alloc | apply Kd.R_drewN | apply Kd.R_drew)); exact Kd.R_mono HO369.out (fun _ hk => ⟨hk.1.1, ⟨hk.1.2.1, ⟨hk.1.2.2.1, ⟨hk.1.2.2.2, hk.2⟩⟩⟩⟩)), (bk_ BK352), (bk_ BK360), (bk_ BK374), (bk_ BK388), GW388.out, GE388.out, NB352_388.out, NB388_352.out, NB360_388.out, NB388_360.out, NB374_388.out, NB388_374.out, (by repeat (first | (with_reducible first | exact HB.out | apply below_alloc | apply pw_below_drewN | apply below_drew1 | refine below_set ?_ GE352.out | refine below_set ?_ GE360.out | refine below_set ?_ GE374.out | refine below_set ?_ GE388.out) | exact HB.out))⟩)
     ·skip
      rintro gb388 w64 ⟨hS_, h0_, h1_, h2_, h3_, h4_, h5_, h6_, h7_, h8_, h9_, h10_, h11_, h12_, h13_, h14_⟩
      have n0_ : Aside0 (Kd.R k25 25 w64 w.heap.size (fun k_ => some k_ ≠ (v368 : Value).ownBlock ∧ k_ ≠ gb352 ∧ k_ ≠ gb360 ∧ k_ ≠ gb374 ∧ k_ ≠ gb388) (.slice Ao41 y353.length co41) y353) := ⟨h0_⟩
      have n1_ : Aside0 (Kd.R k25 25 w64 w.heap.size (fun k_ => some k_ ≠ (.slice Ao41 y353.length co41 : Value).ownBlock ∧ k_ ≠ gb352 ∧ k_ ≠ gb360 ∧ k_ ≠ gb374 ∧ k_ ≠ gb388) v368 y367) := ⟨h1_⟩
      have n2_ : Aside0 (w64.heap[gb352]? = some (.cells #[.int .i64 t348, .int .i64 t349, .string t350] 25 (0, 0))) := ⟨h2_⟩
      have n3_ : Aside0 (w64.heap[gb360]? = some (.cells #[.int .i64 t356, .int .i64 t357, .string t358] 25 (0, 0))) := ⟨h3_⟩
      have n4_ : Aside0 (w64.heap[gb374]? = some (.cells #[.int .i64 t370, .int .i64 t371, .string t372] 25 (0, 0))) := ⟨h4_⟩
      have n5_ : Aside0 (w64.heap[gb388]? = some (.cells #[.int .i64 0, .int .i64 0, .string (⟨#[]⟩ : ByteArray)] 25 (0, 0))) := ⟨h5_⟩
      have n6_ : Aside0 (w.heap.size ≤ gb388) := ⟨h6_⟩
      have n7_ : Aside0 (w.heap.size ≤ gb388) := ⟨h7_⟩
      have n8_ : Aside0 (gb352 ≠ gb388) := ⟨h8_⟩
      have n9_ : Aside0 (gb388 ≠ gb352) := ⟨h9_⟩
      have n10_ : Aside0 (gb360 ≠ gb388) := ⟨h10_⟩
      have n11_ : Aside0 (gb388 ≠ gb360) := ⟨h11_⟩
      have n12_ : Aside0 (gb374 ≠ gb388) := ⟨h12_⟩
      have n13_ : Aside0 (gb388 ≠ gb374) := ⟨h13_⟩
      have n14_ : Aside0 (Below w.heap.size w w64) := ⟨h14_⟩
      clear HO355
      clear HO369
      clear BK352
      clear BK360
      clear BK374
      clear HB
      clear h0_ h1_ h2_ h3_ h4_ h5_ h6_ h7_ h8_ h9_ h10_ h11_ h12_ h13_ h14_
      have HO355 := n0_
      have HO369 := n1_
      have BK352 := n2_
      have BK360 := n3_
      have BK374 := n4_
      have BK388 := n5_
      have GW388 := n6_
      have GE388 := n7_
      have NB352_388 := n8_
      have NB388_352 := n9_
      have NB360_388 := n10_
      have NB388_360 := n11_
      have NB374_388 := n12_
      have NB388_374 := n13_
      have HB := n14_
      clear n0_ n1_ n2_ n3_ n4_ n5_ n6_ n7_ n8_ n9_ n10_ n11_ n12_ n13_ n14_
      have hHeld : w64.cell? ⟨gb352, 0, none⟩ = some (.int .i64 t348) ∧ w64.cell? ⟨gb352, 1, none⟩ = some (.int .i64 t349) ∧ w64.cell? ⟨gb352, 2, none⟩ = some (.string t350) := hS_
      refine norm_ (a' := ?_) ?_ ?_
      rotate_left
      ·simp only [putAll, Act.put, List.setIfInBounds_toArray, List.set_cons_zero, List.set_cons_succ]
       rfl
      refine one_ (i := 6) (N := some 69) #[true, true, true, true, true, true, true, false, false, false, false, true, false, false] rfl rfl (one_of HT_.out (by kernel_rfl)) (by decide) (fun K hK => ?_)
      refine Kd.R_lit_step k25 _ 25 ?hg (N := 69) ?hd (xs := ([(⟨t348, t349, t350⟩ : S25), (⟨t375, t376, t377⟩ : S25), (⟨t378, t379, t380⟩ : S25)] : List (S25))) (inner := [.int .i64 t348, .int .i64 t349, .string t350, .int .i64 t375, .int .i64 t376, .string t377, .int .i64 t378, .int .i64 t379, .string t380]) (ok := fun _ => True) (okp := fun _ => True) ?hr ?hp (fun _ hk => hk) trivial (Below.refl _ _) (Nat.le_refl _) (by simp) ?_; (case hd => rfl); (case hg => rfl); (case hr => first | (go_simp; done) | (go_simp; rfl)); (case hp => exact (Reps.c3 (show Kd.M k25 _ _ _ (⟨t348, t349, t350⟩ : S25) [.int .i64 t348, .int .i64 t349, .string t350] from (k25_mkM _ _ _ (⟨t348, t349, t350⟩ : S25) )) (Reps.c3 (show Kd.M k25 _ _ _ (⟨t375, t376, t377⟩ : S25) [.int .i64 t375, .int .i64 t376, .string t377] from (k25_mkM _ _ _ (⟨t375, t376, t377⟩ : S25) )) (Reps.c3 (show Kd.M k25 _ _ _ (⟨t378, t379, t380⟩ : S25) [.int .i64 t378, .int .i64 t379, .string t380] from (k25_mkM _ _ _ (⟨t378, t379, t380⟩ : S25) )) (Reps.none _ _)))))
      intro v382 w65 ho66 hb hg_ hnew_
      clear hg_ hnew_
      (first | rw [← Ny381.out] at ho66 | (simp only [Int.reduceToNat] at ho66; rw [← Ny381.out] at ho66))
      have n0_ := Aside0.mk (Kd.R_elder' (by (with_reducible repeat (first | apply Kd.R_alloc | apply Kd.R_drewN | apply Kd.R_drew)); exact HO355.out) (Kd.R_base ho66) hb)
      have n1_ := Aside0.mk (Kd.R_elder' (by (with_reducible repeat (first | apply Kd.R_alloc | apply Kd.R_drewN | apply Kd.R_drew)); exact HO369.out) (Kd.R_base ho66) hb)
      have n2_ := Aside0.mk (Kd.R_lower (Kd.R_newB (Kd.R_newB (Kd.R_newB (Kd.R_newB (Kd.R_new' (Kd.R_new' ho66 (Kd.R_lt (by (with_reducible repeat (first | apply Kd.R_alloc | apply Kd.R_drewN | apply Kd.R_drew)); exact HO355.out))) (Kd.R_lt (by (with_reducible repeat (first | apply Kd.R_alloc | apply Kd.R_drewN | apply Kd.R_drew)); exact HO369.out))) (g := gb352) (o := .cells #[.int .i64 t348, .int .i64 t349, .string t350] 25 (0, 0)) (bk_ BK352)) (g := gb360) (o := .cells #[.int .i64 t356, .int .i64 t357, .string t358] 25 (0, 0)) (bk_ BK360)) (g := gb374) (o := .cells #[.int .i64 t370, .int .i64 t371, .string t372] 25 (0, 0)) (bk_ BK374)) (g := gb388) (o := .cells #[.int .i64 0, .int .i64 0, .string (⟨#[]⟩ : ByteArray)] 25 (0, 0)) (bk_ BK388)) (below_size (by repeat (first | (with_reducible first | exact HB.out | apply below_alloc | apply pw_below_drewN | apply below_drew1 | refine below_set ?_ GE352.out | refine below_set ?_ GE360.out | refine below_set ?_ GE374.out | refine below_set ?_ GE388.out) | exact HB.out))))
      have n3_ := Aside0.mk (blk_below (g := gb352) (o := .cells #[.int .i64 t348, .int .i64 t349, .string t350] 25 (0, 0)) (bk_ BK352) hb)
      have n4_ := Aside0.mk (blk_below (g := gb360) (o := .cells #[.int .i64 t356, .int .i64 t357, .string t358] 25 (0, 0)) (bk_ BK360) hb)
      have n5_ := Aside0.mk (blk_below (g := gb374) (o := .cells #[.int .i64 t370, .int .i64 t371, .string t372] 25 (0, 0)) (bk_ BK374) hb)
      have n6_ := Aside0.mk (blk_below (g := gb388) (o := .cells #[.int .i64 0, .int .i64 0, .string (⟨#[]⟩ : ByteArray)] 25 (0, 0)) (bk_ BK388) hb)
      have n7_ := Aside0.mk (below_step (by repeat (first | (with_reducible first | exact HB.out | apply below_alloc | apply pw_below_drewN | apply below_drew1 | refine below_set ?_ GE352.out | refine below_set ?_ GE360.out | refine below_set ?_ GE374.out | refine below_set ?_ GE388.out) | exact HB.out)) hb)
      clear HO355
      clear HO369
      clear BK352
      clear BK360
      clear BK374
      clear BK388
      clear HB
      have HO355 := n0_
      have HO369 := n1_
      have HO383 := n2_
      have BK352 := n3_
      have BK360 := n4_
      have BK374 := n5_
      have BK388 := n6_
      have HB := n7_
      clear n0_ n1_ n2_ n3_ n4_ n5_ n6_ n7_
      clear hb ho66
      refine hK.out _ _ ⟨(blk_cell BK352.out 0).trans rfl, (blk_cell BK352.out 1).trans rfl, (blk_cell BK352.out 2).trans rfl⟩ (fun hHeld => ?_)
      clear hK K
      refine norm_ (a' := ?_) ?_ ?_
      rotate_left
      ·show Act.put _ (some 69) _ = _
       simp only [Act.put, List.setIfInBounds_toArray, List.set_cons_zero, List.set_cons_succ, i64_w, i32_w]
       rfl
      exact norm_ (by first | (simp only [putAll, Act.put, List.setIfInBounds_toArray, List.set_cons_zero, List.set_cons_succ]; done) | (simp only [putAll, Act.put, List.setIfInBounds_toArray, List.set_cons_zero, List.set_cons_succ]; rfl)) (hJ4_5_6_11 (v382, gb388) _ ⟨hHeld, (by (with_reducible repeat (first | apply Kd.R_alloc | apply Kd.R_drewN | apply Kd.R_drew)); exact Kd.R_mono HO355.out (fun _ hk => ⟨hk.1.1, ⟨hk.2, ⟨hk.1.2.1, ⟨hk.1.2.2.1, ⟨hk.1.2.2.2.1, hk.1.2.2.2.2⟩⟩⟩⟩⟩)), (by (with_reducible repeat (first | apply Kd.R_alloc | apply Kd.R_drewN | apply Kd.R_drew)); exact Kd.R_mono HO369.out (fun _ hk => ⟨hk.1.1, ⟨hk.2, ⟨hk.1.2.1, ⟨hk.1.2.2.1, ⟨hk.1.2.2.2.1, hk.1.2.2.2.2⟩⟩⟩⟩⟩)), (by (with_reducible repeat (first | apply Kd.R_alloc | apply Kd.R_drewN | apply Kd.R_drew)); exact Kd.R_mono HO383.out (fun _ hk => ⟨hk.1.1.1.1.1.2, ⟨hk.1.1.1.1.2, ⟨hk.1.1.1.2, ⟨hk.1.1.2, ⟨hk.1.2, hk.2⟩⟩⟩⟩⟩)), (bk_ BK352), (bk_ BK360), (bk_ BK374), (bk_ BK388), GW388.out, GE388.out, NB352_388.out, NB388_352.out, NB360_388.out, NB388_360.out, NB374_388.out, NB388_374.out, (by repeat (first | (with_reducible first | exact HB.out | apply below_alloc | apply pw_below_drewN | apply below_drew1 | refine below_set ?_ GE352.out | refine below_set ?_ GE360.out | refine below_set ?_ GE374.out | refine below_set ?_ GE388.out) | exact HB.out))⟩)
    ·skip
     rintro v382 w65 ⟨hS_, h0_, h1_, h2_, h3_, h4_, h5_, h6_⟩
     have n0_ : Aside0 (Kd.R k25 25 w65 w.heap.size (fun k_ => some k_ ≠ (v368 : Value).ownBlock ∧ some k_ ≠ (v382 : Value).ownBlock ∧ k_ ≠ gb352 ∧ k_ ≠ gb360 ∧ k_ ≠ gb374) (.slice Ao41 y353.length co41) y353) := ⟨h0_⟩
     have n1_ : Aside0 (Kd.R k25 25 w65 w.heap.size (fun k_ => some k_ ≠ (.slice Ao41 y353.length co41 : Value).ownBlock ∧ some k_ ≠ (v382 : Value).ownBlock ∧ k_ ≠ gb352 ∧ k_ ≠ gb360 ∧ k_ ≠ gb374) v368 y367) := ⟨h1_⟩
     have n2_ : Aside0 (Kd.R k25 25 w65 w.heap.size (fun k_ => some k_ ≠ (.slice Ao41 y353.length co41 : Value).ownBlock ∧ some k_ ≠ (v368 : Value).ownBlock ∧ k_ ≠ gb352 ∧ k_ ≠ gb360 ∧ k_ ≠ gb374) v382 y381) := ⟨h2_⟩
     have n3_ : Aside0 (w65.heap[gb352]? = some (.cells #[.int .i64 t348, .int .i64 t349, .string t350] 25 (0, 0))) := ⟨h3_⟩
     have n4_ : Aside0 (w65.heap[gb360]? = some (.cells #[.int .i64 t356, .int .i64 t357, .string t358] 25 (0, 0))) := ⟨h4_⟩
     have n5_ : Aside0 (w65.heap[gb374]? = some (.cells #[.int .i64 t370, .int .i64 t371, .string t372] 25 (0, 0))) := ⟨h5_⟩
     have n6_ : Aside0 (Below w.heap.size w w65) := ⟨h6_⟩
     clear HO355
     clear HO369
     clear BK352
     clear BK360
     clear BK374
     clear HB
     clear h0_ h1_ h2_ h3_ h4_ h5_ h6_
     have HO355 := n0_
     have HO369 := n1_
     have HO383 := n2_
     have BK352 := n3_
     have BK360 := n4_
     have BK374 := n5_
     have HB := n6_
     clear n0_ n1_ n2_ n3_ n4_ n5_ n6_
     have hHeld : w65.cell? ⟨gb352, 0, none⟩ = some (.int .i64 t348) ∧ w65.cell? ⟨gb352, 1, none⟩ = some (.int .i64 t349) ∧ w65.cell? ⟨gb352, 2, none⟩ = some (.string t350) := hS_
     obtain ⟨Ao66, co66, eo66⟩ := Kd.R_slice HO383.out
     (first | subst eo66 | (injection eo66 with f1_ f2_ f3_; have f4_ := f1_.symm; have f5_ := f3_.symm; clear f1_ f2_ f3_; subst f4_; subst f5_))
     refine norm_ (a' := ?_) ?_ ?_
     rotate_left
     ·simp only [putAll, Act.put, List.setIfInBounds_toArray, List.set_cons_zero, List.set_cons_succ]
      rfl
     refine two_ (i := 7) (j := 11) (Ni := some 70) (Nj := some 11) #[true, true, true, true, true, true, true, true, false, false, false, false, false, false] #[true, true, true, true, true, true, true, false, false, false, false, true, false, false] rfl rfl rfl rfl (two_of HT_.out (by kernel_rfl)) (by decide) (by decide) (fun K hK => ?_) (fun K hK => ?_)
     ·skip
      refine goes_ Try.func12 (by kernel_rfl) rfl #[.int .i64 5, .slice Ao66 y381.length co66] (by rfl) rfl rfl (by (try simp only [List.map_toArray, List.map_cons, List.map_nil]); first | done | rfl | (simp only [List.length_drop, List.length_take]; rfl)) ?_
      with_reducible refine (calc_Call.print 5 _ _ y381 t384 t385 t386 t387 _ ?side1 ?side2 A15.out).mono ?_
      (case side1 => repeat (first | exact (Kd.R_reads' HO383.out).2.2 | (with_reducible refine Kd.C_alloc ?_ _) | (with_reducible refine Kd.C_drewN ?_ _) | (with_reducible refine Kd.C_drew ?_)))
      (case side2 => exact (Kd.R_reads' HO383.out).2.1)
      rintro e w67 ⟨rfl, hb⟩
      refine ⟨_, rfl, ?_⟩
      have n0_ := Aside0.mk (Kd.R_below (by (with_reducible repeat (first | apply Kd.R_alloc | apply Kd.R_drewN | apply Kd.R_drew)); exact HO355.out) hb)
      have n1_ := Aside0.mk (Kd.R_below (by (with_reducible repeat (first | apply Kd.R_alloc | apply Kd.R_drewN | apply Kd.R_drew)); exact HO369.out) hb)
      have n2_ := Aside0.mk (Kd.R_below (by (with_reducible repeat (first | apply Kd.R_alloc | apply Kd.R_drewN | apply Kd.R_drew)); exact HO383.out) hb)
      have n3_ := Aside0.mk (blk_below (g := gb352) (o := .cells #[.int .i64 t348, .int .i64 t349, .string t350] 25 (0, 0)) (bk_ BK352) hb)
      have n4_ := Aside0.mk (blk_below (g := gb360) (o := .cells #[.int .i64 t356, .int .i64 t357, .string t358] 25 (0, 0)) (bk_ BK360) hb)
      have n5_ := Aside0.mk (blk_below (g := gb374) (o := .cells #[.int .i64 t370, .int .i64 t371, .string t372] 25 (0, 0)) (bk_ BK374) hb)
      have n6_ := Aside0.mk (below_step (by repeat (first | (with_reducible first | exact HB.out | apply below_alloc | apply pw_below_drewN | apply below_drew1 | refine below_set ?_ GE352.out | refine below_set ?_ GE360.out | refine below_set ?_ GE374.out) | exact HB.out)) hb)
      clear HO355
      clear HO369
      clear HO383
      clear BK352
      clear BK360
      clear BK374
      clear HB
      have HO355 := n0_
      have HO369 := n1_
      have HO383 := n2_
      have BK352 := n3_
      have BK360 := n4_
      have BK374 := n5_
      have HB := n6_
      clear n0_ n1_ n2_ n3_ n4_ n5_ n6_
      (try clear hb)
      (try clear hb2)
      (try clear hk)
      (try clear hi)
      refine hK.out _ _ ⟨(blk_cell BK352.out 0).trans rfl, (blk_cell BK352.out 1).trans rfl, (blk_cell BK352.out 2).trans rfl⟩ (fun hHeld => ?_)
      clear hK K
      refine norm_ (a' := ?_) ?_ ?_
      rotate_left
      ·show Act.put _ (some 70) _ = _
       simp only [Act.put, List.setIfInBounds_toArray, List.set_cons_zero, List.set_cons_succ, i64_w, i32_w]
       rfl
      refine pure_ (i := 8) (N := some 62) (v := ?_) (a' := ?_) #[true, true, true, true, true, true, true, true, true, false, false, false, false, false] rfl rfl (any_of HT_.out (by kernel_rfl)) (fun _ _ _ h => h) (Or.inl ⟨by rfl, ?_⟩) ?_ ?_
      rotate_left
      ·intro w'
       go_simp
       with_reducible rfl
      rotate_left
      ·simp only [Act.put, List.setIfInBounds_toArray, List.set_cons_zero, List.set_cons_succ, i64_w, i32_w]
       rfl
      refine pure_ (i := 9) (N := some 71) (v := ?_) (a' := ?_) #[true, true, true, true, true, true, true, true, true, true, false, false, false, false] rfl rfl (any_of HT_.out (by kernel_rfl)) (fun _ _ _ h => h) (Or.inl ⟨by rfl, ?_⟩) ?_ ?_
      rotate_left
      ·intro w'
       go_simp
       with_reducible rfl
      rotate_left
      ·simp only [Act.put, List.setIfInBounds_toArray, List.set_cons_zero, List.set_cons_succ, i64_w, i32_w]
       rfl
      refine pure_ (i := 10) (N := some 72) (v := ?_) (a' := ?_) #[true, true, true, true, true, true, true, true, true, true, true, false, false, false] rfl rfl (any_of HT_.out (by kernel_rfl)) (fun _ _ _ h => h) (Or.inl ⟨by rfl, ?_⟩) ?_ ?_
      rotate_left
      ·intro w'
       go_simp
       with_reducible rfl
      rotate_left
      ·simp only [Act.put, List.setIfInBounds_toArray, List.set_cons_zero, List.set_cons_succ, i64_w, i32_w]
       rfl
      exact norm_ (by first | (simp only [putAll, Act.put, List.setIfInBounds_toArray, List.set_cons_zero, List.set_cons_succ]; done) | (simp only [putAll, Act.put, List.setIfInBounds_toArray, List.set_cons_zero, List.set_cons_succ]; rfl)) (hJ4_5_6_7 (.slice Ao66 y381.length co66) _ ⟨hHeld, (by (with_reducible repeat (first | apply Kd.R_alloc | apply Kd.R_drewN | apply Kd.R_drew)); exact HO355.out), (by (with_reducible repeat (first | apply Kd.R_alloc | apply Kd.R_drewN | apply Kd.R_drew)); exact HO369.out), (by (with_reducible repeat (first | apply Kd.R_alloc | apply Kd.R_drewN | apply Kd.R_drew)); exact HO383.out), (bk_ BK352), (bk_ BK360), (bk_ BK374), (by repeat (first | (with_reducible first | exact HB.out | apply below_alloc | apply pw_below_drewN | apply below_drew1 | refine below_set ?_ GE352.out | refine below_set ?_ GE360.out | refine below_set ?_ GE374.out) | exact HB.out))⟩)
     ·skip
      refine box_step ?hg (N := 11) ?hd (cs := #[.int .i64 0, .int .i64 0, .string (⟨#[]⟩ : ByteArray)]) (t := 25) ?hr ?_; (case hd => rfl); (case hg => rfl); (case hr => first | (go_simp; done) | (go_simp; rfl))
      intro gb388 hg w66 hbox hb
      have n0_ := Aside0.mk (Kd.R_below (Kd.R_elderB (by (with_reducible repeat (first | apply Kd.R_alloc | apply Kd.R_drewN | apply Kd.R_drew)); exact HO355.out) gb388 (Nat.le_of_eq hg.symm)) hb)
      have n1_ := Aside0.mk (Kd.R_below (Kd.R_elderB (by (with_reducible repeat (first | apply Kd.R_alloc | apply Kd.R_drewN | apply Kd.R_drew)); exact HO369.out) gb388 (Nat.le_of_eq hg.symm)) hb)
      have n2_ := Aside0.mk (Kd.R_below (Kd.R_elderB (by (with_reducible repeat (first | apply Kd.R_alloc | apply Kd.R_drewN | apply Kd.R_drew)); exact HO383.out) gb388 (Nat.le_of_eq hg.symm)) hb)
      have n3_ := Aside0.mk (blk_below (g := gb352) (o := .cells #[.int .i64 t348, .int .i64 t349, .string t350] 25 (0, 0)) (bk_ BK352) hb)
      have n4_ := Aside0.mk (blk_below (g := gb360) (o := .cells #[.int .i64 t356, .int .i64 t357, .string t358] 25 (0, 0)) (bk_ BK360) hb)
      have n5_ := Aside0.mk (blk_below (g := gb374) (o := .cells #[.int .i64 t370, .int .i64 t371, .string t372] 25 (0, 0)) (bk_ BK374) hb)
      have n6_ := Aside0.mk (below_step (by repeat (first | (with_reducible first | exact HB.out | apply below_alloc | apply pw_below_drewN | apply below_drew1 | refine below_set ?_ GE352.out | refine below_set ?_ GE360.out | refine below_set ?_ GE374.out) | exact HB.out)) hb)
      have n7_ := Aside0.mk (hbox)
      have n8_ := Aside0.mk ((by rw [hg]; exact (below_size (by repeat (first | (with_reducible first | exact HB.out | apply below_alloc | apply pw_below_drewN | apply below_drew1 | refine below_set ?_ GE352.out | refine below_set ?_ GE360.out | refine below_set ?_ GE374.out) | exact HB.out))) : w.heap.size ≤ gb388))
      have n9_ := Aside0.mk ((by rw [hg]; exact (below_size (by repeat (first | (with_reducible first | exact HB.out | apply below_alloc | apply pw_below_drewN | apply below_drew1 | refine below_set ?_ GE352.out | refine below_set ?_ GE360.out | refine below_set ?_ GE374.out) | exact HB.out))) : w.heap.size ≤ gb388))
      have n10_ := Aside0.mk ((by rw [hg]; exact Nat.ne_of_lt (blk_lt (g := gb352) (o := .cells #[.int .i64 t348, .int .i64 t349, .string t350] 25 (0, 0)) (bk_ BK352)) : gb352 ≠ gb388))
      have n11_ := Aside0.mk ((by rw [hg]; exact Nat.ne_of_gt (blk_lt (g := gb352) (o := .cells #[.int .i64 t348, .int .i64 t349, .string t350] 25 (0, 0)) (bk_ BK352)) : gb388 ≠ gb352))
      have n12_ := Aside0.mk ((by rw [hg]; exact Nat.ne_of_lt (blk_lt (g := gb360) (o := .cells #[.int .i64 t356, .int .i64 t357, .string t358] 25 (0, 0)) (bk_ BK360)) : gb360 ≠ gb388))
      have n13_ := Aside0.mk ((by rw [hg]; exact Nat.ne_of_gt (blk_lt (g := gb360) (o := .cells #[.int .i64 t356, .int .i64 t357, .string t358] 25 (0, 0)) (bk_ BK360)) : gb388 ≠ gb360))
      have n14_ := Aside0.mk ((by rw [hg]; exact Nat.ne_of_lt (blk_lt (g := gb374) (o := .cells #[.int .i64 t370, .int .i64 t371, .string t372] 25 (0, 0)) (bk_ BK374)) : gb374 ≠ gb388))
      have n15_ := Aside0.mk ((by rw [hg]; exact Nat.ne_of_gt (blk_lt (g := gb374) (o := .cells #[.int .i64 t370, .int .i64 t371, .string t372] 25 (0, 0)) (bk_ BK374)) : gb388 ≠ gb374))
      clear HO355
      clear HO369
      clear HO383
      clear BK352
      clear BK360
      clear BK374
      clear HB
      have HO355 := n0_
      have HO369 := n1_
      have HO383 := n2_
      have BK352 := n3_
      have BK360 := n4_
      have BK374 := n5_
      have HB := n6_
      have BK388 := n7_
      have GW388 := n8_
      have GE388 := n9_
      have NB352_388 := n10_
      have NB388_352 := n11_
      have NB360_388 := n12_
      have NB388_360 := n13_
      have NB374_388 := n14_
      have NB388_374 := n15_
      clear n0_ n1_ n2_ n3_ n4_ n5_ n6_ n7_ n8_ n9_ n10_ n11_ n12_ n13_ n14_ n15_
      clear hb hbox hg
      refine hK.out _ _ ⟨(blk_cell BK352.out 0).trans rfl, (blk_cell BK352.out 1).trans rfl, (blk_cell BK352.out 2).trans rfl⟩ (fun hHeld => ?_)
      clear hK K
      refine norm_ (a' := ?_) ?_ ?_
      rotate_left
      ·show Act.put _ (some 11) _ = _
       simp only [Act.put, List.setIfInBounds_toArray, List.set_cons_zero, List.set_cons_succ, i64_w, i32_w]
       rfl
      exact norm_ (by first | (simp only [putAll, Act.put, List.setIfInBounds_toArray, List.set_cons_zero, List.set_cons_succ]; done) | (simp only [putAll, Act.put, List.setIfInBounds_toArray, List.set_cons_zero, List.set_cons_succ]; rfl)) (hJ4_5_6_11 (_, gb388) _ ⟨hHeld, (by (with_reducible repeat (first | apply Kd.R_alloc | apply Kd.R_drewN | apply Kd.R_drew)); exact Kd.R_mono HO355.out (fun _ hk => ⟨hk.1.1, ⟨hk.1.2.1, ⟨hk.1.2.2.1, ⟨hk.1.2.2.2.1, ⟨hk.1.2.2.2.2, hk.2⟩⟩⟩⟩⟩)), (by (with_reducible repeat (first | apply Kd.R_alloc | apply Kd.R_drewN | apply Kd.R_drew)); exact Kd.R_mono HO369.out (fun _ hk => ⟨hk.1.1, ⟨hk.1.2.1, ⟨hk.1.2.2.1, ⟨hk.1.2.2.2.1, ⟨hk.1.2.2.2.2, hk.2⟩⟩⟩⟩⟩)), (by (with_reducible repeat (first | apply Kd.R_alloc | apply Kd.R_drewN | apply Kd.R_drew)); exact Kd.R_mono HO383.out (fun _ hk => ⟨hk.1.1, ⟨hk.1.2.1, ⟨hk.1.2.2.1, ⟨hk.1.2.2.2.1, ⟨hk.1.2.2.2.2, hk.2⟩⟩⟩⟩⟩)), (bk_ BK352), (bk_ BK360), (bk_ BK374), (bk_ BK388), GW388.out, GE388.out, NB352_388.out, NB388_352.out, NB360_388.out, NB388_360.out, NB374_388.out, NB388_374.out, (by repeat (first | (with_reducible first | exact HB.out | apply below_alloc | apply pw_below_drewN | apply below_drew1 | refine below_set ?_ GE352.out | refine below_set ?_ GE360.out | refine below_set ?_ GE374.out | refine below_set ?_ GE388.out) | exact HB.out))⟩)
   ·skip
    rintro ⟨v382, gb388⟩ w66 ⟨hS_, h0_, h1_, h2_, h3_, h4_, h5_, h6_, h7_, h8_, h9_, h10_, h11_, h12_, h13_, h14_, h15_⟩
    have n0_ : Aside0 (Kd.R k25 25 w66 w.heap.size (fun k_ => some k_ ≠ (v368 : Value).ownBlock ∧ some k_ ≠ (v382 : Value).ownBlock ∧ k_ ≠ gb352 ∧ k_ ≠ gb360 ∧ k_ ≠ gb374 ∧ k_ ≠ gb388) (.slice Ao41 y353.length co41) y353) := ⟨h0_⟩
    have n1_ : Aside0 (Kd.R k25 25 w66 w.heap.size (fun k_ => some k_ ≠ (.slice Ao41 y353.length co41 : Value).ownBlock ∧ some k_ ≠ (v382 : Value).ownBlock ∧ k_ ≠ gb352 ∧ k_ ≠ gb360 ∧ k_ ≠ gb374 ∧ k_ ≠ gb388) v368 y367) := ⟨h1_⟩
    have n2_ : Aside0 (Kd.R k25 25 w66 w.heap.size (fun k_ => some k_ ≠ (.slice Ao41 y353.length co41 : Value).ownBlock ∧ some k_ ≠ (v368 : Value).ownBlock ∧ k_ ≠ gb352 ∧ k_ ≠ gb360 ∧ k_ ≠ gb374 ∧ k_ ≠ gb388) v382 y381) := ⟨h2_⟩
    have n3_ : Aside0 (w66.heap[gb352]? = some (.cells #[.int .i64 t348, .int .i64 t349, .string t350] 25 (0, 0))) := ⟨h3_⟩
    have n4_ : Aside0 (w66.heap[gb360]? = some (.cells #[.int .i64 t356, .int .i64 t357, .string t358] 25 (0, 0))) := ⟨h4_⟩
    have n5_ : Aside0 (w66.heap[gb374]? = some (.cells #[.int .i64 t370, .int .i64 t371, .string t372] 25 (0, 0))) := ⟨h5_⟩
    have n6_ : Aside0 (w66.heap[gb388]? = some (.cells #[.int .i64 0, .int .i64 0, .string (⟨#[]⟩ : ByteArray)] 25 (0, 0))) := ⟨h6_⟩
    have n7_ : Aside0 (w.heap.size ≤ gb388) := ⟨h7_⟩
    have n8_ : Aside0 (w.heap.size ≤ gb388) := ⟨h8_⟩
    have n9_ : Aside0 (gb352 ≠ gb388) := ⟨h9_⟩
    have n10_ : Aside0 (gb388 ≠ gb352) := ⟨h10_⟩
    have n11_ : Aside0 (gb360 ≠ gb388) := ⟨h11_⟩
    have n12_ : Aside0 (gb388 ≠ gb360) := ⟨h12_⟩
    have n13_ : Aside0 (gb374 ≠ gb388) := ⟨h13_⟩
    have n14_ : Aside0 (gb388 ≠ gb374) := ⟨h14_⟩
    have n15_ : Aside0 (Below w.heap.size w w66) := ⟨h15_⟩
    clear HO355
    clear HO369
    clear BK352
    clear BK360
    clear BK374
    clear HB
    clear h0_ h1_ h2_ h3_ h4_ h5_ h6_ h7_ h8_ h9_ h10_ h11_ h12_ h13_ h14_ h15_
    have HO355 := n0_
    have HO369 := n1_
    have HO383 := n2_
    have BK352 := n3_
    have BK360 := n4_
    have BK374 := n5_
    have BK388 := n6_
    have GW388 := n7_
    have GE388 := n8_
    have NB352_388 := n9_
    have NB388_352 := n10_
    have NB360_388 := n11_
    have NB388_360 := n12_
    have NB374_388 := n13_
    have NB388_374 := n14_
    have HB := n15_
    clear n0_ n1_ n2_ n3_ n4_ n5_ n6_ n7_ n8_ n9_ n10_ n11_ n12_ n13_ n14_ n15_
    have hHeld : w66.cell? ⟨gb352, 0, none⟩ = some (.int .i64 t348) ∧ w66.cell? ⟨gb352, 1, none⟩ = some (.int .i64 t349) ∧ w66.cell? ⟨gb352, 2, none⟩ = some (.string t350) := hS_
    obtain ⟨Ao67, co67, eo67⟩ := Kd.R_slice HO383.out
    (first | subst eo67 | (injection eo67 with f1_ f2_ f3_; have f4_ := f1_.symm; have f5_ := f3_.symm; clear f1_ f2_ f3_; subst f4_; subst f5_))
    refine norm_ (a' := ?_) ?_ ?_
    rotate_left
    ·simp only [putAll, Act.put, List.setIfInBounds_toArray, List.set_cons_zero, List.set_cons_succ]
     rfl
    refine one_ (i := 7) (N := some 70) #[true, true, true, true, true, true, true, true, false, false, false, true, false, false] rfl rfl (one_of HT_.out (by kernel_rfl)) (by decide) (fun K hK => ?_)
    refine goes_ Try.func12 (by kernel_rfl) rfl #[.int .i64 5, .slice Ao67 y381.length co67] (by rfl) rfl rfl (by (try simp only [List.map_toArray, List.map_cons, List.map_nil]); first | done | rfl | (simp only [List.length_drop, List.length_take]; rfl)) ?_
    with_reducible refine (calc_Call.print 5 _ _ y381 t384 t385 t386 t387 _ ?side1 ?side2 A15.out).mono ?_
    (case side1 => repeat (first | exact (Kd.R_reads' HO383.out).2.2 | (with_reducible refine Kd.C_alloc ?_ _) | (with_reducible refine Kd.C_drewN ?_ _) | (with_reducible refine Kd.C_drew ?_)))
    (case side2 => exact (Kd.R_reads' HO383.out).2.1)
    rintro e w68 ⟨rfl, hb⟩
    refine ⟨_, rfl, ?_⟩
    have n0_ := Aside0.mk (Kd.R_below (by (with_reducible repeat (first | apply Kd.R_alloc | apply Kd.R_drewN | apply Kd.R_drew)); exact HO355.out) hb)
    have n1_ := Aside0.mk (Kd.R_below (by (with_reducible repeat (first | apply Kd.R_alloc | apply Kd.R_drewN | apply Kd.R_drew)); exact HO369.out) hb)
    have n2_ := Aside0.mk (Kd.R_below (by (with_reducible repeat (first | apply Kd.R_alloc | apply Kd.R_drewN | apply Kd.R_drew)); exact HO383.out) hb)
    have n3_ := Aside0.mk (blk_below (g := gb352) (o := .cells #[.int .i64 t348, .int .i64 t349, .string t350] 25 (0, 0)) (bk_ BK352) hb)
    have n4_ := Aside0.mk (blk_below (g := gb360) (o := .cells #[.int .i64 t356, .int .i64 t357, .string t358] 25 (0, 0)) (bk_ BK360) hb)
    have n5_ := Aside0.mk (blk_below (g := gb374) (o := .cells #[.int .i64 t370, .int .i64 t371, .string t372] 25 (0, 0)) (bk_ BK374) hb)
    have n6_ := Aside0.mk (blk_below (g := gb388) (o := .cells #[.int .i64 0, .int .i64 0, .string (⟨#[]⟩ : ByteArray)] 25 (0, 0)) (bk_ BK388) hb)
    have n7_ := Aside0.mk (below_step (by repeat (first | (with_reducible first | exact HB.out | apply below_alloc | apply pw_below_drewN | apply below_drew1 | refine below_set ?_ GE352.out | refine below_set ?_ GE360.out | refine below_set ?_ GE374.out | refine below_set ?_ GE388.out) | exact HB.out)) hb)
    clear HO355
    clear HO369
    clear HO383
    clear BK352
    clear BK360
    clear BK374
    clear BK388
    clear HB
    have HO355 := n0_
    have HO369 := n1_
    have HO383 := n2_
    have BK352 := n3_
    have BK360 := n4_
    have BK374 := n5_
    have BK388 := n6_
    have HB := n7_
    clear n0_ n1_ n2_ n3_ n4_ n5_ n6_ n7_
    (try clear hb)
    (try clear hb2)
    (try clear hk)
    (try clear hi)
    refine hK.out _ _ ⟨(blk_cell BK352.out 0).trans rfl, (blk_cell BK352.out 1).trans rfl, (blk_cell BK352.out 2).trans rfl⟩ (fun hHeld => ?_)
    clear hK K
    refine norm_ (a' := ?_) ?_ ?_
    rotate_left
    ·show Act.put _ (some 70) _ = _
     simp only [Act.put, List.setIfInBounds_toArray, List.set_cons_zero, List.set_cons_succ, i64_w, i32_w]
     rfl
    refine pure_ (i := 8) (N := some 62) (v := ?_) (a' := ?_) #[true, true, true, true, true, true, true, true, true, false, false, true, false, false] rfl rfl (any_of HT_.out (by kernel_rfl)) (fun _ _ _ h => h) (Or.inl ⟨by rfl, ?_⟩) ?_ ?_
    rotate_left
    ·intro w'
     go_simp
     with_reducible rfl
    rotate_left
    ·simp only [Act.put, List.setIfInBounds_toArray, List.set_cons_zero, List.set_cons_succ, i64_w, i32_w]
     rfl
    refine pure_ (i := 9) (N := some 71) (v := ?_) (a' := ?_) #[true, true, true, true, true, true, true, true, true, true, false, true, false, false] rfl rfl (any_of HT_.out (by kernel_rfl)) (fun _ _ _ h => h) (Or.inl ⟨by rfl, ?_⟩) ?_ ?_
    rotate_left
    ·intro w'
     go_simp
     with_reducible rfl
    rotate_left
    ·simp only [Act.put, List.setIfInBounds_toArray, List.set_cons_zero, List.set_cons_succ, i64_w, i32_w]
     rfl
    refine pure_ (i := 10) (N := some 72) (v := ?_) (a' := ?_) #[true, true, true, true, true, true, true, true, true, true, true, true, false, false] rfl rfl (any_of HT_.out (by kernel_rfl)) (fun _ _ _ h => h) (Or.inl ⟨by rfl, ?_⟩) ?_ ?_
    rotate_left
    ·intro w'
     go_simp
     with_reducible rfl
    rotate_left
    ·simp only [Act.put, List.setIfInBounds_toArray, List.set_cons_zero, List.set_cons_succ, i64_w, i32_w]
     rfl
    exact norm_ (by first | (simp only [putAll, Act.put, List.setIfInBounds_toArray, List.set_cons_zero, List.set_cons_succ]; done) | (simp only [putAll, Act.put, List.setIfInBounds_toArray, List.set_cons_zero, List.set_cons_succ]; rfl)) (hJ4_5_6_7_11 (.slice Ao67 y381.length co67, gb388) _ ⟨hHeld, (by (with_reducible repeat (first | apply Kd.R_alloc | apply Kd.R_drewN | apply Kd.R_drew)); exact HO355.out), (by (with_reducible repeat (first | apply Kd.R_alloc | apply Kd.R_drewN | apply Kd.R_drew)); exact HO369.out), (by (with_reducible repeat (first | apply Kd.R_alloc | apply Kd.R_drewN | apply Kd.R_drew)); exact HO383.out), (bk_ BK352), (bk_ BK360), (bk_ BK374), (bk_ BK388), GW388.out, GE388.out, NB352_388.out, NB388_352.out, NB360_388.out, NB388_360.out, NB374_388.out, NB388_374.out, (by repeat (first | (with_reducible first | exact HB.out | apply below_alloc | apply pw_below_drewN | apply below_drew1 | refine below_set ?_ GE352.out | refine below_set ?_ GE360.out | refine below_set ?_ GE374.out | refine below_set ?_ GE388.out) | exact HB.out))⟩)
  ·skip
   rintro v382 w67 ⟨hS_, h0_, h1_, h2_, h3_, h4_, h5_, h6_⟩
   have n0_ : Aside0 (Kd.R k25 25 w67 w.heap.size (fun k_ => some k_ ≠ (v368 : Value).ownBlock ∧ some k_ ≠ (v382 : Value).ownBlock ∧ k_ ≠ gb352 ∧ k_ ≠ gb360 ∧ k_ ≠ gb374) (.slice Ao41 y353.length co41) y353) := ⟨h0_⟩
   have n1_ : Aside0 (Kd.R k25 25 w67 w.heap.size (fun k_ => some k_ ≠ (.slice Ao41 y353.length co41 : Value).ownBlock ∧ some k_ ≠ (v382 : Value).ownBlock ∧ k_ ≠ gb352 ∧ k_ ≠ gb360 ∧ k_ ≠ gb374) v368 y367) := ⟨h1_⟩
   have n2_ : Aside0 (Kd.R k25 25 w67 w.heap.size (fun k_ => some k_ ≠ (.slice Ao41 y353.length co41 : Value).ownBlock ∧ some k_ ≠ (v368 : Value).ownBlock ∧ k_ ≠ gb352 ∧ k_ ≠ gb360 ∧ k_ ≠ gb374) v382 y381) := ⟨h2_⟩
   have n3_ : Aside0 (w67.heap[gb352]? = some (.cells #[.int .i64 t348, .int .i64 t349, .string t350] 25 (0, 0))) := ⟨h3_⟩
   have n4_ : Aside0 (w67.heap[gb360]? = some (.cells #[.int .i64 t356, .int .i64 t357, .string t358] 25 (0, 0))) := ⟨h4_⟩
   have n5_ : Aside0 (w67.heap[gb374]? = some (.cells #[.int .i64 t370, .int .i64 t371, .string t372] 25 (0, 0))) := ⟨h5_⟩
   have n6_ : Aside0 (Below w.heap.size w w67) := ⟨h6_⟩
   clear HO355
   clear HO369
   clear BK352
   clear BK360
   clear BK374
   clear HB
   clear h0_ h1_ h2_ h3_ h4_ h5_ h6_
   have HO355 := n0_
   have HO369 := n1_
   have HO383 := n2_
   have BK352 := n3_
   have BK360 := n4_
   have BK374 := n5_
   have HB := n6_
   clear n0_ n1_ n2_ n3_ n4_ n5_ n6_
   have hHeld : w67.cell? ⟨gb352, 0, none⟩ = some (.int .i64 t348) ∧ w67.cell? ⟨gb352, 1, none⟩ = some (.int .i64 t349) ∧ w67.cell? ⟨gb352, 2, none⟩ = some (.string t350) := hS_
   refine norm_ (a' := ?_) ?_ ?_
   rotate_left
   ·simp only [putAll, Act.put, List.setIfInBounds_toArray, List.set_cons_zero, List.set_cons_succ]
    rfl
   refine one_ (i := 11) (N := some 11) #[true, true, true, true, true, true, true, true, true, true, true, true, false, false] rfl rfl (one_of HT_.out (by kernel_rfl)) (by decide) (fun K hK => ?_)
   refine box_step ?hg (N := 11) ?hd (cs := #[.int .i64 0, .int .i64 0, .string (⟨#[]⟩ : ByteArray)]) (t := 25) ?hr ?_; (case hd => rfl); (case hg => rfl); (case hr => first | (go_simp; done) | (go_simp; rfl))
   intro gb388 hg w68 hbox hb
   have n0_ := Aside0.mk (Kd.R_below (Kd.R_elderB (by (with_reducible repeat (first | apply Kd.R_alloc | apply Kd.R_drewN | apply Kd.R_drew)); exact HO355.out) gb388 (Nat.le_of_eq hg.symm)) hb)
   have n1_ := Aside0.mk (Kd.R_below (Kd.R_elderB (by (with_reducible repeat (first | apply Kd.R_alloc | apply Kd.R_drewN | apply Kd.R_drew)); exact HO369.out) gb388 (Nat.le_of_eq hg.symm)) hb)
   have n2_ := Aside0.mk (Kd.R_below (Kd.R_elderB (by (with_reducible repeat (first | apply Kd.R_alloc | apply Kd.R_drewN | apply Kd.R_drew)); exact HO383.out) gb388 (Nat.le_of_eq hg.symm)) hb)
   have n3_ := Aside0.mk (blk_below (g := gb352) (o := .cells #[.int .i64 t348, .int .i64 t349, .string t350] 25 (0, 0)) (bk_ BK352) hb)
   have n4_ := Aside0.mk (blk_below (g := gb360) (o := .cells #[.int .i64 t356, .int .i64 t357, .string t358] 25 (0, 0)) (bk_ BK360) hb)
   have n5_ := Aside0.mk (blk_below (g := gb374) (o := .cells #[.int .i64 t370, .int .i64 t371, .string t372] 25 (0, 0)) (bk_ BK374) hb)
   have n6_ := Aside0.mk (below_step (by repeat (first | (with_reducible first | exact HB.out | apply below_alloc | apply pw_below_drewN | apply below_drew1 | refine below_set ?_ GE352.out | refine below_set ?_ GE360.out | refine below_set ?_ GE374.out) | exact HB.out)) hb)
   have n7_ := Aside0.mk (hbox)
   have n8_ := Aside0.mk ((by rw [hg]; exact (below_size (by repeat (first | (with_reducible first | exact HB.out | apply below_alloc | apply pw_below_drewN | apply below_drew1 | refine below_set ?_ GE352.out | refine below_set ?_ GE360.out | refine below_set ?_ GE374.out) | exact HB.out))) : w.heap.size ≤ gb388))
   have n9_ := Aside0.mk ((by rw [hg]; exact (below_size (by repeat (first | (with_reducible first | exact HB.out | apply below_alloc | apply pw_below_drewN | apply below_drew1 | refine below_set ?_ GE352.out | refine below_set ?_ GE360.out | refine below_set ?_ GE374.out) | exact HB.out))) : w.heap.size ≤ gb388))
   have n10_ := Aside0.mk ((by rw [hg]; exact Nat.ne_of_lt (blk_lt (g := gb352) (o := .cells #[.int .i64 t348, .int .i64 t349, .string t350] 25 (0, 0)) (bk_ BK352)) : gb352 ≠ gb388))
   have n11_ := Aside0.mk ((by rw [hg]; exact Nat.ne_of_gt (blk_lt (g := gb352) (o := .cells #[.int .i64 t348, .int .i64 t349, .string t350] 25 (0, 0)) (bk_ BK352)) : gb388 ≠ gb352))
   have n12_ := Aside0.mk ((by rw [hg]; exact Nat.ne_of_lt (blk_lt (g := gb360) (o := .cells #[.int .i64 t356, .int .i64 t357, .string t358] 25 (0, 0)) (bk_ BK360)) : gb360 ≠ gb388))
   have n13_ := Aside0.mk ((by rw [hg]; exact Nat.ne_of_gt (blk_lt (g := gb360) (o := .cells #[.int .i64 t356, .int .i64 t357, .string t358] 25 (0, 0)) (bk_ BK360)) : gb388 ≠ gb360))
   have n14_ := Aside0.mk ((by rw [hg]; exact Nat.ne_of_lt (blk_lt (g := gb374) (o := .cells #[.int .i64 t370, .int .i64 t371, .string t372] 25 (0, 0)) (bk_ BK374)) : gb374 ≠ gb388))
   have n15_ := Aside0.mk ((by rw [hg]; exact Nat.ne_of_gt (blk_lt (g := gb374) (o := .cells #[.int .i64 t370, .int .i64 t371, .string t372] 25 (0, 0)) (bk_ BK374)) : gb388 ≠ gb374))
   clear HO355
   clear HO369
   clear HO383
   clear BK352
   clear BK360
   clear BK374
   clear HB
   have HO355 := n0_
   have HO369 := n1_
   have HO383 := n2_
   have BK352 := n3_
   have BK360 := n4_
   have BK374 := n5_
   have HB := n6_
   have BK388 := n7_
   have GW388 := n8_
   have GE388 := n9_
   have NB352_388 := n10_
   have NB388_352 := n11_
   have NB360_388 := n12_
   have NB388_360 := n13_
   have NB374_388 := n14_
   have NB388_374 := n15_
   clear n0_ n1_ n2_ n3_ n4_ n5_ n6_ n7_ n8_ n9_ n10_ n11_ n12_ n13_ n14_ n15_
   clear hb hbox hg
   refine hK.out _ _ ⟨(blk_cell BK352.out 0).trans rfl, (blk_cell BK352.out 1).trans rfl, (blk_cell BK352.out 2).trans rfl⟩ (fun hHeld => ?_)
   clear hK K
   refine norm_ (a' := ?_) ?_ ?_
   rotate_left
   ·show Act.put _ (some 11) _ = _
    simp only [Act.put, List.setIfInBounds_toArray, List.set_cons_zero, List.set_cons_succ, i64_w, i32_w]
    rfl
   exact norm_ (by first | (simp only [putAll, Act.put, List.setIfInBounds_toArray, List.set_cons_zero, List.set_cons_succ]; done) | (simp only [putAll, Act.put, List.setIfInBounds_toArray, List.set_cons_zero, List.set_cons_succ]; rfl)) (hJ4_5_6_7_11 (v382, gb388) _ ⟨hHeld, (by (with_reducible repeat (first | apply Kd.R_alloc | apply Kd.R_drewN | apply Kd.R_drew)); exact Kd.R_mono HO355.out (fun _ hk => ⟨hk.1.1, ⟨hk.1.2.1, ⟨hk.1.2.2.1, ⟨hk.1.2.2.2.1, ⟨hk.1.2.2.2.2, hk.2⟩⟩⟩⟩⟩)), (by (with_reducible repeat (first | apply Kd.R_alloc | apply Kd.R_drewN | apply Kd.R_drew)); exact Kd.R_mono HO369.out (fun _ hk => ⟨hk.1.1, ⟨hk.1.2.1, ⟨hk.1.2.2.1, ⟨hk.1.2.2.2.1, ⟨hk.1.2.2.2.2, hk.2⟩⟩⟩⟩⟩)), (by (with_reducible repeat (first | apply Kd.R_alloc | apply Kd.R_drewN | apply Kd.R_drew)); exact Kd.R_mono HO383.out (fun _ hk => ⟨hk.1.1, ⟨hk.1.2.1, ⟨hk.1.2.2.1, ⟨hk.1.2.2.2.1, ⟨hk.1.2.2.2.2, hk.2⟩⟩⟩⟩⟩)), (bk_ BK352), (bk_ BK360), (bk_ BK374), (bk_ BK388), GW388.out, GE388.out, NB352_388.out, NB388_352.out, NB360_388.out, NB388_360.out, NB374_388.out, NB388_374.out, (by repeat (first | (with_reducible first | exact HB.out | apply below_alloc | apply pw_below_drewN | apply below_drew1 | refine below_set ?_ GE352.out | refine below_set ?_ GE360.out | refine below_set ?_ GE374.out | refine below_set ?_ GE388.out) | exact HB.out))⟩)
 rintro ⟨v382, gb388⟩ w68 ⟨hS_, h0_, h1_, h2_, h3_, h4_, h5_, h6_, h7_, h8_, h9_, h10_, h11_, h12_, h13_, h14_, h15_⟩
 have n0_ : Aside0 (Kd.R k25 25 w68 w.heap.size (fun k_ => some k_ ≠ (v368 : Value).ownBlock ∧ some k_ ≠ (v382 : Value).ownBlock ∧ k_ ≠ gb352 ∧ k_ ≠ gb360 ∧ k_ ≠ gb374 ∧ k_ ≠ gb388) (.slice Ao41 y353.length co41) y353) := ⟨h0_⟩
 have n1_ : Aside0 (Kd.R k25 25 w68 w.heap.size (fun k_ => some k_ ≠ (.slice Ao41 y353.length co41 : Value).ownBlock ∧ some k_ ≠ (v382 : Value).ownBlock ∧ k_ ≠ gb352 ∧ k_ ≠ gb360 ∧ k_ ≠ gb374 ∧ k_ ≠ gb388) v368 y367) := ⟨h1_⟩
 have n2_ : Aside0 (Kd.R k25 25 w68 w.heap.size (fun k_ => some k_ ≠ (.slice Ao41 y353.length co41 : Value).ownBlock ∧ some k_ ≠ (v368 : Value).ownBlock ∧ k_ ≠ gb352 ∧ k_ ≠ gb360 ∧ k_ ≠ gb374 ∧ k_ ≠ gb388) v382 y381) := ⟨h2_⟩
 have n3_ : Aside0 (w68.heap[gb352]? = some (.cells #[.int .i64 t348, .int .i64 t349, .string t350] 25 (0, 0))) := ⟨h3_⟩
 have n4_ : Aside0 (w68.heap[gb360]? = some (.cells #[.int .i64 t356, .int .i64 t357, .string t358] 25 (0, 0))) := ⟨h4_⟩
 have n5_ : Aside0 (w68.heap[gb374]? = some (.cells #[.int .i64 t370, .int .i64 t371, .string t372] 25 (0, 0))) := ⟨h5_⟩
 have n6_ : Aside0 (w68.heap[gb388]? = some (.cells #[.int .i64 0, .int .i64 0, .string (⟨#[]⟩ : ByteArray)] 25 (0, 0))) := ⟨h6_⟩
 have n7_ : Aside0 (w.heap.size ≤ gb388) := ⟨h7_⟩
 have n8_ : Aside0 (w.heap.size ≤ gb388) := ⟨h8_⟩
 have n9_ : Aside0 (gb352 ≠ gb388) := ⟨h9_⟩
 have n10_ : Aside0 (gb388 ≠ gb352) := ⟨h10_⟩
 have n11_ : Aside0 (gb360 ≠ gb388) := ⟨h11_⟩
 have n12_ : Aside0 (gb388 ≠ gb360) := ⟨h12_⟩
 have n13_ : Aside0 (gb374 ≠ gb388) := ⟨h13_⟩
 have n14_ : Aside0 (gb388 ≠ gb374) := ⟨h14_⟩
 have n15_ : Aside0 (Below w.heap.size w w68) := ⟨h15_⟩
 clear HO355
 clear HO369
 clear BK352
 clear BK360
 clear BK374
 clear HB
 clear h0_ h1_ h2_ h3_ h4_ h5_ h6_ h7_ h8_ h9_ h10_ h11_ h12_ h13_ h14_ h15_
 have HO355 := n0_
 have HO369 := n1_
 have HO383 := n2_
 have BK352 := n3_
 have BK360 := n4_
 have BK374 := n5_
 have BK388 := n6_
 have GW388 := n7_
 have GE388 := n8_
 have NB352_388 := n9_
 have NB388_352 := n10_
 have NB360_388 := n11_
 have NB388_360 := n12_
 have NB374_388 := n13_
 have NB388_374 := n14_
 have HB := n15_
 clear n0_ n1_ n2_ n3_ n4_ n5_ n6_ n7_ n8_ n9_ n10_ n11_ n12_ n13_ n14_ n15_
 have hHeld : w68.cell? ⟨gb352, 0, none⟩ = some (.int .i64 t348) ∧ w68.cell? ⟨gb352, 1, none⟩ = some (.int .i64 t349) ∧ w68.cell? ⟨gb352, 2, none⟩ = some (.string t350) := hS_
 refine norm_ (a' := ?_) ?_ ?_
 rotate_left
 ·simp only [putAll, Act.put, List.setIfInBounds_toArray, List.set_cons_zero, List.set_cons_succ]
  rfl
 refine one_ (i := 12) (N := none) #[true, true, true, true, true, true, true, true, true, true, true, true, true, false] rfl rfl (one_of HT_.out (by kernel_rfl)) (by decide) (fun K hK => ?_)
 have hs69 : w68.cell? ⟨gb388, 0, none⟩ = some (.int .i64 0) := (blk_cell BK388.out 0).trans rfl
 have hfs69 := blk_frozen BK388.out 0
 have hns69_0 := NB352_388.out
 have hns69_1 := NB360_388.out
 have hns69_2 := NB374_388.out
 have hms69_0 := NB388_352.out
 have hms69_1 := NB388_360.out
 have hms69_2 := NB388_374.out
 have hs70 : w68.cell? ⟨gb388, 1, none⟩ = some (.int .i64 0) := (blk_cell BK388.out 1).trans rfl
 have hfs70 := blk_frozen BK388.out 1
 have hns70_0 := NB352_388.out
 have hns70_1 := NB360_388.out
 have hns70_2 := NB374_388.out
 have hms70_0 := NB388_352.out
 have hms70_1 := NB388_360.out
 have hms70_2 := NB388_374.out
 have hs71 : w68.cell? ⟨gb388, 2, none⟩ = some (.string (⟨#[]⟩ : ByteArray)) := (blk_cell BK388.out 2).trans rfl
 have hfs71 := blk_frozen BK388.out 2
 have hns71_0 := NB352_388.out
 have hns71_1 := NB360_388.out
 have hns71_2 := NB374_388.out
 have hms71_0 := NB388_352.out
 have hms71_1 := NB388_360.out
 have hms71_2 := NB388_374.out
 refine skip_ (w1 := ?_) (by rfl) rfl ?_ ?_
 rotate_left
 ·go_simp
  rfl
 refine hK.out _ _ ⟨((cell_far (p := ⟨gb388, _, none⟩) NB352_388.out _).trans (((cell_far (p := ⟨gb388, _, none⟩) NB352_388.out _).trans (((cell_far (p := ⟨gb388, _, none⟩) NB352_388.out _).trans (hHeld.1)))))), ((cell_far (p := ⟨gb388, _, none⟩) NB352_388.out _).trans (((cell_far (p := ⟨gb388, _, none⟩) NB352_388.out _).trans (((cell_far (p := ⟨gb388, _, none⟩) NB352_388.out _).trans (hHeld.2.1)))))), ((cell_far (p := ⟨gb388, _, none⟩) NB352_388.out _).trans (((cell_far (p := ⟨gb388, _, none⟩) NB352_388.out _).trans (((cell_far (p := ⟨gb388, _, none⟩) NB352_388.out _).trans (hHeld.2.2))))))⟩ (fun hHeld => ?_)
 clear hK K
 refine pure_ (i := 13) (N := some 12) (v := ?_) (a' := ?_) #[true, true, true, true, true, true, true, true, true, true, true, true, true, true] rfl rfl (any_of HT_.out (by kernel_rfl)) (fun _ _ _ h => h) (Or.inl ⟨by rfl, ?_⟩) ?_ ?_
 rotate_left
 ·intro w'
  go_simp
  with_reducible rfl
 rotate_left
 ·simp only [Act.put, List.setIfInBounds_toArray, List.set_cons_zero, List.set_cons_succ, i64_w, i32_w]
  rfl
 refine done_ (done_of HT_.out (by kernel_rfl)) ?_
 try go_wp2_with (first | ((with_reducible refine gate_callee (f := 25) rfl ?_); refine goesL_ (some 75) rfl rfl Try.func25 (by kernel_rfl) rfl #[.string a0] rfl (by (try simp only [List.map_toArray, List.map_cons, List.map_nil]); first | done | rfl | (simp only [List.length_drop, List.length_take]; rfl)) ?_; (with_reducible refine (quarrylaw02_text.calls a0 t389 t390 t391 _ A16.out).mono ?_); rintro e w72 ⟨rfl, hb⟩; refine ⟨_, rfl, ?_⟩; have n0_ := Aside0.mk (Kd.R_below (by (with_reducible repeat (first | apply Kd.R_alloc | apply Kd.R_drewN | apply Kd.R_drew)); exact (Kd.R_mono (Kd.R_far (p := ⟨gb388, 2, none⟩) (Kd.R_far (p := ⟨gb388, 1, none⟩) (Kd.R_far (p := ⟨gb388, 0, none⟩) (Kd.R_mono HO355.out (fun k_ hk => (⟨hk, hk.2.2.2.2.2⟩ : _ ∧ k_ ≠ gb388))) (fun _ hk => hk.2) (.int .i64 t384)) (fun _ hk => hk.2) (.int .i64 t385)) (fun _ hk => hk.2) (.string t386)) (fun _ h_ => h_.1))) hb); have n1_ := Aside0.mk (Kd.R_below (by (with_reducible repeat (first | apply Kd.R_alloc | apply Kd.R_drewN | apply Kd.R_drew)); exact (Kd.R_mono (Kd.R_far (p := ⟨gb388, 2, none⟩) (Kd.R_far (p := ⟨gb388, 1, none⟩) (Kd.R_far (p := ⟨gb388, 0, none⟩) (Kd.R_mono HO369.out (fun k_ hk => (⟨hk, hk.2.2.2.2.2⟩ : _ ∧ k_ ≠ gb388))) (fun _ hk => hk.2) (.int .i64 t384)) (fun _ hk => hk.2) (.int .i64 t385)) (fun _ hk => hk.2) (.string t386)) (fun _ h_ => h_.1))) hb); have n2_ := Aside0.mk (Kd.R_below (by (with_reducible repeat (first | apply Kd.R_alloc | apply Kd.R_drewN | apply Kd.R_drew)); exact (Kd.R_mono (Kd.R_far (p := ⟨gb388, 2, none⟩) (Kd.R_far (p := ⟨gb388, 1, none⟩) (Kd.R_far (p := ⟨gb388, 0, none⟩) (Kd.R_mono HO383.out (fun k_ hk => (⟨hk, hk.2.2.2.2.2⟩ : _ ∧ k_ ≠ gb388))) (fun _ hk => hk.2) (.int .i64 t384)) (fun _ hk => hk.2) (.int .i64 t385)) (fun _ hk => hk.2) (.string t386)) (fun _ h_ => h_.1))) hb); have n3_ := Aside0.mk (blk_below (g := gb352) (o := .cells #[.int .i64 t348, .int .i64 t349, .string t350] 25 (0, 0)) (by (with_reducible repeat (first | refine blk_drewN ?_ _ | refine blk_drew ?_ | refine blk_alloc ?_ _)); refine blk_far ?_ NB352_388.out _; (with_reducible repeat (first | refine blk_drewN ?_ _ | refine blk_drew ?_ | refine blk_alloc ?_ _)); refine blk_far ?_ NB352_388.out _; (with_reducible repeat (first | refine blk_drewN ?_ _ | refine blk_drew ?_ | refine blk_alloc ?_ _)); refine blk_far ?_ NB352_388.out _; (with_reducible repeat (first | refine blk_drewN ?_ _ | refine blk_drew ?_ | refine blk_alloc ?_ _)); exact BK352.out) hb); have n4_ := Aside0.mk (blk_below (g := gb360) (o := .cells #[.int .i64 t356, .int .i64 t357, .string t358] 25 (0, 0)) (by (with_reducible repeat (first | refine blk_drewN ?_ _ | refine blk_drew ?_ | refine blk_alloc ?_ _)); refine blk_far ?_ NB360_388.out _; (with_reducible repeat (first | refine blk_drewN ?_ _ | refine blk_drew ?_ | refine blk_alloc ?_ _)); refine blk_far ?_ NB360_388.out _; (with_reducible repeat (first | refine blk_drewN ?_ _ | refine blk_drew ?_ | refine blk_alloc ?_ _)); refine blk_far ?_ NB360_388.out _; (with_reducible repeat (first | refine blk_drewN ?_ _ | refine blk_drew ?_ | refine blk_alloc ?_ _)); exact BK360.out) hb); have n5_ := Aside0.mk (blk_below (g := gb374) (o := .cells #[.int .i64 t370, .int .i64 t371, .string t372] 25 (0, 0)) (by (with_reducible repeat (first | refine blk_drewN ?_ _ | refine blk_drew ?_ | refine blk_alloc ?_ _)); refine blk_far ?_ NB374_388.out _; (with_reducible repeat (first | refine blk_drewN ?_ _ | refine blk_drew ?_ | refine blk_alloc ?_ _)); refine blk_far ?_ NB374_388.out _; (with_reducible repeat (first | refine blk_drewN ?_ _ | refine blk_drew ?_ | refine blk_alloc ?_ _)); refine blk_far ?_ NB374_388.out _; (with_reducible repeat (first | refine blk_drewN ?_ _ | refine blk_drew ?_ | refine blk_alloc ?_ _)); exact BK374.out) hb); have n6_ := Aside0.mk (blk_below (g := gb388) (o := .cells #[.int .i64 t384, .int .i64 t385, .string t386] 25 (0, 0)) (by (with_reducible repeat (first | refine blk_drewN ?_ _ | refine blk_drew ?_ | refine blk_alloc ?_ _)); refine blk_put (cs := #[.int .i64 t384, .int .i64 t385, .string (⟨#[]⟩ : ByteArray)]) ?_ 2 _ rfl; (with_reducible repeat (first | refine blk_drewN ?_ _ | refine blk_drew ?_ | refine blk_alloc ?_ _)); refine blk_put (cs := #[.int .i64 t384, .int .i64 0, .string (⟨#[]⟩ : ByteArray)]) ?_ 1 _ rfl; (with_reducible repeat (first | refine blk_drewN ?_ _ | refine blk_drew ?_ | refine blk_alloc ?_ _)); refine blk_put (cs := #[.int .i64 0, .int .i64 0, .string (⟨#[]⟩ : ByteArray)]) ?_ 0 _ rfl; (with_reducible repeat (first | refine blk_drewN ?_ _ | refine blk_drew ?_ | refine blk_alloc ?_ _)); exact BK388.out) hb); have n7_ := Aside0.mk (below_step (by repeat (first | (with_reducible first | exact HB.out | apply below_alloc | apply pw_below_drewN | apply below_drew1 | refine below_set ?_ GE352.out | refine below_set ?_ GE360.out | refine below_set ?_ GE374.out | refine below_set ?_ GE388.out) | exact HB.out)) hb); clear HO355; clear HO369; clear HO383; clear BK352; clear BK360; clear BK374; clear BK388; clear HB; have HO355 := n0_; have HO369 := n1_; have HO383 := n2_; have BK352 := n3_; have BK360 := n4_; have BK374 := n5_; have BK388 := n6_; have HB := n7_; clear n0_ n1_ n2_ n3_ n4_ n5_ n6_ n7_; (try clear hb); (try clear hb2); (try clear hk); (try clear hi)) | ((with_reducible refine gate_dst (N := 76) rfl ?_); (try (refine gate_guard (by rfl) ?_; dsimp only)); refine Kd.R_lit k25 _ 25 ?hg (N := 76) ?hd (xs := ([(⟨t389, t390, t391⟩ : S25)] : List (S25))) (inner := [.int .i64 t389, .int .i64 t390, .string t391]) (ok := fun _ => True) (okp := fun _ => True) ?hr ?hp (fun _ hk => hk) trivial (Below.refl _ _) (Nat.le_refl _) (by simp) ?_; (case hd => rfl); (case hg => rfl); (case hr => first | (go_simp; done) | (go_simp; rfl)); (case hp => exact (Reps.c3 (show Kd.M k25 _ _ _ (⟨t389, t390, t391⟩ : S25) [.int .i64 t389, .int .i64 t390, .string t391] from (k25_mkM _ _ _ (⟨t389, t390, t391⟩ : S25) )) (Reps.none _ _))); intro v393 w73 ho74 hb hg_ hnew_; clear hg_ hnew_; (first | rw [← Ny392.out] at ho74 | (simp only [Int.reduceToNat] at ho74; rw [← Ny392.out] at ho74)); have n0_ := Aside0.mk (Kd.R_elder' (by (with_reducible repeat (first | apply Kd.R_alloc | apply Kd.R_drewN | apply Kd.R_drew)); exact HO355.out) (Kd.R_base ho74) hb); have n1_ := Aside0.mk (Kd.R_elder' (by (with_reducible repeat (first | apply Kd.R_alloc | apply Kd.R_drewN | apply Kd.R_drew)); exact HO369.out) (Kd.R_base ho74) hb); have n2_ := Aside0.mk (Kd.R_elder' (by (with_reducible repeat (first | apply Kd.R_alloc | apply Kd.R_drewN | apply Kd.R_drew)); exact HO383.out) (Kd.R_base ho74) hb); have n3_ := Aside0.mk (Kd.R_lower (Kd.R_newB (Kd.R_newB (Kd.R_newB (Kd.R_newB (Kd.R_new' (Kd.R_new' (Kd.R_new' ho74 (Kd.R_lt (by (with_reducible repeat (first | apply Kd.R_alloc | apply Kd.R_drewN | apply Kd.R_drew)); exact HO355.out))) (Kd.R_lt (by (with_reducible repeat (first | apply Kd.R_alloc | apply Kd.R_drewN | apply Kd.R_drew)); exact HO369.out))) (Kd.R_lt (by (with_reducible repeat (first | apply Kd.R_alloc | apply Kd.R_drewN | apply Kd.R_drew)); exact HO383.out))) (g := gb352) (o := .cells #[.int .i64 t348, .int .i64 t349, .string t350] 25 (0, 0)) (bk_ BK352)) (g := gb360) (o := .cells #[.int .i64 t356, .int .i64 t357, .string t358] 25 (0, 0)) (bk_ BK360)) (g := gb374) (o := .cells #[.int .i64 t370, .int .i64 t371, .string t372] 25 (0, 0)) (bk_ BK374)) (g := gb388) (o := .cells #[.int .i64 t384, .int .i64 t385, .string t386] 25 (0, 0)) (bk_ BK388)) (below_size (by repeat (first | (with_reducible first | exact HB.out | apply below_alloc | apply pw_below_drewN | apply below_drew1 | refine below_set ?_ GE352.out | refine below_set ?_ GE360.out | refine below_set ?_ GE374.out | refine below_set ?_ GE388.out) | exact HB.out)))); have n4_ := Aside0.mk (blk_below (g := gb352) (o := .cells #[.int .i64 t348, .int .i64 t349, .string t350] 25 (0, 0)) (bk_ BK352) hb); have n5_ := Aside0.mk (blk_below (g := gb360) (o := .cells #[.int .i64 t356, .int .i64 t357, .string t358] 25 (0, 0)) (bk_ BK360) hb); have n6_ := Aside0.mk (blk_below (g := gb374) (o := .cells #[.int .i64 t370, .int .i64 t371, .string t372] 25 (0, 0)) (bk_ BK374) hb); have n7_ := Aside0.mk (blk_below (g := gb388) (o := .cells #[.int .i64 t384, .int .i64 t385, .string t386] 25 (0, 0)) (bk_ BK388) hb); have n8_ := Aside0.mk (below_step (by repeat (first | (with_reducible first | exact HB.out | apply below_alloc | apply pw_below_drewN | apply below_drew1 | refine below_set ?_ GE352.out | refine below_set ?_ GE360.out | refine below_set ?_ GE374.out | refine below_set ?_ GE388.out) | exact HB.out)) hb); clear HO355; clear HO369; clear HO383; clear BK352; clear BK360; clear BK374; clear BK388; clear HB; have HO355 := n0_; have HO369 := n1_; have HO383 := n2_; have HO394 := n3_; have BK352 := n4_; have BK360 := n5_; have BK374 := n6_; have BK388 := n7_; have HB := n8_; clear n0_ n1_ n2_ n3_ n4_ n5_ n6_ n7_ n8_; clear hb ho74; obtain ⟨Ao75, co75, eo75⟩ := Kd.R_slice HO394.out; subst eo75) | ((with_reducible refine gate_callee (f := 12) rfl ?_); refine goesL_ (some 77) rfl rfl Try.func12 (by kernel_rfl) rfl #[.int .i64 3, .slice Ao75 y392.length co75] rfl (by (try simp only [List.map_toArray, List.map_cons, List.map_nil]); first | done | rfl | (simp only [List.length_drop, List.length_take]; rfl)) ?_; (with_reducible refine (calc_Call.print 3 _ _ y392 t395 t396 t397 t398 _ ?side1 ?side2 A17.out).mono ?_); (case side1 => repeat (first | exact (Kd.R_reads' HO394.out).2.2 | (with_reducible refine Kd.C_alloc ?_ _) | (with_reducible refine Kd.C_drewN ?_ _) | (with_reducible refine Kd.C_drew ?_))); (case side2 => exact (Kd.R_reads' HO394.out).2.1); rintro e w76 ⟨rfl, hb⟩; refine ⟨_, rfl, ?_⟩; have n0_ := Aside0.mk (Kd.R_below (by (with_reducible repeat (first | apply Kd.R_alloc | apply Kd.R_drewN | apply Kd.R_drew)); exact HO355.out) hb); have n1_ := Aside0.mk (Kd.R_below (by (with_reducible repeat (first | apply Kd.R_alloc | apply Kd.R_drewN | apply Kd.R_drew)); exact HO369.out) hb); have n2_ := Aside0.mk (Kd.R_below (by (with_reducible repeat (first | apply Kd.R_alloc | apply Kd.R_drewN | apply Kd.R_drew)); exact HO383.out) hb); have n3_ := Aside0.mk (Kd.R_below (by (with_reducible repeat (first | apply Kd.R_alloc | apply Kd.R_drewN | apply Kd.R_drew)); exact HO394.out) hb); have n4_ := Aside0.mk (blk_below (g := gb352) (o := .cells #[.int .i64 t348, .int .i64 t349, .string t350] 25 (0, 0)) (bk_ BK352) hb); have n5_ := Aside0.mk (blk_below (g := gb360) (o := .cells #[.int .i64 t356, .int .i64 t357, .string t358] 25 (0, 0)) (bk_ BK360) hb); have n6_ := Aside0.mk (blk_below (g := gb374) (o := .cells #[.int .i64 t370, .int .i64 t371, .string t372] 25 (0, 0)) (bk_ BK374) hb); have n7_ := Aside0.mk (blk_below (g := gb388) (o := .cells #[.int .i64 t384, .int .i64 t385, .string t386] 25 (0, 0)) (bk_ BK388) hb); have n8_ := Aside0.mk (below_step (by repeat (first | (with_reducible first | exact HB.out | apply below_alloc | apply pw_below_drewN | apply below_drew1 | refine below_set ?_ GE352.out | refine below_set ?_ GE360.out | refine below_set ?_ GE374.out | refine below_set ?_ GE388.out) | exact HB.out)) hb); clear HO355; clear HO369; clear HO383; clear HO394; clear BK352; clear BK360; clear BK374; clear BK388; clear HB; have HO355 := n0_; have HO369 := n1_; have HO383 := n2_; have HO394 := n3_; have BK352 := n4_; have BK360 := n5_; have BK374 := n6_; have BK388 := n7_; have HB := n8_; clear n0_ n1_ n2_ n3_ n4_ n5_ n6_ n7_ n8_; (try clear hb); (try clear hb2); (try clear hk); (try clear hi)) | ((with_reducible refine gate_dst (N := 13) rfl ?_); (try (refine gate_guard (by rfl) ?_; dsimp only)); refine box_event ?hg (N := 13) ?hd (cs := #[.int .i64 0, .int .i64 0, .string (⟨#[]⟩ : ByteArray)]) (t := 25) ?hr ?_; (case hd => rfl); (case hg => rfl); (case hr => first | (go_simp; done) | (go_simp; rfl)); intro gb399 hg w77 hbox hb; have n0_ := Aside0.mk (Kd.R_below (Kd.R_elderB (by (with_reducible repeat (first | apply Kd.R_alloc | apply Kd.R_drewN | apply Kd.R_drew)); exact HO355.out) gb399 (Nat.le_of_eq hg.symm)) hb); have n1_ := Aside0.mk (Kd.R_below (Kd.R_elderB (by (with_reducible repeat (first | apply Kd.R_alloc | apply Kd.R_drewN | apply Kd.R_drew)); exact HO369.out) gb399 (Nat.le_of_eq hg.symm)) hb); have n2_ := Aside0.mk (Kd.R_below (Kd.R_elderB (by (with_reducible repeat (first | apply Kd.R_alloc | apply Kd.R_drewN | apply Kd.R_drew)); exact HO383.out) gb399 (Nat.le_of_eq hg.symm)) hb); have n3_ := Aside0.mk (Kd.R_below (Kd.R_elderB (by (with_reducible repeat (first | apply Kd.R_alloc | apply Kd.R_drewN | apply Kd.R_drew)); exact HO394.out) gb399 (Nat.le_of_eq hg.symm)) hb); have n4_ := Aside0.mk (blk_below (g := gb352) (o := .cells #[.int .i64 t348, .int .i64 t349, .string t350] 25 (0, 0)) (bk_ BK352) hb); have n5_ := Aside0.mk (blk_below (g := gb360) (o := .cells #[.int .i64 t356, .int .i64 t357, .string t358] 25 (0, 0)) (bk_ BK360) hb); have n6_ := Aside0.mk (blk_below (g := gb374) (o := .cells #[.int .i64 t370, .int .i64 t371, .string t372] 25 (0, 0)) (bk_ BK374) hb); have n7_ := Aside0.mk (blk_below (g := gb388) (o := .cells #[.int .i64 t384, .int .i64 t385, .string t386] 25 (0, 0)) (bk_ BK388) hb); have n8_ := Aside0.mk (below_step (by repeat (first | (with_reducible first | exact HB.out | apply below_alloc | apply pw_below_drewN | apply below_drew1 | refine below_set ?_ GE352.out | refine below_set ?_ GE360.out | refine below_set ?_ GE374.out | refine below_set ?_ GE388.out) | exact HB.out)) hb); have n9_ := Aside0.mk (hbox); have n10_ := Aside0.mk ((by rw [hg]; exact (below_size (by repeat (first | (with_reducible first | exact HB.out | apply below_alloc | apply pw_below_drewN | apply below_drew1 | refine below_set ?_ GE352.out | refine below_set ?_ GE360.out | refine below_set ?_ GE374.out | refine below_set ?_ GE388.out) | exact HB.out))) : w.heap.size ≤ gb399)); have n11_ := Aside0.mk ((by rw [hg]; exact (below_size (by repeat (first | (with_reducible first | exact HB.out | apply below_alloc | apply pw_below_drewN | apply below_drew1 | refine below_set ?_ GE352.out | refine below_set ?_ GE360.out | refine below_set ?_ GE374.out | refine below_set ?_ GE388.out) | exact HB.out))) : w.heap.size ≤ gb399)); have n12_ := Aside0.mk ((by rw [hg]; exact Nat.ne_of_lt (blk_lt (g := gb352) (o := .cells #[.int .i64 t348, .int .i64 t349, .string t350] 25 (0, 0)) (bk_ BK352)) : gb352 ≠ gb399)); have n13_ := Aside0.mk ((by rw [hg]; exact Nat.ne_of_gt (blk_lt (g := gb352) (o := .cells #[.int .i64 t348, .int .i64 t349, .string t350] 25 (0, 0)) (bk_ BK352)) : gb399 ≠ gb352)); have n14_ := Aside0.mk ((by rw [hg]; exact Nat.ne_of_lt (blk_lt (g := gb360) (o := .cells #[.int .i64 t356, .int .i64 t357, .string t358] 25 (0, 0)) (bk_ BK360)) : gb360 ≠ gb399)); have n15_ := Aside0.mk ((by rw [hg]; exact Nat.ne_of_gt (blk_lt (g := gb360) (o := .cells #[.int .i64 t356, .int .i64 t357, .string t358] 25 (0, 0)) (bk_ BK360)) : gb399 ≠ gb360)); have n16_ := Aside0.mk ((by rw [hg]; exact Nat.ne_of_lt (blk_lt (g := gb374) (o := .cells #[.int .i64 t370, .int .i64 t371, .string t372] 25 (0, 0)) (bk_ BK374)) : gb374 ≠ gb399)); have n17_ := Aside0.mk ((by rw [hg]; exact Nat.ne_of_gt (blk_lt (g := gb374) (o := .cells #[.int .i64 t370, .int .i64 t371, .string t372] 25 (0, 0)) (bk_ BK374)) : gb399 ≠ gb374)); have n18_ := Aside0.mk ((by rw [hg]; exact Nat.ne_of_lt (blk_lt (g := gb388) (o := .cells #[.int .i64 t384, .int .i64 t385, .string t386] 25 (0, 0)) (bk_ BK388)) : gb388 ≠ gb399)); have n19_ := Aside0.mk ((by rw [hg]; exact Nat.ne_of_gt (blk_lt (g := gb388) (o := .cells #[.int .i64 t384, .int .i64 t385, .string t386] 25 (0, 0)) (bk_ BK388)) : gb399 ≠ gb388)); clear HO355; clear HO369; clear HO383; clear HO394; clear BK352; clear BK360; clear BK374; clear BK388; clear HB; have HO355 := n0_; have HO369 := n1_; have HO383 := n2_; have HO394 := n3_; have BK352 := n4_; have BK360 := n5_; have BK374 := n6_; have BK388 := n7_; have HB := n8_; have BK399 := n9_; have GW399 := n10_; have GE399 := n11_; have NB352_399 := n12_; have NB399_352 := n13_; have NB360_399 := n14_; have NB399_360 := n15_; have NB374_399 := n16_; have NB399_374 := n17_; have NB388_399 := n18_; have NB399_388 := n19_; clear n0_ n1_ n2_ n3_ n4_ n5_ n6_ n7_ n8_ n9_ n10_ n11_ n12_ n13_ n14_ n15_ n16_ n17_ n18_ n19_; clear hb hbox hg; have hnb78 := NB399_352.out; have hnc78 := NB352_399.out; have hnb79 := NB399_360.out; have hnc79 := NB360_399.out; have hnb80 := NB399_374.out; have hnc80 := NB374_399.out; have hnb81 := NB399_388.out; have hnc81 := NB388_399.out; have hcz82_0 : w77.cell? ⟨gb399, 0, none⟩ = some (.int .i64 0) := (blk_cell BK399.out 0).trans rfl; have hcz82_1 : w77.cell? ⟨gb399, 1, none⟩ = some (.int .i64 0) := (blk_cell BK399.out 1).trans rfl; have hcz82_2 : w77.cell? ⟨gb399, 2, none⟩ = some (.string (⟨#[]⟩ : ByteArray)) := (blk_cell BK399.out 2).trans rfl; have hfz82_0 := blk_frozen BK399.out 0; have hfz82_1 := blk_frozen BK399.out 1; have hfz82_2 := blk_frozen BK399.out 2) | ((with_reducible refine gate_callee (f := 25) rfl ?_); refine goesL_ (some 82) rfl rfl Try.func25 (by kernel_rfl) rfl #[.string a0] rfl (by (try simp only [List.map_toArray, List.map_cons, List.map_nil]); first | done | rfl | (simp only [List.length_drop, List.length_take]; rfl)) ?_; (with_reducible refine (quarrylaw02_text.calls a0 t400 t401 t402 _ A18.out).mono ?_); rintro e w83 ⟨rfl, hb⟩; refine ⟨_, rfl, ?_⟩; have n0_ := Aside0.mk (Kd.R_below (by (with_reducible repeat (first | apply Kd.R_alloc | apply Kd.R_drewN | apply Kd.R_drew)); exact (Kd.R_mono (Kd.R_far (p := ⟨gb399, 2, none⟩) (Kd.R_far (p := ⟨gb399, 1, none⟩) (Kd.R_far (p := ⟨gb399, 0, none⟩) (Kd.R_mono HO355.out (fun k_ hk => (⟨hk, hk.2⟩ : _ ∧ k_ ≠ gb399))) (fun _ hk => hk.2) (.int .i64 t395)) (fun _ hk => hk.2) (.int .i64 t396)) (fun _ hk => hk.2) (.string t397)) (fun _ h_ => h_.1))) hb); have n1_ := Aside0.mk (Kd.R_below (by (with_reducible repeat (first | apply Kd.R_alloc | apply Kd.R_drewN | apply Kd.R_drew)); exact (Kd.R_mono (Kd.R_far (p := ⟨gb399, 2, none⟩) (Kd.R_far (p := ⟨gb399, 1, none⟩) (Kd.R_far (p := ⟨gb399, 0, none⟩) (Kd.R_mono HO369.out (fun k_ hk => (⟨hk, hk.2⟩ : _ ∧ k_ ≠ gb399))) (fun _ hk => hk.2) (.int .i64 t395)) (fun _ hk => hk.2) (.int .i64 t396)) (fun _ hk => hk.2) (.string t397)) (fun _ h_ => h_.1))) hb); have n2_ := Aside0.mk (Kd.R_below (by (with_reducible repeat (first | apply Kd.R_alloc | apply Kd.R_drewN | apply Kd.R_drew)); exact (Kd.R_mono (Kd.R_far (p := ⟨gb399, 2, none⟩) (Kd.R_far (p := ⟨gb399, 1, none⟩) (Kd.R_far (p := ⟨gb399, 0, none⟩) (Kd.R_mono HO383.out (fun k_ hk => (⟨hk, hk.2⟩ : _ ∧ k_ ≠ gb399))) (fun _ hk => hk.2) (.int .i64 t395)) (fun _ hk => hk.2) (.int .i64 t396)) (fun _ hk => hk.2) (.string t397)) (fun _ h_ => h_.1))) hb); have n3_ := Aside0.mk (Kd.R_below (by (with_reducible repeat (first | apply Kd.R_alloc | apply Kd.R_drewN | apply Kd.R_drew)); exact (Kd.R_mono (Kd.R_far (p := ⟨gb399, 2, none⟩) (Kd.R_far (p := ⟨gb399, 1, none⟩) (Kd.R_far (p := ⟨gb399, 0, none⟩) (Kd.R_mono HO394.out (fun k_ hk => (⟨hk, hk.2⟩ : _ ∧ k_ ≠ gb399))) (fun _ hk => hk.2) (.int .i64 t395)) (fun _ hk => hk.2) (.int .i64 t396)) (fun _ hk => hk.2) (.string t397)) (fun _ h_ => h_.1))) hb); have n4_ := Aside0.mk (blk_below (g := gb352) (o := .cells #[.int .i64 t348, .int .i64 t349, .string t350] 25 (0, 0)) (by (with_reducible repeat (first | refine blk_drewN ?_ _ | refine blk_drew ?_ | refine blk_alloc ?_ _)); refine blk_far ?_ NB352_399.out _; (with_reducible repeat (first | refine blk_drewN ?_ _ | refine blk_drew ?_ | refine blk_alloc ?_ _)); refine blk_far ?_ NB352_399.out _; (with_reducible repeat (first | refine blk_drewN ?_ _ | refine blk_drew ?_ | refine blk_alloc ?_ _)); refine blk_far ?_ NB352_399.out _; (with_reducible repeat (first | refine blk_drewN ?_ _ | refine blk_drew ?_ | refine blk_alloc ?_ _)); exact BK352.out) hb); have n5_ := Aside0.mk (blk_below (g := gb360) (o := .cells #[.int .i64 t356, .int .i64 t357, .string t358] 25 (0, 0)) (by (with_reducible repeat (first | refine blk_drewN ?_ _ | refine blk_drew ?_ | refine blk_alloc ?_ _)); refine blk_far ?_ NB360_399.out _; (with_reducible repeat (first | refine blk_drewN ?_ _ | refine blk_drew ?_ | refine blk_alloc ?_ _)); refine blk_far ?_ NB360_399.out _; (with_reducible repeat (first | refine blk_drewN ?_ _ | refine blk_drew ?_ | refine blk_alloc ?_ _)); refine blk_far ?_ NB360_399.out _; (with_reducible repeat (first | refine blk_drewN ?_ _ | refine blk_drew ?_ | refine blk_alloc ?_ _)); exact BK360.out) hb); have n6_ := Aside0.mk (blk_below (g := gb374) (o := .cells #[.int .i64 t370, .int .i64 t371, .string t372] 25 (0, 0)) (by (with_reducible repeat (first | refine blk_drewN ?_ _ | refine blk_drew ?_ | refine blk_alloc ?_ _)); refine blk_far ?_ NB374_399.out _; (with_reducible repeat (first | refine blk_drewN ?_ _ | refine blk_drew ?_ | refine blk_alloc ?_ _)); refine blk_far ?_ NB374_399.out _; (with_reducible repeat (first | refine blk_drewN ?_ _ | refine blk_drew ?_ | refine blk_alloc ?_ _)); refine blk_far ?_ NB374_399.out _; (with_reducible repeat (first | refine blk_drewN ?_ _ | refine blk_drew ?_ | refine blk_alloc ?_ _)); exact BK374.out) hb); have n7_ := Aside0.mk (blk_below (g := gb388) (o := .cells #[.int .i64 t384, .int .i64 t385, .string t386] 25 (0, 0)) (by (with_reducible repeat (first | refine blk_drewN ?_ _ | refine blk_drew ?_ | refine blk_alloc ?_ _)); refine blk_far ?_ NB388_399.out _; (with_reducible repeat (first | refine blk_drewN ?_ _ | refine blk_drew ?_ | refine blk_alloc ?_ _)); refine blk_far ?_ NB388_399.out _; (with_reducible repeat (first | refine blk_drewN ?_ _ | refine blk_drew ?_ | refine blk_alloc ?_ _)); refine blk_far ?_ NB388_399.out _; (with_reducible repeat (first | refine blk_drewN ?_ _ | refine blk_drew ?_ | refine blk_alloc ?_ _)); exact BK388.out) hb); have n8_ := Aside0.mk (blk_below (g := gb399) (o := .cells #[.int .i64 t395, .int .i64 t396, .string t397] 25 (0, 0)) (by (with_reducible repeat (first | refine blk_drewN ?_ _ | refine blk_drew ?_ | refine blk_alloc ?_ _)); refine blk_put (cs := #[.int .i64 t395, .int .i64 t396, .string (⟨#[]⟩ : ByteArray)]) ?_ 2 _ rfl; (with_reducible repeat (first | refine blk_drewN ?_ _ | refine blk_drew ?_ | refine blk_alloc ?_ _)); refine blk_put (cs := #[.int .i64 t395, .int .i64 0, .string (⟨#[]⟩ : ByteArray)]) ?_ 1 _ rfl; (with_reducible repeat (first | refine blk_drewN ?_ _ | refine blk_drew ?_ | refine blk_alloc ?_ _)); refine blk_put (cs := #[.int .i64 0, .int .i64 0, .string (⟨#[]⟩ : ByteArray)]) ?_ 0 _ rfl; (with_reducible repeat (first | refine blk_drewN ?_ _ | refine blk_drew ?_ | refine blk_alloc ?_ _)); exact BK399.out) hb); have n9_ := Aside0.mk (below_step (by repeat (first | (with_reducible first | exact HB.out | apply below_alloc | apply pw_below_drewN | apply below_drew1 | refine below_set ?_ GE352.out | refine below_set ?_ GE360.out | refine below_set ?_ GE374.out | refine below_set ?_ GE388.out | refine below_set ?_ GE399.out) | exact HB.out)) hb); clear HO355; clear HO369; clear HO383; clear HO394; clear BK352; clear BK360; clear BK374; clear BK388; clear BK399; clear HB; have HO355 := n0_; have HO369 := n1_; have HO383 := n2_; have HO394 := n3_; have BK352 := n4_; have BK360 := n5_; have BK374 := n6_; have BK388 := n7_; have BK399 := n8_; have HB := n9_; clear n0_ n1_ n2_ n3_ n4_ n5_ n6_ n7_ n8_ n9_; (try clear hb); (try clear hb2); (try clear hk); (try clear hi)) | ((with_reducible refine gate_dst (N := 83) rfl ?_); (try (refine gate_guard (by rfl) ?_; dsimp only)); refine Kd.R_lit k25 _ 25 ?hg (N := 83) ?hd (xs := ([(⟨t400, t401, t402⟩ : S25)] : List (S25))) (inner := [.int .i64 t400, .int .i64 t401, .string t402]) (ok := fun _ => True) (okp := fun _ => True) ?hr ?hp (fun _ hk => hk) trivial (Below.refl _ _) (Nat.le_refl _) (by simp) ?_; (case hd => rfl); (case hg => rfl); (case hr => first | (go_simp; done) | (go_simp; rfl)); (case hp => exact (Reps.c3 (show Kd.M k25 _ _ _ (⟨t400, t401, t402⟩ : S25) [.int .i64 t400, .int .i64 t401, .string t402] from (k25_mkM _ _ _ (⟨t400, t401, t402⟩ : S25) )) (Reps.none _ _))); intro v404 w84 ho85 hb hg_ hnew_; clear hg_ hnew_; (first | rw [← Ny403.out] at ho85 | (simp only [Int.reduceToNat] at ho85; rw [← Ny403.out] at ho85)); have n0_ := Aside0.mk (Kd.R_elder' (by (with_reducible repeat (first | apply Kd.R_alloc | apply Kd.R_drewN | apply Kd.R_drew)); exact HO355.out) (Kd.R_base ho85) hb); have n1_ := Aside0.mk (Kd.R_elder' (by (with_reducible repeat (first | apply Kd.R_alloc | apply Kd.R_drewN | apply Kd.R_drew)); exact HO369.out) (Kd.R_base ho85) hb); have n2_ := Aside0.mk (Kd.R_elder' (by (with_reducible repeat (first | apply Kd.R_alloc | apply Kd.R_drewN | apply Kd.R_drew)); exact HO383.out) (Kd.R_base ho85) hb); have n3_ := Aside0.mk (Kd.R_elder' (by (with_reducible repeat (first | apply Kd.R_alloc | apply Kd.R_drewN | apply Kd.R_drew)); exact HO394.out) (Kd.R_base ho85) hb); have n4_ := Aside0.mk (Kd.R_lower (Kd.R_newB (Kd.R_newB (Kd.R_newB (Kd.R_newB (Kd.R_newB (Kd.R_new' (Kd.R_new' (Kd.R_new' (Kd.R_new' ho85 (Kd.R_lt (by (with_reducible repeat (first | apply Kd.R_alloc | apply Kd.R_drewN | apply Kd.R_drew)); exact HO355.out))) (Kd.R_lt (by (with_reducible repeat (first | apply Kd.R_alloc | apply Kd.R_drewN | apply Kd.R_drew)); exact HO369.out))) (Kd.R_lt (by (with_reducible repeat (first | apply Kd.R_alloc | apply Kd.R_drewN | apply Kd.R_drew)); exact HO383.out))) (Kd.R_lt (by (with_reducible repeat (first | apply Kd.R_alloc | apply Kd.R_drewN | apply Kd.R_drew)); exact HO394.out))) (g := gb352) (o := .cells #[.int .i64 t348, .int .i64 t349, .string t350] 25 (0, 0)) (bk_ BK352)) (g := gb360) (o := .cells #[.int .i64 t356, .int .i64 t357, .string t358] 25 (0, 0)) (bk_ BK360)) (g := gb374) (o := .cells #[.int .i64 t370, .int .i64 t371, .string t372] 25 (0, 0)) (bk_ BK374)) (g := gb388) (o := .cells #[.int .i64 t384, .int .i64 t385, .string t386] 25 (0, 0)) (bk_ BK388)) (g := gb399) (o := .cells #[.int .i64 t395, .int .i64 t396, .string t397] 25 (0, 0)) (bk_ BK399)) (below_size (by repeat (first | (with_reducible first | exact HB.out | apply below_alloc | apply pw_below_drewN | apply below_drew1 | refine below_set ?_ GE352.out | refine below_set ?_ GE360.out | refine below_set ?_ GE374.out | refine below_set ?_ GE388.out | refine below_set ?_ GE399.out) | exact HB.out)))); have n5_ := Aside0.mk (blk_below (g := gb352) (o := .cells #[.int .i64 t348, .int .i64 t349, .string t350] 25 (0, 0)) (bk_ BK352) hb); have n6_ := Aside0.mk (blk_below (g := gb360) (o := .cells #[.int .i64 t356, .int .i64 t357, .string t358] 25 (0, 0)) (bk_ BK360) hb); have n7_ := Aside0.mk (blk_below (g := gb374) (o := .cells #[.int .i64 t370, .int .i64 t371, .string t372] 25 (0, 0)) (bk_ BK374) hb); have n8_ := Aside0.mk (blk_below (g := gb388) (o := .cells #[.int .i64 t384, .int .i64 t385, .string t386] 25 (0, 0)) (bk_ BK388) hb); have n9_ := Aside0.mk (blk_below (g := gb399) (o := .cells #[.int .i64 t395, .int .i64 t396, .string t397] 25 (0, 0)) (bk_ BK399) hb); have n10_ := Aside0.mk (below_step (by repeat (first | (with_reducible first | exact HB.out | apply below_alloc | apply pw_below_drewN | apply below_drew1 | refine below_set ?_ GE352.out | refine below_set ?_ GE360.out | refine below_set ?_ GE374.out | refine below_set ?_ GE388.out | refine below_set ?_ GE399.out) | exact HB.out)) hb); clear HO355; clear HO369; clear HO383; clear HO394; clear BK352; clear BK360; clear BK374; clear BK388; clear BK399; clear HB; have HO355 := n0_; have HO369 := n1_; have HO383 := n2_; have HO394 := n3_; have HO405 := n4_; have BK352 := n5_; have BK360 := n6_; have BK374 := n7_; have BK388 := n8_; have BK399 := n9_; have HB := n10_; clear n0_ n1_ n2_ n3_ n4_ n5_ n6_ n7_ n8_ n9_ n10_; clear hb ho85; obtain ⟨Ao86, co86, eo86⟩ := Kd.R_slice HO405.out; subst eo86) | ((with_reducible refine gate_callee (f := 12) rfl ?_); refine goesL_ (some 84) rfl rfl Try.func12 (by kernel_rfl) rfl #[.int .i64 4, .slice Ao86 y403.length co86] rfl (by (try simp only [List.map_toArray, List.map_cons, List.map_nil]); first | done | rfl | (simp only [List.length_drop, List.length_take]; rfl)) ?_; (with_reducible refine (calc_Call.print 4 _ _ y403 t406 t407 t408 t409 _ ?side1 ?side2 A19.out).mono ?_); (case side1 => repeat (first | exact (Kd.R_reads' HO405.out).2.2 | (with_reducible refine Kd.C_alloc ?_ _) | (with_reducible refine Kd.C_drewN ?_ _) | (with_reducible refine Kd.C_drew ?_))); (case side2 => exact (Kd.R_reads' HO405.out).2.1); rintro e w87 ⟨rfl, hb⟩; refine ⟨_, rfl, ?_⟩; have n0_ := Aside0.mk (Kd.R_below (by (with_reducible repeat (first | apply Kd.R_alloc | apply Kd.R_drewN | apply Kd.R_drew)); exact HO355.out) hb); have n1_ := Aside0.mk (Kd.R_below (by (with_reducible repeat (first | apply Kd.R_alloc | apply Kd.R_drewN | apply Kd.R_drew)); exact HO369.out) hb); have n2_ := Aside0.mk (Kd.R_below (by (with_reducible repeat (first | apply Kd.R_alloc | apply Kd.R_drewN | apply Kd.R_drew)); exact HO383.out) hb); have n3_ := Aside0.mk (Kd.R_below (by (with_reducible repeat (first | apply Kd.R_alloc | apply Kd.R_drewN | apply Kd.R_drew)); exact HO394.out) hb); have n4_ := Aside0.mk (Kd.R_below (by (with_reducible repeat (first | apply Kd.R_alloc | apply Kd.R_drewN | apply Kd.R_drew)); exact HO405.out) hb); have n5_ := Aside0.mk (blk_below (g := gb352) (o := .cells #[.int .i64 t348, .int .i64 t349, .string t350] 25 (0, 0)) (bk_ BK352) hb); have n6_ := Aside0.mk (blk_below (g := gb360) (o := .cells #[.int .i64 t356, .int .i64 t357, .string t358] 25 (0, 0)) (bk_ BK360) hb); have n7_ := Aside0.mk (blk_below (g := gb374) (o := .cells #[.int .i64 t370, .int .i64 t371, .string t372] 25 (0, 0)) (bk_ BK374) hb); have n8_ := Aside0.mk (blk_below (g := gb388) (o := .cells #[.int .i64 t384, .int .i64 t385, .string t386] 25 (0, 0)) (bk_ BK388) hb); have n9_ := Aside0.mk (blk_below (g := gb399) (o := .cells #[.int .i64 t395, .int .i64 t396, .string t397] 25 (0, 0)) (bk_ BK399) hb); have n10_ := Aside0.mk (below_step (by repeat (first | (with_reducible first | exact HB.out | apply below_alloc | apply pw_below_drewN | apply below_drew1 | refine below_set ?_ GE352.out | refine below_set ?_ GE360.out | refine below_set ?_ GE374.out | refine below_set ?_ GE388.out | refine below_set ?_ GE399.out) | exact HB.out)) hb); clear HO355; clear HO369; clear HO383; clear HO394; clear HO405; clear BK352; clear BK360; clear BK374; clear BK388; clear BK399; clear HB; have HO355 := n0_; have HO369 := n1_; have HO383 := n2_; have HO394 := n3_; have HO405 := n4_; have BK352 := n5_; have BK360 := n6_; have BK374 := n7_; have BK388 := n8_; have BK399 := n9_; have HB := n10_; clear n0_ n1_ n2_ n3_ n4_ n5_ n6_ n7_ n8_ n9_ n10_; (try clear hb); (try clear hb2); (try clear hk); (try clear hi)) | ((with_reducible refine gate_dst (N := 15) rfl ?_); (try (refine gate_guard (by rfl) ?_; dsimp only)); refine box_event ?hg (N := 15) ?hd (cs := #[.int .i64 0, .int .i64 0, .string (⟨#[]⟩ : ByteArray)]) (t := 25) ?hr ?_; (case hd => rfl); (case hg => rfl); (case hr => first | (go_simp; done) | (go_simp; rfl)); intro gb410 hg w88 hbox hb; have n0_ := Aside0.mk (Kd.R_below (Kd.R_elderB (by (with_reducible repeat (first | apply Kd.R_alloc | apply Kd.R_drewN | apply Kd.R_drew)); exact HO355.out) gb410 (Nat.le_of_eq hg.symm)) hb); have n1_ := Aside0.mk (Kd.R_below (Kd.R_elderB (by (with_reducible repeat (first | apply Kd.R_alloc | apply Kd.R_drewN | apply Kd.R_drew)); exact HO369.out) gb410 (Nat.le_of_eq hg.symm)) hb); have n2_ := Aside0.mk (Kd.R_below (Kd.R_elderB (by (with_reducible repeat (first | apply Kd.R_alloc | apply Kd.R_drewN | apply Kd.R_drew)); exact HO383.out) gb410 (Nat.le_of_eq hg.symm)) hb); have n3_ := Aside0.mk (Kd.R_below (Kd.R_elderB (by (with_reducible repeat (first | apply Kd.R_alloc | apply Kd.R_drewN | apply Kd.R_drew)); exact HO394.out) gb410 (Nat.le_of_eq hg.symm)) hb); have n4_ := Aside0.mk (Kd.R_below (Kd.R_elderB (by (with_reducible repeat (first | apply Kd.R_alloc | apply Kd.R_drewN | apply Kd.R_drew)); exact HO405.out) gb410 (Nat.le_of_eq hg.symm)) hb); have n5_ := Aside0.mk (blk_below (g := gb352) (o := .cells #[.int .i64 t348, .int .i64 t349, .string t350] 25 (0, 0)) (bk_ BK352) hb); have n6_ := Aside0.mk (blk_below (g := gb360) (o := .cells #[.int .i64 t356, .int .i64 t357, .string t358] 25 (0, 0)) (bk_ BK360) hb); have n7_ := Aside0.mk (blk_below (g := gb374) (o := .cells #[.int .i64 t370, .int .i64 t371, .string t372] 25 (0, 0)) (bk_ BK374) hb); have n8_ := Aside0.mk (blk_below (g := gb388) (o := .cells #[.int .i64 t384, .int .i64 t385, .string t386] 25 (0, 0)) (bk_ BK388) hb); have n9_ := Aside0.mk (blk_below (g := gb399) (o := .cells #[.int .i64 t395, .int .i64 t396, .string t397] 25 (0, 0)) (bk_ BK399) hb); have n10_ := Aside0.mk (below_step (by repeat (first | (with_reducible first | exact HB.out | apply below_alloc | apply pw_below_drewN | apply below_drew1 | refine below_set ?_ GE352.out | refine below_set ?_ GE360.out | refine below_set ?_ GE374.out | refine below_set ?_ GE388.out | refine below_set ?_ GE399.out) | exact HB.out)) hb); have n11_ := Aside0.mk (hbox); have n12_ := Aside0.mk ((by rw [hg]; exact (below_size (by repeat (first | (with_reducible first | exact HB.out | apply below_alloc | apply pw_below_drewN | apply below_drew1 | refine below_set ?_ GE352.out | refine below_set ?_ GE360.out | refine below_set ?_ GE374.out | refine below_set ?_ GE388.out | refine below_set ?_ GE399.out) | exact HB.out))) : w.heap.size ≤ gb410)); have n13_ := Aside0.mk ((by rw [hg]; exact (below_size (by repeat (first | (with_reducible first | exact HB.out | apply below_alloc | apply pw_below_drewN | apply below_drew1 | refine below_set ?_ GE352.out | refine below_set ?_ GE360.out | refine below_set ?_ GE374.out | refine below_set ?_ GE388.out | refine below_set ?_ GE399.out) | exact HB.out))) : w.heap.size ≤ gb410)); have n14_ := Aside0.mk ((by rw [hg]; exact Nat.ne_of_lt (blk_lt (g := gb352) (o := .cells #[.int .i64 t348, .int .i64 t349, .string t350] 25 (0, 0)) (bk_ BK352)) : gb352 ≠ gb410)); have n15_ := Aside0.mk ((by rw [hg]; exact Nat.ne_of_gt (blk_lt (g := gb352) (o := .cells #[.int .i64 t348, .int .i64 t349, .string t350] 25 (0, 0)) (bk_ BK352)) : gb410 ≠ gb352)); have n16_ := Aside0.mk ((by rw [hg]; exact Nat.ne_of_lt (blk_lt (g := gb360) (o := .cells #[.int .i64 t356, .int .i64 t357, .string t358] 25 (0, 0)) (bk_ BK360)) : gb360 ≠ gb410)); have n17_ := Aside0.mk ((by rw [hg]; exact Nat.ne_of_gt (blk_lt (g := gb360) (o := .cells #[.int .i64 t356, .int .i64 t357, .string t358] 25 (0, 0)) (bk_ BK360)) : gb410 ≠ gb360)); have n18_ := Aside0.mk ((by rw [hg]; exact Nat.ne_of_lt (blk_lt (g := gb374) (o := .cells #[.int .i64 t370, .int .i64 t371, .string t372] 25 (0, 0)) (bk_ BK374)) : gb374 ≠ gb410)); have n19_ := Aside0.mk ((by rw [hg]; exact Nat.ne_of_gt (blk_lt (g := gb374) (o := .cells #[.int .i64 t370, .int .i64 t371, .string t372] 25 (0, 0)) (bk_ BK374)) : gb410 ≠ gb374)); have n20_ := Aside0.mk ((by rw [hg]; exact Nat.ne_of_lt (blk_lt (g := gb388) (o := .cells #[.int .i64 t384, .int .i64 t385, .string t386] 25 (0, 0)) (bk_ BK388)) : gb388 ≠ gb410)); have n21_ := Aside0.mk ((by rw [hg]; exact Nat.ne_of_gt (blk_lt (g := gb388) (o := .cells #[.int .i64 t384, .int .i64 t385, .string t386] 25 (0, 0)) (bk_ BK388)) : gb410 ≠ gb388)); have n22_ := Aside0.mk ((by rw [hg]; exact Nat.ne_of_lt (blk_lt (g := gb399) (o := .cells #[.int .i64 t395, .int .i64 t396, .string t397] 25 (0, 0)) (bk_ BK399)) : gb399 ≠ gb410)); have n23_ := Aside0.mk ((by rw [hg]; exact Nat.ne_of_gt (blk_lt (g := gb399) (o := .cells #[.int .i64 t395, .int .i64 t396, .string t397] 25 (0, 0)) (bk_ BK399)) : gb410 ≠ gb399)); clear HO355; clear HO369; clear HO383; clear HO394; clear HO405; clear BK352; clear BK360; clear BK374; clear BK388; clear BK399; clear HB; have HO355 := n0_; have HO369 := n1_; have HO383 := n2_; have HO394 := n3_; have HO405 := n4_; have BK352 := n5_; have BK360 := n6_; have BK374 := n7_; have BK388 := n8_; have BK399 := n9_; have HB := n10_; have BK410 := n11_; have GW410 := n12_; have GE410 := n13_; have NB352_410 := n14_; have NB410_352 := n15_; have NB360_410 := n16_; have NB410_360 := n17_; have NB374_410 := n18_; have NB410_374 := n19_; have NB388_410 := n20_; have NB410_388 := n21_; have NB399_410 := n22_; have NB410_399 := n23_; clear n0_ n1_ n2_ n3_ n4_ n5_ n6_ n7_ n8_ n9_ n10_ n11_ n12_ n13_ n14_ n15_ n16_ n17_ n18_ n19_ n20_ n21_ n22_ n23_; clear hb hbox hg; have hnb89 := NB410_352.out; have hnc89 := NB352_410.out; have hnb90 := NB410_360.out; have hnc90 := NB360_410.out; have hnb91 := NB410_374.out; have hnc91 := NB374_410.out; have hnb92 := NB410_388.out; have hnc92 := NB388_410.out; have hnb93 := NB410_399.out; have hnc93 := NB399_410.out; have hcz94_0 : w88.cell? ⟨gb410, 0, none⟩ = some (.int .i64 0) := (blk_cell BK410.out 0).trans rfl; have hcz94_1 : w88.cell? ⟨gb410, 1, none⟩ = some (.int .i64 0) := (blk_cell BK410.out 1).trans rfl; have hcz94_2 : w88.cell? ⟨gb410, 2, none⟩ = some (.string (⟨#[]⟩ : ByteArray)) := (blk_cell BK410.out 2).trans rfl; have hfz94_0 := blk_frozen BK410.out 0; have hfz94_1 := blk_frozen BK410.out 1; have hfz94_2 := blk_frozen BK410.out 2) | ((with_reducible refine gate_dst (N := 89) rfl ?_); (try (refine gate_guard (by rfl) ?_; dsimp only)); refine Kd.R_lit k25 _ 25 ?hg (N := 89) ?hd (xs := ([(⟨t406, t407, t408⟩ : S25)] : List (S25))) (inner := [.int .i64 t406, .int .i64 t407, .string t408]) (ok := fun _ => True) (okp := fun _ => True) ?hr ?hp (fun _ hk => hk) trivial (Below.refl _ _) (Nat.le_refl _) (by simp) ?_; (case hd => rfl); (case hg => rfl); (case hr => first | (go_simp; done) | (go_simp; rfl)); (case hp => exact (Reps.c3 (show Kd.M k25 _ _ _ (⟨t406, t407, t408⟩ : S25) [.int .i64 t406, .int .i64 t407, .string t408] from (k25_mkM _ _ _ (⟨t406, t407, t408⟩ : S25) )) (Reps.none _ _))); intro v412 w95 ho96 hb hg_ hnew_; clear hg_ hnew_; (first | rw [← Ny411.out] at ho96 | (simp only [Int.reduceToNat] at ho96; rw [← Ny411.out] at ho96)); have n0_ := Aside0.mk (Kd.R_elder' (by (with_reducible repeat (first | apply Kd.R_alloc | apply Kd.R_drewN | apply Kd.R_drew)); exact (Kd.R_mono (Kd.R_far (p := ⟨gb410, 2, none⟩) (Kd.R_far (p := ⟨gb410, 1, none⟩) (Kd.R_far (p := ⟨gb410, 0, none⟩) (Kd.R_mono HO355.out (fun k_ hk => (⟨hk, hk.2⟩ : _ ∧ k_ ≠ gb410))) (fun _ hk => hk.2) (.int .i64 t406)) (fun _ hk => hk.2) (.int .i64 t407)) (fun _ hk => hk.2) (.string t408)) (fun _ h_ => h_.1))) (Kd.R_base ho96) hb); have n1_ := Aside0.mk (Kd.R_elder' (by (with_reducible repeat (first | apply Kd.R_alloc | apply Kd.R_drewN | apply Kd.R_drew)); exact (Kd.R_mono (Kd.R_far (p := ⟨gb410, 2, none⟩) (Kd.R_far (p := ⟨gb410, 1, none⟩) (Kd.R_far (p := ⟨gb410, 0, none⟩) (Kd.R_mono HO369.out (fun k_ hk => (⟨hk, hk.2⟩ : _ ∧ k_ ≠ gb410))) (fun _ hk => hk.2) (.int .i64 t406)) (fun _ hk => hk.2) (.int .i64 t407)) (fun _ hk => hk.2) (.string t408)) (fun _ h_ => h_.1))) (Kd.R_base ho96) hb); have n2_ := Aside0.mk (Kd.R_elder' (by (with_reducible repeat (first | apply Kd.R_alloc | apply Kd.R_drewN | apply Kd.R_drew)); exact (Kd.R_mono (Kd.R_far (p := ⟨gb410, 2, none⟩) (Kd.R_far (p := ⟨gb410, 1, none⟩) (Kd.R_far (p := ⟨gb410, 0, none⟩) (Kd.R_mono HO383.out (fun k_ hk => (⟨hk, hk.2⟩ : _ ∧ k_ ≠ gb410))) (fun _ hk => hk.2) (.int .i64 t406)) (fun _ hk => hk.2) (.int .i64 t407)) (fun _ hk => hk.2) (.string t408)) (fun _ h_ => h_.1))) (Kd.R_base ho96) hb); have n3_ := Aside0.mk (Kd.R_elder' (by (with_reducible repeat (first | apply Kd.R_alloc | apply Kd.R_drewN | apply Kd.R_drew)); exact (Kd.R_mono (Kd.R_far (p := ⟨gb410, 2, none⟩) (Kd.R_far (p := ⟨gb410, 1, none⟩) (Kd.R_far (p := ⟨gb410, 0, none⟩) (Kd.R_mono HO394.out (fun k_ hk => (⟨hk, hk.2⟩ : _ ∧ k_ ≠ gb410))) (fun _ hk => hk.2) (.int .i64 t406)) (fun _ hk => hk.2) (.int .i64 t407)) (fun _ hk => hk.2) (.string t408)) (fun _ h_ => h_.1))) (Kd.R_base ho96) hb); have n4_ := Aside0.mk (Kd.R_elder' (by (with_reducible repeat (first | apply Kd.R_alloc | apply Kd.R_drewN | apply Kd.R_drew)); exact (Kd.R_mono (Kd.R_far (p := ⟨gb410, 2, none⟩) (Kd.R_far (p := ⟨gb410, 1, none⟩) (Kd.R_far (p := ⟨gb410, 0, none⟩) (Kd.R_mono HO405.out (fun k_ hk => (⟨hk, hk.2⟩ : _ ∧ k_ ≠ gb410))) (fun _ hk => hk.2) (.int .i64 t406)) (fun _ hk => hk.2) (.int .i64 t407)) (fun _ hk => hk.2) (.string t408)) (fun _ h_ => h_.1))) (Kd.R_base ho96) hb); have n5_ := Aside0.mk (Kd.R_lower (Kd.R_newB (Kd.R_newB (Kd.R_newB (Kd.R_newB (Kd.R_newB (Kd.R_newB (Kd.R_new' (Kd.R_new' (Kd.R_new' (Kd.R_new' (Kd.R_new' ho96 (Kd.R_lt (by (with_reducible repeat (first | apply Kd.R_alloc | apply Kd.R_drewN | apply Kd.R_drew)); exact (Kd.R_mono (Kd.R_far (p := ⟨gb410, 2, none⟩) (Kd.R_far (p := ⟨gb410, 1, none⟩) (Kd.R_far (p := ⟨gb410, 0, none⟩) (Kd.R_mono HO355.out (fun k_ hk => (⟨hk, hk.2⟩ : _ ∧ k_ ≠ gb410))) (fun _ hk => hk.2) (.int .i64 t406)) (fun _ hk => hk.2) (.int .i64 t407)) (fun _ hk => hk.2) (.string t408)) (fun _ h_ => h_.1))))) (Kd.R_lt (by (with_reducible repeat (first | apply Kd.R_alloc | apply Kd.R_drewN | apply Kd.R_drew)); exact (Kd.R_mono (Kd.R_far (p := ⟨gb410, 2, none⟩) (Kd.R_far (p := ⟨gb410, 1, none⟩) (Kd.R_far (p := ⟨gb410, 0, none⟩) (Kd.R_mono HO369.out (fun k_ hk => (⟨hk, hk.2⟩ : _ ∧ k_ ≠ gb410))) (fun _ hk => hk.2) (.int .i64 t406)) (fun _ hk => hk.2) (.int .i64 t407)) (fun _ hk => hk.2) (.string t408)) (fun _ h_ => h_.1))))) (Kd.R_lt (by (with_reducible repeat (first | apply Kd.R_alloc | apply Kd.R_drewN | apply Kd.R_drew)); exact (Kd.R_mono (Kd.R_far (p := ⟨gb410, 2, none⟩) (Kd.R_far (p := ⟨gb410, 1, none⟩) (Kd.R_far (p := ⟨gb410, 0, none⟩) (Kd.R_mono HO383.out (fun k_ hk => (⟨hk, hk.2⟩ : _ ∧ k_ ≠ gb410))) (fun _ hk => hk.2) (.int .i64 t406)) (fun _ hk => hk.2) (.int .i64 t407)) (fun _ hk => hk.2) (.string t408)) (fun _ h_ => h_.1))))) (Kd.R_lt (by (with_reducible repeat (first | apply Kd.R_alloc | apply Kd.R_drewN | apply Kd.R_drew)); exact (Kd.R_mono (Kd.R_far (p := ⟨gb410, 2, none⟩) (Kd.R_far (p := ⟨gb410, 1, none⟩) (Kd.R_far (p := ⟨gb410, 0, none⟩) (Kd.R_mono HO394.out (fun k_ hk => (⟨hk, hk.2⟩ : _ ∧ k_ ≠ gb410))) (fun _ hk => hk.2) (.int .i64 t406)) (fun _ hk => hk.2) (.int .i64 t407)) (fun _ hk => hk.2) (.string t408)) (fun _ h_ => h_.1))))) (Kd.R_lt (by (with_reducible repeat (first | apply Kd.R_alloc | apply Kd.R_drewN | apply Kd.R_drew)); exact (Kd.R_mono (Kd.R_far (p := ⟨gb410, 2, none⟩) (Kd.R_far (p := ⟨gb410, 1, none⟩) (Kd.R_far (p := ⟨gb410, 0, none⟩) (Kd.R_mono HO405.out (fun k_ hk => (⟨hk, hk.2⟩ : _ ∧ k_ ≠ gb410))) (fun _ hk => hk.2) (.int .i64 t406)) (fun _ hk => hk.2) (.int .i64 t407)) (fun _ hk => hk.2) (.string t408)) (fun _ h_ => h_.1))))) (g := gb352) (o := .cells #[.int .i64 t348, .int .i64 t349, .string t350] 25 (0, 0)) (by (with_reducible repeat (first | refine blk_drewN ?_ _ | refine blk_drew ?_ | refine blk_alloc ?_ _)); refine blk_far ?_ NB352_410.out _; (with_reducible repeat (first | refine blk_drewN ?_ _ | refine blk_drew ?_ | refine blk_alloc ?_ _)); refine blk_far ?_ NB352_410.out _; (with_reducible repeat (first | refine blk_drewN ?_ _ | refine blk_drew ?_ | refine blk_alloc ?_ _)); refine blk_far ?_ NB352_410.out _; (with_reducible repeat (first | refine blk_drewN ?_ _ | refine blk_drew ?_ | refine blk_alloc ?_ _)); exact BK352.out)) (g := gb360) (o := .cells #[.int .i64 t356, .int .i64 t357, .string t358] 25 (0, 0)) (by (with_reducible repeat (first | refine blk_drewN ?_ _ | refine blk_drew ?_ | refine blk_alloc ?_ _)); refine blk_far ?_ NB360_410.out _; (with_reducible repeat (first | refine blk_drewN ?_ _ | refine blk_drew ?_ | refine blk_alloc ?_ _)); refine blk_far ?_ NB360_410.out _; (with_reducible repeat (first | refine blk_drewN ?_ _ | refine blk_drew ?_ | refine blk_alloc ?_ _)); refine blk_far ?_ NB360_410.out _; (with_reducible repeat (first | refine blk_drewN ?_ _ | refine blk_drew ?_ | refine blk_alloc ?_ _)); exact BK360.out)) (g := gb374) (o := .cells #[.int .i64 t370, .int .i64 t371, .string t372] 25 (0, 0)) (by (with_reducible repeat (first | refine blk_drewN ?_ _ | refine blk_drew ?_ | refine blk_alloc ?_ _)); refine blk_far ?_ NB374_410.out _; (with_reducible repeat (first | refine blk_drewN ?_ _ | refine blk_drew ?_ | refine blk_alloc ?_ _)); refine blk_far ?_ NB374_410.out _; (with_reducible repeat (first | refine blk_drewN ?_ _ | refine blk_drew ?_ | refine blk_alloc ?_ _)); refine blk_far ?_ NB374_410.out _; (with_reducible repeat (first | refine blk_drewN ?_ _ | refine blk_drew ?_ | refine blk_alloc ?_ _)); exact BK374.out)) (g := gb388) (o := .cells #[.int .i64 t384, .int .i64 t385, .string t386] 25 (0, 0)) (by (with_reducible repeat (first | refine blk_drewN ?_ _ | refine blk_drew ?_ | refine blk_alloc ?_ _)); refine blk_far ?_ NB388_410.out _; (with_reducible repeat (first | refine blk_drewN ?_ _ | refine blk_drew ?_ | refine blk_alloc ?_ _)); refine blk_far ?_ NB388_410.out _; (with_reducible repeat (first | refine blk_drewN ?_ _ | refine blk_drew ?_ | refine blk_alloc ?_ _)); refine blk_far ?_ NB388_410.out _; (with_reducible repeat (first | refine blk_drewN ?_ _ | refine blk_drew ?_ | refine blk_alloc ?_ _)); exact BK388.out)) (g := gb399) (o := .cells #[.int .i64 t395, .int .i64 t396, .string t397] 25 (0, 0)) (by (with_reducible repeat (first | refine blk_drewN ?_ _ | refine blk_drew ?_ | refine blk_alloc ?_ _)); refine blk_far ?_ NB399_410.out _; (with_reducible repeat (first | refine blk_drewN ?_ _ | refine blk_drew ?_ | refine blk_alloc ?_ _)); refine blk_far ?_ NB399_410.out _; (with_reducible repeat (first | refine blk_drewN ?_ _ | refine blk_drew ?_ | refine blk_alloc ?_ _)); refine blk_far ?_ NB399_410.out _; (with_reducible repeat (first | refine blk_drewN ?_ _ | refine blk_drew ?_ | refine blk_alloc ?_ _)); exact BK399.out)) (g := gb410) (o := .cells #[.int .i64 t406, .int .i64 t407, .string t408] 25 (0, 0)) (by (with_reducible repeat (first | refine blk_drewN ?_ _ | refine blk_drew ?_ | refine blk_alloc ?_ _)); refine blk_put (cs := #[.int .i64 t406, .int .i64 t407, .string (⟨#[]⟩ : ByteArray)]) ?_ 2 _ rfl; (with_reducible repeat (first | refine blk_drewN ?_ _ | refine blk_drew ?_ | refine blk_alloc ?_ _)); refine blk_put (cs := #[.int .i64 t406, .int .i64 0, .string (⟨#[]⟩ : ByteArray)]) ?_ 1 _ rfl; (with_reducible repeat (first | refine blk_drewN ?_ _ | refine blk_drew ?_ | refine blk_alloc ?_ _)); refine blk_put (cs := #[.int .i64 0, .int .i64 0, .string (⟨#[]⟩ : ByteArray)]) ?_ 0 _ rfl; (with_reducible repeat (first | refine blk_drewN ?_ _ | refine blk_drew ?_ | refine blk_alloc ?_ _)); exact BK410.out)) (below_size (by repeat (first | (with_reducible first | exact HB.out | apply below_alloc | apply pw_below_drewN | apply below_drew1 | refine below_set ?_ GE352.out | refine below_set ?_ GE360.out | refine below_set ?_ GE374.out | refine below_set ?_ GE388.out | refine below_set ?_ GE399.out | refine below_set ?_ GE410.out) | exact HB.out)))); have n6_ := Aside0.mk (blk_below (g := gb352) (o := .cells #[.int .i64 t348, .int .i64 t349, .string t350] 25 (0, 0)) (by (with_reducible repeat (first | refine blk_drewN ?_ _ | refine blk_drew ?_ | refine blk_alloc ?_ _)); refine blk_far ?_ NB352_410.out _; (with_reducible repeat (first | refine blk_drewN ?_ _ | refine blk_drew ?_ | refine blk_alloc ?_ _)); refine blk_far ?_ NB352_410.out _; (with_reducible repeat (first | refine blk_drewN ?_ _ | refine blk_drew ?_ | refine blk_alloc ?_ _)); refine blk_far ?_ NB352_410.out _; (with_reducible repeat (first | refine blk_drewN ?_ _ | refine blk_drew ?_ | refine blk_alloc ?_ _)); exact BK352.out) hb); have n7_ := Aside0.mk (blk_below (g := gb360) (o := .cells #[.int .i64 t356, .int .i64 t357, .string t358] 25 (0, 0)) (by (with_reducible repeat (first | refine blk_drewN ?_ _ | refine blk_drew ?_ | refine blk_alloc ?_ _)); refine blk_far ?_ NB360_410.out _; (with_reducible repeat (first | refine blk_drewN ?_ _ | refine blk_drew ?_ | refine blk_alloc ?_ _)); refine blk_far ?_ NB360_410.out _; (with_reducible repeat (first | refine blk_drewN ?_ _ | refine blk_drew ?_ | refine blk_alloc ?_ _)); refine blk_far ?_ NB360_410.out _; (with_reducible repeat (first | refine blk_drewN ?_ _ | refine blk_drew ?_ | refine blk_alloc ?_ _)); exact BK360.out) hb); have n8_ := Aside0.mk (blk_below (g := gb374) (o := .cells #[.int .i64 t370, .int .i64 t371, .string t372] 25 (0, 0)) (by (with_reducible repeat (first | refine blk_drewN ?_ _ | refine blk_drew ?_ | refine blk_alloc ?_ _)); refine blk_far ?_ NB374_410.out _; (with_reducible repeat (first | refine blk_drewN ?_ _ | refine blk_drew ?_ | refine blk_alloc ?_ _)); refine blk_far ?_ NB374_410.out _; (with_reducible repeat (first | refine blk_drewN ?_ _ | refine blk_drew ?_ | refine blk_alloc ?_ _)); refine blk_far ?_ NB374_410.out _; (with_reducible repeat (first | refine blk_drewN ?_ _ | refine blk_drew ?_ | refine blk_alloc ?_ _)); exact BK374.out) hb); have n9_ := Aside0.mk (blk_below (g := gb388) (o := .cells #[.int .i64 t384, .int .i64 t385, .string t386] 25 (0, 0)) (by (with_reducible repeat (first | refine blk_drewN ?_ _ | refine blk_drew ?_ | refine blk_alloc ?_ _)); refine blk_far ?_ NB388_410.out _; (with_reducible repeat (first | refine blk_drewN ?_ _ | refine blk_drew ?_ | refine blk_alloc ?_ _)); refine blk_far ?_ NB388_410.out _; (with_reducible repeat (first | refine blk_drewN ?_ _ | refine blk_drew ?_ | refine blk_alloc ?_ _)); refine blk_far ?_ NB388_410.out _; (with_reducible repeat (first | refine blk_drewN ?_ _ | refine blk_drew ?_ | refine blk_alloc ?_ _)); exact BK388.out) hb); have n10_ := Aside0.mk (blk_below (g := gb399) (o := .cells #[.int .i64 t395, .int .i64 t396, .string t397] 25 (0, 0)) (by (with_reducible repeat (first | refine blk_drewN ?_ _ | refine blk_drew ?_ | refine blk_alloc ?_ _)); refine blk_far ?_ NB399_410.out _; (with_reducible repeat (first | refine blk_drewN ?_ _ | refine blk_drew ?_ | refine blk_alloc ?_ _)); refine blk_far ?_ NB399_410.out _; (with_reducible repeat (first | refine blk_drewN ?_ _ | refine blk_drew ?_ | refine blk_alloc ?_ _)); refine blk_far ?_ NB399_410.out _; (with_reducible repeat (first | refine blk_drewN ?_ _ | refine blk_drew ?_ | refine blk_alloc ?_ _)); exact BK399.out) hb); have n11_ := Aside0.mk (blk_below (g := gb410) (o := .cells #[.int .i64 t406, .int .i64 t407, .string t408] 25 (0, 0)) (by (with_reducible repeat (first | refine blk_drewN ?_ _ | refine blk_drew ?_ | refine blk_alloc ?_ _)); refine blk_put (cs := #[.int .i64 t406, .int .i64 t407, .string (⟨#[]⟩ : ByteArray)]) ?_ 2 _ rfl; (with_reducible repeat (first | refine blk_drewN ?_ _ | refine blk_drew ?_ | refine blk_alloc ?_ _)); refine blk_put (cs := #[.int .i64 t406, .int .i64 0, .string (⟨#[]⟩ : ByteArray)]) ?_ 1 _ rfl; (with_reducible repeat (first | refine blk_drewN ?_ _ | refine blk_drew ?_ | refine blk_alloc ?_ _)); refine blk_put (cs := #[.int .i64 0, .int .i64 0, .string (⟨#[]⟩ : ByteArray)]) ?_ 0 _ rfl; (with_reducible repeat (first | refine blk_drewN ?_ _ | refine blk_drew ?_ | refine blk_alloc ?_ _)); exact BK410.out) hb); have n12_ := Aside0.mk (below_step (by repeat (first | (with_reducible first | exact HB.out | apply below_alloc | apply pw_below_drewN | apply below_drew1 | refine below_set ?_ GE352.out | refine below_set ?_ GE360.out | refine below_set ?_ GE374.out | refine below_set ?_ GE388.out | refine below_set ?_ GE399.out | refine below_set ?_ GE410.out) | exact HB.out)) hb); clear HO355; clear HO369; clear HO383; clear HO394; clear HO405; clear BK352; clear BK360; clear BK374; clear BK388; clear BK399; clear BK410; clear HB; have HO355 := n0_; have HO369 := n1_; have HO383 := n2_; have HO394 := n3_; have HO405 := n4_; have HO413 := n5_; have BK352 := n6_; have BK360 := n7_; have BK374 := n8_; have BK388 := n9_; have BK399 := n10_; have BK410 := n11_; have HB := n12_; clear n0_ n1_ n2_ n3_ n4_ n5_ n6_ n7_ n8_ n9_ n10_ n11_ n12_; clear hb ho96; obtain ⟨Ao97, co97, eo97⟩ := Kd.R_slice HO413.out; subst eo97) | ((with_reducible refine gate_callee (f := 12) rfl ?_); refine goesL_ (some 90) rfl rfl Try.func12 (by kernel_rfl) rfl #[.int .i64 3, .slice Ao97 y411.length co97] rfl (by (try simp only [List.map_toArray, List.map_cons, List.map_nil]); first | done | rfl | (simp only [List.length_drop, List.length_take]; rfl)) ?_; (with_reducible refine (calc_Call.print 3 _ _ y411 t414 t415 t416 t417 _ ?side1 ?side2 A20.out).mono ?_); (case side1 => repeat (first | exact (Kd.R_reads' HO413.out).2.2 | (with_reducible refine Kd.C_alloc ?_ _) | (with_reducible refine Kd.C_drewN ?_ _) | (with_reducible refine Kd.C_drew ?_))); (case side2 => exact (Kd.R_reads' HO413.out).2.1); rintro e w98 ⟨rfl, hb⟩; refine ⟨_, rfl, ?_⟩; have n0_ := Aside0.mk (Kd.R_below (by (with_reducible repeat (first | apply Kd.R_alloc | apply Kd.R_drewN | apply Kd.R_drew)); exact HO355.out) hb); have n1_ := Aside0.mk (Kd.R_below (by (with_reducible repeat (first | apply Kd.R_alloc | apply Kd.R_drewN | apply Kd.R_drew)); exact HO369.out) hb); have n2_ := Aside0.mk (Kd.R_below (by (with_reducible repeat (first | apply Kd.R_alloc | apply Kd.R_drewN | apply Kd.R_drew)); exact HO383.out) hb); have n3_ := Aside0.mk (Kd.R_below (by (with_reducible repeat (first | apply Kd.R_alloc | apply Kd.R_drewN | apply Kd.R_drew)); exact HO394.out) hb); have n4_ := Aside0.mk (Kd.R_below (by (with_reducible repeat (first | apply Kd.R_alloc | apply Kd.R_drewN | apply Kd.R_drew)); exact HO405.out) hb); have n5_ := Aside0.mk (Kd.R_below (by (with_reducible repeat (first | apply Kd.R_alloc | apply Kd.R_drewN | apply Kd.R_drew)); exact HO413.out) hb); have n6_ := Aside0.mk (blk_below (g := gb352) (o := .cells #[.int .i64 t348, .int .i64 t349, .string t350] 25 (0, 0)) (bk_ BK352) hb); have n7_ := Aside0.mk (blk_below (g := gb360) (o := .cells #[.int .i64 t356, .int .i64 t357, .string t358] 25 (0, 0)) (bk_ BK360) hb); have n8_ := Aside0.mk (blk_below (g := gb374) (o := .cells #[.int .i64 t370, .int .i64 t371, .string t372] 25 (0, 0)) (bk_ BK374) hb); have n9_ := Aside0.mk (blk_below (g := gb388) (o := .cells #[.int .i64 t384, .int .i64 t385, .string t386] 25 (0, 0)) (bk_ BK388) hb); have n10_ := Aside0.mk (blk_below (g := gb399) (o := .cells #[.int .i64 t395, .int .i64 t396, .string t397] 25 (0, 0)) (bk_ BK399) hb); have n11_ := Aside0.mk (blk_below (g := gb410) (o := .cells #[.int .i64 t406, .int .i64 t407, .string t408] 25 (0, 0)) (bk_ BK410) hb); have n12_ := Aside0.mk (below_step (by repeat (first | (with_reducible first | exact HB.out | apply below_alloc | apply pw_below_drewN | apply below_drew1 | refine below_set ?_ GE352.out | refine below_set ?_ GE360.out | refine below_set ?_ GE374.out | refine below_set ?_ GE388.out | refine below_set ?_ GE399.out | refine below_set ?_ GE410.out) | exact HB.out)) hb); clear HO355; clear HO369; clear HO383; clear HO394; clear HO405; clear HO413; clear BK352; clear BK360; clear BK374; clear BK388; clear BK399; clear BK410; clear HB; have HO355 := n0_; have HO369 := n1_; have HO383 := n2_; have HO394 := n3_; have HO405 := n4_; have HO413 := n5_; have BK352 := n6_; have BK360 := n7_; have BK374 := n8_; have BK388 := n9_; have BK399 := n10_; have BK410 := n11_; have HB := n12_; clear n0_ n1_ n2_ n3_ n4_ n5_ n6_ n7_ n8_ n9_ n10_ n11_ n12_; (try clear hb); (try clear hb2); (try clear hk); (try clear hi)) | ((with_reducible refine gate_dst (N := 17) rfl ?_); (try (refine gate_guard (by rfl) ?_; dsimp only)); refine box_event ?hg (N := 17) ?hd (cs := #[.int .i64 0, .int .i64 0, .string (⟨#[]⟩ : ByteArray)]) (t := 25) ?hr ?_; (case hd => rfl); (case hg => rfl); (case hr => first | (go_simp; done) | (go_simp; rfl)); intro gb418 hg w99 hbox hb; have n0_ := Aside0.mk (Kd.R_below (Kd.R_elderB (by (with_reducible repeat (first | apply Kd.R_alloc | apply Kd.R_drewN | apply Kd.R_drew)); exact HO355.out) gb418 (Nat.le_of_eq hg.symm)) hb); have n1_ := Aside0.mk (Kd.R_below (Kd.R_elderB (by (with_reducible repeat (first | apply Kd.R_alloc | apply Kd.R_drewN | apply Kd.R_drew)); exact HO369.out) gb418 (Nat.le_of_eq hg.symm)) hb); have n2_ := Aside0.mk (Kd.R_below (Kd.R_elderB (by (with_reducible repeat (first | apply Kd.R_alloc | apply Kd.R_drewN | apply Kd.R_drew)); exact HO383.out) gb418 (Nat.le_of_eq hg.symm)) hb); have n3_ := Aside0.mk (Kd.R_below (Kd.R_elderB (by (with_reducible repeat (first | apply Kd.R_alloc | apply Kd.R_drewN | apply Kd.R_drew)); exact HO394.out) gb418 (Nat.le_of_eq hg.symm)) hb); have n4_ := Aside0.mk (Kd.R_below (Kd.R_elderB (by (with_reducible repeat (first | apply Kd.R_alloc | apply Kd.R_drewN | apply Kd.R_drew)); exact HO405.out) gb418 (Nat.le_of_eq hg.symm)) hb); have n5_ := Aside0.mk (Kd.R_below (Kd.R_elderB (by (with_reducible repeat (first | apply Kd.R_alloc | apply Kd.R_drewN | apply Kd.R_drew)); exact HO413.out) gb418 (Nat.le_of_eq hg.symm)) hb); have n6_ := Aside0.mk (blk_below (g := gb352) (o := .cells #[.int .i64 t348, .int .i64 t349, .string t350] 25 (0, 0)) (bk_ BK352) hb); have n7_ := Aside0.mk (blk_below (g := gb360) (o := .cells #[.int .i64 t356, .int .i64 t357, .string t358] 25 (0, 0)) (bk_ BK360) hb); have n8_ := Aside0.mk (blk_below (g := gb374) (o := .cells #[.int .i64 t370, .int .i64 t371, .string t372] 25 (0, 0)) (bk_ BK374) hb); have n9_ := Aside0.mk (blk_below (g := gb388) (o := .cells #[.int .i64 t384, .int .i64 t385, .string t386] 25 (0, 0)) (bk_ BK388) hb); have n10_ := Aside0.mk (blk_below (g := gb399) (o := .cells #[.int .i64 t395, .int .i64 t396, .string t397] 25 (0, 0)) (bk_ BK399) hb); have n11_ := Aside0.mk (blk_below (g := gb410) (o := .cells #[.int .i64 t406, .int .i64 t407, .string t408] 25 (0, 0)) (bk_ BK410) hb); have n12_ := Aside0.mk (below_step (by repeat (first | (with_reducible first | exact HB.out | apply below_alloc | apply pw_below_drewN | apply below_drew1 | refine below_set ?_ GE352.out | refine below_set ?_ GE360.out | refine below_set ?_ GE374.out | refine below_set ?_ GE388.out | refine below_set ?_ GE399.out | refine below_set ?_ GE410.out) | exact HB.out)) hb); have n13_ := Aside0.mk (hbox); have n14_ := Aside0.mk ((by rw [hg]; exact (below_size (by repeat (first | (with_reducible first | exact HB.out | apply below_alloc | apply pw_below_drewN | apply below_drew1 | refine below_set ?_ GE352.out | refine below_set ?_ GE360.out | refine below_set ?_ GE374.out | refine below_set ?_ GE388.out | refine below_set ?_ GE399.out | refine below_set ?_ GE410.out) | exact HB.out))) : w.heap.size ≤ gb418)); have n15_ := Aside0.mk ((by rw [hg]; exact (below_size (by repeat (first | (with_reducible first | exact HB.out | apply below_alloc | apply pw_below_drewN | apply below_drew1 | refine below_set ?_ GE352.out | refine below_set ?_ GE360.out | refine below_set ?_ GE374.out | refine below_set ?_ GE388.out | refine below_set ?_ GE399.out | refine below_set ?_ GE410.out) | exact HB.out))) : w.heap.size ≤ gb418)); have n16_ := Aside0.mk ((by rw [hg]; exact Nat.ne_of_lt (blk_lt (g := gb352) (o := .cells #[.int .i64 t348, .int .i64 t349, .string t350] 25 (0, 0)) (bk_ BK352)) : gb352 ≠ gb418)); have n17_ := Aside0.mk ((by rw [hg]; exact Nat.ne_of_gt (blk_lt (g := gb352) (o := .cells #[.int .i64 t348, .int .i64 t349, .string t350] 25 (0, 0)) (bk_ BK352)) : gb418 ≠ gb352)); have n18_ := Aside0.mk ((by rw [hg]; exact Nat.ne_of_lt (blk_lt (g := gb360) (o := .cells #[.int .i64 t356, .int .i64 t357, .string t358] 25 (0, 0)) (bk_ BK360)) : gb360 ≠ gb418)); have n19_ := Aside0.mk ((by rw [hg]; exact Nat.ne_of_gt (blk_lt (g := gb360) (o := .cells #[.int .i64 t356, .int .i64 t357, .string t358] 25 (0, 0)) (bk_ BK360)) : gb418 ≠ gb360)); have n20_ := Aside0.mk ((by rw [hg]; exact Nat.ne_of_lt (blk_lt (g := gb374) (o := .cells #[.int .i64 t370, .int .i64 t371, .string t372] 25 (0, 0)) (bk_ BK374)) : gb374 ≠ gb418)); have n21_ := Aside0.mk ((by rw [hg]; exact Nat.ne_of_gt (blk_lt (g := gb374) (o := .cells #[.int .i64 t370, .int .i64 t371, .string t372] 25 (0, 0)) (bk_ BK374)) : gb418 ≠ gb374)); have n22_ := Aside0.mk ((by rw [hg]; exact Nat.ne_of_lt (blk_lt (g := gb388) (o := .cells #[.int .i64 t384, .int .i64 t385, .string t386] 25 (0, 0)) (bk_ BK388)) : gb388 ≠ gb418)); have n23_ := Aside0.mk ((by rw [hg]; exact Nat.ne_of_gt (blk_lt (g := gb388) (o := .cells #[.int .i64 t384, .int .i64 t385, .string t386] 25 (0, 0)) (bk_ BK388)) : gb418 ≠ gb388)); have n24_ := Aside0.mk ((by rw [hg]; exact Nat.ne_of_lt (blk_lt (g := gb399) (o := .cells #[.int .i64 t395, .int .i64 t396, .string t397] 25 (0, 0)) (bk_ BK399)) : gb399 ≠ gb418)); have n25_ := Aside0.mk ((by rw [hg]; exact Nat.ne_of_gt (blk_lt (g := gb399) (o := .cells #[.int .i64 t395, .int .i64 t396, .string t397] 25 (0, 0)) (bk_ BK399)) : gb418 ≠ gb399)); have n26_ := Aside0.mk ((by rw [hg]; exact Nat.ne_of_lt (blk_lt (g := gb410) (o := .cells #[.int .i64 t406, .int .i64 t407, .string t408] 25 (0, 0)) (bk_ BK410)) : gb410 ≠ gb418)); have n27_ := Aside0.mk ((by rw [hg]; exact Nat.ne_of_gt (blk_lt (g := gb410) (o := .cells #[.int .i64 t406, .int .i64 t407, .string t408] 25 (0, 0)) (bk_ BK410)) : gb418 ≠ gb410)); clear HO355; clear HO369; clear HO383; clear HO394; clear HO405; clear HO413; clear BK352; clear BK360; clear BK374; clear BK388; clear BK399; clear BK410; clear HB; have HO355 := n0_; have HO369 := n1_; have HO383 := n2_; have HO394 := n3_; have HO405 := n4_; have HO413 := n5_; have BK352 := n6_; have BK360 := n7_; have BK374 := n8_; have BK388 := n9_; have BK399 := n10_; have BK410 := n11_; have HB := n12_; have BK418 := n13_; have GW418 := n14_; have GE418 := n15_; have NB352_418 := n16_; have NB418_352 := n17_; have NB360_418 := n18_; have NB418_360 := n19_; have NB374_418 := n20_; have NB418_374 := n21_; have NB388_418 := n22_; have NB418_388 := n23_; have NB399_418 := n24_; have NB418_399 := n25_; have NB410_418 := n26_; have NB418_410 := n27_; clear n0_ n1_ n2_ n3_ n4_ n5_ n6_ n7_ n8_ n9_ n10_ n11_ n12_ n13_ n14_ n15_ n16_ n17_ n18_ n19_ n20_ n21_ n22_ n23_ n24_ n25_ n26_ n27_; clear hb hbox hg; have hnb100 := NB418_352.out; have hnc100 := NB352_418.out; have hnb101 := NB418_360.out; have hnc101 := NB360_418.out; have hnb102 := NB418_374.out; have hnc102 := NB374_418.out; have hnb103 := NB418_388.out; have hnc103 := NB388_418.out; have hnb104 := NB418_399.out; have hnc104 := NB399_418.out; have hnb105 := NB418_410.out; have hnc105 := NB410_418.out; have hcz106_0 : w99.cell? ⟨gb418, 0, none⟩ = some (.int .i64 0) := (blk_cell BK418.out 0).trans rfl; have hcz106_1 : w99.cell? ⟨gb418, 1, none⟩ = some (.int .i64 0) := (blk_cell BK418.out 1).trans rfl; have hcz106_2 : w99.cell? ⟨gb418, 2, none⟩ = some (.string (⟨#[]⟩ : ByteArray)) := (blk_cell BK418.out 2).trans rfl; have hfz106_0 := blk_frozen BK418.out 0; have hfz106_1 := blk_frozen BK418.out 1; have hfz106_2 := blk_frozen BK418.out 2))
 have n0_ : Aside0 (Kd.R k25 25 (((w99.setCell ⟨gb418, 0, none⟩ (.int .i64 t414)).setCell ⟨gb418, 1, none⟩ (.int .i64 t415)).setCell ⟨gb418, 2, none⟩ (.string t416)) w.heap.size (fun k_ => some k_ ≠ (v368 : Value).ownBlock ∧ some k_ ≠ (v382 : Value).ownBlock ∧ some k_ ≠ (.slice Ao75 y392.length co75 : Value).ownBlock ∧ some k_ ≠ (.slice Ao86 y403.length co86 : Value).ownBlock ∧ some k_ ≠ (.slice Ao97 y411.length co97 : Value).ownBlock ∧ k_ ≠ gb352 ∧ k_ ≠ gb360 ∧ k_ ≠ gb374 ∧ k_ ≠ gb388 ∧ k_ ≠ gb399 ∧ k_ ≠ gb410 ∧ k_ ≠ gb418) (.slice Ao41 y353.length co41) y353) := ⟨by (with_reducible repeat (first | apply Kd.R_alloc | apply Kd.R_drewN | apply Kd.R_drew)); exact Kd.R_mono (Kd.R_far (p := ⟨gb418, 2, none⟩) (Kd.R_far (p := ⟨gb418, 1, none⟩) (Kd.R_far (p := ⟨gb418, 0, none⟩) (Kd.R_mono HO355.out (fun k_ hk => (⟨hk, hk.2⟩ : _ ∧ k_ ≠ gb418))) (fun _ hk => hk.2) (.int .i64 t414)) (fun _ hk => hk.2) (.int .i64 t415)) (fun _ hk => hk.2) (.string t416)) (fun _ hk => ⟨hk.1.1.1.1.1.1.1.1, ⟨hk.1.1.1.1.1.1.1.2.1, ⟨hk.1.1.1.1.1.1.2, ⟨hk.1.1.1.1.2, ⟨hk.1.1.2, ⟨hk.1.1.1.1.1.1.1.2.2.1, ⟨hk.1.1.1.1.1.1.1.2.2.2.1, ⟨hk.1.1.1.1.1.1.1.2.2.2.2.1, ⟨hk.1.1.1.1.1.1.1.2.2.2.2.2, ⟨hk.1.1.1.1.1.2, ⟨hk.1.1.1.2, hk.1.2⟩⟩⟩⟩⟩⟩⟩⟩⟩⟩⟩)⟩
 have n1_ : Aside0 (Kd.R k25 25 (((w99.setCell ⟨gb418, 0, none⟩ (.int .i64 t414)).setCell ⟨gb418, 1, none⟩ (.int .i64 t415)).setCell ⟨gb418, 2, none⟩ (.string t416)) w.heap.size (fun k_ => some k_ ≠ (.slice Ao41 y353.length co41 : Value).ownBlock ∧ some k_ ≠ (v382 : Value).ownBlock ∧ some k_ ≠ (.slice Ao75 y392.length co75 : Value).ownBlock ∧ some k_ ≠ (.slice Ao86 y403.length co86 : Value).ownBlock ∧ some k_ ≠ (.slice Ao97 y411.length co97 : Value).ownBlock ∧ k_ ≠ gb352 ∧ k_ ≠ gb360 ∧ k_ ≠ gb374 ∧ k_ ≠ gb388 ∧ k_ ≠ gb399 ∧ k_ ≠ gb410 ∧ k_ ≠ gb418) v368 y367) := ⟨by (with_reducible repeat (first | apply Kd.R_alloc | apply Kd.R_drewN | apply Kd.R_drew)); exact Kd.R_mono (Kd.R_far (p := ⟨gb418, 2, none⟩) (Kd.R_far (p := ⟨gb418, 1, none⟩) (Kd.R_far (p := ⟨gb418, 0, none⟩) (Kd.R_mono HO369.out (fun k_ hk => (⟨hk, hk.2⟩ : _ ∧ k_ ≠ gb418))) (fun _ hk => hk.2) (.int .i64 t414)) (fun _ hk => hk.2) (.int .i64 t415)) (fun _ hk => hk.2) (.string t416)) (fun _ hk => ⟨hk.1.1.1.1.1.1.1.1, ⟨hk.1.1.1.1.1.1.1.2.1, ⟨hk.1.1.1.1.1.1.2, ⟨hk.1.1.1.1.2, ⟨hk.1.1.2, ⟨hk.1.1.1.1.1.1.1.2.2.1, ⟨hk.1.1.1.1.1.1.1.2.2.2.1, ⟨hk.1.1.1.1.1.1.1.2.2.2.2.1, ⟨hk.1.1.1.1.1.1.1.2.2.2.2.2, ⟨hk.1.1.1.1.1.2, ⟨hk.1.1.1.2, hk.1.2⟩⟩⟩⟩⟩⟩⟩⟩⟩⟩⟩)⟩
 have n2_ : Aside0 (Kd.R k25 25 (((w99.setCell ⟨gb418, 0, none⟩ (.int .i64 t414)).setCell ⟨gb418, 1, none⟩ (.int .i64 t415)).setCell ⟨gb418, 2, none⟩ (.string t416)) w.heap.size (fun k_ => some k_ ≠ (.slice Ao41 y353.length co41 : Value).ownBlock ∧ some k_ ≠ (v368 : Value).ownBlock ∧ some k_ ≠ (.slice Ao75 y392.length co75 : Value).ownBlock ∧ some k_ ≠ (.slice Ao86 y403.length co86 : Value).ownBlock ∧ some k_ ≠ (.slice Ao97 y411.length co97 : Value).ownBlock ∧ k_ ≠ gb352 ∧ k_ ≠ gb360 ∧ k_ ≠ gb374 ∧ k_ ≠ gb388 ∧ k_ ≠ gb399 ∧ k_ ≠ gb410 ∧ k_ ≠ gb418) v382 y381) := ⟨by (with_reducible repeat (first | apply Kd.R_alloc | apply Kd.R_drewN | apply Kd.R_drew)); exact Kd.R_mono (Kd.R_far (p := ⟨gb418, 2, none⟩) (Kd.R_far (p := ⟨gb418, 1, none⟩) (Kd.R_far (p := ⟨gb418, 0, none⟩) (Kd.R_mono HO383.out (fun k_ hk => (⟨hk, hk.2⟩ : _ ∧ k_ ≠ gb418))) (fun _ hk => hk.2) (.int .i64 t414)) (fun _ hk => hk.2) (.int .i64 t415)) (fun _ hk => hk.2) (.string t416)) (fun _ hk => ⟨hk.1.1.1.1.1.1.1.1, ⟨hk.1.1.1.1.1.1.1.2.1, ⟨hk.1.1.1.1.1.1.2, ⟨hk.1.1.1.1.2, ⟨hk.1.1.2, ⟨hk.1.1.1.1.1.1.1.2.2.1, ⟨hk.1.1.1.1.1.1.1.2.2.2.1, ⟨hk.1.1.1.1.1.1.1.2.2.2.2.1, ⟨hk.1.1.1.1.1.1.1.2.2.2.2.2, ⟨hk.1.1.1.1.1.2, ⟨hk.1.1.1.2, hk.1.2⟩⟩⟩⟩⟩⟩⟩⟩⟩⟩⟩)⟩
 have n3_ : Aside0 (Kd.R k25 25 (((w99.setCell ⟨gb418, 0, none⟩ (.int .i64 t414)).setCell ⟨gb418, 1, none⟩ (.int .i64 t415)).setCell ⟨gb418, 2, none⟩ (.string t416)) w.heap.size (fun k_ => some k_ ≠ (.slice Ao41 y353.length co41 : Value).ownBlock ∧ some k_ ≠ (v368 : Value).ownBlock ∧ some k_ ≠ (v382 : Value).ownBlock ∧ some k_ ≠ (.slice Ao86 y403.length co86 : Value).ownBlock ∧ some k_ ≠ (.slice Ao97 y411.length co97 : Value).ownBlock ∧ k_ ≠ gb352 ∧ k_ ≠ gb360 ∧ k_ ≠ gb374 ∧ k_ ≠ gb388 ∧ k_ ≠ gb399 ∧ k_ ≠ gb410 ∧ k_ ≠ gb418) (.slice Ao75 y392.length co75) y392) := ⟨by (with_reducible repeat (first | apply Kd.R_alloc | apply Kd.R_drewN | apply Kd.R_drew)); exact Kd.R_mono (Kd.R_far (p := ⟨gb418, 2, none⟩) (Kd.R_far (p := ⟨gb418, 1, none⟩) (Kd.R_far (p := ⟨gb418, 0, none⟩) (Kd.R_mono HO394.out (fun k_ hk => (⟨hk, hk.2⟩ : _ ∧ k_ ≠ gb418))) (fun _ hk => hk.2) (.int .i64 t414)) (fun _ hk => hk.2) (.int .i64 t415)) (fun _ hk => hk.2) (.string t416)) (fun _ hk => ⟨hk.1.1.1.1.1.1.1.1.1.1.1.1.2, ⟨hk.1.1.1.1.1.1.1.1.1.1.1.2, ⟨hk.1.1.1.1.1.1.1.1.1.1.2, ⟨hk.1.1.1.1.2, ⟨hk.1.1.2, ⟨hk.1.1.1.1.1.1.1.1.1.2, ⟨hk.1.1.1.1.1.1.1.1.2, ⟨hk.1.1.1.1.1.1.1.2, ⟨hk.1.1.1.1.1.1.2, ⟨hk.1.1.1.1.1.2, ⟨hk.1.1.1.2, hk.1.2⟩⟩⟩⟩⟩⟩⟩⟩⟩⟩⟩)⟩
 have n4_ : Aside0 (Kd.R k25 25 (((w99.setCell ⟨gb418, 0, none⟩ (.int .i64 t414)).setCell ⟨gb418, 1, none⟩ (.int .i64 t415)).setCell ⟨gb418, 2, none⟩ (.string t416)) w.heap.size (fun k_ => some k_ ≠ (.slice Ao41 y353.length co41 : Value).ownBlock ∧ some k_ ≠ (v368 : Value).ownBlock ∧ some k_ ≠ (v382 : Value).ownBlock ∧ some k_ ≠ (.slice Ao75 y392.length co75 : Value).ownBlock ∧ some k_ ≠ (.slice Ao97 y411.length co97 : Value).ownBlock ∧ k_ ≠ gb352 ∧ k_ ≠ gb360 ∧ k_ ≠ gb374 ∧ k_ ≠ gb388 ∧ k_ ≠ gb399 ∧ k_ ≠ gb410 ∧ k_ ≠ gb418) (.slice Ao86 y403.length co86) y403) := ⟨by (with_reducible repeat (first | apply Kd.R_alloc | apply Kd.R_drewN | apply Kd.R_drew)); exact Kd.R_mono (Kd.R_far (p := ⟨gb418, 2, none⟩) (Kd.R_far (p := ⟨gb418, 1, none⟩) (Kd.R_far (p := ⟨gb418, 0, none⟩) (Kd.R_mono HO405.out (fun k_ hk => (⟨hk, hk.2⟩ : _ ∧ k_ ≠ gb418))) (fun _ hk => hk.2) (.int .i64 t414)) (fun _ hk => hk.2) (.int .i64 t415)) (fun _ hk => hk.2) (.string t416)) (fun _ hk => ⟨hk.1.1.1.1.1.1.1.1.1.1.1.1.2, ⟨hk.1.1.1.1.1.1.1.1.1.1.1.2, ⟨hk.1.1.1.1.1.1.1.1.1.1.2, ⟨hk.1.1.1.1.1.1.1.1.1.2, ⟨hk.1.1.2, ⟨hk.1.1.1.1.1.1.1.1.2, ⟨hk.1.1.1.1.1.1.1.2, ⟨hk.1.1.1.1.1.1.2, ⟨hk.1.1.1.1.1.2, ⟨hk.1.1.1.1.2, ⟨hk.1.1.1.2, hk.1.2⟩⟩⟩⟩⟩⟩⟩⟩⟩⟩⟩)⟩
 have n5_ : Aside0 (Kd.R k25 25 (((w99.setCell ⟨gb418, 0, none⟩ (.int .i64 t414)).setCell ⟨gb418, 1, none⟩ (.int .i64 t415)).setCell ⟨gb418, 2, none⟩ (.string t416)) w.heap.size (fun k_ => some k_ ≠ (.slice Ao41 y353.length co41 : Value).ownBlock ∧ some k_ ≠ (v368 : Value).ownBlock ∧ some k_ ≠ (v382 : Value).ownBlock ∧ some k_ ≠ (.slice Ao75 y392.length co75 : Value).ownBlock ∧ some k_ ≠ (.slice Ao86 y403.length co86 : Value).ownBlock ∧ k_ ≠ gb352 ∧ k_ ≠ gb360 ∧ k_ ≠ gb374 ∧ k_ ≠ gb388 ∧ k_ ≠ gb399 ∧ k_ ≠ gb410 ∧ k_ ≠ gb418) (.slice Ao97 y411.length co97) y411) := ⟨by (with_reducible repeat (first | apply Kd.R_alloc | apply Kd.R_drewN | apply Kd.R_drew)); exact Kd.R_mono (Kd.R_far (p := ⟨gb418, 2, none⟩) (Kd.R_far (p := ⟨gb418, 1, none⟩) (Kd.R_far (p := ⟨gb418, 0, none⟩) (Kd.R_mono HO413.out (fun k_ hk => (⟨hk, hk.2⟩ : _ ∧ k_ ≠ gb418))) (fun _ hk => hk.2) (.int .i64 t414)) (fun _ hk => hk.2) (.int .i64 t415)) (fun _ hk => hk.2) (.string t416)) (fun _ hk => ⟨hk.1.1.1.1.1.1.1.1.1.1.1.1.2, ⟨hk.1.1.1.1.1.1.1.1.1.1.1.2, ⟨hk.1.1.1.1.1.1.1.1.1.1.2, ⟨hk.1.1.1.1.1.1.1.1.1.2, ⟨hk.1.1.1.1.1.1.1.1.2, ⟨hk.1.1.1.1.1.1.1.2, ⟨hk.1.1.1.1.1.1.2, ⟨hk.1.1.1.1.1.2, ⟨hk.1.1.1.1.2, ⟨hk.1.1.1.2, ⟨hk.1.1.2, hk.1.2⟩⟩⟩⟩⟩⟩⟩⟩⟩⟩⟩)⟩
 have n6_ : Aside0 ((((w99.setCell ⟨gb418, 0, none⟩ (.int .i64 t414)).setCell ⟨gb418, 1, none⟩ (.int .i64 t415)).setCell ⟨gb418, 2, none⟩ (.string t416)).heap[gb352]? = some (.cells #[.int .i64 t348, .int .i64 t349, .string t350] 25 (0, 0))) := ⟨by (with_reducible repeat (first | refine blk_drewN ?_ _ | refine blk_drew ?_ | refine blk_alloc ?_ _)); refine blk_far ?_ NB352_418.out _; (with_reducible repeat (first | refine blk_drewN ?_ _ | refine blk_drew ?_ | refine blk_alloc ?_ _)); refine blk_far ?_ NB352_418.out _; (with_reducible repeat (first | refine blk_drewN ?_ _ | refine blk_drew ?_ | refine blk_alloc ?_ _)); refine blk_far ?_ NB352_418.out _; (with_reducible repeat (first | refine blk_drewN ?_ _ | refine blk_drew ?_ | refine blk_alloc ?_ _)); exact BK352.out⟩
 have n7_ : Aside0 ((((w99.setCell ⟨gb418, 0, none⟩ (.int .i64 t414)).setCell ⟨gb418, 1, none⟩ (.int .i64 t415)).setCell ⟨gb418, 2, none⟩ (.string t416)).heap[gb360]? = some (.cells #[.int .i64 t356, .int .i64 t357, .string t358] 25 (0, 0))) := ⟨by (with_reducible repeat (first | refine blk_drewN ?_ _ | refine blk_drew ?_ | refine blk_alloc ?_ _)); refine blk_far ?_ NB360_418.out _; (with_reducible repeat (first | refine blk_drewN ?_ _ | refine blk_drew ?_ | refine blk_alloc ?_ _)); refine blk_far ?_ NB360_418.out _; (with_reducible repeat (first | refine blk_drewN ?_ _ | refine blk_drew ?_ | refine blk_alloc ?_ _)); refine blk_far ?_ NB360_418.out _; (with_reducible repeat (first | refine blk_drewN ?_ _ | refine blk_drew ?_ | refine blk_alloc ?_ _)); exact BK360.out⟩
 have n8_ : Aside0 ((((w99.setCell ⟨gb418, 0, none⟩ (.int .i64 t414)).setCell ⟨gb418, 1, none⟩ (.int .i64 t415)).setCell ⟨gb418, 2, none⟩ (.string t416)).heap[gb374]? = some (.cells #[.int .i64 t370, .int .i64 t371, .string t372] 25 (0, 0))) := ⟨by (with_reducible repeat (first | refine blk_drewN ?_ _ | refine blk_drew ?_ | refine blk_alloc ?_ _)); refine blk_far ?_ NB374_418.out _; (with_reducible repeat (first | refine blk_drewN ?_ _ | refine blk_drew ?_ | refine blk_alloc ?_ _)); refine blk_far ?_ NB374_418.out _; (with_reducible repeat (first | refine blk_drewN ?_ _ | refine blk_drew ?_ | refine blk_alloc ?_ _)); refine blk_far ?_ NB374_418.out _; (with_reducible repeat (first | refine blk_drewN ?_ _ | refine blk_drew ?_ | refine blk_alloc ?_ _)); exact BK374.out⟩
 have n9_ : Aside0 ((((w99.setCell ⟨gb418, 0, none⟩ (.int .i64 t414)).setCell ⟨gb418, 1, none⟩ (.int .i64 t415)).setCell ⟨gb418, 2, none⟩ (.string t416)).heap[gb388]? = some (.cells #[.int .i64 t384, .int .i64 t385, .string t386] 25 (0, 0))) := ⟨by (with_reducible repeat (first | refine blk_drewN ?_ _ | refine blk_drew ?_ | refine blk_alloc ?_ _)); refine blk_far ?_ NB388_418.out _; (with_reducible repeat (first | refine blk_drewN ?_ _ | refine blk_drew ?_ | refine blk_alloc ?_ _)); refine blk_far ?_ NB388_418.out _; (with_reducible repeat (first | refine blk_drewN ?_ _ | refine blk_drew ?_ | refine blk_alloc ?_ _)); refine blk_far ?_ NB388_418.out _; (with_reducible repeat (first | refine blk_drewN ?_ _ | refine blk_drew ?_ | refine blk_alloc ?_ _)); exact BK388.out⟩
 have n10_ : Aside0 ((((w99.setCell ⟨gb418, 0, none⟩ (.int .i64 t414)).setCell ⟨gb418, 1, none⟩ (.int .i64 t415)).setCell ⟨gb418, 2, none⟩ (.string t416)).heap[gb399]? = some (.cells #[.int .i64 t395, .int .i64 t396, .string t397] 25 (0, 0))) := ⟨by (with_reducible repeat (first | refine blk_drewN ?_ _ | refine blk_drew ?_ | refine blk_alloc ?_ _)); refine blk_far ?_ NB399_418.out _; (with_reducible repeat (first | refine blk_drewN ?_ _ | refine blk_drew ?_ | refine blk_alloc ?_ _)); refine blk_far ?_ NB399_418.out _; (with_reducible repeat (first | refine blk_drewN ?_ _ | refine blk_drew ?_ | refine blk_alloc ?_ _)); refine blk_far ?_ NB399_418.out _; (with_reducible repeat (first | refine blk_drewN ?_ _ | refine blk_drew ?_ | refine blk_alloc ?_ _)); exact BK399.out⟩
 have n11_ : Aside0 ((((w99.setCell ⟨gb418, 0, none⟩ (.int .i64 t414)).setCell ⟨gb418, 1, none⟩ (.int .i64 t415)).setCell ⟨gb418, 2, none⟩ (.string t416)).heap[gb410]? = some (.cells #[.int .i64 t406, .int .i64 t407, .string t408] 25 (0, 0))) := ⟨by (with_reducible repeat (first | refine blk_drewN ?_ _ | refine blk_drew ?_ | refine blk_alloc ?_ _)); refine blk_far ?_ NB410_418.out _; (with_reducible repeat (first | refine blk_drewN ?_ _ | refine blk_drew ?_ | refine blk_alloc ?_ _)); refine blk_far ?_ NB410_418.out _; (with_reducible repeat (first | refine blk_drewN ?_ _ | refine blk_drew ?_ | refine blk_alloc ?_ _)); refine blk_far ?_ NB410_418.out _; (with_reducible repeat (first | refine blk_drewN ?_ _ | refine blk_drew ?_ | refine blk_alloc ?_ _)); exact BK410.out⟩
 have n12_ : Aside0 ((((w99.setCell ⟨gb418, 0, none⟩ (.int .i64 t414)).setCell ⟨gb418, 1, none⟩ (.int .i64 t415)).setCell ⟨gb418, 2, none⟩ (.string t416)).heap[gb418]? = some (.cells #[.int .i64 t414, .int .i64 t415, .string t416] 25 (0, 0))) := ⟨by (with_reducible repeat (first | refine blk_drewN ?_ _ | refine blk_drew ?_ | refine blk_alloc ?_ _)); refine blk_put (cs := #[.int .i64 t414, .int .i64 t415, .string (⟨#[]⟩ : ByteArray)]) ?_ 2 _ rfl; (with_reducible repeat (first | refine blk_drewN ?_ _ | refine blk_drew ?_ | refine blk_alloc ?_ _)); refine blk_put (cs := #[.int .i64 t414, .int .i64 0, .string (⟨#[]⟩ : ByteArray)]) ?_ 1 _ rfl; (with_reducible repeat (first | refine blk_drewN ?_ _ | refine blk_drew ?_ | refine blk_alloc ?_ _)); refine blk_put (cs := #[.int .i64 0, .int .i64 0, .string (⟨#[]⟩ : ByteArray)]) ?_ 0 _ rfl; (with_reducible repeat (first | refine blk_drewN ?_ _ | refine blk_drew ?_ | refine blk_alloc ?_ _)); exact BK418.out⟩
 have n13_ : Aside0 (Below w.heap.size w (((w99.setCell ⟨gb418, 0, none⟩ (.int .i64 t414)).setCell ⟨gb418, 1, none⟩ (.int .i64 t415)).setCell ⟨gb418, 2, none⟩ (.string t416))) := ⟨by repeat (first | (with_reducible first | exact HB.out | apply below_alloc | apply pw_below_drewN | apply below_drew1 | refine below_set ?_ GE352.out | refine below_set ?_ GE360.out | refine below_set ?_ GE374.out | refine below_set ?_ GE388.out | refine below_set ?_ GE399.out | refine below_set ?_ GE410.out | refine below_set ?_ GE418.out) | exact HB.out)⟩
 (try clear HO355)
 (try clear HO369)
 (try clear HO383)
 (try clear HO394)
 (try clear HO405)
 (try clear HO413)
 (try clear BK352)
 (try clear BK360)
 (try clear BK374)
 (try clear BK388)
 (try clear BK399)
 (try clear BK410)
 (try clear BK418)
 (try clear HB)
 generalize (((w99.setCell ⟨gb418, 0, none⟩ (.int .i64 t414)).setCell ⟨gb418, 1, none⟩ (.int .i64 t415)).setCell ⟨gb418, 2, none⟩ (.string t416)) = w107 at n0_ n1_ n2_ n3_ n4_ n5_ n6_ n7_ n8_ n9_ n10_ n11_ n12_ n13_ ⊢
 have HO355 := n0_
 have HO369 := n1_
 have HO383 := n2_
 have HO394 := n3_
 have HO405 := n4_
 have HO413 := n5_
 have BK352 := n6_
 have BK360 := n7_
 have BK374 := n8_
 have BK388 := n9_
 have BK399 := n10_
 have BK410 := n11_
 have BK418 := n12_
 have HB := n13_
 clear n0_ n1_ n2_ n3_ n4_ n5_ n6_ n7_ n8_ n9_ n10_ n11_ n12_ n13_
 have n0_ := Aside0.mk (Kd.R_drew HO355.out)
 have n1_ := Aside0.mk (Kd.R_drew HO369.out)
 have n2_ := Aside0.mk (Kd.R_drew HO383.out)
 have n3_ := Aside0.mk (Kd.R_drew HO394.out)
 have n4_ := Aside0.mk (Kd.R_drew HO405.out)
 have n5_ := Aside0.mk (Kd.R_drew HO413.out)
 have n6_ := Aside0.mk (blk_drew BK352.out)
 have n7_ := Aside0.mk (blk_drew BK360.out)
 have n8_ := Aside0.mk (blk_drew BK374.out)
 have n9_ := Aside0.mk (blk_drew BK388.out)
 have n10_ := Aside0.mk (blk_drew BK399.out)
 have n11_ := Aside0.mk (blk_drew BK410.out)
 have n12_ := Aside0.mk (blk_drew BK418.out)
 have n13_ := Aside0.mk (below_drew1 HB.out)
 clear HO355
 clear HO369
 clear HO383
 clear HO394
 clear HO405
 clear HO413
 clear BK352
 clear BK360
 clear BK374
 clear BK388
 clear BK399
 clear BK410
 clear BK418
 clear HB
 have HO355 := n0_
 have HO369 := n1_
 have HO383 := n2_
 have HO394 := n3_
 have HO405 := n4_
 have HO413 := n5_
 have BK352 := n6_
 have BK360 := n7_
 have BK374 := n8_
 have BK388 := n9_
 have BK399 := n10_
 have BK410 := n11_
 have BK418 := n12_
 have HB := n13_
 clear n0_ n1_ n2_ n3_ n4_ n5_ n6_ n7_ n8_ n9_ n10_ n11_ n12_ n13_
 refine start_ (n := 50) (S := fun w' => w'.cell? ⟨gb360, 0, none⟩ = some (.int .i64 t356) ∧ w'.cell? ⟨gb360, 1, none⟩ = some (.int .i64 t357) ∧ w'.cell? ⟨gb360, 2, none⟩ = some (.string t358) ∧ w'.cell? ⟨gb374, 0, none⟩ = some (.int .i64 t370) ∧ w'.cell? ⟨gb374, 1, none⟩ = some (.int .i64 t371) ∧ w'.cell? ⟨gb374, 2, none⟩ = some (.string t372) ∧ w'.cell? ⟨gb388, 0, none⟩ = some (.int .i64 t384) ∧ w'.cell? ⟨gb388, 1, none⟩ = some (.int .i64 t385) ∧ w'.cell? ⟨gb388, 2, none⟩ = some (.string t386) ∧ w'.cell? ⟨gb399, 0, none⟩ = some (.int .i64 t395) ∧ w'.cell? ⟨gb399, 1, none⟩ = some (.int .i64 t396) ∧ w'.cell? ⟨gb399, 2, none⟩ = some (.string t397) ∧ w'.cell? ⟨gb418, 0, none⟩ = some (.int .i64 t414) ∧ w'.cell? ⟨gb418, 1, none⟩ = some (.int .i64 t415) ∧ w'.cell? ⟨gb418, 2, none⟩ = some (.string t416)) (ds := []) #[false, false, false, false, false, false, false, false, false, false, false, false, false, false, false, false, false, false, false, false, false, false, false, false, false, false, false, false, false, false, false, false, false, false, false, false, false, false, false, false, false, false, false, false, false, false, false, false, false, false] (by kernel_rfl) rfl rfl ⟨(blk_cell BK360.out 0).trans rfl, (blk_cell BK360.out 1).trans rfl, (blk_cell BK360.out 2).trans rfl, (blk_cell BK374.out 0).trans rfl, (blk_cell BK374.out 1).trans rfl, (blk_cell BK374.out 2).trans rfl, (blk_cell BK388.out 0).trans rfl, (blk_cell BK388.out 1).trans rfl, (blk_cell BK388.out 2).trans rfl, (blk_cell BK399.out 0).trans rfl, (blk_cell BK399.out 1).trans rfl, (blk_cell BK399.out 2).trans rfl, (blk_cell BK418.out 0).trans rfl, (blk_cell BK418.out 1).trans rfl, (blk_cell BK418.out 2).trans rfl⟩ (fun hHeld => ?_); refine with_tabW quarrylaw02_CalcTexts.tab12 quarrylaw02_CalcTexts.bits12 (fun HT_ HW_ => ?_)
 generalize w107.drew = w108 at HO355 HO369 HO383 HO394 HO405 HO413 BK352 BK360 BK374 BK388 BK399 BK410 BK418 HB hHeld ⊢
 refine pure_ (i := 0) (N := some 93) (v := ?_) (a' := ?_) #[true, false, false, false, false, false, false, false, false, false, false, false, false, false, false, false, false, false, false, false, false, false, false, false, false, false, false, false, false, false, false, false, false, false, false, false, false, false, false, false, false, false, false, false, false, false, false, false, false, false] rfl rfl (any_of HT_.out (by kernel_rfl)) (fun _ _ _ h => h) (Or.inl ⟨by rfl, ?_⟩) ?_ ?_
 rotate_left
 ·intro w'
  go_simp
  with_reducible rfl
 rotate_left
 ·simp only [Act.put, List.setIfInBounds_toArray, List.set_cons_zero, List.set_cons_succ, i64_w, i32_w]
  rfl
 refine pure_ (i := 1) (N := some 94) (v := ?_) (a' := ?_) #[true, true, false, false, false, false, false, false, false, false, false, false, false, false, false, false, false, false, false, false, false, false, false, false, false, false, false, false, false, false, false, false, false, false, false, false, false, false, false, false, false, false, false, false, false, false, false, false, false, false] rfl rfl (any_of HT_.out (by kernel_rfl)) (fun _ _ _ h => h) (Or.inl ⟨by rfl, ?_⟩) ?_ ?_
 rotate_left
 ·intro w'
  go_simp
  with_reducible rfl
 rotate_left
 ·simp only [Act.put, List.setIfInBounds_toArray, List.set_cons_zero, List.set_cons_succ, i64_w, i32_w]
  rfl
 refine pure_ (i := 2) (N := some 95) (v := ?_) (a' := ?_) #[true, true, true, false, false, false, false, false, false, false, false, false, false, false, false, false, false, false, false, false, false, false, false, false, false, false, false, false, false, false, false, false, false, false, false, false, false, false, false, false, false, false, false, false, false, false, false, false, false, false] rfl rfl (any_of HT_.out (by kernel_rfl)) (fun _ _ _ h => h) (Or.inl ⟨by rfl, ?_⟩) ?_ ?_
 rotate_left
 ·intro w'
  go_simp
  with_reducible rfl
 rotate_left
 ·simp only [Act.put, List.setIfInBounds_toArray, List.set_cons_zero, List.set_cons_succ, i64_w, i32_w]
  rfl
 refine pure_ (i := 3) (N := some 96) (v := ?_) (a' := ?_) #[true, true, true, true, false, false, false, false, false, false, false, false, false, false, false, false, false, false, false, false, false, false, false, false, false, false, false, false, false, false, false, false, false, false, false, false, false, false, false, false, false, false, false, false, false, false, false, false, false, false] rfl rfl (any_of HT_.out (by kernel_rfl)) (fun _ _ _ h => h) (Or.inl ⟨by rfl, ?_⟩) ?_ ?_
 rotate_left
 ·intro w'
  go_simp
  with_reducible rfl
 rotate_left
 ·simp only [Act.put, List.setIfInBounds_toArray, List.set_cons_zero, List.set_cons_succ, i64_w, i32_w]
  rfl
 refine pure_ (i := 4) (N := some 97) (v := ?_) (a' := ?_) #[true, true, true, true, true, false, false, false, false, false, false, false, false, false, false, false, false, false, false, false, false, false, false, false, false, false, false, false, false, false, false, false, false, false, false, false, false, false, false, false, false, false, false, false, false, false, false, false, false, false] rfl rfl (any_of HT_.out (by kernel_rfl)) (fun _ _ _ h => h) (Or.inl ⟨by rfl, ?_⟩) ?_ ?_
 rotate_left
 ·intro w'
  go_simp
  with_reducible rfl
 rotate_left
 ·simp only [Act.put, List.setIfInBounds_toArray, List.set_cons_zero, List.set_cons_succ, i64_w, i32_w]
  rfl
 refine pure_ (i := 5) (N := some 98) (v := ?_) (a' := ?_) #[true, true, true, true, true, true, false, false, false, false, false, false, false, false, false, false, false, false, false, false, false, false, false, false, false, false, false, false, false, false, false, false, false, false, false, false, false, false, false, false, false, false, false, false, false, false, false, false, false, false] rfl rfl (any_of HT_.out (by kernel_rfl)) (fun _ _ _ h => h) (Or.inl ⟨by rfl, ?_⟩) ?_ ?_
 rotate_left
 ·intro w'
  go_simp
  with_reducible rfl
 rotate_left
 ·simp only [Act.put, List.setIfInBounds_toArray, List.set_cons_zero, List.set_cons_succ, i64_w, i32_w]
  rfl
 refine pure_ (i := 6) (N := some 99) (v := ?_) (a' := ?_) #[true, true, true, true, true, true, true, false, false, false, false, false, false, false, false, false, false, false, false, false, false, false, false, false, false, false, false, false, false, false, false, false, false, false, false, false, false, false, false, false, false, false, false, false, false, false, false, false, false, false] rfl rfl (any_of HT_.out (by kernel_rfl)) (fun _ _ _ h => h) (Or.inl ⟨by rfl, ?_⟩) ?_ ?_
 rotate_left
 ·intro w'
  go_simp
  with_reducible rfl
 rotate_left
 ·simp only [Act.put, List.setIfInBounds_toArray, List.set_cons_zero, List.set_cons_succ, i64_w, i32_w]
  rfl
 refine pure_ (i := 7) (N := some 100) (v := ?_) (a' := ?_) #[true, true, true, true, true, true, true, true, false, false, false, false, false, false, false, false, false, false, false, false, false, false, false, false, false, false, false, false, false, false, false, false, false, false, false, false, false, false, false, false, false, false, false, false, false, false, false, false, false, false] rfl rfl (any_of HT_.out (by kernel_rfl)) (fun _ _ _ h => h) (Or.inl ⟨by rfl, ?_⟩) ?_ ?_
 rotate_left
 ·intro w'
  go_simp
  with_reducible rfl
 rotate_left
 ·simp only [Act.put, List.setIfInBounds_toArray, List.set_cons_zero, List.set_cons_succ, i64_w, i32_w]
  rfl
 refine pure_ (i := 8) (N := some 101) (v := ?_) (a' := ?_) #[true, true, true, true, true, true, true, true, true, false, false, false, false, false, false, false, false, false, false, false, false, false, false, false, false, false, false, false, false, false, false, false, false, false, false, false, false, false, false, false, false, false, false, false, false, false, false, false, false, false] rfl rfl (any_of HT_.out (by kernel_rfl)) (fun _ _ _ h => h) (Or.inl ⟨by rfl, ?_⟩) ?_ ?_
 rotate_left
 ·intro w'
  go_simp
  with_reducible rfl
 rotate_left
 ·simp only [Act.put, List.setIfInBounds_toArray, List.set_cons_zero, List.set_cons_succ, i64_w, i32_w]
  rfl
 refine pure_ (i := 9) (N := some 102) (v := ?_) (a' := ?_) #[true, true, true, true, true, true, true, true, true, true, false, false, false, false, false, false, false, false, false, false, false, false, false, false, false, false, false, false, false, false, false, false, false, false, false, false, false, false, false, false, false, false, false, false, false, false, false, false, false, false] rfl rfl (any_of HT_.out (by kernel_rfl)) (fun _ _ _ h => h) (Or.inl ⟨by rfl, ?_⟩) ?_ ?_
 rotate_left
 ·intro w'
  go_simp
  with_reducible rfl
 rotate_left
 ·simp only [Act.put, List.setIfInBounds_toArray, List.set_cons_zero, List.set_cons_succ, i64_w, i32_w]
  rfl
 refine pure_ (i := 10) (N := some 103) (v := ?_) (a' := ?_) #[true, true, true, true, true, true, true, true, true, true, true, false, false, false, false, false, false, false, false, false, false, false, false, false, false, false, false, false, false, false, false, false, false, false, false, false, false, false, false, false, false, false, false, false, false, false, false, false, false, false] rfl rfl (any_of HT_.out (by kernel_rfl)) (fun _ _ _ h => h) (Or.inl ⟨by rfl, ?_⟩) ?_ ?_
 rotate_left
 ·intro w'
  go_simp
  with_reducible rfl
 rotate_left
 ·simp only [Act.put, List.setIfInBounds_toArray, List.set_cons_zero, List.set_cons_succ, i64_w, i32_w]
  rfl
 refine pure_ (i := 11) (N := some 104) (v := ?_) (a' := ?_) #[true, true, true, true, true, true, true, true, true, true, true, true, false, false, false, false, false, false, false, false, false, false, false, false, false, false, false, false, false, false, false, false, false, false, false, false, false, false, false, false, false, false, false, false, false, false, false, false, false, false] rfl rfl (any_of HT_.out (by kernel_rfl)) (fun _ _ _ h => h) (Or.inl ⟨by rfl, ?_⟩) ?_ ?_
 rotate_left
 ·intro w'
  go_simp
  with_reducible rfl
 rotate_left
 ·simp only [Act.put, List.setIfInBounds_toArray, List.set_cons_zero, List.set_cons_succ, i64_w, i32_w]
  rfl
 refine pure_ (i := 12) (N := some 105) (v := ?_) (a' := ?_) #[true, true, true, true, true, true, true, true, true, true, true, true, true, false, false, false, false, false, false, false, false, false, false, false, false, false, false, false, false, false, false, false, false, false, false, false, false, false, false, false, false, false, false, false, false, false, false, false, false, false] rfl rfl (any_of HT_.out (by kernel_rfl)) (fun _ _ _ h => h) (Or.inl ⟨by rfl, ?_⟩) ?_ ?_
 rotate_left
 ·intro w'
  go_simp
  with_reducible rfl
 rotate_left
 ·simp only [Act.put, List.setIfInBounds_toArray, List.set_cons_zero, List.set_cons_succ, i64_w, i32_w]
  rfl
 refine pure_ (i := 13) (N := some 106) (v := ?_) (a' := ?_) #[true, true, true, true, true, true, true, true, true, true, true, true, true, true, false, false, false, false, false, false, false, false, false, false, false, false, false, false, false, false, false, false, false, false, false, false, false, false, false, false, false, false, false, false, false, false, false, false, false, false] rfl rfl (any_of HT_.out (by kernel_rfl)) (fun _ _ _ h => h) (Or.inl ⟨by rfl, ?_⟩) ?_ ?_
 rotate_left
 ·intro w'
  go_simp
  with_reducible rfl
 rotate_left
 ·simp only [Act.put, List.setIfInBounds_toArray, List.set_cons_zero, List.set_cons_succ, i64_w, i32_w]
  rfl
 refine pure_ (i := 14) (N := some 107) (v := ?_) (a' := ?_) #[true, true, true, true, true, true, true, true, true, true, true, true, true, true, true, false, false, false, false, false, false, false, false, false, false, false, false, false, false, false, false, false, false, false, false, false, false, false, false, false, false, false, false, false, false, false, false, false, false, false] rfl rfl (any_of HT_.out (by kernel_rfl)) (fun _ _ _ h => h) (Or.inl ⟨by rfl, ?_⟩) ?_ ?_
 rotate_left
 ·intro w'
  go_simp
  with_reducible rfl
 rotate_left
 ·simp only [Act.put, List.setIfInBounds_toArray, List.set_cons_zero, List.set_cons_succ, i64_w, i32_w]
  rfl
 refine pure_ (i := 15) (N := some 108) (v := ?_) (a' := ?_) #[true, true, true, true, true, true, true, true, true, true, true, true, true, true, true, true, false, false, false, false, false, false, false, false, false, false, false, false, false, false, false, false, false, false, false, false, false, false, false, false, false, false, false, false, false, false, false, false, false, false] rfl rfl (any_of HT_.out (by kernel_rfl)) (fun _ _ _ h => h) (Or.inl ⟨by rfl, ?_⟩) ?_ ?_
 rotate_left
 ·intro w'
  go_simp
  with_reducible rfl
 rotate_left
 ·simp only [Act.put, List.setIfInBounds_toArray, List.set_cons_zero, List.set_cons_succ, i64_w, i32_w]
  rfl
 refine pure_ (i := 16) (N := some 109) (v := ?_) (a' := ?_) #[true, true, true, true, true, true, true, true, true, true, true, true, true, true, true, true, true, false, false, false, false, false, false, false, false, false, false, false, false, false, false, false, false, false, false, false, false, false, false, false, false, false, false, false, false, false, false, false, false, false] rfl rfl (any_of HT_.out (by kernel_rfl)) (fun _ _ _ h => h) (Or.inl ⟨by rfl, ?_⟩) ?_ ?_
 rotate_left
 ·intro w'
  go_simp
  with_reducible rfl
 rotate_left
 ·simp only [Act.put, List.setIfInBounds_toArray, List.set_cons_zero, List.set_cons_succ, i64_w, i32_w]
  rfl
 refine pure_ (i := 17) (N := some 110) (v := ?_) (a' := ?_) #[true, true, true, true, true, true, true, true, true, true, true, true, true, true, true, true, true, true, false, false, false, false, false, false, false, false, false, false, false, false, false, false, false, false, false, false, false, false, false, false, false, false, false, false, false, false, false, false, false, false] rfl rfl (any_of HT_.out (by kernel_rfl)) (fun _ _ _ h => h) (Or.inl ⟨by rfl, ?_⟩) ?_ ?_
 rotate_left
 ·intro w'
  go_simp
  with_reducible rfl
 rotate_left
 ·simp only [Act.put, List.setIfInBounds_toArray, List.set_cons_zero, List.set_cons_succ, i64_w, i32_w]
  rfl
 refine pure_ (i := 18) (N := some 111) (v := ?_) (a' := ?_) #[true, true, true, true, true, true, true, true, true, true, true, true, true, true, true, true, true, true, true, false, false, false, false, false, false, false, false, false, false, false, false, false, false, false, false, false, false, false, false, false, false, false, false, false, false, false, false, false, false, false] rfl rfl (any_of HT_.out (by kernel_rfl)) (fun _ _ _ h => h) (Or.inl ⟨by rfl, ?_⟩) ?_ ?_
 rotate_left
 ·intro w'
  go_simp
  with_reducible rfl
 rotate_left
 ·simp only [Act.put, List.setIfInBounds_toArray, List.set_cons_zero, List.set_cons_succ, i64_w, i32_w]
  rfl
 refine pure_ (i := 19) (N := some 112) (v := ?_) (a' := ?_) #[true, true, true, true, true, true, true, true, true, true, true, true, true, true, true, true, true, true, true, true, false, false, false, false, false, false, false, false, false, false, false, false, false, false, false, false, false, false, false, false, false, false, false, false, false, false, false, false, false, false] rfl rfl (any_of HT_.out (by kernel_rfl)) (fun _ _ _ h => h) (Or.inl ⟨by rfl, ?_⟩) ?_ ?_
 rotate_left
 ·intro w'
  go_simp
  with_reducible rfl
 rotate_left
 ·simp only [Act.put, List.setIfInBounds_toArray, List.set_cons_zero, List.set_cons_succ, i64_w, i32_w]
  rfl
 refine pure_ (i := 20) (N := some 113) (v := ?_) (a' := ?_) #[true, true, true, true, true, true, true, true, true, true, true, true, true, true, true, true, true, true, true, true, true, false, false, false, false, false, false, false, false, false, false, false, false, false, false, false, false, false, false, false, false, false, false, false, false, false, false, false, false, false] rfl rfl (any_of HT_.out (by kernel_rfl)) (fun _ _ _ h => h) (Or.inl ⟨by rfl, ?_⟩) ?_ ?_
 rotate_left
 ·intro w'
  go_simp
  with_reducible rfl
 rotate_left
 ·simp only [Act.put, List.setIfInBounds_toArray, List.set_cons_zero, List.set_cons_succ, i64_w, i32_w]
  rfl
 refine pure_ (i := 21) (N := some 114) (v := ?_) (a' := ?_) #[true, true, true, true, true, true, true, true, true, true, true, true, true, true, true, true, true, true, true, true, true, true, false, false, false, false, false, false, false, false, false, false, false, false, false, false, false, false, false, false, false, false, false, false, false, false, false, false, false, false] rfl rfl (any_of HT_.out (by kernel_rfl)) (fun _ _ _ h => h) (Or.inl ⟨by rfl, ?_⟩) ?_ ?_
 rotate_left
 ·intro w'
  go_simp
  with_reducible rfl
 rotate_left
 ·simp only [Act.put, List.setIfInBounds_toArray, List.set_cons_zero, List.set_cons_succ, i64_w, i32_w]
  rfl
 refine pure_ (i := 22) (N := some 115) (v := ?_) (a' := ?_) #[true, true, true, true, true, true, true, true, true, true, true, true, true, true, true, true, true, true, true, true, true, true, true, false, false, false, false, false, false, false, false, false, false, false, false, false, false, false, false, false, false, false, false, false, false, false, false, false, false, false] rfl rfl (any_of HT_.out (by kernel_rfl)) (fun _ _ _ h => h) (Or.inl ⟨by rfl, ?_⟩) ?_ ?_
 rotate_left
 ·intro w'
  go_simp
  with_reducible rfl
 rotate_left
 ·simp only [Act.put, List.setIfInBounds_toArray, List.set_cons_zero, List.set_cons_succ, i64_w, i32_w]
  rfl
 refine pure_ (i := 24) (N := some 117) (v := ?_) (a' := ?_) #[true, true, true, true, true, true, true, true, true, true, true, true, true, true, true, true, true, true, true, true, true, true, true, false, true, false, false, false, false, false, false, false, false, false, false, false, false, false, false, false, false, false, false, false, false, false, false, false, false, false] rfl rfl (any_of HT_.out (by kernel_rfl)) (fun _ _ _ h => h) (Or.inl ⟨by rfl, ?_⟩) ?_ ?_
 rotate_left
 ·intro w'
  go_simp
  with_reducible rfl
 rotate_left
 ·simp only [Act.put, List.setIfInBounds_toArray, List.set_cons_zero, List.set_cons_succ, i64_w, i32_w]
  rfl
 refine pure_ (i := 25) (N := some 118) (v := ?_) (a' := ?_) #[true, true, true, true, true, true, true, true, true, true, true, true, true, true, true, true, true, true, true, true, true, true, true, false, true, true, false, false, false, false, false, false, false, false, false, false, false, false, false, false, false, false, false, false, false, false, false, false, false, false] rfl rfl (any_of HT_.out (by kernel_rfl)) (fun _ _ _ h => h) (Or.inl ⟨by rfl, ?_⟩) ?_ ?_
 rotate_left
 ·intro w'
  go_simp
  with_reducible rfl
 rotate_left
 ·simp only [Act.put, List.setIfInBounds_toArray, List.set_cons_zero, List.set_cons_succ, i64_w, i32_w]
  rfl
 refine pure_ (i := 26) (N := some 119) (v := ?_) (a' := ?_) #[true, true, true, true, true, true, true, true, true, true, true, true, true, true, true, true, true, true, true, true, true, true, true, false, true, true, true, false, false, false, false, false, false, false, false, false, false, false, false, false, false, false, false, false, false, false, false, false, false, false] rfl rfl (any_of HT_.out (by kernel_rfl)) (fun _ _ _ h => h) (Or.inl ⟨by rfl, ?_⟩) ?_ ?_
 rotate_left
 ·intro w'
  go_simp
  with_reducible rfl
 rotate_left
 ·simp only [Act.put, List.setIfInBounds_toArray, List.set_cons_zero, List.set_cons_succ, i64_w, i32_w]
  rfl
 refine pure_ (i := 27) (N := some 120) (v := ?_) (a' := ?_) #[true, true, true, true, true, true, true, true, true, true, true, true, true, true, true, true, true, true, true, true, true, true, true, false, true, true, true, true, false, false, false, false, false, false, false, false, false, false, false, false, false, false, false, false, false, false, false, false, false, false] rfl rfl (any_of HT_.out (by kernel_rfl)) (fun _ _ _ h => h) (Or.inl ⟨by rfl, ?_⟩) ?_ ?_
 rotate_left
 ·intro w'
  go_simp
  with_reducible rfl
 rotate_left
 ·simp only [Act.put, List.setIfInBounds_toArray, List.set_cons_zero, List.set_cons_succ, i64_w, i32_w]
  rfl
 refine pure_ (i := 28) (N := some 121) (v := ?_) (a' := ?_) #[true, true, true, true, true, true, true, true, true, true, true, true, true, true, true, true, true, true, true, true, true, true, true, false, true, true, true, true, true, false, false, false, false, false, false, false, false, false, false, false, false, false, false, false, false, false, false, false, false, false] rfl rfl (any_of HT_.out (by kernel_rfl)) (fun _ _ _ h => h) (Or.inl ⟨by rfl, ?_⟩) ?_ ?_
 rotate_left
 ·intro w'
  go_simp
  with_reducible rfl
 rotate_left
 ·simp only [Act.put, List.setIfInBounds_toArray, List.set_cons_zero, List.set_cons_succ, i64_w, i32_w]
  rfl
 refine take_ (i := 23) (N := some 116) (v := ?_) (a' := ?_) #[true, true, true, true, true, true, true, true, true, true, true, true, true, true, true, true, true, true, true, true, true, true, true, true, true, true, true, true, true, false, false, false, false, false, false, false, false, false, false, false, false, false, false, false, false, false, false, false, false, false] rfl rfl (take_ofW HT_.out HW_.out (by kernel_rfl)) (fun _ _ _ h => h) (Or.inl ⟨by rfl, ?_⟩) hHeld ?_ ?_
 rotate_left
 ·rintro w' ⟨s0, s1, s2, s3, s4, s5, s6, s7, s8, s9, s10, s11, s12, s13, s14⟩
  go_simp
  with_reducible rfl
 rotate_left
 ·simp only [Act.put, List.setIfInBounds_toArray, List.set_cons_zero, List.set_cons_succ, i64_w, i32_w]
  rfl
 refine one_ (i := 29) (N := some 122) #[true, true, true, true, true, true, true, true, true, true, true, true, true, true, true, true, true, true, true, true, true, true, true, true, true, true, true, true, true, true, false, false, false, false, false, false, false, false, false, false, false, false, false, false, false, false, false, false, false, false] rfl rfl (one_of HT_.out (by kernel_rfl)) (by decide) (fun K hK => ?_)
 refine goes_ Try.func24 (by kernel_rfl) rfl #[.int .i64 (wrap64 ((a0.size : Int) + (a1.size : Int)))] (by rfl) rfl rfl (by (try simp only [List.map_toArray, List.map_cons, List.map_nil]); first | done | rfl | (simp only [List.length_drop, List.length_take]; rfl)) ?_
 with_reducible refine (quarrylaw02_num.calls (wrap64 ((a0.size : Int) + (a1.size : Int))) t419 t420 t421 _ A27.out).mono ?_
 rintro e w109 ⟨rfl, hb⟩
 refine ⟨_, rfl, ?_⟩
 have n0_ := Aside0.mk (Kd.R_below (by (with_reducible repeat (first | apply Kd.R_alloc | apply Kd.R_drewN | apply Kd.R_drew)); exact HO355.out) hb)
 have n1_ := Aside0.mk (Kd.R_below (by (with_reducible repeat (first | apply Kd.R_alloc | apply Kd.R_drewN | apply Kd.R_drew)); exact HO369.out) hb)
 have n2_ := Aside0.mk (Kd.R_below (by (with_reducible repeat (first | apply Kd.R_alloc | apply Kd.R_drewN | apply Kd.R_drew)); exact HO383.out) hb)
 have n3_ := Aside0.mk (Kd.R_below (by (with_reducible repeat (first | apply Kd.R_alloc | apply Kd.R_drewN | apply Kd.R_drew)); exact HO394.out) hb)
 have n4_ := Aside0.mk (Kd.R_below (by (with_reducible repeat (first | apply Kd.R_alloc | apply Kd.R_drewN | apply Kd.R_drew)); exact HO405.out) hb)
 have n5_ := Aside0.mk (Kd.R_below (by (with_reducible repeat (first | apply Kd.R_alloc | apply Kd.R_drewN | apply Kd.R_drew)); exact HO413.out) hb)
 have n6_ := Aside0.mk (blk_below (g := gb352) (o := .cells #[.int .i64 t348, .int .i64 t349, .string t350] 25 (0, 0)) (bk_ BK352) hb)
 have n7_ := Aside0.mk (blk_below (g := gb360) (o := .cells #[.int .i64 t356, .int .i64 t357, .string t358] 25 (0, 0)) (bk_ BK360) hb)
 have n8_ := Aside0.mk (blk_below (g := gb374) (o := .cells #[.int .i64 t370, .int .i64 t371, .string t372] 25 (0, 0)) (bk_ BK374) hb)
 have n9_ := Aside0.mk (blk_below (g := gb388) (o := .cells #[.int .i64 t384, .int .i64 t385, .string t386] 25 (0, 0)) (bk_ BK388) hb)
 have n10_ := Aside0.mk (blk_below (g := gb399) (o := .cells #[.int .i64 t395, .int .i64 t396, .string t397] 25 (0, 0)) (bk_ BK399) hb)
 have n11_ := Aside0.mk (blk_below (g := gb410) (o := .cells #[.int .i64 t406, .int .i64 t407, .string t408] 25 (0, 0)) (bk_ BK410) hb)
 have n12_ := Aside0.mk (blk_below (g := gb418) (o := .cells #[.int .i64 t414, .int .i64 t415, .string t416] 25 (0, 0)) (bk_ BK418) hb)
 have n13_ := Aside0.mk (below_step (by repeat (first | (with_reducible first | exact HB.out | apply below_alloc | apply pw_below_drewN | apply below_drew1 | refine below_set ?_ GE352.out | refine below_set ?_ GE360.out | refine below_set ?_ GE374.out | refine below_set ?_ GE388.out | refine below_set ?_ GE399.out | refine below_set ?_ GE410.out | refine below_set ?_ GE418.out) | exact HB.out)) hb)
 clear HO355
 clear HO369
 clear HO383
 clear HO394
 clear HO405
 clear HO413
 clear BK352
 clear BK360
 clear BK374
 clear BK388
 clear BK399
 clear BK410
 clear BK418
 clear HB
 have HO355 := n0_
 have HO369 := n1_
 have HO383 := n2_
 have HO394 := n3_
 have HO405 := n4_
 have HO413 := n5_
 have BK352 := n6_
 have BK360 := n7_
 have BK374 := n8_
 have BK388 := n9_
 have BK399 := n10_
 have BK410 := n11_
 have BK418 := n12_
 have HB := n13_
 clear n0_ n1_ n2_ n3_ n4_ n5_ n6_ n7_ n8_ n9_ n10_ n11_ n12_ n13_
 (try clear hb)
 (try clear hb2)
 (try clear hk)
 (try clear hi)
 refine hK.out _ _ ⟨(blk_cell BK360.out 0).trans rfl, (blk_cell BK360.out 1).trans rfl, (blk_cell BK360.out 2).trans rfl, (blk_cell BK374.out 0).trans rfl, (blk_cell BK374.out 1).trans rfl, (blk_cell BK374.out 2).trans rfl, (blk_cell BK388.out 0).trans rfl, (blk_cell BK388.out 1).trans rfl, (blk_cell BK388.out 2).trans rfl, (blk_cell BK399.out 0).trans rfl, (blk_cell BK399.out 1).trans rfl, (blk_cell BK399.out 2).trans rfl, (blk_cell BK418.out 0).trans rfl, (blk_cell BK418.out 1).trans rfl, (blk_cell BK418.out 2).trans rfl⟩ (fun hHeld => ?_)
 clear hK K
 refine norm_ (a' := ?_) ?_ ?_
 rotate_left
 ·show Act.put _ (some 122) _ = _
  simp only [Act.put, List.setIfInBounds_toArray, List.set_cons_zero, List.set_cons_succ, i64_w, i32_w]
  rfl
 refine pure_ (i := 30) (N := some 123) (v := ?_) (a' := ?_) #[true, true, true, true, true, true, true, true, true, true, true, true, true, true, true, true, true, true, true, true, true, true, true, true, true, true, true, true, true, true, true, false, false, false, false, false, false, false, false, false, false, false, false, false, false, false, false, false, false, false] rfl rfl (any_of HT_.out (by kernel_rfl)) (fun _ _ _ h => h) (Or.inl ⟨by rfl, ?_⟩) ?_ ?_
 rotate_left
 ·intro w'
  go_simp
  with_reducible rfl
 rotate_left
 ·simp only [Act.put, List.setIfInBounds_toArray, List.set_cons_zero, List.set_cons_succ, i64_w, i32_w]
  rfl
 refine pure_ (i := 31) (N := some 124) (v := ?_) (a' := ?_) #[true, true, true, true, true, true, true, true, true, true, true, true, true, true, true, true, true, true, true, true, true, true, true, true, true, true, true, true, true, true, true, true, false, false, false, false, false, false, false, false, false, false, false, false, false, false, false, false, false, false] rfl rfl (any_of HT_.out (by kernel_rfl)) (fun _ _ _ h => h) (Or.inl ⟨by rfl, ?_⟩) ?_ ?_
 rotate_left
 ·intro w'
  go_simp
  with_reducible rfl
 rotate_left
 ·simp only [Act.put, List.setIfInBounds_toArray, List.set_cons_zero, List.set_cons_succ, i64_w, i32_w]
  rfl
 refine pure_ (i := 32) (N := some 125) (v := ?_) (a' := ?_) #[true, true, true, true, true, true, true, true, true, true, true, true, true, true, true, true, true, true, true, true, true, true, true, true, true, true, true, true, true, true, true, true, true, false, false, false, false, false, false, false, false, false, false, false, false, false, false, false, false, false] rfl rfl (any_of HT_.out (by kernel_rfl)) (fun _ _ _ h => h) (Or.inl ⟨by rfl, ?_⟩) ?_ ?_
 rotate_left
 ·intro w'
  go_simp
  with_reducible rfl
 rotate_left
 ·simp only [Act.put, List.setIfInBounds_toArray, List.set_cons_zero, List.set_cons_succ, i64_w, i32_w]
  rfl
 refine pure_ (i := 34) (N := some 127) (v := ?_) (a' := ?_) #[true, true, true, true, true, true, true, true, true, true, true, true, true, true, true, true, true, true, true, true, true, true, true, true, true, true, true, true, true, true, true, true, true, false, true, false, false, false, false, false, false, false, false, false, false, false, false, false, false, false] rfl rfl (any_of HT_.out (by kernel_rfl)) (fun _ _ _ h => h) (Or.inl ⟨by rfl, ?_⟩) ?_ ?_
 rotate_left
 ·intro w'
  go_simp
  with_reducible rfl
 rotate_left
 ·simp only [Act.put, List.setIfInBounds_toArray, List.set_cons_zero, List.set_cons_succ, i64_w, i32_w]
  rfl
 refine take_ (i := 33) (N := some 126) (v := ?_) (a' := ?_) #[true, true, true, true, true, true, true, true, true, true, true, true, true, true, true, true, true, true, true, true, true, true, true, true, true, true, true, true, true, true, true, true, true, true, true, false, false, false, false, false, false, false, false, false, false, false, false, false, false, false] rfl rfl (take_ofW HT_.out HW_.out (by kernel_rfl)) (fun _ _ _ h => h) (Or.inl ⟨by rfl, ?_⟩) hHeld ?_ ?_
 rotate_left
 ·rintro w' ⟨s0, s1, s2, s3, s4, s5, s6, s7, s8, s9, s10, s11, s12, s13, s14⟩
  go_simp
  with_reducible rfl
 rotate_left
 ·simp only [Act.put, List.setIfInBounds_toArray, List.set_cons_zero, List.set_cons_succ, i64_w, i32_w]
  rfl
 refine one_ (i := 35) (N := some 128) #[true, true, true, true, true, true, true, true, true, true, true, true, true, true, true, true, true, true, true, true, true, true, true, true, true, true, true, true, true, true, true, true, true, true, true, true, false, false, false, false, false, false, false, false, false, false, false, false, false, false] rfl rfl (one_of HT_.out (by kernel_rfl)) (by decide) (fun K hK => ?_)
 refine goes_ Try.func25 (by kernel_rfl) rfl #[.string a0] (by rfl) rfl rfl (by (try simp only [List.map_toArray, List.map_cons, List.map_nil]); first | done | rfl | (simp only [List.length_drop, List.length_take]; rfl)) ?_
 with_reducible refine (quarrylaw02_text.calls a0 t422 t423 t424 _ A29.out).mono ?_
 rintro e w110 ⟨rfl, hb⟩
 refine ⟨_, rfl, ?_⟩
 have n0_ := Aside0.mk (Kd.R_below (by (with_reducible repeat (first | apply Kd.R_alloc | apply Kd.R_drewN | apply Kd.R_drew)); exact HO355.out) hb)
 have n1_ := Aside0.mk (Kd.R_below (by (with_reducible repeat (first | apply Kd.R_alloc | apply Kd.R_drewN | apply Kd.R_drew)); exact HO369.out) hb)
 have n2_ := Aside0.mk (Kd.R_below (by (with_reducible repeat (first | apply Kd.R_alloc | apply Kd.R_drewN | apply Kd.R_drew)); exact HO383.out) hb)
 have n3_ := Aside0.mk (Kd.R_below (by (with_reducible repeat (first | apply Kd.R_alloc | apply Kd.R_drewN | apply Kd.R_drew)); exact HO394.out) hb)
 have n4_ := Aside0.mk (Kd.R_below (by (with_reducible repeat (first | apply Kd.R_alloc | apply Kd.R_drewN | apply Kd.R_drew)); exact HO405.out) hb)
 have n5_ := Aside0.mk (Kd.R_below (by (with_reducible repeat (first | apply Kd.R_alloc | apply Kd.R_drewN | apply Kd.R_drew)); exact HO413.out) hb)
 have n6_ := Aside0.mk (blk_below (g := gb352) (o := .cells #[.int .i64 t348, .int .i64 t349, .string t350] 25 (0, 0)) (bk_ BK352) hb)
 have n7_ := Aside0.mk (blk_below (g := gb360) (o := .cells #[.int .i64 t356, .int .i64 t357, .string t358] 25 (0, 0)) (bk_ BK360) hb)
 have n8_ := Aside0.mk (blk_below (g := gb374) (o := .cells #[.int .i64 t370, .int .i64 t371, .string t372] 25 (0, 0)) (bk_ BK374) hb)
 have n9_ := Aside0.mk (blk_below (g := gb388) (o := .cells #[.int .i64 t384, .int .i64 t385, .string t386] 25 (0, 0)) (bk_ BK388) hb)
 have n10_ := Aside0.mk (blk_below (g := gb399) (o := .cells #[.int .i64 t395, .int .i64 t396, .string t397] 25 (0, 0)) (bk_ BK399) hb)
 have n11_ := Aside0.mk (blk_below (g := gb410) (o := .cells #[.int .i64 t406, .int .i64 t407, .string t408] 25 (0, 0)) (bk_ BK410) hb)
 have n12_ := Aside0.mk (blk_below (g := gb418) (o := .cells #[.int .i64 t414, .int .i64 t415, .string t416] 25 (0, 0)) (bk_ BK418) hb)
 have n13_ := Aside0.mk (below_step (by repeat (first | (with_reducible first | exact HB.out | apply below_alloc | apply pw_below_drewN | apply below_drew1 | refine below_set ?_ GE352.out | refine below_set ?_ GE360.out | refine below_set ?_ GE374.out | refine below_set ?_ GE388.out | refine below_set ?_ GE399.out | refine below_set ?_ GE410.out | refine below_set ?_ GE418.out) | exact HB.out)) hb)
 clear HO355
 clear HO369
 clear HO383
 clear HO394
 clear HO405
 clear HO413
 clear BK352
 clear BK360
 clear BK374
 clear BK388
 clear BK399
 clear BK410
 clear BK418
 clear HB
 have HO355 := n0_
 have HO369 := n1_
 have HO383 := n2_
 have HO394 := n3_
 have HO405 := n4_
 have HO413 := n5_
 have BK352 := n6_
 have BK360 := n7_
 have BK374 := n8_
 have BK388 := n9_
 have BK399 := n10_
 have BK410 := n11_
 have BK418 := n12_
 have HB := n13_
 clear n0_ n1_ n2_ n3_ n4_ n5_ n6_ n7_ n8_ n9_ n10_ n11_ n12_ n13_
 (try clear hb)
 (try clear hb2)
 (try clear hk)
 (try clear hi)
 refine hK.out _ _ ⟨(blk_cell BK360.out 0).trans rfl, (blk_cell BK360.out 1).trans rfl, (blk_cell BK360.out 2).trans rfl, (blk_cell BK374.out 0).trans rfl, (blk_cell BK374.out 1).trans rfl, (blk_cell BK374.out 2).trans rfl, (blk_cell BK388.out 0).trans rfl, (blk_cell BK388.out 1).trans rfl, (blk_cell BK388.out 2).trans rfl, (blk_cell BK399.out 0).trans rfl, (blk_cell BK399.out 1).trans rfl, (blk_cell BK399.out 2).trans rfl, (blk_cell BK418.out 0).trans rfl, (blk_cell BK418.out 1).trans rfl, (blk_cell BK418.out 2).trans rfl⟩ (fun hHeld => ?_)
 clear hK K
 refine norm_ (a' := ?_) ?_ ?_
 rotate_left
 ·show Act.put _ (some 128) _ = _
  simp only [Act.put, List.setIfInBounds_toArray, List.set_cons_zero, List.set_cons_succ, i64_w, i32_w]
  rfl
 refine pure_ (i := 36) (N := some 129) (v := ?_) (a' := ?_) #[true, true, true, true, true, true, true, true, true, true, true, true, true, true, true, true, true, true, true, true, true, true, true, true, true, true, true, true, true, true, true, true, true, true, true, true, true, false, false, false, false, false, false, false, false, false, false, false, false, false] rfl rfl (any_of HT_.out (by kernel_rfl)) (fun _ _ _ h => h) (Or.inl ⟨by rfl, ?_⟩) ?_ ?_
 rotate_left
 ·intro w'
  go_simp
  with_reducible rfl
 rotate_left
 ·simp only [Act.put, List.setIfInBounds_toArray, List.set_cons_zero, List.set_cons_succ, i64_w, i32_w]
  rfl
 refine pure_ (i := 37) (N := some 130) (v := ?_) (a' := ?_) #[true, true, true, true, true, true, true, true, true, true, true, true, true, true, true, true, true, true, true, true, true, true, true, true, true, true, true, true, true, true, true, true, true, true, true, true, true, true, false, false, false, false, false, false, false, false, false, false, false, false] rfl rfl (any_of HT_.out (by kernel_rfl)) (fun _ _ _ h => h) (Or.inl ⟨by rfl, ?_⟩) ?_ ?_
 rotate_left
 ·intro w'
  go_simp
  with_reducible rfl
 rotate_left
 ·simp only [Act.put, List.setIfInBounds_toArray, List.set_cons_zero, List.set_cons_succ, i64_w, i32_w]
  rfl
 refine pure_ (i := 38) (N := some 131) (v := ?_) (a' := ?_) #[true, true, true, true, true, true, true, true, true, true, true, true, true, true, true, true, true, true, true, true, true, true, true, true, true, true, true, true, true, true, true, true, true, true, true, true, true, true, true, false, false, false, false, false, false, false, false, false, false, false] rfl rfl (any_of HT_.out (by kernel_rfl)) (fun _ _ _ h => h) (Or.inl ⟨by rfl, ?_⟩) ?_ ?_
 rotate_left
 ·intro w'
  go_simp
  with_reducible rfl
 rotate_left
 ·simp only [Act.put, List.setIfInBounds_toArray, List.set_cons_zero, List.set_cons_succ, i64_w, i32_w]
  rfl
 refine pure_ (i := 40) (N := some 133) (v := ?_) (a' := ?_) #[true, true, true, true, true, true, true, true, true, true, true, true, true, true, true, true, true, true, true, true, true, true, true, true, true, true, true, true, true, true, true, true, true, true, true, true, true, true, true, false, true, false, false, false, false, false, false, false, false, false] rfl rfl (any_of HT_.out (by kernel_rfl)) (fun _ _ _ h => h) (Or.inl ⟨by rfl, ?_⟩) ?_ ?_
 rotate_left
 ·intro w'
  go_simp
  with_reducible rfl
 rotate_left
 ·simp only [Act.put, List.setIfInBounds_toArray, List.set_cons_zero, List.set_cons_succ, i64_w, i32_w]
  rfl
 refine take_ (i := 39) (N := some 132) (v := ?_) (a' := ?_) #[true, true, true, true, true, true, true, true, true, true, true, true, true, true, true, true, true, true, true, true, true, true, true, true, true, true, true, true, true, true, true, true, true, true, true, true, true, true, true, true, true, false, false, false, false, false, false, false, false, false] rfl rfl (take_ofW HT_.out HW_.out (by kernel_rfl)) (fun _ _ _ h => h) (Or.inl ⟨by rfl, ?_⟩) hHeld ?_ ?_
 rotate_left
 ·rintro w' ⟨s0, s1, s2, s3, s4, s5, s6, s7, s8, s9, s10, s11, s12, s13, s14⟩
  go_simp
  with_reducible rfl
 rotate_left
 ·simp only [Act.put, List.setIfInBounds_toArray, List.set_cons_zero, List.set_cons_succ, i64_w, i32_w]
  rfl
 refine one_ (i := 41) (N := some 134) #[true, true, true, true, true, true, true, true, true, true, true, true, true, true, true, true, true, true, true, true, true, true, true, true, true, true, true, true, true, true, true, true, true, true, true, true, true, true, true, true, true, true, false, false, false, false, false, false, false, false] rfl rfl (one_of HT_.out (by kernel_rfl)) (by decide) (fun K hK => ?_)
 refine goes_ Try.func25 (by kernel_rfl) rfl #[.string a1] (by rfl) rfl rfl (by (try simp only [List.map_toArray, List.map_cons, List.map_nil]); first | done | rfl | (simp only [List.length_drop, List.length_take]; rfl)) ?_
 with_reducible refine (quarrylaw02_text.calls a1 t425 t426 t427 _ A31.out).mono ?_
 rintro e w111 ⟨rfl, hb⟩
 refine ⟨_, rfl, ?_⟩
 have n0_ := Aside0.mk (Kd.R_below (by (with_reducible repeat (first | apply Kd.R_alloc | apply Kd.R_drewN | apply Kd.R_drew)); exact HO355.out) hb)
 have n1_ := Aside0.mk (Kd.R_below (by (with_reducible repeat (first | apply Kd.R_alloc | apply Kd.R_drewN | apply Kd.R_drew)); exact HO369.out) hb)
 have n2_ := Aside0.mk (Kd.R_below (by (with_reducible repeat (first | apply Kd.R_alloc | apply Kd.R_drewN | apply Kd.R_drew)); exact HO383.out) hb)
 have n3_ := Aside0.mk (Kd.R_below (by (with_reducible repeat (first | apply Kd.R_alloc | apply Kd.R_drewN | apply Kd.R_drew)); exact HO394.out) hb)
 have n4_ := Aside0.mk (Kd.R_below (by (with_reducible repeat (first | apply Kd.R_alloc | apply Kd.R_drewN | apply Kd.R_drew)); exact HO405.out) hb)
 have n5_ := Aside0.mk (Kd.R_below (by (with_reducible repeat (first | apply Kd.R_alloc | apply Kd.R_drewN | apply Kd.R_drew)); exact HO413.out) hb)
 have n6_ := Aside0.mk (blk_below (g := gb352) (o := .cells #[.int .i64 t348, .int .i64 t349, .string t350] 25 (0, 0)) (bk_ BK352) hb)
 have n7_ := Aside0.mk (blk_below (g := gb360) (o := .cells #[.int .i64 t356, .int .i64 t357, .string t358] 25 (0, 0)) (bk_ BK360) hb)
 have n8_ := Aside0.mk (blk_below (g := gb374) (o := .cells #[.int .i64 t370, .int .i64 t371, .string t372] 25 (0, 0)) (bk_ BK374) hb)
 have n9_ := Aside0.mk (blk_below (g := gb388) (o := .cells #[.int .i64 t384, .int .i64 t385, .string t386] 25 (0, 0)) (bk_ BK388) hb)
 have n10_ := Aside0.mk (blk_below (g := gb399) (o := .cells #[.int .i64 t395, .int .i64 t396, .string t397] 25 (0, 0)) (bk_ BK399) hb)
 have n11_ := Aside0.mk (blk_below (g := gb410) (o := .cells #[.int .i64 t406, .int .i64 t407, .string t408] 25 (0, 0)) (bk_ BK410) hb)
 have n12_ := Aside0.mk (blk_below (g := gb418) (o := .cells #[.int .i64 t414, .int .i64 t415, .string t416] 25 (0, 0)) (bk_ BK418) hb)
 have n13_ := Aside0.mk (below_step (by repeat (first | (with_reducible first | exact HB.out | apply below_alloc | apply pw_below_drewN | apply below_drew1 | refine below_set ?_ GE352.out | refine below_set ?_ GE360.out | refine below_set ?_ GE374.out | refine below_set ?_ GE388.out | refine below_set ?_ GE399.out | refine below_set ?_ GE410.out | refine below_set ?_ GE418.out) | exact HB.out)) hb)
 clear HO355
 clear HO369
 clear HO383
 clear HO394
 clear HO405
 clear HO413
 clear BK352
 clear BK360
 clear BK374
 clear BK388
 clear BK399
 clear BK410
 clear BK418
 clear HB
 have HO355 := n0_
 have HO369 := n1_
 have HO383 := n2_
 have HO394 := n3_
 have HO405 := n4_
 have HO413 := n5_
 have BK352 := n6_
 have BK360 := n7_
 have BK374 := n8_
 have BK388 := n9_
 have BK399 := n10_
 have BK410 := n11_
 have BK418 := n12_
 have HB := n13_
 clear n0_ n1_ n2_ n3_ n4_ n5_ n6_ n7_ n8_ n9_ n10_ n11_ n12_ n13_
 (try clear hb)
 (try clear hb2)
 (try clear hk)
 (try clear hi)
 refine hK.out _ _ ⟨(blk_cell BK360.out 0).trans rfl, (blk_cell BK360.out 1).trans rfl, (blk_cell BK360.out 2).trans rfl, (blk_cell BK374.out 0).trans rfl, (blk_cell BK374.out 1).trans rfl, (blk_cell BK374.out 2).trans rfl, (blk_cell BK388.out 0).trans rfl, (blk_cell BK388.out 1).trans rfl, (blk_cell BK388.out 2).trans rfl, (blk_cell BK399.out 0).trans rfl, (blk_cell BK399.out 1).trans rfl, (blk_cell BK399.out 2).trans rfl, (blk_cell BK418.out 0).trans rfl, (blk_cell BK418.out 1).trans rfl, (blk_cell BK418.out 2).trans rfl⟩ (fun hHeld => ?_)
 clear hK K
 refine norm_ (a' := ?_) ?_ ?_
 rotate_left
 ·show Act.put _ (some 134) _ = _
  simp only [Act.put, List.setIfInBounds_toArray, List.set_cons_zero, List.set_cons_succ, i64_w, i32_w]
  rfl
 refine pure_ (i := 42) (N := some 135) (v := ?_) (a' := ?_) #[true, true, true, true, true, true, true, true, true, true, true, true, true, true, true, true, true, true, true, true, true, true, true, true, true, true, true, true, true, true, true, true, true, true, true, true, true, true, true, true, true, true, true, false, false, false, false, false, false, false] rfl rfl (any_of HT_.out (by kernel_rfl)) (fun _ _ _ h => h) (Or.inl ⟨by rfl, ?_⟩) ?_ ?_
 rotate_left
 ·intro w'
  go_simp
  with_reducible rfl
 rotate_left
 ·simp only [Act.put, List.setIfInBounds_toArray, List.set_cons_zero, List.set_cons_succ, i64_w, i32_w]
  rfl
 refine pure_ (i := 43) (N := some 136) (v := ?_) (a' := ?_) #[true, true, true, true, true, true, true, true, true, true, true, true, true, true, true, true, true, true, true, true, true, true, true, true, true, true, true, true, true, true, true, true, true, true, true, true, true, true, true, true, true, true, true, true, false, false, false, false, false, false] rfl rfl (any_of HT_.out (by kernel_rfl)) (fun _ _ _ h => h) (Or.inl ⟨by rfl, ?_⟩) ?_ ?_
 rotate_left
 ·intro w'
  go_simp
  with_reducible rfl
 rotate_left
 ·simp only [Act.put, List.setIfInBounds_toArray, List.set_cons_zero, List.set_cons_succ, i64_w, i32_w]
  rfl
 refine pure_ (i := 44) (N := some 137) (v := ?_) (a' := ?_) #[true, true, true, true, true, true, true, true, true, true, true, true, true, true, true, true, true, true, true, true, true, true, true, true, true, true, true, true, true, true, true, true, true, true, true, true, true, true, true, true, true, true, true, true, true, false, false, false, false, false] rfl rfl (any_of HT_.out (by kernel_rfl)) (fun _ _ _ h => h) (Or.inl ⟨by rfl, ?_⟩) ?_ ?_
 rotate_left
 ·intro w'
  go_simp
  with_reducible rfl
 rotate_left
 ·simp only [Act.put, List.setIfInBounds_toArray, List.set_cons_zero, List.set_cons_succ, i64_w, i32_w]
  rfl
 refine take_ (i := 45) (N := some 138) (v := ?_) (a' := ?_) #[true, true, true, true, true, true, true, true, true, true, true, true, true, true, true, true, true, true, true, true, true, true, true, true, true, true, true, true, true, true, true, true, true, true, true, true, true, true, true, true, true, true, true, true, true, true, false, false, false, false] rfl rfl (take_ofW HT_.out HW_.out (by kernel_rfl)) (fun _ _ _ h => h) (Or.inl ⟨by rfl, ?_⟩) hHeld ?_ ?_
 rotate_left
 ·rintro w' ⟨s0, s1, s2, s3, s4, s5, s6, s7, s8, s9, s10, s11, s12, s13, s14⟩
  go_simp
  with_reducible rfl
 rotate_left
 ·simp only [Act.put, List.setIfInBounds_toArray, List.set_cons_zero, List.set_cons_succ, i64_w, i32_w]
  rfl
 refine take_ (i := 46) (N := some 139) (v := ?_) (a' := ?_) #[true, true, true, true, true, true, true, true, true, true, true, true, true, true, true, true, true, true, true, true, true, true, true, true, true, true, true, true, true, true, true, true, true, true, true, true, true, true, true, true, true, true, true, true, true, true, true, false, false, false] rfl rfl (take_ofW HT_.out HW_.out (by kernel_rfl)) (fun _ _ _ h => h) (Or.inl ⟨by rfl, ?_⟩) hHeld ?_ ?_
 rotate_left
 ·rintro w' ⟨s0, s1, s2, s3, s4, s5, s6, s7, s8, s9, s10, s11, s12, s13, s14⟩
  go_simp
  with_reducible rfl
 rotate_left
 ·simp only [Act.put, List.setIfInBounds_toArray, List.set_cons_zero, List.set_cons_succ, i64_w, i32_w]
  rfl
 refine pure_ (i := 47) (N := some 140) (v := ?_) (a' := ?_) #[true, true, true, true, true, true, true, true, true, true, true, true, true, true, true, true, true, true, true, true, true, true, true, true, true, true, true, true, true, true, true, true, true, true, true, true, true, true, true, true, true, true, true, true, true, true, true, true, false, false] rfl rfl (any_of HT_.out (by kernel_rfl)) (fun _ _ _ h => h) (Or.inl ⟨by rfl, ?_⟩) ?_ ?_
 rotate_left
 ·intro w'
  go_simp
  with_reducible rfl
 rotate_left
 ·simp only [Act.put, List.setIfInBounds_toArray, List.set_cons_zero, List.set_cons_succ, i64_w, i32_w]
  rfl
 refine pure_ (i := 48) (N := some 141) (v := ?_) (a' := ?_) #[true, true, true, true, true, true, true, true, true, true, true, true, true, true, true, true, true, true, true, true, true, true, true, true, true, true, true, true, true, true, true, true, true, true, true, true, true, true, true, true, true, true, true, true, true, true, true, true, true, false] rfl rfl (any_of HT_.out (by kernel_rfl)) (fun _ _ _ h => h) (Or.inl ⟨by rfl, ?_⟩) ?_ ?_
 rotate_left
 ·intro w'
  go_simp
  with_reducible rfl
 rotate_left
 ·simp only [Act.put, List.setIfInBounds_toArray, List.set_cons_zero, List.set_cons_succ, i64_w, i32_w]
  rfl
 refine pure_ (i := 49) (N := some 4) (v := ?_) (a' := ?_) #[true, true, true, true, true, true, true, true, true, true, true, true, true, true, true, true, true, true, true, true, true, true, true, true, true, true, true, true, true, true, true, true, true, true, true, true, true, true, true, true, true, true, true, true, true, true, true, true, true, true] rfl rfl (any_of HT_.out (by kernel_rfl)) (fun _ _ _ h => h) (Or.inl ⟨by rfl, ?_⟩) ?_ ?_
 rotate_left
 ·intro w'
  go_simp
  with_reducible rfl
 rotate_left
 ·simp only [Act.put, List.setIfInBounds_toArray, List.set_cons_zero, List.set_cons_succ, i64_w, i32_w]
  rfl
 refine done_ (done_of HT_.out (by kernel_rfl)) ?_
 try go_wp2
 go_ret
 exact ⟨by first | rfl | (simp [errW_none, errW_some] <;> rfl) | (simp [*, errW_none, errW_some] <;> rfl), by repeat (first | (with_reducible first | exact HB.out | apply below_alloc | apply pw_below_drewN | apply below_drew1 | refine below_set ?_ GE352.out | refine below_set ?_ GE360.out | refine below_set ?_ GE374.out | refine below_set ?_ GE388.out | refine below_set ?_ GE399.out | refine below_set ?_ GE410.out | refine below_set ?_ GE418.out) | exact HB.out)⟩
end Go.Proofs.Ytfbeklbjlkgbnaa.P
end

/- Laid by a program of this session out of its texts for the law AggRows, part 4. -/
import Derived.WalkSpells
import Derived.LoopTactic
import Derived.Test.YtgjfciohmgpohaaZAggRows3
section
namespace Go.Proofs.Ytgjfciohmgpohaa.P
open Go.RowKit Go.Proofs.Ytgjfciohmgpohaa.Pure Go.Proofs.YtgjfciohmgpohaaW.PrintWords Go.Proofs.YtgjfciohmgpohaaW.PrintLast Go.Proofs.YtgjfciohmgpohaaW.PrintMore
attribute [local go_sem] max2_int min2_int max_two min_two max_three min_three max_four min_four
set_option linter.unusedVariables false
set_option linter.unusedSimpArgs false
def AccAt (w : World) (b g : Nat) (rows : Bool) (st : Gst) : Prop :=
  w.heap[b]? = some (.cells #[.iface st.dyn (.pointer (some ⟨g, 0, none⟩)), .bool rows] 57 (0, 0)) ∧ w.heap[g]? = some (.cells st.cells st.ty (0, 0)) ∧ b ≠ g
theorem AccAt.below {w w' : World} {b g : Nat} {rows : Bool} {st : Gst} (h : AccAt w b g rows st) (hb : Below w.heap.size w w') : AccAt w' b g rows st := ⟨blk_below h.1 hb, blk_below h.2.1 hb, h.2.2⟩
theorem AccAt.other {w w' : World} {b g g' : Nat} {rows : Bool} {st : Gst} (h : AccAt w b g rows st) (hk : KeepBut w w' g' none) (h1 : b ≠ g') (h2 : g ≠ g') : AccAt w' b g rows st := ⟨hk.blk h.1 h1 (by simp), hk.blk h.2.1 h2 (by simp), h.2.2⟩
def valP : Gst → S32 | .count n => numV n | .sum s => s | .best u _ => u
def addP (st : Gst) (rows : Bool) (v : S32) : Gst × Int :=
  if v.f0 = 0 ∧ rows = false then (st, 0) else match st with
  | .count n => (.count (wrap64 (n + 1)), 0)
  | .sum s => (.sum (sumA s v).1, (sumA s v).2)
  | .best u sg => if u.f0 = 0 ∨ cmpV v u = sg then (.best v sg, 0) else (.best u sg, 0)
def Gst.fits : Gst → Prop | .sum s => FitsV s | _ => True
theorem goesI_ {P : Program} {ops : Array Oper} {Q : Exit → Act → World → Prop} {oi : Oper} {N : Option Tmp} {a : Act} {w : World} {K : Act → World → Prop} {f : FuncId} {fn : Func} (hf : P.funcs[f]? = some fn) (hname : (fn.name == "runtime.NumGoroutine") = false) (hb : fn.body.isSome = true) (args : Array Value)
    (hw : Region.wanted oi (yielded ops a.tmps) = true) (hN : oi.dst = N) (hrun : (execOp a.eval oi).run P w = ((callFunc f args).run P w))
    (h : Calls P f args w fun e w' => ∃ v, e = .returned v ∧ K (a.put N v) w') : if Region.wanted oi (yielded ops a.tmps) = true then Oper.wp P oi a w K Q else K (a.put N undef) w :=
  call_ f args hw hN (hrun.trans (enters_ hf hname hb args w)) h
theorem m_value_count (a : Addr) (w : World) : (method 202 47 (.pointer (some a)) "quarry/agg.value").run Try.prog w = .ok (48, .pointer (some a)) w := by kernel_rfl
theorem m_add_count (a : Addr) (w : World) : (method 202 47 (.pointer (some a)) "quarry/agg.add").run Try.prog w = .ok (47, .pointer (some a)) w := by kernel_rfl
set_option maxHeartbeats 1000000 in
set_option maxRecDepth 100000 in
theorem acc_value.count (b g : Nat) (rows : Bool) (n : Int) (w : World) (h : AccAt w b g rows (.count n)) :
    Calls Try.prog 11 #[.pointer (some ⟨b, 0, none⟩)] w fun e w' => e = .returned (encV (numV n)) ∧ Below w.heap.size w w' := by
  have hu := Try.underlying32
  have hm := m_value_count
  obtain ⟨hb, hg, hne⟩ := h
  have hb0 : w.heap[b]? = some (.cells #[.iface 47 (.pointer (some ⟨g, 0, none⟩)), .bool rows] 57 (0, 0)) := hb
  have H1 := Aside0.mk (blk_alloc hb0 (.cells #[.int .i64 0, .int .i64 0, .string (⟨#[]⟩ : ByteArray)] 32))
  have HG := Aside0.mk (blk_alloc hg (.cells #[.int .i64 0, .int .i64 0, .string (⟨#[]⟩ : ByteArray)] 32))
  have hc0 : World.cell? _ ⟨b, 0, none⟩ = some (.iface 47 (.pointer (some ⟨g, 0, none⟩))) := (blk_cell H1.out 0).trans rfl
  have HZ := Aside0.mk (Deep.blk_alloc_new w (.cells #[.int .i64 0, .int .i64 0, .string (⟨#[]⟩ : ByteArray)] 32))
  clear hb hb0 hg hne
  go_enter Try.func11, Try.ntmps11
  go_wp2_with fail
  refine (count_value.calls g n _ HG.out).mono ?_
  rintro e w1 ⟨rfl, hb⟩
  have HI := Aside0.mk (blk_below HZ.out hb)
  have HW := Aside0.mk (below_step (below_alloc (Below.refl w.heap.size w) _) hb)
  clear hb hc0
  have gc0 : w1.cell? ⟨w.heap.size, 0, none⟩ = some (.int .i64 0) := (blk_cell HI.out 0).trans rfl
  have gc1 : w1.cell? ⟨w.heap.size, 1, none⟩ = some (.int .i64 0) := (blk_cell HI.out 1).trans rfl
  have gc2 : w1.cell? ⟨w.heap.size, 2, none⟩ = some (.string (⟨#[]⟩ : ByteArray)) := (blk_cell HI.out 2).trans rfl
  have gf0 := blk_frozen HI.out 0
  have gf1 := blk_frozen HI.out 1
  have gf2 := blk_frozen HI.out 2
  unfold encV
  go_wp2_with fail
  exact bodyPost_ret (v := encV (numV n)) (by simp [results, Try.results11, go_sem, encV, gc0, gc1, gc2]) rfl ⟨rfl, below_set3 HW.out (Nat.le_refl _) _ _ _ _ _ _⟩
theorem m_value_sum (a : Addr) (w : World) : (method 202 50 (.pointer (some a)) "quarry/agg.value").run Try.prog w = .ok (51, .pointer (some a)) w := by kernel_rfl
theorem m_add_sum (a : Addr) (w : World) : (method 202 50 (.pointer (some a)) "quarry/agg.add").run Try.prog w = .ok (50, .pointer (some a)) w := by kernel_rfl
set_option maxHeartbeats 1000000 in
set_option maxRecDepth 100000 in
theorem acc_value.sum (b g : Nat) (rows : Bool) (s : S32) (w : World) (h : AccAt w b g rows (.sum s)) :
    Calls Try.prog 11 #[.pointer (some ⟨b, 0, none⟩)] w fun e w' => e = .returned (encV (s)) ∧ Below w.heap.size w w' := by
  have hu := Try.underlying32
  have hm := m_value_sum
  obtain ⟨hb, hg, hne⟩ := h
  have hb0 : w.heap[b]? = some (.cells #[.iface 50 (.pointer (some ⟨g, 0, none⟩)), .bool rows] 57 (0, 0)) := hb
  have H1 := Aside0.mk (blk_alloc hb0 (.cells #[.int .i64 0, .int .i64 0, .string (⟨#[]⟩ : ByteArray)] 32))
  have HG := Aside0.mk (blk_alloc hg (.cells #[.int .i64 0, .int .i64 0, .string (⟨#[]⟩ : ByteArray)] 32))
  have hc0 : World.cell? _ ⟨b, 0, none⟩ = some (.iface 50 (.pointer (some ⟨g, 0, none⟩))) := (blk_cell H1.out 0).trans rfl
  have HZ := Aside0.mk (Deep.blk_alloc_new w (.cells #[.int .i64 0, .int .i64 0, .string (⟨#[]⟩ : ByteArray)] 32))
  clear hb hb0 hg hne
  go_enter Try.func11, Try.ntmps11
  go_wp2_with fail
  refine (sum_value.calls g s _ HG.out).mono ?_
  rintro e w1 ⟨rfl, hb⟩
  have HI := Aside0.mk (blk_below HZ.out hb)
  have HW := Aside0.mk (below_step (below_alloc (Below.refl w.heap.size w) _) hb)
  clear hb hc0
  have gc0 : w1.cell? ⟨w.heap.size, 0, none⟩ = some (.int .i64 0) := (blk_cell HI.out 0).trans rfl
  have gc1 : w1.cell? ⟨w.heap.size, 1, none⟩ = some (.int .i64 0) := (blk_cell HI.out 1).trans rfl
  have gc2 : w1.cell? ⟨w.heap.size, 2, none⟩ = some (.string (⟨#[]⟩ : ByteArray)) := (blk_cell HI.out 2).trans rfl
  have gf0 := blk_frozen HI.out 0
  have gf1 := blk_frozen HI.out 1
  have gf2 := blk_frozen HI.out 2
  unfold encV
  go_wp2_with fail
  exact bodyPost_ret (v := encV (s)) (by simp [results, Try.results11, go_sem, encV, gc0, gc1, gc2]) rfl ⟨rfl, below_set3 HW.out (Nat.le_refl _) _ _ _ _ _ _⟩
theorem m_value_best (a : Addr) (w : World) : (method 202 53 (.pointer (some a)) "quarry/agg.value").run Try.prog w = .ok (77, .pointer (some a)) w := by kernel_rfl
theorem m_add_best (a : Addr) (w : World) : (method 202 53 (.pointer (some a)) "quarry/agg.add").run Try.prog w = .ok (76, .pointer (some a)) w := by kernel_rfl
set_option maxHeartbeats 1000000 in
set_option maxRecDepth 100000 in
theorem acc_value.best (b g : Nat) (rows : Bool) (u : S32) (sg : Int) (w : World) (h : AccAt w b g rows (.best u sg)) :
    Calls Try.prog 11 #[.pointer (some ⟨b, 0, none⟩)] w fun e w' => e = .returned (encV (u)) ∧ Below w.heap.size w w' := by
  have hu := Try.underlying32
  have hm := m_value_best
  obtain ⟨hb, hg, hne⟩ := h
  have hb0 : w.heap[b]? = some (.cells #[.iface 53 (.pointer (some ⟨g, 0, none⟩)), .bool rows] 57 (0, 0)) := hb
  have H1 := Aside0.mk (blk_alloc hb0 (.cells #[.int .i64 0, .int .i64 0, .string (⟨#[]⟩ : ByteArray)] 32))
  have HG := Aside0.mk (blk_alloc hg (.cells #[.int .i64 0, .int .i64 0, .string (⟨#[]⟩ : ByteArray)] 32))
  have hc0 : World.cell? _ ⟨b, 0, none⟩ = some (.iface 53 (.pointer (some ⟨g, 0, none⟩))) := (blk_cell H1.out 0).trans rfl
  have HZ := Aside0.mk (Deep.blk_alloc_new w (.cells #[.int .i64 0, .int .i64 0, .string (⟨#[]⟩ : ByteArray)] 32))
  clear hb hb0 hg hne
  go_enter Try.func11, Try.ntmps11
  go_wp2_with fail
  refine (best_value.calls g u sg _ HG.out).mono ?_
  rintro e w1 ⟨rfl, hb⟩
  have HI := Aside0.mk (blk_below HZ.out hb)
  have HW := Aside0.mk (below_step (below_alloc (Below.refl w.heap.size w) _) hb)
  clear hb hc0
  have gc0 : w1.cell? ⟨w.heap.size, 0, none⟩ = some (.int .i64 0) := (blk_cell HI.out 0).trans rfl
  have gc1 : w1.cell? ⟨w.heap.size, 1, none⟩ = some (.int .i64 0) := (blk_cell HI.out 1).trans rfl
  have gc2 : w1.cell? ⟨w.heap.size, 2, none⟩ = some (.string (⟨#[]⟩ : ByteArray)) := (blk_cell HI.out 2).trans rfl
  have gf0 := blk_frozen HI.out 0
  have gf1 := blk_frozen HI.out 1
  have gf2 := blk_frozen HI.out 2
  unfold encV
  go_wp2_with fail
  exact bodyPost_ret (v := encV (u)) (by simp [results, Try.results11, go_sem, encV, gc0, gc1, gc2]) rfl ⟨rfl, below_set3 HW.out (Nat.le_refl _) _ _ _ _ _ _⟩
theorem acc_value.calls (b g : Nat) (rows : Bool) (st : Gst) (w : World) (h : AccAt w b g rows st) :
    Calls Try.prog 11 #[.pointer (some ⟨b, 0, none⟩)] w fun e w' => e = .returned (encV (valP st)) ∧ Below w.heap.size w w' := by
  cases st with
  | count n => exact acc_value.count b g rows n w h
  | sum s => exact acc_value.sum b g rows s w h
  | best u sg => exact acc_value.best b g rows u sg w h
set_option maxHeartbeats 2000000 in
set_option maxRecDepth 100000 in
theorem acc_add.count_v (b g : Nat) (rows : Bool) (n : Int) (v : S32) (w : World) (h : AccAt w b g rows (.count n)) (B : Nat) (hB : B ≤ g) (hz : ¬ v.f0 = 0) :
    Calls Try.prog 13 #[.pointer (some ⟨b, 0, none⟩), .agg #[.int .i64 v.f0, .int .i64 v.f1, .string v.f2]] w fun e w' =>
      e = .returned (.int .i64 0) ∧ AccAt w' b g rows (.count (wrap64 (n + 1))) ∧ Below B w w' ∧ KeepBut w w' g none := by
  have hu := Try.underlying32
  have hm := m_add_count
  have hne := Aside0.mk h.2.2
  have hb0 : w.heap[b]? = some (.cells #[.iface 47 (.pointer (some ⟨g, 0, none⟩)), .bool rows] 57 (0, 0)) := h.1
  have HS := Aside0.mk (BA.start (v := v) hb0)
  have HG := Aside0.mk h.2.1
  have HL := Aside0.mk (Nat.le_trans hB (Nat.le_of_lt (blk_lt h.2.1)))
  have HB := Aside0.mk hB
  have hc1 : World.cell? _ ⟨b, 1, none⟩ = some (.bool rows) := (blk_cell HS.out.1 1).trans rfl
  have qz : (v.f0 == 0) = false := beq_eq_false_iff_ne.mpr hz
  clear hb0 hB h hz
  go_enter Try.func13, Try.ntmps13
  go_wp2_with fail
  refine at_world (fun w' => BA b w.heap.size #[.iface 47 (.pointer (some ⟨g, 0, none⟩)), .bool rows] 57 v w w') (by repeat (first | exact HS.out | refine BA.drewN ?_ _ | refine BA.drew ?_)) (fun w1 hI => ?_)
  have HI := Aside0.mk hI
  clear hI hc1
  have HG1 := Aside0.mk (blk_below HG.out HI.out.drew.2.2)
  have hEnd : ∀ w2, w2.heap[g]? = some (.cells (.count (wrap64 (n + 1)) : Gst).cells (.count (wrap64 (n + 1)) : Gst).ty (0, 0)) → Below B w1.drew w2 → KeepBut w1.drew w2 g none → AccAt w2 b g rows (.count (wrap64 (n + 1))) ∧ Below B w w2 ∧ KeepBut w w2 g none := fun w2 a1 a2 a3 =>
    ⟨⟨a3.blk HI.out.drew.1 hne.out (by simp), a1, hne.out⟩, (HI.out.drew.2.2.mono HL.out).trans a2, (KeepBut.of_below HI.out.drew.2.2 g none).trans a3 (.inl rfl)⟩
  refine start_ (n := 7) (S := fun w' => w'.cell? ⟨b, 0, none⟩ = some (.iface 47 (.pointer (some ⟨g, 0, none⟩))) ∧ w'.cell? ⟨w.heap.size, 0, none⟩ = some (.int .i64 v.f0) ∧ w'.cell? ⟨w.heap.size, 1, none⟩ = some (.int .i64 v.f1) ∧ w'.cell? ⟨w.heap.size, 2, none⟩ = some (.string v.f2)) (ds := [5]) #[false, false, false, false, false, false, false] (by kernel_rfl) rfl rfl ⟨(blk_cell (HI.out.drew).1 0).trans rfl, (HI.out.drew).v0, (HI.out.drew).v1, (HI.out.drew).v2⟩ (fun hHeld => ?_)
  refine pure_ (i := 0) (N := some 15) (v := ?_) (a' := ?_) #[true, false, false, false, false, false, false] rfl rfl (by kernel_rfl) (fun _ _ _ h => h) (Or.inl ⟨by rfl, ?_⟩) ?_ ?_
  rotate_left
  · intro w'
    go_simp
    with_reducible rfl
  rotate_left
  · simp only [Act.put, List.setIfInBounds_toArray, List.set_cons_zero, List.set_cons_succ, i64_w, i32_w]
    rfl
  refine pure_ (i := 1) (N := some 16) (v := ?_) (a' := ?_) #[true, true, false, false, false, false, false] rfl rfl (by kernel_rfl) (fun _ _ _ h => h) (Or.inl ⟨by rfl, ?_⟩) ?_ ?_
  rotate_left
  · intro w'
    go_simp
    with_reducible rfl
  rotate_left
  · simp only [Act.put, List.setIfInBounds_toArray, List.set_cons_zero, List.set_cons_succ, i64_w, i32_w]
    rfl
  refine pure_ (i := 2) (N := some 17) (v := ?_) (a' := ?_) #[true, true, true, false, false, false, false] rfl rfl (by kernel_rfl) (fun _ _ _ h => h) (Or.inl ⟨by rfl, ?_⟩) ?_ ?_
  rotate_left
  · intro w'
    go_simp
    with_reducible rfl
  rotate_left
  · simp only [Act.put, List.setIfInBounds_toArray, List.set_cons_zero, List.set_cons_succ, i64_w, i32_w]
    rfl
  refine take_ (i := 3) (N := some 18) (v := ?_) (a' := ?_) #[true, true, true, true, false, false, false] rfl rfl (by kernel_rfl) (fun _ _ _ h => h) (Or.inl ⟨by rfl, ?_⟩) hHeld ?_ ?_
  rotate_left
  · rintro w' ⟨s0, s1, s2, s3⟩
    go_simp
    with_reducible rfl
  rotate_left
  · simp only [Act.put, List.setIfInBounds_toArray, List.set_cons_zero, List.set_cons_succ, i64_w, i32_w]
    rfl
  refine take_ (i := 4) (N := some 19) (v := ?_) (a' := ?_) #[true, true, true, true, true, false, false] rfl rfl (by kernel_rfl) (fun _ _ _ h => h) (Or.inl ⟨by rfl, ?_⟩) hHeld ?_ ?_
  rotate_left
  · rintro w' ⟨s0, s1, s2, s3⟩
    go_simp
    with_reducible rfl
  rotate_left
  · simp only [Act.put, List.setIfInBounds_toArray, List.set_cons_zero, List.set_cons_succ, i64_w, i32_w]
    rfl
  refine last_ (i := 5) (N := some 20) #[true, true, true, true, true, true, false] rfl rfl (by kernel_rfl) (by decide) (fun K hK => ?_)
  refine goesI_ Try.func47 (by kernel_rfl) rfl #[.pointer (some ⟨g, 0, none⟩), .agg #[.int .i64 v.f0, .int .i64 v.f1, .string v.f2]] (by rfl) rfl (by go_simp) ?_
  with_reducible refine (count_add.calls g n v _ HG1.out B HB.out).mono ?_
  rintro e w2 ⟨rfl, hg2, hb2, hk2⟩
  refine ⟨_, rfl, ?_⟩
  have HE := Aside0.mk (hEnd w2 hg2 hb2 hk2)
  clear hg2 hb2 hk2
  refine hK.out _ _ ?_
  clear hK K
  refine norm_ (a' := ?_) ?_ ?_
  rotate_left
  · show Act.put _ (some 20) _ = _
    simp only [Act.put, List.setIfInBounds_toArray, List.set_cons_zero, List.set_cons_succ, i64_w, i32_w]
    rfl
  refine pure_ (i := 6) (N := some 4) (v := ?_) (a' := ?_) #[true, true, true, true, true, true, true] rfl rfl (by kernel_rfl) (fun _ _ _ h => h) (Or.inl ⟨by rfl, ?_⟩) ?_ ?_
  rotate_left
  · intro w'
    go_simp
    with_reducible rfl
  rotate_left
  · simp only [Act.put, List.setIfInBounds_toArray, List.set_cons_zero, List.set_cons_succ, i64_w, i32_w]
    rfl
  refine done_ (by kernel_rfl) ?_
  go_wp2_with fail
  go_ret
  exact ⟨rfl, HE.out⟩
set_option maxHeartbeats 2000000 in
set_option maxRecDepth 100000 in
theorem acc_add.count_r (b g : Nat) (rows : Bool) (n : Int) (v : S32) (w : World) (h : AccAt w b g rows (.count n)) (B : Nat) (hB : B ≤ g) (hz0 : v.f0 = 0) (hz : rows = true) :
    Calls Try.prog 13 #[.pointer (some ⟨b, 0, none⟩), .agg #[.int .i64 v.f0, .int .i64 v.f1, .string v.f2]] w fun e w' =>
      e = .returned (.int .i64 0) ∧ AccAt w' b g rows (.count (wrap64 (n + 1))) ∧ Below B w w' ∧ KeepBut w w' g none := by
  have hu := Try.underlying32
  have hm := m_add_count
  have hne := Aside0.mk h.2.2
  have hb0 : w.heap[b]? = some (.cells #[.iface 47 (.pointer (some ⟨g, 0, none⟩)), .bool rows] 57 (0, 0)) := h.1
  have HS := Aside0.mk (BA.start (v := v) hb0)
  have HG := Aside0.mk h.2.1
  have HL := Aside0.mk (Nat.le_trans hB (Nat.le_of_lt (blk_lt h.2.1)))
  have HB := Aside0.mk hB
  have hc1 : World.cell? _ ⟨b, 1, none⟩ = some (.bool rows) := (blk_cell HS.out.1 1).trans rfl
  have qz0 : (v.f0 == 0) = true := beq_iff_eq.mpr hz0
  have qz : rows = true := hz
  clear hb0 hB h hz0 hz
  go_enter Try.func13, Try.ntmps13
  go_wp2_with fail
  refine at_world (fun w' => BA b w.heap.size #[.iface 47 (.pointer (some ⟨g, 0, none⟩)), .bool rows] 57 v w w') (by repeat (first | exact HS.out | refine BA.drewN ?_ _ | refine BA.drew ?_)) (fun w1 hI => ?_)
  have HI := Aside0.mk hI
  clear hI hc1
  have HG1 := Aside0.mk (blk_below HG.out HI.out.drew.2.2)
  have hEnd : ∀ w2, w2.heap[g]? = some (.cells (.count (wrap64 (n + 1)) : Gst).cells (.count (wrap64 (n + 1)) : Gst).ty (0, 0)) → Below B w1.drew w2 → KeepBut w1.drew w2 g none → AccAt w2 b g rows (.count (wrap64 (n + 1))) ∧ Below B w w2 ∧ KeepBut w w2 g none := fun w2 a1 a2 a3 =>
    ⟨⟨a3.blk HI.out.drew.1 hne.out (by simp), a1, hne.out⟩, (HI.out.drew.2.2.mono HL.out).trans a2, (KeepBut.of_below HI.out.drew.2.2 g none).trans a3 (.inl rfl)⟩
  refine start_ (n := 7) (S := fun w' => w'.cell? ⟨b, 0, none⟩ = some (.iface 47 (.pointer (some ⟨g, 0, none⟩))) ∧ w'.cell? ⟨w.heap.size, 0, none⟩ = some (.int .i64 v.f0) ∧ w'.cell? ⟨w.heap.size, 1, none⟩ = some (.int .i64 v.f1) ∧ w'.cell? ⟨w.heap.size, 2, none⟩ = some (.string v.f2)) (ds := [5]) #[false, false, false, false, false, false, false] (by kernel_rfl) rfl rfl ⟨(blk_cell (HI.out.drew).1 0).trans rfl, (HI.out.drew).v0, (HI.out.drew).v1, (HI.out.drew).v2⟩ (fun hHeld => ?_)
  refine pure_ (i := 0) (N := some 15) (v := ?_) (a' := ?_) #[true, false, false, false, false, false, false] rfl rfl (by kernel_rfl) (fun _ _ _ h => h) (Or.inl ⟨by rfl, ?_⟩) ?_ ?_
  rotate_left
  · intro w'
    go_simp
    with_reducible rfl
  rotate_left
  · simp only [Act.put, List.setIfInBounds_toArray, List.set_cons_zero, List.set_cons_succ, i64_w, i32_w]
    rfl
  refine pure_ (i := 1) (N := some 16) (v := ?_) (a' := ?_) #[true, true, false, false, false, false, false] rfl rfl (by kernel_rfl) (fun _ _ _ h => h) (Or.inl ⟨by rfl, ?_⟩) ?_ ?_
  rotate_left
  · intro w'
    go_simp
    with_reducible rfl
  rotate_left
  · simp only [Act.put, List.setIfInBounds_toArray, List.set_cons_zero, List.set_cons_succ, i64_w, i32_w]
    rfl
  refine pure_ (i := 2) (N := some 17) (v := ?_) (a' := ?_) #[true, true, true, false, false, false, false] rfl rfl (by kernel_rfl) (fun _ _ _ h => h) (Or.inl ⟨by rfl, ?_⟩) ?_ ?_
  rotate_left
  · intro w'
    go_simp
    with_reducible rfl
  rotate_left
  · simp only [Act.put, List.setIfInBounds_toArray, List.set_cons_zero, List.set_cons_succ, i64_w, i32_w]
    rfl
  refine take_ (i := 3) (N := some 18) (v := ?_) (a' := ?_) #[true, true, true, true, false, false, false] rfl rfl (by kernel_rfl) (fun _ _ _ h => h) (Or.inl ⟨by rfl, ?_⟩) hHeld ?_ ?_
  rotate_left
  · rintro w' ⟨s0, s1, s2, s3⟩
    go_simp
    with_reducible rfl
  rotate_left
  · simp only [Act.put, List.setIfInBounds_toArray, List.set_cons_zero, List.set_cons_succ, i64_w, i32_w]
    rfl
  refine take_ (i := 4) (N := some 19) (v := ?_) (a' := ?_) #[true, true, true, true, true, false, false] rfl rfl (by kernel_rfl) (fun _ _ _ h => h) (Or.inl ⟨by rfl, ?_⟩) hHeld ?_ ?_
  rotate_left
  · rintro w' ⟨s0, s1, s2, s3⟩
    go_simp
    with_reducible rfl
  rotate_left
  · simp only [Act.put, List.setIfInBounds_toArray, List.set_cons_zero, List.set_cons_succ, i64_w, i32_w]
    rfl
  refine last_ (i := 5) (N := some 20) #[true, true, true, true, true, true, false] rfl rfl (by kernel_rfl) (by decide) (fun K hK => ?_)
  refine goesI_ Try.func47 (by kernel_rfl) rfl #[.pointer (some ⟨g, 0, none⟩), .agg #[.int .i64 v.f0, .int .i64 v.f1, .string v.f2]] (by rfl) rfl (by go_simp) ?_
  with_reducible refine (count_add.calls g n v _ HG1.out B HB.out).mono ?_
  rintro e w2 ⟨rfl, hg2, hb2, hk2⟩
  refine ⟨_, rfl, ?_⟩
  have HE := Aside0.mk (hEnd w2 hg2 hb2 hk2)
  clear hg2 hb2 hk2
  refine hK.out _ _ ?_
  clear hK K
  refine norm_ (a' := ?_) ?_ ?_
  rotate_left
  · show Act.put _ (some 20) _ = _
    simp only [Act.put, List.setIfInBounds_toArray, List.set_cons_zero, List.set_cons_succ, i64_w, i32_w]
    rfl
  refine pure_ (i := 6) (N := some 4) (v := ?_) (a' := ?_) #[true, true, true, true, true, true, true] rfl rfl (by kernel_rfl) (fun _ _ _ h => h) (Or.inl ⟨by rfl, ?_⟩) ?_ ?_
  rotate_left
  · intro w'
    go_simp
    with_reducible rfl
  rotate_left
  · simp only [Act.put, List.setIfInBounds_toArray, List.set_cons_zero, List.set_cons_succ, i64_w, i32_w]
    rfl
  refine done_ (by kernel_rfl) ?_
  go_wp2_with fail
  go_ret
  exact ⟨rfl, HE.out⟩
set_option maxHeartbeats 2000000 in
set_option maxRecDepth 100000 in
theorem acc_add.sum_moreOk_v (b g : Nat) (rows : Bool) (s : S32) (r : S32) (v : S32) (w : World) (h : AccAt w b g rows (.sum s)) (B : Nat) (hB : B ≤ g) (hz : ¬ v.f0 = 0) (hfs : FitsV s) (hfv : FitsV v) (h0 : ¬ s.f0 = 0) (hr : bin 11 (s) v = .ok r) :
    Calls Try.prog 13 #[.pointer (some ⟨b, 0, none⟩), .agg #[.int .i64 v.f0, .int .i64 v.f1, .string v.f2]] w fun e w' =>
      e = .returned (.int .i64 0) ∧ AccAt w' b g rows (.sum r) ∧ Below B w w' ∧ KeepBut w w' g none := by
  have hu := Try.underlying32
  have hm := m_add_sum
  have hne := Aside0.mk h.2.2
  have hb0 : w.heap[b]? = some (.cells #[.iface 50 (.pointer (some ⟨g, 0, none⟩)), .bool rows] 57 (0, 0)) := h.1
  have HS := Aside0.mk (BA.start (v := v) hb0)
  have HG := Aside0.mk h.2.1
  have HL := Aside0.mk (Nat.le_trans hB (Nat.le_of_lt (blk_lt h.2.1)))
  have HB := Aside0.mk hB
  have hc1 : World.cell? _ ⟨b, 1, none⟩ = some (.bool rows) := (blk_cell HS.out.1 1).trans rfl
  have qz : (v.f0 == 0) = false := beq_eq_false_iff_ne.mpr hz
  have HFs := Aside0.mk hfs
  have HFv := Aside0.mk hfv
  have H0 := Aside0.mk h0
  have HR := Aside0.mk hr
  clear hb0 hB h hz hfs hfv h0 hr
  go_enter Try.func13, Try.ntmps13
  go_wp2_with fail
  refine at_world (fun w' => BA b w.heap.size #[.iface 50 (.pointer (some ⟨g, 0, none⟩)), .bool rows] 57 v w w') (by repeat (first | exact HS.out | refine BA.drewN ?_ _ | refine BA.drew ?_)) (fun w1 hI => ?_)
  have HI := Aside0.mk hI
  clear hI hc1
  have HG1 := Aside0.mk (blk_below HG.out HI.out.drew.2.2)
  have hEnd : ∀ w2, w2.heap[g]? = some (.cells (.sum r : Gst).cells (.sum r : Gst).ty (0, 0)) → Below B w1.drew w2 → KeepBut w1.drew w2 g none → AccAt w2 b g rows (.sum r) ∧ Below B w w2 ∧ KeepBut w w2 g none := fun w2 a1 a2 a3 =>
    ⟨⟨a3.blk HI.out.drew.1 hne.out (by simp), a1, hne.out⟩, (HI.out.drew.2.2.mono HL.out).trans a2, (KeepBut.of_below HI.out.drew.2.2 g none).trans a3 (.inl rfl)⟩
  refine start_ (n := 7) (S := fun w' => w'.cell? ⟨b, 0, none⟩ = some (.iface 50 (.pointer (some ⟨g, 0, none⟩))) ∧ w'.cell? ⟨w.heap.size, 0, none⟩ = some (.int .i64 v.f0) ∧ w'.cell? ⟨w.heap.size, 1, none⟩ = some (.int .i64 v.f1) ∧ w'.cell? ⟨w.heap.size, 2, none⟩ = some (.string v.f2)) (ds := [5]) #[false, false, false, false, false, false, false] (by kernel_rfl) rfl rfl ⟨(blk_cell (HI.out.drew).1 0).trans rfl, (HI.out.drew).v0, (HI.out.drew).v1, (HI.out.drew).v2⟩ (fun hHeld => ?_)
  refine pure_ (i := 0) (N := some 15) (v := ?_) (a' := ?_) #[true, false, false, false, false, false, false] rfl rfl (by kernel_rfl) (fun _ _ _ h => h) (Or.inl ⟨by rfl, ?_⟩) ?_ ?_
  rotate_left
  · intro w'
    go_simp
    with_reducible rfl
  rotate_left
  · simp only [Act.put, List.setIfInBounds_toArray, List.set_cons_zero, List.set_cons_succ, i64_w, i32_w]
    rfl
  refine pure_ (i := 1) (N := some 16) (v := ?_) (a' := ?_) #[true, true, false, false, false, false, false] rfl rfl (by kernel_rfl) (fun _ _ _ h => h) (Or.inl ⟨by rfl, ?_⟩) ?_ ?_
  rotate_left
  · intro w'
    go_simp
    with_reducible rfl
  rotate_left
  · simp only [Act.put, List.setIfInBounds_toArray, List.set_cons_zero, List.set_cons_succ, i64_w, i32_w]
    rfl
  refine pure_ (i := 2) (N := some 17) (v := ?_) (a' := ?_) #[true, true, true, false, false, false, false] rfl rfl (by kernel_rfl) (fun _ _ _ h => h) (Or.inl ⟨by rfl, ?_⟩) ?_ ?_
  rotate_left
  · intro w'
    go_simp
    with_reducible rfl
  rotate_left
  · simp only [Act.put, List.setIfInBounds_toArray, List.set_cons_zero, List.set_cons_succ, i64_w, i32_w]
    rfl
  refine take_ (i := 3) (N := some 18) (v := ?_) (a' := ?_) #[true, true, true, true, false, false, false] rfl rfl (by kernel_rfl) (fun _ _ _ h => h) (Or.inl ⟨by rfl, ?_⟩) hHeld ?_ ?_
  rotate_left
  · rintro w' ⟨s0, s1, s2, s3⟩
    go_simp
    with_reducible rfl
  rotate_left
  · simp only [Act.put, List.setIfInBounds_toArray, List.set_cons_zero, List.set_cons_succ, i64_w, i32_w]
    rfl
  refine take_ (i := 4) (N := some 19) (v := ?_) (a' := ?_) #[true, true, true, true, true, false, false] rfl rfl (by kernel_rfl) (fun _ _ _ h => h) (Or.inl ⟨by rfl, ?_⟩) hHeld ?_ ?_
  rotate_left
  · rintro w' ⟨s0, s1, s2, s3⟩
    go_simp
    with_reducible rfl
  rotate_left
  · simp only [Act.put, List.setIfInBounds_toArray, List.set_cons_zero, List.set_cons_succ, i64_w, i32_w]
    rfl
  refine last_ (i := 5) (N := some 20) #[true, true, true, true, true, true, false] rfl rfl (by kernel_rfl) (by decide) (fun K hK => ?_)
  refine goesI_ Try.func50 (by kernel_rfl) rfl #[.pointer (some ⟨g, 0, none⟩), .agg #[.int .i64 v.f0, .int .i64 v.f1, .string v.f2]] (by rfl) rfl (by go_simp) ?_
  with_reducible refine (sum_add.moreOk g s v _ HG1.out HFs.out HFv.out B HB.out H0.out r HR.out).mono ?_
  rintro e w2 ⟨rfl, hg2, hb2, hk2⟩
  refine ⟨_, rfl, ?_⟩
  have HE := Aside0.mk (hEnd w2 hg2 hb2 hk2)
  clear hg2 hb2 hk2
  refine hK.out _ _ ?_
  clear hK K
  refine norm_ (a' := ?_) ?_ ?_
  rotate_left
  · show Act.put _ (some 20) _ = _
    simp only [Act.put, List.setIfInBounds_toArray, List.set_cons_zero, List.set_cons_succ, i64_w, i32_w]
    rfl
  refine pure_ (i := 6) (N := some 4) (v := ?_) (a' := ?_) #[true, true, true, true, true, true, true] rfl rfl (by kernel_rfl) (fun _ _ _ h => h) (Or.inl ⟨by rfl, ?_⟩) ?_ ?_
  rotate_left
  · intro w'
    go_simp
    with_reducible rfl
  rotate_left
  · simp only [Act.put, List.setIfInBounds_toArray, List.set_cons_zero, List.set_cons_succ, i64_w, i32_w]
    rfl
  refine done_ (by kernel_rfl) ?_
  go_wp2_with fail
  go_ret
  exact ⟨rfl, HE.out⟩
set_option maxHeartbeats 2000000 in
set_option maxRecDepth 100000 in
theorem acc_add.sum_moreOk_r (b g : Nat) (rows : Bool) (s : S32) (r : S32) (v : S32) (w : World) (h : AccAt w b g rows (.sum s)) (B : Nat) (hB : B ≤ g) (hz0 : v.f0 = 0) (hz : rows = true) (hfs : FitsV s) (hfv : FitsV v) (h0 : ¬ s.f0 = 0) (hr : bin 11 (s) v = .ok r) :
    Calls Try.prog 13 #[.pointer (some ⟨b, 0, none⟩), .agg #[.int .i64 v.f0, .int .i64 v.f1, .string v.f2]] w fun e w' =>
      e = .returned (.int .i64 0) ∧ AccAt w' b g rows (.sum r) ∧ Below B w w' ∧ KeepBut w w' g none := by
  have hu := Try.underlying32
  have hm := m_add_sum
  have hne := Aside0.mk h.2.2
  have hb0 : w.heap[b]? = some (.cells #[.iface 50 (.pointer (some ⟨g, 0, none⟩)), .bool rows] 57 (0, 0)) := h.1
  have HS := Aside0.mk (BA.start (v := v) hb0)
  have HG := Aside0.mk h.2.1
  have HL := Aside0.mk (Nat.le_trans hB (Nat.le_of_lt (blk_lt h.2.1)))
  have HB := Aside0.mk hB
  have hc1 : World.cell? _ ⟨b, 1, none⟩ = some (.bool rows) := (blk_cell HS.out.1 1).trans rfl
  have qz0 : (v.f0 == 0) = true := beq_iff_eq.mpr hz0
  have qz : rows = true := hz
  have HFs := Aside0.mk hfs
  have HFv := Aside0.mk hfv
  have H0 := Aside0.mk h0
  have HR := Aside0.mk hr
  clear hb0 hB h hz0 hz hfs hfv h0 hr
  go_enter Try.func13, Try.ntmps13
  go_wp2_with fail
  refine at_world (fun w' => BA b w.heap.size #[.iface 50 (.pointer (some ⟨g, 0, none⟩)), .bool rows] 57 v w w') (by repeat (first | exact HS.out | refine BA.drewN ?_ _ | refine BA.drew ?_)) (fun w1 hI => ?_)
  have HI := Aside0.mk hI
  clear hI hc1
  have HG1 := Aside0.mk (blk_below HG.out HI.out.drew.2.2)
  have hEnd : ∀ w2, w2.heap[g]? = some (.cells (.sum r : Gst).cells (.sum r : Gst).ty (0, 0)) → Below B w1.drew w2 → KeepBut w1.drew w2 g none → AccAt w2 b g rows (.sum r) ∧ Below B w w2 ∧ KeepBut w w2 g none := fun w2 a1 a2 a3 =>
    ⟨⟨a3.blk HI.out.drew.1 hne.out (by simp), a1, hne.out⟩, (HI.out.drew.2.2.mono HL.out).trans a2, (KeepBut.of_below HI.out.drew.2.2 g none).trans a3 (.inl rfl)⟩
  refine start_ (n := 7) (S := fun w' => w'.cell? ⟨b, 0, none⟩ = some (.iface 50 (.pointer (some ⟨g, 0, none⟩))) ∧ w'.cell? ⟨w.heap.size, 0, none⟩ = some (.int .i64 v.f0) ∧ w'.cell? ⟨w.heap.size, 1, none⟩ = some (.int .i64 v.f1) ∧ w'.cell? ⟨w.heap.size, 2, none⟩ = some (.string v.f2)) (ds := [5]) #[false, false, false, false, false, false, false] (by kernel_rfl) rfl rfl ⟨(blk_cell (HI.out.drew).1 0).trans rfl, (HI.out.drew).v0, (HI.out.drew).v1, (HI.out.drew).v2⟩ (fun hHeld => ?_)
  refine pure_ (i := 0) (N := some 15) (v := ?_) (a' := ?_) #[true, false, false, false, false, false, false] rfl rfl (by kernel_rfl) (fun _ _ _ h => h) (Or.inl ⟨by rfl, ?_⟩) ?_ ?_
  rotate_left
  · intro w'
    go_simp
    with_reducible rfl
  rotate_left
  · simp only [Act.put, List.setIfInBounds_toArray, List.set_cons_zero, List.set_cons_succ, i64_w, i32_w]
    rfl
  refine pure_ (i := 1) (N := some 16) (v := ?_) (a' := ?_) #[true, true, false, false, false, false, false] rfl rfl (by kernel_rfl) (fun _ _ _ h => h) (Or.inl ⟨by rfl, ?_⟩) ?_ ?_
  rotate_left
  · intro w'
    go_simp
    with_reducible rfl
  rotate_left
  · simp only [Act.put, List.setIfInBounds_toArray, List.set_cons_zero, List.set_cons_succ, i64_w, i32_w]
    rfl
  refine pure_ (i := 2) (N := some 17) (v := ?_) (a' := ?_) #[true, true, true, false, false, false, false] rfl rfl (by kernel_rfl) (fun _ _ _ h => h) (Or.inl ⟨by rfl, ?_⟩) ?_ ?_
  rotate_left
  · intro w'
    go_simp
    with_reducible rfl
  rotate_left
  · simp only [Act.put, List.setIfInBounds_toArray, List.set_cons_zero, List.set_cons_succ, i64_w, i32_w]
    rfl
  refine take_ (i := 3) (N := some 18) (v := ?_) (a' := ?_) #[true, true, true, true, false, false, false] rfl rfl (by kernel_rfl) (fun _ _ _ h => h) (Or.inl ⟨by rfl, ?_⟩) hHeld ?_ ?_
  rotate_left
  · rintro w' ⟨s0, s1, s2, s3⟩
    go_simp
    with_reducible rfl
  rotate_left
  · simp only [Act.put, List.setIfInBounds_toArray, List.set_cons_zero, List.set_cons_succ, i64_w, i32_w]
    rfl
  refine take_ (i := 4) (N := some 19) (v := ?_) (a' := ?_) #[true, true, true, true, true, false, false] rfl rfl (by kernel_rfl) (fun _ _ _ h => h) (Or.inl ⟨by rfl, ?_⟩) hHeld ?_ ?_
  rotate_left
  · rintro w' ⟨s0, s1, s2, s3⟩
    go_simp
    with_reducible rfl
  rotate_left
  · simp only [Act.put, List.setIfInBounds_toArray, List.set_cons_zero, List.set_cons_succ, i64_w, i32_w]
    rfl
  refine last_ (i := 5) (N := some 20) #[true, true, true, true, true, true, false] rfl rfl (by kernel_rfl) (by decide) (fun K hK => ?_)
  refine goesI_ Try.func50 (by kernel_rfl) rfl #[.pointer (some ⟨g, 0, none⟩), .agg #[.int .i64 v.f0, .int .i64 v.f1, .string v.f2]] (by rfl) rfl (by go_simp) ?_
  with_reducible refine (sum_add.moreOk g s v _ HG1.out HFs.out HFv.out B HB.out H0.out r HR.out).mono ?_
  rintro e w2 ⟨rfl, hg2, hb2, hk2⟩
  refine ⟨_, rfl, ?_⟩
  have HE := Aside0.mk (hEnd w2 hg2 hb2 hk2)
  clear hg2 hb2 hk2
  refine hK.out _ _ ?_
  clear hK K
  refine norm_ (a' := ?_) ?_ ?_
  rotate_left
  · show Act.put _ (some 20) _ = _
    simp only [Act.put, List.setIfInBounds_toArray, List.set_cons_zero, List.set_cons_succ, i64_w, i32_w]
    rfl
  refine pure_ (i := 6) (N := some 4) (v := ?_) (a' := ?_) #[true, true, true, true, true, true, true] rfl rfl (by kernel_rfl) (fun _ _ _ h => h) (Or.inl ⟨by rfl, ?_⟩) ?_ ?_
  rotate_left
  · intro w'
    go_simp
    with_reducible rfl
  rotate_left
  · simp only [Act.put, List.setIfInBounds_toArray, List.set_cons_zero, List.set_cons_succ, i64_w, i32_w]
    rfl
  refine done_ (by kernel_rfl) ?_
  go_wp2_with fail
  go_ret
  exact ⟨rfl, HE.out⟩
set_option maxHeartbeats 2000000 in
set_option maxRecDepth 100000 in
theorem acc_add.sum_moreNo_v (b g : Nat) (rows : Bool) (s : S32) (c : Int) (v : S32) (w : World) (h : AccAt w b g rows (.sum s)) (B : Nat) (hB : B ≤ g) (hz : ¬ v.f0 = 0) (hfs : FitsV s) (hfv : FitsV v) (h0 : ¬ s.f0 = 0) (hr : bin 11 (s) v = .error c) :
    Calls Try.prog 13 #[.pointer (some ⟨b, 0, none⟩), .agg #[.int .i64 v.f0, .int .i64 v.f1, .string v.f2]] w fun e w' =>
      e = .returned (.int .i64 c) ∧ AccAt w' b g rows (.sum s) ∧ Below B w w' ∧ KeepBut w w' g none := by
  have hu := Try.underlying32
  have hm := m_add_sum
  have hne := Aside0.mk h.2.2
  have hb0 : w.heap[b]? = some (.cells #[.iface 50 (.pointer (some ⟨g, 0, none⟩)), .bool rows] 57 (0, 0)) := h.1
  have HS := Aside0.mk (BA.start (v := v) hb0)
  have HG := Aside0.mk h.2.1
  have HL := Aside0.mk (Nat.le_trans hB (Nat.le_of_lt (blk_lt h.2.1)))
  have HB := Aside0.mk hB
  have hc1 : World.cell? _ ⟨b, 1, none⟩ = some (.bool rows) := (blk_cell HS.out.1 1).trans rfl
  have qz : (v.f0 == 0) = false := beq_eq_false_iff_ne.mpr hz
  have HFs := Aside0.mk hfs
  have HFv := Aside0.mk hfv
  have H0 := Aside0.mk h0
  have HR := Aside0.mk hr
  clear hb0 hB h hz hfs hfv h0 hr
  go_enter Try.func13, Try.ntmps13
  go_wp2_with fail
  refine at_world (fun w' => BA b w.heap.size #[.iface 50 (.pointer (some ⟨g, 0, none⟩)), .bool rows] 57 v w w') (by repeat (first | exact HS.out | refine BA.drewN ?_ _ | refine BA.drew ?_)) (fun w1 hI => ?_)
  have HI := Aside0.mk hI
  clear hI hc1
  have HG1 := Aside0.mk (blk_below HG.out HI.out.drew.2.2)
  have hEnd : ∀ w2, w2.heap[g]? = some (.cells (.sum s : Gst).cells (.sum s : Gst).ty (0, 0)) → Below B w1.drew w2 → KeepBut w1.drew w2 g none → AccAt w2 b g rows (.sum s) ∧ Below B w w2 ∧ KeepBut w w2 g none := fun w2 a1 a2 a3 =>
    ⟨⟨a3.blk HI.out.drew.1 hne.out (by simp), a1, hne.out⟩, (HI.out.drew.2.2.mono HL.out).trans a2, (KeepBut.of_below HI.out.drew.2.2 g none).trans a3 (.inl rfl)⟩
  refine start_ (n := 7) (S := fun w' => w'.cell? ⟨b, 0, none⟩ = some (.iface 50 (.pointer (some ⟨g, 0, none⟩))) ∧ w'.cell? ⟨w.heap.size, 0, none⟩ = some (.int .i64 v.f0) ∧ w'.cell? ⟨w.heap.size, 1, none⟩ = some (.int .i64 v.f1) ∧ w'.cell? ⟨w.heap.size, 2, none⟩ = some (.string v.f2)) (ds := [5]) #[false, false, false, false, false, false, false] (by kernel_rfl) rfl rfl ⟨(blk_cell (HI.out.drew).1 0).trans rfl, (HI.out.drew).v0, (HI.out.drew).v1, (HI.out.drew).v2⟩ (fun hHeld => ?_)
  refine pure_ (i := 0) (N := some 15) (v := ?_) (a' := ?_) #[true, false, false, false, false, false, false] rfl rfl (by kernel_rfl) (fun _ _ _ h => h) (Or.inl ⟨by rfl, ?_⟩) ?_ ?_
  rotate_left
  · intro w'
    go_simp
    with_reducible rfl
  rotate_left
  · simp only [Act.put, List.setIfInBounds_toArray, List.set_cons_zero, List.set_cons_succ, i64_w, i32_w]
    rfl
  refine pure_ (i := 1) (N := some 16) (v := ?_) (a' := ?_) #[true, true, false, false, false, false, false] rfl rfl (by kernel_rfl) (fun _ _ _ h => h) (Or.inl ⟨by rfl, ?_⟩) ?_ ?_
  rotate_left
  · intro w'
    go_simp
    with_reducible rfl
  rotate_left
  · simp only [Act.put, List.setIfInBounds_toArray, List.set_cons_zero, List.set_cons_succ, i64_w, i32_w]
    rfl
  refine pure_ (i := 2) (N := some 17) (v := ?_) (a' := ?_) #[true, true, true, false, false, false, false] rfl rfl (by kernel_rfl) (fun _ _ _ h => h) (Or.inl ⟨by rfl, ?_⟩) ?_ ?_
  rotate_left
  · intro w'
    go_simp
    with_reducible rfl
  rotate_left
  · simp only [Act.put, List.setIfInBounds_toArray, List.set_cons_zero, List.set_cons_succ, i64_w, i32_w]
    rfl
  refine take_ (i := 3) (N := some 18) (v := ?_) (a' := ?_) #[true, true, true, true, false, false, false] rfl rfl (by kernel_rfl) (fun _ _ _ h => h) (Or.inl ⟨by rfl, ?_⟩) hHeld ?_ ?_
  rotate_left
  · rintro w' ⟨s0, s1, s2, s3⟩
    go_simp
    with_reducible rfl
  rotate_left
  · simp only [Act.put, List.setIfInBounds_toArray, List.set_cons_zero, List.set_cons_succ, i64_w, i32_w]
    rfl
  refine take_ (i := 4) (N := some 19) (v := ?_) (a' := ?_) #[true, true, true, true, true, false, false] rfl rfl (by kernel_rfl) (fun _ _ _ h => h) (Or.inl ⟨by rfl, ?_⟩) hHeld ?_ ?_
  rotate_left
  · rintro w' ⟨s0, s1, s2, s3⟩
    go_simp
    with_reducible rfl
  rotate_left
  · simp only [Act.put, List.setIfInBounds_toArray, List.set_cons_zero, List.set_cons_succ, i64_w, i32_w]
    rfl
  refine last_ (i := 5) (N := some 20) #[true, true, true, true, true, true, false] rfl rfl (by kernel_rfl) (by decide) (fun K hK => ?_)
  refine goesI_ Try.func50 (by kernel_rfl) rfl #[.pointer (some ⟨g, 0, none⟩), .agg #[.int .i64 v.f0, .int .i64 v.f1, .string v.f2]] (by rfl) rfl (by go_simp) ?_
  with_reducible refine (sum_add.moreNo g s v _ HG1.out HFs.out HFv.out B HB.out H0.out c HR.out).mono ?_
  rintro e w2 ⟨rfl, hg2, hb2, hk2⟩
  refine ⟨_, rfl, ?_⟩
  have HE := Aside0.mk (hEnd w2 hg2 hb2 hk2)
  clear hg2 hb2 hk2
  refine hK.out _ _ ?_
  clear hK K
  refine norm_ (a' := ?_) ?_ ?_
  rotate_left
  · show Act.put _ (some 20) _ = _
    simp only [Act.put, List.setIfInBounds_toArray, List.set_cons_zero, List.set_cons_succ, i64_w, i32_w]
    rfl
  refine pure_ (i := 6) (N := some 4) (v := ?_) (a' := ?_) #[true, true, true, true, true, true, true] rfl rfl (by kernel_rfl) (fun _ _ _ h => h) (Or.inl ⟨by rfl, ?_⟩) ?_ ?_
  rotate_left
  · intro w'
    go_simp
    with_reducible rfl
  rotate_left
  · simp only [Act.put, List.setIfInBounds_toArray, List.set_cons_zero, List.set_cons_succ, i64_w, i32_w]
    rfl
  refine done_ (by kernel_rfl) ?_
  go_wp2_with fail
  go_ret
  exact ⟨rfl, HE.out⟩
set_option maxHeartbeats 2000000 in
set_option maxRecDepth 100000 in
theorem acc_add.sum_moreNo_r (b g : Nat) (rows : Bool) (s : S32) (c : Int) (v : S32) (w : World) (h : AccAt w b g rows (.sum s)) (B : Nat) (hB : B ≤ g) (hz0 : v.f0 = 0) (hz : rows = true) (hfs : FitsV s) (hfv : FitsV v) (h0 : ¬ s.f0 = 0) (hr : bin 11 (s) v = .error c) :
    Calls Try.prog 13 #[.pointer (some ⟨b, 0, none⟩), .agg #[.int .i64 v.f0, .int .i64 v.f1, .string v.f2]] w fun e w' =>
      e = .returned (.int .i64 c) ∧ AccAt w' b g rows (.sum s) ∧ Below B w w' ∧ KeepBut w w' g none := by
  have hu := Try.underlying32
  have hm := m_add_sum
  have hne := Aside0.mk h.2.2
  have hb0 : w.heap[b]? = some (.cells #[.iface 50 (.pointer (some ⟨g, 0, none⟩)), .bool rows] 57 (0, 0)) := h.1
  have HS := Aside0.mk (BA.start (v := v) hb0)
  have HG := Aside0.mk h.2.1
  have HL := Aside0.mk (Nat.le_trans hB (Nat.le_of_lt (blk_lt h.2.1)))
  have HB := Aside0.mk hB
  have hc1 : World.cell? _ ⟨b, 1, none⟩ = some (.bool rows) := (blk_cell HS.out.1 1).trans rfl
  have qz0 : (v.f0 == 0) = true := beq_iff_eq.mpr hz0
  have qz : rows = true := hz
  have HFs := Aside0.mk hfs
  have HFv := Aside0.mk hfv
  have H0 := Aside0.mk h0
  have HR := Aside0.mk hr
  clear hb0 hB h hz0 hz hfs hfv h0 hr
  go_enter Try.func13, Try.ntmps13
  go_wp2_with fail
  refine at_world (fun w' => BA b w.heap.size #[.iface 50 (.pointer (some ⟨g, 0, none⟩)), .bool rows] 57 v w w') (by repeat (first | exact HS.out | refine BA.drewN ?_ _ | refine BA.drew ?_)) (fun w1 hI => ?_)
  have HI := Aside0.mk hI
  clear hI hc1
  have HG1 := Aside0.mk (blk_below HG.out HI.out.drew.2.2)
  have hEnd : ∀ w2, w2.heap[g]? = some (.cells (.sum s : Gst).cells (.sum s : Gst).ty (0, 0)) → Below B w1.drew w2 → KeepBut w1.drew w2 g none → AccAt w2 b g rows (.sum s) ∧ Below B w w2 ∧ KeepBut w w2 g none := fun w2 a1 a2 a3 =>
    ⟨⟨a3.blk HI.out.drew.1 hne.out (by simp), a1, hne.out⟩, (HI.out.drew.2.2.mono HL.out).trans a2, (KeepBut.of_below HI.out.drew.2.2 g none).trans a3 (.inl rfl)⟩
  refine start_ (n := 7) (S := fun w' => w'.cell? ⟨b, 0, none⟩ = some (.iface 50 (.pointer (some ⟨g, 0, none⟩))) ∧ w'.cell? ⟨w.heap.size, 0, none⟩ = some (.int .i64 v.f0) ∧ w'.cell? ⟨w.heap.size, 1, none⟩ = some (.int .i64 v.f1) ∧ w'.cell? ⟨w.heap.size, 2, none⟩ = some (.string v.f2)) (ds := [5]) #[false, false, false, false, false, false, false] (by kernel_rfl) rfl rfl ⟨(blk_cell (HI.out.drew).1 0).trans rfl, (HI.out.drew).v0, (HI.out.drew).v1, (HI.out.drew).v2⟩ (fun hHeld => ?_)
  refine pure_ (i := 0) (N := some 15) (v := ?_) (a' := ?_) #[true, false, false, false, false, false, false] rfl rfl (by kernel_rfl) (fun _ _ _ h => h) (Or.inl ⟨by rfl, ?_⟩) ?_ ?_
  rotate_left
  · intro w'
    go_simp
    with_reducible rfl
  rotate_left
  · simp only [Act.put, List.setIfInBounds_toArray, List.set_cons_zero, List.set_cons_succ, i64_w, i32_w]
    rfl
  refine pure_ (i := 1) (N := some 16) (v := ?_) (a' := ?_) #[true, true, false, false, false, false, false] rfl rfl (by kernel_rfl) (fun _ _ _ h => h) (Or.inl ⟨by rfl, ?_⟩) ?_ ?_
  rotate_left
  · intro w'
    go_simp
    with_reducible rfl
  rotate_left
  · simp only [Act.put, List.setIfInBounds_toArray, List.set_cons_zero, List.set_cons_succ, i64_w, i32_w]
    rfl
  refine pure_ (i := 2) (N := some 17) (v := ?_) (a' := ?_) #[true, true, true, false, false, false, false] rfl rfl (by kernel_rfl) (fun _ _ _ h => h) (Or.inl ⟨by rfl, ?_⟩) ?_ ?_
  rotate_left
  · intro w'
    go_simp
    with_reducible rfl
  rotate_left
  · simp only [Act.put, List.setIfInBounds_toArray, List.set_cons_zero, List.set_cons_succ, i64_w, i32_w]
    rfl
  refine take_ (i := 3) (N := some 18) (v := ?_) (a' := ?_) #[true, true, true, true, false, false, false] rfl rfl (by kernel_rfl) (fun _ _ _ h => h) (Or.inl ⟨by rfl, ?_⟩) hHeld ?_ ?_
  rotate_left
  · rintro w' ⟨s0, s1, s2, s3⟩
    go_simp
    with_reducible rfl
  rotate_left
  · simp only [Act.put, List.setIfInBounds_toArray, List.set_cons_zero, List.set_cons_succ, i64_w, i32_w]
    rfl
  refine take_ (i := 4) (N := some 19) (v := ?_) (a' := ?_) #[true, true, true, true, true, false, false] rfl rfl (by kernel_rfl) (fun _ _ _ h => h) (Or.inl ⟨by rfl, ?_⟩) hHeld ?_ ?_
  rotate_left
  · rintro w' ⟨s0, s1, s2, s3⟩
    go_simp
    with_reducible rfl
  rotate_left
  · simp only [Act.put, List.setIfInBounds_toArray, List.set_cons_zero, List.set_cons_succ, i64_w, i32_w]
    rfl
  refine last_ (i := 5) (N := some 20) #[true, true, true, true, true, true, false] rfl rfl (by kernel_rfl) (by decide) (fun K hK => ?_)
  refine goesI_ Try.func50 (by kernel_rfl) rfl #[.pointer (some ⟨g, 0, none⟩), .agg #[.int .i64 v.f0, .int .i64 v.f1, .string v.f2]] (by rfl) rfl (by go_simp) ?_
  with_reducible refine (sum_add.moreNo g s v _ HG1.out HFs.out HFv.out B HB.out H0.out c HR.out).mono ?_
  rintro e w2 ⟨rfl, hg2, hb2, hk2⟩
  refine ⟨_, rfl, ?_⟩
  have HE := Aside0.mk (hEnd w2 hg2 hb2 hk2)
  clear hg2 hb2 hk2
  refine hK.out _ _ ?_
  clear hK K
  refine norm_ (a' := ?_) ?_ ?_
  rotate_left
  · show Act.put _ (some 20) _ = _
    simp only [Act.put, List.setIfInBounds_toArray, List.set_cons_zero, List.set_cons_succ, i64_w, i32_w]
    rfl
  refine pure_ (i := 6) (N := some 4) (v := ?_) (a' := ?_) #[true, true, true, true, true, true, true] rfl rfl (by kernel_rfl) (fun _ _ _ h => h) (Or.inl ⟨by rfl, ?_⟩) ?_ ?_
  rotate_left
  · intro w'
    go_simp
    with_reducible rfl
  rotate_left
  · simp only [Act.put, List.setIfInBounds_toArray, List.set_cons_zero, List.set_cons_succ, i64_w, i32_w]
    rfl
  refine done_ (by kernel_rfl) ?_
  go_wp2_with fail
  go_ret
  exact ⟨rfl, HE.out⟩
set_option maxHeartbeats 2000000 in
set_option maxRecDepth 100000 in
theorem acc_add.sum_nullOk_v (b g : Nat) (rows : Bool) (s : S32) (r : S32) (v : S32) (w : World) (h : AccAt w b g rows (.sum s)) (B : Nat) (hB : B ≤ g) (hz : ¬ v.f0 = 0) (hfs : FitsV s) (hfv : FitsV v) (h0 : s.f0 = 0) (hr : bin 11 (numV 0) v = .ok r) :
    Calls Try.prog 13 #[.pointer (some ⟨b, 0, none⟩), .agg #[.int .i64 v.f0, .int .i64 v.f1, .string v.f2]] w fun e w' =>
      e = .returned (.int .i64 0) ∧ AccAt w' b g rows (.sum r) ∧ Below B w w' ∧ KeepBut w w' g none := by
  have hu := Try.underlying32
  have hm := m_add_sum
  have hne := Aside0.mk h.2.2
  have hb0 : w.heap[b]? = some (.cells #[.iface 50 (.pointer (some ⟨g, 0, none⟩)), .bool rows] 57 (0, 0)) := h.1
  have HS := Aside0.mk (BA.start (v := v) hb0)
  have HG := Aside0.mk h.2.1
  have HL := Aside0.mk (Nat.le_trans hB (Nat.le_of_lt (blk_lt h.2.1)))
  have HB := Aside0.mk hB
  have hc1 : World.cell? _ ⟨b, 1, none⟩ = some (.bool rows) := (blk_cell HS.out.1 1).trans rfl
  have qz : (v.f0 == 0) = false := beq_eq_false_iff_ne.mpr hz
  have HFs := Aside0.mk hfs
  have HFv := Aside0.mk hfv
  have H0 := Aside0.mk h0
  have HR := Aside0.mk hr
  clear hb0 hB h hz hfs hfv h0 hr
  go_enter Try.func13, Try.ntmps13
  go_wp2_with fail
  refine at_world (fun w' => BA b w.heap.size #[.iface 50 (.pointer (some ⟨g, 0, none⟩)), .bool rows] 57 v w w') (by repeat (first | exact HS.out | refine BA.drewN ?_ _ | refine BA.drew ?_)) (fun w1 hI => ?_)
  have HI := Aside0.mk hI
  clear hI hc1
  have HG1 := Aside0.mk (blk_below HG.out HI.out.drew.2.2)
  have hEnd : ∀ w2, w2.heap[g]? = some (.cells (.sum r : Gst).cells (.sum r : Gst).ty (0, 0)) → Below B w1.drew w2 → KeepBut w1.drew w2 g none → AccAt w2 b g rows (.sum r) ∧ Below B w w2 ∧ KeepBut w w2 g none := fun w2 a1 a2 a3 =>
    ⟨⟨a3.blk HI.out.drew.1 hne.out (by simp), a1, hne.out⟩, (HI.out.drew.2.2.mono HL.out).trans a2, (KeepBut.of_below HI.out.drew.2.2 g none).trans a3 (.inl rfl)⟩
  refine start_ (n := 7) (S := fun w' => w'.cell? ⟨b, 0, none⟩ = some (.iface 50 (.pointer (some ⟨g, 0, none⟩))) ∧ w'.cell? ⟨w.heap.size, 0, none⟩ = some (.int .i64 v.f0) ∧ w'.cell? ⟨w.heap.size, 1, none⟩ = some (.int .i64 v.f1) ∧ w'.cell? ⟨w.heap.size, 2, none⟩ = some (.string v.f2)) (ds := [5]) #[false, false, false, false, false, false, false] (by kernel_rfl) rfl rfl ⟨(blk_cell (HI.out.drew).1 0).trans rfl, (HI.out.drew).v0, (HI.out.drew).v1, (HI.out.drew).v2⟩ (fun hHeld => ?_)
  refine pure_ (i := 0) (N := some 15) (v := ?_) (a' := ?_) #[true, false, false, false, false, false, false] rfl rfl (by kernel_rfl) (fun _ _ _ h => h) (Or.inl ⟨by rfl, ?_⟩) ?_ ?_
  rotate_left
  · intro w'
    go_simp
    with_reducible rfl
  rotate_left
  · simp only [Act.put, List.setIfInBounds_toArray, List.set_cons_zero, List.set_cons_succ, i64_w, i32_w]
    rfl
  refine pure_ (i := 1) (N := some 16) (v := ?_) (a' := ?_) #[true, true, false, false, false, false, false] rfl rfl (by kernel_rfl) (fun _ _ _ h => h) (Or.inl ⟨by rfl, ?_⟩) ?_ ?_
  rotate_left
  · intro w'
    go_simp
    with_reducible rfl
  rotate_left
  · simp only [Act.put, List.setIfInBounds_toArray, List.set_cons_zero, List.set_cons_succ, i64_w, i32_w]
    rfl
  refine pure_ (i := 2) (N := some 17) (v := ?_) (a' := ?_) #[true, true, true, false, false, false, false] rfl rfl (by kernel_rfl) (fun _ _ _ h => h) (Or.inl ⟨by rfl, ?_⟩) ?_ ?_
  rotate_left
  · intro w'
    go_simp
    with_reducible rfl
  rotate_left
  · simp only [Act.put, List.setIfInBounds_toArray, List.set_cons_zero, List.set_cons_succ, i64_w, i32_w]
    rfl
  refine take_ (i := 3) (N := some 18) (v := ?_) (a' := ?_) #[true, true, true, true, false, false, false] rfl rfl (by kernel_rfl) (fun _ _ _ h => h) (Or.inl ⟨by rfl, ?_⟩) hHeld ?_ ?_
  rotate_left
  · rintro w' ⟨s0, s1, s2, s3⟩
    go_simp
    with_reducible rfl
  rotate_left
  · simp only [Act.put, List.setIfInBounds_toArray, List.set_cons_zero, List.set_cons_succ, i64_w, i32_w]
    rfl
  refine take_ (i := 4) (N := some 19) (v := ?_) (a' := ?_) #[true, true, true, true, true, false, false] rfl rfl (by kernel_rfl) (fun _ _ _ h => h) (Or.inl ⟨by rfl, ?_⟩) hHeld ?_ ?_
  rotate_left
  · rintro w' ⟨s0, s1, s2, s3⟩
    go_simp
    with_reducible rfl
  rotate_left
  · simp only [Act.put, List.setIfInBounds_toArray, List.set_cons_zero, List.set_cons_succ, i64_w, i32_w]
    rfl
  refine last_ (i := 5) (N := some 20) #[true, true, true, true, true, true, false] rfl rfl (by kernel_rfl) (by decide) (fun K hK => ?_)
  refine goesI_ Try.func50 (by kernel_rfl) rfl #[.pointer (some ⟨g, 0, none⟩), .agg #[.int .i64 v.f0, .int .i64 v.f1, .string v.f2]] (by rfl) rfl (by go_simp) ?_
  with_reducible refine (sum_add.nullOk g s v _ HG1.out HFs.out HFv.out B HB.out H0.out r HR.out).mono ?_
  rintro e w2 ⟨rfl, hg2, hb2, hk2⟩
  refine ⟨_, rfl, ?_⟩
  have HE := Aside0.mk (hEnd w2 hg2 hb2 hk2)
  clear hg2 hb2 hk2
  refine hK.out _ _ ?_
  clear hK K
  refine norm_ (a' := ?_) ?_ ?_
  rotate_left
  · show Act.put _ (some 20) _ = _
    simp only [Act.put, List.setIfInBounds_toArray, List.set_cons_zero, List.set_cons_succ, i64_w, i32_w]
    rfl
  refine pure_ (i := 6) (N := some 4) (v := ?_) (a' := ?_) #[true, true, true, true, true, true, true] rfl rfl (by kernel_rfl) (fun _ _ _ h => h) (Or.inl ⟨by rfl, ?_⟩) ?_ ?_
  rotate_left
  · intro w'
    go_simp
    with_reducible rfl
  rotate_left
  · simp only [Act.put, List.setIfInBounds_toArray, List.set_cons_zero, List.set_cons_succ, i64_w, i32_w]
    rfl
  refine done_ (by kernel_rfl) ?_
  go_wp2_with fail
  go_ret
  exact ⟨rfl, HE.out⟩
set_option maxHeartbeats 2000000 in
set_option maxRecDepth 100000 in
theorem acc_add.sum_nullOk_r (b g : Nat) (rows : Bool) (s : S32) (r : S32) (v : S32) (w : World) (h : AccAt w b g rows (.sum s)) (B : Nat) (hB : B ≤ g) (hz0 : v.f0 = 0) (hz : rows = true) (hfs : FitsV s) (hfv : FitsV v) (h0 : s.f0 = 0) (hr : bin 11 (numV 0) v = .ok r) :
    Calls Try.prog 13 #[.pointer (some ⟨b, 0, none⟩), .agg #[.int .i64 v.f0, .int .i64 v.f1, .string v.f2]] w fun e w' =>
      e = .returned (.int .i64 0) ∧ AccAt w' b g rows (.sum r) ∧ Below B w w' ∧ KeepBut w w' g none := by
  have hu := Try.underlying32
  have hm := m_add_sum
  have hne := Aside0.mk h.2.2
  have hb0 : w.heap[b]? = some (.cells #[.iface 50 (.pointer (some ⟨g, 0, none⟩)), .bool rows] 57 (0, 0)) := h.1
  have HS := Aside0.mk (BA.start (v := v) hb0)
  have HG := Aside0.mk h.2.1
  have HL := Aside0.mk (Nat.le_trans hB (Nat.le_of_lt (blk_lt h.2.1)))
  have HB := Aside0.mk hB
  have hc1 : World.cell? _ ⟨b, 1, none⟩ = some (.bool rows) := (blk_cell HS.out.1 1).trans rfl
  have qz0 : (v.f0 == 0) = true := beq_iff_eq.mpr hz0
  have qz : rows = true := hz
  have HFs := Aside0.mk hfs
  have HFv := Aside0.mk hfv
  have H0 := Aside0.mk h0
  have HR := Aside0.mk hr
  clear hb0 hB h hz0 hz hfs hfv h0 hr
  go_enter Try.func13, Try.ntmps13
  go_wp2_with fail
  refine at_world (fun w' => BA b w.heap.size #[.iface 50 (.pointer (some ⟨g, 0, none⟩)), .bool rows] 57 v w w') (by repeat (first | exact HS.out | refine BA.drewN ?_ _ | refine BA.drew ?_)) (fun w1 hI => ?_)
  have HI := Aside0.mk hI
  clear hI hc1
  have HG1 := Aside0.mk (blk_below HG.out HI.out.drew.2.2)
  have hEnd : ∀ w2, w2.heap[g]? = some (.cells (.sum r : Gst).cells (.sum r : Gst).ty (0, 0)) → Below B w1.drew w2 → KeepBut w1.drew w2 g none → AccAt w2 b g rows (.sum r) ∧ Below B w w2 ∧ KeepBut w w2 g none := fun w2 a1 a2 a3 =>
    ⟨⟨a3.blk HI.out.drew.1 hne.out (by simp), a1, hne.out⟩, (HI.out.drew.2.2.mono HL.out).trans a2, (KeepBut.of_below HI.out.drew.2.2 g none).trans a3 (.inl rfl)⟩
  refine start_ (n := 7) (S := fun w' => w'.cell? ⟨b, 0, none⟩ = some (.iface 50 (.pointer (some ⟨g, 0, none⟩))) ∧ w'.cell? ⟨w.heap.size, 0, none⟩ = some (.int .i64 v.f0) ∧ w'.cell? ⟨w.heap.size, 1, none⟩ = some (.int .i64 v.f1) ∧ w'.cell? ⟨w.heap.size, 2, none⟩ = some (.string v.f2)) (ds := [5]) #[false, false, false, false, false, false, false] (by kernel_rfl) rfl rfl ⟨(blk_cell (HI.out.drew).1 0).trans rfl, (HI.out.drew).v0, (HI.out.drew).v1, (HI.out.drew).v2⟩ (fun hHeld => ?_)
  refine pure_ (i := 0) (N := some 15) (v := ?_) (a' := ?_) #[true, false, false, false, false, false, false] rfl rfl (by kernel_rfl) (fun _ _ _ h => h) (Or.inl ⟨by rfl, ?_⟩) ?_ ?_
  rotate_left
  · intro w'
    go_simp
    with_reducible rfl
  rotate_left
  · simp only [Act.put, List.setIfInBounds_toArray, List.set_cons_zero, List.set_cons_succ, i64_w, i32_w]
    rfl
  refine pure_ (i := 1) (N := some 16) (v := ?_) (a' := ?_) #[true, true, false, false, false, false, false] rfl rfl (by kernel_rfl) (fun _ _ _ h => h) (Or.inl ⟨by rfl, ?_⟩) ?_ ?_
  rotate_left
  · intro w'
    go_simp
    with_reducible rfl
  rotate_left
  · simp only [Act.put, List.setIfInBounds_toArray, List.set_cons_zero, List.set_cons_succ, i64_w, i32_w]
    rfl
  refine pure_ (i := 2) (N := some 17) (v := ?_) (a' := ?_) #[true, true, true, false, false, false, false] rfl rfl (by kernel_rfl) (fun _ _ _ h => h) (Or.inl ⟨by rfl, ?_⟩) ?_ ?_
  rotate_left
  · intro w'
    go_simp
    with_reducible rfl
  rotate_left
  · simp only [Act.put, List.setIfInBounds_toArray, List.set_cons_zero, List.set_cons_succ, i64_w, i32_w]
    rfl
  refine take_ (i := 3) (N := some 18) (v := ?_) (a' := ?_) #[true, true, true, true, false, false, false] rfl rfl (by kernel_rfl) (fun _ _ _ h => h) (Or.inl ⟨by rfl, ?_⟩) hHeld ?_ ?_
  rotate_left
  · rintro w' ⟨s0, s1, s2, s3⟩
    go_simp
    with_reducible rfl
  rotate_left
  · simp only [Act.put, List.setIfInBounds_toArray, List.set_cons_zero, List.set_cons_succ, i64_w, i32_w]
    rfl
  refine take_ (i := 4) (N := some 19) (v := ?_) (a' := ?_) #[true, true, true, true, true, false, false] rfl rfl (by kernel_rfl) (fun _ _ _ h => h) (Or.inl ⟨by rfl, ?_⟩) hHeld ?_ ?_
  rotate_left
  · rintro w' ⟨s0, s1, s2, s3⟩
    go_simp
    with_reducible rfl
  rotate_left
  · simp only [Act.put, List.setIfInBounds_toArray, List.set_cons_zero, List.set_cons_succ, i64_w, i32_w]
    rfl
  refine last_ (i := 5) (N := some 20) #[true, true, true, true, true, true, false] rfl rfl (by kernel_rfl) (by decide) (fun K hK => ?_)
  refine goesI_ Try.func50 (by kernel_rfl) rfl #[.pointer (some ⟨g, 0, none⟩), .agg #[.int .i64 v.f0, .int .i64 v.f1, .string v.f2]] (by rfl) rfl (by go_simp) ?_
  with_reducible refine (sum_add.nullOk g s v _ HG1.out HFs.out HFv.out B HB.out H0.out r HR.out).mono ?_
  rintro e w2 ⟨rfl, hg2, hb2, hk2⟩
  refine ⟨_, rfl, ?_⟩
  have HE := Aside0.mk (hEnd w2 hg2 hb2 hk2)
  clear hg2 hb2 hk2
  refine hK.out _ _ ?_
  clear hK K
  refine norm_ (a' := ?_) ?_ ?_
  rotate_left
  · show Act.put _ (some 20) _ = _
    simp only [Act.put, List.setIfInBounds_toArray, List.set_cons_zero, List.set_cons_succ, i64_w, i32_w]
    rfl
  refine pure_ (i := 6) (N := some 4) (v := ?_) (a' := ?_) #[true, true, true, true, true, true, true] rfl rfl (by kernel_rfl) (fun _ _ _ h => h) (Or.inl ⟨by rfl, ?_⟩) ?_ ?_
  rotate_left
  · intro w'
    go_simp
    with_reducible rfl
  rotate_left
  · simp only [Act.put, List.setIfInBounds_toArray, List.set_cons_zero, List.set_cons_succ, i64_w, i32_w]
    rfl
  refine done_ (by kernel_rfl) ?_
  go_wp2_with fail
  go_ret
  exact ⟨rfl, HE.out⟩
set_option maxHeartbeats 2000000 in
set_option maxRecDepth 100000 in
theorem acc_add.sum_nullNo_v (b g : Nat) (rows : Bool) (s : S32) (c : Int) (v : S32) (w : World) (h : AccAt w b g rows (.sum s)) (B : Nat) (hB : B ≤ g) (hz : ¬ v.f0 = 0) (hfs : FitsV s) (hfv : FitsV v) (h0 : s.f0 = 0) (hr : bin 11 (numV 0) v = .error c) :
    Calls Try.prog 13 #[.pointer (some ⟨b, 0, none⟩), .agg #[.int .i64 v.f0, .int .i64 v.f1, .string v.f2]] w fun e w' =>
      e = .returned (.int .i64 c) ∧ AccAt w' b g rows (.sum s) ∧ Below B w w' ∧ KeepBut w w' g none := by
  have hu := Try.underlying32
  have hm := m_add_sum
  have hne := Aside0.mk h.2.2
  have hb0 : w.heap[b]? = some (.cells #[.iface 50 (.pointer (some ⟨g, 0, none⟩)), .bool rows] 57 (0, 0)) := h.1
  have HS := Aside0.mk (BA.start (v := v) hb0)
  have HG := Aside0.mk h.2.1
  have HL := Aside0.mk (Nat.le_trans hB (Nat.le_of_lt (blk_lt h.2.1)))
  have HB := Aside0.mk hB
  have hc1 : World.cell? _ ⟨b, 1, none⟩ = some (.bool rows) := (blk_cell HS.out.1 1).trans rfl
  have qz : (v.f0 == 0) = false := beq_eq_false_iff_ne.mpr hz
  have HFs := Aside0.mk hfs
  have HFv := Aside0.mk hfv
  have H0 := Aside0.mk h0
  have HR := Aside0.mk hr
  clear hb0 hB h hz hfs hfv h0 hr
  go_enter Try.func13, Try.ntmps13
  go_wp2_with fail
  refine at_world (fun w' => BA b w.heap.size #[.iface 50 (.pointer (some ⟨g, 0, none⟩)), .bool rows] 57 v w w') (by repeat (first | exact HS.out | refine BA.drewN ?_ _ | refine BA.drew ?_)) (fun w1 hI => ?_)
  have HI := Aside0.mk hI
  clear hI hc1
  have HG1 := Aside0.mk (blk_below HG.out HI.out.drew.2.2)
  have hEnd : ∀ w2, w2.heap[g]? = some (.cells (.sum s : Gst).cells (.sum s : Gst).ty (0, 0)) → Below B w1.drew w2 → KeepBut w1.drew w2 g none → AccAt w2 b g rows (.sum s) ∧ Below B w w2 ∧ KeepBut w w2 g none := fun w2 a1 a2 a3 =>
    ⟨⟨a3.blk HI.out.drew.1 hne.out (by simp), a1, hne.out⟩, (HI.out.drew.2.2.mono HL.out).trans a2, (KeepBut.of_below HI.out.drew.2.2 g none).trans a3 (.inl rfl)⟩
  refine start_ (n := 7) (S := fun w' => w'.cell? ⟨b, 0, none⟩ = some (.iface 50 (.pointer (some ⟨g, 0, none⟩))) ∧ w'.cell? ⟨w.heap.size, 0, none⟩ = some (.int .i64 v.f0) ∧ w'.cell? ⟨w.heap.size, 1, none⟩ = some (.int .i64 v.f1) ∧ w'.cell? ⟨w.heap.size, 2, none⟩ = some (.string v.f2)) (ds := [5]) #[false, false, false, false, false, false, false] (by kernel_rfl) rfl rfl ⟨(blk_cell (HI.out.drew).1 0).trans rfl, (HI.out.drew).v0, (HI.out.drew).v1, (HI.out.drew).v2⟩ (fun hHeld => ?_)
  refine pure_ (i := 0) (N := some 15) (v := ?_) (a' := ?_) #[true, false, false, false, false, false, false] rfl rfl (by kernel_rfl) (fun _ _ _ h => h) (Or.inl ⟨by rfl, ?_⟩) ?_ ?_
  rotate_left
  · intro w'
    go_simp
    with_reducible rfl
  rotate_left
  · simp only [Act.put, List.setIfInBounds_toArray, List.set_cons_zero, List.set_cons_succ, i64_w, i32_w]
    rfl
  refine pure_ (i := 1) (N := some 16) (v := ?_) (a' := ?_) #[true, true, false, false, false, false, false] rfl rfl (by kernel_rfl) (fun _ _ _ h => h) (Or.inl ⟨by rfl, ?_⟩) ?_ ?_
  rotate_left
  · intro w'
    go_simp
    with_reducible rfl
  rotate_left
  · simp only [Act.put, List.setIfInBounds_toArray, List.set_cons_zero, List.set_cons_succ, i64_w, i32_w]
    rfl
  refine pure_ (i := 2) (N := some 17) (v := ?_) (a' := ?_) #[true, true, true, false, false, false, false] rfl rfl (by kernel_rfl) (fun _ _ _ h => h) (Or.inl ⟨by rfl, ?_⟩) ?_ ?_
  rotate_left
  · intro w'
    go_simp
    with_reducible rfl
  rotate_left
  · simp only [Act.put, List.setIfInBounds_toArray, List.set_cons_zero, List.set_cons_succ, i64_w, i32_w]
    rfl
  refine take_ (i := 3) (N := some 18) (v := ?_) (a' := ?_) #[true, true, true, true, false, false, false] rfl rfl (by kernel_rfl) (fun _ _ _ h => h) (Or.inl ⟨by rfl, ?_⟩) hHeld ?_ ?_
  rotate_left
  · rintro w' ⟨s0, s1, s2, s3⟩
    go_simp
    with_reducible rfl
  rotate_left
  · simp only [Act.put, List.setIfInBounds_toArray, List.set_cons_zero, List.set_cons_succ, i64_w, i32_w]
    rfl
  refine take_ (i := 4) (N := some 19) (v := ?_) (a' := ?_) #[true, true, true, true, true, false, false] rfl rfl (by kernel_rfl) (fun _ _ _ h => h) (Or.inl ⟨by rfl, ?_⟩) hHeld ?_ ?_
  rotate_left
  · rintro w' ⟨s0, s1, s2, s3⟩
    go_simp
    with_reducible rfl
  rotate_left
  · simp only [Act.put, List.setIfInBounds_toArray, List.set_cons_zero, List.set_cons_succ, i64_w, i32_w]
    rfl
  refine last_ (i := 5) (N := some 20) #[true, true, true, true, true, true, false] rfl rfl (by kernel_rfl) (by decide) (fun K hK => ?_)
  refine goesI_ Try.func50 (by kernel_rfl) rfl #[.pointer (some ⟨g, 0, none⟩), .agg #[.int .i64 v.f0, .int .i64 v.f1, .string v.f2]] (by rfl) rfl (by go_simp) ?_
  with_reducible refine (sum_add.nullNo g s v _ HG1.out HFs.out HFv.out B HB.out H0.out c HR.out).mono ?_
  rintro e w2 ⟨rfl, hg2, hb2, hk2⟩
  refine ⟨_, rfl, ?_⟩
  have HE := Aside0.mk (hEnd w2 hg2 hb2 hk2)
  clear hg2 hb2 hk2
  refine hK.out _ _ ?_
  clear hK K
  refine norm_ (a' := ?_) ?_ ?_
  rotate_left
  · show Act.put _ (some 20) _ = _
    simp only [Act.put, List.setIfInBounds_toArray, List.set_cons_zero, List.set_cons_succ, i64_w, i32_w]
    rfl
  refine pure_ (i := 6) (N := some 4) (v := ?_) (a' := ?_) #[true, true, true, true, true, true, true] rfl rfl (by kernel_rfl) (fun _ _ _ h => h) (Or.inl ⟨by rfl, ?_⟩) ?_ ?_
  rotate_left
  · intro w'
    go_simp
    with_reducible rfl
  rotate_left
  · simp only [Act.put, List.setIfInBounds_toArray, List.set_cons_zero, List.set_cons_succ, i64_w, i32_w]
    rfl
  refine done_ (by kernel_rfl) ?_
  go_wp2_with fail
  go_ret
  exact ⟨rfl, HE.out⟩
set_option maxHeartbeats 2000000 in
set_option maxRecDepth 100000 in
theorem acc_add.sum_nullNo_r (b g : Nat) (rows : Bool) (s : S32) (c : Int) (v : S32) (w : World) (h : AccAt w b g rows (.sum s)) (B : Nat) (hB : B ≤ g) (hz0 : v.f0 = 0) (hz : rows = true) (hfs : FitsV s) (hfv : FitsV v) (h0 : s.f0 = 0) (hr : bin 11 (numV 0) v = .error c) :
    Calls Try.prog 13 #[.pointer (some ⟨b, 0, none⟩), .agg #[.int .i64 v.f0, .int .i64 v.f1, .string v.f2]] w fun e w' =>
      e = .returned (.int .i64 c) ∧ AccAt w' b g rows (.sum s) ∧ Below B w w' ∧ KeepBut w w' g none := by
  have hu := Try.underlying32
  have hm := m_add_sum
  have hne := Aside0.mk h.2.2
  have hb0 : w.heap[b]? = some (.cells #[.iface 50 (.pointer (some ⟨g, 0, none⟩)), .bool rows] 57 (0, 0)) := h.1
  have HS := Aside0.mk (BA.start (v := v) hb0)
  have HG := Aside0.mk h.2.1
  have HL := Aside0.mk (Nat.le_trans hB (Nat.le_of_lt (blk_lt h.2.1)))
  have HB := Aside0.mk hB
  have hc1 : World.cell? _ ⟨b, 1, none⟩ = some (.bool rows) := (blk_cell HS.out.1 1).trans rfl
  have qz0 : (v.f0 == 0) = true := beq_iff_eq.mpr hz0
  have qz : rows = true := hz
  have HFs := Aside0.mk hfs
  have HFv := Aside0.mk hfv
  have H0 := Aside0.mk h0
  have HR := Aside0.mk hr
  clear hb0 hB h hz0 hz hfs hfv h0 hr
  go_enter Try.func13, Try.ntmps13
  go_wp2_with fail
  refine at_world (fun w' => BA b w.heap.size #[.iface 50 (.pointer (some ⟨g, 0, none⟩)), .bool rows] 57 v w w') (by repeat (first | exact HS.out | refine BA.drewN ?_ _ | refine BA.drew ?_)) (fun w1 hI => ?_)
  have HI := Aside0.mk hI
  clear hI hc1
  have HG1 := Aside0.mk (blk_below HG.out HI.out.drew.2.2)
  have hEnd : ∀ w2, w2.heap[g]? = some (.cells (.sum s : Gst).cells (.sum s : Gst).ty (0, 0)) → Below B w1.drew w2 → KeepBut w1.drew w2 g none → AccAt w2 b g rows (.sum s) ∧ Below B w w2 ∧ KeepBut w w2 g none := fun w2 a1 a2 a3 =>
    ⟨⟨a3.blk HI.out.drew.1 hne.out (by simp), a1, hne.out⟩, (HI.out.drew.2.2.mono HL.out).trans a2, (KeepBut.of_below HI.out.drew.2.2 g none).trans a3 (.inl rfl)⟩
  refine start_ (n := 7) (S := fun w' => w'.cell? ⟨b, 0, none⟩ = some (.iface 50 (.pointer (some ⟨g, 0, none⟩))) ∧ w'.cell? ⟨w.heap.size, 0, none⟩ = some (.int .i64 v.f0) ∧ w'.cell? ⟨w.heap.size, 1, none⟩ = some (.int .i64 v.f1) ∧ w'.cell? ⟨w.heap.size, 2, none⟩ = some (.string v.f2)) (ds := [5]) #[false, false, false, false, false, false, false] (by kernel_rfl) rfl rfl ⟨(blk_cell (HI.out.drew).1 0).trans rfl, (HI.out.drew).v0, (HI.out.drew).v1, (HI.out.drew).v2⟩ (fun hHeld => ?_)
  refine pure_ (i := 0) (N := some 15) (v := ?_) (a' := ?_) #[true, false, false, false, false, false, false] rfl rfl (by kernel_rfl) (fun _ _ _ h => h) (Or.inl ⟨by rfl, ?_⟩) ?_ ?_
  rotate_left
  · intro w'
    go_simp
    with_reducible rfl
  rotate_left
  · simp only [Act.put, List.setIfInBounds_toArray, List.set_cons_zero, List.set_cons_succ, i64_w, i32_w]
    rfl
  refine pure_ (i := 1) (N := some 16) (v := ?_) (a' := ?_) #[true, true, false, false, false, false, false] rfl rfl (by kernel_rfl) (fun _ _ _ h => h) (Or.inl ⟨by rfl, ?_⟩) ?_ ?_
  rotate_left
  · intro w'
    go_simp
    with_reducible rfl
  rotate_left
  · simp only [Act.put, List.setIfInBounds_toArray, List.set_cons_zero, List.set_cons_succ, i64_w, i32_w]
    rfl
  refine pure_ (i := 2) (N := some 17) (v := ?_) (a' := ?_) #[true, true, true, false, false, false, false] rfl rfl (by kernel_rfl) (fun _ _ _ h => h) (Or.inl ⟨by rfl, ?_⟩) ?_ ?_
  rotate_left
  · intro w'
    go_simp
    with_reducible rfl
  rotate_left
  · simp only [Act.put, List.setIfInBounds_toArray, List.set_cons_zero, List.set_cons_succ, i64_w, i32_w]
    rfl
  refine take_ (i := 3) (N := some 18) (v := ?_) (a' := ?_) #[true, true, true, true, false, false, false] rfl rfl (by kernel_rfl) (fun _ _ _ h => h) (Or.inl ⟨by rfl, ?_⟩) hHeld ?_ ?_
  rotate_left
  · rintro w' ⟨s0, s1, s2, s3⟩
    go_simp
    with_reducible rfl
  rotate_left
  · simp only [Act.put, List.setIfInBounds_toArray, List.set_cons_zero, List.set_cons_succ, i64_w, i32_w]
    rfl
  refine take_ (i := 4) (N := some 19) (v := ?_) (a' := ?_) #[true, true, true, true, true, false, false] rfl rfl (by kernel_rfl) (fun _ _ _ h => h) (Or.inl ⟨by rfl, ?_⟩) hHeld ?_ ?_
  rotate_left
  · rintro w' ⟨s0, s1, s2, s3⟩
    go_simp
    with_reducible rfl
  rotate_left
  · simp only [Act.put, List.setIfInBounds_toArray, List.set_cons_zero, List.set_cons_succ, i64_w, i32_w]
    rfl
  refine last_ (i := 5) (N := some 20) #[true, true, true, true, true, true, false] rfl rfl (by kernel_rfl) (by decide) (fun K hK => ?_)
  refine goesI_ Try.func50 (by kernel_rfl) rfl #[.pointer (some ⟨g, 0, none⟩), .agg #[.int .i64 v.f0, .int .i64 v.f1, .string v.f2]] (by rfl) rfl (by go_simp) ?_
  with_reducible refine (sum_add.nullNo g s v _ HG1.out HFs.out HFv.out B HB.out H0.out c HR.out).mono ?_
  rintro e w2 ⟨rfl, hg2, hb2, hk2⟩
  refine ⟨_, rfl, ?_⟩
  have HE := Aside0.mk (hEnd w2 hg2 hb2 hk2)
  clear hg2 hb2 hk2
  refine hK.out _ _ ?_
  clear hK K
  refine norm_ (a' := ?_) ?_ ?_
  rotate_left
  · show Act.put _ (some 20) _ = _
    simp only [Act.put, List.setIfInBounds_toArray, List.set_cons_zero, List.set_cons_succ, i64_w, i32_w]
    rfl
  refine pure_ (i := 6) (N := some 4) (v := ?_) (a' := ?_) #[true, true, true, true, true, true, true] rfl rfl (by kernel_rfl) (fun _ _ _ h => h) (Or.inl ⟨by rfl, ?_⟩) ?_ ?_
  rotate_left
  · intro w'
    go_simp
    with_reducible rfl
  rotate_left
  · simp only [Act.put, List.setIfInBounds_toArray, List.set_cons_zero, List.set_cons_succ, i64_w, i32_w]
    rfl
  refine done_ (by kernel_rfl) ?_
  go_wp2_with fail
  go_ret
  exact ⟨rfl, HE.out⟩
set_option maxHeartbeats 2000000 in
set_option maxRecDepth 100000 in
theorem acc_add.best_null_v (b g : Nat) (rows : Bool) (u : S32) (sg : Int) (v : S32) (w : World) (h : AccAt w b g rows (.best u sg)) (B : Nat) (hB : B ≤ g) (hz : ¬ v.f0 = 0) (h0 : u.f0 = 0) :
    Calls Try.prog 13 #[.pointer (some ⟨b, 0, none⟩), .agg #[.int .i64 v.f0, .int .i64 v.f1, .string v.f2]] w fun e w' =>
      e = .returned (.int .i64 0) ∧ AccAt w' b g rows (.best v sg) ∧ Below B w w' ∧ KeepBut w w' g none := by
  have hu := Try.underlying32
  have hm := m_add_best
  have hne := Aside0.mk h.2.2
  have hb0 : w.heap[b]? = some (.cells #[.iface 53 (.pointer (some ⟨g, 0, none⟩)), .bool rows] 57 (0, 0)) := h.1
  have HS := Aside0.mk (BA.start (v := v) hb0)
  have HG := Aside0.mk h.2.1
  have HL := Aside0.mk (Nat.le_trans hB (Nat.le_of_lt (blk_lt h.2.1)))
  have HB := Aside0.mk hB
  have hc1 : World.cell? _ ⟨b, 1, none⟩ = some (.bool rows) := (blk_cell HS.out.1 1).trans rfl
  have qz : (v.f0 == 0) = false := beq_eq_false_iff_ne.mpr hz
  have H0 := Aside0.mk h0
  clear hb0 hB h hz h0
  go_enter Try.func13, Try.ntmps13
  go_wp2_with fail
  refine at_world (fun w' => BA b w.heap.size #[.iface 53 (.pointer (some ⟨g, 0, none⟩)), .bool rows] 57 v w w') (by repeat (first | exact HS.out | refine BA.drewN ?_ _ | refine BA.drew ?_)) (fun w1 hI => ?_)
  have HI := Aside0.mk hI
  clear hI hc1
  have HG1 := Aside0.mk (blk_below HG.out HI.out.drew.2.2)
  have hEnd : ∀ w2, w2.heap[g]? = some (.cells (.best v sg : Gst).cells (.best v sg : Gst).ty (0, 0)) → Below B w1.drew w2 → KeepBut w1.drew w2 g none → AccAt w2 b g rows (.best v sg) ∧ Below B w w2 ∧ KeepBut w w2 g none := fun w2 a1 a2 a3 =>
    ⟨⟨a3.blk HI.out.drew.1 hne.out (by simp), a1, hne.out⟩, (HI.out.drew.2.2.mono HL.out).trans a2, (KeepBut.of_below HI.out.drew.2.2 g none).trans a3 (.inl rfl)⟩
  refine start_ (n := 7) (S := fun w' => w'.cell? ⟨b, 0, none⟩ = some (.iface 53 (.pointer (some ⟨g, 0, none⟩))) ∧ w'.cell? ⟨w.heap.size, 0, none⟩ = some (.int .i64 v.f0) ∧ w'.cell? ⟨w.heap.size, 1, none⟩ = some (.int .i64 v.f1) ∧ w'.cell? ⟨w.heap.size, 2, none⟩ = some (.string v.f2)) (ds := [5]) #[false, false, false, false, false, false, false] (by kernel_rfl) rfl rfl ⟨(blk_cell (HI.out.drew).1 0).trans rfl, (HI.out.drew).v0, (HI.out.drew).v1, (HI.out.drew).v2⟩ (fun hHeld => ?_)
  refine pure_ (i := 0) (N := some 15) (v := ?_) (a' := ?_) #[true, false, false, false, false, false, false] rfl rfl (by kernel_rfl) (fun _ _ _ h => h) (Or.inl ⟨by rfl, ?_⟩) ?_ ?_
  rotate_left
  · intro w'
    go_simp
    with_reducible rfl
  rotate_left
  · simp only [Act.put, List.setIfInBounds_toArray, List.set_cons_zero, List.set_cons_succ, i64_w, i32_w]
    rfl
  refine pure_ (i := 1) (N := some 16) (v := ?_) (a' := ?_) #[true, true, false, false, false, false, false] rfl rfl (by kernel_rfl) (fun _ _ _ h => h) (Or.inl ⟨by rfl, ?_⟩) ?_ ?_
  rotate_left
  · intro w'
    go_simp
    with_reducible rfl
  rotate_left
  · simp only [Act.put, List.setIfInBounds_toArray, List.set_cons_zero, List.set_cons_succ, i64_w, i32_w]
    rfl
  refine pure_ (i := 2) (N := some 17) (v := ?_) (a' := ?_) #[true, true, true, false, false, false, false] rfl rfl (by kernel_rfl) (fun _ _ _ h => h) (Or.inl ⟨by rfl, ?_⟩) ?_ ?_
  rotate_left
  · intro w'
    go_simp
    with_reducible rfl
  rotate_left
  · simp only [Act.put, List.setIfInBounds_toArray, List.set_cons_zero, List.set_cons_succ, i64_w, i32_w]
    rfl
  refine take_ (i := 3) (N := some 18) (v := ?_) (a' := ?_) #[true, true, true, true, false, false, false] rfl rfl (by kernel_rfl) (fun _ _ _ h => h) (Or.inl ⟨by rfl, ?_⟩) hHeld ?_ ?_
  rotate_left
  · rintro w' ⟨s0, s1, s2, s3⟩
    go_simp
    with_reducible rfl
  rotate_left
  · simp only [Act.put, List.setIfInBounds_toArray, List.set_cons_zero, List.set_cons_succ, i64_w, i32_w]
    rfl
  refine take_ (i := 4) (N := some 19) (v := ?_) (a' := ?_) #[true, true, true, true, true, false, false] rfl rfl (by kernel_rfl) (fun _ _ _ h => h) (Or.inl ⟨by rfl, ?_⟩) hHeld ?_ ?_
  rotate_left
  · rintro w' ⟨s0, s1, s2, s3⟩
    go_simp
    with_reducible rfl
  rotate_left
  · simp only [Act.put, List.setIfInBounds_toArray, List.set_cons_zero, List.set_cons_succ, i64_w, i32_w]
    rfl
  refine last_ (i := 5) (N := some 20) #[true, true, true, true, true, true, false] rfl rfl (by kernel_rfl) (by decide) (fun K hK => ?_)
  refine goesI_ Try.func76 (by kernel_rfl) rfl #[.pointer (some ⟨g, 0, none⟩), .agg #[.int .i64 v.f0, .int .i64 v.f1, .string v.f2]] (by rfl) rfl (by go_simp) ?_
  with_reducible refine (best_add.null g u sg v _ HG1.out B HB.out H0.out).mono ?_
  rintro e w2 ⟨rfl, hg2, hb2, hk2⟩
  refine ⟨_, rfl, ?_⟩
  have HE := Aside0.mk (hEnd w2 hg2 hb2 hk2)
  clear hg2 hb2 hk2
  refine hK.out _ _ ?_
  clear hK K
  refine norm_ (a' := ?_) ?_ ?_
  rotate_left
  · show Act.put _ (some 20) _ = _
    simp only [Act.put, List.setIfInBounds_toArray, List.set_cons_zero, List.set_cons_succ, i64_w, i32_w]
    rfl
  refine pure_ (i := 6) (N := some 4) (v := ?_) (a' := ?_) #[true, true, true, true, true, true, true] rfl rfl (by kernel_rfl) (fun _ _ _ h => h) (Or.inl ⟨by rfl, ?_⟩) ?_ ?_
  rotate_left
  · intro w'
    go_simp
    with_reducible rfl
  rotate_left
  · simp only [Act.put, List.setIfInBounds_toArray, List.set_cons_zero, List.set_cons_succ, i64_w, i32_w]
    rfl
  refine done_ (by kernel_rfl) ?_
  go_wp2_with fail
  go_ret
  exact ⟨rfl, HE.out⟩
set_option maxHeartbeats 2000000 in
set_option maxRecDepth 100000 in
theorem acc_add.best_null_r (b g : Nat) (rows : Bool) (u : S32) (sg : Int) (v : S32) (w : World) (h : AccAt w b g rows (.best u sg)) (B : Nat) (hB : B ≤ g) (hz0 : v.f0 = 0) (hz : rows = true) (h0 : u.f0 = 0) :
    Calls Try.prog 13 #[.pointer (some ⟨b, 0, none⟩), .agg #[.int .i64 v.f0, .int .i64 v.f1, .string v.f2]] w fun e w' =>
      e = .returned (.int .i64 0) ∧ AccAt w' b g rows (.best v sg) ∧ Below B w w' ∧ KeepBut w w' g none := by
  have hu := Try.underlying32
  have hm := m_add_best
  have hne := Aside0.mk h.2.2
  have hb0 : w.heap[b]? = some (.cells #[.iface 53 (.pointer (some ⟨g, 0, none⟩)), .bool rows] 57 (0, 0)) := h.1
  have HS := Aside0.mk (BA.start (v := v) hb0)
  have HG := Aside0.mk h.2.1
  have HL := Aside0.mk (Nat.le_trans hB (Nat.le_of_lt (blk_lt h.2.1)))
  have HB := Aside0.mk hB
  have hc1 : World.cell? _ ⟨b, 1, none⟩ = some (.bool rows) := (blk_cell HS.out.1 1).trans rfl
  have qz0 : (v.f0 == 0) = true := beq_iff_eq.mpr hz0
  have qz : rows = true := hz
  have H0 := Aside0.mk h0
  clear hb0 hB h hz0 hz h0
  go_enter Try.func13, Try.ntmps13
  go_wp2_with fail
  refine at_world (fun w' => BA b w.heap.size #[.iface 53 (.pointer (some ⟨g, 0, none⟩)), .bool rows] 57 v w w') (by repeat (first | exact HS.out | refine BA.drewN ?_ _ | refine BA.drew ?_)) (fun w1 hI => ?_)
  have HI := Aside0.mk hI
  clear hI hc1
  have HG1 := Aside0.mk (blk_below HG.out HI.out.drew.2.2)
  have hEnd : ∀ w2, w2.heap[g]? = some (.cells (.best v sg : Gst).cells (.best v sg : Gst).ty (0, 0)) → Below B w1.drew w2 → KeepBut w1.drew w2 g none → AccAt w2 b g rows (.best v sg) ∧ Below B w w2 ∧ KeepBut w w2 g none := fun w2 a1 a2 a3 =>
    ⟨⟨a3.blk HI.out.drew.1 hne.out (by simp), a1, hne.out⟩, (HI.out.drew.2.2.mono HL.out).trans a2, (KeepBut.of_below HI.out.drew.2.2 g none).trans a3 (.inl rfl)⟩
  refine start_ (n := 7) (S := fun w' => w'.cell? ⟨b, 0, none⟩ = some (.iface 53 (.pointer (some ⟨g, 0, none⟩))) ∧ w'.cell? ⟨w.heap.size, 0, none⟩ = some (.int .i64 v.f0) ∧ w'.cell? ⟨w.heap.size, 1, none⟩ = some (.int .i64 v.f1) ∧ w'.cell? ⟨w.heap.size, 2, none⟩ = some (.string v.f2)) (ds := [5]) #[false, false, false, false, false, false, false] (by kernel_rfl) rfl rfl ⟨(blk_cell (HI.out.drew).1 0).trans rfl, (HI.out.drew).v0, (HI.out.drew).v1, (HI.out.drew).v2⟩ (fun hHeld => ?_)
  refine pure_ (i := 0) (N := some 15) (v := ?_) (a' := ?_) #[true, false, false, false, false, false, false] rfl rfl (by kernel_rfl) (fun _ _ _ h => h) (Or.inl ⟨by rfl, ?_⟩) ?_ ?_
  rotate_left
  · intro w'
    go_simp
    with_reducible rfl
  rotate_left
  · simp only [Act.put, List.setIfInBounds_toArray, List.set_cons_zero, List.set_cons_succ, i64_w, i32_w]
    rfl
  refine pure_ (i := 1) (N := some 16) (v := ?_) (a' := ?_) #[true, true, false, false, false, false, false] rfl rfl (by kernel_rfl) (fun _ _ _ h => h) (Or.inl ⟨by rfl, ?_⟩) ?_ ?_
  rotate_left
  · intro w'
    go_simp
    with_reducible rfl
  rotate_left
  · simp only [Act.put, List.setIfInBounds_toArray, List.set_cons_zero, List.set_cons_succ, i64_w, i32_w]
    rfl
  refine pure_ (i := 2) (N := some 17) (v := ?_) (a' := ?_) #[true, true, true, false, false, false, false] rfl rfl (by kernel_rfl) (fun _ _ _ h => h) (Or.inl ⟨by rfl, ?_⟩) ?_ ?_
  rotate_left
  · intro w'
    go_simp
    with_reducible rfl
  rotate_left
  · simp only [Act.put, List.setIfInBounds_toArray, List.set_cons_zero, List.set_cons_succ, i64_w, i32_w]
    rfl
  refine take_ (i := 3) (N := some 18) (v := ?_) (a' := ?_) #[true, true, true, true, false, false, false] rfl rfl (by kernel_rfl) (fun _ _ _ h => h) (Or.inl ⟨by rfl, ?_⟩) hHeld ?_ ?_
  rotate_left
  · rintro w' ⟨s0, s1, s2, s3⟩
    go_simp
    with_reducible rfl
  rotate_left
  · simp only [Act.put, List.setIfInBounds_toArray, List.set_cons_zero, List.set_cons_succ, i64_w, i32_w]
    rfl
  refine take_ (i := 4) (N := some 19) (v := ?_) (a' := ?_) #[true, true, true, true, true, false, false] rfl rfl (by kernel_rfl) (fun _ _ _ h => h) (Or.inl ⟨by rfl, ?_⟩) hHeld ?_ ?_
  rotate_left
  · rintro w' ⟨s0, s1, s2, s3⟩
    go_simp
    with_reducible rfl
  rotate_left
  · simp only [Act.put, List.setIfInBounds_toArray, List.set_cons_zero, List.set_cons_succ, i64_w, i32_w]
    rfl
  refine last_ (i := 5) (N := some 20) #[true, true, true, true, true, true, false] rfl rfl (by kernel_rfl) (by decide) (fun K hK => ?_)
  refine goesI_ Try.func76 (by kernel_rfl) rfl #[.pointer (some ⟨g, 0, none⟩), .agg #[.int .i64 v.f0, .int .i64 v.f1, .string v.f2]] (by rfl) rfl (by go_simp) ?_
  with_reducible refine (best_add.null g u sg v _ HG1.out B HB.out H0.out).mono ?_
  rintro e w2 ⟨rfl, hg2, hb2, hk2⟩
  refine ⟨_, rfl, ?_⟩
  have HE := Aside0.mk (hEnd w2 hg2 hb2 hk2)
  clear hg2 hb2 hk2
  refine hK.out _ _ ?_
  clear hK K
  refine norm_ (a' := ?_) ?_ ?_
  rotate_left
  · show Act.put _ (some 20) _ = _
    simp only [Act.put, List.setIfInBounds_toArray, List.set_cons_zero, List.set_cons_succ, i64_w, i32_w]
    rfl
  refine pure_ (i := 6) (N := some 4) (v := ?_) (a' := ?_) #[true, true, true, true, true, true, true] rfl rfl (by kernel_rfl) (fun _ _ _ h => h) (Or.inl ⟨by rfl, ?_⟩) ?_ ?_
  rotate_left
  · intro w'
    go_simp
    with_reducible rfl
  rotate_left
  · simp only [Act.put, List.setIfInBounds_toArray, List.set_cons_zero, List.set_cons_succ, i64_w, i32_w]
    rfl
  refine done_ (by kernel_rfl) ?_
  go_wp2_with fail
  go_ret
  exact ⟨rfl, HE.out⟩
set_option maxHeartbeats 2000000 in
set_option maxRecDepth 100000 in
theorem acc_add.best_take_v (b g : Nat) (rows : Bool) (u : S32) (sg : Int) (v : S32) (w : World) (h : AccAt w b g rows (.best u sg)) (B : Nat) (hB : B ≤ g) (hz : ¬ v.f0 = 0) (h0 : ¬ u.f0 = 0) (h1 : cmpV v u = sg) :
    Calls Try.prog 13 #[.pointer (some ⟨b, 0, none⟩), .agg #[.int .i64 v.f0, .int .i64 v.f1, .string v.f2]] w fun e w' =>
      e = .returned (.int .i64 0) ∧ AccAt w' b g rows (.best v sg) ∧ Below B w w' ∧ KeepBut w w' g none := by
  have hu := Try.underlying32
  have hm := m_add_best
  have hne := Aside0.mk h.2.2
  have hb0 : w.heap[b]? = some (.cells #[.iface 53 (.pointer (some ⟨g, 0, none⟩)), .bool rows] 57 (0, 0)) := h.1
  have HS := Aside0.mk (BA.start (v := v) hb0)
  have HG := Aside0.mk h.2.1
  have HL := Aside0.mk (Nat.le_trans hB (Nat.le_of_lt (blk_lt h.2.1)))
  have HB := Aside0.mk hB
  have hc1 : World.cell? _ ⟨b, 1, none⟩ = some (.bool rows) := (blk_cell HS.out.1 1).trans rfl
  have qz : (v.f0 == 0) = false := beq_eq_false_iff_ne.mpr hz
  have H0 := Aside0.mk h0
  have H1 := Aside0.mk h1
  clear hb0 hB h hz h0 h1
  go_enter Try.func13, Try.ntmps13
  go_wp2_with fail
  refine at_world (fun w' => BA b w.heap.size #[.iface 53 (.pointer (some ⟨g, 0, none⟩)), .bool rows] 57 v w w') (by repeat (first | exact HS.out | refine BA.drewN ?_ _ | refine BA.drew ?_)) (fun w1 hI => ?_)
  have HI := Aside0.mk hI
  clear hI hc1
  have HG1 := Aside0.mk (blk_below HG.out HI.out.drew.2.2)
  have hEnd : ∀ w2, w2.heap[g]? = some (.cells (.best v sg : Gst).cells (.best v sg : Gst).ty (0, 0)) → Below B w1.drew w2 → KeepBut w1.drew w2 g none → AccAt w2 b g rows (.best v sg) ∧ Below B w w2 ∧ KeepBut w w2 g none := fun w2 a1 a2 a3 =>
    ⟨⟨a3.blk HI.out.drew.1 hne.out (by simp), a1, hne.out⟩, (HI.out.drew.2.2.mono HL.out).trans a2, (KeepBut.of_below HI.out.drew.2.2 g none).trans a3 (.inl rfl)⟩
  refine start_ (n := 7) (S := fun w' => w'.cell? ⟨b, 0, none⟩ = some (.iface 53 (.pointer (some ⟨g, 0, none⟩))) ∧ w'.cell? ⟨w.heap.size, 0, none⟩ = some (.int .i64 v.f0) ∧ w'.cell? ⟨w.heap.size, 1, none⟩ = some (.int .i64 v.f1) ∧ w'.cell? ⟨w.heap.size, 2, none⟩ = some (.string v.f2)) (ds := [5]) #[false, false, false, false, false, false, false] (by kernel_rfl) rfl rfl ⟨(blk_cell (HI.out.drew).1 0).trans rfl, (HI.out.drew).v0, (HI.out.drew).v1, (HI.out.drew).v2⟩ (fun hHeld => ?_)
  refine pure_ (i := 0) (N := some 15) (v := ?_) (a' := ?_) #[true, false, false, false, false, false, false] rfl rfl (by kernel_rfl) (fun _ _ _ h => h) (Or.inl ⟨by rfl, ?_⟩) ?_ ?_
  rotate_left
  · intro w'
    go_simp
    with_reducible rfl
  rotate_left
  · simp only [Act.put, List.setIfInBounds_toArray, List.set_cons_zero, List.set_cons_succ, i64_w, i32_w]
    rfl
  refine pure_ (i := 1) (N := some 16) (v := ?_) (a' := ?_) #[true, true, false, false, false, false, false] rfl rfl (by kernel_rfl) (fun _ _ _ h => h) (Or.inl ⟨by rfl, ?_⟩) ?_ ?_
  rotate_left
  · intro w'
    go_simp
    with_reducible rfl
  rotate_left
  · simp only [Act.put, List.setIfInBounds_toArray, List.set_cons_zero, List.set_cons_succ, i64_w, i32_w]
    rfl
  refine pure_ (i := 2) (N := some 17) (v := ?_) (a' := ?_) #[true, true, true, false, false, false, false] rfl rfl (by kernel_rfl) (fun _ _ _ h => h) (Or.inl ⟨by rfl, ?_⟩) ?_ ?_
  rotate_left
  · intro w'
    go_simp
    with_reducible rfl
  rotate_left
  · simp only [Act.put, List.setIfInBounds_toArray, List.set_cons_zero, List.set_cons_succ, i64_w, i32_w]
    rfl
  refine take_ (i := 3) (N := some 18) (v := ?_) (a' := ?_) #[true, true, true, true, false, false, false] rfl rfl (by kernel_rfl) (fun _ _ _ h => h) (Or.inl ⟨by rfl, ?_⟩) hHeld ?_ ?_
  rotate_left
  · rintro w' ⟨s0, s1, s2, s3⟩
    go_simp
    with_reducible rfl
  rotate_left
  · simp only [Act.put, List.setIfInBounds_toArray, List.set_cons_zero, List.set_cons_succ, i64_w, i32_w]
    rfl
  refine take_ (i := 4) (N := some 19) (v := ?_) (a' := ?_) #[true, true, true, true, true, false, false] rfl rfl (by kernel_rfl) (fun _ _ _ h => h) (Or.inl ⟨by rfl, ?_⟩) hHeld ?_ ?_
  rotate_left
  · rintro w' ⟨s0, s1, s2, s3⟩
    go_simp
    with_reducible rfl
  rotate_left
  · simp only [Act.put, List.setIfInBounds_toArray, List.set_cons_zero, List.set_cons_succ, i64_w, i32_w]
    rfl
  refine last_ (i := 5) (N := some 20) #[true, true, true, true, true, true, false] rfl rfl (by kernel_rfl) (by decide) (fun K hK => ?_)
  refine goesI_ Try.func76 (by kernel_rfl) rfl #[.pointer (some ⟨g, 0, none⟩), .agg #[.int .i64 v.f0, .int .i64 v.f1, .string v.f2]] (by rfl) rfl (by go_simp) ?_
  with_reducible refine (best_add.take g u sg v _ HG1.out B HB.out H0.out H1.out).mono ?_
  rintro e w2 ⟨rfl, hg2, hb2, hk2⟩
  refine ⟨_, rfl, ?_⟩
  have HE := Aside0.mk (hEnd w2 hg2 hb2 hk2)
  clear hg2 hb2 hk2
  refine hK.out _ _ ?_
  clear hK K
  refine norm_ (a' := ?_) ?_ ?_
  rotate_left
  · show Act.put _ (some 20) _ = _
    simp only [Act.put, List.setIfInBounds_toArray, List.set_cons_zero, List.set_cons_succ, i64_w, i32_w]
    rfl
  refine pure_ (i := 6) (N := some 4) (v := ?_) (a' := ?_) #[true, true, true, true, true, true, true] rfl rfl (by kernel_rfl) (fun _ _ _ h => h) (Or.inl ⟨by rfl, ?_⟩) ?_ ?_
  rotate_left
  · intro w'
    go_simp
    with_reducible rfl
  rotate_left
  · simp only [Act.put, List.setIfInBounds_toArray, List.set_cons_zero, List.set_cons_succ, i64_w, i32_w]
    rfl
  refine done_ (by kernel_rfl) ?_
  go_wp2_with fail
  go_ret
  exact ⟨rfl, HE.out⟩
set_option maxHeartbeats 2000000 in
set_option maxRecDepth 100000 in
theorem acc_add.best_take_r (b g : Nat) (rows : Bool) (u : S32) (sg : Int) (v : S32) (w : World) (h : AccAt w b g rows (.best u sg)) (B : Nat) (hB : B ≤ g) (hz0 : v.f0 = 0) (hz : rows = true) (h0 : ¬ u.f0 = 0) (h1 : cmpV v u = sg) :
    Calls Try.prog 13 #[.pointer (some ⟨b, 0, none⟩), .agg #[.int .i64 v.f0, .int .i64 v.f1, .string v.f2]] w fun e w' =>
      e = .returned (.int .i64 0) ∧ AccAt w' b g rows (.best v sg) ∧ Below B w w' ∧ KeepBut w w' g none := by
  have hu := Try.underlying32
  have hm := m_add_best
  have hne := Aside0.mk h.2.2
  have hb0 : w.heap[b]? = some (.cells #[.iface 53 (.pointer (some ⟨g, 0, none⟩)), .bool rows] 57 (0, 0)) := h.1
  have HS := Aside0.mk (BA.start (v := v) hb0)
  have HG := Aside0.mk h.2.1
  have HL := Aside0.mk (Nat.le_trans hB (Nat.le_of_lt (blk_lt h.2.1)))
  have HB := Aside0.mk hB
  have hc1 : World.cell? _ ⟨b, 1, none⟩ = some (.bool rows) := (blk_cell HS.out.1 1).trans rfl
  have qz0 : (v.f0 == 0) = true := beq_iff_eq.mpr hz0
  have qz : rows = true := hz
  have H0 := Aside0.mk h0
  have H1 := Aside0.mk h1
  clear hb0 hB h hz0 hz h0 h1
  go_enter Try.func13, Try.ntmps13
  go_wp2_with fail
  refine at_world (fun w' => BA b w.heap.size #[.iface 53 (.pointer (some ⟨g, 0, none⟩)), .bool rows] 57 v w w') (by repeat (first | exact HS.out | refine BA.drewN ?_ _ | refine BA.drew ?_)) (fun w1 hI => ?_)
  have HI := Aside0.mk hI
  clear hI hc1
  have HG1 := Aside0.mk (blk_below HG.out HI.out.drew.2.2)
  have hEnd : ∀ w2, w2.heap[g]? = some (.cells (.best v sg : Gst).cells (.best v sg : Gst).ty (0, 0)) → Below B w1.drew w2 → KeepBut w1.drew w2 g none → AccAt w2 b g rows (.best v sg) ∧ Below B w w2 ∧ KeepBut w w2 g none := fun w2 a1 a2 a3 =>
    ⟨⟨a3.blk HI.out.drew.1 hne.out (by simp), a1, hne.out⟩, (HI.out.drew.2.2.mono HL.out).trans a2, (KeepBut.of_below HI.out.drew.2.2 g none).trans a3 (.inl rfl)⟩
  refine start_ (n := 7) (S := fun w' => w'.cell? ⟨b, 0, none⟩ = some (.iface 53 (.pointer (some ⟨g, 0, none⟩))) ∧ w'.cell? ⟨w.heap.size, 0, none⟩ = some (.int .i64 v.f0) ∧ w'.cell? ⟨w.heap.size, 1, none⟩ = some (.int .i64 v.f1) ∧ w'.cell? ⟨w.heap.size, 2, none⟩ = some (.string v.f2)) (ds := [5]) #[false, false, false, false, false, false, false] (by kernel_rfl) rfl rfl ⟨(blk_cell (HI.out.drew).1 0).trans rfl, (HI.out.drew).v0, (HI.out.drew).v1, (HI.out.drew).v2⟩ (fun hHeld => ?_)
  refine pure_ (i := 0) (N := some 15) (v := ?_) (a' := ?_) #[true, false, false, false, false, false, false] rfl rfl (by kernel_rfl) (fun _ _ _ h => h) (Or.inl ⟨by rfl, ?_⟩) ?_ ?_
  rotate_left
  · intro w'
    go_simp
    with_reducible rfl
  rotate_left
  · simp only [Act.put, List.setIfInBounds_toArray, List.set_cons_zero, List.set_cons_succ, i64_w, i32_w]
    rfl
  refine pure_ (i := 1) (N := some 16) (v := ?_) (a' := ?_) #[true, true, false, false, false, false, false] rfl rfl (by kernel_rfl) (fun _ _ _ h => h) (Or.inl ⟨by rfl, ?_⟩) ?_ ?_
  rotate_left
  · intro w'
    go_simp
    with_reducible rfl
  rotate_left
  · simp only [Act.put, List.setIfInBounds_toArray, List.set_cons_zero, List.set_cons_succ, i64_w, i32_w]
    rfl
  refine pure_ (i := 2) (N := some 17) (v := ?_) (a' := ?_) #[true, true, true, false, false, false, false] rfl rfl (by kernel_rfl) (fun _ _ _ h => h) (Or.inl ⟨by rfl, ?_⟩) ?_ ?_
  rotate_left
  · intro w'
    go_simp
    with_reducible rfl
  rotate_left
  · simp only [Act.put, List.setIfInBounds_toArray, List.set_cons_zero, List.set_cons_succ, i64_w, i32_w]
    rfl
  refine take_ (i := 3) (N := some 18) (v := ?_) (a' := ?_) #[true, true, true, true, false, false, false] rfl rfl (by kernel_rfl) (fun _ _ _ h => h) (Or.inl ⟨by rfl, ?_⟩) hHeld ?_ ?_
  rotate_left
  · rintro w' ⟨s0, s1, s2, s3⟩
    go_simp
    with_reducible rfl
  rotate_left
  · simp only [Act.put, List.setIfInBounds_toArray, List.set_cons_zero, List.set_cons_succ, i64_w, i32_w]
    rfl
  refine take_ (i := 4) (N := some 19) (v := ?_) (a' := ?_) #[true, true, true, true, true, false, false] rfl rfl (by kernel_rfl) (fun _ _ _ h => h) (Or.inl ⟨by rfl, ?_⟩) hHeld ?_ ?_
  rotate_left
  · rintro w' ⟨s0, s1, s2, s3⟩
    go_simp
    with_reducible rfl
  rotate_left
  · simp only [Act.put, List.setIfInBounds_toArray, List.set_cons_zero, List.set_cons_succ, i64_w, i32_w]
    rfl
  refine last_ (i := 5) (N := some 20) #[true, true, true, true, true, true, false] rfl rfl (by kernel_rfl) (by decide) (fun K hK => ?_)
  refine goesI_ Try.func76 (by kernel_rfl) rfl #[.pointer (some ⟨g, 0, none⟩), .agg #[.int .i64 v.f0, .int .i64 v.f1, .string v.f2]] (by rfl) rfl (by go_simp) ?_
  with_reducible refine (best_add.take g u sg v _ HG1.out B HB.out H0.out H1.out).mono ?_
  rintro e w2 ⟨rfl, hg2, hb2, hk2⟩
  refine ⟨_, rfl, ?_⟩
  have HE := Aside0.mk (hEnd w2 hg2 hb2 hk2)
  clear hg2 hb2 hk2
  refine hK.out _ _ ?_
  clear hK K
  refine norm_ (a' := ?_) ?_ ?_
  rotate_left
  · show Act.put _ (some 20) _ = _
    simp only [Act.put, List.setIfInBounds_toArray, List.set_cons_zero, List.set_cons_succ, i64_w, i32_w]
    rfl
  refine pure_ (i := 6) (N := some 4) (v := ?_) (a' := ?_) #[true, true, true, true, true, true, true] rfl rfl (by kernel_rfl) (fun _ _ _ h => h) (Or.inl ⟨by rfl, ?_⟩) ?_ ?_
  rotate_left
  · intro w'
    go_simp
    with_reducible rfl
  rotate_left
  · simp only [Act.put, List.setIfInBounds_toArray, List.set_cons_zero, List.set_cons_succ, i64_w, i32_w]
    rfl
  refine done_ (by kernel_rfl) ?_
  go_wp2_with fail
  go_ret
  exact ⟨rfl, HE.out⟩
set_option maxHeartbeats 2000000 in
set_option maxRecDepth 100000 in
theorem acc_add.best_stay_v (b g : Nat) (rows : Bool) (u : S32) (sg : Int) (v : S32) (w : World) (h : AccAt w b g rows (.best u sg)) (B : Nat) (hB : B ≤ g) (hz : ¬ v.f0 = 0) (h0 : ¬ u.f0 = 0) (h1 : ¬ cmpV v u = sg) :
    Calls Try.prog 13 #[.pointer (some ⟨b, 0, none⟩), .agg #[.int .i64 v.f0, .int .i64 v.f1, .string v.f2]] w fun e w' =>
      e = .returned (.int .i64 0) ∧ AccAt w' b g rows (.best u sg) ∧ Below B w w' ∧ KeepBut w w' g none := by
  have hu := Try.underlying32
  have hm := m_add_best
  have hne := Aside0.mk h.2.2
  have hb0 : w.heap[b]? = some (.cells #[.iface 53 (.pointer (some ⟨g, 0, none⟩)), .bool rows] 57 (0, 0)) := h.1
  have HS := Aside0.mk (BA.start (v := v) hb0)
  have HG := Aside0.mk h.2.1
  have HL := Aside0.mk (Nat.le_trans hB (Nat.le_of_lt (blk_lt h.2.1)))
  have HB := Aside0.mk hB
  have hc1 : World.cell? _ ⟨b, 1, none⟩ = some (.bool rows) := (blk_cell HS.out.1 1).trans rfl
  have qz : (v.f0 == 0) = false := beq_eq_false_iff_ne.mpr hz
  have H0 := Aside0.mk h0
  have H1 := Aside0.mk h1
  clear hb0 hB h hz h0 h1
  go_enter Try.func13, Try.ntmps13
  go_wp2_with fail
  refine at_world (fun w' => BA b w.heap.size #[.iface 53 (.pointer (some ⟨g, 0, none⟩)), .bool rows] 57 v w w') (by repeat (first | exact HS.out | refine BA.drewN ?_ _ | refine BA.drew ?_)) (fun w1 hI => ?_)
  have HI := Aside0.mk hI
  clear hI hc1
  have HG1 := Aside0.mk (blk_below HG.out HI.out.drew.2.2)
  have hEnd : ∀ w2, w2.heap[g]? = some (.cells (.best u sg : Gst).cells (.best u sg : Gst).ty (0, 0)) → Below B w1.drew w2 → KeepBut w1.drew w2 g none → AccAt w2 b g rows (.best u sg) ∧ Below B w w2 ∧ KeepBut w w2 g none := fun w2 a1 a2 a3 =>
    ⟨⟨a3.blk HI.out.drew.1 hne.out (by simp), a1, hne.out⟩, (HI.out.drew.2.2.mono HL.out).trans a2, (KeepBut.of_below HI.out.drew.2.2 g none).trans a3 (.inl rfl)⟩
  refine start_ (n := 7) (S := fun w' => w'.cell? ⟨b, 0, none⟩ = some (.iface 53 (.pointer (some ⟨g, 0, none⟩))) ∧ w'.cell? ⟨w.heap.size, 0, none⟩ = some (.int .i64 v.f0) ∧ w'.cell? ⟨w.heap.size, 1, none⟩ = some (.int .i64 v.f1) ∧ w'.cell? ⟨w.heap.size, 2, none⟩ = some (.string v.f2)) (ds := [5]) #[false, false, false, false, false, false, false] (by kernel_rfl) rfl rfl ⟨(blk_cell (HI.out.drew).1 0).trans rfl, (HI.out.drew).v0, (HI.out.drew).v1, (HI.out.drew).v2⟩ (fun hHeld => ?_)
  refine pure_ (i := 0) (N := some 15) (v := ?_) (a' := ?_) #[true, false, false, false, false, false, false] rfl rfl (by kernel_rfl) (fun _ _ _ h => h) (Or.inl ⟨by rfl, ?_⟩) ?_ ?_
  rotate_left
  · intro w'
    go_simp
    with_reducible rfl
  rotate_left
  · simp only [Act.put, List.setIfInBounds_toArray, List.set_cons_zero, List.set_cons_succ, i64_w, i32_w]
    rfl
  refine pure_ (i := 1) (N := some 16) (v := ?_) (a' := ?_) #[true, true, false, false, false, false, false] rfl rfl (by kernel_rfl) (fun _ _ _ h => h) (Or.inl ⟨by rfl, ?_⟩) ?_ ?_
  rotate_left
  · intro w'
    go_simp
    with_reducible rfl
  rotate_left
  · simp only [Act.put, List.setIfInBounds_toArray, List.set_cons_zero, List.set_cons_succ, i64_w, i32_w]
    rfl
  refine pure_ (i := 2) (N := some 17) (v := ?_) (a' := ?_) #[true, true, true, false, false, false, false] rfl rfl (by kernel_rfl) (fun _ _ _ h => h) (Or.inl ⟨by rfl, ?_⟩) ?_ ?_
  rotate_left
  · intro w'
    go_simp
    with_reducible rfl
  rotate_left
  · simp only [Act.put, List.setIfInBounds_toArray, List.set_cons_zero, List.set_cons_succ, i64_w, i32_w]
    rfl
  refine take_ (i := 3) (N := some 18) (v := ?_) (a' := ?_) #[true, true, true, true, false, false, false] rfl rfl (by kernel_rfl) (fun _ _ _ h => h) (Or.inl ⟨by rfl, ?_⟩) hHeld ?_ ?_
  rotate_left
  · rintro w' ⟨s0, s1, s2, s3⟩
    go_simp
    with_reducible rfl
  rotate_left
  · simp only [Act.put, List.setIfInBounds_toArray, List.set_cons_zero, List.set_cons_succ, i64_w, i32_w]
    rfl
  refine take_ (i := 4) (N := some 19) (v := ?_) (a' := ?_) #[true, true, true, true, true, false, false] rfl rfl (by kernel_rfl) (fun _ _ _ h => h) (Or.inl ⟨by rfl, ?_⟩) hHeld ?_ ?_
  rotate_left
  · rintro w' ⟨s0, s1, s2, s3⟩
    go_simp
    with_reducible rfl
  rotate_left
  · simp only [Act.put, List.setIfInBounds_toArray, List.set_cons_zero, List.set_cons_succ, i64_w, i32_w]
    rfl
  refine last_ (i := 5) (N := some 20) #[true, true, true, true, true, true, false] rfl rfl (by kernel_rfl) (by decide) (fun K hK => ?_)
  refine goesI_ Try.func76 (by kernel_rfl) rfl #[.pointer (some ⟨g, 0, none⟩), .agg #[.int .i64 v.f0, .int .i64 v.f1, .string v.f2]] (by rfl) rfl (by go_simp) ?_
  with_reducible refine (best_add.stay g u sg v _ HG1.out B HB.out H0.out H1.out).mono ?_
  rintro e w2 ⟨rfl, hg2, hb2, hk2⟩
  refine ⟨_, rfl, ?_⟩
  have HE := Aside0.mk (hEnd w2 hg2 hb2 hk2)
  clear hg2 hb2 hk2
  refine hK.out _ _ ?_
  clear hK K
  refine norm_ (a' := ?_) ?_ ?_
  rotate_left
  · show Act.put _ (some 20) _ = _
    simp only [Act.put, List.setIfInBounds_toArray, List.set_cons_zero, List.set_cons_succ, i64_w, i32_w]
    rfl
  refine pure_ (i := 6) (N := some 4) (v := ?_) (a' := ?_) #[true, true, true, true, true, true, true] rfl rfl (by kernel_rfl) (fun _ _ _ h => h) (Or.inl ⟨by rfl, ?_⟩) ?_ ?_
  rotate_left
  · intro w'
    go_simp
    with_reducible rfl
  rotate_left
  · simp only [Act.put, List.setIfInBounds_toArray, List.set_cons_zero, List.set_cons_succ, i64_w, i32_w]
    rfl
  refine done_ (by kernel_rfl) ?_
  go_wp2_with fail
  go_ret
  exact ⟨rfl, HE.out⟩
set_option maxHeartbeats 2000000 in
set_option maxRecDepth 100000 in
theorem acc_add.best_stay_r (b g : Nat) (rows : Bool) (u : S32) (sg : Int) (v : S32) (w : World) (h : AccAt w b g rows (.best u sg)) (B : Nat) (hB : B ≤ g) (hz0 : v.f0 = 0) (hz : rows = true) (h0 : ¬ u.f0 = 0) (h1 : ¬ cmpV v u = sg) :
    Calls Try.prog 13 #[.pointer (some ⟨b, 0, none⟩), .agg #[.int .i64 v.f0, .int .i64 v.f1, .string v.f2]] w fun e w' =>
      e = .returned (.int .i64 0) ∧ AccAt w' b g rows (.best u sg) ∧ Below B w w' ∧ KeepBut w w' g none := by
  have hu := Try.underlying32
  have hm := m_add_best
  have hne := Aside0.mk h.2.2
  have hb0 : w.heap[b]? = some (.cells #[.iface 53 (.pointer (some ⟨g, 0, none⟩)), .bool rows] 57 (0, 0)) := h.1
  have HS := Aside0.mk (BA.start (v := v) hb0)
  have HG := Aside0.mk h.2.1
  have HL := Aside0.mk (Nat.le_trans hB (Nat.le_of_lt (blk_lt h.2.1)))
  have HB := Aside0.mk hB
  have hc1 : World.cell? _ ⟨b, 1, none⟩ = some (.bool rows) := (blk_cell HS.out.1 1).trans rfl
  have qz0 : (v.f0 == 0) = true := beq_iff_eq.mpr hz0
  have qz : rows = true := hz
  have H0 := Aside0.mk h0
  have H1 := Aside0.mk h1
  clear hb0 hB h hz0 hz h0 h1
  go_enter Try.func13, Try.ntmps13
  go_wp2_with fail
  refine at_world (fun w' => BA b w.heap.size #[.iface 53 (.pointer (some ⟨g, 0, none⟩)), .bool rows] 57 v w w') (by repeat (first | exact HS.out | refine BA.drewN ?_ _ | refine BA.drew ?_)) (fun w1 hI => ?_)
  have HI := Aside0.mk hI
  clear hI hc1
  have HG1 := Aside0.mk (blk_below HG.out HI.out.drew.2.2)
  have hEnd : ∀ w2, w2.heap[g]? = some (.cells (.best u sg : Gst).cells (.best u sg : Gst).ty (0, 0)) → Below B w1.drew w2 → KeepBut w1.drew w2 g none → AccAt w2 b g rows (.best u sg) ∧ Below B w w2 ∧ KeepBut w w2 g none := fun w2 a1 a2 a3 =>
    ⟨⟨a3.blk HI.out.drew.1 hne.out (by simp), a1, hne.out⟩, (HI.out.drew.2.2.mono HL.out).trans a2, (KeepBut.of_below HI.out.drew.2.2 g none).trans a3 (.inl rfl)⟩
  refine start_ (n := 7) (S := fun w' => w'.cell? ⟨b, 0, none⟩ = some (.iface 53 (.pointer (some ⟨g, 0, none⟩))) ∧ w'.cell? ⟨w.heap.size, 0, none⟩ = some (.int .i64 v.f0) ∧ w'.cell? ⟨w.heap.size, 1, none⟩ = some (.int .i64 v.f1) ∧ w'.cell? ⟨w.heap.size, 2, none⟩ = some (.string v.f2)) (ds := [5]) #[false, false, false, false, false, false, false] (by kernel_rfl) rfl rfl ⟨(blk_cell (HI.out.drew).1 0).trans rfl, (HI.out.drew).v0, (HI.out.drew).v1, (HI.out.drew).v2⟩ (fun hHeld => ?_)
  refine pure_ (i := 0) (N := some 15) (v := ?_) (a' := ?_) #[true, false, false, false, false, false, false] rfl rfl (by kernel_rfl) (fun _ _ _ h => h) (Or.inl ⟨by rfl, ?_⟩) ?_ ?_
  rotate_left
  · intro w'
    go_simp
    with_reducible rfl
  rotate_left
  · simp only [Act.put, List.setIfInBounds_toArray, List.set_cons_zero, List.set_cons_succ, i64_w, i32_w]
    rfl
  refine pure_ (i := 1) (N := some 16) (v := ?_) (a' := ?_) #[true, true, false, false, false, false, false] rfl rfl (by kernel_rfl) (fun _ _ _ h => h) (Or.inl ⟨by rfl, ?_⟩) ?_ ?_
  rotate_left
  · intro w'
    go_simp
    with_reducible rfl
  rotate_left
  · simp only [Act.put, List.setIfInBounds_toArray, List.set_cons_zero, List.set_cons_succ, i64_w, i32_w]
    rfl
  refine pure_ (i := 2) (N := some 17) (v := ?_) (a' := ?_) #[true, true, true, false, false, false, false] rfl rfl (by kernel_rfl) (fun _ _ _ h => h) (Or.inl ⟨by rfl, ?_⟩) ?_ ?_
  rotate_left
  · intro w'
    go_simp
    with_reducible rfl
  rotate_left
  · simp only [Act.put, List.setIfInBounds_toArray, List.set_cons_zero, List.set_cons_succ, i64_w, i32_w]
    rfl
  refine take_ (i := 3) (N := some 18) (v := ?_) (a' := ?_) #[true, true, true, true, false, false, false] rfl rfl (by kernel_rfl) (fun _ _ _ h => h) (Or.inl ⟨by rfl, ?_⟩) hHeld ?_ ?_
  rotate_left
  · rintro w' ⟨s0, s1, s2, s3⟩
    go_simp
    with_reducible rfl
  rotate_left
  · simp only [Act.put, List.setIfInBounds_toArray, List.set_cons_zero, List.set_cons_succ, i64_w, i32_w]
    rfl
  refine take_ (i := 4) (N := some 19) (v := ?_) (a' := ?_) #[true, true, true, true, true, false, false] rfl rfl (by kernel_rfl) (fun _ _ _ h => h) (Or.inl ⟨by rfl, ?_⟩) hHeld ?_ ?_
  rotate_left
  · rintro w' ⟨s0, s1, s2, s3⟩
    go_simp
    with_reducible rfl
  rotate_left
  · simp only [Act.put, List.setIfInBounds_toArray, List.set_cons_zero, List.set_cons_succ, i64_w, i32_w]
    rfl
  refine last_ (i := 5) (N := some 20) #[true, true, true, true, true, true, false] rfl rfl (by kernel_rfl) (by decide) (fun K hK => ?_)
  refine goesI_ Try.func76 (by kernel_rfl) rfl #[.pointer (some ⟨g, 0, none⟩), .agg #[.int .i64 v.f0, .int .i64 v.f1, .string v.f2]] (by rfl) rfl (by go_simp) ?_
  with_reducible refine (best_add.stay g u sg v _ HG1.out B HB.out H0.out H1.out).mono ?_
  rintro e w2 ⟨rfl, hg2, hb2, hk2⟩
  refine ⟨_, rfl, ?_⟩
  have HE := Aside0.mk (hEnd w2 hg2 hb2 hk2)
  clear hg2 hb2 hk2
  refine hK.out _ _ ?_
  clear hK K
  refine norm_ (a' := ?_) ?_ ?_
  rotate_left
  · show Act.put _ (some 20) _ = _
    simp only [Act.put, List.setIfInBounds_toArray, List.set_cons_zero, List.set_cons_succ, i64_w, i32_w]
    rfl
  refine pure_ (i := 6) (N := some 4) (v := ?_) (a' := ?_) #[true, true, true, true, true, true, true] rfl rfl (by kernel_rfl) (fun _ _ _ h => h) (Or.inl ⟨by rfl, ?_⟩) ?_ ?_
  rotate_left
  · intro w'
    go_simp
    with_reducible rfl
  rotate_left
  · simp only [Act.put, List.setIfInBounds_toArray, List.set_cons_zero, List.set_cons_succ, i64_w, i32_w]
    rfl
  refine done_ (by kernel_rfl) ?_
  go_wp2_with fail
  go_ret
  exact ⟨rfl, HE.out⟩
end Go.Proofs.Ytgjfciohmgpohaa.P
end
section
namespace Go.Proofs.Ytgjfciohmgpohaa.P
open Go.RowKit Go.Proofs.Ytgjfciohmgpohaa.Pure Go.Proofs.YtgjfciohmgpohaaW.PrintWords Go.Proofs.YtgjfciohmgpohaaW.PrintLast Go.Proofs.YtgjfciohmgpohaaW.PrintMore
attribute [local go_sem] max2_int min2_int max_two min_two max_three min_three max_four min_four
set_option linter.unusedVariables false
set_option linter.unusedSimpArgs false
set_option maxHeartbeats 1000000 in
set_option maxRecDepth 100000 in
theorem acc_add.pass (b g : Nat) (rows : Bool) (st : Gst) (v : S32) (w : World) (h : AccAt w b g rows st) (B : Nat) (hB : B ≤ g) (hz : v.f0 = 0) (hr : rows = false) :
    Calls Try.prog 13 #[.pointer (some ⟨b, 0, none⟩), .agg #[.int .i64 v.f0, .int .i64 v.f1, .string v.f2]] w fun e w' =>
      e = .returned (.int .i64 0) ∧ AccAt w' b g rows st ∧ Below B w w' ∧ KeepBut w w' g none := by
  have hu := Try.underlying32
  have HS := Aside0.mk (BA.start (v := v) h.1)
  have HL := Aside0.mk (Nat.le_trans hB (Nat.le_of_lt (blk_lt h.2.1)))
  have HA := Aside0.mk h
  have hc1 : World.cell? _ ⟨b, 1, none⟩ = some (.bool rows) := (blk_cell HS.out.1 1).trans rfl
  have qz : (v.f0 == 0) = true := beq_iff_eq.mpr hz
  have qr : rows = false := hr
  clear hB h hz hr
  go_enter Try.func13, Try.ntmps13
  go_wp2_with fail
  go_ret
  exact ⟨rfl, HA.out.below HS.out.2.2, HS.out.2.2.mono HL.out, KeepBut.of_below HS.out.2.2 _ _⟩
theorem acc_add.calls (b g : Nat) (rows : Bool) (st : Gst) (v : S32) (w : World) (h : AccAt w b g rows st) (B : Nat) (hB : B ≤ g) (hs : st.fits) (hv : FitsV v) :
    Calls Try.prog 13 #[.pointer (some ⟨b, 0, none⟩), .agg #[.int .i64 v.f0, .int .i64 v.f1, .string v.f2]] w fun e w' =>
      e = .returned (.int .i64 (addP st rows v).2) ∧ AccAt w' b g rows (addP st rows v).1 ∧ Below B w w' ∧ KeepBut w w' g none := by
  by_cases hp : v.f0 = 0 ∧ rows = false
  · have e : addP st rows v = (st, 0) := by unfold addP; rw [if_pos hp]
    rw [e]; exact acc_add.pass b g rows st v w h B hB hp.1 hp.2
  · have hcase : ¬ v.f0 = 0 ∨ (v.f0 = 0 ∧ rows = true) := by
      by_cases h0 : v.f0 = 0
      · exact .inr ⟨h0, by cases rows with | true => rfl | false => exact absurd ⟨h0, rfl⟩ hp⟩
      · exact .inl h0
    cases st with
    | count n =>
      have e : addP (.count n) rows v = (.count (wrap64 (n + 1)), 0) := by unfold addP; rw [if_neg hp]
      rw [e]
      rcases hcase with h0 | ⟨h0, h1⟩
      · exact acc_add.count_v b g rows n v w h B hB h0
      · exact acc_add.count_r b g rows n v w h B hB h0 h1
    | sum s =>
      have e : addP (.sum s) rows v = (.sum (sumA s v).1, (sumA s v).2) := by unfold addP; rw [if_neg hp]
      rw [e]
      unfold sumA
      by_cases hs0 : s.f0 = 0
      · rw [if_pos hs0]
        cases hr : bin 11 (numV 0) v with
        | ok r =>
          rcases hcase with h0 | ⟨h0, h1⟩
          · exact acc_add.sum_nullOk_v b g rows s r v w h B hB h0 hs hv hs0 hr
          · exact acc_add.sum_nullOk_r b g rows s r v w h B hB h0 h1 hs hv hs0 hr
        | error c =>
          rcases hcase with h0 | ⟨h0, h1⟩
          · exact acc_add.sum_nullNo_v b g rows s c v w h B hB h0 hs hv hs0 hr
          · exact acc_add.sum_nullNo_r b g rows s c v w h B hB h0 h1 hs hv hs0 hr
      · rw [if_neg hs0]
        cases hr : bin 11 s v with
        | ok r =>
          rcases hcase with h0 | ⟨h0, h1⟩
          · exact acc_add.sum_moreOk_v b g rows s r v w h B hB h0 hs hv hs0 hr
          · exact acc_add.sum_moreOk_r b g rows s r v w h B hB h0 h1 hs hv hs0 hr
        | error c =>
          rcases hcase with h0 | ⟨h0, h1⟩
          · exact acc_add.sum_moreNo_v b g rows s c v w h B hB h0 hs hv hs0 hr
          · exact acc_add.sum_moreNo_r b g rows s c v w h B hB h0 h1 hs hv hs0 hr
    | best u sg =>
      by_cases hu0 : u.f0 = 0
      · have e : addP (.best u sg) rows v = (.best v sg, 0) := by unfold addP; rw [if_neg hp]; simp only [if_pos (Or.inl hu0 : u.f0 = 0 ∨ cmpV v u = sg)]
        rw [e]
        rcases hcase with h0 | ⟨h0, h1⟩
        · exact acc_add.best_null_v b g rows u sg v w h B hB h0 hu0
        · exact acc_add.best_null_r b g rows u sg v w h B hB h0 h1 hu0
      · by_cases hc : cmpV v u = sg
        · have e : addP (.best u sg) rows v = (.best v sg, 0) := by unfold addP; rw [if_neg hp]; simp only [if_pos (Or.inr hc : u.f0 = 0 ∨ cmpV v u = sg)]
          rw [e]
          rcases hcase with h0 | ⟨h0, h1⟩
          · exact acc_add.best_take_v b g rows u sg v w h B hB h0 hu0 hc
          · exact acc_add.best_take_r b g rows u sg v w h B hB h0 h1 hu0 hc
        · have e : addP (.best u sg) rows v = (.best u sg, 0) := by unfold addP; rw [if_neg hp]; simp only [if_neg (fun h => h.elim hu0 hc : ¬ (u.f0 = 0 ∨ cmpV v u = sg))]
          rw [e]
          rcases hcase with h0 | ⟨h0, h1⟩
          · exact acc_add.best_stay_v b g rows u sg v w h B hB h0 hu0 hc
          · exact acc_add.best_stay_r b g rows u sg v w h B hB h0 h1 hu0 hc
def newP (op : Int) (rows : Bool) : Option Gst :=
  if op = 1 then some (.count 0) else if rows = true then none else if op = 2 then some (.sum zeroV) else if op = 3 then some (.best zeroV (-1)) else if op = 4 then some (.best zeroV 1) else none
theorem AccAt.new (w : World) (rows : Bool) (st : Gst) : AccAt ((w.alloc (.cells st.cells st.ty)).alloc (.cells #[.iface st.dyn (.pointer (some ⟨w.heap.size, 0, none⟩)), .bool rows] 57)) (w.heap.size + 1) w.heap.size rows st :=
  ⟨by
    have h := Deep.blk_alloc_new (w.alloc (.cells st.cells st.ty)) (.cells #[.iface st.dyn (.pointer (some ⟨w.heap.size, 0, none⟩)), .bool rows] 57)
    have e : (w.alloc (.cells st.cells st.ty)).heap.size = w.heap.size + 1 := Array.size_push ..
    rw [e] at h
    exact h, blk_alloc (Deep.blk_alloc_new w _) _, by omega⟩
theorem if_nil (t : TypeId) (p : Value) (ht : t = 47 ∨ t = 50 ∨ t = 53) (w : World) : (binOp .eql 46 (.iface t p) .nilIface).run Try.prog w = .ok (.bool false) w := by
  rcases ht with rfl | rfl | rfl <;> kernel_rfl
set_option maxHeartbeats 1000000 in
set_option maxRecDepth 100000 in
theorem new.count (op : Int) (w : World) (h1 : op = 1) :
    Calls Try.prog 8 #[.int .i64 op, .bool false] w fun e w' => e = .returned (.tuple #[.pointer (some ⟨w.heap.size + 1, 0, none⟩), .int .i64 0]) ∧ AccAt w' (w.heap.size + 1) w.heap.size false (.count 0) ∧ Below w.heap.size w w' := by
  have hu := Try.underlying32
  have hq : ∀ (p : Value) (w : World), (binOp .eql 46 (.iface 47 p) .nilIface).run Try.prog w = .ok (.bool false) w := fun p w => if_nil _ p (by decide) w
  have hq0 : ∀ (w : World), (binOp .eql 46 .nilIface .nilIface).run Try.prog w = .ok (.bool true) w := fun w => by kernel_rfl
  have q1 : (op == 1) = true := beq_iff_eq.mpr h1
  have r1 : (op != 1) = false := bne_eq_false_iff_eq.mpr h1
  have q2 : (op == 2) = false := beq_eq_false_iff_ne.mpr (by omega)
  have r2 : (op != 2) = true := bne_iff_ne.mpr (by omega)
  have q3 : (op == 3) = false := beq_eq_false_iff_ne.mpr (by omega)
  have r3 : (op != 3) = true := bne_iff_ne.mpr (by omega)
  have q4 : (op == 4) = false := beq_eq_false_iff_ne.mpr (by omega)
  have r4 : (op != 4) = true := bne_iff_ne.mpr (by omega)
  clear h1
  go_enter Try.func8, Try.ntmps8
  go_wp2_with fail
  all_goals
    go_ret2
    exact ⟨rfl, AccAt.new w false (.count 0), below_alloc (below_alloc (Below.refl _ _) _) _⟩
set_option maxHeartbeats 1000000 in
set_option maxRecDepth 100000 in
theorem new.countR (op : Int) (w : World) (h1 : op = 1) :
    Calls Try.prog 8 #[.int .i64 op, .bool true] w fun e w' => e = .returned (.tuple #[.pointer (some ⟨w.heap.size + 1, 0, none⟩), .int .i64 0]) ∧ AccAt w' (w.heap.size + 1) w.heap.size true (.count 0) ∧ Below w.heap.size w w' := by
  have hu := Try.underlying32
  have hq : ∀ (p : Value) (w : World), (binOp .eql 46 (.iface 47 p) .nilIface).run Try.prog w = .ok (.bool false) w := fun p w => if_nil _ p (by decide) w
  have hq0 : ∀ (w : World), (binOp .eql 46 .nilIface .nilIface).run Try.prog w = .ok (.bool true) w := fun w => by kernel_rfl
  have q1 : (op == 1) = true := beq_iff_eq.mpr h1
  have r1 : (op != 1) = false := bne_eq_false_iff_eq.mpr h1
  have q2 : (op == 2) = false := beq_eq_false_iff_ne.mpr (by omega)
  have r2 : (op != 2) = true := bne_iff_ne.mpr (by omega)
  have q3 : (op == 3) = false := beq_eq_false_iff_ne.mpr (by omega)
  have r3 : (op != 3) = true := bne_iff_ne.mpr (by omega)
  have q4 : (op == 4) = false := beq_eq_false_iff_ne.mpr (by omega)
  have r4 : (op != 4) = true := bne_iff_ne.mpr (by omega)
  clear h1
  go_enter Try.func8, Try.ntmps8
  go_wp2_with fail
  all_goals
    go_ret2
    exact ⟨rfl, AccAt.new w true (.count 0), below_alloc (below_alloc (Below.refl _ _) _) _⟩
set_option maxHeartbeats 1000000 in
set_option maxRecDepth 100000 in
theorem new.sum (op : Int) (w : World) (h1 : op = 2) :
    Calls Try.prog 8 #[.int .i64 op, .bool false] w fun e w' => e = .returned (.tuple #[.pointer (some ⟨w.heap.size + 1, 0, none⟩), .int .i64 0]) ∧ AccAt w' (w.heap.size + 1) w.heap.size false (.sum zeroV) ∧ Below w.heap.size w w' := by
  have hu := Try.underlying32
  have hq : ∀ (p : Value) (w : World), (binOp .eql 46 (.iface 50 p) .nilIface).run Try.prog w = .ok (.bool false) w := fun p w => if_nil _ p (by decide) w
  have hq0 : ∀ (w : World), (binOp .eql 46 .nilIface .nilIface).run Try.prog w = .ok (.bool true) w := fun w => by kernel_rfl
  have q1 : (op == 1) = false := beq_eq_false_iff_ne.mpr (by omega)
  have r1 : (op != 1) = true := bne_iff_ne.mpr (by omega)
  have q2 : (op == 2) = true := beq_iff_eq.mpr h1
  have r2 : (op != 2) = false := bne_eq_false_iff_eq.mpr h1
  have q3 : (op == 3) = false := beq_eq_false_iff_ne.mpr (by omega)
  have r3 : (op != 3) = true := bne_iff_ne.mpr (by omega)
  have q4 : (op == 4) = false := beq_eq_false_iff_ne.mpr (by omega)
  have r4 : (op != 4) = true := bne_iff_ne.mpr (by omega)
  clear h1
  go_enter Try.func8, Try.ntmps8
  go_wp2_with fail
  all_goals
    go_ret2
    exact ⟨rfl, AccAt.new w false (.sum zeroV), below_alloc (below_alloc (Below.refl _ _) _) _⟩
set_option maxHeartbeats 1000000 in
set_option maxRecDepth 100000 in
theorem new.min (op : Int) (w : World) (h1 : op = 3) :
    Calls Try.prog 8 #[.int .i64 op, .bool false] w fun e w' => e = .returned (.tuple #[.pointer (some ⟨w.heap.size + 1, 0, none⟩), .int .i64 0]) ∧ AccAt w' (w.heap.size + 1) w.heap.size false (.best zeroV (-1)) ∧ Below w.heap.size w w' := by
  have hu := Try.underlying32
  have hq : ∀ (p : Value) (w : World), (binOp .eql 46 (.iface 53 p) .nilIface).run Try.prog w = .ok (.bool false) w := fun p w => if_nil _ p (by decide) w
  have hq0 : ∀ (w : World), (binOp .eql 46 .nilIface .nilIface).run Try.prog w = .ok (.bool true) w := fun w => by kernel_rfl
  have q1 : (op == 1) = false := beq_eq_false_iff_ne.mpr (by omega)
  have r1 : (op != 1) = true := bne_iff_ne.mpr (by omega)
  have q2 : (op == 2) = false := beq_eq_false_iff_ne.mpr (by omega)
  have r2 : (op != 2) = true := bne_iff_ne.mpr (by omega)
  have q3 : (op == 3) = true := beq_iff_eq.mpr h1
  have r3 : (op != 3) = false := bne_eq_false_iff_eq.mpr h1
  have q4 : (op == 4) = false := beq_eq_false_iff_ne.mpr (by omega)
  have r4 : (op != 4) = true := bne_iff_ne.mpr (by omega)
  clear h1
  go_enter Try.func8, Try.ntmps8
  go_wp2_with fail
  all_goals
    go_ret2
    exact ⟨rfl, AccAt.new w false (.best zeroV (-1)), below_alloc (below_alloc (Below.refl _ _) _) _⟩
set_option maxHeartbeats 1000000 in
set_option maxRecDepth 100000 in
theorem new.max (op : Int) (w : World) (h1 : op = 4) :
    Calls Try.prog 8 #[.int .i64 op, .bool false] w fun e w' => e = .returned (.tuple #[.pointer (some ⟨w.heap.size + 1, 0, none⟩), .int .i64 0]) ∧ AccAt w' (w.heap.size + 1) w.heap.size false (.best zeroV 1) ∧ Below w.heap.size w w' := by
  have hu := Try.underlying32
  have hq : ∀ (p : Value) (w : World), (binOp .eql 46 (.iface 53 p) .nilIface).run Try.prog w = .ok (.bool false) w := fun p w => if_nil _ p (by decide) w
  have hq0 : ∀ (w : World), (binOp .eql 46 .nilIface .nilIface).run Try.prog w = .ok (.bool true) w := fun w => by kernel_rfl
  have q1 : (op == 1) = false := beq_eq_false_iff_ne.mpr (by omega)
  have r1 : (op != 1) = true := bne_iff_ne.mpr (by omega)
  have q2 : (op == 2) = false := beq_eq_false_iff_ne.mpr (by omega)
  have r2 : (op != 2) = true := bne_iff_ne.mpr (by omega)
  have q3 : (op == 3) = false := beq_eq_false_iff_ne.mpr (by omega)
  have r3 : (op != 3) = true := bne_iff_ne.mpr (by omega)
  have q4 : (op == 4) = true := beq_iff_eq.mpr h1
  have r4 : (op != 4) = false := bne_eq_false_iff_eq.mpr h1
  clear h1
  go_enter Try.func8, Try.ntmps8
  go_wp2_with fail
  all_goals
    go_ret2
    exact ⟨rfl, AccAt.new w false (.best zeroV 1), below_alloc (below_alloc (Below.refl _ _) _) _⟩
set_option maxHeartbeats 1000000 in
set_option maxRecDepth 100000 in
theorem new.sumR (op : Int) (w : World) (h1 : op = 2) :
    Calls Try.prog 8 #[.int .i64 op, .bool true] w fun e w' => e = .returned (.tuple #[.pointer none, .int .i64 5]) ∧ Below w.heap.size w w' := by
  have hu := Try.underlying32
  have hq : ∀ (p : Value) (w : World), (binOp .eql 46 (.iface 50 p) .nilIface).run Try.prog w = .ok (.bool false) w := fun p w => if_nil _ p (by decide) w
  have hq0 : ∀ (w : World), (binOp .eql 46 .nilIface .nilIface).run Try.prog w = .ok (.bool true) w := fun w => by kernel_rfl
  have q1 : (op == 1) = false := beq_eq_false_iff_ne.mpr (by omega)
  have r1 : (op != 1) = true := bne_iff_ne.mpr (by omega)
  have q2 : (op == 2) = true := beq_iff_eq.mpr h1
  have r2 : (op != 2) = false := bne_eq_false_iff_eq.mpr h1
  have q3 : (op == 3) = false := beq_eq_false_iff_ne.mpr (by omega)
  have r3 : (op != 3) = true := bne_iff_ne.mpr (by omega)
  have q4 : (op == 4) = false := beq_eq_false_iff_ne.mpr (by omega)
  have r4 : (op != 4) = true := bne_iff_ne.mpr (by omega)
  clear h1
  go_enter Try.func8, Try.ntmps8
  go_wp2_with fail
  all_goals
    go_ret2
    exact ⟨rfl, by repeat (first | exact Below.refl _ _ | apply below_alloc)⟩
set_option maxHeartbeats 1000000 in
set_option maxRecDepth 100000 in
theorem new.other (op : Int) (w : World) (h1 : ¬ op = 1) (h2 : ¬ op = 2) (h3 : ¬ op = 3) (h4 : ¬ op = 4) :
    Calls Try.prog 8 #[.int .i64 op, .bool false] w fun e w' => e = .returned (.tuple #[.pointer none, .int .i64 5]) ∧ Below w.heap.size w w' := by
  have hu := Try.underlying32
  have hq : ∀ (p : Value) (w : World), (binOp .eql 46 (.iface 53 p) .nilIface).run Try.prog w = .ok (.bool false) w := fun p w => if_nil _ p (by decide) w
  have hq0 : ∀ (w : World), (binOp .eql 46 .nilIface .nilIface).run Try.prog w = .ok (.bool true) w := fun w => by kernel_rfl
  have q1 : (op == 1) = false := beq_eq_false_iff_ne.mpr (by omega)
  have r1 : (op != 1) = true := bne_iff_ne.mpr (by omega)
  have q2 : (op == 2) = false := beq_eq_false_iff_ne.mpr (by omega)
  have r2 : (op != 2) = true := bne_iff_ne.mpr (by omega)
  have q3 : (op == 3) = false := beq_eq_false_iff_ne.mpr (by omega)
  have r3 : (op != 3) = true := bne_iff_ne.mpr (by omega)
  have q4 : (op == 4) = false := beq_eq_false_iff_ne.mpr (by omega)
  have r4 : (op != 4) = true := bne_iff_ne.mpr (by omega)
  clear h1 h2 h3 h4
  go_enter Try.func8, Try.ntmps8
  go_wp2_with fail
  all_goals
    go_ret2
    exact ⟨rfl, by repeat (first | exact Below.refl _ _ | apply below_alloc)⟩
end Go.Proofs.Ytgjfciohmgpohaa.P
end
section
namespace Go.Proofs.Ytgjfciohmgpohaa.P
open Go.RowKit Go.Proofs.Ytgjfciohmgpohaa.Pure Go.Proofs.YtgjfciohmgpohaaW.PrintWords Go.Proofs.YtgjfciohmgpohaaW.PrintLast Go.Proofs.YtgjfciohmgpohaaW.PrintMore
attribute [local go_sem] max2_int min2_int max_two min_two max_three min_three max_four min_four
set_option linter.unusedVariables false
set_option linter.unusedSimpArgs false
theorem new_some (op : Int) (st : Gst) (w : World) (h : newP op false = some st) :
    Calls Try.prog 8 #[.int .i64 op, .bool false] w fun e w' => e = .returned (.tuple #[.pointer (some ⟨w.heap.size + 1, 0, none⟩), .int .i64 0]) ∧ AccAt w' (w.heap.size + 1) w.heap.size false st ∧ Below w.heap.size w w' := by
  unfold newP at h
  by_cases h1 : op = 1
  · rw [if_pos h1] at h; cases h; exact new.count op w h1
  rw [if_neg h1, if_neg (by decide)] at h
  by_cases h2 : op = 2
  · rw [if_pos h2] at h; cases h; exact new.sum op w h2
  rw [if_neg h2] at h
  by_cases h3 : op = 3
  · rw [if_pos h3] at h; cases h; exact new.min op w h3
  rw [if_neg h3] at h
  by_cases h4 : op = 4
  · rw [if_pos h4] at h; cases h; exact new.max op w h4
  rw [if_neg h4] at h; cases h
theorem new_none (op : Int) (w : World) (h : newP op false = none) :
    Calls Try.prog 8 #[.int .i64 op, .bool false] w fun e w' => e = .returned (.tuple #[.pointer none, .int .i64 5]) ∧ Below w.heap.size w w' := by
  unfold newP at h
  by_cases h1 : op = 1
  · rw [if_pos h1] at h; cases h
  rw [if_neg h1, if_neg (by decide)] at h
  by_cases h2 : op = 2
  · rw [if_pos h2] at h; cases h
  rw [if_neg h2] at h
  by_cases h3 : op = 3
  · rw [if_pos h3] at h; cases h
  rw [if_neg h3] at h
  by_cases h4 : op = 4
  · rw [if_pos h4] at h; cases h
  exact new.other op w h1 h2 h3 h4
def goG (rows : Bool) : Gst → List S32 → Option Gst
  | st, [] => some st
  | st, v :: t => if (addP st rows v).2 = 0 then goG rows (addP st rows v).1 t else none
def gathP (op : Int) (l : List S32) : S32 × Bool :=
  match newP op false with
  | none => (zeroV, false)
  | some st => match goG false st l with | none => (zeroV, false) | some s => (valP s, true)
theorem goG_step {rows : Bool} {st : Gst} {l : List S32} {k : Nat} (hk : k < l.length) : goG rows st (l.drop k) = if (addP st rows (rd_T32 l k)).2 = 0 then goG rows (addP st rows (rd_T32 l k)).1 (l.drop (k + 1)) else none := by
  have : rd_T32 l k = l[k] := by unfold rd_T32; simp [hk]
  rw [List.drop_eq_getElem_cons hk, this]
  rfl
theorem sum_in {a b n : Int} (h : sumP 11 a b = .ok n) : In64 n := by
  unfold sumP at h
  rw [if_pos rfl] at h
  by_cases hi : In64 (a + b)
  · rw [if_pos hi] at h; cases h; exact hi
  · rw [if_neg hi] at h; cases h
theorem bin_num {op : Int} (ho : op = 11) (a b : S32) (r : S32) (h11 : 11 ≤ op) (h15 : op ≤ 15) (ha : In64 a.f1) (hb : In64 b.f1) (h : bin op a b = .ok r) : FitsV r := by
  unfold bin at h
  rw [if_neg (show ¬ ¬ (3 ≤ op ∧ op ≤ 16) by omega)] at h
  by_cases h2 : ¬ kindsP op a.f0 b.f0
  · rw [if_pos h2] at h; cases h
  rw [if_neg h2, if_neg (show ¬ op ≤ 4 by omega)] at h
  by_cases h4 : a.f0 = 0 ∨ b.f0 = 0
  · rw [if_pos h4] at h; cases h; exact ⟨by show In64 0; decide, by show (0 : Nat) ≤ _; omega⟩
  rw [if_neg h4, if_neg (show ¬ op ≤ 10 by omega), if_neg (show ¬ op = 16 by omega)] at h
  cases hs : sumP op a.f1 b.f1 with
  | error c => rw [hs] at h; cases h
  | ok n =>
    rw [hs] at h
    cases h
    subst ho
    exact ⟨sum_in hs, by show (0 : Nat) ≤ _; omega⟩
theorem addP_fits {st : Gst} {rows : Bool} {v : S32} (hs : st.fits) (hv : FitsV v) : (addP st rows v).1.fits := by
  unfold addP
  by_cases hp : v.f0 = 0 ∧ rows = false
  · rw [if_pos hp]; exact hs
  rw [if_neg hp]
  cases st with
  | count n => trivial
  | sum s =>
    show FitsV (sumA s v).1
    unfold sumA
    cases hr : bin 11 (if s.f0 = 0 then numV 0 else s) v with
    | error c => exact hs
    | ok r =>
      refine bin_num (op := 11) rfl _ v r (by omega) (by omega) ?_ hv.1 hr
      by_cases h0 : s.f0 = 0
      · rw [if_pos h0]; show In64 0; decide
      · rw [if_neg h0]; exact hs.1
  | best u sg =>
    by_cases h : u.f0 = 0 ∨ cmpV v u = sg
    · simp only [if_pos h]; trivial
    · simp only [if_neg h]; trivial
theorem newP_fits {op : Int} {st : Gst} (h : newP op false = some st) : st.fits := by
  unfold newP at h
  by_cases h1 : op = 1
  · rw [if_pos h1] at h; cases h; trivial
  rw [if_neg h1, if_neg (by decide)] at h
  by_cases h2 : op = 2
  · rw [if_pos h2] at h; cases h; exact ⟨by show In64 0; decide, by show (0 : Nat) ≤ _; omega⟩
  rw [if_neg h2] at h
  by_cases h3 : op = 3
  · rw [if_pos h3] at h; cases h; trivial
  rw [if_neg h3] at h
  by_cases h4 : op = 4
  · rw [if_pos h4] at h; cases h; trivial
  rw [if_neg h4] at h; cases h
theorem rd_fits {l : List S32} (h : ∀ v ∈ l, FitsV v) (k : Nat) (hk : k < l.length) : FitsV (rd_T32 l k) := by
  have : rd_T32 l k = l[k] := by unfold rd_T32; simp [hk]
  rw [this]; exact h _ (List.getElem_mem hk)
set_option maxHeartbeats 1000000 in
set_option maxRecDepth 100000 in
theorem gathered.no (op : Int) (l : List S32) (A : Option Addr) (c : Nat) (w : World) (h : newP op false = none) :
    Calls Try.prog 16 #[.int .i64 op, .slice A l.length c] w fun e w' => e = .returned (.tuple #[encV zeroV, .bool false]) ∧ Below w.heap.size w w' := by
  have hu := Try.underlying32
  have HN := Aside0.mk h
  have HZ := Aside0.mk (Deep.blk_alloc_new w (.cells #[.int .i64 0, .int .i64 0, .string (⟨#[]⟩ : ByteArray)] 32))
  clear h
  go_enter Try.func16, Try.ntmps16
  go_wp2_with fail
  refine (new_none op _ HN.out).mono ?_
  rintro e w1 ⟨rfl, hb⟩
  have HI := Aside0.mk (blk_below HZ.out hb)
  have HW := Aside0.mk (below_step (below_alloc (Below.refl w.heap.size w) _) hb)
  clear hb
  have gc0 : w1.cell? ⟨w.heap.size, 0, none⟩ = some (.int .i64 0) := (blk_cell HI.out 0).trans rfl
  have gc1 : w1.cell? ⟨w.heap.size, 1, none⟩ = some (.int .i64 0) := (blk_cell HI.out 1).trans rfl
  have gc2 : w1.cell? ⟨w.heap.size, 2, none⟩ = some (.string (⟨#[]⟩ : ByteArray)) := (blk_cell HI.out 2).trans rfl
  have gf0 := blk_frozen HI.out 0
  have gf1 := blk_frozen HI.out 1
  have gf2 := blk_frozen HI.out 2
  go_wp2_with fail
  exact bodyPost_ret (v := .tuple #[encV zeroV, .bool false]) (by simp [results, Try.results16, go_sem, encV, zeroV, V0, gc0, gc1, gc2]) rfl ⟨rfl, below_set3 HW.out (Nat.le_refl _) _ _ _ _ _ _⟩
def LW (w wr : World) (g : Nat) : Prop := wr.heap[w.heap.size]? = some (.cells #[.int .i64 0, .int .i64 0, .string (⟨#[]⟩ : ByteArray)] 32 (0, 0)) ∧ Below w.heap.size w wr ∧ w.heap.size < g
set_option maxHeartbeats 2000000 in
set_option maxRecDepth 100000 in
theorem gathered.yes (op : Int) (l : List S32) (A : Option Addr) (c : Nat) (w : World) (hr : Kd.C k32 w A l.length l) (hf : ∀ v ∈ l, FitsV v) (st : Gst) (h : newP op false = some st) :
    Calls Try.prog 16 #[.int .i64 op, .slice A l.length c] w fun e w' => e = .returned (.tuple #[encV (gathP op l).1, .bool (gathP op l).2]) ∧ Below w.heap.size w w' := by
  have hu := Try.underlying32
  have HN := Aside0.mk h
  have HR := Aside0.mk hr
  have HF := Aside0.mk hf
  have HZ := Aside0.mk (Deep.blk_alloc_new w (.cells #[.int .i64 0, .int .i64 0, .string (⟨#[]⟩ : ByteArray)] 32))
  have HP : Aside0 (gathP op l = match goG false st l with | none => (zeroV, false) | some s => (valP s, true)) := ⟨by unfold gathP; rw [h]⟩
  have HM : Aside0 (l.length ≤ 9223372036854775807) := ⟨Kd.C_max hr⟩
  clear h hr hf
  go_enter Try.func16, Try.ntmps16
  go_wp2_with fail
  refine (new_some op st _ HN.out).mono ?_
  rintro e w1 ⟨rfl, hA, hb⟩
  have hsz : (w.alloc (.cells #[.int .i64 0, .int .i64 0, .string (⟨#[]⟩ : ByteArray)] 32)).heap.size = w.heap.size + 1 := Array.size_push ..
  rw [hsz] at hA
  have HI := Aside0.mk (blk_below HZ.out hb)
  have HW := Aside0.mk (below_step (below_alloc (Below.refl w.heap.size w) _) hb)
  have HA := Aside0.mk hA
  clear hb hA hsz
  go_wp2_with fail
  go_loopw [8] (fun v8 wr => ∃ (k : Nat) (s : Gst), v8 = .int .i64 k ∧ k ≤ l.length ∧ Aside0 (goG false s (l.drop k) = goG false st l) ∧ Aside0 s.fits ∧ Aside0 (AccAt wr (w.heap.size + 1 + 1) (w.heap.size + 1) false s) ∧ Aside0 (LW w wr (w.heap.size + 1))) (fun v8 _ => l.length - (intOf v8).toNat)
  case atStart => exact ⟨0, st, rfl, Nat.zero_le _, ⟨by simp⟩, ⟨newP_fits HN.out⟩, HA, ⟨HI.out, HW.out, by omega⟩⟩
  case round =>
    obtain ⟨k, s, rfl, hk, HG, HS, HA, HL⟩ := hrel
    by_cases hlt : k < l.length
    · obtain ⟨ad, rfl, hx0, hx1, hx2⟩ := at_T32 (Kd.C_below HR.out HL.out.2.1) k (by omega) (by omega)
      replace hx0 : wr.cell? (ad.add (k * 3)) = some (.int .i64 (rd_T32 l k).f0) := hx0
      replace hx1 : wr.cell? ⟨(ad.add (k * 3)).block, (ad.add (k * 3)).off + 1, none⟩ = some (.int .i64 (rd_T32 l k).f1) := hx1
      replace hx2 : wr.cell? ⟨(ad.add (k * 3)).block, (ad.add (k * 3)).off + 2, none⟩ = some (.string (rd_T32 l k).f2) := hx2
      have q_a : decide (k < l.length) = true := decide_eq_true hlt
      have q_b : decide ((k : Int) < (l.length : Int)) = true := decide_eq_true (by omega)
      have q_c : (k < l.length) = True := eq_true hlt
      have q_e : ((k : Int) < (l.length : Int)) = True := eq_true (by omega)
      have q_d : (0 ≤ (k : Int)) = True := eq_true (by omega)
      have HK : Aside0 (k < l.length) := ⟨hlt⟩
      have hkm : k < 9223372036854775807 := by have := HM.out; omega
      have HST := Aside0.mk (goG_step (rows := false) (st := s) hlt)
      have HV := Aside0.mk (rd_fits HF.out k hlt)
      clear hlt hk
      go_wp2_with fail
      refine (acc_add.calls (w.heap.size + 1 + 1) (w.heap.size + 1) false s (rd_T32 l k) _ HA.out w.heap.size (Nat.le_succ _) HS.out HV.out).mono ?_
      rintro e w2 ⟨rfl, hA2, hb2, hk2⟩
      have HA2 := Aside0.mk hA2
      have HL2 : Aside0 (LW w w2 (w.heap.size + 1)) := ⟨hk2.blk HL.out.1 (by omega) (by simp), HL.out.2.1.trans hb2, HL.out.2.2⟩
      clear hA2 hb2 hk2
      by_cases ha : (addP s false (rd_T32 l k)).2 = 0
      · have q0 : ((addP s false (rd_T32 l k)).2 != 0) = false := bne_eq_false_iff_eq.mpr ha
        have HG2 : Aside0 (goG false (addP s false (rd_T32 l k)).1 (l.drop (k + 1)) = goG false st l) := ⟨by have h1 := HST.out; rw [if_pos ha] at h1; rw [← h1]; exact HG.out⟩
        clear ha hx0 hx1 hx2
        go_wp2_with fail
        go_roundw
        case rel => exact ⟨k + 1, _, by go_num, HK.out, HG2, ⟨addP_fits HS.out HV.out⟩, HA2, HL2⟩
        case measure => have := HK.out; simp [intOf]; omega
      · have q0 : ((addP s false (rd_T32 l k)).2 != 0) = true := bne_iff_ne.mpr ha
        have HG2 : Aside0 (gathP op l = (zeroV, false)) := ⟨by have h1 := HST.out; rw [if_neg ha] at h1; rw [HP.out, ← HG.out, h1]⟩
        clear ha hx0 hx1 hx2
        have gc0 : w2.cell? ⟨w.heap.size, 0, none⟩ = some (.int .i64 0) := (blk_cell HL2.out.1 0).trans rfl
        have gc1 : w2.cell? ⟨w.heap.size, 1, none⟩ = some (.int .i64 0) := (blk_cell HL2.out.1 1).trans rfl
        have gc2 : w2.cell? ⟨w.heap.size, 2, none⟩ = some (.string (⟨#[]⟩ : ByteArray)) := (blk_cell HL2.out.1 2).trans rfl
        have gf0 := blk_frozen HL2.out.1 0
        have gf1 := blk_frozen HL2.out.1 1
        have gf2 := blk_frozen HL2.out.1 2
        go_wp2_with fail
        refine bodyPost_ret (v := .tuple #[encV zeroV, .bool false]) (by simp [results, Try.results16, go_sem, encV, zeroV, V0, gc0, gc1, gc2]) rfl ⟨?_, below_set3 HL2.out.2.1 (Nat.le_refl _) _ _ _ _ _ _⟩
        rw [HG2.out]
    · have q_a : decide (k < l.length) = false := decide_eq_false hlt
      have q_b : decide ((k : Int) < (l.length : Int)) = false := decide_eq_false (by omega)
      have HG2 : Aside0 (gathP op l = (valP s, true)) := ⟨by rw [HP.out, ← HG.out, List.drop_eq_nil_of_le (by omega)]; rfl⟩
      clear hlt hk
      go_wp2_with fail
      refine (acc_value.calls (w.heap.size + 1 + 1) (w.heap.size + 1) false s _ HA.out).mono ?_
      rintro e w2 ⟨rfl, hb⟩
      have HL2 := Aside0.mk (blk_below HL.out.1 hb)
      have HB2 := Aside0.mk (below_step HL.out.2.1 hb)
      clear hb
      have gc0 : w2.cell? ⟨w.heap.size, 0, none⟩ = some (.int .i64 0) := (blk_cell HL2.out 0).trans rfl
      have gc1 : w2.cell? ⟨w.heap.size, 1, none⟩ = some (.int .i64 0) := (blk_cell HL2.out 1).trans rfl
      have gc2 : w2.cell? ⟨w.heap.size, 2, none⟩ = some (.string (⟨#[]⟩ : ByteArray)) := (blk_cell HL2.out 2).trans rfl
      have gf0 := blk_frozen HL2.out 0
      have gf1 := blk_frozen HL2.out 1
      have gf2 := blk_frozen HL2.out 2
      unfold encV
      go_wp2_with fail
      refine bodyPost_ret (v := .tuple #[encV (valP s), .bool true]) (by simp [results, Try.results16, go_sem, encV, gc0, gc1, gc2]) rfl ⟨?_, below_set3 HB2.out (Nat.le_refl _) _ _ _ _ _ _⟩
      rw [HG2.out]
theorem gathered.calls (op : Int) (l : List S32) (A : Option Addr) (c : Nat) (w : World) (hr : Kd.C k32 w A l.length l) (hf : ∀ v ∈ l, FitsV v) :
    Calls Try.prog 16 #[.int .i64 op, .slice A l.length c] w fun e w' => e = .returned (.tuple #[encV (gathP op l).1, .bool (gathP op l).2]) ∧ Below w.heap.size w w' := by
  cases h : newP op false with
  | none =>
    have e : gathP op l = (zeroV, false) := by unfold gathP; rw [h]
    rw [e]; exact gathered.no op l A c w h
  | some st => exact gathered.yes op l A c w hr hf st h
def fitsB (l : List S32) : Bool := l.all fun v => decide (-9223372036854775808 ≤ v.f1) && decide (v.f1 ≤ 9223372036854775807) && decide (v.f2.size ≤ 140737488351232)
theorem fits_of {l : List S32} (h : fitsB l = true) : ∀ v ∈ l, FitsV v := by
  intro v hv
  have := List.all_eq_true.1 h v hv
  simp only [Bool.and_eq_true, decide_eq_true_eq] at this
  exact ⟨⟨this.1.1, this.1.2⟩, this.2⟩
theorem of_fits {l : List S32} (h : ∀ v ∈ l, FitsV v) : fitsB l = true := by
  refine List.all_eq_true.2 fun v hv => ?_
  obtain ⟨⟨h1, h2⟩, h3⟩ := h v hv
  simp only [Bool.and_eq_true, decide_eq_true_eq]
  exact ⟨⟨h1, h2⟩, h3⟩
def quarrylaw17_gathered.f (op : Int) (l : List S32) : Option (Int × Int × ByteArray × Bool) := if fitsB l = true then some ((gathP op l).1.f0, (gathP op l).1.f1, (gathP op l).1.f2, (gathP op l).2) else none
theorem quarrylaw17_gathered.print (a0 : Int) (A1 : Option Addr) (c1 : Nat) (l1 : List (S32)) (r1 : Int) (r2 : Int) (r3 : ByteArray) (r4 : Bool) (w : World) (hr1 : Kd.C k32 w A1 l1.length l1) (hc1 : l1.length ≤ c1) (h : quarrylaw17_gathered.f a0 l1 = some (r1, r2, r3, r4)) :
    Calls Try.prog 16 #[.int .i64 a0, .slice A1 l1.length c1] w fun e w' => e = .returned (.tuple #[.agg #[.int .i64 r1, .int .i64 r2, .string r3], .bool r4]) ∧ Below w.heap.size w w' := by
  unfold quarrylaw17_gathered.f at h
  by_cases hf : fitsB l1 = true
  · rw [if_pos hf, Option.some.injEq] at h
    have := gathered.calls a0 l1 A1 c1 w hr1 (fits_of hf)
    obtain ⟨rfl, rfl, rfl, rfl⟩ : (gathP a0 l1).1.f0 = r1 ∧ (gathP a0 l1).1.f1 = r2 ∧ (gathP a0 l1).1.f2 = r3 ∧ (gathP a0 l1).2 = r4 := by simpa using h
    exact this
  · rw [if_neg hf] at h; cases h
end Go.Proofs.Ytgjfciohmgpohaa.P
end
section
namespace Go.Proofs.Ytgjfciohmgpohaa.P
open Go.RowKit Go.Proofs.YtgjfciohmgpohaaW.PrintWords Go.Proofs.YtgjfciohmgpohaaW.PrintLast Go.Proofs.YtgjfciohmgpohaaW.PrintMore
attribute [local go_sem] max2_int min2_int max_two min_two max_three min_three max_four min_four
set_option linter.unusedVariables false
set_option linter.unusedSimpArgs false
attribute [local go_sem high] eqA32
def quarrylaw17_works.f  : Option (Bool) := (quarrylaw17_number.f 1).bind fun bt147 => ((quarrylaw17_number.f 2).bind fun bt150 => ((quarrylaw17_gathered.f 2 (([(⟨bt147.1, bt147.2.1, bt147.2.2⟩ : S32), (⟨0, 0, (⟨#[]⟩ : ByteArray)⟩ : S32), (⟨bt150.1, bt150.2.1, bt150.2.2⟩ : S32)] : List (S32)))).bind fun bt156 => ((quarrylaw17_gathered.f 2 ([] : List (S32))).bind fun bt161 => ((quarrylaw17_gathered.f 4 (([(⟨3, 0, (⟨#[97]⟩ : ByteArray)⟩ : S32), (⟨3, 0, (⟨#[98]⟩ : ByteArray)⟩ : S32)] : List (S32)))).bind fun bt169 => ((quarrylaw17_number.f 9223372036854775807).bind fun bt174 => ((quarrylaw17_number.f 1).bind fun bt177 => ((quarrylaw17_gathered.f 2 (([(⟨bt174.1, bt174.2.1, bt174.2.2⟩ : S32), (⟨bt177.1, bt177.2.1, bt177.2.2⟩ : S32)] : List (S32)))).bind fun bt183 => ((quarrylaw17_number.f 3).bind fun bt188 => (if (bt156.1 == bt188.1 && (bt156.2.1 == bt188.2.1 && (bt156.2.2.1.toList == bt188.2.2.toList))) = true then (if bt156.2.2.2 = true then (if (bt161.1 == 0 && (bt161.2.1 == 0 && (bt161.2.2.1.toList == ([] : List UInt8)))) = true then (if bt161.2.2.2 = true then (if bt169.2.2.1.toList = ([98] : List UInt8) then (if bt169.2.2.2 = true then (some (!bt183.2.2.2)) else (none)) else (none)) else (none)) else (none)) else (none)) else (none))))))))))
def quarrylaw17_works.T5 : Bool × List (List Nat × List Nat) := (true, [([], []), ([], []), ([0, 1], [0, 1]), ([2, 1], [2]), ([3], [3]), ([3, 4], [3, 4]), ([5, 3], [5]), ([6], [6]), ([6], [6]), ([7, 8, 6], [6, 7, 8]), ([6, 9], [6, 9]), ([10, 6], [10]), ([11], [11]), ([11, 12], [11, 12]), ([13, 11], [13]), ([14], [14]), ([15, 14], [14, 15]), ([16, 14], [14, 16]), ([14, 17], [14, 17]), ([18, 14], [18]), ([19], [19]), ([19, 20], [19, 20]), ([21, 19], [21]), ([22], [22]), ([23, 22], [22, 23]), ([22, 24], [22, 24]), ([25, 22, 0, 1, 2, 3, 4, 5, 6, 7, 8, 9, 10, 11, 12, 13, 14, 15, 16, 17, 18, 19, 20, 21, 22, 23, 24, 25], [25])])
def quarrylaw17_works.B5 : List Nat := [0, 0, 3, 7, 15, 31, 63, 127, 127, 511, 1023, 2047, 4095, 8191, 16383, 32767, 65535, 131071, 262143, 524287, 1048575, 2097151, 4194303, 8388607, 16777215, 33554431, 67108863]
theorem quarrylaw17_works.tab5 : rtab .any (opsOf Try.f15 5) = quarrylaw17_works.T5 := by kernel_rfl
theorem quarrylaw17_works.bits5 : waitsOk quarrylaw17_works.T5.2 quarrylaw17_works.B5 = true := by kernel_rfl
set_option maxHeartbeats 8000000 in
set_option maxRecDepth 100000 in
theorem quarrylaw17_works.calls  (r : Bool) (w : World) (h : quarrylaw17_works.f  = some r) :
  Calls Try.prog 15 #[] w fun e w' => e = .returned (.bool r) ∧ Below w.heap.size w w' := by
 have hu32 := Try.underlying32
 have HB := Aside0.mk (Below.refl w.heap.size w)
 have H : ((quarrylaw17_number.f 1).bind fun bt147 => ((quarrylaw17_number.f 2).bind fun bt150 => ((quarrylaw17_gathered.f 2 (([(⟨bt147.1, bt147.2.1, bt147.2.2⟩ : S32), (⟨0, 0, (⟨#[]⟩ : ByteArray)⟩ : S32), (⟨bt150.1, bt150.2.1, bt150.2.2⟩ : S32)] : List (S32)))).bind fun bt156 => ((quarrylaw17_gathered.f 2 ([] : List (S32))).bind fun bt161 => ((quarrylaw17_gathered.f 4 (([(⟨3, 0, (⟨#[97]⟩ : ByteArray)⟩ : S32), (⟨3, 0, (⟨#[98]⟩ : ByteArray)⟩ : S32)] : List (S32)))).bind fun bt169 => ((quarrylaw17_number.f 9223372036854775807).bind fun bt174 => ((quarrylaw17_number.f 1).bind fun bt177 => ((quarrylaw17_gathered.f 2 (([(⟨bt174.1, bt174.2.1, bt174.2.2⟩ : S32), (⟨bt177.1, bt177.2.1, bt177.2.2⟩ : S32)] : List (S32)))).bind fun bt183 => ((quarrylaw17_number.f 3).bind fun bt188 => (if (bt156.1 == bt188.1 && (bt156.2.1 == bt188.2.1 && (bt156.2.2.1.toList == bt188.2.2.toList))) = true then (if bt156.2.2.2 = true then (if (bt161.1 == 0 && (bt161.2.1 == 0 && (bt161.2.2.1.toList == ([] : List UInt8)))) = true then (if bt161.2.2.2 = true then (if bt169.2.2.1.toList = ([98] : List UInt8) then (if bt169.2.2.2 = true then (some (!bt183.2.2.2)) else (none)) else (none)) else (none)) else (none)) else (none)) else (none))))))))))) = some r := h
 clear h
 replace H := Option.bind_eq_some_iff.mp H
 obtain ⟨⟨t147, t148, t149⟩, A10, H⟩ := H
 replace H : ((quarrylaw17_number.f 2).bind fun bt150 => ((quarrylaw17_gathered.f 2 (([(⟨t147, t148, t149⟩ : S32), (⟨0, 0, (⟨#[]⟩ : ByteArray)⟩ : S32), (⟨bt150.1, bt150.2.1, bt150.2.2⟩ : S32)] : List (S32)))).bind fun bt156 => ((quarrylaw17_gathered.f 2 ([] : List (S32))).bind fun bt161 => ((quarrylaw17_gathered.f 4 (([(⟨3, 0, (⟨#[97]⟩ : ByteArray)⟩ : S32), (⟨3, 0, (⟨#[98]⟩ : ByteArray)⟩ : S32)] : List (S32)))).bind fun bt169 => ((quarrylaw17_number.f 9223372036854775807).bind fun bt174 => ((quarrylaw17_number.f 1).bind fun bt177 => ((quarrylaw17_gathered.f 2 (([(⟨bt174.1, bt174.2.1, bt174.2.2⟩ : S32), (⟨bt177.1, bt177.2.1, bt177.2.2⟩ : S32)] : List (S32)))).bind fun bt183 => ((quarrylaw17_number.f 3).bind fun bt188 => (if (bt156.1 == bt188.1 && (bt156.2.1 == bt188.2.1 && (bt156.2.2.1.toList == bt188.2.2.toList))) = true then (if bt156.2.2.2 = true then (if (bt161.1 == 0 && (bt161.2.1 == 0 && (bt161.2.2.1.toList == ([] : List UInt8)))) = true then (if bt161.2.2.2 = true then (if bt169.2.2.1.toList = ([98] : List UInt8) then (if bt169.2.2.2 = true then (some (!bt183.2.2.2)) else (none)) else (none)) else (none)) else (none)) else (none)) else (none)))))))))) = some r := H
 have A1 := Aside0.mk A10
 clear A10
 replace H := Option.bind_eq_some_iff.mp H
 obtain ⟨⟨t150, t151, t152⟩, A20, H⟩ := H
 replace H : ((quarrylaw17_gathered.f 2 (([(⟨t147, t148, t149⟩ : S32), (⟨0, 0, (⟨#[]⟩ : ByteArray)⟩ : S32), (⟨t150, t151, t152⟩ : S32)] : List (S32)))).bind fun bt156 => ((quarrylaw17_gathered.f 2 ([] : List (S32))).bind fun bt161 => ((quarrylaw17_gathered.f 4 (([(⟨3, 0, (⟨#[97]⟩ : ByteArray)⟩ : S32), (⟨3, 0, (⟨#[98]⟩ : ByteArray)⟩ : S32)] : List (S32)))).bind fun bt169 => ((quarrylaw17_number.f 9223372036854775807).bind fun bt174 => ((quarrylaw17_number.f 1).bind fun bt177 => ((quarrylaw17_gathered.f 2 (([(⟨bt174.1, bt174.2.1, bt174.2.2⟩ : S32), (⟨bt177.1, bt177.2.1, bt177.2.2⟩ : S32)] : List (S32)))).bind fun bt183 => ((quarrylaw17_number.f 3).bind fun bt188 => (if (bt156.1 == bt188.1 && (bt156.2.1 == bt188.2.1 && (bt156.2.2.1.toList == bt188.2.2.toList))) = true then (if bt156.2.2.2 = true then (if (bt161.1 == 0 && (bt161.2.1 == 0 && (bt161.2.2.1.toList == ([] : List UInt8)))) = true then (if bt161.2.2.2 = true then (if bt169.2.2.1.toList = ([98] : List UInt8) then (if bt169.2.2.2 = true then (some (!bt183.2.2.2)) else (none)) else (none)) else (none)) else (none)) else (none)) else (none))))))))) = some r := H
 have A2 := Aside0.mk A20
 clear A20
 obtain ⟨y153, hy153⟩ : ∃ y_ : List (S32), y_ = (([(⟨t147, t148, t149⟩ : S32), (⟨0, 0, (⟨#[]⟩ : ByteArray)⟩ : S32), (⟨t150, t151, t152⟩ : S32)] : List (S32))) := ⟨_, rfl⟩
 replace H : ((quarrylaw17_gathered.f 2 y153).bind fun bt156 => ((quarrylaw17_gathered.f 2 ([] : List (S32))).bind fun bt161 => ((quarrylaw17_gathered.f 4 (([(⟨3, 0, (⟨#[97]⟩ : ByteArray)⟩ : S32), (⟨3, 0, (⟨#[98]⟩ : ByteArray)⟩ : S32)] : List (S32)))).bind fun bt169 => ((quarrylaw17_number.f 9223372036854775807).bind fun bt174 => ((quarrylaw17_number.f 1).bind fun bt177 => ((quarrylaw17_gathered.f 2 (([(⟨bt174.1, bt174.2.1, bt174.2.2⟩ : S32), (⟨bt177.1, bt177.2.1, bt177.2.2⟩ : S32)] : List (S32)))).bind fun bt183 => ((quarrylaw17_number.f 3).bind fun bt188 => (if (bt156.1 == bt188.1 && (bt156.2.1 == bt188.2.1 && (bt156.2.2.1.toList == bt188.2.2.toList))) = true then (if bt156.2.2.2 = true then (if (bt161.1 == 0 && (bt161.2.1 == 0 && (bt161.2.2.1.toList == ([] : List UInt8)))) = true then (if bt161.2.2.2 = true then (if bt169.2.2.1.toList = ([98] : List UInt8) then (if bt169.2.2.2 = true then (some (!bt183.2.2.2)) else (none)) else (none)) else (none)) else (none)) else (none)) else (none))))))))) = some r := by first | (rw [hy153]; with_reducible exact H) | (have H2_ := (Option.bind_some _ _).symm.trans H; rw [hy153]; with_reducible exact H2_) | (have H2_ := (Option.bind_some _ _).symm.trans H; with_reducible exact H2_) | with_reducible exact H | (rw [hy153]; exact H) | exact H
 have Ny153 := Aside0.mk hy153
 clear hy153
 replace H := Option.bind_eq_some_iff.mp H
 obtain ⟨⟨t156, t157, t158, t159⟩, A30, H⟩ := H
 replace H : ((quarrylaw17_gathered.f 2 ([] : List (S32))).bind fun bt161 => ((quarrylaw17_gathered.f 4 (([(⟨3, 0, (⟨#[97]⟩ : ByteArray)⟩ : S32), (⟨3, 0, (⟨#[98]⟩ : ByteArray)⟩ : S32)] : List (S32)))).bind fun bt169 => ((quarrylaw17_number.f 9223372036854775807).bind fun bt174 => ((quarrylaw17_number.f 1).bind fun bt177 => ((quarrylaw17_gathered.f 2 (([(⟨bt174.1, bt174.2.1, bt174.2.2⟩ : S32), (⟨bt177.1, bt177.2.1, bt177.2.2⟩ : S32)] : List (S32)))).bind fun bt183 => ((quarrylaw17_number.f 3).bind fun bt188 => (if (t156 == bt188.1 && (t157 == bt188.2.1 && (t158.toList == bt188.2.2.toList))) = true then (if t159 = true then (if (bt161.1 == 0 && (bt161.2.1 == 0 && (bt161.2.2.1.toList == ([] : List UInt8)))) = true then (if bt161.2.2.2 = true then (if bt169.2.2.1.toList = ([98] : List UInt8) then (if bt169.2.2.2 = true then (some (!bt183.2.2.2)) else (none)) else (none)) else (none)) else (none)) else (none)) else (none)))))))) = some r := H
 have A3 := Aside0.mk A30
 clear A30
 replace H := Option.bind_eq_some_iff.mp H
 obtain ⟨⟨t161, t162, t163, t164⟩, A40, H⟩ := H
 replace H : ((quarrylaw17_gathered.f 4 (([(⟨3, 0, (⟨#[97]⟩ : ByteArray)⟩ : S32), (⟨3, 0, (⟨#[98]⟩ : ByteArray)⟩ : S32)] : List (S32)))).bind fun bt169 => ((quarrylaw17_number.f 9223372036854775807).bind fun bt174 => ((quarrylaw17_number.f 1).bind fun bt177 => ((quarrylaw17_gathered.f 2 (([(⟨bt174.1, bt174.2.1, bt174.2.2⟩ : S32), (⟨bt177.1, bt177.2.1, bt177.2.2⟩ : S32)] : List (S32)))).bind fun bt183 => ((quarrylaw17_number.f 3).bind fun bt188 => (if (t156 == bt188.1 && (t157 == bt188.2.1 && (t158.toList == bt188.2.2.toList))) = true then (if t159 = true then (if (t161 == 0 && (t162 == 0 && (t163.toList == ([] : List UInt8)))) = true then (if t164 = true then (if bt169.2.2.1.toList = ([98] : List UInt8) then (if bt169.2.2.2 = true then (some (!bt183.2.2.2)) else (none)) else (none)) else (none)) else (none)) else (none)) else (none))))))) = some r := H
 have A4 := Aside0.mk A40
 clear A40
 obtain ⟨y166, hy166⟩ : ∃ y_ : List (S32), y_ = (([(⟨3, 0, (⟨#[97]⟩ : ByteArray)⟩ : S32), (⟨3, 0, (⟨#[98]⟩ : ByteArray)⟩ : S32)] : List (S32))) := ⟨_, rfl⟩
 replace H : ((quarrylaw17_gathered.f 4 y166).bind fun bt169 => ((quarrylaw17_number.f 9223372036854775807).bind fun bt174 => ((quarrylaw17_number.f 1).bind fun bt177 => ((quarrylaw17_gathered.f 2 (([(⟨bt174.1, bt174.2.1, bt174.2.2⟩ : S32), (⟨bt177.1, bt177.2.1, bt177.2.2⟩ : S32)] : List (S32)))).bind fun bt183 => ((quarrylaw17_number.f 3).bind fun bt188 => (if (t156 == bt188.1 && (t157 == bt188.2.1 && (t158.toList == bt188.2.2.toList))) = true then (if t159 = true then (if (t161 == 0 && (t162 == 0 && (t163.toList == ([] : List UInt8)))) = true then (if t164 = true then (if bt169.2.2.1.toList = ([98] : List UInt8) then (if bt169.2.2.2 = true then (some (!bt183.2.2.2)) else (none)) else (none)) else (none)) else (none)) else (none)) else (none))))))) = some r := by first | (rw [hy166]; with_reducible exact H) | (have H2_ := (Option.bind_some _ _).symm.trans H; rw [hy166]; with_reducible exact H2_) | (have H2_ := (Option.bind_some _ _).symm.trans H; with_reducible exact H2_) | with_reducible exact H | (rw [hy166]; exact H) | exact H
 have Ny166 := Aside0.mk hy166
 clear hy166
 replace H := Option.bind_eq_some_iff.mp H
 obtain ⟨⟨t169, t170, t171, t172⟩, A50, H⟩ := H
 replace H : ((quarrylaw17_number.f 9223372036854775807).bind fun bt174 => ((quarrylaw17_number.f 1).bind fun bt177 => ((quarrylaw17_gathered.f 2 (([(⟨bt174.1, bt174.2.1, bt174.2.2⟩ : S32), (⟨bt177.1, bt177.2.1, bt177.2.2⟩ : S32)] : List (S32)))).bind fun bt183 => ((quarrylaw17_number.f 3).bind fun bt188 => (if (t156 == bt188.1 && (t157 == bt188.2.1 && (t158.toList == bt188.2.2.toList))) = true then (if t159 = true then (if (t161 == 0 && (t162 == 0 && (t163.toList == ([] : List UInt8)))) = true then (if t164 = true then (if t171.toList = ([98] : List UInt8) then (if t172 = true then (some (!bt183.2.2.2)) else (none)) else (none)) else (none)) else (none)) else (none)) else (none)))))) = some r := H
 have A5 := Aside0.mk A50
 clear A50
 replace H := Option.bind_eq_some_iff.mp H
 obtain ⟨⟨t174, t175, t176⟩, A60, H⟩ := H
 replace H : ((quarrylaw17_number.f 1).bind fun bt177 => ((quarrylaw17_gathered.f 2 (([(⟨t174, t175, t176⟩ : S32), (⟨bt177.1, bt177.2.1, bt177.2.2⟩ : S32)] : List (S32)))).bind fun bt183 => ((quarrylaw17_number.f 3).bind fun bt188 => (if (t156 == bt188.1 && (t157 == bt188.2.1 && (t158.toList == bt188.2.2.toList))) = true then (if t159 = true then (if (t161 == 0 && (t162 == 0 && (t163.toList == ([] : List UInt8)))) = true then (if t164 = true then (if t171.toList = ([98] : List UInt8) then (if t172 = true then (some (!bt183.2.2.2)) else (none)) else (none)) else (none)) else (none)) else (none)) else (none))))) = some r := H
 have A6 := Aside0.mk A60
 clear A60
 replace H := Option.bind_eq_some_iff.mp H
 obtain ⟨⟨t177, t178, t179⟩, A70, H⟩ := H
 replace H : ((quarrylaw17_gathered.f 2 (([(⟨t174, t175, t176⟩ : S32), (⟨t177, t178, t179⟩ : S32)] : List (S32)))).bind fun bt183 => ((quarrylaw17_number.f 3).bind fun bt188 => (if (t156 == bt188.1 && (t157 == bt188.2.1 && (t158.toList == bt188.2.2.toList))) = true then (if t159 = true then (if (t161 == 0 && (t162 == 0 && (t163.toList == ([] : List UInt8)))) = true then (if t164 = true then (if t171.toList = ([98] : List UInt8) then (if t172 = true then (some (!bt183.2.2.2)) else (none)) else (none)) else (none)) else (none)) else (none)) else (none)))) = some r := H
 have A7 := Aside0.mk A70
 clear A70
 obtain ⟨y180, hy180⟩ : ∃ y_ : List (S32), y_ = (([(⟨t174, t175, t176⟩ : S32), (⟨t177, t178, t179⟩ : S32)] : List (S32))) := ⟨_, rfl⟩
 replace H : ((quarrylaw17_gathered.f 2 y180).bind fun bt183 => ((quarrylaw17_number.f 3).bind fun bt188 => (if (t156 == bt188.1 && (t157 == bt188.2.1 && (t158.toList == bt188.2.2.toList))) = true then (if t159 = true then (if (t161 == 0 && (t162 == 0 && (t163.toList == ([] : List UInt8)))) = true then (if t164 = true then (if t171.toList = ([98] : List UInt8) then (if t172 = true then (some (!bt183.2.2.2)) else (none)) else (none)) else (none)) else (none)) else (none)) else (none)))) = some r := by first | (rw [hy180]; with_reducible exact H) | (have H2_ := (Option.bind_some _ _).symm.trans H; rw [hy180]; with_reducible exact H2_) | (have H2_ := (Option.bind_some _ _).symm.trans H; with_reducible exact H2_) | with_reducible exact H | (rw [hy180]; exact H) | exact H
 have Ny180 := Aside0.mk hy180
 clear hy180
 replace H := Option.bind_eq_some_iff.mp H
 obtain ⟨⟨t183, t184, t185, t186⟩, A80, H⟩ := H
 replace H : ((quarrylaw17_number.f 3).bind fun bt188 => (if (t156 == bt188.1 && (t157 == bt188.2.1 && (t158.toList == bt188.2.2.toList))) = true then (if t159 = true then (if (t161 == 0 && (t162 == 0 && (t163.toList == ([] : List UInt8)))) = true then (if t164 = true then (if t171.toList = ([98] : List UInt8) then (if t172 = true then (some (!t186)) else (none)) else (none)) else (none)) else (none)) else (none)) else (none))) = some r := H
 have A8 := Aside0.mk A80
 clear A80
 replace H := Option.bind_eq_some_iff.mp H
 obtain ⟨⟨t188, t189, t190⟩, A90, H⟩ := H
 replace H : (if (t156 == t188 && (t157 == t189 && (t158.toList == t190.toList))) = true then (if t159 = true then (if (t161 == 0 && (t162 == 0 && (t163.toList == ([] : List UInt8)))) = true then (if t164 = true then (if t171.toList = ([98] : List UInt8) then (if t172 = true then (some (!t186)) else (none)) else (none)) else (none)) else (none)) else (none)) else (none)) = some r := H
 have A9 := Aside0.mk A90
 clear A90
 by_cases c10 : (t156 == t188 && (t157 == t189 && (t158.toList == t190.toList))) = true
 ·rw [if_pos c10] at H
  have c10b0 : (t156 == t188 && (t157 == t189 && (t158.toList == t190.toList))) = true := c10
  (try (have c10b1 : decide (t156 = t188 && (t157 == t189 && (t158.toList == t190.toList))) = true := by simpa using c10))
  (try (have c10b2 : (t156 == t188 && (t157 == t189 && (t158.toList == t190.toList))) = true := by simpa using c10))
  clear c10
  by_cases c11 : t159 = true
  ·subst c11
   have H1 : (if (t161 == 0 && (t162 == 0 && (t163.toList == ([] : List UInt8)))) = true then (if t164 = true then (if t171.toList = ([98] : List UInt8) then (if t172 = true then (some (!t186)) else (none)) else (none)) else (none)) else (none)) = some r := by rw [if_pos rfl] at H; exact H
   clear H
   have H := H1
   clear H1
   by_cases c12 : (t161 == 0 && (t162 == 0 && (t163.toList == ([] : List UInt8)))) = true
   ·rw [if_pos c12] at H
    have c12b0 : (t161 == 0 && (t162 == 0 && (t163.toList == ([] : List UInt8)))) = true := c12
    (try (have c12b9 : (t161 == 0 && (t162 == 0 && t163.toList.isEmpty)) = true := by simpa using c12))
    (try (have c12b1 : decide (t161 = 0 && (t162 == 0 && (t163.toList == ([] : List UInt8)))) = true := by simpa using c12))
    (try (have c12b2 : (t161 == 0 && (t162 == 0 && (t163.toList == ([] : List UInt8)))) = true := by simpa using c12))
    clear c12
    by_cases c13 : t164 = true
    ·subst c13
     have H1 : (if t171.toList = ([98] : List UInt8) then (if t172 = true then (some (!t186)) else (none)) else (none)) = some r := by rw [if_pos rfl] at H; exact H
     clear H
     have H := H1
     clear H1
     by_cases c14 : t171.toList = ([98] : List UInt8)
     ·rw [if_pos c14] at H
      have c14b0 : (t171.toList == ([98] : List UInt8)) = true := beq_iff_eq.mpr c14
      have c14b1 : (t171.toList != ([98] : List UInt8)) = false := bne_eq_false_iff_eq.mpr c14
      clear c14
      by_cases c15 : t172 = true
      ·subst c15
       have H1 : (some (!t186)) = some r := by rw [if_pos rfl] at H; exact H
       clear H
       have H := H1
       clear H1
       obtain rfl := Option.some.inj H
       go_enter Try.func15, Try.ntmps15
       try go_wp2_with (first | ((with_reducible refine gate_callee (f := 18) rfl ?_); refine goesL_ (some 10) rfl rfl Try.func18 (by kernel_rfl) rfl #[.int .i64 1] rfl (by (try simp only [List.map_toArray, List.map_cons, List.map_nil]); first | done | rfl | (simp only [List.length_drop, List.length_take]; rfl)) ?_; (with_reducible refine (quarrylaw17_number.calls 1 t147 t148 t149 _ A1.out).mono ?_); rintro e w16 ⟨rfl, hb⟩; refine ⟨_, rfl, ?_⟩; have n0_ := Aside0.mk (below_step (by repeat (first | (with_reducible first | exact HB.out | apply below_alloc | apply pw_below_drewN | apply below_drew1) | exact HB.out)) hb); clear HB; have HB := n0_; clear n0_; (try clear hb); (try clear hb2); (try clear hk); (try clear hi)) | ((with_reducible refine gate_callee (f := 18) rfl ?_); refine goesL_ (some 12) rfl rfl Try.func18 (by kernel_rfl) rfl #[.int .i64 2] rfl (by (try simp only [List.map_toArray, List.map_cons, List.map_nil]); first | done | rfl | (simp only [List.length_drop, List.length_take]; rfl)) ?_; (with_reducible refine (quarrylaw17_number.calls 2 t150 t151 t152 _ A2.out).mono ?_); rintro e w17 ⟨rfl, hb⟩; refine ⟨_, rfl, ?_⟩; have n0_ := Aside0.mk (below_step (by repeat (first | (with_reducible first | exact HB.out | apply below_alloc | apply pw_below_drewN | apply below_drew1) | exact HB.out)) hb); clear HB; have HB := n0_; clear n0_; (try clear hb); (try clear hb2); (try clear hk); (try clear hi)) | ((with_reducible refine gate_dst (N := 13) rfl ?_); refine Kd.R_lit k32 _ 32 ?hg (N := 13) ?hd (xs := ([(⟨t147, t148, t149⟩ : S32), (⟨0, 0, (⟨#[]⟩ : ByteArray)⟩ : S32), (⟨t150, t151, t152⟩ : S32)] : List (S32))) (inner := [.int .i64 t147, .int .i64 t148, .string t149, .int .i64 0, .int .i64 0, .string (⟨#[]⟩ : ByteArray), .int .i64 t150, .int .i64 t151, .string t152]) (ok := fun _ => True) (okp := fun _ => True) ?hr ?hp (fun _ hk => hk) trivial (Below.refl _ _) (Nat.le_refl _) (by simp) ?_; (case hd => rfl); (case hg => rfl); (case hr => first | (go_simp; done) | (go_simp; rfl)); (case hp => exact (Reps.c3 (show Kd.M k32 _ _ _ (⟨t147, t148, t149⟩ : S32) [.int .i64 t147, .int .i64 t148, .string t149] from (k32_mkM _ _ _ (⟨t147, t148, t149⟩ : S32) )) (Reps.c3 (show Kd.M k32 _ _ _ (⟨0, 0, (⟨#[]⟩ : ByteArray)⟩ : S32) [.int .i64 0, .int .i64 0, .string (⟨#[]⟩ : ByteArray)] from (k32_mkM _ _ _ (⟨0, 0, (⟨#[]⟩ : ByteArray)⟩ : S32) )) (Reps.c3 (show Kd.M k32 _ _ _ (⟨t150, t151, t152⟩ : S32) [.int .i64 t150, .int .i64 t151, .string t152] from (k32_mkM _ _ _ (⟨t150, t151, t152⟩ : S32) )) (Reps.none _ _))))); intro v154 w18 ho19 hb hg_ hnew_; clear hg_ hnew_; (first | rw [← Ny153.out] at ho19 | (simp only [Int.reduceToNat] at ho19; rw [← Ny153.out] at ho19)); have n0_ := Aside0.mk (Kd.R_lower ho19 (below_size (by repeat (first | (with_reducible first | exact HB.out | apply below_alloc | apply pw_below_drewN | apply below_drew1) | exact HB.out)))); have n1_ := Aside0.mk (below_step (by repeat (first | (with_reducible first | exact HB.out | apply below_alloc | apply pw_below_drewN | apply below_drew1) | exact HB.out)) hb); clear HB; have HO155 := n0_; have HB := n1_; clear n0_ n1_; clear hb ho19; obtain ⟨Ao20, co20, eo20⟩ := Kd.R_slice HO155.out; subst eo20) | ((with_reducible refine gate_callee (f := 16) rfl ?_); refine goesL_ (some 14) rfl rfl Try.func16 (by kernel_rfl) rfl #[.int .i64 2, .slice Ao20 y153.length co20] rfl (by (try simp only [List.map_toArray, List.map_cons, List.map_nil]); first | done | rfl | (simp only [List.length_drop, List.length_take]; rfl)) ?_; (with_reducible refine (quarrylaw17_gathered.print 2 _ _ y153 t156 t157 t158 true _ ?side1 ?side2 A3.out).mono ?_); (case side1 => repeat (first | exact (Kd.R_reads' HO155.out).2.2 | (with_reducible refine Kd.C_alloc ?_ _) | (with_reducible refine Kd.C_drewN ?_ _) | (with_reducible refine Kd.C_drew ?_))); (case side2 => exact (Kd.R_reads' HO155.out).2.1); rintro e w21 ⟨rfl, hb⟩; refine ⟨_, rfl, ?_⟩; have n0_ := Aside0.mk (Kd.R_below (by (with_reducible repeat (first | apply Kd.R_alloc | apply Kd.R_drewN | apply Kd.R_drew)); exact HO155.out) hb); have n1_ := Aside0.mk (below_step (by repeat (first | (with_reducible first | exact HB.out | apply below_alloc | apply pw_below_drewN | apply below_drew1) | exact HB.out)) hb); clear HO155; clear HB; have HO155 := n0_; have HB := n1_; clear n0_ n1_; (try clear hb); (try clear hb2); (try clear hk); (try clear hi)) | ((with_reducible refine gate_dst (N := 1) rfl ?_); refine box_event ?hg (N := 1) ?hd (cs := #[.int .i64 0, .int .i64 0, .string (⟨#[]⟩ : ByteArray)]) (t := 32) ?hr ?_; (case hd => rfl); (case hg => rfl); (case hr => first | (go_simp; done) | (go_simp; rfl)); intro gb160 hg w22 hbox hb; have n0_ := Aside0.mk (Kd.R_below (Kd.R_elderB (by (with_reducible repeat (first | apply Kd.R_alloc | apply Kd.R_drewN | apply Kd.R_drew)); exact HO155.out) gb160 (Nat.le_of_eq hg.symm)) hb); have n1_ := Aside0.mk (below_step (by repeat (first | (with_reducible first | exact HB.out | apply below_alloc | apply pw_below_drewN | apply below_drew1) | exact HB.out)) hb); have n2_ := Aside0.mk (hbox); have n3_ := Aside0.mk ((by rw [hg]; exact (below_size (by repeat (first | (with_reducible first | exact HB.out | apply below_alloc | apply pw_below_drewN | apply below_drew1) | exact HB.out))) : w.heap.size ≤ gb160)); have n4_ := Aside0.mk ((by rw [hg]; exact (below_size (by repeat (first | (with_reducible first | exact HB.out | apply below_alloc | apply pw_below_drewN | apply below_drew1) | exact HB.out))) : w.heap.size ≤ gb160)); clear HO155; clear HB; have HO155 := n0_; have HB := n1_; have BK160 := n2_; have GW160 := n3_; have GE160 := n4_; clear n0_ n1_ n2_ n3_ n4_; clear hb hbox hg; have hcz23_0 : w22.cell? ⟨gb160, 0, none⟩ = some (.int .i64 0) := (blk_cell BK160.out 0).trans rfl; have hcz23_1 : w22.cell? ⟨gb160, 1, none⟩ = some (.int .i64 0) := (blk_cell BK160.out 1).trans rfl; have hcz23_2 : w22.cell? ⟨gb160, 2, none⟩ = some (.string (⟨#[]⟩ : ByteArray)) := (blk_cell BK160.out 2).trans rfl; have hfz23_0 := blk_frozen BK160.out 0; have hfz23_1 := blk_frozen BK160.out 1; have hfz23_2 := blk_frozen BK160.out 2) | ((with_reducible refine gate_callee (f := 16) rfl ?_); refine goesL_ (some 18) rfl rfl Try.func16 (by kernel_rfl) rfl #[.int .i64 2, .slice none 0 0] rfl (by (try simp only [List.map_toArray, List.map_cons, List.map_nil]); first | done | rfl | (simp only [List.length_drop, List.length_take]; rfl)) ?_; (refine (quarrylaw17_gathered.print 2 _ _ ([] : List (S32)) t161 t162 t163 true _ ?side1 ?side2 A4.out).mono ?_); (case side1 => exact Kd.C_nil _ _); (case side2 => exact Nat.le_refl _); rintro e w24 ⟨rfl, hb⟩; refine ⟨_, rfl, ?_⟩; have n0_ := Aside0.mk (Kd.R_below (by (with_reducible repeat (first | apply Kd.R_alloc | apply Kd.R_drewN | apply Kd.R_drew)); exact (Kd.R_mono (Kd.R_far (p := ⟨gb160, 2, none⟩) (Kd.R_far (p := ⟨gb160, 1, none⟩) (Kd.R_far (p := ⟨gb160, 0, none⟩) (Kd.R_mono HO155.out (fun k_ hk => (⟨hk, hk.2⟩ : _ ∧ k_ ≠ gb160))) (fun _ hk => hk.2) (.int .i64 t156)) (fun _ hk => hk.2) (.int .i64 t157)) (fun _ hk => hk.2) (.string t158)) (fun _ h_ => h_.1))) hb); have n1_ := Aside0.mk (blk_below (g := gb160) (o := .cells #[.int .i64 t156, .int .i64 t157, .string t158] 32 (0, 0)) (by (with_reducible repeat (first | refine blk_drewN ?_ _ | refine blk_drew ?_ | refine blk_alloc ?_ _)); refine blk_put (cs := #[.int .i64 t156, .int .i64 t157, .string (⟨#[]⟩ : ByteArray)]) ?_ 2 _ rfl; (with_reducible repeat (first | refine blk_drewN ?_ _ | refine blk_drew ?_ | refine blk_alloc ?_ _)); refine blk_put (cs := #[.int .i64 t156, .int .i64 0, .string (⟨#[]⟩ : ByteArray)]) ?_ 1 _ rfl; (with_reducible repeat (first | refine blk_drewN ?_ _ | refine blk_drew ?_ | refine blk_alloc ?_ _)); refine blk_put (cs := #[.int .i64 0, .int .i64 0, .string (⟨#[]⟩ : ByteArray)]) ?_ 0 _ rfl; (with_reducible repeat (first | refine blk_drewN ?_ _ | refine blk_drew ?_ | refine blk_alloc ?_ _)); exact BK160.out) hb); have n2_ := Aside0.mk (below_step (by repeat (first | (with_reducible first | exact HB.out | apply below_alloc | apply pw_below_drewN | apply below_drew1 | refine below_set ?_ GE160.out) | exact HB.out)) hb); clear HO155; clear BK160; clear HB; have HO155 := n0_; have BK160 := n1_; have HB := n2_; clear n0_ n1_ n2_; (try clear hb); (try clear hb2); (try clear hk); (try clear hi)) | ((with_reducible refine gate_dst (N := 3) rfl ?_); refine box_event ?hg (N := 3) ?hd (cs := #[.int .i64 0, .int .i64 0, .string (⟨#[]⟩ : ByteArray)]) (t := 32) ?hr ?_; (case hd => rfl); (case hg => rfl); (case hr => first | (go_simp; done) | (go_simp; rfl)); intro gb165 hg w25 hbox hb; have n0_ := Aside0.mk (Kd.R_below (Kd.R_elderB (by (with_reducible repeat (first | apply Kd.R_alloc | apply Kd.R_drewN | apply Kd.R_drew)); exact HO155.out) gb165 (Nat.le_of_eq hg.symm)) hb); have n1_ := Aside0.mk (blk_below (g := gb160) (o := .cells #[.int .i64 t156, .int .i64 t157, .string t158] 32 (0, 0)) (bk_ BK160) hb); have n2_ := Aside0.mk (below_step (by repeat (first | (with_reducible first | exact HB.out | apply below_alloc | apply pw_below_drewN | apply below_drew1 | refine below_set ?_ GE160.out) | exact HB.out)) hb); have n3_ := Aside0.mk (hbox); have n4_ := Aside0.mk ((by rw [hg]; exact (below_size (by repeat (first | (with_reducible first | exact HB.out | apply below_alloc | apply pw_below_drewN | apply below_drew1 | refine below_set ?_ GE160.out) | exact HB.out))) : w.heap.size ≤ gb165)); have n5_ := Aside0.mk ((by rw [hg]; exact (below_size (by repeat (first | (with_reducible first | exact HB.out | apply below_alloc | apply pw_below_drewN | apply below_drew1 | refine below_set ?_ GE160.out) | exact HB.out))) : w.heap.size ≤ gb165)); have n6_ := Aside0.mk ((by rw [hg]; exact Nat.ne_of_lt (blk_lt (g := gb160) (o := .cells #[.int .i64 t156, .int .i64 t157, .string t158] 32 (0, 0)) (bk_ BK160)) : gb160 ≠ gb165)); have n7_ := Aside0.mk ((by rw [hg]; exact Nat.ne_of_gt (blk_lt (g := gb160) (o := .cells #[.int .i64 t156, .int .i64 t157, .string t158] 32 (0, 0)) (bk_ BK160)) : gb165 ≠ gb160)); clear HO155; clear BK160; clear HB; have HO155 := n0_; have BK160 := n1_; have HB := n2_; have BK165 := n3_; have GW165 := n4_; have GE165 := n5_; have NB160_165 := n6_; have NB165_160 := n7_; clear n0_ n1_ n2_ n3_ n4_ n5_ n6_ n7_; clear hb hbox hg; have hnb26 := NB165_160.out; have hnc26 := NB160_165.out; have hcz27_0 : w25.cell? ⟨gb165, 0, none⟩ = some (.int .i64 0) := (blk_cell BK165.out 0).trans rfl; have hcz27_1 : w25.cell? ⟨gb165, 1, none⟩ = some (.int .i64 0) := (blk_cell BK165.out 1).trans rfl; have hcz27_2 : w25.cell? ⟨gb165, 2, none⟩ = some (.string (⟨#[]⟩ : ByteArray)) := (blk_cell BK165.out 2).trans rfl; have hfz27_0 := blk_frozen BK165.out 0; have hfz27_1 := blk_frozen BK165.out 1; have hfz27_2 := blk_frozen BK165.out 2) | ((with_reducible refine gate_dst (N := 24) rfl ?_); refine Kd.R_lit k32 _ 32 ?hg (N := 24) ?hd (xs := ([(⟨3, 0, (⟨#[97]⟩ : ByteArray)⟩ : S32), (⟨3, 0, (⟨#[98]⟩ : ByteArray)⟩ : S32)] : List (S32))) (inner := [.int .i64 3, .int .i64 0, .string (⟨#[97]⟩ : ByteArray), .int .i64 3, .int .i64 0, .string (⟨#[98]⟩ : ByteArray)]) (ok := fun _ => True) (okp := fun _ => True) ?hr ?hp (fun _ hk => hk) trivial (Below.refl _ _) (Nat.le_refl _) (by simp) ?_; (case hd => rfl); (case hg => rfl); (case hr => first | (go_simp; done) | (go_simp; rfl)); (case hp => exact (Reps.c3 (show Kd.M k32 _ _ _ (⟨3, 0, (⟨#[97]⟩ : ByteArray)⟩ : S32) [.int .i64 3, .int .i64 0, .string (⟨#[97]⟩ : ByteArray)] from (k32_mkM _ _ _ (⟨3, 0, (⟨#[97]⟩ : ByteArray)⟩ : S32) )) (Reps.c3 (show Kd.M k32 _ _ _ (⟨3, 0, (⟨#[98]⟩ : ByteArray)⟩ : S32) [.int .i64 3, .int .i64 0, .string (⟨#[98]⟩ : ByteArray)] from (k32_mkM _ _ _ (⟨3, 0, (⟨#[98]⟩ : ByteArray)⟩ : S32) )) (Reps.none _ _)))); intro v167 w28 ho29 hb hg_ hnew_; clear hg_ hnew_; (first | rw [← Ny166.out] at ho29 | (simp only [Int.reduceToNat] at ho29; rw [← Ny166.out] at ho29)); have n0_ := Aside0.mk (Kd.R_elder' (by (with_reducible repeat (first | apply Kd.R_alloc | apply Kd.R_drewN | apply Kd.R_drew)); exact (Kd.R_mono (Kd.R_far (p := ⟨gb165, 2, none⟩) (Kd.R_far (p := ⟨gb165, 1, none⟩) (Kd.R_far (p := ⟨gb165, 0, none⟩) (Kd.R_mono HO155.out (fun k_ hk => (⟨hk, hk.2⟩ : _ ∧ k_ ≠ gb165))) (fun _ hk => hk.2) (.int .i64 t161)) (fun _ hk => hk.2) (.int .i64 t162)) (fun _ hk => hk.2) (.string t163)) (fun _ h_ => h_.1))) (Kd.R_base ho29) hb); have n1_ := Aside0.mk (Kd.R_lower (Kd.R_newB (Kd.R_newB (Kd.R_new' ho29 (Kd.R_lt (by (with_reducible repeat (first | apply Kd.R_alloc | apply Kd.R_drewN | apply Kd.R_drew)); exact (Kd.R_mono (Kd.R_far (p := ⟨gb165, 2, none⟩) (Kd.R_far (p := ⟨gb165, 1, none⟩) (Kd.R_far (p := ⟨gb165, 0, none⟩) (Kd.R_mono HO155.out (fun k_ hk => (⟨hk, hk.2⟩ : _ ∧ k_ ≠ gb165))) (fun _ hk => hk.2) (.int .i64 t161)) (fun _ hk => hk.2) (.int .i64 t162)) (fun _ hk => hk.2) (.string t163)) (fun _ h_ => h_.1))))) (g := gb160) (o := .cells #[.int .i64 t156, .int .i64 t157, .string t158] 32 (0, 0)) (by (with_reducible repeat (first | refine blk_drewN ?_ _ | refine blk_drew ?_ | refine blk_alloc ?_ _)); refine blk_far ?_ NB160_165.out _; (with_reducible repeat (first | refine blk_drewN ?_ _ | refine blk_drew ?_ | refine blk_alloc ?_ _)); refine blk_far ?_ NB160_165.out _; (with_reducible repeat (first | refine blk_drewN ?_ _ | refine blk_drew ?_ | refine blk_alloc ?_ _)); refine blk_far ?_ NB160_165.out _; (with_reducible repeat (first | refine blk_drewN ?_ _ | refine blk_drew ?_ | refine blk_alloc ?_ _)); exact BK160.out)) (g := gb165) (o := .cells #[.int .i64 t161, .int .i64 t162, .string t163] 32 (0, 0)) (by (with_reducible repeat (first | refine blk_drewN ?_ _ | refine blk_drew ?_ | refine blk_alloc ?_ _)); refine blk_put (cs := #[.int .i64 t161, .int .i64 t162, .string (⟨#[]⟩ : ByteArray)]) ?_ 2 _ rfl; (with_reducible repeat (first | refine blk_drewN ?_ _ | refine blk_drew ?_ | refine blk_alloc ?_ _)); refine blk_put (cs := #[.int .i64 t161, .int .i64 0, .string (⟨#[]⟩ : ByteArray)]) ?_ 1 _ rfl; (with_reducible repeat (first | refine blk_drewN ?_ _ | refine blk_drew ?_ | refine blk_alloc ?_ _)); refine blk_put (cs := #[.int .i64 0, .int .i64 0, .string (⟨#[]⟩ : ByteArray)]) ?_ 0 _ rfl; (with_reducible repeat (first | refine blk_drewN ?_ _ | refine blk_drew ?_ | refine blk_alloc ?_ _)); exact BK165.out)) (below_size (by repeat (first | (with_reducible first | exact HB.out | apply below_alloc | apply pw_below_drewN | apply below_drew1 | refine below_set ?_ GE160.out | refine below_set ?_ GE165.out) | exact HB.out)))); have n2_ := Aside0.mk (blk_below (g := gb160) (o := .cells #[.int .i64 t156, .int .i64 t157, .string t158] 32 (0, 0)) (by (with_reducible repeat (first | refine blk_drewN ?_ _ | refine blk_drew ?_ | refine blk_alloc ?_ _)); refine blk_far ?_ NB160_165.out _; (with_reducible repeat (first | refine blk_drewN ?_ _ | refine blk_drew ?_ | refine blk_alloc ?_ _)); refine blk_far ?_ NB160_165.out _; (with_reducible repeat (first | refine blk_drewN ?_ _ | refine blk_drew ?_ | refine blk_alloc ?_ _)); refine blk_far ?_ NB160_165.out _; (with_reducible repeat (first | refine blk_drewN ?_ _ | refine blk_drew ?_ | refine blk_alloc ?_ _)); exact BK160.out) hb); have n3_ := Aside0.mk (blk_below (g := gb165) (o := .cells #[.int .i64 t161, .int .i64 t162, .string t163] 32 (0, 0)) (by (with_reducible repeat (first | refine blk_drewN ?_ _ | refine blk_drew ?_ | refine blk_alloc ?_ _)); refine blk_put (cs := #[.int .i64 t161, .int .i64 t162, .string (⟨#[]⟩ : ByteArray)]) ?_ 2 _ rfl; (with_reducible repeat (first | refine blk_drewN ?_ _ | refine blk_drew ?_ | refine blk_alloc ?_ _)); refine blk_put (cs := #[.int .i64 t161, .int .i64 0, .string (⟨#[]⟩ : ByteArray)]) ?_ 1 _ rfl; (with_reducible repeat (first | refine blk_drewN ?_ _ | refine blk_drew ?_ | refine blk_alloc ?_ _)); refine blk_put (cs := #[.int .i64 0, .int .i64 0, .string (⟨#[]⟩ : ByteArray)]) ?_ 0 _ rfl; (with_reducible repeat (first | refine blk_drewN ?_ _ | refine blk_drew ?_ | refine blk_alloc ?_ _)); exact BK165.out) hb); have n4_ := Aside0.mk (below_step (by repeat (first | (with_reducible first | exact HB.out | apply below_alloc | apply pw_below_drewN | apply below_drew1 | refine below_set ?_ GE160.out | refine below_set ?_ GE165.out) | exact HB.out)) hb); clear HO155; clear BK160; clear BK165; clear HB; have HO155 := n0_; have HO168 := n1_; have BK160 := n2_; have BK165 := n3_; have HB := n4_; clear n0_ n1_ n2_ n3_ n4_; clear hb ho29; obtain ⟨Ao30, co30, eo30⟩ := Kd.R_slice HO168.out; subst eo30) | ((with_reducible refine gate_callee (f := 16) rfl ?_); refine goesL_ (some 25) rfl rfl Try.func16 (by kernel_rfl) rfl #[.int .i64 4, .slice Ao30 y166.length co30] rfl (by (try simp only [List.map_toArray, List.map_cons, List.map_nil]); first | done | rfl | (simp only [List.length_drop, List.length_take]; rfl)) ?_; (with_reducible refine (quarrylaw17_gathered.print 4 _ _ y166 t169 t170 t171 true _ ?side1 ?side2 A5.out).mono ?_); (case side1 => repeat (first | exact (Kd.R_reads' HO168.out).2.2 | (with_reducible refine Kd.C_alloc ?_ _) | (with_reducible refine Kd.C_drewN ?_ _) | (with_reducible refine Kd.C_drew ?_))); (case side2 => exact (Kd.R_reads' HO168.out).2.1); rintro e w31 ⟨rfl, hb⟩; refine ⟨_, rfl, ?_⟩; have n0_ := Aside0.mk (Kd.R_below (by (with_reducible repeat (first | apply Kd.R_alloc | apply Kd.R_drewN | apply Kd.R_drew)); exact HO155.out) hb); have n1_ := Aside0.mk (Kd.R_below (by (with_reducible repeat (first | apply Kd.R_alloc | apply Kd.R_drewN | apply Kd.R_drew)); exact HO168.out) hb); have n2_ := Aside0.mk (blk_below (g := gb160) (o := .cells #[.int .i64 t156, .int .i64 t157, .string t158] 32 (0, 0)) (bk_ BK160) hb); have n3_ := Aside0.mk (blk_below (g := gb165) (o := .cells #[.int .i64 t161, .int .i64 t162, .string t163] 32 (0, 0)) (bk_ BK165) hb); have n4_ := Aside0.mk (below_step (by repeat (first | (with_reducible first | exact HB.out | apply below_alloc | apply pw_below_drewN | apply below_drew1 | refine below_set ?_ GE160.out | refine below_set ?_ GE165.out) | exact HB.out)) hb); clear HO155; clear HO168; clear BK160; clear BK165; clear HB; have HO155 := n0_; have HO168 := n1_; have BK160 := n2_; have BK165 := n3_; have HB := n4_; clear n0_ n1_ n2_ n3_ n4_; (try clear hb); (try clear hb2); (try clear hk); (try clear hi)) | ((with_reducible refine gate_dst (N := 5) rfl ?_); refine box_event ?hg (N := 5) ?hd (cs := #[.int .i64 0, .int .i64 0, .string (⟨#[]⟩ : ByteArray)]) (t := 32) ?hr ?_; (case hd => rfl); (case hg => rfl); (case hr => first | (go_simp; done) | (go_simp; rfl)); intro gb173 hg w32 hbox hb; have n0_ := Aside0.mk (Kd.R_below (Kd.R_elderB (by (with_reducible repeat (first | apply Kd.R_alloc | apply Kd.R_drewN | apply Kd.R_drew)); exact HO155.out) gb173 (Nat.le_of_eq hg.symm)) hb); have n1_ := Aside0.mk (Kd.R_below (Kd.R_elderB (by (with_reducible repeat (first | apply Kd.R_alloc | apply Kd.R_drewN | apply Kd.R_drew)); exact HO168.out) gb173 (Nat.le_of_eq hg.symm)) hb); have n2_ := Aside0.mk (blk_below (g := gb160) (o := .cells #[.int .i64 t156, .int .i64 t157, .string t158] 32 (0, 0)) (bk_ BK160) hb); have n3_ := Aside0.mk (blk_below (g := gb165) (o := .cells #[.int .i64 t161, .int .i64 t162, .string t163] 32 (0, 0)) (bk_ BK165) hb); have n4_ := Aside0.mk (below_step (by repeat (first | (with_reducible first | exact HB.out | apply below_alloc | apply pw_below_drewN | apply below_drew1 | refine below_set ?_ GE160.out | refine below_set ?_ GE165.out) | exact HB.out)) hb); have n5_ := Aside0.mk (hbox); have n6_ := Aside0.mk ((by rw [hg]; exact (below_size (by repeat (first | (with_reducible first | exact HB.out | apply below_alloc | apply pw_below_drewN | apply below_drew1 | refine below_set ?_ GE160.out | refine below_set ?_ GE165.out) | exact HB.out))) : w.heap.size ≤ gb173)); have n7_ := Aside0.mk ((by rw [hg]; exact (below_size (by repeat (first | (with_reducible first | exact HB.out | apply below_alloc | apply pw_below_drewN | apply below_drew1 | refine below_set ?_ GE160.out | refine below_set ?_ GE165.out) | exact HB.out))) : w.heap.size ≤ gb173)); have n8_ := Aside0.mk ((by rw [hg]; exact Nat.ne_of_lt (blk_lt (g := gb160) (o := .cells #[.int .i64 t156, .int .i64 t157, .string t158] 32 (0, 0)) (bk_ BK160)) : gb160 ≠ gb173)); have n9_ := Aside0.mk ((by rw [hg]; exact Nat.ne_of_gt (blk_lt (g := gb160) (o := .cells #[.int .i64 t156, .int .i64 t157, .string t158] 32 (0, 0)) (bk_ BK160)) : gb173 ≠ gb160)); have n10_ := Aside0.mk ((by rw [hg]; exact Nat.ne_of_lt (blk_lt (g := gb165) (o := .cells #[.int .i64 t161, .int .i64 t162, .string t163] 32 (0, 0)) (bk_ BK165)) : gb165 ≠ gb173)); have n11_ := Aside0.mk ((by rw [hg]; exact Nat.ne_of_gt (blk_lt (g := gb165) (o := .cells #[.int .i64 t161, .int .i64 t162, .string t163] 32 (0, 0)) (bk_ BK165)) : gb173 ≠ gb165)); clear HO155; clear HO168; clear BK160; clear BK165; clear HB; have HO155 := n0_; have HO168 := n1_; have BK160 := n2_; have BK165 := n3_; have HB := n4_; have BK173 := n5_; have GW173 := n6_; have GE173 := n7_; have NB160_173 := n8_; have NB173_160 := n9_; have NB165_173 := n10_; have NB173_165 := n11_; clear n0_ n1_ n2_ n3_ n4_ n5_ n6_ n7_ n8_ n9_ n10_ n11_; clear hb hbox hg; have hnb33 := NB173_160.out; have hnc33 := NB160_173.out; have hnb34 := NB173_165.out; have hnc34 := NB165_173.out; have hcz35_0 : w32.cell? ⟨gb173, 0, none⟩ = some (.int .i64 0) := (blk_cell BK173.out 0).trans rfl; have hcz35_1 : w32.cell? ⟨gb173, 1, none⟩ = some (.int .i64 0) := (blk_cell BK173.out 1).trans rfl; have hcz35_2 : w32.cell? ⟨gb173, 2, none⟩ = some (.string (⟨#[]⟩ : ByteArray)) := (blk_cell BK173.out 2).trans rfl; have hfz35_0 := blk_frozen BK173.out 0; have hfz35_1 := blk_frozen BK173.out 1; have hfz35_2 := blk_frozen BK173.out 2) | ((with_reducible refine gate_callee (f := 18) rfl ?_); refine goesL_ (some 29) rfl rfl Try.func18 (by kernel_rfl) rfl #[.int .i64 9223372036854775807] rfl (by (try simp only [List.map_toArray, List.map_cons, List.map_nil]); first | done | rfl | (simp only [List.length_drop, List.length_take]; rfl)) ?_; (with_reducible refine (quarrylaw17_number.calls 9223372036854775807 t174 t175 t176 _ A6.out).mono ?_); rintro e w36 ⟨rfl, hb⟩; refine ⟨_, rfl, ?_⟩; have n0_ := Aside0.mk (Kd.R_below (by (with_reducible repeat (first | apply Kd.R_alloc | apply Kd.R_drewN | apply Kd.R_drew)); exact (Kd.R_mono (Kd.R_far (p := ⟨gb173, 2, none⟩) (Kd.R_far (p := ⟨gb173, 1, none⟩) (Kd.R_far (p := ⟨gb173, 0, none⟩) (Kd.R_mono HO155.out (fun k_ hk => (⟨hk, hk.2⟩ : _ ∧ k_ ≠ gb173))) (fun _ hk => hk.2) (.int .i64 t169)) (fun _ hk => hk.2) (.int .i64 t170)) (fun _ hk => hk.2) (.string t171)) (fun _ h_ => h_.1))) hb); have n1_ := Aside0.mk (Kd.R_below (by (with_reducible repeat (first | apply Kd.R_alloc | apply Kd.R_drewN | apply Kd.R_drew)); exact (Kd.R_mono (Kd.R_far (p := ⟨gb173, 2, none⟩) (Kd.R_far (p := ⟨gb173, 1, none⟩) (Kd.R_far (p := ⟨gb173, 0, none⟩) (Kd.R_mono HO168.out (fun k_ hk => (⟨hk, hk.2⟩ : _ ∧ k_ ≠ gb173))) (fun _ hk => hk.2) (.int .i64 t169)) (fun _ hk => hk.2) (.int .i64 t170)) (fun _ hk => hk.2) (.string t171)) (fun _ h_ => h_.1))) hb); have n2_ := Aside0.mk (blk_below (g := gb160) (o := .cells #[.int .i64 t156, .int .i64 t157, .string t158] 32 (0, 0)) (by (with_reducible repeat (first | refine blk_drewN ?_ _ | refine blk_drew ?_ | refine blk_alloc ?_ _)); refine blk_far ?_ NB160_173.out _; (with_reducible repeat (first | refine blk_drewN ?_ _ | refine blk_drew ?_ | refine blk_alloc ?_ _)); refine blk_far ?_ NB160_173.out _; (with_reducible repeat (first | refine blk_drewN ?_ _ | refine blk_drew ?_ | refine blk_alloc ?_ _)); refine blk_far ?_ NB160_173.out _; (with_reducible repeat (first | refine blk_drewN ?_ _ | refine blk_drew ?_ | refine blk_alloc ?_ _)); exact BK160.out) hb); have n3_ := Aside0.mk (blk_below (g := gb165) (o := .cells #[.int .i64 t161, .int .i64 t162, .string t163] 32 (0, 0)) (by (with_reducible repeat (first | refine blk_drewN ?_ _ | refine blk_drew ?_ | refine blk_alloc ?_ _)); refine blk_far ?_ NB165_173.out _; (with_reducible repeat (first | refine blk_drewN ?_ _ | refine blk_drew ?_ | refine blk_alloc ?_ _)); refine blk_far ?_ NB165_173.out _; (with_reducible repeat (first | refine blk_drewN ?_ _ | refine blk_drew ?_ | refine blk_alloc ?_ _)); refine blk_far ?_ NB165_173.out _; (with_reducible repeat (first | refine blk_drewN ?_ _ | refine blk_drew ?_ | refine blk_alloc ?_ _)); exact BK165.out) hb); have n4_ := Aside0.mk (blk_below (g := gb173) (o := .cells #[.int .i64 t169, .int .i64 t170, .string t171] 32 (0, 0)) (by (with_reducible repeat (first | refine blk_drewN ?_ _ | refine blk_drew ?_ | refine blk_alloc ?_ _)); refine blk_put (cs := #[.int .i64 t169, .int .i64 t170, .string (⟨#[]⟩ : ByteArray)]) ?_ 2 _ rfl; (with_reducible repeat (first | refine blk_drewN ?_ _ | refine blk_drew ?_ | refine blk_alloc ?_ _)); refine blk_put (cs := #[.int .i64 t169, .int .i64 0, .string (⟨#[]⟩ : ByteArray)]) ?_ 1 _ rfl; (with_reducible repeat (first | refine blk_drewN ?_ _ | refine blk_drew ?_ | refine blk_alloc ?_ _)); refine blk_put (cs := #[.int .i64 0, .int .i64 0, .string (⟨#[]⟩ : ByteArray)]) ?_ 0 _ rfl; (with_reducible repeat (first | refine blk_drewN ?_ _ | refine blk_drew ?_ | refine blk_alloc ?_ _)); exact BK173.out) hb); have n5_ := Aside0.mk (below_step (by repeat (first | (with_reducible first | exact HB.out | apply below_alloc | apply pw_below_drewN | apply below_drew1 | refine below_set ?_ GE160.out | refine below_set ?_ GE165.out | refine below_set ?_ GE173.out) | exact HB.out)) hb); clear HO155; clear HO168; clear BK160; clear BK165; clear BK173; clear HB; have HO155 := n0_; have HO168 := n1_; have BK160 := n2_; have BK165 := n3_; have BK173 := n4_; have HB := n5_; clear n0_ n1_ n2_ n3_ n4_ n5_; (try clear hb); (try clear hb2); (try clear hk); (try clear hi)) | ((with_reducible refine gate_callee (f := 18) rfl ?_); refine goesL_ (some 30) rfl rfl Try.func18 (by kernel_rfl) rfl #[.int .i64 1] rfl (by (try simp only [List.map_toArray, List.map_cons, List.map_nil]); first | done | rfl | (simp only [List.length_drop, List.length_take]; rfl)) ?_; (with_reducible refine (quarrylaw17_number.calls 1 t177 t178 t179 _ A7.out).mono ?_); rintro e w37 ⟨rfl, hb⟩; refine ⟨_, rfl, ?_⟩; have n0_ := Aside0.mk (Kd.R_below (by (with_reducible repeat (first | apply Kd.R_alloc | apply Kd.R_drewN | apply Kd.R_drew)); exact HO155.out) hb); have n1_ := Aside0.mk (Kd.R_below (by (with_reducible repeat (first | apply Kd.R_alloc | apply Kd.R_drewN | apply Kd.R_drew)); exact HO168.out) hb); have n2_ := Aside0.mk (blk_below (g := gb160) (o := .cells #[.int .i64 t156, .int .i64 t157, .string t158] 32 (0, 0)) (bk_ BK160) hb); have n3_ := Aside0.mk (blk_below (g := gb165) (o := .cells #[.int .i64 t161, .int .i64 t162, .string t163] 32 (0, 0)) (bk_ BK165) hb); have n4_ := Aside0.mk (blk_below (g := gb173) (o := .cells #[.int .i64 t169, .int .i64 t170, .string t171] 32 (0, 0)) (bk_ BK173) hb); have n5_ := Aside0.mk (below_step (by repeat (first | (with_reducible first | exact HB.out | apply below_alloc | apply pw_below_drewN | apply below_drew1 | refine below_set ?_ GE160.out | refine below_set ?_ GE165.out | refine below_set ?_ GE173.out) | exact HB.out)) hb); clear HO155; clear HO168; clear BK160; clear BK165; clear BK173; clear HB; have HO155 := n0_; have HO168 := n1_; have BK160 := n2_; have BK165 := n3_; have BK173 := n4_; have HB := n5_; clear n0_ n1_ n2_ n3_ n4_ n5_; (try clear hb); (try clear hb2); (try clear hk); (try clear hi)) | ((with_reducible refine gate_dst (N := 31) rfl ?_); refine Kd.R_lit k32 _ 32 ?hg (N := 31) ?hd (xs := ([(⟨t174, t175, t176⟩ : S32), (⟨t177, t178, t179⟩ : S32)] : List (S32))) (inner := [.int .i64 t174, .int .i64 t175, .string t176, .int .i64 t177, .int .i64 t178, .string t179]) (ok := fun _ => True) (okp := fun _ => True) ?hr ?hp (fun _ hk => hk) trivial (Below.refl _ _) (Nat.le_refl _) (by simp) ?_; (case hd => rfl); (case hg => rfl); (case hr => first | (go_simp; done) | (go_simp; rfl)); (case hp => exact (Reps.c3 (show Kd.M k32 _ _ _ (⟨t174, t175, t176⟩ : S32) [.int .i64 t174, .int .i64 t175, .string t176] from (k32_mkM _ _ _ (⟨t174, t175, t176⟩ : S32) )) (Reps.c3 (show Kd.M k32 _ _ _ (⟨t177, t178, t179⟩ : S32) [.int .i64 t177, .int .i64 t178, .string t179] from (k32_mkM _ _ _ (⟨t177, t178, t179⟩ : S32) )) (Reps.none _ _)))); intro v181 w38 ho39 hb hg_ hnew_; clear hg_ hnew_; (first | rw [← Ny180.out] at ho39 | (simp only [Int.reduceToNat] at ho39; rw [← Ny180.out] at ho39)); have n0_ := Aside0.mk (Kd.R_elder' (by (with_reducible repeat (first | apply Kd.R_alloc | apply Kd.R_drewN | apply Kd.R_drew)); exact HO155.out) (Kd.R_base ho39) hb); have n1_ := Aside0.mk (Kd.R_elder' (by (with_reducible repeat (first | apply Kd.R_alloc | apply Kd.R_drewN | apply Kd.R_drew)); exact HO168.out) (Kd.R_base ho39) hb); have n2_ := Aside0.mk (Kd.R_lower (Kd.R_newB (Kd.R_newB (Kd.R_newB (Kd.R_new' (Kd.R_new' ho39 (Kd.R_lt (by (with_reducible repeat (first | apply Kd.R_alloc | apply Kd.R_drewN | apply Kd.R_drew)); exact HO155.out))) (Kd.R_lt (by (with_reducible repeat (first | apply Kd.R_alloc | apply Kd.R_drewN | apply Kd.R_drew)); exact HO168.out))) (g := gb160) (o := .cells #[.int .i64 t156, .int .i64 t157, .string t158] 32 (0, 0)) (bk_ BK160)) (g := gb165) (o := .cells #[.int .i64 t161, .int .i64 t162, .string t163] 32 (0, 0)) (bk_ BK165)) (g := gb173) (o := .cells #[.int .i64 t169, .int .i64 t170, .string t171] 32 (0, 0)) (bk_ BK173)) (below_size (by repeat (first | (with_reducible first | exact HB.out | apply below_alloc | apply pw_below_drewN | apply below_drew1 | refine below_set ?_ GE160.out | refine below_set ?_ GE165.out | refine below_set ?_ GE173.out) | exact HB.out)))); have n3_ := Aside0.mk (blk_below (g := gb160) (o := .cells #[.int .i64 t156, .int .i64 t157, .string t158] 32 (0, 0)) (bk_ BK160) hb); have n4_ := Aside0.mk (blk_below (g := gb165) (o := .cells #[.int .i64 t161, .int .i64 t162, .string t163] 32 (0, 0)) (bk_ BK165) hb); have n5_ := Aside0.mk (blk_below (g := gb173) (o := .cells #[.int .i64 t169, .int .i64 t170, .string t171] 32 (0, 0)) (bk_ BK173) hb); have n6_ := Aside0.mk (below_step (by repeat (first | (with_reducible first | exact HB.out | apply below_alloc | apply pw_below_drewN | apply below_drew1 | refine below_set ?_ GE160.out | refine below_set ?_ GE165.out | refine below_set ?_ GE173.out) | exact HB.out)) hb); clear HO155; clear HO168; clear BK160; clear BK165; clear BK173; clear HB; have HO155 := n0_; have HO168 := n1_; have HO182 := n2_; have BK160 := n3_; have BK165 := n4_; have BK173 := n5_; have HB := n6_; clear n0_ n1_ n2_ n3_ n4_ n5_ n6_; clear hb ho39; obtain ⟨Ao40, co40, eo40⟩ := Kd.R_slice HO182.out; subst eo40) | ((with_reducible refine gate_callee (f := 16) rfl ?_); refine goesL_ (some 32) rfl rfl Try.func16 (by kernel_rfl) rfl #[.int .i64 2, .slice Ao40 y180.length co40] rfl (by (try simp only [List.map_toArray, List.map_cons, List.map_nil]); first | done | rfl | (simp only [List.length_drop, List.length_take]; rfl)) ?_; (with_reducible refine (quarrylaw17_gathered.print 2 _ _ y180 t183 t184 t185 t186 _ ?side1 ?side2 A8.out).mono ?_); (case side1 => repeat (first | exact (Kd.R_reads' HO182.out).2.2 | (with_reducible refine Kd.C_alloc ?_ _) | (with_reducible refine Kd.C_drewN ?_ _) | (with_reducible refine Kd.C_drew ?_))); (case side2 => exact (Kd.R_reads' HO182.out).2.1); rintro e w41 ⟨rfl, hb⟩; refine ⟨_, rfl, ?_⟩; have n0_ := Aside0.mk (Kd.R_below (by (with_reducible repeat (first | apply Kd.R_alloc | apply Kd.R_drewN | apply Kd.R_drew)); exact HO155.out) hb); have n1_ := Aside0.mk (Kd.R_below (by (with_reducible repeat (first | apply Kd.R_alloc | apply Kd.R_drewN | apply Kd.R_drew)); exact HO168.out) hb); have n2_ := Aside0.mk (Kd.R_below (by (with_reducible repeat (first | apply Kd.R_alloc | apply Kd.R_drewN | apply Kd.R_drew)); exact HO182.out) hb); have n3_ := Aside0.mk (blk_below (g := gb160) (o := .cells #[.int .i64 t156, .int .i64 t157, .string t158] 32 (0, 0)) (bk_ BK160) hb); have n4_ := Aside0.mk (blk_below (g := gb165) (o := .cells #[.int .i64 t161, .int .i64 t162, .string t163] 32 (0, 0)) (bk_ BK165) hb); have n5_ := Aside0.mk (blk_below (g := gb173) (o := .cells #[.int .i64 t169, .int .i64 t170, .string t171] 32 (0, 0)) (bk_ BK173) hb); have n6_ := Aside0.mk (below_step (by repeat (first | (with_reducible first | exact HB.out | apply below_alloc | apply pw_below_drewN | apply below_drew1 | refine below_set ?_ GE160.out | refine below_set ?_ GE165.out | refine below_set ?_ GE173.out) | exact HB.out)) hb); clear HO155; clear HO168; clear HO182; clear BK160; clear BK165; clear BK173; clear HB; have HO155 := n0_; have HO168 := n1_; have HO182 := n2_; have BK160 := n3_; have BK165 := n4_; have BK173 := n5_; have HB := n6_; clear n0_ n1_ n2_ n3_ n4_ n5_ n6_; (try clear hb); (try clear hb2); (try clear hk); (try clear hi)) | ((with_reducible refine gate_dst (N := 7) rfl ?_); refine box_event ?hg (N := 7) ?hd (cs := #[.int .i64 0, .int .i64 0, .string (⟨#[]⟩ : ByteArray)]) (t := 32) ?hr ?_; (case hd => rfl); (case hg => rfl); (case hr => first | (go_simp; done) | (go_simp; rfl)); intro gb187 hg w42 hbox hb; have n0_ := Aside0.mk (Kd.R_below (Kd.R_elderB (by (with_reducible repeat (first | apply Kd.R_alloc | apply Kd.R_drewN | apply Kd.R_drew)); exact HO155.out) gb187 (Nat.le_of_eq hg.symm)) hb); have n1_ := Aside0.mk (Kd.R_below (Kd.R_elderB (by (with_reducible repeat (first | apply Kd.R_alloc | apply Kd.R_drewN | apply Kd.R_drew)); exact HO168.out) gb187 (Nat.le_of_eq hg.symm)) hb); have n2_ := Aside0.mk (Kd.R_below (Kd.R_elderB (by (with_reducible repeat (first | apply Kd.R_alloc | apply Kd.R_drewN | apply Kd.R_drew)); exact HO182.out) gb187 (Nat.le_of_eq hg.symm)) hb); have n3_ := Aside0.mk (blk_below (g := gb160) (o := .cells #[.int .i64 t156, .int .i64 t157, .string t158] 32 (0, 0)) (bk_ BK160) hb); have n4_ := Aside0.mk (blk_below (g := gb165) (o := .cells #[.int .i64 t161, .int .i64 t162, .string t163] 32 (0, 0)) (bk_ BK165) hb); have n5_ := Aside0.mk (blk_below (g := gb173) (o := .cells #[.int .i64 t169, .int .i64 t170, .string t171] 32 (0, 0)) (bk_ BK173) hb); have n6_ := Aside0.mk (below_step (by repeat (first | (with_reducible first | exact HB.out | apply below_alloc | apply pw_below_drewN | apply below_drew1 | refine below_set ?_ GE160.out | refine below_set ?_ GE165.out | refine below_set ?_ GE173.out) | exact HB.out)) hb); have n7_ := Aside0.mk (hbox); have n8_ := Aside0.mk ((by rw [hg]; exact (below_size (by repeat (first | (with_reducible first | exact HB.out | apply below_alloc | apply pw_below_drewN | apply below_drew1 | refine below_set ?_ GE160.out | refine below_set ?_ GE165.out | refine below_set ?_ GE173.out) | exact HB.out))) : w.heap.size ≤ gb187)); have n9_ := Aside0.mk ((by rw [hg]; exact (below_size (by repeat (first | (with_reducible first | exact HB.out | apply below_alloc | apply pw_below_drewN | apply below_drew1 | refine below_set ?_ GE160.out | refine below_set ?_ GE165.out | refine below_set ?_ GE173.out) | exact HB.out))) : w.heap.size ≤ gb187)); have n10_ := Aside0.mk ((by rw [hg]; exact Nat.ne_of_lt (blk_lt (g := gb160) (o := .cells #[.int .i64 t156, .int .i64 t157, .string t158] 32 (0, 0)) (bk_ BK160)) : gb160 ≠ gb187)); have n11_ := Aside0.mk ((by rw [hg]; exact Nat.ne_of_gt (blk_lt (g := gb160) (o := .cells #[.int .i64 t156, .int .i64 t157, .string t158] 32 (0, 0)) (bk_ BK160)) : gb187 ≠ gb160)); have n12_ := Aside0.mk ((by rw [hg]; exact Nat.ne_of_lt (blk_lt (g := gb165) (o := .cells #[.int .i64 t161, .int .i64 t162, .string t163] 32 (0, 0)) (bk_ BK165)) : gb165 ≠ gb187)); have n13_ := Aside0.mk ((by rw [hg]; exact Nat.ne_of_gt (blk_lt (g := gb165) (o := .cells #[.int .i64 t161, .int .i64 t162, .string t163] 32 (0, 0)) (bk_ BK165)) : gb187 ≠ gb165)); have n14_ := Aside0.mk ((by rw [hg]; exact Nat.ne_of_lt (blk_lt (g := gb173) (o := .cells #[.int .i64 t169, .int .i64 t170, .string t171] 32 (0, 0)) (bk_ BK173)) : gb173 ≠ gb187)); have n15_ := Aside0.mk ((by rw [hg]; exact Nat.ne_of_gt (blk_lt (g := gb173) (o := .cells #[.int .i64 t169, .int .i64 t170, .string t171] 32 (0, 0)) (bk_ BK173)) : gb187 ≠ gb173)); clear HO155; clear HO168; clear HO182; clear BK160; clear BK165; clear BK173; clear HB; have HO155 := n0_; have HO168 := n1_; have HO182 := n2_; have BK160 := n3_; have BK165 := n4_; have BK173 := n5_; have HB := n6_; have BK187 := n7_; have GW187 := n8_; have GE187 := n9_; have NB160_187 := n10_; have NB187_160 := n11_; have NB165_187 := n12_; have NB187_165 := n13_; have NB173_187 := n14_; have NB187_173 := n15_; clear n0_ n1_ n2_ n3_ n4_ n5_ n6_ n7_ n8_ n9_ n10_ n11_ n12_ n13_ n14_ n15_; clear hb hbox hg; have hnb43 := NB187_160.out; have hnc43 := NB160_187.out; have hnb44 := NB187_165.out; have hnc44 := NB165_187.out; have hnb45 := NB187_173.out; have hnc45 := NB173_187.out; have hcz46_0 : w42.cell? ⟨gb187, 0, none⟩ = some (.int .i64 0) := (blk_cell BK187.out 0).trans rfl; have hcz46_1 : w42.cell? ⟨gb187, 1, none⟩ = some (.int .i64 0) := (blk_cell BK187.out 1).trans rfl; have hcz46_2 : w42.cell? ⟨gb187, 2, none⟩ = some (.string (⟨#[]⟩ : ByteArray)) := (blk_cell BK187.out 2).trans rfl; have hfz46_0 := blk_frozen BK187.out 0; have hfz46_1 := blk_frozen BK187.out 1; have hfz46_2 := blk_frozen BK187.out 2))
       have n0_ : Aside0 (Kd.R k32 32 (((w42.setCell ⟨gb187, 0, none⟩ (.int .i64 t183)).setCell ⟨gb187, 1, none⟩ (.int .i64 t184)).setCell ⟨gb187, 2, none⟩ (.string t185)) w.heap.size (fun k_ => some k_ ≠ (.slice Ao30 y166.length co30 : Value).ownBlock ∧ some k_ ≠ (.slice Ao40 y180.length co40 : Value).ownBlock ∧ k_ ≠ gb160 ∧ k_ ≠ gb165 ∧ k_ ≠ gb173 ∧ k_ ≠ gb187) (.slice Ao20 y153.length co20) y153) := ⟨by (with_reducible repeat (first | apply Kd.R_alloc | apply Kd.R_drewN | apply Kd.R_drew)); exact Kd.R_mono (Kd.R_far (p := ⟨gb187, 2, none⟩) (Kd.R_far (p := ⟨gb187, 1, none⟩) (Kd.R_far (p := ⟨gb187, 0, none⟩) (Kd.R_mono HO155.out (fun k_ hk => (⟨hk, hk.2⟩ : _ ∧ k_ ≠ gb187))) (fun _ hk => hk.2) (.int .i64 t183)) (fun _ hk => hk.2) (.int .i64 t184)) (fun _ hk => hk.2) (.string t185)) (fun _ hk => ⟨hk.1.1.1.1.2, ⟨hk.1.1.2, ⟨hk.1.1.1.1.1.1.2, ⟨hk.1.1.1.1.1.2, ⟨hk.1.1.1.2, hk.1.2⟩⟩⟩⟩⟩)⟩
       have n1_ : Aside0 (Kd.R k32 32 (((w42.setCell ⟨gb187, 0, none⟩ (.int .i64 t183)).setCell ⟨gb187, 1, none⟩ (.int .i64 t184)).setCell ⟨gb187, 2, none⟩ (.string t185)) w.heap.size (fun k_ => some k_ ≠ (.slice Ao20 y153.length co20 : Value).ownBlock ∧ some k_ ≠ (.slice Ao40 y180.length co40 : Value).ownBlock ∧ k_ ≠ gb160 ∧ k_ ≠ gb165 ∧ k_ ≠ gb173 ∧ k_ ≠ gb187) (.slice Ao30 y166.length co30) y166) := ⟨by (with_reducible repeat (first | apply Kd.R_alloc | apply Kd.R_drewN | apply Kd.R_drew)); exact Kd.R_mono (Kd.R_far (p := ⟨gb187, 2, none⟩) (Kd.R_far (p := ⟨gb187, 1, none⟩) (Kd.R_far (p := ⟨gb187, 0, none⟩) (Kd.R_mono HO168.out (fun k_ hk => (⟨hk, hk.2⟩ : _ ∧ k_ ≠ gb187))) (fun _ hk => hk.2) (.int .i64 t183)) (fun _ hk => hk.2) (.int .i64 t184)) (fun _ hk => hk.2) (.string t185)) (fun _ hk => ⟨hk.1.1.1.1.1.1.2, ⟨hk.1.1.2, ⟨hk.1.1.1.1.1.2, ⟨hk.1.1.1.1.2, ⟨hk.1.1.1.2, hk.1.2⟩⟩⟩⟩⟩)⟩
       have n2_ : Aside0 (Kd.R k32 32 (((w42.setCell ⟨gb187, 0, none⟩ (.int .i64 t183)).setCell ⟨gb187, 1, none⟩ (.int .i64 t184)).setCell ⟨gb187, 2, none⟩ (.string t185)) w.heap.size (fun k_ => some k_ ≠ (.slice Ao20 y153.length co20 : Value).ownBlock ∧ some k_ ≠ (.slice Ao30 y166.length co30 : Value).ownBlock ∧ k_ ≠ gb160 ∧ k_ ≠ gb165 ∧ k_ ≠ gb173 ∧ k_ ≠ gb187) (.slice Ao40 y180.length co40) y180) := ⟨by (with_reducible repeat (first | apply Kd.R_alloc | apply Kd.R_drewN | apply Kd.R_drew)); exact Kd.R_mono (Kd.R_far (p := ⟨gb187, 2, none⟩) (Kd.R_far (p := ⟨gb187, 1, none⟩) (Kd.R_far (p := ⟨gb187, 0, none⟩) (Kd.R_mono HO182.out (fun k_ hk => (⟨hk, hk.2⟩ : _ ∧ k_ ≠ gb187))) (fun _ hk => hk.2) (.int .i64 t183)) (fun _ hk => hk.2) (.int .i64 t184)) (fun _ hk => hk.2) (.string t185)) (fun _ hk => ⟨hk.1.1.1.1.1.1.2, ⟨hk.1.1.1.1.1.2, ⟨hk.1.1.1.1.2, ⟨hk.1.1.1.2, ⟨hk.1.1.2, hk.1.2⟩⟩⟩⟩⟩)⟩
       have n3_ : Aside0 ((((w42.setCell ⟨gb187, 0, none⟩ (.int .i64 t183)).setCell ⟨gb187, 1, none⟩ (.int .i64 t184)).setCell ⟨gb187, 2, none⟩ (.string t185)).heap[gb160]? = some (.cells #[.int .i64 t156, .int .i64 t157, .string t158] 32 (0, 0))) := ⟨by (with_reducible repeat (first | refine blk_drewN ?_ _ | refine blk_drew ?_ | refine blk_alloc ?_ _)); refine blk_far ?_ NB160_187.out _; (with_reducible repeat (first | refine blk_drewN ?_ _ | refine blk_drew ?_ | refine blk_alloc ?_ _)); refine blk_far ?_ NB160_187.out _; (with_reducible repeat (first | refine blk_drewN ?_ _ | refine blk_drew ?_ | refine blk_alloc ?_ _)); refine blk_far ?_ NB160_187.out _; (with_reducible repeat (first | refine blk_drewN ?_ _ | refine blk_drew ?_ | refine blk_alloc ?_ _)); exact BK160.out⟩
       have n4_ : Aside0 ((((w42.setCell ⟨gb187, 0, none⟩ (.int .i64 t183)).setCell ⟨gb187, 1, none⟩ (.int .i64 t184)).setCell ⟨gb187, 2, none⟩ (.string t185)).heap[gb165]? = some (.cells #[.int .i64 t161, .int .i64 t162, .string t163] 32 (0, 0))) := ⟨by (with_reducible repeat (first | refine blk_drewN ?_ _ | refine blk_drew ?_ | refine blk_alloc ?_ _)); refine blk_far ?_ NB165_187.out _; (with_reducible repeat (first | refine blk_drewN ?_ _ | refine blk_drew ?_ | refine blk_alloc ?_ _)); refine blk_far ?_ NB165_187.out _; (with_reducible repeat (first | refine blk_drewN ?_ _ | refine blk_drew ?_ | refine blk_alloc ?_ _)); refine blk_far ?_ NB165_187.out _; (with_reducible repeat (first | refine blk_drewN ?_ _ | refine blk_drew ?_ | refine blk_alloc ?_ _)); exact BK165.out⟩
       have n5_ : Aside0 ((((w42.setCell ⟨gb187, 0, none⟩ (.int .i64 t183)).setCell ⟨gb187, 1, none⟩ (.int .i64 t184)).setCell ⟨gb187, 2, none⟩ (.string t185)).heap[gb173]? = some (.cells #[.int .i64 t169, .int .i64 t170, .string t171] 32 (0, 0))) := ⟨by (with_reducible repeat (first | refine blk_drewN ?_ _ | refine blk_drew ?_ | refine blk_alloc ?_ _)); refine blk_far ?_ NB173_187.out _; (with_reducible repeat (first | refine blk_drewN ?_ _ | refine blk_drew ?_ | refine blk_alloc ?_ _)); refine blk_far ?_ NB173_187.out _; (with_reducible repeat (first | refine blk_drewN ?_ _ | refine blk_drew ?_ | refine blk_alloc ?_ _)); refine blk_far ?_ NB173_187.out _; (with_reducible repeat (first | refine blk_drewN ?_ _ | refine blk_drew ?_ | refine blk_alloc ?_ _)); exact BK173.out⟩
       have n6_ : Aside0 ((((w42.setCell ⟨gb187, 0, none⟩ (.int .i64 t183)).setCell ⟨gb187, 1, none⟩ (.int .i64 t184)).setCell ⟨gb187, 2, none⟩ (.string t185)).heap[gb187]? = some (.cells #[.int .i64 t183, .int .i64 t184, .string t185] 32 (0, 0))) := ⟨by (with_reducible repeat (first | refine blk_drewN ?_ _ | refine blk_drew ?_ | refine blk_alloc ?_ _)); refine blk_put (cs := #[.int .i64 t183, .int .i64 t184, .string (⟨#[]⟩ : ByteArray)]) ?_ 2 _ rfl; (with_reducible repeat (first | refine blk_drewN ?_ _ | refine blk_drew ?_ | refine blk_alloc ?_ _)); refine blk_put (cs := #[.int .i64 t183, .int .i64 0, .string (⟨#[]⟩ : ByteArray)]) ?_ 1 _ rfl; (with_reducible repeat (first | refine blk_drewN ?_ _ | refine blk_drew ?_ | refine blk_alloc ?_ _)); refine blk_put (cs := #[.int .i64 0, .int .i64 0, .string (⟨#[]⟩ : ByteArray)]) ?_ 0 _ rfl; (with_reducible repeat (first | refine blk_drewN ?_ _ | refine blk_drew ?_ | refine blk_alloc ?_ _)); exact BK187.out⟩
       have n7_ : Aside0 (Below w.heap.size w (((w42.setCell ⟨gb187, 0, none⟩ (.int .i64 t183)).setCell ⟨gb187, 1, none⟩ (.int .i64 t184)).setCell ⟨gb187, 2, none⟩ (.string t185))) := ⟨by repeat (first | (with_reducible first | exact HB.out | apply below_alloc | apply pw_below_drewN | apply below_drew1 | refine below_set ?_ GE160.out | refine below_set ?_ GE165.out | refine below_set ?_ GE173.out | refine below_set ?_ GE187.out) | exact HB.out)⟩
       (try clear HO155)
       (try clear HO168)
       (try clear HO182)
       (try clear BK160)
       (try clear BK165)
       (try clear BK173)
       (try clear BK187)
       (try clear HB)
       generalize (((w42.setCell ⟨gb187, 0, none⟩ (.int .i64 t183)).setCell ⟨gb187, 1, none⟩ (.int .i64 t184)).setCell ⟨gb187, 2, none⟩ (.string t185)) = w47 at n0_ n1_ n2_ n3_ n4_ n5_ n6_ n7_ ⊢
       have HO155 := n0_
       have HO168 := n1_
       have HO182 := n2_
       have BK160 := n3_
       have BK165 := n4_
       have BK173 := n5_
       have BK187 := n6_
       have HB := n7_
       clear n0_ n1_ n2_ n3_ n4_ n5_ n6_ n7_
       have n0_ := Aside0.mk (Kd.R_drew HO155.out)
       have n1_ := Aside0.mk (Kd.R_drew HO168.out)
       have n2_ := Aside0.mk (Kd.R_drew HO182.out)
       have n3_ := Aside0.mk (blk_drew BK160.out)
       have n4_ := Aside0.mk (blk_drew BK165.out)
       have n5_ := Aside0.mk (blk_drew BK173.out)
       have n6_ := Aside0.mk (blk_drew BK187.out)
       have n7_ := Aside0.mk (below_drew1 HB.out)
       clear HO155
       clear HO168
       clear HO182
       clear BK160
       clear BK165
       clear BK173
       clear BK187
       clear HB
       have HO155 := n0_
       have HO168 := n1_
       have HO182 := n2_
       have BK160 := n3_
       have BK165 := n4_
       have BK173 := n5_
       have BK187 := n6_
       have HB := n7_
       clear n0_ n1_ n2_ n3_ n4_ n5_ n6_ n7_
       refine start_ (n := 27) (S := fun w' => w'.cell? ⟨gb160, 0, none⟩ = some (.int .i64 t156) ∧ w'.cell? ⟨gb160, 1, none⟩ = some (.int .i64 t157) ∧ w'.cell? ⟨gb160, 2, none⟩ = some (.string t158) ∧ w'.cell? ⟨gb165, 0, none⟩ = some (.int .i64 t161) ∧ w'.cell? ⟨gb165, 1, none⟩ = some (.int .i64 t162) ∧ w'.cell? ⟨gb165, 2, none⟩ = some (.string t163) ∧ w'.cell? ⟨gb173, 0, none⟩ = some (.int .i64 t169) ∧ w'.cell? ⟨gb173, 1, none⟩ = some (.int .i64 t170) ∧ w'.cell? ⟨gb173, 2, none⟩ = some (.string t171)) (ds := []) #[false, false, false, false, false, false, false, false, false, false, false, false, false, false, false, false, false, false, false, false, false, false, false, false, false, false, false] (by kernel_rfl) rfl rfl ⟨(blk_cell BK160.out 0).trans rfl, (blk_cell BK160.out 1).trans rfl, (blk_cell BK160.out 2).trans rfl, (blk_cell BK165.out 0).trans rfl, (blk_cell BK165.out 1).trans rfl, (blk_cell BK165.out 2).trans rfl, (blk_cell BK173.out 0).trans rfl, (blk_cell BK173.out 1).trans rfl, (blk_cell BK173.out 2).trans rfl⟩ (fun hHeld => ?_); refine with_tabW quarrylaw17_works.tab5 quarrylaw17_works.bits5 (fun HT_ HW_ => ?_)
       generalize w47.drew = w48 at HO155 HO168 HO182 BK160 BK165 BK173 BK187 HB hHeld ⊢
       refine take_ (i := 0) (N := some 35) (v := ?_) (a' := ?_) #[true, false, false, false, false, false, false, false, false, false, false, false, false, false, false, false, false, false, false, false, false, false, false, false, false, false, false] rfl rfl (take_ofW HT_.out HW_.out (by kernel_rfl)) (fun _ _ _ h => h) (Or.inl ⟨by rfl, ?_⟩) hHeld ?_ ?_
       rotate_left
       ·rintro w' ⟨s0, s1, s2, s3, s4, s5, s6, s7, s8⟩
        go_simp
        with_reducible rfl
       rotate_left
       ·simp only [Act.put, List.setIfInBounds_toArray, List.set_cons_zero, List.set_cons_succ, i64_w, i32_w]
        rfl
       refine one_ (i := 1) (N := some 36) #[true, true, false, false, false, false, false, false, false, false, false, false, false, false, false, false, false, false, false, false, false, false, false, false, false, false, false] rfl rfl (one_of HT_.out (by kernel_rfl)) (by decide) (fun K hK => ?_)
       refine goes_ Try.func18 (by kernel_rfl) rfl #[.int .i64 3] (by rfl) rfl rfl (by (try simp only [List.map_toArray, List.map_cons, List.map_nil]); first | done | rfl | (simp only [List.length_drop, List.length_take]; rfl)) ?_
       with_reducible refine (quarrylaw17_number.calls 3 t188 t189 t190 _ A9.out).mono ?_
       rintro e w49 ⟨rfl, hb⟩
       refine ⟨_, rfl, ?_⟩
       have n0_ := Aside0.mk (Kd.R_below (by (with_reducible repeat (first | apply Kd.R_alloc | apply Kd.R_drewN | apply Kd.R_drew)); exact HO155.out) hb)
       have n1_ := Aside0.mk (Kd.R_below (by (with_reducible repeat (first | apply Kd.R_alloc | apply Kd.R_drewN | apply Kd.R_drew)); exact HO168.out) hb)
       have n2_ := Aside0.mk (Kd.R_below (by (with_reducible repeat (first | apply Kd.R_alloc | apply Kd.R_drewN | apply Kd.R_drew)); exact HO182.out) hb)
       have n3_ := Aside0.mk (blk_below (g := gb160) (o := .cells #[.int .i64 t156, .int .i64 t157, .string t158] 32 (0, 0)) (bk_ BK160) hb)
       have n4_ := Aside0.mk (blk_below (g := gb165) (o := .cells #[.int .i64 t161, .int .i64 t162, .string t163] 32 (0, 0)) (bk_ BK165) hb)
       have n5_ := Aside0.mk (blk_below (g := gb173) (o := .cells #[.int .i64 t169, .int .i64 t170, .string t171] 32 (0, 0)) (bk_ BK173) hb)
       have n6_ := Aside0.mk (blk_below (g := gb187) (o := .cells #[.int .i64 t183, .int .i64 t184, .string t185] 32 (0, 0)) (bk_ BK187) hb)
       have n7_ := Aside0.mk (below_step (by repeat (first | (with_reducible first | exact HB.out | apply below_alloc | apply pw_below_drewN | apply below_drew1 | refine below_set ?_ GE160.out | refine below_set ?_ GE165.out | refine below_set ?_ GE173.out | refine below_set ?_ GE187.out) | exact HB.out)) hb)
       clear HO155
       clear HO168
       clear HO182
       clear BK160
       clear BK165
       clear BK173
       clear BK187
       clear HB
       have HO155 := n0_
       have HO168 := n1_
       have HO182 := n2_
       have BK160 := n3_
       have BK165 := n4_
       have BK173 := n5_
       have BK187 := n6_
       have HB := n7_
       clear n0_ n1_ n2_ n3_ n4_ n5_ n6_ n7_
       (try clear hb)
       (try clear hb2)
       (try clear hk)
       (try clear hi)
       refine hK.out _ _ ⟨(blk_cell BK160.out 0).trans rfl, (blk_cell BK160.out 1).trans rfl, (blk_cell BK160.out 2).trans rfl, (blk_cell BK165.out 0).trans rfl, (blk_cell BK165.out 1).trans rfl, (blk_cell BK165.out 2).trans rfl, (blk_cell BK173.out 0).trans rfl, (blk_cell BK173.out 1).trans rfl, (blk_cell BK173.out 2).trans rfl⟩ (fun hHeld => ?_)
       clear hK K
       refine norm_ (a' := ?_) ?_ ?_
       rotate_left
       ·show Act.put _ (some 36) _ = _
        simp only [Act.put, List.setIfInBounds_toArray, List.set_cons_zero, List.set_cons_succ, i64_w, i32_w]
        rfl
       refine pure_ (i := 2) (N := some 37) (v := ?_) (a' := ?_) #[true, true, true, false, false, false, false, false, false, false, false, false, false, false, false, false, false, false, false, false, false, false, false, false, false, false, false] rfl rfl (any_of HT_.out (by kernel_rfl)) (fun _ _ _ h => h) (Or.inl ⟨by rfl, ?_⟩) ?_ ?_
       rotate_left
       ·intro w'
        go_simp
        with_reducible rfl
       rotate_left
       ·simp only [Act.put, List.setIfInBounds_toArray, List.set_cons_zero, List.set_cons_succ, i64_w, i32_w]
        rfl
       refine pure_ (i := 3) (N := some 38) (v := ?_) (a' := ?_) #[true, true, true, true, false, false, false, false, false, false, false, false, false, false, false, false, false, false, false, false, false, false, false, false, false, false, false] rfl rfl (any_of HT_.out (by kernel_rfl)) (fun _ _ _ h => h) (Or.inl ⟨by rfl, ?_⟩) ?_ ?_
       rotate_left
       ·intro w'
        go_simp
        with_reducible rfl
       rotate_left
       ·simp only [Act.put, List.setIfInBounds_toArray, List.set_cons_zero, List.set_cons_succ, i64_w, i32_w]
        rfl
       refine pure_ (i := 4) (N := some 39) (v := ?_) (a' := ?_) #[true, true, true, true, true, false, false, false, false, false, false, false, false, false, false, false, false, false, false, false, false, false, false, false, false, false, false] rfl rfl (any_of HT_.out (by kernel_rfl)) (fun _ _ _ h => h) (Or.inl ⟨by rfl, ?_⟩) ?_ ?_
       rotate_left
       ·intro w'
        go_simp
        with_reducible rfl
       rotate_left
       ·simp only [Act.put, List.setIfInBounds_toArray, List.set_cons_zero, List.set_cons_succ, i64_w, i32_w]
        rfl
       refine pure_ (i := 5) (N := some 40) (v := ?_) (a' := ?_) #[true, true, true, true, true, true, false, false, false, false, false, false, false, false, false, false, false, false, false, false, false, false, false, false, false, false, false] rfl rfl (any_of HT_.out (by kernel_rfl)) (fun _ _ _ h => h) (Or.inl ⟨by rfl, ?_⟩) ?_ ?_
       rotate_left
       ·intro w'
        go_simp
        with_reducible rfl
       rotate_left
       ·simp only [Act.put, List.setIfInBounds_toArray, List.set_cons_zero, List.set_cons_succ, i64_w, i32_w]
        rfl
       refine pure_ (i := 6) (N := some 41) (v := ?_) (a' := ?_) #[true, true, true, true, true, true, true, false, false, false, false, false, false, false, false, false, false, false, false, false, false, false, false, false, false, false, false] rfl rfl (any_of HT_.out (by kernel_rfl)) (fun _ _ _ h => h) (Or.inl ⟨by rfl, ?_⟩) ?_ ?_
       rotate_left
       ·intro w'
        go_simp
        with_reducible rfl
       rotate_left
       ·simp only [Act.put, List.setIfInBounds_toArray, List.set_cons_zero, List.set_cons_succ, i64_w, i32_w]
        rfl
       refine pure_ (i := 8) (N := some 43) (v := ?_) (a' := ?_) #[true, true, true, true, true, true, true, false, true, false, false, false, false, false, false, false, false, false, false, false, false, false, false, false, false, false, false] rfl rfl (any_of HT_.out (by kernel_rfl)) (fun _ _ _ h => h) (Or.inl ⟨by rfl, ?_⟩) ?_ ?_
       rotate_left
       ·intro w'
        go_simp
        with_reducible rfl
       rotate_left
       ·simp only [Act.put, List.setIfInBounds_toArray, List.set_cons_zero, List.set_cons_succ, i64_w, i32_w]
        rfl
       refine take_ (i := 7) (N := some 42) (v := ?_) (a' := ?_) #[true, true, true, true, true, true, true, true, true, false, false, false, false, false, false, false, false, false, false, false, false, false, false, false, false, false, false] rfl rfl (take_ofW HT_.out HW_.out (by kernel_rfl)) (fun _ _ _ h => h) (Or.inl ⟨by rfl, ?_⟩) hHeld ?_ ?_
       rotate_left
       ·rintro w' ⟨s0, s1, s2, s3, s4, s5, s6, s7, s8⟩
        go_simp
        with_reducible rfl
       rotate_left
       ·simp only [Act.put, List.setIfInBounds_toArray, List.set_cons_zero, List.set_cons_succ, i64_w, i32_w]
        rfl
       refine pure_ (i := 9) (N := some 44) (v := ?_) (a' := ?_) #[true, true, true, true, true, true, true, true, true, true, false, false, false, false, false, false, false, false, false, false, false, false, false, false, false, false, false] rfl rfl (any_of HT_.out (by kernel_rfl)) (fun _ _ _ h => h) (Or.inl ⟨by rfl, ?_⟩) ?_ ?_
       rotate_left
       ·intro w'
        go_simp
        with_reducible rfl
       rotate_left
       ·simp only [Act.put, List.setIfInBounds_toArray, List.set_cons_zero, List.set_cons_succ, i64_w, i32_w]
        rfl
       refine pure_ (i := 10) (N := some 45) (v := ?_) (a' := ?_) #[true, true, true, true, true, true, true, true, true, true, true, false, false, false, false, false, false, false, false, false, false, false, false, false, false, false, false] rfl rfl (any_of HT_.out (by kernel_rfl)) (fun _ _ _ h => h) (Or.inl ⟨by rfl, ?_⟩) ?_ ?_
       rotate_left
       ·intro w'
        go_simp
        with_reducible rfl
       rotate_left
       ·simp only [Act.put, List.setIfInBounds_toArray, List.set_cons_zero, List.set_cons_succ, i64_w, i32_w]
        rfl
       refine pure_ (i := 11) (N := some 46) (v := ?_) (a' := ?_) #[true, true, true, true, true, true, true, true, true, true, true, true, false, false, false, false, false, false, false, false, false, false, false, false, false, false, false] rfl rfl (any_of HT_.out (by kernel_rfl)) (fun _ _ _ h => h) (Or.inl ⟨by rfl, ?_⟩) ?_ ?_
       rotate_left
       ·intro w'
        go_simp
        with_reducible rfl
       rotate_left
       ·simp only [Act.put, List.setIfInBounds_toArray, List.set_cons_zero, List.set_cons_succ, i64_w, i32_w]
        rfl
       refine pure_ (i := 12) (N := some 47) (v := ?_) (a' := ?_) #[true, true, true, true, true, true, true, true, true, true, true, true, true, false, false, false, false, false, false, false, false, false, false, false, false, false, false] rfl rfl (any_of HT_.out (by kernel_rfl)) (fun _ _ _ h => h) (Or.inl ⟨by rfl, ?_⟩) ?_ ?_
       rotate_left
       ·intro w'
        go_simp
        with_reducible rfl
       rotate_left
       ·simp only [Act.put, List.setIfInBounds_toArray, List.set_cons_zero, List.set_cons_succ, i64_w, i32_w]
        rfl
       refine pure_ (i := 13) (N := some 48) (v := ?_) (a' := ?_) #[true, true, true, true, true, true, true, true, true, true, true, true, true, true, false, false, false, false, false, false, false, false, false, false, false, false, false] rfl rfl (any_of HT_.out (by kernel_rfl)) (fun _ _ _ h => h) (Or.inl ⟨by rfl, ?_⟩) ?_ ?_
       rotate_left
       ·intro w'
        go_simp
        with_reducible rfl
       rotate_left
       ·simp only [Act.put, List.setIfInBounds_toArray, List.set_cons_zero, List.set_cons_succ, i64_w, i32_w]
        rfl
       refine pure_ (i := 14) (N := some 49) (v := ?_) (a' := ?_) #[true, true, true, true, true, true, true, true, true, true, true, true, true, true, true, false, false, false, false, false, false, false, false, false, false, false, false] rfl rfl (any_of HT_.out (by kernel_rfl)) (fun _ _ _ h => h) (Or.inl ⟨by rfl, ?_⟩) ?_ ?_
       rotate_left
       ·intro w'
        go_simp
        with_reducible rfl
       rotate_left
       ·simp only [Act.put, List.setIfInBounds_toArray, List.set_cons_zero, List.set_cons_succ, i64_w, i32_w]
        rfl
       refine pure_ (i := 15) (N := some 50) (v := ?_) (a' := ?_) #[true, true, true, true, true, true, true, true, true, true, true, true, true, true, true, true, false, false, false, false, false, false, false, false, false, false, false] rfl rfl (any_of HT_.out (by kernel_rfl)) (fun _ _ _ h => h) (Or.inl ⟨by rfl, ?_⟩) ?_ ?_
       rotate_left
       ·intro w'
        go_simp
        with_reducible rfl
       rotate_left
       ·simp only [Act.put, List.setIfInBounds_toArray, List.set_cons_zero, List.set_cons_succ, i64_w, i32_w]
        rfl
       refine take_ (i := 16) (N := some 51) (v := ?_) (a' := ?_) #[true, true, true, true, true, true, true, true, true, true, true, true, true, true, true, true, true, false, false, false, false, false, false, false, false, false, false] rfl rfl (take_ofW HT_.out HW_.out (by kernel_rfl)) (fun _ _ _ h => h) (Or.inl ⟨by rfl, ?_⟩) hHeld ?_ ?_
       rotate_left
       ·rintro w' ⟨s0, s1, s2, s3, s4, s5, s6, s7, s8⟩
        go_simp
        with_reducible rfl
       rotate_left
       ·simp only [Act.put, List.setIfInBounds_toArray, List.set_cons_zero, List.set_cons_succ, i64_w, i32_w]
        rfl
       refine pure_ (i := 17) (N := some 52) (v := ?_) (a' := ?_) #[true, true, true, true, true, true, true, true, true, true, true, true, true, true, true, true, true, true, false, false, false, false, false, false, false, false, false] rfl rfl (any_of HT_.out (by kernel_rfl)) (fun _ _ _ h => h) (Or.inl ⟨by rfl, ?_⟩) ?_ ?_
       rotate_left
       ·intro w'
        go_simp
        with_reducible rfl
       rotate_left
       ·simp only [Act.put, List.setIfInBounds_toArray, List.set_cons_zero, List.set_cons_succ, i64_w, i32_w]
        rfl
       refine pure_ (i := 18) (N := some 53) (v := ?_) (a' := ?_) #[true, true, true, true, true, true, true, true, true, true, true, true, true, true, true, true, true, true, true, false, false, false, false, false, false, false, false] rfl rfl (any_of HT_.out (by kernel_rfl)) (fun _ _ _ h => h) (Or.inl ⟨by rfl, ?_⟩) ?_ ?_
       rotate_left
       ·intro w'
        go_simp
        with_reducible rfl
       rotate_left
       ·simp only [Act.put, List.setIfInBounds_toArray, List.set_cons_zero, List.set_cons_succ, i64_w, i32_w]
        rfl
       refine pure_ (i := 19) (N := some 54) (v := ?_) (a' := ?_) #[true, true, true, true, true, true, true, true, true, true, true, true, true, true, true, true, true, true, true, true, false, false, false, false, false, false, false] rfl rfl (any_of HT_.out (by kernel_rfl)) (fun _ _ _ h => h) (Or.inl ⟨by rfl, ?_⟩) ?_ ?_
       rotate_left
       ·intro w'
        go_simp
        with_reducible rfl
       rotate_left
       ·simp only [Act.put, List.setIfInBounds_toArray, List.set_cons_zero, List.set_cons_succ, i64_w, i32_w]
        rfl
       refine pure_ (i := 20) (N := some 55) (v := ?_) (a' := ?_) #[true, true, true, true, true, true, true, true, true, true, true, true, true, true, true, true, true, true, true, true, true, false, false, false, false, false, false] rfl rfl (any_of HT_.out (by kernel_rfl)) (fun _ _ _ h => h) (Or.inl ⟨by rfl, ?_⟩) ?_ ?_
       rotate_left
       ·intro w'
        go_simp
        with_reducible rfl
       rotate_left
       ·simp only [Act.put, List.setIfInBounds_toArray, List.set_cons_zero, List.set_cons_succ, i64_w, i32_w]
        rfl
       refine pure_ (i := 21) (N := some 56) (v := ?_) (a' := ?_) #[true, true, true, true, true, true, true, true, true, true, true, true, true, true, true, true, true, true, true, true, true, true, false, false, false, false, false] rfl rfl (any_of HT_.out (by kernel_rfl)) (fun _ _ _ h => h) (Or.inl ⟨by rfl, ?_⟩) ?_ ?_
       rotate_left
       ·intro w'
        go_simp
        with_reducible rfl
       rotate_left
       ·simp only [Act.put, List.setIfInBounds_toArray, List.set_cons_zero, List.set_cons_succ, i64_w, i32_w]
        rfl
       refine pure_ (i := 22) (N := some 57) (v := ?_) (a' := ?_) #[true, true, true, true, true, true, true, true, true, true, true, true, true, true, true, true, true, true, true, true, true, true, true, false, false, false, false] rfl rfl (any_of HT_.out (by kernel_rfl)) (fun _ _ _ h => h) (Or.inl ⟨by rfl, ?_⟩) ?_ ?_
       rotate_left
       ·intro w'
        go_simp
        with_reducible rfl
       rotate_left
       ·simp only [Act.put, List.setIfInBounds_toArray, List.set_cons_zero, List.set_cons_succ, i64_w, i32_w]
        rfl
       refine pure_ (i := 23) (N := some 58) (v := ?_) (a' := ?_) #[true, true, true, true, true, true, true, true, true, true, true, true, true, true, true, true, true, true, true, true, true, true, true, true, false, false, false] rfl rfl (any_of HT_.out (by kernel_rfl)) (fun _ _ _ h => h) (Or.inl ⟨by rfl, ?_⟩) ?_ ?_
       rotate_left
       ·intro w'
        go_simp
        with_reducible rfl
       rotate_left
       ·simp only [Act.put, List.setIfInBounds_toArray, List.set_cons_zero, List.set_cons_succ, i64_w, i32_w]
        rfl
       refine pure_ (i := 24) (N := some 59) (v := ?_) (a' := ?_) #[true, true, true, true, true, true, true, true, true, true, true, true, true, true, true, true, true, true, true, true, true, true, true, true, true, false, false] rfl rfl (any_of HT_.out (by kernel_rfl)) (fun _ _ _ h => h) (Or.inl ⟨by rfl, ?_⟩) ?_ ?_
       rotate_left
       ·intro w'
        go_simp
        with_reducible rfl
       rotate_left
       ·simp only [Act.put, List.setIfInBounds_toArray, List.set_cons_zero, List.set_cons_succ, i64_w, i32_w]
        rfl
       refine pure_ (i := 25) (N := some 60) (v := ?_) (a' := ?_) #[true, true, true, true, true, true, true, true, true, true, true, true, true, true, true, true, true, true, true, true, true, true, true, true, true, true, false] rfl rfl (any_of HT_.out (by kernel_rfl)) (fun _ _ _ h => h) (Or.inl ⟨by rfl, ?_⟩) ?_ ?_
       rotate_left
       ·intro w'
        go_simp
        with_reducible rfl
       rotate_left
       ·simp only [Act.put, List.setIfInBounds_toArray, List.set_cons_zero, List.set_cons_succ, i64_w, i32_w]
        rfl
       refine pure_ (i := 26) (N := some 0) (v := ?_) (a' := ?_) #[true, true, true, true, true, true, true, true, true, true, true, true, true, true, true, true, true, true, true, true, true, true, true, true, true, true, true] rfl rfl (any_of HT_.out (by kernel_rfl)) (fun _ _ _ h => h) (Or.inl ⟨by rfl, ?_⟩) ?_ ?_
       rotate_left
       ·intro w'
        go_simp
        with_reducible rfl
       rotate_left
       ·simp only [Act.put, List.setIfInBounds_toArray, List.set_cons_zero, List.set_cons_succ, i64_w, i32_w]
        rfl
       refine done_ (done_of HT_.out (by kernel_rfl)) ?_
       try go_wp2
       go_ret
       exact ⟨by first | rfl | (simp [errW_none, errW_some] <;> rfl) | (simp [*, errW_none, errW_some] <;> rfl), by repeat (first | (with_reducible first | exact HB.out | apply below_alloc | apply pw_below_drewN | apply below_drew1 | refine below_set ?_ GE160.out | refine below_set ?_ GE165.out | refine below_set ?_ GE173.out | refine below_set ?_ GE187.out) | exact HB.out)⟩
      ·rw [if_neg c15] at H
       cases H
     ·rw [if_neg c14] at H
      cases H
    ·rw [if_neg c13] at H
     cases H
   ·rw [if_neg c12] at H
    cases H
  ·rw [if_neg c11] at H
   cases H
 ·rw [if_neg c10] at H
  cases H
end Go.Proofs.Ytgjfciohmgpohaa.P
end

/- Laid by a program of this session out of its texts for the law AggPlays, part 4. -/
import Derived.WalkSpells
import Derived.LoopTactic
import Derived.Test.YtgjfciohmgpohaaZAggPlays3
section
namespace Go.Proofs.Ytgjfciohmgpohaa.P
open Go.RowKit Go.Proofs.Ytgjfciohmgpohaa.Pure Go.Proofs.YtgjfciohmgpohaaW.PrintWords Go.Proofs.YtgjfciohmgpohaaW.PrintLast Go.Proofs.YtgjfciohmgpohaaW.PrintMore
attribute [local go_sem] max2_int min2_int max_two min_two max_three min_three max_four min_four
set_option linter.unusedVariables false
set_option linter.unusedSimpArgs false
def AccAt (w : World) (b g : Nat) (rows : Bool) (st : Gst) : Prop :=
  w.heap[b]? = some (.cells #[.iface st.dyn (.pointer (some ⟨g, 0, none⟩)), .bool rows] 57 (0, 0)) ∧ w.heap[g]? = some (.cells st.cells st.ty (0, 0)) ∧ b ≠ g
theorem AccAt.below {w w' : World} {b g : Nat} {rows : Bool} {st : Gst} (h : AccAt w b g rows st) (hb : Below w.heap.size w w') : AccAt w' b g rows st := ⟨blk_below h.1 hb, blk_below h.2.1 hb, h.2.2⟩
theorem AccAt.other {w w' : World} {b g g' : Nat} {rows : Bool} {st : Gst} (h : AccAt w b g rows st) (hk : KeepBut w w' g' none) (h1 : b ≠ g') (h2 : g ≠ g') : AccAt w' b g rows st := ⟨hk.blk h.1 h1 (by simp), hk.blk h.2.1 h2 (by simp), h.2.2⟩
def valP : Gst → S32 | .count n => numV n | .sum s => s | .best u _ => u
def addP (st : Gst) (rows : Bool) (v : S32) : Gst × Int :=
  if v.f0 = 0 ∧ rows = false then (st, 0) else match st with
  | .count n => (.count (wrap64 (n + 1)), 0)
  | .sum s => (.sum (sumA s v).1, (sumA s v).2)
  | .best u sg => if u.f0 = 0 ∨ cmpV v u = sg then (.best v sg, 0) else (.best u sg, 0)
def Gst.fits : Gst → Prop | .sum s => FitsV s | _ => True
theorem goesI_ {P : Program} {ops : Array Oper} {Q : Exit → Act → World → Prop} {oi : Oper} {N : Option Tmp} {a : Act} {w : World} {K : Act → World → Prop} {f : FuncId} {fn : Func} (hf : P.funcs[f]? = some fn) (hname : (fn.name == "runtime.NumGoroutine") = false) (hb : fn.body.isSome = true) (args : Array Value)
    (hw : Region.wanted oi (yielded ops a.tmps) = true) (hN : oi.dst = N) (hrun : (execOp a.eval oi).run P w = ((callFunc f args).run P w))
    (h : Calls P f args w fun e w' => ∃ v, e = .returned v ∧ K (a.put N v) w') : if Region.wanted oi (yielded ops a.tmps) = true then Oper.wp P oi a w K Q else K (a.put N undef) w :=
  call_ f args hw hN (hrun.trans (enters_ hf hname hb args w)) h
theorem m_value_count (a : Addr) (w : World) : (method 202 47 (.pointer (some a)) "quarry/agg.value").run Try.prog w = .ok (48, .pointer (some a)) w := by kernel_rfl
theorem m_add_count (a : Addr) (w : World) : (method 202 47 (.pointer (some a)) "quarry/agg.add").run Try.prog w = .ok (47, .pointer (some a)) w := by kernel_rfl
set_option maxHeartbeats 1000000 in
set_option maxRecDepth 100000 in
theorem acc_value.count (b g : Nat) (rows : Bool) (n : Int) (w : World) (h : AccAt w b g rows (.count n)) :
    Calls Try.prog 11 #[.pointer (some ⟨b, 0, none⟩)] w fun e w' => e = .returned (encV (numV n)) ∧ Below w.heap.size w w' := by
  have hu := Try.underlying32
  have hm := m_value_count
  obtain ⟨hb, hg, hne⟩ := h
  have hb0 : w.heap[b]? = some (.cells #[.iface 47 (.pointer (some ⟨g, 0, none⟩)), .bool rows] 57 (0, 0)) := hb
  have H1 := Aside0.mk (blk_alloc hb0 (.cells #[.int .i64 0, .int .i64 0, .string (⟨#[]⟩ : ByteArray)] 32))
  have HG := Aside0.mk (blk_alloc hg (.cells #[.int .i64 0, .int .i64 0, .string (⟨#[]⟩ : ByteArray)] 32))
  have hc0 : World.cell? _ ⟨b, 0, none⟩ = some (.iface 47 (.pointer (some ⟨g, 0, none⟩))) := (blk_cell H1.out 0).trans rfl
  have HZ := Aside0.mk (Deep.blk_alloc_new w (.cells #[.int .i64 0, .int .i64 0, .string (⟨#[]⟩ : ByteArray)] 32))
  clear hb hb0 hg hne
  go_enter Try.func11, Try.ntmps11
  go_wp2_with fail
  refine (count_value.calls g n _ HG.out).mono ?_
  rintro e w1 ⟨rfl, hb⟩
  have HI := Aside0.mk (blk_below HZ.out hb)
  have HW := Aside0.mk (below_step (below_alloc (Below.refl w.heap.size w) _) hb)
  clear hb hc0
  have gc0 : w1.cell? ⟨w.heap.size, 0, none⟩ = some (.int .i64 0) := (blk_cell HI.out 0).trans rfl
  have gc1 : w1.cell? ⟨w.heap.size, 1, none⟩ = some (.int .i64 0) := (blk_cell HI.out 1).trans rfl
  have gc2 : w1.cell? ⟨w.heap.size, 2, none⟩ = some (.string (⟨#[]⟩ : ByteArray)) := (blk_cell HI.out 2).trans rfl
  have gf0 := blk_frozen HI.out 0
  have gf1 := blk_frozen HI.out 1
  have gf2 := blk_frozen HI.out 2
  unfold encV
  go_wp2_with fail
  exact bodyPost_ret (v := encV (numV n)) (by simp [results, Try.results11, go_sem, encV, gc0, gc1, gc2]) rfl ⟨rfl, below_set3 HW.out (Nat.le_refl _) _ _ _ _ _ _⟩
theorem m_value_sum (a : Addr) (w : World) : (method 202 50 (.pointer (some a)) "quarry/agg.value").run Try.prog w = .ok (51, .pointer (some a)) w := by kernel_rfl
theorem m_add_sum (a : Addr) (w : World) : (method 202 50 (.pointer (some a)) "quarry/agg.add").run Try.prog w = .ok (50, .pointer (some a)) w := by kernel_rfl
set_option maxHeartbeats 1000000 in
set_option maxRecDepth 100000 in
theorem acc_value.sum (b g : Nat) (rows : Bool) (s : S32) (w : World) (h : AccAt w b g rows (.sum s)) :
    Calls Try.prog 11 #[.pointer (some ⟨b, 0, none⟩)] w fun e w' => e = .returned (encV (s)) ∧ Below w.heap.size w w' := by
  have hu := Try.underlying32
  have hm := m_value_sum
  obtain ⟨hb, hg, hne⟩ := h
  have hb0 : w.heap[b]? = some (.cells #[.iface 50 (.pointer (some ⟨g, 0, none⟩)), .bool rows] 57 (0, 0)) := hb
  have H1 := Aside0.mk (blk_alloc hb0 (.cells #[.int .i64 0, .int .i64 0, .string (⟨#[]⟩ : ByteArray)] 32))
  have HG := Aside0.mk (blk_alloc hg (.cells #[.int .i64 0, .int .i64 0, .string (⟨#[]⟩ : ByteArray)] 32))
  have hc0 : World.cell? _ ⟨b, 0, none⟩ = some (.iface 50 (.pointer (some ⟨g, 0, none⟩))) := (blk_cell H1.out 0).trans rfl
  have HZ := Aside0.mk (Deep.blk_alloc_new w (.cells #[.int .i64 0, .int .i64 0, .string (⟨#[]⟩ : ByteArray)] 32))
  clear hb hb0 hg hne
  go_enter Try.func11, Try.ntmps11
  go_wp2_with fail
  refine (sum_value.calls g s _ HG.out).mono ?_
  rintro e w1 ⟨rfl, hb⟩
  have HI := Aside0.mk (blk_below HZ.out hb)
  have HW := Aside0.mk (below_step (below_alloc (Below.refl w.heap.size w) _) hb)
  clear hb hc0
  have gc0 : w1.cell? ⟨w.heap.size, 0, none⟩ = some (.int .i64 0) := (blk_cell HI.out 0).trans rfl
  have gc1 : w1.cell? ⟨w.heap.size, 1, none⟩ = some (.int .i64 0) := (blk_cell HI.out 1).trans rfl
  have gc2 : w1.cell? ⟨w.heap.size, 2, none⟩ = some (.string (⟨#[]⟩ : ByteArray)) := (blk_cell HI.out 2).trans rfl
  have gf0 := blk_frozen HI.out 0
  have gf1 := blk_frozen HI.out 1
  have gf2 := blk_frozen HI.out 2
  unfold encV
  go_wp2_with fail
  exact bodyPost_ret (v := encV (s)) (by simp [results, Try.results11, go_sem, encV, gc0, gc1, gc2]) rfl ⟨rfl, below_set3 HW.out (Nat.le_refl _) _ _ _ _ _ _⟩
theorem m_value_best (a : Addr) (w : World) : (method 202 53 (.pointer (some a)) "quarry/agg.value").run Try.prog w = .ok (77, .pointer (some a)) w := by kernel_rfl
theorem m_add_best (a : Addr) (w : World) : (method 202 53 (.pointer (some a)) "quarry/agg.add").run Try.prog w = .ok (76, .pointer (some a)) w := by kernel_rfl
set_option maxHeartbeats 1000000 in
set_option maxRecDepth 100000 in
theorem acc_value.best (b g : Nat) (rows : Bool) (u : S32) (sg : Int) (w : World) (h : AccAt w b g rows (.best u sg)) :
    Calls Try.prog 11 #[.pointer (some ⟨b, 0, none⟩)] w fun e w' => e = .returned (encV (u)) ∧ Below w.heap.size w w' := by
  have hu := Try.underlying32
  have hm := m_value_best
  obtain ⟨hb, hg, hne⟩ := h
  have hb0 : w.heap[b]? = some (.cells #[.iface 53 (.pointer (some ⟨g, 0, none⟩)), .bool rows] 57 (0, 0)) := hb
  have H1 := Aside0.mk (blk_alloc hb0 (.cells #[.int .i64 0, .int .i64 0, .string (⟨#[]⟩ : ByteArray)] 32))
  have HG := Aside0.mk (blk_alloc hg (.cells #[.int .i64 0, .int .i64 0, .string (⟨#[]⟩ : ByteArray)] 32))
  have hc0 : World.cell? _ ⟨b, 0, none⟩ = some (.iface 53 (.pointer (some ⟨g, 0, none⟩))) := (blk_cell H1.out 0).trans rfl
  have HZ := Aside0.mk (Deep.blk_alloc_new w (.cells #[.int .i64 0, .int .i64 0, .string (⟨#[]⟩ : ByteArray)] 32))
  clear hb hb0 hg hne
  go_enter Try.func11, Try.ntmps11
  go_wp2_with fail
  refine (best_value.calls g u sg _ HG.out).mono ?_
  rintro e w1 ⟨rfl, hb⟩
  have HI := Aside0.mk (blk_below HZ.out hb)
  have HW := Aside0.mk (below_step (below_alloc (Below.refl w.heap.size w) _) hb)
  clear hb hc0
  have gc0 : w1.cell? ⟨w.heap.size, 0, none⟩ = some (.int .i64 0) := (blk_cell HI.out 0).trans rfl
  have gc1 : w1.cell? ⟨w.heap.size, 1, none⟩ = some (.int .i64 0) := (blk_cell HI.out 1).trans rfl
  have gc2 : w1.cell? ⟨w.heap.size, 2, none⟩ = some (.string (⟨#[]⟩ : ByteArray)) := (blk_cell HI.out 2).trans rfl
  have gf0 := blk_frozen HI.out 0
  have gf1 := blk_frozen HI.out 1
  have gf2 := blk_frozen HI.out 2
  unfold encV
  go_wp2_with fail
  exact bodyPost_ret (v := encV (u)) (by simp [results, Try.results11, go_sem, encV, gc0, gc1, gc2]) rfl ⟨rfl, below_set3 HW.out (Nat.le_refl _) _ _ _ _ _ _⟩
theorem acc_value.calls (b g : Nat) (rows : Bool) (st : Gst) (w : World) (h : AccAt w b g rows st) :
    Calls Try.prog 11 #[.pointer (some ⟨b, 0, none⟩)] w fun e w' => e = .returned (encV (valP st)) ∧ Below w.heap.size w w' := by
  cases st with
  | count n => exact acc_value.count b g rows n w h
  | sum s => exact acc_value.sum b g rows s w h
  | best u sg => exact acc_value.best b g rows u sg w h
set_option maxHeartbeats 2000000 in
set_option maxRecDepth 100000 in
theorem acc_add.count_v (b g : Nat) (rows : Bool) (n : Int) (v : S32) (w : World) (h : AccAt w b g rows (.count n)) (B : Nat) (hB : B ≤ g) (hz : ¬ v.f0 = 0) :
    Calls Try.prog 13 #[.pointer (some ⟨b, 0, none⟩), .agg #[.int .i64 v.f0, .int .i64 v.f1, .string v.f2]] w fun e w' =>
      e = .returned (.int .i64 0) ∧ AccAt w' b g rows (.count (wrap64 (n + 1))) ∧ Below B w w' ∧ KeepBut w w' g none := by
  have hu := Try.underlying32
  have hm := m_add_count
  have hne := Aside0.mk h.2.2
  have hb0 : w.heap[b]? = some (.cells #[.iface 47 (.pointer (some ⟨g, 0, none⟩)), .bool rows] 57 (0, 0)) := h.1
  have HS := Aside0.mk (BA.start (v := v) hb0)
  have HG := Aside0.mk h.2.1
  have HL := Aside0.mk (Nat.le_trans hB (Nat.le_of_lt (blk_lt h.2.1)))
  have HB := Aside0.mk hB
  have hc1 : World.cell? _ ⟨b, 1, none⟩ = some (.bool rows) := (blk_cell HS.out.1 1).trans rfl
  have qz : (v.f0 == 0) = false := beq_eq_false_iff_ne.mpr hz
  clear hb0 hB h hz
  go_enter Try.func13, Try.ntmps13
  go_wp2_with fail
  refine at_world (fun w' => BA b w.heap.size #[.iface 47 (.pointer (some ⟨g, 0, none⟩)), .bool rows] 57 v w w') (by repeat (first | exact HS.out | refine BA.drewN ?_ _ | refine BA.drew ?_)) (fun w1 hI => ?_)
  have HI := Aside0.mk hI
  clear hI hc1
  have HG1 := Aside0.mk (blk_below HG.out HI.out.drew.2.2)
  have hEnd : ∀ w2, w2.heap[g]? = some (.cells (.count (wrap64 (n + 1)) : Gst).cells (.count (wrap64 (n + 1)) : Gst).ty (0, 0)) → Below B w1.drew w2 → KeepBut w1.drew w2 g none → AccAt w2 b g rows (.count (wrap64 (n + 1))) ∧ Below B w w2 ∧ KeepBut w w2 g none := fun w2 a1 a2 a3 =>
    ⟨⟨a3.blk HI.out.drew.1 hne.out (by simp), a1, hne.out⟩, (HI.out.drew.2.2.mono HL.out).trans a2, (KeepBut.of_below HI.out.drew.2.2 g none).trans a3 (.inl rfl)⟩
  refine start_ (n := 7) (S := fun w' => w'.cell? ⟨b, 0, none⟩ = some (.iface 47 (.pointer (some ⟨g, 0, none⟩))) ∧ w'.cell? ⟨w.heap.size, 0, none⟩ = some (.int .i64 v.f0) ∧ w'.cell? ⟨w.heap.size, 1, none⟩ = some (.int .i64 v.f1) ∧ w'.cell? ⟨w.heap.size, 2, none⟩ = some (.string v.f2)) (ds := [5]) #[false, false, false, false, false, false, false] (by kernel_rfl) rfl rfl ⟨(blk_cell (HI.out.drew).1 0).trans rfl, (HI.out.drew).v0, (HI.out.drew).v1, (HI.out.drew).v2⟩ (fun hHeld => ?_)
  refine pure_ (i := 0) (N := some 15) (v := ?_) (a' := ?_) #[true, false, false, false, false, false, false] rfl rfl (by kernel_rfl) (fun _ _ _ h => h) (Or.inl ⟨by rfl, ?_⟩) ?_ ?_
  rotate_left
  · intro w'
    go_simp
    with_reducible rfl
  rotate_left
  · simp only [Act.put, List.setIfInBounds_toArray, List.set_cons_zero, List.set_cons_succ, i64_w, i32_w]
    rfl
  refine pure_ (i := 1) (N := some 16) (v := ?_) (a' := ?_) #[true, true, false, false, false, false, false] rfl rfl (by kernel_rfl) (fun _ _ _ h => h) (Or.inl ⟨by rfl, ?_⟩) ?_ ?_
  rotate_left
  · intro w'
    go_simp
    with_reducible rfl
  rotate_left
  · simp only [Act.put, List.setIfInBounds_toArray, List.set_cons_zero, List.set_cons_succ, i64_w, i32_w]
    rfl
  refine pure_ (i := 2) (N := some 17) (v := ?_) (a' := ?_) #[true, true, true, false, false, false, false] rfl rfl (by kernel_rfl) (fun _ _ _ h => h) (Or.inl ⟨by rfl, ?_⟩) ?_ ?_
  rotate_left
  · intro w'
    go_simp
    with_reducible rfl
  rotate_left
  · simp only [Act.put, List.setIfInBounds_toArray, List.set_cons_zero, List.set_cons_succ, i64_w, i32_w]
    rfl
  refine take_ (i := 3) (N := some 18) (v := ?_) (a' := ?_) #[true, true, true, true, false, false, false] rfl rfl (by kernel_rfl) (fun _ _ _ h => h) (Or.inl ⟨by rfl, ?_⟩) hHeld ?_ ?_
  rotate_left
  · rintro w' ⟨s0, s1, s2, s3⟩
    go_simp
    with_reducible rfl
  rotate_left
  · simp only [Act.put, List.setIfInBounds_toArray, List.set_cons_zero, List.set_cons_succ, i64_w, i32_w]
    rfl
  refine take_ (i := 4) (N := some 19) (v := ?_) (a' := ?_) #[true, true, true, true, true, false, false] rfl rfl (by kernel_rfl) (fun _ _ _ h => h) (Or.inl ⟨by rfl, ?_⟩) hHeld ?_ ?_
  rotate_left
  · rintro w' ⟨s0, s1, s2, s3⟩
    go_simp
    with_reducible rfl
  rotate_left
  · simp only [Act.put, List.setIfInBounds_toArray, List.set_cons_zero, List.set_cons_succ, i64_w, i32_w]
    rfl
  refine last_ (i := 5) (N := some 20) #[true, true, true, true, true, true, false] rfl rfl (by kernel_rfl) (by decide) (fun K hK => ?_)
  refine goesI_ Try.func47 (by kernel_rfl) rfl #[.pointer (some ⟨g, 0, none⟩), .agg #[.int .i64 v.f0, .int .i64 v.f1, .string v.f2]] (by rfl) rfl (by go_simp) ?_
  with_reducible refine (count_add.calls g n v _ HG1.out B HB.out).mono ?_
  rintro e w2 ⟨rfl, hg2, hb2, hk2⟩
  refine ⟨_, rfl, ?_⟩
  have HE := Aside0.mk (hEnd w2 hg2 hb2 hk2)
  clear hg2 hb2 hk2
  refine hK.out _ _ ?_
  clear hK K
  refine norm_ (a' := ?_) ?_ ?_
  rotate_left
  · show Act.put _ (some 20) _ = _
    simp only [Act.put, List.setIfInBounds_toArray, List.set_cons_zero, List.set_cons_succ, i64_w, i32_w]
    rfl
  refine pure_ (i := 6) (N := some 4) (v := ?_) (a' := ?_) #[true, true, true, true, true, true, true] rfl rfl (by kernel_rfl) (fun _ _ _ h => h) (Or.inl ⟨by rfl, ?_⟩) ?_ ?_
  rotate_left
  · intro w'
    go_simp
    with_reducible rfl
  rotate_left
  · simp only [Act.put, List.setIfInBounds_toArray, List.set_cons_zero, List.set_cons_succ, i64_w, i32_w]
    rfl
  refine done_ (by kernel_rfl) ?_
  go_wp2_with fail
  go_ret
  exact ⟨rfl, HE.out⟩
set_option maxHeartbeats 2000000 in
set_option maxRecDepth 100000 in
theorem acc_add.count_r (b g : Nat) (rows : Bool) (n : Int) (v : S32) (w : World) (h : AccAt w b g rows (.count n)) (B : Nat) (hB : B ≤ g) (hz0 : v.f0 = 0) (hz : rows = true) :
    Calls Try.prog 13 #[.pointer (some ⟨b, 0, none⟩), .agg #[.int .i64 v.f0, .int .i64 v.f1, .string v.f2]] w fun e w' =>
      e = .returned (.int .i64 0) ∧ AccAt w' b g rows (.count (wrap64 (n + 1))) ∧ Below B w w' ∧ KeepBut w w' g none := by
  have hu := Try.underlying32
  have hm := m_add_count
  have hne := Aside0.mk h.2.2
  have hb0 : w.heap[b]? = some (.cells #[.iface 47 (.pointer (some ⟨g, 0, none⟩)), .bool rows] 57 (0, 0)) := h.1
  have HS := Aside0.mk (BA.start (v := v) hb0)
  have HG := Aside0.mk h.2.1
  have HL := Aside0.mk (Nat.le_trans hB (Nat.le_of_lt (blk_lt h.2.1)))
  have HB := Aside0.mk hB
  have hc1 : World.cell? _ ⟨b, 1, none⟩ = some (.bool rows) := (blk_cell HS.out.1 1).trans rfl
  have qz0 : (v.f0 == 0) = true := beq_iff_eq.mpr hz0
  have qz : rows = true := hz
  clear hb0 hB h hz0 hz
  go_enter Try.func13, Try.ntmps13
  go_wp2_with fail
  refine at_world (fun w' => BA b w.heap.size #[.iface 47 (.pointer (some ⟨g, 0, none⟩)), .bool rows] 57 v w w') (by repeat (first | exact HS.out | refine BA.drewN ?_ _ | refine BA.drew ?_)) (fun w1 hI => ?_)
  have HI := Aside0.mk hI
  clear hI hc1
  have HG1 := Aside0.mk (blk_below HG.out HI.out.drew.2.2)
  have hEnd : ∀ w2, w2.heap[g]? = some (.cells (.count (wrap64 (n + 1)) : Gst).cells (.count (wrap64 (n + 1)) : Gst).ty (0, 0)) → Below B w1.drew w2 → KeepBut w1.drew w2 g none → AccAt w2 b g rows (.count (wrap64 (n + 1))) ∧ Below B w w2 ∧ KeepBut w w2 g none := fun w2 a1 a2 a3 =>
    ⟨⟨a3.blk HI.out.drew.1 hne.out (by simp), a1, hne.out⟩, (HI.out.drew.2.2.mono HL.out).trans a2, (KeepBut.of_below HI.out.drew.2.2 g none).trans a3 (.inl rfl)⟩
  refine start_ (n := 7) (S := fun w' => w'.cell? ⟨b, 0, none⟩ = some (.iface 47 (.pointer (some ⟨g, 0, none⟩))) ∧ w'.cell? ⟨w.heap.size, 0, none⟩ = some (.int .i64 v.f0) ∧ w'.cell? ⟨w.heap.size, 1, none⟩ = some (.int .i64 v.f1) ∧ w'.cell? ⟨w.heap.size, 2, none⟩ = some (.string v.f2)) (ds := [5]) #[false, false, false, false, false, false, false] (by kernel_rfl) rfl rfl ⟨(blk_cell (HI.out.drew).1 0).trans rfl, (HI.out.drew).v0, (HI.out.drew).v1, (HI.out.drew).v2⟩ (fun hHeld => ?_)
  refine pure_ (i := 0) (N := some 15) (v := ?_) (a' := ?_) #[true, false, false, false, false, false, false] rfl rfl (by kernel_rfl) (fun _ _ _ h => h) (Or.inl ⟨by rfl, ?_⟩) ?_ ?_
  rotate_left
  · intro w'
    go_simp
    with_reducible rfl
  rotate_left
  · simp only [Act.put, List.setIfInBounds_toArray, List.set_cons_zero, List.set_cons_succ, i64_w, i32_w]
    rfl
  refine pure_ (i := 1) (N := some 16) (v := ?_) (a' := ?_) #[true, true, false, false, false, false, false] rfl rfl (by kernel_rfl) (fun _ _ _ h => h) (Or.inl ⟨by rfl, ?_⟩) ?_ ?_
  rotate_left
  · intro w'
    go_simp
    with_reducible rfl
  rotate_left
  · simp only [Act.put, List.setIfInBounds_toArray, List.set_cons_zero, List.set_cons_succ, i64_w, i32_w]
    rfl
  refine pure_ (i := 2) (N := some 17) (v := ?_) (a' := ?_) #[true, true, true, false, false, false, false] rfl rfl (by kernel_rfl) (fun _ _ _ h => h) (Or.inl ⟨by rfl, ?_⟩) ?_ ?_
  rotate_left
  · intro w'
    go_simp
    with_reducible rfl
  rotate_left
  · simp only [Act.put, List.setIfInBounds_toArray, List.set_cons_zero, List.set_cons_succ, i64_w, i32_w]
    rfl
  refine take_ (i := 3) (N := some 18) (v := ?_) (a' := ?_) #[true, true, true, true, false, false, false] rfl rfl (by kernel_rfl) (fun _ _ _ h => h) (Or.inl ⟨by rfl, ?_⟩) hHeld ?_ ?_
  rotate_left
  · rintro w' ⟨s0, s1, s2, s3⟩
    go_simp
    with_reducible rfl
  rotate_left
  · simp only [Act.put, List.setIfInBounds_toArray, List.set_cons_zero, List.set_cons_succ, i64_w, i32_w]
    rfl
  refine take_ (i := 4) (N := some 19) (v := ?_) (a' := ?_) #[true, true, true, true, true, false, false] rfl rfl (by kernel_rfl) (fun _ _ _ h => h) (Or.inl ⟨by rfl, ?_⟩) hHeld ?_ ?_
  rotate_left
  · rintro w' ⟨s0, s1, s2, s3⟩
    go_simp
    with_reducible rfl
  rotate_left
  · simp only [Act.put, List.setIfInBounds_toArray, List.set_cons_zero, List.set_cons_succ, i64_w, i32_w]
    rfl
  refine last_ (i := 5) (N := some 20) #[true, true, true, true, true, true, false] rfl rfl (by kernel_rfl) (by decide) (fun K hK => ?_)
  refine goesI_ Try.func47 (by kernel_rfl) rfl #[.pointer (some ⟨g, 0, none⟩), .agg #[.int .i64 v.f0, .int .i64 v.f1, .string v.f2]] (by rfl) rfl (by go_simp) ?_
  with_reducible refine (count_add.calls g n v _ HG1.out B HB.out).mono ?_
  rintro e w2 ⟨rfl, hg2, hb2, hk2⟩
  refine ⟨_, rfl, ?_⟩
  have HE := Aside0.mk (hEnd w2 hg2 hb2 hk2)
  clear hg2 hb2 hk2
  refine hK.out _ _ ?_
  clear hK K
  refine norm_ (a' := ?_) ?_ ?_
  rotate_left
  · show Act.put _ (some 20) _ = _
    simp only [Act.put, List.setIfInBounds_toArray, List.set_cons_zero, List.set_cons_succ, i64_w, i32_w]
    rfl
  refine pure_ (i := 6) (N := some 4) (v := ?_) (a' := ?_) #[true, true, true, true, true, true, true] rfl rfl (by kernel_rfl) (fun _ _ _ h => h) (Or.inl ⟨by rfl, ?_⟩) ?_ ?_
  rotate_left
  · intro w'
    go_simp
    with_reducible rfl
  rotate_left
  · simp only [Act.put, List.setIfInBounds_toArray, List.set_cons_zero, List.set_cons_succ, i64_w, i32_w]
    rfl
  refine done_ (by kernel_rfl) ?_
  go_wp2_with fail
  go_ret
  exact ⟨rfl, HE.out⟩
set_option maxHeartbeats 2000000 in
set_option maxRecDepth 100000 in
theorem acc_add.sum_moreOk_v (b g : Nat) (rows : Bool) (s : S32) (r : S32) (v : S32) (w : World) (h : AccAt w b g rows (.sum s)) (B : Nat) (hB : B ≤ g) (hz : ¬ v.f0 = 0) (hfs : FitsV s) (hfv : FitsV v) (h0 : ¬ s.f0 = 0) (hr : bin 11 (s) v = .ok r) :
    Calls Try.prog 13 #[.pointer (some ⟨b, 0, none⟩), .agg #[.int .i64 v.f0, .int .i64 v.f1, .string v.f2]] w fun e w' =>
      e = .returned (.int .i64 0) ∧ AccAt w' b g rows (.sum r) ∧ Below B w w' ∧ KeepBut w w' g none := by
  have hu := Try.underlying32
  have hm := m_add_sum
  have hne := Aside0.mk h.2.2
  have hb0 : w.heap[b]? = some (.cells #[.iface 50 (.pointer (some ⟨g, 0, none⟩)), .bool rows] 57 (0, 0)) := h.1
  have HS := Aside0.mk (BA.start (v := v) hb0)
  have HG := Aside0.mk h.2.1
  have HL := Aside0.mk (Nat.le_trans hB (Nat.le_of_lt (blk_lt h.2.1)))
  have HB := Aside0.mk hB
  have hc1 : World.cell? _ ⟨b, 1, none⟩ = some (.bool rows) := (blk_cell HS.out.1 1).trans rfl
  have qz : (v.f0 == 0) = false := beq_eq_false_iff_ne.mpr hz
  have HFs := Aside0.mk hfs
  have HFv := Aside0.mk hfv
  have H0 := Aside0.mk h0
  have HR := Aside0.mk hr
  clear hb0 hB h hz hfs hfv h0 hr
  go_enter Try.func13, Try.ntmps13
  go_wp2_with fail
  refine at_world (fun w' => BA b w.heap.size #[.iface 50 (.pointer (some ⟨g, 0, none⟩)), .bool rows] 57 v w w') (by repeat (first | exact HS.out | refine BA.drewN ?_ _ | refine BA.drew ?_)) (fun w1 hI => ?_)
  have HI := Aside0.mk hI
  clear hI hc1
  have HG1 := Aside0.mk (blk_below HG.out HI.out.drew.2.2)
  have hEnd : ∀ w2, w2.heap[g]? = some (.cells (.sum r : Gst).cells (.sum r : Gst).ty (0, 0)) → Below B w1.drew w2 → KeepBut w1.drew w2 g none → AccAt w2 b g rows (.sum r) ∧ Below B w w2 ∧ KeepBut w w2 g none := fun w2 a1 a2 a3 =>
    ⟨⟨a3.blk HI.out.drew.1 hne.out (by simp), a1, hne.out⟩, (HI.out.drew.2.2.mono HL.out).trans a2, (KeepBut.of_below HI.out.drew.2.2 g none).trans a3 (.inl rfl)⟩
  refine start_ (n := 7) (S := fun w' => w'.cell? ⟨b, 0, none⟩ = some (.iface 50 (.pointer (some ⟨g, 0, none⟩))) ∧ w'.cell? ⟨w.heap.size, 0, none⟩ = some (.int .i64 v.f0) ∧ w'.cell? ⟨w.heap.size, 1, none⟩ = some (.int .i64 v.f1) ∧ w'.cell? ⟨w.heap.size, 2, none⟩ = some (.string v.f2)) (ds := [5]) #[false, false, false, false, false, false, false] (by kernel_rfl) rfl rfl ⟨(blk_cell (HI.out.drew).1 0).trans rfl, (HI.out.drew).v0, (HI.out.drew).v1, (HI.out.drew).v2⟩ (fun hHeld => ?_)
  refine pure_ (i := 0) (N := some 15) (v := ?_) (a' := ?_) #[true, false, false, false, false, false, false] rfl rfl (by kernel_rfl) (fun _ _ _ h => h) (Or.inl ⟨by rfl, ?_⟩) ?_ ?_
  rotate_left
  · intro w'
    go_simp
    with_reducible rfl
  rotate_left
  · simp only [Act.put, List.setIfInBounds_toArray, List.set_cons_zero, List.set_cons_succ, i64_w, i32_w]
    rfl
  refine pure_ (i := 1) (N := some 16) (v := ?_) (a' := ?_) #[true, true, false, false, false, false, false] rfl rfl (by kernel_rfl) (fun _ _ _ h => h) (Or.inl ⟨by rfl, ?_⟩) ?_ ?_
  rotate_left
  · intro w'
    go_simp
    with_reducible rfl
  rotate_left
  · simp only [Act.put, List.setIfInBounds_toArray, List.set_cons_zero, List.set_cons_succ, i64_w, i32_w]
    rfl
  refine pure_ (i := 2) (N := some 17) (v := ?_) (a' := ?_) #[true, true, true, false, false, false, false] rfl rfl (by kernel_rfl) (fun _ _ _ h => h) (Or.inl ⟨by rfl, ?_⟩) ?_ ?_
  rotate_left
  · intro w'
    go_simp
    with_reducible rfl
  rotate_left
  · simp only [Act.put, List.setIfInBounds_toArray, List.set_cons_zero, List.set_cons_succ, i64_w, i32_w]
    rfl
  refine take_ (i := 3) (N := some 18) (v := ?_) (a' := ?_) #[true, true, true, true, false, false, false] rfl rfl (by kernel_rfl) (fun _ _ _ h => h) (Or.inl ⟨by rfl, ?_⟩) hHeld ?_ ?_
  rotate_left
  · rintro w' ⟨s0, s1, s2, s3⟩
    go_simp
    with_reducible rfl
  rotate_left
  · simp only [Act.put, List.setIfInBounds_toArray, List.set_cons_zero, List.set_cons_succ, i64_w, i32_w]
    rfl
  refine take_ (i := 4) (N := some 19) (v := ?_) (a' := ?_) #[true, true, true, true, true, false, false] rfl rfl (by kernel_rfl) (fun _ _ _ h => h) (Or.inl ⟨by rfl, ?_⟩) hHeld ?_ ?_
  rotate_left
  · rintro w' ⟨s0, s1, s2, s3⟩
    go_simp
    with_reducible rfl
  rotate_left
  · simp only [Act.put, List.setIfInBounds_toArray, List.set_cons_zero, List.set_cons_succ, i64_w, i32_w]
    rfl
  refine last_ (i := 5) (N := some 20) #[true, true, true, true, true, true, false] rfl rfl (by kernel_rfl) (by decide) (fun K hK => ?_)
  refine goesI_ Try.func50 (by kernel_rfl) rfl #[.pointer (some ⟨g, 0, none⟩), .agg #[.int .i64 v.f0, .int .i64 v.f1, .string v.f2]] (by rfl) rfl (by go_simp) ?_
  with_reducible refine (sum_add.moreOk g s v _ HG1.out HFs.out HFv.out B HB.out H0.out r HR.out).mono ?_
  rintro e w2 ⟨rfl, hg2, hb2, hk2⟩
  refine ⟨_, rfl, ?_⟩
  have HE := Aside0.mk (hEnd w2 hg2 hb2 hk2)
  clear hg2 hb2 hk2
  refine hK.out _ _ ?_
  clear hK K
  refine norm_ (a' := ?_) ?_ ?_
  rotate_left
  · show Act.put _ (some 20) _ = _
    simp only [Act.put, List.setIfInBounds_toArray, List.set_cons_zero, List.set_cons_succ, i64_w, i32_w]
    rfl
  refine pure_ (i := 6) (N := some 4) (v := ?_) (a' := ?_) #[true, true, true, true, true, true, true] rfl rfl (by kernel_rfl) (fun _ _ _ h => h) (Or.inl ⟨by rfl, ?_⟩) ?_ ?_
  rotate_left
  · intro w'
    go_simp
    with_reducible rfl
  rotate_left
  · simp only [Act.put, List.setIfInBounds_toArray, List.set_cons_zero, List.set_cons_succ, i64_w, i32_w]
    rfl
  refine done_ (by kernel_rfl) ?_
  go_wp2_with fail
  go_ret
  exact ⟨rfl, HE.out⟩
set_option maxHeartbeats 2000000 in
set_option maxRecDepth 100000 in
theorem acc_add.sum_moreOk_r (b g : Nat) (rows : Bool) (s : S32) (r : S32) (v : S32) (w : World) (h : AccAt w b g rows (.sum s)) (B : Nat) (hB : B ≤ g) (hz0 : v.f0 = 0) (hz : rows = true) (hfs : FitsV s) (hfv : FitsV v) (h0 : ¬ s.f0 = 0) (hr : bin 11 (s) v = .ok r) :
    Calls Try.prog 13 #[.pointer (some ⟨b, 0, none⟩), .agg #[.int .i64 v.f0, .int .i64 v.f1, .string v.f2]] w fun e w' =>
      e = .returned (.int .i64 0) ∧ AccAt w' b g rows (.sum r) ∧ Below B w w' ∧ KeepBut w w' g none := by
  have hu := Try.underlying32
  have hm := m_add_sum
  have hne := Aside0.mk h.2.2
  have hb0 : w.heap[b]? = some (.cells #[.iface 50 (.pointer (some ⟨g, 0, none⟩)), .bool rows] 57 (0, 0)) := h.1
  have HS := Aside0.mk (BA.start (v := v) hb0)
  have HG := Aside0.mk h.2.1
  have HL := Aside0.mk (Nat.le_trans hB (Nat.le_of_lt (blk_lt h.2.1)))
  have HB := Aside0.mk hB
  have hc1 : World.cell? _ ⟨b, 1, none⟩ = some (.bool rows) := (blk_cell HS.out.1 1).trans rfl
  have qz0 : (v.f0 == 0) = true := beq_iff_eq.mpr hz0
  have qz : rows = true := hz
  have HFs := Aside0.mk hfs
  have HFv := Aside0.mk hfv
  have H0 := Aside0.mk h0
  have HR := Aside0.mk hr
  clear hb0 hB h hz0 hz hfs hfv h0 hr
  go_enter Try.func13, Try.ntmps13
  go_wp2_with fail
  refine at_world (fun w' => BA b w.heap.size #[.iface 50 (.pointer (some ⟨g, 0, none⟩)), .bool rows] 57 v w w') (by repeat (first | exact HS.out | refine BA.drewN ?_ _ | refine BA.drew ?_)) (fun w1 hI => ?_)
  have HI := Aside0.mk hI
  clear hI hc1
  have HG1 := Aside0.mk (blk_below HG.out HI.out.drew.2.2)
  have hEnd : ∀ w2, w2.heap[g]? = some (.cells (.sum r : Gst).cells (.sum r : Gst).ty (0, 0)) → Below B w1.drew w2 → KeepBut w1.drew w2 g none → AccAt w2 b g rows (.sum r) ∧ Below B w w2 ∧ KeepBut w w2 g none := fun w2 a1 a2 a3 =>
    ⟨⟨a3.blk HI.out.drew.1 hne.out (by simp), a1, hne.out⟩, (HI.out.drew.2.2.mono HL.out).trans a2, (KeepBut.of_below HI.out.drew.2.2 g none).trans a3 (.inl rfl)⟩
  refine start_ (n := 7) (S := fun w' => w'.cell? ⟨b, 0, none⟩ = some (.iface 50 (.pointer (some ⟨g, 0, none⟩))) ∧ w'.cell? ⟨w.heap.size, 0, none⟩ = some (.int .i64 v.f0) ∧ w'.cell? ⟨w.heap.size, 1, none⟩ = some (.int .i64 v.f1) ∧ w'.cell? ⟨w.heap.size, 2, none⟩ = some (.string v.f2)) (ds := [5]) #[false, false, false, false, false, false, false] (by kernel_rfl) rfl rfl ⟨(blk_cell (HI.out.drew).1 0).trans rfl, (HI.out.drew).v0, (HI.out.drew).v1, (HI.out.drew).v2⟩ (fun hHeld => ?_)
  refine pure_ (i := 0) (N := some 15) (v := ?_) (a' := ?_) #[true, false, false, false, false, false, false] rfl rfl (by kernel_rfl) (fun _ _ _ h => h) (Or.inl ⟨by rfl, ?_⟩) ?_ ?_
  rotate_left
  · intro w'
    go_simp
    with_reducible rfl
  rotate_left
  · simp only [Act.put, List.setIfInBounds_toArray, List.set_cons_zero, List.set_cons_succ, i64_w, i32_w]
    rfl
  refine pure_ (i := 1) (N := some 16) (v := ?_) (a' := ?_) #[true, true, false, false, false, false, false] rfl rfl (by kernel_rfl) (fun _ _ _ h => h) (Or.inl ⟨by rfl, ?_⟩) ?_ ?_
  rotate_left
  · intro w'
    go_simp
    with_reducible rfl
  rotate_left
  · simp only [Act.put, List.setIfInBounds_toArray, List.set_cons_zero, List.set_cons_succ, i64_w, i32_w]
    rfl
  refine pure_ (i := 2) (N := some 17) (v := ?_) (a' := ?_) #[true, true, true, false, false, false, false] rfl rfl (by kernel_rfl) (fun _ _ _ h => h) (Or.inl ⟨by rfl, ?_⟩) ?_ ?_
  rotate_left
  · intro w'
    go_simp
    with_reducible rfl
  rotate_left
  · simp only [Act.put, List.setIfInBounds_toArray, List.set_cons_zero, List.set_cons_succ, i64_w, i32_w]
    rfl
  refine take_ (i := 3) (N := some 18) (v := ?_) (a' := ?_) #[true, true, true, true, false, false, false] rfl rfl (by kernel_rfl) (fun _ _ _ h => h) (Or.inl ⟨by rfl, ?_⟩) hHeld ?_ ?_
  rotate_left
  · rintro w' ⟨s0, s1, s2, s3⟩
    go_simp
    with_reducible rfl
  rotate_left
  · simp only [Act.put, List.setIfInBounds_toArray, List.set_cons_zero, List.set_cons_succ, i64_w, i32_w]
    rfl
  refine take_ (i := 4) (N := some 19) (v := ?_) (a' := ?_) #[true, true, true, true, true, false, false] rfl rfl (by kernel_rfl) (fun _ _ _ h => h) (Or.inl ⟨by rfl, ?_⟩) hHeld ?_ ?_
  rotate_left
  · rintro w' ⟨s0, s1, s2, s3⟩
    go_simp
    with_reducible rfl
  rotate_left
  · simp only [Act.put, List.setIfInBounds_toArray, List.set_cons_zero, List.set_cons_succ, i64_w, i32_w]
    rfl
  refine last_ (i := 5) (N := some 20) #[true, true, true, true, true, true, false] rfl rfl (by kernel_rfl) (by decide) (fun K hK => ?_)
  refine goesI_ Try.func50 (by kernel_rfl) rfl #[.pointer (some ⟨g, 0, none⟩), .agg #[.int .i64 v.f0, .int .i64 v.f1, .string v.f2]] (by rfl) rfl (by go_simp) ?_
  with_reducible refine (sum_add.moreOk g s v _ HG1.out HFs.out HFv.out B HB.out H0.out r HR.out).mono ?_
  rintro e w2 ⟨rfl, hg2, hb2, hk2⟩
  refine ⟨_, rfl, ?_⟩
  have HE := Aside0.mk (hEnd w2 hg2 hb2 hk2)
  clear hg2 hb2 hk2
  refine hK.out _ _ ?_
  clear hK K
  refine norm_ (a' := ?_) ?_ ?_
  rotate_left
  · show Act.put _ (some 20) _ = _
    simp only [Act.put, List.setIfInBounds_toArray, List.set_cons_zero, List.set_cons_succ, i64_w, i32_w]
    rfl
  refine pure_ (i := 6) (N := some 4) (v := ?_) (a' := ?_) #[true, true, true, true, true, true, true] rfl rfl (by kernel_rfl) (fun _ _ _ h => h) (Or.inl ⟨by rfl, ?_⟩) ?_ ?_
  rotate_left
  · intro w'
    go_simp
    with_reducible rfl
  rotate_left
  · simp only [Act.put, List.setIfInBounds_toArray, List.set_cons_zero, List.set_cons_succ, i64_w, i32_w]
    rfl
  refine done_ (by kernel_rfl) ?_
  go_wp2_with fail
  go_ret
  exact ⟨rfl, HE.out⟩
set_option maxHeartbeats 2000000 in
set_option maxRecDepth 100000 in
theorem acc_add.sum_moreNo_v (b g : Nat) (rows : Bool) (s : S32) (c : Int) (v : S32) (w : World) (h : AccAt w b g rows (.sum s)) (B : Nat) (hB : B ≤ g) (hz : ¬ v.f0 = 0) (hfs : FitsV s) (hfv : FitsV v) (h0 : ¬ s.f0 = 0) (hr : bin 11 (s) v = .error c) :
    Calls Try.prog 13 #[.pointer (some ⟨b, 0, none⟩), .agg #[.int .i64 v.f0, .int .i64 v.f1, .string v.f2]] w fun e w' =>
      e = .returned (.int .i64 c) ∧ AccAt w' b g rows (.sum s) ∧ Below B w w' ∧ KeepBut w w' g none := by
  have hu := Try.underlying32
  have hm := m_add_sum
  have hne := Aside0.mk h.2.2
  have hb0 : w.heap[b]? = some (.cells #[.iface 50 (.pointer (some ⟨g, 0, none⟩)), .bool rows] 57 (0, 0)) := h.1
  have HS := Aside0.mk (BA.start (v := v) hb0)
  have HG := Aside0.mk h.2.1
  have HL := Aside0.mk (Nat.le_trans hB (Nat.le_of_lt (blk_lt h.2.1)))
  have HB := Aside0.mk hB
  have hc1 : World.cell? _ ⟨b, 1, none⟩ = some (.bool rows) := (blk_cell HS.out.1 1).trans rfl
  have qz : (v.f0 == 0) = false := beq_eq_false_iff_ne.mpr hz
  have HFs := Aside0.mk hfs
  have HFv := Aside0.mk hfv
  have H0 := Aside0.mk h0
  have HR := Aside0.mk hr
  clear hb0 hB h hz hfs hfv h0 hr
  go_enter Try.func13, Try.ntmps13
  go_wp2_with fail
  refine at_world (fun w' => BA b w.heap.size #[.iface 50 (.pointer (some ⟨g, 0, none⟩)), .bool rows] 57 v w w') (by repeat (first | exact HS.out | refine BA.drewN ?_ _ | refine BA.drew ?_)) (fun w1 hI => ?_)
  have HI := Aside0.mk hI
  clear hI hc1
  have HG1 := Aside0.mk (blk_below HG.out HI.out.drew.2.2)
  have hEnd : ∀ w2, w2.heap[g]? = some (.cells (.sum s : Gst).cells (.sum s : Gst).ty (0, 0)) → Below B w1.drew w2 → KeepBut w1.drew w2 g none → AccAt w2 b g rows (.sum s) ∧ Below B w w2 ∧ KeepBut w w2 g none := fun w2 a1 a2 a3 =>
    ⟨⟨a3.blk HI.out.drew.1 hne.out (by simp), a1, hne.out⟩, (HI.out.drew.2.2.mono HL.out).trans a2, (KeepBut.of_below HI.out.drew.2.2 g none).trans a3 (.inl rfl)⟩
  refine start_ (n := 7) (S := fun w' => w'.cell? ⟨b, 0, none⟩ = some (.iface 50 (.pointer (some ⟨g, 0, none⟩))) ∧ w'.cell? ⟨w.heap.size, 0, none⟩ = some (.int .i64 v.f0) ∧ w'.cell? ⟨w.heap.size, 1, none⟩ = some (.int .i64 v.f1) ∧ w'.cell? ⟨w.heap.size, 2, none⟩ = some (.string v.f2)) (ds := [5]) #[false, false, false, false, false, false, false] (by kernel_rfl) rfl rfl ⟨(blk_cell (HI.out.drew).1 0).trans rfl, (HI.out.drew).v0, (HI.out.drew).v1, (HI.out.drew).v2⟩ (fun hHeld => ?_)
  refine pure_ (i := 0) (N := some 15) (v := ?_) (a' := ?_) #[true, false, false, false, false, false, false] rfl rfl (by kernel_rfl) (fun _ _ _ h => h) (Or.inl ⟨by rfl, ?_⟩) ?_ ?_
  rotate_left
  · intro w'
    go_simp
    with_reducible rfl
  rotate_left
  · simp only [Act.put, List.setIfInBounds_toArray, List.set_cons_zero, List.set_cons_succ, i64_w, i32_w]
    rfl
  refine pure_ (i := 1) (N := some 16) (v := ?_) (a' := ?_) #[true, true, false, false, false, false, false] rfl rfl (by kernel_rfl) (fun _ _ _ h => h) (Or.inl ⟨by rfl, ?_⟩) ?_ ?_
  rotate_left
  · intro w'
    go_simp
    with_reducible rfl
  rotate_left
  · simp only [Act.put, List.setIfInBounds_toArray, List.set_cons_zero, List.set_cons_succ, i64_w, i32_w]
    rfl
  refine pure_ (i := 2) (N := some 17) (v := ?_) (a' := ?_) #[true, true, true, false, false, false, false] rfl rfl (by kernel_rfl) (fun _ _ _ h => h) (Or.inl ⟨by rfl, ?_⟩) ?_ ?_
  rotate_left
  · intro w'
    go_simp
    with_reducible rfl
  rotate_left
  · simp only [Act.put, List.setIfInBounds_toArray, List.set_cons_zero, List.set_cons_succ, i64_w, i32_w]
    rfl
  refine take_ (i := 3) (N := some 18) (v := ?_) (a' := ?_) #[true, true, true, true, false, false, false] rfl rfl (by kernel_rfl) (fun _ _ _ h => h) (Or.inl ⟨by rfl, ?_⟩) hHeld ?_ ?_
  rotate_left
  · rintro w' ⟨s0, s1, s2, s3⟩
    go_simp
    with_reducible rfl
  rotate_left
  · simp only [Act.put, List.setIfInBounds_toArray, List.set_cons_zero, List.set_cons_succ, i64_w, i32_w]
    rfl
  refine take_ (i := 4) (N := some 19) (v := ?_) (a' := ?_) #[true, true, true, true, true, false, false] rfl rfl (by kernel_rfl) (fun _ _ _ h => h) (Or.inl ⟨by rfl, ?_⟩) hHeld ?_ ?_
  rotate_left
  · rintro w' ⟨s0, s1, s2, s3⟩
    go_simp
    with_reducible rfl
  rotate_left
  · simp only [Act.put, List.setIfInBounds_toArray, List.set_cons_zero, List.set_cons_succ, i64_w, i32_w]
    rfl
  refine last_ (i := 5) (N := some 20) #[true, true, true, true, true, true, false] rfl rfl (by kernel_rfl) (by decide) (fun K hK => ?_)
  refine goesI_ Try.func50 (by kernel_rfl) rfl #[.pointer (some ⟨g, 0, none⟩), .agg #[.int .i64 v.f0, .int .i64 v.f1, .string v.f2]] (by rfl) rfl (by go_simp) ?_
  with_reducible refine (sum_add.moreNo g s v _ HG1.out HFs.out HFv.out B HB.out H0.out c HR.out).mono ?_
  rintro e w2 ⟨rfl, hg2, hb2, hk2⟩
  refine ⟨_, rfl, ?_⟩
  have HE := Aside0.mk (hEnd w2 hg2 hb2 hk2)
  clear hg2 hb2 hk2
  refine hK.out _ _ ?_
  clear hK K
  refine norm_ (a' := ?_) ?_ ?_
  rotate_left
  · show Act.put _ (some 20) _ = _
    simp only [Act.put, List.setIfInBounds_toArray, List.set_cons_zero, List.set_cons_succ, i64_w, i32_w]
    rfl
  refine pure_ (i := 6) (N := some 4) (v := ?_) (a' := ?_) #[true, true, true, true, true, true, true] rfl rfl (by kernel_rfl) (fun _ _ _ h => h) (Or.inl ⟨by rfl, ?_⟩) ?_ ?_
  rotate_left
  · intro w'
    go_simp
    with_reducible rfl
  rotate_left
  · simp only [Act.put, List.setIfInBounds_toArray, List.set_cons_zero, List.set_cons_succ, i64_w, i32_w]
    rfl
  refine done_ (by kernel_rfl) ?_
  go_wp2_with fail
  go_ret
  exact ⟨rfl, HE.out⟩
set_option maxHeartbeats 2000000 in
set_option maxRecDepth 100000 in
theorem acc_add.sum_moreNo_r (b g : Nat) (rows : Bool) (s : S32) (c : Int) (v : S32) (w : World) (h : AccAt w b g rows (.sum s)) (B : Nat) (hB : B ≤ g) (hz0 : v.f0 = 0) (hz : rows = true) (hfs : FitsV s) (hfv : FitsV v) (h0 : ¬ s.f0 = 0) (hr : bin 11 (s) v = .error c) :
    Calls Try.prog 13 #[.pointer (some ⟨b, 0, none⟩), .agg #[.int .i64 v.f0, .int .i64 v.f1, .string v.f2]] w fun e w' =>
      e = .returned (.int .i64 c) ∧ AccAt w' b g rows (.sum s) ∧ Below B w w' ∧ KeepBut w w' g none := by
  have hu := Try.underlying32
  have hm := m_add_sum
  have hne := Aside0.mk h.2.2
  have hb0 : w.heap[b]? = some (.cells #[.iface 50 (.pointer (some ⟨g, 0, none⟩)), .bool rows] 57 (0, 0)) := h.1
  have HS := Aside0.mk (BA.start (v := v) hb0)
  have HG := Aside0.mk h.2.1
  have HL := Aside0.mk (Nat.le_trans hB (Nat.le_of_lt (blk_lt h.2.1)))
  have HB := Aside0.mk hB
  have hc1 : World.cell? _ ⟨b, 1, none⟩ = some (.bool rows) := (blk_cell HS.out.1 1).trans rfl
  have qz0 : (v.f0 == 0) = true := beq_iff_eq.mpr hz0
  have qz : rows = true := hz
  have HFs := Aside0.mk hfs
  have HFv := Aside0.mk hfv
  have H0 := Aside0.mk h0
  have HR := Aside0.mk hr
  clear hb0 hB h hz0 hz hfs hfv h0 hr
  go_enter Try.func13, Try.ntmps13
  go_wp2_with fail
  refine at_world (fun w' => BA b w.heap.size #[.iface 50 (.pointer (some ⟨g, 0, none⟩)), .bool rows] 57 v w w') (by repeat (first | exact HS.out | refine BA.drewN ?_ _ | refine BA.drew ?_)) (fun w1 hI => ?_)
  have HI := Aside0.mk hI
  clear hI hc1
  have HG1 := Aside0.mk (blk_below HG.out HI.out.drew.2.2)
  have hEnd : ∀ w2, w2.heap[g]? = some (.cells (.sum s : Gst).cells (.sum s : Gst).ty (0, 0)) → Below B w1.drew w2 → KeepBut w1.drew w2 g none → AccAt w2 b g rows (.sum s) ∧ Below B w w2 ∧ KeepBut w w2 g none := fun w2 a1 a2 a3 =>
    ⟨⟨a3.blk HI.out.drew.1 hne.out (by simp), a1, hne.out⟩, (HI.out.drew.2.2.mono HL.out).trans a2, (KeepBut.of_below HI.out.drew.2.2 g none).trans a3 (.inl rfl)⟩
  refine start_ (n := 7) (S := fun w' => w'.cell? ⟨b, 0, none⟩ = some (.iface 50 (.pointer (some ⟨g, 0, none⟩))) ∧ w'.cell? ⟨w.heap.size, 0, none⟩ = some (.int .i64 v.f0) ∧ w'.cell? ⟨w.heap.size, 1, none⟩ = some (.int .i64 v.f1) ∧ w'.cell? ⟨w.heap.size, 2, none⟩ = some (.string v.f2)) (ds := [5]) #[false, false, false, false, false, false, false] (by kernel_rfl) rfl rfl ⟨(blk_cell (HI.out.drew).1 0).trans rfl, (HI.out.drew).v0, (HI.out.drew).v1, (HI.out.drew).v2⟩ (fun hHeld => ?_)
  refine pure_ (i := 0) (N := some 15) (v := ?_) (a' := ?_) #[true, false, false, false, false, false, false] rfl rfl (by kernel_rfl) (fun _ _ _ h => h) (Or.inl ⟨by rfl, ?_⟩) ?_ ?_
  rotate_left
  · intro w'
    go_simp
    with_reducible rfl
  rotate_left
  · simp only [Act.put, List.setIfInBounds_toArray, List.set_cons_zero, List.set_cons_succ, i64_w, i32_w]
    rfl
  refine pure_ (i := 1) (N := some 16) (v := ?_) (a' := ?_) #[true, true, false, false, false, false, false] rfl rfl (by kernel_rfl) (fun _ _ _ h => h) (Or.inl ⟨by rfl, ?_⟩) ?_ ?_
  rotate_left
  · intro w'
    go_simp
    with_reducible rfl
  rotate_left
  · simp only [Act.put, List.setIfInBounds_toArray, List.set_cons_zero, List.set_cons_succ, i64_w, i32_w]
    rfl
  refine pure_ (i := 2) (N := some 17) (v := ?_) (a' := ?_) #[true, true, true, false, false, false, false] rfl rfl (by kernel_rfl) (fun _ _ _ h => h) (Or.inl ⟨by rfl, ?_⟩) ?_ ?_
  rotate_left
  · intro w'
    go_simp
    with_reducible rfl
  rotate_left
  · simp only [Act.put, List.setIfInBounds_toArray, List.set_cons_zero, List.set_cons_succ, i64_w, i32_w]
    rfl
  refine take_ (i := 3) (N := some 18) (v := ?_) (a' := ?_) #[true, true, true, true, false, false, false] rfl rfl (by kernel_rfl) (fun _ _ _ h => h) (Or.inl ⟨by rfl, ?_⟩) hHeld ?_ ?_
  rotate_left
  · rintro w' ⟨s0, s1, s2, s3⟩
    go_simp
    with_reducible rfl
  rotate_left
  · simp only [Act.put, List.setIfInBounds_toArray, List.set_cons_zero, List.set_cons_succ, i64_w, i32_w]
    rfl
  refine take_ (i := 4) (N := some 19) (v := ?_) (a' := ?_) #[true, true, true, true, true, false, false] rfl rfl (by kernel_rfl) (fun _ _ _ h => h) (Or.inl ⟨by rfl, ?_⟩) hHeld ?_ ?_
  rotate_left
  · rintro w' ⟨s0, s1, s2, s3⟩
    go_simp
    with_reducible rfl
  rotate_left
  · simp only [Act.put, List.setIfInBounds_toArray, List.set_cons_zero, List.set_cons_succ, i64_w, i32_w]
    rfl
  refine last_ (i := 5) (N := some 20) #[true, true, true, true, true, true, false] rfl rfl (by kernel_rfl) (by decide) (fun K hK => ?_)
  refine goesI_ Try.func50 (by kernel_rfl) rfl #[.pointer (some ⟨g, 0, none⟩), .agg #[.int .i64 v.f0, .int .i64 v.f1, .string v.f2]] (by rfl) rfl (by go_simp) ?_
  with_reducible refine (sum_add.moreNo g s v _ HG1.out HFs.out HFv.out B HB.out H0.out c HR.out).mono ?_
  rintro e w2 ⟨rfl, hg2, hb2, hk2⟩
  refine ⟨_, rfl, ?_⟩
  have HE := Aside0.mk (hEnd w2 hg2 hb2 hk2)
  clear hg2 hb2 hk2
  refine hK.out _ _ ?_
  clear hK K
  refine norm_ (a' := ?_) ?_ ?_
  rotate_left
  · show Act.put _ (some 20) _ = _
    simp only [Act.put, List.setIfInBounds_toArray, List.set_cons_zero, List.set_cons_succ, i64_w, i32_w]
    rfl
  refine pure_ (i := 6) (N := some 4) (v := ?_) (a' := ?_) #[true, true, true, true, true, true, true] rfl rfl (by kernel_rfl) (fun _ _ _ h => h) (Or.inl ⟨by rfl, ?_⟩) ?_ ?_
  rotate_left
  · intro w'
    go_simp
    with_reducible rfl
  rotate_left
  · simp only [Act.put, List.setIfInBounds_toArray, List.set_cons_zero, List.set_cons_succ, i64_w, i32_w]
    rfl
  refine done_ (by kernel_rfl) ?_
  go_wp2_with fail
  go_ret
  exact ⟨rfl, HE.out⟩
set_option maxHeartbeats 2000000 in
set_option maxRecDepth 100000 in
theorem acc_add.sum_nullOk_v (b g : Nat) (rows : Bool) (s : S32) (r : S32) (v : S32) (w : World) (h : AccAt w b g rows (.sum s)) (B : Nat) (hB : B ≤ g) (hz : ¬ v.f0 = 0) (hfs : FitsV s) (hfv : FitsV v) (h0 : s.f0 = 0) (hr : bin 11 (numV 0) v = .ok r) :
    Calls Try.prog 13 #[.pointer (some ⟨b, 0, none⟩), .agg #[.int .i64 v.f0, .int .i64 v.f1, .string v.f2]] w fun e w' =>
      e = .returned (.int .i64 0) ∧ AccAt w' b g rows (.sum r) ∧ Below B w w' ∧ KeepBut w w' g none := by
  have hu := Try.underlying32
  have hm := m_add_sum
  have hne := Aside0.mk h.2.2
  have hb0 : w.heap[b]? = some (.cells #[.iface 50 (.pointer (some ⟨g, 0, none⟩)), .bool rows] 57 (0, 0)) := h.1
  have HS := Aside0.mk (BA.start (v := v) hb0)
  have HG := Aside0.mk h.2.1
  have HL := Aside0.mk (Nat.le_trans hB (Nat.le_of_lt (blk_lt h.2.1)))
  have HB := Aside0.mk hB
  have hc1 : World.cell? _ ⟨b, 1, none⟩ = some (.bool rows) := (blk_cell HS.out.1 1).trans rfl
  have qz : (v.f0 == 0) = false := beq_eq_false_iff_ne.mpr hz
  have HFs := Aside0.mk hfs
  have HFv := Aside0.mk hfv
  have H0 := Aside0.mk h0
  have HR := Aside0.mk hr
  clear hb0 hB h hz hfs hfv h0 hr
  go_enter Try.func13, Try.ntmps13
  go_wp2_with fail
  refine at_world (fun w' => BA b w.heap.size #[.iface 50 (.pointer (some ⟨g, 0, none⟩)), .bool rows] 57 v w w') (by repeat (first | exact HS.out | refine BA.drewN ?_ _ | refine BA.drew ?_)) (fun w1 hI => ?_)
  have HI := Aside0.mk hI
  clear hI hc1
  have HG1 := Aside0.mk (blk_below HG.out HI.out.drew.2.2)
  have hEnd : ∀ w2, w2.heap[g]? = some (.cells (.sum r : Gst).cells (.sum r : Gst).ty (0, 0)) → Below B w1.drew w2 → KeepBut w1.drew w2 g none → AccAt w2 b g rows (.sum r) ∧ Below B w w2 ∧ KeepBut w w2 g none := fun w2 a1 a2 a3 =>
    ⟨⟨a3.blk HI.out.drew.1 hne.out (by simp), a1, hne.out⟩, (HI.out.drew.2.2.mono HL.out).trans a2, (KeepBut.of_below HI.out.drew.2.2 g none).trans a3 (.inl rfl)⟩
  refine start_ (n := 7) (S := fun w' => w'.cell? ⟨b, 0, none⟩ = some (.iface 50 (.pointer (some ⟨g, 0, none⟩))) ∧ w'.cell? ⟨w.heap.size, 0, none⟩ = some (.int .i64 v.f0) ∧ w'.cell? ⟨w.heap.size, 1, none⟩ = some (.int .i64 v.f1) ∧ w'.cell? ⟨w.heap.size, 2, none⟩ = some (.string v.f2)) (ds := [5]) #[false, false, false, false, false, false, false] (by kernel_rfl) rfl rfl ⟨(blk_cell (HI.out.drew).1 0).trans rfl, (HI.out.drew).v0, (HI.out.drew).v1, (HI.out.drew).v2⟩ (fun hHeld => ?_)
  refine pure_ (i := 0) (N := some 15) (v := ?_) (a' := ?_) #[true, false, false, false, false, false, false] rfl rfl (by kernel_rfl) (fun _ _ _ h => h) (Or.inl ⟨by rfl, ?_⟩) ?_ ?_
  rotate_left
  · intro w'
    go_simp
    with_reducible rfl
  rotate_left
  · simp only [Act.put, List.setIfInBounds_toArray, List.set_cons_zero, List.set_cons_succ, i64_w, i32_w]
    rfl
  refine pure_ (i := 1) (N := some 16) (v := ?_) (a' := ?_) #[true, true, false, false, false, false, false] rfl rfl (by kernel_rfl) (fun _ _ _ h => h) (Or.inl ⟨by rfl, ?_⟩) ?_ ?_
  rotate_left
  · intro w'
    go_simp
    with_reducible rfl
  rotate_left
  · simp only [Act.put, List.setIfInBounds_toArray, List.set_cons_zero, List.set_cons_succ, i64_w, i32_w]
    rfl
  refine pure_ (i := 2) (N := some 17) (v := ?_) (a' := ?_) #[true, true, true, false, false, false, false] rfl rfl (by kernel_rfl) (fun _ _ _ h => h) (Or.inl ⟨by rfl, ?_⟩) ?_ ?_
  rotate_left
  · intro w'
    go_simp
    with_reducible rfl
  rotate_left
  · simp only [Act.put, List.setIfInBounds_toArray, List.set_cons_zero, List.set_cons_succ, i64_w, i32_w]
    rfl
  refine take_ (i := 3) (N := some 18) (v := ?_) (a' := ?_) #[true, true, true, true, false, false, false] rfl rfl (by kernel_rfl) (fun _ _ _ h => h) (Or.inl ⟨by rfl, ?_⟩) hHeld ?_ ?_
  rotate_left
  · rintro w' ⟨s0, s1, s2, s3⟩
    go_simp
    with_reducible rfl
  rotate_left
  · simp only [Act.put, List.setIfInBounds_toArray, List.set_cons_zero, List.set_cons_succ, i64_w, i32_w]
    rfl
  refine take_ (i := 4) (N := some 19) (v := ?_) (a' := ?_) #[true, true, true, true, true, false, false] rfl rfl (by kernel_rfl) (fun _ _ _ h => h) (Or.inl ⟨by rfl, ?_⟩) hHeld ?_ ?_
  rotate_left
  · rintro w' ⟨s0, s1, s2, s3⟩
    go_simp
    with_reducible rfl
  rotate_left
  · simp only [Act.put, List.setIfInBounds_toArray, List.set_cons_zero, List.set_cons_succ, i64_w, i32_w]
    rfl
  refine last_ (i := 5) (N := some 20) #[true, true, true, true, true, true, false] rfl rfl (by kernel_rfl) (by decide) (fun K hK => ?_)
  refine goesI_ Try.func50 (by kernel_rfl) rfl #[.pointer (some ⟨g, 0, none⟩), .agg #[.int .i64 v.f0, .int .i64 v.f1, .string v.f2]] (by rfl) rfl (by go_simp) ?_
  with_reducible refine (sum_add.nullOk g s v _ HG1.out HFs.out HFv.out B HB.out H0.out r HR.out).mono ?_
  rintro e w2 ⟨rfl, hg2, hb2, hk2⟩
  refine ⟨_, rfl, ?_⟩
  have HE := Aside0.mk (hEnd w2 hg2 hb2 hk2)
  clear hg2 hb2 hk2
  refine hK.out _ _ ?_
  clear hK K
  refine norm_ (a' := ?_) ?_ ?_
  rotate_left
  · show Act.put _ (some 20) _ = _
    simp only [Act.put, List.setIfInBounds_toArray, List.set_cons_zero, List.set_cons_succ, i64_w, i32_w]
    rfl
  refine pure_ (i := 6) (N := some 4) (v := ?_) (a' := ?_) #[true, true, true, true, true, true, true] rfl rfl (by kernel_rfl) (fun _ _ _ h => h) (Or.inl ⟨by rfl, ?_⟩) ?_ ?_
  rotate_left
  · intro w'
    go_simp
    with_reducible rfl
  rotate_left
  · simp only [Act.put, List.setIfInBounds_toArray, List.set_cons_zero, List.set_cons_succ, i64_w, i32_w]
    rfl
  refine done_ (by kernel_rfl) ?_
  go_wp2_with fail
  go_ret
  exact ⟨rfl, HE.out⟩
set_option maxHeartbeats 2000000 in
set_option maxRecDepth 100000 in
theorem acc_add.sum_nullOk_r (b g : Nat) (rows : Bool) (s : S32) (r : S32) (v : S32) (w : World) (h : AccAt w b g rows (.sum s)) (B : Nat) (hB : B ≤ g) (hz0 : v.f0 = 0) (hz : rows = true) (hfs : FitsV s) (hfv : FitsV v) (h0 : s.f0 = 0) (hr : bin 11 (numV 0) v = .ok r) :
    Calls Try.prog 13 #[.pointer (some ⟨b, 0, none⟩), .agg #[.int .i64 v.f0, .int .i64 v.f1, .string v.f2]] w fun e w' =>
      e = .returned (.int .i64 0) ∧ AccAt w' b g rows (.sum r) ∧ Below B w w' ∧ KeepBut w w' g none := by
  have hu := Try.underlying32
  have hm := m_add_sum
  have hne := Aside0.mk h.2.2
  have hb0 : w.heap[b]? = some (.cells #[.iface 50 (.pointer (some ⟨g, 0, none⟩)), .bool rows] 57 (0, 0)) := h.1
  have HS := Aside0.mk (BA.start (v := v) hb0)
  have HG := Aside0.mk h.2.1
  have HL := Aside0.mk (Nat.le_trans hB (Nat.le_of_lt (blk_lt h.2.1)))
  have HB := Aside0.mk hB
  have hc1 : World.cell? _ ⟨b, 1, none⟩ = some (.bool rows) := (blk_cell HS.out.1 1).trans rfl
  have qz0 : (v.f0 == 0) = true := beq_iff_eq.mpr hz0
  have qz : rows = true := hz
  have HFs := Aside0.mk hfs
  have HFv := Aside0.mk hfv
  have H0 := Aside0.mk h0
  have HR := Aside0.mk hr
  clear hb0 hB h hz0 hz hfs hfv h0 hr
  go_enter Try.func13, Try.ntmps13
  go_wp2_with fail
  refine at_world (fun w' => BA b w.heap.size #[.iface 50 (.pointer (some ⟨g, 0, none⟩)), .bool rows] 57 v w w') (by repeat (first | exact HS.out | refine BA.drewN ?_ _ | refine BA.drew ?_)) (fun w1 hI => ?_)
  have HI := Aside0.mk hI
  clear hI hc1
  have HG1 := Aside0.mk (blk_below HG.out HI.out.drew.2.2)
  have hEnd : ∀ w2, w2.heap[g]? = some (.cells (.sum r : Gst).cells (.sum r : Gst).ty (0, 0)) → Below B w1.drew w2 → KeepBut w1.drew w2 g none → AccAt w2 b g rows (.sum r) ∧ Below B w w2 ∧ KeepBut w w2 g none := fun w2 a1 a2 a3 =>
    ⟨⟨a3.blk HI.out.drew.1 hne.out (by simp), a1, hne.out⟩, (HI.out.drew.2.2.mono HL.out).trans a2, (KeepBut.of_below HI.out.drew.2.2 g none).trans a3 (.inl rfl)⟩
  refine start_ (n := 7) (S := fun w' => w'.cell? ⟨b, 0, none⟩ = some (.iface 50 (.pointer (some ⟨g, 0, none⟩))) ∧ w'.cell? ⟨w.heap.size, 0, none⟩ = some (.int .i64 v.f0) ∧ w'.cell? ⟨w.heap.size, 1, none⟩ = some (.int .i64 v.f1) ∧ w'.cell? ⟨w.heap.size, 2, none⟩ = some (.string v.f2)) (ds := [5]) #[false, false, false, false, false, false, false] (by kernel_rfl) rfl rfl ⟨(blk_cell (HI.out.drew).1 0).trans rfl, (HI.out.drew).v0, (HI.out.drew).v1, (HI.out.drew).v2⟩ (fun hHeld => ?_)
  refine pure_ (i := 0) (N := some 15) (v := ?_) (a' := ?_) #[true, false, false, false, false, false, false] rfl rfl (by kernel_rfl) (fun _ _ _ h => h) (Or.inl ⟨by rfl, ?_⟩) ?_ ?_
  rotate_left
  · intro w'
    go_simp
    with_reducible rfl
  rotate_left
  · simp only [Act.put, List.setIfInBounds_toArray, List.set_cons_zero, List.set_cons_succ, i64_w, i32_w]
    rfl
  refine pure_ (i := 1) (N := some 16) (v := ?_) (a' := ?_) #[true, true, false, false, false, false, false] rfl rfl (by kernel_rfl) (fun _ _ _ h => h) (Or.inl ⟨by rfl, ?_⟩) ?_ ?_
  rotate_left
  · intro w'
    go_simp
    with_reducible rfl
  rotate_left
  · simp only [Act.put, List.setIfInBounds_toArray, List.set_cons_zero, List.set_cons_succ, i64_w, i32_w]
    rfl
  refine pure_ (i := 2) (N := some 17) (v := ?_) (a' := ?_) #[true, true, true, false, false, false, false] rfl rfl (by kernel_rfl) (fun _ _ _ h => h) (Or.inl ⟨by rfl, ?_⟩) ?_ ?_
  rotate_left
  · intro w'
    go_simp
    with_reducible rfl
  rotate_left
  · simp only [Act.put, List.setIfInBounds_toArray, List.set_cons_zero, List.set_cons_succ, i64_w, i32_w]
    rfl
  refine take_ (i := 3) (N := some 18) (v := ?_) (a' := ?_) #[true, true, true, true, false, false, false] rfl rfl (by kernel_rfl) (fun _ _ _ h => h) (Or.inl ⟨by rfl, ?_⟩) hHeld ?_ ?_
  rotate_left
  · rintro w' ⟨s0, s1, s2, s3⟩
    go_simp
    with_reducible rfl
  rotate_left
  · simp only [Act.put, List.setIfInBounds_toArray, List.set_cons_zero, List.set_cons_succ, i64_w, i32_w]
    rfl
  refine take_ (i := 4) (N := some 19) (v := ?_) (a' := ?_) #[true, true, true, true, true, false, false] rfl rfl (by kernel_rfl) (fun _ _ _ h => h) (Or.inl ⟨by rfl, ?_⟩) hHeld ?_ ?_
  rotate_left
  · rintro w' ⟨s0, s1, s2, s3⟩
    go_simp
    with_reducible rfl
  rotate_left
  · simp only [Act.put, List.setIfInBounds_toArray, List.set_cons_zero, List.set_cons_succ, i64_w, i32_w]
    rfl
  refine last_ (i := 5) (N := some 20) #[true, true, true, true, true, true, false] rfl rfl (by kernel_rfl) (by decide) (fun K hK => ?_)
  refine goesI_ Try.func50 (by kernel_rfl) rfl #[.pointer (some ⟨g, 0, none⟩), .agg #[.int .i64 v.f0, .int .i64 v.f1, .string v.f2]] (by rfl) rfl (by go_simp) ?_
  with_reducible refine (sum_add.nullOk g s v _ HG1.out HFs.out HFv.out B HB.out H0.out r HR.out).mono ?_
  rintro e w2 ⟨rfl, hg2, hb2, hk2⟩
  refine ⟨_, rfl, ?_⟩
  have HE := Aside0.mk (hEnd w2 hg2 hb2 hk2)
  clear hg2 hb2 hk2
  refine hK.out _ _ ?_
  clear hK K
  refine norm_ (a' := ?_) ?_ ?_
  rotate_left
  · show Act.put _ (some 20) _ = _
    simp only [Act.put, List.setIfInBounds_toArray, List.set_cons_zero, List.set_cons_succ, i64_w, i32_w]
    rfl
  refine pure_ (i := 6) (N := some 4) (v := ?_) (a' := ?_) #[true, true, true, true, true, true, true] rfl rfl (by kernel_rfl) (fun _ _ _ h => h) (Or.inl ⟨by rfl, ?_⟩) ?_ ?_
  rotate_left
  · intro w'
    go_simp
    with_reducible rfl
  rotate_left
  · simp only [Act.put, List.setIfInBounds_toArray, List.set_cons_zero, List.set_cons_succ, i64_w, i32_w]
    rfl
  refine done_ (by kernel_rfl) ?_
  go_wp2_with fail
  go_ret
  exact ⟨rfl, HE.out⟩
set_option maxHeartbeats 2000000 in
set_option maxRecDepth 100000 in
theorem acc_add.sum_nullNo_v (b g : Nat) (rows : Bool) (s : S32) (c : Int) (v : S32) (w : World) (h : AccAt w b g rows (.sum s)) (B : Nat) (hB : B ≤ g) (hz : ¬ v.f0 = 0) (hfs : FitsV s) (hfv : FitsV v) (h0 : s.f0 = 0) (hr : bin 11 (numV 0) v = .error c) :
    Calls Try.prog 13 #[.pointer (some ⟨b, 0, none⟩), .agg #[.int .i64 v.f0, .int .i64 v.f1, .string v.f2]] w fun e w' =>
      e = .returned (.int .i64 c) ∧ AccAt w' b g rows (.sum s) ∧ Below B w w' ∧ KeepBut w w' g none := by
  have hu := Try.underlying32
  have hm := m_add_sum
  have hne := Aside0.mk h.2.2
  have hb0 : w.heap[b]? = some (.cells #[.iface 50 (.pointer (some ⟨g, 0, none⟩)), .bool rows] 57 (0, 0)) := h.1
  have HS := Aside0.mk (BA.start (v := v) hb0)
  have HG := Aside0.mk h.2.1
  have HL := Aside0.mk (Nat.le_trans hB (Nat.le_of_lt (blk_lt h.2.1)))
  have HB := Aside0.mk hB
  have hc1 : World.cell? _ ⟨b, 1, none⟩ = some (.bool rows) := (blk_cell HS.out.1 1).trans rfl
  have qz : (v.f0 == 0) = false := beq_eq_false_iff_ne.mpr hz
  have HFs := Aside0.mk hfs
  have HFv := Aside0.mk hfv
  have H0 := Aside0.mk h0
  have HR := Aside0.mk hr
  clear hb0 hB h hz hfs hfv h0 hr
  go_enter Try.func13, Try.ntmps13
  go_wp2_with fail
  refine at_world (fun w' => BA b w.heap.size #[.iface 50 (.pointer (some ⟨g, 0, none⟩)), .bool rows] 57 v w w') (by repeat (first | exact HS.out | refine BA.drewN ?_ _ | refine BA.drew ?_)) (fun w1 hI => ?_)
  have HI := Aside0.mk hI
  clear hI hc1
  have HG1 := Aside0.mk (blk_below HG.out HI.out.drew.2.2)
  have hEnd : ∀ w2, w2.heap[g]? = some (.cells (.sum s : Gst).cells (.sum s : Gst).ty (0, 0)) → Below B w1.drew w2 → KeepBut w1.drew w2 g none → AccAt w2 b g rows (.sum s) ∧ Below B w w2 ∧ KeepBut w w2 g none := fun w2 a1 a2 a3 =>
    ⟨⟨a3.blk HI.out.drew.1 hne.out (by simp), a1, hne.out⟩, (HI.out.drew.2.2.mono HL.out).trans a2, (KeepBut.of_below HI.out.drew.2.2 g none).trans a3 (.inl rfl)⟩
  refine start_ (n := 7) (S := fun w' => w'.cell? ⟨b, 0, none⟩ = some (.iface 50 (.pointer (some ⟨g, 0, none⟩))) ∧ w'.cell? ⟨w.heap.size, 0, none⟩ = some (.int .i64 v.f0) ∧ w'.cell? ⟨w.heap.size, 1, none⟩ = some (.int .i64 v.f1) ∧ w'.cell? ⟨w.heap.size, 2, none⟩ = some (.string v.f2)) (ds := [5]) #[false, false, false, false, false, false, false] (by kernel_rfl) rfl rfl ⟨(blk_cell (HI.out.drew).1 0).trans rfl, (HI.out.drew).v0, (HI.out.drew).v1, (HI.out.drew).v2⟩ (fun hHeld => ?_)
  refine pure_ (i := 0) (N := some 15) (v := ?_) (a' := ?_) #[true, false, false, false, false, false, false] rfl rfl (by kernel_rfl) (fun _ _ _ h => h) (Or.inl ⟨by rfl, ?_⟩) ?_ ?_
  rotate_left
  · intro w'
    go_simp
    with_reducible rfl
  rotate_left
  · simp only [Act.put, List.setIfInBounds_toArray, List.set_cons_zero, List.set_cons_succ, i64_w, i32_w]
    rfl
  refine pure_ (i := 1) (N := some 16) (v := ?_) (a' := ?_) #[true, true, false, false, false, false, false] rfl rfl (by kernel_rfl) (fun _ _ _ h => h) (Or.inl ⟨by rfl, ?_⟩) ?_ ?_
  rotate_left
  · intro w'
    go_simp
    with_reducible rfl
  rotate_left
  · simp only [Act.put, List.setIfInBounds_toArray, List.set_cons_zero, List.set_cons_succ, i64_w, i32_w]
    rfl
  refine pure_ (i := 2) (N := some 17) (v := ?_) (a' := ?_) #[true, true, true, false, false, false, false] rfl rfl (by kernel_rfl) (fun _ _ _ h => h) (Or.inl ⟨by rfl, ?_⟩) ?_ ?_
  rotate_left
  · intro w'
    go_simp
    with_reducible rfl
  rotate_left
  · simp only [Act.put, List.setIfInBounds_toArray, List.set_cons_zero, List.set_cons_succ, i64_w, i32_w]
    rfl
  refine take_ (i := 3) (N := some 18) (v := ?_) (a' := ?_) #[true, true, true, true, false, false, false] rfl rfl (by kernel_rfl) (fun _ _ _ h => h) (Or.inl ⟨by rfl, ?_⟩) hHeld ?_ ?_
  rotate_left
  · rintro w' ⟨s0, s1, s2, s3⟩
    go_simp
    with_reducible rfl
  rotate_left
  · simp only [Act.put, List.setIfInBounds_toArray, List.set_cons_zero, List.set_cons_succ, i64_w, i32_w]
    rfl
  refine take_ (i := 4) (N := some 19) (v := ?_) (a' := ?_) #[true, true, true, true, true, false, false] rfl rfl (by kernel_rfl) (fun _ _ _ h => h) (Or.inl ⟨by rfl, ?_⟩) hHeld ?_ ?_
  rotate_left
  · rintro w' ⟨s0, s1, s2, s3⟩
    go_simp
    with_reducible rfl
  rotate_left
  · simp only [Act.put, List.setIfInBounds_toArray, List.set_cons_zero, List.set_cons_succ, i64_w, i32_w]
    rfl
  refine last_ (i := 5) (N := some 20) #[true, true, true, true, true, true, false] rfl rfl (by kernel_rfl) (by decide) (fun K hK => ?_)
  refine goesI_ Try.func50 (by kernel_rfl) rfl #[.pointer (some ⟨g, 0, none⟩), .agg #[.int .i64 v.f0, .int .i64 v.f1, .string v.f2]] (by rfl) rfl (by go_simp) ?_
  with_reducible refine (sum_add.nullNo g s v _ HG1.out HFs.out HFv.out B HB.out H0.out c HR.out).mono ?_
  rintro e w2 ⟨rfl, hg2, hb2, hk2⟩
  refine ⟨_, rfl, ?_⟩
  have HE := Aside0.mk (hEnd w2 hg2 hb2 hk2)
  clear hg2 hb2 hk2
  refine hK.out _ _ ?_
  clear hK K
  refine norm_ (a' := ?_) ?_ ?_
  rotate_left
  · show Act.put _ (some 20) _ = _
    simp only [Act.put, List.setIfInBounds_toArray, List.set_cons_zero, List.set_cons_succ, i64_w, i32_w]
    rfl
  refine pure_ (i := 6) (N := some 4) (v := ?_) (a' := ?_) #[true, true, true, true, true, true, true] rfl rfl (by kernel_rfl) (fun _ _ _ h => h) (Or.inl ⟨by rfl, ?_⟩) ?_ ?_
  rotate_left
  · intro w'
    go_simp
    with_reducible rfl
  rotate_left
  · simp only [Act.put, List.setIfInBounds_toArray, List.set_cons_zero, List.set_cons_succ, i64_w, i32_w]
    rfl
  refine done_ (by kernel_rfl) ?_
  go_wp2_with fail
  go_ret
  exact ⟨rfl, HE.out⟩
set_option maxHeartbeats 2000000 in
set_option maxRecDepth 100000 in
theorem acc_add.sum_nullNo_r (b g : Nat) (rows : Bool) (s : S32) (c : Int) (v : S32) (w : World) (h : AccAt w b g rows (.sum s)) (B : Nat) (hB : B ≤ g) (hz0 : v.f0 = 0) (hz : rows = true) (hfs : FitsV s) (hfv : FitsV v) (h0 : s.f0 = 0) (hr : bin 11 (numV 0) v = .error c) :
    Calls Try.prog 13 #[.pointer (some ⟨b, 0, none⟩), .agg #[.int .i64 v.f0, .int .i64 v.f1, .string v.f2]] w fun e w' =>
      e = .returned (.int .i64 c) ∧ AccAt w' b g rows (.sum s) ∧ Below B w w' ∧ KeepBut w w' g none := by
  have hu := Try.underlying32
  have hm := m_add_sum
  have hne := Aside0.mk h.2.2
  have hb0 : w.heap[b]? = some (.cells #[.iface 50 (.pointer (some ⟨g, 0, none⟩)), .bool rows] 57 (0, 0)) := h.1
  have HS := Aside0.mk (BA.start (v := v) hb0)
  have HG := Aside0.mk h.2.1
  have HL := Aside0.mk (Nat.le_trans hB (Nat.le_of_lt (blk_lt h.2.1)))
  have HB := Aside0.mk hB
  have hc1 : World.cell? _ ⟨b, 1, none⟩ = some (.bool rows) := (blk_cell HS.out.1 1).trans rfl
  have qz0 : (v.f0 == 0) = true := beq_iff_eq.mpr hz0
  have qz : rows = true := hz
  have HFs := Aside0.mk hfs
  have HFv := Aside0.mk hfv
  have H0 := Aside0.mk h0
  have HR := Aside0.mk hr
  clear hb0 hB h hz0 hz hfs hfv h0 hr
  go_enter Try.func13, Try.ntmps13
  go_wp2_with fail
  refine at_world (fun w' => BA b w.heap.size #[.iface 50 (.pointer (some ⟨g, 0, none⟩)), .bool rows] 57 v w w') (by repeat (first | exact HS.out | refine BA.drewN ?_ _ | refine BA.drew ?_)) (fun w1 hI => ?_)
  have HI := Aside0.mk hI
  clear hI hc1
  have HG1 := Aside0.mk (blk_below HG.out HI.out.drew.2.2)
  have hEnd : ∀ w2, w2.heap[g]? = some (.cells (.sum s : Gst).cells (.sum s : Gst).ty (0, 0)) → Below B w1.drew w2 → KeepBut w1.drew w2 g none → AccAt w2 b g rows (.sum s) ∧ Below B w w2 ∧ KeepBut w w2 g none := fun w2 a1 a2 a3 =>
    ⟨⟨a3.blk HI.out.drew.1 hne.out (by simp), a1, hne.out⟩, (HI.out.drew.2.2.mono HL.out).trans a2, (KeepBut.of_below HI.out.drew.2.2 g none).trans a3 (.inl rfl)⟩
  refine start_ (n := 7) (S := fun w' => w'.cell? ⟨b, 0, none⟩ = some (.iface 50 (.pointer (some ⟨g, 0, none⟩))) ∧ w'.cell? ⟨w.heap.size, 0, none⟩ = some (.int .i64 v.f0) ∧ w'.cell? ⟨w.heap.size, 1, none⟩ = some (.int .i64 v.f1) ∧ w'.cell? ⟨w.heap.size, 2, none⟩ = some (.string v.f2)) (ds := [5]) #[false, false, false, false, false, false, false] (by kernel_rfl) rfl rfl ⟨(blk_cell (HI.out.drew).1 0).trans rfl, (HI.out.drew).v0, (HI.out.drew).v1, (HI.out.drew).v2⟩ (fun hHeld => ?_)
  refine pure_ (i := 0) (N := some 15) (v := ?_) (a' := ?_) #[true, false, false, false, false, false, false] rfl rfl (by kernel_rfl) (fun _ _ _ h => h) (Or.inl ⟨by rfl, ?_⟩) ?_ ?_
  rotate_left
  · intro w'
    go_simp
    with_reducible rfl
  rotate_left
  · simp only [Act.put, List.setIfInBounds_toArray, List.set_cons_zero, List.set_cons_succ, i64_w, i32_w]
    rfl
  refine pure_ (i := 1) (N := some 16) (v := ?_) (a' := ?_) #[true, true, false, false, false, false, false] rfl rfl (by kernel_rfl) (fun _ _ _ h => h) (Or.inl ⟨by rfl, ?_⟩) ?_ ?_
  rotate_left
  · intro w'
    go_simp
    with_reducible rfl
  rotate_left
  · simp only [Act.put, List.setIfInBounds_toArray, List.set_cons_zero, List.set_cons_succ, i64_w, i32_w]
    rfl
  refine pure_ (i := 2) (N := some 17) (v := ?_) (a' := ?_) #[true, true, true, false, false, false, false] rfl rfl (by kernel_rfl) (fun _ _ _ h => h) (Or.inl ⟨by rfl, ?_⟩) ?_ ?_
  rotate_left
  · intro w'
    go_simp
    with_reducible rfl
  rotate_left
  · simp only [Act.put, List.setIfInBounds_toArray, List.set_cons_zero, List.set_cons_succ, i64_w, i32_w]
    rfl
  refine take_ (i := 3) (N := some 18) (v := ?_) (a' := ?_) #[true, true, true, true, false, false, false] rfl rfl (by kernel_rfl) (fun _ _ _ h => h) (Or.inl ⟨by rfl, ?_⟩) hHeld ?_ ?_
  rotate_left
  · rintro w' ⟨s0, s1, s2, s3⟩
    go_simp
    with_reducible rfl
  rotate_left
  · simp only [Act.put, List.setIfInBounds_toArray, List.set_cons_zero, List.set_cons_succ, i64_w, i32_w]
    rfl
  refine take_ (i := 4) (N := some 19) (v := ?_) (a' := ?_) #[true, true, true, true, true, false, false] rfl rfl (by kernel_rfl) (fun _ _ _ h => h) (Or.inl ⟨by rfl, ?_⟩) hHeld ?_ ?_
  rotate_left
  · rintro w' ⟨s0, s1, s2, s3⟩
    go_simp
    with_reducible rfl
  rotate_left
  · simp only [Act.put, List.setIfInBounds_toArray, List.set_cons_zero, List.set_cons_succ, i64_w, i32_w]
    rfl
  refine last_ (i := 5) (N := some 20) #[true, true, true, true, true, true, false] rfl rfl (by kernel_rfl) (by decide) (fun K hK => ?_)
  refine goesI_ Try.func50 (by kernel_rfl) rfl #[.pointer (some ⟨g, 0, none⟩), .agg #[.int .i64 v.f0, .int .i64 v.f1, .string v.f2]] (by rfl) rfl (by go_simp) ?_
  with_reducible refine (sum_add.nullNo g s v _ HG1.out HFs.out HFv.out B HB.out H0.out c HR.out).mono ?_
  rintro e w2 ⟨rfl, hg2, hb2, hk2⟩
  refine ⟨_, rfl, ?_⟩
  have HE := Aside0.mk (hEnd w2 hg2 hb2 hk2)
  clear hg2 hb2 hk2
  refine hK.out _ _ ?_
  clear hK K
  refine norm_ (a' := ?_) ?_ ?_
  rotate_left
  · show Act.put _ (some 20) _ = _
    simp only [Act.put, List.setIfInBounds_toArray, List.set_cons_zero, List.set_cons_succ, i64_w, i32_w]
    rfl
  refine pure_ (i := 6) (N := some 4) (v := ?_) (a' := ?_) #[true, true, true, true, true, true, true] rfl rfl (by kernel_rfl) (fun _ _ _ h => h) (Or.inl ⟨by rfl, ?_⟩) ?_ ?_
  rotate_left
  · intro w'
    go_simp
    with_reducible rfl
  rotate_left
  · simp only [Act.put, List.setIfInBounds_toArray, List.set_cons_zero, List.set_cons_succ, i64_w, i32_w]
    rfl
  refine done_ (by kernel_rfl) ?_
  go_wp2_with fail
  go_ret
  exact ⟨rfl, HE.out⟩
set_option maxHeartbeats 2000000 in
set_option maxRecDepth 100000 in
theorem acc_add.best_null_v (b g : Nat) (rows : Bool) (u : S32) (sg : Int) (v : S32) (w : World) (h : AccAt w b g rows (.best u sg)) (B : Nat) (hB : B ≤ g) (hz : ¬ v.f0 = 0) (h0 : u.f0 = 0) :
    Calls Try.prog 13 #[.pointer (some ⟨b, 0, none⟩), .agg #[.int .i64 v.f0, .int .i64 v.f1, .string v.f2]] w fun e w' =>
      e = .returned (.int .i64 0) ∧ AccAt w' b g rows (.best v sg) ∧ Below B w w' ∧ KeepBut w w' g none := by
  have hu := Try.underlying32
  have hm := m_add_best
  have hne := Aside0.mk h.2.2
  have hb0 : w.heap[b]? = some (.cells #[.iface 53 (.pointer (some ⟨g, 0, none⟩)), .bool rows] 57 (0, 0)) := h.1
  have HS := Aside0.mk (BA.start (v := v) hb0)
  have HG := Aside0.mk h.2.1
  have HL := Aside0.mk (Nat.le_trans hB (Nat.le_of_lt (blk_lt h.2.1)))
  have HB := Aside0.mk hB
  have hc1 : World.cell? _ ⟨b, 1, none⟩ = some (.bool rows) := (blk_cell HS.out.1 1).trans rfl
  have qz : (v.f0 == 0) = false := beq_eq_false_iff_ne.mpr hz
  have H0 := Aside0.mk h0
  clear hb0 hB h hz h0
  go_enter Try.func13, Try.ntmps13
  go_wp2_with fail
  refine at_world (fun w' => BA b w.heap.size #[.iface 53 (.pointer (some ⟨g, 0, none⟩)), .bool rows] 57 v w w') (by repeat (first | exact HS.out | refine BA.drewN ?_ _ | refine BA.drew ?_)) (fun w1 hI => ?_)
  have HI := Aside0.mk hI
  clear hI hc1
  have HG1 := Aside0.mk (blk_below HG.out HI.out.drew.2.2)
  have hEnd : ∀ w2, w2.heap[g]? = some (.cells (.best v sg : Gst).cells (.best v sg : Gst).ty (0, 0)) → Below B w1.drew w2 → KeepBut w1.drew w2 g none → AccAt w2 b g rows (.best v sg) ∧ Below B w w2 ∧ KeepBut w w2 g none := fun w2 a1 a2 a3 =>
    ⟨⟨a3.blk HI.out.drew.1 hne.out (by simp), a1, hne.out⟩, (HI.out.drew.2.2.mono HL.out).trans a2, (KeepBut.of_below HI.out.drew.2.2 g none).trans a3 (.inl rfl)⟩
  refine start_ (n := 7) (S := fun w' => w'.cell? ⟨b, 0, none⟩ = some (.iface 53 (.pointer (some ⟨g, 0, none⟩))) ∧ w'.cell? ⟨w.heap.size, 0, none⟩ = some (.int .i64 v.f0) ∧ w'.cell? ⟨w.heap.size, 1, none⟩ = some (.int .i64 v.f1) ∧ w'.cell? ⟨w.heap.size, 2, none⟩ = some (.string v.f2)) (ds := [5]) #[false, false, false, false, false, false, false] (by kernel_rfl) rfl rfl ⟨(blk_cell (HI.out.drew).1 0).trans rfl, (HI.out.drew).v0, (HI.out.drew).v1, (HI.out.drew).v2⟩ (fun hHeld => ?_)
  refine pure_ (i := 0) (N := some 15) (v := ?_) (a' := ?_) #[true, false, false, false, false, false, false] rfl rfl (by kernel_rfl) (fun _ _ _ h => h) (Or.inl ⟨by rfl, ?_⟩) ?_ ?_
  rotate_left
  · intro w'
    go_simp
    with_reducible rfl
  rotate_left
  · simp only [Act.put, List.setIfInBounds_toArray, List.set_cons_zero, List.set_cons_succ, i64_w, i32_w]
    rfl
  refine pure_ (i := 1) (N := some 16) (v := ?_) (a' := ?_) #[true, true, false, false, false, false, false] rfl rfl (by kernel_rfl) (fun _ _ _ h => h) (Or.inl ⟨by rfl, ?_⟩) ?_ ?_
  rotate_left
  · intro w'
    go_simp
    with_reducible rfl
  rotate_left
  · simp only [Act.put, List.setIfInBounds_toArray, List.set_cons_zero, List.set_cons_succ, i64_w, i32_w]
    rfl
  refine pure_ (i := 2) (N := some 17) (v := ?_) (a' := ?_) #[true, true, true, false, false, false, false] rfl rfl (by kernel_rfl) (fun _ _ _ h => h) (Or.inl ⟨by rfl, ?_⟩) ?_ ?_
  rotate_left
  · intro w'
    go_simp
    with_reducible rfl
  rotate_left
  · simp only [Act.put, List.setIfInBounds_toArray, List.set_cons_zero, List.set_cons_succ, i64_w, i32_w]
    rfl
  refine take_ (i := 3) (N := some 18) (v := ?_) (a' := ?_) #[true, true, true, true, false, false, false] rfl rfl (by kernel_rfl) (fun _ _ _ h => h) (Or.inl ⟨by rfl, ?_⟩) hHeld ?_ ?_
  rotate_left
  · rintro w' ⟨s0, s1, s2, s3⟩
    go_simp
    with_reducible rfl
  rotate_left
  · simp only [Act.put, List.setIfInBounds_toArray, List.set_cons_zero, List.set_cons_succ, i64_w, i32_w]
    rfl
  refine take_ (i := 4) (N := some 19) (v := ?_) (a' := ?_) #[true, true, true, true, true, false, false] rfl rfl (by kernel_rfl) (fun _ _ _ h => h) (Or.inl ⟨by rfl, ?_⟩) hHeld ?_ ?_
  rotate_left
  · rintro w' ⟨s0, s1, s2, s3⟩
    go_simp
    with_reducible rfl
  rotate_left
  · simp only [Act.put, List.setIfInBounds_toArray, List.set_cons_zero, List.set_cons_succ, i64_w, i32_w]
    rfl
  refine last_ (i := 5) (N := some 20) #[true, true, true, true, true, true, false] rfl rfl (by kernel_rfl) (by decide) (fun K hK => ?_)
  refine goesI_ Try.func76 (by kernel_rfl) rfl #[.pointer (some ⟨g, 0, none⟩), .agg #[.int .i64 v.f0, .int .i64 v.f1, .string v.f2]] (by rfl) rfl (by go_simp) ?_
  with_reducible refine (best_add.null g u sg v _ HG1.out B HB.out H0.out).mono ?_
  rintro e w2 ⟨rfl, hg2, hb2, hk2⟩
  refine ⟨_, rfl, ?_⟩
  have HE := Aside0.mk (hEnd w2 hg2 hb2 hk2)
  clear hg2 hb2 hk2
  refine hK.out _ _ ?_
  clear hK K
  refine norm_ (a' := ?_) ?_ ?_
  rotate_left
  · show Act.put _ (some 20) _ = _
    simp only [Act.put, List.setIfInBounds_toArray, List.set_cons_zero, List.set_cons_succ, i64_w, i32_w]
    rfl
  refine pure_ (i := 6) (N := some 4) (v := ?_) (a' := ?_) #[true, true, true, true, true, true, true] rfl rfl (by kernel_rfl) (fun _ _ _ h => h) (Or.inl ⟨by rfl, ?_⟩) ?_ ?_
  rotate_left
  · intro w'
    go_simp
    with_reducible rfl
  rotate_left
  · simp only [Act.put, List.setIfInBounds_toArray, List.set_cons_zero, List.set_cons_succ, i64_w, i32_w]
    rfl
  refine done_ (by kernel_rfl) ?_
  go_wp2_with fail
  go_ret
  exact ⟨rfl, HE.out⟩
set_option maxHeartbeats 2000000 in
set_option maxRecDepth 100000 in
theorem acc_add.best_null_r (b g : Nat) (rows : Bool) (u : S32) (sg : Int) (v : S32) (w : World) (h : AccAt w b g rows (.best u sg)) (B : Nat) (hB : B ≤ g) (hz0 : v.f0 = 0) (hz : rows = true) (h0 : u.f0 = 0) :
    Calls Try.prog 13 #[.pointer (some ⟨b, 0, none⟩), .agg #[.int .i64 v.f0, .int .i64 v.f1, .string v.f2]] w fun e w' =>
      e = .returned (.int .i64 0) ∧ AccAt w' b g rows (.best v sg) ∧ Below B w w' ∧ KeepBut w w' g none := by
  have hu := Try.underlying32
  have hm := m_add_best
  have hne := Aside0.mk h.2.2
  have hb0 : w.heap[b]? = some (.cells #[.iface 53 (.pointer (some ⟨g, 0, none⟩)), .bool rows] 57 (0, 0)) := h.1
  have HS := Aside0.mk (BA.start (v := v) hb0)
  have HG := Aside0.mk h.2.1
  have HL := Aside0.mk (Nat.le_trans hB (Nat.le_of_lt (blk_lt h.2.1)))
  have HB := Aside0.mk hB
  have hc1 : World.cell? _ ⟨b, 1, none⟩ = some (.bool rows) := (blk_cell HS.out.1 1).trans rfl
  have qz0 : (v.f0 == 0) = true := beq_iff_eq.mpr hz0
  have qz : rows = true := hz
  have H0 := Aside0.mk h0
  clear hb0 hB h hz0 hz h0
  go_enter Try.func13, Try.ntmps13
  go_wp2_with fail
  refine at_world (fun w' => BA b w.heap.size #[.iface 53 (.pointer (some ⟨g, 0, none⟩)), .bool rows] 57 v w w') (by repeat (first | exact HS.out | refine BA.drewN ?_ _ | refine BA.drew ?_)) (fun w1 hI => ?_)
  have HI := Aside0.mk hI
  clear hI hc1
  have HG1 := Aside0.mk (blk_below HG.out HI.out.drew.2.2)
  have hEnd : ∀ w2, w2.heap[g]? = some (.cells (.best v sg : Gst).cells (.best v sg : Gst).ty (0, 0)) → Below B w1.drew w2 → KeepBut w1.drew w2 g none → AccAt w2 b g rows (.best v sg) ∧ Below B w w2 ∧ KeepBut w w2 g none := fun w2 a1 a2 a3 =>
    ⟨⟨a3.blk HI.out.drew.1 hne.out (by simp), a1, hne.out⟩, (HI.out.drew.2.2.mono HL.out).trans a2, (KeepBut.of_below HI.out.drew.2.2 g none).trans a3 (.inl rfl)⟩
  refine start_ (n := 7) (S := fun w' => w'.cell? ⟨b, 0, none⟩ = some (.iface 53 (.pointer (some ⟨g, 0, none⟩))) ∧ w'.cell? ⟨w.heap.size, 0, none⟩ = some (.int .i64 v.f0) ∧ w'.cell? ⟨w.heap.size, 1, none⟩ = some (.int .i64 v.f1) ∧ w'.cell? ⟨w.heap.size, 2, none⟩ = some (.string v.f2)) (ds := [5]) #[false, false, false, false, false, false, false] (by kernel_rfl) rfl rfl ⟨(blk_cell (HI.out.drew).1 0).trans rfl, (HI.out.drew).v0, (HI.out.drew).v1, (HI.out.drew).v2⟩ (fun hHeld => ?_)
  refine pure_ (i := 0) (N := some 15) (v := ?_) (a' := ?_) #[true, false, false, false, false, false, false] rfl rfl (by kernel_rfl) (fun _ _ _ h => h) (Or.inl ⟨by rfl, ?_⟩) ?_ ?_
  rotate_left
  · intro w'
    go_simp
    with_reducible rfl
  rotate_left
  · simp only [Act.put, List.setIfInBounds_toArray, List.set_cons_zero, List.set_cons_succ, i64_w, i32_w]
    rfl
  refine pure_ (i := 1) (N := some 16) (v := ?_) (a' := ?_) #[true, true, false, false, false, false, false] rfl rfl (by kernel_rfl) (fun _ _ _ h => h) (Or.inl ⟨by rfl, ?_⟩) ?_ ?_
  rotate_left
  · intro w'
    go_simp
    with_reducible rfl
  rotate_left
  · simp only [Act.put, List.setIfInBounds_toArray, List.set_cons_zero, List.set_cons_succ, i64_w, i32_w]
    rfl
  refine pure_ (i := 2) (N := some 17) (v := ?_) (a' := ?_) #[true, true, true, false, false, false, false] rfl rfl (by kernel_rfl) (fun _ _ _ h => h) (Or.inl ⟨by rfl, ?_⟩) ?_ ?_
  rotate_left
  · intro w'
    go_simp
    with_reducible rfl
  rotate_left
  · simp only [Act.put, List.setIfInBounds_toArray, List.set_cons_zero, List.set_cons_succ, i64_w, i32_w]
    rfl
  refine take_ (i := 3) (N := some 18) (v := ?_) (a' := ?_) #[true, true, true, true, false, false, false] rfl rfl (by kernel_rfl) (fun _ _ _ h => h) (Or.inl ⟨by rfl, ?_⟩) hHeld ?_ ?_
  rotate_left
  · rintro w' ⟨s0, s1, s2, s3⟩
    go_simp
    with_reducible rfl
  rotate_left
  · simp only [Act.put, List.setIfInBounds_toArray, List.set_cons_zero, List.set_cons_succ, i64_w, i32_w]
    rfl
  refine take_ (i := 4) (N := some 19) (v := ?_) (a' := ?_) #[true, true, true, true, true, false, false] rfl rfl (by kernel_rfl) (fun _ _ _ h => h) (Or.inl ⟨by rfl, ?_⟩) hHeld ?_ ?_
  rotate_left
  · rintro w' ⟨s0, s1, s2, s3⟩
    go_simp
    with_reducible rfl
  rotate_left
  · simp only [Act.put, List.setIfInBounds_toArray, List.set_cons_zero, List.set_cons_succ, i64_w, i32_w]
    rfl
  refine last_ (i := 5) (N := some 20) #[true, true, true, true, true, true, false] rfl rfl (by kernel_rfl) (by decide) (fun K hK => ?_)
  refine goesI_ Try.func76 (by kernel_rfl) rfl #[.pointer (some ⟨g, 0, none⟩), .agg #[.int .i64 v.f0, .int .i64 v.f1, .string v.f2]] (by rfl) rfl (by go_simp) ?_
  with_reducible refine (best_add.null g u sg v _ HG1.out B HB.out H0.out).mono ?_
  rintro e w2 ⟨rfl, hg2, hb2, hk2⟩
  refine ⟨_, rfl, ?_⟩
  have HE := Aside0.mk (hEnd w2 hg2 hb2 hk2)
  clear hg2 hb2 hk2
  refine hK.out _ _ ?_
  clear hK K
  refine norm_ (a' := ?_) ?_ ?_
  rotate_left
  · show Act.put _ (some 20) _ = _
    simp only [Act.put, List.setIfInBounds_toArray, List.set_cons_zero, List.set_cons_succ, i64_w, i32_w]
    rfl
  refine pure_ (i := 6) (N := some 4) (v := ?_) (a' := ?_) #[true, true, true, true, true, true, true] rfl rfl (by kernel_rfl) (fun _ _ _ h => h) (Or.inl ⟨by rfl, ?_⟩) ?_ ?_
  rotate_left
  · intro w'
    go_simp
    with_reducible rfl
  rotate_left
  · simp only [Act.put, List.setIfInBounds_toArray, List.set_cons_zero, List.set_cons_succ, i64_w, i32_w]
    rfl
  refine done_ (by kernel_rfl) ?_
  go_wp2_with fail
  go_ret
  exact ⟨rfl, HE.out⟩
set_option maxHeartbeats 2000000 in
set_option maxRecDepth 100000 in
theorem acc_add.best_take_v (b g : Nat) (rows : Bool) (u : S32) (sg : Int) (v : S32) (w : World) (h : AccAt w b g rows (.best u sg)) (B : Nat) (hB : B ≤ g) (hz : ¬ v.f0 = 0) (h0 : ¬ u.f0 = 0) (h1 : cmpV v u = sg) :
    Calls Try.prog 13 #[.pointer (some ⟨b, 0, none⟩), .agg #[.int .i64 v.f0, .int .i64 v.f1, .string v.f2]] w fun e w' =>
      e = .returned (.int .i64 0) ∧ AccAt w' b g rows (.best v sg) ∧ Below B w w' ∧ KeepBut w w' g none := by
  have hu := Try.underlying32
  have hm := m_add_best
  have hne := Aside0.mk h.2.2
  have hb0 : w.heap[b]? = some (.cells #[.iface 53 (.pointer (some ⟨g, 0, none⟩)), .bool rows] 57 (0, 0)) := h.1
  have HS := Aside0.mk (BA.start (v := v) hb0)
  have HG := Aside0.mk h.2.1
  have HL := Aside0.mk (Nat.le_trans hB (Nat.le_of_lt (blk_lt h.2.1)))
  have HB := Aside0.mk hB
  have hc1 : World.cell? _ ⟨b, 1, none⟩ = some (.bool rows) := (blk_cell HS.out.1 1).trans rfl
  have qz : (v.f0 == 0) = false := beq_eq_false_iff_ne.mpr hz
  have H0 := Aside0.mk h0
  have H1 := Aside0.mk h1
  clear hb0 hB h hz h0 h1
  go_enter Try.func13, Try.ntmps13
  go_wp2_with fail
  refine at_world (fun w' => BA b w.heap.size #[.iface 53 (.pointer (some ⟨g, 0, none⟩)), .bool rows] 57 v w w') (by repeat (first | exact HS.out | refine BA.drewN ?_ _ | refine BA.drew ?_)) (fun w1 hI => ?_)
  have HI := Aside0.mk hI
  clear hI hc1
  have HG1 := Aside0.mk (blk_below HG.out HI.out.drew.2.2)
  have hEnd : ∀ w2, w2.heap[g]? = some (.cells (.best v sg : Gst).cells (.best v sg : Gst).ty (0, 0)) → Below B w1.drew w2 → KeepBut w1.drew w2 g none → AccAt w2 b g rows (.best v sg) ∧ Below B w w2 ∧ KeepBut w w2 g none := fun w2 a1 a2 a3 =>
    ⟨⟨a3.blk HI.out.drew.1 hne.out (by simp), a1, hne.out⟩, (HI.out.drew.2.2.mono HL.out).trans a2, (KeepBut.of_below HI.out.drew.2.2 g none).trans a3 (.inl rfl)⟩
  refine start_ (n := 7) (S := fun w' => w'.cell? ⟨b, 0, none⟩ = some (.iface 53 (.pointer (some ⟨g, 0, none⟩))) ∧ w'.cell? ⟨w.heap.size, 0, none⟩ = some (.int .i64 v.f0) ∧ w'.cell? ⟨w.heap.size, 1, none⟩ = some (.int .i64 v.f1) ∧ w'.cell? ⟨w.heap.size, 2, none⟩ = some (.string v.f2)) (ds := [5]) #[false, false, false, false, false, false, false] (by kernel_rfl) rfl rfl ⟨(blk_cell (HI.out.drew).1 0).trans rfl, (HI.out.drew).v0, (HI.out.drew).v1, (HI.out.drew).v2⟩ (fun hHeld => ?_)
  refine pure_ (i := 0) (N := some 15) (v := ?_) (a' := ?_) #[true, false, false, false, false, false, false] rfl rfl (by kernel_rfl) (fun _ _ _ h => h) (Or.inl ⟨by rfl, ?_⟩) ?_ ?_
  rotate_left
  · intro w'
    go_simp
    with_reducible rfl
  rotate_left
  · simp only [Act.put, List.setIfInBounds_toArray, List.set_cons_zero, List.set_cons_succ, i64_w, i32_w]
    rfl
  refine pure_ (i := 1) (N := some 16) (v := ?_) (a' := ?_) #[true, true, false, false, false, false, false] rfl rfl (by kernel_rfl) (fun _ _ _ h => h) (Or.inl ⟨by rfl, ?_⟩) ?_ ?_
  rotate_left
  · intro w'
    go_simp
    with_reducible rfl
  rotate_left
  · simp only [Act.put, List.setIfInBounds_toArray, List.set_cons_zero, List.set_cons_succ, i64_w, i32_w]
    rfl
  refine pure_ (i := 2) (N := some 17) (v := ?_) (a' := ?_) #[true, true, true, false, false, false, false] rfl rfl (by kernel_rfl) (fun _ _ _ h => h) (Or.inl ⟨by rfl, ?_⟩) ?_ ?_
  rotate_left
  · intro w'
    go_simp
    with_reducible rfl
  rotate_left
  · simp only [Act.put, List.setIfInBounds_toArray, List.set_cons_zero, List.set_cons_succ, i64_w, i32_w]
    rfl
  refine take_ (i := 3) (N := some 18) (v := ?_) (a' := ?_) #[true, true, true, true, false, false, false] rfl rfl (by kernel_rfl) (fun _ _ _ h => h) (Or.inl ⟨by rfl, ?_⟩) hHeld ?_ ?_
  rotate_left
  · rintro w' ⟨s0, s1, s2, s3⟩
    go_simp
    with_reducible rfl
  rotate_left
  · simp only [Act.put, List.setIfInBounds_toArray, List.set_cons_zero, List.set_cons_succ, i64_w, i32_w]
    rfl
  refine take_ (i := 4) (N := some 19) (v := ?_) (a' := ?_) #[true, true, true, true, true, false, false] rfl rfl (by kernel_rfl) (fun _ _ _ h => h) (Or.inl ⟨by rfl, ?_⟩) hHeld ?_ ?_
  rotate_left
  · rintro w' ⟨s0, s1, s2, s3⟩
    go_simp
    with_reducible rfl
  rotate_left
  · simp only [Act.put, List.setIfInBounds_toArray, List.set_cons_zero, List.set_cons_succ, i64_w, i32_w]
    rfl
  refine last_ (i := 5) (N := some 20) #[true, true, true, true, true, true, false] rfl rfl (by kernel_rfl) (by decide) (fun K hK => ?_)
  refine goesI_ Try.func76 (by kernel_rfl) rfl #[.pointer (some ⟨g, 0, none⟩), .agg #[.int .i64 v.f0, .int .i64 v.f1, .string v.f2]] (by rfl) rfl (by go_simp) ?_
  with_reducible refine (best_add.take g u sg v _ HG1.out B HB.out H0.out H1.out).mono ?_
  rintro e w2 ⟨rfl, hg2, hb2, hk2⟩
  refine ⟨_, rfl, ?_⟩
  have HE := Aside0.mk (hEnd w2 hg2 hb2 hk2)
  clear hg2 hb2 hk2
  refine hK.out _ _ ?_
  clear hK K
  refine norm_ (a' := ?_) ?_ ?_
  rotate_left
  · show Act.put _ (some 20) _ = _
    simp only [Act.put, List.setIfInBounds_toArray, List.set_cons_zero, List.set_cons_succ, i64_w, i32_w]
    rfl
  refine pure_ (i := 6) (N := some 4) (v := ?_) (a' := ?_) #[true, true, true, true, true, true, true] rfl rfl (by kernel_rfl) (fun _ _ _ h => h) (Or.inl ⟨by rfl, ?_⟩) ?_ ?_
  rotate_left
  · intro w'
    go_simp
    with_reducible rfl
  rotate_left
  · simp only [Act.put, List.setIfInBounds_toArray, List.set_cons_zero, List.set_cons_succ, i64_w, i32_w]
    rfl
  refine done_ (by kernel_rfl) ?_
  go_wp2_with fail
  go_ret
  exact ⟨rfl, HE.out⟩
set_option maxHeartbeats 2000000 in
set_option maxRecDepth 100000 in
theorem acc_add.best_take_r (b g : Nat) (rows : Bool) (u : S32) (sg : Int) (v : S32) (w : World) (h : AccAt w b g rows (.best u sg)) (B : Nat) (hB : B ≤ g) (hz0 : v.f0 = 0) (hz : rows = true) (h0 : ¬ u.f0 = 0) (h1 : cmpV v u = sg) :
    Calls Try.prog 13 #[.pointer (some ⟨b, 0, none⟩), .agg #[.int .i64 v.f0, .int .i64 v.f1, .string v.f2]] w fun e w' =>
      e = .returned (.int .i64 0) ∧ AccAt w' b g rows (.best v sg) ∧ Below B w w' ∧ KeepBut w w' g none := by
  have hu := Try.underlying32
  have hm := m_add_best
  have hne := Aside0.mk h.2.2
  have hb0 : w.heap[b]? = some (.cells #[.iface 53 (.pointer (some ⟨g, 0, none⟩)), .bool rows] 57 (0, 0)) := h.1
  have HS := Aside0.mk (BA.start (v := v) hb0)
  have HG := Aside0.mk h.2.1
  have HL := Aside0.mk (Nat.le_trans hB (Nat.le_of_lt (blk_lt h.2.1)))
  have HB := Aside0.mk hB
  have hc1 : World.cell? _ ⟨b, 1, none⟩ = some (.bool rows) := (blk_cell HS.out.1 1).trans rfl
  have qz0 : (v.f0 == 0) = true := beq_iff_eq.mpr hz0
  have qz : rows = true := hz
  have H0 := Aside0.mk h0
  have H1 := Aside0.mk h1
  clear hb0 hB h hz0 hz h0 h1
  go_enter Try.func13, Try.ntmps13
  go_wp2_with fail
  refine at_world (fun w' => BA b w.heap.size #[.iface 53 (.pointer (some ⟨g, 0, none⟩)), .bool rows] 57 v w w') (by repeat (first | exact HS.out | refine BA.drewN ?_ _ | refine BA.drew ?_)) (fun w1 hI => ?_)
  have HI := Aside0.mk hI
  clear hI hc1
  have HG1 := Aside0.mk (blk_below HG.out HI.out.drew.2.2)
  have hEnd : ∀ w2, w2.heap[g]? = some (.cells (.best v sg : Gst).cells (.best v sg : Gst).ty (0, 0)) → Below B w1.drew w2 → KeepBut w1.drew w2 g none → AccAt w2 b g rows (.best v sg) ∧ Below B w w2 ∧ KeepBut w w2 g none := fun w2 a1 a2 a3 =>
    ⟨⟨a3.blk HI.out.drew.1 hne.out (by simp), a1, hne.out⟩, (HI.out.drew.2.2.mono HL.out).trans a2, (KeepBut.of_below HI.out.drew.2.2 g none).trans a3 (.inl rfl)⟩
  refine start_ (n := 7) (S := fun w' => w'.cell? ⟨b, 0, none⟩ = some (.iface 53 (.pointer (some ⟨g, 0, none⟩))) ∧ w'.cell? ⟨w.heap.size, 0, none⟩ = some (.int .i64 v.f0) ∧ w'.cell? ⟨w.heap.size, 1, none⟩ = some (.int .i64 v.f1) ∧ w'.cell? ⟨w.heap.size, 2, none⟩ = some (.string v.f2)) (ds := [5]) #[false, false, false, false, false, false, false] (by kernel_rfl) rfl rfl ⟨(blk_cell (HI.out.drew).1 0).trans rfl, (HI.out.drew).v0, (HI.out.drew).v1, (HI.out.drew).v2⟩ (fun hHeld => ?_)
  refine pure_ (i := 0) (N := some 15) (v := ?_) (a' := ?_) #[true, false, false, false, false, false, false] rfl rfl (by kernel_rfl) (fun _ _ _ h => h) (Or.inl ⟨by rfl, ?_⟩) ?_ ?_
  rotate_left
  · intro w'
    go_simp
    with_reducible rfl
  rotate_left
  · simp only [Act.put, List.setIfInBounds_toArray, List.set_cons_zero, List.set_cons_succ, i64_w, i32_w]
    rfl
  refine pure_ (i := 1) (N := some 16) (v := ?_) (a' := ?_) #[true, true, false, false, false, false, false] rfl rfl (by kernel_rfl) (fun _ _ _ h => h) (Or.inl ⟨by rfl, ?_⟩) ?_ ?_
  rotate_left
  · intro w'
    go_simp
    with_reducible rfl
  rotate_left
  · simp only [Act.put, List.setIfInBounds_toArray, List.set_cons_zero, List.set_cons_succ, i64_w, i32_w]
    rfl
  refine pure_ (i := 2) (N := some 17) (v := ?_) (a' := ?_) #[true, true, true, false, false, false, false] rfl rfl (by kernel_rfl) (fun _ _ _ h => h) (Or.inl ⟨by rfl, ?_⟩) ?_ ?_
  rotate_left
  · intro w'
    go_simp
    with_reducible rfl
  rotate_left
  · simp only [Act.put, List.setIfInBounds_toArray, List.set_cons_zero, List.set_cons_succ, i64_w, i32_w]
    rfl
  refine take_ (i := 3) (N := some 18) (v := ?_) (a' := ?_) #[true, true, true, true, false, false, false] rfl rfl (by kernel_rfl) (fun _ _ _ h => h) (Or.inl ⟨by rfl, ?_⟩) hHeld ?_ ?_
  rotate_left
  · rintro w' ⟨s0, s1, s2, s3⟩
    go_simp
    with_reducible rfl
  rotate_left
  · simp only [Act.put, List.setIfInBounds_toArray, List.set_cons_zero, List.set_cons_succ, i64_w, i32_w]
    rfl
  refine take_ (i := 4) (N := some 19) (v := ?_) (a' := ?_) #[true, true, true, true, true, false, false] rfl rfl (by kernel_rfl) (fun _ _ _ h => h) (Or.inl ⟨by rfl, ?_⟩) hHeld ?_ ?_
  rotate_left
  · rintro w' ⟨s0, s1, s2, s3⟩
    go_simp
    with_reducible rfl
  rotate_left
  · simp only [Act.put, List.setIfInBounds_toArray, List.set_cons_zero, List.set_cons_succ, i64_w, i32_w]
    rfl
  refine last_ (i := 5) (N := some 20) #[true, true, true, true, true, true, false] rfl rfl (by kernel_rfl) (by decide) (fun K hK => ?_)
  refine goesI_ Try.func76 (by kernel_rfl) rfl #[.pointer (some ⟨g, 0, none⟩), .agg #[.int .i64 v.f0, .int .i64 v.f1, .string v.f2]] (by rfl) rfl (by go_simp) ?_
  with_reducible refine (best_add.take g u sg v _ HG1.out B HB.out H0.out H1.out).mono ?_
  rintro e w2 ⟨rfl, hg2, hb2, hk2⟩
  refine ⟨_, rfl, ?_⟩
  have HE := Aside0.mk (hEnd w2 hg2 hb2 hk2)
  clear hg2 hb2 hk2
  refine hK.out _ _ ?_
  clear hK K
  refine norm_ (a' := ?_) ?_ ?_
  rotate_left
  · show Act.put _ (some 20) _ = _
    simp only [Act.put, List.setIfInBounds_toArray, List.set_cons_zero, List.set_cons_succ, i64_w, i32_w]
    rfl
  refine pure_ (i := 6) (N := some 4) (v := ?_) (a' := ?_) #[true, true, true, true, true, true, true] rfl rfl (by kernel_rfl) (fun _ _ _ h => h) (Or.inl ⟨by rfl, ?_⟩) ?_ ?_
  rotate_left
  · intro w'
    go_simp
    with_reducible rfl
  rotate_left
  · simp only [Act.put, List.setIfInBounds_toArray, List.set_cons_zero, List.set_cons_succ, i64_w, i32_w]
    rfl
  refine done_ (by kernel_rfl) ?_
  go_wp2_with fail
  go_ret
  exact ⟨rfl, HE.out⟩
set_option maxHeartbeats 2000000 in
set_option maxRecDepth 100000 in
theorem acc_add.best_stay_v (b g : Nat) (rows : Bool) (u : S32) (sg : Int) (v : S32) (w : World) (h : AccAt w b g rows (.best u sg)) (B : Nat) (hB : B ≤ g) (hz : ¬ v.f0 = 0) (h0 : ¬ u.f0 = 0) (h1 : ¬ cmpV v u = sg) :
    Calls Try.prog 13 #[.pointer (some ⟨b, 0, none⟩), .agg #[.int .i64 v.f0, .int .i64 v.f1, .string v.f2]] w fun e w' =>
      e = .returned (.int .i64 0) ∧ AccAt w' b g rows (.best u sg) ∧ Below B w w' ∧ KeepBut w w' g none := by
  have hu := Try.underlying32
  have hm := m_add_best
  have hne := Aside0.mk h.2.2
  have hb0 : w.heap[b]? = some (.cells #[.iface 53 (.pointer (some ⟨g, 0, none⟩)), .bool rows] 57 (0, 0)) := h.1
  have HS := Aside0.mk (BA.start (v := v) hb0)
  have HG := Aside0.mk h.2.1
  have HL := Aside0.mk (Nat.le_trans hB (Nat.le_of_lt (blk_lt h.2.1)))
  have HB := Aside0.mk hB
  have hc1 : World.cell? _ ⟨b, 1, none⟩ = some (.bool rows) := (blk_cell HS.out.1 1).trans rfl
  have qz : (v.f0 == 0) = false := beq_eq_false_iff_ne.mpr hz
  have H0 := Aside0.mk h0
  have H1 := Aside0.mk h1
  clear hb0 hB h hz h0 h1
  go_enter Try.func13, Try.ntmps13
  go_wp2_with fail
  refine at_world (fun w' => BA b w.heap.size #[.iface 53 (.pointer (some ⟨g, 0, none⟩)), .bool rows] 57 v w w') (by repeat (first | exact HS.out | refine BA.drewN ?_ _ | refine BA.drew ?_)) (fun w1 hI => ?_)
  have HI := Aside0.mk hI
  clear hI hc1
  have HG1 := Aside0.mk (blk_below HG.out HI.out.drew.2.2)
  have hEnd : ∀ w2, w2.heap[g]? = some (.cells (.best u sg : Gst).cells (.best u sg : Gst).ty (0, 0)) → Below B w1.drew w2 → KeepBut w1.drew w2 g none → AccAt w2 b g rows (.best u sg) ∧ Below B w w2 ∧ KeepBut w w2 g none := fun w2 a1 a2 a3 =>
    ⟨⟨a3.blk HI.out.drew.1 hne.out (by simp), a1, hne.out⟩, (HI.out.drew.2.2.mono HL.out).trans a2, (KeepBut.of_below HI.out.drew.2.2 g none).trans a3 (.inl rfl)⟩
  refine start_ (n := 7) (S := fun w' => w'.cell? ⟨b, 0, none⟩ = some (.iface 53 (.pointer (some ⟨g, 0, none⟩))) ∧ w'.cell? ⟨w.heap.size, 0, none⟩ = some (.int .i64 v.f0) ∧ w'.cell? ⟨w.heap.size, 1, none⟩ = some (.int .i64 v.f1) ∧ w'.cell? ⟨w.heap.size, 2, none⟩ = some (.string v.f2)) (ds := [5]) #[false, false, false, false, false, false, false] (by kernel_rfl) rfl rfl ⟨(blk_cell (HI.out.drew).1 0).trans rfl, (HI.out.drew).v0, (HI.out.drew).v1, (HI.out.drew).v2⟩ (fun hHeld => ?_)
  refine pure_ (i := 0) (N := some 15) (v := ?_) (a' := ?_) #[true, false, false, false, false, false, false] rfl rfl (by kernel_rfl) (fun _ _ _ h => h) (Or.inl ⟨by rfl, ?_⟩) ?_ ?_
  rotate_left
  · intro w'
    go_simp
    with_reducible rfl
  rotate_left
  · simp only [Act.put, List.setIfInBounds_toArray, List.set_cons_zero, List.set_cons_succ, i64_w, i32_w]
    rfl
  refine pure_ (i := 1) (N := some 16) (v := ?_) (a' := ?_) #[true, true, false, false, false, false, false] rfl rfl (by kernel_rfl) (fun _ _ _ h => h) (Or.inl ⟨by rfl, ?_⟩) ?_ ?_
  rotate_left
  · intro w'
    go_simp
    with_reducible rfl
  rotate_left
  · simp only [Act.put, List.setIfInBounds_toArray, List.set_cons_zero, List.set_cons_succ, i64_w, i32_w]
    rfl
  refine pure_ (i := 2) (N := some 17) (v := ?_) (a' := ?_) #[true, true, true, false, false, false, false] rfl rfl (by kernel_rfl) (fun _ _ _ h => h) (Or.inl ⟨by rfl, ?_⟩) ?_ ?_
  rotate_left
  · intro w'
    go_simp
    with_reducible rfl
  rotate_left
  · simp only [Act.put, List.setIfInBounds_toArray, List.set_cons_zero, List.set_cons_succ, i64_w, i32_w]
    rfl
  refine take_ (i := 3) (N := some 18) (v := ?_) (a' := ?_) #[true, true, true, true, false, false, false] rfl rfl (by kernel_rfl) (fun _ _ _ h => h) (Or.inl ⟨by rfl, ?_⟩) hHeld ?_ ?_
  rotate_left
  · rintro w' ⟨s0, s1, s2, s3⟩
    go_simp
    with_reducible rfl
  rotate_left
  · simp only [Act.put, List.setIfInBounds_toArray, List.set_cons_zero, List.set_cons_succ, i64_w, i32_w]
    rfl
  refine take_ (i := 4) (N := some 19) (v := ?_) (a' := ?_) #[true, true, true, true, true, false, false] rfl rfl (by kernel_rfl) (fun _ _ _ h => h) (Or.inl ⟨by rfl, ?_⟩) hHeld ?_ ?_
  rotate_left
  · rintro w' ⟨s0, s1, s2, s3⟩
    go_simp
    with_reducible rfl
  rotate_left
  · simp only [Act.put, List.setIfInBounds_toArray, List.set_cons_zero, List.set_cons_succ, i64_w, i32_w]
    rfl
  refine last_ (i := 5) (N := some 20) #[true, true, true, true, true, true, false] rfl rfl (by kernel_rfl) (by decide) (fun K hK => ?_)
  refine goesI_ Try.func76 (by kernel_rfl) rfl #[.pointer (some ⟨g, 0, none⟩), .agg #[.int .i64 v.f0, .int .i64 v.f1, .string v.f2]] (by rfl) rfl (by go_simp) ?_
  with_reducible refine (best_add.stay g u sg v _ HG1.out B HB.out H0.out H1.out).mono ?_
  rintro e w2 ⟨rfl, hg2, hb2, hk2⟩
  refine ⟨_, rfl, ?_⟩
  have HE := Aside0.mk (hEnd w2 hg2 hb2 hk2)
  clear hg2 hb2 hk2
  refine hK.out _ _ ?_
  clear hK K
  refine norm_ (a' := ?_) ?_ ?_
  rotate_left
  · show Act.put _ (some 20) _ = _
    simp only [Act.put, List.setIfInBounds_toArray, List.set_cons_zero, List.set_cons_succ, i64_w, i32_w]
    rfl
  refine pure_ (i := 6) (N := some 4) (v := ?_) (a' := ?_) #[true, true, true, true, true, true, true] rfl rfl (by kernel_rfl) (fun _ _ _ h => h) (Or.inl ⟨by rfl, ?_⟩) ?_ ?_
  rotate_left
  · intro w'
    go_simp
    with_reducible rfl
  rotate_left
  · simp only [Act.put, List.setIfInBounds_toArray, List.set_cons_zero, List.set_cons_succ, i64_w, i32_w]
    rfl
  refine done_ (by kernel_rfl) ?_
  go_wp2_with fail
  go_ret
  exact ⟨rfl, HE.out⟩
set_option maxHeartbeats 2000000 in
set_option maxRecDepth 100000 in
theorem acc_add.best_stay_r (b g : Nat) (rows : Bool) (u : S32) (sg : Int) (v : S32) (w : World) (h : AccAt w b g rows (.best u sg)) (B : Nat) (hB : B ≤ g) (hz0 : v.f0 = 0) (hz : rows = true) (h0 : ¬ u.f0 = 0) (h1 : ¬ cmpV v u = sg) :
    Calls Try.prog 13 #[.pointer (some ⟨b, 0, none⟩), .agg #[.int .i64 v.f0, .int .i64 v.f1, .string v.f2]] w fun e w' =>
      e = .returned (.int .i64 0) ∧ AccAt w' b g rows (.best u sg) ∧ Below B w w' ∧ KeepBut w w' g none := by
  have hu := Try.underlying32
  have hm := m_add_best
  have hne := Aside0.mk h.2.2
  have hb0 : w.heap[b]? = some (.cells #[.iface 53 (.pointer (some ⟨g, 0, none⟩)), .bool rows] 57 (0, 0)) := h.1
  have HS := Aside0.mk (BA.start (v := v) hb0)
  have HG := Aside0.mk h.2.1
  have HL := Aside0.mk (Nat.le_trans hB (Nat.le_of_lt (blk_lt h.2.1)))
  have HB := Aside0.mk hB
  have hc1 : World.cell? _ ⟨b, 1, none⟩ = some (.bool rows) := (blk_cell HS.out.1 1).trans rfl
  have qz0 : (v.f0 == 0) = true := beq_iff_eq.mpr hz0
  have qz : rows = true := hz
  have H0 := Aside0.mk h0
  have H1 := Aside0.mk h1
  clear hb0 hB h hz0 hz h0 h1
  go_enter Try.func13, Try.ntmps13
  go_wp2_with fail
  refine at_world (fun w' => BA b w.heap.size #[.iface 53 (.pointer (some ⟨g, 0, none⟩)), .bool rows] 57 v w w') (by repeat (first | exact HS.out | refine BA.drewN ?_ _ | refine BA.drew ?_)) (fun w1 hI => ?_)
  have HI := Aside0.mk hI
  clear hI hc1
  have HG1 := Aside0.mk (blk_below HG.out HI.out.drew.2.2)
  have hEnd : ∀ w2, w2.heap[g]? = some (.cells (.best u sg : Gst).cells (.best u sg : Gst).ty (0, 0)) → Below B w1.drew w2 → KeepBut w1.drew w2 g none → AccAt w2 b g rows (.best u sg) ∧ Below B w w2 ∧ KeepBut w w2 g none := fun w2 a1 a2 a3 =>
    ⟨⟨a3.blk HI.out.drew.1 hne.out (by simp), a1, hne.out⟩, (HI.out.drew.2.2.mono HL.out).trans a2, (KeepBut.of_below HI.out.drew.2.2 g none).trans a3 (.inl rfl)⟩
  refine start_ (n := 7) (S := fun w' => w'.cell? ⟨b, 0, none⟩ = some (.iface 53 (.pointer (some ⟨g, 0, none⟩))) ∧ w'.cell? ⟨w.heap.size, 0, none⟩ = some (.int .i64 v.f0) ∧ w'.cell? ⟨w.heap.size, 1, none⟩ = some (.int .i64 v.f1) ∧ w'.cell? ⟨w.heap.size, 2, none⟩ = some (.string v.f2)) (ds := [5]) #[false, false, false, false, false, false, false] (by kernel_rfl) rfl rfl ⟨(blk_cell (HI.out.drew).1 0).trans rfl, (HI.out.drew).v0, (HI.out.drew).v1, (HI.out.drew).v2⟩ (fun hHeld => ?_)
  refine pure_ (i := 0) (N := some 15) (v := ?_) (a' := ?_) #[true, false, false, false, false, false, false] rfl rfl (by kernel_rfl) (fun _ _ _ h => h) (Or.inl ⟨by rfl, ?_⟩) ?_ ?_
  rotate_left
  · intro w'
    go_simp
    with_reducible rfl
  rotate_left
  · simp only [Act.put, List.setIfInBounds_toArray, List.set_cons_zero, List.set_cons_succ, i64_w, i32_w]
    rfl
  refine pure_ (i := 1) (N := some 16) (v := ?_) (a' := ?_) #[true, true, false, false, false, false, false] rfl rfl (by kernel_rfl) (fun _ _ _ h => h) (Or.inl ⟨by rfl, ?_⟩) ?_ ?_
  rotate_left
  · intro w'
    go_simp
    with_reducible rfl
  rotate_left
  · simp only [Act.put, List.setIfInBounds_toArray, List.set_cons_zero, List.set_cons_succ, i64_w, i32_w]
    rfl
  refine pure_ (i := 2) (N := some 17) (v := ?_) (a' := ?_) #[true, true, true, false, false, false, false] rfl rfl (by kernel_rfl) (fun _ _ _ h => h) (Or.inl ⟨by rfl, ?_⟩) ?_ ?_
  rotate_left
  · intro w'
    go_simp
    with_reducible rfl
  rotate_left
  · simp only [Act.put, List.setIfInBounds_toArray, List.set_cons_zero, List.set_cons_succ, i64_w, i32_w]
    rfl
  refine take_ (i := 3) (N := some 18) (v := ?_) (a' := ?_) #[true, true, true, true, false, false, false] rfl rfl (by kernel_rfl) (fun _ _ _ h => h) (Or.inl ⟨by rfl, ?_⟩) hHeld ?_ ?_
  rotate_left
  · rintro w' ⟨s0, s1, s2, s3⟩
    go_simp
    with_reducible rfl
  rotate_left
  · simp only [Act.put, List.setIfInBounds_toArray, List.set_cons_zero, List.set_cons_succ, i64_w, i32_w]
    rfl
  refine take_ (i := 4) (N := some 19) (v := ?_) (a' := ?_) #[true, true, true, true, true, false, false] rfl rfl (by kernel_rfl) (fun _ _ _ h => h) (Or.inl ⟨by rfl, ?_⟩) hHeld ?_ ?_
  rotate_left
  · rintro w' ⟨s0, s1, s2, s3⟩
    go_simp
    with_reducible rfl
  rotate_left
  · simp only [Act.put, List.setIfInBounds_toArray, List.set_cons_zero, List.set_cons_succ, i64_w, i32_w]
    rfl
  refine last_ (i := 5) (N := some 20) #[true, true, true, true, true, true, false] rfl rfl (by kernel_rfl) (by decide) (fun K hK => ?_)
  refine goesI_ Try.func76 (by kernel_rfl) rfl #[.pointer (some ⟨g, 0, none⟩), .agg #[.int .i64 v.f0, .int .i64 v.f1, .string v.f2]] (by rfl) rfl (by go_simp) ?_
  with_reducible refine (best_add.stay g u sg v _ HG1.out B HB.out H0.out H1.out).mono ?_
  rintro e w2 ⟨rfl, hg2, hb2, hk2⟩
  refine ⟨_, rfl, ?_⟩
  have HE := Aside0.mk (hEnd w2 hg2 hb2 hk2)
  clear hg2 hb2 hk2
  refine hK.out _ _ ?_
  clear hK K
  refine norm_ (a' := ?_) ?_ ?_
  rotate_left
  · show Act.put _ (some 20) _ = _
    simp only [Act.put, List.setIfInBounds_toArray, List.set_cons_zero, List.set_cons_succ, i64_w, i32_w]
    rfl
  refine pure_ (i := 6) (N := some 4) (v := ?_) (a' := ?_) #[true, true, true, true, true, true, true] rfl rfl (by kernel_rfl) (fun _ _ _ h => h) (Or.inl ⟨by rfl, ?_⟩) ?_ ?_
  rotate_left
  · intro w'
    go_simp
    with_reducible rfl
  rotate_left
  · simp only [Act.put, List.setIfInBounds_toArray, List.set_cons_zero, List.set_cons_succ, i64_w, i32_w]
    rfl
  refine done_ (by kernel_rfl) ?_
  go_wp2_with fail
  go_ret
  exact ⟨rfl, HE.out⟩
end Go.Proofs.Ytgjfciohmgpohaa.P
end
section
namespace Go.Proofs.Ytgjfciohmgpohaa.P
open Go.RowKit Go.Proofs.Ytgjfciohmgpohaa.Pure Go.Proofs.YtgjfciohmgpohaaW.PrintWords Go.Proofs.YtgjfciohmgpohaaW.PrintLast Go.Proofs.YtgjfciohmgpohaaW.PrintMore
attribute [local go_sem] max2_int min2_int max_two min_two max_three min_three max_four min_four
set_option linter.unusedVariables false
set_option linter.unusedSimpArgs false
set_option maxHeartbeats 1000000 in
set_option maxRecDepth 100000 in
theorem acc_add.pass (b g : Nat) (rows : Bool) (st : Gst) (v : S32) (w : World) (h : AccAt w b g rows st) (B : Nat) (hB : B ≤ g) (hz : v.f0 = 0) (hr : rows = false) :
    Calls Try.prog 13 #[.pointer (some ⟨b, 0, none⟩), .agg #[.int .i64 v.f0, .int .i64 v.f1, .string v.f2]] w fun e w' =>
      e = .returned (.int .i64 0) ∧ AccAt w' b g rows st ∧ Below B w w' ∧ KeepBut w w' g none := by
  have hu := Try.underlying32
  have HS := Aside0.mk (BA.start (v := v) h.1)
  have HL := Aside0.mk (Nat.le_trans hB (Nat.le_of_lt (blk_lt h.2.1)))
  have HA := Aside0.mk h
  have hc1 : World.cell? _ ⟨b, 1, none⟩ = some (.bool rows) := (blk_cell HS.out.1 1).trans rfl
  have qz : (v.f0 == 0) = true := beq_iff_eq.mpr hz
  have qr : rows = false := hr
  clear hB h hz hr
  go_enter Try.func13, Try.ntmps13
  go_wp2_with fail
  go_ret
  exact ⟨rfl, HA.out.below HS.out.2.2, HS.out.2.2.mono HL.out, KeepBut.of_below HS.out.2.2 _ _⟩
theorem acc_add.calls (b g : Nat) (rows : Bool) (st : Gst) (v : S32) (w : World) (h : AccAt w b g rows st) (B : Nat) (hB : B ≤ g) (hs : st.fits) (hv : FitsV v) :
    Calls Try.prog 13 #[.pointer (some ⟨b, 0, none⟩), .agg #[.int .i64 v.f0, .int .i64 v.f1, .string v.f2]] w fun e w' =>
      e = .returned (.int .i64 (addP st rows v).2) ∧ AccAt w' b g rows (addP st rows v).1 ∧ Below B w w' ∧ KeepBut w w' g none := by
  by_cases hp : v.f0 = 0 ∧ rows = false
  · have e : addP st rows v = (st, 0) := by unfold addP; rw [if_pos hp]
    rw [e]; exact acc_add.pass b g rows st v w h B hB hp.1 hp.2
  · have hcase : ¬ v.f0 = 0 ∨ (v.f0 = 0 ∧ rows = true) := by
      by_cases h0 : v.f0 = 0
      · exact .inr ⟨h0, by cases rows with | true => rfl | false => exact absurd ⟨h0, rfl⟩ hp⟩
      · exact .inl h0
    cases st with
    | count n =>
      have e : addP (.count n) rows v = (.count (wrap64 (n + 1)), 0) := by unfold addP; rw [if_neg hp]
      rw [e]
      rcases hcase with h0 | ⟨h0, h1⟩
      · exact acc_add.count_v b g rows n v w h B hB h0
      · exact acc_add.count_r b g rows n v w h B hB h0 h1
    | sum s =>
      have e : addP (.sum s) rows v = (.sum (sumA s v).1, (sumA s v).2) := by unfold addP; rw [if_neg hp]
      rw [e]
      unfold sumA
      by_cases hs0 : s.f0 = 0
      · rw [if_pos hs0]
        cases hr : bin 11 (numV 0) v with
        | ok r =>
          rcases hcase with h0 | ⟨h0, h1⟩
          · exact acc_add.sum_nullOk_v b g rows s r v w h B hB h0 hs hv hs0 hr
          · exact acc_add.sum_nullOk_r b g rows s r v w h B hB h0 h1 hs hv hs0 hr
        | error c =>
          rcases hcase with h0 | ⟨h0, h1⟩
          · exact acc_add.sum_nullNo_v b g rows s c v w h B hB h0 hs hv hs0 hr
          · exact acc_add.sum_nullNo_r b g rows s c v w h B hB h0 h1 hs hv hs0 hr
      · rw [if_neg hs0]
        cases hr : bin 11 s v with
        | ok r =>
          rcases hcase with h0 | ⟨h0, h1⟩
          · exact acc_add.sum_moreOk_v b g rows s r v w h B hB h0 hs hv hs0 hr
          · exact acc_add.sum_moreOk_r b g rows s r v w h B hB h0 h1 hs hv hs0 hr
        | error c =>
          rcases hcase with h0 | ⟨h0, h1⟩
          · exact acc_add.sum_moreNo_v b g rows s c v w h B hB h0 hs hv hs0 hr
          · exact acc_add.sum_moreNo_r b g rows s c v w h B hB h0 h1 hs hv hs0 hr
    | best u sg =>
      by_cases hu0 : u.f0 = 0
      · have e : addP (.best u sg) rows v = (.best v sg, 0) := by unfold addP; rw [if_neg hp]; simp only [if_pos (Or.inl hu0 : u.f0 = 0 ∨ cmpV v u = sg)]
        rw [e]
        rcases hcase with h0 | ⟨h0, h1⟩
        · exact acc_add.best_null_v b g rows u sg v w h B hB h0 hu0
        · exact acc_add.best_null_r b g rows u sg v w h B hB h0 h1 hu0
      · by_cases hc : cmpV v u = sg
        · have e : addP (.best u sg) rows v = (.best v sg, 0) := by unfold addP; rw [if_neg hp]; simp only [if_pos (Or.inr hc : u.f0 = 0 ∨ cmpV v u = sg)]
          rw [e]
          rcases hcase with h0 | ⟨h0, h1⟩
          · exact acc_add.best_take_v b g rows u sg v w h B hB h0 hu0 hc
          · exact acc_add.best_take_r b g rows u sg v w h B hB h0 h1 hu0 hc
        · have e : addP (.best u sg) rows v = (.best u sg, 0) := by unfold addP; rw [if_neg hp]; simp only [if_neg (fun h => h.elim hu0 hc : ¬ (u.f0 = 0 ∨ cmpV v u = sg))]
          rw [e]
          rcases hcase with h0 | ⟨h0, h1⟩
          · exact acc_add.best_stay_v b g rows u sg v w h B hB h0 hu0 hc
          · exact acc_add.best_stay_r b g rows u sg v w h B hB h0 h1 hu0 hc
def newP (op : Int) (rows : Bool) : Option Gst :=
  if op = 1 then some (.count 0) else if rows = true then none else if op = 2 then some (.sum zeroV) else if op = 3 then some (.best zeroV (-1)) else if op = 4 then some (.best zeroV 1) else none
theorem AccAt.new (w : World) (rows : Bool) (st : Gst) : AccAt ((w.alloc (.cells st.cells st.ty)).alloc (.cells #[.iface st.dyn (.pointer (some ⟨w.heap.size, 0, none⟩)), .bool rows] 57)) (w.heap.size + 1) w.heap.size rows st :=
  ⟨by
    have h := Deep.blk_alloc_new (w.alloc (.cells st.cells st.ty)) (.cells #[.iface st.dyn (.pointer (some ⟨w.heap.size, 0, none⟩)), .bool rows] 57)
    have e : (w.alloc (.cells st.cells st.ty)).heap.size = w.heap.size + 1 := Array.size_push ..
    rw [e] at h
    exact h, blk_alloc (Deep.blk_alloc_new w _) _, by omega⟩
theorem if_nil (t : TypeId) (p : Value) (ht : t = 47 ∨ t = 50 ∨ t = 53) (w : World) : (binOp .eql 46 (.iface t p) .nilIface).run Try.prog w = .ok (.bool false) w := by
  rcases ht with rfl | rfl | rfl <;> kernel_rfl
set_option maxHeartbeats 1000000 in
set_option maxRecDepth 100000 in
theorem new.count (op : Int) (w : World) (h1 : op = 1) :
    Calls Try.prog 8 #[.int .i64 op, .bool false] w fun e w' => e = .returned (.tuple #[.pointer (some ⟨w.heap.size + 1, 0, none⟩), .int .i64 0]) ∧ AccAt w' (w.heap.size + 1) w.heap.size false (.count 0) ∧ Below w.heap.size w w' := by
  have hu := Try.underlying32
  have hq : ∀ (p : Value) (w : World), (binOp .eql 46 (.iface 47 p) .nilIface).run Try.prog w = .ok (.bool false) w := fun p w => if_nil _ p (by decide) w
  have hq0 : ∀ (w : World), (binOp .eql 46 .nilIface .nilIface).run Try.prog w = .ok (.bool true) w := fun w => by kernel_rfl
  have q1 : (op == 1) = true := beq_iff_eq.mpr h1
  have r1 : (op != 1) = false := bne_eq_false_iff_eq.mpr h1
  have q2 : (op == 2) = false := beq_eq_false_iff_ne.mpr (by omega)
  have r2 : (op != 2) = true := bne_iff_ne.mpr (by omega)
  have q3 : (op == 3) = false := beq_eq_false_iff_ne.mpr (by omega)
  have r3 : (op != 3) = true := bne_iff_ne.mpr (by omega)
  have q4 : (op == 4) = false := beq_eq_false_iff_ne.mpr (by omega)
  have r4 : (op != 4) = true := bne_iff_ne.mpr (by omega)
  clear h1
  go_enter Try.func8, Try.ntmps8
  go_wp2_with fail
  all_goals
    go_ret2
    exact ⟨rfl, AccAt.new w false (.count 0), below_alloc (below_alloc (Below.refl _ _) _) _⟩
set_option maxHeartbeats 1000000 in
set_option maxRecDepth 100000 in
theorem new.countR (op : Int) (w : World) (h1 : op = 1) :
    Calls Try.prog 8 #[.int .i64 op, .bool true] w fun e w' => e = .returned (.tuple #[.pointer (some ⟨w.heap.size + 1, 0, none⟩), .int .i64 0]) ∧ AccAt w' (w.heap.size + 1) w.heap.size true (.count 0) ∧ Below w.heap.size w w' := by
  have hu := Try.underlying32
  have hq : ∀ (p : Value) (w : World), (binOp .eql 46 (.iface 47 p) .nilIface).run Try.prog w = .ok (.bool false) w := fun p w => if_nil _ p (by decide) w
  have hq0 : ∀ (w : World), (binOp .eql 46 .nilIface .nilIface).run Try.prog w = .ok (.bool true) w := fun w => by kernel_rfl
  have q1 : (op == 1) = true := beq_iff_eq.mpr h1
  have r1 : (op != 1) = false := bne_eq_false_iff_eq.mpr h1
  have q2 : (op == 2) = false := beq_eq_false_iff_ne.mpr (by omega)
  have r2 : (op != 2) = true := bne_iff_ne.mpr (by omega)
  have q3 : (op == 3) = false := beq_eq_false_iff_ne.mpr (by omega)
  have r3 : (op != 3) = true := bne_iff_ne.mpr (by omega)
  have q4 : (op == 4) = false := beq_eq_false_iff_ne.mpr (by omega)
  have r4 : (op != 4) = true := bne_iff_ne.mpr (by omega)
  clear h1
  go_enter Try.func8, Try.ntmps8
  go_wp2_with fail
  all_goals
    go_ret2
    exact ⟨rfl, AccAt.new w true (.count 0), below_alloc (below_alloc (Below.refl _ _) _) _⟩
set_option maxHeartbeats 1000000 in
set_option maxRecDepth 100000 in
theorem new.sum (op : Int) (w : World) (h1 : op = 2) :
    Calls Try.prog 8 #[.int .i64 op, .bool false] w fun e w' => e = .returned (.tuple #[.pointer (some ⟨w.heap.size + 1, 0, none⟩), .int .i64 0]) ∧ AccAt w' (w.heap.size + 1) w.heap.size false (.sum zeroV) ∧ Below w.heap.size w w' := by
  have hu := Try.underlying32
  have hq : ∀ (p : Value) (w : World), (binOp .eql 46 (.iface 50 p) .nilIface).run Try.prog w = .ok (.bool false) w := fun p w => if_nil _ p (by decide) w
  have hq0 : ∀ (w : World), (binOp .eql 46 .nilIface .nilIface).run Try.prog w = .ok (.bool true) w := fun w => by kernel_rfl
  have q1 : (op == 1) = false := beq_eq_false_iff_ne.mpr (by omega)
  have r1 : (op != 1) = true := bne_iff_ne.mpr (by omega)
  have q2 : (op == 2) = true := beq_iff_eq.mpr h1
  have r2 : (op != 2) = false := bne_eq_false_iff_eq.mpr h1
  have q3 : (op == 3) = false := beq_eq_false_iff_ne.mpr (by omega)
  have r3 : (op != 3) = true := bne_iff_ne.mpr (by omega)
  have q4 : (op == 4) = false := beq_eq_false_iff_ne.mpr (by omega)
  have r4 : (op != 4) = true := bne_iff_ne.mpr (by omega)
  clear h1
  go_enter Try.func8, Try.ntmps8
  go_wp2_with fail
  all_goals
    go_ret2
    exact ⟨rfl, AccAt.new w false (.sum zeroV), below_alloc (below_alloc (Below.refl _ _) _) _⟩
set_option maxHeartbeats 1000000 in
set_option maxRecDepth 100000 in
theorem new.min (op : Int) (w : World) (h1 : op = 3) :
    Calls Try.prog 8 #[.int .i64 op, .bool false] w fun e w' => e = .returned (.tuple #[.pointer (some ⟨w.heap.size + 1, 0, none⟩), .int .i64 0]) ∧ AccAt w' (w.heap.size + 1) w.heap.size false (.best zeroV (-1)) ∧ Below w.heap.size w w' := by
  have hu := Try.underlying32
  have hq : ∀ (p : Value) (w : World), (binOp .eql 46 (.iface 53 p) .nilIface).run Try.prog w = .ok (.bool false) w := fun p w => if_nil _ p (by decide) w
  have hq0 : ∀ (w : World), (binOp .eql 46 .nilIface .nilIface).run Try.prog w = .ok (.bool true) w := fun w => by kernel_rfl
  have q1 : (op == 1) = false := beq_eq_false_iff_ne.mpr (by omega)
  have r1 : (op != 1) = true := bne_iff_ne.mpr (by omega)
  have q2 : (op == 2) = false := beq_eq_false_iff_ne.mpr (by omega)
  have r2 : (op != 2) = true := bne_iff_ne.mpr (by omega)
  have q3 : (op == 3) = true := beq_iff_eq.mpr h1
  have r3 : (op != 3) = false := bne_eq_false_iff_eq.mpr h1
  have q4 : (op == 4) = false := beq_eq_false_iff_ne.mpr (by omega)
  have r4 : (op != 4) = true := bne_iff_ne.mpr (by omega)
  clear h1
  go_enter Try.func8, Try.ntmps8
  go_wp2_with fail
  all_goals
    go_ret2
    exact ⟨rfl, AccAt.new w false (.best zeroV (-1)), below_alloc (below_alloc (Below.refl _ _) _) _⟩
set_option maxHeartbeats 1000000 in
set_option maxRecDepth 100000 in
theorem new.max (op : Int) (w : World) (h1 : op = 4) :
    Calls Try.prog 8 #[.int .i64 op, .bool false] w fun e w' => e = .returned (.tuple #[.pointer (some ⟨w.heap.size + 1, 0, none⟩), .int .i64 0]) ∧ AccAt w' (w.heap.size + 1) w.heap.size false (.best zeroV 1) ∧ Below w.heap.size w w' := by
  have hu := Try.underlying32
  have hq : ∀ (p : Value) (w : World), (binOp .eql 46 (.iface 53 p) .nilIface).run Try.prog w = .ok (.bool false) w := fun p w => if_nil _ p (by decide) w
  have hq0 : ∀ (w : World), (binOp .eql 46 .nilIface .nilIface).run Try.prog w = .ok (.bool true) w := fun w => by kernel_rfl
  have q1 : (op == 1) = false := beq_eq_false_iff_ne.mpr (by omega)
  have r1 : (op != 1) = true := bne_iff_ne.mpr (by omega)
  have q2 : (op == 2) = false := beq_eq_false_iff_ne.mpr (by omega)
  have r2 : (op != 2) = true := bne_iff_ne.mpr (by omega)
  have q3 : (op == 3) = false := beq_eq_false_iff_ne.mpr (by omega)
  have r3 : (op != 3) = true := bne_iff_ne.mpr (by omega)
  have q4 : (op == 4) = true := beq_iff_eq.mpr h1
  have r4 : (op != 4) = false := bne_eq_false_iff_eq.mpr h1
  clear h1
  go_enter Try.func8, Try.ntmps8
  go_wp2_with fail
  all_goals
    go_ret2
    exact ⟨rfl, AccAt.new w false (.best zeroV 1), below_alloc (below_alloc (Below.refl _ _) _) _⟩
set_option maxHeartbeats 1000000 in
set_option maxRecDepth 100000 in
theorem new.sumR (op : Int) (w : World) (h1 : op = 2) :
    Calls Try.prog 8 #[.int .i64 op, .bool true] w fun e w' => e = .returned (.tuple #[.pointer none, .int .i64 5]) ∧ Below w.heap.size w w' := by
  have hu := Try.underlying32
  have hq : ∀ (p : Value) (w : World), (binOp .eql 46 (.iface 50 p) .nilIface).run Try.prog w = .ok (.bool false) w := fun p w => if_nil _ p (by decide) w
  have hq0 : ∀ (w : World), (binOp .eql 46 .nilIface .nilIface).run Try.prog w = .ok (.bool true) w := fun w => by kernel_rfl
  have q1 : (op == 1) = false := beq_eq_false_iff_ne.mpr (by omega)
  have r1 : (op != 1) = true := bne_iff_ne.mpr (by omega)
  have q2 : (op == 2) = true := beq_iff_eq.mpr h1
  have r2 : (op != 2) = false := bne_eq_false_iff_eq.mpr h1
  have q3 : (op == 3) = false := beq_eq_false_iff_ne.mpr (by omega)
  have r3 : (op != 3) = true := bne_iff_ne.mpr (by omega)
  have q4 : (op == 4) = false := beq_eq_false_iff_ne.mpr (by omega)
  have r4 : (op != 4) = true := bne_iff_ne.mpr (by omega)
  clear h1
  go_enter Try.func8, Try.ntmps8
  go_wp2_with fail
  all_goals
    go_ret2
    exact ⟨rfl, by repeat (first | exact Below.refl _ _ | apply below_alloc)⟩
set_option maxHeartbeats 1000000 in
set_option maxRecDepth 100000 in
theorem new.minR (op : Int) (w : World) (h1 : op = 3) :
    Calls Try.prog 8 #[.int .i64 op, .bool true] w fun e w' => e = .returned (.tuple #[.pointer none, .int .i64 5]) ∧ Below w.heap.size w w' := by
  have hu := Try.underlying32
  have hq : ∀ (p : Value) (w : World), (binOp .eql 46 (.iface 53 p) .nilIface).run Try.prog w = .ok (.bool false) w := fun p w => if_nil _ p (by decide) w
  have hq0 : ∀ (w : World), (binOp .eql 46 .nilIface .nilIface).run Try.prog w = .ok (.bool true) w := fun w => by kernel_rfl
  have q1 : (op == 1) = false := beq_eq_false_iff_ne.mpr (by omega)
  have r1 : (op != 1) = true := bne_iff_ne.mpr (by omega)
  have q2 : (op == 2) = false := beq_eq_false_iff_ne.mpr (by omega)
  have r2 : (op != 2) = true := bne_iff_ne.mpr (by omega)
  have q3 : (op == 3) = true := beq_iff_eq.mpr h1
  have r3 : (op != 3) = false := bne_eq_false_iff_eq.mpr h1
  have q4 : (op == 4) = false := beq_eq_false_iff_ne.mpr (by omega)
  have r4 : (op != 4) = true := bne_iff_ne.mpr (by omega)
  clear h1
  go_enter Try.func8, Try.ntmps8
  go_wp2_with fail
  all_goals
    go_ret2
    exact ⟨rfl, by repeat (first | exact Below.refl _ _ | apply below_alloc)⟩
set_option maxHeartbeats 1000000 in
set_option maxRecDepth 100000 in
theorem new.maxR (op : Int) (w : World) (h1 : op = 4) :
    Calls Try.prog 8 #[.int .i64 op, .bool true] w fun e w' => e = .returned (.tuple #[.pointer none, .int .i64 5]) ∧ Below w.heap.size w w' := by
  have hu := Try.underlying32
  have hq : ∀ (p : Value) (w : World), (binOp .eql 46 (.iface 53 p) .nilIface).run Try.prog w = .ok (.bool false) w := fun p w => if_nil _ p (by decide) w
  have hq0 : ∀ (w : World), (binOp .eql 46 .nilIface .nilIface).run Try.prog w = .ok (.bool true) w := fun w => by kernel_rfl
  have q1 : (op == 1) = false := beq_eq_false_iff_ne.mpr (by omega)
  have r1 : (op != 1) = true := bne_iff_ne.mpr (by omega)
  have q2 : (op == 2) = false := beq_eq_false_iff_ne.mpr (by omega)
  have r2 : (op != 2) = true := bne_iff_ne.mpr (by omega)
  have q3 : (op == 3) = false := beq_eq_false_iff_ne.mpr (by omega)
  have r3 : (op != 3) = true := bne_iff_ne.mpr (by omega)
  have q4 : (op == 4) = true := beq_iff_eq.mpr h1
  have r4 : (op != 4) = false := bne_eq_false_iff_eq.mpr h1
  clear h1
  go_enter Try.func8, Try.ntmps8
  go_wp2_with fail
  all_goals
    go_ret2
    exact ⟨rfl, by repeat (first | exact Below.refl _ _ | apply below_alloc)⟩
set_option maxHeartbeats 1000000 in
set_option maxRecDepth 100000 in
theorem new.other (op : Int) (w : World) (h1 : ¬ op = 1) (h2 : ¬ op = 2) (h3 : ¬ op = 3) (h4 : ¬ op = 4) :
    Calls Try.prog 8 #[.int .i64 op, .bool false] w fun e w' => e = .returned (.tuple #[.pointer none, .int .i64 5]) ∧ Below w.heap.size w w' := by
  have hu := Try.underlying32
  have hq : ∀ (p : Value) (w : World), (binOp .eql 46 (.iface 53 p) .nilIface).run Try.prog w = .ok (.bool false) w := fun p w => if_nil _ p (by decide) w
  have hq0 : ∀ (w : World), (binOp .eql 46 .nilIface .nilIface).run Try.prog w = .ok (.bool true) w := fun w => by kernel_rfl
  have q1 : (op == 1) = false := beq_eq_false_iff_ne.mpr (by omega)
  have r1 : (op != 1) = true := bne_iff_ne.mpr (by omega)
  have q2 : (op == 2) = false := beq_eq_false_iff_ne.mpr (by omega)
  have r2 : (op != 2) = true := bne_iff_ne.mpr (by omega)
  have q3 : (op == 3) = false := beq_eq_false_iff_ne.mpr (by omega)
  have r3 : (op != 3) = true := bne_iff_ne.mpr (by omega)
  have q4 : (op == 4) = false := beq_eq_false_iff_ne.mpr (by omega)
  have r4 : (op != 4) = true := bne_iff_ne.mpr (by omega)
  clear h1 h2 h3 h4
  go_enter Try.func8, Try.ntmps8
  go_wp2_with fail
  all_goals
    go_ret2
    exact ⟨rfl, by repeat (first | exact Below.refl _ _ | apply below_alloc)⟩
set_option maxHeartbeats 1000000 in
set_option maxRecDepth 100000 in
theorem new.otherR (op : Int) (w : World) (h1 : ¬ op = 1) (h2 : ¬ op = 2) (h3 : ¬ op = 3) (h4 : ¬ op = 4) :
    Calls Try.prog 8 #[.int .i64 op, .bool true] w fun e w' => e = .returned (.tuple #[.pointer none, .int .i64 5]) ∧ Below w.heap.size w w' := by
  have hu := Try.underlying32
  have hq : ∀ (p : Value) (w : World), (binOp .eql 46 (.iface 53 p) .nilIface).run Try.prog w = .ok (.bool false) w := fun p w => if_nil _ p (by decide) w
  have hq0 : ∀ (w : World), (binOp .eql 46 .nilIface .nilIface).run Try.prog w = .ok (.bool true) w := fun w => by kernel_rfl
  have q1 : (op == 1) = false := beq_eq_false_iff_ne.mpr (by omega)
  have r1 : (op != 1) = true := bne_iff_ne.mpr (by omega)
  have q2 : (op == 2) = false := beq_eq_false_iff_ne.mpr (by omega)
  have r2 : (op != 2) = true := bne_iff_ne.mpr (by omega)
  have q3 : (op == 3) = false := beq_eq_false_iff_ne.mpr (by omega)
  have r3 : (op != 3) = true := bne_iff_ne.mpr (by omega)
  have q4 : (op == 4) = false := beq_eq_false_iff_ne.mpr (by omega)
  have r4 : (op != 4) = true := bne_iff_ne.mpr (by omega)
  clear h1 h2 h3 h4
  go_enter Try.func8, Try.ntmps8
  go_wp2_with fail
  all_goals
    go_ret2
    exact ⟨rfl, by repeat (first | exact Below.refl _ _ | apply below_alloc)⟩
end Go.Proofs.Ytgjfciohmgpohaa.P
end
section
namespace Go.Proofs.Ytgjfciohmgpohaa.P
open Go.RowKit Go.Proofs.Ytgjfciohmgpohaa.Pure Go.Proofs.YtgjfciohmgpohaaW.PrintWords Go.Proofs.YtgjfciohmgpohaaW.PrintLast Go.Proofs.YtgjfciohmgpohaaW.PrintMore
attribute [local go_sem] max2_int min2_int max_two min_two max_three min_three max_four min_four
set_option linter.unusedVariables false
set_option linter.unusedSimpArgs false
theorem new_some (op : Int) (st : Gst) (w : World) (h : newP op false = some st) :
    Calls Try.prog 8 #[.int .i64 op, .bool false] w fun e w' => e = .returned (.tuple #[.pointer (some ⟨w.heap.size + 1, 0, none⟩), .int .i64 0]) ∧ AccAt w' (w.heap.size + 1) w.heap.size false st ∧ Below w.heap.size w w' := by
  unfold newP at h
  by_cases h1 : op = 1
  · rw [if_pos h1] at h; cases h; exact new.count op w h1
  rw [if_neg h1, if_neg (by decide)] at h
  by_cases h2 : op = 2
  · rw [if_pos h2] at h; cases h; exact new.sum op w h2
  rw [if_neg h2] at h
  by_cases h3 : op = 3
  · rw [if_pos h3] at h; cases h; exact new.min op w h3
  rw [if_neg h3] at h
  by_cases h4 : op = 4
  · rw [if_pos h4] at h; cases h; exact new.max op w h4
  rw [if_neg h4] at h; cases h
theorem new_none (op : Int) (w : World) (h : newP op false = none) :
    Calls Try.prog 8 #[.int .i64 op, .bool false] w fun e w' => e = .returned (.tuple #[.pointer none, .int .i64 5]) ∧ Below w.heap.size w w' := by
  unfold newP at h
  by_cases h1 : op = 1
  · rw [if_pos h1] at h; cases h
  rw [if_neg h1, if_neg (by decide)] at h
  by_cases h2 : op = 2
  · rw [if_pos h2] at h; cases h
  rw [if_neg h2] at h
  by_cases h3 : op = 3
  · rw [if_pos h3] at h; cases h
  rw [if_neg h3] at h
  by_cases h4 : op = 4
  · rw [if_pos h4] at h; cases h
  exact new.other op w h1 h2 h3 h4
def goG (rows : Bool) : Gst → List S32 → Option Gst
  | st, [] => some st
  | st, v :: t => if (addP st rows v).2 = 0 then goG rows (addP st rows v).1 t else none
def gathP (op : Int) (l : List S32) : S32 × Bool :=
  match newP op false with
  | none => (zeroV, false)
  | some st => match goG false st l with | none => (zeroV, false) | some s => (valP s, true)
theorem goG_step {rows : Bool} {st : Gst} {l : List S32} {k : Nat} (hk : k < l.length) : goG rows st (l.drop k) = if (addP st rows (rd_T32 l k)).2 = 0 then goG rows (addP st rows (rd_T32 l k)).1 (l.drop (k + 1)) else none := by
  have : rd_T32 l k = l[k] := by unfold rd_T32; simp [hk]
  rw [List.drop_eq_getElem_cons hk, this]
  rfl
theorem sum_in {a b n : Int} (h : sumP 11 a b = .ok n) : In64 n := by
  unfold sumP at h
  rw [if_pos rfl] at h
  by_cases hi : In64 (a + b)
  · rw [if_pos hi] at h; cases h; exact hi
  · rw [if_neg hi] at h; cases h
theorem bin_num {op : Int} (ho : op = 11) (a b : S32) (r : S32) (h11 : 11 ≤ op) (h15 : op ≤ 15) (ha : In64 a.f1) (hb : In64 b.f1) (h : bin op a b = .ok r) : FitsV r := by
  unfold bin at h
  rw [if_neg (show ¬ ¬ (3 ≤ op ∧ op ≤ 16) by omega)] at h
  by_cases h2 : ¬ kindsP op a.f0 b.f0
  · rw [if_pos h2] at h; cases h
  rw [if_neg h2, if_neg (show ¬ op ≤ 4 by omega)] at h
  by_cases h4 : a.f0 = 0 ∨ b.f0 = 0
  · rw [if_pos h4] at h; cases h; exact ⟨by show In64 0; decide, by show (0 : Nat) ≤ _; omega⟩
  rw [if_neg h4, if_neg (show ¬ op ≤ 10 by omega), if_neg (show ¬ op = 16 by omega)] at h
  cases hs : sumP op a.f1 b.f1 with
  | error c => rw [hs] at h; cases h
  | ok n =>
    rw [hs] at h
    cases h
    subst ho
    exact ⟨sum_in hs, by show (0 : Nat) ≤ _; omega⟩
theorem addP_fits {st : Gst} {rows : Bool} {v : S32} (hs : st.fits) (hv : FitsV v) : (addP st rows v).1.fits := by
  unfold addP
  by_cases hp : v.f0 = 0 ∧ rows = false
  · rw [if_pos hp]; exact hs
  rw [if_neg hp]
  cases st with
  | count n => trivial
  | sum s =>
    show FitsV (sumA s v).1
    unfold sumA
    cases hr : bin 11 (if s.f0 = 0 then numV 0 else s) v with
    | error c => exact hs
    | ok r =>
      refine bin_num (op := 11) rfl _ v r (by omega) (by omega) ?_ hv.1 hr
      by_cases h0 : s.f0 = 0
      · rw [if_pos h0]; show In64 0; decide
      · rw [if_neg h0]; exact hs.1
  | best u sg =>
    by_cases h : u.f0 = 0 ∨ cmpV v u = sg
    · simp only [if_pos h]; trivial
    · simp only [if_neg h]; trivial
theorem newP_fits {op : Int} {st : Gst} (h : newP op false = some st) : st.fits := by
  unfold newP at h
  by_cases h1 : op = 1
  · rw [if_pos h1] at h; cases h; trivial
  rw [if_neg h1, if_neg (by decide)] at h
  by_cases h2 : op = 2
  · rw [if_pos h2] at h; cases h; exact ⟨by show In64 0; decide, by show (0 : Nat) ≤ _; omega⟩
  rw [if_neg h2] at h
  by_cases h3 : op = 3
  · rw [if_pos h3] at h; cases h; trivial
  rw [if_neg h3] at h
  by_cases h4 : op = 4
  · rw [if_pos h4] at h; cases h; trivial
  rw [if_neg h4] at h; cases h
theorem rd_fits {l : List S32} (h : ∀ v ∈ l, FitsV v) (k : Nat) (hk : k < l.length) : FitsV (rd_T32 l k) := by
  have : rd_T32 l k = l[k] := by unfold rd_T32; simp [hk]
  rw [this]; exact h _ (List.getElem_mem hk)
set_option maxHeartbeats 1000000 in
set_option maxRecDepth 100000 in
theorem gathered.no (op : Int) (l : List S32) (A : Option Addr) (c : Nat) (w : World) (h : newP op false = none) :
    Calls Try.prog 16 #[.int .i64 op, .slice A l.length c] w fun e w' => e = .returned (.tuple #[encV zeroV, .bool false]) ∧ Below w.heap.size w w' := by
  have hu := Try.underlying32
  have HN := Aside0.mk h
  have HZ := Aside0.mk (Deep.blk_alloc_new w (.cells #[.int .i64 0, .int .i64 0, .string (⟨#[]⟩ : ByteArray)] 32))
  clear h
  go_enter Try.func16, Try.ntmps16
  go_wp2_with fail
  refine (new_none op _ HN.out).mono ?_
  rintro e w1 ⟨rfl, hb⟩
  have HI := Aside0.mk (blk_below HZ.out hb)
  have HW := Aside0.mk (below_step (below_alloc (Below.refl w.heap.size w) _) hb)
  clear hb
  have gc0 : w1.cell? ⟨w.heap.size, 0, none⟩ = some (.int .i64 0) := (blk_cell HI.out 0).trans rfl
  have gc1 : w1.cell? ⟨w.heap.size, 1, none⟩ = some (.int .i64 0) := (blk_cell HI.out 1).trans rfl
  have gc2 : w1.cell? ⟨w.heap.size, 2, none⟩ = some (.string (⟨#[]⟩ : ByteArray)) := (blk_cell HI.out 2).trans rfl
  have gf0 := blk_frozen HI.out 0
  have gf1 := blk_frozen HI.out 1
  have gf2 := blk_frozen HI.out 2
  go_wp2_with fail
  exact bodyPost_ret (v := .tuple #[encV zeroV, .bool false]) (by simp [results, Try.results16, go_sem, encV, zeroV, V0, gc0, gc1, gc2]) rfl ⟨rfl, below_set3 HW.out (Nat.le_refl _) _ _ _ _ _ _⟩
def LW (w wr : World) (g : Nat) : Prop := wr.heap[w.heap.size]? = some (.cells #[.int .i64 0, .int .i64 0, .string (⟨#[]⟩ : ByteArray)] 32 (0, 0)) ∧ Below w.heap.size w wr ∧ w.heap.size < g
set_option maxHeartbeats 2000000 in
set_option maxRecDepth 100000 in
theorem gathered.yes (op : Int) (l : List S32) (A : Option Addr) (c : Nat) (w : World) (hr : Kd.C k32 w A l.length l) (hf : ∀ v ∈ l, FitsV v) (st : Gst) (h : newP op false = some st) :
    Calls Try.prog 16 #[.int .i64 op, .slice A l.length c] w fun e w' => e = .returned (.tuple #[encV (gathP op l).1, .bool (gathP op l).2]) ∧ Below w.heap.size w w' := by
  have hu := Try.underlying32
  have HN := Aside0.mk h
  have HR := Aside0.mk hr
  have HF := Aside0.mk hf
  have HZ := Aside0.mk (Deep.blk_alloc_new w (.cells #[.int .i64 0, .int .i64 0, .string (⟨#[]⟩ : ByteArray)] 32))
  have HP : Aside0 (gathP op l = match goG false st l with | none => (zeroV, false) | some s => (valP s, true)) := ⟨by unfold gathP; rw [h]⟩
  have HM : Aside0 (l.length ≤ 9223372036854775807) := ⟨Kd.C_max hr⟩
  clear h hr hf
  go_enter Try.func16, Try.ntmps16
  go_wp2_with fail
  refine (new_some op st _ HN.out).mono ?_
  rintro e w1 ⟨rfl, hA, hb⟩
  have hsz : (w.alloc (.cells #[.int .i64 0, .int .i64 0, .string (⟨#[]⟩ : ByteArray)] 32)).heap.size = w.heap.size + 1 := Array.size_push ..
  rw [hsz] at hA
  have HI := Aside0.mk (blk_below HZ.out hb)
  have HW := Aside0.mk (below_step (below_alloc (Below.refl w.heap.size w) _) hb)
  have HA := Aside0.mk hA
  clear hb hA hsz
  go_wp2_with fail
  go_loopw [8] (fun v8 wr => ∃ (k : Nat) (s : Gst), v8 = .int .i64 k ∧ k ≤ l.length ∧ Aside0 (goG false s (l.drop k) = goG false st l) ∧ Aside0 s.fits ∧ Aside0 (AccAt wr (w.heap.size + 1 + 1) (w.heap.size + 1) false s) ∧ Aside0 (LW w wr (w.heap.size + 1))) (fun v8 _ => l.length - (intOf v8).toNat)
  case atStart => exact ⟨0, st, rfl, Nat.zero_le _, ⟨by simp⟩, ⟨newP_fits HN.out⟩, HA, ⟨HI.out, HW.out, by omega⟩⟩
  case round =>
    obtain ⟨k, s, rfl, hk, HG, HS, HA, HL⟩ := hrel
    by_cases hlt : k < l.length
    · obtain ⟨ad, rfl, hx0, hx1, hx2⟩ := at_T32 (Kd.C_below HR.out HL.out.2.1) k (by omega) (by omega)
      replace hx0 : wr.cell? (ad.add (k * 3)) = some (.int .i64 (rd_T32 l k).f0) := hx0
      replace hx1 : wr.cell? ⟨(ad.add (k * 3)).block, (ad.add (k * 3)).off + 1, none⟩ = some (.int .i64 (rd_T32 l k).f1) := hx1
      replace hx2 : wr.cell? ⟨(ad.add (k * 3)).block, (ad.add (k * 3)).off + 2, none⟩ = some (.string (rd_T32 l k).f2) := hx2
      have q_a : decide (k < l.length) = true := decide_eq_true hlt
      have q_b : decide ((k : Int) < (l.length : Int)) = true := decide_eq_true (by omega)
      have q_c : (k < l.length) = True := eq_true hlt
      have q_e : ((k : Int) < (l.length : Int)) = True := eq_true (by omega)
      have q_d : (0 ≤ (k : Int)) = True := eq_true (by omega)
      have HK : Aside0 (k < l.length) := ⟨hlt⟩
      have hkm : k < 9223372036854775807 := by have := HM.out; omega
      have HST := Aside0.mk (goG_step (rows := false) (st := s) hlt)
      have HV := Aside0.mk (rd_fits HF.out k hlt)
      clear hlt hk
      go_wp2_with fail
      refine (acc_add.calls (w.heap.size + 1 + 1) (w.heap.size + 1) false s (rd_T32 l k) _ HA.out w.heap.size (Nat.le_succ _) HS.out HV.out).mono ?_
      rintro e w2 ⟨rfl, hA2, hb2, hk2⟩
      have HA2 := Aside0.mk hA2
      have HL2 : Aside0 (LW w w2 (w.heap.size + 1)) := ⟨hk2.blk HL.out.1 (by omega) (by simp), HL.out.2.1.trans hb2, HL.out.2.2⟩
      clear hA2 hb2 hk2
      by_cases ha : (addP s false (rd_T32 l k)).2 = 0
      · have q0 : ((addP s false (rd_T32 l k)).2 != 0) = false := bne_eq_false_iff_eq.mpr ha
        have HG2 : Aside0 (goG false (addP s false (rd_T32 l k)).1 (l.drop (k + 1)) = goG false st l) := ⟨by have h1 := HST.out; rw [if_pos ha] at h1; rw [← h1]; exact HG.out⟩
        clear ha hx0 hx1 hx2
        go_wp2_with fail
        go_roundw
        case rel => exact ⟨k + 1, _, by go_num, HK.out, HG2, ⟨addP_fits HS.out HV.out⟩, HA2, HL2⟩
        case measure => have := HK.out; simp [intOf]; omega
      · have q0 : ((addP s false (rd_T32 l k)).2 != 0) = true := bne_iff_ne.mpr ha
        have HG2 : Aside0 (gathP op l = (zeroV, false)) := ⟨by have h1 := HST.out; rw [if_neg ha] at h1; rw [HP.out, ← HG.out, h1]⟩
        clear ha hx0 hx1 hx2
        have gc0 : w2.cell? ⟨w.heap.size, 0, none⟩ = some (.int .i64 0) := (blk_cell HL2.out.1 0).trans rfl
        have gc1 : w2.cell? ⟨w.heap.size, 1, none⟩ = some (.int .i64 0) := (blk_cell HL2.out.1 1).trans rfl
        have gc2 : w2.cell? ⟨w.heap.size, 2, none⟩ = some (.string (⟨#[]⟩ : ByteArray)) := (blk_cell HL2.out.1 2).trans rfl
        have gf0 := blk_frozen HL2.out.1 0
        have gf1 := blk_frozen HL2.out.1 1
        have gf2 := blk_frozen HL2.out.1 2
        go_wp2_with fail
        refine bodyPost_ret (v := .tuple #[encV zeroV, .bool false]) (by simp [results, Try.results16, go_sem, encV, zeroV, V0, gc0, gc1, gc2]) rfl ⟨?_, below_set3 HL2.out.2.1 (Nat.le_refl _) _ _ _ _ _ _⟩
        rw [HG2.out]
    · have q_a : decide (k < l.length) = false := decide_eq_false hlt
      have q_b : decide ((k : Int) < (l.length : Int)) = false := decide_eq_false (by omega)
      have HG2 : Aside0 (gathP op l = (valP s, true)) := ⟨by rw [HP.out, ← HG.out, List.drop_eq_nil_of_le (by omega)]; rfl⟩
      clear hlt hk
      go_wp2_with fail
      refine (acc_value.calls (w.heap.size + 1 + 1) (w.heap.size + 1) false s _ HA.out).mono ?_
      rintro e w2 ⟨rfl, hb⟩
      have HL2 := Aside0.mk (blk_below HL.out.1 hb)
      have HB2 := Aside0.mk (below_step HL.out.2.1 hb)
      clear hb
      have gc0 : w2.cell? ⟨w.heap.size, 0, none⟩ = some (.int .i64 0) := (blk_cell HL2.out 0).trans rfl
      have gc1 : w2.cell? ⟨w.heap.size, 1, none⟩ = some (.int .i64 0) := (blk_cell HL2.out 1).trans rfl
      have gc2 : w2.cell? ⟨w.heap.size, 2, none⟩ = some (.string (⟨#[]⟩ : ByteArray)) := (blk_cell HL2.out 2).trans rfl
      have gf0 := blk_frozen HL2.out 0
      have gf1 := blk_frozen HL2.out 1
      have gf2 := blk_frozen HL2.out 2
      unfold encV
      go_wp2_with fail
      refine bodyPost_ret (v := .tuple #[encV (valP s), .bool true]) (by simp [results, Try.results16, go_sem, encV, gc0, gc1, gc2]) rfl ⟨?_, below_set3 HB2.out (Nat.le_refl _) _ _ _ _ _ _⟩
      rw [HG2.out]
theorem gathered.calls (op : Int) (l : List S32) (A : Option Addr) (c : Nat) (w : World) (hr : Kd.C k32 w A l.length l) (hf : ∀ v ∈ l, FitsV v) :
    Calls Try.prog 16 #[.int .i64 op, .slice A l.length c] w fun e w' => e = .returned (.tuple #[encV (gathP op l).1, .bool (gathP op l).2]) ∧ Below w.heap.size w w' := by
  cases h : newP op false with
  | none =>
    have e : gathP op l = (zeroV, false) := by unfold gathP; rw [h]
    rw [e]; exact gathered.no op l A c w h
  | some st => exact gathered.yes op l A c w hr hf st h
def fitsB (l : List S32) : Bool := l.all fun v => decide (-9223372036854775808 ≤ v.f1) && decide (v.f1 ≤ 9223372036854775807) && decide (v.f2.size ≤ 140737488351232)
theorem fits_of {l : List S32} (h : fitsB l = true) : ∀ v ∈ l, FitsV v := by
  intro v hv
  have := List.all_eq_true.1 h v hv
  simp only [Bool.and_eq_true, decide_eq_true_eq] at this
  exact ⟨⟨this.1.1, this.1.2⟩, this.2⟩
theorem of_fits {l : List S32} (h : ∀ v ∈ l, FitsV v) : fitsB l = true := by
  refine List.all_eq_true.2 fun v hv => ?_
  obtain ⟨⟨h1, h2⟩, h3⟩ := h v hv
  simp only [Bool.and_eq_true, decide_eq_true_eq]
  exact ⟨⟨h1, h2⟩, h3⟩
end Go.Proofs.Ytgjfciohmgpohaa.P
end
section
namespace Go.Proofs.Ytgjfciohmgpohaa.P
open Go.RowKit Go.Proofs.Ytgjfciohmgpohaa.Pure Go.Proofs.YtgjfciohmgpohaaW.PrintWords Go.Proofs.YtgjfciohmgpohaaW.PrintLast Go.Proofs.YtgjfciohmgpohaaW.PrintMore
attribute [local go_sem] max2_int min2_int max_two min_two max_three min_three max_four min_four
set_option linter.unusedVariables false
set_option linter.unusedSimpArgs false
def RefAt (w : World) (b : Nat) (op : Int) (rows : Bool) (A : Option Addr) (n c : Nat) : Prop := w.heap[b]? = some (.cells #[.int .i64 op, .bool rows, .slice A n c] 59 (0, 0))
def badP (op : Int) (rows : Bool) : Prop := op < 1 ∨ 4 < op ∨ (rows = true ∧ ¬ op = 1)
instance (op : Int) (rows : Bool) : Decidable (badP op rows) := by unfold badP; infer_instance
set_option maxHeartbeats 1000000 in
set_option maxRecDepth 100000 in
theorem rnew.ok (op : Int) (rows : Bool) (w : World) (h : ¬ badP op rows) :
    Calls Try.prog 9 #[.int .i64 op, .bool rows] w fun e w' => e = .returned (.tuple #[.pointer (some ⟨w.heap.size, 0, none⟩), .int .i64 0]) ∧ RefAt w' w.heap.size op rows none 0 0 ∧ Below w.heap.size w w' := by
  have hu := Try.underlying32
  unfold badP at h
  have q1 : decide (op < 1) = false := decide_eq_false (by omega)
  have q2 : decide (op > 4) = false := decide_eq_false (by omega)
  have q2' : decide (4 < op) = false := decide_eq_false (by omega)
  cases hr : rows with
  | false =>
    clear h
    go_enter Try.func9, Try.ntmps9
    go_wp2_with fail
    all_goals
      go_ret2
      exact ⟨rfl, Deep.blk_alloc_new _ _, below_alloc (Below.refl _ _) _⟩
  | true =>
    have q3 : (op != 1) = false := bne_eq_false_iff_eq.mpr (by subst hr; simp at h; omega)
    clear h
    go_enter Try.func9, Try.ntmps9
    go_wp2_with fail
    all_goals
      go_ret2
      exact ⟨rfl, Deep.blk_alloc_new _ _, below_alloc (Below.refl _ _) _⟩
set_option maxHeartbeats 1000000 in
set_option maxRecDepth 100000 in
theorem rnew.bad (op : Int) (rows : Bool) (w : World) (h : badP op rows) :
    Calls Try.prog 9 #[.int .i64 op, .bool rows] w fun e w' => e = .returned (.tuple #[.pointer none, .int .i64 5]) ∧ Below w.heap.size w w' := by
  have hu := Try.underlying32
  unfold badP at h
  by_cases h1 : op < 1
  · have q1 : decide (op < 1) = true := decide_eq_true h1
    clear h
    go_enter Try.func9, Try.ntmps9
    go_wp2_with fail
    all_goals
      go_ret2
      exact ⟨rfl, Below.refl _ _⟩
  by_cases h2 : 4 < op
  · have q1 : decide (op < 1) = false := decide_eq_false h1
    have q2 : decide (op > 4) = true := decide_eq_true h2
    have q2' : decide (4 < op) = true := decide_eq_true h2
    clear h
    go_enter Try.func9, Try.ntmps9
    go_wp2_with fail
    all_goals
      go_ret2
      exact ⟨rfl, Below.refl _ _⟩
  · have q1 : decide (op < 1) = false := decide_eq_false h1
    have q2 : decide (op > 4) = false := decide_eq_false (by omega)
    have q2' : decide (4 < op) = false := decide_eq_false (by omega)
    obtain ⟨hr, h3⟩ : rows = true ∧ ¬ op = 1 := by
      rcases h with h | h | h
      · exact absurd h h1
      · exact absurd h h2
      · exact h
    have q3 : (op != 1) = true := bne_iff_ne.mpr h3
    subst hr
    go_enter Try.func9, Try.ntmps9
    go_wp2_with fail
    all_goals
      go_ret2
      exact ⟨rfl, Below.refl _ _⟩
end Go.Proofs.Ytgjfciohmgpohaa.P
end
section
namespace Go.Proofs.Ytgjfciohmgpohaa.P
open Go.RowKit Go.Proofs.Ytgjfciohmgpohaa.Pure Go.Proofs.YtgjfciohmgpohaaW.PrintWords Go.Proofs.YtgjfciohmgpohaaW.PrintLast Go.Proofs.YtgjfciohmgpohaaW.PrintMore
attribute [local go_sem] max2_int min2_int max_two min_two max_three min_three max_four min_four
set_option linter.unusedVariables false
set_option linter.unusedSimpArgs false
def sumR (s : S32) : List S32 → S32
  | [] => s
  | v :: t => sumR (outE (bin 11 s v)).1 t
def LS (w wr : World) (g : Nat) (s : S32) : Prop := wr.heap[w.heap.size]? = some (.cells #[.int .i64 0, .int .i64 0, .string (⟨#[]⟩ : ByteArray)] 32 (0, 0)) ∧ wr.heap[g]? = some (.cells #[.int .i64 s.f0, .int .i64 s.f1, .string s.f2] 32 (0, 0)) ∧ Below w.heap.size w wr ∧ w.heap.size < g
theorem LS.below {w wr wr' : World} {g : Nat} {s : S32} (h : LS w wr g s) (hb : Below wr.heap.size wr wr') : LS w wr' g s := ⟨blk_below h.1 hb, blk_below h.2.1 hb, below_step h.2.2.1 hb, h.2.2.2⟩
theorem LS.drew {w wr : World} {g : Nat} {s : S32} (h : LS w wr g s) : LS w wr.drew g s := h.below (below_drew1 (Below.refl _ _))
theorem LS.put {w wr : World} {g : Nat} {s : S32} (h : LS w wr g s) (r : S32) : LS w (((wr.setCell ⟨g, 0, none⟩ (.int .i64 r.f0)).setCell ⟨g, 1, none⟩ (.int .i64 r.f1)).setCell ⟨g, 2, none⟩ (.string r.f2)) g r := by
  have hk := keep_set (keep_set (keep_set (KeepBut.refl wr g none) 0 (.int .i64 r.f0)) 1 (.int .i64 r.f1)) 2 (.string r.f2)
  have hne := h.2.2.2
  exact ⟨hk.blk h.1 (by omega) (by simp), blk_put (blk_put (blk_put h.2.1 0 (.int .i64 r.f0) rfl) 1 (.int .i64 r.f1) rfl) 2 (.string r.f2) rfl, below_set3 h.2.2.1 (Nat.le_of_lt hne) _ _ _ _ _ _, hne⟩
set_option maxHeartbeats 2000000 in
set_option maxRecDepth 100000 in
theorem rsum.calls (b : Nat) (op : Int) (rows : Bool) (l : List S32) (A : Option Addr) (c : Nat) (w : World) (hb : RefAt w b op rows A l.length c) (hr : Kd.C k32 w A l.length l) (hf : ∀ v ∈ l, FitsV v) :
    Calls Try.prog 21 #[.pointer (some ⟨b, 0, none⟩)] w fun e w' => e = .returned (encV (sumR (numV 0) l)) ∧ Below w.heap.size w w' := by
  have hu := Try.underlying32
  have HR := Aside0.mk hr
  have HF := Aside0.mk hf
  have HB := Aside0.mk hb
  have HM : Aside0 (l.length ≤ 9223372036854775807) := ⟨Kd.C_max hr⟩
  have HZ := Aside0.mk (Deep.blk_alloc_new w (.cells #[.int .i64 0, .int .i64 0, .string (⟨#[]⟩ : ByteArray)] 32))
  clear hr hf hb
  go_enter Try.func21, Try.ntmps21
  go_wp2_with fail
  refine (quarryref02_Number.calls 0 _ _ _ _ (show quarryref02_Number.f 0 = some (2, 0, (⟨#[]⟩ : ByteArray)) from rfl)).mono ?_
  rintro e w1 ⟨rfl, hb1⟩
  have HI := Aside0.mk (blk_below HZ.out hb1)
  have HW := Aside0.mk (below_step (below_alloc (Below.refl w.heap.size w) _) hb1)
  have HL : Aside0 (w.heap.size < w1.heap.size) := ⟨blk_lt HI.out⟩
  have HG := Aside0.mk (Deep.blk_alloc_new w1 (.cells #[.int .i64 0, .int .i64 0, .string (⟨#[]⟩ : ByteArray)] 32))
  clear hb1
  have gc0 : World.cell? _ ⟨w1.heap.size, 0, none⟩ = some (.int .i64 0) := (blk_cell HG.out 0).trans rfl
  have gc1 : World.cell? _ ⟨w1.heap.size, 1, none⟩ = some (.int .i64 0) := (blk_cell HG.out 1).trans rfl
  have gc2 : World.cell? _ ⟨w1.heap.size, 2, none⟩ = some (.string (⟨#[]⟩ : ByteArray)) := (blk_cell HG.out 2).trans rfl
  have gf0 := blk_frozen HG.out 0
  have gf1 := blk_frozen HG.out 1
  have gf2 := blk_frozen HG.out 2
  go_wp2_with fail
  have HS0 : Aside0 (LS w (w1.alloc (.cells #[.int .i64 2, .int .i64 0, .string (⟨#[]⟩ : ByteArray)] 32)) w1.heap.size (numV 0)) := ⟨blk_alloc HI.out _, Deep.blk_alloc_new w1 _, below_alloc HW.out _, HL.out⟩
  clear gc0 gc1 gc2 gf0 gf1 gf2 HG
  go_loopw [4] (fun v4 wr => ∃ (k : Nat) (s : S32), v4 = .int .i64 k ∧ k ≤ l.length ∧ Aside0 (sumR s (l.drop k) = sumR (numV 0) l) ∧ Aside0 (FitsV s) ∧ Aside0 (LS w wr w1.heap.size s)) (fun v4 _ => l.length - (intOf v4).toNat)
  case atStart => exact ⟨0, numV 0, rfl, Nat.zero_le _, ⟨by simp⟩, ⟨⟨by show In64 0; decide, by show (0 : Nat) ≤ _; omega⟩⟩, HS0⟩
  case round =>
    obtain ⟨k, s, rfl, hk, HG, HS, HL2⟩ := hrel
    have HA := Aside0.mk (blk_below HB.out HL2.out.2.2.1)
    have b2 : wr.cell? ⟨b, 2, none⟩ = some (.slice A l.length c) := (blk_cell HA.out 2).trans rfl
    have s0 : wr.cell? ⟨w1.heap.size, 0, none⟩ = some (.int .i64 s.f0) := (blk_cell HL2.out.2.1 0).trans rfl
    have s1 : wr.cell? ⟨w1.heap.size, 1, none⟩ = some (.int .i64 s.f1) := (blk_cell HL2.out.2.1 1).trans rfl
    have s2 : wr.cell? ⟨w1.heap.size, 2, none⟩ = some (.string s.f2) := (blk_cell HL2.out.2.1 2).trans rfl
    by_cases hlt : k < l.length
    · obtain ⟨ad, rfl, hx0, hx1, hx2⟩ := at_T32 (Kd.C_below HR.out HL2.out.2.2.1) k (by omega) (by omega)
      replace hx0 : wr.cell? (ad.add (k * 3)) = some (.int .i64 (rd_T32 l k).f0) := hx0
      replace hx1 : wr.cell? ⟨(ad.add (k * 3)).block, (ad.add (k * 3)).off + 1, none⟩ = some (.int .i64 (rd_T32 l k).f1) := hx1
      replace hx2 : wr.cell? ⟨(ad.add (k * 3)).block, (ad.add (k * 3)).off + 2, none⟩ = some (.string (rd_T32 l k).f2) := hx2
      have q_a : decide (k < l.length) = true := decide_eq_true hlt
      have q_b : decide ((k : Int) < (l.length : Int)) = true := decide_eq_true (by omega)
      have q_c : (k < l.length) = True := eq_true hlt
      have q_e : ((k : Int) < (l.length : Int)) = True := eq_true (by omega)
      have q_d : (0 ≤ (k : Int)) = True := eq_true (by omega)
      have HK : Aside0 (k < l.length) := ⟨hlt⟩
      have HV := Aside0.mk (rd_fits HF.out k hlt)
      have fS : Aside0 (In64 s.f1 ∧ s.f2.size + (rd_T32 l k).f2.size < 9223372036854775808 ∧ s.f2.size ≤ 140737488351232) := ⟨HS.out.1, by have h1 := HS.out.2; have h2 := HV.out.2; omega, HS.out.2⟩
      have fV : Aside0 (In64 (rd_T32 l k).f1 ∧ True) := ⟨HV.out.1, trivial⟩
      have HG2 : Aside0 (sumR (outE (bin 11 s (rd_T32 l k))).1 (l.drop (k + 1)) = sumR (numV 0) l) := ⟨by
        have e : rd_T32 l k = l[k] := by unfold rd_T32; simp [hlt]
        rw [← HG.out, List.drop_eq_getElem_cons hlt, e]
        rfl⟩
      have HS2 : Aside0 (FitsV (outE (bin 11 s (rd_T32 l k))).1) := ⟨by
        cases hbn : bin 11 s (rd_T32 l k) with
        | ok r => exact bin_num rfl s _ r (by decide) (by decide) HS.out.1 HV.out.1 hbn
        | error c => exact ⟨by show In64 0; decide, by show (0 : Nat) ≤ _; omega⟩⟩
      have hkm : k < 9223372036854775807 := by have := HM.out; omega
      clear hlt hk
      go_wp2_with fail
      refine start_ (n := 13) (S := fun w' => w'.cell? ⟨w1.heap.size, 0, none⟩ = some (.int .i64 s.f0) ∧ w'.cell? ⟨w1.heap.size, 1, none⟩ = some (.int .i64 s.f1) ∧ w'.cell? ⟨w1.heap.size, 2, none⟩ = some (.string s.f2) ∧ w'.cell? ⟨b, 2, none⟩ = some (.slice (some ad) l.length c) ∧ w'.cell? (ad.add (k * 3)) = some (.int .i64 (rd_T32 l k).f0) ∧ w'.cell? ⟨(ad.add (k * 3)).block, (ad.add (k * 3)).off + 1, none⟩ = some (.int .i64 (rd_T32 l k).f1) ∧ w'.cell? ⟨(ad.add (k * 3)).block, (ad.add (k * 3)).off + 2, none⟩ = some (.string (rd_T32 l k).f2)) (ds := [8, 12]) #[false, false, false, false, false, false, false, false, false, false, false, false, false] (by kernel_rfl) rfl rfl ⟨s0, s1, s2, b2, hx0, hx1, hx2⟩ (fun hHeld => ?_)
      refine pure_ (i := 1) (N := some 17) (v := ?_) (a' := ?_) #[false, true, false, false, false, false, false, false, false, false, false, false, false] rfl rfl (by kernel_rfl) (fun _ _ _ h => h) (Or.inl ⟨by rfl, ?_⟩) ?_ ?_
      rotate_left
      · intro w'
        go_simp
        with_reducible rfl
      rotate_left
      · simp only [Act.put, List.setIfInBounds_toArray, List.set_cons_zero, List.set_cons_succ, i64_w, i32_w]
        rfl
      refine pure_ (i := 2) (N := some 18) (v := ?_) (a' := ?_) #[false, true, true, false, false, false, false, false, false, false, false, false, false] rfl rfl (by kernel_rfl) (fun _ _ _ h => h) (Or.inl ⟨by rfl, ?_⟩) ?_ ?_
      rotate_left
      · intro w'
        go_simp
        with_reducible rfl
      rotate_left
      · simp only [Act.put, List.setIfInBounds_toArray, List.set_cons_zero, List.set_cons_succ, i64_w, i32_w]
        rfl
      refine pure_ (i := 3) (N := some 19) (v := ?_) (a' := ?_) #[false, true, true, true, false, false, false, false, false, false, false, false, false] rfl rfl (by kernel_rfl) (fun _ _ _ h => h) (Or.inl ⟨by rfl, ?_⟩) ?_ ?_
      rotate_left
      · intro w'
        go_simp
        with_reducible rfl
      rotate_left
      · simp only [Act.put, List.setIfInBounds_toArray, List.set_cons_zero, List.set_cons_succ, i64_w, i32_w]
        rfl
      refine pure_ (i := 5) (N := some 21) (v := ?_) (a' := ?_) #[false, true, true, true, false, true, false, false, false, false, false, false, false] rfl rfl (by kernel_rfl) (fun _ _ _ h => h) (Or.inl ⟨by rfl, ?_⟩) ?_ ?_
      rotate_left
      · intro w'
        go_simp
        with_reducible rfl
      rotate_left
      · simp only [Act.put, List.setIfInBounds_toArray, List.set_cons_zero, List.set_cons_succ, i64_w, i32_w]
        rfl
      refine take_ (i := 0) (N := some 16) (v := ?_) (a' := ?_) #[true, true, true, true, false, true, false, false, false, false, false, false, false] rfl rfl (by kernel_rfl) (fun _ _ _ h => h) (Or.inl ⟨by rfl, ?_⟩) hHeld ?_ ?_
      rotate_left
      · rintro w' ⟨s0, s1, s2, s3, s4, s5, s6⟩
        go_simp
        with_reducible rfl
      rotate_left
      · simp only [Act.put, List.setIfInBounds_toArray, List.set_cons_zero, List.set_cons_succ, i64_w, i32_w]
        rfl
      refine take_ (i := 4) (N := some 20) (v := ?_) (a' := ?_) #[true, true, true, true, true, true, false, false, false, false, false, false, false] rfl rfl (by kernel_rfl) (fun _ _ _ h => h) (Or.inl ⟨by rfl, ?_⟩) hHeld ?_ ?_
      rotate_left
      · rintro w' ⟨s0, s1, s2, s3, s4, s5, s6⟩
        go_simp
        with_reducible rfl
      rotate_left
      · simp only [Act.put, List.setIfInBounds_toArray, List.set_cons_zero, List.set_cons_succ, i64_w, i32_w]
        rfl
      refine pure_ (i := 6) (N := some 22) (v := ?_) (a' := ?_) #[true, true, true, true, true, true, true, false, false, false, false, false, false] rfl rfl (by kernel_rfl) (fun _ _ _ h => h) (Or.inl ⟨by rfl, ?_⟩) ?_ ?_
      rotate_left
      · intro w'
        go_simp
        with_reducible rfl
      rotate_left
      · simp only [Act.put, List.setIfInBounds_toArray, List.set_cons_zero, List.set_cons_succ, i64_w, i32_w]
        rfl
      refine take_ (i := 7) (N := some 23) (v := ?_) (a' := ?_) #[true, true, true, true, true, true, true, true, false, false, false, false, false] rfl rfl (by kernel_rfl) (fun _ _ _ h => h) (Or.inl ⟨by rfl, ?_⟩) hHeld ?_ ?_
      rotate_left
      · rintro w' ⟨s0, s1, s2, s3, s4, s5, s6⟩
        go_simp
        with_reducible rfl
      rotate_left
      · simp only [Act.put, List.setIfInBounds_toArray, List.set_cons_zero, List.set_cons_succ, i64_w, i32_w]
        rfl
      refine last_ (i := 8) (N := some 24) #[true, true, true, true, true, true, true, true, true, false, false, false, false] rfl rfl (by kernel_rfl) (by decide) (fun K hK => ?_)
      refine goes_ Try.func22 (by kernel_rfl) rfl #[.int .i64 11, .agg #[.int .i64 s.f0, .int .i64 s.f1, .string s.f2], .agg #[.int .i64 (rd_T32 l k).f0, .int .i64 (rd_T32 l k).f1, .string (rd_T32 l k).f2]] (by rfl) rfl rfl (by simp only [List.map_toArray, List.map_cons, List.map_nil]; rfl) ?_
      with_reducible refine (refBinary.calls 11 s (rd_T32 l k) fS.out.1 fV.out.1 fS.out.2.1 fS.out.2.2 _).mono ?_
      rintro e w2 ⟨rfl, hb⟩
      refine ⟨_, rfl, ?_⟩
      have HL3 : Aside0 (LS w w2 w1.heap.size s) := ⟨HL2.out.drew.below hb⟩
      clear hb s0 s1 s2 b2 hx0 hx1 hx2 hHeld HA
      unfold encV
      have gf0 := blk_frozen HL3.out.2.1 0
      have gf1 := blk_frozen HL3.out.2.1 1
      have gf2 := blk_frozen HL3.out.2.1 2
      have s0 : w2.cell? ⟨w1.heap.size, 0, none⟩ = some (.int .i64 s.f0) := (blk_cell HL3.out.2.1 0).trans rfl
      have s1 : w2.cell? ⟨w1.heap.size, 1, none⟩ = some (.int .i64 s.f1) := (blk_cell HL3.out.2.1 1).trans rfl
      have s2 : w2.cell? ⟨w1.heap.size, 2, none⟩ = some (.string s.f2) := (blk_cell HL3.out.2.1 2).trans rfl
      refine hK.out _ _ ?_
      clear hK K
      refine norm_ (a' := ?_) ?_ ?_
      rotate_left
      · show Act.put _ (some 24) _ = _
        simp only [Act.put, List.setIfInBounds_toArray, List.set_cons_zero, List.set_cons_succ, i64_w, i32_w]
        rfl
      refine pure_ (i := 9) (N := some 15) (v := ?_) (a' := ?_) #[true, true, true, true, true, true, true, true, true, true, false, false, false] rfl rfl (by kernel_rfl) (fun _ _ _ h => h) (Or.inl ⟨by rfl, ?_⟩) ?_ ?_
      rotate_left
      · intro w'
        go_simp
        with_reducible rfl
      rotate_left
      · simp only [Act.put, List.setIfInBounds_toArray, List.set_cons_zero, List.set_cons_succ, i64_w, i32_w]
        rfl
      refine pure_ (i := 10) (N := some 25) (v := ?_) (a' := ?_) #[true, true, true, true, true, true, true, true, true, true, true, false, false] rfl rfl (by kernel_rfl) (fun _ _ _ h => h) (Or.inl ⟨by rfl, ?_⟩) ?_ ?_
      rotate_left
      · intro w'
        go_simp
        with_reducible rfl
      rotate_left
      · simp only [Act.put, List.setIfInBounds_toArray, List.set_cons_zero, List.set_cons_succ, i64_w, i32_w]
        rfl
      refine pure_ (i := 11) (N := some 26) (v := ?_) (a' := ?_) #[true, true, true, true, true, true, true, true, true, true, true, true, false] rfl rfl (by kernel_rfl) (fun _ _ _ h => h) (Or.inl ⟨by rfl, ?_⟩) ?_ ?_
      rotate_left
      · intro w'
        go_simp
        with_reducible rfl
      rotate_left
      · simp only [Act.put, List.setIfInBounds_toArray, List.set_cons_zero, List.set_cons_succ, i64_w, i32_w]
        rfl
      refine last_ (i := 12) (N := none) #[true, true, true, true, true, true, true, true, true, true, true, true, true] rfl rfl (by kernel_rfl) (by decide) (fun K hK => ?_)
      refine skip_ (w1 := ?_) (by rfl) rfl ?_ ?_
      rotate_left
      · go_simp
        rfl
      clear s0 s1 s2 gf0 gf1 gf2
      refine hK.out _ _ ?_
      clear hK K
      refine done_ (by kernel_rfl) ?_
      go_wp2_with fail
      go_roundw
      case rel => exact ⟨k + 1, _, by go_num, HK.out, HG2, HS2, ⟨HL3.out.put _⟩⟩
      case measure => have := HK.out; simp [intOf]; omega
    · have q_a : decide (k < l.length) = false := decide_eq_false hlt
      have q_b : decide ((k : Int) < (l.length : Int)) = false := decide_eq_false (by omega)
      have HG2 : Aside0 (s = sumR (numV 0) l) := ⟨by rw [← HG.out, List.drop_eq_nil_of_le (by omega)]; rfl⟩
      clear hlt hk
      have rc0 : wr.cell? ⟨w.heap.size, 0, none⟩ = some (.int .i64 0) := (blk_cell HL2.out.1 0).trans rfl
      have rc1 : wr.cell? ⟨w.heap.size, 1, none⟩ = some (.int .i64 0) := (blk_cell HL2.out.1 1).trans rfl
      have rc2 : wr.cell? ⟨w.heap.size, 2, none⟩ = some (.string (⟨#[]⟩ : ByteArray)) := (blk_cell HL2.out.1 2).trans rfl
      have rf0 := blk_frozen HL2.out.1 0
      have rf1 := blk_frozen HL2.out.1 1
      have rf2 := blk_frozen HL2.out.1 2
      go_wp2_with fail
      refine bodyPost_ret (v := encV s) (by simp [results, Try.results21, go_sem, encV, rc0, rc1, rc2]) rfl ⟨?_, below_set3 HL2.out.2.2.1 (Nat.le_refl _) _ _ _ _ _ _⟩
      rw [HG2.out]
end Go.Proofs.Ytgjfciohmgpohaa.P
end
section
namespace Go.Proofs.Ytgjfciohmgpohaa.P
open Go.RowKit Go.Proofs.Ytgjfciohmgpohaa.Pure Go.Proofs.YtgjfciohmgpohaaW.PrintWords Go.Proofs.YtgjfciohmgpohaaW.PrintLast Go.Proofs.YtgjfciohmgpohaaW.PrintMore
attribute [local go_sem] max2_int min2_int max_two min_two max_three min_three max_four min_four
set_option linter.unusedVariables false
set_option linter.unusedSimpArgs false
set_option maxHeartbeats 2000000 in
set_option maxRecDepth 100000 in
theorem rvalue.count (b : Nat) (op : Int) (rows : Bool) (n : Nat) (A : Option Addr) (c : Nat) (w : World) (hb : RefAt w b op rows A n c) (h1 : op = 1) :
    Calls Try.prog 12 #[.pointer (some ⟨b, 0, none⟩)] w fun e w' => e = .returned (encV (numV n)) ∧ Below w.heap.size w w' := by
  have hu := Try.underlying32
  have H1 := Aside0.mk (blk_alloc hb (.cells #[.int .i64 0, .int .i64 0, .string (⟨#[]⟩ : ByteArray)] 32))
  have HZ := Aside0.mk (Deep.blk_alloc_new w (.cells #[.int .i64 0, .int .i64 0, .string (⟨#[]⟩ : ByteArray)] 32))
  have b0 : World.cell? _ ⟨b, 0, none⟩ = some (.int .i64 op) := (blk_cell H1.out 0).trans rfl
  have b2 : World.cell? _ ⟨b, 2, none⟩ = some (.slice A n c) := (blk_cell H1.out 2).trans rfl
  have q1 : (op == 1) = true := beq_iff_eq.mpr h1
  clear hb h1
  go_enter Try.func12, Try.ntmps12
  go_wp2_with fail
  refine (quarryref02_Number.calls n _ _ _ _ (show quarryref02_Number.f n = some (2, (n : Int), (⟨#[]⟩ : ByteArray)) from rfl)).mono ?_
  rintro e w1 ⟨rfl, hb1⟩
  have HI := Aside0.mk (blk_below HZ.out hb1)
  have HW := Aside0.mk (below_step (below_alloc (Below.refl w.heap.size w) _) hb1)
  clear hb1 b0 b2
  have gc0 : w1.cell? ⟨w.heap.size, 0, none⟩ = some (.int .i64 0) := (blk_cell HI.out 0).trans rfl
  have gc1 : w1.cell? ⟨w.heap.size, 1, none⟩ = some (.int .i64 0) := (blk_cell HI.out 1).trans rfl
  have gc2 : w1.cell? ⟨w.heap.size, 2, none⟩ = some (.string (⟨#[]⟩ : ByteArray)) := (blk_cell HI.out 2).trans rfl
  have gf0 := blk_frozen HI.out 0
  have gf1 := blk_frozen HI.out 1
  have gf2 := blk_frozen HI.out 2
  go_wp2_with fail
  exact bodyPost_ret (v := encV (numV n)) (by simp [results, Try.results12, go_sem, encV, numV, V0, gc0, gc1, gc2]) rfl ⟨rfl, below_set3 HW.out (Nat.le_refl _) _ _ _ _ _ _⟩
set_option maxHeartbeats 2000000 in
set_option maxRecDepth 100000 in
theorem rvalue.empty (b : Nat) (op : Int) (rows : Bool) (A : Option Addr) (c : Nat) (w : World) (hb : RefAt w b op rows A 0 c) (h1 : ¬ op = 1) :
    Calls Try.prog 12 #[.pointer (some ⟨b, 0, none⟩)] w fun e w' => e = .returned (encV zeroV) ∧ Below w.heap.size w w' := by
  have hu := Try.underlying32
  have H1 := Aside0.mk (blk_alloc hb (.cells #[.int .i64 0, .int .i64 0, .string (⟨#[]⟩ : ByteArray)] 32))
  have HZ := Aside0.mk (Deep.blk_alloc_new w (.cells #[.int .i64 0, .int .i64 0, .string (⟨#[]⟩ : ByteArray)] 32))
  have b0 : World.cell? _ ⟨b, 0, none⟩ = some (.int .i64 op) := (blk_cell H1.out 0).trans rfl
  have b2 : World.cell? _ ⟨b, 2, none⟩ = some (.slice A 0 c) := (blk_cell H1.out 2).trans rfl
  have q1 : (op == 1) = false := beq_eq_false_iff_ne.mpr h1
  have gc0 : World.cell? _ ⟨w.heap.size, 0, none⟩ = some (.int .i64 0) := (blk_cell HZ.out 0).trans rfl
  have gc1 : World.cell? _ ⟨w.heap.size, 1, none⟩ = some (.int .i64 0) := (blk_cell HZ.out 1).trans rfl
  have gc2 : World.cell? _ ⟨w.heap.size, 2, none⟩ = some (.string (⟨#[]⟩ : ByteArray)) := (blk_cell HZ.out 2).trans rfl
  have gf0 := blk_frozen HZ.out 0
  have gf1 := blk_frozen HZ.out 1
  have gf2 := blk_frozen HZ.out 2
  have HW := Aside0.mk (below_alloc (Below.refl w.heap.size w) (.cells #[.int .i64 0, .int .i64 0, .string (⟨#[]⟩ : ByteArray)] 32))
  clear hb h1
  go_enter Try.func12, Try.ntmps12
  go_wp2_with fail
  first
  | exact bodyPost_ret (v := encV zeroV) (by simp [results, Try.results12, go_sem, encV, zeroV, V0, gc0, gc1, gc2]) rfl ⟨rfl, HW.out⟩
  | exact bodyPost_ret (v := encV zeroV) (by simp [results, Try.results12, go_sem, encV, zeroV, V0, gc0, gc1, gc2]) rfl ⟨rfl, below_set3 HW.out (Nat.le_refl _) _ _ _ _ _ _⟩
set_option maxHeartbeats 2000000 in
set_option maxRecDepth 100000 in
theorem rvalue.sum (b : Nat) (op : Int) (rows : Bool) (l : List S32) (A : Option Addr) (c : Nat) (w : World) (hb : RefAt w b op rows A l.length c) (h1 : op = 2) (hr : Kd.C k32 w A l.length l) (hf : ∀ v ∈ l, FitsV v) (h0 : 0 < l.length) :
    Calls Try.prog 12 #[.pointer (some ⟨b, 0, none⟩)] w fun e w' => e = .returned (encV (sumR (numV 0) l)) ∧ Below w.heap.size w w' := by
  have hu := Try.underlying32
  have H1 := Aside0.mk (blk_alloc hb (.cells #[.int .i64 0, .int .i64 0, .string (⟨#[]⟩ : ByteArray)] 32))
  have HZ := Aside0.mk (Deep.blk_alloc_new w (.cells #[.int .i64 0, .int .i64 0, .string (⟨#[]⟩ : ByteArray)] 32))
  have b0 : World.cell? _ ⟨b, 0, none⟩ = some (.int .i64 op) := (blk_cell H1.out 0).trans rfl
  have b2 : World.cell? _ ⟨b, 2, none⟩ = some (.slice A l.length c) := (blk_cell H1.out 2).trans rfl
  have q1 : (op == 1) = false := beq_eq_false_iff_ne.mpr (by omega)
  have q2 : (op == 2) = true := beq_iff_eq.mpr h1
  have q3 : ((l.length : Int) == 0) = false := beq_eq_false_iff_ne.mpr (by omega)
  have HR := Aside0.mk (Kd.C_below hr (below_alloc (Below.refl w.heap.size w) (.cells #[.int .i64 0, .int .i64 0, .string (⟨#[]⟩ : ByteArray)] 32)))
  have HF := Aside0.mk hf
  have HL := Aside0.mk h0
  have hne : ¬ l.length = 0 := by omega
  have hne2 : ¬ l = [] := by intro h; rw [h] at h0; exact absurd h0 (by decide)
  clear hb h1 hr hf h0
  go_enter Try.func12, Try.ntmps12
  go_wp2_with fail
  refine (rsum.calls b op rows l A c _ H1.out HR.out HF.out).mono ?_
  rintro e w1 ⟨rfl, hb1⟩
  have HI := Aside0.mk (blk_below HZ.out hb1)
  have HW := Aside0.mk (below_step (below_alloc (Below.refl w.heap.size w) _) hb1)
  clear hb1 b0 b2
  have gc0 : w1.cell? ⟨w.heap.size, 0, none⟩ = some (.int .i64 0) := (blk_cell HI.out 0).trans rfl
  have gc1 : w1.cell? ⟨w.heap.size, 1, none⟩ = some (.int .i64 0) := (blk_cell HI.out 1).trans rfl
  have gc2 : w1.cell? ⟨w.heap.size, 2, none⟩ = some (.string (⟨#[]⟩ : ByteArray)) := (blk_cell HI.out 2).trans rfl
  have gf0 := blk_frozen HI.out 0
  have gf1 := blk_frozen HI.out 1
  have gf2 := blk_frozen HI.out 2
  unfold encV
  go_wp2_with fail
  exact bodyPost_ret (v := encV (sumR (numV 0) l)) (by simp [results, Try.results12, go_sem, encV, gc0, gc1, gc2]) rfl ⟨rfl, below_set3 HW.out (Nat.le_refl _) _ _ _ _ _ _⟩
end Go.Proofs.Ytgjfciohmgpohaa.P
end
section
namespace Go.Proofs.Ytgjfciohmgpohaa.P
open Go.RowKit Go.Proofs.Ytgjfciohmgpohaa.Pure Go.Proofs.YtgjfciohmgpohaaW.PrintWords Go.Proofs.YtgjfciohmgpohaaW.PrintLast Go.Proofs.YtgjfciohmgpohaaW.PrintMore
attribute [local go_sem] max2_int min2_int max_two min_two max_three min_three max_four min_four
set_option linter.unusedVariables false
set_option linter.unusedSimpArgs false
def bstR (sg : Int) (u : S32) : List S32 → S32
  | [] => u
  | v :: t => bstR sg (if cmpV v u = sg then v else u) t
set_option maxHeartbeats 4000000 in
set_option maxRecDepth 100000 in
theorem rvalue.min (b : Nat) (op : Int) (rows : Bool) (l : List S32) (A : Option Addr) (c : Nat) (w : World) (hb : RefAt w b op rows A l.length c) (h1 : op = 3) (hr : Kd.C k32 w A l.length l) (hf : ∀ v ∈ l, FitsV v) (h0 : 0 < l.length) :
    Calls Try.prog 12 #[.pointer (some ⟨b, 0, none⟩)] w fun e w' => e = .returned (encV (bstR (-1) (rd_T32 l 0) (l.drop 1))) ∧ Below w.heap.size w w' := by
  have hu := Try.underlying32
  have H0 := Aside0.mk hb
  have H1 := Aside0.mk (blk_alloc hb (.cells #[.int .i64 0, .int .i64 0, .string (⟨#[]⟩ : ByteArray)] 32))
  have HZ := Aside0.mk (Deep.blk_alloc_new w (.cells #[.int .i64 0, .int .i64 0, .string (⟨#[]⟩ : ByteArray)] 32))
  have b0 : World.cell? _ ⟨b, 0, none⟩ = some (.int .i64 op) := (blk_cell H1.out 0).trans rfl
  have b2 : World.cell? _ ⟨b, 2, none⟩ = some (.slice A l.length c) := (blk_cell H1.out 2).trans rfl
  have q1 : (op == 1) = false := beq_eq_false_iff_ne.mpr (by omega)
  have q2 : (op == 2) = false := beq_eq_false_iff_ne.mpr (by omega)
  have q3 : (op == 3) = true := beq_iff_eq.mpr h1
  have q4 : (op == 4) = false := beq_eq_false_iff_ne.mpr (by omega)
  have q5 : ((l.length : Int) == 0) = false := beq_eq_false_iff_ne.mpr (by omega)
  have HR0 := Aside0.mk hr
  have HR := Aside0.mk (Kd.C_below hr (below_alloc (Below.refl w.heap.size w) (.cells #[.int .i64 0, .int .i64 0, .string (⟨#[]⟩ : ByteArray)] 32)))
  have HF := Aside0.mk hf
  have HL := Aside0.mk h0
  have HM : Aside0 (l.length ≤ 9223372036854775807) := ⟨Kd.C_max hr⟩
  have hne : ¬ l.length = 0 := by omega
  have hne2 : ¬ l = [] := by intro h; rw [h] at h0; exact absurd h0 (by decide)
  have hp0 : (0 < l.length) = True := eq_true h0
  have hp1 : ((0 : Int) < (l.length : Int)) = True := eq_true (by omega)
  have hd0 : decide (0 < l.length) = true := decide_eq_true h0
  obtain ⟨ad, rfl, hx0, hx1, hx2⟩ := at_T32 HR.out 0 (by omega) (by omega)
  replace hx0 : World.cell? _ (ad.add 0) = some (.int .i64 (rd_T32 l 0).f0) := hx0
  replace hx1 : World.cell? _ ⟨(ad.add 0).block, (ad.add 0).off + 1, none⟩ = some (.int .i64 (rd_T32 l 0).f1) := hx1
  replace hx2 : World.cell? _ ⟨(ad.add 0).block, (ad.add 0).off + 2, none⟩ = some (.string (rd_T32 l 0).f2) := hx2
  have ha0 : ad.add 0 = ad := by rfl
  rw [ha0] at hx0 hx1 hx2
  clear hb h1 hr hf h0
  go_enter Try.func12, Try.ntmps12
  go_wp2_with fail
  have HS0 : Aside0 (LS w ((w.alloc (.cells #[.int .i64 0, .int .i64 0, .string (⟨#[]⟩ : ByteArray)] 32)).alloc (.cells #[.int .i64 (rd_T32 l 0).f0, .int .i64 (rd_T32 l 0).f1, .string (rd_T32 l 0).f2] 32)) (w.heap.size + 1) (rd_T32 l 0)) := ⟨blk_alloc HZ.out _, by
    have := Deep.blk_alloc_new (w.alloc (.cells #[.int .i64 0, .int .i64 0, .string (⟨#[]⟩ : ByteArray)] 32)) (.cells #[.int .i64 (rd_T32 l 0).f0, .int .i64 (rd_T32 l 0).f1, .string (rd_T32 l 0).f2] 32)
    simpa using this, below_alloc (below_alloc (Below.refl _ _) _) _, by omega⟩
  clear b0 b2 hx0 hx1 hx2 ha0 hd0 hp0 hp1
  go_loopw [4] (fun v4 wr => ∃ (k : Nat) (s : S32), v4 = .int .i64 k ∧ k ≤ l.length ∧ Aside0 (bstR (-1) s (l.drop k) = bstR (-1) (rd_T32 l 0) (l.drop 1)) ∧ Aside0 (LS w wr (w.heap.size + 1) s)) (fun v4 _ => l.length - (intOf v4).toNat)
  case atStart => exact ⟨1, rd_T32 l 0, rfl, HL.out, ⟨rfl⟩, HS0⟩
  case round =>
    obtain ⟨k, s, rfl, hk, HG, HL2⟩ := hrel
    have HA := Aside0.mk (blk_below H0.out HL2.out.2.2.1)
    have b0 : wr.cell? ⟨b, 0, none⟩ = some (.int .i64 op) := (blk_cell HA.out 0).trans rfl
    have b2 : wr.cell? ⟨b, 2, none⟩ = some (.slice (some ad) l.length c) := (blk_cell HA.out 2).trans rfl
    have s0 : wr.cell? ⟨w.heap.size + 1, 0, none⟩ = some (.int .i64 s.f0) := (blk_cell HL2.out.2.1 0).trans rfl
    have s1 : wr.cell? ⟨w.heap.size + 1, 1, none⟩ = some (.int .i64 s.f1) := (blk_cell HL2.out.2.1 1).trans rfl
    have s2 : wr.cell? ⟨w.heap.size + 1, 2, none⟩ = some (.string s.f2) := (blk_cell HL2.out.2.1 2).trans rfl
    by_cases hlt : k < l.length
    · obtain ⟨ad2, e2, hx0, hx1, hx2⟩ := at_T32 (Kd.C_below HR0.out HL2.out.2.2.1) k (by omega) (by omega)
      cases e2
      replace hx0 : wr.cell? (ad.add (k * 3)) = some (.int .i64 (rd_T32 l k).f0) := hx0
      replace hx1 : wr.cell? ⟨(ad.add (k * 3)).block, (ad.add (k * 3)).off + 1, none⟩ = some (.int .i64 (rd_T32 l k).f1) := hx1
      replace hx2 : wr.cell? ⟨(ad.add (k * 3)).block, (ad.add (k * 3)).off + 2, none⟩ = some (.string (rd_T32 l k).f2) := hx2
      have q_a : decide (k < l.length) = true := decide_eq_true hlt
      have q_b : decide ((k : Int) < (l.length : Int)) = true := decide_eq_true (by omega)
      have q_c : (k < l.length) = True := eq_true hlt
      have q_e : ((k : Int) < (l.length : Int)) = True := eq_true (by omega)
      have q_d : (0 ≤ (k : Int)) = True := eq_true (by omega)
      have HK : Aside0 (k < l.length) := ⟨hlt⟩
      have HV0 := Aside0.mk (rd_fits HF.out k hlt)
      have HV : Aside0 (True ∧ (rd_T32 l k).f2.size ≤ 140737488351232) := ⟨trivial, HV0.out.2⟩
      have HG2 : Aside0 (bstR (-1) (if cmpV (rd_T32 l k) s = -1 then rd_T32 l k else s) (l.drop (k + 1)) = bstR (-1) (rd_T32 l 0) (l.drop 1)) := ⟨by
        have e : rd_T32 l k = l[k] := by unfold rd_T32; simp [hlt]
        rw [← HG.out, List.drop_eq_getElem_cons hlt, e]
        rfl⟩
      have hkm : k < 9223372036854775807 := by have := HM.out; omega
      clear hlt hk
      go_wp2_with fail
      refine start_ (n := 10) (S := fun w' => w'.cell? ⟨w.heap.size + 1, 0, none⟩ = some (.int .i64 s.f0) ∧ w'.cell? ⟨w.heap.size + 1, 1, none⟩ = some (.int .i64 s.f1) ∧ w'.cell? ⟨w.heap.size + 1, 2, none⟩ = some (.string s.f2) ∧ w'.cell? ⟨b, 2, none⟩ = some (.slice (some ad) l.length c) ∧ w'.cell? (ad.add (k * 3)) = some (.int .i64 (rd_T32 l k).f0) ∧ w'.cell? ⟨(ad.add (k * 3)).block, (ad.add (k * 3)).off + 1, none⟩ = some (.int .i64 (rd_T32 l k).f1) ∧ w'.cell? ⟨(ad.add (k * 3)).block, (ad.add (k * 3)).off + 2, none⟩ = some (.string (rd_T32 l k).f2)) (ds := [8]) #[false, false, false, false, false, false, false, false, false, false] (by kernel_rfl) rfl rfl ⟨s0, s1, s2, b2, hx0, hx1, hx2⟩ (fun hHeld => ?_)
      refine pure_ (i := 0) (N := some 46) (v := ?_) (a' := ?_) #[true, false, false, false, false, false, false, false, false, false] rfl rfl (by kernel_rfl) (fun _ _ _ h => h) (Or.inl ⟨by rfl, ?_⟩) ?_ ?_
      rotate_left
      · intro w'
        go_simp
        with_reducible rfl
      rotate_left
      · simp only [Act.put, List.setIfInBounds_toArray, List.set_cons_zero, List.set_cons_succ, i64_w, i32_w]
        rfl
      refine pure_ (i := 1) (N := some 47) (v := ?_) (a' := ?_) #[true, true, false, false, false, false, false, false, false, false] rfl rfl (by kernel_rfl) (fun _ _ _ h => h) (Or.inl ⟨by rfl, ?_⟩) ?_ ?_
      rotate_left
      · intro w'
        go_simp
        with_reducible rfl
      rotate_left
      · simp only [Act.put, List.setIfInBounds_toArray, List.set_cons_zero, List.set_cons_succ, i64_w, i32_w]
        rfl
      refine pure_ (i := 2) (N := some 48) (v := ?_) (a' := ?_) #[true, true, true, false, false, false, false, false, false, false] rfl rfl (by kernel_rfl) (fun _ _ _ h => h) (Or.inl ⟨by rfl, ?_⟩) ?_ ?_
      rotate_left
      · intro w'
        go_simp
        with_reducible rfl
      rotate_left
      · simp only [Act.put, List.setIfInBounds_toArray, List.set_cons_zero, List.set_cons_succ, i64_w, i32_w]
        rfl
      refine pure_ (i := 4) (N := some 50) (v := ?_) (a' := ?_) #[true, true, true, false, true, false, false, false, false, false] rfl rfl (by kernel_rfl) (fun _ _ _ h => h) (Or.inl ⟨by rfl, ?_⟩) ?_ ?_
      rotate_left
      · intro w'
        go_simp
        with_reducible rfl
      rotate_left
      · simp only [Act.put, List.setIfInBounds_toArray, List.set_cons_zero, List.set_cons_succ, i64_w, i32_w]
        rfl
      refine take_ (i := 3) (N := some 49) (v := ?_) (a' := ?_) #[true, true, true, true, true, false, false, false, false, false] rfl rfl (by kernel_rfl) (fun _ _ _ h => h) (Or.inl ⟨by rfl, ?_⟩) hHeld ?_ ?_
      rotate_left
      · rintro w' ⟨s0, s1, s2, s3, s4, s5, s6⟩
        go_simp
        with_reducible rfl
      rotate_left
      · simp only [Act.put, List.setIfInBounds_toArray, List.set_cons_zero, List.set_cons_succ, i64_w, i32_w]
        rfl
      refine pure_ (i := 5) (N := some 51) (v := ?_) (a' := ?_) #[true, true, true, true, true, true, false, false, false, false] rfl rfl (by kernel_rfl) (fun _ _ _ h => h) (Or.inl ⟨by rfl, ?_⟩) ?_ ?_
      rotate_left
      · intro w'
        go_simp
        with_reducible rfl
      rotate_left
      · simp only [Act.put, List.setIfInBounds_toArray, List.set_cons_zero, List.set_cons_succ, i64_w, i32_w]
        rfl
      refine take_ (i := 6) (N := some 52) (v := ?_) (a' := ?_) #[true, true, true, true, true, true, true, false, false, false] rfl rfl (by kernel_rfl) (fun _ _ _ h => h) (Or.inl ⟨by rfl, ?_⟩) hHeld ?_ ?_
      rotate_left
      · rintro w' ⟨s0, s1, s2, s3, s4, s5, s6⟩
        go_simp
        with_reducible rfl
      rotate_left
      · simp only [Act.put, List.setIfInBounds_toArray, List.set_cons_zero, List.set_cons_succ, i64_w, i32_w]
        rfl
      refine take_ (i := 7) (N := some 53) (v := ?_) (a' := ?_) #[true, true, true, true, true, true, true, true, false, false] rfl rfl (by kernel_rfl) (fun _ _ _ h => h) (Or.inl ⟨by rfl, ?_⟩) hHeld ?_ ?_
      rotate_left
      · rintro w' ⟨s0, s1, s2, s3, s4, s5, s6⟩
        go_simp
        with_reducible rfl
      rotate_left
      · simp only [Act.put, List.setIfInBounds_toArray, List.set_cons_zero, List.set_cons_succ, i64_w, i32_w]
        rfl
      refine last_ (i := 8) (N := some 54) #[true, true, true, true, true, true, true, true, true, false] rfl rfl (by kernel_rfl) (by decide) (fun K hK => ?_)
      refine goes_ Try.func17 (by kernel_rfl) rfl #[.agg #[.int .i64 (rd_T32 l k).f0, .int .i64 (rd_T32 l k).f1, .string (rd_T32 l k).f2], .agg #[.int .i64 s.f0, .int .i64 s.f1, .string s.f2]] (by rfl) rfl rfl (by simp only [List.map_toArray, List.map_cons, List.map_nil]; rfl) ?_
      with_reducible refine (compareR_calls (rd_T32 l k) s HV.out.2 _).mono ?_
      rintro e w2 ⟨rfl, hb⟩
      refine ⟨_, rfl, ?_⟩
      have HL3 : Aside0 (LS w w2 (w.heap.size + 1) s) := ⟨HL2.out.drew.below hb⟩
      clear hb s0 s1 s2 b0 b2 hx0 hx1 hx2 hHeld HA
      refine hK.out _ _ ?_
      clear hK K
      refine norm_ (a' := ?_) ?_ ?_
      rotate_left
      · show Act.put _ (some 54) _ = _
        simp only [Act.put, List.setIfInBounds_toArray, List.set_cons_zero, List.set_cons_succ, i64_w, i32_w]
        rfl
      refine pure_ (i := 9) (N := some 5) (v := ?_) (a' := ?_) #[true, true, true, true, true, true, true, true, true, true] rfl rfl (by kernel_rfl) (fun _ _ _ h => h) (Or.inl ⟨by rfl, ?_⟩) ?_ ?_
      rotate_left
      · intro w'
        go_simp
        with_reducible rfl
      rotate_left
      · simp only [Act.put, List.setIfInBounds_toArray, List.set_cons_zero, List.set_cons_succ, i64_w, i32_w]
        rfl
      refine done_ (by kernel_rfl) ?_
      have HA2 := Aside0.mk (blk_below H0.out HL3.out.2.2.1)
      have b0 : w2.cell? ⟨b, 0, none⟩ = some (.int .i64 op) := (blk_cell HA2.out 0).trans rfl
      have b2 : w2.cell? ⟨b, 2, none⟩ = some (.slice (some ad) l.length c) := (blk_cell HA2.out 2).trans rfl
      have s0 : w2.cell? ⟨w.heap.size + 1, 0, none⟩ = some (.int .i64 s.f0) := (blk_cell HL3.out.2.1 0).trans rfl
      have s1 : w2.cell? ⟨w.heap.size + 1, 1, none⟩ = some (.int .i64 s.f1) := (blk_cell HL3.out.2.1 1).trans rfl
      have s2 : w2.cell? ⟨w.heap.size + 1, 2, none⟩ = some (.string s.f2) := (blk_cell HL3.out.2.1 2).trans rfl
      have gf0 := blk_frozen HL3.out.2.1 0
      have gf1 := blk_frozen HL3.out.2.1 1
      have gf2 := blk_frozen HL3.out.2.1 2
      obtain ⟨ad2, e2, hx0, hx1, hx2⟩ := at_T32 (Kd.C_below HR0.out HL3.out.2.2.1) k (by omega) (by have := HK.out; omega)
      cases e2
      replace hx0 : w2.cell? (ad.add (k * 3)) = some (.int .i64 (rd_T32 l k).f0) := hx0
      replace hx1 : w2.cell? ⟨(ad.add (k * 3)).block, (ad.add (k * 3)).off + 1, none⟩ = some (.int .i64 (rd_T32 l k).f1) := hx1
      replace hx2 : w2.cell? ⟨(ad.add (k * 3)).block, (ad.add (k * 3)).off + 2, none⟩ = some (.string (rd_T32 l k).f2) := hx2
      have s3 := cmpV_s3 (rd_T32 l k) s
      by_cases hc : cmpV (rd_T32 l k) s = -1
      · have c1 : decide (cmpV (rd_T32 l k) s < 0) = true := decide_eq_true (by unfold S3 at s3; omega)
        have c2 : decide (0 > cmpV (rd_T32 l k) s) = true := decide_eq_true (by unfold S3 at s3; omega)
        have HG3 : Aside0 (bstR (-1) (rd_T32 l k) (l.drop (k + 1)) = bstR (-1) (rd_T32 l 0) (l.drop 1)) := ⟨by have h := HG2.out; rw [if_pos hc] at h; exact h⟩
        clear hc s3
        go_wp2_with fail
        go_roundw
        case rel => exact ⟨k + 1, _, by go_num, HK.out, HG3, ⟨HL3.out.put _⟩⟩
        case measure => have := HK.out; simp [intOf]; omega
      · have c1 : decide (cmpV (rd_T32 l k) s < 0) = false := decide_eq_false (by unfold S3 at s3; omega)
        have c2 : decide (0 > cmpV (rd_T32 l k) s) = false := decide_eq_false (by unfold S3 at s3; omega)
        have HG3 : Aside0 (bstR (-1) s (l.drop (k + 1)) = bstR (-1) (rd_T32 l 0) (l.drop 1)) := ⟨by have h := HG2.out; rw [if_neg hc] at h; exact h⟩
        clear hc s3
        go_wp2_with fail
        go_roundw
        case rel => exact ⟨k + 1, _, by go_num, HK.out, HG3, HL3⟩
        case measure => have := HK.out; simp [intOf]; omega
    · have q_a : decide (k < l.length) = false := decide_eq_false hlt
      have q_b : decide ((k : Int) < (l.length : Int)) = false := decide_eq_false (by omega)
      have HG2 : Aside0 (s = bstR (-1) (rd_T32 l 0) (l.drop 1)) := ⟨by rw [← HG.out, List.drop_eq_nil_of_le (by omega)]; rfl⟩
      clear hlt hk
      have rc0 : wr.cell? ⟨w.heap.size, 0, none⟩ = some (.int .i64 0) := (blk_cell HL2.out.1 0).trans rfl
      have rc1 : wr.cell? ⟨w.heap.size, 1, none⟩ = some (.int .i64 0) := (blk_cell HL2.out.1 1).trans rfl
      have rc2 : wr.cell? ⟨w.heap.size, 2, none⟩ = some (.string (⟨#[]⟩ : ByteArray)) := (blk_cell HL2.out.1 2).trans rfl
      have rf0 := blk_frozen HL2.out.1 0
      have rf1 := blk_frozen HL2.out.1 1
      have rf2 := blk_frozen HL2.out.1 2
      go_wp2_with fail
      refine bodyPost_ret (v := encV s) (by simp [results, Try.results12, go_sem, encV, rc0, rc1, rc2]) rfl ⟨?_, below_set3 HL2.out.2.2.1 (Nat.le_refl _) _ _ _ _ _ _⟩
      rw [HG2.out]
set_option maxHeartbeats 4000000 in
set_option maxRecDepth 100000 in
theorem rvalue.max (b : Nat) (op : Int) (rows : Bool) (l : List S32) (A : Option Addr) (c : Nat) (w : World) (hb : RefAt w b op rows A l.length c) (h1 : op = 4) (hr : Kd.C k32 w A l.length l) (hf : ∀ v ∈ l, FitsV v) (h0 : 0 < l.length) :
    Calls Try.prog 12 #[.pointer (some ⟨b, 0, none⟩)] w fun e w' => e = .returned (encV (bstR (1) (rd_T32 l 0) (l.drop 1))) ∧ Below w.heap.size w w' := by
  have hu := Try.underlying32
  have H0 := Aside0.mk hb
  have H1 := Aside0.mk (blk_alloc hb (.cells #[.int .i64 0, .int .i64 0, .string (⟨#[]⟩ : ByteArray)] 32))
  have HZ := Aside0.mk (Deep.blk_alloc_new w (.cells #[.int .i64 0, .int .i64 0, .string (⟨#[]⟩ : ByteArray)] 32))
  have b0 : World.cell? _ ⟨b, 0, none⟩ = some (.int .i64 op) := (blk_cell H1.out 0).trans rfl
  have b2 : World.cell? _ ⟨b, 2, none⟩ = some (.slice A l.length c) := (blk_cell H1.out 2).trans rfl
  have q1 : (op == 1) = false := beq_eq_false_iff_ne.mpr (by omega)
  have q2 : (op == 2) = false := beq_eq_false_iff_ne.mpr (by omega)
  have q3 : (op == 3) = false := beq_eq_false_iff_ne.mpr (by omega)
  have q4 : (op == 4) = true := beq_iff_eq.mpr h1
  have q5 : ((l.length : Int) == 0) = false := beq_eq_false_iff_ne.mpr (by omega)
  have HR0 := Aside0.mk hr
  have HR := Aside0.mk (Kd.C_below hr (below_alloc (Below.refl w.heap.size w) (.cells #[.int .i64 0, .int .i64 0, .string (⟨#[]⟩ : ByteArray)] 32)))
  have HF := Aside0.mk hf
  have HL := Aside0.mk h0
  have HM : Aside0 (l.length ≤ 9223372036854775807) := ⟨Kd.C_max hr⟩
  have hne : ¬ l.length = 0 := by omega
  have hne2 : ¬ l = [] := by intro h; rw [h] at h0; exact absurd h0 (by decide)
  have hp0 : (0 < l.length) = True := eq_true h0
  have hp1 : ((0 : Int) < (l.length : Int)) = True := eq_true (by omega)
  have hd0 : decide (0 < l.length) = true := decide_eq_true h0
  obtain ⟨ad, rfl, hx0, hx1, hx2⟩ := at_T32 HR.out 0 (by omega) (by omega)
  replace hx0 : World.cell? _ (ad.add 0) = some (.int .i64 (rd_T32 l 0).f0) := hx0
  replace hx1 : World.cell? _ ⟨(ad.add 0).block, (ad.add 0).off + 1, none⟩ = some (.int .i64 (rd_T32 l 0).f1) := hx1
  replace hx2 : World.cell? _ ⟨(ad.add 0).block, (ad.add 0).off + 2, none⟩ = some (.string (rd_T32 l 0).f2) := hx2
  have ha0 : ad.add 0 = ad := by rfl
  rw [ha0] at hx0 hx1 hx2
  clear hb h1 hr hf h0
  go_enter Try.func12, Try.ntmps12
  go_wp2_with fail
  have HS0 : Aside0 (LS w ((w.alloc (.cells #[.int .i64 0, .int .i64 0, .string (⟨#[]⟩ : ByteArray)] 32)).alloc (.cells #[.int .i64 (rd_T32 l 0).f0, .int .i64 (rd_T32 l 0).f1, .string (rd_T32 l 0).f2] 32)) (w.heap.size + 1) (rd_T32 l 0)) := ⟨blk_alloc HZ.out _, by
    have := Deep.blk_alloc_new (w.alloc (.cells #[.int .i64 0, .int .i64 0, .string (⟨#[]⟩ : ByteArray)] 32)) (.cells #[.int .i64 (rd_T32 l 0).f0, .int .i64 (rd_T32 l 0).f1, .string (rd_T32 l 0).f2] 32)
    simpa using this, below_alloc (below_alloc (Below.refl _ _) _) _, by omega⟩
  clear b0 b2 hx0 hx1 hx2 ha0 hd0 hp0 hp1
  go_loopw [4] (fun v4 wr => ∃ (k : Nat) (s : S32), v4 = .int .i64 k ∧ k ≤ l.length ∧ Aside0 (bstR (1) s (l.drop k) = bstR (1) (rd_T32 l 0) (l.drop 1)) ∧ Aside0 (LS w wr (w.heap.size + 1) s)) (fun v4 _ => l.length - (intOf v4).toNat)
  case atStart => exact ⟨1, rd_T32 l 0, rfl, HL.out, ⟨rfl⟩, HS0⟩
  case round =>
    obtain ⟨k, s, rfl, hk, HG, HL2⟩ := hrel
    have HA := Aside0.mk (blk_below H0.out HL2.out.2.2.1)
    have b0 : wr.cell? ⟨b, 0, none⟩ = some (.int .i64 op) := (blk_cell HA.out 0).trans rfl
    have b2 : wr.cell? ⟨b, 2, none⟩ = some (.slice (some ad) l.length c) := (blk_cell HA.out 2).trans rfl
    have s0 : wr.cell? ⟨w.heap.size + 1, 0, none⟩ = some (.int .i64 s.f0) := (blk_cell HL2.out.2.1 0).trans rfl
    have s1 : wr.cell? ⟨w.heap.size + 1, 1, none⟩ = some (.int .i64 s.f1) := (blk_cell HL2.out.2.1 1).trans rfl
    have s2 : wr.cell? ⟨w.heap.size + 1, 2, none⟩ = some (.string s.f2) := (blk_cell HL2.out.2.1 2).trans rfl
    by_cases hlt : k < l.length
    · obtain ⟨ad2, e2, hx0, hx1, hx2⟩ := at_T32 (Kd.C_below HR0.out HL2.out.2.2.1) k (by omega) (by omega)
      cases e2
      replace hx0 : wr.cell? (ad.add (k * 3)) = some (.int .i64 (rd_T32 l k).f0) := hx0
      replace hx1 : wr.cell? ⟨(ad.add (k * 3)).block, (ad.add (k * 3)).off + 1, none⟩ = some (.int .i64 (rd_T32 l k).f1) := hx1
      replace hx2 : wr.cell? ⟨(ad.add (k * 3)).block, (ad.add (k * 3)).off + 2, none⟩ = some (.string (rd_T32 l k).f2) := hx2
      have q_a : decide (k < l.length) = true := decide_eq_true hlt
      have q_b : decide ((k : Int) < (l.length : Int)) = true := decide_eq_true (by omega)
      have q_c : (k < l.length) = True := eq_true hlt
      have q_e : ((k : Int) < (l.length : Int)) = True := eq_true (by omega)
      have q_d : (0 ≤ (k : Int)) = True := eq_true (by omega)
      have HK : Aside0 (k < l.length) := ⟨hlt⟩
      have HV0 := Aside0.mk (rd_fits HF.out k hlt)
      have HV : Aside0 (True ∧ (rd_T32 l k).f2.size ≤ 140737488351232) := ⟨trivial, HV0.out.2⟩
      have HG2 : Aside0 (bstR (1) (if cmpV (rd_T32 l k) s = 1 then rd_T32 l k else s) (l.drop (k + 1)) = bstR (1) (rd_T32 l 0) (l.drop 1)) := ⟨by
        have e : rd_T32 l k = l[k] := by unfold rd_T32; simp [hlt]
        rw [← HG.out, List.drop_eq_getElem_cons hlt, e]
        rfl⟩
      have hkm : k < 9223372036854775807 := by have := HM.out; omega
      clear hlt hk
      go_wp2_with fail
      refine start_ (n := 10) (S := fun w' => w'.cell? ⟨w.heap.size + 1, 0, none⟩ = some (.int .i64 s.f0) ∧ w'.cell? ⟨w.heap.size + 1, 1, none⟩ = some (.int .i64 s.f1) ∧ w'.cell? ⟨w.heap.size + 1, 2, none⟩ = some (.string s.f2) ∧ w'.cell? ⟨b, 2, none⟩ = some (.slice (some ad) l.length c) ∧ w'.cell? (ad.add (k * 3)) = some (.int .i64 (rd_T32 l k).f0) ∧ w'.cell? ⟨(ad.add (k * 3)).block, (ad.add (k * 3)).off + 1, none⟩ = some (.int .i64 (rd_T32 l k).f1) ∧ w'.cell? ⟨(ad.add (k * 3)).block, (ad.add (k * 3)).off + 2, none⟩ = some (.string (rd_T32 l k).f2)) (ds := [8]) #[false, false, false, false, false, false, false, false, false, false] (by kernel_rfl) rfl rfl ⟨s0, s1, s2, b2, hx0, hx1, hx2⟩ (fun hHeld => ?_)
      refine pure_ (i := 0) (N := some 46) (v := ?_) (a' := ?_) #[true, false, false, false, false, false, false, false, false, false] rfl rfl (by kernel_rfl) (fun _ _ _ h => h) (Or.inl ⟨by rfl, ?_⟩) ?_ ?_
      rotate_left
      · intro w'
        go_simp
        with_reducible rfl
      rotate_left
      · simp only [Act.put, List.setIfInBounds_toArray, List.set_cons_zero, List.set_cons_succ, i64_w, i32_w]
        rfl
      refine pure_ (i := 1) (N := some 47) (v := ?_) (a' := ?_) #[true, true, false, false, false, false, false, false, false, false] rfl rfl (by kernel_rfl) (fun _ _ _ h => h) (Or.inl ⟨by rfl, ?_⟩) ?_ ?_
      rotate_left
      · intro w'
        go_simp
        with_reducible rfl
      rotate_left
      · simp only [Act.put, List.setIfInBounds_toArray, List.set_cons_zero, List.set_cons_succ, i64_w, i32_w]
        rfl
      refine pure_ (i := 2) (N := some 48) (v := ?_) (a' := ?_) #[true, true, true, false, false, false, false, false, false, false] rfl rfl (by kernel_rfl) (fun _ _ _ h => h) (Or.inl ⟨by rfl, ?_⟩) ?_ ?_
      rotate_left
      · intro w'
        go_simp
        with_reducible rfl
      rotate_left
      · simp only [Act.put, List.setIfInBounds_toArray, List.set_cons_zero, List.set_cons_succ, i64_w, i32_w]
        rfl
      refine pure_ (i := 4) (N := some 50) (v := ?_) (a' := ?_) #[true, true, true, false, true, false, false, false, false, false] rfl rfl (by kernel_rfl) (fun _ _ _ h => h) (Or.inl ⟨by rfl, ?_⟩) ?_ ?_
      rotate_left
      · intro w'
        go_simp
        with_reducible rfl
      rotate_left
      · simp only [Act.put, List.setIfInBounds_toArray, List.set_cons_zero, List.set_cons_succ, i64_w, i32_w]
        rfl
      refine take_ (i := 3) (N := some 49) (v := ?_) (a' := ?_) #[true, true, true, true, true, false, false, false, false, false] rfl rfl (by kernel_rfl) (fun _ _ _ h => h) (Or.inl ⟨by rfl, ?_⟩) hHeld ?_ ?_
      rotate_left
      · rintro w' ⟨s0, s1, s2, s3, s4, s5, s6⟩
        go_simp
        with_reducible rfl
      rotate_left
      · simp only [Act.put, List.setIfInBounds_toArray, List.set_cons_zero, List.set_cons_succ, i64_w, i32_w]
        rfl
      refine pure_ (i := 5) (N := some 51) (v := ?_) (a' := ?_) #[true, true, true, true, true, true, false, false, false, false] rfl rfl (by kernel_rfl) (fun _ _ _ h => h) (Or.inl ⟨by rfl, ?_⟩) ?_ ?_
      rotate_left
      · intro w'
        go_simp
        with_reducible rfl
      rotate_left
      · simp only [Act.put, List.setIfInBounds_toArray, List.set_cons_zero, List.set_cons_succ, i64_w, i32_w]
        rfl
      refine take_ (i := 6) (N := some 52) (v := ?_) (a' := ?_) #[true, true, true, true, true, true, true, false, false, false] rfl rfl (by kernel_rfl) (fun _ _ _ h => h) (Or.inl ⟨by rfl, ?_⟩) hHeld ?_ ?_
      rotate_left
      · rintro w' ⟨s0, s1, s2, s3, s4, s5, s6⟩
        go_simp
        with_reducible rfl
      rotate_left
      · simp only [Act.put, List.setIfInBounds_toArray, List.set_cons_zero, List.set_cons_succ, i64_w, i32_w]
        rfl
      refine take_ (i := 7) (N := some 53) (v := ?_) (a' := ?_) #[true, true, true, true, true, true, true, true, false, false] rfl rfl (by kernel_rfl) (fun _ _ _ h => h) (Or.inl ⟨by rfl, ?_⟩) hHeld ?_ ?_
      rotate_left
      · rintro w' ⟨s0, s1, s2, s3, s4, s5, s6⟩
        go_simp
        with_reducible rfl
      rotate_left
      · simp only [Act.put, List.setIfInBounds_toArray, List.set_cons_zero, List.set_cons_succ, i64_w, i32_w]
        rfl
      refine last_ (i := 8) (N := some 54) #[true, true, true, true, true, true, true, true, true, false] rfl rfl (by kernel_rfl) (by decide) (fun K hK => ?_)
      refine goes_ Try.func17 (by kernel_rfl) rfl #[.agg #[.int .i64 (rd_T32 l k).f0, .int .i64 (rd_T32 l k).f1, .string (rd_T32 l k).f2], .agg #[.int .i64 s.f0, .int .i64 s.f1, .string s.f2]] (by rfl) rfl rfl (by simp only [List.map_toArray, List.map_cons, List.map_nil]; rfl) ?_
      with_reducible refine (compareR_calls (rd_T32 l k) s HV.out.2 _).mono ?_
      rintro e w2 ⟨rfl, hb⟩
      refine ⟨_, rfl, ?_⟩
      have HL3 : Aside0 (LS w w2 (w.heap.size + 1) s) := ⟨HL2.out.drew.below hb⟩
      clear hb s0 s1 s2 b0 b2 hx0 hx1 hx2 hHeld HA
      refine hK.out _ _ ?_
      clear hK K
      refine norm_ (a' := ?_) ?_ ?_
      rotate_left
      · show Act.put _ (some 54) _ = _
        simp only [Act.put, List.setIfInBounds_toArray, List.set_cons_zero, List.set_cons_succ, i64_w, i32_w]
        rfl
      refine pure_ (i := 9) (N := some 5) (v := ?_) (a' := ?_) #[true, true, true, true, true, true, true, true, true, true] rfl rfl (by kernel_rfl) (fun _ _ _ h => h) (Or.inl ⟨by rfl, ?_⟩) ?_ ?_
      rotate_left
      · intro w'
        go_simp
        with_reducible rfl
      rotate_left
      · simp only [Act.put, List.setIfInBounds_toArray, List.set_cons_zero, List.set_cons_succ, i64_w, i32_w]
        rfl
      refine done_ (by kernel_rfl) ?_
      have HA2 := Aside0.mk (blk_below H0.out HL3.out.2.2.1)
      have b0 : w2.cell? ⟨b, 0, none⟩ = some (.int .i64 op) := (blk_cell HA2.out 0).trans rfl
      have b2 : w2.cell? ⟨b, 2, none⟩ = some (.slice (some ad) l.length c) := (blk_cell HA2.out 2).trans rfl
      have s0 : w2.cell? ⟨w.heap.size + 1, 0, none⟩ = some (.int .i64 s.f0) := (blk_cell HL3.out.2.1 0).trans rfl
      have s1 : w2.cell? ⟨w.heap.size + 1, 1, none⟩ = some (.int .i64 s.f1) := (blk_cell HL3.out.2.1 1).trans rfl
      have s2 : w2.cell? ⟨w.heap.size + 1, 2, none⟩ = some (.string s.f2) := (blk_cell HL3.out.2.1 2).trans rfl
      have gf0 := blk_frozen HL3.out.2.1 0
      have gf1 := blk_frozen HL3.out.2.1 1
      have gf2 := blk_frozen HL3.out.2.1 2
      obtain ⟨ad2, e2, hx0, hx1, hx2⟩ := at_T32 (Kd.C_below HR0.out HL3.out.2.2.1) k (by omega) (by have := HK.out; omega)
      cases e2
      replace hx0 : w2.cell? (ad.add (k * 3)) = some (.int .i64 (rd_T32 l k).f0) := hx0
      replace hx1 : w2.cell? ⟨(ad.add (k * 3)).block, (ad.add (k * 3)).off + 1, none⟩ = some (.int .i64 (rd_T32 l k).f1) := hx1
      replace hx2 : w2.cell? ⟨(ad.add (k * 3)).block, (ad.add (k * 3)).off + 2, none⟩ = some (.string (rd_T32 l k).f2) := hx2
      have s3 := cmpV_s3 (rd_T32 l k) s
      by_cases hc : cmpV (rd_T32 l k) s = 1
      · have c1 : decide (cmpV (rd_T32 l k) s > 0) = true := decide_eq_true (by unfold S3 at s3; omega)
        have c2 : decide (0 < cmpV (rd_T32 l k) s) = true := decide_eq_true (by unfold S3 at s3; omega)
        have HG3 : Aside0 (bstR (1) (rd_T32 l k) (l.drop (k + 1)) = bstR (1) (rd_T32 l 0) (l.drop 1)) := ⟨by have h := HG2.out; rw [if_pos hc] at h; exact h⟩
        clear hc s3
        go_wp2_with fail
        go_roundw
        case rel => exact ⟨k + 1, _, by go_num, HK.out, HG3, ⟨HL3.out.put _⟩⟩
        case measure => have := HK.out; simp [intOf]; omega
      · have c1 : decide (cmpV (rd_T32 l k) s > 0) = false := decide_eq_false (by unfold S3 at s3; omega)
        have c2 : decide (0 < cmpV (rd_T32 l k) s) = false := decide_eq_false (by unfold S3 at s3; omega)
        have HG3 : Aside0 (bstR (1) s (l.drop (k + 1)) = bstR (1) (rd_T32 l 0) (l.drop 1)) := ⟨by have h := HG2.out; rw [if_neg hc] at h; exact h⟩
        clear hc s3
        go_wp2_with fail
        go_roundw
        case rel => exact ⟨k + 1, _, by go_num, HK.out, HG3, HL3⟩
        case measure => have := HK.out; simp [intOf]; omega
    · have q_a : decide (k < l.length) = false := decide_eq_false hlt
      have q_b : decide ((k : Int) < (l.length : Int)) = false := decide_eq_false (by omega)
      have HG2 : Aside0 (s = bstR (1) (rd_T32 l 0) (l.drop 1)) := ⟨by rw [← HG.out, List.drop_eq_nil_of_le (by omega)]; rfl⟩
      clear hlt hk
      have rc0 : wr.cell? ⟨w.heap.size, 0, none⟩ = some (.int .i64 0) := (blk_cell HL2.out.1 0).trans rfl
      have rc1 : wr.cell? ⟨w.heap.size, 1, none⟩ = some (.int .i64 0) := (blk_cell HL2.out.1 1).trans rfl
      have rc2 : wr.cell? ⟨w.heap.size, 2, none⟩ = some (.string (⟨#[]⟩ : ByteArray)) := (blk_cell HL2.out.1 2).trans rfl
      have rf0 := blk_frozen HL2.out.1 0
      have rf1 := blk_frozen HL2.out.1 1
      have rf2 := blk_frozen HL2.out.1 2
      go_wp2_with fail
      refine bodyPost_ret (v := encV s) (by simp [results, Try.results12, go_sem, encV, rc0, rc1, rc2]) rfl ⟨?_, below_set3 HL2.out.2.2.1 (Nat.le_refl _) _ _ _ _ _ _⟩
      rw [HG2.out]
end Go.Proofs.Ytgjfciohmgpohaa.P
end
section
namespace Go.Proofs.Ytgjfciohmgpohaa.P
open Go.RowKit Go.Proofs.Ytgjfciohmgpohaa.Pure Go.Proofs.YtgjfciohmgpohaaW.PrintWords Go.Proofs.YtgjfciohmgpohaaW.PrintLast Go.Proofs.YtgjfciohmgpohaaW.PrintMore
attribute [local go_sem] max2_int min2_int max_two min_two max_three min_three max_four min_four
set_option linter.unusedVariables false
set_option linter.unusedSimpArgs false
def refV (op : Int) (l : List S32) : S32 :=
  if op = 1 then numV l.length else if l.length = 0 then zeroV else if op = 2 then sumR (numV 0) l else if op = 3 then bstR (-1) (rd_T32 l 0) (l.drop 1) else bstR 1 (rd_T32 l 0) (l.drop 1)
theorem rvalue.calls (b : Nat) (op : Int) (rows : Bool) (l : List S32) (A : Option Addr) (c : Nat) (w : World) (hb : RefAt w b op rows A l.length c) (ho : 1 ≤ op ∧ op ≤ 4) (hr : Kd.C k32 w A l.length l) (hf : ∀ v ∈ l, FitsV v) :
    Calls Try.prog 12 #[.pointer (some ⟨b, 0, none⟩)] w fun e w' => e = .returned (encV (refV op l)) ∧ Below w.heap.size w w' := by
  unfold refV
  by_cases h1 : op = 1
  · rw [if_pos h1]; exact rvalue.count b op rows l.length A c w hb h1
  rw [if_neg h1]
  by_cases h0 : l.length = 0
  · rw [if_pos h0]
    rw [h0] at hb
    exact rvalue.empty b op rows A c w hb h1
  rw [if_neg h0]
  by_cases h2 : op = 2
  · rw [if_pos h2]; exact rvalue.sum b op rows l A c w hb h2 hr hf (by omega)
  rw [if_neg h2]
  by_cases h3 : op = 3
  · rw [if_pos h3]; exact rvalue.min b op rows l A c w hb h3 hr hf (by omega)
  rw [if_neg h3]
  exact rvalue.max b op rows l A c w hb (by omega) hr hf (by omega)
set_option maxHeartbeats 1000000 in
set_option maxRecDepth 100000 in
theorem radd.pass (b : Nat) (op : Int) (rows : Bool) (n : Nat) (A : Option Addr) (c : Nat) (v : S32) (w : World) (hb : RefAt w b op rows A n c) (hz : v.f0 = 0) (hr : rows = false) :
    Calls Try.prog 14 #[.pointer (some ⟨b, 0, none⟩), .agg #[.int .i64 v.f0, .int .i64 v.f1, .string v.f2]] w fun e w' => e = .returned (.int .i64 0) ∧ Below w.heap.size w w' := by
  have hu := Try.underlying32
  have H1 := Aside0.mk (blk_alloc hb (.cells #[.int .i64 v.f0, .int .i64 v.f1, .string v.f2] 32))
  have HZ := Aside0.mk (Deep.blk_alloc_new w (.cells #[.int .i64 v.f0, .int .i64 v.f1, .string v.f2] 32))
  have b1 : World.cell? _ ⟨b, 1, none⟩ = some (.bool rows) := (blk_cell H1.out 1).trans rfl
  have v0 : World.cell? _ ⟨w.heap.size, 0, none⟩ = some (.int .i64 v.f0) := (blk_cell HZ.out 0).trans rfl
  have q1 : (v.f0 == 0) = true := beq_iff_eq.mpr hz
  clear hb hz
  subst hr
  go_enter Try.func14, Try.ntmps14
  go_wp2_with fail
  all_goals
    go_ret
    exact ⟨rfl, below_alloc (Below.refl _ _) _⟩
end Go.Proofs.Ytgjfciohmgpohaa.P
end
section
namespace Go.Proofs.Ytgjfciohmgpohaa.P
open Go.RowKit Go.Proofs.Ytgjfciohmgpohaa.Pure Go.Proofs.YtgjfciohmgpohaaW.PrintWords Go.Proofs.YtgjfciohmgpohaaW.PrintLast Go.Proofs.YtgjfciohmgpohaaW.PrintMore
attribute [local go_sem] max2_int min2_int max_two min_two max_three min_three max_four min_four
set_option linter.unusedVariables false
set_option linter.unusedSimpArgs false
def RefOwn (w : World) (b B : Nat) (op : Int) (rows : Bool) (u : Value) (l : List S32) : Prop := w.heap[b]? = some (.cells #[.int .i64 op, .bool rows, u] 59 (0, 0)) ∧ k32.R 32 w B (fun _ => True) u l
set_option maxHeartbeats 4000000 in
set_option maxRecDepth 100000 in
theorem radd.take (b B : Nat) (op : Int) (rows : Bool) (l : List S32) (u : Value) (v : S32) (w : World) (hb : RefOwn w b B op rows u l) (hB : B ≤ b) (h2 : ¬ op = 2) (hz : ¬ v.f0 = 0 ∨ rows = true) (hl : (l.length + 1) * 32 ≤ 140737488355328) :
    Calls Try.prog 14 #[.pointer (some ⟨b, 0, none⟩), .agg #[.int .i64 v.f0, .int .i64 v.f1, .string v.f2]] w fun e w' => e = .returned (.int .i64 0) ∧ (∃ u1, RefOwn w' b B op rows u1 (l ++ [v])) ∧ Below B w w' ∧ (∀ (g : Nat) (t : TypeId) (cells : Array Value), t ≠ 32 → g ≠ b → w.heap[g]? = some (.cells cells t (0, 0)) → w'.heap[g]? = some (.cells cells t (0, 0))) := by
  have hu := Try.underlying32
  have H1 := Aside0.mk (blk_alloc hb.1 (.cells #[.int .i64 v.f0, .int .i64 v.f1, .string v.f2] 32))
  have HZ := Aside0.mk (Deep.blk_alloc_new w (.cells #[.int .i64 v.f0, .int .i64 v.f1, .string v.f2] 32))
  have HBb := Aside0.mk hB
  have HBS0 : Aside0 (B ≤ w.heap.size) := ⟨Nat.le_trans hB (Nat.le_of_lt (blk_lt hb.1))⟩
  have HO0 := Aside0.mk (Kd.R_alloc hb.2 (.cells #[.int .i64 v.f0, .int .i64 v.f1, .string v.f2] 32))
  have HLn := Aside0.mk hl
  have b0 : World.cell? _ ⟨b, 0, none⟩ = some (.int .i64 op) := (blk_cell H1.out 0).trans rfl
  have b1 : World.cell? _ ⟨b, 1, none⟩ = some (.bool rows) := (blk_cell H1.out 1).trans rfl
  have b2 : World.cell? _ ⟨b, 2, none⟩ = some u := (blk_cell H1.out 2).trans rfl
  have v0 : World.cell? _ ⟨w.heap.size, 0, none⟩ = some (.int .i64 v.f0) := (blk_cell HZ.out 0).trans rfl
  have v1 : World.cell? _ ⟨w.heap.size, 1, none⟩ = some (.int .i64 v.f1) := (blk_cell HZ.out 1).trans rfl
  have v2 : World.cell? _ ⟨w.heap.size, 2, none⟩ = some (.string v.f2) := (blk_cell HZ.out 2).trans rfl
  have q2 : (op == 2) = false := beq_eq_false_iff_ne.mpr h2
  have hKeep : ∀ w1, (w.alloc (.cells #[.int .i64 v.f0, .int .i64 v.f1, .string v.f2] 32)).drew.grownBy w1 u.ownBlock → w1.heap[b]? = some (.cells #[.int .i64 op, .bool rows, u] 59 (0, 0)) := by
    intro w1 hg
    have hb1 := H1.out
    refine (hg.block b (blk_lt hb1) (fun he => ?_)).trans hb1
    obtain ⟨inner, ho⟩ := Kd.R_own HO0.out
    obtain ⟨cells, hc⟩ := own_typed ho b he.symm
    rw [hc] at hb1
    injection hb1 with hb1
    injection hb1 with _ ht
    exact absurd ht (by decide)
  have hsz : Aside0 ((w.alloc (.cells #[.int .i64 v.f0, .int .i64 v.f1, .string v.f2] 32)).drew.heap.size = w.heap.size + 1) := ⟨Array.size_push ..⟩
  have hOth : ∀ w1, (w.alloc (.cells #[.int .i64 v.f0, .int .i64 v.f1, .string v.f2] 32)).drew.grownBy w1 u.ownBlock → ∀ (g : Nat) (t : TypeId) (cells : Array Value), t ≠ 32 → g ≠ b → w.heap[g]? = some (.cells cells t (0, 0)) → w1.heap[g]? = some (.cells cells t (0, 0)) := by
    intro w1 hg g t cs ht _ hc0
    have hb1 := blk_alloc hc0 (.cells #[.int .i64 v.f0, .int .i64 v.f1, .string v.f2] 32)
    refine (hg.block g (blk_lt hb1) (fun he => ?_)).trans hb1
    obtain ⟨inner, ho⟩ := Kd.R_own HO0.out
    obtain ⟨cells, hc⟩ := own_typed ho g he.symm
    rw [hc] at hb1
    injection hb1 with hb1
    injection hb1 with _ ht2
    exact ht ht2.symm
  clear hb hB h2 hl
  have HO : Aside0 (k32.R 32 (w.alloc (.cells #[.int .i64 v.f0, .int .i64 v.f1, .string v.f2] 32)).drew B (fun _ => True) u l) := ⟨Kd.R_drew HO0.out⟩
  have HBW : Aside0 (Below B w (w.alloc (.cells #[.int .i64 v.f0, .int .i64 v.f1, .string v.f2] 32)).drew) := ⟨below_drew1 ((below_alloc (Below.refl _ _) _).mono HBS0.out)⟩
  have HBS : Aside0 (B ≤ (w.alloc (.cells #[.int .i64 v.f0, .int .i64 v.f1, .string v.f2] 32)).drew.heap.size) := ⟨Nat.le_trans HBS0.out (Nat.le_of_lt (blk_lt HZ.out))⟩
  by_cases hz0 : v.f0 = 0
  · have q1 : (v.f0 == 0) = true := beq_iff_eq.mpr hz0
    have hr : rows = true := hz.resolve_left (fun h => h hz0)
    clear hz hz0
    subst hr
    go_enter Try.func14, Try.ntmps14
    go_wp2_with fail
    refine start_ (n := 11) (S := fun w' => w'.cell? ⟨b, 2, none⟩ = some u ∧ w'.cell? ⟨w.heap.size, 0, none⟩ = some (.int .i64 v.f0) ∧ w'.cell? ⟨w.heap.size, 1, none⟩ = some (.int .i64 v.f1) ∧ w'.cell? ⟨w.heap.size, 2, none⟩ = some (.string v.f2)) (ds := [7, 10]) #[false, false, false, false, false, false, false, false, false, false, false] (by kernel_rfl) rfl rfl ⟨b2, v0, v1, v2⟩ (fun hHeld => ?_)
    refine pure_ (i := 0) (N := some 32) (v := ?_) (a' := ?_) #[true, false, false, false, false, false, false, false, false, false, false] rfl rfl (by kernel_rfl) (fun _ _ _ h => h) (Or.inl ⟨by rfl, ?_⟩) ?_ ?_
    rotate_left
    · intro w'
      go_simp
      with_reducible rfl
    rotate_left
    · simp only [Act.put, List.setIfInBounds_toArray, List.set_cons_zero, List.set_cons_succ, i64_w, i32_w]
      rfl
    refine pure_ (i := 1) (N := some 33) (v := ?_) (a' := ?_) #[true, true, false, false, false, false, false, false, false, false, false] rfl rfl (by kernel_rfl) (fun _ _ _ h => h) (Or.inl ⟨by rfl, ?_⟩) ?_ ?_
    rotate_left
    · intro w'
      go_simp
      with_reducible rfl
    rotate_left
    · simp only [Act.put, List.setIfInBounds_toArray, List.set_cons_zero, List.set_cons_succ, i64_w, i32_w]
      rfl
    refine pure_ (i := 2) (N := some 34) (v := ?_) (a' := ?_) #[true, true, true, false, false, false, false, false, false, false, false] rfl rfl (by kernel_rfl) (fun _ _ _ h => h) (Or.inl ⟨by rfl, ?_⟩) ?_ ?_
    rotate_left
    · intro w'
      go_simp
      with_reducible rfl
    rotate_left
    · simp only [Act.put, List.setIfInBounds_toArray, List.set_cons_zero, List.set_cons_succ, i64_w, i32_w]
      rfl
    refine pure_ (i := 3) (N := some 35) (v := ?_) (a' := ?_) #[true, true, true, true, false, false, false, false, false, false, false] rfl rfl (by kernel_rfl) (fun _ _ _ h => h) (Or.inl ⟨by rfl, ?_⟩) ?_ ?_
    rotate_left
    · intro w'
      go_simp
      with_reducible rfl
    rotate_left
    · simp only [Act.put, List.setIfInBounds_toArray, List.set_cons_zero, List.set_cons_succ, i64_w, i32_w]
      rfl
    refine take_ (i := 4) (N := some 36) (v := ?_) (a' := ?_) #[true, true, true, true, true, false, false, false, false, false, false] rfl rfl (by kernel_rfl) (fun _ _ _ h => h) (Or.inl ⟨by rfl, ?_⟩) hHeld ?_ ?_
    rotate_left
    · rintro w' ⟨s0, s1, s2, s3⟩
      go_simp
      with_reducible rfl
    rotate_left
    · simp only [Act.put, List.setIfInBounds_toArray, List.set_cons_zero, List.set_cons_succ, i64_w, i32_w]
      rfl
    refine take_ (i := 5) (N := some 37) (v := ?_) (a' := ?_) #[true, true, true, true, true, true, false, false, false, false, false] rfl rfl (by kernel_rfl) (fun _ _ _ h => h) (Or.inl ⟨by rfl, ?_⟩) hHeld ?_ ?_
    rotate_left
    · rintro w' ⟨s0, s1, s2, s3⟩
      go_simp
      with_reducible rfl
    rotate_left
    · simp only [Act.put, List.setIfInBounds_toArray, List.set_cons_zero, List.set_cons_succ, i64_w, i32_w]
      rfl
    refine one_ (i := 6) (N := some 38) #[true, true, true, true, true, true, true, false, false, false, false] rfl rfl (by kernel_rfl) (by decide) (fun K hK => ?_)
    refine value_ (w1 := ?_) (v := ?_) (by rfl) rfl ?_ ?_
    rotate_left 2
    · go_simp
      constructor
      · rfl
      · rfl
    refine hK.out _ _ ⟨(blk_cell (blk_alloc (blk_drew H1.out) _) 2).trans rfl, (blk_cell (blk_alloc (blk_drew HZ.out) _) 0).trans rfl, (blk_cell (blk_alloc (blk_drew HZ.out) _) 1).trans rfl, (blk_cell (blk_alloc (blk_drew HZ.out) _) 2).trans rfl⟩ (fun hHeld => ?_)
    clear hK K
    refine norm_ (a' := ?_) ?_ ?_
    rotate_left
    · show Act.put _ (some 38) _ = _
      simp only [Act.put, List.setIfInBounds_toArray, List.set_cons_zero, List.set_cons_succ, i64_w, i32_w]
      rfl
    refine last_ (i := 7) (N := some 39) #[true, true, true, true, true, true, true, true, false, false, false] rfl rfl (by kernel_rfl) (by decide) (fun K hK => ?_)
    refine Kd.R_append_step k32 (w0 := w) B (by rfl) (.tmp 36) (.tmp 38) 22 32 (.agg #[.int .i64 0, .int .i64 0, .string ⟨#[]⟩]) 32 rfl (by kernel_rfl) info32 rfl (by decide) (by decide) u l v [.int .i64 v.f0, .int .i64 v.f1, .string v.f2] (fun _ => True) (fun _ => False) (by rfl) (by rw [hsz.out]; rfl) (k32_mkM _ _ _ _) (fun _ h => h.elim) (fun _ _ => trivial) HO.out HBW.out HBS.out HLn.out ?_
    intro u1 w1 hR hB hG hAt
    obtain ⟨A1, c1, hu1, _, _⟩ := Kd.R_reads hR
    subst hu1
    have HR1 := Aside0.mk hR
    have HB1 := Aside0.mk hB
    have HG1 := Aside0.mk (hKeep w1 hG)
    have HT1 := Aside0.mk (hOth w1 hG)
    clear hR hB hG hAt hKeep hOth hHeld b0 b1 b2 v0 v1 v2
    have bf0 := blk_frozen HG1.out 2
    have bc2 : w1.cell? ⟨b, 2, none⟩ = some u := (blk_cell HG1.out 2).trans rfl
    refine hK.out _ _ ?_
    clear hK K
    refine norm_ (a' := ?_) ?_ ?_
    rotate_left
    · show Act.put _ (some 39) _ = _
      simp only [Act.put, List.setIfInBounds_toArray, List.set_cons_zero, List.set_cons_succ, i64_w, i32_w]
      rfl
    refine pure_ (i := 8) (N := some 40) (v := ?_) (a' := ?_) #[true, true, true, true, true, true, true, true, true, false, false] rfl rfl (by kernel_rfl) (fun _ _ _ h => h) (Or.inl ⟨by rfl, ?_⟩) ?_ ?_
    rotate_left
    · intro w'
      go_simp
      with_reducible rfl
    rotate_left
    · simp only [Act.put, List.setIfInBounds_toArray, List.set_cons_zero, List.set_cons_succ, i64_w, i32_w]
      rfl
    refine pure_ (i := 9) (N := some 41) (v := ?_) (a' := ?_) #[true, true, true, true, true, true, true, true, true, true, false] rfl rfl (by kernel_rfl) (fun _ _ _ h => h) (Or.inl ⟨by rfl, ?_⟩) ?_ ?_
    rotate_left
    · intro w'
      go_simp
      with_reducible rfl
    rotate_left
    · simp only [Act.put, List.setIfInBounds_toArray, List.set_cons_zero, List.set_cons_succ, i64_w, i32_w]
      rfl
    refine last_ (i := 10) (N := none) #[true, true, true, true, true, true, true, true, true, true, true] rfl rfl (by kernel_rfl) (by decide) (fun K hK => ?_)
    refine skip_ (w1 := ?_) (by rfl) rfl ?_ ?_
    rotate_left
    · go_simp
      rfl
    clear bf0 bc2
    refine hK.out _ _ ?_
    clear hK K
    refine done_ (by kernel_rfl) ?_
    go_wp2_with fail
    go_ret
    exact ⟨rfl, ⟨_, blk_put HG1.out 2 _ rfl, (by have h := Kd.R_set HR1.out HG1.out (by decide) 2 (.slice A1 (l.length + 1) c1); rw [List.length_append] at h; exact h)⟩, Below.setCell HB1.out (p := ⟨b, 2, none⟩) HBb.out _, fun g t cs h1 h2 h3 => (Below.heap_setCell w1 ⟨b, 2, none⟩ _ g h2).trans (HT1.out g t cs h1 h2 h3)⟩
  · have q1 : (v.f0 == 0) = false := beq_eq_false_iff_ne.mpr hz0
    clear hz hz0
    go_enter Try.func14, Try.ntmps14
    go_wp2_with fail
    refine start_ (n := 11) (S := fun w' => w'.cell? ⟨b, 2, none⟩ = some u ∧ w'.cell? ⟨w.heap.size, 0, none⟩ = some (.int .i64 v.f0) ∧ w'.cell? ⟨w.heap.size, 1, none⟩ = some (.int .i64 v.f1) ∧ w'.cell? ⟨w.heap.size, 2, none⟩ = some (.string v.f2)) (ds := [7, 10]) #[false, false, false, false, false, false, false, false, false, false, false] (by kernel_rfl) rfl rfl ⟨b2, v0, v1, v2⟩ (fun hHeld => ?_)
    refine pure_ (i := 0) (N := some 32) (v := ?_) (a' := ?_) #[true, false, false, false, false, false, false, false, false, false, false] rfl rfl (by kernel_rfl) (fun _ _ _ h => h) (Or.inl ⟨by rfl, ?_⟩) ?_ ?_
    rotate_left
    · intro w'
      go_simp
      with_reducible rfl
    rotate_left
    · simp only [Act.put, List.setIfInBounds_toArray, List.set_cons_zero, List.set_cons_succ, i64_w, i32_w]
      rfl
    refine pure_ (i := 1) (N := some 33) (v := ?_) (a' := ?_) #[true, true, false, false, false, false, false, false, false, false, false] rfl rfl (by kernel_rfl) (fun _ _ _ h => h) (Or.inl ⟨by rfl, ?_⟩) ?_ ?_
    rotate_left
    · intro w'
      go_simp
      with_reducible rfl
    rotate_left
    · simp only [Act.put, List.setIfInBounds_toArray, List.set_cons_zero, List.set_cons_succ, i64_w, i32_w]
      rfl
    refine pure_ (i := 2) (N := some 34) (v := ?_) (a' := ?_) #[true, true, true, false, false, false, false, false, false, false, false] rfl rfl (by kernel_rfl) (fun _ _ _ h => h) (Or.inl ⟨by rfl, ?_⟩) ?_ ?_
    rotate_left
    · intro w'
      go_simp
      with_reducible rfl
    rotate_left
    · simp only [Act.put, List.setIfInBounds_toArray, List.set_cons_zero, List.set_cons_succ, i64_w, i32_w]
      rfl
    refine pure_ (i := 3) (N := some 35) (v := ?_) (a' := ?_) #[true, true, true, true, false, false, false, false, false, false, false] rfl rfl (by kernel_rfl) (fun _ _ _ h => h) (Or.inl ⟨by rfl, ?_⟩) ?_ ?_
    rotate_left
    · intro w'
      go_simp
      with_reducible rfl
    rotate_left
    · simp only [Act.put, List.setIfInBounds_toArray, List.set_cons_zero, List.set_cons_succ, i64_w, i32_w]
      rfl
    refine take_ (i := 4) (N := some 36) (v := ?_) (a' := ?_) #[true, true, true, true, true, false, false, false, false, false, false] rfl rfl (by kernel_rfl) (fun _ _ _ h => h) (Or.inl ⟨by rfl, ?_⟩) hHeld ?_ ?_
    rotate_left
    · rintro w' ⟨s0, s1, s2, s3⟩
      go_simp
      with_reducible rfl
    rotate_left
    · simp only [Act.put, List.setIfInBounds_toArray, List.set_cons_zero, List.set_cons_succ, i64_w, i32_w]
      rfl
    refine take_ (i := 5) (N := some 37) (v := ?_) (a' := ?_) #[true, true, true, true, true, true, false, false, false, false, false] rfl rfl (by kernel_rfl) (fun _ _ _ h => h) (Or.inl ⟨by rfl, ?_⟩) hHeld ?_ ?_
    rotate_left
    · rintro w' ⟨s0, s1, s2, s3⟩
      go_simp
      with_reducible rfl
    rotate_left
    · simp only [Act.put, List.setIfInBounds_toArray, List.set_cons_zero, List.set_cons_succ, i64_w, i32_w]
      rfl
    refine one_ (i := 6) (N := some 38) #[true, true, true, true, true, true, true, false, false, false, false] rfl rfl (by kernel_rfl) (by decide) (fun K hK => ?_)
    refine value_ (w1 := ?_) (v := ?_) (by rfl) rfl ?_ ?_
    rotate_left 2
    · go_simp
      constructor
      · rfl
      · rfl
    refine hK.out _ _ ⟨(blk_cell (blk_alloc (blk_drew H1.out) _) 2).trans rfl, (blk_cell (blk_alloc (blk_drew HZ.out) _) 0).trans rfl, (blk_cell (blk_alloc (blk_drew HZ.out) _) 1).trans rfl, (blk_cell (blk_alloc (blk_drew HZ.out) _) 2).trans rfl⟩ (fun hHeld => ?_)
    clear hK K
    refine norm_ (a' := ?_) ?_ ?_
    rotate_left
    · show Act.put _ (some 38) _ = _
      simp only [Act.put, List.setIfInBounds_toArray, List.set_cons_zero, List.set_cons_succ, i64_w, i32_w]
      rfl
    refine last_ (i := 7) (N := some 39) #[true, true, true, true, true, true, true, true, false, false, false] rfl rfl (by kernel_rfl) (by decide) (fun K hK => ?_)
    refine Kd.R_append_step k32 (w0 := w) B (by rfl) (.tmp 36) (.tmp 38) 22 32 (.agg #[.int .i64 0, .int .i64 0, .string ⟨#[]⟩]) 32 rfl (by kernel_rfl) info32 rfl (by decide) (by decide) u l v [.int .i64 v.f0, .int .i64 v.f1, .string v.f2] (fun _ => True) (fun _ => False) (by rfl) (by rw [hsz.out]; rfl) (k32_mkM _ _ _ _) (fun _ h => h.elim) (fun _ _ => trivial) HO.out HBW.out HBS.out HLn.out ?_
    intro u1 w1 hR hB hG hAt
    obtain ⟨A1, c1, hu1, _, _⟩ := Kd.R_reads hR
    subst hu1
    have HR1 := Aside0.mk hR
    have HB1 := Aside0.mk hB
    have HG1 := Aside0.mk (hKeep w1 hG)
    have HT1 := Aside0.mk (hOth w1 hG)
    clear hR hB hG hAt hKeep hOth hHeld b0 b1 b2 v0 v1 v2
    have bf0 := blk_frozen HG1.out 2
    have bc2 : w1.cell? ⟨b, 2, none⟩ = some u := (blk_cell HG1.out 2).trans rfl
    refine hK.out _ _ ?_
    clear hK K
    refine norm_ (a' := ?_) ?_ ?_
    rotate_left
    · show Act.put _ (some 39) _ = _
      simp only [Act.put, List.setIfInBounds_toArray, List.set_cons_zero, List.set_cons_succ, i64_w, i32_w]
      rfl
    refine pure_ (i := 8) (N := some 40) (v := ?_) (a' := ?_) #[true, true, true, true, true, true, true, true, true, false, false] rfl rfl (by kernel_rfl) (fun _ _ _ h => h) (Or.inl ⟨by rfl, ?_⟩) ?_ ?_
    rotate_left
    · intro w'
      go_simp
      with_reducible rfl
    rotate_left
    · simp only [Act.put, List.setIfInBounds_toArray, List.set_cons_zero, List.set_cons_succ, i64_w, i32_w]
      rfl
    refine pure_ (i := 9) (N := some 41) (v := ?_) (a' := ?_) #[true, true, true, true, true, true, true, true, true, true, false] rfl rfl (by kernel_rfl) (fun _ _ _ h => h) (Or.inl ⟨by rfl, ?_⟩) ?_ ?_
    rotate_left
    · intro w'
      go_simp
      with_reducible rfl
    rotate_left
    · simp only [Act.put, List.setIfInBounds_toArray, List.set_cons_zero, List.set_cons_succ, i64_w, i32_w]
      rfl
    refine last_ (i := 10) (N := none) #[true, true, true, true, true, true, true, true, true, true, true] rfl rfl (by kernel_rfl) (by decide) (fun K hK => ?_)
    refine skip_ (w1 := ?_) (by rfl) rfl ?_ ?_
    rotate_left
    · go_simp
      rfl
    clear bf0 bc2
    refine hK.out _ _ ?_
    clear hK K
    refine done_ (by kernel_rfl) ?_
    go_wp2_with fail
    go_ret
    exact ⟨rfl, ⟨_, blk_put HG1.out 2 _ rfl, (by have h := Kd.R_set HR1.out HG1.out (by decide) 2 (.slice A1 (l.length + 1) c1); rw [List.length_append] at h; exact h)⟩, Below.setCell HB1.out (p := ⟨b, 2, none⟩) HBb.out _, fun g t cs h1 h2 h3 => (Below.heap_setCell w1 ⟨b, 2, none⟩ _ g h2).trans (HT1.out g t cs h1 h2 h3)⟩
end Go.Proofs.Ytgjfciohmgpohaa.P
end
section
namespace Go.Proofs.Ytgjfciohmgpohaa.P
open Go.RowKit Go.Proofs.Ytgjfciohmgpohaa.Pure Go.Proofs.YtgjfciohmgpohaaW.PrintWords Go.Proofs.YtgjfciohmgpohaaW.PrintLast Go.Proofs.YtgjfciohmgpohaaW.PrintMore
attribute [local go_sem] max2_int min2_int max_two min_two max_three min_three max_four min_four
set_option linter.unusedVariables false
set_option linter.unusedSimpArgs false
theorem RefAt.of {w : World} {b : Nat} {op : Int} {rows : Bool} {A : Option Addr} {n c : Nat} (h : w.heap[b]? = some (.cells #[.int .i64 op, .bool rows, .slice A n c] 59 (0, 0))) : RefAt w b op rows A n c := h
set_option maxHeartbeats 4000000 in
set_option maxRecDepth 100000 in
theorem radd.no (b : Nat) (op : Int) (l : List S32) (A : Option Addr) (c : Nat) (v : S32) (w : World) (hb : RefAt w b op false A l.length c) (hr : Kd.C k32 w A l.length l) (hf : ∀ v ∈ l, FitsV v) (h2 : op = 2) (hz : ¬ v.f0 = 0)
    (hP : In64 (sumR (numV 0) l).f1 ∧ In64 v.f1 ∧ (sumR (numV 0) l).f2.size + v.f2.size < 9223372036854775808 ∧ (sumR (numV 0) l).f2.size ≤ 140737488351232) (he : ¬ (outE (bin 11 (sumR (numV 0) l) v)).2 = 0) :
    Calls Try.prog 14 #[.pointer (some ⟨b, 0, none⟩), .agg #[.int .i64 v.f0, .int .i64 v.f1, .string v.f2]] w fun e w' => e = .returned (.int .i64 (outE (bin 11 (sumR (numV 0) l) v)).2) ∧ Below w.heap.size w w' := by
  have hu := Try.underlying32
  obtain ⟨rows, hrows⟩ : ∃ r : Bool, r = false := ⟨_, rfl⟩
  rw [← hrows] at hb
  have H1 := Aside0.mk (blk_alloc hb (.cells #[.int .i64 v.f0, .int .i64 v.f1, .string v.f2] 32))
  have HZ := Aside0.mk (Deep.blk_alloc_new w (.cells #[.int .i64 v.f0, .int .i64 v.f1, .string v.f2] 32))
  have HC := Aside0.mk (Kd.C_below hr (below_alloc (Below.refl w.heap.size w) (.cells #[.int .i64 v.f0, .int .i64 v.f1, .string v.f2] 32)))
  have HF := Aside0.mk hf
  have HP := Aside0.mk hP
  have b0 : World.cell? _ ⟨b, 0, none⟩ = some (.int .i64 op) := (blk_cell H1.out 0).trans rfl
  have v0 : World.cell? _ ⟨w.heap.size, 0, none⟩ = some (.int .i64 v.f0) := (blk_cell HZ.out 0).trans rfl
  have v1 : World.cell? _ ⟨w.heap.size, 1, none⟩ = some (.int .i64 v.f1) := (blk_cell HZ.out 1).trans rfl
  have v2 : World.cell? _ ⟨w.heap.size, 2, none⟩ = some (.string v.f2) := (blk_cell HZ.out 2).trans rfl
  have q1 : (v.f0 == 0) = false := beq_eq_false_iff_ne.mpr hz
  have q2 : (op == 2) = true := beq_iff_eq.mpr h2
  have q3 : ((outE (bin 11 (sumR (numV 0) l) v)).2 != 0) = true := bne_iff_ne.mpr he
  have HB : Aside0 (Below (w.alloc (.cells #[.int .i64 v.f0, .int .i64 v.f1, .string v.f2] 32)).heap.size (w.alloc (.cells #[.int .i64 v.f0, .int .i64 v.f1, .string v.f2] 32)) (w.alloc (.cells #[.int .i64 v.f0, .int .i64 v.f1, .string v.f2] 32)).drew) := ⟨below_drew1 (Below.refl _ _)⟩
  have HW : Aside0 (Below w.heap.size w (w.alloc (.cells #[.int .i64 v.f0, .int .i64 v.f1, .string v.f2] 32))) := ⟨below_alloc (Below.refl _ _) _⟩
  have HS : Aside0 (w.heap.size ≤ (w.alloc (.cells #[.int .i64 v.f0, .int .i64 v.f1, .string v.f2] 32)).heap.size) := ⟨Nat.le_of_lt (blk_lt HZ.out)⟩
  clear hb hr hf h2 hz hP he hrows
  go_enter Try.func14, Try.ntmps14
  go_wp2_with fail
  refine start_ (n := 10) (S := fun w' => w'.cell? ⟨w.heap.size, 0, none⟩ = some (.int .i64 v.f0) ∧ w'.cell? ⟨w.heap.size, 1, none⟩ = some (.int .i64 v.f1) ∧ w'.cell? ⟨w.heap.size, 2, none⟩ = some (.string v.f2)) (ds := [8]) #[false, false, false, false, false, false, false, false, false, false] (by kernel_rfl) rfl rfl ⟨v0, v1, v2⟩ (fun hHeld => ?_)
  refine pure_ (i := 0) (N := some 23) (v := ?_) (a' := ?_) #[true, false, false, false, false, false, false, false, false, false] rfl rfl (by kernel_rfl) (fun _ _ _ h => h) (Or.inl ⟨by rfl, ?_⟩) ?_ ?_
  rotate_left
  · intro w'
    go_simp
    with_reducible rfl
  rotate_left
  · simp only [Act.put, List.setIfInBounds_toArray, List.set_cons_zero, List.set_cons_succ, i64_w, i32_w]
    rfl
  refine take_ (i := 2) (N := some 25) (v := ?_) (a' := ?_) #[true, false, true, false, false, false, false, false, false, false] rfl rfl (by kernel_rfl) (fun _ _ _ h => h) (Or.inl ⟨by rfl, ?_⟩) hHeld ?_ ?_
  rotate_left
  · rintro w' ⟨s0, s1, s2⟩
    go_simp
    with_reducible rfl
  rotate_left
  · simp only [Act.put, List.setIfInBounds_toArray, List.set_cons_zero, List.set_cons_succ, i64_w, i32_w]
    rfl
  refine join_ (σ := Nat) 2 #[true, true, true, true, true, true, true, true, false, false] (fun s => [(24, encV (sumR (numV 0) l)), (26, .tuple #[encV (outE (bin 11 (sumR (numV 0) l) v)).1, .int .i64 (outE (bin 11 (sumR (numV 0) l) v)).2]), (22, .tuple #[encV (outE (bin 11 (sumR (numV 0) l) v)).1, .int .i64 (outE (bin 11 (sumR (numV 0) l) v)).2]), (27, encV (outE (bin 11 (sumR (numV 0) l) v)).1), (28, .int .i64 (outE (bin 11 (sumR (numV 0) l) v)).2), (5, .pointer (some ⟨s, 0, none⟩))]) (fun s w' => Below (w.alloc (.cells #[.int .i64 v.f0, .int .i64 v.f1, .string v.f2] 32)).heap.size (w.alloc (.cells #[.int .i64 v.f0, .int .i64 v.f1, .string v.f2] 32)) w' ∧ (w.alloc (.cells #[.int .i64 v.f0, .int .i64 v.f1, .string v.f2] 32)).heap.size ≤ s ∧ w'.heap[s]? = some (.cells #[.int .i64 0, .int .i64 0, .string (⟨#[]⟩ : ByteArray)] 32 (0, 0))) ?_ ?_
  rotate_left
  · intro hCont
    refine two_ (i := 1) (j := 7) (Ni := some 24) (Nj := some 5) #[true, true, true, false, false, false, false, false, false, false] #[true, false, true, false, false, false, false, true, false, false] rfl rfl rfl rfl (by kernel_rfl) (by decide) (by decide) (fun K hK => ?_) (fun K hK => ?_)
    · skip
      refine goes_ Try.func21 (by kernel_rfl) rfl #[.pointer (some ⟨b, 0, none⟩)] (by rfl) rfl rfl (by simp only [List.map_toArray, List.map_cons, List.map_nil]; rfl) ?_
      with_reducible refine (rsum.calls b op rows l A c _ (RefAt.of (blk_below H1.out HB.out)) (Kd.C_below HC.out HB.out) HF.out).mono ?_
      rintro e wa ⟨rfl, hb⟩
      refine ⟨_, rfl, ?_⟩
      have n0_ := Aside0.mk (below_step HB.out hb)
      clear HB
      have HB := n0_
      clear n0_
      clear hb
      refine hK.out _ _ ⟨(blk_cell (blk_below HZ.out HB.out) 0).trans rfl, (blk_cell (blk_below HZ.out HB.out) 1).trans rfl, (blk_cell (blk_below HZ.out HB.out) 2).trans rfl⟩ (fun hHeld => ?_)
      clear hK K
      refine norm_ (a' := ?_) ?_ ?_
      rotate_left
      · show Act.put _ (some 24) _ = _
        simp only [Act.put, List.setIfInBounds_toArray, List.set_cons_zero, List.set_cons_succ, i64_w, i32_w]
        rfl
      refine two_ (i := 3) (j := 7) (Ni := some 26) (Nj := some 5) #[true, true, true, true, false, false, false, false, false, false] #[true, true, true, false, false, false, false, true, false, false] rfl rfl rfl rfl (by kernel_rfl) (by decide) (by decide) (fun K hK => ?_) (fun K hK => ?_)
      · skip
        refine goes_ Try.func22 (by kernel_rfl) rfl #[.int .i64 11, .agg #[.int .i64 (sumR (numV 0) l).f0, .int .i64 (sumR (numV 0) l).f1, .string (sumR (numV 0) l).f2], .agg #[.int .i64 v.f0, .int .i64 v.f1, .string v.f2]] (by rfl) rfl rfl (by simp only [List.map_toArray, List.map_cons, List.map_nil]; rfl) ?_
        with_reducible refine (refBinary.calls 11 (sumR (numV 0) l) v HP.out.1 HP.out.2.1 HP.out.2.2.1 HP.out.2.2.2 _).mono ?_
        rintro e wb ⟨rfl, hb⟩
        refine ⟨_, rfl, ?_⟩
        have n0_ := Aside0.mk (below_step HB.out hb)
        clear HB
        have HB := n0_
        clear n0_
        clear hb
        refine hK.out _ _ ⟨(blk_cell (blk_below HZ.out HB.out) 0).trans rfl, (blk_cell (blk_below HZ.out HB.out) 1).trans rfl, (blk_cell (blk_below HZ.out HB.out) 2).trans rfl⟩ (fun hHeld => ?_)
        clear hK K
        refine norm_ (a' := ?_) ?_ ?_
        rotate_left
        · show Act.put _ (some 26) _ = _
          simp only [Act.put, List.setIfInBounds_toArray, List.set_cons_zero, List.set_cons_succ, i64_w, i32_w]
          rfl
        refine pure_ (i := 4) (N := some 22) (v := ?_) (a' := ?_) #[true, true, true, true, true, false, false, false, false, false] rfl rfl (by kernel_rfl) (fun _ _ _ h => h) (Or.inl ⟨by rfl, ?_⟩) ?_ ?_
        rotate_left
        · intro w'
          go_simp
          with_reducible rfl
        rotate_left
        · simp only [Act.put, List.setIfInBounds_toArray, List.set_cons_zero, List.set_cons_succ, i64_w, i32_w]
          rfl
        refine pure_ (i := 5) (N := some 27) (v := ?_) (a' := ?_) #[true, true, true, true, true, true, false, false, false, false] rfl rfl (by kernel_rfl) (fun _ _ _ h => h) (Or.inl ⟨by rfl, ?_⟩) ?_ ?_
        rotate_left
        · intro w'
          go_simp
          with_reducible rfl
        rotate_left
        · simp only [Act.put, List.setIfInBounds_toArray, List.set_cons_zero, List.set_cons_succ, i64_w, i32_w]
          rfl
        refine pure_ (i := 6) (N := some 28) (v := ?_) (a' := ?_) #[true, true, true, true, true, true, true, false, false, false] rfl rfl (by kernel_rfl) (fun _ _ _ h => h) (Or.inl ⟨by rfl, ?_⟩) ?_ ?_
        rotate_left
        · intro w'
          go_simp
          with_reducible rfl
        rotate_left
        · simp only [Act.put, List.setIfInBounds_toArray, List.set_cons_zero, List.set_cons_succ, i64_w, i32_w]
          rfl
        refine one_ (i := 7) (N := some 5) #[true, true, true, true, true, true, true, true, false, false] rfl rfl (by kernel_rfl) (by decide) (fun K hK => ?_)
        refine value_ (w1 := ?_) (v := ?_) (by rfl) rfl ?_ ?_
        rotate_left 2
        · go_simp
          constructor
          · rfl
          · rfl
        have HG := Aside0.mk (Deep.blk_alloc_new wb (.cells #[.int .i64 0, .int .i64 0, .string (⟨#[]⟩ : ByteArray)] 32))
        have HGe := Aside0.mk (below_size HB.out)
        have n0_ := Aside0.mk (below_alloc HB.out (.cells #[.int .i64 0, .int .i64 0, .string (⟨#[]⟩ : ByteArray)] 32))
        clear HB
        have HB := n0_
        clear n0_
        refine hK.out _ _ ⟨(blk_cell (blk_below HZ.out HB.out) 0).trans rfl, (blk_cell (blk_below HZ.out HB.out) 1).trans rfl, (blk_cell (blk_below HZ.out HB.out) 2).trans rfl⟩ (fun hHeld => ?_)
        clear hK K
        refine norm_ (a' := ?_) ?_ ?_
        rotate_left
        · show Act.put _ (some 5) _ = _
          simp only [Act.put, List.setIfInBounds_toArray, List.set_cons_zero, List.set_cons_succ, i64_w, i32_w]
          rfl
        exact norm_ (by first | (simp only [putAll, Act.put, List.setIfInBounds_toArray, List.set_cons_zero, List.set_cons_succ]; done) | (simp only [putAll, Act.put, List.setIfInBounds_toArray, List.set_cons_zero, List.set_cons_succ]; rfl)) (hCont _ _ ⟨HB.out, HGe.out, HG.out⟩)
      · skip
        refine value_ (w1 := ?_) (v := ?_) (by rfl) rfl ?_ ?_
        rotate_left 2
        · go_simp
          constructor
          · rfl
          · rfl
        have HG := Aside0.mk (Deep.blk_alloc_new wa (.cells #[.int .i64 0, .int .i64 0, .string (⟨#[]⟩ : ByteArray)] 32))
        have HGe := Aside0.mk (below_size HB.out)
        have n0_ := Aside0.mk (below_alloc HB.out (.cells #[.int .i64 0, .int .i64 0, .string (⟨#[]⟩ : ByteArray)] 32))
        clear HB
        have HB := n0_
        clear n0_
        refine hK.out _ _ ⟨(blk_cell (blk_below HZ.out HB.out) 0).trans rfl, (blk_cell (blk_below HZ.out HB.out) 1).trans rfl, (blk_cell (blk_below HZ.out HB.out) 2).trans rfl⟩ (fun hHeld => ?_)
        clear hK K
        refine norm_ (a' := ?_) ?_ ?_
        rotate_left
        · show Act.put _ (some 5) _ = _
          simp only [Act.put, List.setIfInBounds_toArray, List.set_cons_zero, List.set_cons_succ, i64_w, i32_w]
          rfl
        refine one_ (i := 3) (N := some 26) #[true, true, true, true, false, false, false, true, false, false] rfl rfl (by kernel_rfl) (by decide) (fun K hK => ?_)
        refine goes_ Try.func22 (by kernel_rfl) rfl #[.int .i64 11, .agg #[.int .i64 (sumR (numV 0) l).f0, .int .i64 (sumR (numV 0) l).f1, .string (sumR (numV 0) l).f2], .agg #[.int .i64 v.f0, .int .i64 v.f1, .string v.f2]] (by rfl) rfl rfl (by simp only [List.map_toArray, List.map_cons, List.map_nil]; rfl) ?_
        with_reducible refine (refBinary.calls 11 (sumR (numV 0) l) v HP.out.1 HP.out.2.1 HP.out.2.2.1 HP.out.2.2.2 _).mono ?_
        rintro e wb ⟨rfl, hb⟩
        refine ⟨_, rfl, ?_⟩
        have n0_ := Aside0.mk (below_step HB.out hb)
        have n1_ := Aside0.mk (blk_below HG.out hb)
        have n2_ := HGe
        clear HG HGe
        have HG := n1_
        have HGe := n2_
        clear n1_ n2_
        clear HB
        have HB := n0_
        clear n0_
        clear hb
        refine hK.out _ _ ⟨(blk_cell (blk_below HZ.out HB.out) 0).trans rfl, (blk_cell (blk_below HZ.out HB.out) 1).trans rfl, (blk_cell (blk_below HZ.out HB.out) 2).trans rfl⟩ (fun hHeld => ?_)
        clear hK K
        refine norm_ (a' := ?_) ?_ ?_
        rotate_left
        · show Act.put _ (some 26) _ = _
          simp only [Act.put, List.setIfInBounds_toArray, List.set_cons_zero, List.set_cons_succ, i64_w, i32_w]
          rfl
        refine pure_ (i := 4) (N := some 22) (v := ?_) (a' := ?_) #[true, true, true, true, true, false, false, true, false, false] rfl rfl (by kernel_rfl) (fun _ _ _ h => h) (Or.inl ⟨by rfl, ?_⟩) ?_ ?_
        rotate_left
        · intro w'
          go_simp
          with_reducible rfl
        rotate_left
        · simp only [Act.put, List.setIfInBounds_toArray, List.set_cons_zero, List.set_cons_succ, i64_w, i32_w]
          rfl
        refine pure_ (i := 5) (N := some 27) (v := ?_) (a' := ?_) #[true, true, true, true, true, true, false, true, false, false] rfl rfl (by kernel_rfl) (fun _ _ _ h => h) (Or.inl ⟨by rfl, ?_⟩) ?_ ?_
        rotate_left
        · intro w'
          go_simp
          with_reducible rfl
        rotate_left
        · simp only [Act.put, List.setIfInBounds_toArray, List.set_cons_zero, List.set_cons_succ, i64_w, i32_w]
          rfl
        refine pure_ (i := 6) (N := some 28) (v := ?_) (a' := ?_) #[true, true, true, true, true, true, true, true, false, false] rfl rfl (by kernel_rfl) (fun _ _ _ h => h) (Or.inl ⟨by rfl, ?_⟩) ?_ ?_
        rotate_left
        · intro w'
          go_simp
          with_reducible rfl
        rotate_left
        · simp only [Act.put, List.setIfInBounds_toArray, List.set_cons_zero, List.set_cons_succ, i64_w, i32_w]
          rfl
        exact norm_ (by first | (simp only [putAll, Act.put, List.setIfInBounds_toArray, List.set_cons_zero, List.set_cons_succ]; done) | (simp only [putAll, Act.put, List.setIfInBounds_toArray, List.set_cons_zero, List.set_cons_succ]; rfl)) (hCont _ _ ⟨HB.out, HGe.out, HG.out⟩)
    · skip
      refine value_ (w1 := ?_) (v := ?_) (by rfl) rfl ?_ ?_
      rotate_left 2
      · go_simp
        constructor
        · rfl
        · rfl
      have HG : Aside0 (((w.alloc (.cells #[.int .i64 v.f0, .int .i64 v.f1, .string v.f2] 32)).alloc (.cells #[.int .i64 0, .int .i64 0, .string (⟨#[]⟩ : ByteArray)] 32)).drew.heap[w.heap.size + 1]? = some (.cells #[.int .i64 0, .int .i64 0, .string (⟨#[]⟩ : ByteArray)] 32 (0, 0))) := ⟨by have h := Deep.blk_alloc_new (w.alloc (.cells #[.int .i64 v.f0, .int .i64 v.f1, .string v.f2] 32)) (.cells #[.int .i64 0, .int .i64 0, .string (⟨#[]⟩ : ByteArray)] 32); rw [show (w.alloc (.cells #[.int .i64 v.f0, .int .i64 v.f1, .string v.f2] 32)).heap.size = w.heap.size + 1 from Array.size_push ..] at h; exact h⟩
      have HGe : Aside0 ((w.alloc (.cells #[.int .i64 v.f0, .int .i64 v.f1, .string v.f2] 32)).heap.size ≤ w.heap.size + 1) := ⟨Nat.le_of_eq (Array.size_push ..)⟩
      clear HB
      have HB : Aside0 (Below (w.alloc (.cells #[.int .i64 v.f0, .int .i64 v.f1, .string v.f2] 32)).heap.size (w.alloc (.cells #[.int .i64 v.f0, .int .i64 v.f1, .string v.f2] 32)) ((w.alloc (.cells #[.int .i64 v.f0, .int .i64 v.f1, .string v.f2] 32)).alloc (.cells #[.int .i64 0, .int .i64 0, .string (⟨#[]⟩ : ByteArray)] 32)).drew) := ⟨below_drew1 (below_alloc (Below.refl _ _) _)⟩
      refine hK.out _ _ ⟨(blk_cell (blk_below HZ.out HB.out) 0).trans rfl, (blk_cell (blk_below HZ.out HB.out) 1).trans rfl, (blk_cell (blk_below HZ.out HB.out) 2).trans rfl⟩ (fun hHeld => ?_)
      clear hK K
      refine norm_ (a' := ?_) ?_ ?_
      rotate_left
      · show Act.put _ (some 5) _ = _
        simp only [Act.put, List.setIfInBounds_toArray, List.set_cons_zero, List.set_cons_succ, i64_w, i32_w]
        rfl
      refine one_ (i := 1) (N := some 24) #[true, true, true, false, false, false, false, true, false, false] rfl rfl (by kernel_rfl) (by decide) (fun K hK => ?_)
      refine goes_ Try.func21 (by kernel_rfl) rfl #[.pointer (some ⟨b, 0, none⟩)] (by rfl) rfl rfl (by simp only [List.map_toArray, List.map_cons, List.map_nil]; rfl) ?_
      with_reducible refine (rsum.calls b op rows l A c _ (RefAt.of (blk_below H1.out HB.out)) (Kd.C_below HC.out HB.out) HF.out).mono ?_
      rintro e wa ⟨rfl, hb⟩
      refine ⟨_, rfl, ?_⟩
      have n0_ := Aside0.mk (below_step HB.out hb)
      have n1_ := Aside0.mk (blk_below HG.out hb)
      have n2_ := HGe
      clear HG HGe
      have HG := n1_
      have HGe := n2_
      clear n1_ n2_
      clear HB
      have HB := n0_
      clear n0_
      clear hb
      refine hK.out _ _ ⟨(blk_cell (blk_below HZ.out HB.out) 0).trans rfl, (blk_cell (blk_below HZ.out HB.out) 1).trans rfl, (blk_cell (blk_below HZ.out HB.out) 2).trans rfl⟩ (fun hHeld => ?_)
      clear hK K
      refine norm_ (a' := ?_) ?_ ?_
      rotate_left
      · show Act.put _ (some 24) _ = _
        simp only [Act.put, List.setIfInBounds_toArray, List.set_cons_zero, List.set_cons_succ, i64_w, i32_w]
        rfl
      refine one_ (i := 3) (N := some 26) #[true, true, true, true, false, false, false, true, false, false] rfl rfl (by kernel_rfl) (by decide) (fun K hK => ?_)
      refine goes_ Try.func22 (by kernel_rfl) rfl #[.int .i64 11, .agg #[.int .i64 (sumR (numV 0) l).f0, .int .i64 (sumR (numV 0) l).f1, .string (sumR (numV 0) l).f2], .agg #[.int .i64 v.f0, .int .i64 v.f1, .string v.f2]] (by rfl) rfl rfl (by simp only [List.map_toArray, List.map_cons, List.map_nil]; rfl) ?_
      with_reducible refine (refBinary.calls 11 (sumR (numV 0) l) v HP.out.1 HP.out.2.1 HP.out.2.2.1 HP.out.2.2.2 _).mono ?_
      rintro e wb ⟨rfl, hb⟩
      refine ⟨_, rfl, ?_⟩
      have n0_ := Aside0.mk (below_step HB.out hb)
      have n1_ := Aside0.mk (blk_below HG.out hb)
      have n2_ := HGe
      clear HG HGe
      have HG := n1_
      have HGe := n2_
      clear n1_ n2_
      clear HB
      have HB := n0_
      clear n0_
      clear hb
      refine hK.out _ _ ⟨(blk_cell (blk_below HZ.out HB.out) 0).trans rfl, (blk_cell (blk_below HZ.out HB.out) 1).trans rfl, (blk_cell (blk_below HZ.out HB.out) 2).trans rfl⟩ (fun hHeld => ?_)
      clear hK K
      refine norm_ (a' := ?_) ?_ ?_
      rotate_left
      · show Act.put _ (some 26) _ = _
        simp only [Act.put, List.setIfInBounds_toArray, List.set_cons_zero, List.set_cons_succ, i64_w, i32_w]
        rfl
      refine pure_ (i := 4) (N := some 22) (v := ?_) (a' := ?_) #[true, true, true, true, true, false, false, true, false, false] rfl rfl (by kernel_rfl) (fun _ _ _ h => h) (Or.inl ⟨by rfl, ?_⟩) ?_ ?_
      rotate_left
      · intro w'
        go_simp
        with_reducible rfl
      rotate_left
      · simp only [Act.put, List.setIfInBounds_toArray, List.set_cons_zero, List.set_cons_succ, i64_w, i32_w]
        rfl
      refine pure_ (i := 5) (N := some 27) (v := ?_) (a' := ?_) #[true, true, true, true, true, true, false, true, false, false] rfl rfl (by kernel_rfl) (fun _ _ _ h => h) (Or.inl ⟨by rfl, ?_⟩) ?_ ?_
      rotate_left
      · intro w'
        go_simp
        with_reducible rfl
      rotate_left
      · simp only [Act.put, List.setIfInBounds_toArray, List.set_cons_zero, List.set_cons_succ, i64_w, i32_w]
        rfl
      refine pure_ (i := 6) (N := some 28) (v := ?_) (a' := ?_) #[true, true, true, true, true, true, true, true, false, false] rfl rfl (by kernel_rfl) (fun _ _ _ h => h) (Or.inl ⟨by rfl, ?_⟩) ?_ ?_
      rotate_left
      · intro w'
        go_simp
        with_reducible rfl
      rotate_left
      · simp only [Act.put, List.setIfInBounds_toArray, List.set_cons_zero, List.set_cons_succ, i64_w, i32_w]
        rfl
      exact norm_ (by first | (simp only [putAll, Act.put, List.setIfInBounds_toArray, List.set_cons_zero, List.set_cons_succ]; done) | (simp only [putAll, Act.put, List.setIfInBounds_toArray, List.set_cons_zero, List.set_cons_succ]; rfl)) (hCont _ _ ⟨HB.out, HGe.out, HG.out⟩)
  rintro g w3 ⟨hB3, hg3, hG3⟩
  have HB := Aside0.mk hB3
  have HGe := Aside0.mk hg3
  have HG := Aside0.mk hG3
  clear hB3 hg3 hG3
  have hHeld : w3.cell? ⟨w.heap.size, 0, none⟩ = some (.int .i64 v.f0) ∧ w3.cell? ⟨w.heap.size, 1, none⟩ = some (.int .i64 v.f1) ∧ w3.cell? ⟨w.heap.size, 2, none⟩ = some (.string v.f2) := ⟨(blk_cell (blk_below HZ.out HB.out) 0).trans rfl, (blk_cell (blk_below HZ.out HB.out) 1).trans rfl, (blk_cell (blk_below HZ.out HB.out) 2).trans rfl⟩
  have g0 : w3.cell? ⟨g, 0, none⟩ = some (.int .i64 0) := (blk_cell HG.out 0).trans rfl
  have g1 : w3.cell? ⟨g, 1, none⟩ = some (.int .i64 0) := (blk_cell HG.out 1).trans rfl
  have g2 : w3.cell? ⟨g, 2, none⟩ = some (.string (⟨#[]⟩ : ByteArray)) := (blk_cell HG.out 2).trans rfl
  have gf0 := blk_frozen HG.out 0
  have gf1 := blk_frozen HG.out 1
  have gf2 := blk_frozen HG.out 2
  unfold encV
  refine norm_ (a' := ?_) ?_ ?_
  rotate_left
  · simp only [putAll, Act.put, List.setIfInBounds_toArray, List.set_cons_zero, List.set_cons_succ]
    rfl
  refine last_ (i := 8) (N := none) #[true, true, true, true, true, true, true, true, true, false] rfl rfl (by kernel_rfl) (by decide) (fun K hK => ?_)
  refine skip_ (w1 := ?_) (by rfl) rfl ?_ ?_
  rotate_left
  · go_simp
    rfl
  clear g0 g1 g2 gf0 gf1 gf2
  refine hK.out _ _ ?_
  clear hK K
  refine pure_ (i := 9) (N := some 6) (v := ?_) (a' := ?_) #[true, true, true, true, true, true, true, true, true, true] rfl rfl (by kernel_rfl) (fun _ _ _ h => h) (Or.inl ⟨by rfl, ?_⟩) ?_ ?_
  rotate_left
  · intro w'
    go_simp
    with_reducible rfl
  rotate_left
  · simp only [Act.put, List.setIfInBounds_toArray, List.set_cons_zero, List.set_cons_succ, i64_w, i32_w]
    rfl
  refine done_ (by kernel_rfl) ?_
  go_wp2_with fail
  go_ret
  exact ⟨rfl, below_set3 (below_step HW.out HB.out) (Nat.le_trans HS.out HGe.out) _ _ _ _ _ _⟩
end Go.Proofs.Ytgjfciohmgpohaa.P
end

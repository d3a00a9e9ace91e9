/- Laid by a program of this session out of its texts for the law AggPlays, part 5. -/
import Derived.Test.YtgjfciohmgpohaaZAggPlays4
section
namespace Go.Proofs.Ytgjfciohmgpohaa.P
open Go.RowKit Go.Proofs.Ytgjfciohmgpohaa.Pure Go.Proofs.YtgjfciohmgpohaaW.PrintWords Go.Proofs.YtgjfciohmgpohaaW.PrintLast Go.Proofs.YtgjfciohmgpohaaW.PrintMore
attribute [local go_sem] max2_int min2_int max_two min_two max_three min_three max_four min_four
set_option linter.unusedVariables false
set_option linter.unusedSimpArgs false
set_option maxHeartbeats 4000000 in
set_option maxRecDepth 100000 in
theorem radd.sum (b B : Nat) (op : Int) (l : List S32) (A : Option Addr) (c : Nat) (v : S32) (w : World) (hb : RefAt w b op false A l.length c) (hR : k32.R 32 w B (fun _ => True) (.slice A l.length c) l) (hB : B ≤ b) (hr : Kd.C k32 w A l.length l) (hf : ∀ v ∈ l, FitsV v) (h2 : op = 2) (hz : ¬ v.f0 = 0)
    (hP : In64 (sumR (numV 0) l).f1 ∧ In64 v.f1 ∧ (sumR (numV 0) l).f2.size + v.f2.size < 9223372036854775808 ∧ (sumR (numV 0) l).f2.size ≤ 140737488351232) (he : (outE (bin 11 (sumR (numV 0) l) v)).2 = 0) (hl : (l.length + 1) * 32 ≤ 140737488355328) :
    Calls Try.prog 14 #[.pointer (some ⟨b, 0, none⟩), .agg #[.int .i64 v.f0, .int .i64 v.f1, .string v.f2]] w fun e w' => e = .returned (.int .i64 0) ∧ (∃ u1, RefOwn w' b B op false u1 (l ++ [v])) ∧ Below B w w' ∧ (∀ (g : Nat) (t : TypeId) (cells : Array Value), t ≠ 32 → g ≠ b → w.heap[g]? = some (.cells cells t (0, 0)) → w'.heap[g]? = some (.cells cells t (0, 0))) := by
  have hu := Try.underlying32
  obtain ⟨rows, hrows⟩ : ∃ r : Bool, r = false := ⟨_, rfl⟩
  rw [← hrows] at hb ⊢
  obtain ⟨u, hue⟩ : ∃ u : Value, u = .slice A l.length c := ⟨_, rfl⟩
  have H1 := Aside0.mk (blk_alloc hb (.cells #[.int .i64 v.f0, .int .i64 v.f1, .string v.f2] 32))
  have HZ := Aside0.mk (Deep.blk_alloc_new w (.cells #[.int .i64 v.f0, .int .i64 v.f1, .string v.f2] 32))
  have HC := Aside0.mk (Kd.C_below hr (below_alloc (Below.refl w.heap.size w) (.cells #[.int .i64 v.f0, .int .i64 v.f1, .string v.f2] 32)))
  have HR0 := Aside0.mk (Kd.R_alloc hR (.cells #[.int .i64 v.f0, .int .i64 v.f1, .string v.f2] 32))
  have HBb := Aside0.mk hB
  have HBs : Aside0 (B ≤ w.heap.size) := ⟨Nat.le_trans hB (Nat.le_of_lt (blk_lt hb))⟩
  have HF := Aside0.mk hf
  have HP := Aside0.mk hP
  have HLn := Aside0.mk hl
  have b0 : World.cell? _ ⟨b, 0, none⟩ = some (.int .i64 op) := (blk_cell H1.out 0).trans rfl
  have v0 : World.cell? _ ⟨w.heap.size, 0, none⟩ = some (.int .i64 v.f0) := (blk_cell HZ.out 0).trans rfl
  have v1 : World.cell? _ ⟨w.heap.size, 1, none⟩ = some (.int .i64 v.f1) := (blk_cell HZ.out 1).trans rfl
  have v2 : World.cell? _ ⟨w.heap.size, 2, none⟩ = some (.string v.f2) := (blk_cell HZ.out 2).trans rfl
  have q1 : (v.f0 == 0) = false := beq_eq_false_iff_ne.mpr hz
  have q2 : (op == 2) = true := beq_iff_eq.mpr h2
  have q3 : ((outE (bin 11 (sumR (numV 0) l) v)).2 != 0) = false := bne_eq_false_iff_eq.mpr he
  have HB : Aside0 (Below (w.alloc (.cells #[.int .i64 v.f0, .int .i64 v.f1, .string v.f2] 32)).heap.size (w.alloc (.cells #[.int .i64 v.f0, .int .i64 v.f1, .string v.f2] 32)) (w.alloc (.cells #[.int .i64 v.f0, .int .i64 v.f1, .string v.f2] 32)).drew) := ⟨below_drew1 (Below.refl _ _)⟩
  have HW : Aside0 (Below w.heap.size w (w.alloc (.cells #[.int .i64 v.f0, .int .i64 v.f1, .string v.f2] 32))) := ⟨below_alloc (Below.refl _ _) _⟩
  have HS : Aside0 (w.heap.size < (w.alloc (.cells #[.int .i64 v.f0, .int .i64 v.f1, .string v.f2] 32)).heap.size) := ⟨blk_lt HZ.out⟩
  have HbS : Aside0 (b < (w.alloc (.cells #[.int .i64 v.f0, .int .i64 v.f1, .string v.f2] 32)).heap.size) := ⟨blk_lt H1.out⟩
  clear hb hr hf h2 hz hP he hrows hR hB hl
  go_enter Try.func14, Try.ntmps14
  go_wp2_with fail
  refine start_ (n := 10) (S := fun w' => w'.cell? ⟨w.heap.size, 0, none⟩ = some (.int .i64 v.f0) ∧ w'.cell? ⟨w.heap.size, 1, none⟩ = some (.int .i64 v.f1) ∧ w'.cell? ⟨w.heap.size, 2, none⟩ = some (.string v.f2)) (ds := [8]) #[false, false, false, false, false, false, false, false, false, false] (by kernel_rfl) rfl rfl ⟨v0, v1, v2⟩ (fun hHeld => ?_)
  refine pure_ (i := 0) (N := some 23) (v := ?_) (a' := ?_) #[true, false, false, false, false, false, false, false, false, false] rfl rfl (by kernel_rfl) (fun _ _ _ h => h) (Or.inl ⟨by rfl, ?_⟩) ?_ ?_
  rotate_left
  · intro w'
    go_simp
    with_reducible rfl
  rotate_left
  · simp only [Act.put, List.setIfInBounds_toArray, List.set_cons_zero, List.set_cons_succ, i64_w, i32_w]
    rfl
  refine take_ (i := 2) (N := some 25) (v := ?_) (a' := ?_) #[true, false, true, false, false, false, false, false, false, false] rfl rfl (by kernel_rfl) (fun _ _ _ h => h) (Or.inl ⟨by rfl, ?_⟩) hHeld ?_ ?_
  rotate_left
  · rintro w' ⟨s0, s1, s2⟩
    go_simp
    with_reducible rfl
  rotate_left
  · simp only [Act.put, List.setIfInBounds_toArray, List.set_cons_zero, List.set_cons_succ, i64_w, i32_w]
    rfl
  refine join_ (σ := Nat) 2 #[true, true, true, true, true, true, true, true, false, false] (fun s => [(24, encV (sumR (numV 0) l)), (26, .tuple #[encV (outE (bin 11 (sumR (numV 0) l) v)).1, .int .i64 (outE (bin 11 (sumR (numV 0) l) v)).2]), (22, .tuple #[encV (outE (bin 11 (sumR (numV 0) l) v)).1, .int .i64 (outE (bin 11 (sumR (numV 0) l) v)).2]), (27, encV (outE (bin 11 (sumR (numV 0) l) v)).1), (28, .int .i64 (outE (bin 11 (sumR (numV 0) l) v)).2), (5, .pointer (some ⟨s, 0, none⟩))]) (fun s w' => Below (w.alloc (.cells #[.int .i64 v.f0, .int .i64 v.f1, .string v.f2] 32)).heap.size (w.alloc (.cells #[.int .i64 v.f0, .int .i64 v.f1, .string v.f2] 32)) w' ∧ (w.alloc (.cells #[.int .i64 v.f0, .int .i64 v.f1, .string v.f2] 32)).heap.size ≤ s ∧ w'.heap[s]? = some (.cells #[.int .i64 0, .int .i64 0, .string (⟨#[]⟩ : ByteArray)] 32 (0, 0))) ?_ ?_
  rotate_left
  · intro hCont
    refine two_ (i := 1) (j := 7) (Ni := some 24) (Nj := some 5) #[true, true, true, false, false, false, false, false, false, false] #[true, false, true, false, false, false, false, true, false, false] rfl rfl rfl rfl (by kernel_rfl) (by decide) (by decide) (fun K hK => ?_) (fun K hK => ?_)
    · skip
      refine goes_ Try.func21 (by kernel_rfl) rfl #[.pointer (some ⟨b, 0, none⟩)] (by rfl) rfl rfl (by simp only [List.map_toArray, List.map_cons, List.map_nil]; rfl) ?_
      with_reducible refine (rsum.calls b op rows l A c _ (RefAt.of (blk_below H1.out HB.out)) (Kd.C_below HC.out HB.out) HF.out).mono ?_
      rintro e wa ⟨rfl, hb⟩
      refine ⟨_, rfl, ?_⟩
      have n0_ := Aside0.mk (below_step HB.out hb)
      clear HB
      have HB := n0_
      clear n0_
      clear hb
      refine hK.out _ _ ⟨(blk_cell (blk_below HZ.out HB.out) 0).trans rfl, (blk_cell (blk_below HZ.out HB.out) 1).trans rfl, (blk_cell (blk_below HZ.out HB.out) 2).trans rfl⟩ (fun hHeld => ?_)
      clear hK K
      refine norm_ (a' := ?_) ?_ ?_
      rotate_left
      · show Act.put _ (some 24) _ = _
        simp only [Act.put, List.setIfInBounds_toArray, List.set_cons_zero, List.set_cons_succ, i64_w, i32_w]
        rfl
      refine two_ (i := 3) (j := 7) (Ni := some 26) (Nj := some 5) #[true, true, true, true, false, false, false, false, false, false] #[true, true, true, false, false, false, false, true, false, false] rfl rfl rfl rfl (by kernel_rfl) (by decide) (by decide) (fun K hK => ?_) (fun K hK => ?_)
      · skip
        refine goes_ Try.func22 (by kernel_rfl) rfl #[.int .i64 11, .agg #[.int .i64 (sumR (numV 0) l).f0, .int .i64 (sumR (numV 0) l).f1, .string (sumR (numV 0) l).f2], .agg #[.int .i64 v.f0, .int .i64 v.f1, .string v.f2]] (by rfl) rfl rfl (by simp only [List.map_toArray, List.map_cons, List.map_nil]; rfl) ?_
        with_reducible refine (refBinary.calls 11 (sumR (numV 0) l) v HP.out.1 HP.out.2.1 HP.out.2.2.1 HP.out.2.2.2 _).mono ?_
        rintro e wb ⟨rfl, hb⟩
        refine ⟨_, rfl, ?_⟩
        have n0_ := Aside0.mk (below_step HB.out hb)
        clear HB
        have HB := n0_
        clear n0_
        clear hb
        refine hK.out _ _ ⟨(blk_cell (blk_below HZ.out HB.out) 0).trans rfl, (blk_cell (blk_below HZ.out HB.out) 1).trans rfl, (blk_cell (blk_below HZ.out HB.out) 2).trans rfl⟩ (fun hHeld => ?_)
        clear hK K
        refine norm_ (a' := ?_) ?_ ?_
        rotate_left
        · show Act.put _ (some 26) _ = _
          simp only [Act.put, List.setIfInBounds_toArray, List.set_cons_zero, List.set_cons_succ, i64_w, i32_w]
          rfl
        refine pure_ (i := 4) (N := some 22) (v := ?_) (a' := ?_) #[true, true, true, true, true, false, false, false, false, false] rfl rfl (by kernel_rfl) (fun _ _ _ h => h) (Or.inl ⟨by rfl, ?_⟩) ?_ ?_
        rotate_left
        · intro w'
          go_simp
          with_reducible rfl
        rotate_left
        · simp only [Act.put, List.setIfInBounds_toArray, List.set_cons_zero, List.set_cons_succ, i64_w, i32_w]
          rfl
        refine pure_ (i := 5) (N := some 27) (v := ?_) (a' := ?_) #[true, true, true, true, true, true, false, false, false, false] rfl rfl (by kernel_rfl) (fun _ _ _ h => h) (Or.inl ⟨by rfl, ?_⟩) ?_ ?_
        rotate_left
        · intro w'
          go_simp
          with_reducible rfl
        rotate_left
        · simp only [Act.put, List.setIfInBounds_toArray, List.set_cons_zero, List.set_cons_succ, i64_w, i32_w]
          rfl
        refine pure_ (i := 6) (N := some 28) (v := ?_) (a' := ?_) #[true, true, true, true, true, true, true, false, false, false] rfl rfl (by kernel_rfl) (fun _ _ _ h => h) (Or.inl ⟨by rfl, ?_⟩) ?_ ?_
        rotate_left
        · intro w'
          go_simp
          with_reducible rfl
        rotate_left
        · simp only [Act.put, List.setIfInBounds_toArray, List.set_cons_zero, List.set_cons_succ, i64_w, i32_w]
          rfl
        refine one_ (i := 7) (N := some 5) #[true, true, true, true, true, true, true, true, false, false] rfl rfl (by kernel_rfl) (by decide) (fun K hK => ?_)
        refine value_ (w1 := ?_) (v := ?_) (by rfl) rfl ?_ ?_
        rotate_left 2
        · go_simp
          constructor
          · rfl
          · rfl
        have HG := Aside0.mk (Deep.blk_alloc_new wb (.cells #[.int .i64 0, .int .i64 0, .string (⟨#[]⟩ : ByteArray)] 32))
        have HGe := Aside0.mk (below_size HB.out)
        have n0_ := Aside0.mk (below_alloc HB.out (.cells #[.int .i64 0, .int .i64 0, .string (⟨#[]⟩ : ByteArray)] 32))
        clear HB
        have HB := n0_
        clear n0_
        refine hK.out _ _ ⟨(blk_cell (blk_below HZ.out HB.out) 0).trans rfl, (blk_cell (blk_below HZ.out HB.out) 1).trans rfl, (blk_cell (blk_below HZ.out HB.out) 2).trans rfl⟩ (fun hHeld => ?_)
        clear hK K
        refine norm_ (a' := ?_) ?_ ?_
        rotate_left
        · show Act.put _ (some 5) _ = _
          simp only [Act.put, List.setIfInBounds_toArray, List.set_cons_zero, List.set_cons_succ, i64_w, i32_w]
          rfl
        exact norm_ (by first | (simp only [putAll, Act.put, List.setIfInBounds_toArray, List.set_cons_zero, List.set_cons_succ]; done) | (simp only [putAll, Act.put, List.setIfInBounds_toArray, List.set_cons_zero, List.set_cons_succ]; rfl)) (hCont _ _ ⟨HB.out, HGe.out, HG.out⟩)
      · skip
        refine value_ (w1 := ?_) (v := ?_) (by rfl) rfl ?_ ?_
        rotate_left 2
        · go_simp
          constructor
          · rfl
          · rfl
        have HG := Aside0.mk (Deep.blk_alloc_new wa (.cells #[.int .i64 0, .int .i64 0, .string (⟨#[]⟩ : ByteArray)] 32))
        have HGe := Aside0.mk (below_size HB.out)
        have n0_ := Aside0.mk (below_alloc HB.out (.cells #[.int .i64 0, .int .i64 0, .string (⟨#[]⟩ : ByteArray)] 32))
        clear HB
        have HB := n0_
        clear n0_
        refine hK.out _ _ ⟨(blk_cell (blk_below HZ.out HB.out) 0).trans rfl, (blk_cell (blk_below HZ.out HB.out) 1).trans rfl, (blk_cell (blk_below HZ.out HB.out) 2).trans rfl⟩ (fun hHeld => ?_)
        clear hK K
        refine norm_ (a' := ?_) ?_ ?_
        rotate_left
        · show Act.put _ (some 5) _ = _
          simp only [Act.put, List.setIfInBounds_toArray, List.set_cons_zero, List.set_cons_succ, i64_w, i32_w]
          rfl
        refine one_ (i := 3) (N := some 26) #[true, true, true, true, false, false, false, true, false, false] rfl rfl (by kernel_rfl) (by decide) (fun K hK => ?_)
        refine goes_ Try.func22 (by kernel_rfl) rfl #[.int .i64 11, .agg #[.int .i64 (sumR (numV 0) l).f0, .int .i64 (sumR (numV 0) l).f1, .string (sumR (numV 0) l).f2], .agg #[.int .i64 v.f0, .int .i64 v.f1, .string v.f2]] (by rfl) rfl rfl (by simp only [List.map_toArray, List.map_cons, List.map_nil]; rfl) ?_
        with_reducible refine (refBinary.calls 11 (sumR (numV 0) l) v HP.out.1 HP.out.2.1 HP.out.2.2.1 HP.out.2.2.2 _).mono ?_
        rintro e wb ⟨rfl, hb⟩
        refine ⟨_, rfl, ?_⟩
        have n0_ := Aside0.mk (below_step HB.out hb)
        have n1_ := Aside0.mk (blk_below HG.out hb)
        have n2_ := HGe
        clear HG HGe
        have HG := n1_
        have HGe := n2_
        clear n1_ n2_
        clear HB
        have HB := n0_
        clear n0_
        clear hb
        refine hK.out _ _ ⟨(blk_cell (blk_below HZ.out HB.out) 0).trans rfl, (blk_cell (blk_below HZ.out HB.out) 1).trans rfl, (blk_cell (blk_below HZ.out HB.out) 2).trans rfl⟩ (fun hHeld => ?_)
        clear hK K
        refine norm_ (a' := ?_) ?_ ?_
        rotate_left
        · show Act.put _ (some 26) _ = _
          simp only [Act.put, List.setIfInBounds_toArray, List.set_cons_zero, List.set_cons_succ, i64_w, i32_w]
          rfl
        refine pure_ (i := 4) (N := some 22) (v := ?_) (a' := ?_) #[true, true, true, true, true, false, false, true, false, false] rfl rfl (by kernel_rfl) (fun _ _ _ h => h) (Or.inl ⟨by rfl, ?_⟩) ?_ ?_
        rotate_left
        · intro w'
          go_simp
          with_reducible rfl
        rotate_left
        · simp only [Act.put, List.setIfInBounds_toArray, List.set_cons_zero, List.set_cons_succ, i64_w, i32_w]
          rfl
        refine pure_ (i := 5) (N := some 27) (v := ?_) (a' := ?_) #[true, true, true, true, true, true, false, true, false, false] rfl rfl (by kernel_rfl) (fun _ _ _ h => h) (Or.inl ⟨by rfl, ?_⟩) ?_ ?_
        rotate_left
        · intro w'
          go_simp
          with_reducible rfl
        rotate_left
        · simp only [Act.put, List.setIfInBounds_toArray, List.set_cons_zero, List.set_cons_succ, i64_w, i32_w]
          rfl
        refine pure_ (i := 6) (N := some 28) (v := ?_) (a' := ?_) #[true, true, true, true, true, true, true, true, false, false] rfl rfl (by kernel_rfl) (fun _ _ _ h => h) (Or.inl ⟨by rfl, ?_⟩) ?_ ?_
        rotate_left
        · intro w'
          go_simp
          with_reducible rfl
        rotate_left
        · simp only [Act.put, List.setIfInBounds_toArray, List.set_cons_zero, List.set_cons_succ, i64_w, i32_w]
          rfl
        exact norm_ (by first | (simp only [putAll, Act.put, List.setIfInBounds_toArray, List.set_cons_zero, List.set_cons_succ]; done) | (simp only [putAll, Act.put, List.setIfInBounds_toArray, List.set_cons_zero, List.set_cons_succ]; rfl)) (hCont _ _ ⟨HB.out, HGe.out, HG.out⟩)
    · skip
      refine value_ (w1 := ?_) (v := ?_) (by rfl) rfl ?_ ?_
      rotate_left 2
      · go_simp
        constructor
        · rfl
        · rfl
      have HG : Aside0 (((w.alloc (.cells #[.int .i64 v.f0, .int .i64 v.f1, .string v.f2] 32)).alloc (.cells #[.int .i64 0, .int .i64 0, .string (⟨#[]⟩ : ByteArray)] 32)).drew.heap[w.heap.size + 1]? = some (.cells #[.int .i64 0, .int .i64 0, .string (⟨#[]⟩ : ByteArray)] 32 (0, 0))) := ⟨by have h := Deep.blk_alloc_new (w.alloc (.cells #[.int .i64 v.f0, .int .i64 v.f1, .string v.f2] 32)) (.cells #[.int .i64 0, .int .i64 0, .string (⟨#[]⟩ : ByteArray)] 32); rw [show (w.alloc (.cells #[.int .i64 v.f0, .int .i64 v.f1, .string v.f2] 32)).heap.size = w.heap.size + 1 from Array.size_push ..] at h; exact h⟩
      have HGe : Aside0 ((w.alloc (.cells #[.int .i64 v.f0, .int .i64 v.f1, .string v.f2] 32)).heap.size ≤ w.heap.size + 1) := ⟨Nat.le_of_eq (Array.size_push ..)⟩
      clear HB
      have HB : Aside0 (Below (w.alloc (.cells #[.int .i64 v.f0, .int .i64 v.f1, .string v.f2] 32)).heap.size (w.alloc (.cells #[.int .i64 v.f0, .int .i64 v.f1, .string v.f2] 32)) ((w.alloc (.cells #[.int .i64 v.f0, .int .i64 v.f1, .string v.f2] 32)).alloc (.cells #[.int .i64 0, .int .i64 0, .string (⟨#[]⟩ : ByteArray)] 32)).drew) := ⟨below_drew1 (below_alloc (Below.refl _ _) _)⟩
      refine hK.out _ _ ⟨(blk_cell (blk_below HZ.out HB.out) 0).trans rfl, (blk_cell (blk_below HZ.out HB.out) 1).trans rfl, (blk_cell (blk_below HZ.out HB.out) 2).trans rfl⟩ (fun hHeld => ?_)
      clear hK K
      refine norm_ (a' := ?_) ?_ ?_
      rotate_left
      · show Act.put _ (some 5) _ = _
        simp only [Act.put, List.setIfInBounds_toArray, List.set_cons_zero, List.set_cons_succ, i64_w, i32_w]
        rfl
      refine one_ (i := 1) (N := some 24) #[true, true, true, false, false, false, false, true, false, false] rfl rfl (by kernel_rfl) (by decide) (fun K hK => ?_)
      refine goes_ Try.func21 (by kernel_rfl) rfl #[.pointer (some ⟨b, 0, none⟩)] (by rfl) rfl rfl (by simp only [List.map_toArray, List.map_cons, List.map_nil]; rfl) ?_
      with_reducible refine (rsum.calls b op rows l A c _ (RefAt.of (blk_below H1.out HB.out)) (Kd.C_below HC.out HB.out) HF.out).mono ?_
      rintro e wa ⟨rfl, hb⟩
      refine ⟨_, rfl, ?_⟩
      have n0_ := Aside0.mk (below_step HB.out hb)
      have n1_ := Aside0.mk (blk_below HG.out hb)
      have n2_ := HGe
      clear HG HGe
      have HG := n1_
      have HGe := n2_
      clear n1_ n2_
      clear HB
      have HB := n0_
      clear n0_
      clear hb
      refine hK.out _ _ ⟨(blk_cell (blk_below HZ.out HB.out) 0).trans rfl, (blk_cell (blk_below HZ.out HB.out) 1).trans rfl, (blk_cell (blk_below HZ.out HB.out) 2).trans rfl⟩ (fun hHeld => ?_)
      clear hK K
      refine norm_ (a' := ?_) ?_ ?_
      rotate_left
      · show Act.put _ (some 24) _ = _
        simp only [Act.put, List.setIfInBounds_toArray, List.set_cons_zero, List.set_cons_succ, i64_w, i32_w]
        rfl
      refine one_ (i := 3) (N := some 26) #[true, true, true, true, false, false, false, true, false, false] rfl rfl (by kernel_rfl) (by decide) (fun K hK => ?_)
      refine goes_ Try.func22 (by kernel_rfl) rfl #[.int .i64 11, .agg #[.int .i64 (sumR (numV 0) l).f0, .int .i64 (sumR (numV 0) l).f1, .string (sumR (numV 0) l).f2], .agg #[.int .i64 v.f0, .int .i64 v.f1, .string v.f2]] (by rfl) rfl rfl (by simp only [List.map_toArray, List.map_cons, List.map_nil]; rfl) ?_
      with_reducible refine (refBinary.calls 11 (sumR (numV 0) l) v HP.out.1 HP.out.2.1 HP.out.2.2.1 HP.out.2.2.2 _).mono ?_
      rintro e wb ⟨rfl, hb⟩
      refine ⟨_, rfl, ?_⟩
      have n0_ := Aside0.mk (below_step HB.out hb)
      have n1_ := Aside0.mk (blk_below HG.out hb)
      have n2_ := HGe
      clear HG HGe
      have HG := n1_
      have HGe := n2_
      clear n1_ n2_
      clear HB
      have HB := n0_
      clear n0_
      clear hb
      refine hK.out _ _ ⟨(blk_cell (blk_below HZ.out HB.out) 0).trans rfl, (blk_cell (blk_below HZ.out HB.out) 1).trans rfl, (blk_cell (blk_below HZ.out HB.out) 2).trans rfl⟩ (fun hHeld => ?_)
      clear hK K
      refine norm_ (a' := ?_) ?_ ?_
      rotate_left
      · show Act.put _ (some 26) _ = _
        simp only [Act.put, List.setIfInBounds_toArray, List.set_cons_zero, List.set_cons_succ, i64_w, i32_w]
        rfl
      refine pure_ (i := 4) (N := some 22) (v := ?_) (a' := ?_) #[true, true, true, true, true, false, false, true, false, false] rfl rfl (by kernel_rfl) (fun _ _ _ h => h) (Or.inl ⟨by rfl, ?_⟩) ?_ ?_
      rotate_left
      · intro w'
        go_simp
        with_reducible rfl
      rotate_left
      · simp only [Act.put, List.setIfInBounds_toArray, List.set_cons_zero, List.set_cons_succ, i64_w, i32_w]
        rfl
      refine pure_ (i := 5) (N := some 27) (v := ?_) (a' := ?_) #[true, true, true, true, true, true, false, true, false, false] rfl rfl (by kernel_rfl) (fun _ _ _ h => h) (Or.inl ⟨by rfl, ?_⟩) ?_ ?_
      rotate_left
      · intro w'
        go_simp
        with_reducible rfl
      rotate_left
      · simp only [Act.put, List.setIfInBounds_toArray, List.set_cons_zero, List.set_cons_succ, i64_w, i32_w]
        rfl
      refine pure_ (i := 6) (N := some 28) (v := ?_) (a' := ?_) #[true, true, true, true, true, true, true, true, false, false] rfl rfl (by kernel_rfl) (fun _ _ _ h => h) (Or.inl ⟨by rfl, ?_⟩) ?_ ?_
      rotate_left
      · intro w'
        go_simp
        with_reducible rfl
      rotate_left
      · simp only [Act.put, List.setIfInBounds_toArray, List.set_cons_zero, List.set_cons_succ, i64_w, i32_w]
        rfl
      exact norm_ (by first | (simp only [putAll, Act.put, List.setIfInBounds_toArray, List.set_cons_zero, List.set_cons_succ]; done) | (simp only [putAll, Act.put, List.setIfInBounds_toArray, List.set_cons_zero, List.set_cons_succ]; rfl)) (hCont _ _ ⟨HB.out, HGe.out, HG.out⟩)
  rintro g w3 ⟨hB3, hg3, hG3⟩
  have HB := Aside0.mk hB3
  have HGe := Aside0.mk hg3
  have HG := Aside0.mk hG3
  clear hB3 hg3 hG3
  have hHeld : w3.cell? ⟨w.heap.size, 0, none⟩ = some (.int .i64 v.f0) ∧ w3.cell? ⟨w.heap.size, 1, none⟩ = some (.int .i64 v.f1) ∧ w3.cell? ⟨w.heap.size, 2, none⟩ = some (.string v.f2) := ⟨(blk_cell (blk_below HZ.out HB.out) 0).trans rfl, (blk_cell (blk_below HZ.out HB.out) 1).trans rfl, (blk_cell (blk_below HZ.out HB.out) 2).trans rfl⟩
  have g0 : w3.cell? ⟨g, 0, none⟩ = some (.int .i64 0) := (blk_cell HG.out 0).trans rfl
  have g1 : w3.cell? ⟨g, 1, none⟩ = some (.int .i64 0) := (blk_cell HG.out 1).trans rfl
  have g2 : w3.cell? ⟨g, 2, none⟩ = some (.string (⟨#[]⟩ : ByteArray)) := (blk_cell HG.out 2).trans rfl
  have gf0 := blk_frozen HG.out 0
  have gf1 := blk_frozen HG.out 1
  have gf2 := blk_frozen HG.out 2
  unfold encV
  refine norm_ (a' := ?_) ?_ ?_
  rotate_left
  · simp only [putAll, Act.put, List.setIfInBounds_toArray, List.set_cons_zero, List.set_cons_succ]
    rfl
  refine last_ (i := 8) (N := none) #[true, true, true, true, true, true, true, true, true, false] rfl rfl (by kernel_rfl) (by decide) (fun K hK => ?_)
  refine skip_ (w1 := ?_) (by rfl) rfl ?_ ?_
  rotate_left
  · go_simp
    rfl
  clear g0 g1 g2 gf0 gf1 gf2
  refine hK.out _ _ ?_
  clear hK K
  refine pure_ (i := 9) (N := some 6) (v := ?_) (a' := ?_) #[true, true, true, true, true, true, true, true, true, true] rfl rfl (by kernel_rfl) (fun _ _ _ h => h) (Or.inl ⟨by rfl, ?_⟩) ?_ ?_
  rotate_left
  · intro w'
    go_simp
    with_reducible rfl
  rotate_left
  · simp only [Act.put, List.setIfInBounds_toArray, List.set_cons_zero, List.set_cons_succ, i64_w, i32_w]
    rfl
  refine done_ (by kernel_rfl) ?_
  have hkp := keep_set (keep_set (keep_set (KeepBut.refl w3 g none) 0 (.int .i64 (outE (bin 11 (sumR (numV 0) l) v)).1.f0)) 1 (.int .i64 (outE (bin 11 (sumR (numV 0) l) v)).1.f1)) 2 (.string (outE (bin 11 (sumR (numV 0) l) v)).1.f2)
  have K1 := hkp.blk (blk_below H1.out HB.out) (show b ≠ g by have := HbS.out; have := HGe.out; omega) (by simp)
  have K2 := hkp.blk (blk_below HZ.out HB.out) (show w.heap.size ≠ g by have := HS.out; have := HGe.out; omega) (by simp)
  have K3 := Kd.R_keep (Kd.R_below (Kd.R_bound HR0.out) HB.out) hkp (fun k hk => by have := hk.2.2.1; have := HGe.out; omega)
  have K4 := below_set3 (below_step HW.out HB.out) (Nat.le_trans (Nat.le_of_lt HS.out) HGe.out) 0 1 2 (.int .i64 (outE (bin 11 (sumR (numV 0) l) v)).1.f0) (.int .i64 (outE (bin 11 (sumR (numV 0) l) v)).1.f1) (.string (outE (bin 11 (sumR (numV 0) l) v)).1.f2)
  have K5 : ∀ (k : Nat) (t : TypeId) (cells : Array Value), w.heap[k]? = some (.cells cells t (0, 0)) → (((w3.setCell ⟨g, 0, none⟩ (.int .i64 (outE (bin 11 (sumR (numV 0) l) v)).1.f0)).setCell ⟨g, 1, none⟩ (.int .i64 (outE (bin 11 (sumR (numV 0) l) v)).1.f1)).setCell ⟨g, 2, none⟩ (.string (outE (bin 11 (sumR (numV 0) l) v)).1.f2)).heap[k]? = some (.cells cells t (0, 0)) := fun k t cs hk => hkp.blk (blk_below (blk_alloc hk (.cells #[.int .i64 v.f0, .int .i64 v.f1, .string v.f2] 32)) HB.out) (show k ≠ g by have h1 := blk_lt hk; have := HS.out; have := HGe.out; omega) (by simp)
  obtain ⟨W4, hW4⟩ : ∃ W4, ((w3.setCell ⟨g, 0, none⟩ (.int .i64 (outE (bin 11 (sumR (numV 0) l) v)).1.f0)).setCell ⟨g, 1, none⟩ (.int .i64 (outE (bin 11 (sumR (numV 0) l) v)).1.f1)).setCell ⟨g, 2, none⟩ (.string (outE (bin 11 (sumR (numV 0) l) v)).1.f2) = W4 := ⟨_, rfl⟩
  rw [hW4] at K1 K2 K3 K4 K5 ⊢
  clear H1 HZ HR0 HC hkp hW4 HB HG HGe
  have H1 := Aside0.mk K1
  have HZ := Aside0.mk K2
  have HO0 := Aside0.mk (Kd.R_mono K3 (ok' := fun _ => True) (fun _ _ => trivial))
  have HO : Aside0 (k32.R 32 W4.drew B (fun _ => True) u l) := ⟨by rw [hue]; exact Kd.R_drew HO0.out⟩
  have HBW : Aside0 (Below B w W4.drew) := ⟨below_drew1 (K4.mono HBs.out)⟩
  have HBS : Aside0 (B ≤ W4.drew.heap.size) := ⟨Nat.le_trans HBb.out (Nat.le_of_lt (blk_lt H1.out))⟩
  have hKeep : ∀ w1, W4.drew.grownBy w1 u.ownBlock → w1.heap[b]? = some (.cells #[.int .i64 op, .bool rows, u] 59 (0, 0)) := by
    intro w1 hg
    rw [hue] at hg ⊢
    have hb1 := H1.out
    refine (hg.block b (blk_lt hb1) (fun he => ?_)).trans hb1
    obtain ⟨inner, ho⟩ := Kd.R_own HO0.out
    obtain ⟨cells, hc⟩ := own_typed ho b he.symm
    rw [hc] at hb1
    injection hb1 with hb1
    injection hb1 with _ ht
    exact absurd ht (by decide)
  have hOth : ∀ w1, W4.drew.grownBy w1 u.ownBlock → ∀ (g : Nat) (t : TypeId) (cells : Array Value), t ≠ 32 → g ≠ b → w.heap[g]? = some (.cells cells t (0, 0)) → w1.heap[g]? = some (.cells cells t (0, 0)) := by
    intro w1 hg g t cs ht _ hc0
    rw [hue] at hg
    have hb1 := K5 g t cs hc0
    refine (hg.block g (blk_lt hb1) (fun he => ?_)).trans hb1
    obtain ⟨inner, ho⟩ := Kd.R_own HO0.out
    obtain ⟨cells, hc⟩ := own_typed ho g he.symm
    rw [hc] at hb1
    injection hb1 with hb1
    injection hb1 with _ ht2
    exact ht ht2.symm
  rw [← hue] at H1
  have b1 : True := trivial
  have b0 : W4.cell? ⟨b, 0, none⟩ = some (.int .i64 op) := (blk_cell H1.out 0).trans rfl
  have b2 : W4.cell? ⟨b, 2, none⟩ = some u := (blk_cell H1.out 2).trans rfl
  have v0 : W4.cell? ⟨w.heap.size, 0, none⟩ = some (.int .i64 v.f0) := (blk_cell HZ.out 0).trans rfl
  have v1 : W4.cell? ⟨w.heap.size, 1, none⟩ = some (.int .i64 v.f1) := (blk_cell HZ.out 1).trans rfl
  have v2 : W4.cell? ⟨w.heap.size, 2, none⟩ = some (.string v.f2) := (blk_cell HZ.out 2).trans rfl
  clear K1 K2 K3 K4 K5
  go_wp2_with fail
  refine start_ (n := 11) (S := fun w' => w'.cell? ⟨b, 2, none⟩ = some u ∧ w'.cell? ⟨w.heap.size, 0, none⟩ = some (.int .i64 v.f0) ∧ w'.cell? ⟨w.heap.size, 1, none⟩ = some (.int .i64 v.f1) ∧ w'.cell? ⟨w.heap.size, 2, none⟩ = some (.string v.f2)) (ds := [7, 10]) #[false, false, false, false, false, false, false, false, false, false, false] (by kernel_rfl) rfl rfl ⟨b2, v0, v1, v2⟩ (fun hHeld => ?_)
  refine pure_ (i := 0) (N := some 32) (v := ?_) (a' := ?_) #[true, false, false, false, false, false, false, false, false, false, false] rfl rfl (by kernel_rfl) (fun _ _ _ h => h) (Or.inl ⟨by rfl, ?_⟩) ?_ ?_
  rotate_left
  · intro w'
    go_simp
    with_reducible rfl
  rotate_left
  · simp only [Act.put, List.setIfInBounds_toArray, List.set_cons_zero, List.set_cons_succ, i64_w, i32_w]
    rfl
  refine pure_ (i := 1) (N := some 33) (v := ?_) (a' := ?_) #[true, true, false, false, false, false, false, false, false, false, false] rfl rfl (by kernel_rfl) (fun _ _ _ h => h) (Or.inl ⟨by rfl, ?_⟩) ?_ ?_
  rotate_left
  · intro w'
    go_simp
    with_reducible rfl
  rotate_left
  · simp only [Act.put, List.setIfInBounds_toArray, List.set_cons_zero, List.set_cons_succ, i64_w, i32_w]
    rfl
  refine pure_ (i := 2) (N := some 34) (v := ?_) (a' := ?_) #[true, true, true, false, false, false, false, false, false, false, false] rfl rfl (by kernel_rfl) (fun _ _ _ h => h) (Or.inl ⟨by rfl, ?_⟩) ?_ ?_
  rotate_left
  · intro w'
    go_simp
    with_reducible rfl
  rotate_left
  · simp only [Act.put, List.setIfInBounds_toArray, List.set_cons_zero, List.set_cons_succ, i64_w, i32_w]
    rfl
  refine pure_ (i := 3) (N := some 35) (v := ?_) (a' := ?_) #[true, true, true, true, false, false, false, false, false, false, false] rfl rfl (by kernel_rfl) (fun _ _ _ h => h) (Or.inl ⟨by rfl, ?_⟩) ?_ ?_
  rotate_left
  · intro w'
    go_simp
    with_reducible rfl
  rotate_left
  · simp only [Act.put, List.setIfInBounds_toArray, List.set_cons_zero, List.set_cons_succ, i64_w, i32_w]
    rfl
  refine take_ (i := 4) (N := some 36) (v := ?_) (a' := ?_) #[true, true, true, true, true, false, false, false, false, false, false] rfl rfl (by kernel_rfl) (fun _ _ _ h => h) (Or.inl ⟨by rfl, ?_⟩) hHeld ?_ ?_
  rotate_left
  · rintro w' ⟨s0, s1, s2, s3⟩
    go_simp
    with_reducible rfl
  rotate_left
  · simp only [Act.put, List.setIfInBounds_toArray, List.set_cons_zero, List.set_cons_succ, i64_w, i32_w]
    rfl
  refine take_ (i := 5) (N := some 37) (v := ?_) (a' := ?_) #[true, true, true, true, true, true, false, false, false, false, false] rfl rfl (by kernel_rfl) (fun _ _ _ h => h) (Or.inl ⟨by rfl, ?_⟩) hHeld ?_ ?_
  rotate_left
  · rintro w' ⟨s0, s1, s2, s3⟩
    go_simp
    with_reducible rfl
  rotate_left
  · simp only [Act.put, List.setIfInBounds_toArray, List.set_cons_zero, List.set_cons_succ, i64_w, i32_w]
    rfl
  refine one_ (i := 6) (N := some 38) #[true, true, true, true, true, true, true, false, false, false, false] rfl rfl (by kernel_rfl) (by decide) (fun K hK => ?_)
  refine value_ (w1 := ?_) (v := ?_) (by rfl) rfl ?_ ?_
  rotate_left 2
  · go_simp
    constructor
    · rfl
    · rfl
  refine hK.out _ _ ⟨(blk_cell (blk_alloc (blk_drew H1.out) _) 2).trans rfl, (blk_cell (blk_alloc (blk_drew HZ.out) _) 0).trans rfl, (blk_cell (blk_alloc (blk_drew HZ.out) _) 1).trans rfl, (blk_cell (blk_alloc (blk_drew HZ.out) _) 2).trans rfl⟩ (fun hHeld => ?_)
  clear hK K
  refine norm_ (a' := ?_) ?_ ?_
  rotate_left
  · show Act.put _ (some 38) _ = _
    simp only [Act.put, List.setIfInBounds_toArray, List.set_cons_zero, List.set_cons_succ, i64_w, i32_w]
    rfl
  refine last_ (i := 7) (N := some 39) #[true, true, true, true, true, true, true, true, false, false, false] rfl rfl (by kernel_rfl) (by decide) (fun K hK => ?_)
  refine Kd.R_append_step k32 (w0 := w) B (by rfl) (.tmp 36) (.tmp 38) 22 32 (.agg #[.int .i64 0, .int .i64 0, .string ⟨#[]⟩]) 32 rfl (by kernel_rfl) info32 rfl (by decide) (by decide) u l v [.int .i64 v.f0, .int .i64 v.f1, .string v.f2] (fun _ => True) (fun _ => False) (by first | rfl | (rw [hue]; rfl) | exact hue.symm) (by rfl) (k32_mkM _ _ _ _) (fun _ h => h.elim) (fun _ _ => trivial) HO.out HBW.out HBS.out HLn.out ?_
  intro u1 w1 hR hB hG hAt
  obtain ⟨A1, c1, hu1, _, _⟩ := Kd.R_reads hR
  subst hu1
  have HR1 := Aside0.mk hR
  have HB1 := Aside0.mk hB
  have HG1 := Aside0.mk (hKeep w1 hG)
  have HT1 := Aside0.mk (hOth w1 hG)
  clear hR hB hG hAt hKeep hOth hHeld b0 b1 b2 v0 v1 v2
  have bf0 := blk_frozen HG1.out 2
  have bc2 : w1.cell? ⟨b, 2, none⟩ = some u := (blk_cell HG1.out 2).trans rfl
  refine hK.out _ _ ?_
  clear hK K
  refine norm_ (a' := ?_) ?_ ?_
  rotate_left
  · show Act.put _ (some 39) _ = _
    simp only [Act.put, List.setIfInBounds_toArray, List.set_cons_zero, List.set_cons_succ, i64_w, i32_w]
    rfl
  refine pure_ (i := 8) (N := some 40) (v := ?_) (a' := ?_) #[true, true, true, true, true, true, true, true, true, false, false] rfl rfl (by kernel_rfl) (fun _ _ _ h => h) (Or.inl ⟨by rfl, ?_⟩) ?_ ?_
  rotate_left
  · intro w'
    go_simp
    with_reducible rfl
  rotate_left
  · simp only [Act.put, List.setIfInBounds_toArray, List.set_cons_zero, List.set_cons_succ, i64_w, i32_w]
    rfl
  refine pure_ (i := 9) (N := some 41) (v := ?_) (a' := ?_) #[true, true, true, true, true, true, true, true, true, true, false] rfl rfl (by kernel_rfl) (fun _ _ _ h => h) (Or.inl ⟨by rfl, ?_⟩) ?_ ?_
  rotate_left
  · intro w'
    go_simp
    with_reducible rfl
  rotate_left
  · simp only [Act.put, List.setIfInBounds_toArray, List.set_cons_zero, List.set_cons_succ, i64_w, i32_w]
    rfl
  refine last_ (i := 10) (N := none) #[true, true, true, true, true, true, true, true, true, true, true] rfl rfl (by kernel_rfl) (by decide) (fun K hK => ?_)
  refine skip_ (w1 := ?_) (by rfl) rfl ?_ ?_
  rotate_left
  · go_simp
    rfl
  clear bf0 bc2
  refine hK.out _ _ ?_
  clear hK K
  refine done_ (by kernel_rfl) ?_
  go_wp2_with fail
  go_ret
  exact ⟨rfl, ⟨_, blk_put HG1.out 2 _ rfl, (by have h := Kd.R_set HR1.out HG1.out (by decide) 2 (.slice A1 (l.length + 1) c1); rw [List.length_append] at h; exact h)⟩, Below.setCell HB1.out (p := ⟨b, 2, none⟩) HBb.out _, fun g t cs h1 h2 h3 => (Below.heap_setCell w1 ⟨b, 2, none⟩ _ g h2).trans (HT1.out g t cs h1 h2 h3)⟩
end Go.Proofs.Ytgjfciohmgpohaa.P
end
section
namespace Go.Proofs.Ytgjfciohmgpohaa.P
open Go.RowKit Go.Proofs.Ytgjfciohmgpohaa.Pure Go.Proofs.YtgjfciohmgpohaaW.PrintWords Go.Proofs.YtgjfciohmgpohaaW.PrintLast Go.Proofs.YtgjfciohmgpohaaW.PrintMore
attribute [local go_sem] max2_int min2_int max_two min_two max_three min_three max_four min_four
set_option linter.unusedVariables false
set_option linter.unusedSimpArgs false
def addR (op : Int) (rows : Bool) (l : List S32) (v : S32) : List S32 × Int :=
  if v.f0 = 0 ∧ rows = false then (l, 0) else if op = 2 ∧ ¬ (outE (bin 11 (sumR (numV 0) l) v)).2 = 0 then (l, (outE (bin 11 (sumR (numV 0) l) v)).2) else (l ++ [v], 0)
theorem radd.calls (b B : Nat) (op : Int) (rows : Bool) (l : List S32) (u : Value) (v : S32) (w : World) (hb : RefOwn w b B op rows u l) (hB : B ≤ b) (ho : rows = true → op = 1) (hf : ∀ v ∈ l, FitsV v) (hv : FitsV v) (hs : FitsV (sumR (numV 0) l)) (hl : (l.length + 1) * 32 ≤ 140737488355328) :
    Calls Try.prog 14 #[.pointer (some ⟨b, 0, none⟩), .agg #[.int .i64 v.f0, .int .i64 v.f1, .string v.f2]] w fun e w' => e = .returned (.int .i64 (addR op rows l v).2) ∧ (∃ u1, RefOwn w' b B op rows u1 (addR op rows l v).1) ∧ Below B w w' ∧ (∀ (g : Nat) (t : TypeId) (cells : Array Value), t ≠ 32 → g ≠ b → w.heap[g]? = some (.cells cells t (0, 0)) → w'.heap[g]? = some (.cells cells t (0, 0))) := by
  have hBs : B ≤ w.heap.size := Nat.le_trans hB (Nat.le_of_lt (blk_lt hb.1))
  obtain ⟨A, c, hu, _, hr⟩ := Kd.R_reads hb.2
  subst hu
  unfold addR
  by_cases h1 : v.f0 = 0 ∧ rows = false
  · rw [if_pos h1]
    refine (radd.pass b op rows l.length A c v w hb.1 h1.1 h1.2).mono ?_
    rintro e w1 ⟨rfl, h⟩
    exact ⟨rfl, ⟨_, blk_below hb.1 h, Kd.R_below hb.2 h⟩, h.mono hBs, fun g t cs _ _ hg => blk_below hg h⟩
  rw [if_neg h1]
  have hz : ¬ v.f0 = 0 ∨ rows = true := by
    by_cases h0 : v.f0 = 0
    · cases hr2 : rows with
      | true => exact .inr rfl
      | false => exact absurd ⟨h0, hr2⟩ h1
    · exact .inl h0
  by_cases h2 : op = 2
  · have hrw : rows = false := by
      cases hr2 : rows with
      | true => have := ho hr2; omega
      | false => rfl
    subst hrw
    have hz0 : ¬ v.f0 = 0 := hz.resolve_right (by decide)
    have hP : In64 (sumR (numV 0) l).f1 ∧ In64 v.f1 ∧ (sumR (numV 0) l).f2.size + v.f2.size < 9223372036854775808 ∧ (sumR (numV 0) l).f2.size ≤ 140737488351232 := ⟨hs.1, hv.1, by have := hs.2; have := hv.2; omega, hs.2⟩
    by_cases he : (outE (bin 11 (sumR (numV 0) l) v)).2 = 0
    · rw [if_neg (fun h => h.2 he)]
      exact radd.sum b B op l A c v w hb.1 hb.2 hB hr hf h2 hz0 hP he hl
    · rw [if_pos ⟨h2, he⟩]
      refine (radd.no b op l A c v w hb.1 hr hf h2 hz0 hP he).mono ?_
      rintro e w1 ⟨rfl, h⟩
      exact ⟨rfl, ⟨_, blk_below hb.1 h, Kd.R_below hb.2 h⟩, h.mono hBs, fun g t cs _ _ hg => blk_below hg h⟩
  · rw [if_neg (fun h => h2 h.1)]
    exact radd.take b B op rows l _ v w hb hB h2 hz hl
end Go.Proofs.Ytgjfciohmgpohaa.P
end
section
namespace Go.Proofs.Ytgjfciohmgpohaa.P
open Go.RowKit Go.Proofs.Ytgjfciohmgpohaa.Pure Go.Proofs.YtgjfciohmgpohaaW.PrintWords Go.Proofs.YtgjfciohmgpohaaW.PrintLast Go.Proofs.YtgjfciohmgpohaaW.PrintMore
set_option linter.unusedVariables false
set_option linter.unusedSimpArgs false
theorem outE_fits {a b : S32} (ha : FitsV a) (hb : FitsV b) : FitsV (outE (bin 11 a b)).1 := by
  cases h : bin 11 a b with
  | ok r => exact bin_num (op := 11) rfl a b r (by omega) (by omega) ha.1 hb.1 h
  | error c => exact ⟨by show In64 0; decide, by show (0 : Nat) ≤ _; omega⟩
theorem sumR_fits : ∀ (l : List S32) (s : S32), FitsV s → (∀ v ∈ l, FitsV v) → FitsV (sumR s l)
  | [], s, hs, _ => hs
  | v :: t, s, hs, hl => sumR_fits t _ (outE_fits hs (hl v (List.mem_cons_self ..))) (fun x hx => hl x (List.mem_cons_of_mem _ hx))
theorem sumR_snoc : ∀ (l : List S32) (s v : S32), sumR s (l ++ [v]) = (outE (bin 11 (sumR s l) v)).1
  | [], s, v => rfl
  | x :: t, s, v => sumR_snoc t _ v
theorem bstR_snoc (sg : Int) : ∀ (l : List S32) (u v : S32), bstR sg u (l ++ [v]) = if cmpV v (bstR sg u l) = sg then v else bstR sg u l
  | [], u, v => rfl
  | x :: t, u, v => bstR_snoc sg t _ v
theorem bin_kind {a b r : S32} (h : bin 11 a b = .ok r) (ha : ¬ a.f0 = 0) (hb : ¬ b.f0 = 0) : r.f0 = 2 := by
  unfold bin at h
  rw [if_neg (show ¬ ¬ ((3 : Int) ≤ 11 ∧ (11 : Int) ≤ 16) by decide)] at h
  by_cases h2 : ¬ kindsP 11 a.f0 b.f0
  · rw [if_pos h2] at h; cases h
  rw [if_neg h2, if_neg (by decide), if_neg (by omega), if_neg (by decide), if_neg (by decide)] at h
  cases hs : sumP 11 a.f1 b.f1 with
  | error c => rw [hs] at h; cases h
  | ok n => rw [hs] at h; cases h; rfl
def accOK (op : Int) (rows : Bool) (st : Gst) (L : List S32) : Prop :=
  (op = 1 ∧ st = .count (L.length : Int)) ∨
  (op = 2 ∧ rows = false ∧ ((L = [] ∧ st = .sum zeroV) ∨ (¬ L = [] ∧ st = .sum (sumR (numV 0) L) ∧ (sumR (numV 0) L).f0 = 2))) ∨
  (∃ sg : Int, ((op = 3 ∧ sg = -1) ∨ (op = 4 ∧ sg = 1)) ∧ rows = false ∧ ((L = [] ∧ st = .best zeroV sg) ∨ (∃ x t, L = x :: t ∧ st = .best (bstR sg x t) sg ∧ ¬ (bstR sg x t).f0 = 0)))
theorem acc_start {op : Int} {rows : Bool} {st : Gst} (h : newP op rows = some st) : accOK op rows st [] := by
  unfold newP at h
  by_cases h1 : op = 1
  · rw [if_pos h1] at h; cases h; exact .inl ⟨h1, rfl⟩
  rw [if_neg h1] at h
  cases hr : rows with
  | true => subst hr; rw [if_pos rfl] at h; cases h
  | false =>
    subst hr
    rw [if_neg (by decide)] at h
    by_cases h2 : op = 2
    · rw [if_pos h2] at h; cases h; exact .inr (.inl ⟨h2, rfl, .inl ⟨rfl, rfl⟩⟩)
    rw [if_neg h2] at h
    by_cases h3 : op = 3
    · rw [if_pos h3] at h; cases h; exact .inr (.inr ⟨-1, .inl ⟨h3, rfl⟩, rfl, .inl ⟨rfl, rfl⟩⟩)
    rw [if_neg h3] at h
    by_cases h4 : op = 4
    · rw [if_pos h4] at h; cases h; exact .inr (.inr ⟨1, .inr ⟨h4, rfl⟩, rfl, .inl ⟨rfl, rfl⟩⟩)
    rw [if_neg h4] at h; cases h
theorem rd_zero (x : S32) (t : List S32) : rd_T32 (x :: t) 0 = x := by unfold rd_T32; simp
theorem acc_val {op : Int} {rows : Bool} {st : Gst} {L : List S32} (h : accOK op rows st L) : valP st = refV op L := by
  unfold refV
  rcases h with ⟨h1, rfl⟩ | ⟨h2, _, h⟩ | ⟨sg, ho, _, h⟩
  · rw [if_pos h1]; rfl
  · rw [if_neg (by omega)]
    rcases h with ⟨rfl, rfl⟩ | ⟨hn, rfl, _⟩
    · rw [if_pos (show ([] : List S32).length = 0 from rfl)]; rfl
    · rw [if_neg (fun e => hn (List.length_eq_zero_iff.1 e)), if_pos h2]; rfl
  · rw [if_neg (by omega)]
    rcases h with ⟨rfl, rfl⟩ | ⟨x, t, rfl, rfl, _⟩
    · rw [if_pos (show ([] : List S32).length = 0 from rfl)]; rfl
    · rw [if_neg (by simp), if_neg (by omega), rd_zero, List.drop_one, List.tail_cons]
      rcases ho with ⟨h3, rfl⟩ | ⟨h4, rfl⟩
      · rw [if_pos h3]; rfl
      · rw [if_neg (by omega)]; rfl
theorem acc_step {op : Int} {rows : Bool} {st : Gst} {L : List S32} (h : accOK op rows st L) (v : S32) (hl : L.length < 4611686018427387904) :
    (addP st rows v).2 = (addR op rows L v).2 ∧ accOK op rows (addP st rows v).1 (addR op rows L v).1 := by
  unfold addP addR
  by_cases hp : v.f0 = 0 ∧ rows = false
  · rw [if_pos hp, if_pos hp]; exact ⟨rfl, h⟩
  rw [if_neg hp, if_neg hp]
  rcases h with ⟨h1, rfl⟩ | ⟨h2, hr, h⟩ | ⟨sg, ho, hr, h⟩
  · rw [if_neg (fun h => by omega)]
    refine ⟨rfl, .inl ⟨h1, ?_⟩⟩
    show Gst.count (wrap64 ((L.length : Int) + 1)) = _
    rw [show wrap64 ((L.length : Int) + 1) = (((L ++ [v]).length : Nat) : Int) by unfold wrap64; simp; omega]
  · have hv : ¬ v.f0 = 0 := fun e => hp ⟨e, hr⟩
    have key : ∀ s : S32, (if s.f0 = 0 then numV 0 else s) = sumR (numV 0) L → st = .sum s → ¬ (sumR (numV 0) L).f0 = 0 →
        ((match st with | .count n => (Gst.count (wrap64 (n + 1)), (0 : Int)) | .sum s => (.sum (sumA s v).1, (sumA s v).2) | .best u sg => if u.f0 = 0 ∨ cmpV v u = sg then (.best v sg, 0) else (.best u sg, 0)).2 = (if op = 2 ∧ ¬ (outE (bin 11 (sumR (numV 0) L) v)).2 = 0 then (L, (outE (bin 11 (sumR (numV 0) L) v)).2) else (L ++ [v], 0)).2) ∧
        accOK op rows (match st with | .count n => (Gst.count (wrap64 (n + 1)), (0 : Int)) | .sum s => (.sum (sumA s v).1, (sumA s v).2) | .best u sg => if u.f0 = 0 ∨ cmpV v u = sg then (.best v sg, 0) else (.best u sg, 0)).1 (if op = 2 ∧ ¬ (outE (bin 11 (sumR (numV 0) L) v)).2 = 0 then (L, (outE (bin 11 (sumR (numV 0) L) v)).2) else (L ++ [v], 0)).1 := by
      intro s hs hst hn
      subst hst
      show (sumA s v).2 = _ ∧ accOK op rows (.sum (sumA s v).1) _
      unfold sumA
      rw [hs]
      cases hb : bin 11 (sumR (numV 0) L) v with
      | ok r =>
        have e0 : (outE (Except.ok r : Except Int S32)).2 = 0 := rfl
        rw [if_neg (fun h => h.2 e0)]
        refine ⟨rfl, .inr (.inl ⟨h2, hr, .inr ⟨by simp, ?_, ?_⟩⟩)⟩
        · rw [sumR_snoc, hb]; rfl
        · rw [sumR_snoc, hb]; exact bin_kind hb hn hv
      | error c =>
        have hc := bin_err hb
        have e0 : ¬ (outE (Except.error c : Except Int S32)).2 = 0 := hc
        rw [if_pos ⟨h2, e0⟩]
        exact ⟨rfl, .inr (.inl ⟨h2, hr, h⟩)⟩
    rcases h with ⟨rfl, rfl⟩ | ⟨hn, rfl, hk⟩
    · exact key zeroV rfl rfl (by show ¬ (2 : Int) = 0; decide)
    · exact key _ (if_neg (by omega)) rfl (by omega)
  · have hv : ¬ v.f0 = 0 := fun e => hp ⟨e, hr⟩
    rw [if_neg (fun h => by omega)]
    rcases h with ⟨rfl, rfl⟩ | ⟨x, t, rfl, rfl, hk⟩
    · show (if (0 : Int) = 0 ∨ cmpV v zeroV = sg then (Gst.best v sg, (0 : Int)) else (.best zeroV sg, 0)).2 = 0 ∧ accOK op rows (if (0 : Int) = 0 ∨ cmpV v zeroV = sg then (Gst.best v sg, (0 : Int)) else (.best zeroV sg, 0)).1 [v]
      rw [if_pos (.inl rfl)]
      exact ⟨rfl, .inr (.inr ⟨sg, ho, hr, .inr ⟨v, [], rfl, rfl, hv⟩⟩)⟩
    · show (if (bstR sg x t).f0 = 0 ∨ cmpV v (bstR sg x t) = sg then (Gst.best v sg, (0 : Int)) else (.best (bstR sg x t) sg, 0)).2 = 0 ∧ accOK op rows (if (bstR sg x t).f0 = 0 ∨ cmpV v (bstR sg x t) = sg then (Gst.best v sg, (0 : Int)) else (.best (bstR sg x t) sg, 0)).1 (x :: t ++ [v])
      have hs := bstR_snoc sg t x v
      by_cases hc : cmpV v (bstR sg x t) = sg
      · rw [if_pos (.inr hc)]
        rw [if_pos hc] at hs
        exact ⟨rfl, .inr (.inr ⟨sg, ho, hr, .inr ⟨x, t ++ [v], rfl, by rw [hs], by rw [hs]; exact hv⟩⟩)⟩
      · rw [if_neg (fun h => h.elim hk hc)]
        rw [if_neg hc] at hs
        exact ⟨rfl, .inr (.inr ⟨sg, ho, hr, .inr ⟨x, t ++ [v], rfl, by rw [hs], by rw [hs]; exact hk⟩⟩)⟩
theorem addR_mem (op : Int) (rows : Bool) (L : List S32) (v : S32) : (∀ x ∈ (addR op rows L v).1, x ∈ L ∨ x = v) ∧ (addR op rows L v).1.length ≤ L.length + 1 := by
  unfold addR
  by_cases h1 : v.f0 = 0 ∧ rows = false
  · rw [if_pos h1]; exact ⟨fun x hx => .inl hx, Nat.le_succ _⟩
  rw [if_neg h1]
  by_cases h2 : op = 2 ∧ ¬ (outE (bin 11 (sumR (numV 0) L) v)).2 = 0
  · rw [if_pos h2]; exact ⟨fun x hx => .inl hx, Nat.le_succ _⟩
  · rw [if_neg h2]
    refine ⟨fun x hx => ?_, by simp⟩
    rcases List.mem_append.1 hx with hx | hx
    · exact .inl hx
    · exact .inr (List.mem_singleton.1 hx)
theorem newP_rows {op : Int} {rows : Bool} {st : Gst} (h : newP op rows = some st) : (rows = true → op = 1) ∧ (1 ≤ op ∧ op ≤ 4) ∧ ¬ badP op rows := by
  unfold newP at h
  unfold badP
  by_cases h1 : op = 1
  · refine ⟨fun _ => h1, by omega, by omega⟩
  rw [if_neg h1] at h
  cases hr : rows with
  | true => subst hr; rw [if_pos rfl] at h; cases h
  | false =>
    subst hr
    rw [if_neg (by decide)] at h
    have h5 : 1 ≤ op ∧ op ≤ 4 := by
      by_cases h2 : op = 2
      · omega
      rw [if_neg h2] at h
      by_cases h3 : op = 3
      · omega
      rw [if_neg h3] at h
      by_cases h4 : op = 4
      · omega
      rw [if_neg h4] at h; cases h
    refine ⟨(fun h => by cases h), h5, ?_⟩
    rintro (h | h | ⟨h, _⟩)
    · omega
    · omega
    · cases h
theorem newP_bad {op : Int} {rows : Bool} (h : newP op rows = none) : badP op rows := by
  unfold newP at h
  unfold badP
  by_cases h1 : op = 1
  · rw [if_pos h1] at h; cases h
  rw [if_neg h1] at h
  cases hr : rows with
  | true => exact .inr (.inr ⟨rfl, h1⟩)
  | false =>
    subst hr
    rw [if_neg (by decide)] at h
    by_cases h2 : op = 2
    · rw [if_pos h2] at h; cases h
    rw [if_neg h2] at h
    by_cases h3 : op = 3
    · rw [if_pos h3] at h; cases h
    rw [if_neg h3] at h
    by_cases h4 : op = 4
    · rw [if_pos h4] at h; cases h
    by_cases h5 : op < 1
    · exact .inl h5
    · exact .inr (.inl (by omega))
theorem newP_fitsR {op : Int} {rows : Bool} {st : Gst} (h : newP op rows = some st) : st.fits := by
  cases hr : rows with
  | false => subst hr; exact newP_fits h
  | true =>
    subst hr
    unfold newP at h
    by_cases h1 : op = 1
    · rw [if_pos h1] at h; cases h; trivial
    · rw [if_neg h1, if_pos rfl] at h; cases h
theorem new_st (op : Int) (rows : Bool) (st : Gst) (w : World) (h : newP op rows = some st) :
    Calls Try.prog 8 #[.int .i64 op, .bool rows] w fun e w' => e = .returned (.tuple #[.pointer (some ⟨w.heap.size + 1, 0, none⟩), .int .i64 0]) ∧ AccAt w' (w.heap.size + 1) w.heap.size rows st ∧ Below w.heap.size w w' := by
  cases hr : rows with
  | false => subst hr; exact new_some op st w h
  | true =>
    subst hr
    unfold newP at h
    by_cases h1 : op = 1
    · rw [if_pos h1] at h; cases h; exact new.countR op w h1
    · rw [if_neg h1, if_pos rfl] at h; cases h
theorem new_no (op : Int) (rows : Bool) (w : World) (h : newP op rows = none) :
    Calls Try.prog 8 #[.int .i64 op, .bool rows] w fun e w' => e = .returned (.tuple #[.pointer none, .int .i64 5]) ∧ Below w.heap.size w w' := by
  cases hr : rows with
  | false => subst hr; exact new_none op w h
  | true =>
    subst hr
    have h1 : ¬ op = 1 := fun e => by unfold newP at h; rw [if_pos e] at h; cases h
    by_cases h2 : op = 2
    · exact new.sumR op w h2
    by_cases h3 : op = 3
    · exact new.minR op w h3
    by_cases h4 : op = 4
    · exact new.maxR op w h4
    exact new.otherR op w h1 h2 h3 h4
theorem RefOwn.keep {w w' : World} {b B : Nat} {op : Int} {rows : Bool} {u : Value} {l : List S32} {g : Nat} (h : RefOwn w b B op rows u l) (hk : KeepBut w w' g none) (hg : g < B) (hb : B ≤ b) : RefOwn w' b B op rows u l :=
  ⟨hk.blk h.1 (by omega) (by simp), Kd.R_mono (Kd.R_keep (Kd.R_bound h.2) hk (fun k hk => by have := hk.2.1; omega)) (fun _ _ => trivial)⟩
theorem RefOwn.below {w w' : World} {b B : Nat} {op : Int} {rows : Bool} {u : Value} {l : List S32} (h : RefOwn w b B op rows u l) (hb : Below w.heap.size w w') : RefOwn w' b B op rows u l := ⟨blk_below h.1 hb, Kd.R_below h.2 hb⟩
theorem AccAt.belowB {w w' : World} {a g B : Nat} {rows : Bool} {st : Gst} (h : AccAt w a g rows st) (hb : Below B w w') (ha : a < B) (hg : g < B) : AccAt w' a g rows st :=
  ⟨(hb.block a ha).trans h.1, (hb.block g hg).trans h.2.1, h.2.2⟩
theorem rvalue_own (b B : Nat) (op : Int) (rows : Bool) (l : List S32) (u : Value) (w : World) (hb : RefOwn w b B op rows u l) (ho : 1 ≤ op ∧ op ≤ 4) (hf : ∀ v ∈ l, FitsV v) :
    Calls Try.prog 12 #[.pointer (some ⟨b, 0, none⟩)] w fun e w' => e = .returned (encV (refV op l)) ∧ Below w.heap.size w w' := by
  obtain ⟨A, c, hu, _, hr⟩ := Kd.R_reads hb.2
  subst hu
  exact rvalue.calls b op rows l A c w hb.1 ho hr hf
end Go.Proofs.Ytgjfciohmgpohaa.P
end
section
namespace Go.Proofs.Ytgjfciohmgpohaa.P
open Go.RowKit Go.Proofs.YtgjfciohmgpohaaW.PrintWords Go.Proofs.YtgjfciohmgpohaaW.PrintLast Go.Proofs.YtgjfciohmgpohaaW.PrintMore
attribute [local go_sem] max2_int min2_int max_two min_two max_three min_three max_four min_four
set_option linter.unusedVariables false
set_option linter.unusedSimpArgs false
def chkR (a b : Int) (c : ByteArray) : Int :=
 if a = 0 then (if b = 0 ∧ c.toList = [] then 0 else 3)
 else if a = 1 then (if (b = 0 ∨ b = 1) ∧ c.toList = [] then 0 else 3)
 else if a = 2 then (if c.toList = [] then 0 else 3)
 else if a = 3 ∨ a = 4 then (if b = 0 then 0 else 3)
 else 5
def quarryref01_Check.f (a0_0 : Int) (a0_1 : Int) (a0_2 : ByteArray) : Option (Int) := some (chkR a0_0 a0_1 a0_2)
theorem eqR (d : Nat) (w : World) (x0 y0 : Int) (x1 y1 : Int) (x2 y2 : ByteArray) :
  (Op.equalIn (d + 2) 32 (.agg #[.int .i64 x0, .int .i64 x1, .string x2]) (.agg #[.int .i64 y0, .int .i64 y1, .string y2])).run Try.prog w = .ok (x0 == y0 && (x1 == y1 && (x2.toList == y2.toList))) w := by
 refine eqA_of Try.underlying32 (by kernel_rfl) ?_
 refine eqf_cons (by rfl) (by go_simp; rfl) (by go_simp; rfl) (by go_simp) ?_
 refine eqf_cons (by rfl) (by go_simp; rfl) (by go_simp; rfl) (by go_simp) ?_
 exact eqf_last (by rfl) (by go_simp; rfl) (by go_simp; rfl) (by go_simp)
attribute [local go_sem high] eqR
set_option maxHeartbeats 2000000 in
set_option maxRecDepth 100000 in
theorem quarryref01_Check.z1 (a b : Int) (c : ByteArray) (w : World) (ha : a = 0) (hb : b = 0) (he : c.toList = []) :
  Calls Try.prog 19 #[.agg #[.int .i64 a, .int .i64 b, .string c]] w fun e w' => e = .returned (.int .i64 0) ∧ Below w.heap.size w w' := by
 have lo : decide (a < 0) = false := decide_eq_false (by omega)
 have hi : decide (4 < a) = false := decide_eq_false (by omega)
 have hu38 := Try.underlying32
 have k0 : (a == 0) = true := beq_iff_eq.mpr ha
 have b0 : (b == 0) = true := beq_iff_eq.mpr hb
 have b1 : (b == 1) = false := beq_eq_false_iff_ne.mpr (by omega)
 have e0 : c.toList.isEmpty = true := List.isEmpty_iff.2 he
 have e1 : (c.toList == ([] : List UInt8)) = true := beq_iff_eq.mpr he
 have n0 : (b != 0) = false := by rw [bne, b0]; rfl
 have n1 : (b != 1) = true := by rw [bne, b1]; rfl
 have e2 : (c.toList != ([] : List UInt8)) = false := by rw [bne, e1]; rfl
 clear ha hb he
 go_enter Try.func19, Try.ntmps19
 go_wp2
 go_ret
 exact ⟨rfl, by repeat (first | exact Below.refl _ _ | refine Below.setCell ?_ (Nat.le_refl _) _ | refine Below.setCell ?_ (Nat.le_succ _) _ | apply below_alloc)⟩
set_option maxHeartbeats 2000000 in
set_option maxRecDepth 100000 in
theorem quarryref01_Check.z2 (a b : Int) (c : ByteArray) (w : World) (ha : a = 0) (hb : b = 0) (he : ¬ c.toList = []) :
  Calls Try.prog 19 #[.agg #[.int .i64 a, .int .i64 b, .string c]] w fun e w' => e = .returned (.int .i64 3) ∧ Below w.heap.size w w' := by
 have lo : decide (a < 0) = false := decide_eq_false (by omega)
 have hi : decide (4 < a) = false := decide_eq_false (by omega)
 have hu38 := Try.underlying32
 have k0 : (a == 0) = true := beq_iff_eq.mpr ha
 have b0 : (b == 0) = true := beq_iff_eq.mpr hb
 have b1 : (b == 1) = false := beq_eq_false_iff_ne.mpr (by omega)
 have e0 : c.toList.isEmpty = false := by cases h : c.toList with | nil => exact absurd h he | cons => rfl
 have e1 : (c.toList == ([] : List UInt8)) = false := beq_eq_false_iff_ne.mpr he
 have n0 : (b != 0) = false := by rw [bne, b0]; rfl
 have n1 : (b != 1) = true := by rw [bne, b1]; rfl
 have e2 : (c.toList != ([] : List UInt8)) = true := by rw [bne, e1]; rfl
 clear ha hb he
 go_enter Try.func19, Try.ntmps19
 go_wp2
 go_ret
 exact ⟨rfl, by repeat (first | exact Below.refl _ _ | refine Below.setCell ?_ (Nat.le_refl _) _ | refine Below.setCell ?_ (Nat.le_succ _) _ | apply below_alloc)⟩
set_option maxHeartbeats 2000000 in
set_option maxRecDepth 100000 in
theorem quarryref01_Check.z3 (a b : Int) (c : ByteArray) (w : World) (ha : a = 0) (hb : ¬ b = 0) :
  Calls Try.prog 19 #[.agg #[.int .i64 a, .int .i64 b, .string c]] w fun e w' => e = .returned (.int .i64 3) ∧ Below w.heap.size w w' := by
 have lo : decide (a < 0) = false := decide_eq_false (by omega)
 have hi : decide (4 < a) = false := decide_eq_false (by omega)
 have hu38 := Try.underlying32
 have k0 : (a == 0) = true := beq_iff_eq.mpr ha
 have b0 : (b == 0) = false := beq_eq_false_iff_ne.mpr hb
 have n0 : (b != 0) = true := by rw [bne, b0]; rfl
 clear ha hb
 go_enter Try.func19, Try.ntmps19
 go_wp2
 go_ret
 exact ⟨rfl, by repeat (first | exact Below.refl _ _ | refine Below.setCell ?_ (Nat.le_refl _) _ | refine Below.setCell ?_ (Nat.le_succ _) _ | apply below_alloc)⟩
set_option maxHeartbeats 2000000 in
set_option maxRecDepth 100000 in
theorem quarryref01_Check.t1 (a b : Int) (c : ByteArray) (w : World) (ha : a = 1) (hb : b = 1) (he : c.toList = []) :
  Calls Try.prog 19 #[.agg #[.int .i64 a, .int .i64 b, .string c]] w fun e w' => e = .returned (.int .i64 0) ∧ Below w.heap.size w w' := by
 have lo : decide (a < 0) = false := decide_eq_false (by omega)
 have hi : decide (4 < a) = false := decide_eq_false (by omega)
 have hu38 := Try.underlying32
 have k0 : (a == 0) = false := beq_eq_false_iff_ne.mpr (by omega)
 have k1 : (a == 1) = true := beq_iff_eq.mpr ha
 have b0 : (b == 0) = false := beq_eq_false_iff_ne.mpr (by omega)
 have b1 : (b == 1) = true := beq_iff_eq.mpr hb
 have e0 : c.toList.isEmpty = true := List.isEmpty_iff.2 he
 have e1 : (c.toList == ([] : List UInt8)) = true := beq_iff_eq.mpr he
 have n0 : (b != 0) = true := by rw [bne, b0]; rfl
 have n1 : (b != 1) = false := by rw [bne, b1]; rfl
 have e2 : (c.toList != ([] : List UInt8)) = false := by rw [bne, e1]; rfl
 clear ha hb he
 go_enter Try.func19, Try.ntmps19
 go_wp2
 go_ret
 exact ⟨rfl, by repeat (first | exact Below.refl _ _ | refine Below.setCell ?_ (Nat.le_refl _) _ | refine Below.setCell ?_ (Nat.le_succ _) _ | apply below_alloc)⟩
set_option maxHeartbeats 2000000 in
set_option maxRecDepth 100000 in
theorem quarryref01_Check.t2 (a b : Int) (c : ByteArray) (w : World) (ha : a = 1) (hb : b = 1) (he : ¬ c.toList = []) :
  Calls Try.prog 19 #[.agg #[.int .i64 a, .int .i64 b, .string c]] w fun e w' => e = .returned (.int .i64 3) ∧ Below w.heap.size w w' := by
 have lo : decide (a < 0) = false := decide_eq_false (by omega)
 have hi : decide (4 < a) = false := decide_eq_false (by omega)
 have hu38 := Try.underlying32
 have k0 : (a == 0) = false := beq_eq_false_iff_ne.mpr (by omega)
 have k1 : (a == 1) = true := beq_iff_eq.mpr ha
 have b0 : (b == 0) = false := beq_eq_false_iff_ne.mpr (by omega)
 have b1 : (b == 1) = true := beq_iff_eq.mpr hb
 have e0 : c.toList.isEmpty = false := by cases h : c.toList with | nil => exact absurd h he | cons => rfl
 have e1 : (c.toList == ([] : List UInt8)) = false := beq_eq_false_iff_ne.mpr he
 have n0 : (b != 0) = true := by rw [bne, b0]; rfl
 have n1 : (b != 1) = false := by rw [bne, b1]; rfl
 have e2 : (c.toList != ([] : List UInt8)) = true := by rw [bne, e1]; rfl
 clear ha hb he
 go_enter Try.func19, Try.ntmps19
 go_wp2
 go_ret
 exact ⟨rfl, by repeat (first | exact Below.refl _ _ | refine Below.setCell ?_ (Nat.le_refl _) _ | refine Below.setCell ?_ (Nat.le_succ _) _ | apply below_alloc)⟩
set_option maxHeartbeats 2000000 in
set_option maxRecDepth 100000 in
theorem quarryref01_Check.t3 (a b : Int) (c : ByteArray) (w : World) (ha : a = 1) (hb : b = 0) (he : c.toList = []) :
  Calls Try.prog 19 #[.agg #[.int .i64 a, .int .i64 b, .string c]] w fun e w' => e = .returned (.int .i64 0) ∧ Below w.heap.size w w' := by
 have lo : decide (a < 0) = false := decide_eq_false (by omega)
 have hi : decide (4 < a) = false := decide_eq_false (by omega)
 have hu38 := Try.underlying32
 have k0 : (a == 0) = false := beq_eq_false_iff_ne.mpr (by omega)
 have k1 : (a == 1) = true := beq_iff_eq.mpr ha
 have b0 : (b == 0) = true := beq_iff_eq.mpr hb
 have b1 : (b == 1) = false := beq_eq_false_iff_ne.mpr (by omega)
 have e0 : c.toList.isEmpty = true := List.isEmpty_iff.2 he
 have e1 : (c.toList == ([] : List UInt8)) = true := beq_iff_eq.mpr he
 have n0 : (b != 0) = false := by rw [bne, b0]; rfl
 have n1 : (b != 1) = true := by rw [bne, b1]; rfl
 have e2 : (c.toList != ([] : List UInt8)) = false := by rw [bne, e1]; rfl
 clear ha hb he
 go_enter Try.func19, Try.ntmps19
 go_wp2
 go_ret
 exact ⟨rfl, by repeat (first | exact Below.refl _ _ | refine Below.setCell ?_ (Nat.le_refl _) _ | refine Below.setCell ?_ (Nat.le_succ _) _ | apply below_alloc)⟩
set_option maxHeartbeats 2000000 in
set_option maxRecDepth 100000 in
theorem quarryref01_Check.t4 (a b : Int) (c : ByteArray) (w : World) (ha : a = 1) (hb : b = 0) (he : ¬ c.toList = []) :
  Calls Try.prog 19 #[.agg #[.int .i64 a, .int .i64 b, .string c]] w fun e w' => e = .returned (.int .i64 3) ∧ Below w.heap.size w w' := by
 have lo : decide (a < 0) = false := decide_eq_false (by omega)
 have hi : decide (4 < a) = false := decide_eq_false (by omega)
 have hu38 := Try.underlying32
 have k0 : (a == 0) = false := beq_eq_false_iff_ne.mpr (by omega)
 have k1 : (a == 1) = true := beq_iff_eq.mpr ha
 have b0 : (b == 0) = true := beq_iff_eq.mpr hb
 have b1 : (b == 1) = false := beq_eq_false_iff_ne.mpr (by omega)
 have e0 : c.toList.isEmpty = false := by cases h : c.toList with | nil => exact absurd h he | cons => rfl
 have e1 : (c.toList == ([] : List UInt8)) = false := beq_eq_false_iff_ne.mpr he
 have n0 : (b != 0) = false := by rw [bne, b0]; rfl
 have n1 : (b != 1) = true := by rw [bne, b1]; rfl
 have e2 : (c.toList != ([] : List UInt8)) = true := by rw [bne, e1]; rfl
 clear ha hb he
 go_enter Try.func19, Try.ntmps19
 go_wp2
 go_ret
 exact ⟨rfl, by repeat (first | exact Below.refl _ _ | refine Below.setCell ?_ (Nat.le_refl _) _ | refine Below.setCell ?_ (Nat.le_succ _) _ | apply below_alloc)⟩
set_option maxHeartbeats 2000000 in
set_option maxRecDepth 100000 in
theorem quarryref01_Check.t5 (a b : Int) (c : ByteArray) (w : World) (ha : a = 1) (hb : ¬ b = 0) (hb1 : ¬ b = 1) (he : c.toList = []) :
  Calls Try.prog 19 #[.agg #[.int .i64 a, .int .i64 b, .string c]] w fun e w' => e = .returned (.int .i64 3) ∧ Below w.heap.size w w' := by
 have lo : decide (a < 0) = false := decide_eq_false (by omega)
 have hi : decide (4 < a) = false := decide_eq_false (by omega)
 have hu38 := Try.underlying32
 have k0 : (a == 0) = false := beq_eq_false_iff_ne.mpr (by omega)
 have k1 : (a == 1) = true := beq_iff_eq.mpr ha
 have b0 : (b == 0) = false := beq_eq_false_iff_ne.mpr hb
 have b1 : (b == 1) = false := beq_eq_false_iff_ne.mpr hb1
 have e0 : c.toList.isEmpty = true := List.isEmpty_iff.2 he
 have e1 : (c.toList == ([] : List UInt8)) = true := beq_iff_eq.mpr he
 have n0 : (b != 0) = true := by rw [bne, b0]; rfl
 have n1 : (b != 1) = true := by rw [bne, b1]; rfl
 have e2 : (c.toList != ([] : List UInt8)) = false := by rw [bne, e1]; rfl
 clear ha hb hb1 he
 go_enter Try.func19, Try.ntmps19
 go_wp2
 go_ret
 exact ⟨rfl, by repeat (first | exact Below.refl _ _ | refine Below.setCell ?_ (Nat.le_refl _) _ | refine Below.setCell ?_ (Nat.le_succ _) _ | apply below_alloc)⟩
set_option maxHeartbeats 2000000 in
set_option maxRecDepth 100000 in
theorem quarryref01_Check.t6 (a b : Int) (c : ByteArray) (w : World) (ha : a = 1) (hb : ¬ b = 0) (hb1 : ¬ b = 1) (he : ¬ c.toList = []) :
  Calls Try.prog 19 #[.agg #[.int .i64 a, .int .i64 b, .string c]] w fun e w' => e = .returned (.int .i64 3) ∧ Below w.heap.size w w' := by
 have lo : decide (a < 0) = false := decide_eq_false (by omega)
 have hi : decide (4 < a) = false := decide_eq_false (by omega)
 have hu38 := Try.underlying32
 have k0 : (a == 0) = false := beq_eq_false_iff_ne.mpr (by omega)
 have k1 : (a == 1) = true := beq_iff_eq.mpr ha
 have b0 : (b == 0) = false := beq_eq_false_iff_ne.mpr hb
 have b1 : (b == 1) = false := beq_eq_false_iff_ne.mpr hb1
 have e0 : c.toList.isEmpty = false := by cases h : c.toList with | nil => exact absurd h he | cons => rfl
 have e1 : (c.toList == ([] : List UInt8)) = false := beq_eq_false_iff_ne.mpr he
 have n0 : (b != 0) = true := by rw [bne, b0]; rfl
 have n1 : (b != 1) = true := by rw [bne, b1]; rfl
 have e2 : (c.toList != ([] : List UInt8)) = true := by rw [bne, e1]; rfl
 clear ha hb hb1 he
 go_enter Try.func19, Try.ntmps19
 go_wp2
 go_ret
 exact ⟨rfl, by repeat (first | exact Below.refl _ _ | refine Below.setCell ?_ (Nat.le_refl _) _ | refine Below.setCell ?_ (Nat.le_succ _) _ | apply below_alloc)⟩
set_option maxHeartbeats 2000000 in
set_option maxRecDepth 100000 in
theorem quarryref01_Check.n1 (a b : Int) (c : ByteArray) (w : World) (ha : a = 2) (he : c.toList = []) :
  Calls Try.prog 19 #[.agg #[.int .i64 a, .int .i64 b, .string c]] w fun e w' => e = .returned (.int .i64 0) ∧ Below w.heap.size w w' := by
 have lo : decide (a < 0) = false := decide_eq_false (by omega)
 have hi : decide (4 < a) = false := decide_eq_false (by omega)
 have hu38 := Try.underlying32
 have k0 : (a == 0) = false := beq_eq_false_iff_ne.mpr (by omega)
 have k1 : (a == 1) = false := beq_eq_false_iff_ne.mpr (by omega)
 have k2 : (a == 2) = true := beq_iff_eq.mpr ha
 have e0 : c.toList.isEmpty = true := List.isEmpty_iff.2 he
 have e1 : (c.toList == ([] : List UInt8)) = true := beq_iff_eq.mpr he
 have e2 : (c.toList != ([] : List UInt8)) = false := by rw [bne, e1]; rfl
 clear ha he
 go_enter Try.func19, Try.ntmps19
 go_wp2
 go_ret
 exact ⟨rfl, by repeat (first | exact Below.refl _ _ | refine Below.setCell ?_ (Nat.le_refl _) _ | refine Below.setCell ?_ (Nat.le_succ _) _ | apply below_alloc)⟩
set_option maxHeartbeats 2000000 in
set_option maxRecDepth 100000 in
theorem quarryref01_Check.n2 (a b : Int) (c : ByteArray) (w : World) (ha : a = 2) (he : ¬ c.toList = []) :
  Calls Try.prog 19 #[.agg #[.int .i64 a, .int .i64 b, .string c]] w fun e w' => e = .returned (.int .i64 3) ∧ Below w.heap.size w w' := by
 have lo : decide (a < 0) = false := decide_eq_false (by omega)
 have hi : decide (4 < a) = false := decide_eq_false (by omega)
 have hu38 := Try.underlying32
 have k0 : (a == 0) = false := beq_eq_false_iff_ne.mpr (by omega)
 have k1 : (a == 1) = false := beq_eq_false_iff_ne.mpr (by omega)
 have k2 : (a == 2) = true := beq_iff_eq.mpr ha
 have e0 : c.toList.isEmpty = false := by cases h : c.toList with | nil => exact absurd h he | cons => rfl
 have e1 : (c.toList == ([] : List UInt8)) = false := beq_eq_false_iff_ne.mpr he
 have e2 : (c.toList != ([] : List UInt8)) = true := by rw [bne, e1]; rfl
 clear ha he
 go_enter Try.func19, Try.ntmps19
 go_wp2
 go_ret
 exact ⟨rfl, by repeat (first | exact Below.refl _ _ | refine Below.setCell ?_ (Nat.le_refl _) _ | refine Below.setCell ?_ (Nat.le_succ _) _ | apply below_alloc)⟩
set_option maxHeartbeats 2000000 in
set_option maxRecDepth 100000 in
theorem quarryref01_Check.x1 (a b : Int) (c : ByteArray) (w : World) (ha : a = 3) (hb : b = 0) :
  Calls Try.prog 19 #[.agg #[.int .i64 a, .int .i64 b, .string c]] w fun e w' => e = .returned (.int .i64 0) ∧ Below w.heap.size w w' := by
 have lo : decide (a < 0) = false := decide_eq_false (by omega)
 have hi : decide (4 < a) = false := decide_eq_false (by omega)
 have hu38 := Try.underlying32
 have k0 : (a == 0) = false := beq_eq_false_iff_ne.mpr (by omega)
 have k1 : (a == 1) = false := beq_eq_false_iff_ne.mpr (by omega)
 have k2 : (a == 2) = false := beq_eq_false_iff_ne.mpr (by omega)
 have k3 : (a == 3) = true := beq_iff_eq.mpr ha
 have b0 : (b == 0) = true := beq_iff_eq.mpr hb
 have b1 : (b == 1) = false := beq_eq_false_iff_ne.mpr (by omega)
 have n0 : (b != 0) = false := by rw [bne, b0]; rfl
 have n1 : (b != 1) = true := by rw [bne, b1]; rfl
 clear ha hb
 go_enter Try.func19, Try.ntmps19
 go_wp2
 go_ret
 exact ⟨rfl, by repeat (first | exact Below.refl _ _ | refine Below.setCell ?_ (Nat.le_refl _) _ | refine Below.setCell ?_ (Nat.le_succ _) _ | apply below_alloc)⟩
set_option maxHeartbeats 2000000 in
set_option maxRecDepth 100000 in
theorem quarryref01_Check.x2 (a b : Int) (c : ByteArray) (w : World) (ha : a = 3) (hb : ¬ b = 0) :
  Calls Try.prog 19 #[.agg #[.int .i64 a, .int .i64 b, .string c]] w fun e w' => e = .returned (.int .i64 3) ∧ Below w.heap.size w w' := by
 have lo : decide (a < 0) = false := decide_eq_false (by omega)
 have hi : decide (4 < a) = false := decide_eq_false (by omega)
 have hu38 := Try.underlying32
 have k0 : (a == 0) = false := beq_eq_false_iff_ne.mpr (by omega)
 have k1 : (a == 1) = false := beq_eq_false_iff_ne.mpr (by omega)
 have k2 : (a == 2) = false := beq_eq_false_iff_ne.mpr (by omega)
 have k3 : (a == 3) = true := beq_iff_eq.mpr ha
 have b0 : (b == 0) = false := beq_eq_false_iff_ne.mpr hb
 have n0 : (b != 0) = true := by rw [bne, b0]; rfl
 clear ha hb
 go_enter Try.func19, Try.ntmps19
 go_wp2
 go_ret
 exact ⟨rfl, by repeat (first | exact Below.refl _ _ | refine Below.setCell ?_ (Nat.le_refl _) _ | refine Below.setCell ?_ (Nat.le_succ _) _ | apply below_alloc)⟩
set_option maxHeartbeats 2000000 in
set_option maxRecDepth 100000 in
theorem quarryref01_Check.y1 (a b : Int) (c : ByteArray) (w : World) (ha : a = 4) (hb : b = 0) :
  Calls Try.prog 19 #[.agg #[.int .i64 a, .int .i64 b, .string c]] w fun e w' => e = .returned (.int .i64 0) ∧ Below w.heap.size w w' := by
 have lo : decide (a < 0) = false := decide_eq_false (by omega)
 have hi : decide (4 < a) = false := decide_eq_false (by omega)
 have hu38 := Try.underlying32
 have k0 : (a == 0) = false := beq_eq_false_iff_ne.mpr (by omega)
 have k1 : (a == 1) = false := beq_eq_false_iff_ne.mpr (by omega)
 have k2 : (a == 2) = false := beq_eq_false_iff_ne.mpr (by omega)
 have k3 : (a == 3) = false := beq_eq_false_iff_ne.mpr (by omega)
 have k4 : (a == 4) = true := beq_iff_eq.mpr ha
 have b0 : (b == 0) = true := beq_iff_eq.mpr hb
 have b1 : (b == 1) = false := beq_eq_false_iff_ne.mpr (by omega)
 have n0 : (b != 0) = false := by rw [bne, b0]; rfl
 have n1 : (b != 1) = true := by rw [bne, b1]; rfl
 clear ha hb
 go_enter Try.func19, Try.ntmps19
 go_wp2
 go_ret
 exact ⟨rfl, by repeat (first | exact Below.refl _ _ | refine Below.setCell ?_ (Nat.le_refl _) _ | refine Below.setCell ?_ (Nat.le_succ _) _ | apply below_alloc)⟩
set_option maxHeartbeats 2000000 in
set_option maxRecDepth 100000 in
theorem quarryref01_Check.y2 (a b : Int) (c : ByteArray) (w : World) (ha : a = 4) (hb : ¬ b = 0) :
  Calls Try.prog 19 #[.agg #[.int .i64 a, .int .i64 b, .string c]] w fun e w' => e = .returned (.int .i64 3) ∧ Below w.heap.size w w' := by
 have lo : decide (a < 0) = false := decide_eq_false (by omega)
 have hi : decide (4 < a) = false := decide_eq_false (by omega)
 have hu38 := Try.underlying32
 have k0 : (a == 0) = false := beq_eq_false_iff_ne.mpr (by omega)
 have k1 : (a == 1) = false := beq_eq_false_iff_ne.mpr (by omega)
 have k2 : (a == 2) = false := beq_eq_false_iff_ne.mpr (by omega)
 have k3 : (a == 3) = false := beq_eq_false_iff_ne.mpr (by omega)
 have k4 : (a == 4) = true := beq_iff_eq.mpr ha
 have b0 : (b == 0) = false := beq_eq_false_iff_ne.mpr hb
 have n0 : (b != 0) = true := by rw [bne, b0]; rfl
 clear ha hb
 go_enter Try.func19, Try.ntmps19
 go_wp2
 go_ret
 exact ⟨rfl, by repeat (first | exact Below.refl _ _ | refine Below.setCell ?_ (Nat.le_refl _) _ | refine Below.setCell ?_ (Nat.le_succ _) _ | apply below_alloc)⟩
set_option maxHeartbeats 2000000 in
set_option maxRecDepth 100000 in
theorem quarryref01_Check.o1 (a b : Int) (c : ByteArray) (w : World) (lt : a < 0) (h0 : ¬ a = 0) (h1 : ¬ a = 1) (h2 : ¬ a = 2) (h3 : ¬ a = 3) (h4 : ¬ a = 4) :
  Calls Try.prog 19 #[.agg #[.int .i64 a, .int .i64 b, .string c]] w fun e w' => e = .returned (.int .i64 5) ∧ Below w.heap.size w w' := by
 have lo : decide (a < 0) = true := decide_eq_true lt
 have hu38 := Try.underlying32
 have k0 : (a == 0) = false := beq_eq_false_iff_ne.mpr h0
 have k1 : (a == 1) = false := beq_eq_false_iff_ne.mpr h1
 have k2 : (a == 2) = false := beq_eq_false_iff_ne.mpr h2
 have k3 : (a == 3) = false := beq_eq_false_iff_ne.mpr h3
 have k4 : (a == 4) = false := beq_eq_false_iff_ne.mpr h4
 clear lt h0 h1 h2 h3 h4
 go_enter Try.func19, Try.ntmps19
 go_wp2
 go_ret
 exact ⟨rfl, by repeat (first | exact Below.refl _ _ | refine Below.setCell ?_ (Nat.le_refl _) _ | refine Below.setCell ?_ (Nat.le_succ _) _ | apply below_alloc)⟩
set_option maxHeartbeats 2000000 in
set_option maxRecDepth 100000 in
theorem quarryref01_Check.o2 (a b : Int) (c : ByteArray) (w : World) (lt : 4 < a) (h0 : ¬ a = 0) (h1 : ¬ a = 1) (h2 : ¬ a = 2) (h3 : ¬ a = 3) (h4 : ¬ a = 4) :
  Calls Try.prog 19 #[.agg #[.int .i64 a, .int .i64 b, .string c]] w fun e w' => e = .returned (.int .i64 5) ∧ Below w.heap.size w w' := by
 have lo : decide (a < 0) = false := decide_eq_false (by omega)
 have hi : decide (4 < a) = true := decide_eq_true lt
 have hu38 := Try.underlying32
 have k0 : (a == 0) = false := beq_eq_false_iff_ne.mpr h0
 have k1 : (a == 1) = false := beq_eq_false_iff_ne.mpr h1
 have k2 : (a == 2) = false := beq_eq_false_iff_ne.mpr h2
 have k3 : (a == 3) = false := beq_eq_false_iff_ne.mpr h3
 have k4 : (a == 4) = false := beq_eq_false_iff_ne.mpr h4
 clear lt h0 h1 h2 h3 h4
 go_enter Try.func19, Try.ntmps19
 go_wp2
 go_ret
 exact ⟨rfl, by repeat (first | exact Below.refl _ _ | refine Below.setCell ?_ (Nat.le_refl _) _ | refine Below.setCell ?_ (Nat.le_succ _) _ | apply below_alloc)⟩
theorem quarryref01_Check.calls (a0_0 : Int) (a0_1 : Int) (a0_2 : ByteArray) (r : Int) (w : World) (h : quarryref01_Check.f a0_0 a0_1 a0_2 = some r) :
  Calls Try.prog 19 #[.agg #[.int .i64 a0_0, .int .i64 a0_1, .string a0_2]] w fun e w' => e = .returned (.int .i64 r) ∧ Below w.heap.size w w' := by
 obtain rfl : chkR a0_0 a0_1 a0_2 = r := Option.some.inj h
 clear h
 unfold chkR
 by_cases h0 : a0_0 = 0
 ·rw [if_pos h0]
  by_cases hb : a0_1 = 0
  ·by_cases he : a0_2.toList = []
   ·rw [if_pos ⟨hb, he⟩]; exact quarryref01_Check.z1 _ _ _ w h0 hb he
   ·rw [if_neg (fun h => he h.2)]; exact quarryref01_Check.z2 _ _ _ w h0 hb he
  ·rw [if_neg (fun h => hb h.1)]; exact quarryref01_Check.z3 _ _ _ w h0 hb
 rw [if_neg h0]
 by_cases h1 : a0_0 = 1
 ·rw [if_pos h1]
  by_cases he : a0_2.toList = []
  ·by_cases hb : a0_1 = 1
   ·rw [if_pos ⟨.inr hb, he⟩]; exact quarryref01_Check.t1 _ _ _ w h1 hb he
   ·by_cases hb0 : a0_1 = 0
    ·rw [if_pos ⟨.inl hb0, he⟩]; exact quarryref01_Check.t3 _ _ _ w h1 hb0 he
    ·rw [if_neg (fun h => h.1.elim hb0 hb)]; exact quarryref01_Check.t5 _ _ _ w h1 hb0 hb he
  ·rw [if_neg (fun h => he h.2)]
   by_cases hb : a0_1 = 1
   ·exact quarryref01_Check.t2 _ _ _ w h1 hb he
   ·by_cases hb0 : a0_1 = 0
    ·exact quarryref01_Check.t4 _ _ _ w h1 hb0 he
    ·exact quarryref01_Check.t6 _ _ _ w h1 hb0 hb he
 rw [if_neg h1]
 by_cases h2 : a0_0 = 2
 ·rw [if_pos h2]
  by_cases he : a0_2.toList = []
  ·rw [if_pos he]; exact quarryref01_Check.n1 _ _ _ w h2 he
  ·rw [if_neg he]; exact quarryref01_Check.n2 _ _ _ w h2 he
 rw [if_neg h2]
 by_cases h3 : a0_0 = 3
 ·rw [if_pos (.inl h3)]
  by_cases hb : a0_1 = 0
  ·rw [if_pos hb]; exact quarryref01_Check.x1 _ _ _ w h3 hb
  ·rw [if_neg hb]; exact quarryref01_Check.x2 _ _ _ w h3 hb
 by_cases h4 : a0_0 = 4
 ·rw [if_pos (.inr h4)]
  by_cases hb : a0_1 = 0
  ·rw [if_pos hb]; exact quarryref01_Check.y1 _ _ _ w h4 hb
  ·rw [if_neg hb]; exact quarryref01_Check.y2 _ _ _ w h4 hb
 rw [if_neg (by omega)]
 by_cases hn : a0_0 < 0
 ·exact quarryref01_Check.o1 _ _ _ w hn h0 h1 h2 h3 h4
 ·exact quarryref01_Check.o2 _ _ _ w (by omega) h0 h1 h2 h3 h4
def quarrylaw17_right.l0 : Nat → List (S32) → Int → Option (Bool)
 | 0, _, _ => none
 | k + 1, x0, x3 => if x3 < (x0.length : Int) then (if 0 ≤ x3 then ((quarryref01_Check.f ((rd_T32 x0 x3).f0) ((rd_T32 x0 x3).f1) ((rd_T32 x0 x3).f2)).bind fun t129 => (if t129 = 0 then (quarrylaw17_right.l0 k x0 (wrap64 (x3 + 1))) else (some false))) else (none)) else (some (decide ((x0.length : Int) ≤ 300)))
def quarrylaw17_right.f (k : Nat) (l0 : List (S32)) : Option (Bool) := quarrylaw17_right.l0 k l0 0
set_option maxHeartbeats 8000000 in
set_option maxRecDepth 100000 in
theorem quarrylaw17_right.calls (k : Nat) (A0 : Option Addr) (c0 : Nat) (l0 : List (S32)) (r : Bool) (w : World) (hr0 : Kd.C k32 w A0 l0.length l0) (hc0 : l0.length ≤ c0) (h : quarrylaw17_right.f k l0 = some r) :
  Calls Try.prog 10 #[.slice A0 l0.length c0] w fun e w' => e = .returned (.bool r) ∧ Below w.heap.size w w' := by
 have hu32 := Try.underlying32
 have HR0 := Aside0.mk hr0
 have HC0 := Aside0.mk hc0
 clear hr0 hc0
 have HB := Aside0.mk (Below.refl w.heap.size w)
 have H : (quarrylaw17_right.l0 k l0 0) = some r := h
 clear h
 have H' := Aside0.mk H
 clear H
 go_enter Try.func10, Try.ntmps10
 go_wp2
 go_loopg [3] k (fun kq v3 w' => ∃ (x3_1 : Int), v3 = .int .i64 x3_1 ∧ Aside0 (quarrylaw17_right.l0 kq l0 x3_1 = some r) ∧ Aside0 (kq ≤ k) ∧ Aside0 (Below w.heap.size w w'))
 case atStart => exact ⟨(0), (by first | rfl | (simp; done) | (simp [*]; done)), H', ⟨Nat.le_refl _⟩, ⟨by repeat (first | (with_reducible first | exact HB.out | apply below_alloc | apply pw_below_drewN | apply below_drew1) | exact HB.out)⟩⟩
 case round =>
  clear H'
  try clear c1
  obtain ⟨x3_1, rfl, HA, HK1, HB⟩ := hrel
  cases gk with
  | zero => exact absurd HA.out (by simp [quarrylaw17_right.l0])
  | succ k1 =>
   have H := HA.out
   clear HA
   simp only [quarrylaw17_right.l0] at H
   by_cases c2 : x3_1 < (l0.length : Int)
   ·rw [if_pos c2] at H
    have c2b0 : decide (x3_1 < (l0.length : Int)) = true := decide_eq_true c2
    clear c2
    by_cases c3 : 0 ≤ x3_1
    ·rw [if_pos c3] at H
     have c3b0 : decide (0 ≤ x3_1) = true := decide_eq_true c3
     clear c3
     replace H := Option.bind_eq_some_iff.mp H
     obtain ⟨t129, A40, H⟩ := H
     replace H : (if t129 = 0 then (quarrylaw17_right.l0 k1 l0 (wrap64 (x3_1 + 1))) else (some false)) = some r := H
     have A4 := Aside0.mk A40
     clear A40
     by_cases c5 : t129 = 0
     ·rw [if_pos c5] at H
      have c5b0 : (t129 == 0) = true := beq_iff_eq.mpr c5
      have c5b1 : (t129 != 0) = false := bne_eq_false_iff_eq.mpr c5
      clear c5
      have H' := Aside0.mk H
      clear H
      have p128 : 0 ≤ (x3_1 : Int) := of_decide_eq_true (by first | (with_reducible assumption) | assumption)
      have q128 : x3_1 < (l0.length : Int) := of_decide_eq_true (by first | (with_reducible assumption) | assumption)
      obtain ⟨ad128, e128, hx128_0, hx128_1, hx128_2⟩ := at_T32 HR0.out x3_1 p128 q128
      cases e128
      replace hx128_0 := (HB.out.cell (World.block_lt_of_cell? w _ hx128_0)).trans hx128_0
      replace hx128_1 := (HB.out.cell (World.block_lt_of_cell? w _ hx128_1)).trans hx128_1
      replace hx128_2 := (HB.out.cell (World.block_lt_of_cell? w _ hx128_2)).trans hx128_2
      replace p128 := eq_true p128
      replace q128 := eq_true q128
      go_wp2_with (first | ((with_reducible refine gate_callee (f := 19) rfl ?_); refine goesL_ (some 14) rfl rfl Try.func19 (by kernel_rfl) rfl #[.agg #[.int .i64 ((rd_T32 l0 x3_1).f0), .int .i64 ((rd_T32 l0 x3_1).f1), .string ((rd_T32 l0 x3_1).f2)]] rfl (by (try simp only [List.map_toArray, List.map_cons, List.map_nil]); first | done | rfl | (simp only [List.length_drop, List.length_take]; rfl)) ?_; (with_reducible refine (quarryref01_Check.calls ((rd_T32 l0 x3_1).f0) ((rd_T32 l0 x3_1).f1) ((rd_T32 l0 x3_1).f2) t129 _ A4.out).mono ?_); rintro e w6 ⟨rfl, hb⟩; refine ⟨_, rfl, ?_⟩; have n0_ := Aside0.mk (below_step (by repeat (first | (with_reducible first | exact HB.out | apply below_alloc | apply pw_below_drewN | apply below_drew1) | exact HB.out)) hb); clear HB; have HB := n0_; clear n0_; (try clear hb); (try clear hb2); (try clear hk); (try clear hi)))
      go_roundg k1
      case measure => have := HK1.out; omega
      case rel => exact ⟨(wrap64 (x3_1 + 1)), (by first | rfl | (simp; done) | (simp [*]; done)), H', ⟨by have := HK1.out; omega⟩, ⟨by repeat (first | (with_reducible first | exact HB.out | apply below_alloc | apply pw_below_drewN | apply below_drew1) | exact HB.out)⟩⟩
     ·rw [if_neg c5] at H
      have c5b0 : (t129 == 0) = false := beq_eq_false_iff_ne.mpr c5
      have c5b1 : (t129 != 0) = true := bne_iff_ne.mpr c5
      obtain rfl := Option.some.inj H
      have p128 : 0 ≤ (x3_1 : Int) := of_decide_eq_true (by first | (with_reducible assumption) | assumption)
      have q128 : x3_1 < (l0.length : Int) := of_decide_eq_true (by first | (with_reducible assumption) | assumption)
      obtain ⟨ad128, e128, hx128_0, hx128_1, hx128_2⟩ := at_T32 HR0.out x3_1 p128 q128
      cases e128
      replace hx128_0 := (HB.out.cell (World.block_lt_of_cell? w _ hx128_0)).trans hx128_0
      replace hx128_1 := (HB.out.cell (World.block_lt_of_cell? w _ hx128_1)).trans hx128_1
      replace hx128_2 := (HB.out.cell (World.block_lt_of_cell? w _ hx128_2)).trans hx128_2
      replace p128 := eq_true p128
      replace q128 := eq_true q128
      go_wp2_with (first | ((with_reducible refine gate_callee (f := 19) rfl ?_); refine goesL_ (some 14) rfl rfl Try.func19 (by kernel_rfl) rfl #[.agg #[.int .i64 ((rd_T32 l0 x3_1).f0), .int .i64 ((rd_T32 l0 x3_1).f1), .string ((rd_T32 l0 x3_1).f2)]] rfl (by (try simp only [List.map_toArray, List.map_cons, List.map_nil]); first | done | rfl | (simp only [List.length_drop, List.length_take]; rfl)) ?_; (with_reducible refine (quarryref01_Check.calls ((rd_T32 l0 x3_1).f0) ((rd_T32 l0 x3_1).f1) ((rd_T32 l0 x3_1).f2) t129 _ A4.out).mono ?_); rintro e w7 ⟨rfl, hb⟩; refine ⟨_, rfl, ?_⟩; have n0_ := Aside0.mk (below_step (by repeat (first | (with_reducible first | exact HB.out | apply below_alloc | apply pw_below_drewN | apply below_drew1) | exact HB.out)) hb); clear HB; have HB := n0_; clear n0_; (try clear hb); (try clear hb2); (try clear hk); (try clear hi)))
      go_ret
      exact ⟨by first | rfl | (simp [errW_none, errW_some] <;> rfl) | (simp [*, errW_none, errW_some] <;> rfl), by repeat (first | (with_reducible first | exact HB.out | apply below_alloc | apply pw_below_drewN | apply below_drew1) | exact HB.out)⟩
    ·rw [if_neg c3] at H
     exact absurd H (by simp)
   ·rw [if_neg c2] at H
    have c2b0 : decide (x3_1 < (l0.length : Int)) = false := decide_eq_false c2
    clear c2
    obtain rfl := Option.some.inj H
    go_wp2
    go_ret
    exact ⟨by first | rfl | (simp [errW_none, errW_some] <;> rfl) | (simp [*, errW_none, errW_some] <;> rfl), by repeat (first | (with_reducible first | exact HB.out | apply below_alloc | apply pw_below_drewN | apply below_drew1) | exact HB.out)⟩
end Go.Proofs.Ytgjfciohmgpohaa.P
end
section
namespace Go.Proofs.Ytgjfciohmgpohaa.Pure
set_option linter.unusedVariables false
set_option linter.unusedSimpArgs false
open Go.RowKit Go.Proofs.Ytgjfciohmgpohaa.P Go.Proofs.YtgjfciohmgpohaaW.PrintWords Go.Proofs.YtgjfciohmgpohaaW.PrintLast Go.Proofs.YtgjfciohmgpohaaW.PrintMore
def okV (x : S32) : Bool := chkR x.f0 x.f1 x.f2 == 0
theorem right_loop : ∀ (s p : List S32), (p ++ s).length < 140737488355328 → Ev (fun k => quarrylaw17_right.l0 k (p ++ s) (p.length : Int)) (s.all okV && decide (((p ++ s).length : Int) ≤ 300))
  | [], p, hl => by
    refine Ev.succ ?_
    simp only [quarrylaw17_right.l0, List.append_nil, Int.lt_irrefl, if_false]
    exact Ev.pure _
  | x :: s, p, hl => by
    refine Ev.succ ?_
    have h1 : (p.length : Int) < ((p ++ x :: s).length : Int) := by simp; omega
    have h2 : (0 : Int) ≤ (p.length : Int) := by omega
    simp only [quarrylaw17_right.l0, if_pos h1, if_pos h2, rd_at, quarryref01_Check.f, Option.bind_some]
    by_cases h : chkR x.f0 x.f1 x.f2 = 0
    · simp only [if_pos h]
      have ih := right_loop s (p ++ [x]) (by simpa using hl)
      have hw : wrap64 ((p.length : Int) + 1) = ((p ++ [x]).length : Int) := by
        simp at hl
        unfold wrap64
        simp
        omega
      rw [hw]
      have hb : (x :: s).all okV = s.all okV := by simp [okV, h]
      rw [hb]
      simpa using ih
    · simp only [if_neg h]
      have hb : (x :: s).all okV = false := by simp [okV, h]
      rw [hb]
      exact Ev.pure _
theorem right_ev (l : List S32) (hl : l.length < 140737488355328) : Ev (fun k => quarrylaw17_right.f k l) (l.all okV && decide ((l.length : Int) ≤ 300)) := by
  have := right_loop l [] (by simpa using hl)
  simpa [quarrylaw17_right.f] using this
end Go.Proofs.Ytgjfciohmgpohaa.Pure
end
section
namespace Go.Proofs.Ytgjfciohmgpohaa.P
open Go.RowKit Go.Proofs.Ytgjfciohmgpohaa.Pure Go.Proofs.YtgjfciohmgpohaaW.PrintWords Go.Proofs.YtgjfciohmgpohaaW.PrintLast Go.Proofs.YtgjfciohmgpohaaW.PrintMore
attribute [local go_sem] max2_int min2_int max_two min_two max_three min_three max_four min_four
set_option linter.unusedVariables false
set_option linter.unusedSimpArgs false
theorem elem_cells {l : List S32} {w wr : World} {ad : Addr} {k : Nat} (hr : Kd.C k32 w (some ad) l.length l) (hb : Below w.heap.size w wr) (hk : k < l.length) :
    wr.cell? (ad.add (k * 3)) = some (.int .i64 (rd_T32 l k).f0) ∧ wr.cell? ⟨(ad.add (k * 3)).block, (ad.add (k * 3)).off + 1, none⟩ = some (.int .i64 (rd_T32 l k).f1) ∧ wr.cell? ⟨(ad.add (k * 3)).block, (ad.add (k * 3)).off + 2, none⟩ = some (.string (rd_T32 l k).f2) := by
  obtain ⟨ad2, e2, hx0, hx1, hx2⟩ := at_T32 (Kd.C_below hr hb) k (by omega) (by omega)
  cases e2
  exact ⟨hx0, hx1, hx2⟩
theorem AccAt.drew_ {w : World} {b g : Nat} {rows : Bool} {st : Gst} (h : AccAt w b g rows st) : AccAt w.drew b g rows st := h.below (below_drew1 (Below.refl _ _))
theorem RefOwn.drew_ {w : World} {b B : Nat} {op : Int} {rows : Bool} {u : Value} {l : List S32} (h : RefOwn w b B op rows u l) : RefOwn w.drew b B op rows u l := h.below (below_drew1 (Below.refl _ _))
theorem below_drew_ {w wr : World} {B : Nat} (h : Below B w wr) : Below B w wr.drew := below_drew1 h
theorem fits_num0 : FitsV (numV 0) := by
  refine ⟨?_, ?_⟩
  · show In64 0; decide
  · show (0 : Nat) ≤ 140737488351232; omega
theorem acc_value_as (b g : Nat) (rows : Bool) (st : Gst) (w : World) (h : AccAt w b g rows st) (v : S32) (hv : valP st = v) :
    Calls Try.prog 11 #[.pointer (some ⟨b, 0, none⟩)] w fun e w' => e = .returned (.agg #[.int .i64 v.f0, .int .i64 v.f1, .string v.f2]) ∧ Below w.heap.size w w' := by
  subst hv
  exact acc_value.calls b g rows st w h
theorem rvalue_as (b B : Nat) (op : Int) (rows : Bool) (l : List S32) (u : Value) (w : World) (hb : RefOwn w b B op rows u l) (ho : 1 ≤ op ∧ op ≤ 4) (hf : ∀ v ∈ l, FitsV v) (v : S32) (hv : refV op l = v) :
    Calls Try.prog 12 #[.pointer (some ⟨b, 0, none⟩)] w fun e w' => e = .returned (.agg #[.int .i64 v.f0, .int .i64 v.f1, .string v.f2]) ∧ Below w.heap.size w w' := by
  subst hv
  exact rvalue_own b B op rows l u w hb ho hf
set_option maxHeartbeats 2000000 in
set_option maxRecDepth 100000 in
theorem plays.no (op : Int) (rows : Bool) (l : List S32) (A : Option Addr) (c : Nat) (w : World) (h : newP op rows = none) :
    Calls Try.prog 3 #[.int .i64 op, .bool rows, .slice A l.length c] w fun e w' => e = .returned (.bool true) ∧ Below w.heap.size w w' := by
  have HN := Aside0.mk h
  clear h
  go_enter Try.func3, Try.ntmps3
  go_wp2_with fail
  refine (new_no op rows _ HN.out).mono ?_
  rintro e w1 ⟨rfl, hb⟩
  have HB := Aside0.mk hb
  clear hb
  go_wp2_with fail
  refine (rnew.bad op rows _ (newP_bad HN.out)).mono ?_
  rintro e w2 ⟨rfl, hb⟩
  have HB2 := Aside0.mk (below_step HB.out hb)
  clear hb
  go_wp2_with fail
  go_ret
  exact ⟨rfl, HB2.out⟩
def rightB (l : List S32) : Bool := l.all okV && decide ((l.length : Int) ≤ 300)
theorem right_calls (l : List S32) (A : Option Addr) (c : Nat) (w : World) (hr : Kd.C k32 w A l.length l) (hc : l.length ≤ c) (hl : l.length < 140737488355328) :
    Calls Try.prog 10 #[.slice A l.length c] w fun e w' => e = .returned (.bool (rightB l)) ∧ Below w.heap.size w w' := by
  obtain ⟨k, hk⟩ := (right_ev l hl).get
  exact quarrylaw17_right.calls k A c l _ w hr hc hk
set_option maxHeartbeats 4000000 in
set_option maxRecDepth 100000 in
theorem plays.yes (op : Int) (rows : Bool) (l : List S32) (A : Option Addr) (c : Nat) (w : World) (hr : Kd.C k32 w A l.length l) (hc : l.length ≤ c) (hl : l.length < 140737488355328) (hf : ∀ v ∈ l, FitsV v) (st : Gst) (h : newP op rows = some st) (hok : rightB l = true) :
    Calls Try.prog 3 #[.int .i64 op, .bool rows, .slice A l.length c] w fun e w' => e = .returned (.bool true) ∧ Below w.heap.size w w' := by
  have hu := Try.underlying32
  have HN := Aside0.mk h
  have HR := Aside0.mk hr
  have HF := Aside0.mk hf
  have HC := Aside0.mk hc
  have HLN := Aside0.mk hl
  have HOK := Aside0.mk hok
  have HM : Aside0 (l.length ≤ 300) := ⟨by unfold rightB at hok; simp only [Bool.and_eq_true, decide_eq_true_eq] at hok; omega⟩
  obtain ⟨p1, p2, p3⟩ := newP_rows h
  have HRO := Aside0.mk p1
  have HOP := Aside0.mk p2
  have HNB := Aside0.mk p3
  clear h hr hf hc hl hok p1 p2 p3
  go_enter Try.func3, Try.ntmps3
  go_wp2_with fail
  refine (new_st op rows st _ HN.out).mono ?_
  rintro e w1 ⟨rfl, hA, hb⟩
  have HBG : Aside0 (w.heap.size + 1 < w1.heap.size) := ⟨blk_lt hA.1⟩
  have HA1 := Aside0.mk hA
  have HB1 := Aside0.mk hb
  clear hA hb
  go_wp2_with fail
  refine (rnew.ok op rows _ HNB.out).mono ?_
  rintro e w2 ⟨rfl, hR, hb⟩
  have HO2 : Aside0 (RefOwn w2 w1.heap.size w1.heap.size op rows (.slice none 0 0) []) := ⟨hR, Kd.R_nil _ _ _ _ _⟩
  have HA2 := Aside0.mk (HA1.out.below hb)
  have HB2 := Aside0.mk (below_step HB1.out hb)
  clear hR hb
  obtain ⟨b, hbb⟩ : ∃ b, b = w1.heap.size := ⟨_, rfl⟩
  rw [← hbb] at HBG HO2 ⊢
  clear hbb
  go_wp2_with fail
  refine (right_calls l A c _ (Kd.C_below HR.out HB2.out) HC.out HLN.out).mono ?_
  rintro e w3 ⟨rfl, hb⟩
  have q0 : rightB l = true := HOK.out
  have HO3 := Aside0.mk (HO2.out.below hb)
  have HA3 := Aside0.mk (HA2.out.below hb)
  have HB3 := Aside0.mk (below_step HB2.out hb)
  clear hb HO2 HA2 HB2 HA1 HB1
  go_wp2_with fail
  refine (acc_value_as (w.heap.size + 1) w.heap.size rows st _ HA3.out (refV op []) (acc_val (acc_start HN.out))).mono ?_
  rintro e w4 ⟨rfl, hb⟩
  have HO4 := Aside0.mk (HO3.out.below hb)
  have HA4 := Aside0.mk (HA3.out.below hb)
  have HB4 := Aside0.mk (below_step HB3.out hb)
  clear hb HO3 HA3 HB3 q0
  go_wp2_with fail
  refine (rvalue_as b b op rows [] _ _ HO4.out HOP.out (fun v hv => by cases hv) (refV op []) rfl).mono ?_
  rintro e w5 ⟨rfl, hb⟩
  have HO5 := Aside0.mk (HO4.out.below hb)
  have HA5 := Aside0.mk (HA4.out.below hb)
  have HB5 := Aside0.mk (below_step HB4.out hb)
  clear hb HO4 HA4 HB4
  go_wp2_with fail
  go_loopw [11] (fun v11 wr => ∃ (k : Nat) (s : Gst) (L : List S32) (u : Value), v11 = .int .i64 k ∧ k ≤ l.length ∧ Aside0 (accOK op rows s L) ∧ Aside0 (L.length ≤ k) ∧ Aside0 s.fits ∧ Aside0 (∀ x ∈ L, FitsV x) ∧ Aside0 (AccAt wr (w.heap.size + 1) w.heap.size rows s) ∧ Aside0 (RefOwn wr b b op rows u L) ∧ Aside0 (Below w.heap.size w wr)) (fun v11 _ => l.length - (intOf v11).toNat)
  case atStart => exact ⟨0, st, [], _, rfl, Nat.zero_le _, ⟨acc_start HN.out⟩, ⟨Nat.le_refl _⟩, ⟨newP_fitsR HN.out⟩, ⟨fun x hx => by cases hx⟩, HA5, HO5, HB5⟩
  case round =>
    clear HA5 HO5 HB5
    obtain ⟨k, s, L, u, rfl, hk, HI, HLL, HS, HLF, HA, HO, HBW⟩ := hrel
    by_cases hlt : k < l.length
    · have q_a : decide (k < l.length) = true := decide_eq_true hlt
      have q_b : decide ((k : Int) < (l.length : Int)) = true := decide_eq_true (by omega)
      have q_c : (k < l.length) = True := eq_true hlt
      have q_e : ((k : Int) < (l.length : Int)) = True := eq_true (by omega)
      have q_d : (0 ≤ (k : Int)) = True := eq_true (by omega)
      have HK : Aside0 (k < l.length) := ⟨hlt⟩
      have hkm : k < 9223372036854775807 := by have := HM.out; omega
      obtain ⟨ad, rfl, hx0, hx1, hx2⟩ := at_T32 (Kd.C_below HR.out HBW.out) k (by omega) (by omega)
      replace hx0 : wr.cell? (ad.add (k * 3)) = some (.int .i64 (rd_T32 l k).f0) := hx0
      replace hx1 : wr.cell? ⟨(ad.add (k * 3)).block, (ad.add (k * 3)).off + 1, none⟩ = some (.int .i64 (rd_T32 l k).f1) := hx1
      replace hx2 : wr.cell? ⟨(ad.add (k * 3)).block, (ad.add (k * 3)).off + 2, none⟩ = some (.string (rd_T32 l k).f2) := hx2
      have HV := Aside0.mk (rd_fits HF.out k hlt)
      have HST := Aside0.mk (acc_step HI.out (rd_T32 l k) (by have := HLL.out; have := HM.out; omega))
      have HMM := Aside0.mk (addR_mem op rows L (rd_T32 l k))
      have HLF2 : Aside0 (∀ x ∈ (addR op rows L (rd_T32 l k)).1, FitsV x) := ⟨fun x hx => ((HMM.out.1 x hx).elim (HLF.out x) (fun e => e ▸ HV.out))⟩
      obtain ⟨v5, hv5⟩ : ∃ v5, refV op (addR op rows L (rd_T32 l k)).1 = v5 := ⟨_, rfl⟩
      have HVE := Aside0.mk hv5
      have HLE : Aside0 (valP (addP s rows (rd_T32 l k)).1 = v5) := ⟨(acc_val HST.out.2).trans hv5⟩
      clear hv5
      have q1 : ((addP s rows (rd_T32 l k)).2 != (addR op rows L (rd_T32 l k)).2) = false := by rw [HST.out.1]; simp
      clear hlt hk
      go_wp2_with fail
      refine start_ (n := 20) (S := fun w' => w'.cell? (ad.add (k * 3)) = some (.int .i64 (rd_T32 l k).f0) ∧ w'.cell? ⟨(ad.add (k * 3)).block, (ad.add (k * 3)).off + 1, none⟩ = some (.int .i64 (rd_T32 l k).f1) ∧ w'.cell? ⟨(ad.add (k * 3)).block, (ad.add (k * 3)).off + 2, none⟩ = some (.string (rd_T32 l k).f2)) (ds := []) #[false, false, false, false, false, false, false, false, false, false, false, false, false, false, false, false, false, false, false, false] (by kernel_rfl) rfl rfl ⟨hx0, hx1, hx2⟩ (fun hHeld => ?_)
      refine pure_ (i := 0) (N := some 52) (v := ?_) (a' := ?_) #[true, false, false, false, false, false, false, false, false, false, false, false, false, false, false, false, false, false, false, false] rfl rfl (by kernel_rfl) (fun _ _ _ h => h) (Or.inl ⟨by rfl, ?_⟩) ?_ ?_
      rotate_left
      · intro w'
        go_simp
        with_reducible rfl
      rotate_left
      · simp only [Act.put, List.setIfInBounds_toArray, List.set_cons_zero, List.set_cons_succ, i64_w, i32_w]
        rfl
      refine pure_ (i := 1) (N := some 53) (v := ?_) (a' := ?_) #[true, true, false, false, false, false, false, false, false, false, false, false, false, false, false, false, false, false, false, false] rfl rfl (by kernel_rfl) (fun _ _ _ h => h) (Or.inl ⟨by rfl, ?_⟩) ?_ ?_
      rotate_left
      · intro w'
        go_simp
        with_reducible rfl
      rotate_left
      · simp only [Act.put, List.setIfInBounds_toArray, List.set_cons_zero, List.set_cons_succ, i64_w, i32_w]
        rfl
      refine pure_ (i := 2) (N := some 54) (v := ?_) (a' := ?_) #[true, true, true, false, false, false, false, false, false, false, false, false, false, false, false, false, false, false, false, false] rfl rfl (by kernel_rfl) (fun _ _ _ h => h) (Or.inl ⟨by rfl, ?_⟩) ?_ ?_
      rotate_left
      · intro w'
        go_simp
        with_reducible rfl
      rotate_left
      · simp only [Act.put, List.setIfInBounds_toArray, List.set_cons_zero, List.set_cons_succ, i64_w, i32_w]
        rfl
      refine pure_ (i := 3) (N := some 55) (v := ?_) (a' := ?_) #[true, true, true, true, false, false, false, false, false, false, false, false, false, false, false, false, false, false, false, false] rfl rfl (by kernel_rfl) (fun _ _ _ h => h) (Or.inl ⟨by rfl, ?_⟩) ?_ ?_
      rotate_left
      · intro w'
        go_simp
        with_reducible rfl
      rotate_left
      · simp only [Act.put, List.setIfInBounds_toArray, List.set_cons_zero, List.set_cons_succ, i64_w, i32_w]
        rfl
      refine pure_ (i := 6) (N := some 58) (v := ?_) (a' := ?_) #[true, true, true, true, false, false, true, false, false, false, false, false, false, false, false, false, false, false, false, false] rfl rfl (by kernel_rfl) (fun _ _ _ h => h) (Or.inl ⟨by rfl, ?_⟩) ?_ ?_
      rotate_left
      · intro w'
        go_simp
        with_reducible rfl
      rotate_left
      · simp only [Act.put, List.setIfInBounds_toArray, List.set_cons_zero, List.set_cons_succ, i64_w, i32_w]
        rfl
      refine pure_ (i := 7) (N := some 59) (v := ?_) (a' := ?_) #[true, true, true, true, false, false, true, true, false, false, false, false, false, false, false, false, false, false, false, false] rfl rfl (by kernel_rfl) (fun _ _ _ h => h) (Or.inl ⟨by rfl, ?_⟩) ?_ ?_
      rotate_left
      · intro w'
        go_simp
        with_reducible rfl
      rotate_left
      · simp only [Act.put, List.setIfInBounds_toArray, List.set_cons_zero, List.set_cons_succ, i64_w, i32_w]
        rfl
      refine pure_ (i := 8) (N := some 60) (v := ?_) (a' := ?_) #[true, true, true, true, false, false, true, true, true, false, false, false, false, false, false, false, false, false, false, false] rfl rfl (by kernel_rfl) (fun _ _ _ h => h) (Or.inl ⟨by rfl, ?_⟩) ?_ ?_
      rotate_left
      · intro w'
        go_simp
        with_reducible rfl
      rotate_left
      · simp only [Act.put, List.setIfInBounds_toArray, List.set_cons_zero, List.set_cons_succ, i64_w, i32_w]
        rfl
      refine pure_ (i := 9) (N := some 61) (v := ?_) (a' := ?_) #[true, true, true, true, false, false, true, true, true, true, false, false, false, false, false, false, false, false, false, false] rfl rfl (by kernel_rfl) (fun _ _ _ h => h) (Or.inl ⟨by rfl, ?_⟩) ?_ ?_
      rotate_left
      · intro w'
        go_simp
        with_reducible rfl
      rotate_left
      · simp only [Act.put, List.setIfInBounds_toArray, List.set_cons_zero, List.set_cons_succ, i64_w, i32_w]
        rfl
      refine take_ (i := 4) (N := some 56) (v := ?_) (a' := ?_) #[true, true, true, true, true, false, true, true, true, true, false, false, false, false, false, false, false, false, false, false] rfl rfl (by kernel_rfl) (fun _ _ _ h => h) (Or.inl ⟨by rfl, ?_⟩) hHeld ?_ ?_
      rotate_left
      · rintro w' ⟨s0, s1, s2⟩
        go_simp
        with_reducible rfl
      rotate_left
      · simp only [Act.put, List.setIfInBounds_toArray, List.set_cons_zero, List.set_cons_succ, i64_w, i32_w]
        rfl
      refine take_ (i := 10) (N := some 62) (v := ?_) (a' := ?_) #[true, true, true, true, true, false, true, true, true, true, true, false, false, false, false, false, false, false, false, false] rfl rfl (by kernel_rfl) (fun _ _ _ h => h) (Or.inl ⟨by rfl, ?_⟩) hHeld ?_ ?_
      rotate_left
      · rintro w' ⟨s0, s1, s2⟩
        go_simp
        with_reducible rfl
      rotate_left
      · simp only [Act.put, List.setIfInBounds_toArray, List.set_cons_zero, List.set_cons_succ, i64_w, i32_w]
        rfl
      refine one_ (i := 5) (N := some 57) #[true, true, true, true, true, true, true, true, true, true, true, false, false, false, false, false, false, false, false, false] rfl rfl (by kernel_rfl) (by decide) (fun K hK => ?_)
      refine goes_ Try.func13 (by kernel_rfl) rfl #[.pointer (some ⟨w.heap.size + 1, 0, none⟩), .agg #[.int .i64 (rd_T32 l k).f0, .int .i64 (rd_T32 l k).f1, .string (rd_T32 l k).f2]] (by rfl) rfl rfl (by simp only [List.map_toArray, List.map_cons, List.map_nil]; rfl) ?_
      with_reducible refine (acc_add.calls (w.heap.size + 1) w.heap.size rows s (rd_T32 l k) _ HA.out.drew_ w.heap.size (Nat.le_refl _) HS.out HV.out).mono ?_
      rintro e w2 ⟨rfl, h1, h2, h3⟩
      refine ⟨_, rfl, ?_⟩
      have HA2 := Aside0.mk h1
      have HB2 := Aside0.mk ((below_drew_ HBW.out).trans h2)
      have HO2 := Aside0.mk (RefOwn.keep HO.out.drew_ h3 (by have := HBG.out; omega) (Nat.le_refl _))
      clear h1 h2 h3 HA HBW HO
      refine hK.out _ _ ⟨(elem_cells HR.out HB2.out HK.out).1, (elem_cells HR.out HB2.out HK.out).2.1, (elem_cells HR.out HB2.out HK.out).2.2⟩ (fun hHeld => ?_)
      clear hK K
      refine norm_ (a' := ?_) ?_ ?_
      rotate_left
      · show Act.put _ (some 57) _ = _
        simp only [Act.put, List.setIfInBounds_toArray, List.set_cons_zero, List.set_cons_succ, i64_w, i32_w]
        rfl
      refine one_ (i := 11) (N := some 63) #[true, true, true, true, true, true, true, true, true, true, true, true, false, false, false, false, false, false, false, false] rfl rfl (by kernel_rfl) (by decide) (fun K hK => ?_)
      refine goes_ Try.func14 (by kernel_rfl) rfl #[.pointer (some ⟨b, 0, none⟩), .agg #[.int .i64 (rd_T32 l k).f0, .int .i64 (rd_T32 l k).f1, .string (rd_T32 l k).f2]] (by rfl) rfl rfl (by simp only [List.map_toArray, List.map_cons, List.map_nil]; rfl) ?_
      with_reducible refine (radd.calls b b op rows L u (rd_T32 l k) _ HO2.out (Nat.le_refl _) HRO.out HLF.out HV.out (sumR_fits L (numV 0) fits_num0 HLF.out) (by have := HLL.out; have := HK.out; have := HM.out; omega)).mono ?_
      rintro e w3 ⟨rfl, ⟨u1, h1⟩, h2, _⟩
      refine ⟨_, rfl, ?_⟩
      have HO3 := Aside0.mk h1
      have HA3 := Aside0.mk (AccAt.belowB HA2.out h2 HBG.out (by have := HBG.out; omega))
      have HB3 := Aside0.mk (HB2.out.trans (h2.mono (by have := HBG.out; omega)))
      clear h1 h2 HA2 HB2 HO2
      refine hK.out _ _ ⟨(elem_cells HR.out HB3.out HK.out).1, (elem_cells HR.out HB3.out HK.out).2.1, (elem_cells HR.out HB3.out HK.out).2.2⟩ (fun hHeld => ?_)
      clear hK K
      refine norm_ (a' := ?_) ?_ ?_
      rotate_left
      · show Act.put _ (some 63) _ = _
        simp only [Act.put, List.setIfInBounds_toArray, List.set_cons_zero, List.set_cons_succ, i64_w, i32_w]
        rfl
      refine pure_ (i := 12) (N := some 64) (v := ?_) (a' := ?_) #[true, true, true, true, true, true, true, true, true, true, true, true, true, false, false, false, false, false, false, false] rfl rfl (by kernel_rfl) (fun _ _ _ h => h) (Or.inl ⟨by rfl, ?_⟩) ?_ ?_
      rotate_left
      · intro w'
        go_simp
        with_reducible rfl
      rotate_left
      · simp only [Act.put, List.setIfInBounds_toArray, List.set_cons_zero, List.set_cons_succ, i64_w, i32_w]
        rfl
      refine pure_ (i := 13) (N := some 65) (v := ?_) (a' := ?_) #[true, true, true, true, true, true, true, true, true, true, true, true, true, true, false, false, false, false, false, false] rfl rfl (by kernel_rfl) (fun _ _ _ h => h) (Or.inl ⟨by rfl, ?_⟩) ?_ ?_
      rotate_left
      · intro w'
        go_simp
        with_reducible rfl
      rotate_left
      · simp only [Act.put, List.setIfInBounds_toArray, List.set_cons_zero, List.set_cons_succ, i64_w, i32_w]
        rfl
      refine pure_ (i := 14) (N := some 66) (v := ?_) (a' := ?_) #[true, true, true, true, true, true, true, true, true, true, true, true, true, true, true, false, false, false, false, false] rfl rfl (by kernel_rfl) (fun _ _ _ h => h) (Or.inl ⟨by rfl, ?_⟩) ?_ ?_
      rotate_left
      · intro w'
        go_simp
        with_reducible rfl
      rotate_left
      · simp only [Act.put, List.setIfInBounds_toArray, List.set_cons_zero, List.set_cons_succ, i64_w, i32_w]
        rfl
      refine pure_ (i := 16) (N := some 68) (v := ?_) (a' := ?_) #[true, true, true, true, true, true, true, true, true, true, true, true, true, true, true, false, true, false, false, false] rfl rfl (by kernel_rfl) (fun _ _ _ h => h) (Or.inl ⟨by rfl, ?_⟩) ?_ ?_
      rotate_left
      · intro w'
        go_simp
        with_reducible rfl
      rotate_left
      · simp only [Act.put, List.setIfInBounds_toArray, List.set_cons_zero, List.set_cons_succ, i64_w, i32_w]
        rfl
      refine one_ (i := 15) (N := some 67) #[true, true, true, true, true, true, true, true, true, true, true, true, true, true, true, true, true, false, false, false] rfl rfl (by kernel_rfl) (by decide) (fun K hK => ?_)
      refine goes_ Try.func11 (by kernel_rfl) rfl #[.pointer (some ⟨w.heap.size + 1, 0, none⟩)] (by rfl) rfl rfl (by simp only [List.map_toArray, List.map_cons, List.map_nil]; rfl) ?_
      with_reducible refine (acc_value_as (w.heap.size + 1) w.heap.size rows (addP s rows (rd_T32 l k)).1 _ HA3.out v5 HLE.out).mono ?_
      rintro e w4 ⟨rfl, h2⟩
      refine ⟨_, rfl, ?_⟩
      have HO4 := Aside0.mk (RefOwn.below HO3.out h2)
      have HA4 := Aside0.mk (AccAt.below HA3.out h2)
      have HB4 := Aside0.mk (below_step HB3.out h2)
      clear h2 HA3 HB3 HO3
      refine hK.out _ _ ⟨(elem_cells HR.out HB4.out HK.out).1, (elem_cells HR.out HB4.out HK.out).2.1, (elem_cells HR.out HB4.out HK.out).2.2⟩ (fun hHeld => ?_)
      clear hK K
      refine norm_ (a' := ?_) ?_ ?_
      rotate_left
      · show Act.put _ (some 67) _ = _
        simp only [Act.put, List.setIfInBounds_toArray, List.set_cons_zero, List.set_cons_succ, i64_w, i32_w]
        rfl
      refine one_ (i := 17) (N := some 69) #[true, true, true, true, true, true, true, true, true, true, true, true, true, true, true, true, true, true, false, false] rfl rfl (by kernel_rfl) (by decide) (fun K hK => ?_)
      refine goes_ Try.func12 (by kernel_rfl) rfl #[.pointer (some ⟨b, 0, none⟩)] (by rfl) rfl rfl (by simp only [List.map_toArray, List.map_cons, List.map_nil]; rfl) ?_
      with_reducible refine (rvalue_as b b op rows (addR op rows L (rd_T32 l k)).1 u1 _ HO4.out HOP.out HLF2.out v5 HVE.out).mono ?_
      rintro e w5 ⟨rfl, h2⟩
      refine ⟨_, rfl, ?_⟩
      have HO5 := Aside0.mk (RefOwn.below HO4.out h2)
      have HA5 := Aside0.mk (AccAt.below HA4.out h2)
      have HB5 := Aside0.mk (below_step HB4.out h2)
      clear h2 HA4 HB4 HO4
      refine hK.out _ _ ⟨(elem_cells HR.out HB5.out HK.out).1, (elem_cells HR.out HB5.out HK.out).2.1, (elem_cells HR.out HB5.out HK.out).2.2⟩ (fun hHeld => ?_)
      clear hK K
      refine norm_ (a' := ?_) ?_ ?_
      rotate_left
      · show Act.put _ (some 69) _ = _
        simp only [Act.put, List.setIfInBounds_toArray, List.set_cons_zero, List.set_cons_succ, i64_w, i32_w]
        rfl
      refine pure_ (i := 18) (N := some 70) (v := ?_) (a' := ?_) #[true, true, true, true, true, true, true, true, true, true, true, true, true, true, true, true, true, true, true, false] rfl rfl (by kernel_rfl) (fun _ _ _ h => h) (Or.inl ⟨by rfl, ?_⟩) ?_ ?_
      rotate_left
      · intro w'
        go_simp
        with_reducible rfl
      rotate_left
      · simp only [Act.put, List.setIfInBounds_toArray, List.set_cons_zero, List.set_cons_succ, i64_w, i32_w]
        rfl
      refine pure_ (i := 19) (N := some 71) (v := ?_) (a' := ?_) #[true, true, true, true, true, true, true, true, true, true, true, true, true, true, true, true, true, true, true, true] rfl rfl (by kernel_rfl) (fun _ _ _ h => h) (Or.inl ⟨by rfl, ?_⟩) ?_ ?_
      rotate_left
      · intro w'
        go_simp
        with_reducible rfl
      rotate_left
      · simp only [Act.put, List.setIfInBounds_toArray, List.set_cons_zero, List.set_cons_succ, i64_w, i32_w]
        rfl
      refine done_ (by kernel_rfl) ?_
      go_wp2_with fail
      go_roundw
      case rel => exact ⟨k + 1, _, _, _, by go_num, HK.out, ⟨HST.out.2⟩, ⟨by have := HMM.out.2; have := HLL.out; omega⟩, ⟨addP_fits HS.out HV.out⟩, HLF2, HA5, HO5, HB5⟩
      case measure => have := HK.out; simp [intOf]; omega
    · have q_a : decide (k < l.length) = false := decide_eq_false hlt
      have q_b : decide ((k : Int) < (l.length : Int)) = false := decide_eq_false (by omega)
      clear hlt hk
      go_wp2_with fail
      go_ret
      exact ⟨rfl, HBW.out⟩
set_option maxHeartbeats 4000000 in
set_option maxRecDepth 100000 in
theorem plays.wrong (op : Int) (rows : Bool) (l : List S32) (A : Option Addr) (c : Nat) (w : World) (hr : Kd.C k32 w A l.length l) (hc : l.length ≤ c) (hl : l.length < 140737488355328) (hf : ∀ v ∈ l, FitsV v) (st : Gst) (h : newP op rows = some st) (hok : rightB l = false) :
    Calls Try.prog 3 #[.int .i64 op, .bool rows, .slice A l.length c] w fun e w' => e = .returned (.bool true) ∧ Below w.heap.size w w' := by
  have hu := Try.underlying32
  have HN := Aside0.mk h
  have HR := Aside0.mk hr
  have HF := Aside0.mk hf
  have HC := Aside0.mk hc
  have HLN := Aside0.mk hl
  have HOK := Aside0.mk hok
  obtain ⟨p1, p2, p3⟩ := newP_rows h
  have HRO := Aside0.mk p1
  have HOP := Aside0.mk p2
  have HNB := Aside0.mk p3
  clear h hr hf hc hl hok p1 p2 p3
  go_enter Try.func3, Try.ntmps3
  go_wp2_with fail
  refine (new_st op rows st _ HN.out).mono ?_
  rintro e w1 ⟨rfl, hA, hb⟩
  have HBG : Aside0 (w.heap.size + 1 < w1.heap.size) := ⟨blk_lt hA.1⟩
  have HA1 := Aside0.mk hA
  have HB1 := Aside0.mk hb
  clear hA hb
  go_wp2_with fail
  refine (rnew.ok op rows _ HNB.out).mono ?_
  rintro e w2 ⟨rfl, hR, hb⟩
  have HO2 : Aside0 (RefOwn w2 w1.heap.size w1.heap.size op rows (.slice none 0 0) []) := ⟨hR, Kd.R_nil _ _ _ _ _⟩
  have HA2 := Aside0.mk (HA1.out.below hb)
  have HB2 := Aside0.mk (below_step HB1.out hb)
  clear hR hb
  obtain ⟨b, hbb⟩ : ∃ b, b = w1.heap.size := ⟨_, rfl⟩
  rw [← hbb] at HBG HO2 ⊢
  clear hbb
  go_wp2_with fail
  refine (right_calls l A c _ (Kd.C_below HR.out HB2.out) HC.out HLN.out).mono ?_
  rintro e w3 ⟨rfl, hb⟩
  have q0 : rightB l = false := HOK.out
  have HO3 := Aside0.mk (HO2.out.below hb)
  have HA3 := Aside0.mk (HA2.out.below hb)
  have HB3 := Aside0.mk (below_step HB2.out hb)
  clear hb HO2 HA2 HB2 HA1 HB1
  go_wp2_with fail
  go_ret
  exact ⟨rfl, HB3.out⟩
def quarrylaw17_AggPlays.f (op : Int) (rows : Bool) (l : List S32) : Option Bool := if fitsB l = true ∧ l.length < 140737488355328 then some true else none
theorem quarrylaw17_AggPlays.calls (a0 : Int) (a1 : Bool) (A2 : Option Addr) (c2 : Nat) (l2 : List (S32)) (r : Bool) (w : World) (hr2 : Kd.C k32 w A2 l2.length l2) (hc2 : l2.length ≤ c2) (h : quarrylaw17_AggPlays.f a0 a1 l2 = some r) :
    Calls Try.prog 3 #[.int .i64 a0, .bool a1, .slice A2 l2.length c2] w fun e w' => e = .returned (.bool r) ∧ Below w.heap.size w w' := by
  unfold quarrylaw17_AggPlays.f at h
  by_cases hf : fitsB l2 = true ∧ l2.length < 140737488355328
  · rw [if_pos hf] at h
    obtain rfl := Option.some.inj h
    cases hn : newP a0 a1 with
    | none => exact plays.no a0 a1 l2 A2 c2 w hn
    | some st =>
      cases hk : rightB l2 with
      | true => exact plays.yes a0 a1 l2 A2 c2 w hr2 hc2 hf.2 (fits_of hf.1) st hn hk
      | false => exact plays.wrong a0 a1 l2 A2 c2 w hr2 hc2 hf.2 (fits_of hf.1) st hn hk
  · rw [if_neg hf] at h; cases h
end Go.Proofs.Ytgjfciohmgpohaa.P
end
section
namespace Go.Proofs.Ytgjfciohmgpohaa.Pure
open Go.RowKit Go.Proofs.Ytgjfciohmgpohaa.P Go.Proofs.YtgjfciohmgpohaaW.PrintWords Go.Proofs.YtgjfciohmgpohaaW.PrintLast
theorem AggPlays : ∀ (a0 : Int) (a1 : Bool) (l2 : List (S32)), (Lit.int .i64 a0).wf = true → G22 l2 → quarrylaw17_AggPlays.f a0 a1 l2 = some true := by
  intro op rows l _ hg
  unfold quarrylaw17_AggPlays.f
  refine if_pos ⟨of_fits fun v hv => ?_, by have := hg.2; omega⟩
  have h := hg.1 v hv
  exact ⟨wf64 h.2.1, h.2.2⟩
end Go.Proofs.Ytgjfciohmgpohaa.Pure
end

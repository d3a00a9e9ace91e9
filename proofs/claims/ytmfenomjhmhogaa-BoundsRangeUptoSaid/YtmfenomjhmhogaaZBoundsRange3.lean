/- Laid by a program of this session out of its texts for the law BoundsRange, part 3. -/
import Derived.Test.YtmfenomjhmhogaaZBoundsRange2
section
namespace Go.Proofs.Ytmfenomjhmhogaa.P
open Go.RowKit Go.Proofs.Ytmfenomjhmhogaa.Pure Go.Proofs.YtmfenomjhmhogaaW.PrintWords Go.Proofs.YtmfenomjhmhogaaW.PrintLast Go.Proofs.YtmfenomjhmhogaaW.PrintMore
attribute [local go_sem] max2_int min2_int max_two min_two max_three min_three max_four min_four
set_option linter.unusedVariables false
set_option linter.unusedSimpArgs false
set_option maxHeartbeats 2000000 in
set_option maxRecDepth 100000 in
theorem cloneV.calls (A0 : Option Addr) (c0 : Nat) (l0 : List S25) (w : World) (hr0 : Kd.C k25 w A0 l0.length l0) (hc0 : l0.length ≤ c0) (hl : l0.length ≤ 4398046511104) :
    Calls Try.prog 34 #[.slice A0 l0.length c0] w fun e w' => ∃ v0_ : Value, e = .returned v0_ ∧ Kd.R k25 25 w' w.heap.size (fun _ => True) v0_ l0 ∧ Below w.heap.size w w' := by
  have HR0 := Aside0.mk hr0
  have HC0 := Aside0.mk hc0
  have LM := Aside0.mk hl
  have HB := Aside0.mk (Below.refl w.heap.size w)
  have hnil := fun (W : World) => Lib.run_eql_slice_nil (P := Try.prog) W 52 25 A0 l0.length c0 0 0 Try.underlying52
  cases A0 with
  | none =>
    have hz : l0 = [] := by
      cases l0 with
      | nil => rfl
      | cons x t => obtain ⟨ad, he, _⟩ := hr0.2.2 (by simp); cases he
    subst hz
    have hnil1 : ∀ W : World, (binOp .eql 52 (.slice none 0 c0) (.slice none 0 0)).run Try.prog W = .ok (.bool true) W := fun W => hnil W
    clear hr0 hc0 hl hnil
    go_enter Try.func34, Try.ntmps34
    go_wp2
    go_ret
    exact ⟨_, rfl, Kd.R_nil _ _ _ _ _, Below.refl _ _⟩
  | some ad =>
    have hnil1 : ∀ W : World, (binOp .eql 52 (.slice (some ad) l0.length c0) (.slice none 0 0)).run Try.prog W = .ok (.bool false) W := fun W => hnil W
    clear hr0 hc0 hl hnil
    go_enter Try.func34, Try.ntmps34
    go_wp2_with (first | ((with_reducible refine gate_dst (N := 5) rfl ?_); refine Kd.R_lit k25 _ 25 ?hg (N := 5) ?hd (xs := ([] : List S25)) (inner := []) (ok := fun _ => True) (okp := fun _ => True) ?hr ?hp (fun _ hk => hk) trivial (Below.refl _ _) (Nat.le_refl _) (by simp) ?_; (case hd => rfl); (case hg => rfl); (case hr => first | (go_simp; done) | (go_simp; rfl)); (case hp => exact (Reps.none _ _)); intro v249 w13 ho14 hb hg_ hnew_; clear hg_ hnew_; have n0_ := Aside0.mk (Kd.R_lower ho14 (below_size HB.out)); have n1_ := Aside0.mk (below_step HB.out hb); clear HB; have HO := n0_; have HB := n1_; clear n0_ n1_; clear hb ho14) | ((with_reducible refine gate_builtin (b := .append) (xs := #[.tmp 5, .tmp 6]) rfl ?_); at_builtin; refine Kd.R_append_rows k25 (w0 := w) w.heap.size rfl (.tmp 5) (.tmp 6) 52 25 (.agg #[(.int .i64 0), (.int .i64 0), (.string ⟨#[]⟩)]) 32 rfl Try.underlying52 info25 rfl (by decide) (by omega) v249 [] l0 _ _ _ (fun _ => True) (fun _ => False) rfl rfl ?aO ?aR (fun _ _ h => h) (fun _ h => h.elim) ?aF ?aB ?aS ?aL ?_; (case aR => exact Kd.C_below HR0.out HB.out); (case aB => exact HB.out); (case aF => exact (fun _ _ => trivial)); (case aO => exact HO.out); (case aS => exact below_size HB.out); (case aL => have := LM.out; simp; omega); intro v253 w16 ho hb hg hat; rw [List.nil_append] at ho; have n0_ := Aside0.mk hb; have n1_ := Aside0.mk ho; clear HB; clear HO; have HB := n0_; have HO254 := n1_; clear n0_ n1_; clear ho hb hg hat))
    go_ret
    exact ⟨_, rfl, HO254.out, HB.out⟩
def KI (w : World) (t : S69) (W : World) : Prop := W.heap[w.heap.size]? = some (.cells #[.int .i64 t.f0, .int .i64 t.f1, .int .i64 t.f2.f0, .int .i64 t.f2.f1, .string t.f2.f2] 69 (0, 0)) ∧ Below w.heap.size w W
section
variable {w W W' : World} {t : S69}
theorem KI.start : KI w t (w.alloc (.cells #[.int .i64 t.f0, .int .i64 t.f1, .int .i64 t.f2.f0, .int .i64 t.f2.f1, .string t.f2.f2] 69)) := ⟨Deep.blk_alloc_new w _, below_alloc (Below.refl _ _) _⟩
theorem KI.below (h : KI w t W) (hb : Below W.heap.size W W') : KI w t W' := ⟨blk_below h.1 hb, below_step h.2 hb⟩
theorem KI.b (h : KI w t W) : Below w.heap.size w W := h.2
theorem KI.drew (h : KI w t W) : KI w t W.drew := ⟨h.1, below_drew1 h.2⟩
theorem KI.c (h : KI w t W) {a : Addr} {v : Value} (hc : w.cell? a = some v) : W.cell? a = some v := (h.2.cell (World.block_lt_of_cell? w _ hc)).trans hc
theorem KI.t2 (h : KI w t W) : W.cell? ⟨w.heap.size, 2, none⟩ = some (.int .i64 t.f2.f0) := (blk_cell h.1 2).trans rfl
theorem KI.t3 (h : KI w t W) : W.cell? ⟨w.heap.size, 3, none⟩ = some (.int .i64 t.f2.f1) := (blk_cell h.1 3).trans rfl
theorem KI.t4 (h : KI w t W) : W.cell? ⟨w.heap.size, 4, none⟩ = some (.string t.f2.f2) := (blk_cell h.1 4).trans rfl
theorem KI.app (h : KI w t W) {v : Value} {xs : List S25} (ho : Kd.R k25 25 W w.heap.size (fun _ => True) v xs) (hb : Below w.heap.size w W') (hg : W.grownBy W' v.ownBlock) : KI w t W' := ⟨blk_grown h.1 hg (Kd.R_ne ho h.1 (by decide)), hb⟩
end
def KJ (w : World) (t : S69) (vs : List S25) (s : Value × Value) (W : World) : Prop := KI w t W ∧ Kd.R k25 25 W w.heap.size (fun _ => True) s.1 vs ∧ Kd.R k25 25 W w.heap.size (fun _ => True) s.2 [t.f2]
set_option maxHeartbeats 4000000 in
set_option maxRecDepth 100000 in
theorem key.calls (t : S69) (g7 g2 : Nat) (A0 : Option Addr) (c0 : Nat) (vs : List S25) (A1 : Option Addr) (c1 : Nat) (d : List Bool) (k : Nat) (r1 : List Int) (r2 : Int) (w : World) (h7 : w.cell? ⟨g7, 0, none⟩ = some (.slice A0 vs.length c0)) (h2 : w.cell? ⟨g2, 4, none⟩ = some (.slice A1 d.length c1))
    (hv : Kd.C k25 w A0 vs.length vs) (hc0 : vs.length ≤ c0) (hd : Kd.C Kd.bool w A1 d.length d) (hc1 : d.length ≤ c1) (hl : vs.length + 1 ≤ 4398046511104) (h : keys_Encode.f k (vs ++ [t.f2]) d = some (r1, r2)) :
    Calls Try.prog 33 #[encT t, .pointer (some ⟨g7, 0, none⟩), .pointer (some ⟨g2, 0, none⟩)] w fun e w' => ∃ v0_ : Value, e = .returned v0_ ∧ Kd.R (Kd.int .u8) 5 w' w.heap.size (fun _ => True) v0_ r1 ∧ Below w.heap.size w w' := by
  have hu41 := Try.underlying41
  have hu77 := Try.underlying77
  have hu69 := Try.underlying69
  have hu25 := Try.underlying25
  have HV := Aside0.mk (And.intro hv hc0)
  have HD := Aside0.mk (And.intro hd hc1)
  have HL := Aside0.mk hl
  have H := Aside0.mk h
  have H7 := Aside0.mk h7
  have H2 := Aside0.mk h2
  clear hv hc0 hd hc1 hl h h7 h2
  unfold encT
  go_enter Try.func33, Try.ntmps33
  go_upto_region 1 with fail
  refine at_world (fun W => KI w t W) KI.start (fun W hI => ?_)
  have HI := Aside0.mk hI
  clear hI
  have HB9 := Aside0.mk HI.out.drew
  refine start_ (n := 15) (S := fun w' => w'.cell? ⟨g7, 0, none⟩ = some (.slice A0 vs.length c0) ∧ w'.cell? ⟨w.heap.size, 2, none⟩ = some (.int .i64 t.f2.f0) ∧ w'.cell? ⟨w.heap.size, 3, none⟩ = some (.int .i64 t.f2.f1) ∧ w'.cell? ⟨w.heap.size, 4, none⟩ = some (.string t.f2.f2) ∧ w'.cell? ⟨g2, 4, none⟩ = some (.slice A1 d.length c1)) (ds := [9]) #[false, false, false, false, false, false, false, false, false, false, false, false, false, false, false] (by kernel_rfl) rfl rfl ⟨(HI.out.drew).c H7.out, (HI.out.drew).t2, (HI.out.drew).t3, (HI.out.drew).t4, (HI.out.drew).c H2.out⟩ (fun hHeld => ?_)
  clear HI
  have HI := HB9
  clear HB9
  refine pure_ (i := 0) (N := some 8) (v := ?_) (a' := ?_) #[true, false, false, false, false, false, false, false, false, false, false, false, false, false, false] rfl rfl (by kernel_rfl) (fun _ _ _ h => h) (Or.inl ⟨by rfl, ?_⟩) ?_ ?_
  rotate_left
  · intro w'
    go_simp
    with_reducible rfl
  rotate_left
  · simp only [Act.put, List.setIfInBounds_toArray, List.set_cons_zero, List.set_cons_succ, i64_w, i32_w]
    rfl
  refine pure_ (i := 3) (N := some 11) (v := ?_) (a' := ?_) #[true, false, false, true, false, false, false, false, false, false, false, false, false, false, false] rfl rfl (by kernel_rfl) (fun _ _ _ h => h) (Or.inl ⟨by rfl, ?_⟩) ?_ ?_
  rotate_left
  · intro w'
    go_simp
    with_reducible rfl
  rotate_left
  · simp only [Act.put, List.setIfInBounds_toArray, List.set_cons_zero, List.set_cons_succ, i64_w, i32_w]
    rfl
  refine pure_ (i := 7) (N := some 15) (v := ?_) (a' := ?_) #[true, false, false, true, false, false, false, true, false, false, false, false, false, false, false] rfl rfl (by kernel_rfl) (fun _ _ _ h => h) (Or.inl ⟨by rfl, ?_⟩) ?_ ?_
  rotate_left
  · intro w'
    go_simp
    with_reducible rfl
  rotate_left
  · simp only [Act.put, List.setIfInBounds_toArray, List.set_cons_zero, List.set_cons_succ, i64_w, i32_w]
    rfl
  refine take_ (i := 1) (N := some 9) (v := ?_) (a' := ?_) #[true, true, false, true, false, false, false, true, false, false, false, false, false, false, false] rfl rfl (by kernel_rfl) (fun _ _ _ h => h) (Or.inl ⟨by rfl, ?_⟩) hHeld ?_ ?_
  rotate_left
  · rintro w' ⟨s0, s1, s2, s3, s4⟩
    go_simp
    with_reducible rfl
  rotate_left
  · simp only [Act.put, List.setIfInBounds_toArray, List.set_cons_zero, List.set_cons_succ, i64_w, i32_w]
    rfl
  refine take_ (i := 4) (N := some 12) (v := ?_) (a' := ?_) #[true, true, false, true, true, false, false, true, false, false, false, false, false, false, false] rfl rfl (by kernel_rfl) (fun _ _ _ h => h) (Or.inl ⟨by rfl, ?_⟩) hHeld ?_ ?_
  rotate_left
  · rintro w' ⟨s0, s1, s2, s3, s4⟩
    go_simp
    with_reducible rfl
  rotate_left
  · simp only [Act.put, List.setIfInBounds_toArray, List.set_cons_zero, List.set_cons_succ, i64_w, i32_w]
    rfl
  refine take_ (i := 8) (N := some 16) (v := ?_) (a' := ?_) #[true, true, false, true, true, false, false, true, true, false, false, false, false, false, false] rfl rfl (by kernel_rfl) (fun _ _ _ h => h) (Or.inl ⟨by rfl, ?_⟩) hHeld ?_ ?_
  rotate_left
  · rintro w' ⟨s0, s1, s2, s3, s4⟩
    go_simp
    with_reducible rfl
  rotate_left
  · simp only [Act.put, List.setIfInBounds_toArray, List.set_cons_zero, List.set_cons_succ, i64_w, i32_w]
    rfl
  refine join_ (σ := Value × Value) 7 #[true, true, true, true, true, true, false, true, true, false, false, false, false, false, false] (fun s => [(10, s.1), (13, s.2)]) (fun s w' => KJ w t vs s w') ?_ ?_
  rotate_left
  · intro hCont
    refine two_ (i := 2) (j := 5) (Ni := some 10) (Nj := some 13) #[true, true, true, true, true, false, false, true, true, false, false, false, false, false, false] #[true, true, false, true, true, true, false, true, true, false, false, false, false, false, false] rfl rfl rfl rfl (by kernel_rfl) (by decide) (by decide) (fun K hK => ?_) (fun K hK => ?_)
    · skip
      refine goes_ Try.func34 (by kernel_rfl) rfl #[.slice A0 vs.length c0] (by rfl) rfl rfl (by simp only [List.map_toArray, List.map_cons, List.map_nil]; rfl) ?_
      with_reducible refine (cloneV.calls A0 c0 vs _ (Kd.C_below HV.out.1 HI.out.b) HV.out.2 (by have := HL.out; omega)).mono ?_
      rintro e w3 ⟨v10, rfl, ho, hb⟩
      refine ⟨_, rfl, ?_⟩
      have HC3 := Aside0.mk (Kd.R_lower ho (below_size HI.out.b))
      have HI3 := Aside0.mk (HI.out.below hb)
      clear hHeld hb ho
      have HC2 := HC3
      clear HC3 HI
      have HI := HI3
      clear HI3
      refine hK.out _ _ ⟨(HI.out).c H7.out, (HI.out).t2, (HI.out).t3, (HI.out).t4, (HI.out).c H2.out⟩ (fun hHeld => ?_)
      clear hK K
      refine norm_ (a' := ?_) ?_ ?_
      rotate_left
      · show Act.put _ (some 10) _ = _
        simp only [Act.put, List.setIfInBounds_toArray, List.set_cons_zero, List.set_cons_succ, i64_w, i32_w]
        rfl
      refine one_ (i := 5) (N := some 13) #[true, true, true, true, true, true, false, true, true, false, false, false, false, false, false] rfl rfl (by kernel_rfl) (by decide) (fun K hK => ?_)
      refine Kd.R_lit_step k25 _ 25 ?hg (N := 13) ?hd (xs := ([t.f2] : List (S25))) (inner := [.int .i64 t.f2.f0, .int .i64 t.f2.f1, .string t.f2.f2]) (ok := fun _ => True) (okp := fun _ => True) ?hr ?hp (fun _ hk => hk) trivial (Below.refl _ _) (Nat.le_refl _) (by simp) ?_; (case hd => rfl); (case hg => rfl); (case hr => first | (go_simp; done) | (go_simp; rfl)); (case hp => exact (Reps.c3 (show Kd.M k25 _ _ _ t.f2 [.int .i64 t.f2.f0, .int .i64 t.f2.f1, .string t.f2.f2] from (k25_mkM _ _ _ t.f2)) (Reps.none _ _)))
      intro v13 w3 ho hb hg_ hnew_
      clear hg_ hnew_
      have HL3 := Aside0.mk (Kd.R_lower ho (below_size HI.out.b))
      have HC3 := Aside0.mk (Kd.R_below HC2.out hb)
      have HI3 := Aside0.mk (HI.out.below hb)
      clear hHeld hb ho
      clear HC2
      have HC2 := HC3
      clear HC3
      have HL2 := HL3
      clear HL3 HI
      have HI := HI3
      clear HI3
      refine hK.out _ _ ⟨(HI.out).c H7.out, (HI.out).t2, (HI.out).t3, (HI.out).t4, (HI.out).c H2.out⟩ (fun hHeld => ?_)
      clear hK K
      refine norm_ (a' := ?_) ?_ ?_
      rotate_left
      · show Act.put _ (some 13) _ = _
        simp only [Act.put, List.setIfInBounds_toArray, List.set_cons_zero, List.set_cons_succ, i64_w, i32_w]
        rfl
      exact norm_ (by first | (simp only [putAll, Act.put, List.setIfInBounds_toArray, List.set_cons_zero, List.set_cons_succ]; done) | (simp only [putAll, Act.put, List.setIfInBounds_toArray, List.set_cons_zero, List.set_cons_succ]; rfl)) (hCont (_, _) _ ⟨HI.out, HC2.out, HL2.out⟩)
    · skip
      refine Kd.R_lit_step k25 _ 25 ?hg (N := 13) ?hd (xs := ([t.f2] : List (S25))) (inner := [.int .i64 t.f2.f0, .int .i64 t.f2.f1, .string t.f2.f2]) (ok := fun _ => True) (okp := fun _ => True) ?hr ?hp (fun _ hk => hk) trivial (Below.refl _ _) (Nat.le_refl _) (by simp) ?_; (case hd => rfl); (case hg => rfl); (case hr => first | (go_simp; done) | (go_simp; rfl)); (case hp => exact (Reps.c3 (show Kd.M k25 _ _ _ t.f2 [.int .i64 t.f2.f0, .int .i64 t.f2.f1, .string t.f2.f2] from (k25_mkM _ _ _ t.f2)) (Reps.none _ _)))
      intro v13 w3 ho hb hg_ hnew_
      clear hg_ hnew_
      have HL3 := Aside0.mk (Kd.R_lower ho (below_size HI.out.b))
      have HI3 := Aside0.mk (HI.out.below hb)
      clear hHeld hb ho
      have HL2 := HL3
      clear HL3 HI
      have HI := HI3
      clear HI3
      refine hK.out _ _ ⟨(HI.out).c H7.out, (HI.out).t2, (HI.out).t3, (HI.out).t4, (HI.out).c H2.out⟩ (fun hHeld => ?_)
      clear hK K
      refine norm_ (a' := ?_) ?_ ?_
      rotate_left
      · show Act.put _ (some 13) _ = _
        simp only [Act.put, List.setIfInBounds_toArray, List.set_cons_zero, List.set_cons_succ, i64_w, i32_w]
        rfl
      refine one_ (i := 2) (N := some 10) #[true, true, true, true, true, true, false, true, true, false, false, false, false, false, false] rfl rfl (by kernel_rfl) (by decide) (fun K hK => ?_)
      refine goes_ Try.func34 (by kernel_rfl) rfl #[.slice A0 vs.length c0] (by rfl) rfl rfl (by simp only [List.map_toArray, List.map_cons, List.map_nil]; rfl) ?_
      with_reducible refine (cloneV.calls A0 c0 vs _ (Kd.C_below HV.out.1 HI.out.b) HV.out.2 (by have := HL.out; omega)).mono ?_
      rintro e w3 ⟨v10, rfl, ho, hb⟩
      refine ⟨_, rfl, ?_⟩
      have HC3 := Aside0.mk (Kd.R_lower ho (below_size HI.out.b))
      have HL3 := Aside0.mk (Kd.R_below HL2.out hb)
      have HI3 := Aside0.mk (HI.out.below hb)
      clear hHeld hb ho
      clear HL2
      have HL2 := HL3
      clear HL3
      have HC2 := HC3
      clear HC3 HI
      have HI := HI3
      clear HI3
      refine hK.out _ _ ⟨(HI.out).c H7.out, (HI.out).t2, (HI.out).t3, (HI.out).t4, (HI.out).c H2.out⟩ (fun hHeld => ?_)
      clear hK K
      refine norm_ (a' := ?_) ?_ ?_
      rotate_left
      · show Act.put _ (some 10) _ = _
        simp only [Act.put, List.setIfInBounds_toArray, List.set_cons_zero, List.set_cons_succ, i64_w, i32_w]
        rfl
      exact norm_ (by first | (simp only [putAll, Act.put, List.setIfInBounds_toArray, List.set_cons_zero, List.set_cons_succ]; done) | (simp only [putAll, Act.put, List.setIfInBounds_toArray, List.set_cons_zero, List.set_cons_succ]; rfl)) (hCont (_, _) _ ⟨HI.out, HC2.out, HL2.out⟩)
  rintro ⟨v10, v13⟩ w5 hJ
  have HJ := Aside0.mk hJ
  clear hJ HI
  have HI := Aside0.mk HJ.out.1
  have HC2 := Aside0.mk HJ.out.2.1
  have HL2 := Aside0.mk HJ.out.2.2
  clear HJ
  obtain ⟨A13, c13, e13⟩ := Kd.R_slice HL2.out
  simp only at e13
  subst e13
  have hHeld : w5.cell? ⟨g7, 0, none⟩ = some (.slice A0 vs.length c0) ∧ w5.cell? ⟨w.heap.size, 2, none⟩ = some (.int .i64 t.f2.f0) ∧ w5.cell? ⟨w.heap.size, 3, none⟩ = some (.int .i64 t.f2.f1) ∧ w5.cell? ⟨w.heap.size, 4, none⟩ = some (.string t.f2.f2) ∧ w5.cell? ⟨g2, 4, none⟩ = some (.slice A1 d.length c1) := ⟨(HI.out).c H7.out, (HI.out).t2, (HI.out).t3, (HI.out).t4, (HI.out).c H2.out⟩
  refine norm_ (a' := ?_) ?_ ?_
  rotate_left
  · simp only [putAll, Act.put, List.setIfInBounds_toArray, List.set_cons_zero, List.set_cons_succ]
    rfl
  refine one_ (i := 6) (N := some 14) #[true, true, true, true, true, true, true, true, true, false, false, false, false, false, false] rfl rfl (by kernel_rfl) (by decide) (fun K hK => ?_)
  refine Kd.R_append_rows_step k25 (w0 := w) w.heap.size (by rfl) (.tmp 10) (.tmp 13) 52 25 (.agg #[(.int .i64 0), (.int .i64 0), (.string ⟨#[]⟩)]) 32 rfl Try.underlying52 info25 rfl (by decide) (by omega) v10 vs [t.f2] _ _ _ (fun _ => True) (fun _ => False) (by rfl) (by rfl) HC2.out (Kd.R_reads' HL2.out).2.2 (fun _ _ h => h) (fun _ h => h.elim) (fun _ _ => trivial) HI.out.b (below_size HI.out.b) (by have := HL.out; simp; omega) ?_
  intro v14 w6 ho hb hg hat
  obtain ⟨A14, c14, e14⟩ := Kd.R_slice ho
  subst e14
  have HO2 := Aside0.mk ho
  have HI3 := Aside0.mk (HI.out.app HC2.out hb hg)
  clear ho hb hg hat hHeld HI HC2 HL2
  have HI := HI3
  clear HI3
  refine hK.out _ _ ⟨(HI.out).c H7.out, (HI.out).t2, (HI.out).t3, (HI.out).t4, (HI.out).c H2.out⟩ (fun hHeld => ?_)
  clear hK K
  refine norm_ (a' := ?_) ?_ ?_
  rotate_left
  · show Act.put _ (some 14) _ = _
    simp only [Act.put, List.setIfInBounds_toArray, List.set_cons_zero, List.set_cons_succ, i64_w, i32_w]
    rfl
  refine last_ (i := 9) (N := some 17) #[true, true, true, true, true, true, true, true, true, true, false, false, false, false, false] rfl rfl (by kernel_rfl) (by decide) (fun K hK => ?_)
  refine goes_ Try.func32 (by kernel_rfl) rfl #[.slice A14 (vs ++ [t.f2]).length c14, .slice A1 d.length c1] (by rfl) rfl rfl (by simp only [List.map_toArray, List.map_cons, List.map_nil]; rfl) ?_
  with_reducible refine (keys_Encode.calls k A14 c14 (vs ++ [t.f2]) A1 c1 d r1 r2 _ (Kd.R_reads' HO2.out).2.2 (Kd.R_reads' HO2.out).2.1 (Kd.C_below HD.out.1 HI.out.b) HD.out.2 H.out).mono ?_
  rintro e w7 ⟨v15, rfl, ho, hb⟩
  refine ⟨_, rfl, ?_⟩
  have HO3 := Aside0.mk ho
  have HB3 := Aside0.mk hb
  clear ho hb hHeld HO2
  refine hK.out _ _ ?_
  clear hK K
  refine norm_ (a' := ?_) ?_ ?_
  rotate_left
  · show Act.put _ (some 17) _ = _
    simp only [Act.put, List.setIfInBounds_toArray, List.set_cons_zero, List.set_cons_succ, i64_w, i32_w]
    rfl
  refine pure_ (i := 10) (N := some 7) (v := ?_) (a' := ?_) #[true, true, true, true, true, true, true, true, true, true, true, false, false, false, false] rfl rfl (by kernel_rfl) (fun _ _ _ h => h) (Or.inl ⟨by rfl, ?_⟩) ?_ ?_
  rotate_left
  · intro w'
    go_simp
    with_reducible rfl
  rotate_left
  · simp only [Act.put, List.setIfInBounds_toArray, List.set_cons_zero, List.set_cons_succ, i64_w, i32_w]
    rfl
  refine pure_ (i := 11) (N := some 18) (v := ?_) (a' := ?_) #[true, true, true, true, true, true, true, true, true, true, true, true, false, false, false] rfl rfl (by kernel_rfl) (fun _ _ _ h => h) (Or.inl ⟨by rfl, ?_⟩) ?_ ?_
  rotate_left
  · intro w'
    go_simp
    with_reducible rfl
  rotate_left
  · simp only [Act.put, List.setIfInBounds_toArray, List.set_cons_zero, List.set_cons_succ, i64_w, i32_w]
    rfl
  refine pure_ (i := 12) (N := some 19) (v := ?_) (a' := ?_) #[true, true, true, true, true, true, true, true, true, true, true, true, true, false, false] rfl rfl (by kernel_rfl) (fun _ _ _ h => h) (Or.inl ⟨by rfl, ?_⟩) ?_ ?_
  rotate_left
  · intro w'
    go_simp
    with_reducible rfl
  rotate_left
  · simp only [Act.put, List.setIfInBounds_toArray, List.set_cons_zero, List.set_cons_succ, i64_w, i32_w]
    rfl
  refine pure_ (i := 13) (N := some 5) (v := ?_) (a' := ?_) #[true, true, true, true, true, true, true, true, true, true, true, true, true, true, false] rfl rfl (by kernel_rfl) (fun _ _ _ h => h) (Or.inl ⟨by rfl, ?_⟩) ?_ ?_
  rotate_left
  · intro w'
    go_simp
    with_reducible rfl
  rotate_left
  · simp only [Act.put, List.setIfInBounds_toArray, List.set_cons_zero, List.set_cons_succ, i64_w, i32_w]
    rfl
  refine pure_ (i := 14) (N := some 6) (v := ?_) (a' := ?_) #[true, true, true, true, true, true, true, true, true, true, true, true, true, true, true] rfl rfl (by kernel_rfl) (fun _ _ _ h => h) (Or.inl ⟨by rfl, ?_⟩) ?_ ?_
  rotate_left
  · intro w'
    go_simp
    with_reducible rfl
  rotate_left
  · simp only [Act.put, List.setIfInBounds_toArray, List.set_cons_zero, List.set_cons_succ, i64_w, i32_w]
    rfl
  refine done_ (by kernel_rfl) ?_
  go_wp2
  go_ret
  exact ⟨_, rfl, Kd.R_lower HO3.out (below_size HI.out.b), below_step HI.out.b HB3.out⟩
end Go.Proofs.Ytmfenomjhmhogaa.P
end
section
namespace Go.Proofs.Ytmfenomjhmhogaa.P
open Go.RowKit Go.Proofs.YtmfenomjhmhogaaW.PrintWords Go.Proofs.YtmfenomjhmhogaaW.PrintLast Go.Proofs.YtmfenomjhmhogaaW.PrintMore
attribute [local go_sem] max2_int min2_int max_two min_two max_three min_three max_four min_four
set_option linter.unusedVariables false
set_option linter.unusedSimpArgs false
def slices_Clone_byte_byte.f (l0 : List Int) : Option (List Int) := if l0.length < 140737488355328 then some l0 else none
set_option maxHeartbeats 2000000 in
set_option maxRecDepth 100000 in
theorem slices_Clone_byte_byte.calls (A0 : Option Addr) (c0 : Nat) (l0 : List Int) (r : List Int) (w : World) (hr0 : Kd.C (Kd.int .u8) w A0 l0.length l0) (hc0 : l0.length ≤ c0) (h : slices_Clone_byte_byte.f l0 = some r) :
  Calls Try.prog 55 #[.slice A0 l0.length c0] w fun e w' => ∃ v0_ : Value, e = .returned v0_ ∧ Kd.R (Kd.int .u8) 5 w' w.heap.size (fun _ => True) v0_ r ∧ Below w.heap.size w w' := by
 unfold slices_Clone_byte_byte.f at h
 by_cases hl : l0.length < 140737488355328
 case neg => rw [if_neg hl] at h; cases h
 rw [if_pos hl] at h
 obtain rfl := Option.some.inj h
 have HR0 := Aside0.mk hr0
 have HC0 := Aside0.mk hc0
 have LM := Aside0.mk hl
 have HB := Aside0.mk (Below.refl w.heap.size w)
 have hnil := fun (W : World) => Lib.run_eql_slice_nil (P := Try.prog) W 44 5 A0 l0.length c0 0 0 Try.underlying44
 cases A0 with
 | none =>
  have hz : l0 = [] := by
   have h1 := Kd.reads_of_C (enc := Value.int .u8) (d := (0 : Int)) (h1 := fun _ => rfl) hr0
   cases l0 with
   | nil => rfl
   | cons x t => obtain ⟨ad, he, _⟩ := h1.2.2 (by simp); cases he
  subst hz
  have hnil1 : ∀ W : World, (binOp .eql 44 (.slice none 0 c0) (.slice none 0 0)).run Try.prog W = .ok (.bool true) W := fun W => hnil W
  clear hr0 hc0 hl h hnil
  go_enter Try.func55, Try.ntmps55
  go_wp2
  go_ret
  exact ⟨_, rfl, Kd.R_nil _ _ _ _ _, Below.refl _ _⟩
 | some ad =>
  have hnil1 : ∀ W : World, (binOp .eql 44 (.slice (some ad) l0.length c0) (.slice none 0 0)).run Try.prog W = .ok (.bool false) W := fun W => hnil W
  clear hr0 hc0 hl h hnil
  go_enter Try.func55, Try.ntmps55
  go_wp2_with (first | ((with_reducible refine gate_dst (N := 5) rfl ?_); refine Kd.R_lit (Kd.int .u8) _ 5 ?hg (N := 5) ?hd (xs := ([] : List Int)) (inner := []) (ok := fun _ => True) (okp := fun _ => True) ?hr ?hp (fun _ hk => hk) trivial (Below.refl _ _) (Nat.le_refl _) (by simp) ?_; (case hd => rfl); (case hg => rfl); (case hr => first | (go_simp; done) | (go_simp; rfl)); (case hp => exact (Reps.none _ _)); intro v249 w13 ho14 hb hg_ hnew_; clear hg_ hnew_; have n0_ := Aside0.mk (Kd.R_lower ho14 (below_size HB.out)); have n1_ := Aside0.mk (below_step HB.out hb); clear HB; have HO := n0_; have HB := n1_; clear n0_ n1_; clear hb ho14) | ((with_reducible refine gate_builtin (b := .append) (xs := #[.tmp 5, .tmp 6]) rfl ?_); at_builtin; refine Kd.R_append_rows (Kd.int .u8) (w0 := w) w.heap.size rfl (.tmp 5) (.tmp 6) 44 5 (.int .u8 0) 1 rfl Try.underlying44 info5 rfl (by decide) (by omega) v249 [] l0 _ _ _ (fun _ => True) (fun _ => False) rfl rfl ?aO ?aR (fun _ _ h => h) (fun _ h => h.elim) ?aF ?aB ?aS ?aL ?_; (case aR => exact Kd.C_below HR0.out HB.out); (case aB => exact HB.out); (case aF => exact (fun _ _ => trivial)); (case aO => exact HO.out); (case aS => exact below_size HB.out); (case aL => have := LM.out; simp; omega); intro v253 w16 ho hb hg hat; rw [List.nil_append] at ho; have n0_ := Aside0.mk hb; have n1_ := Aside0.mk ho; clear HB; clear HO; have HB := n0_; have HO254 := n1_; clear n0_ n1_; clear ho hb hg hat))
  go_ret
  exact ⟨_, rfl, HO254.out, HB.out⟩
def keys_Next.l0 : Nat → List Int → Int → Option (List Int × Bool)
 | 0, _, _ => none
 | k + 1, x0, x4 => if x4 > 0 then (if 0 ≤ (wrap64 (x4 - 1)) then (if (wrap64 (x4 - 1)) < (x0.length : Int) then (if (rd x0 (wrap64 (x4 - 1))) = 255 then (keys_Next.l0 k x0 (wrap64 (x4 - 1))) else (if x4 = 0 then (some (([] : List Int), false)) else (if 0 ≤ x4 then (if x4 ≤ (x0.length : Int) then ((slices_Clone_byte_byte.f (x0.take (x4 : Int).toNat)).bind fun t221 => (if (wrap64 (x4 - 1)) < (t221.length : Int) then (some ((t221.set ((wrap64 (x4 - 1)) : Int).toNat (((rd t221 (wrap64 (x4 - 1))) + 1) % 256)), true)) else (none))) else (none)) else (none)))) else (none)) else (none)) else (if x4 = 0 then (some (([] : List Int), false)) else (if 0 ≤ x4 then (if x4 ≤ (x0.length : Int) then ((slices_Clone_byte_byte.f (x0.take (x4 : Int).toNat)).bind fun t227 => (if 0 ≤ (wrap64 (x4 - 1)) then (if (wrap64 (x4 - 1)) < (t227.length : Int) then (some ((t227.set ((wrap64 (x4 - 1)) : Int).toNat (((rd t227 (wrap64 (x4 - 1))) + 1) % 256)), true)) else (none)) else (none))) else (none)) else (none)))
def keys_Next.f (k : Nat) (l0 : List Int) : Option (List Int × Bool) := keys_Next.l0 k l0 (l0.length : Int)
theorem keys_Next.mono_l : ∀ k, (∀ y0 y1, LeO (keys_Next.l0 k y0 y1) (keys_Next.l0 (k + 1) y0 y1))
 | 0 => fun _ _ r h => by simp [keys_Next.l0] at h
 | k + 1 => by
  have ih0 := keys_Next.mono_l k
  ·intro y0 y1
   unfold keys_Next.l0
   repeat' first
   | (with_reducible exact ih0 _ _)
   | (with_reducible exact LeO.refl _)
   | (with_reducible exact LeO.none _)
   | (with_reducible refine LeO.ite ?_ ?_)
   | (with_reducible refine LeO.bind ?_ (fun _ => ?_))
   | exact ih0 _ _
   | exact LeO.none _
   | refine LeO.ite ?_ ?_
   | refine LeO.bind ?_ (fun _ => ?_)
theorem keys_Next.mono : ∀ a0 k, LeO (keys_Next.f k a0) (keys_Next.f (k + 1) a0) := by
 intro a0 k
 have ih0 := keys_Next.mono_l k
 unfold keys_Next.f
 repeat' first
   | (with_reducible exact ih0 _ _)
   | (with_reducible exact LeO.refl _)
   | (with_reducible exact LeO.none _)
   | (with_reducible refine LeO.ite ?_ ?_)
   | (with_reducible refine LeO.bind ?_ (fun _ => ?_))
   | exact ih0 _ _
   | exact LeO.none _
   | refine LeO.ite ?_ ?_
   | refine LeO.bind ?_ (fun _ => ?_)
set_option maxHeartbeats 8000000 in
set_option maxRecDepth 100000 in
theorem keys_Next.calls (k : Nat) (A0 : Option Addr) (c0 : Nat) (l0 : List Int) (r1 : List Int) (r2 : Bool) (w : World) (hr0 : Kd.C (Kd.int .u8) w A0 l0.length l0) (hc0 : l0.length ≤ c0) (h : keys_Next.f k l0 = some (r1, r2)) :
  Calls Try.prog 35 #[.slice A0 l0.length c0] w fun e w' => ∃ v0_ : Value, e = .returned (.tuple #[v0_, .bool r2]) ∧ Kd.R (Kd.int .u8) 5 w' w.heap.size (fun _ => True) v0_ r1 ∧ Below w.heap.size w w' := by
 have HR0 := Aside0.mk hr0
 have HC0 := Aside0.mk hc0
 clear hr0 hc0
 have HB := Aside0.mk (Below.refl w.heap.size w)
 have H : (keys_Next.l0 k l0 (l0.length : Int)) = some (r1, r2) := h
 clear h
 have H' := Aside0.mk H
 clear H
 go_enter Try.func35, Try.ntmps35
 go_wp2
 go_loopg [4] k (fun kq v4 w' => ∃ (x4_1 : Int), v4 = .int .i64 x4_1 ∧ Aside0 (keys_Next.l0 kq l0 x4_1 = some (r1, r2)) ∧ Aside0 (kq ≤ k) ∧ Aside0 (Below w.heap.size w w'))
 case atStart => exact ⟨((l0.length : Int)), (by first | rfl | (simp; done) | (simp [*]; done)), H', ⟨Nat.le_refl _⟩, ⟨by repeat (first | (with_reducible first | exact HB.out | apply below_alloc | apply pw_below_drewN | apply below_drew1) | exact HB.out)⟩⟩
 case round =>
  clear H'
  obtain ⟨x4_1, rfl, HA, HK1, HB⟩ := hrel
  cases gk with
  | zero => exact absurd HA.out (by simp [keys_Next.l0])
  | succ k1 =>
   have H := HA.out
   clear HA
   simp only [keys_Next.l0] at H
   by_cases c2 : x4_1 > 0
   ·rw [if_pos c2] at H
    have c2b0 : decide (0 < x4_1) = true := decide_eq_true c2
    clear c2
    obtain ⟨ji3, hji3⟩ : ∃ j_ : Int, (wrap64 (x4_1 - 1)) = j_ := ⟨_, rfl⟩
    replace H : (if 0 ≤ (ji3) then (if (ji3) < (l0.length : Int) then (if (rd l0 (ji3)) = 255 then (keys_Next.l0 k1 l0 ji3) else (if x4_1 = 0 then (some (([] : List Int), false)) else (if 0 ≤ x4_1 then (if x4_1 ≤ (l0.length : Int) then ((slices_Clone_byte_byte.f (l0.take (x4_1 : Int).toNat)).bind fun t221 => (if (ji3) < (t221.length : Int) then (some ((t221.set ((ji3) : Int).toNat (((rd t221 (ji3)) + 1) % 256)), true)) else (none))) else (none)) else (none)))) else (none)) else (none)) = some (r1, r2) := by first | (rw [hji3] at H; exact H) | (simp only [hji3] at H ⊢; exact H)
    have hji3w : (IntKind.i64.wrap (x4_1 - 1)) = ji3 := (i64_w _).trans hji3
    by_cases c4 : 0 ≤ (ji3)
    ·rw [if_pos c4] at H
     have c4b0 : decide (0 ≤ (ji3)) = true := decide_eq_true c4
     clear c4
     by_cases c5 : (ji3) < (l0.length : Int)
     ·rw [if_pos c5] at H
      have c5b0 : decide ((ji3) < (l0.length : Int)) = true := decide_eq_true c5
      clear c5
      by_cases c6 : (rd l0 (ji3)) = 255
      ·rw [if_pos c6] at H
       have c6b0 : ((rd l0 (ji3)) == 255) = true := beq_iff_eq.mpr c6
       have c6b1 : ((rd l0 (ji3)) != 255) = false := bne_eq_false_iff_eq.mpr c6
       clear c6
       have H' := Aside0.mk H
       clear H
       have p219 : 0 ≤ ((ji3) : Int) := of_decide_eq_true (by first | (with_reducible assumption) | assumption)
       have q219 : (ji3) < (l0.length : Int) := of_decide_eq_true (by first | (with_reducible assumption) | assumption)
       obtain ⟨ad219, e219, hx219_0⟩ := Kd.at_int HR0.out (ji3) p219 q219
       cases e219
       replace hx219_0 := (HB.out.cell (World.block_lt_of_cell? w _ hx219_0)).trans hx219_0
       replace p219 := eq_true p219
       replace q219 := eq_true q219
       go_wp2
       go_roundg k1
       case measure => have := HK1.out; omega
       case rel => exact ⟨(ji3), (by first | rfl | (simp; done) | (simp only [← hji3] <;> (first | rfl | simp)) | (simp [*]; done)), H', ⟨by have := HK1.out; omega⟩, ⟨by repeat (first | (with_reducible first | exact HB.out | apply below_alloc | apply pw_below_drewN | apply below_drew1) | exact HB.out)⟩⟩
      ·rw [if_neg c6] at H
       have c6b0 : ((rd l0 (ji3)) == 255) = false := beq_eq_false_iff_ne.mpr c6
       have c6b1 : ((rd l0 (ji3)) != 255) = true := bne_iff_ne.mpr c6
       by_cases c7 : x4_1 = 0
       ·rw [if_pos c7] at H
        have c7b0 : (x4_1 == 0) = true := beq_iff_eq.mpr c7
        have c7b1 : (x4_1 != 0) = false := bne_eq_false_iff_eq.mpr c7
        clear c7
        simp only [Option.some.injEq, Prod.mk.injEq] at H
        obtain ⟨rfl, rfl⟩ := H
        have p219 : 0 ≤ ((ji3) : Int) := of_decide_eq_true (by first | (with_reducible assumption) | assumption)
        have q219 : (ji3) < (l0.length : Int) := of_decide_eq_true (by first | (with_reducible assumption) | assumption)
        obtain ⟨ad219, e219, hx219_0⟩ := Kd.at_int HR0.out (ji3) p219 q219
        cases e219
        replace hx219_0 := (HB.out.cell (World.block_lt_of_cell? w _ hx219_0)).trans hx219_0
        replace p219 := eq_true p219
        replace q219 := eq_true q219
        go_wp2
        go_ret2
        exact ⟨_, by first | rfl | (simp [errW_none, errW_some] <;> rfl) | (simp only [← hji3]; first | rfl | (simp [errW_none, errW_some] <;> rfl)) | (simp [*, errW_none, errW_some] <;> rfl), by first | exact Kd.R_nil _ _ _ _ _ | exact Kd.N_nil _ _ _ _ _ | exact Kd.V_nil _ _ _ _ _ | exact Kd.Q_nil _ _ _ _ _ | exact Kd.S_nil _ _ _ _ _, by repeat (first | (with_reducible first | exact HB.out | apply below_alloc | apply pw_below_drewN | apply below_drew1) | exact HB.out)⟩
       ·rw [if_neg c7] at H
        have c7b0 : (x4_1 == 0) = false := beq_eq_false_iff_ne.mpr c7
        have c7b1 : (x4_1 != 0) = true := bne_iff_ne.mpr c7
        by_cases c8 : 0 ≤ x4_1
        ·rw [if_pos c8] at H
         have c8b0 := eq_true c8
         have c8b1 : decide (0 ≤ x4_1) = true := decide_eq_true c8
         clear c8
         by_cases c9 : x4_1 ≤ (l0.length : Int)
         ·rw [if_pos c9] at H
          have c9b0 := eq_true c9
          have c9b1 : decide (x4_1 ≤ (l0.length : Int)) = true := decide_eq_true c9
          clear c9
          replace H := Option.bind_eq_some_iff.mp H
          obtain ⟨t221, A100, H⟩ := H
          replace H : (if (ji3) < (t221.length : Int) then (some ((t221.set ((ji3) : Int).toNat (((rd t221 (ji3)) + 1) % 256)), true)) else (none)) = some (r1, r2) := H
          have A10 := Aside0.mk A100
          clear A100
          by_cases c11 : (ji3) < (t221.length : Int)
          ·rw [if_pos c11] at H
           have c11b0 : decide ((ji3) < (t221.length : Int)) = true := decide_eq_true c11
           clear c11
           obtain ⟨y225, hy225⟩ : ∃ y_ : List Int, y_ = (t221.set ((ji3) : Int).toNat (((rd t221 (ji3)) + 1) % 256)) := ⟨_, rfl⟩
           replace H : (some (y225, true)) = some (r1, r2) := by first | (rw [hy225]; with_reducible exact H) | (have H2_ := (Option.bind_some _ _).symm.trans H; rw [hy225]; with_reducible exact H2_) | (have H2_ := (Option.bind_some _ _).symm.trans H; with_reducible exact H2_) | with_reducible exact H | (rw [hy225]; exact H) | exact H
           have Ny225 := Aside0.mk hy225
           clear hy225
           simp only [Option.some.injEq, Prod.mk.injEq] at H
           obtain ⟨rfl, rfl⟩ := H
           have p219 : 0 ≤ ((ji3) : Int) := of_decide_eq_true (by first | (with_reducible assumption) | assumption)
           have q219 : (ji3) < (l0.length : Int) := of_decide_eq_true (by first | (with_reducible assumption) | assumption)
           obtain ⟨ad219, e219, hx219_0⟩ := Kd.at_int HR0.out (ji3) p219 q219
           cases e219
           replace hx219_0 := (HB.out.cell (World.block_lt_of_cell? w _ hx219_0)).trans hx219_0
           replace p219 := eq_true p219
           replace q219 := eq_true q219
           obtain ⟨i013, hi013, _, hsz13, _⟩ := info_parts info5
           obtain ⟨hcut13, hA13, hC13⟩ := print_take_of (P := Try.prog) (Value.int .u8) 0 44 5 .i64 Try.underlying44 hi013 hsz13 (some ad219) c0 l0 x4_1 (of_decide_eq_true (by first | (with_reducible assumption) | assumption)) (of_decide_eq_true (by first | (with_reducible assumption) | assumption)) HC0.out
           have HR220 := Aside0.mk (Kd.C_of_reads (h1 := fun _ => rfl) (hA13 _ (Kd.reads_of_C HR0.out)))
           have HC220 := Aside0.mk hC13
           clear hA13 hC13 hi013 hsz13
           go_wp2_with (first | ((with_reducible refine gate_callee (f := 55) rfl ?_); refine goesL_ (some 25) rfl rfl Try.func55 (by kernel_rfl) rfl #[.slice (some ad219) (l0.take (x4_1 : Int).toNat).length c0] rfl (by (try simp only [List.map_toArray, List.map_cons, List.map_nil]); first | done | (rw [show (l0.take (x4_1 : Int).toNat).length = x4_1.toNat from (by rw [List.length_take]; have h_ : (x4_1 : Int) ≤ (l0.length : Int) := of_decide_eq_true (by first | (with_reducible assumption) | assumption); omega)] <;> rfl) | rfl | (simp only [List.length_drop, List.length_take]; rfl)) ?_; (with_reducible refine (slices_Clone_byte_byte.calls _ _ (l0.take (x4_1 : Int).toNat) t221 _ ?side1 ?side2 A10.out).mono ?_); (case side1 => repeat (first | exact (Kd.C_below HR220.out HB.out) | (with_reducible refine Kd.C_alloc ?_ _) | (with_reducible refine Kd.C_drewN ?_ _) | (with_reducible refine Kd.C_drew ?_))); (case side2 => exact HC220.out); rintro e w14 ⟨v222, rfl, ho0, hb⟩; refine ⟨_, rfl, ?_⟩; have n0_ := Aside0.mk (Kd.R_lower ho0 (below_size (by repeat (first | (with_reducible first | exact HB.out | apply below_alloc | apply pw_below_drewN | apply below_drew1) | exact HB.out)))); have n1_ := Aside0.mk (below_step (by repeat (first | (with_reducible first | exact HB.out | apply below_alloc | apply pw_below_drewN | apply below_drew1) | exact HB.out)) hb); clear HB; have HO223 := n0_; have HB := n1_; clear n0_ n1_; (try clear hb); (try clear hb2); (try clear hk); (try clear hi); (try clear ho0); obtain ⟨Ao15, co15, eo15⟩ := Kd.R_slice HO223.out; subst eo15; have p224 : 0 ≤ ((ji3) : Int) := of_decide_eq_true (by first | (with_reducible assumption) | assumption); have q224 : (ji3) < (t221.length : Int) := of_decide_eq_true (by first | (with_reducible assumption) | assumption); obtain ⟨ad224, e224, hx224_0⟩ := Kd.at_int (Kd.R_reads' HO223.out).2.2 (ji3) p224 q224; cases e224; replace p224 := eq_true p224; replace q224 := eq_true q224; have p12 : 0 ≤ ((ji3) : Int) := of_decide_eq_true (by first | (with_reducible assumption) | assumption); have q12 : ((ji3) : Int) < ((t221.length : Int) : Int) := of_decide_eq_true (by first | (with_reducible assumption) | assumption); obtain ⟨go12, co12, eo12, gb12, gl12, cl12, HG12⟩ := Kd.R_form HO223.out (by omega); (first | cases eo12 | (injection eo12 with ea_ en_ ec_; (first | subst ea_ | (injection ea_ with ea_; subst ea_)); subst ec_; clear en_)); have GB12 := Aside0.mk gb12; have GG12 := Aside0.mk HG12; clear gb12 gl12 HG12; (first | simp only [add_plain] at hx224_0 | skip); obtain ⟨hx12_0, hf12_0⟩ := Kd.R_celln 0 HO223.out ((ji3) : Int) p12 q12; replace p12 := eq_true p12; replace q12 := eq_true q12; obtain ⟨hy16_, hz16_⟩ := Kd.R_celln 0 HO223.out ((ji3) : Int) (of_decide_eq_true (by first | (with_reducible assumption) | assumption)) (of_decide_eq_true (by first | (with_reducible assumption) | assumption)); have HP16 := Kd.R_putg HO223.out ((ji3) : Int) (((rd t221 (ji3)) + 1) % 256)) | ((with_reducible refine gate_store (t := 5) (p := 32) rfl ?_); refine store_event (t := 5) (p := 32) (v := ?vo_w17) (w1 := (w14.setCell ⟨go12, ((ji3) : Int).toNat, none⟩ (.int .u8 (((rd t221 (ji3)) + 1) % 256)))) ?hg ?ho ?hn ?hr ?_; (case ho => rfl); (case hg => rfl); (case hn => rfl); (case hr => first | (go_simp; done) | (go_simp; rfl)); intro w17 hw; have hg : w14.grownBy w17 (some go12) := (by rw [hw]; exact HP16.2); have hp_ : Kd.R (Kd.int .u8) 5 w17 w.heap.size (fun _ => True) (.slice (some ⟨go12, 0, none⟩) t221.length co15) y225 := (by rw [hw, Ny225.out]; exact HP16.1); clear HP16; have n0_ := Aside0.mk (hp_); have n1_ := Aside0.mk ((by rw [hw]; exact below_set (HB.out) GB12.out : Below w.heap.size w w17)); clear HO223; clear HB; have HO223 := n0_; have HB := n1_; clear n0_ n1_; clear hg hw hp_))
           go_ret2
           exact ⟨_, by first | rfl | (simp [errW_none, errW_some] <;> rfl) | (simp only [← hji3]; first | rfl | (simp [errW_none, errW_some] <;> rfl)) | (simp [*, errW_none, errW_some] <;> rfl), by (with_reducible repeat (first | apply Kd.R_alloc | apply Kd.R_drewN | apply Kd.R_drew)); exact HO223.out, by repeat (first | (with_reducible first | exact HB.out | apply below_alloc | apply pw_below_drewN | apply below_drew1) | exact HB.out)⟩
          ·rw [if_neg c11] at H
           exact absurd H (by simp)
         ·rw [if_neg c9] at H
          exact absurd H (by simp)
        ·rw [if_neg c8] at H
         exact absurd H (by simp)
     ·rw [if_neg c5] at H
      exact absurd H (by simp)
    ·rw [if_neg c4] at H
     exact absurd H (by simp)
   ·rw [if_neg c2] at H
    have c2b0 : decide (0 < x4_1) = false := decide_eq_false c2
    clear c2
    by_cases c18 : x4_1 = 0
    ·rw [if_pos c18] at H
     have c18b0 : (x4_1 == 0) = true := beq_iff_eq.mpr c18
     have c18b1 : (x4_1 != 0) = false := bne_eq_false_iff_eq.mpr c18
     clear c18
     simp only [Option.some.injEq, Prod.mk.injEq] at H
     obtain ⟨rfl, rfl⟩ := H
     go_wp2
     go_ret2
     exact ⟨_, by first | rfl | (simp [errW_none, errW_some] <;> rfl) | (simp [*, errW_none, errW_some] <;> rfl), by first | exact Kd.R_nil _ _ _ _ _ | exact Kd.N_nil _ _ _ _ _ | exact Kd.V_nil _ _ _ _ _ | exact Kd.Q_nil _ _ _ _ _ | exact Kd.S_nil _ _ _ _ _, by repeat (first | (with_reducible first | exact HB.out | apply below_alloc | apply pw_below_drewN | apply below_drew1) | exact HB.out)⟩
    ·rw [if_neg c18] at H
     have c18b0 : (x4_1 == 0) = false := beq_eq_false_iff_ne.mpr c18
     have c18b1 : (x4_1 != 0) = true := bne_iff_ne.mpr c18
     by_cases c19 : 0 ≤ x4_1
     ·rw [if_pos c19] at H
      have c19b0 := eq_true c19
      have c19b1 : decide (0 ≤ x4_1) = true := decide_eq_true c19
      clear c19
      by_cases c20 : x4_1 ≤ (l0.length : Int)
      ·rw [if_pos c20] at H
       have c20b0 := eq_true c20
       have c20b1 : decide (x4_1 ≤ (l0.length : Int)) = true := decide_eq_true c20
       clear c20
       replace H := Option.bind_eq_some_iff.mp H
       obtain ⟨t227, A210, H⟩ := H
       replace H : (if 0 ≤ (wrap64 (x4_1 - 1)) then (if (wrap64 (x4_1 - 1)) < (t227.length : Int) then (some ((t227.set ((wrap64 (x4_1 - 1)) : Int).toNat (((rd t227 (wrap64 (x4_1 - 1))) + 1) % 256)), true)) else (none)) else (none)) = some (r1, r2) := H
       have A21 := Aside0.mk A210
       clear A210
       obtain ⟨ji22, hji22⟩ : ∃ j_ : Int, (wrap64 (x4_1 - 1)) = j_ := ⟨_, rfl⟩
       replace H : (if 0 ≤ (ji22) then (if (ji22) < (t227.length : Int) then (some ((t227.set ((ji22) : Int).toNat (((rd t227 (ji22)) + 1) % 256)), true)) else (none)) else (none)) = some (r1, r2) := by first | (rw [hji22] at H; exact H) | (simp only [hji22] at H ⊢; exact H)
       (try rw [hji22] at A21)
       have hji22w : (IntKind.i64.wrap (x4_1 - 1)) = ji22 := (i64_w _).trans hji22
       by_cases c23 : 0 ≤ (ji22)
       ·rw [if_pos c23] at H
        have c23b0 : decide (0 ≤ (ji22)) = true := decide_eq_true c23
        clear c23
        by_cases c24 : (ji22) < (t227.length : Int)
        ·rw [if_pos c24] at H
         have c24b0 : decide ((ji22) < (t227.length : Int)) = true := decide_eq_true c24
         clear c24
         obtain ⟨y231, hy231⟩ : ∃ y_ : List Int, y_ = (t227.set ((ji22) : Int).toNat (((rd t227 (ji22)) + 1) % 256)) := ⟨_, rfl⟩
         replace H : (some (y231, true)) = some (r1, r2) := by first | (rw [hy231]; with_reducible exact H) | (have H2_ := (Option.bind_some _ _).symm.trans H; rw [hy231]; with_reducible exact H2_) | (have H2_ := (Option.bind_some _ _).symm.trans H; with_reducible exact H2_) | with_reducible exact H | (rw [hy231]; exact H) | exact H
         have Ny231 := Aside0.mk hy231
         clear hy231
         simp only [Option.some.injEq, Prod.mk.injEq] at H
         obtain ⟨rfl, rfl⟩ := H
         obtain ⟨i026, hi026, _, hsz26, _⟩ := info_parts info5
         obtain ⟨hcut26, hA26, hC26⟩ := print_take_of (P := Try.prog) (Value.int .u8) 0 44 5 .i64 Try.underlying44 hi026 hsz26 A0 c0 l0 x4_1 (of_decide_eq_true (by first | (with_reducible assumption) | assumption)) (of_decide_eq_true (by first | (with_reducible assumption) | assumption)) HC0.out
         have HR226 := Aside0.mk (Kd.C_of_reads (h1 := fun _ => rfl) (hA26 _ (Kd.reads_of_C HR0.out)))
         have HC226 := Aside0.mk hC26
         clear hA26 hC26 hi026 hsz26
         go_wp2_with (first | ((with_reducible refine gate_callee (f := 55) rfl ?_); refine goesL_ (some 25) rfl rfl Try.func55 (by kernel_rfl) rfl #[.slice A0 (l0.take (x4_1 : Int).toNat).length c0] rfl (by (try simp only [List.map_toArray, List.map_cons, List.map_nil]); first | done | (rw [show (l0.take (x4_1 : Int).toNat).length = x4_1.toNat from (by rw [List.length_take]; have h_ : (x4_1 : Int) ≤ (l0.length : Int) := of_decide_eq_true (by first | (with_reducible assumption) | assumption); omega)] <;> rfl) | rfl | (simp only [List.length_drop, List.length_take]; rfl)) ?_; (with_reducible refine (slices_Clone_byte_byte.calls _ _ (l0.take (x4_1 : Int).toNat) t227 _ ?side1 ?side2 A21.out).mono ?_); (case side1 => repeat (first | exact (Kd.C_below HR226.out HB.out) | (with_reducible refine Kd.C_alloc ?_ _) | (with_reducible refine Kd.C_drewN ?_ _) | (with_reducible refine Kd.C_drew ?_))); (case side2 => exact HC226.out); rintro e w27 ⟨v228, rfl, ho0, hb⟩; refine ⟨_, rfl, ?_⟩; have n0_ := Aside0.mk (Kd.R_lower ho0 (below_size (by repeat (first | (with_reducible first | exact HB.out | apply below_alloc | apply pw_below_drewN | apply below_drew1) | exact HB.out)))); have n1_ := Aside0.mk (below_step (by repeat (first | (with_reducible first | exact HB.out | apply below_alloc | apply pw_below_drewN | apply below_drew1) | exact HB.out)) hb); clear HB; have HO229 := n0_; have HB := n1_; clear n0_ n1_; (try clear hb); (try clear hb2); (try clear hk); (try clear hi); (try clear ho0); obtain ⟨Ao28, co28, eo28⟩ := Kd.R_slice HO229.out; subst eo28; have p230 : 0 ≤ ((ji22) : Int) := of_decide_eq_true (by first | (with_reducible assumption) | assumption); have q230 : (ji22) < (t227.length : Int) := of_decide_eq_true (by first | (with_reducible assumption) | assumption); obtain ⟨ad230, e230, hx230_0⟩ := Kd.at_int (Kd.R_reads' HO229.out).2.2 (ji22) p230 q230; cases e230; replace p230 := eq_true p230; replace q230 := eq_true q230; have p25 : 0 ≤ ((ji22) : Int) := of_decide_eq_true (by first | (with_reducible assumption) | assumption); have q25 : ((ji22) : Int) < ((t227.length : Int) : Int) := of_decide_eq_true (by first | (with_reducible assumption) | assumption); obtain ⟨go25, co25, eo25, gb25, gl25, cl25, HG25⟩ := Kd.R_form HO229.out (by omega); (first | cases eo25 | (injection eo25 with ea_ en_ ec_; (first | subst ea_ | (injection ea_ with ea_; subst ea_)); subst ec_; clear en_)); have GB25 := Aside0.mk gb25; have GG25 := Aside0.mk HG25; clear gb25 gl25 HG25; (first | simp only [add_plain] at hx230_0 | skip); obtain ⟨hx25_0, hf25_0⟩ := Kd.R_celln 0 HO229.out ((ji22) : Int) p25 q25; replace p25 := eq_true p25; replace q25 := eq_true q25; obtain ⟨hy29_, hz29_⟩ := Kd.R_celln 0 HO229.out ((ji22) : Int) (of_decide_eq_true (by first | (with_reducible assumption) | assumption)) (of_decide_eq_true (by first | (with_reducible assumption) | assumption)); have HP29 := Kd.R_putg HO229.out ((ji22) : Int) (((rd t227 (ji22)) + 1) % 256)) | ((with_reducible refine gate_store (t := 5) (p := 32) rfl ?_); refine store_event (t := 5) (p := 32) (v := ?vo_w30) (w1 := (w27.setCell ⟨go25, ((ji22) : Int).toNat, none⟩ (.int .u8 (((rd t227 (ji22)) + 1) % 256)))) ?hg ?ho ?hn ?hr ?_; (case ho => rfl); (case hg => rfl); (case hn => rfl); (case hr => first | (go_simp; done) | (go_simp; rfl)); intro w30 hw; have hg : w27.grownBy w30 (some go25) := (by rw [hw]; exact HP29.2); have hp_ : Kd.R (Kd.int .u8) 5 w30 w.heap.size (fun _ => True) (.slice (some ⟨go25, 0, none⟩) t227.length co28) y231 := (by rw [hw, Ny231.out]; exact HP29.1); clear HP29; have n0_ := Aside0.mk (hp_); have n1_ := Aside0.mk ((by rw [hw]; exact below_set (HB.out) GB25.out : Below w.heap.size w w30)); clear HO229; clear HB; have HO229 := n0_; have HB := n1_; clear n0_ n1_; clear hg hw hp_))
         go_ret2
         exact ⟨_, by first | rfl | (simp [errW_none, errW_some] <;> rfl) | (simp only [← hji22]; first | rfl | (simp [errW_none, errW_some] <;> rfl)) | (simp [*, errW_none, errW_some] <;> rfl), by (with_reducible repeat (first | apply Kd.R_alloc | apply Kd.R_drewN | apply Kd.R_drew)); exact HO229.out, by repeat (first | (with_reducible first | exact HB.out | apply below_alloc | apply pw_below_drewN | apply below_drew1) | exact HB.out)⟩
        ·rw [if_neg c24] at H
         exact absurd H (by simp)
       ·rw [if_neg c23] at H
        exact absurd H (by simp)
      ·rw [if_neg c20] at H
       exact absurd H (by simp)
     ·rw [if_neg c19] at H
      exact absurd H (by simp)
end Go.Proofs.Ytmfenomjhmhogaa.P
end
section
namespace Go.Proofs.Ytmfenomjhmhogaa.P
open Go.RowKit Go.Proofs.Ytmfenomjhmhogaa.Pure Go.Proofs.YtmfenomjhmhogaaW.PrintWords Go.Proofs.YtmfenomjhmhogaaW.PrintLast Go.Proofs.YtmfenomjhmhogaaW.PrintMore
attribute [local go_sem] max2_int min2_int max_two min_two max_three min_three max_four min_four
set_option linter.unusedVariables false
set_option linter.unusedSimpArgs false
def keyF (k : Nat) (vs : List S25) (d : List Bool) (t : S69) : Option (List Int) := if vs.length + 1 ≤ 4398046511104 then (keys_Encode.f k (vs ++ [t.f2]) d).bind fun r => some r.1 else none
def lowF (k : Nat) (vs : List S25) (d : List Bool) (base : List Int) : List S69 → List Int → Option (List Int)
  | [], cur => some cur
  | t :: r, _ => (keyF k vs d t).bind fun kk => if t.f1 = 9 ∨ t.f1 = 7 then (keys_Next.f k kk).bind fun nx => lowF k vs d base r (if nx.2 = true then nx.1 else base) else lowF k vs d base r kk
def highF (k : Nat) (vs : List S25) (d : List Bool) : List S69 → List Int → Bool → Option (List Int × Bool)
  | [], cur, ok => some (cur, ok)
  | t :: r, _, _ => (keyF k vs d t).bind fun kk => if t.f1 = 8 ∨ t.f1 = 10 then (keys_Next.f k kk).bind fun nx => highF k vs d r nx.1 nx.2 else highF k vs d r kk true
def swapB (vs : List S25) (d : List Bool) : Bool := decide (vs.length < d.length) && rdOf false d (vs.length : Int)
def bounds_Range.g (k : Nat) (vs : List S25) (lo up : List S69) (d : List Bool) : Option (List Int × List Int × Bool) :=
  (keys_Encode.f k vs d).bind fun be => (lowF k vs d be.1 lo be.1).bind fun low => (keys_Next.f k be.1).bind fun hb => (highF k vs d up hb.1 hb.2).bind fun hi => some (low, hi.1, !hi.2)
def bounds_Range.f (k : Nat) (a0_0 : Int) (a0_1 a0_2 : ByteArray) (l0_3 : List Int) (l0_4 : List Bool) (a0_5 : Bool) (l1 : List S69) : Option (List Int × List Int × Bool) :=
  (bounds_useOf.f a0_0 a0_1 a0_2 l0_3 l0_4 a0_5 l1).bind fun u => if swapB u.1 l0_4 = true then bounds_Range.g k u.1 u.2.2 u.2.1 l0_4 else bounds_Range.g k u.1 u.2.1 u.2.2 l0_4
theorem keyF.mono (vs : List S25) (d : List Bool) (t : S69) (k : Nat) : LeO (keyF k vs d t) (keyF (k + 1) vs d t) := LeO.ite (LeO.bind (keys_Encode.mono _ _ _) (fun _ => LeO.refl _)) (LeO.refl _)
theorem lowF.mono (vs : List S25) (d : List Bool) (base : List Int) (k : Nat) : ∀ l cur, LeO (lowF k vs d base l cur) (lowF (k + 1) vs d base l cur)
  | [], _ => LeO.refl _
  | t :: r, _ => LeO.bind (keyF.mono _ _ _ _) (fun _ => LeO.ite (LeO.bind (keys_Next.mono _ _) (fun _ => lowF.mono vs d base k r _)) (lowF.mono vs d base k r _))
theorem highF.mono (vs : List S25) (d : List Bool) (k : Nat) : ∀ l cur ok, LeO (highF k vs d l cur ok) (highF (k + 1) vs d l cur ok)
  | [], _, _ => LeO.refl _
  | t :: r, _, _ => LeO.bind (keyF.mono _ _ _ _) (fun _ => LeO.ite (LeO.bind (keys_Next.mono _ _) (fun _ => highF.mono vs d k r _ _)) (highF.mono vs d k r _ _))
def RI (w : World) (cx : Array Value) (g : Nat) (v0 : Value) (vs : List S25) (v1 : Value) (lo : List S69) (v2 : Value) (up : List S69) (W : World) : Prop :=
  W.heap[w.heap.size]? = some (.cells cx 41 (0, 0)) ∧ W.heap[g]? = some (.cells #[v0, v1, v2] 77 (0, 0)) ∧ w.heap.size ≤ g ∧ Kd.R k25 25 W w.heap.size (fun _ => True) v0 vs ∧ Kd.R k69 69 W w.heap.size (fun _ => True) v1 lo ∧ Kd.R k69 69 W w.heap.size (fun _ => True) v2 up ∧ Below w.heap.size w W
section
variable {w W W' : World} {cx : Array Value} {g : Nat} {v0 v1 v2 : Value} {vs : List S25} {lo up : List S69}
theorem RI.below (h : RI w cx g v0 vs v1 lo v2 up W) (hb : Below W.heap.size W W') : RI w cx g v0 vs v1 lo v2 up W' :=
  ⟨blk_below h.1 hb, blk_below h.2.1 hb, h.2.2.1, Kd.R_below h.2.2.2.1 hb, Kd.R_below h.2.2.2.2.1 hb, Kd.R_below h.2.2.2.2.2.1 hb, below_step h.2.2.2.2.2.2 hb⟩
theorem RI.b (h : RI w cx g v0 vs v1 lo v2 up W) : Below w.heap.size w W := h.2.2.2.2.2.2
theorem RI.rv (h : RI w cx g v0 vs v1 lo v2 up W) : Kd.R k25 25 W w.heap.size (fun _ => True) v0 vs := h.2.2.2.1
theorem RI.r1 (h : RI w cx g v0 vs v1 lo v2 up W) : Kd.R k69 69 W w.heap.size (fun _ => True) v1 lo := h.2.2.2.2.1
theorem RI.r2 (h : RI w cx g v0 vs v1 lo v2 up W) : Kd.R k69 69 W w.heap.size (fun _ => True) v2 up := h.2.2.2.2.2.1
theorem RI.u0 (h : RI w cx g v0 vs v1 lo v2 up W) : W.cell? ⟨g, 0, none⟩ = some v0 := (blk_cell h.2.1 0).trans rfl
theorem RI.u1 (h : RI w cx g v0 vs v1 lo v2 up W) : W.cell? ⟨g, 1, none⟩ = some v1 := (blk_cell h.2.1 1).trans rfl
theorem RI.u2 (h : RI w cx g v0 vs v1 lo v2 up W) : W.cell? ⟨g, 2, none⟩ = some v2 := (blk_cell h.2.1 2).trans rfl
theorem RI.swap (h : RI w cx g v0 vs v1 lo v2 up W) (hne : w.heap.size ≠ g) : RI w cx g v0 vs v2 up v1 lo ((W.setCell ⟨g, 1, none⟩ v2).setCell ⟨g, 2, none⟩ v1) := by
  have b1 := blk_put h.2.1 1 v2 rfl
  exact ⟨blk_far (blk_far h.1 hne _) hne _, blk_put b1 2 v1 rfl, h.2.2.1, R_setK (R_setK h.rv h.2.1 (by decide) _ _) b1 (by decide) _ _, R_setK (R_setK h.r2 h.2.1 (by decide) _ _) b1 (by decide) _ _, R_setK (R_setK h.r1 h.2.1 (by decide) _ _) b1 (by decide) _ _, below_set (below_set h.b h.2.2.1) h.2.2.1⟩
end
theorem two_u8 {W : World} {B : Nat} {v4 v5 : Value} {low hi : List Int} (h4 : Kd.R (Kd.int .u8) 5 W B (fun _ => True) v4 low) (h5 : Kd.R (Kd.int .u8) 5 W B (fun _ => True) v5 hi) (hap : ∀ k, v5.ownBlock = some k → some k ≠ v4.ownBlock) :
    Kd.R (Kd.int .u8) 5 W B (fun k_ => some k_ ≠ v5.ownBlock) v4 low ∧ Kd.R (Kd.int .u8) 5 W B (fun k_ => some k_ ≠ v4.ownBlock) v5 hi :=
  ⟨Kd.R_reok rfl h4 (fun k hk he => hap k he.symm hk.symm), Kd.R_reok rfl h5 hap⟩
theorem young_u8 {W W' : World} {B : Nat} {v4 v5 : Value} {low hi : List Int} (h4 : Kd.R (Kd.int .u8) 5 W B (fun _ => True) v4 low) (h5 : Kd.R (Kd.int .u8) 5 W' W.heap.size (fun _ => True) v5 hi) : ∀ k, v5.ownBlock = some k → some k ≠ v4.ownBlock := fun k hk he => by
  have h1 := Kd.R_lt h4 k he.symm
  have h2 := Kd.R_base h5 k hk
  omega
set_option maxHeartbeats 8000000 in
set_option maxRecDepth 100000 in
theorem range_keep0 (k : Nat) (a0_0 : Int) (a0_1 : ByteArray) (a0_2 : ByteArray) (A0_3 : Option Addr) (c0_3 : Nat) (l0_3 : List Int) (A0_4 : Option Addr) (c0_4 : Nat) (l0_4 : List Bool) (a0_5 : Bool) (A1 : Option Addr) (c1 : Nat) (l1 : List (S69)) (vs : List S25) (lo0 up0 : List S69) (be : List Int) (be2 : Int) (r1 r2 : List Int) (nb1 : List Int) (nb2 hi2 : Bool) (w : World) (hr0_3 : Kd.C (Kd.int .i64) w A0_3 l0_3.length l0_3) (hc0_3 : l0_3.length ≤ c0_3) (hr0_4 : Kd.C Kd.bool w A0_4 l0_4.length l0_4) (hc0_4 : l0_4.length ≤ c0_4) (hr1 : Kd.C k69 w A1 l1.length l1) (hc1 : l1.length ≤ c1) (hu : bounds_useOf.f a0_0 a0_1 a0_2 l0_3 l0_4 a0_5 l1 = some (vs, lo0, up0)) (he : keys_Encode.f k vs l0_4 = some (be, be2)) (hlo : lowF k vs l0_4 be lo0 be = some r1) (hnx : keys_Next.f k be = some (nb1, nb2)) (hhi : highF k vs l0_4 up0 nb1 nb2 = some (r2, hi2)) (hlt : ¬ vs.length < l0_4.length) :
    Calls Try.prog 15 #[.agg #[.int .i64 a0_0, .string a0_1, .string a0_2, .slice A0_3 l0_3.length c0_3, .slice A0_4 l0_4.length c0_4, .bool a0_5], .slice A1 l1.length c1] w fun e w' => ∃ v0_ v1_ : Value, e = .returned (.tuple #[v0_, v1_, .bool (!hi2)]) ∧ Kd.R (Kd.int .u8) 5 w' w.heap.size (fun k_ => some k_ ≠ (v1_ : Value).ownBlock) v0_ r1 ∧ Kd.R (Kd.int .u8) 5 w' w.heap.size (fun k_ => some k_ ≠ (v0_ : Value).ownBlock) v1_ r2 ∧ Below w.heap.size w w' := by
  have hu41 := Try.underlying41
  have hu77 := Try.underlying77
  have hu69 := Try.underlying69
  have hu25 := Try.underlying25
  have HR3 := Aside0.mk (And.intro hr0_3 hc0_3)
  have HR4 := Aside0.mk (And.intro hr0_4 hc0_4)
  have HR1 := Aside0.mk (And.intro hr1 hc1)
  have HU := Aside0.mk hu
  have HEN := Aside0.mk he
  have HLO := Aside0.mk hlo
  have HNX := Aside0.mk hnx
  have HHI := Aside0.mk hhi
  obtain ⟨cx, hcx⟩ : ∃ cx : Array Value, cx = #[.int .i64 a0_0, .string a0_1, .string a0_2, .slice A0_3 l0_3.length c0_3, .slice A0_4 l0_4.length c0_4, .bool a0_5] := ⟨_, rfl⟩
  have HX := Aside0.mk hcx
  clear hr0_3 hc0_3 hr0_4 hc0_4 hr1 hc1 hu he hlo hnx hhi hcx
  have s1 : decide ((vs.length : Int) < (l0_4.length : Int)) = false := decide_eq_false (by omega)
  have s2 : decide (vs.length < l0_4.length) = false := decide_eq_false hlt
  clear hlt
  go_enter Try.func15, Try.ntmps15
  go_upto_region 1 with fail
  refine at_world (fun W => W.heap[w.heap.size]? = some (.cells #[.int .i64 a0_0, .string a0_1, .string a0_2, .slice A0_3 l0_3.length c0_3, .slice A0_4 l0_4.length c0_4, .bool a0_5] 41 (0, 0)) ∧ Below w.heap.size w W) ⟨Deep.blk_alloc_new w _, below_alloc (Below.refl _ _) _⟩ (fun W hI => ?_)
  have HI0 := Aside0.mk hI
  clear hI
  have x0 : World.cell? W ⟨w.heap.size, 0, none⟩ = some (.int .i64 a0_0) := (blk_cell HI0.out.1 0).trans rfl
  have x1 : World.cell? W ⟨w.heap.size, 1, none⟩ = some (.string a0_1) := (blk_cell HI0.out.1 1).trans rfl
  have x2 : World.cell? W ⟨w.heap.size, 2, none⟩ = some (.string a0_2) := (blk_cell HI0.out.1 2).trans rfl
  have x3 : World.cell? W ⟨w.heap.size, 3, none⟩ = some (.slice A0_3 l0_3.length c0_3) := (blk_cell HI0.out.1 3).trans rfl
  have x4 : World.cell? W ⟨w.heap.size, 4, none⟩ = some (.slice A0_4 l0_4.length c0_4) := (blk_cell HI0.out.1 4).trans rfl
  have x5 : World.cell? W ⟨w.heap.size, 5, none⟩ = some (.bool a0_5) := (blk_cell HI0.out.1 5).trans rfl
  go_upto_region 2 with (first | (go_at_call 31; (with_reducible refine (bounds_useOf.calls a0_0 a0_1 a0_2 A0_3 c0_3 l0_3 A0_4 c0_4 l0_4 a0_5 A1 c1 l1 vs lo0 up0 _ (Kd.C_below HR3.out.1 HI0.out.2) HR3.out.2 (Kd.C_below HR4.out.1 HI0.out.2) HR4.out.2 (Kd.C_below HR1.out.1 HI0.out.2) HR1.out.2 HU.out).mono ?_); rintro e w2 ⟨v0, v1, v2, rfl, h0, h1, h2, hb⟩; obtain ⟨Av0, cv0, e0⟩ := Kd.R_slice h0; subst e0; obtain ⟨Av1, cv1, e1⟩ := Kd.R_slice h1; subst e1; obtain ⟨Av2, cv2, e2⟩ := Kd.R_slice h2; subst e2; have HK := Aside0.mk (And.intro h0 (And.intro h1 (And.intro h2 hb))); clear h0 h1 h2 hb x0 x1 x2 x3 x4 x5))
  refine at_world (fun W' => RI w cx w2.heap.size (.slice Av0 vs.length cv0) vs (.slice Av1 lo0.length cv1) lo0 (.slice Av2 up0.length cv2) up0 W' ∧ w.heap.size ≠ w2.heap.size) ?rr (fun W hI => ?_)
  case rr =>
    have hbw := HK.out.2.2.2
    have hlt := blk_lt (blk_below HI0.out.1 hbw)
    have hba := below_alloc (Below.refl w2.heap.size w2) (.cells #[.slice Av0 vs.length cv0, .slice Av1 lo0.length cv1, .slice Av2 up0.length cv2] 77)
    exact ⟨⟨by rw [HX.out]; exact blk_below (blk_below HI0.out.1 hbw) hba, Deep.blk_alloc_new w2 _, Nat.le_of_lt hlt, Kd.R_below (Kd.R_lower HK.out.1 (below_size HI0.out.2)) hba, Kd.R_below (Kd.R_mono (Kd.R_lower HK.out.2.1 (below_size HI0.out.2)) (fun _ _ => trivial)) hba, Kd.R_below (Kd.R_mono (Kd.R_lower HK.out.2.2.1 (below_size HI0.out.2)) (fun _ _ => trivial)) hba, below_step (below_step HI0.out.2 hbw) hba⟩, Nat.ne_of_lt hlt⟩
  have HNE := Aside0.mk hI.2
  have HI := Aside0.mk hI.1
  clear hI HK HI0
  have cu0 := HI.out.u0
  have fu0 := blk_frozen HI.out.2.1 0
  have cu1 := HI.out.u1
  have fu1 := blk_frozen HI.out.2.1 1
  have cu2 := HI.out.u2
  have fu2 := blk_frozen HI.out.2.1 2
  have cx4 : World.cell? _ ⟨w.heap.size, 4, none⟩ = some (.slice A0_4 l0_4.length c0_4) := (blk_cell HI.out.1 4).trans (by rw [HX.out]; rfl)
  go_upto_region 3 with (first | (go_at_call 32; (with_reducible refine (keys_Encode.calls k Av0 cv0 vs A0_4 c0_4 l0_4 be be2 _ (Kd.R_reads' HI.out.rv).2.2 (Kd.R_reads' HI.out.rv).2.1 (Kd.C_below HR4.out.1 HI.out.b) HR4.out.2 HEN.out).mono ?_); rintro e w3 ⟨v8, rfl, ho, hb⟩; have HB8 := Aside0.mk (Kd.R_lower ho (below_size HI.out.b)); have HI3 := Aside0.mk (HI.out.below hb); clear ho hb HI cu0 cu1 cu2 fu0 fu1 fu2 cx4))
  have HI := HI3
  clear HI3
  have cu0 := HI.out.u0
  have fu0 := blk_frozen HI.out.2.1 0
  have cu1 := HI.out.u1
  have fu1 := blk_frozen HI.out.2.1 1
  have cu2 := HI.out.u2
  have fu2 := blk_frozen HI.out.2.1 2
  have cx4 : World.cell? _ ⟨w.heap.size, 4, none⟩ = some (.slice A0_4 l0_4.length c0_4) := (blk_cell HI.out.1 4).trans (by rw [HX.out]; rfl)
  go_upto_region 7 with fail
  clear cu0 cu1 cu2 fu0 fu1 fu2 cx4
  have cu0 := HI.out.u0
  have fu0 := blk_frozen HI.out.2.1 0
  have cu1 := HI.out.u1
  have fu1 := blk_frozen HI.out.2.1 1
  have cu2 := HI.out.u2
  have fu2 := blk_frozen HI.out.2.1 2
  go_upto_region 8 with fail
  go_wp2
  go_loopg [4, 56] (lo0.length + 1) (fun kq v4 v56 w' => ∃ (j : Nat) (cur : List Int), v56 = .int .i64 (j : Int) ∧ Aside0 (j ≤ lo0.length ∧ lo0.length - j < kq ∧ lowF k vs l0_4 be (lo0.drop j) cur = some r1) ∧ Aside0 (RI w cx w2.heap.size (.slice Av0 vs.length cv0) vs (.slice Av1 lo0.length cv1) lo0 (.slice Av2 up0.length cv2) up0 w') ∧ Aside0 (Kd.R (Kd.int .u8) 5 w' w.heap.size (fun _ => True) v8 be) ∧ Aside0 (Kd.R (Kd.int .u8) 5 w' w.heap.size (fun _ => True) v4 cur))
  case atStart => exact ⟨0, be, rfl, ⟨by omega, by omega, HLO.out⟩, HI, HB8, HB8⟩
  case round =>
    clear HI HB8 HLO cu0 cu1 cu2 fu0 fu1 fu2
    obtain ⟨j, cur, rfl, HA, HI, HB8, HL4⟩ := hrel
    have hj := HA.out.1
    by_cases hlt : j < lo0.length
    · skip
      have p0 : (0 : Int) ≤ (j : Int) := by omega
      have q0 : (j : Int) < (lo0.length : Int) := by omega
      have hnj := (Kd.R_reads' HI.out.r1).2.2.2.1
      obtain ⟨ad1, e0, hx0, hx1, hx2, hx3, hx4⟩ := at_T69 (Kd.R_reads' HI.out.r1).2.2 (j : Int) p0 q0
      cases e0
      simp only [Int.toNat_natCast] at hx0 hx1 hx2 hx3 hx4
      have b1 : decide ((j : Int) < (lo0.length : Int)) = true := decide_eq_true q0
      have b0 : decide (j < lo0.length) = true := decide_eq_true hlt
      have HLT := Aside0.mk hlt
      have hdrop : lo0.drop j = rd_T69 lo0 (j : Int) :: lo0.drop (j + 1) := by
        rw [List.drop_eq_getElem_cons hlt]
        simp [rd_T69, List.getD_eq_getElem?_getD, List.getElem?_eq_getElem hlt]
      have hF := HA.out.2.2
      rw [hdrop] at hF
      clear hdrop
      generalize rd_T69 lo0 (j : Int) = t at hx0 hx1 hx2 hx3 hx4 hF
      unfold lowF at hF
      replace hF := Option.bind_eq_some_iff.mp hF
      obtain ⟨kk, hkk, hF⟩ := hF
      unfold keyF at hkk
      by_cases hvs : vs.length + 1 ≤ 4398046511104
      case neg => rw [if_neg hvs] at hkk; cases hkk
      rw [if_pos hvs] at hkk
      replace hkk := Option.bind_eq_some_iff.mp hkk
      obtain ⟨⟨k1_, k2_⟩, hke, hkk⟩ := hkk
      obtain rfl : k1_ = kk := Option.some.inj hkk
      have HVS := Aside0.mk hvs
      have HKE := Aside0.mk hke
      have HF := Aside0.mk hF
      clear hvs hke hkk hF hlt
      go_upto_region 11 with fail
      refine at_world (fun W' => (RI w cx w2.heap.size (.slice Av0 vs.length cv0) vs (.slice (some ad1) lo0.length cv1) lo0 (.slice Av2 up0.length cv2) up0 W' ∧ Kd.R (Kd.int .u8) 5 W' w.heap.size (fun _ => True) v8 be) ∧ W'.heap[wr.heap.size]? = some (.cells #[.int .i64 t.f0, .int .i64 t.f1, .int .i64 t.f2.f0, .int .i64 t.f2.f1, .string t.f2.f2] 69 (0, 0))) ⟨⟨HI.out.below (below_alloc (Below.refl _ _) _), Kd.R_below HB8.out (below_alloc (Below.refl _ _) _)⟩, Deep.blk_alloc_new wr _⟩ (fun W4 hI => ?_)
      clear HI HB8 hx0 hx1 hx2 hx3 hx4
      have HI := Aside0.mk hI.1.1
      have HH := Aside0.mk hI.1.2
      have HT := Aside0.mk hI.2
      clear hI
      have t0 : W4.cell? ⟨wr.heap.size, 0, none⟩ = some (.int .i64 t.f0) := (blk_cell HT.out 0).trans rfl
      have t1 : W4.cell? ⟨wr.heap.size, 1, none⟩ = some (.int .i64 t.f1) := (blk_cell HT.out 1).trans rfl
      have t2 : W4.cell? ⟨wr.heap.size, 2, none⟩ = some (.int .i64 t.f2.f0) := (blk_cell HT.out 2).trans rfl
      have t3 : W4.cell? ⟨wr.heap.size, 3, none⟩ = some (.int .i64 t.f2.f1) := (blk_cell HT.out 3).trans rfl
      have t4 : W4.cell? ⟨wr.heap.size, 4, none⟩ = some (.string t.f2.f2) := (blk_cell HT.out 4).trans rfl
      have hkc := key.calls t w2.heap.size w.heap.size Av0 cv0 vs A0_4 c0_4 l0_4 k k1_ k2_ W4 HI.out.u0 ((blk_cell HI.out.1 4).trans (by rw [HX.out]; rfl)) (Kd.R_reads' HI.out.rv).2.2 (Kd.R_reads' HI.out.rv).2.1 (Kd.C_below HR4.out.1 HI.out.b) HR4.out.2 HVS.out HKE.out
      simp only [encT] at hkc
      go_upto_region 12 with (first | (go_at_call 33; refine hkc.mono ?_; rintro e w5 ⟨v9, rfl, ho, hb⟩; obtain ⟨A9, c9, e9⟩ := Kd.R_slice ho; subst e9; have HO9 := Aside0.mk (And.intro ho hb); clear ho hb hkc t0 t1 t2 t3 t4))
      have HI5 := Aside0.mk (HI.out.below HO9.out.2)
      have HH5 := Aside0.mk (Kd.R_below HH.out HO9.out.2)
      have HT5 := Aside0.mk (blk_below HT.out HO9.out.2)
      have HK5 := Aside0.mk (Kd.R_lower HO9.out.1 (below_size HI.out.b))
      have HY5 := Aside0.mk (trivial)
      clear HI HH HT HO9
      have t1 : w5.cell? ⟨wr.heap.size, 1, none⟩ = some (.int .i64 t.f1) := (blk_cell HT5.out 1).trans rfl
      by_cases hA : t.f1 = 9
      · skip
        have hF := HF.out
        rw [if_pos (Or.inl hA)] at hF
        have q1 : (t.f1 == 9) = true := beq_iff_eq.mpr hA
        replace hF := Option.bind_eq_some_iff.mp hF
        obtain ⟨⟨nx1, nx2⟩, hn1, hF⟩ := hF
        have HNX1 := Aside0.mk hn1
        clear hA HF hn1
        cases nx2 with
        | true =>
          have HF1 : Aside0 (lowF k vs l0_4 be (lo0.drop (j + 1)) nx1 = some r1) := ⟨hF⟩
          clear hF
          go_upto_region 15 with (first | (go_at_call 35; (with_reducible refine (keys_Next.calls k A9 c9 k1_ nx1 true _ (Kd.R_reads' HK5.out).2.2 (Kd.R_reads' HK5.out).2.1 HNX1.out).mono ?_); rintro e w6 ⟨v10, rfl, ho, hb⟩; have HO9 := Aside0.mk (And.intro ho hb); clear ho hb t1))
          go_wp2
          obtain ⟨k1, rfl⟩ : ∃ k1, gk = k1 + 1 := ⟨gk - 1, by have := HA.out; omega⟩
          go_roundg k1
          case measure => omega
          case rel =>
            refine ⟨j + 1, nx1, by go_num, ⟨by have := HLT.out; omega, by have := HA.out.2.1; omega, HF1.out⟩, ⟨HI5.out.below HO9.out.2⟩, ⟨Kd.R_below HH5.out HO9.out.2⟩, ⟨Kd.R_lower HO9.out.1 (below_size HI5.out.b)⟩⟩
        | false =>
          have HF1 : Aside0 (lowF k vs l0_4 be (lo0.drop (j + 1)) be = some r1) := ⟨hF⟩
          clear hF
          go_upto_region 15 with (first | (go_at_call 35; (with_reducible refine (keys_Next.calls k A9 c9 k1_ nx1 false _ (Kd.R_reads' HK5.out).2.2 (Kd.R_reads' HK5.out).2.1 HNX1.out).mono ?_); rintro e w6 ⟨v10, rfl, ho, hb⟩; have HO9 := Aside0.mk (And.intro ho hb); clear ho hb t1))
          go_wp2
          obtain ⟨k1, rfl⟩ : ∃ k1, gk = k1 + 1 := ⟨gk - 1, by have := HA.out; omega⟩
          go_roundg k1
          case measure => omega
          case rel =>
            refine ⟨j + 1, be, by go_num, ⟨by have := HLT.out; omega, by have := HA.out.2.1; omega, HF1.out⟩, ⟨HI5.out.below HO9.out.2⟩, ⟨Kd.R_below HH5.out HO9.out.2⟩, ⟨Kd.R_below HH5.out HO9.out.2⟩⟩
      · by_cases hB : t.f1 = 7
        · skip
          have hF := HF.out
          rw [if_pos (Or.inr hB)] at hF
          have q1 : (t.f1 == 9) = false := beq_eq_false_iff_ne.mpr hA
          have q2 : (t.f1 == 7) = true := beq_iff_eq.mpr hB
          replace hF := Option.bind_eq_some_iff.mp hF
          obtain ⟨⟨nx1, nx2⟩, hn1, hF⟩ := hF
          have HNX1 := Aside0.mk hn1
          clear hA hB HF hn1
          cases nx2 with
          | true =>
            have HF1 : Aside0 (lowF k vs l0_4 be (lo0.drop (j + 1)) nx1 = some r1) := ⟨hF⟩
            clear hF
            go_upto_region 15 with (first | (go_at_call 35; (with_reducible refine (keys_Next.calls k A9 c9 k1_ nx1 true _ (Kd.R_reads' HK5.out).2.2 (Kd.R_reads' HK5.out).2.1 HNX1.out).mono ?_); rintro e w6 ⟨v10, rfl, ho, hb⟩; have HO9 := Aside0.mk (And.intro ho hb); clear ho hb t1))
            go_wp2
            obtain ⟨k1, rfl⟩ : ∃ k1, gk = k1 + 1 := ⟨gk - 1, by have := HA.out; omega⟩
            go_roundg k1
            case measure => omega
            case rel =>
              refine ⟨j + 1, nx1, by go_num, ⟨by have := HLT.out; omega, by have := HA.out.2.1; omega, HF1.out⟩, ⟨HI5.out.below HO9.out.2⟩, ⟨Kd.R_below HH5.out HO9.out.2⟩, ⟨Kd.R_lower HO9.out.1 (below_size HI5.out.b)⟩⟩
          | false =>
            have HF1 : Aside0 (lowF k vs l0_4 be (lo0.drop (j + 1)) be = some r1) := ⟨hF⟩
            clear hF
            go_upto_region 15 with (first | (go_at_call 35; (with_reducible refine (keys_Next.calls k A9 c9 k1_ nx1 false _ (Kd.R_reads' HK5.out).2.2 (Kd.R_reads' HK5.out).2.1 HNX1.out).mono ?_); rintro e w6 ⟨v10, rfl, ho, hb⟩; have HO9 := Aside0.mk (And.intro ho hb); clear ho hb t1))
            go_wp2
            obtain ⟨k1, rfl⟩ : ∃ k1, gk = k1 + 1 := ⟨gk - 1, by have := HA.out; omega⟩
            go_roundg k1
            case measure => omega
            case rel =>
              refine ⟨j + 1, be, by go_num, ⟨by have := HLT.out; omega, by have := HA.out.2.1; omega, HF1.out⟩, ⟨HI5.out.below HO9.out.2⟩, ⟨Kd.R_below HH5.out HO9.out.2⟩, ⟨Kd.R_below HH5.out HO9.out.2⟩⟩
        · skip
          have hF := HF.out
          rw [if_neg (fun h => h.elim hA hB)] at hF
          have q1 : (t.f1 == 9) = false := beq_eq_false_iff_ne.mpr hA
          have q2 : (t.f1 == 7) = false := beq_eq_false_iff_ne.mpr hB
          have HF1 : Aside0 (lowF k vs l0_4 be (lo0.drop (j + 1)) k1_ = some r1) := ⟨hF⟩
          clear hA hB HF hF
          go_wp2
          obtain ⟨k1, rfl⟩ : ∃ k1, gk = k1 + 1 := ⟨gk - 1, by have := HA.out; omega⟩
          go_roundg k1
          case measure => omega
          case rel =>
            refine ⟨j + 1, k1_, by go_num, ⟨by have := HLT.out; omega, by have := HA.out.2.1; omega, HF1.out⟩, ⟨HI5.out⟩, ⟨HH5.out⟩, ⟨HK5.out⟩⟩
    · obtain rfl : j = lo0.length := by omega
      have b0 : decide (lo0.length < lo0.length) = false := decide_eq_false hlt
      have b1 : decide ((lo0.length : Int) < (lo0.length : Int)) = false := decide_eq_false (by omega)
      have hcur : r1 = cur := by
        have h := HA.out.2.2
        rw [List.drop_length] at h
        exact (Option.some.inj h).symm
      subst hcur
      clear hlt HA
      obtain ⟨A8, c8, e8⟩ := Kd.R_slice HB8.out
      subst e8
      go_upto_region 19 with (first | (go_at_call 35; (with_reducible refine (keys_Next.calls k A8 c8 be nb1 nb2 _ (Kd.R_reads' HB8.out).2.2 (Kd.R_reads' HB8.out).2.1 HNX.out).mono ?_); rintro e w6 ⟨v5, rfl, ho, hb⟩; have HO9 := Aside0.mk (And.intro ho hb); clear ho hb))
      have HY := Aside0.mk (young_u8 HL4.out HO9.out.1)
      have HI6 := Aside0.mk (HI.out.below HO9.out.2)
      have HL6 := Aside0.mk (Kd.R_below HL4.out HO9.out.2)
      have H5 := Aside0.mk (Kd.R_lower HO9.out.1 (below_size HI.out.b))
      clear HI HL4 HB8 HO9
      have HI := HI6
      have HL4 := HL6
      clear HI6 HL6
      have cu0 := HI.out.u0
      have fu0 := blk_frozen HI.out.2.1 0
      have cu1 := HI.out.u1
      have fu1 := blk_frozen HI.out.2.1 1
      have cu2 := HI.out.u2
      have fu2 := blk_frozen HI.out.2.1 2
      go_wp2
      go_loopg [5, 16, 89] (up0.length + 1) (fun kq v5 v16 v89 w' => ∃ (j : Nat) (cur : List Int) (ok : Bool), v89 = .int .i64 (j : Int) ∧ v16 = .bool ok ∧ Aside0 (j ≤ up0.length ∧ up0.length - j < kq ∧ highF k vs l0_4 (up0.drop j) cur ok = some (r2, hi2)) ∧ Aside0 (RI w cx w2.heap.size (.slice Av0 vs.length cv0) vs (.slice Av1 lo0.length cv1) lo0 (.slice Av2 up0.length cv2) up0 w') ∧ Aside0 (Kd.R (Kd.int .u8) 5 w' w.heap.size (fun _ => True) u4 r1) ∧ Aside0 (Kd.R (Kd.int .u8) 5 w' w.heap.size (fun _ => True) v5 cur) ∧ Aside0 (∀ k, v5.ownBlock = some k → some k ≠ u4.ownBlock))
      case atStart => exact ⟨0, nb1, nb2, rfl, rfl, ⟨by omega, by omega, HHI.out⟩, HI, HL4, H5, HY⟩
      case round =>
        clear HI HL4 HHI H5 HY cu0 cu1 cu2 fu0 fu1 fu2
        obtain ⟨j, cur, ok, rfl, rfl, HA, HI, HL4, H5, HY⟩ := hrel
        have hj := HA.out.1
        by_cases hlt : j < up0.length
        · skip
          have p0 : (0 : Int) ≤ (j : Int) := by omega
          have q0 : (j : Int) < (up0.length : Int) := by omega
          have hnj := (Kd.R_reads' HI.out.r2).2.2.2.1
          obtain ⟨ad1, e0, hx0, hx1, hx2, hx3, hx4⟩ := at_T69 (Kd.R_reads' HI.out.r2).2.2 (j : Int) p0 q0
          cases e0
          simp only [Int.toNat_natCast] at hx0 hx1 hx2 hx3 hx4
          have b1 : decide ((j : Int) < (up0.length : Int)) = true := decide_eq_true q0
          have b0 : decide (j < up0.length) = true := decide_eq_true hlt
          have HLT := Aside0.mk hlt
          have hdrop : up0.drop j = rd_T69 up0 (j : Int) :: up0.drop (j + 1) := by
            rw [List.drop_eq_getElem_cons hlt]
            simp [rd_T69, List.getD_eq_getElem?_getD, List.getElem?_eq_getElem hlt]
          have hF := HA.out.2.2
          rw [hdrop] at hF
          clear hdrop
          generalize rd_T69 up0 (j : Int) = t at hx0 hx1 hx2 hx3 hx4 hF
          unfold highF at hF
          replace hF := Option.bind_eq_some_iff.mp hF
          obtain ⟨kk, hkk, hF⟩ := hF
          unfold keyF at hkk
          by_cases hvs : vs.length + 1 ≤ 4398046511104
          case neg => rw [if_neg hvs] at hkk; cases hkk
          rw [if_pos hvs] at hkk
          replace hkk := Option.bind_eq_some_iff.mp hkk
          obtain ⟨⟨k1_, k2_⟩, hke, hkk⟩ := hkk
          obtain rfl : k1_ = kk := Option.some.inj hkk
          have HVS := Aside0.mk hvs
          have HKE := Aside0.mk hke
          have HF := Aside0.mk hF
          clear hvs hke hkk hF hlt
          go_upto_region 22 with fail
          refine at_world (fun W' => (RI w cx w2.heap.size (.slice Av0 vs.length cv0) vs (.slice Av1 lo0.length cv1) lo0 (.slice (some ad1) up0.length cv2) up0 W' ∧ Kd.R (Kd.int .u8) 5 W' w.heap.size (fun _ => True) u4 r1) ∧ W'.heap[wr.heap.size]? = some (.cells #[.int .i64 t.f0, .int .i64 t.f1, .int .i64 t.f2.f0, .int .i64 t.f2.f1, .string t.f2.f2] 69 (0, 0))) ⟨⟨HI.out.below (below_alloc (Below.refl _ _) _), Kd.R_below HL4.out (below_alloc (Below.refl _ _) _)⟩, Deep.blk_alloc_new wr _⟩ (fun W4 hI => ?_)
          clear HI HL4 hx0 hx1 hx2 hx3 hx4
          have HI := Aside0.mk hI.1.1
          have HH := Aside0.mk hI.1.2
          have HT := Aside0.mk hI.2
          clear hI
          have t0 : W4.cell? ⟨wr.heap.size, 0, none⟩ = some (.int .i64 t.f0) := (blk_cell HT.out 0).trans rfl
          have t1 : W4.cell? ⟨wr.heap.size, 1, none⟩ = some (.int .i64 t.f1) := (blk_cell HT.out 1).trans rfl
          have t2 : W4.cell? ⟨wr.heap.size, 2, none⟩ = some (.int .i64 t.f2.f0) := (blk_cell HT.out 2).trans rfl
          have t3 : W4.cell? ⟨wr.heap.size, 3, none⟩ = some (.int .i64 t.f2.f1) := (blk_cell HT.out 3).trans rfl
          have t4 : W4.cell? ⟨wr.heap.size, 4, none⟩ = some (.string t.f2.f2) := (blk_cell HT.out 4).trans rfl
          have hkc := key.calls t w2.heap.size w.heap.size Av0 cv0 vs A0_4 c0_4 l0_4 k k1_ k2_ W4 HI.out.u0 ((blk_cell HI.out.1 4).trans (by rw [HX.out]; rfl)) (Kd.R_reads' HI.out.rv).2.2 (Kd.R_reads' HI.out.rv).2.1 (Kd.C_below HR4.out.1 HI.out.b) HR4.out.2 HVS.out HKE.out
          simp only [encT] at hkc
          go_upto_region 23 with (first | (go_at_call 33; refine hkc.mono ?_; rintro e w5 ⟨v9, rfl, ho, hb⟩; obtain ⟨A9, c9, e9⟩ := Kd.R_slice ho; subst e9; have HO9 := Aside0.mk (And.intro ho hb); clear ho hb hkc t0 t1 t2 t3 t4))
          have HI5 := Aside0.mk (HI.out.below HO9.out.2)
          have HH5 := Aside0.mk (Kd.R_below HH.out HO9.out.2)
          have HT5 := Aside0.mk (blk_below HT.out HO9.out.2)
          have HK5 := Aside0.mk (Kd.R_lower HO9.out.1 (below_size HI.out.b))
          have HY5 := Aside0.mk (young_u8 HH.out HO9.out.1)
          clear HI HH HT HO9
          have t1 : w5.cell? ⟨wr.heap.size, 1, none⟩ = some (.int .i64 t.f1) := (blk_cell HT5.out 1).trans rfl
          by_cases hA : t.f1 = 8
          · skip
            have hF := HF.out
            rw [if_pos (Or.inl hA)] at hF
            have q1 : (t.f1 == 8) = true := beq_iff_eq.mpr hA
            replace hF := Option.bind_eq_some_iff.mp hF
            obtain ⟨⟨nx1, nx2⟩, hn1, hF⟩ := hF
            have HNX1 := Aside0.mk hn1
            clear hA HF hn1
            have HF1 : Aside0 (highF k vs l0_4 (up0.drop (j + 1)) nx1 nx2 = some (r2, hi2)) := ⟨hF⟩
            clear hF
            go_upto_region 25 with (first | (go_at_call 35; (with_reducible refine (keys_Next.calls k A9 c9 k1_ nx1 nx2 _ (Kd.R_reads' HK5.out).2.2 (Kd.R_reads' HK5.out).2.1 HNX1.out).mono ?_); rintro e w6 ⟨v10, rfl, ho, hb⟩; have HO9 := Aside0.mk (And.intro ho hb); clear ho hb t1))
            go_wp2
            obtain ⟨k1, rfl⟩ : ∃ k1, gk = k1 + 1 := ⟨gk - 1, by have := HA.out; omega⟩
            go_roundg k1
            case measure => omega
            case rel =>
              refine ⟨j + 1, nx1, nx2, by go_num, rfl, ⟨by have := HLT.out; omega, by have := HA.out.2.1; omega, HF1.out⟩, ⟨HI5.out.below HO9.out.2⟩, ⟨Kd.R_below HH5.out HO9.out.2⟩, ⟨Kd.R_lower HO9.out.1 (below_size HI5.out.b)⟩, ⟨young_u8 HH5.out HO9.out.1⟩⟩
          · by_cases hB : t.f1 = 10
            · skip
              have hF := HF.out
              rw [if_pos (Or.inr hB)] at hF
              have q1 : (t.f1 == 8) = false := beq_eq_false_iff_ne.mpr hA
              have q2 : (t.f1 == 10) = true := beq_iff_eq.mpr hB
              replace hF := Option.bind_eq_some_iff.mp hF
              obtain ⟨⟨nx1, nx2⟩, hn1, hF⟩ := hF
              have HNX1 := Aside0.mk hn1
              clear hA hB HF hn1
              have HF1 : Aside0 (highF k vs l0_4 (up0.drop (j + 1)) nx1 nx2 = some (r2, hi2)) := ⟨hF⟩
              clear hF
              go_upto_region 25 with (first | (go_at_call 35; (with_reducible refine (keys_Next.calls k A9 c9 k1_ nx1 nx2 _ (Kd.R_reads' HK5.out).2.2 (Kd.R_reads' HK5.out).2.1 HNX1.out).mono ?_); rintro e w6 ⟨v10, rfl, ho, hb⟩; have HO9 := Aside0.mk (And.intro ho hb); clear ho hb t1))
              go_wp2
              obtain ⟨k1, rfl⟩ : ∃ k1, gk = k1 + 1 := ⟨gk - 1, by have := HA.out; omega⟩
              go_roundg k1
              case measure => omega
              case rel =>
                refine ⟨j + 1, nx1, nx2, by go_num, rfl, ⟨by have := HLT.out; omega, by have := HA.out.2.1; omega, HF1.out⟩, ⟨HI5.out.below HO9.out.2⟩, ⟨Kd.R_below HH5.out HO9.out.2⟩, ⟨Kd.R_lower HO9.out.1 (below_size HI5.out.b)⟩, ⟨young_u8 HH5.out HO9.out.1⟩⟩
            · skip
              have hF := HF.out
              rw [if_neg (fun h => h.elim hA hB)] at hF
              have q1 : (t.f1 == 8) = false := beq_eq_false_iff_ne.mpr hA
              have q2 : (t.f1 == 10) = false := beq_eq_false_iff_ne.mpr hB
              have HF1 : Aside0 (highF k vs l0_4 (up0.drop (j + 1)) k1_ true = some (r2, hi2)) := ⟨hF⟩
              clear hA hB HF hF
              go_wp2
              obtain ⟨k1, rfl⟩ : ∃ k1, gk = k1 + 1 := ⟨gk - 1, by have := HA.out; omega⟩
              go_roundg k1
              case measure => omega
              case rel =>
                refine ⟨j + 1, k1_, true, by go_num, rfl, ⟨by have := HLT.out; omega, by have := HA.out.2.1; omega, HF1.out⟩, ⟨HI5.out⟩, ⟨HH5.out⟩, ⟨HK5.out⟩, ⟨HY5.out⟩⟩
        · obtain rfl : j = up0.length := by omega
          have b0 : decide (up0.length < up0.length) = false := decide_eq_false hlt
          have b1 : decide ((up0.length : Int) < (up0.length : Int)) = false := decide_eq_false (by omega)
          have hcur : r2 = cur ∧ hi2 = ok := by
            have h := HA.out.2.2
            rw [List.drop_length] at h
            have h2 := Option.some.inj h
            exact ⟨(congrArg Prod.fst h2).symm, (congrArg Prod.snd h2).symm⟩
          obtain ⟨rfl, rfl⟩ := hcur
          clear hlt HA
          go_wp2
          go_ret3
          exact ⟨u4, u5, rfl, (two_u8 HL4.out H5.out HY.out).1, (two_u8 HL4.out H5.out HY.out).2, HI.out.b⟩
set_option maxHeartbeats 8000000 in
set_option maxRecDepth 100000 in
theorem range_keep1 (k : Nat) (a0_0 : Int) (a0_1 : ByteArray) (a0_2 : ByteArray) (A0_3 : Option Addr) (c0_3 : Nat) (l0_3 : List Int) (A0_4 : Option Addr) (c0_4 : Nat) (l0_4 : List Bool) (a0_5 : Bool) (A1 : Option Addr) (c1 : Nat) (l1 : List (S69)) (vs : List S25) (lo0 up0 : List S69) (be : List Int) (be2 : Int) (r1 r2 : List Int) (nb1 : List Int) (nb2 hi2 : Bool) (w : World) (hr0_3 : Kd.C (Kd.int .i64) w A0_3 l0_3.length l0_3) (hc0_3 : l0_3.length ≤ c0_3) (hr0_4 : Kd.C Kd.bool w A0_4 l0_4.length l0_4) (hc0_4 : l0_4.length ≤ c0_4) (hr1 : Kd.C k69 w A1 l1.length l1) (hc1 : l1.length ≤ c1) (hu : bounds_useOf.f a0_0 a0_1 a0_2 l0_3 l0_4 a0_5 l1 = some (vs, lo0, up0)) (he : keys_Encode.f k vs l0_4 = some (be, be2)) (hlo : lowF k vs l0_4 be lo0 be = some r1) (hnx : keys_Next.f k be = some (nb1, nb2)) (hhi : highF k vs l0_4 up0 nb1 nb2 = some (r2, hi2)) (hlt : vs.length < l0_4.length) (hsw : rdOf false l0_4 (vs.length : Int) = false) :
    Calls Try.prog 15 #[.agg #[.int .i64 a0_0, .string a0_1, .string a0_2, .slice A0_3 l0_3.length c0_3, .slice A0_4 l0_4.length c0_4, .bool a0_5], .slice A1 l1.length c1] w fun e w' => ∃ v0_ v1_ : Value, e = .returned (.tuple #[v0_, v1_, .bool (!hi2)]) ∧ Kd.R (Kd.int .u8) 5 w' w.heap.size (fun k_ => some k_ ≠ (v1_ : Value).ownBlock) v0_ r1 ∧ Kd.R (Kd.int .u8) 5 w' w.heap.size (fun k_ => some k_ ≠ (v0_ : Value).ownBlock) v1_ r2 ∧ Below w.heap.size w w' := by
  have hu41 := Try.underlying41
  have hu77 := Try.underlying77
  have hu69 := Try.underlying69
  have hu25 := Try.underlying25
  have HR3 := Aside0.mk (And.intro hr0_3 hc0_3)
  have HR4 := Aside0.mk (And.intro hr0_4 hc0_4)
  have HR1 := Aside0.mk (And.intro hr1 hc1)
  have HU := Aside0.mk hu
  have HEN := Aside0.mk he
  have HLO := Aside0.mk hlo
  have HNX := Aside0.mk hnx
  have HHI := Aside0.mk hhi
  obtain ⟨cx, hcx⟩ : ∃ cx : Array Value, cx = #[.int .i64 a0_0, .string a0_1, .string a0_2, .slice A0_3 l0_3.length c0_3, .slice A0_4 l0_4.length c0_4, .bool a0_5] := ⟨_, rfl⟩
  have HX := Aside0.mk hcx
  clear hr0_3 hc0_3 hr0_4 hc0_4 hr1 hc1 hu he hlo hnx hhi hcx
  have p4 : (0 : Int) ≤ (vs.length : Int) := by omega
  have q4 : (vs.length : Int) < (l0_4.length : Int) := by omega
  obtain ⟨ad4, e4, y4⟩ := Kd.at_bool HR4.out.1 (vs.length : Int) p4 q4
  cases e4
  rw [hsw] at y4
  simp only [Int.toNat_natCast] at y4
  have s1 : decide ((vs.length : Int) < (l0_4.length : Int)) = true := decide_eq_true q4
  have s2 : decide (vs.length < l0_4.length) = true := decide_eq_true hlt
  replace p4 := eq_true p4
  replace q4 := eq_true q4
  clear hsw hlt
  go_enter Try.func15, Try.ntmps15
  go_upto_region 1 with fail
  refine at_world (fun W => W.heap[w.heap.size]? = some (.cells #[.int .i64 a0_0, .string a0_1, .string a0_2, .slice A0_3 l0_3.length c0_3, .slice (some ad4) l0_4.length c0_4, .bool a0_5] 41 (0, 0)) ∧ Below w.heap.size w W) ⟨Deep.blk_alloc_new w _, below_alloc (Below.refl _ _) _⟩ (fun W hI => ?_)
  have HI0 := Aside0.mk hI
  clear hI
  have x0 : World.cell? W ⟨w.heap.size, 0, none⟩ = some (.int .i64 a0_0) := (blk_cell HI0.out.1 0).trans rfl
  have x1 : World.cell? W ⟨w.heap.size, 1, none⟩ = some (.string a0_1) := (blk_cell HI0.out.1 1).trans rfl
  have x2 : World.cell? W ⟨w.heap.size, 2, none⟩ = some (.string a0_2) := (blk_cell HI0.out.1 2).trans rfl
  have x3 : World.cell? W ⟨w.heap.size, 3, none⟩ = some (.slice A0_3 l0_3.length c0_3) := (blk_cell HI0.out.1 3).trans rfl
  have x4 : World.cell? W ⟨w.heap.size, 4, none⟩ = some (.slice (some ad4) l0_4.length c0_4) := (blk_cell HI0.out.1 4).trans rfl
  have x5 : World.cell? W ⟨w.heap.size, 5, none⟩ = some (.bool a0_5) := (blk_cell HI0.out.1 5).trans rfl
  go_upto_region 2 with (first | (go_at_call 31; (with_reducible refine (bounds_useOf.calls a0_0 a0_1 a0_2 A0_3 c0_3 l0_3 (some ad4) c0_4 l0_4 a0_5 A1 c1 l1 vs lo0 up0 _ (Kd.C_below HR3.out.1 HI0.out.2) HR3.out.2 (Kd.C_below HR4.out.1 HI0.out.2) HR4.out.2 (Kd.C_below HR1.out.1 HI0.out.2) HR1.out.2 HU.out).mono ?_); rintro e w2 ⟨v0, v1, v2, rfl, h0, h1, h2, hb⟩; obtain ⟨Av0, cv0, e0⟩ := Kd.R_slice h0; subst e0; obtain ⟨Av1, cv1, e1⟩ := Kd.R_slice h1; subst e1; obtain ⟨Av2, cv2, e2⟩ := Kd.R_slice h2; subst e2; have HK := Aside0.mk (And.intro h0 (And.intro h1 (And.intro h2 hb))); clear h0 h1 h2 hb x0 x1 x2 x3 x4 x5))
  refine at_world (fun W' => RI w cx w2.heap.size (.slice Av0 vs.length cv0) vs (.slice Av1 lo0.length cv1) lo0 (.slice Av2 up0.length cv2) up0 W' ∧ w.heap.size ≠ w2.heap.size) ?rr (fun W hI => ?_)
  case rr =>
    have hbw := HK.out.2.2.2
    have hlt := blk_lt (blk_below HI0.out.1 hbw)
    have hba := below_alloc (Below.refl w2.heap.size w2) (.cells #[.slice Av0 vs.length cv0, .slice Av1 lo0.length cv1, .slice Av2 up0.length cv2] 77)
    exact ⟨⟨by rw [HX.out]; exact blk_below (blk_below HI0.out.1 hbw) hba, Deep.blk_alloc_new w2 _, Nat.le_of_lt hlt, Kd.R_below (Kd.R_lower HK.out.1 (below_size HI0.out.2)) hba, Kd.R_below (Kd.R_mono (Kd.R_lower HK.out.2.1 (below_size HI0.out.2)) (fun _ _ => trivial)) hba, Kd.R_below (Kd.R_mono (Kd.R_lower HK.out.2.2.1 (below_size HI0.out.2)) (fun _ _ => trivial)) hba, below_step (below_step HI0.out.2 hbw) hba⟩, Nat.ne_of_lt hlt⟩
  have HNE := Aside0.mk hI.2
  have HI := Aside0.mk hI.1
  clear hI HK HI0
  have cu0 := HI.out.u0
  have fu0 := blk_frozen HI.out.2.1 0
  have cu1 := HI.out.u1
  have fu1 := blk_frozen HI.out.2.1 1
  have cu2 := HI.out.u2
  have fu2 := blk_frozen HI.out.2.1 2
  have cx4 : World.cell? _ ⟨w.heap.size, 4, none⟩ = some (.slice (some ad4) l0_4.length c0_4) := (blk_cell HI.out.1 4).trans (by rw [HX.out]; rfl)
  go_upto_region 3 with (first | (go_at_call 32; (with_reducible refine (keys_Encode.calls k Av0 cv0 vs (some ad4) c0_4 l0_4 be be2 _ (Kd.R_reads' HI.out.rv).2.2 (Kd.R_reads' HI.out.rv).2.1 (Kd.C_below HR4.out.1 HI.out.b) HR4.out.2 HEN.out).mono ?_); rintro e w3 ⟨v8, rfl, ho, hb⟩; have HB8 := Aside0.mk (Kd.R_lower ho (below_size HI.out.b)); have HI3 := Aside0.mk (HI.out.below hb); clear ho hb HI cu0 cu1 cu2 fu0 fu1 fu2 cx4))
  have HI := HI3
  clear HI3
  have cu0 := HI.out.u0
  have fu0 := blk_frozen HI.out.2.1 0
  have cu1 := HI.out.u1
  have fu1 := blk_frozen HI.out.2.1 1
  have cu2 := HI.out.u2
  have fu2 := blk_frozen HI.out.2.1 2
  have cx4 : World.cell? _ ⟨w.heap.size, 4, none⟩ = some (.slice (some ad4) l0_4.length c0_4) := (blk_cell HI.out.1 4).trans (by rw [HX.out]; rfl)
  replace y4 := (HI.out.b.cell (World.block_lt_of_cell? w _ y4)).trans y4
  go_upto_region 7 with fail
  clear cu0 cu1 cu2 fu0 fu1 fu2 cx4
  clear y4
  have cu0 := HI.out.u0
  have fu0 := blk_frozen HI.out.2.1 0
  have cu1 := HI.out.u1
  have fu1 := blk_frozen HI.out.2.1 1
  have cu2 := HI.out.u2
  have fu2 := blk_frozen HI.out.2.1 2
  go_upto_region 8 with fail
  go_wp2
  go_loopg [4, 56] (lo0.length + 1) (fun kq v4 v56 w' => ∃ (j : Nat) (cur : List Int), v56 = .int .i64 (j : Int) ∧ Aside0 (j ≤ lo0.length ∧ lo0.length - j < kq ∧ lowF k vs l0_4 be (lo0.drop j) cur = some r1) ∧ Aside0 (RI w cx w2.heap.size (.slice Av0 vs.length cv0) vs (.slice Av1 lo0.length cv1) lo0 (.slice Av2 up0.length cv2) up0 w') ∧ Aside0 (Kd.R (Kd.int .u8) 5 w' w.heap.size (fun _ => True) v8 be) ∧ Aside0 (Kd.R (Kd.int .u8) 5 w' w.heap.size (fun _ => True) v4 cur))
  case atStart => exact ⟨0, be, rfl, ⟨by omega, by omega, HLO.out⟩, HI, HB8, HB8⟩
  case round =>
    clear HI HB8 HLO cu0 cu1 cu2 fu0 fu1 fu2
    obtain ⟨j, cur, rfl, HA, HI, HB8, HL4⟩ := hrel
    have hj := HA.out.1
    by_cases hlt : j < lo0.length
    · skip
      have p0 : (0 : Int) ≤ (j : Int) := by omega
      have q0 : (j : Int) < (lo0.length : Int) := by omega
      have hnj := (Kd.R_reads' HI.out.r1).2.2.2.1
      obtain ⟨ad1, e0, hx0, hx1, hx2, hx3, hx4⟩ := at_T69 (Kd.R_reads' HI.out.r1).2.2 (j : Int) p0 q0
      cases e0
      simp only [Int.toNat_natCast] at hx0 hx1 hx2 hx3 hx4
      have b1 : decide ((j : Int) < (lo0.length : Int)) = true := decide_eq_true q0
      have b0 : decide (j < lo0.length) = true := decide_eq_true hlt
      have HLT := Aside0.mk hlt
      have hdrop : lo0.drop j = rd_T69 lo0 (j : Int) :: lo0.drop (j + 1) := by
        rw [List.drop_eq_getElem_cons hlt]
        simp [rd_T69, List.getD_eq_getElem?_getD, List.getElem?_eq_getElem hlt]
      have hF := HA.out.2.2
      rw [hdrop] at hF
      clear hdrop
      generalize rd_T69 lo0 (j : Int) = t at hx0 hx1 hx2 hx3 hx4 hF
      unfold lowF at hF
      replace hF := Option.bind_eq_some_iff.mp hF
      obtain ⟨kk, hkk, hF⟩ := hF
      unfold keyF at hkk
      by_cases hvs : vs.length + 1 ≤ 4398046511104
      case neg => rw [if_neg hvs] at hkk; cases hkk
      rw [if_pos hvs] at hkk
      replace hkk := Option.bind_eq_some_iff.mp hkk
      obtain ⟨⟨k1_, k2_⟩, hke, hkk⟩ := hkk
      obtain rfl : k1_ = kk := Option.some.inj hkk
      have HVS := Aside0.mk hvs
      have HKE := Aside0.mk hke
      have HF := Aside0.mk hF
      clear hvs hke hkk hF hlt
      go_upto_region 11 with fail
      refine at_world (fun W' => (RI w cx w2.heap.size (.slice Av0 vs.length cv0) vs (.slice (some ad1) lo0.length cv1) lo0 (.slice Av2 up0.length cv2) up0 W' ∧ Kd.R (Kd.int .u8) 5 W' w.heap.size (fun _ => True) v8 be) ∧ W'.heap[wr.heap.size]? = some (.cells #[.int .i64 t.f0, .int .i64 t.f1, .int .i64 t.f2.f0, .int .i64 t.f2.f1, .string t.f2.f2] 69 (0, 0))) ⟨⟨HI.out.below (below_alloc (Below.refl _ _) _), Kd.R_below HB8.out (below_alloc (Below.refl _ _) _)⟩, Deep.blk_alloc_new wr _⟩ (fun W4 hI => ?_)
      clear HI HB8 hx0 hx1 hx2 hx3 hx4
      have HI := Aside0.mk hI.1.1
      have HH := Aside0.mk hI.1.2
      have HT := Aside0.mk hI.2
      clear hI
      have t0 : W4.cell? ⟨wr.heap.size, 0, none⟩ = some (.int .i64 t.f0) := (blk_cell HT.out 0).trans rfl
      have t1 : W4.cell? ⟨wr.heap.size, 1, none⟩ = some (.int .i64 t.f1) := (blk_cell HT.out 1).trans rfl
      have t2 : W4.cell? ⟨wr.heap.size, 2, none⟩ = some (.int .i64 t.f2.f0) := (blk_cell HT.out 2).trans rfl
      have t3 : W4.cell? ⟨wr.heap.size, 3, none⟩ = some (.int .i64 t.f2.f1) := (blk_cell HT.out 3).trans rfl
      have t4 : W4.cell? ⟨wr.heap.size, 4, none⟩ = some (.string t.f2.f2) := (blk_cell HT.out 4).trans rfl
      have hkc := key.calls t w2.heap.size w.heap.size Av0 cv0 vs (some ad4) c0_4 l0_4 k k1_ k2_ W4 HI.out.u0 ((blk_cell HI.out.1 4).trans (by rw [HX.out]; rfl)) (Kd.R_reads' HI.out.rv).2.2 (Kd.R_reads' HI.out.rv).2.1 (Kd.C_below HR4.out.1 HI.out.b) HR4.out.2 HVS.out HKE.out
      simp only [encT] at hkc
      go_upto_region 12 with (first | (go_at_call 33; refine hkc.mono ?_; rintro e w5 ⟨v9, rfl, ho, hb⟩; obtain ⟨A9, c9, e9⟩ := Kd.R_slice ho; subst e9; have HO9 := Aside0.mk (And.intro ho hb); clear ho hb hkc t0 t1 t2 t3 t4))
      have HI5 := Aside0.mk (HI.out.below HO9.out.2)
      have HH5 := Aside0.mk (Kd.R_below HH.out HO9.out.2)
      have HT5 := Aside0.mk (blk_below HT.out HO9.out.2)
      have HK5 := Aside0.mk (Kd.R_lower HO9.out.1 (below_size HI.out.b))
      have HY5 := Aside0.mk (trivial)
      clear HI HH HT HO9
      have t1 : w5.cell? ⟨wr.heap.size, 1, none⟩ = some (.int .i64 t.f1) := (blk_cell HT5.out 1).trans rfl
      by_cases hA : t.f1 = 9
      · skip
        have hF := HF.out
        rw [if_pos (Or.inl hA)] at hF
        have q1 : (t.f1 == 9) = true := beq_iff_eq.mpr hA
        replace hF := Option.bind_eq_some_iff.mp hF
        obtain ⟨⟨nx1, nx2⟩, hn1, hF⟩ := hF
        have HNX1 := Aside0.mk hn1
        clear hA HF hn1
        cases nx2 with
        | true =>
          have HF1 : Aside0 (lowF k vs l0_4 be (lo0.drop (j + 1)) nx1 = some r1) := ⟨hF⟩
          clear hF
          go_upto_region 15 with (first | (go_at_call 35; (with_reducible refine (keys_Next.calls k A9 c9 k1_ nx1 true _ (Kd.R_reads' HK5.out).2.2 (Kd.R_reads' HK5.out).2.1 HNX1.out).mono ?_); rintro e w6 ⟨v10, rfl, ho, hb⟩; have HO9 := Aside0.mk (And.intro ho hb); clear ho hb t1))
          go_wp2
          obtain ⟨k1, rfl⟩ : ∃ k1, gk = k1 + 1 := ⟨gk - 1, by have := HA.out; omega⟩
          go_roundg k1
          case measure => omega
          case rel =>
            refine ⟨j + 1, nx1, by go_num, ⟨by have := HLT.out; omega, by have := HA.out.2.1; omega, HF1.out⟩, ⟨HI5.out.below HO9.out.2⟩, ⟨Kd.R_below HH5.out HO9.out.2⟩, ⟨Kd.R_lower HO9.out.1 (below_size HI5.out.b)⟩⟩
        | false =>
          have HF1 : Aside0 (lowF k vs l0_4 be (lo0.drop (j + 1)) be = some r1) := ⟨hF⟩
          clear hF
          go_upto_region 15 with (first | (go_at_call 35; (with_reducible refine (keys_Next.calls k A9 c9 k1_ nx1 false _ (Kd.R_reads' HK5.out).2.2 (Kd.R_reads' HK5.out).2.1 HNX1.out).mono ?_); rintro e w6 ⟨v10, rfl, ho, hb⟩; have HO9 := Aside0.mk (And.intro ho hb); clear ho hb t1))
          go_wp2
          obtain ⟨k1, rfl⟩ : ∃ k1, gk = k1 + 1 := ⟨gk - 1, by have := HA.out; omega⟩
          go_roundg k1
          case measure => omega
          case rel =>
            refine ⟨j + 1, be, by go_num, ⟨by have := HLT.out; omega, by have := HA.out.2.1; omega, HF1.out⟩, ⟨HI5.out.below HO9.out.2⟩, ⟨Kd.R_below HH5.out HO9.out.2⟩, ⟨Kd.R_below HH5.out HO9.out.2⟩⟩
      · by_cases hB : t.f1 = 7
        · skip
          have hF := HF.out
          rw [if_pos (Or.inr hB)] at hF
          have q1 : (t.f1 == 9) = false := beq_eq_false_iff_ne.mpr hA
          have q2 : (t.f1 == 7) = true := beq_iff_eq.mpr hB
          replace hF := Option.bind_eq_some_iff.mp hF
          obtain ⟨⟨nx1, nx2⟩, hn1, hF⟩ := hF
          have HNX1 := Aside0.mk hn1
          clear hA hB HF hn1
          cases nx2 with
          | true =>
            have HF1 : Aside0 (lowF k vs l0_4 be (lo0.drop (j + 1)) nx1 = some r1) := ⟨hF⟩
            clear hF
            go_upto_region 15 with (first | (go_at_call 35; (with_reducible refine (keys_Next.calls k A9 c9 k1_ nx1 true _ (Kd.R_reads' HK5.out).2.2 (Kd.R_reads' HK5.out).2.1 HNX1.out).mono ?_); rintro e w6 ⟨v10, rfl, ho, hb⟩; have HO9 := Aside0.mk (And.intro ho hb); clear ho hb t1))
            go_wp2
            obtain ⟨k1, rfl⟩ : ∃ k1, gk = k1 + 1 := ⟨gk - 1, by have := HA.out; omega⟩
            go_roundg k1
            case measure => omega
            case rel =>
              refine ⟨j + 1, nx1, by go_num, ⟨by have := HLT.out; omega, by have := HA.out.2.1; omega, HF1.out⟩, ⟨HI5.out.below HO9.out.2⟩, ⟨Kd.R_below HH5.out HO9.out.2⟩, ⟨Kd.R_lower HO9.out.1 (below_size HI5.out.b)⟩⟩
          | false =>
            have HF1 : Aside0 (lowF k vs l0_4 be (lo0.drop (j + 1)) be = some r1) := ⟨hF⟩
            clear hF
            go_upto_region 15 with (first | (go_at_call 35; (with_reducible refine (keys_Next.calls k A9 c9 k1_ nx1 false _ (Kd.R_reads' HK5.out).2.2 (Kd.R_reads' HK5.out).2.1 HNX1.out).mono ?_); rintro e w6 ⟨v10, rfl, ho, hb⟩; have HO9 := Aside0.mk (And.intro ho hb); clear ho hb t1))
            go_wp2
            obtain ⟨k1, rfl⟩ : ∃ k1, gk = k1 + 1 := ⟨gk - 1, by have := HA.out; omega⟩
            go_roundg k1
            case measure => omega
            case rel =>
              refine ⟨j + 1, be, by go_num, ⟨by have := HLT.out; omega, by have := HA.out.2.1; omega, HF1.out⟩, ⟨HI5.out.below HO9.out.2⟩, ⟨Kd.R_below HH5.out HO9.out.2⟩, ⟨Kd.R_below HH5.out HO9.out.2⟩⟩
        · skip
          have hF := HF.out
          rw [if_neg (fun h => h.elim hA hB)] at hF
          have q1 : (t.f1 == 9) = false := beq_eq_false_iff_ne.mpr hA
          have q2 : (t.f1 == 7) = false := beq_eq_false_iff_ne.mpr hB
          have HF1 : Aside0 (lowF k vs l0_4 be (lo0.drop (j + 1)) k1_ = some r1) := ⟨hF⟩
          clear hA hB HF hF
          go_wp2
          obtain ⟨k1, rfl⟩ : ∃ k1, gk = k1 + 1 := ⟨gk - 1, by have := HA.out; omega⟩
          go_roundg k1
          case measure => omega
          case rel =>
            refine ⟨j + 1, k1_, by go_num, ⟨by have := HLT.out; omega, by have := HA.out.2.1; omega, HF1.out⟩, ⟨HI5.out⟩, ⟨HH5.out⟩, ⟨HK5.out⟩⟩
    · obtain rfl : j = lo0.length := by omega
      have b0 : decide (lo0.length < lo0.length) = false := decide_eq_false hlt
      have b1 : decide ((lo0.length : Int) < (lo0.length : Int)) = false := decide_eq_false (by omega)
      have hcur : r1 = cur := by
        have h := HA.out.2.2
        rw [List.drop_length] at h
        exact (Option.some.inj h).symm
      subst hcur
      clear hlt HA
      obtain ⟨A8, c8, e8⟩ := Kd.R_slice HB8.out
      subst e8
      go_upto_region 19 with (first | (go_at_call 35; (with_reducible refine (keys_Next.calls k A8 c8 be nb1 nb2 _ (Kd.R_reads' HB8.out).2.2 (Kd.R_reads' HB8.out).2.1 HNX.out).mono ?_); rintro e w6 ⟨v5, rfl, ho, hb⟩; have HO9 := Aside0.mk (And.intro ho hb); clear ho hb))
      have HY := Aside0.mk (young_u8 HL4.out HO9.out.1)
      have HI6 := Aside0.mk (HI.out.below HO9.out.2)
      have HL6 := Aside0.mk (Kd.R_below HL4.out HO9.out.2)
      have H5 := Aside0.mk (Kd.R_lower HO9.out.1 (below_size HI.out.b))
      clear HI HL4 HB8 HO9
      have HI := HI6
      have HL4 := HL6
      clear HI6 HL6
      have cu0 := HI.out.u0
      have fu0 := blk_frozen HI.out.2.1 0
      have cu1 := HI.out.u1
      have fu1 := blk_frozen HI.out.2.1 1
      have cu2 := HI.out.u2
      have fu2 := blk_frozen HI.out.2.1 2
      go_wp2
      go_loopg [5, 16, 89] (up0.length + 1) (fun kq v5 v16 v89 w' => ∃ (j : Nat) (cur : List Int) (ok : Bool), v89 = .int .i64 (j : Int) ∧ v16 = .bool ok ∧ Aside0 (j ≤ up0.length ∧ up0.length - j < kq ∧ highF k vs l0_4 (up0.drop j) cur ok = some (r2, hi2)) ∧ Aside0 (RI w cx w2.heap.size (.slice Av0 vs.length cv0) vs (.slice Av1 lo0.length cv1) lo0 (.slice Av2 up0.length cv2) up0 w') ∧ Aside0 (Kd.R (Kd.int .u8) 5 w' w.heap.size (fun _ => True) u4 r1) ∧ Aside0 (Kd.R (Kd.int .u8) 5 w' w.heap.size (fun _ => True) v5 cur) ∧ Aside0 (∀ k, v5.ownBlock = some k → some k ≠ u4.ownBlock))
      case atStart => exact ⟨0, nb1, nb2, rfl, rfl, ⟨by omega, by omega, HHI.out⟩, HI, HL4, H5, HY⟩
      case round =>
        clear HI HL4 HHI H5 HY cu0 cu1 cu2 fu0 fu1 fu2
        obtain ⟨j, cur, ok, rfl, rfl, HA, HI, HL4, H5, HY⟩ := hrel
        have hj := HA.out.1
        by_cases hlt : j < up0.length
        · skip
          have p0 : (0 : Int) ≤ (j : Int) := by omega
          have q0 : (j : Int) < (up0.length : Int) := by omega
          have hnj := (Kd.R_reads' HI.out.r2).2.2.2.1
          obtain ⟨ad1, e0, hx0, hx1, hx2, hx3, hx4⟩ := at_T69 (Kd.R_reads' HI.out.r2).2.2 (j : Int) p0 q0
          cases e0
          simp only [Int.toNat_natCast] at hx0 hx1 hx2 hx3 hx4
          have b1 : decide ((j : Int) < (up0.length : Int)) = true := decide_eq_true q0
          have b0 : decide (j < up0.length) = true := decide_eq_true hlt
          have HLT := Aside0.mk hlt
          have hdrop : up0.drop j = rd_T69 up0 (j : Int) :: up0.drop (j + 1) := by
            rw [List.drop_eq_getElem_cons hlt]
            simp [rd_T69, List.getD_eq_getElem?_getD, List.getElem?_eq_getElem hlt]
          have hF := HA.out.2.2
          rw [hdrop] at hF
          clear hdrop
          generalize rd_T69 up0 (j : Int) = t at hx0 hx1 hx2 hx3 hx4 hF
          unfold highF at hF
          replace hF := Option.bind_eq_some_iff.mp hF
          obtain ⟨kk, hkk, hF⟩ := hF
          unfold keyF at hkk
          by_cases hvs : vs.length + 1 ≤ 4398046511104
          case neg => rw [if_neg hvs] at hkk; cases hkk
          rw [if_pos hvs] at hkk
          replace hkk := Option.bind_eq_some_iff.mp hkk
          obtain ⟨⟨k1_, k2_⟩, hke, hkk⟩ := hkk
          obtain rfl : k1_ = kk := Option.some.inj hkk
          have HVS := Aside0.mk hvs
          have HKE := Aside0.mk hke
          have HF := Aside0.mk hF
          clear hvs hke hkk hF hlt
          go_upto_region 22 with fail
          refine at_world (fun W' => (RI w cx w2.heap.size (.slice Av0 vs.length cv0) vs (.slice Av1 lo0.length cv1) lo0 (.slice (some ad1) up0.length cv2) up0 W' ∧ Kd.R (Kd.int .u8) 5 W' w.heap.size (fun _ => True) u4 r1) ∧ W'.heap[wr.heap.size]? = some (.cells #[.int .i64 t.f0, .int .i64 t.f1, .int .i64 t.f2.f0, .int .i64 t.f2.f1, .string t.f2.f2] 69 (0, 0))) ⟨⟨HI.out.below (below_alloc (Below.refl _ _) _), Kd.R_below HL4.out (below_alloc (Below.refl _ _) _)⟩, Deep.blk_alloc_new wr _⟩ (fun W4 hI => ?_)
          clear HI HL4 hx0 hx1 hx2 hx3 hx4
          have HI := Aside0.mk hI.1.1
          have HH := Aside0.mk hI.1.2
          have HT := Aside0.mk hI.2
          clear hI
          have t0 : W4.cell? ⟨wr.heap.size, 0, none⟩ = some (.int .i64 t.f0) := (blk_cell HT.out 0).trans rfl
          have t1 : W4.cell? ⟨wr.heap.size, 1, none⟩ = some (.int .i64 t.f1) := (blk_cell HT.out 1).trans rfl
          have t2 : W4.cell? ⟨wr.heap.size, 2, none⟩ = some (.int .i64 t.f2.f0) := (blk_cell HT.out 2).trans rfl
          have t3 : W4.cell? ⟨wr.heap.size, 3, none⟩ = some (.int .i64 t.f2.f1) := (blk_cell HT.out 3).trans rfl
          have t4 : W4.cell? ⟨wr.heap.size, 4, none⟩ = some (.string t.f2.f2) := (blk_cell HT.out 4).trans rfl
          have hkc := key.calls t w2.heap.size w.heap.size Av0 cv0 vs (some ad4) c0_4 l0_4 k k1_ k2_ W4 HI.out.u0 ((blk_cell HI.out.1 4).trans (by rw [HX.out]; rfl)) (Kd.R_reads' HI.out.rv).2.2 (Kd.R_reads' HI.out.rv).2.1 (Kd.C_below HR4.out.1 HI.out.b) HR4.out.2 HVS.out HKE.out
          simp only [encT] at hkc
          go_upto_region 23 with (first | (go_at_call 33; refine hkc.mono ?_; rintro e w5 ⟨v9, rfl, ho, hb⟩; obtain ⟨A9, c9, e9⟩ := Kd.R_slice ho; subst e9; have HO9 := Aside0.mk (And.intro ho hb); clear ho hb hkc t0 t1 t2 t3 t4))
          have HI5 := Aside0.mk (HI.out.below HO9.out.2)
          have HH5 := Aside0.mk (Kd.R_below HH.out HO9.out.2)
          have HT5 := Aside0.mk (blk_below HT.out HO9.out.2)
          have HK5 := Aside0.mk (Kd.R_lower HO9.out.1 (below_size HI.out.b))
          have HY5 := Aside0.mk (young_u8 HH.out HO9.out.1)
          clear HI HH HT HO9
          have t1 : w5.cell? ⟨wr.heap.size, 1, none⟩ = some (.int .i64 t.f1) := (blk_cell HT5.out 1).trans rfl
          by_cases hA : t.f1 = 8
          · skip
            have hF := HF.out
            rw [if_pos (Or.inl hA)] at hF
            have q1 : (t.f1 == 8) = true := beq_iff_eq.mpr hA
            replace hF := Option.bind_eq_some_iff.mp hF
            obtain ⟨⟨nx1, nx2⟩, hn1, hF⟩ := hF
            have HNX1 := Aside0.mk hn1
            clear hA HF hn1
            have HF1 : Aside0 (highF k vs l0_4 (up0.drop (j + 1)) nx1 nx2 = some (r2, hi2)) := ⟨hF⟩
            clear hF
            go_upto_region 25 with (first | (go_at_call 35; (with_reducible refine (keys_Next.calls k A9 c9 k1_ nx1 nx2 _ (Kd.R_reads' HK5.out).2.2 (Kd.R_reads' HK5.out).2.1 HNX1.out).mono ?_); rintro e w6 ⟨v10, rfl, ho, hb⟩; have HO9 := Aside0.mk (And.intro ho hb); clear ho hb t1))
            go_wp2
            obtain ⟨k1, rfl⟩ : ∃ k1, gk = k1 + 1 := ⟨gk - 1, by have := HA.out; omega⟩
            go_roundg k1
            case measure => omega
            case rel =>
              refine ⟨j + 1, nx1, nx2, by go_num, rfl, ⟨by have := HLT.out; omega, by have := HA.out.2.1; omega, HF1.out⟩, ⟨HI5.out.below HO9.out.2⟩, ⟨Kd.R_below HH5.out HO9.out.2⟩, ⟨Kd.R_lower HO9.out.1 (below_size HI5.out.b)⟩, ⟨young_u8 HH5.out HO9.out.1⟩⟩
          · by_cases hB : t.f1 = 10
            · skip
              have hF := HF.out
              rw [if_pos (Or.inr hB)] at hF
              have q1 : (t.f1 == 8) = false := beq_eq_false_iff_ne.mpr hA
              have q2 : (t.f1 == 10) = true := beq_iff_eq.mpr hB
              replace hF := Option.bind_eq_some_iff.mp hF
              obtain ⟨⟨nx1, nx2⟩, hn1, hF⟩ := hF
              have HNX1 := Aside0.mk hn1
              clear hA hB HF hn1
              have HF1 : Aside0 (highF k vs l0_4 (up0.drop (j + 1)) nx1 nx2 = some (r2, hi2)) := ⟨hF⟩
              clear hF
              go_upto_region 25 with (first | (go_at_call 35; (with_reducible refine (keys_Next.calls k A9 c9 k1_ nx1 nx2 _ (Kd.R_reads' HK5.out).2.2 (Kd.R_reads' HK5.out).2.1 HNX1.out).mono ?_); rintro e w6 ⟨v10, rfl, ho, hb⟩; have HO9 := Aside0.mk (And.intro ho hb); clear ho hb t1))
              go_wp2
              obtain ⟨k1, rfl⟩ : ∃ k1, gk = k1 + 1 := ⟨gk - 1, by have := HA.out; omega⟩
              go_roundg k1
              case measure => omega
              case rel =>
                refine ⟨j + 1, nx1, nx2, by go_num, rfl, ⟨by have := HLT.out; omega, by have := HA.out.2.1; omega, HF1.out⟩, ⟨HI5.out.below HO9.out.2⟩, ⟨Kd.R_below HH5.out HO9.out.2⟩, ⟨Kd.R_lower HO9.out.1 (below_size HI5.out.b)⟩, ⟨young_u8 HH5.out HO9.out.1⟩⟩
            · skip
              have hF := HF.out
              rw [if_neg (fun h => h.elim hA hB)] at hF
              have q1 : (t.f1 == 8) = false := beq_eq_false_iff_ne.mpr hA
              have q2 : (t.f1 == 10) = false := beq_eq_false_iff_ne.mpr hB
              have HF1 : Aside0 (highF k vs l0_4 (up0.drop (j + 1)) k1_ true = some (r2, hi2)) := ⟨hF⟩
              clear hA hB HF hF
              go_wp2
              obtain ⟨k1, rfl⟩ : ∃ k1, gk = k1 + 1 := ⟨gk - 1, by have := HA.out; omega⟩
              go_roundg k1
              case measure => omega
              case rel =>
                refine ⟨j + 1, k1_, true, by go_num, rfl, ⟨by have := HLT.out; omega, by have := HA.out.2.1; omega, HF1.out⟩, ⟨HI5.out⟩, ⟨HH5.out⟩, ⟨HK5.out⟩, ⟨HY5.out⟩⟩
        · obtain rfl : j = up0.length := by omega
          have b0 : decide (up0.length < up0.length) = false := decide_eq_false hlt
          have b1 : decide ((up0.length : Int) < (up0.length : Int)) = false := decide_eq_false (by omega)
          have hcur : r2 = cur ∧ hi2 = ok := by
            have h := HA.out.2.2
            rw [List.drop_length] at h
            have h2 := Option.some.inj h
            exact ⟨(congrArg Prod.fst h2).symm, (congrArg Prod.snd h2).symm⟩
          obtain ⟨rfl, rfl⟩ := hcur
          clear hlt HA
          go_wp2
          go_ret3
          exact ⟨u4, u5, rfl, (two_u8 HL4.out H5.out HY.out).1, (two_u8 HL4.out H5.out HY.out).2, HI.out.b⟩
set_option maxHeartbeats 8000000 in
set_option maxRecDepth 100000 in
theorem range_swap (k : Nat) (a0_0 : Int) (a0_1 : ByteArray) (a0_2 : ByteArray) (A0_3 : Option Addr) (c0_3 : Nat) (l0_3 : List Int) (A0_4 : Option Addr) (c0_4 : Nat) (l0_4 : List Bool) (a0_5 : Bool) (A1 : Option Addr) (c1 : Nat) (l1 : List (S69)) (vs : List S25) (lo0 up0 : List S69) (be : List Int) (be2 : Int) (r1 r2 : List Int) (nb1 : List Int) (nb2 hi2 : Bool) (w : World) (hr0_3 : Kd.C (Kd.int .i64) w A0_3 l0_3.length l0_3) (hc0_3 : l0_3.length ≤ c0_3) (hr0_4 : Kd.C Kd.bool w A0_4 l0_4.length l0_4) (hc0_4 : l0_4.length ≤ c0_4) (hr1 : Kd.C k69 w A1 l1.length l1) (hc1 : l1.length ≤ c1) (hu : bounds_useOf.f a0_0 a0_1 a0_2 l0_3 l0_4 a0_5 l1 = some (vs, lo0, up0)) (he : keys_Encode.f k vs l0_4 = some (be, be2)) (hlo : lowF k vs l0_4 be up0 be = some r1) (hnx : keys_Next.f k be = some (nb1, nb2)) (hhi : highF k vs l0_4 lo0 nb1 nb2 = some (r2, hi2)) (hlt : vs.length < l0_4.length) (hsw : rdOf false l0_4 (vs.length : Int) = true) :
    Calls Try.prog 15 #[.agg #[.int .i64 a0_0, .string a0_1, .string a0_2, .slice A0_3 l0_3.length c0_3, .slice A0_4 l0_4.length c0_4, .bool a0_5], .slice A1 l1.length c1] w fun e w' => ∃ v0_ v1_ : Value, e = .returned (.tuple #[v0_, v1_, .bool (!hi2)]) ∧ Kd.R (Kd.int .u8) 5 w' w.heap.size (fun k_ => some k_ ≠ (v1_ : Value).ownBlock) v0_ r1 ∧ Kd.R (Kd.int .u8) 5 w' w.heap.size (fun k_ => some k_ ≠ (v0_ : Value).ownBlock) v1_ r2 ∧ Below w.heap.size w w' := by
  have hu41 := Try.underlying41
  have hu77 := Try.underlying77
  have hu69 := Try.underlying69
  have hu25 := Try.underlying25
  have HR3 := Aside0.mk (And.intro hr0_3 hc0_3)
  have HR4 := Aside0.mk (And.intro hr0_4 hc0_4)
  have HR1 := Aside0.mk (And.intro hr1 hc1)
  have HU := Aside0.mk hu
  have HEN := Aside0.mk he
  have HLO := Aside0.mk hlo
  have HNX := Aside0.mk hnx
  have HHI := Aside0.mk hhi
  obtain ⟨cx, hcx⟩ : ∃ cx : Array Value, cx = #[.int .i64 a0_0, .string a0_1, .string a0_2, .slice A0_3 l0_3.length c0_3, .slice A0_4 l0_4.length c0_4, .bool a0_5] := ⟨_, rfl⟩
  have HX := Aside0.mk hcx
  clear hr0_3 hc0_3 hr0_4 hc0_4 hr1 hc1 hu he hlo hnx hhi hcx
  have p4 : (0 : Int) ≤ (vs.length : Int) := by omega
  have q4 : (vs.length : Int) < (l0_4.length : Int) := by omega
  obtain ⟨ad4, e4, y4⟩ := Kd.at_bool HR4.out.1 (vs.length : Int) p4 q4
  cases e4
  rw [hsw] at y4
  simp only [Int.toNat_natCast] at y4
  have s1 : decide ((vs.length : Int) < (l0_4.length : Int)) = true := decide_eq_true q4
  have s2 : decide (vs.length < l0_4.length) = true := decide_eq_true hlt
  replace p4 := eq_true p4
  replace q4 := eq_true q4
  clear hsw hlt
  go_enter Try.func15, Try.ntmps15
  go_upto_region 1 with fail
  refine at_world (fun W => W.heap[w.heap.size]? = some (.cells #[.int .i64 a0_0, .string a0_1, .string a0_2, .slice A0_3 l0_3.length c0_3, .slice (some ad4) l0_4.length c0_4, .bool a0_5] 41 (0, 0)) ∧ Below w.heap.size w W) ⟨Deep.blk_alloc_new w _, below_alloc (Below.refl _ _) _⟩ (fun W hI => ?_)
  have HI0 := Aside0.mk hI
  clear hI
  have x0 : World.cell? W ⟨w.heap.size, 0, none⟩ = some (.int .i64 a0_0) := (blk_cell HI0.out.1 0).trans rfl
  have x1 : World.cell? W ⟨w.heap.size, 1, none⟩ = some (.string a0_1) := (blk_cell HI0.out.1 1).trans rfl
  have x2 : World.cell? W ⟨w.heap.size, 2, none⟩ = some (.string a0_2) := (blk_cell HI0.out.1 2).trans rfl
  have x3 : World.cell? W ⟨w.heap.size, 3, none⟩ = some (.slice A0_3 l0_3.length c0_3) := (blk_cell HI0.out.1 3).trans rfl
  have x4 : World.cell? W ⟨w.heap.size, 4, none⟩ = some (.slice (some ad4) l0_4.length c0_4) := (blk_cell HI0.out.1 4).trans rfl
  have x5 : World.cell? W ⟨w.heap.size, 5, none⟩ = some (.bool a0_5) := (blk_cell HI0.out.1 5).trans rfl
  go_upto_region 2 with (first | (go_at_call 31; (with_reducible refine (bounds_useOf.calls a0_0 a0_1 a0_2 A0_3 c0_3 l0_3 (some ad4) c0_4 l0_4 a0_5 A1 c1 l1 vs lo0 up0 _ (Kd.C_below HR3.out.1 HI0.out.2) HR3.out.2 (Kd.C_below HR4.out.1 HI0.out.2) HR4.out.2 (Kd.C_below HR1.out.1 HI0.out.2) HR1.out.2 HU.out).mono ?_); rintro e w2 ⟨v0, v1, v2, rfl, h0, h1, h2, hb⟩; obtain ⟨Av0, cv0, e0⟩ := Kd.R_slice h0; subst e0; obtain ⟨Av1, cv1, e1⟩ := Kd.R_slice h1; subst e1; obtain ⟨Av2, cv2, e2⟩ := Kd.R_slice h2; subst e2; have HK := Aside0.mk (And.intro h0 (And.intro h1 (And.intro h2 hb))); clear h0 h1 h2 hb x0 x1 x2 x3 x4 x5))
  refine at_world (fun W' => RI w cx w2.heap.size (.slice Av0 vs.length cv0) vs (.slice Av1 lo0.length cv1) lo0 (.slice Av2 up0.length cv2) up0 W' ∧ w.heap.size ≠ w2.heap.size) ?rr (fun W hI => ?_)
  case rr =>
    have hbw := HK.out.2.2.2
    have hlt := blk_lt (blk_below HI0.out.1 hbw)
    have hba := below_alloc (Below.refl w2.heap.size w2) (.cells #[.slice Av0 vs.length cv0, .slice Av1 lo0.length cv1, .slice Av2 up0.length cv2] 77)
    exact ⟨⟨by rw [HX.out]; exact blk_below (blk_below HI0.out.1 hbw) hba, Deep.blk_alloc_new w2 _, Nat.le_of_lt hlt, Kd.R_below (Kd.R_lower HK.out.1 (below_size HI0.out.2)) hba, Kd.R_below (Kd.R_mono (Kd.R_lower HK.out.2.1 (below_size HI0.out.2)) (fun _ _ => trivial)) hba, Kd.R_below (Kd.R_mono (Kd.R_lower HK.out.2.2.1 (below_size HI0.out.2)) (fun _ _ => trivial)) hba, below_step (below_step HI0.out.2 hbw) hba⟩, Nat.ne_of_lt hlt⟩
  have HNE := Aside0.mk hI.2
  have HI := Aside0.mk hI.1
  clear hI HK HI0
  have cu0 := HI.out.u0
  have fu0 := blk_frozen HI.out.2.1 0
  have cu1 := HI.out.u1
  have fu1 := blk_frozen HI.out.2.1 1
  have cu2 := HI.out.u2
  have fu2 := blk_frozen HI.out.2.1 2
  have cx4 : World.cell? _ ⟨w.heap.size, 4, none⟩ = some (.slice (some ad4) l0_4.length c0_4) := (blk_cell HI.out.1 4).trans (by rw [HX.out]; rfl)
  go_upto_region 3 with (first | (go_at_call 32; (with_reducible refine (keys_Encode.calls k Av0 cv0 vs (some ad4) c0_4 l0_4 be be2 _ (Kd.R_reads' HI.out.rv).2.2 (Kd.R_reads' HI.out.rv).2.1 (Kd.C_below HR4.out.1 HI.out.b) HR4.out.2 HEN.out).mono ?_); rintro e w3 ⟨v8, rfl, ho, hb⟩; have HB8 := Aside0.mk (Kd.R_lower ho (below_size HI.out.b)); have HI3 := Aside0.mk (HI.out.below hb); clear ho hb HI cu0 cu1 cu2 fu0 fu1 fu2 cx4))
  have HI := HI3
  clear HI3
  have cu0 := HI.out.u0
  have fu0 := blk_frozen HI.out.2.1 0
  have cu1 := HI.out.u1
  have fu1 := blk_frozen HI.out.2.1 1
  have cu2 := HI.out.u2
  have fu2 := blk_frozen HI.out.2.1 2
  have cx4 : World.cell? _ ⟨w.heap.size, 4, none⟩ = some (.slice (some ad4) l0_4.length c0_4) := (blk_cell HI.out.1 4).trans (by rw [HX.out]; rfl)
  replace y4 := (HI.out.b.cell (World.block_lt_of_cell? w _ y4)).trans y4
  go_upto_region 6 with fail
  have b7 := blk_frozen HI.out.2.1 1
  have b8 := blk_frozen HI.out.2.1 2
  go_upto_region 7 with fail
  refine at_world (fun W' => RI w cx w2.heap.size (.slice Av0 vs.length cv0) vs (.slice Av2 up0.length cv2) up0 (.slice Av1 lo0.length cv1) lo0 W' ∧ Kd.R (Kd.int .u8) 5 W' w.heap.size (fun _ => True) v8 be) ⟨HI.out.swap HNE.out, R_setK (R_setK HB8.out HI.out.2.1 (by decide) _ _) (blk_put HI.out.2.1 1 _ rfl) (by decide) _ _⟩ (fun W' hI => ?_)
  clear HI HB8 b7 b8 cu0 cu1 cu2 fu0 fu1 fu2 cx4
  have HI := Aside0.mk hI.1
  have HB8 := Aside0.mk hI.2
  clear hI
  clear y4
  have cu0 := HI.out.u0
  have fu0 := blk_frozen HI.out.2.1 0
  have cu1 := HI.out.u1
  have fu1 := blk_frozen HI.out.2.1 1
  have cu2 := HI.out.u2
  have fu2 := blk_frozen HI.out.2.1 2
  go_upto_region 8 with fail
  go_wp2
  go_loopg [4, 56] (up0.length + 1) (fun kq v4 v56 w' => ∃ (j : Nat) (cur : List Int), v56 = .int .i64 (j : Int) ∧ Aside0 (j ≤ up0.length ∧ up0.length - j < kq ∧ lowF k vs l0_4 be (up0.drop j) cur = some r1) ∧ Aside0 (RI w cx w2.heap.size (.slice Av0 vs.length cv0) vs (.slice Av2 up0.length cv2) up0 (.slice Av1 lo0.length cv1) lo0 w') ∧ Aside0 (Kd.R (Kd.int .u8) 5 w' w.heap.size (fun _ => True) v8 be) ∧ Aside0 (Kd.R (Kd.int .u8) 5 w' w.heap.size (fun _ => True) v4 cur))
  case atStart => exact ⟨0, be, rfl, ⟨by omega, by omega, HLO.out⟩, HI, HB8, HB8⟩
  case round =>
    clear HI HB8 HLO cu0 cu1 cu2 fu0 fu1 fu2
    obtain ⟨j, cur, rfl, HA, HI, HB8, HL4⟩ := hrel
    have hj := HA.out.1
    by_cases hlt : j < up0.length
    · skip
      have p0 : (0 : Int) ≤ (j : Int) := by omega
      have q0 : (j : Int) < (up0.length : Int) := by omega
      have hnj := (Kd.R_reads' HI.out.r1).2.2.2.1
      obtain ⟨ad1, e0, hx0, hx1, hx2, hx3, hx4⟩ := at_T69 (Kd.R_reads' HI.out.r1).2.2 (j : Int) p0 q0
      cases e0
      simp only [Int.toNat_natCast] at hx0 hx1 hx2 hx3 hx4
      have b1 : decide ((j : Int) < (up0.length : Int)) = true := decide_eq_true q0
      have b0 : decide (j < up0.length) = true := decide_eq_true hlt
      have HLT := Aside0.mk hlt
      have hdrop : up0.drop j = rd_T69 up0 (j : Int) :: up0.drop (j + 1) := by
        rw [List.drop_eq_getElem_cons hlt]
        simp [rd_T69, List.getD_eq_getElem?_getD, List.getElem?_eq_getElem hlt]
      have hF := HA.out.2.2
      rw [hdrop] at hF
      clear hdrop
      generalize rd_T69 up0 (j : Int) = t at hx0 hx1 hx2 hx3 hx4 hF
      unfold lowF at hF
      replace hF := Option.bind_eq_some_iff.mp hF
      obtain ⟨kk, hkk, hF⟩ := hF
      unfold keyF at hkk
      by_cases hvs : vs.length + 1 ≤ 4398046511104
      case neg => rw [if_neg hvs] at hkk; cases hkk
      rw [if_pos hvs] at hkk
      replace hkk := Option.bind_eq_some_iff.mp hkk
      obtain ⟨⟨k1_, k2_⟩, hke, hkk⟩ := hkk
      obtain rfl : k1_ = kk := Option.some.inj hkk
      have HVS := Aside0.mk hvs
      have HKE := Aside0.mk hke
      have HF := Aside0.mk hF
      clear hvs hke hkk hF hlt
      go_upto_region 11 with fail
      refine at_world (fun W' => (RI w cx w2.heap.size (.slice Av0 vs.length cv0) vs (.slice (some ad1) up0.length cv2) up0 (.slice Av1 lo0.length cv1) lo0 W' ∧ Kd.R (Kd.int .u8) 5 W' w.heap.size (fun _ => True) v8 be) ∧ W'.heap[wr.heap.size]? = some (.cells #[.int .i64 t.f0, .int .i64 t.f1, .int .i64 t.f2.f0, .int .i64 t.f2.f1, .string t.f2.f2] 69 (0, 0))) ⟨⟨HI.out.below (below_alloc (Below.refl _ _) _), Kd.R_below HB8.out (below_alloc (Below.refl _ _) _)⟩, Deep.blk_alloc_new wr _⟩ (fun W4 hI => ?_)
      clear HI HB8 hx0 hx1 hx2 hx3 hx4
      have HI := Aside0.mk hI.1.1
      have HH := Aside0.mk hI.1.2
      have HT := Aside0.mk hI.2
      clear hI
      have t0 : W4.cell? ⟨wr.heap.size, 0, none⟩ = some (.int .i64 t.f0) := (blk_cell HT.out 0).trans rfl
      have t1 : W4.cell? ⟨wr.heap.size, 1, none⟩ = some (.int .i64 t.f1) := (blk_cell HT.out 1).trans rfl
      have t2 : W4.cell? ⟨wr.heap.size, 2, none⟩ = some (.int .i64 t.f2.f0) := (blk_cell HT.out 2).trans rfl
      have t3 : W4.cell? ⟨wr.heap.size, 3, none⟩ = some (.int .i64 t.f2.f1) := (blk_cell HT.out 3).trans rfl
      have t4 : W4.cell? ⟨wr.heap.size, 4, none⟩ = some (.string t.f2.f2) := (blk_cell HT.out 4).trans rfl
      have hkc := key.calls t w2.heap.size w.heap.size Av0 cv0 vs (some ad4) c0_4 l0_4 k k1_ k2_ W4 HI.out.u0 ((blk_cell HI.out.1 4).trans (by rw [HX.out]; rfl)) (Kd.R_reads' HI.out.rv).2.2 (Kd.R_reads' HI.out.rv).2.1 (Kd.C_below HR4.out.1 HI.out.b) HR4.out.2 HVS.out HKE.out
      simp only [encT] at hkc
      go_upto_region 12 with (first | (go_at_call 33; refine hkc.mono ?_; rintro e w5 ⟨v9, rfl, ho, hb⟩; obtain ⟨A9, c9, e9⟩ := Kd.R_slice ho; subst e9; have HO9 := Aside0.mk (And.intro ho hb); clear ho hb hkc t0 t1 t2 t3 t4))
      have HI5 := Aside0.mk (HI.out.below HO9.out.2)
      have HH5 := Aside0.mk (Kd.R_below HH.out HO9.out.2)
      have HT5 := Aside0.mk (blk_below HT.out HO9.out.2)
      have HK5 := Aside0.mk (Kd.R_lower HO9.out.1 (below_size HI.out.b))
      have HY5 := Aside0.mk (trivial)
      clear HI HH HT HO9
      have t1 : w5.cell? ⟨wr.heap.size, 1, none⟩ = some (.int .i64 t.f1) := (blk_cell HT5.out 1).trans rfl
      by_cases hA : t.f1 = 9
      · skip
        have hF := HF.out
        rw [if_pos (Or.inl hA)] at hF
        have q1 : (t.f1 == 9) = true := beq_iff_eq.mpr hA
        replace hF := Option.bind_eq_some_iff.mp hF
        obtain ⟨⟨nx1, nx2⟩, hn1, hF⟩ := hF
        have HNX1 := Aside0.mk hn1
        clear hA HF hn1
        cases nx2 with
        | true =>
          have HF1 : Aside0 (lowF k vs l0_4 be (up0.drop (j + 1)) nx1 = some r1) := ⟨hF⟩
          clear hF
          go_upto_region 15 with (first | (go_at_call 35; (with_reducible refine (keys_Next.calls k A9 c9 k1_ nx1 true _ (Kd.R_reads' HK5.out).2.2 (Kd.R_reads' HK5.out).2.1 HNX1.out).mono ?_); rintro e w6 ⟨v10, rfl, ho, hb⟩; have HO9 := Aside0.mk (And.intro ho hb); clear ho hb t1))
          go_wp2
          obtain ⟨k1, rfl⟩ : ∃ k1, gk = k1 + 1 := ⟨gk - 1, by have := HA.out; omega⟩
          go_roundg k1
          case measure => omega
          case rel =>
            refine ⟨j + 1, nx1, by go_num, ⟨by have := HLT.out; omega, by have := HA.out.2.1; omega, HF1.out⟩, ⟨HI5.out.below HO9.out.2⟩, ⟨Kd.R_below HH5.out HO9.out.2⟩, ⟨Kd.R_lower HO9.out.1 (below_size HI5.out.b)⟩⟩
        | false =>
          have HF1 : Aside0 (lowF k vs l0_4 be (up0.drop (j + 1)) be = some r1) := ⟨hF⟩
          clear hF
          go_upto_region 15 with (first | (go_at_call 35; (with_reducible refine (keys_Next.calls k A9 c9 k1_ nx1 false _ (Kd.R_reads' HK5.out).2.2 (Kd.R_reads' HK5.out).2.1 HNX1.out).mono ?_); rintro e w6 ⟨v10, rfl, ho, hb⟩; have HO9 := Aside0.mk (And.intro ho hb); clear ho hb t1))
          go_wp2
          obtain ⟨k1, rfl⟩ : ∃ k1, gk = k1 + 1 := ⟨gk - 1, by have := HA.out; omega⟩
          go_roundg k1
          case measure => omega
          case rel =>
            refine ⟨j + 1, be, by go_num, ⟨by have := HLT.out; omega, by have := HA.out.2.1; omega, HF1.out⟩, ⟨HI5.out.below HO9.out.2⟩, ⟨Kd.R_below HH5.out HO9.out.2⟩, ⟨Kd.R_below HH5.out HO9.out.2⟩⟩
      · by_cases hB : t.f1 = 7
        · skip
          have hF := HF.out
          rw [if_pos (Or.inr hB)] at hF
          have q1 : (t.f1 == 9) = false := beq_eq_false_iff_ne.mpr hA
          have q2 : (t.f1 == 7) = true := beq_iff_eq.mpr hB
          replace hF := Option.bind_eq_some_iff.mp hF
          obtain ⟨⟨nx1, nx2⟩, hn1, hF⟩ := hF
          have HNX1 := Aside0.mk hn1
          clear hA hB HF hn1
          cases nx2 with
          | true =>
            have HF1 : Aside0 (lowF k vs l0_4 be (up0.drop (j + 1)) nx1 = some r1) := ⟨hF⟩
            clear hF
            go_upto_region 15 with (first | (go_at_call 35; (with_reducible refine (keys_Next.calls k A9 c9 k1_ nx1 true _ (Kd.R_reads' HK5.out).2.2 (Kd.R_reads' HK5.out).2.1 HNX1.out).mono ?_); rintro e w6 ⟨v10, rfl, ho, hb⟩; have HO9 := Aside0.mk (And.intro ho hb); clear ho hb t1))
            go_wp2
            obtain ⟨k1, rfl⟩ : ∃ k1, gk = k1 + 1 := ⟨gk - 1, by have := HA.out; omega⟩
            go_roundg k1
            case measure => omega
            case rel =>
              refine ⟨j + 1, nx1, by go_num, ⟨by have := HLT.out; omega, by have := HA.out.2.1; omega, HF1.out⟩, ⟨HI5.out.below HO9.out.2⟩, ⟨Kd.R_below HH5.out HO9.out.2⟩, ⟨Kd.R_lower HO9.out.1 (below_size HI5.out.b)⟩⟩
          | false =>
            have HF1 : Aside0 (lowF k vs l0_4 be (up0.drop (j + 1)) be = some r1) := ⟨hF⟩
            clear hF
            go_upto_region 15 with (first | (go_at_call 35; (with_reducible refine (keys_Next.calls k A9 c9 k1_ nx1 false _ (Kd.R_reads' HK5.out).2.2 (Kd.R_reads' HK5.out).2.1 HNX1.out).mono ?_); rintro e w6 ⟨v10, rfl, ho, hb⟩; have HO9 := Aside0.mk (And.intro ho hb); clear ho hb t1))
            go_wp2
            obtain ⟨k1, rfl⟩ : ∃ k1, gk = k1 + 1 := ⟨gk - 1, by have := HA.out; omega⟩
            go_roundg k1
            case measure => omega
            case rel =>
              refine ⟨j + 1, be, by go_num, ⟨by have := HLT.out; omega, by have := HA.out.2.1; omega, HF1.out⟩, ⟨HI5.out.below HO9.out.2⟩, ⟨Kd.R_below HH5.out HO9.out.2⟩, ⟨Kd.R_below HH5.out HO9.out.2⟩⟩
        · skip
          have hF := HF.out
          rw [if_neg (fun h => h.elim hA hB)] at hF
          have q1 : (t.f1 == 9) = false := beq_eq_false_iff_ne.mpr hA
          have q2 : (t.f1 == 7) = false := beq_eq_false_iff_ne.mpr hB
          have HF1 : Aside0 (lowF k vs l0_4 be (up0.drop (j + 1)) k1_ = some r1) := ⟨hF⟩
          clear hA hB HF hF
          go_wp2
          obtain ⟨k1, rfl⟩ : ∃ k1, gk = k1 + 1 := ⟨gk - 1, by have := HA.out; omega⟩
          go_roundg k1
          case measure => omega
          case rel =>
            refine ⟨j + 1, k1_, by go_num, ⟨by have := HLT.out; omega, by have := HA.out.2.1; omega, HF1.out⟩, ⟨HI5.out⟩, ⟨HH5.out⟩, ⟨HK5.out⟩⟩
    · obtain rfl : j = up0.length := by omega
      have b0 : decide (up0.length < up0.length) = false := decide_eq_false hlt
      have b1 : decide ((up0.length : Int) < (up0.length : Int)) = false := decide_eq_false (by omega)
      have hcur : r1 = cur := by
        have h := HA.out.2.2
        rw [List.drop_length] at h
        exact (Option.some.inj h).symm
      subst hcur
      clear hlt HA
      obtain ⟨A8, c8, e8⟩ := Kd.R_slice HB8.out
      subst e8
      go_upto_region 19 with (first | (go_at_call 35; (with_reducible refine (keys_Next.calls k A8 c8 be nb1 nb2 _ (Kd.R_reads' HB8.out).2.2 (Kd.R_reads' HB8.out).2.1 HNX.out).mono ?_); rintro e w6 ⟨v5, rfl, ho, hb⟩; have HO9 := Aside0.mk (And.intro ho hb); clear ho hb))
      have HY := Aside0.mk (young_u8 HL4.out HO9.out.1)
      have HI6 := Aside0.mk (HI.out.below HO9.out.2)
      have HL6 := Aside0.mk (Kd.R_below HL4.out HO9.out.2)
      have H5 := Aside0.mk (Kd.R_lower HO9.out.1 (below_size HI.out.b))
      clear HI HL4 HB8 HO9
      have HI := HI6
      have HL4 := HL6
      clear HI6 HL6
      have cu0 := HI.out.u0
      have fu0 := blk_frozen HI.out.2.1 0
      have cu1 := HI.out.u1
      have fu1 := blk_frozen HI.out.2.1 1
      have cu2 := HI.out.u2
      have fu2 := blk_frozen HI.out.2.1 2
      go_wp2
      go_loopg [5, 16, 89] (lo0.length + 1) (fun kq v5 v16 v89 w' => ∃ (j : Nat) (cur : List Int) (ok : Bool), v89 = .int .i64 (j : Int) ∧ v16 = .bool ok ∧ Aside0 (j ≤ lo0.length ∧ lo0.length - j < kq ∧ highF k vs l0_4 (lo0.drop j) cur ok = some (r2, hi2)) ∧ Aside0 (RI w cx w2.heap.size (.slice Av0 vs.length cv0) vs (.slice Av2 up0.length cv2) up0 (.slice Av1 lo0.length cv1) lo0 w') ∧ Aside0 (Kd.R (Kd.int .u8) 5 w' w.heap.size (fun _ => True) u4 r1) ∧ Aside0 (Kd.R (Kd.int .u8) 5 w' w.heap.size (fun _ => True) v5 cur) ∧ Aside0 (∀ k, v5.ownBlock = some k → some k ≠ u4.ownBlock))
      case atStart => exact ⟨0, nb1, nb2, rfl, rfl, ⟨by omega, by omega, HHI.out⟩, HI, HL4, H5, HY⟩
      case round =>
        clear HI HL4 HHI H5 HY cu0 cu1 cu2 fu0 fu1 fu2
        obtain ⟨j, cur, ok, rfl, rfl, HA, HI, HL4, H5, HY⟩ := hrel
        have hj := HA.out.1
        by_cases hlt : j < lo0.length
        · skip
          have p0 : (0 : Int) ≤ (j : Int) := by omega
          have q0 : (j : Int) < (lo0.length : Int) := by omega
          have hnj := (Kd.R_reads' HI.out.r2).2.2.2.1
          obtain ⟨ad1, e0, hx0, hx1, hx2, hx3, hx4⟩ := at_T69 (Kd.R_reads' HI.out.r2).2.2 (j : Int) p0 q0
          cases e0
          simp only [Int.toNat_natCast] at hx0 hx1 hx2 hx3 hx4
          have b1 : decide ((j : Int) < (lo0.length : Int)) = true := decide_eq_true q0
          have b0 : decide (j < lo0.length) = true := decide_eq_true hlt
          have HLT := Aside0.mk hlt
          have hdrop : lo0.drop j = rd_T69 lo0 (j : Int) :: lo0.drop (j + 1) := by
            rw [List.drop_eq_getElem_cons hlt]
            simp [rd_T69, List.getD_eq_getElem?_getD, List.getElem?_eq_getElem hlt]
          have hF := HA.out.2.2
          rw [hdrop] at hF
          clear hdrop
          generalize rd_T69 lo0 (j : Int) = t at hx0 hx1 hx2 hx3 hx4 hF
          unfold highF at hF
          replace hF := Option.bind_eq_some_iff.mp hF
          obtain ⟨kk, hkk, hF⟩ := hF
          unfold keyF at hkk
          by_cases hvs : vs.length + 1 ≤ 4398046511104
          case neg => rw [if_neg hvs] at hkk; cases hkk
          rw [if_pos hvs] at hkk
          replace hkk := Option.bind_eq_some_iff.mp hkk
          obtain ⟨⟨k1_, k2_⟩, hke, hkk⟩ := hkk
          obtain rfl : k1_ = kk := Option.some.inj hkk
          have HVS := Aside0.mk hvs
          have HKE := Aside0.mk hke
          have HF := Aside0.mk hF
          clear hvs hke hkk hF hlt
          go_upto_region 22 with fail
          refine at_world (fun W' => (RI w cx w2.heap.size (.slice Av0 vs.length cv0) vs (.slice Av2 up0.length cv2) up0 (.slice (some ad1) lo0.length cv1) lo0 W' ∧ Kd.R (Kd.int .u8) 5 W' w.heap.size (fun _ => True) u4 r1) ∧ W'.heap[wr.heap.size]? = some (.cells #[.int .i64 t.f0, .int .i64 t.f1, .int .i64 t.f2.f0, .int .i64 t.f2.f1, .string t.f2.f2] 69 (0, 0))) ⟨⟨HI.out.below (below_alloc (Below.refl _ _) _), Kd.R_below HL4.out (below_alloc (Below.refl _ _) _)⟩, Deep.blk_alloc_new wr _⟩ (fun W4 hI => ?_)
          clear HI HL4 hx0 hx1 hx2 hx3 hx4
          have HI := Aside0.mk hI.1.1
          have HH := Aside0.mk hI.1.2
          have HT := Aside0.mk hI.2
          clear hI
          have t0 : W4.cell? ⟨wr.heap.size, 0, none⟩ = some (.int .i64 t.f0) := (blk_cell HT.out 0).trans rfl
          have t1 : W4.cell? ⟨wr.heap.size, 1, none⟩ = some (.int .i64 t.f1) := (blk_cell HT.out 1).trans rfl
          have t2 : W4.cell? ⟨wr.heap.size, 2, none⟩ = some (.int .i64 t.f2.f0) := (blk_cell HT.out 2).trans rfl
          have t3 : W4.cell? ⟨wr.heap.size, 3, none⟩ = some (.int .i64 t.f2.f1) := (blk_cell HT.out 3).trans rfl
          have t4 : W4.cell? ⟨wr.heap.size, 4, none⟩ = some (.string t.f2.f2) := (blk_cell HT.out 4).trans rfl
          have hkc := key.calls t w2.heap.size w.heap.size Av0 cv0 vs (some ad4) c0_4 l0_4 k k1_ k2_ W4 HI.out.u0 ((blk_cell HI.out.1 4).trans (by rw [HX.out]; rfl)) (Kd.R_reads' HI.out.rv).2.2 (Kd.R_reads' HI.out.rv).2.1 (Kd.C_below HR4.out.1 HI.out.b) HR4.out.2 HVS.out HKE.out
          simp only [encT] at hkc
          go_upto_region 23 with (first | (go_at_call 33; refine hkc.mono ?_; rintro e w5 ⟨v9, rfl, ho, hb⟩; obtain ⟨A9, c9, e9⟩ := Kd.R_slice ho; subst e9; have HO9 := Aside0.mk (And.intro ho hb); clear ho hb hkc t0 t1 t2 t3 t4))
          have HI5 := Aside0.mk (HI.out.below HO9.out.2)
          have HH5 := Aside0.mk (Kd.R_below HH.out HO9.out.2)
          have HT5 := Aside0.mk (blk_below HT.out HO9.out.2)
          have HK5 := Aside0.mk (Kd.R_lower HO9.out.1 (below_size HI.out.b))
          have HY5 := Aside0.mk (young_u8 HH.out HO9.out.1)
          clear HI HH HT HO9
          have t1 : w5.cell? ⟨wr.heap.size, 1, none⟩ = some (.int .i64 t.f1) := (blk_cell HT5.out 1).trans rfl
          by_cases hA : t.f1 = 8
          · skip
            have hF := HF.out
            rw [if_pos (Or.inl hA)] at hF
            have q1 : (t.f1 == 8) = true := beq_iff_eq.mpr hA
            replace hF := Option.bind_eq_some_iff.mp hF
            obtain ⟨⟨nx1, nx2⟩, hn1, hF⟩ := hF
            have HNX1 := Aside0.mk hn1
            clear hA HF hn1
            have HF1 : Aside0 (highF k vs l0_4 (lo0.drop (j + 1)) nx1 nx2 = some (r2, hi2)) := ⟨hF⟩
            clear hF
            go_upto_region 25 with (first | (go_at_call 35; (with_reducible refine (keys_Next.calls k A9 c9 k1_ nx1 nx2 _ (Kd.R_reads' HK5.out).2.2 (Kd.R_reads' HK5.out).2.1 HNX1.out).mono ?_); rintro e w6 ⟨v10, rfl, ho, hb⟩; have HO9 := Aside0.mk (And.intro ho hb); clear ho hb t1))
            go_wp2
            obtain ⟨k1, rfl⟩ : ∃ k1, gk = k1 + 1 := ⟨gk - 1, by have := HA.out; omega⟩
            go_roundg k1
            case measure => omega
            case rel =>
              refine ⟨j + 1, nx1, nx2, by go_num, rfl, ⟨by have := HLT.out; omega, by have := HA.out.2.1; omega, HF1.out⟩, ⟨HI5.out.below HO9.out.2⟩, ⟨Kd.R_below HH5.out HO9.out.2⟩, ⟨Kd.R_lower HO9.out.1 (below_size HI5.out.b)⟩, ⟨young_u8 HH5.out HO9.out.1⟩⟩
          · by_cases hB : t.f1 = 10
            · skip
              have hF := HF.out
              rw [if_pos (Or.inr hB)] at hF
              have q1 : (t.f1 == 8) = false := beq_eq_false_iff_ne.mpr hA
              have q2 : (t.f1 == 10) = true := beq_iff_eq.mpr hB
              replace hF := Option.bind_eq_some_iff.mp hF
              obtain ⟨⟨nx1, nx2⟩, hn1, hF⟩ := hF
              have HNX1 := Aside0.mk hn1
              clear hA hB HF hn1
              have HF1 : Aside0 (highF k vs l0_4 (lo0.drop (j + 1)) nx1 nx2 = some (r2, hi2)) := ⟨hF⟩
              clear hF
              go_upto_region 25 with (first | (go_at_call 35; (with_reducible refine (keys_Next.calls k A9 c9 k1_ nx1 nx2 _ (Kd.R_reads' HK5.out).2.2 (Kd.R_reads' HK5.out).2.1 HNX1.out).mono ?_); rintro e w6 ⟨v10, rfl, ho, hb⟩; have HO9 := Aside0.mk (And.intro ho hb); clear ho hb t1))
              go_wp2
              obtain ⟨k1, rfl⟩ : ∃ k1, gk = k1 + 1 := ⟨gk - 1, by have := HA.out; omega⟩
              go_roundg k1
              case measure => omega
              case rel =>
                refine ⟨j + 1, nx1, nx2, by go_num, rfl, ⟨by have := HLT.out; omega, by have := HA.out.2.1; omega, HF1.out⟩, ⟨HI5.out.below HO9.out.2⟩, ⟨Kd.R_below HH5.out HO9.out.2⟩, ⟨Kd.R_lower HO9.out.1 (below_size HI5.out.b)⟩, ⟨young_u8 HH5.out HO9.out.1⟩⟩
            · skip
              have hF := HF.out
              rw [if_neg (fun h => h.elim hA hB)] at hF
              have q1 : (t.f1 == 8) = false := beq_eq_false_iff_ne.mpr hA
              have q2 : (t.f1 == 10) = false := beq_eq_false_iff_ne.mpr hB
              have HF1 : Aside0 (highF k vs l0_4 (lo0.drop (j + 1)) k1_ true = some (r2, hi2)) := ⟨hF⟩
              clear hA hB HF hF
              go_wp2
              obtain ⟨k1, rfl⟩ : ∃ k1, gk = k1 + 1 := ⟨gk - 1, by have := HA.out; omega⟩
              go_roundg k1
              case measure => omega
              case rel =>
                refine ⟨j + 1, k1_, true, by go_num, rfl, ⟨by have := HLT.out; omega, by have := HA.out.2.1; omega, HF1.out⟩, ⟨HI5.out⟩, ⟨HH5.out⟩, ⟨HK5.out⟩, ⟨HY5.out⟩⟩
        · obtain rfl : j = lo0.length := by omega
          have b0 : decide (lo0.length < lo0.length) = false := decide_eq_false hlt
          have b1 : decide ((lo0.length : Int) < (lo0.length : Int)) = false := decide_eq_false (by omega)
          have hcur : r2 = cur ∧ hi2 = ok := by
            have h := HA.out.2.2
            rw [List.drop_length] at h
            have h2 := Option.some.inj h
            exact ⟨(congrArg Prod.fst h2).symm, (congrArg Prod.snd h2).symm⟩
          obtain ⟨rfl, rfl⟩ := hcur
          clear hlt HA
          go_wp2
          go_ret3
          exact ⟨u4, u5, rfl, (two_u8 HL4.out H5.out HY.out).1, (two_u8 HL4.out H5.out HY.out).2, HI.out.b⟩
theorem bounds_Range.calls (k : Nat) (a0_0 : Int) (a0_1 : ByteArray) (a0_2 : ByteArray) (A0_3 : Option Addr) (c0_3 : Nat) (l0_3 : List Int) (A0_4 : Option Addr) (c0_4 : Nat) (l0_4 : List Bool) (a0_5 : Bool) (A1 : Option Addr) (c1 : Nat) (l1 : List (S69)) (r1 : List Int) (r2 : List Int) (r3 : Bool) (w : World) (hr0_3 : Kd.C (Kd.int .i64) w A0_3 l0_3.length l0_3) (hc0_3 : l0_3.length ≤ c0_3) (hr0_4 : Kd.C Kd.bool w A0_4 l0_4.length l0_4) (hc0_4 : l0_4.length ≤ c0_4) (hr1 : Kd.C k69 w A1 l1.length l1) (hc1 : l1.length ≤ c1) (h : bounds_Range.f k a0_0 a0_1 a0_2 l0_3 l0_4 a0_5 l1 = some (r1, r2, r3)) :
    Calls Try.prog 15 #[.agg #[.int .i64 a0_0, .string a0_1, .string a0_2, .slice A0_3 l0_3.length c0_3, .slice A0_4 l0_4.length c0_4, .bool a0_5], .slice A1 l1.length c1] w fun e w' => ∃ v0_ v1_ : Value, e = .returned (.tuple #[v0_, v1_, .bool r3]) ∧ Kd.R (Kd.int .u8) 5 w' w.heap.size (fun k_ => some k_ ≠ (v1_ : Value).ownBlock) v0_ r1 ∧ Kd.R (Kd.int .u8) 5 w' w.heap.size (fun k_ => some k_ ≠ (v0_ : Value).ownBlock) v1_ r2 ∧ Below w.heap.size w w' := by
  unfold bounds_Range.f at h
  replace h := Option.bind_eq_some_iff.mp h
  obtain ⟨⟨vs, lo0, up0⟩, hu, h⟩ := h
  have hg : ∀ lo up, bounds_Range.g k vs lo up l0_4 = some (r1, r2, r3) → ∃ be be2 nb1 nb2 hi2, keys_Encode.f k vs l0_4 = some (be, be2) ∧ lowF k vs l0_4 be lo be = some r1 ∧ keys_Next.f k be = some (nb1, nb2) ∧ highF k vs l0_4 up nb1 nb2 = some (r2, hi2) ∧ r3 = !hi2 := by
    intro lo up h
    unfold bounds_Range.g at h
    replace h := Option.bind_eq_some_iff.mp h
    obtain ⟨⟨be, be2⟩, h1, h⟩ := h
    replace h := Option.bind_eq_some_iff.mp h
    obtain ⟨low, h2, h⟩ := h
    replace h := Option.bind_eq_some_iff.mp h
    obtain ⟨⟨nb1, nb2⟩, h3, h⟩ := h
    replace h := Option.bind_eq_some_iff.mp h
    obtain ⟨⟨hi1, hi2⟩, h4, h⟩ := h
    simp only [Option.some.injEq, Prod.mk.injEq] at h
    obtain ⟨rfl, rfl, rfl⟩ := h
    exact ⟨be, be2, nb1, nb2, hi2, h1, h2, h3, h4, rfl⟩
  by_cases hlt : vs.length < l0_4.length
  · cases hb : rdOf false l0_4 (vs.length : Int) with
    | true =>
      have hs : swapB vs l0_4 = true := by simp [swapB, hlt, hb]
      simp only [hs, if_true] at h
      obtain ⟨be, be2, nb1, nb2, hi2, h1, h2, h3, h4, rfl⟩ := hg _ _ h
      exact range_swap k a0_0 a0_1 a0_2 A0_3 c0_3 l0_3 A0_4 c0_4 l0_4 a0_5 A1 c1 l1 vs lo0 up0 be be2 r1 r2 nb1 nb2 hi2 w hr0_3 hc0_3 hr0_4 hc0_4 hr1 hc1 hu h1 h2 h3 h4 hlt hb
    | false =>
      have hs : swapB vs l0_4 = false := by simp [swapB, hlt, hb]
      simp only [hs, Bool.false_eq_true, if_false] at h
      obtain ⟨be, be2, nb1, nb2, hi2, h1, h2, h3, h4, rfl⟩ := hg _ _ h
      exact range_keep1 k a0_0 a0_1 a0_2 A0_3 c0_3 l0_3 A0_4 c0_4 l0_4 a0_5 A1 c1 l1 vs lo0 up0 be be2 r1 r2 nb1 nb2 hi2 w hr0_3 hc0_3 hr0_4 hc0_4 hr1 hc1 hu h1 h2 h3 h4 hlt hb
  · have hs : swapB vs l0_4 = false := by simp [swapB, hlt]
    simp only [hs, Bool.false_eq_true, if_false] at h
    obtain ⟨be, be2, nb1, nb2, hi2, h1, h2, h3, h4, rfl⟩ := hg _ _ h
    exact range_keep0 k a0_0 a0_1 a0_2 A0_3 c0_3 l0_3 A0_4 c0_4 l0_4 a0_5 A1 c1 l1 vs lo0 up0 be be2 r1 r2 nb1 nb2 hi2 w hr0_3 hc0_3 hr0_4 hc0_4 hr1 hc1 hu h1 h2 h3 h4 hlt
end Go.Proofs.Ytmfenomjhmhogaa.P
end
section
namespace Go.Proofs.Ytmfenomjhmhogaa.P
open Go.RowKit Go.Proofs.YtmfenomjhmhogaaW.PrintWords Go.Proofs.YtmfenomjhmhogaaW.PrintLast Go.Proofs.YtmfenomjhmhogaaW.PrintMore
attribute [local go_sem] max2_int min2_int max_two min_two max_three min_three max_four min_four
set_option linter.unusedVariables false
set_option linter.unusedSimpArgs false
def quarryref19_first.l0 : Nat → List (S58) → Int → Int → Int → Int → Option (Int × Int × Int × Int × ByteArray × Bool)
 | 0, _, _, _, _, _ => none
 | k + 1, x0, x1, x2, x3, x10 => if x10 < (x0.length : Int) then (if 0 ≤ x10 then (if ((rd_T58 x0 x10).f0) = x1 then (if ((rd_T58 x0 x10).f1) = x2 then (some ((rd_T58 x0 x10).f0, (rd_T58 x0 x10).f1, (rd_T58 x0 x10).f2.f0, (rd_T58 x0 x10).f2.f1, (rd_T58 x0 x10).f2.f2, true)) else (if ((rd_T58 x0 x10).f1) = x3 then (some ((rd_T58 x0 x10).f0, (rd_T58 x0 x10).f1, (rd_T58 x0 x10).f2.f0, (rd_T58 x0 x10).f2.f1, (rd_T58 x0 x10).f2.f2, true)) else (quarryref19_first.l0 k x0 x1 x2 x3 (wrap64 (x10 + 1))))) else (quarryref19_first.l0 k x0 x1 x2 x3 (wrap64 (x10 + 1)))) else (none)) else (some (0, 0, 0, 0, (⟨#[]⟩ : ByteArray), false))
def quarryref19_first.f (k : Nat) (l0 : List (S58)) (a1 : Int) (a2 : Int) (a3 : Int) : Option (Int × Int × Int × Int × ByteArray × Bool) := quarryref19_first.l0 k l0 a1 a2 a3 0
set_option maxHeartbeats 8000000 in
set_option maxRecDepth 100000 in
theorem quarryref19_first.calls (k : Nat) (A0 : Option Addr) (c0 : Nat) (l0 : List (S58)) (a1 : Int) (a2 : Int) (a3 : Int) (r1 : Int) (r2 : Int) (r3 : Int) (r4 : Int) (r5 : ByteArray) (r6 : Bool) (w : World) (hr0 : Kd.C k58 w A0 l0.length l0) (hc0 : l0.length ≤ c0) (h : quarryref19_first.f k l0 a1 a2 a3 = some (r1, r2, r3, r4, r5, r6)) :
  Calls Try.prog 38 #[.slice A0 l0.length c0, .int .i64 a1, .int .i64 a2, .int .i64 a3] w fun e w' => e = .returned (.tuple #[.agg #[.int .i64 r1, .int .i64 r2, .int .i64 r3, .int .i64 r4, .string r5], .bool r6]) ∧ Below w.heap.size w w' := by
 have hu58 := Try.underlying58
 have HR0 := Aside0.mk hr0
 have HC0 := Aside0.mk hc0
 clear hr0 hc0
 have HB := Aside0.mk (Below.refl w.heap.size w)
 have H : (quarryref19_first.l0 k l0 a1 a2 a3 0) = some (r1, r2, r3, r4, r5, r6) := h
 clear h
 have H' := Aside0.mk H
 clear H
 go_enter Try.func38, Try.ntmps38
 go_wp2_with (first | ((with_reducible refine gate_dst (N := 8) rfl ?_); refine box_event ?hg (N := 8) ?hd (cs := #[.int .i64 0, .int .i64 0, .int .i64 0, .int .i64 0, .string (⟨#[]⟩ : ByteArray)]) (t := 58) ?hr ?_; (case hd => rfl); (case hg => rfl); (case hr => first | (go_simp; done) | (go_simp; rfl)); intro gb116 hg w5 hbox hb; have n0_ := Aside0.mk (below_step (by repeat (first | (with_reducible first | exact HB.out | apply below_alloc | apply pw_below_drewN | apply below_drew1) | exact HB.out)) hb); have n1_ := Aside0.mk (hbox); have n2_ := Aside0.mk ((by rw [hg]; exact (below_size (by repeat (first | (with_reducible first | exact HB.out | apply below_alloc | apply pw_below_drewN | apply below_drew1) | exact HB.out))) : w.heap.size ≤ gb116)); have n3_ := Aside0.mk ((by rw [hg]; exact (below_size (by repeat (first | (with_reducible first | exact HB.out | apply below_alloc | apply pw_below_drewN | apply below_drew1) | exact HB.out))) : w.heap.size ≤ gb116)); clear HB; have HB := n0_; have BK116 := n1_; have GW116 := n2_; have GE116 := n3_; clear n0_ n1_ n2_ n3_; clear hb hbox hg))
 go_loopg [10] k (fun kq v10 w' => ∃ (x10_1 : Int) (x117000_1 : Int) (x117001_1 : Int) (x117002_1 : Int) (x117003_1 : Int) (x117004_1 : ByteArray), v10 = .int .i64 x10_1 ∧ Aside0 (quarryref19_first.l0 kq l0 a1 a2 a3 x10_1 = some (r1, r2, r3, r4, r5, r6)) ∧ Aside0 (kq ≤ k) ∧ Aside0 (w'.heap[gb116]? = some (.cells #[.int .i64 x117000_1, .int .i64 x117001_1, .int .i64 x117002_1, .int .i64 x117003_1, .string x117004_1] 58 (0, 0))) ∧ Aside0 (Below w.heap.size w w'))
 case atStart => exact ⟨(0), (0), (0), (0), (0), ((⟨#[]⟩ : ByteArray)), (by first | rfl | (simp; done) | (simp [*]; done)), H', ⟨Nat.le_refl _⟩, ⟨by (with_reducible repeat (first | refine blk_drewN ?_ _ | refine blk_drew ?_ | refine blk_alloc ?_ _)); exact BK116.out⟩, ⟨by repeat (first | (with_reducible first | exact HB.out | apply below_alloc | apply pw_below_drewN | apply below_drew1 | refine below_set ?_ GE116.out) | exact HB.out)⟩⟩
 case round =>
  clear H'
  try clear p2
  try clear c3
  obtain ⟨x10_1, x117000_1, x117001_1, x117002_1, x117003_1, x117004_1, rfl, HA, HK1, BK116, HB⟩ := hrel
  cases gk with
  | zero => exact absurd HA.out (by simp [quarryref19_first.l0])
  | succ k1 =>
   have H := HA.out
   clear HA
   simp only [quarryref19_first.l0] at H
   by_cases c6 : x10_1 < (l0.length : Int)
   ·rw [if_pos c6] at H
    have c6b0 : decide (x10_1 < (l0.length : Int)) = true := decide_eq_true c6
    clear c6
    by_cases c7 : 0 ≤ x10_1
    ·rw [if_pos c7] at H
     have c7b0 : decide (0 ≤ x10_1) = true := decide_eq_true c7
     clear c7
     by_cases c8 : ((rd_T58 l0 x10_1).f0) = a1
     ·rw [if_pos c8] at H
      have c8b0 : (((rd_T58 l0 x10_1).f0) == a1) = true := beq_iff_eq.mpr c8
      have c8b1 : (((rd_T58 l0 x10_1).f0) != a1) = false := bne_eq_false_iff_eq.mpr c8
      clear c8
      by_cases c9 : ((rd_T58 l0 x10_1).f1) = a2
      ·rw [if_pos c9] at H
       have c9b0 : (((rd_T58 l0 x10_1).f1) == a2) = true := beq_iff_eq.mpr c9
       have c9b1 : (((rd_T58 l0 x10_1).f1) != a2) = false := bne_eq_false_iff_eq.mpr c9
       clear c9
       simp only [Option.some.injEq, Prod.mk.injEq] at H
       obtain ⟨rfl, rfl, rfl, rfl, rfl, rfl⟩ := H
       have p117 : 0 ≤ (x10_1 : Int) := of_decide_eq_true (by first | (with_reducible assumption) | assumption)
       have q117 : x10_1 < (l0.length : Int) := of_decide_eq_true (by first | (with_reducible assumption) | assumption)
       obtain ⟨ad117, e117, hx117_0, hx117_1, hx117_2, hx117_3, hx117_4⟩ := at_T58 HR0.out x10_1 p117 q117
       cases e117
       replace hx117_0 := (HB.out.cell (World.block_lt_of_cell? w _ hx117_0)).trans hx117_0
       replace hx117_1 := (HB.out.cell (World.block_lt_of_cell? w _ hx117_1)).trans hx117_1
       replace hx117_2 := (HB.out.cell (World.block_lt_of_cell? w _ hx117_2)).trans hx117_2
       replace hx117_3 := (HB.out.cell (World.block_lt_of_cell? w _ hx117_3)).trans hx117_3
       replace hx117_4 := (HB.out.cell (World.block_lt_of_cell? w _ hx117_4)).trans hx117_4
       replace p117 := eq_true p117
       replace q117 := eq_true q117
       have p118 : 0 ≤ (x10_1 : Int) := of_decide_eq_true (by first | (with_reducible assumption) | assumption)
       have q118 : x10_1 < (l0.length : Int) := of_decide_eq_true (by first | (with_reducible assumption) | assumption)
       obtain ⟨ad118, e118, hx118_0, hx118_1, hx118_2, hx118_3, hx118_4⟩ := at_T58 HR0.out x10_1 p118 q118
       obtain rfl : ad117 = ad118 := (by injection e118)
       replace hx118_0 := (HB.out.cell (World.block_lt_of_cell? w _ hx118_0)).trans hx118_0
       replace hx118_1 := (HB.out.cell (World.block_lt_of_cell? w _ hx118_1)).trans hx118_1
       replace hx118_2 := (HB.out.cell (World.block_lt_of_cell? w _ hx118_2)).trans hx118_2
       replace hx118_3 := (HB.out.cell (World.block_lt_of_cell? w _ hx118_3)).trans hx118_3
       replace hx118_4 := (HB.out.cell (World.block_lt_of_cell? w _ hx118_4)).trans hx118_4
       replace p118 := eq_true p118
       replace q118 := eq_true q118
       have p119 : 0 ≤ (x10_1 : Int) := of_decide_eq_true (by first | (with_reducible assumption) | assumption)
       have q119 : x10_1 < (l0.length : Int) := of_decide_eq_true (by first | (with_reducible assumption) | assumption)
       obtain ⟨ad119, e119, hx119_0, hx119_1, hx119_2, hx119_3, hx119_4⟩ := at_T58 HR0.out x10_1 p119 q119
       obtain rfl : ad117 = ad119 := (by injection e119)
       replace hx119_0 := (HB.out.cell (World.block_lt_of_cell? w _ hx119_0)).trans hx119_0
       replace hx119_1 := (HB.out.cell (World.block_lt_of_cell? w _ hx119_1)).trans hx119_1
       replace hx119_2 := (HB.out.cell (World.block_lt_of_cell? w _ hx119_2)).trans hx119_2
       replace hx119_3 := (HB.out.cell (World.block_lt_of_cell? w _ hx119_3)).trans hx119_3
       replace hx119_4 := (HB.out.cell (World.block_lt_of_cell? w _ hx119_4)).trans hx119_4
       replace p119 := eq_true p119
       replace q119 := eq_true q119
       have hcz10_0 : wr.cell? ⟨gb116, 0, none⟩ = some (.int .i64 x117000_1) := (blk_cell BK116.out 0).trans rfl
       have hcz10_1 : wr.cell? ⟨gb116, 1, none⟩ = some (.int .i64 x117001_1) := (blk_cell BK116.out 1).trans rfl
       have hcz10_2 : wr.cell? ⟨gb116, 2, none⟩ = some (.int .i64 x117002_1) := (blk_cell BK116.out 2).trans rfl
       have hcz10_3 : wr.cell? ⟨gb116, 3, none⟩ = some (.int .i64 x117003_1) := (blk_cell BK116.out 3).trans rfl
       have hcz10_4 : wr.cell? ⟨gb116, 4, none⟩ = some (.string x117004_1) := (blk_cell BK116.out 4).trans rfl
       have hfz10_0 := blk_frozen BK116.out 0
       have hfz10_1 := blk_frozen BK116.out 1
       have hfz10_2 := blk_frozen BK116.out 2
       have hfz10_3 := blk_frozen BK116.out 3
       have hfz10_4 := blk_frozen BK116.out 4
       go_wp2
       refine bodyPost_ret (results_ct rfl _ _ gb116 58 #[.int .i64 ((rd_T58 l0 x10_1).f0), .int .i64 ((rd_T58 l0 x10_1).f1), .int .i64 ((rd_T58 l0 x10_1).f2.f0), .int .i64 ((rd_T58 l0 x10_1).f2.f1), .string ((rd_T58 l0 x10_1).f2.f2)] (0, 0) _ rfl (by (with_reducible repeat (first | refine blk_drewN ?_ _ | refine blk_drew ?_ | refine blk_alloc ?_ _)); refine blk_put (cs := #[.int .i64 ((rd_T58 l0 x10_1).f0), .int .i64 ((rd_T58 l0 x10_1).f1), .int .i64 ((rd_T58 l0 x10_1).f2.f0), .int .i64 ((rd_T58 l0 x10_1).f2.f1), .string x117004_1]) ?_ 4 _ rfl; (with_reducible repeat (first | refine blk_drewN ?_ _ | refine blk_drew ?_ | refine blk_alloc ?_ _)); refine blk_put (cs := #[.int .i64 ((rd_T58 l0 x10_1).f0), .int .i64 ((rd_T58 l0 x10_1).f1), .int .i64 ((rd_T58 l0 x10_1).f2.f0), .int .i64 x117003_1, .string x117004_1]) ?_ 3 _ rfl; (with_reducible repeat (first | refine blk_drewN ?_ _ | refine blk_drew ?_ | refine blk_alloc ?_ _)); refine blk_put (cs := #[.int .i64 ((rd_T58 l0 x10_1).f0), .int .i64 ((rd_T58 l0 x10_1).f1), .int .i64 x117002_1, .int .i64 x117003_1, .string x117004_1]) ?_ 2 _ rfl; (with_reducible repeat (first | refine blk_drewN ?_ _ | refine blk_drew ?_ | refine blk_alloc ?_ _)); refine blk_put (cs := #[.int .i64 ((rd_T58 l0 x10_1).f0), .int .i64 x117001_1, .int .i64 x117002_1, .int .i64 x117003_1, .string x117004_1]) ?_ 1 _ rfl; (with_reducible repeat (first | refine blk_drewN ?_ _ | refine blk_drew ?_ | refine blk_alloc ?_ _)); refine blk_put (cs := #[.int .i64 x117000_1, .int .i64 x117001_1, .int .i64 x117002_1, .int .i64 x117003_1, .string x117004_1]) ?_ 0 _ rfl; (with_reducible repeat (first | refine blk_drewN ?_ _ | refine blk_drew ?_ | refine blk_alloc ?_ _)); exact BK116.out) Try.underlying58 rfl (by kernel_rfl)) rfl ?_
       exact ⟨by first | rfl | (simp [errW_none, errW_some] <;> rfl) | (simp [*, errW_none, errW_some] <;> rfl), by repeat (first | (with_reducible first | exact HB.out | apply below_alloc | apply pw_below_drewN | apply below_drew1 | refine below_set ?_ GE116.out) | exact HB.out)⟩
      ·rw [if_neg c9] at H
       have c9b0 : (((rd_T58 l0 x10_1).f1) == a2) = false := beq_eq_false_iff_ne.mpr c9
       have c9b1 : (((rd_T58 l0 x10_1).f1) != a2) = true := bne_iff_ne.mpr c9
       by_cases c11 : ((rd_T58 l0 x10_1).f1) = a3
       ·rw [if_pos c11] at H
        have c11b0 : (((rd_T58 l0 x10_1).f1) == a3) = true := beq_iff_eq.mpr c11
        have c11b1 : (((rd_T58 l0 x10_1).f1) != a3) = false := bne_eq_false_iff_eq.mpr c11
        clear c11
        simp only [Option.some.injEq, Prod.mk.injEq] at H
        obtain ⟨rfl, rfl, rfl, rfl, rfl, rfl⟩ := H
        have p117 : 0 ≤ (x10_1 : Int) := of_decide_eq_true (by first | (with_reducible assumption) | assumption)
        have q117 : x10_1 < (l0.length : Int) := of_decide_eq_true (by first | (with_reducible assumption) | assumption)
        obtain ⟨ad117, e117, hx117_0, hx117_1, hx117_2, hx117_3, hx117_4⟩ := at_T58 HR0.out x10_1 p117 q117
        cases e117
        replace hx117_0 := (HB.out.cell (World.block_lt_of_cell? w _ hx117_0)).trans hx117_0
        replace hx117_1 := (HB.out.cell (World.block_lt_of_cell? w _ hx117_1)).trans hx117_1
        replace hx117_2 := (HB.out.cell (World.block_lt_of_cell? w _ hx117_2)).trans hx117_2
        replace hx117_3 := (HB.out.cell (World.block_lt_of_cell? w _ hx117_3)).trans hx117_3
        replace hx117_4 := (HB.out.cell (World.block_lt_of_cell? w _ hx117_4)).trans hx117_4
        replace p117 := eq_true p117
        replace q117 := eq_true q117
        have p118 : 0 ≤ (x10_1 : Int) := of_decide_eq_true (by first | (with_reducible assumption) | assumption)
        have q118 : x10_1 < (l0.length : Int) := of_decide_eq_true (by first | (with_reducible assumption) | assumption)
        obtain ⟨ad118, e118, hx118_0, hx118_1, hx118_2, hx118_3, hx118_4⟩ := at_T58 HR0.out x10_1 p118 q118
        obtain rfl : ad117 = ad118 := (by injection e118)
        replace hx118_0 := (HB.out.cell (World.block_lt_of_cell? w _ hx118_0)).trans hx118_0
        replace hx118_1 := (HB.out.cell (World.block_lt_of_cell? w _ hx118_1)).trans hx118_1
        replace hx118_2 := (HB.out.cell (World.block_lt_of_cell? w _ hx118_2)).trans hx118_2
        replace hx118_3 := (HB.out.cell (World.block_lt_of_cell? w _ hx118_3)).trans hx118_3
        replace hx118_4 := (HB.out.cell (World.block_lt_of_cell? w _ hx118_4)).trans hx118_4
        replace p118 := eq_true p118
        replace q118 := eq_true q118
        have p120 : 0 ≤ (x10_1 : Int) := of_decide_eq_true (by first | (with_reducible assumption) | assumption)
        have q120 : x10_1 < (l0.length : Int) := of_decide_eq_true (by first | (with_reducible assumption) | assumption)
        obtain ⟨ad120, e120, hx120_0, hx120_1, hx120_2, hx120_3, hx120_4⟩ := at_T58 HR0.out x10_1 p120 q120
        obtain rfl : ad117 = ad120 := (by injection e120)
        replace hx120_0 := (HB.out.cell (World.block_lt_of_cell? w _ hx120_0)).trans hx120_0
        replace hx120_1 := (HB.out.cell (World.block_lt_of_cell? w _ hx120_1)).trans hx120_1
        replace hx120_2 := (HB.out.cell (World.block_lt_of_cell? w _ hx120_2)).trans hx120_2
        replace hx120_3 := (HB.out.cell (World.block_lt_of_cell? w _ hx120_3)).trans hx120_3
        replace hx120_4 := (HB.out.cell (World.block_lt_of_cell? w _ hx120_4)).trans hx120_4
        replace p120 := eq_true p120
        replace q120 := eq_true q120
        have p121 : 0 ≤ (x10_1 : Int) := of_decide_eq_true (by first | (with_reducible assumption) | assumption)
        have q121 : x10_1 < (l0.length : Int) := of_decide_eq_true (by first | (with_reducible assumption) | assumption)
        obtain ⟨ad121, e121, hx121_0, hx121_1, hx121_2, hx121_3, hx121_4⟩ := at_T58 HR0.out x10_1 p121 q121
        obtain rfl : ad117 = ad121 := (by injection e121)
        replace hx121_0 := (HB.out.cell (World.block_lt_of_cell? w _ hx121_0)).trans hx121_0
        replace hx121_1 := (HB.out.cell (World.block_lt_of_cell? w _ hx121_1)).trans hx121_1
        replace hx121_2 := (HB.out.cell (World.block_lt_of_cell? w _ hx121_2)).trans hx121_2
        replace hx121_3 := (HB.out.cell (World.block_lt_of_cell? w _ hx121_3)).trans hx121_3
        replace hx121_4 := (HB.out.cell (World.block_lt_of_cell? w _ hx121_4)).trans hx121_4
        replace p121 := eq_true p121
        replace q121 := eq_true q121
        have hcz12_0 : wr.cell? ⟨gb116, 0, none⟩ = some (.int .i64 x117000_1) := (blk_cell BK116.out 0).trans rfl
        have hcz12_1 : wr.cell? ⟨gb116, 1, none⟩ = some (.int .i64 x117001_1) := (blk_cell BK116.out 1).trans rfl
        have hcz12_2 : wr.cell? ⟨gb116, 2, none⟩ = some (.int .i64 x117002_1) := (blk_cell BK116.out 2).trans rfl
        have hcz12_3 : wr.cell? ⟨gb116, 3, none⟩ = some (.int .i64 x117003_1) := (blk_cell BK116.out 3).trans rfl
        have hcz12_4 : wr.cell? ⟨gb116, 4, none⟩ = some (.string x117004_1) := (blk_cell BK116.out 4).trans rfl
        have hfz12_0 := blk_frozen BK116.out 0
        have hfz12_1 := blk_frozen BK116.out 1
        have hfz12_2 := blk_frozen BK116.out 2
        have hfz12_3 := blk_frozen BK116.out 3
        have hfz12_4 := blk_frozen BK116.out 4
        go_wp2
        refine bodyPost_ret (results_ct rfl _ _ gb116 58 #[.int .i64 ((rd_T58 l0 x10_1).f0), .int .i64 ((rd_T58 l0 x10_1).f1), .int .i64 ((rd_T58 l0 x10_1).f2.f0), .int .i64 ((rd_T58 l0 x10_1).f2.f1), .string ((rd_T58 l0 x10_1).f2.f2)] (0, 0) _ rfl (by (with_reducible repeat (first | refine blk_drewN ?_ _ | refine blk_drew ?_ | refine blk_alloc ?_ _)); refine blk_put (cs := #[.int .i64 ((rd_T58 l0 x10_1).f0), .int .i64 ((rd_T58 l0 x10_1).f1), .int .i64 ((rd_T58 l0 x10_1).f2.f0), .int .i64 ((rd_T58 l0 x10_1).f2.f1), .string x117004_1]) ?_ 4 _ rfl; (with_reducible repeat (first | refine blk_drewN ?_ _ | refine blk_drew ?_ | refine blk_alloc ?_ _)); refine blk_put (cs := #[.int .i64 ((rd_T58 l0 x10_1).f0), .int .i64 ((rd_T58 l0 x10_1).f1), .int .i64 ((rd_T58 l0 x10_1).f2.f0), .int .i64 x117003_1, .string x117004_1]) ?_ 3 _ rfl; (with_reducible repeat (first | refine blk_drewN ?_ _ | refine blk_drew ?_ | refine blk_alloc ?_ _)); refine blk_put (cs := #[.int .i64 ((rd_T58 l0 x10_1).f0), .int .i64 ((rd_T58 l0 x10_1).f1), .int .i64 x117002_1, .int .i64 x117003_1, .string x117004_1]) ?_ 2 _ rfl; (with_reducible repeat (first | refine blk_drewN ?_ _ | refine blk_drew ?_ | refine blk_alloc ?_ _)); refine blk_put (cs := #[.int .i64 ((rd_T58 l0 x10_1).f0), .int .i64 x117001_1, .int .i64 x117002_1, .int .i64 x117003_1, .string x117004_1]) ?_ 1 _ rfl; (with_reducible repeat (first | refine blk_drewN ?_ _ | refine blk_drew ?_ | refine blk_alloc ?_ _)); refine blk_put (cs := #[.int .i64 x117000_1, .int .i64 x117001_1, .int .i64 x117002_1, .int .i64 x117003_1, .string x117004_1]) ?_ 0 _ rfl; (with_reducible repeat (first | refine blk_drewN ?_ _ | refine blk_drew ?_ | refine blk_alloc ?_ _)); exact BK116.out) Try.underlying58 rfl (by kernel_rfl)) rfl ?_
        exact ⟨by first | rfl | (simp [errW_none, errW_some] <;> rfl) | (simp [*, errW_none, errW_some] <;> rfl), by repeat (first | (with_reducible first | exact HB.out | apply below_alloc | apply pw_below_drewN | apply below_drew1 | refine below_set ?_ GE116.out) | exact HB.out)⟩
       ·rw [if_neg c11] at H
        have c11b0 : (((rd_T58 l0 x10_1).f1) == a3) = false := beq_eq_false_iff_ne.mpr c11
        have c11b1 : (((rd_T58 l0 x10_1).f1) != a3) = true := bne_iff_ne.mpr c11
        have H' := Aside0.mk H
        clear H
        have p117 : 0 ≤ (x10_1 : Int) := of_decide_eq_true (by first | (with_reducible assumption) | assumption)
        have q117 : x10_1 < (l0.length : Int) := of_decide_eq_true (by first | (with_reducible assumption) | assumption)
        obtain ⟨ad117, e117, hx117_0, hx117_1, hx117_2, hx117_3, hx117_4⟩ := at_T58 HR0.out x10_1 p117 q117
        cases e117
        replace hx117_0 := (HB.out.cell (World.block_lt_of_cell? w _ hx117_0)).trans hx117_0
        replace hx117_1 := (HB.out.cell (World.block_lt_of_cell? w _ hx117_1)).trans hx117_1
        replace hx117_2 := (HB.out.cell (World.block_lt_of_cell? w _ hx117_2)).trans hx117_2
        replace hx117_3 := (HB.out.cell (World.block_lt_of_cell? w _ hx117_3)).trans hx117_3
        replace hx117_4 := (HB.out.cell (World.block_lt_of_cell? w _ hx117_4)).trans hx117_4
        replace p117 := eq_true p117
        replace q117 := eq_true q117
        have p118 : 0 ≤ (x10_1 : Int) := of_decide_eq_true (by first | (with_reducible assumption) | assumption)
        have q118 : x10_1 < (l0.length : Int) := of_decide_eq_true (by first | (with_reducible assumption) | assumption)
        obtain ⟨ad118, e118, hx118_0, hx118_1, hx118_2, hx118_3, hx118_4⟩ := at_T58 HR0.out x10_1 p118 q118
        obtain rfl : ad117 = ad118 := (by injection e118)
        replace hx118_0 := (HB.out.cell (World.block_lt_of_cell? w _ hx118_0)).trans hx118_0
        replace hx118_1 := (HB.out.cell (World.block_lt_of_cell? w _ hx118_1)).trans hx118_1
        replace hx118_2 := (HB.out.cell (World.block_lt_of_cell? w _ hx118_2)).trans hx118_2
        replace hx118_3 := (HB.out.cell (World.block_lt_of_cell? w _ hx118_3)).trans hx118_3
        replace hx118_4 := (HB.out.cell (World.block_lt_of_cell? w _ hx118_4)).trans hx118_4
        replace p118 := eq_true p118
        replace q118 := eq_true q118
        have p120 : 0 ≤ (x10_1 : Int) := of_decide_eq_true (by first | (with_reducible assumption) | assumption)
        have q120 : x10_1 < (l0.length : Int) := of_decide_eq_true (by first | (with_reducible assumption) | assumption)
        obtain ⟨ad120, e120, hx120_0, hx120_1, hx120_2, hx120_3, hx120_4⟩ := at_T58 HR0.out x10_1 p120 q120
        obtain rfl : ad117 = ad120 := (by injection e120)
        replace hx120_0 := (HB.out.cell (World.block_lt_of_cell? w _ hx120_0)).trans hx120_0
        replace hx120_1 := (HB.out.cell (World.block_lt_of_cell? w _ hx120_1)).trans hx120_1
        replace hx120_2 := (HB.out.cell (World.block_lt_of_cell? w _ hx120_2)).trans hx120_2
        replace hx120_3 := (HB.out.cell (World.block_lt_of_cell? w _ hx120_3)).trans hx120_3
        replace hx120_4 := (HB.out.cell (World.block_lt_of_cell? w _ hx120_4)).trans hx120_4
        replace p120 := eq_true p120
        replace q120 := eq_true q120
        go_wp2
        go_roundg k1
        case measure => have := HK1.out; omega
        case rel => exact ⟨(wrap64 (x10_1 + 1)), (x117000_1), (x117001_1), (x117002_1), (x117003_1), (x117004_1), (by first | rfl | (simp; done) | (simp [*]; done)), H', ⟨by have := HK1.out; omega⟩, ⟨by (with_reducible repeat (first | refine blk_drewN ?_ _ | refine blk_drew ?_ | refine blk_alloc ?_ _)); exact BK116.out⟩, ⟨by repeat (first | (with_reducible first | exact HB.out | apply below_alloc | apply pw_below_drewN | apply below_drew1 | refine below_set ?_ GE116.out) | exact HB.out)⟩⟩
     ·rw [if_neg c8] at H
      have c8b0 : (((rd_T58 l0 x10_1).f0) == a1) = false := beq_eq_false_iff_ne.mpr c8
      have c8b1 : (((rd_T58 l0 x10_1).f0) != a1) = true := bne_iff_ne.mpr c8
      have H' := Aside0.mk H
      clear H
      have p117 : 0 ≤ (x10_1 : Int) := of_decide_eq_true (by first | (with_reducible assumption) | assumption)
      have q117 : x10_1 < (l0.length : Int) := of_decide_eq_true (by first | (with_reducible assumption) | assumption)
      obtain ⟨ad117, e117, hx117_0, hx117_1, hx117_2, hx117_3, hx117_4⟩ := at_T58 HR0.out x10_1 p117 q117
      cases e117
      replace hx117_0 := (HB.out.cell (World.block_lt_of_cell? w _ hx117_0)).trans hx117_0
      replace hx117_1 := (HB.out.cell (World.block_lt_of_cell? w _ hx117_1)).trans hx117_1
      replace hx117_2 := (HB.out.cell (World.block_lt_of_cell? w _ hx117_2)).trans hx117_2
      replace hx117_3 := (HB.out.cell (World.block_lt_of_cell? w _ hx117_3)).trans hx117_3
      replace hx117_4 := (HB.out.cell (World.block_lt_of_cell? w _ hx117_4)).trans hx117_4
      replace p117 := eq_true p117
      replace q117 := eq_true q117
      go_wp2
      go_roundg k1
      case measure => have := HK1.out; omega
      case rel => exact ⟨(wrap64 (x10_1 + 1)), (x117000_1), (x117001_1), (x117002_1), (x117003_1), (x117004_1), (by first | rfl | (simp; done) | (simp [*]; done)), H', ⟨by have := HK1.out; omega⟩, ⟨by (with_reducible repeat (first | refine blk_drewN ?_ _ | refine blk_drew ?_ | refine blk_alloc ?_ _)); exact BK116.out⟩, ⟨by repeat (first | (with_reducible first | exact HB.out | apply below_alloc | apply pw_below_drewN | apply below_drew1 | refine below_set ?_ GE116.out) | exact HB.out)⟩⟩
    ·rw [if_neg c7] at H
     exact absurd H (by simp)
   ·rw [if_neg c6] at H
    have c6b0 : decide (x10_1 < (l0.length : Int)) = false := decide_eq_false c6
    clear c6
    simp only [Option.some.injEq, Prod.mk.injEq] at H
    obtain ⟨rfl, rfl, rfl, rfl, rfl, rfl⟩ := H
    have hcz13_0 : wr.cell? ⟨gb116, 0, none⟩ = some (.int .i64 x117000_1) := (blk_cell BK116.out 0).trans rfl
    have hcz13_1 : wr.cell? ⟨gb116, 1, none⟩ = some (.int .i64 x117001_1) := (blk_cell BK116.out 1).trans rfl
    have hcz13_2 : wr.cell? ⟨gb116, 2, none⟩ = some (.int .i64 x117002_1) := (blk_cell BK116.out 2).trans rfl
    have hcz13_3 : wr.cell? ⟨gb116, 3, none⟩ = some (.int .i64 x117003_1) := (blk_cell BK116.out 3).trans rfl
    have hcz13_4 : wr.cell? ⟨gb116, 4, none⟩ = some (.string x117004_1) := (blk_cell BK116.out 4).trans rfl
    have hfz13_0 := blk_frozen BK116.out 0
    have hfz13_1 := blk_frozen BK116.out 1
    have hfz13_2 := blk_frozen BK116.out 2
    have hfz13_3 := blk_frozen BK116.out 3
    have hfz13_4 := blk_frozen BK116.out 4
    go_wp2
    refine bodyPost_ret (results_ct rfl _ _ gb116 58 #[.int .i64 0, .int .i64 0, .int .i64 0, .int .i64 0, .string (⟨#[]⟩ : ByteArray)] (0, 0) _ rfl (by (with_reducible repeat (first | refine blk_drewN ?_ _ | refine blk_drew ?_ | refine blk_alloc ?_ _)); refine blk_put (cs := #[.int .i64 0, .int .i64 0, .int .i64 0, .int .i64 0, .string x117004_1]) ?_ 4 _ rfl; (with_reducible repeat (first | refine blk_drewN ?_ _ | refine blk_drew ?_ | refine blk_alloc ?_ _)); refine blk_put (cs := #[.int .i64 0, .int .i64 0, .int .i64 0, .int .i64 x117003_1, .string x117004_1]) ?_ 3 _ rfl; (with_reducible repeat (first | refine blk_drewN ?_ _ | refine blk_drew ?_ | refine blk_alloc ?_ _)); refine blk_put (cs := #[.int .i64 0, .int .i64 0, .int .i64 x117002_1, .int .i64 x117003_1, .string x117004_1]) ?_ 2 _ rfl; (with_reducible repeat (first | refine blk_drewN ?_ _ | refine blk_drew ?_ | refine blk_alloc ?_ _)); refine blk_put (cs := #[.int .i64 0, .int .i64 x117001_1, .int .i64 x117002_1, .int .i64 x117003_1, .string x117004_1]) ?_ 1 _ rfl; (with_reducible repeat (first | refine blk_drewN ?_ _ | refine blk_drew ?_ | refine blk_alloc ?_ _)); refine blk_put (cs := #[.int .i64 x117000_1, .int .i64 x117001_1, .int .i64 x117002_1, .int .i64 x117003_1, .string x117004_1]) ?_ 0 _ rfl; (with_reducible repeat (first | refine blk_drewN ?_ _ | refine blk_drew ?_ | refine blk_alloc ?_ _)); exact BK116.out) Try.underlying58 rfl (by kernel_rfl)) rfl ?_
    exact ⟨by first | rfl | (simp [errW_none, errW_some] <;> rfl) | (simp [*, errW_none, errW_some] <;> rfl), by repeat (first | (with_reducible first | exact HB.out | apply below_alloc | apply pw_below_drewN | apply below_drew1 | refine below_set ?_ GE116.out) | exact HB.out)⟩
def quarryref19_prefix.l0 : Nat → List (S58) → List (S25) → Int → Int → ByteArray → ByteArray → List Int → List Bool → Bool → Option ((List (S25)))
 | 0, _, _, _, _, _, _, _, _, _ => none
 | k + 1, x1, x5, x6, x123000, x123001, x123002, x123003, x123004, x123005 => if x6 < (x123003.length : Int) then (if 0 ≤ x6 then ((quarryref19_first.f k x1 (rd x123003 x6) 5 5).bind fun bt124 => (if bt124.2.2.2.2.2 = true then (if x5.length < 4398046511104 then (quarryref19_prefix.l0 k x1 (x5 ++ [(⟨bt124.2.2.1, bt124.2.2.2.1, bt124.2.2.2.2.1⟩ : S25)]) (wrap64 (x6 + 1)) x123000 x123001 x123002 x123003 x123004 x123005) else (none)) else (some x5))) else (none)) else (some x5)
def quarryref19_prefix.f (k : Nat) (a0_0 : Int) (a0_1 : ByteArray) (a0_2 : ByteArray) (l0_3 : List Int) (l0_4 : List Bool) (a0_5 : Bool) (l1 : List (S58)) : Option ((List (S25))) := quarryref19_prefix.l0 k l1 ([] : List (S25)) 0 a0_0 a0_1 a0_2 l0_3 l0_4 a0_5
set_option maxHeartbeats 8000000 in
set_option maxRecDepth 100000 in
theorem quarryref19_prefix.calls (k : Nat) (a0_0 : Int) (a0_1 : ByteArray) (a0_2 : ByteArray) (A0_3 : Option Addr) (c0_3 : Nat) (l0_3 : List Int) (A0_4 : Option Addr) (c0_4 : Nat) (l0_4 : List Bool) (a0_5 : Bool) (A1 : Option Addr) (c1 : Nat) (l1 : List (S58)) (r : List (S25)) (w : World) (hr0_3 : Kd.C (Kd.int .i64) w A0_3 l0_3.length l0_3) (hc0_3 : l0_3.length ≤ c0_3) (hr0_4 : Kd.C Kd.bool w A0_4 l0_4.length l0_4) (hc0_4 : l0_4.length ≤ c0_4) (hr1 : Kd.C k58 w A1 l1.length l1) (hc1 : l1.length ≤ c1) (h : quarryref19_prefix.f k a0_0 a0_1 a0_2 l0_3 l0_4 a0_5 l1 = some r) :
  Calls Try.prog 36 #[.agg #[.int .i64 a0_0, .string a0_1, .string a0_2, .slice A0_3 l0_3.length c0_3, .slice A0_4 l0_4.length c0_4, .bool a0_5], .slice A1 l1.length c1] w fun e w' => ∃ v0_ : Value, e = .returned (v0_) ∧ Kd.R k25 25 w' w.heap.size (fun _ => True) v0_ r ∧ Below w.heap.size w w' := by
 have hu41 := Try.underlying41
 have hu58 := Try.underlying58
 have hu25 := Try.underlying25
 have HR0_3 := Aside0.mk hr0_3
 have HC0_3 := Aside0.mk hc0_3
 clear hr0_3 hc0_3
 have HR0_4 := Aside0.mk hr0_4
 have HC0_4 := Aside0.mk hc0_4
 clear hr0_4 hc0_4
 have HR1 := Aside0.mk hr1
 have HC1 := Aside0.mk hc1
 clear hr1 hc1
 have HB := Aside0.mk (Below.refl w.heap.size w)
 have H : (quarryref19_prefix.l0 k l1 ([] : List (S25)) 0 a0_0 a0_1 a0_2 l0_3 l0_4 a0_5) = some r := h
 clear h
 have H' := Aside0.mk H
 clear H
 go_enter Try.func36, Try.ntmps36
 go_wp2_with (first | ((with_reducible refine gate_dst (N := 2) rfl ?_); refine box_event ?hg (N := 2) ?hd (cs := #[.int .i64 a0_0, .string a0_1, .string a0_2, .slice A0_3 l0_3.length c0_3, .slice A0_4 l0_4.length c0_4, .bool a0_5]) (t := 41) ?hr ?_; (case hd => rfl); (case hg => rfl); (case hr => first | (go_simp; done) | (go_simp; rfl)); intro gb122 hg w3 hbox hb; have n0_ := Aside0.mk (below_step (by repeat (first | (with_reducible first | exact HB.out | apply below_alloc | apply pw_below_drewN | apply below_drew1) | exact HB.out)) hb); have n1_ := Aside0.mk (hbox); have n2_ := Aside0.mk ((by rw [hg]; exact (below_size (by repeat (first | (with_reducible first | exact HB.out | apply below_alloc | apply pw_below_drewN | apply below_drew1) | exact HB.out))) : w.heap.size ≤ gb122)); have n3_ := Aside0.mk ((by rw [hg]; exact (below_size (by repeat (first | (with_reducible first | exact HB.out | apply below_alloc | apply pw_below_drewN | apply below_drew1) | exact HB.out))) : w.heap.size ≤ gb122)); clear HB; have HB := n0_; have BK122 := n1_; have GW122 := n2_; have GE122 := n3_; clear n0_ n1_ n2_ n3_; clear hb hbox hg))
 go_loopg [5, 6] k (fun kq v5 v6 w' => ∃ (x5_1 : List (S25)) (x6_1 : Int), v6 = .int .i64 x6_1 ∧ Aside0 (quarryref19_prefix.l0 kq l1 x5_1 x6_1 a0_0 a0_1 a0_2 l0_3 l0_4 a0_5 = some r) ∧ Aside0 (kq ≤ k) ∧ Aside0 (Kd.R k25 25 w' w.heap.size (fun _ => True) v5 x5_1) ∧ Aside0 (w'.heap[gb122]? = some (.cells #[.int .i64 a0_0, .string a0_1, .string a0_2, (.slice A0_3 l0_3.length c0_3), (.slice A0_4 l0_4.length c0_4), .bool a0_5] 41 (0, 0))) ∧ Aside0 (Below w.heap.size w w'))
 case atStart => exact ⟨(([] : List (S25))), (0), (by first | rfl | (simp; done) | (simp [*]; done)), H', ⟨Nat.le_refl _⟩, ⟨by first | exact Kd.R_nil _ _ _ _ _ | exact Kd.N_nil _ _ _ _ _ | exact Kd.V_nil _ _ _ _ _ | exact Kd.Q_nil _ _ _ _ _ | exact Kd.S_nil _ _ _ _ _⟩, ⟨by (with_reducible repeat (first | refine blk_drewN ?_ _ | refine blk_drew ?_ | refine blk_alloc ?_ _)); exact BK122.out⟩, ⟨by repeat (first | (with_reducible first | exact HB.out | apply below_alloc | apply pw_below_drewN | apply below_drew1 | refine below_set ?_ GE122.out) | exact HB.out)⟩⟩
 case round =>
  clear H'
  try clear c1
  try clear p2
  try clear c3
  obtain ⟨x5_1, x6_1, rfl, HA, HK1, HO_5, BK122, HB⟩ := hrel
  cases gk with
  | zero => exact absurd HA.out (by simp [quarryref19_prefix.l0])
  | succ k1 =>
   have H := HA.out
   clear HA
   simp only [quarryref19_prefix.l0] at H
   by_cases c4 : x6_1 < (l0_3.length : Int)
   ·rw [if_pos c4] at H
    have c4b0 : decide (x6_1 < (l0_3.length : Int)) = true := decide_eq_true c4
    clear c4
    by_cases c5 : 0 ≤ x6_1
    ·rw [if_pos c5] at H
     have c5b0 : decide (0 ≤ x6_1) = true := decide_eq_true c5
     clear c5
     replace H := Option.bind_eq_some_iff.mp H
     obtain ⟨⟨t124, t125, t126, t127, t128, t129⟩, A60, H⟩ := H
     replace H : (if t129 = true then (if x5_1.length < 4398046511104 then (quarryref19_prefix.l0 k1 l1 (x5_1 ++ [(⟨t126, t127, t128⟩ : S25)]) (wrap64 (x6_1 + 1)) a0_0 a0_1 a0_2 l0_3 l0_4 a0_5) else (none)) else (some x5_1)) = some r := H
     have A6 := Aside0.mk A60
     clear A60
     by_cases c7 : t129 = true
     ·subst c7
      have H1 : (if x5_1.length < 4398046511104 then (quarryref19_prefix.l0 k1 l1 (x5_1 ++ [(⟨t126, t127, t128⟩ : S25)]) (wrap64 (x6_1 + 1)) a0_0 a0_1 a0_2 l0_3 l0_4 a0_5) else (none)) = some r := by rw [if_pos rfl] at H; exact H
      clear H
      have H := H1
      clear H1
      by_cases c8 : x5_1.length < 4398046511104
      ·rw [if_pos c8] at H
       have LMc8 := Aside0.mk c8
       clear c8
       obtain ⟨y131, hy131⟩ : ∃ y_ : List (S25), y_ = (x5_1 ++ [(⟨t126, t127, t128⟩ : S25)]) := ⟨_, rfl⟩
       replace H : (quarryref19_prefix.l0 k1 l1 y131 (wrap64 (x6_1 + 1)) a0_0 a0_1 a0_2 l0_3 l0_4 a0_5) = some r := by first | (rw [hy131]; with_reducible exact H) | (have H2_ := (Option.bind_some _ _).symm.trans H; rw [hy131]; with_reducible exact H2_) | (have H2_ := (Option.bind_some _ _).symm.trans H; with_reducible exact H2_) | with_reducible exact H | (rw [hy131]; exact H) | exact H
       have Ny131 := Aside0.mk hy131
       clear hy131
       have H' := Aside0.mk H
       clear H
       have hcz9_0 : wr.cell? ⟨gb122, 0, none⟩ = some (.int .i64 a0_0) := (blk_cell BK122.out 0).trans rfl
       have hcz9_1 : wr.cell? ⟨gb122, 1, none⟩ = some (.string a0_1) := (blk_cell BK122.out 1).trans rfl
       have hcz9_2 : wr.cell? ⟨gb122, 2, none⟩ = some (.string a0_2) := (blk_cell BK122.out 2).trans rfl
       have hcz9_3 : wr.cell? ⟨gb122, 3, none⟩ = some (.slice A0_3 l0_3.length c0_3) := (blk_cell BK122.out 3).trans rfl
       have hcz9_4 : wr.cell? ⟨gb122, 4, none⟩ = some (.slice A0_4 l0_4.length c0_4) := (blk_cell BK122.out 4).trans rfl
       have hcz9_5 : wr.cell? ⟨gb122, 5, none⟩ = some (.bool a0_5) := (blk_cell BK122.out 5).trans rfl
       have hfz9_0 := blk_frozen BK122.out 0
       have hfz9_1 := blk_frozen BK122.out 1
       have hfz9_2 := blk_frozen BK122.out 2
       have hfz9_3 := blk_frozen BK122.out 3
       have hfz9_4 := blk_frozen BK122.out 4
       have hfz9_5 := blk_frozen BK122.out 5
       have p123 : 0 ≤ (x6_1 : Int) := of_decide_eq_true (by first | (with_reducible assumption) | assumption)
       have q123 : x6_1 < (l0_3.length : Int) := of_decide_eq_true (by first | (with_reducible assumption) | assumption)
       obtain ⟨ad123, e123, hx123_0⟩ := Kd.at_int HR0_3.out x6_1 p123 q123
       cases e123
       replace hx123_0 := (HB.out.cell (World.block_lt_of_cell? w _ hx123_0)).trans hx123_0
       replace p123 := eq_true p123
       replace q123 := eq_true q123
       go_wp2_with (first | ((with_reducible refine gate_callee (f := 38) rfl ?_); refine goesL_ (some 23) rfl rfl Try.func38 (by kernel_rfl) rfl #[.slice A1 l1.length c1, .int .i64 (rd l0_3 x6_1), .int .i64 5, .int .i64 5] rfl (by (try simp only [List.map_toArray, List.map_cons, List.map_nil]); first | done | rfl | (simp only [List.length_drop, List.length_take]; rfl)) ?_; (with_reducible refine (quarryref19_first.calls k1 _ _ l1 (rd l0_3 x6_1) 5 5 t124 t125 t126 t127 t128 true _ ?side1 ?side2 A6.out).mono ?_); (case side1 => repeat (first | exact (Kd.C_below HR1.out HB.out) | (with_reducible refine Kd.C_alloc ?_ _) | (with_reducible refine Kd.C_drewN ?_ _) | (with_reducible refine Kd.C_drew ?_))); (case side2 => exact HC1.out); rintro e w10 ⟨rfl, hb⟩; refine ⟨_, rfl, ?_⟩; have n0_ := Aside0.mk (Kd.R_below (by (with_reducible repeat (first | apply Kd.R_alloc | apply Kd.R_drewN | apply Kd.R_drew)); exact HO_5.out) hb); have n1_ := Aside0.mk (blk_below (g := gb122) (o := .cells #[.int .i64 a0_0, .string a0_1, .string a0_2, .slice (some ad123) l0_3.length c0_3, .slice A0_4 l0_4.length c0_4, .bool a0_5] 41 (0, 0)) (bk_ BK122) hb); have n2_ := Aside0.mk (below_step (by repeat (first | (with_reducible first | exact HB.out | apply below_alloc | apply pw_below_drewN | apply below_drew1 | refine below_set ?_ GE122.out) | exact HB.out)) hb); clear HO_5; clear BK122; clear HB; have HO_5 := n0_; have BK122 := n1_; have HB := n2_; clear n0_ n1_ n2_; (try clear hb); (try clear hb2); (try clear hk); (try clear hi)) | ((with_reducible refine gate_dst (N := 7) rfl ?_); refine box_event ?hg (N := 7) ?hd (cs := #[.int .i64 0, .int .i64 0, .int .i64 0, .int .i64 0, .string (⟨#[]⟩ : ByteArray)]) (t := 58) ?hr ?_; (case hd => rfl); (case hg => rfl); (case hr => first | (go_simp; done) | (go_simp; rfl)); intro gb130 hg w11 hbox hb; have n0_ := Aside0.mk (Kd.R_below (by (with_reducible repeat (first | apply Kd.R_alloc | apply Kd.R_drewN | apply Kd.R_drew)); exact HO_5.out) hb); have n1_ := Aside0.mk (blk_below (g := gb122) (o := .cells #[.int .i64 a0_0, .string a0_1, .string a0_2, .slice (some ad123) l0_3.length c0_3, .slice A0_4 l0_4.length c0_4, .bool a0_5] 41 (0, 0)) (bk_ BK122) hb); have n2_ := Aside0.mk (below_step (by repeat (first | (with_reducible first | exact HB.out | apply below_alloc | apply pw_below_drewN | apply below_drew1 | refine below_set ?_ GE122.out) | exact HB.out)) hb); have n3_ := Aside0.mk (hbox); have n4_ := Aside0.mk ((by rw [hg]; exact (below_size (by repeat (first | (with_reducible first | exact HB.out | apply below_alloc | apply pw_below_drewN | apply below_drew1 | refine below_set ?_ GE122.out) | exact HB.out))) : w.heap.size ≤ gb130)); have n5_ := Aside0.mk ((by rw [hg]; exact (below_size (by repeat (first | (with_reducible first | exact HB.out | apply below_alloc | apply pw_below_drewN | apply below_drew1 | refine below_set ?_ GE122.out) | exact HB.out))) : w.heap.size ≤ gb130)); have n6_ := Aside0.mk ((by rw [hg]; exact Nat.ne_of_lt (blk_lt (g := gb122) (o := .cells #[.int .i64 a0_0, .string a0_1, .string a0_2, .slice (some ad123) l0_3.length c0_3, .slice A0_4 l0_4.length c0_4, .bool a0_5] 41 (0, 0)) (bk_ BK122)) : gb122 ≠ gb130)); have n7_ := Aside0.mk ((by rw [hg]; exact Nat.ne_of_gt (blk_lt (g := gb122) (o := .cells #[.int .i64 a0_0, .string a0_1, .string a0_2, .slice (some ad123) l0_3.length c0_3, .slice A0_4 l0_4.length c0_4, .bool a0_5] 41 (0, 0)) (bk_ BK122)) : gb130 ≠ gb122)); clear HO_5; clear BK122; clear HB; have HO_5 := n0_; have BK122 := n1_; have HB := n2_; have BK130 := n3_; have GW130 := n4_; have GE130 := n5_; have NB122_130 := n6_; have NB130_122 := n7_; clear n0_ n1_ n2_ n3_ n4_ n5_ n6_ n7_; clear hb hbox hg; have hnb12 := NB130_122.out; have hnc12 := NB122_130.out; have hcz13_0 : w11.cell? ⟨gb130, 0, none⟩ = some (.int .i64 0) := (blk_cell BK130.out 0).trans rfl; have hcz13_1 : w11.cell? ⟨gb130, 1, none⟩ = some (.int .i64 0) := (blk_cell BK130.out 1).trans rfl; have hcz13_2 : w11.cell? ⟨gb130, 2, none⟩ = some (.int .i64 0) := (blk_cell BK130.out 2).trans rfl; have hcz13_3 : w11.cell? ⟨gb130, 3, none⟩ = some (.int .i64 0) := (blk_cell BK130.out 3).trans rfl; have hcz13_4 : w11.cell? ⟨gb130, 4, none⟩ = some (.string (⟨#[]⟩ : ByteArray)) := (blk_cell BK130.out 4).trans rfl; have hfz13_0 := blk_frozen BK130.out 0; have hfz13_1 := blk_frozen BK130.out 1; have hfz13_2 := blk_frozen BK130.out 2; have hfz13_3 := blk_frozen BK130.out 3; have hfz13_4 := blk_frozen BK130.out 4) | ((with_reducible refine gate_builtin (b := .append) (xs := #[.tmp 28, .tmp 31]) rfl ?_); at_builtin; refine Kd.R_append k25 (w0 := w) w.heap.size rfl (.tmp 28) (.tmp 31) 52 25 (.agg #[(.int .i64 0), (.int .i64 0), (.string ⟨#[]⟩)]) 32 rfl Try.underlying52 info25 rfl (by decide) (by omega) u5 x5_1 (⟨t126, t127, t128⟩ : S25) [.int .i64 t126, .int .i64 t127, .string t128] (fun _ => True) (fun _ => False) rfl (by first | (go_simp; done) | (go_simp; rfl)) ?aP (fun _ hk => hk.elim) ?aF ?aO ?aB ?aS ?aL ?_; (case aP => exact k25_mkM _ _ _ (⟨t126, t127, t128⟩ : S25)); (case aB => exact (by repeat (first | (with_reducible first | exact HB.out | apply below_alloc | apply pw_below_drewN | apply below_drew1 | refine below_set ?_ GE122.out | refine below_set ?_ GE130.out) | exact HB.out))); (case aF => exact (fun _ _ => trivial)); (case aO => exact (by (with_reducible repeat (first | apply Kd.R_alloc | apply Kd.R_drewN | apply Kd.R_drew)); exact Kd.R_mono (Kd.R_far (p := ⟨gb130, 4, none⟩) (Kd.R_far (p := ⟨gb130, 3, none⟩) (Kd.R_far (p := ⟨gb130, 2, none⟩) (Kd.R_far (p := ⟨gb130, 1, none⟩) (Kd.R_far (p := ⟨gb130, 0, none⟩) (Kd.R_types HO_5.out BK130.out (by decide)) (fun _ hk => hk.2) (.int .i64 t124)) (fun _ hk => hk.2) (.int .i64 t125)) (fun _ hk => hk.2) (.int .i64 t126)) (fun _ hk => hk.2) (.int .i64 t127)) (fun _ hk => hk.2) (.string t128)) (fun _ hk => trivial))); (case aS => exact (below_size (by repeat (first | (with_reducible first | exact HB.out | apply below_alloc | apply pw_below_drewN | apply below_drew1 | refine below_set ?_ GE122.out | refine below_set ?_ GE130.out) | exact HB.out)))); (case aL => have := LMc8.out; omega); intro v132 w14 ho hb hg hat; rw [← Ny131.out] at ho; have n0_ := Aside0.mk (blk_grown (g := gb122) (o := .cells #[.int .i64 a0_0, .string a0_1, .string a0_2, .slice (some ad123) l0_3.length c0_3, .slice A0_4 l0_4.length c0_4, .bool a0_5] 41 (0, 0)) (by (with_reducible repeat (first | refine blk_drewN ?_ _ | refine blk_drew ?_ | refine blk_alloc ?_ _)); refine blk_far ?_ NB122_130.out _; (with_reducible repeat (first | refine blk_drewN ?_ _ | refine blk_drew ?_ | refine blk_alloc ?_ _)); refine blk_far ?_ NB122_130.out _; (with_reducible repeat (first | refine blk_drewN ?_ _ | refine blk_drew ?_ | refine blk_alloc ?_ _)); refine blk_far ?_ NB122_130.out _; (with_reducible repeat (first | refine blk_drewN ?_ _ | refine blk_drew ?_ | refine blk_alloc ?_ _)); refine blk_far ?_ NB122_130.out _; (with_reducible repeat (first | refine blk_drewN ?_ _ | refine blk_drew ?_ | refine blk_alloc ?_ _)); refine blk_far ?_ NB122_130.out _; (with_reducible repeat (first | refine blk_drewN ?_ _ | refine blk_drew ?_ | refine blk_alloc ?_ _)); exact BK122.out) hg (Kd.R_ne HO_5.out BK122.out (by decide))); have n1_ := Aside0.mk (blk_grown (g := gb130) (o := .cells #[.int .i64 t124, .int .i64 t125, .int .i64 t126, .int .i64 t127, .string t128] 58 (0, 0)) (by (with_reducible repeat (first | refine blk_drewN ?_ _ | refine blk_drew ?_ | refine blk_alloc ?_ _)); refine blk_put (cs := #[.int .i64 t124, .int .i64 t125, .int .i64 t126, .int .i64 t127, .string (⟨#[]⟩ : ByteArray)]) ?_ 4 _ rfl; (with_reducible repeat (first | refine blk_drewN ?_ _ | refine blk_drew ?_ | refine blk_alloc ?_ _)); refine blk_put (cs := #[.int .i64 t124, .int .i64 t125, .int .i64 t126, .int .i64 0, .string (⟨#[]⟩ : ByteArray)]) ?_ 3 _ rfl; (with_reducible repeat (first | refine blk_drewN ?_ _ | refine blk_drew ?_ | refine blk_alloc ?_ _)); refine blk_put (cs := #[.int .i64 t124, .int .i64 t125, .int .i64 0, .int .i64 0, .string (⟨#[]⟩ : ByteArray)]) ?_ 2 _ rfl; (with_reducible repeat (first | refine blk_drewN ?_ _ | refine blk_drew ?_ | refine blk_alloc ?_ _)); refine blk_put (cs := #[.int .i64 t124, .int .i64 0, .int .i64 0, .int .i64 0, .string (⟨#[]⟩ : ByteArray)]) ?_ 1 _ rfl; (with_reducible repeat (first | refine blk_drewN ?_ _ | refine blk_drew ?_ | refine blk_alloc ?_ _)); refine blk_put (cs := #[.int .i64 0, .int .i64 0, .int .i64 0, .int .i64 0, .string (⟨#[]⟩ : ByteArray)]) ?_ 0 _ rfl; (with_reducible repeat (first | refine blk_drewN ?_ _ | refine blk_drew ?_ | refine blk_alloc ?_ _)); exact BK130.out) hg (Kd.R_ne HO_5.out BK130.out (by decide))); have n2_ := Aside0.mk (hb); have n3_ := Aside0.mk (ho); clear BK122; clear BK130; clear HB; clear HO_5; have BK122 := n0_; have BK130 := n1_; have HB := n2_; have HO133 := n3_; clear n0_ n1_ n2_ n3_; clear ho hb hg hat))
       go_roundg k1
       case measure => have := HK1.out; omega
       case rel => exact ⟨(y131), (wrap64 (x6_1 + 1)), (by first | rfl | (simp; done) | (simp [*]; done)), H', ⟨by have := HK1.out; omega⟩, ⟨by (with_reducible repeat (first | apply Kd.R_alloc | apply Kd.R_drewN | apply Kd.R_drew)); exact HO133.out⟩, ⟨by (with_reducible repeat (first | refine blk_drewN ?_ _ | refine blk_drew ?_ | refine blk_alloc ?_ _)); exact BK122.out⟩, ⟨by repeat (first | (with_reducible first | exact HB.out | apply below_alloc | apply pw_below_drewN | apply below_drew1 | refine below_set ?_ GE122.out | refine below_set ?_ GE130.out) | exact HB.out)⟩⟩
      ·rw [if_neg c8] at H
       exact absurd H (by simp)
     ·replace c7 := Bool.eq_false_iff.mpr c7
      subst c7
      have H1 : (some x5_1) = some r := by rw [if_neg (show ¬ (false = true) by decide)] at H; exact H
      clear H
      have H := H1
      clear H1
      obtain rfl := Option.some.inj H
      have hcz15_0 : wr.cell? ⟨gb122, 0, none⟩ = some (.int .i64 a0_0) := (blk_cell BK122.out 0).trans rfl
      have hcz15_1 : wr.cell? ⟨gb122, 1, none⟩ = some (.string a0_1) := (blk_cell BK122.out 1).trans rfl
      have hcz15_2 : wr.cell? ⟨gb122, 2, none⟩ = some (.string a0_2) := (blk_cell BK122.out 2).trans rfl
      have hcz15_3 : wr.cell? ⟨gb122, 3, none⟩ = some (.slice A0_3 l0_3.length c0_3) := (blk_cell BK122.out 3).trans rfl
      have hcz15_4 : wr.cell? ⟨gb122, 4, none⟩ = some (.slice A0_4 l0_4.length c0_4) := (blk_cell BK122.out 4).trans rfl
      have hcz15_5 : wr.cell? ⟨gb122, 5, none⟩ = some (.bool a0_5) := (blk_cell BK122.out 5).trans rfl
      have hfz15_0 := blk_frozen BK122.out 0
      have hfz15_1 := blk_frozen BK122.out 1
      have hfz15_2 := blk_frozen BK122.out 2
      have hfz15_3 := blk_frozen BK122.out 3
      have hfz15_4 := blk_frozen BK122.out 4
      have hfz15_5 := blk_frozen BK122.out 5
      have p123 : 0 ≤ (x6_1 : Int) := of_decide_eq_true (by first | (with_reducible assumption) | assumption)
      have q123 : x6_1 < (l0_3.length : Int) := of_decide_eq_true (by first | (with_reducible assumption) | assumption)
      obtain ⟨ad123, e123, hx123_0⟩ := Kd.at_int HR0_3.out x6_1 p123 q123
      cases e123
      replace hx123_0 := (HB.out.cell (World.block_lt_of_cell? w _ hx123_0)).trans hx123_0
      replace p123 := eq_true p123
      replace q123 := eq_true q123
      go_wp2_with (first | ((with_reducible refine gate_callee (f := 38) rfl ?_); refine goesL_ (some 23) rfl rfl Try.func38 (by kernel_rfl) rfl #[.slice A1 l1.length c1, .int .i64 (rd l0_3 x6_1), .int .i64 5, .int .i64 5] rfl (by (try simp only [List.map_toArray, List.map_cons, List.map_nil]); first | done | rfl | (simp only [List.length_drop, List.length_take]; rfl)) ?_; (with_reducible refine (quarryref19_first.calls k1 _ _ l1 (rd l0_3 x6_1) 5 5 t124 t125 t126 t127 t128 false _ ?side1 ?side2 A6.out).mono ?_); (case side1 => repeat (first | exact (Kd.C_below HR1.out HB.out) | (with_reducible refine Kd.C_alloc ?_ _) | (with_reducible refine Kd.C_drewN ?_ _) | (with_reducible refine Kd.C_drew ?_))); (case side2 => exact HC1.out); rintro e w16 ⟨rfl, hb⟩; refine ⟨_, rfl, ?_⟩; have n0_ := Aside0.mk (Kd.R_below (by (with_reducible repeat (first | apply Kd.R_alloc | apply Kd.R_drewN | apply Kd.R_drew)); exact HO_5.out) hb); have n1_ := Aside0.mk (blk_below (g := gb122) (o := .cells #[.int .i64 a0_0, .string a0_1, .string a0_2, .slice (some ad123) l0_3.length c0_3, .slice A0_4 l0_4.length c0_4, .bool a0_5] 41 (0, 0)) (bk_ BK122) hb); have n2_ := Aside0.mk (below_step (by repeat (first | (with_reducible first | exact HB.out | apply below_alloc | apply pw_below_drewN | apply below_drew1 | refine below_set ?_ GE122.out) | exact HB.out)) hb); clear HO_5; clear BK122; clear HB; have HO_5 := n0_; have BK122 := n1_; have HB := n2_; clear n0_ n1_ n2_; (try clear hb); (try clear hb2); (try clear hk); (try clear hi)) | ((with_reducible refine gate_dst (N := 7) rfl ?_); refine box_event ?hg (N := 7) ?hd (cs := #[.int .i64 0, .int .i64 0, .int .i64 0, .int .i64 0, .string (⟨#[]⟩ : ByteArray)]) (t := 58) ?hr ?_; (case hd => rfl); (case hg => rfl); (case hr => first | (go_simp; done) | (go_simp; rfl)); intro gb130 hg w17 hbox hb; have n0_ := Aside0.mk (Kd.R_below (by (with_reducible repeat (first | apply Kd.R_alloc | apply Kd.R_drewN | apply Kd.R_drew)); exact HO_5.out) hb); have n1_ := Aside0.mk (blk_below (g := gb122) (o := .cells #[.int .i64 a0_0, .string a0_1, .string a0_2, .slice (some ad123) l0_3.length c0_3, .slice A0_4 l0_4.length c0_4, .bool a0_5] 41 (0, 0)) (bk_ BK122) hb); have n2_ := Aside0.mk (below_step (by repeat (first | (with_reducible first | exact HB.out | apply below_alloc | apply pw_below_drewN | apply below_drew1 | refine below_set ?_ GE122.out) | exact HB.out)) hb); have n3_ := Aside0.mk (hbox); have n4_ := Aside0.mk ((by rw [hg]; exact (below_size (by repeat (first | (with_reducible first | exact HB.out | apply below_alloc | apply pw_below_drewN | apply below_drew1 | refine below_set ?_ GE122.out) | exact HB.out))) : w.heap.size ≤ gb130)); have n5_ := Aside0.mk ((by rw [hg]; exact (below_size (by repeat (first | (with_reducible first | exact HB.out | apply below_alloc | apply pw_below_drewN | apply below_drew1 | refine below_set ?_ GE122.out) | exact HB.out))) : w.heap.size ≤ gb130)); have n6_ := Aside0.mk ((by rw [hg]; exact Nat.ne_of_lt (blk_lt (g := gb122) (o := .cells #[.int .i64 a0_0, .string a0_1, .string a0_2, .slice (some ad123) l0_3.length c0_3, .slice A0_4 l0_4.length c0_4, .bool a0_5] 41 (0, 0)) (bk_ BK122)) : gb122 ≠ gb130)); have n7_ := Aside0.mk ((by rw [hg]; exact Nat.ne_of_gt (blk_lt (g := gb122) (o := .cells #[.int .i64 a0_0, .string a0_1, .string a0_2, .slice (some ad123) l0_3.length c0_3, .slice A0_4 l0_4.length c0_4, .bool a0_5] 41 (0, 0)) (bk_ BK122)) : gb130 ≠ gb122)); clear HO_5; clear BK122; clear HB; have HO_5 := n0_; have BK122 := n1_; have HB := n2_; have BK130 := n3_; have GW130 := n4_; have GE130 := n5_; have NB122_130 := n6_; have NB130_122 := n7_; clear n0_ n1_ n2_ n3_ n4_ n5_ n6_ n7_; clear hb hbox hg; have hnb18 := NB130_122.out; have hnc18 := NB122_130.out; have hcz19_0 : w17.cell? ⟨gb130, 0, none⟩ = some (.int .i64 0) := (blk_cell BK130.out 0).trans rfl; have hcz19_1 : w17.cell? ⟨gb130, 1, none⟩ = some (.int .i64 0) := (blk_cell BK130.out 1).trans rfl; have hcz19_2 : w17.cell? ⟨gb130, 2, none⟩ = some (.int .i64 0) := (blk_cell BK130.out 2).trans rfl; have hcz19_3 : w17.cell? ⟨gb130, 3, none⟩ = some (.int .i64 0) := (blk_cell BK130.out 3).trans rfl; have hcz19_4 : w17.cell? ⟨gb130, 4, none⟩ = some (.string (⟨#[]⟩ : ByteArray)) := (blk_cell BK130.out 4).trans rfl; have hfz19_0 := blk_frozen BK130.out 0; have hfz19_1 := blk_frozen BK130.out 1; have hfz19_2 := blk_frozen BK130.out 2; have hfz19_3 := blk_frozen BK130.out 3; have hfz19_4 := blk_frozen BK130.out 4))
      go_ret
      exact ⟨_, by first | rfl | (simp [errW_none, errW_some] <;> rfl) | (simp [*, errW_none, errW_some] <;> rfl), by (with_reducible repeat (first | apply Kd.R_alloc | apply Kd.R_drewN | apply Kd.R_drew)); exact Kd.R_mono (Kd.R_far (p := ⟨gb130, 4, none⟩) (Kd.R_far (p := ⟨gb130, 3, none⟩) (Kd.R_far (p := ⟨gb130, 2, none⟩) (Kd.R_far (p := ⟨gb130, 1, none⟩) (Kd.R_far (p := ⟨gb130, 0, none⟩) (Kd.R_types HO_5.out BK130.out (by decide)) (fun _ hk => hk.2) (.int .i64 t124)) (fun _ hk => hk.2) (.int .i64 t125)) (fun _ hk => hk.2) (.int .i64 t126)) (fun _ hk => hk.2) (.int .i64 t127)) (fun _ hk => hk.2) (.string t128)) (fun _ hk => trivial), by repeat (first | (with_reducible first | exact HB.out | apply below_alloc | apply pw_below_drewN | apply below_drew1 | refine below_set ?_ GE122.out | refine below_set ?_ GE130.out) | exact HB.out)⟩
    ·rw [if_neg c5] at H
     exact absurd H (by simp)
   ·rw [if_neg c4] at H
    have c4b0 : decide (x6_1 < (l0_3.length : Int)) = false := decide_eq_false c4
    clear c4
    obtain rfl := Option.some.inj H
    have hcz20_0 : wr.cell? ⟨gb122, 0, none⟩ = some (.int .i64 a0_0) := (blk_cell BK122.out 0).trans rfl
    have hcz20_1 : wr.cell? ⟨gb122, 1, none⟩ = some (.string a0_1) := (blk_cell BK122.out 1).trans rfl
    have hcz20_2 : wr.cell? ⟨gb122, 2, none⟩ = some (.string a0_2) := (blk_cell BK122.out 2).trans rfl
    have hcz20_3 : wr.cell? ⟨gb122, 3, none⟩ = some (.slice A0_3 l0_3.length c0_3) := (blk_cell BK122.out 3).trans rfl
    have hcz20_4 : wr.cell? ⟨gb122, 4, none⟩ = some (.slice A0_4 l0_4.length c0_4) := (blk_cell BK122.out 4).trans rfl
    have hcz20_5 : wr.cell? ⟨gb122, 5, none⟩ = some (.bool a0_5) := (blk_cell BK122.out 5).trans rfl
    have hfz20_0 := blk_frozen BK122.out 0
    have hfz20_1 := blk_frozen BK122.out 1
    have hfz20_2 := blk_frozen BK122.out 2
    have hfz20_3 := blk_frozen BK122.out 3
    have hfz20_4 := blk_frozen BK122.out 4
    have hfz20_5 := blk_frozen BK122.out 5
    go_wp2
    go_ret
    exact ⟨_, by first | rfl | (simp [errW_none, errW_some] <;> rfl) | (simp [*, errW_none, errW_some] <;> rfl), by (with_reducible repeat (first | apply Kd.R_alloc | apply Kd.R_drewN | apply Kd.R_drew)); exact HO_5.out, by repeat (first | (with_reducible first | exact HB.out | apply below_alloc | apply pw_below_drewN | apply below_drew1 | refine below_set ?_ GE122.out) | exact HB.out)⟩
end Go.Proofs.Ytmfenomjhmhogaa.P
end

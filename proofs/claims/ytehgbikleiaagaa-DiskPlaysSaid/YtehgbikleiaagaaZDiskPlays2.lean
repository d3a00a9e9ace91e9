/- Laid by a program of this session out of its texts for the law DiskPlays, part 2. -/
import Derived.Shelf.SlMaps.Clone
import Derived.Lib.SliceRun
import Derived.Lib.Slices
import Derived.Laws.StructEq
import Derived.Laws.CopyRow
import Derived.Laws.CopyOwn
import Derived.Laws.Pointers
import Derived.Laws.Entries
import Derived.ArgAppend
import Derived.Test.YtehgbikleiaagaaZDiskPlays1
section
namespace Go.Proofs.Ytehgbikleiaagaa.P
open Go.RowKit Go.Shelf Go.Proofs.YtehgbikleiaagaaW.PrintWords Go.Proofs.YtehgbikleiaagaaW.PrintLast Go.Proofs.YtehgbikleiaagaaW.PrintMore
attribute [local go_sem] max2_int min2_int max_two min_two max_three min_three max_four min_four
set_option linter.unusedVariables false
set_option linter.unusedSimpArgs false
set_option maxHeartbeats 2000000 in
theorem mapsClone_calls (M : Nat) (es : Array MapEntry) (clock : Nat) (w : World) (hb : w.heap[M]? = some (.map es clock)) :
    Calls Try.prog 33 #[.map (some M)] w fun e w' => e = .returned (.map (some w.heap.size)) ∧ w' = w.alloc (.map es clock) := by
  have hq := fun w => run_eql_map_nil_sl (P := Try.prog) w 61 _ _ (some M) u61
  go_enter Try.func33, Try.ntmps33
  go_wp2
  rw [run_callFunc_extern Try.func42 (by kernel_rfl) (by kernel_rfl) (by kernel_rfl) (e := Extern.MapsClone.clone) (by kernel_rfl), run_maps_clone_sl w 61 hb]
  simp only [Result.andThen]
  rw [Oper.upon_value]
  go_wp2
  rw [run_typeAssert_map_sl _ 61 20 _ _ _ u61]
  simp only [Result.andThen]
  rw [Oper.upon_value]
  go_wp2
  go_ret
  exact ⟨rfl, rfl⟩
def clonePending.f (l0 : List (Int × List Int)) : Option (List (Int × List Int)) := if l0.length < 1073741825 then some l0 else none
set_option maxHeartbeats 2000000 in
set_option maxRecDepth 100000 in
theorem clonePending.calls (A0 : Option Addr) (c0 : Nat) (l0 : List (Int × List Int)) (r : List (Int × List Int)) (w : World) (hr0 : Kd.C kp w A0 l0.length l0) (hc0 : l0.length ≤ c0) (h : clonePending.f l0 = some r) :
    Calls Try.prog 34 #[.slice A0 l0.length c0] w fun e w' => ∃ v0_ : Value, e = .returned v0_ ∧ Kd.R kp 69 w' w.heap.size (fun _ => True) v0_ r ∧ Below w.heap.size w w' := by
  unfold clonePending.f at h
  by_cases hl : l0.length < 1073741825
  case neg => rw [if_neg hl] at h; cases h
  rw [if_pos hl] at h
  obtain rfl := Option.some.inj h
  have HR0 := Aside0.mk hr0
  have HC0 := Aside0.mk hc0
  have LM := Aside0.mk hl
  have HB := Aside0.mk (Below.refl w.heap.size w)
  have hnil := fun (W : World) => Lib.run_eql_slice_nil (P := Try.prog) W 62 69 A0 l0.length c0 0 0 Try.underlying62
  cases A0 with
  | none =>
    have hz : l0 = [] := by
      cases l0 with
      | nil => rfl
      | cons x t =>
        obtain ⟨ad, c, e, _⟩ := Kd.C_get hr0 (0, []) 0 (by omega) (by simp)
        cases e
    subst hz
    have hnil1 : ∀ W : World, (binOp .eql 62 (.slice none 0 c0) (.slice none 0 0)).run Try.prog W = .ok (.bool true) W := fun W => hnil W
    clear hr0 hc0 hl h hnil
    go_enter Try.func34, Try.ntmps34
    go_wp2
    go_ret
    exact ⟨_, rfl, Kd.R_nil _ _ _ _ _, Below.refl _ _⟩
  | some ad =>
    have hnil1 : ∀ W : World, (binOp .eql 62 (.slice (some ad) l0.length c0) (.slice none 0 0)).run Try.prog W = .ok (.bool false) W := fun W => hnil W
    clear hr0 hc0 hl h hnil
    go_enter Try.func34, Try.ntmps34
    go_wp2_with (first | ((with_reducible refine gate_dst (N := 5) rfl ?_); refine Kd.R_lit kp _ 69 ?hg (N := 5) ?hd (xs := ([] : List (Int × List Int))) (inner := []) (ok := fun _ => True) (okp := fun _ => True) ?hr ?hp (fun _ hk => hk) trivial (Below.refl _ _) (Nat.le_refl _) (by simp) ?_; (case hd => rfl); (case hg => rfl); (case hr => first | (go_simp; done) | (go_simp; rfl)); (case hp => exact (Reps.none _ _)); intro v249 w13 ho14 hb hg_ hnew_; clear hg_ hnew_; have n0_ := Aside0.mk (Kd.R_lower ho14 (below_size HB.out)); have n1_ := Aside0.mk (below_step HB.out hb); clear HB; have HO := n0_; have HB := n1_; clear n0_ n1_; clear hb ho14) | ((with_reducible refine gate_builtin (b := .append) (xs := #[.tmp 5, .tmp 6]) rfl ?_); at_builtin; refine Kd.R_append_rows kp (w0 := w) w.heap.size rfl (.tmp 5) (.tmp 6) 62 69 (.agg (Value.int .i64 0 :: bvs pgZ).toArray) 520 rfl Try.underlying62 info69 rfl (by decide) (by decide) v249 [] l0 _ _ _ (fun _ => True) (fun _ => False) rfl rfl ?aO ?aR (fun _ _ h => h) (fun _ h => h.elim) ?aF ?aB ?aS ?aL ?_; (case aR => exact Kd.C_below HR0.out HB.out); (case aB => exact HB.out); (case aF => exact (fun _ _ => trivial)); (case aO => exact HO.out); (case aS => exact below_size HB.out); (case aL => have := LM.out; simp; omega); intro v253 w16 ho hb hg hat; rw [List.nil_append] at ho; have n0_ := Aside0.mk hb; have n1_ := Aside0.mk ho; clear HB; clear HO; have HB := n0_; have HO254 := n1_; clear n0_ n1_; clear ho hb hg hat))
    go_ret
    exact ⟨_, rfl, HO254.out, HB.out⟩
end Go.Proofs.Ytehgbikleiaagaa.P
end
section
namespace Go.Proofs.Ytehgbikleiaagaa.P
open Go.RowKit Go.Proofs.YtehgbikleiaagaaW.PrintWords Go.Proofs.YtehgbikleiaagaaW.PrintLast Go.Proofs.YtehgbikleiaagaaW.PrintMore
attribute [local go_sem] max2_int min2_int max_two min_two max_three min_three max_four min_four
set_option linter.unusedVariables false
set_option linter.unusedSimpArgs false
theorem MP.copy {W W' : World} {M M' N : Nat} {f : Int → List Int} (h : MP W M N f) (hb : W'.heap[M']? = W.heap[M]?) : MP W' M' N f := by
  obtain ⟨D, ⟨es, clock, hm, F, hs, hD⟩, h2⟩ := h
  exact ⟨D, ⟨es, clock, hb.trans hm, F, hs, hD⟩, h2⟩
theorem Below.of_drew (W : World) {w4 : World} (h : Below W.drew.heap.size W.drew w4) : Below W.heap.size W w4 := ⟨h.os, h.tape, h.output, h.size, h.block⟩
theorem at_world {P : Program} {c : Code} {Q : Exit → Act → World → Prop} {a : Act} {W : World} (R : World → Prop) (h : R W) (k : ∀ W', R W' → Code.wp P c Q a W') : Code.wp P c Q a W := k W h
set_option maxHeartbeats 2000000 in
set_option maxRecDepth 100000 in
theorem clone_calls {base d M N : Nat} {v : Value} {s : Dk} (w : World) (h : DD w base d M N v s) :
    Calls Try.prog 23 #[dp d] w fun e w' => ∃ d' M' v', e = .returned (dp d') ∧ DD w' w.heap.size d' M' N v' s ∧ Below w.heap.size w w' := by
  obtain ⟨A, c, ev⟩ := Kd.R_slice h.row
  subst ev
  have c0 : w.cell? ⟨d, 0, none⟩ = some (.int .i64 s.pages) := (blk_cell h.blk 0).trans rfl
  have c1 : w.cell? ⟨d, 1, none⟩ = some (.map (some M)) := (blk_cell h.blk 1).trans rfl
  have c2 : w.cell? ⟨d, 2, none⟩ = some (.slice A s.cache.length c) := (blk_cell h.blk 2).trans rfl
  have c3 : w.cell? ⟨d, 3, none⟩ = some (.int .i64 s.left) := (blk_cell h.blk 3).trans rfl
  have c4 : w.cell? ⟨d, 4, none⟩ = some (.bool s.down) := (blk_cell h.blk 4).trans rfl
  have hu := Try.underlying64
  have H := Aside0.mk h
  clear h
  unfold dp
  go_enter Try.func23, Try.ntmps23
  go_upto_region 2 with fail
  refine at_world (fun W => W.heap[w.heap.size]? = some (.cells (dkBlk M (.slice A s.cache.length c) s) 64 (0, 0)) ∧ Below w.heap.size w W) ?start (fun W hI => ?_)
  case start =>
    exact ⟨Deep.blk_alloc_new w _, below_alloc (Below.refl _ _) _⟩
  have HI := Aside0.mk hI
  clear c0 c1 c2 c3 c4 hI
  have hd := H.out.lt
  have hH := H.out.step HI.out.2
  have cd1 : W.cell? ⟨d, 1, none⟩ = some (.map (some M)) := (blk_cell hH.blk 1).trans rfl
  have cd2 : W.cell? ⟨d, 2, none⟩ = some (.slice A s.cache.length c) := (blk_cell hH.blk 2).trans rfl
  obtain ⟨es, clock, hm⟩ := hH.mp.blk
  have HD := Aside0.mk hH
  have HCL : Aside0 (clonePending.f s.cache = some s.cache) := ⟨if_pos (by have := hH.tot; omega)⟩
  have HMB := Aside0.mk hm
  have HMB2 : Aside0 (W.drew.heap[M]? = some (.map es clock)) := ⟨hm⟩
  clear hH hd hm
  refine start_ (n := 14) (S := fun w' => w'.cell? ⟨d, 1, none⟩ = some (.map (some M)) ∧ w'.cell? ⟨d, 2, none⟩ = some (.slice A s.cache.length c)) (ds := [11, 13]) #[false, false, false, false, false, false, false, false, false, false, false, false, false, false] (by kernel_rfl) rfl rfl ⟨cd1, cd2⟩ (fun hHeld => ?_)
  refine pure_ (i := 0) (N := some 7) (v := ?_) (a' := ?_) #[true, false, false, false, false, false, false, false, false, false, false, false, false, false] rfl rfl (by kernel_rfl) (fun _ _ _ h => h) (Or.inl ⟨by rfl, ?_⟩) ?_ ?_
  rotate_left
  · intro w'
    go_simp
    with_reducible rfl
  rotate_left
  · simp only [Act.put, List.setIfInBounds_toArray, List.set_cons_zero, List.set_cons_succ, i64_w, i32_w]
    rfl
  refine pure_ (i := 1) (N := some 8) (v := ?_) (a' := ?_) #[true, true, false, false, false, false, false, false, false, false, false, false, false, false] rfl rfl (by kernel_rfl) (fun _ _ _ h => h) (Or.inl ⟨by rfl, ?_⟩) ?_ ?_
  rotate_left
  · intro w'
    go_simp
    with_reducible rfl
  rotate_left
  · simp only [Act.put, List.setIfInBounds_toArray, List.set_cons_zero, List.set_cons_succ, i64_w, i32_w]
    rfl
  refine pure_ (i := 2) (N := some 9) (v := ?_) (a' := ?_) #[true, true, true, false, false, false, false, false, false, false, false, false, false, false] rfl rfl (by kernel_rfl) (fun _ _ _ h => h) (Or.inl ⟨by rfl, ?_⟩) ?_ ?_
  rotate_left
  · intro w'
    go_simp
    with_reducible rfl
  rotate_left
  · simp only [Act.put, List.setIfInBounds_toArray, List.set_cons_zero, List.set_cons_succ, i64_w, i32_w]
    rfl
  refine pure_ (i := 5) (N := some 12) (v := ?_) (a' := ?_) #[true, true, true, false, false, true, false, false, false, false, false, false, false, false] rfl rfl (by kernel_rfl) (fun _ _ _ h => h) (Or.inl ⟨by rfl, ?_⟩) ?_ ?_
  rotate_left
  · intro w'
    go_simp
    with_reducible rfl
  rotate_left
  · simp only [Act.put, List.setIfInBounds_toArray, List.set_cons_zero, List.set_cons_succ, i64_w, i32_w]
    rfl
  refine pure_ (i := 6) (N := some 13) (v := ?_) (a' := ?_) #[true, true, true, false, false, true, true, false, false, false, false, false, false, false] rfl rfl (by kernel_rfl) (fun _ _ _ h => h) (Or.inl ⟨by rfl, ?_⟩) ?_ ?_
  rotate_left
  · intro w'
    go_simp
    with_reducible rfl
  rotate_left
  · simp only [Act.put, List.setIfInBounds_toArray, List.set_cons_zero, List.set_cons_succ, i64_w, i32_w]
    rfl
  refine pure_ (i := 7) (N := some 14) (v := ?_) (a' := ?_) #[true, true, true, false, false, true, true, true, false, false, false, false, false, false] rfl rfl (by kernel_rfl) (fun _ _ _ h => h) (Or.inl ⟨by rfl, ?_⟩) ?_ ?_
  rotate_left
  · intro w'
    go_simp
    with_reducible rfl
  rotate_left
  · simp only [Act.put, List.setIfInBounds_toArray, List.set_cons_zero, List.set_cons_succ, i64_w, i32_w]
    rfl
  refine take_ (i := 3) (N := some 10) (v := ?_) (a' := ?_) #[true, true, true, true, false, true, true, true, false, false, false, false, false, false] rfl rfl (by kernel_rfl) (fun _ _ _ h => h) (Or.inl ⟨by rfl, ?_⟩) hHeld ?_ ?_
  rotate_left
  · rintro w' ⟨s0, s1⟩
    go_simp
    with_reducible rfl
  rotate_left
  · simp only [Act.put, List.setIfInBounds_toArray, List.set_cons_zero, List.set_cons_succ, i64_w, i32_w]
    rfl
  refine take_ (i := 8) (N := some 15) (v := ?_) (a' := ?_) #[true, true, true, true, false, true, true, true, true, false, false, false, false, false] rfl rfl (by kernel_rfl) (fun _ _ _ h => h) (Or.inl ⟨by rfl, ?_⟩) hHeld ?_ ?_
  rotate_left
  · rintro w' ⟨s0, s1⟩
    go_simp
    with_reducible rfl
  rotate_left
  · simp only [Act.put, List.setIfInBounds_toArray, List.set_cons_zero, List.set_cons_succ, i64_w, i32_w]
    rfl
  refine one_ (i := 4) (N := some 11) #[true, true, true, true, true, true, true, true, true, false, false, false, false, false] rfl rfl (by kernel_rfl) (by decide) (fun K hK => ?_)
  refine goes_ Try.func33 (by kernel_rfl) rfl #[.map (some M)] (by rfl) rfl rfl (by simp only [List.map_toArray, List.map_cons, List.map_nil]; rfl) ?_
  with_reducible refine (mapsClone_calls M es clock W.drew HMB2.out).mono ?_
  rintro e w3 ⟨rfl, rfl⟩
  refine ⟨_, rfl, ?_⟩
  have HB3 := Aside0.mk (Below.alloc (Below.refl W.drew.heap.size W.drew) (Nat.le_refl _) (.map es clock))
  have HB3w := Aside0.mk (Below.of_drew W HB3.out)
  refine hK.out _ _ ⟨(World.cell?_of_block (HB3.out.block d HD.out.lt)).trans cd1, (World.cell?_of_block (HB3.out.block d HD.out.lt)).trans cd2⟩ (fun hHeld => ?_)
  clear hK K
  refine norm_ (a' := ?_) ?_ ?_
  rotate_left
  · show Act.put _ (some 11) _ = _
    simp only [Act.put, List.setIfInBounds_toArray, List.set_cons_zero, List.set_cons_succ, i64_w, i32_w]
    rfl
  refine one_ (i := 9) (N := some 16) #[true, true, true, true, true, true, true, true, true, true, false, false, false, false] rfl rfl (by kernel_rfl) (by decide) (fun K hK => ?_)
  refine goes_ Try.func34 (by kernel_rfl) rfl #[.slice A s.cache.length c] (by rfl) rfl rfl (by simp only [List.map_toArray, List.map_cons, List.map_nil]; rfl) ?_
  with_reducible refine (clonePending.calls A c s.cache s.cache (W.drew.alloc (.map es clock)) (Kd.C_below (Kd.R_reads' HD.out.row).2.2 HB3w.out) (Kd.R_reads' HD.out.row).2.1 HCL.out).mono ?_
  rintro e w4 ⟨v4, rfl, hR, hb4⟩
  refine ⟨_, rfl, ?_⟩
  obtain ⟨A4, k4, e4⟩ := Kd.R_slice hR
  subst e4
  have HE4 := Aside0.mk (And.intro hR hb4)
  clear hR hb4
  have hy := Aside0.mk (blk_below (blk_below HI.out.1 HB3w.out) HE4.out.2)
  have ey1 : w4.cell? ⟨w.heap.size, 1, none⟩ = some (.map (some M)) := (blk_cell hy.out 1).trans rfl
  have ey2 : w4.cell? ⟨w.heap.size, 2, none⟩ = some (.slice A s.cache.length c) := (blk_cell hy.out 2).trans rfl
  have fy1 := blk_frozen hy.out 1
  have fy2 := blk_frozen hy.out 2
  refine hK.out _ _ ⟨(World.cell?_of_block (HE4.out.2.block d (Nat.lt_of_lt_of_le HD.out.lt HB3.out.size))).trans ((World.cell?_of_block (HB3.out.block d HD.out.lt)).trans cd1), (World.cell?_of_block (HE4.out.2.block d (Nat.lt_of_lt_of_le HD.out.lt HB3.out.size))).trans ((World.cell?_of_block (HB3.out.block d HD.out.lt)).trans cd2)⟩ (fun hHeld => ?_)
  clear hK K
  refine norm_ (a' := ?_) ?_ ?_
  rotate_left
  · show Act.put _ (some 16) _ = _
    simp only [Act.put, List.setIfInBounds_toArray, List.set_cons_zero, List.set_cons_succ, i64_w, i32_w]
    rfl
  refine pure_ (i := 10) (N := some 17) (v := ?_) (a' := ?_) #[true, true, true, true, true, true, true, true, true, true, true, false, false, false] rfl rfl (by kernel_rfl) (fun _ _ _ h => h) (Or.inl ⟨by rfl, ?_⟩) ?_ ?_
  rotate_left
  · intro w'
    go_simp
    with_reducible rfl
  rotate_left
  · simp only [Act.put, List.setIfInBounds_toArray, List.set_cons_zero, List.set_cons_succ, i64_w, i32_w]
    rfl
  refine last_ (i := 11) (N := none) #[true, true, true, true, true, true, true, true, true, true, true, true, false, false] rfl rfl (by kernel_rfl) (by decide) (fun K hK => ?_)
  refine skip_ (w1 := ?_) (by rfl) rfl ?_ ?_
  rotate_left
  · go_simp
    rfl
  refine hK.out _ _ ?_
  clear hK K
  refine pure_ (i := 12) (N := some 18) (v := ?_) (a' := ?_) #[true, true, true, true, true, true, true, true, true, true, true, true, true, false] rfl rfl (by kernel_rfl) (fun _ _ _ h => h) (Or.inl ⟨by rfl, ?_⟩) ?_ ?_
  rotate_left
  · intro w'
    go_simp
    with_reducible rfl
  rotate_left
  · simp only [Act.put, List.setIfInBounds_toArray, List.set_cons_zero, List.set_cons_succ, i64_w, i32_w]
    rfl
  refine last_ (i := 13) (N := none) #[true, true, true, true, true, true, true, true, true, true, true, true, true, true] rfl rfl (by kernel_rfl) (by decide) (fun K hK => ?_)
  refine skip_ (w1 := ?_) (by rfl) rfl ?_ ?_
  rotate_left
  · go_simp
    rfl
  refine hK.out _ _ ?_
  clear hK K
  refine done_ (by kernel_rfl) ?_
  have HE : Aside0 (DD ((w4.setCell ⟨w.heap.size, 1, none⟩ (.map (some W.drew.heap.size))).setCell ⟨w.heap.size, 2, none⟩ (.slice A4 s.cache.length k4)) w.heap.size w.heap.size W.drew.heap.size N (.slice A4 s.cache.length k4) s ∧ Below w.heap.size w ((w4.setCell ⟨w.heap.size, 1, none⟩ (.map (some W.drew.heap.size))).setCell ⟨w.heap.size, 2, none⟩ (.slice A4 s.cache.length k4))) := by
    have hlt := blk_lt HI.out.1
    have hne : W.drew.heap.size ≠ w.heap.size := fun e => absurd (show w.heap.size < W.drew.heap.size from hlt) (by omega)
    have b1 := blk_put hy.out 1 (.map (some W.drew.heap.size)) rfl
    have hb4 : Below W.drew.heap.size W.drew w4 := HB3.out.trans (HE4.out.2.mono HB3.out.size)
    refine ⟨⟨{ bd := Nat.le_refl _, bm := Nat.le_of_lt hlt, blk := blk_put b1 2 _ rfl, mp := ?_, row := ?_, tot := HD.out.tot, p1 := HD.out.p1, p2 := HD.out.p2, l512 := HD.out.l512, c512 := HD.out.c512, lf := HD.out.lf }, ?_⟩⟩
    · refine HD.out.mp.copy ?_
      refine (Below.heap_setCell _ _ _ _ hne).trans ((Below.heap_setCell _ _ _ _ hne).trans ((HE4.out.2.block _ ?_).trans ((Deep.blk_alloc_new W.drew _).trans HMB.out.symm)))
      exact blk_lt (Deep.blk_alloc_new W.drew (.map es clock))
    · have r0 := Kd.R_lower (base' := w.heap.size) HE4.out.1 (Nat.le_trans (Nat.le_of_lt hlt) HB3.out.size)
      have r1 := Kd.R_mono (ok' := fun _ => True) (Kd.R_far (p := ⟨w.heap.size, 1, none⟩) (Kd.R_types r0 hy.out (by rw [kp_E]; decide)) (fun _ hk => hk.2) (.map (some W.drew.heap.size))) (fun _ _ => trivial)
      exact Kd.R_mono (Kd.R_far (p := ⟨w.heap.size, 2, none⟩) (Kd.R_types r1 b1 (by rw [kp_E]; decide)) (fun _ hk => hk.2) _) (fun _ _ => trivial)
    · exact ((HI.out.2.trans ((Below.of_drew W hb4).mono (Nat.le_of_lt hlt))).setCell (Nat.le_refl _) _).setCell (Nat.le_refl _) _
  go_wp2
  go_ret
  exact ⟨_, _, _, rfl, HE.out.1, HE.out.2⟩
end Go.Proofs.Ytehgbikleiaagaa.P
end
section
namespace Go.Proofs.Ytehgbikleiaagaa.P
open Go.RowKit Go.Proofs.YtehgbikleiaagaaW.PrintWords Go.Proofs.YtehgbikleiaagaaW.PrintLast Go.Proofs.YtehgbikleiaagaaW.PrintMore
attribute [local go_sem] max2_int min2_int max_two min_two max_three min_three max_four min_four
set_option linter.unusedVariables false
set_option linter.unusedSimpArgs false
theorem info5 : (Try.prog.info? 5).map (fun i => (i.zero, i.size, i.bytes)) = some (some (.int .u8 0), 1, 1) := by kernel_rfl
theorem info3 : (Try.prog.info? 3).map (fun i => (i.zero, i.size, i.bytes)) = some (some (.int .i64 0), 1, 8) := by kernel_rfl
def imageP (s : Dk) (k : Nat) : List Int := (List.range k).flatMap (fun (i : Nat) => hasP s (i : Int))
theorem imageP_succ (s : Dk) (k : Nat) : imageP s (k + 1) = imageP s k ++ hasP s (k : Int) := by
  unfold imageP
  rw [List.range_succ, List.flatMap_append]
  simp
theorem imageP_len {s : Dk} (hl : ∀ i, (s.last i).length = 512) (hc : ∀ x ∈ s.cache, x.2.length = 512) : ∀ k, (imageP s k).length = k * 512 := by
  intro k
  induction k with
  | zero => simp [imageP]
  | succ k ih => rw [imageP_succ, List.length_append, ih, hasP_len hl hc, Nat.succ_mul]
theorem c_bytes {W : World} {g : Nat} {t : TypeId} {p : List Int} (h : W.heap[g]? = some (.cells (bvs p).toArray t (0, 0))) (hl : p.length ≤ 9223372036854775807) : Kd.C (Kd.int .u8) W (some ⟨g, 0, none⟩) p.length p := by
  refine ⟨rfl, hl, fun _ => ⟨⟨g, 0, none⟩, rfl, fun j x hj => ⟨[.int .u8 x], rfl, rfl, fun i u hi => ?_⟩⟩⟩
  cases i with
  | zero =>
    obtain rfl : Value.int .u8 x = u := by simpa using hi
    show W.cell? ((⟨g, 0, none⟩ : Addr).add (j * 1 + 0)) = _
    rw [Addr.add_mid, Nat.zero_add, Nat.mul_one, Nat.add_zero]
    refine (blk_cell h j).trans ?_
    simp [bvs, hj]
  | succ i => simp at hi
set_option maxHeartbeats 4000000 in
set_option maxRecDepth 100000 in
theorem image_calls {base d M N : Nat} {v : Value} {s : Dk} (w : World) (h : DD w base d M N v s) :
    Calls Try.prog 21 #[dp d] w fun e w' => ∃ v', e = .returned v' ∧ Kd.R (Kd.int .u8) 5 w' w.heap.size (fun _ => True) v' (imageP s s.pages.toNat) ∧ Below w.heap.size w w' := by
  have c0 : w.cell? ⟨d, 0, none⟩ = some (.int .i64 s.pages) := (blk_cell h.blk 0).trans rfl
  have H := Aside0.mk h
  obtain ⟨m, hm⟩ : ∃ m : Nat, s.pages = (m : Int) := ⟨s.pages.toNat, by have := h.p1; omega⟩
  have hm2 : m ≤ 4096 := by have := h.p2; omega
  rw [hm] at c0 ⊢
  rw [Int.toNat_natCast]
  obtain ⟨zp, hzp⟩ : ∃ zp : Array Value, zp = (bvs pgZ).toArray := ⟨_, rfl⟩
  have hz : ∀ w, (zeroValue 67).run Try.prog w = .ok (.agg zp) w := fun w => by rw [hzp]; exact zero67 w
  have HZ := Aside0.mk (show zp.size = 512 by rw [hzp, List.size_toArray, bvs_len, pgZ_len])
  have HMM := Aside0.mk (And.intro hm hm2)
  have HO0 := Aside0.mk (Kd.R_nil (Kd.int .u8) 5 w w.heap.size (fun _ => True))
  have HB0 := Aside0.mk (Below.refl w.heap.size w)
  clear hzp h hm hm2
  unfold dp
  go_enter Try.func21, Try.ntmps21
  go_wp2_with fail
  go_loopw [3, 10] (fun v3 v10 wr => ∃ k : Nat, v10 = .int .i64 (k : Int) ∧ k ≤ m ∧ Aside0 (Kd.R (Kd.int .u8) 5 wr w.heap.size (fun _ => True) v3 (imageP s k)) ∧ Aside0 (Below w.heap.size w wr)) (fun _ v10 _ => m - (intOf v10).toNat)
  case atStart => exact ⟨0, rfl, Nat.zero_le _, HO0, HB0⟩
  case round =>
    clear HO0 HB0
    obtain ⟨k, rfl, hk, HO, HB⟩ := hrel
    have HL5 := Aside0.mk (hasP_len H.out.l512 (fun x hx => (H.out.c512 x hx).1) (k : Int))
    have HIL := Aside0.mk (imageP_len H.out.l512 (fun x hx => (H.out.c512 x hx).1) k)
    by_cases hlt : k < m
    · have hhas := has_calls (k : Int) (by omega) (by rw [HMM.out.1]; omega) wr (H.out.step HB.out)
      have hst : ∀ W : World, (storeCells ⟨W.heap.size, 0, none⟩ (bvs (hasP s (k : Int))).toArray.toList 0).run Try.prog (W.alloc (.cells zp 67)) = .ok () (W.alloc (.cells (bvs (hasP s (k : Int))).toArray 67)) := fun W =>
        run_storeCells_new W 67 zp _ (by rw [s67, List.size_toArray, bvs_len, HL5.out]) (by rw [HZ.out, List.size_toArray, bvs_len, HL5.out]) (one_bvs _)
      have hps : (bvs (hasP s (k : Int))).toArray.size = 512 := by rw [List.size_toArray, bvs_len, HL5.out]
      unfold pgV dp at hhas
      generalize hpe : (bvs (hasP s (k : Int))).toArray = pg at hhas hst hps
      have HPE := Aside0.mk hpe
      have b0 : decide (k < m) = true := decide_eq_true hlt
      have b1 : decide ((k : Int) < (m : Int)) = true := decide_eq_true (by omega)
      have HK := Aside0.mk hlt
      have hm4 : m ≤ 4096 := HMM.out.2
      obtain ⟨A3, c3, e3⟩ := Kd.R_slice HO.out
      subst e3
      clear hpe hlt
      go_upto_region 6 with (go_at_call 32; refine hhas.mono ?_; rintro e w2 ⟨rfl, hb2⟩)
      have HB2 := Aside0.mk (below_alloc (below_step HB.out hb2) (.cells pg 67))
      have HO2 := Aside0.mk (Kd.R_alloc (Kd.R_below HO.out hb2) (.cells pg 67))
      have hpb := Deep.blk_alloc_new w2 (.cells pg 67)
      rw [← HPE.out] at hpb
      have HC2 := Aside0.mk (c_bytes hpb (by rw [HL5.out]; decide))
      clear hb2 hpb hhas hst
      have HC3 : Aside0 (Kd.C (Kd.int .u8) (w2.alloc (.cells pg 67)) (some ⟨w2.heap.size, 0, none⟩) 512 (hasP s (k : Int))) := ⟨by have := HC2.out; rw [HPE.out, HL5.out] at this; exact this⟩
      clear HC2 HPE
      go_wp2_with (first | ((with_reducible refine gate_builtin (b := .append) (xs := #[.tmp 16, .tmp 17]) rfl ?_); at_builtin; refine Kd.R_append_rows (Kd.int .u8) (w0 := w) w.heap.size rfl (.tmp 16) (.tmp 17) 30 5 (.int .u8 0) 1 rfl Try.underlying30 info5 rfl (by decide) (by decide) (.slice A3 (imageP s k).length c3) (imageP s k) (hasP s (k : Int)) (some ⟨w2.heap.size, 0, none⟩) 512 512 (fun _ => True) (fun _ => False) rfl rfl ?aO ?aR (fun _ _ h => h) (fun _ h => h.elim) ?aF ?aB ?aS ?aL ?_; (case aR => exact HC3.out); (case aB => exact HB2.out); (case aF => exact (fun _ _ => trivial)); (case aO => exact HO2.out); (case aS => exact below_size HB2.out); (case aL => have := HIL.out; have := HMM.out.2; have := HK.out; omega); intro v253 w16 ho hb hg hat; have HE := Aside0.mk (And.intro ho hb); clear ho hb hg hat))
      go_roundw
      case rel => exact ⟨k + 1, by go_num, HK.out, ⟨by rw [imageP_succ]; exact HE.out.1⟩, ⟨HE.out.2⟩⟩
      case measure => have := HK.out; simp [intOf]; omega
    · obtain rfl : k = m := by omega
      have b0 : decide (k < k) = false := decide_eq_false (by omega)
      have b1 : decide ((k : Int) < (k : Int)) = false := decide_eq_false (by omega)
      clear hlt hk
      go_wp2
      go_ret
      exact ⟨_, rfl, HO.out, HB.out⟩
end Go.Proofs.Ytehgbikleiaagaa.P
end
section
namespace Go.Proofs.Ytehgbikleiaagaa.P
open Go.RowKit Go.Proofs.YtehgbikleiaagaaW.PrintWords Go.Proofs.YtehgbikleiaagaaW.PrintLast Go.Proofs.YtehgbikleiaagaaW.PrintMore
attribute [local go_sem] max2_int min2_int max_two min_two max_three min_three max_four min_four
set_option linter.unusedVariables false
set_option linter.unusedSimpArgs false
def pendP (s : Dk) (k : Nat) : List Int := (s.cache.take k).map (·.1)
theorem DD.elem {w wr : World} {base d M N : Nat} {v : Value} {s : Dk} (h : DD w base d M N v s) (k : Nat) (hk : k < s.cache.length) : ∃ (x : PE) (g c : Nat), v = .slice (some ⟨g, 0, none⟩) s.cache.length c ∧ s.cache[k] = x.1 ∧ FD d M v g ∧ g ≠ M ∧
    ∀ wr : World, wr.heap[g]? = w.heap[g]? → (Instr.loadAt 69 (.pointer (some ⟨g, k * 513, none⟩))).run Try.prog wr = .ok (.agg (peV x.1).toArray) wr := by
  obtain ⟨xs, hxs⟩ := pes_of s.cache (fun x hx => (h.c512 x hx).1)
  have hlen : xs.length = s.cache.length := by rw [← hxs]; simp
  have hkx : k < xs.length := by rw [hlen]; exact hk
  rcases pes_row h.row hxs with ⟨_, e⟩ | ⟨g, cap, e, hg, hcs⟩
  · rw [e] at hkx
    exact absurd hkx (Nat.not_lt_zero k)
  · refine ⟨xs.getD k zPE, g, cap, by rw [e, hlen], ?_, ?_, ?_, ?_⟩
    · rw [List.getD_eq_getElem?_getD, List.getElem?_eq_getElem hkx, Option.getD_some]
      simp only [← hxs, List.getElem_map]
    · exact .inr (.inr (by rw [e]; rfl))
    · intro e2
      obtain ⟨es, clock, hm⟩ := h.mp.blk
      have := hcs k hkx 0 (.int .i64 (xs.getD k zPE).1.1) rfl
      rw [e2] at this
      simp [World.cell?, hm] at this
    · intro W hW
      refine run_loadAt_mid W g (k * 513) 69 _ _ (fun j u hj => ?_) Try.underlying69 rfl (by rw [s69]; exact (congrArg some (by have := sz_peV (xs.getD k zPE); simpa using this)).symm)
      exact (World.cell?_of_block hW).trans (hcs k hkx j u hj)
set_option maxHeartbeats 4000000 in
set_option maxRecDepth 100000 in
theorem pending_calls {base d M N : Nat} {v : Value} {s : Dk} (w : World) (h : DD w base d M N v s) :
    Calls Try.prog 18 #[dp d] w fun e w' => ∃ v', e = .returned v' ∧ Kd.R (Kd.int .i64) 3 w' w.heap.size (fun _ => True) v' (s.cache.map (·.1)) ∧ Below w.heap.size w w' := by
  obtain ⟨A, c, ev⟩ := Kd.R_slice h.row
  subst ev
  have c2 : w.cell? ⟨d, 2, none⟩ = some (.slice A s.cache.length c) := (blk_cell h.blk 2).trans rfl
  have H := Aside0.mk h
  have HT := Aside0.mk h.tot
  obtain ⟨zq, hzq⟩ : ∃ zq : Array Value, zq = (Value.int .i64 0 :: bvs pgZ).toArray := ⟨_, rfl⟩
  have hz9 : ∀ w, (zeroValue 69).run Try.prog w = .ok (.agg zq) w := fun w => by rw [hzq]; exact zero69 w
  have HQ := Aside0.mk (show zq.size = 513 by rw [hzq, List.size_toArray, List.length_cons, bvs_len, pgZ_len])
  have HO0 := Aside0.mk (Kd.R_nil (Kd.int .i64) 3 w w.heap.size (fun _ => True))
  have HB0 := Aside0.mk (Below.refl w.heap.size w)
  clear hzq h
  unfold dp
  go_enter Try.func18, Try.ntmps18
  go_wp2_with fail
  go_loopw [3, 11] (fun v3 v11 wr => ∃ k : Nat, v11 = .int .i64 (k : Int) ∧ k ≤ s.cache.length ∧ Aside0 (Kd.R (Kd.int .i64) 3 wr w.heap.size (fun _ => True) v3 (pendP s k)) ∧ Aside0 (Below w.heap.size w wr)) (fun _ v11 _ => s.cache.length - (intOf v11).toNat)
  case atStart => exact ⟨0, rfl, Nat.zero_le _, HO0, HB0⟩
  case round =>
    clear HO0 HB0
    obtain ⟨k, rfl, hk, HO, HB⟩ := hrel
    by_cases hlt : k < s.cache.length
    · obtain ⟨x, g, c', e, hxc, hfd, hgM, hld0⟩ := H.out.elem (wr := wr) k hlt
      injection e with eA eL ec
      subst eA ec
      clear eL
      have hg := H.out.fd_lt hfd
      have hld := hld0 wr (HB.out.block g hg)
      have HPS : Aside0 (pendP s (k + 1) = pendP s k ++ [x.1.1]) := ⟨by unfold pendP; rw [List.take_add_one, List.getElem?_eq_getElem hlt, Option.toList_some, List.map_append, hxc]; rfl⟩
      have hst : (storeCells ⟨wr.heap.size, 0, none⟩ (peV x.1).toArray.toList 0).run Try.prog (wr.alloc (.cells zq 69)) = .ok () (wr.alloc (.cells (peV x.1).toArray 69)) :=
        run_storeCells_new wr 69 zq _ (by rw [s69]; exact (congrArg some (sz_peV x)).symm) (by rw [HQ.out]; exact (sz_peV x).symm) (one_peV _)
      have hsz5 : (peV x.1).toArray.size = 513 := sz_peV x
      have cx0 : (wr.alloc (.cells (peV x.1).toArray 69)).cell? ⟨wr.heap.size, 0, none⟩ = some (.int .i64 x.1.1) := (blk_cell (Deep.blk_alloc_new wr _) 0).trans rfl
      have HK := Aside0.mk hlt
      have HPL : Aside0 ((pendP s k).length = k) := ⟨by unfold pendP; rw [List.length_map, List.length_take]; omega⟩
      have hkb : k < 1073741824 := by have := HT.out; omega
      obtain ⟨A3, c3, e3⟩ := Kd.R_slice HO.out
      subst e3
      have b0 : decide (k < s.cache.length) = true := decide_eq_true hlt
      have b1 : decide ((k : Int) < (s.cache.length : Int)) = true := decide_eq_true (by omega)
      have b2 : (k < s.cache.length) = True := eq_true hlt
      have b3 : ((k : Int) < (s.cache.length : Int)) = True := eq_true (by omega)
      generalize hpe : (peV x.1).toArray = pe at hld hst hsz5 cx0
      have HB2 := Aside0.mk (below_alloc HB.out (.cells pe 69))
      have HO2 := Aside0.mk (Kd.R_alloc HO.out (.cells pe 69))
      clear hpe hlt hk hxc hld0 hfd
      go_upto_region 5 with (refine wp_load_eq 69 _ rfl hld ?_)
      go_wp2_with (first | ((with_reducible refine gate_builtin (b := .append) (xs := #[.tmp 15, .tmp 18]) rfl ?_); at_builtin; refine Kd.R_append (Kd.int .i64) (w0 := w) (W := wr.alloc (.cells pe 69)) w.heap.size rfl (.tmp 15) (.tmp 18) 41 3 (.int .i64 0) 8 rfl Try.underlying41 info3 rfl (by decide) (by decide) (.slice A3 (pendP s k).length c3) (pendP s k) x.1.1 [.int .i64 x.1.1] (fun _ => True) (fun _ => False) rfl (by rw [World.size_alloc]; rfl) ?aP (fun _ hk => hk.elim) ?aF ?aO ?aB ?aS ?aL ?_; (case aP => exact rfl); (case aB => exact HB2.out); (case aF => exact (fun _ _ => trivial)); (case aO => exact HO2.out); (case aS => exact below_size HB2.out); (case aL => have := HPL.out; have := HT.out; have := HK.out; omega); intro v204 w16 ho hb hg hat; have HE := Aside0.mk (And.intro ho hb); clear ho hb hg hat))
      go_roundw
      case rel => exact ⟨k + 1, by go_num, HK.out, ⟨by rw [HPS.out]; exact HE.out.1⟩, ⟨HE.out.2⟩⟩
      case measure => have := HK.out; simp [intOf]; omega
    · have hke : k = s.cache.length := by omega
      subst hke
      have b0 : decide (s.cache.length < s.cache.length) = false := decide_eq_false (by omega)
      have b1 : decide ((s.cache.length : Int) < (s.cache.length : Int)) = false := decide_eq_false (by omega)
      have HO2 : Aside0 (Kd.R (Kd.int .i64) 3 wr w.heap.size (fun _ => True) u3 (s.cache.map (·.1))) := ⟨by have := HO.out; unfold pendP at this; rwa [List.take_length] at this⟩
      clear hlt hk
      go_wp2
      go_ret
      exact ⟨_, rfl, HO2.out, HB.out⟩
end Go.Proofs.Ytehgbikleiaagaa.P
end
section
namespace Go.Proofs.Ytehgbikleiaagaa.P
open Go.RowKit Go.Proofs.YtehgbikleiaagaaW.PrintWords Go.Proofs.YtehgbikleiaagaaW.PrintLast Go.Proofs.YtehgbikleiaagaaW.PrintMore
attribute [local go_sem] max2_int min2_int max_two min_two max_three min_three max_four min_four
set_option linter.unusedVariables false
set_option linter.unusedSimpArgs false
def pageN (long : Bool) : Nat := if long = true then 513 else 512
def pageP (fill : Int) (B : List Int) (long : Bool) : List Int := B.take (min B.length (pageN long)) ++ (List.replicate (pageN long) fill).drop (min B.length (pageN long))
theorem pageP_len (fill : Int) (B : List Int) (long : Bool) : (pageP fill B long).length = pageN long := by
  unfold pageP
  simp
  omega
def opV (kd n fill : Int) (Bv : Value) (long : Bool) (Kv : Value) (torn cut : Int) : Value := .agg #[.int .i64 kd, .int .i64 n, .int .u8 fill, Bv, .bool long, Kv, .int .i64 torn, .int .i64 cut]
def PI (w : World) (cs : Array Value) (u : Value) (xs : List Int) (W : World) : Prop :=
  W.heap[w.heap.size]? = some (.cells cs 32 (0, 0)) ∧ Kd.R (Kd.int .u8) 5 W w.heap.size (fun _ => True) u xs ∧ Below w.heap.size w W
section
variable {w W : World} {cs : Array Value} {g m cap : Nat} {xs : List Int}
theorem PI.set (h : PI w cs (.slice (some ⟨g, 0, none⟩) m cap) xs W) (k : Nat) (x : Int) : PI w cs (.slice (some ⟨g, 0, none⟩) m cap) (xs.set k x) (W.setCell ⟨g, k, none⟩ (.int .u8 x)) := by
  have hne : w.heap.size ≠ g := fun e => Kd.R_ne h.2.1 h.1 (by decide) (by rw [e]; rfl)
  have hp := Kd.R_putn h.2.1 (k : Int) x
  rw [Int.toNat_natCast] at hp
  exact ⟨blk_far h.1 hne _, hp, below_set h.2.2 (Kd.R_base h.2.1 g rfl)⟩
theorem PI.cell (h : PI w cs (.slice (some ⟨g, 0, none⟩) m cap) xs W) (k : Nat) (hk : k < m) : W.cell? ⟨g, k, none⟩ = some (.int .u8 (rdOf 0 xs (k : Int))) ∧ W.frozen? ⟨g, k, none⟩ = false := by
  have := Kd.R_celln 0 h.2.1 (k : Int) (by omega) (by omega)
  rwa [Int.toNat_natCast] at this
end
set_option maxHeartbeats 4000000 in
set_option maxRecDepth 100000 in
theorem page_one (long : Bool) (m : Nat) (hm : m = pageN long) (kd n fill : Int) (A : Option Addr) (c : Nat) (B : List Int) (A2 : Option Addr) (m2 c2 : Nat) (torn cut : Int) (w : World) (hr : Kd.C (Kd.int .u8) w A B.length B) :
    Calls Try.prog 11 #[opV kd n fill (.slice A B.length c) long (.slice A2 m2 c2) torn cut] w fun e w' => ∃ v', e = .returned v' ∧ Kd.R (Kd.int .u8) 5 w' w.heap.size (fun _ => True) v' (pageP fill B long) ∧ Below w.heap.size w w' := by
  have HMM := Aside0.mk hm
  have HR := Aside0.mk hr
  have hm5 : m ≤ 513 := by rw [hm]; unfold pageN; split <;> omega
  obtain ⟨cs, hcs⟩ : ∃ cs : Array Value, cs = #[.int .i64 kd, .int .i64 n, .int .u8 fill, .slice A B.length c, .bool long, .slice A2 m2 c2, .int .i64 torn, .int .i64 cut] := ⟨_, rfl⟩
  have hbx := Deep.blk_alloc_new w (.cells #[.int .i64 kd, .int .i64 n, .int .u8 fill, .slice A B.length c, .bool long, .slice A2 m2 c2, .int .i64 torn, .int .i64 cut] 32)
  have x4 : World.cell? _ ⟨w.heap.size, 4, none⟩ = some (.bool long) := (blk_cell hbx 4).trans rfl
  have HBX := Aside0.mk hbx
  have HB0 := Aside0.mk (below_alloc (Below.refl w.heap.size w) (.cells #[.int .i64 kd, .int .i64 n, .int .u8 fill, .slice A B.length c, .bool long, .slice A2 m2 c2, .int .i64 torn, .int .i64 cut] 32))
  rw [← hcs] at hbx x4 HB0 HBX
  have HCS := Aside0.mk hcs
  clear hm hr hbx
  unfold opV
  rw [← hcs]
  clear hcs
  go_enter Try.func11, Try.ntmps11
  cases long with
  | false =>
    have hm0 : m = 512 := HMM.out
    subst hm0
    go_upto_region 5 with ((with_reducible refine gate_dst (N := 9) rfl ?_); refine Kd.R_make (Kd.int .u8) (w0 := w) w.heap.size 5 rfl (N := 9) rfl 30 _ _ rfl 512 rfl rfl Try.underlying30 (.int .u8 0) 1 info5 rfl (by decide) (by decide) 0 (ok := fun _ => True) (okp := fun _ => False) rfl (fun _ h => h.elim) trivial (by decide) (by decide) HB0.out (below_size HB0.out) ?_; intro v9 w9 ho hb hg hn; obtain ⟨g, cap, e9, _, _, _⟩ := Kd.R_form ho (by rw [List.length_replicate]; decide); rw [List.length_replicate] at e9; subst e9; have HP := Aside0.mk (show PI w cs _ _ w9 from ⟨blk_grown HBX.out hg (by simp), ho, hb⟩); clear ho hb hg hn)
    have HX := HCS
    clear x4
    go_wp2_with fail
    go_loopw [5] (fun v5 wr => ∃ (k : Nat) (xs : List Int), v5 = .int .i64 (k : Int) ∧ k ≤ 512 ∧ Aside0 (PI w cs (.slice (some ⟨g, 0, none⟩) 512 cap) xs wr ∧ xs.length = 512 ∧ ∀ j, j < k → xs[j]? = some fill)) (fun v5 _ => 512 - (intOf v5).toNat)
    case atStart => exact ⟨0, _, rfl, Nat.zero_le _, ⟨HP.out, by rw [List.length_replicate]; rfl, fun j hj => absurd hj (Nat.not_lt_zero j)⟩⟩
    case round =>
      clear HP
      obtain ⟨k, xs, rfl, hk, HP⟩ := hrel
      have x2 : wr.cell? ⟨w.heap.size, 2, none⟩ = some (.int .u8 fill) := (blk_cell HP.out.1.1 2).trans (by rw [HX.out]; rfl)
      have x3 : wr.cell? ⟨w.heap.size, 3, none⟩ = some (.slice A B.length c) := (blk_cell HP.out.1.1 3).trans (by rw [HX.out]; rfl)
      by_cases hlt : k < 512
      · have hck := HP.out.1.cell k hlt
        obtain ⟨y, hy⟩ : ∃ y, y = rdOf 0 xs (k : Int) := ⟨_, rfl⟩
        rw [← hy] at hck
        obtain ⟨cg, fg⟩ := hck
        have HE : Aside0 (PI w cs (.slice (some ⟨g, 0, none⟩) 512 cap) (xs.set k fill) (wr.setCell ⟨g, k, none⟩ (.int .u8 fill)) ∧ (xs.set k fill).length = 512 ∧ ∀ j, j < k + 1 → (xs.set k fill)[j]? = some fill) := ⟨HP.out.1.set k fill, by rw [List.length_set]; exact HP.out.2.1, fun j hj => by
          by_cases e : k = j
          · subst e
            exact List.getElem?_set_self (by have := HP.out.2.1; omega)
          · rw [List.getElem?_set_ne e]
            exact HP.out.2.2 j (by omega)⟩
        have HK := Aside0.mk hlt
        have b0 : decide (k < 512) = true := decide_eq_true hlt
        have b1 : decide ((k : Int) < 512) = true := decide_eq_true (by omega)
        have b2 : (k < 512) = True := eq_true hlt
        have b3 : ((k : Int) < 512) = True := eq_true (by omega)
        clear hy x3
        go_wp2
        go_roundw
        case rel => exact ⟨k + 1, _, by go_num, HK.out, HE⟩
        case measure => have := HK.out; simp [intOf]; omega
      · have hke : k = 512 := by omega
        subst hke
        have b0 : decide ((512 : Nat) < 512) = false := by decide
        have b1 : decide ((512 : Int) < 512) = false := by decide
        have HE : Aside0 (xs = List.replicate 512 fill) := ⟨List.eq_replicate_iff.2 ⟨HP.out.2.1, fun y hy => by
          obtain ⟨j, hj, rfl⟩ := List.mem_iff_getElem.1 hy
          have := HP.out.2.2 j (by have := HP.out.2.1; omega)
          rw [List.getElem?_eq_getElem hj] at this
          exact Option.some.inj this⟩⟩
        clear hlt hk x2
        go_wp2_with (first | ((with_reducible refine gate_builtin (b := .copy) (xs := #[.tmp 20, .tmp 22]) rfl ?_); (refine Kd.R_copy (enc := Value.int .u8) (h1 := fun _ => rfl) (0 : Int) (w0 := w) w.heap.size rfl (.tmp 20) (.tmp 22) 30 30 5 rfl Try.underlying30 (by kernel_rfl) (.slice (some ⟨g, 0, none⟩) 512 cap) xs B A B.length c (fun _ => True) rfl rfl ?aO ?aR ?aB ?aS ?_); (case aO => exact HP.out.1.2.1); (case aR => exact Kd.C_below HR.out HP.out.1.2.2); (case aB => exact HP.out.1.2.2); (case aS => exact below_size HP.out.1.2.2); intro w16 ho hb hg; have HF := Aside0.mk (And.intro ho hb); clear ho hb hg))
        go_ret
        refine ⟨_, rfl, ?_, HF.out.2⟩
        have := HF.out.1
        rw [HP.out.2.1, HE.out] at this
        exact this
  | true =>
    have hm0 : m = 513 := HMM.out
    subst hm0
    go_upto_region 5 with ((with_reducible refine gate_dst (N := 9) rfl ?_); refine Kd.R_make (Kd.int .u8) (w0 := w) w.heap.size 5 rfl (N := 9) rfl 30 _ _ rfl 513 rfl rfl Try.underlying30 (.int .u8 0) 1 info5 rfl (by decide) (by decide) 0 (ok := fun _ => True) (okp := fun _ => False) rfl (fun _ h => h.elim) trivial (by decide) (by decide) HB0.out (below_size HB0.out) ?_; intro v9 w9 ho hb hg hn; obtain ⟨g, cap, e9, _, _, _⟩ := Kd.R_form ho (by rw [List.length_replicate]; decide); rw [List.length_replicate] at e9; subst e9; have HP := Aside0.mk (show PI w cs _ _ w9 from ⟨blk_grown HBX.out hg (by simp), ho, hb⟩); clear ho hb hg hn)
    have HX := HCS
    clear x4
    go_wp2_with fail
    go_loopw [5] (fun v5 wr => ∃ (k : Nat) (xs : List Int), v5 = .int .i64 (k : Int) ∧ k ≤ 513 ∧ Aside0 (PI w cs (.slice (some ⟨g, 0, none⟩) 513 cap) xs wr ∧ xs.length = 513 ∧ ∀ j, j < k → xs[j]? = some fill)) (fun v5 _ => 513 - (intOf v5).toNat)
    case atStart => exact ⟨0, _, rfl, Nat.zero_le _, ⟨HP.out, by rw [List.length_replicate]; rfl, fun j hj => absurd hj (Nat.not_lt_zero j)⟩⟩
    case round =>
      clear HP
      obtain ⟨k, xs, rfl, hk, HP⟩ := hrel
      have x2 : wr.cell? ⟨w.heap.size, 2, none⟩ = some (.int .u8 fill) := (blk_cell HP.out.1.1 2).trans (by rw [HX.out]; rfl)
      have x3 : wr.cell? ⟨w.heap.size, 3, none⟩ = some (.slice A B.length c) := (blk_cell HP.out.1.1 3).trans (by rw [HX.out]; rfl)
      by_cases hlt : k < 513
      · have hck := HP.out.1.cell k hlt
        obtain ⟨y, hy⟩ : ∃ y, y = rdOf 0 xs (k : Int) := ⟨_, rfl⟩
        rw [← hy] at hck
        obtain ⟨cg, fg⟩ := hck
        have HE : Aside0 (PI w cs (.slice (some ⟨g, 0, none⟩) 513 cap) (xs.set k fill) (wr.setCell ⟨g, k, none⟩ (.int .u8 fill)) ∧ (xs.set k fill).length = 513 ∧ ∀ j, j < k + 1 → (xs.set k fill)[j]? = some fill) := ⟨HP.out.1.set k fill, by rw [List.length_set]; exact HP.out.2.1, fun j hj => by
          by_cases e : k = j
          · subst e
            exact List.getElem?_set_self (by have := HP.out.2.1; omega)
          · rw [List.getElem?_set_ne e]
            exact HP.out.2.2 j (by omega)⟩
        have HK := Aside0.mk hlt
        have b0 : decide (k < 513) = true := decide_eq_true hlt
        have b1 : decide ((k : Int) < 513) = true := decide_eq_true (by omega)
        have b2 : (k < 513) = True := eq_true hlt
        have b3 : ((k : Int) < 513) = True := eq_true (by omega)
        clear hy x3
        go_wp2
        go_roundw
        case rel => exact ⟨k + 1, _, by go_num, HK.out, HE⟩
        case measure => have := HK.out; simp [intOf]; omega
      · have hke : k = 513 := by omega
        subst hke
        have b0 : decide ((513 : Nat) < 513) = false := by decide
        have b1 : decide ((513 : Int) < 513) = false := by decide
        have HE : Aside0 (xs = List.replicate 513 fill) := ⟨List.eq_replicate_iff.2 ⟨HP.out.2.1, fun y hy => by
          obtain ⟨j, hj, rfl⟩ := List.mem_iff_getElem.1 hy
          have := HP.out.2.2 j (by have := HP.out.2.1; omega)
          rw [List.getElem?_eq_getElem hj] at this
          exact Option.some.inj this⟩⟩
        clear hlt hk x2
        go_wp2_with (first | ((with_reducible refine gate_builtin (b := .copy) (xs := #[.tmp 20, .tmp 22]) rfl ?_); (refine Kd.R_copy (enc := Value.int .u8) (h1 := fun _ => rfl) (0 : Int) (w0 := w) w.heap.size rfl (.tmp 20) (.tmp 22) 30 30 5 rfl Try.underlying30 (by kernel_rfl) (.slice (some ⟨g, 0, none⟩) 513 cap) xs B A B.length c (fun _ => True) rfl rfl ?aO ?aR ?aB ?aS ?_); (case aO => exact HP.out.1.2.1); (case aR => exact Kd.C_below HR.out HP.out.1.2.2); (case aB => exact HP.out.1.2.2); (case aS => exact below_size HP.out.1.2.2); intro w16 ho hb hg; have HF := Aside0.mk (And.intro ho hb); clear ho hb hg))
        go_ret
        refine ⟨_, rfl, ?_, HF.out.2⟩
        have := HF.out.1
        rw [HP.out.2.1, HE.out] at this
        exact this
end Go.Proofs.Ytehgbikleiaagaa.P
end
section
namespace Go.Proofs.Ytehgbikleiaagaa.P
open Go.RowKit Go.Proofs.YtehgbikleiaagaaW.PrintWords Go.Proofs.YtehgbikleiaagaaW.PrintLast Go.Proofs.YtehgbikleiaagaaW.PrintMore
set_option linter.unusedVariables false
set_option linter.unusedSimpArgs false
theorem size5 (w : World) : (sizeOf 5).run Try.prog w = .ok 1 w := by
  have h := info5
  cases hi : Try.prog.info? 5 with
  | none => rw [hi] at h; cases h
  | some i =>
    rw [hi] at h
    simp only [Option.map_some, Option.some.injEq, Prod.mk.injEq] at h
    simp [sizeOf, typeInfo, Sem.run_bind, hi, h.2.1]
end Go.Proofs.Ytehgbikleiaagaa.P
end
section
namespace Go.Proofs.Ytehgbikleiaagaa.P
open Go.RowKit Go.Proofs.YtehgbikleiaagaaW.PrintWords Go.Proofs.YtehgbikleiaagaaW.PrintLast Go.Proofs.YtehgbikleiaagaaW.PrintMore
attribute [local go_sem] max2_int min2_int max_two min_two max_three min_three max_four min_four
set_option linter.unusedVariables false
set_option linter.unusedSimpArgs false
def imgP (b : List Int) (i : Nat) : List Int := (b.drop (i * 512)).take 512
theorem DD.more {W : World} {base d M N N' : Nat} {v : Value} {s : Dk} (h : DD W base d M N v s) (hn : N ≤ N') (ht : N' + s.cache.length ≤ 1073741824) : DD W base d M N' v s := { h with mp := h.mp.mono hn, tot := ht }
theorem meas_lt {m k : Nat} {x : Int} (h : k < m) (e : Value.int .i64 x = .int .i64 ((k + 1 : Nat) : Int)) : m - (intOf (.int .i64 x)).toNat < m - (intOf (.int .i64 (k : Int))).toNat := by
  rw [e]
  simp only [intOf, Int.toNat_natCast]
  omega
end Go.Proofs.Ytehgbikleiaagaa.P
end
section
namespace Go.Proofs.Ytehgbikleiaagaa.P
open Go.RowKit Go.Proofs.YtehgbikleiaagaaW.PrintWords Go.Proofs.YtehgbikleiaagaaW.PrintLast Go.Proofs.YtehgbikleiaagaaW.PrintMore
attribute [local go_sem] max2_int min2_int max_two min_two max_three min_three max_four min_four
set_option linter.unusedVariables false
set_option linter.unusedSimpArgs false
def mendN (keep : List Bool) (torn cut : Int) (k : Nat) : Nat := if (k : Int) = torn then (max 0 (min cut 512)).toNat else if keep.getD k false = true then 512 else 0
theorem mendYtehgbikleiaagaale (keep : List Bool) (torn cut : Int) (k : Nat) : mendN keep torn cut k ≤ 512 := by unfold mendN; split <;> (try split) <;> omega
def over (n : Nat) (b p : List Int) : List Int := b.take n ++ p.drop n
def mendL (s : Dk) (keep : List Bool) (torn cut : Int) (k : Nat) : Int → List Int :=
  (s.cache.zipIdx.take k).foldl (fun f x => upd f x.1.1 (over (mendN keep torn cut x.2) x.1.2 (f x.1.1))) s.last
theorem mendL_succ {s : Dk} {keep : List Bool} {torn cut : Int} {k : Nat} (hk : k < s.cache.length) :
    mendL s keep torn cut (k + 1) = upd (mendL s keep torn cut k) s.cache[k].1 (over (mendN keep torn cut k) s.cache[k].2 (mendL s keep torn cut k s.cache[k].1)) := by
  unfold mendL
  have h : k < s.cache.zipIdx.length := by simpa using hk
  rw [List.take_add_one, List.getElem?_eq_getElem h, List.foldl_append]
  simp
theorem over_len {n : Nat} {b p : List Int} (hb : b.length = 512) (hp : p.length = 512) (hn : n ≤ 512) : (over n b p).length = 512 := by
  unfold over
  simp
  omega
theorem mendL_len {s : Dk} {keep : List Bool} {torn cut : Int} (hl : ∀ i, (s.last i).length = 512) (hc : ∀ x ∈ s.cache, x.2.length = 512) : ∀ k, k ≤ s.cache.length → ∀ i, (mendL s keep torn cut k i).length = 512 := by
  intro k
  induction k with
  | zero => exact fun _ => hl
  | succ k ih =>
    intro hk i
    rw [mendL_succ (by omega)]
    unfold upd
    split
    · exact over_len (hc _ (List.getElem_mem (by omega))) (ih (by omega) _) (mendYtehgbikleiaagaale _ _ _ _)
    · exact ih (by omega) i
def mendS (s : Dk) (keep : List Bool) (torn cut : Int) : Dk := { s with last := mendL s keep torn cut s.cache.length, cache := [], left := -1, down := false }
def MI (w : World) (M N : Nat) (s : Dk) (keep : List Bool) (torn cut : Int) (k : Nat) (W : World) : Prop := Kp (fun j => j = M) w W ∧ MP W M (N + k) (mendL s keep torn cut k)
section
variable {P : Program} {ρ : Operand → Value} {op : Oper} {w w1 : World} {v : Value}
theorem exec_alloc (t : TypeId) (ho : op.op = .alloc t) (z : Array Value) (hz : ∀ w, (zeroValue t).run P w = .ok (.agg z) w) : (execOp ρ op).run P w = .ok (.value (.pointer (some ⟨w.heap.size, 0, none⟩))) (w.alloc (.cells z t)) := by
  unfold execOp
  simp [ho, Instr.alloc, Sem.run_bind, hz, newVar, newRow, Value.cells]
theorem exec_store (t : TypeId) (x y : Operand) (ho : op.op = .store t x y) (hv : (Instr.storeAt t (ρ x) (ρ y)).run P w = .ok () w1) : (execOp ρ op).run P w = .ok .skip w1 := by
  unfold execOp
  simp only [ho, Sem.run_bind, hv, Result.andThen_ok, Sem.run_pure]
theorem exec_lookup (t : TypeId) (x y : Operand) (b : Bool) (ho : op.op = .lookup t x y b) (hv : (Instr.lookup t (ρ x) (ρ y) b).run P w = .ok v w) : (execOp ρ op).run P w = .ok (.value v) w := by
  unfold execOp
  simp only [ho, Sem.run_bind, hv, Result.andThen_ok, Sem.run_pure]
theorem exec_copy (x y : Operand) (t1 t2 : TypeId) (ho : op.op = .call { callee := .builtin .copy, args := #[x, y], argTypes := #[t1, t2] }) {vx vy : Value} (hx : ρ x = vx) (hy : ρ y = vy) (hv : ∀ ty, (Builtin.copy_ #[t1, t2] ty #[vx, vy]).run P w = .ok v w1) : (execOp ρ op).run P w = .ok (.value v) w1 := by
  unfold execOp
  simp [ho, resolve, invoke, builtin, hx, hy, hv]
end
theorem over_copy (W : World) (g11 b9 n : Nat) (b p : List Int) (hb : b.length = 512) (hp : p.length = 512) (hn : n ≤ 512) (h11 : W.heap[g11]? = some (.cells (bvs p).toArray 67 (0, 0))) (h9 : ∀ j u, (bvs b)[j]? = some u → W.cell? ⟨b9, 1 + j, none⟩ = some u) :
    ∃ W', (∀ ty, (Builtin.copy_ #[30, 30] ty #[.slice (some ⟨g11, 0, none⟩) n 512, .slice (some ⟨b9, 1, none⟩) 512 512]).run Try.prog W = .ok (.int .i64 (n : Int)) W') ∧ W'.heap[g11]? = some (.cells (bvs (over n b p)).toArray 67 (0, 0)) ∧ Kp (fun j => j = g11) W W' := by
  have hlen : ((bvs b).take n).length = n := by rw [List.length_take, bvs_len, hb]; omega
  refine ⟨W.setRow g11 ((bvs p).toArray.toList.take 0 ++ (bvs b).take n ++ (bvs p).toArray.toList.drop (0 + ((bvs b).take n).length)).toArray, fun ty => ?_, ?_, ?_⟩
  · have h := run_copy_row (P := Try.prog) W 30 30 ty 5 g11 0 n 512 ⟨b9, 1, none⟩ 512 512 (bvs p).toArray 67 ((bvs b).take n) Try.underlying30 (by kernel_rfl) h11 (by rw [hlen]; exact (Nat.min_eq_right hn).symm) (fun j v hj => ?_) ?_ (fun v hv => ?_)
    · rw [h, hlen]; rfl
    · rw [Addr.add_mid]
      refine h9 j v ?_
      rw [List.getElem?_take] at hj
      split at hj
      · exact hj
      · cases hj
    · rw [hlen, List.size_toArray, bvs_len, hp]; omega
    · have h1 := List.mem_of_mem_take hv
      obtain ⟨y, _, rfl⟩ := List.mem_map.1 h1
      rfl
  · rw [setRow_heap W g11 _ _ 67 _ h11, hlen]
    unfold over bvs
    simp [List.map_take, List.map_drop]
  · exact ⟨rfl, rfl, rfl, by simp [World.setRow], fun k hk hn => setRow_other W g11 k _ hn⟩
end Go.Proofs.Ytehgbikleiaagaa.P
end
section
namespace Go.Proofs.Ytehgbikleiaagaa.P
open Go.RowKit Go.Proofs.YtehgbikleiaagaaW.PrintWords Go.Proofs.YtehgbikleiaagaaW.PrintLast Go.Proofs.YtehgbikleiaagaaW.PrintMore
attribute [local go_sem] max2_int min2_int max_two min_two max_three min_three max_four min_four
set_option linter.unusedVariables false
set_option linter.unusedSimpArgs false
theorem exec_lookup2 {P : Program} {ρ : Operand → Value} {op : Oper} {w : World} {v : Value} (t : TypeId) (x y : Operand) (b : Bool) (ho : op.op = .lookup t x y b) {vx vy : Value} (hx : ρ x = vx) (hy : ρ y = vy) (hv : (Instr.lookup t vx vy b).run P w = .ok v w) : (execOp ρ op).run P w = .ok (.value v) w := by
  subst hx hy
  exact exec_lookup t x y b ho hv
theorem run_storeAt67 (w : World) (z q : List Int) (hz : z.length = 512) (hq : q.length = 512) : (Instr.storeAt 67 (.pointer (some ⟨w.heap.size, 0, none⟩)) (.agg (bvs q).toArray)).run Try.prog (w.alloc (.cells (bvs z).toArray 67)) = .ok () (w.alloc (.cells (bvs q).toArray 67)) :=
  run_storeAt_new w 67 _ _ (by rw [s67, List.size_toArray, bvs_len, hq]) (by rw [List.size_toArray, List.size_toArray, bvs_len, bvs_len, hz, hq]) (one_bvs _)
set_option maxHeartbeats 4000000 in
set_option maxRecDepth 100000 in
theorem mend_calls {base d M N : Nat} {v : Value} {s : Dk} (A2 : Option Addr) (c3 : Nat) (keep : List Bool) (torn cut : Int) (w : World) (h : DD w base d M N v s) (hkr : Kd.C Kd.bool w A2 keep.length keep) (hkM : keep ≠ [] → ∀ a, A2 = some a → a.block ≠ M) :
    Calls Try.prog 14 #[dp d, .slice A2 keep.length c3, .int .i64 torn, .int .i64 cut] w fun e w' => (∃ u, e = .returned u) ∧ DD w' base d M (N + s.cache.length) (.slice none 0 0) (mendS s keep torn cut) ∧ MV d M v (.slice none 0 0) w w' := by
  obtain ⟨xs, hxs⟩ := pes_of s.cache (fun x hx => (h.c512 x hx).1)
  have HC := Aside0.mk h.c512
  have HL5 := Aside0.mk h.l512
  have HP2 := Aside0.mk h.p2
  have HT := Aside0.mk h.tot
  obtain ⟨A, c, ev⟩ := Kd.R_slice h.row
  subst ev
  have hlen : xs.length = s.cache.length := by rw [← hxs]; simp
  have hpes := pes_row h.row hxs
  have HP := Aside0.mk hpes
  have HD := Aside0.mk h
  have HKR := Aside0.mk hkr
  have HKM := Aside0.mk hkM
  have c2 : w.cell? ⟨d, 2, none⟩ = some (.slice A s.cache.length c) := (blk_cell h.blk 2).trans rfl
  have c1' := (blk_cell h.blk 1).trans rfl
  obtain ⟨zq, hzq⟩ : ∃ zq : Array Value, zq = (Value.int .i64 0 :: bvs pgZ).toArray := ⟨_, rfl⟩
  have hz9 : ∀ w, (zeroValue 69).run Try.prog w = .ok (.agg zq) w := fun w => by rw [hzq]; exact zero69 w
  have HQ := Aside0.mk (show zq.size = 513 by rw [hzq, List.size_toArray, List.length_cons, bvs_len, pgZ_len])
  have HSI := Aside0.mk (show MI w M N s keep torn cut 0 w from ⟨Kp.refl _ _, by rw [Nat.add_zero]; exact h.mp⟩)
  have HX := Aside0.mk hxs
  have HLn := Aside0.mk hlen
  clear hzq h hpes hxs hlen hkr hkM
  unfold dp
  go_enter Try.func14, Try.ntmps14
  go_wp2_with fail
  go_loopw [17] (fun v17 wr => ∃ k : Nat, v17 = .int .i64 (k : Int) ∧ k ≤ s.cache.length ∧ Aside0 (MI w M N s keep torn cut k wr)) (fun v17 _ => s.cache.length - (intOf v17).toNat)
  case atStart => exact ⟨0, rfl, Nat.zero_le _, HSI⟩
  case round =>
    clear HSI
    obtain ⟨k, rfl, hk, HS⟩ := hrel
    by_cases hlt : k < s.cache.length
    · have hkx : k < xs.length := by rw [HLn.out]; exact hlt
      obtain ⟨x, hx⟩ : ∃ x, x = xs.getD k zPE := ⟨_, rfl⟩
      have hxc : s.cache[k] = x.1 := by
        rw [hx, List.getD_eq_getElem?_getD, List.getElem?_eq_getElem hkx, Option.getD_some]
        have := HX.out
        simp only [← this, List.getElem_map]
      have HXC : Aside0 (mendL s keep torn cut (k + 1) = upd (mendL s keep torn cut k) x.1.1 (over (mendN keep torn cut k) x.1.2 (mendL s keep torn cut k x.1.1))) := ⟨by rw [mendL_succ hlt, hxc]⟩
      have hx1 : 0 ≤ x.1.1 ∧ x.1.1 < s.pages := by rw [← hxc]; exact (HC.out _ (List.getElem_mem hlt)).2
      rcases HP.out with ⟨_, e⟩ | ⟨g, cap, e, hg, hcs⟩
      · rw [e] at hkx
        exact absurd hkx (Nat.not_lt_zero k)
      · injection e with eA eL ec
        clear eL
        subst eA ec
        have hgM : g ≠ M := fun e => by
          obtain ⟨es, clock, hm⟩ := HD.out.mp.blk
          have := hcs k hkx 0 (.int .i64 (xs.getD k zPE).1.1) rfl
          rw [e] at this
          simp [World.cell?, hm] at this
        have hld : (Instr.loadAt 69 (.pointer (some ⟨g, k * 513, none⟩))).run Try.prog wr = .ok (.agg (peV x.1).toArray) wr := by
          refine run_loadAt_mid wr g (k * 513) 69 _ _ (fun j u hj => ?_) Try.underlying69 rfl (by rw [s69]; exact (congrArg some (by have := sz_peV x; simpa using this)).symm)
          rw [hx] at hj
          exact (World.cell?_of_block (HS.out.1.block g hg (fun e => hgM e))).trans (hcs k hkx j u hj)
        have hst : (storeCells ⟨wr.heap.size, 0, none⟩ (peV x.1).toArray.toList 0).run Try.prog (wr.alloc (.cells zq 69)) = .ok () (wr.alloc (.cells (peV x.1).toArray 69)) :=
          run_storeCells_new wr 69 zq _ (by rw [s69]; exact (congrArg some (sz_peV x)).symm) (by rw [HQ.out]; exact (sz_peV x).symm) (one_peV _)
        have hsz5 : (peV x.1).toArray.size = 513 := sz_peV x
        have c1 : Aside0 (wr.cell? ⟨d, 1, none⟩ = some (.map (some M))) := ⟨(World.cell?_of_block (HS.out.1.block d HD.out.lt (fun e => HD.out.dM e))).trans c1'⟩
        have hW2 := Deep.blk_alloc_new wr (.cells (peV x.1).toArray 69)
        obtain ⟨W2, hW2e⟩ : ∃ W2, W2 = wr.alloc (.cells (peV x.1).toArray 69) := ⟨_, rfl⟩
        have HMP := Aside0.mk (HS.out.2.keep (W' := W2) (by rw [hW2e]; exact Below.heap_alloc wr _ M HS.out.2.lt))
        have HK := Aside0.mk (And.intro hlt (And.intro hk hx1))
        generalize hpe : (peV x.1).toArray = pe at hld hst hW2 hW2e hsz5
        have HPE := Aside0.mk hpe
        have HW2 := Aside0.mk (And.intro hW2 hW2e)
        clear hW2 hW2e
        have b0 : decide (k < s.cache.length) = true := decide_eq_true hlt
        have b1 : decide ((k : Int) < (s.cache.length : Int)) = true := decide_eq_true (by omega)
        have b2 : (k < s.cache.length) = True := eq_true hlt
        have b3 : ((k : Int) < (s.cache.length : Int)) = True := eq_true (by omega)
        clear hpe hx hxc hx1 hcs hkx hlt hk
        go_upto_region 4 with (refine wp_load_eq 69 _ rfl hld ?_)
        rw [← HW2.out.2]
        clear hld hst
        rename_i K2 hK2 K1 hK1 K0 hK0
        obtain ⟨p, hp⟩ : ∃ p, p = mendL s keep torn cut k x.1.1 := ⟨_, rfl⟩
        have hp5 : p.length = 512 := by rw [hp]; exact mendL_len HL5.out (fun x hx => (HC.out x hx).1) k HK.out.2.1 _
        have HPP := Aside0.mk hp
        obtain ⟨zp, hzp⟩ : ∃ zp : Array Value, zp = (bvs pgZ).toArray := ⟨_, rfl⟩
        have hz7 : ∀ w, (zeroValue 67).run Try.prog w = .ok (.agg zp) w := fun w => by rw [hzp]; exact zero67 w
        have hst4 : ∀ w : World, (Instr.storeAt 67 (.pointer (some ⟨w.heap.size, 0, none⟩)) (.agg (bvs p).toArray)).run Try.prog (w.alloc (.cells zp 67)) = .ok () (w.alloc (.cells (bvs p).toArray 67)) := fun w => by rw [hzp]; exact run_storeAt67 w _ _ pgZ_len hp5
        have HP5 := Aside0.mk hp5
        obtain ⟨qg, hqg⟩ : ∃ qg, qg = (bvs p).toArray := ⟨_, rfl⟩
        rw [← hqg] at hst4
        have HQG := Aside0.mk hqg
        clear hp hp5 hzp hqg
        have part : ∀ (n : Nat), n = mendN keep torn cut k → ∀ (y22 y23 y24 y25 y26 y27 y28 y29 y30 y31 y32 y33 y34 y35 y36 y37 y38 y39 : Value), K1 ⟨#[Value.pointer (some ⟨d, 0, none⟩), .slice A2 keep.length c3, .int .i64 torn, .int .i64 cut, undef, undef, undef, undef, .int .i64 (k : Int), .pointer (some ⟨wr.heap.size, 0, none⟩), .int .i64 (n : Int), u11, .pointer (some ⟨d, 0, none⟩), .pointer (some ⟨d, 0, none⟩), .pointer (some ⟨d, 2, none⟩), .slice (some ⟨g, 0, none⟩) s.cache.length c, .int .i64 (s.cache.length : Int), .int .i64 (k : Int), .bool true, .int .i64 (k : Int), .pointer (some ⟨g, k * 513, none⟩), .agg pe, y22, y23, y24, y25, y26, y27, y28, y29, y30, y31, y32, y33, y34, y35, y36, y37, y38, y39, u40, u41, u42, u43, u44, u45, u46, u47, u48, u49, u50, u51, u52, u53, u54, u55, u56, u57, u58, u59, undef, undef, undef, undef, undef, undef, undef, undef, undef], []⟩ W2 := by
          intro n hn y22 y23 y24 y25 y26 y27 y28 y29 y30 y31 y32 y33 y34 y35 y36 y37 y38 y39
          refine hK1 _ _ ?_
          have hn5 : n ≤ 512 := by rw [hn]; exact mendYtehgbikleiaagaale _ _ _ _
          have HN := Aside0.mk hn
          have cd1 : W2.cell? ⟨d, 1, none⟩ = some (.map (some M)) := by rw [HW2.out.2]; exact (World.cell?_of_block (Below.heap_alloc wr _ d (Nat.lt_of_lt_of_le HD.out.lt HS.out.1.size))).trans c1.out
          have hd2 : d < W2.heap.size := World.block_lt_of_cell? W2 _ cd1
          have hW2 := HW2.out.1
          rw [← HW2.out.2] at hW2
          have hw2 : wr.heap.size < W2.heap.size := blk_lt hW2
          have cx0 : W2.cell? ⟨wr.heap.size, 0, none⟩ = some (.int .i64 x.1.1) := (blk_cell hW2 0).trans (by rw [← HPE.out]; rfl)
          have hlk : (Instr.lookup 61 (.map (some M)) (.int .i64 x.1.1) false).run Try.prog W2.drew = .ok (.agg qg) W2.drew := by
            have := MP.look (W := W2.drew) (HMP.out.keep (W' := W2.drew) rfl) (i := x.1.1) (by have := HK.out.2.2.1; omega) (by have := HK.out.2.2.2; have := HP2.out; omega)
            rw [← HPP.out] at this
            rw [HQG.out]
            exact this
          have ca1 : (W2.drew.alloc (.cells zp 67)).cell? ⟨d, 1, none⟩ = some (.map (some M)) := (World.cell?_of_block (Below.heap_alloc W2.drew _ d hd2)).trans cd1
          have ca2 : (W2.drew.alloc (.cells zp 67)).cell? ⟨wr.heap.size, 0, none⟩ = some (.int .i64 x.1.1) := (World.cell?_of_block (Below.heap_alloc W2.drew _ _ hw2)).trans cx0
          have ca3 : (Instr.lookup 61 (.map (some M)) (.int .i64 x.1.1) false).run Try.prog (W2.drew.alloc (.cells zp 67)) = .ok (.agg qg) (W2.drew.alloc (.cells zp 67)) := by
            have := MP.look (W := W2.drew.alloc (.cells zp 67)) (HMP.out.keep (Below.heap_alloc W2.drew _ M HMP.out.lt)) (i := x.1.1) (by have := HK.out.2.2.1; omega) (by have := HK.out.2.2.2; have := HP2.out; omega)
            rw [← HPP.out] at this
            rw [HQG.out]
            exact this
          have hs4 := hst4 W2.drew
          obtain ⟨W4, hW4⟩ : ∃ W4, W4 = W2.drew.alloc (.cells qg 67) := ⟨_, rfl⟩
          have h411 : W4.heap[W2.heap.size]? = some (.cells qg 67 (0, 0)) := by rw [hW4]; exact Deep.blk_alloc_new W2.drew _
          have hb4 : Below W2.heap.size W2 W4 := by rw [hW4]; exact below_alloc (below_drew1 (Below.refl _ _)) _
          rw [← hW4] at hs4
          have h4b : W4.heap[wr.heap.size]? = some (.cells pe 69 (0, 0)) := (hb4.block _ hw2).trans hW2
          obtain ⟨W5, hcp, h511, hk5⟩ := over_copy W4.drew W2.heap.size wr.heap.size n x.1.2 p x.2 HP5.out hn5 (by rw [← HQG.out]; exact h411) (fun j u hj => by
            refine (blk_cell (w := W4.drew) h4b (1 + j)).trans ?_
            rw [← HPE.out, Nat.add_comm 1 j]
            simpa [peV] using hj)
          have hb5 : Below W2.heap.size W2 W5 := hb4.trans ((Kp.trans (S := fun j => j = W2.heap.size) (Kp.of_below (below_drew1 (Below.refl _ _))) hk5 (fun _ _ e => e)).below hb4.size (fun j e => Nat.le_of_eq e.symm))
          have cd5 : W5.cell? ⟨d, 1, none⟩ = some (.map (some M)) := (World.cell?_of_block (hb5.block d hd2)).trans cd1
          have cx5 : W5.cell? ⟨wr.heap.size, 0, none⟩ = some (.int .i64 x.1.1) := (World.cell?_of_block (hb5.block _ hw2)).trans cx0
          obtain ⟨og, hog⟩ : ∃ og, og = (bvs (over n x.1.2 p)).toArray := ⟨_, rfl⟩
          have hol := over_len (n := n) (b := x.1.2) (p := p) x.2 HP5.out hn5
          have hl7 : (Instr.loadAt 67 (.pointer (some ⟨W2.heap.size, 0, none⟩))).run Try.prog W5.drew = .ok (.agg og) W5.drew := by
            rw [hog]
            refine run_loadAt_mid W5.drew W2.heap.size 0 67 (bvs (over n x.1.2 p)) _ (fun j u hj => ?_) Try.underlying67 rfl (by rw [s67, bvs_len, hol])
            refine (blk_cell (w := W5.drew) h511 (0 + j)).trans ?_
            rw [Nat.zero_add]
            simpa using hj
          obtain ⟨W6, hmu, hM6, hg6⟩ := MP.store (W := W5.drew) (HMP.out.keep (W' := W5.drew) (hb5.block M HMP.out.lt)) (by have := HT.out; have := HK.out.1; unfold maxLen; omega) (i := x.1.1) (by have := HK.out.2.2.1; omega) (by have := HK.out.2.2.2; have := HP2.out; omega) (over n x.1.2 p)
          unfold pgV at hmu
          rw [← hog] at hmu
          have HE : Aside0 (MI w M N s keep torn cut (k + 1) W6) := ⟨(HS.out.1.trans (Kp.of_below (S := fun j => j = M) (by rw [HW2.out.2]; exact below_alloc (Below.refl _ _) _)) (fun _ _ e => e)).trans ((Kp.of_below hb5).trans (Kp.grown (S := fun j => j = M) (a := W5) ⟨hg6.os, hg6.tape, hg6.output, hg6.size, hg6.block⟩ (fun j e => by injection e with e; exact e.symm)) (fun _ _ e => e)) (fun _ _ e => e), by rw [HXC.out, ← HPP.out, ← HN.out]; exact hM6⟩
          have hlk' := Aside0.mk hlk
          have hs4' := Aside0.mk hs4
          have hcp' := Aside0.mk hcp
          have hl7' := Aside0.mk hl7
          have hmu' := Aside0.mk hmu
          have cd1' := Aside0.mk cd1
          have cx0' := Aside0.mk cx0
          have cd5' := Aside0.mk cd5
          have cx5' := Aside0.mk cx5
          have ca1' := Aside0.mk ca1
          have ca2' := Aside0.mk ca2
          have ca3' := Aside0.mk ca3
          have hn0 : (0 : Int) ≤ (n : Int) := by omega
          have hn1 : (n : Int) ≤ 512 := by omega
          have hn2 : (n ≤ 512) = True := eq_true hn5
          clear hn hlk hs4 hcp hl7 hmu cd1 cx0 cd5 cx5 ca1 ca2 ca3 hd2 hW2 hw2 h411 hb4 h4b hk5 hb5 h511 hM6 hg6 hol hog hW4 hK1 hK0 hst4 hz9 hsz5 c1' c2
          go_upto_region 8 with fail
          refine start_ (n := 9) (S := fun w' => w'.cell? ⟨d, 1, none⟩ = some (.map (some M)) ∧ w'.cell? ⟨wr.heap.size, 0, none⟩ = some (.int .i64 x.1.1) ∧ (Instr.lookup 61 (.map (some M)) (.int .i64 x.1.1) false).run Try.prog w' = .ok (.agg qg) w') (ds := [8]) #[false, false, false, false, false, false, false, false, false] (by kernel_rfl) rfl rfl ⟨cd1'.out, cx0'.out, hlk'.out⟩ (fun hHeld => ?_)
          refine pure_ (i := 0) (N := some 40) (v := ?_) (a' := ?_) #[true, false, false, false, false, false, false, false, false] rfl rfl (by kernel_rfl) (fun _ _ _ h => h) (Or.inl ⟨by rfl, ?_⟩) ?_ ?_
          rotate_left
          · intro w'
            go_simp
            with_reducible rfl
          rotate_left
          · simp only [Act.put, List.setIfInBounds_toArray, List.set_cons_zero, List.set_cons_succ, i64_w, i32_w]
            rfl
          refine pure_ (i := 1) (N := some 41) (v := ?_) (a' := ?_) #[true, true, false, false, false, false, false, false, false] rfl rfl (by kernel_rfl) (fun _ _ _ h => h) (Or.inl ⟨by rfl, ?_⟩) ?_ ?_
          rotate_left
          · intro w'
            go_simp
            with_reducible rfl
          rotate_left
          · simp only [Act.put, List.setIfInBounds_toArray, List.set_cons_zero, List.set_cons_succ, i64_w, i32_w]
            rfl
          refine pure_ (i := 2) (N := some 42) (v := ?_) (a' := ?_) #[true, true, true, false, false, false, false, false, false] rfl rfl (by kernel_rfl) (fun _ _ _ h => h) (Or.inl ⟨by rfl, ?_⟩) ?_ ?_
          rotate_left
          · intro w'
            go_simp
            with_reducible rfl
          rotate_left
          · simp only [Act.put, List.setIfInBounds_toArray, List.set_cons_zero, List.set_cons_succ, i64_w, i32_w]
            rfl
          refine pure_ (i := 4) (N := some 44) (v := ?_) (a' := ?_) #[true, true, true, false, true, false, false, false, false] rfl rfl (by kernel_rfl) (fun _ _ _ h => h) (Or.inl ⟨by rfl, ?_⟩) ?_ ?_
          rotate_left
          · intro w'
            go_simp
            with_reducible rfl
          rotate_left
          · simp only [Act.put, List.setIfInBounds_toArray, List.set_cons_zero, List.set_cons_succ, i64_w, i32_w]
            rfl
          refine take_ (i := 3) (N := some 43) (v := ?_) (a' := ?_) #[true, true, true, true, true, false, false, false, false] rfl rfl (by kernel_rfl) (fun _ _ _ h => h) (Or.inl ⟨by rfl, ?_⟩) hHeld ?_ ?_
          rotate_left
          · rintro w' ⟨s0, s1, s2⟩
            go_simp
            with_reducible rfl
          rotate_left
          · simp only [Act.put, List.setIfInBounds_toArray, List.set_cons_zero, List.set_cons_succ, i64_w, i32_w]
            rfl
          refine take_ (i := 5) (N := some 45) (v := ?_) (a' := ?_) #[true, true, true, true, true, true, false, false, false] rfl rfl (by kernel_rfl) (fun _ _ _ h => h) (Or.inl ⟨by rfl, ?_⟩) hHeld ?_ ?_
          rotate_left
          · rintro w' ⟨s0, s1, s2⟩
            go_simp
            with_reducible rfl
          rotate_left
          · simp only [Act.put, List.setIfInBounds_toArray, List.set_cons_zero, List.set_cons_succ, i64_w, i32_w]
            rfl
          refine take_ (i := 6) (N := some 46) (v := ?_) (a' := ?_) #[true, true, true, true, true, true, true, false, false] rfl rfl (by kernel_rfl) (fun _ _ _ h => h) (Or.inl ⟨by rfl, ?_⟩) hHeld ?_ ?_
          rotate_left
          · rintro w' ⟨s0, s1, s2⟩
            refine Eq.trans (exec_lookup2 61 (.tmp 43) (.tmp 45) false rfl (vx := .map (some M)) (vy := .int .i64 x.1.1) (by rfl) (by rfl) s2) ?_
            with_reducible rfl
          rotate_left
          · simp only [Act.put, List.setIfInBounds_toArray, List.set_cons_zero, List.set_cons_succ, i64_w, i32_w]
            rfl
          refine one_ (i := 7) (N := some 11) #[true, true, true, true, true, true, true, true, false] rfl rfl (by kernel_rfl) (by decide) (fun K hK => ?_)
          refine value_ (w1 := W2.drew.alloc (.cells zp 67)) (v := .pointer (some ⟨W2.heap.size, 0, none⟩)) (by rfl) rfl (exec_alloc 67 rfl zp hz7) ?_
          refine hK.out _ _ ⟨ca1'.out, ca2'.out, ca3'.out⟩ (fun hHeld => ?_)
          clear hK K
          refine norm_ (a' := ?_) ?_ ?_
          rotate_left
          · show Act.put _ (some 11) _ = _
            simp only [Act.put, List.setIfInBounds_toArray, List.set_cons_zero, List.set_cons_succ, i64_w, i32_w]
            rfl
          refine last_ (i := 8) (N := none) #[true, true, true, true, true, true, true, true, true] rfl rfl (by kernel_rfl) (by decide) (fun K hK => ?_)
          refine skip_ (w1 := W4) (by rfl) rfl (exec_store 67 (.tmp 11) (.tmp 46) rfl hs4'.out) ?_
          refine hK.out _ _ ?_
          clear hK K
          refine done_ (by kernel_rfl) ?_
          go_upto_region 9 with fail
          refine start_ (n := 5) (S := fun w' => True) (ds := [4]) #[false, false, false, false, false] (by kernel_rfl) rfl rfl trivial (fun hHeld => ?_)
          refine pure_ (i := 0) (N := some 47) (v := ?_) (a' := ?_) #[true, false, false, false, false] rfl rfl (by kernel_rfl) (fun _ _ _ h => h) (Or.inl ⟨by rfl, ?_⟩) ?_ ?_
          rotate_left
          · intro w'
            go_simp
            with_reducible rfl
          rotate_left
          · simp only [Act.put, List.setIfInBounds_toArray, List.set_cons_zero, List.set_cons_succ, i64_w, i32_w]
            rfl
          refine pure_ (i := 1) (N := some 48) (v := ?_) (a' := ?_) #[true, true, false, false, false] rfl rfl (by kernel_rfl) (fun _ _ _ h => h) (Or.inl ⟨by rfl, ?_⟩) ?_ ?_
          rotate_left
          · intro w'
            go_simp
            with_reducible rfl
          rotate_left
          · simp only [Act.put, List.setIfInBounds_toArray, List.set_cons_zero, List.set_cons_succ, i64_w, i32_w]
            rfl
          refine pure_ (i := 2) (N := some 49) (v := ?_) (a' := ?_) #[true, true, true, false, false] rfl rfl (by kernel_rfl) (fun _ _ _ h => h) (Or.inl ⟨by rfl, ?_⟩) ?_ ?_
          rotate_left
          · intro w'
            go_simp
            with_reducible rfl
          rotate_left
          · simp only [Act.put, List.setIfInBounds_toArray, List.set_cons_zero, List.set_cons_succ, i64_w, i32_w]
            rfl
          refine pure_ (i := 3) (N := some 50) (v := ?_) (a' := ?_) #[true, true, true, true, false] rfl rfl (by kernel_rfl) (fun _ _ _ h => h) (Or.inl ⟨by rfl, ?_⟩) ?_ ?_
          rotate_left
          · intro w'
            go_simp
            with_reducible rfl
          rotate_left
          · simp only [Act.put, List.setIfInBounds_toArray, List.set_cons_zero, List.set_cons_succ, i64_w, i32_w]
            rfl
          refine last_ (i := 4) (N := some 51) #[true, true, true, true, true] rfl rfl (by kernel_rfl) (by decide) (fun K hK => ?_)
          refine value_ (w1 := W5) (v := .int .i64 (n : Int)) (by rfl) rfl (exec_copy (.tmp 48) (.tmp 50) 30 30 rfl (by rfl) (by rfl) hcp'.out) ?_
          refine hK.out _ _ ?_
          clear hK K
          refine norm_ (a' := ?_) ?_ ?_
          rotate_left
          · show Act.put _ (some 51) _ = _
            simp only [Act.put, List.setIfInBounds_toArray, List.set_cons_zero, List.set_cons_succ, i64_w, i32_w]
            rfl
          refine done_ (by kernel_rfl) ?_
          clear hz7
          go_upto_region 10 with fail
          refine start_ (n := 8) (S := fun w' => w'.cell? ⟨d, 1, none⟩ = some (.map (some M)) ∧ w'.cell? ⟨wr.heap.size, 0, none⟩ = some (.int .i64 x.1.1)) (ds := [7]) #[false, false, false, false, false, false, false, false] (by kernel_rfl) rfl rfl ⟨cd5'.out, cx5'.out⟩ (fun hHeld => ?_)
          refine pure_ (i := 0) (N := some 52) (v := ?_) (a' := ?_) #[true, false, false, false, false, false, false, false] rfl rfl (by kernel_rfl) (fun _ _ _ h => h) (Or.inl ⟨by rfl, ?_⟩) ?_ ?_
          rotate_left
          · intro w'
            go_simp
            with_reducible rfl
          rotate_left
          · simp only [Act.put, List.setIfInBounds_toArray, List.set_cons_zero, List.set_cons_succ, i64_w, i32_w]
            rfl
          refine pure_ (i := 1) (N := some 53) (v := ?_) (a' := ?_) #[true, true, false, false, false, false, false, false] rfl rfl (by kernel_rfl) (fun _ _ _ h => h) (Or.inl ⟨by rfl, ?_⟩) ?_ ?_
          rotate_left
          · intro w'
            go_simp
            with_reducible rfl
          rotate_left
          · simp only [Act.put, List.setIfInBounds_toArray, List.set_cons_zero, List.set_cons_succ, i64_w, i32_w]
            rfl
          refine pure_ (i := 2) (N := some 54) (v := ?_) (a' := ?_) #[true, true, true, false, false, false, false, false] rfl rfl (by kernel_rfl) (fun _ _ _ h => h) (Or.inl ⟨by rfl, ?_⟩) ?_ ?_
          rotate_left
          · intro w'
            go_simp
            with_reducible rfl
          rotate_left
          · simp only [Act.put, List.setIfInBounds_toArray, List.set_cons_zero, List.set_cons_succ, i64_w, i32_w]
            rfl
          refine pure_ (i := 4) (N := some 56) (v := ?_) (a' := ?_) #[true, true, true, false, true, false, false, false] rfl rfl (by kernel_rfl) (fun _ _ _ h => h) (Or.inl ⟨by rfl, ?_⟩) ?_ ?_
          rotate_left
          · intro w'
            go_simp
            with_reducible rfl
          rotate_left
          · simp only [Act.put, List.setIfInBounds_toArray, List.set_cons_zero, List.set_cons_succ, i64_w, i32_w]
            rfl
          refine take_ (i := 3) (N := some 55) (v := ?_) (a' := ?_) #[true, true, true, true, true, false, false, false] rfl rfl (by kernel_rfl) (fun _ _ _ h => h) (Or.inl ⟨by rfl, ?_⟩) hHeld ?_ ?_
          rotate_left
          · rintro w' ⟨s0, s1⟩
            go_simp
            with_reducible rfl
          rotate_left
          · simp only [Act.put, List.setIfInBounds_toArray, List.set_cons_zero, List.set_cons_succ, i64_w, i32_w]
            rfl
          refine take_ (i := 5) (N := some 57) (v := ?_) (a' := ?_) #[true, true, true, true, true, true, false, false] rfl rfl (by kernel_rfl) (fun _ _ _ h => h) (Or.inl ⟨by rfl, ?_⟩) hHeld ?_ ?_
          rotate_left
          · rintro w' ⟨s0, s1⟩
            go_simp
            with_reducible rfl
          rotate_left
          · simp only [Act.put, List.setIfInBounds_toArray, List.set_cons_zero, List.set_cons_succ, i64_w, i32_w]
            rfl
          refine one_ (i := 6) (N := some 58) #[true, true, true, true, true, true, true, false] rfl rfl (by kernel_rfl) (by decide) (fun K hK => ?_)
          refine value_ (w1 := W5.drew) (v := .agg og) (by rfl) rfl (exec_load 67 (.tmp 11) rfl hl7'.out) ?_
          refine hK.out _ _ ⟨cd5'.out, cx5'.out⟩ (fun hHeld => ?_)
          clear hK K
          refine norm_ (a' := ?_) ?_ ?_
          rotate_left
          · show Act.put _ (some 58) _ = _
            simp only [Act.put, List.setIfInBounds_toArray, List.set_cons_zero, List.set_cons_succ, i64_w, i32_w]
            rfl
          refine last_ (i := 7) (N := none) #[true, true, true, true, true, true, true, true] rfl rfl (by kernel_rfl) (by decide) (fun K hK => ?_)
          refine skip_ (w1 := W6) (by rfl) rfl (exec_mapUpdate 61 (.tmp 55) (.tmp 57) (.tmp 58) rfl hmu'.out) ?_
          refine hK.out _ _ ?_
          clear hK K
          refine done_ (by kernel_rfl) ?_
          have hkb : k < 1073741824 := by have := HT.out; have := HK.out.1; omega
          go_wp2
          go_roundw
          case rel => exact ⟨k + 1, by go_num, HK.out.1, HE⟩
          case measure => exact meas_lt HK.out.1 (by go_num)
        clear hK1 hz7 hst4 hsz5 hz9
        have hex : ∀ (n : Nat) (z : Int), z = (n : Int) → (Value.int .i64 z) = .int .i64 (n : Int) := fun n z e => by rw [e]
        by_cases ht : (k : Int) = torn
        · have t0 : ((k : Int) == torn) = true := beq_iff_eq.mpr ht
          have t1 : decide ((k : Int) = torn) = true := decide_eq_true ht
          have hn : mendN keep torn cut k = (max 0 (min cut 512)).toNat := if_pos ht
          by_cases hc0 : cut ≤ 0
          · have e : (mendN keep torn cut k : Int) = 0 := by rw [hn]; omega
            have hq := part _ rfl
            rw [e] at hq
            have q1 : (512 < cut) = False := eq_false (by omega)
            have q2 : (0 < cut) = False := eq_false (by omega)
            clear part ht hn hc0 e
            go_wp2
            exact hq _ _ _ _ _ _ _ _ _ _ _ _ _ _ _ _ _ _
          · by_cases hc5 : 512 < cut
            · have e : (mendN keep torn cut k : Int) = 512 := by rw [hn]; omega
              have hq := part _ rfl
              rw [e] at hq
              have q1 : (512 < cut) = True := eq_true hc5
              clear part ht hn hc0 hc5 e
              go_wp2
              exact hq _ _ _ _ _ _ _ _ _ _ _ _ _ _ _ _ _ _
            · have e : (mendN keep torn cut k : Int) = cut := by rw [hn]; omega
              have hq := part _ rfl
              rw [e] at hq
              have q1 : (512 < cut) = False := eq_false hc5
              have q2 : (0 < cut) = True := eq_true (by omega)
              clear part ht hn hc0 hc5 e
              go_wp2
              exact hq _ _ _ _ _ _ _ _ _ _ _ _ _ _ _ _ _ _
        · have t0 : ((k : Int) == torn) = false := beq_eq_false_iff_ne.mpr ht
          have t1 : decide ((k : Int) = torn) = false := decide_eq_false ht
          have hn : mendN keep torn cut k = if keep.getD k false = true then 512 else 0 := if_neg ht
          by_cases hkl : k < keep.length
          · obtain ⟨ad, ea, hca⟩ := Kd.at_bool HKR.out (k : Int) (by omega) (by omega)
            subst ea
            rw [Int.toNat_natCast] at hca
            have hrk : rdOf false keep (k : Int) = keep.getD k false := by simp [rdOf]
            rw [hrk] at hca
            have hcb : W2.cell? (ad.add k) = some (.bool (keep.getD k false)) := by
              have hbl := World.block_lt_of_cell? w _ hca
              rw [HW2.out.2]
              refine (World.cell?_of_block (Below.heap_alloc wr _ _ (Nat.lt_of_lt_of_le hbl HS.out.1.size))).trans ?_
              refine (World.cell?_of_block (HS.out.1.block _ hbl (fun e => HKM.out (List.ne_nil_of_length_pos (by omega)) ad rfl ?_))).trans hca
              rw [← e]
              unfold Addr.add
              split <;> rfl
            have l1 : ((k : Int) < (keep.length : Int)) = True := eq_true (by omega)
            have l2 : decide ((k : Int) < (keep.length : Int)) = true := decide_eq_true (by omega)
            have l3 : (k < keep.length) = True := eq_true hkl
            have l4 : decide (k < keep.length) = true := decide_eq_true hkl
            cases hkb : keep.getD k false with
            | true =>
              rw [hkb] at hcb
              have e : (mendN keep torn cut k : Int) = 512 := by rw [hn, hkb]; rfl
              have hq := part _ rfl
              rw [e] at hq
              clear part ht hn e hkl hca hrk hkb
              go_wp2
              exact hq _ _ _ _ _ _ _ _ _ _ _ _ _ _ _ _ _ _
            | false =>
              rw [hkb] at hcb
              have e : (mendN keep torn cut k : Int) = 0 := by rw [hn, hkb]; rfl
              have hq := part _ rfl
              rw [e] at hq
              clear part ht hn e hkl hca hrk hkb
              go_wp2
              exact hq _ _ _ _ _ _ _ _ _ _ _ _ _ _ _ _ _ _
          · have e : (mendN keep torn cut k : Int) = 0 := by rw [hn, List.getD_eq_getElem?_getD, List.getElem?_eq_none (by omega)]; rfl
            have hq := part _ rfl
            rw [e] at hq
            have l1 : ((k : Int) < (keep.length : Int)) = False := eq_false (by omega)
            have l2 : decide ((k : Int) < (keep.length : Int)) = false := decide_eq_false (by omega)
            have l3 : (k < keep.length) = False := eq_false hkl
            have l4 : decide (k < keep.length) = false := decide_eq_false hkl
            clear part ht hn e hkl
            go_wp2
            exact hq _ _ _ _ _ _ _ _ _ _ _ _ _ _ _ _ _ _
    · have hke : k = s.cache.length := by omega
      subst hke
      have b0 : decide (s.cache.length < s.cache.length) = false := decide_eq_false (by omega)
      have b1 : decide ((s.cache.length : Int) < (s.cache.length : Int)) = false := decide_eq_false (by omega)
      have hb := (HS.out.1.block d HD.out.lt (fun e => HD.out.dM e)).trans HD.out.blk
      have c2r : wr.cell? ⟨d, 2, none⟩ = some (.slice A s.cache.length c) := (blk_cell hb 2).trans rfl
      have f2r := blk_frozen hb 2
      have c3r : wr.cell? ⟨d, 3, none⟩ = some (.int .i64 s.left) := (blk_cell hb 3).trans rfl
      have f3r := blk_frozen hb 3
      have c4r : wr.cell? ⟨d, 4, none⟩ = some (.bool s.down) := (blk_cell hb 4).trans rfl
      have f4r := blk_frozen hb 4
      have HE : Aside0 (DD (((wr.setCell ⟨d, 2, none⟩ (.slice none 0 0)).setCell ⟨d, 3, none⟩ (.int .i64 (-1))).setCell ⟨d, 4, none⟩ (.bool false)) base d M (N + s.cache.length) (.slice none 0 0) (mendS s keep torn cut)) := ⟨{
        bd := HD.out.bd
        bm := HD.out.bm
        blk := blk_put (blk_put (blk_put hb 2 _ rfl) 3 _ rfl) 4 _ rfl
        mp := ((HS.out.2.keep (Below.heap_setCell wr _ _ M (fun e => HD.out.dM e.symm))).keep (Below.heap_setCell _ _ _ M (fun e => HD.out.dM e.symm))).keep (Below.heap_setCell _ _ _ M (fun e => HD.out.dM e.symm))
        row := Kd.R_nil _ _ _ _ _
        tot := by have := HT.out; simpa [mendS] using this
        p1 := HD.out.p1
        p2 := HD.out.p2
        l512 := mendL_len HL5.out (fun x hx => (HC.out x hx).1) _ (Nat.le_refl _)
        c512 := fun x hx => by simp [mendS] at hx
        lf := by simp [mendS] }⟩
      have HE2 : Aside0 (MV d M (.slice A s.cache.length c) (.slice none 0 0) w (((wr.setCell ⟨d, 2, none⟩ (.slice none 0 0)).setCell ⟨d, 3, none⟩ (.int .i64 (-1))).setCell ⟨d, 4, none⟩ (.bool false))) := ⟨(((Kp.wide HS.out.1 (fun j e => .inr (.inl e))).trans (Kp.set (S := FD d M (.slice A s.cache.length c)) wr _ _ (.inl rfl)) (fun j _ e => e)).trans (Kp.set (S := FD d M (.slice A s.cache.length c)) _ _ _ (.inl rfl)) (fun j _ e => e)).trans (Kp.set (S := FD d M (.slice A s.cache.length c)) _ _ _ (.inl rfl)) (fun j _ e => e), fun k hk => by simp [Value.ownBlock] at hk⟩
      clear hlt hk hb
      go_wp2
      go_end0
      exact ⟨⟨_, rfl⟩, HE.out, HE2.out⟩
end Go.Proofs.Ytehgbikleiaagaa.P
end
section
namespace Go.Proofs.Ytehgbikleiaagaa.P
open Go.RowKit Go.Proofs.YtehgbikleiaagaaW.PrintWords Go.Proofs.YtehgbikleiaagaaW.PrintLast Go.Proofs.YtehgbikleiaagaaW.PrintMore
attribute [local go_sem] max2_int min2_int max_two min_two max_three min_three max_four min_four
set_option linter.unusedVariables false
set_option linter.unusedSimpArgs false
structure TF (base : Nat) (w w' : World) : Prop where
  b : Below base w w'
  size : w.heap.size ≤ w'.heap.size
  blk : ∀ (g : Nat) (cs : Array Value) (t : TypeId) (fr : Nat × Nat), w.heap[g]? = some (Obj.cells cs t fr) → t ≠ 64 → t ≠ 69 → w'.heap[g]? = some (Obj.cells cs t fr)
theorem TF.refl (base : Nat) (w : World) : TF base w w := ⟨Below.refl _ _, Nat.le_refl _, fun _ _ _ _ h _ _ => h⟩
theorem TF.trans {base : Nat} {a b c : World} (h : TF base a b) (k : TF base b c) : TF base a c := ⟨h.b.trans k.b, Nat.le_trans h.size k.size, fun g cs t fr hb h1 h2 => k.blk g cs t fr (h.blk g cs t fr hb h1 h2) h1 h2⟩
theorem TF.mono {base base' : Nat} {a b : World} (h : TF base a b) (hb : base' ≤ base) : TF base' a b := ⟨h.b.mono hb, h.size, h.blk⟩
theorem TF.of_below {base : Nat} {a b : World} (h : Below a.heap.size a b) (hb : base ≤ a.heap.size) : TF base a b := ⟨h.mono hb, h.size, fun g cs t fr hg _ _ => blk_below hg h⟩
theorem DD.fd_typed {W : World} {base d M N : Nat} {v : Value} {s : Dk} (h : DD W base d M N v s) {g : Nat} {cs : Array Value} {t : TypeId} {fr : Nat × Nat} (hb : W.heap[g]? = some (.cells cs t fr)) (h1 : t ≠ 64) (h2 : t ≠ 69) : ¬ FD d M v g := by
  rintro (rfl | rfl | e)
  · have := h.blk
    rw [hb] at this
    cases this
    exact h1 rfl
  · obtain ⟨es, clock, hm⟩ := h.mp.blk
    rw [hb] at hm
    cases hm
  · obtain ⟨cells, hc⟩ := Kd.R_typed h.row g e.symm
    rw [hb] at hc
    cases hc
    exact h2 rfl
theorem DD.tf {w w' : World} {base d M N : Nat} {v v' : Value} {s : Dk} (h : DD w base d M N v s) (hm : MV d M v v' w w') : TF base w w' :=
  ⟨h.below hm, hm.kp.size, fun g cs t fr hb h1 h2 => (hm.kp.block g (blk_lt hb) (h.fd_typed hb h1 h2)).trans hb⟩
theorem R_tf {α : Type} {d : Kd α} {e b base : Nat} {ok : Nat → Prop} {w w' : World} {v : Value} {xs : List α} (h : d.R e w b ok v xs) (ht : TF base w w') (hq : ∀ q, q ∈ e :: d.E → q ≠ 64 ∧ q ≠ 69) : d.R e w' b ok v xs := by
  refine Kd.R_mono (Kd.R_move (Kd.R_bound h) (fun k hk => ?_)) (fun _ hk => hk.1)
  obtain ⟨_, _, _, q, hqm, cells, hc⟩ := hk
  rw [hc, ht.blk k cells q _ hc (hq q hqm).1 (hq q hqm).2]
theorem R5_tf {b base : Nat} {ok : Nat → Prop} {w w' : World} {v : Value} {xs : List Int} (h : Kd.R (Kd.int .u8) 5 w b ok v xs) (ht : TF base w w') : Kd.R (Kd.int .u8) 5 w' b ok v xs :=
  R_tf h ht (fun q hq => by simp [Kd.int, Kd.scalar] at hq; subst hq; decide)
def DS (W : World) (base d : Nat) (s : Dk) (C : Nat) : Prop := ∃ M N v, DD W base d M N v s ∧ N + s.cache.length ≤ C
section
variable {w w' : World} {base d C : Nat} {s : Dk}
theorem DS.step (h : DS w base d s C) (hb : Below w.heap.size w w') : DS w' base d s C := by
  obtain ⟨M, N, v, h, hc⟩ := h
  exact ⟨M, N, v, h.step hb, hc⟩
theorem DS.base_le (h : DS w base d s C) : base ≤ w.heap.size := by
  obtain ⟨M, N, v, h, hc⟩ := h
  exact Nat.le_trans h.bd (Nat.le_of_lt h.lt)
theorem DS.tf (h : DS w base d s C) (hb : Below w.heap.size w w') : TF base w w' := TF.of_below hb h.base_le
theorem DS.more {C' : Nat} (h : DS w base d s C) (hC : C ≤ C') : DS w base d s C' := by
  obtain ⟨M, N, v, h, hc⟩ := h
  exact ⟨M, N, v, h, Nat.le_trans hc hC⟩
theorem DS.p1 (h : DS w base d s C) : 1 ≤ s.pages := by obtain ⟨M, N, v, h, hc⟩ := h; exact h.p1
theorem DS.l512 (h : DS w base d s C) : ∀ i, (s.last i).length = 512 := by obtain ⟨M, N, v, h, hc⟩ := h; exact h.l512
theorem DS.c512 (h : DS w base d s C) : ∀ x ∈ s.cache, x.2.length = 512 ∧ 0 ≤ x.1 ∧ x.1 < s.pages := by obtain ⟨M, N, v, h, hc⟩ := h; exact h.c512
theorem DS.has_len (h : DS w base d s C) (n : Int) : (hasP s n).length = 512 := hasP_len h.l512 (fun x hx => (h.c512 x hx).1) n
end
theorem ds_new (p : Int) (h0 : 1 ≤ p) (h1 : p ≤ 4096) (w : World) :
    Calls Try.prog 10 #[.int .i64 p] w fun e w' => ∃ d, e = .returned (.tuple #[.pointer (some ⟨d, 0, none⟩), .int .i64 0]) ∧ DS w' w.heap.size d (newS p) 0 ∧ Below w.heap.size w w' :=
  (new_calls p h0 h1 w).mono fun e w' ⟨d, M, he, hd, hb⟩ => ⟨d, he, ⟨M, 0, _, hd, by simp [newS]⟩, hb⟩
def writeE (s : Dk) (n : Int) (b : List Int) : Int := if lookP s n ≠ 0 then lookP s n else if b.length ≠ 512 then 3 else if s.left = 0 then 9 else 0
def writeD (s : Dk) (n : Int) (b : List Int) : Dk := if lookP s n ≠ 0 then s else if b.length ≠ 512 then s else if s.left = 0 then stepS s else writeS s n b
theorem row_range {w : World} {b g cap : Nat} {ok : Nat → Prop} {xs : List Int} (h : Kd.R (Kd.int .u8) 5 w b ok (.slice (some ⟨g, 0, none⟩) xs.length cap) xs) : w.rangeAt g 0 (bvs xs) := by
  intro j u hj
  have hlt : j < xs.length := by
    have := (List.getElem?_eq_some_iff.1 hj).1
    rwa [bvs_len] at this
  have hc := (Kd.R_celln 0 h (j : Int) (by omega) (by omega)).1
  rw [Int.toNat_natCast] at hc
  rw [Nat.zero_add, hc]
  simp only [bvs, List.getElem?_map, List.getElem?_eq_getElem hlt, Option.map_some, Option.some.injEq] at hj
  rw [← hj]
  simp [rdOf, List.getElem?_eq_getElem hlt]
theorem ds_write {base d C : Nat} {s : Dk} (n : Int) (own : Value) (b : List Int) {b2 : Nat} {ok : Nat → Prop} (w : World) (h : DS w base d s C) (hC : C < 1073741824) (ho : Kd.R (Kd.int .u8) 5 w b2 ok own b) :
    Calls Try.prog 12 #[.pointer (some ⟨d, 0, none⟩), .int .i64 n, own] w fun e w' => e = .returned (.int .i64 (writeE s n b)) ∧ DS w' base d (writeD s n b) (C + 1) ∧ TF base w w' := by
  obtain ⟨M, N, v, h, hc⟩ := h
  have hbl : base ≤ w.heap.size := Nat.le_trans h.bd (Nat.le_of_lt h.lt)
  unfold writeE writeD
  by_cases hl : lookP s n ≠ 0
  · rw [if_pos hl, if_pos hl]
    obtain ⟨A, c, e⟩ := Kd.R_slice ho
    subst e
    exact (write_look n A b.length c hl w h).mono fun e w' ⟨he, hb⟩ => ⟨he, ⟨M, N, v, h.step hb, by omega⟩, TF.of_below hb hbl⟩
  · rw [if_neg hl, if_neg hl]
    have hl0 : lookP s n = 0 := Decidable.not_not.1 hl
    by_cases h5 : b.length ≠ 512
    · rw [if_pos h5, if_pos h5]
      obtain ⟨A, c, e⟩ := Kd.R_slice ho
      subst e
      exact (write_len n A b.length c hl0 h5 w h).mono fun e w' ⟨he, hb⟩ => ⟨he, ⟨M, N, v, h.step hb, by omega⟩, TF.of_below hb hbl⟩
    · rw [if_neg h5, if_neg h5]
      have h50 : b.length = 512 := Decidable.not_not.1 h5
      by_cases hs : s.left = 0
      · rw [if_pos hs, if_pos hs]
        obtain ⟨A, c, e⟩ := Kd.R_slice ho
        subst e
        rw [h50]
        exact (write_down n A c hl0 hs w h).mono fun e w' ⟨he, hd, hm⟩ => ⟨he, ⟨M, N, v, hd, by rw [stepS_cache]; omega⟩, h.tf hm⟩
      · rw [if_neg hs, if_neg hs]
        obtain ⟨g, cap, e, _, hg, cells, hcell⟩ := Kd.R_form ho (by omega)
        subst e
        have hr := row_range ho
        rw [h50]
        exact (write_ok n b g cap hl0 h50 hs w h (by omega) hg (h.fd_typed hcell (by decide) (by decide)) hr).mono fun e w' ⟨he, v', hd, hm⟩ => ⟨he, ⟨M, N, v', hd, by simp [writeS]; omega⟩, h.tf hm⟩
def syncE (s : Dk) : Int := if s.down = true then 9 else if s.left = 0 then 9 else 0
def syncD (s : Dk) : Dk := if s.down = true then s else if s.left = 0 then stepS s else syncS s
theorem ds_sync {base d C : Nat} {s : Dk} (w : World) (h : DS w base d s C) :
    Calls Try.prog 13 #[.pointer (some ⟨d, 0, none⟩)] w fun e w' => e = .returned (.int .i64 (syncE s)) ∧ DS w' base d (syncD s) C ∧ TF base w w' := by
  obtain ⟨M, N, v, h, hc⟩ := h
  have hbl : base ≤ w.heap.size := Nat.le_trans h.bd (Nat.le_of_lt h.lt)
  unfold syncE syncD
  by_cases hd : s.down = true
  · rw [if_pos hd, if_pos hd]
    exact (sync_down hd w h).mono fun e w' ⟨he, hb⟩ => ⟨he, ⟨M, N, v, h.step hb, hc⟩, TF.of_below hb hbl⟩
  · rw [if_neg hd, if_neg hd]
    have hd0 : s.down = false := by simpa using hd
    by_cases hs : s.left = 0
    · rw [if_pos hs, if_pos hs]
      exact (sync_fail hd0 hs w h).mono fun e w' ⟨he, hd, hm⟩ => ⟨he, ⟨M, N, v, hd, by rw [stepS_cache]; exact hc⟩, h.tf hm⟩
    · rw [if_neg hs, if_neg hs]
      exact (sync_ok hd0 hs w h).mono fun e w' ⟨he, hd, hm⟩ => ⟨he, ⟨M, _, _, hd, by simpa [syncS] using hc⟩, h.tf hm⟩
theorem ds_mend {base d C : Nat} {s : Dk} (A2 : Option Addr) (c3 : Nat) (keep : List Bool) (torn cut : Int) (w : World) (h : DS w base d s C) (hkr : Kd.C Kd.bool w A2 keep.length keep) :
    Calls Try.prog 14 #[.pointer (some ⟨d, 0, none⟩), .slice A2 keep.length c3, .int .i64 torn, .int .i64 cut] w fun e w' => (∃ u, e = .returned u) ∧ DS w' base d (mendS s keep torn cut) C ∧ TF base w w' := by
  obtain ⟨M, N, v, h, hc⟩ := h
  have hkm : keep ≠ [] → ∀ a, A2 = some a → a.block ≠ M := by
    rintro hne a rfl e
    have hpos : 0 < keep.length := List.length_pos_iff.2 hne
    obtain ⟨ad, e1, hcell⟩ := Kd.at_bool hkr 0 (by omega) (by omega)
    injection e1 with e1
    subst e1
    obtain ⟨es, clock, hm⟩ := h.mp.blk
    have hb : (a.add (0 : Int).toNat).block = M := by rw [← e]; unfold Addr.add; split <;> rfl
    unfold World.cell? at hcell
    rw [hb, hm] at hcell
    cases hcell
  exact (mend_calls A2 c3 keep torn cut w h hkr hkm).mono fun e w' ⟨he, hd, hm⟩ => ⟨he, ⟨M, _, _, hd, by simpa [mendS] using hc⟩, h.tf hm⟩
theorem ds_read {base d C : Nat} {s : Dk} (n : Int) (w : World) (h : DS w base d s C) :
    Calls Try.prog 15 #[.pointer (some ⟨d, 0, none⟩), .int .i64 n] w fun e w' => ∃ v, e = .returned (.tuple #[v, .int .i64 (lookP s n)]) ∧ Below w.heap.size w w' ∧
      ((lookP s n ≠ 0 ∧ v = .slice none 0 0) ∨ (lookP s n = 0 ∧ ∃ g, w.heap.size ≤ g ∧ v = .slice (some ⟨g, 0, none⟩) 512 512 ∧ w'.heap[g]? = some (.cells (bvs (hasP s n)).toArray 67 (0, 0)))) := by
  obtain ⟨M, N, v, h, hc⟩ := h
  by_cases hl : lookP s n = 0
  · rw [hl]
    exact (read_ok n hl w h).mono fun e w' ⟨g, hg, he, hc, hb⟩ => ⟨_, he, hb, .inr ⟨rfl, g, hg, rfl, hc⟩⟩
  · exact (read_bad n hl w h).mono fun e w' ⟨he, hb⟩ => ⟨_, he, hb, .inl ⟨hl, rfl⟩⟩
theorem ds_arm {base d C : Nat} {s : Dk} (n : Int) (hn : n < 9223372036854775808) (w : World) (h : DS w base d s C) :
    Calls Try.prog 16 #[.pointer (some ⟨d, 0, none⟩), .int .i64 n] w fun e w' => (∃ u, e = .returned u) ∧ DS w' base d { s with left := max (-1) n } C ∧ TF base w w' := by
  obtain ⟨M, N, v, h, hc⟩ := h
  exact (arm_calls n hn w h).mono fun e w' ⟨he, hd, hm⟩ => ⟨he, ⟨M, _, _, hd, hc⟩, h.tf hm⟩
theorem ds_down {base d C : Nat} {s : Dk} (w : World) (h : DS w base d s C) :
    Calls Try.prog 17 #[.pointer (some ⟨d, 0, none⟩)] w fun e w' => e = .returned (.bool s.down) ∧ Below w.heap.size w w' := by
  obtain ⟨M, N, v, h, hc⟩ := h
  exact down_calls w h
theorem ds_pages {base d C : Nat} {s : Dk} (w : World) (h : DS w base d s C) :
    Calls Try.prog 22 #[.pointer (some ⟨d, 0, none⟩)] w fun e w' => e = .returned (.int .i64 s.pages) ∧ Below w.heap.size w w' := by
  obtain ⟨M, N, v, h, hc⟩ := h
  exact pages_calls w h
theorem ds_pending {base d C : Nat} {s : Dk} (w : World) (h : DS w base d s C) :
    Calls Try.prog 18 #[.pointer (some ⟨d, 0, none⟩)] w fun e w' => ∃ v', e = .returned v' ∧ Kd.R (Kd.int .i64) 3 w' w.heap.size (fun _ => True) v' (s.cache.map (·.1)) ∧ Below w.heap.size w w' := by
  obtain ⟨M, N, v, h, hc⟩ := h
  exact pending_calls w h
theorem ds_image {base d C : Nat} {s : Dk} (w : World) (h : DS w base d s C) :
    Calls Try.prog 21 #[.pointer (some ⟨d, 0, none⟩)] w fun e w' => ∃ v', e = .returned v' ∧ Kd.R (Kd.int .u8) 5 w' w.heap.size (fun _ => True) v' (imageP s s.pages.toNat) ∧ Below w.heap.size w w' := by
  obtain ⟨M, N, v, h, hc⟩ := h
  exact image_calls w h
end Go.Proofs.Ytehgbikleiaagaa.P
end
section
namespace Go.Proofs.Ytehgbikleiaagaa.P
open Go.RowKit Go.Proofs.YtehgbikleiaagaaW.PrintWords Go.Proofs.YtehgbikleiaagaaW.PrintLast Go.Proofs.YtehgbikleiaagaaW.PrintMore
attribute [local go_sem] max2_int min2_int max_two min_two max_three min_three max_four min_four
set_option linter.unusedVariables false
set_option linter.unusedSimpArgs false
theorem u25p : Try.prog.underlying 25 = some (.pointer (Try.prog.pointee 25)) := by kernel_rfl
theorem guard_ptr (op : BinOp) (t : TypeId) (x y : Operand) (a b : Option Addr) (w : World) : (eqGuard op t x y (.pointer a) (.pointer b)).run Try.prog w = .ok () w := by cases op <;> rfl
theorem eql_ptr (p : Addr) (w : World) : (binOp .eql 25 (.pointer (some p)) (.pointer none)).run Try.prog w = .ok (.bool false) w := run_eql_pointer_nil w 25 (some p) u25p
theorem neq_ptr (p : Addr) (w : World) : (binOp .neq 25 (.pointer (some p)) (.pointer none)).run Try.prog w = .ok (.bool true) w := run_neq_pointer_nil w 25 (some p) u25p
attribute [local go_sem] guard_ptr eql_ptr neq_ptr
end Go.Proofs.Ytehgbikleiaagaa.P
end
section
namespace Go.Proofs.Ytehgbikleiaagaa.P
open Go.RowKit Go.Proofs.YtehgbikleiaagaaW.PrintWords Go.Proofs.YtehgbikleiaagaaW.PrintLast Go.Proofs.YtehgbikleiaagaaW.PrintMore
set_option linter.unusedVariables false
set_option linter.unusedSimpArgs false
structure S32 where
  f0 : Int
  f1 : Int
  f2 : Int
  f3 : List Int
  f4 : Bool
  f5 : List Bool
  f6 : Int
  f7 : Int
def z32 : S32 := ⟨0, 0, 0, [], false, [], 0, 0⟩
def k32 : Kd S32 := Kd.iso (Kd.pair (Kd.int .i64) (Kd.pair (Kd.int .i64) (Kd.pair (Kd.int .u8) (Kd.pair (Kd.slice 5 (Kd.int .u8)) (Kd.pair Kd.bool (Kd.pair (Kd.slice 4 Kd.bool) (Kd.pair (Kd.int .i64) (Kd.int .i64)))))))) (fun x : S32 => (x.f0, x.f1, x.f2, x.f3, x.f4, x.f5, x.f6, x.f7))
theorem k32_open {w : World} {x : S32} {cs : List Value} (h : k32.K w x cs) : ∃ A3 c3 A5 c5, cs = [.int .i64 x.f0, .int .i64 x.f1, .int .u8 x.f2, .slice A3 x.f3.length c3, .bool x.f4, .slice A5 x.f5.length c5, .int .i64 x.f6, .int .i64 x.f7] ∧ x.f3.length ≤ c3 ∧ (Kd.int .u8).C w A3 x.f3.length x.f3 ∧ x.f5.length ≤ c5 ∧ Kd.bool.C w A5 x.f5.length x.f5 := by
  obtain ⟨_, _, rfl, rfl, ⟨_, _, rfl, rfl, ⟨_, _, rfl, rfl, ⟨_, _, rfl, ⟨A3, c3, rfl, l3, g3⟩, ⟨_, _, rfl, rfl, ⟨_, _, rfl, ⟨A5, c5, rfl, l5, g5⟩, ⟨_, _, rfl, rfl, rfl⟩⟩⟩⟩⟩⟩⟩ := h
  exact ⟨A3, c3, A5, c5, rfl, l3, g3, l5, g5⟩
theorem at_T32 {w : World} {A : Option Addr} {n : Nat} {xs : List S32} (h : Kd.C k32 w A n xs) (k : Nat) (h1 : k < n) (x : S32) (hx : x = xs.getD k z32) : ∃ ad A3 c3 A5 c5, A = some ad ∧ w.cell? (ad.add (k * 8)) = some (.int .i64 x.f0) ∧ w.cell? ⟨(ad.add (k * 8)).block, (ad.add (k * 8)).off + 1, none⟩ = some (.int .i64 x.f1) ∧ w.cell? ⟨(ad.add (k * 8)).block, (ad.add (k * 8)).off + 2, none⟩ = some (.int .u8 x.f2) ∧ w.cell? ⟨(ad.add (k * 8)).block, (ad.add (k * 8)).off + 3, none⟩ = some (.slice A3 x.f3.length c3) ∧ w.cell? ⟨(ad.add (k * 8)).block, (ad.add (k * 8)).off + 4, none⟩ = some (.bool x.f4) ∧ w.cell? ⟨(ad.add (k * 8)).block, (ad.add (k * 8)).off + 5, none⟩ = some (.slice A5 x.f5.length c5) ∧ w.cell? ⟨(ad.add (k * 8)).block, (ad.add (k * 8)).off + 6, none⟩ = some (.int .i64 x.f6) ∧ w.cell? ⟨(ad.add (k * 8)).block, (ad.add (k * 8)).off + 7, none⟩ = some (.int .i64 x.f7) ∧
    x.f3.length ≤ c3 ∧ (Kd.int .u8).C w A3 x.f3.length x.f3 ∧ x.f5.length ≤ c5 ∧ Kd.bool.C w A5 x.f5.length x.f5 := by
  obtain ⟨ad, c, e, _, hK, hc0⟩ := Kd.C_get h z32 (k : Int) (by omega) (by omega)
  rw [Int.toNat_natCast] at hK hc0
  rw [← hx] at hK
  obtain ⟨A3, c3, A5, c5, rfl, l3, g3, l5, g5⟩ := k32_open hK
  have hc : ∀ j u, [Value.int .i64 x.f0, .int .i64 x.f1, .int .u8 x.f2, .slice A3 x.f3.length c3, .bool x.f4, .slice A5 x.f5.length c5, .int .i64 x.f6, .int .i64 x.f7][j]? = some u → w.cell? (ad.add (k * 8 + j)) = some u := hc0
  exact ⟨ad, A3, c3, A5, c5, e, hc 0 _ rfl, by rw [← add_field _ _ 1 (by omega)]; exact hc 1 _ rfl, by rw [← add_field _ _ 2 (by omega)]; exact hc 2 _ rfl, by rw [← add_field _ _ 3 (by omega)]; exact hc 3 _ rfl, by rw [← add_field _ _ 4 (by omega)]; exact hc 4 _ rfl, by rw [← add_field _ _ 5 (by omega)]; exact hc 5 _ rfl, by rw [← add_field _ _ 6 (by omega)]; exact hc 6 _ rfl, by rw [← add_field _ _ 7 (by omega)]; exact hc 7 _ rfl, l3, g3, l5, g5⟩
end Go.Proofs.Ytehgbikleiaagaa.P
end
section
namespace Go.Proofs.Ytehgbikleiaagaa.P
open Go.RowKit Go.Proofs.YtehgbikleiaagaaW.PrintWords
def G30 (xs : List (Int)) : Prop := (∀ x ∈ xs, (Lit.int .u8 x).wf = true) ∧ xs.length * 1 ≤ 140737488351232
def m30 (xs : List (Int)) : Nat := (xs.map fun _ => 1).sum + 1
theorem open30 (fuel : Nat) : Opens.At Try.prog fuel (Kd.slice 5 (Kd.int .u8)) 30 G30 m30 :=
  Opens.slice_ Try.underlying30 (by kernel_rfl) (by kernel_rfl) (fun n _ => (Opens.int_ Try.underlying5))
def G23 (xs : List (Bool)) : Prop := (∀ x ∈ xs, True) ∧ xs.length * 1 ≤ 140737488351232
def m23 (xs : List (Bool)) : Nat := (xs.map fun _ => 1).sum + 1
theorem open23 (fuel : Nat) : Opens.At Try.prog fuel (Kd.slice 4 Kd.bool) 23 G23 m23 :=
  Opens.slice_ Try.underlying23 (by kernel_rfl) (by kernel_rfl) (fun n _ => (Opens.bool_ Try.underlying4))
def G32 (x : S32) : Prop := (Lit.int .i64 x.f0).wf = true ∧ (Lit.int .i64 x.f1).wf = true ∧ (Lit.int .u8 x.f2).wf = true ∧ G30 x.f3 ∧ True ∧ G23 x.f5 ∧ (Lit.int .i64 x.f6).wf = true ∧ (Lit.int .i64 x.f7).wf = true
def m32 (x : S32) : Nat := 1 + (1 + (1 + ((m30 x.f3) + (1 + ((m23 x.f5) + (1 + (1))))))) + 1
theorem open32 (fuel : Nat) : Opens.At Try.prog fuel k32 32 G32 m32 :=
  Opens.iso_ (fun x : S32 => (x.f0, x.f1, x.f2, x.f3, x.f4, x.f5, x.f6, x.f7)) (fun a => ⟨a.1, a.2.1, a.2.2.1, a.2.2.2.1, a.2.2.2.2.1, a.2.2.2.2.2.1, a.2.2.2.2.2.2.1, a.2.2.2.2.2.2.2⟩) (fun _ => rfl) (Opens.struct_ Try.underlying32 (fun n _ => Opens.cons_ (by kernel_rfl) (Opens.int_ Try.underlying3) (Opens.cons_ (by kernel_rfl) (Opens.int_ Try.underlying3) (Opens.cons_ (by kernel_rfl) (Opens.int_ Try.underlying5) (Opens.cons_ (by kernel_rfl) (open30 _) (Opens.cons_ (by kernel_rfl) (Opens.bool_ Try.underlying4) (Opens.cons_ (by kernel_rfl) (open23 _) (Opens.cons_ (by kernel_rfl) (Opens.int_ Try.underlying3) (Opens.last_ (by kernel_rfl) (by kernel_rfl) (Opens.int_ Try.underlying3))))))))))
def G22 (xs : List (S32)) : Prop := (∀ x ∈ xs, G32 x) ∧ xs.length * 96 ≤ 140737488351232
def m22 (xs : List (S32)) : Nat := (xs.map fun x => (m32 x)).sum + 1
theorem open22 (fuel : Nat) : Opens.At Try.prog fuel (Kd.slice 32 k32) 22 G22 m22 :=
  Opens.slice_ Try.underlying22 (by kernel_rfl) (by kernel_rfl) (fun n _ => (open32 _))
end Go.Proofs.Ytehgbikleiaagaa.P
end
section
namespace Go.Proofs.Ytehgbikleiaagaa.P
open Go.RowKit Go.Proofs.YtehgbikleiaagaaW.PrintWords Go.Proofs.YtehgbikleiaagaaW.PrintLast Go.Proofs.YtehgbikleiaagaaW.PrintMore
set_option linter.unusedVariables false
set_option linter.unusedSimpArgs false
theorem hasP_last {s : Dk} {n : Int} (h : ∀ x ∈ s.cache, x.1 ≠ n) : hasP s n = s.last n := by
  unfold hasP
  rw [List.find?_eq_none.2 (fun x hx => by simpa using h x (List.mem_reverse.1 hx))]
end Go.Proofs.Ytehgbikleiaagaa.P
end
section
namespace Go.Proofs.Ytehgbikleiaagaa.P
open Go.RowKit Go.Proofs.YtehgbikleiaagaaW.PrintWords Go.Proofs.YtehgbikleiaagaaW.PrintLast Go.Proofs.YtehgbikleiaagaaW.PrintMore
attribute [local go_sem] max2_int min2_int max_two min_two max_three min_three max_four min_four
attribute [local go_sem] guard_ptr eql_ptr neq_ptr
set_option linter.unusedVariables false
set_option linter.unusedSimpArgs false
end Go.Proofs.Ytehgbikleiaagaa.P
end
section
namespace Go.Proofs.Ytehgbikleiaagaa.P
open Go.RowKit Go.Proofs.YtehgbikleiaagaaW.PrintWords Go.Proofs.YtehgbikleiaagaaW.PrintLast Go.Proofs.YtehgbikleiaagaaW.PrintMore
set_option linter.unusedVariables false
set_option linter.unusedSimpArgs false
set_option maxRecDepth 4000
theorem image_page {s : Dk} (hl : ∀ i, (hasP s i).length = 512) : ∀ m j, j < m → imgP (imageP s m) j = hasP s (j : Int) := by
  have hlen : ∀ k, (imageP s k).length = k * 512 := by
    intro k
    induction k with
    | zero => simp [imageP]
    | succ k ih => rw [imageP_succ, List.length_append, ih, hl, Nat.succ_mul]
  intro m
  induction m with
  | zero => intro j hj; omega
  | succ m ih =>
    intro j hj
    unfold imgP
    rw [imageP_succ]
    by_cases h : j < m
    · have h5 : (j + 1) * 512 ≤ m * 512 := Nat.mul_le_mul_right _ h
      have h6 := hlen m
      have h7 : ((imageP s m).drop (j * 512)).length = (imageP s m).length - j * 512 := List.length_drop
      have a1 : j * 512 ≤ (imageP s m).length := by omega
      have a2 : 512 ≤ ((imageP s m).drop (j * 512)).length := by omega
      rw [List.drop_append_of_le_length a1, List.take_append_of_le_length a2]
      exact ih j h
    · obtain rfl : j = m := by omega
      rw [List.drop_left' (hlen j)]
      have h9 : (hasP s (j : Int)).length ≤ 512 := Nat.le_of_eq (hl _)
      exact List.take_of_length_le h9
theorem imageP_congr {s t : Dk} (h : ∀ n, hasP s n = hasP t n) (k : Nat) : imageP s k = imageP t k := by
  unfold imageP
  simp only [h]
theorem page_string {W : World} {g : Nat} {b : List Int} (h : W.heap[g]? = some (.cells (bvs b).toArray 67 (0, 0))) (hb : b.length = 512) (c : Nat) : (convert 30 9 (.slice (some ⟨g, 0, none⟩) 512 c)).run Try.prog W = .ok (.string (strOfNums b)) W := by
  have := c_bytes h (by rw [hb]; decide)
  rw [hb] at this
  exact Kd.C_string Try.underlying30 Try.underlying5 Try.underlying9 this
theorem row_string {W : World} {b2 L : Nat} {A : Option Addr} {cap : Nat} {ok : Nat → Prop} {b : List Int} (ho : Kd.R (Kd.int .u8) 5 W b2 ok (.slice A L cap) b) : (convert 30 9 (.slice A L cap)).run Try.prog W = .ok (.string (strOfNums b)) W := by
  obtain ⟨h1, h2, h3⟩ := Kd.R_reads' ho
  rw [h1]
  exact Kd.C_string Try.underlying30 Try.underlying5 Try.underlying9 h3
end Go.Proofs.Ytehgbikleiaagaa.P
end
section
namespace Go.Proofs.Ytehgbikleiaagaa.P
open Go.RowKit Go.Proofs.YtehgbikleiaagaaW.PrintWords Go.Proofs.YtehgbikleiaagaaW.PrintLast Go.Proofs.YtehgbikleiaagaaW.PrintMore
attribute [local go_sem] max2_int min2_int max_two min_two max_three min_three max_four min_four
set_option linter.unusedVariables false
set_option linter.unusedSimpArgs false
theorem DS.setb {W : World} {base d C : Nat} {s : Dk} (h : DS W base d s C) {g : Nat} {cs : Array Value} {t : TypeId} {fr : Nat × Nat} (hb : W.heap[g]? = some (.cells cs t fr)) (h1 : t ≠ 64) (h2 : t ≠ 69) (i : Nat) (u : Value) : DS (W.setCell ⟨g, i, none⟩ u) base d s C := by
  obtain ⟨M, N, v, h, hc⟩ := h
  exact ⟨M, N, v, h.keep (Kp.set (S := fun k => k = g) W ⟨g, i, none⟩ u rfl) (fun k hk e => h.fd_typed hb h1 h2 (e ▸ hk)), hc⟩
theorem build30 (w : World) : (Instr.buildSlice 30 0 #[]).run Try.prog w = .ok (.slice (some ⟨w.heap.size, 0, none⟩) 0 0) (w.alloc (.cells #[] 5)) := by
  simp [Instr.buildSlice, Sem.run_bind, run_underlying Try.underlying30, size5, Instr.fill, newRow, Result.andThen]
  rw [show Array.range 0 = #[] by decide, List.map_toArray]
  rfl
theorem run_empty30 {ρ : Operand → Value} {op : Oper} (ho : op.op = .buildSlice 30 0 #[]) (w : World) : (execOp ρ op).run Try.prog w = .ok (.value (.slice (some ⟨w.heap.size, 0, none⟩) 0 0)) (w.alloc (.cells #[] 5)) := by
  unfold execOp
  simp only [ho, List.map_toArray, List.map_nil, Sem.run_bind, build30, Result.andThen_ok, Sem.run_pure]
end Go.Proofs.Ytehgbikleiaagaa.P
end
section
namespace Go.Proofs.Ytehgbikleiaagaa.P
open Go.RowKit Go.Proofs.YtehgbikleiaagaaW.PrintWords Go.Proofs.YtehgbikleiaagaaW.PrintLast Go.Proofs.YtehgbikleiaagaaW.PrintMore
set_option linter.unusedVariables false
set_option linter.unusedSimpArgs false
def PgV (W : World) (B : Nat) (u : Value) (p : List Int) : Prop := p.length = 512 ∧ ∃ (g c : Nat) (cs : Array Value), u = .slice (some ⟨g, 0, none⟩) 512 c ∧ B ≤ g ∧ W.heap[g]? = some (.cells cs 5 (0, 0)) ∧ ∀ (i : Nat) (x : Int), p[i]? = some x → cs[i]? = some (Value.int .u8 x)
def RowV (W : World) (B g : Nat) (v : Value) (xs : List (List Int)) : Prop := ∃ (off cap : Nat) (cells : Array Value), v = .slice (some ⟨g, off, none⟩) xs.length cap ∧ xs.length ≤ cap ∧ off + cap ≤ cells.size ∧ B ≤ g ∧ W.heap[g]? = some (.cells cells 30 (0, 0)) ∧
  ∀ (j : Nat) (p : List Int), xs[j]? = some p → ∃ u, cells[off + j]? = some u ∧ PgV W B u p
structure MayW (W : World) (B am n : Nat) (g : Nat → Nat) (v : Nat → Value) (xs : Nat → List (List Int)) : Prop where
  ba : B ≤ am
  blk : W.heap[am]? = some (.cells #[v 0, v 1, v 2] 51 (0, 0))
  row : ∀ k, k < n → RowV W B (g k) (v k) (xs k)
  apart : ∀ k j, k < n → j < n → k ≠ j → g k ≠ g j
def KeepT (W W' : World) : Prop := ∀ (b : Nat) (cs : Array Value) (t : TypeId) (fr : Nat × Nat), W.heap[b]? = some (Obj.cells cs t fr) → t ≠ 64 → t ≠ 69 → W'.heap[b]? = some (Obj.cells cs t fr)
theorem keepT_below {W W' : World} (h : Below W.heap.size W W') : KeepT W W' := fun b cs t fr hb _ _ => blk_below hb h
theorem keepT_tf {B : Nat} {W W' : World} (h : TF B W W') : KeepT W W' := h.blk
theorem PgV.keep {W W' : World} {B : Nat} {u : Value} {p : List Int} (h : PgV W B u p) (hk : KeepT W W') : PgV W' B u p := by
  obtain ⟨h0, g, c, cs, e, hb, hc, hx⟩ := h
  exact ⟨h0, g, c, cs, e, hb, hk _ _ _ _ hc (by decide) (by decide), hx⟩
theorem RowV.keep {W W' : World} {B g : Nat} {v : Value} {xs : List (List Int)} (h : RowV W B g v xs) (hk : KeepT W W') : RowV W' B g v xs := by
  obtain ⟨off, cap, cells, e, h1, h2, h4, hc, hx⟩ := h
  refine ⟨off, cap, cells, e, h1, h2, h4, hk _ _ _ _ hc (by decide) (by decide), fun j p hj => ?_⟩
  obtain ⟨u, hu, hp⟩ := hx j p hj
  exact ⟨u, hu, hp.keep hk⟩
theorem MayW.keep {W W' : World} {B am n : Nat} {g : Nat → Nat} {v : Nat → Value} {xs : Nat → List (List Int)} (h : MayW W B am n g v xs) (hk : KeepT W W') : MayW W' B am n g v xs :=
  ⟨h.ba, hk _ _ _ _ h.blk (by decide) (by decide), fun k hkn => (h.row k hkn).keep hk, h.apart⟩
theorem DS.kp {W W' : World} {base d C : Nat} {s : Dk} {S : Nat → Prop} (h : DS W base d s C) (hk : Kp S W W') (hS : ∀ k, S k → ∃ (cs : Array Value) (t : TypeId) (fr : Nat × Nat), W.heap[k]? = some (Obj.cells cs t fr) ∧ t ≠ 64 ∧ t ≠ 69) : DS W' base d s C := by
  obtain ⟨M, N, v, h, hc⟩ := h
  refine ⟨M, N, v, h.keep hk (fun k hf hs => ?_), hc⟩
  obtain ⟨cs, t, fr, hb, h1, h2⟩ := hS k hs
  exact h.fd_typed hb h1 h2 hf
theorem info30 : (Try.prog.info? 30).map (fun i => (i.zero, i.size, i.bytes)) = some (some (.slice none 0 0), 1, 24) := by kernel_rfl
theorem RowV.append {W : World} {B g : Nat} {v : Value} {xs : List (List Int)} (h : RowV W B g v xs) (hx0 : 0 < xs.length) (hx1 : xs.length ≤ 1000) {bs : Nat} {u : Value} {p : List Int} (hu : PgV W B u p) (hb : W.heap[bs]? = some (.cells #[u] 30 (0, 0))) (hB : B ≤ W.heap.size) :
    ∃ v' W' g', (∀ ty, (Builtin.append_ #[50, 50] ty #[v, .slice (some ⟨bs, 0, none⟩) 1 1]).run Try.prog W = .ok v' W') ∧ RowV W' B g' v' (xs ++ [p]) ∧ (g' = g ∨ W.heap.size ≤ g') ∧ Kp (fun k => k = g) W W' ∧
      (∀ b cs t fr, W.heap[b]? = some (Obj.cells cs t fr) → b ≠ g → W'.heap[b]? = some (Obj.cells cs t fr)) := by
  obtain ⟨off, cap, cells, rfl, h1, h2, h4, hc, hx⟩ := h
  have hi := info30
  cases hif : Try.prog.info? 30 with
  | none => rw [hif] at hi; cases hi
  | some it =>
    rw [hif] at hi
    simp only [Option.map_some, Option.some.injEq, Prod.mk.injEq] at hi
    obtain ⟨i1, i2, i3⟩ := hi
    obtain ⟨hpl, gp, cp, csp, eu, hBp, hgp, hbp⟩ := hu
    have hone : u.oneCell' = true := by rw [eu]; rfl
    have hgsz : g < W.heap.size := blk_lt hc
    have hnews : ∀ j z, [u][j]? = some z → W.cell? ((⟨bs, 0, none⟩ : Addr).add j) = some z := fun j z hj => by
      rw [Addr.add_mid, Nat.zero_add]
      refine (blk_cell hb j).trans ?_
      simpa using hj
    by_cases hroom : xs.length + 1 ≤ cap
    · have hlt : off + xs.length < cells.size := by omega
      have hrun := fun ty => run_append_room_cells (P := Try.prog) W 50 ty 30 it Try.underlying50 hif g off xs.length cap ⟨bs, 0, none⟩ 1 1 [u] (by rw [i2]; rfl) hnews (fun z hz => by rw [List.mem_singleton.1 hz]; exact hone) hroom
        (fun j hj => by
          have : j = 0 := by simpa using hj
          subst this
          rw [i2, Nat.mul_one, Nat.add_zero, blk_cell hc (off + xs.length), Array.getElem?_eq_getElem hlt]
          rfl) (fun j hj => blk_frozen hc _)
      rw [i2, Nat.mul_one] at hrun
      have hset : W.setCells g (off + xs.length) [u] = W.setCell ⟨g, off + xs.length, none⟩ u := rfl
      rw [hset] at hrun
      have hkp : Kp (fun k => k = g) W (W.setCell ⟨g, off + xs.length, none⟩ u) := Kp.set (S := fun k => k = g) W ⟨g, off + xs.length, none⟩ u rfl
      have hblk : (W.setCell ⟨g, off + xs.length, none⟩ u).heap[g]? = some (.cells (cells.setIfInBounds (off + xs.length) u) 30 (0, 0)) := blk_put hc _ u rfl
      have hoth : ∀ b cs t fr, W.heap[b]? = some (Obj.cells cs t fr) → b ≠ g → (W.setCell ⟨g, off + xs.length, none⟩ u).heap[b]? = some (Obj.cells cs t fr) := fun b cs t fr hbb hne => (Below.heap_setCell W _ u b hne).trans hbb
      have hpg : ∀ z q, PgV W B z q → PgV (W.setCell ⟨g, off + xs.length, none⟩ u) B z q := fun z q ⟨q0, gq, cq, csq, eq, hBq, hgq, hbq⟩ =>
        ⟨q0, gq, cq, csq, eq, hBq, hoth gq csq 5 (0, 0) hgq (fun e => by rw [e, hc] at hgq; cases hgq), hbq⟩
      refine ⟨_, _, g, hrun, ⟨off, cap, _, by rw [List.length_append]; rfl, by rw [List.length_append]; exact hroom, by rw [Array.size_setIfInBounds]; exact h2, h4, hblk, fun j q hj => ?_⟩, .inl rfl, hkp, hoth⟩
      by_cases hjl : j < xs.length
      · rw [List.getElem?_append_left hjl] at hj
        obtain ⟨z, hz, hq⟩ := hx j q hj
        exact ⟨z, by rw [Array.getElem?_setIfInBounds_ne (by omega)]; exact hz, hpg z q hq⟩
      · have hjx : j = xs.length := by
          have := (List.getElem?_eq_some_iff.1 hj).1
          simp at this
          omega
        subst hjx
        have : q = p := by simpa using hj.symm
        subst this
        exact ⟨u, by rw [Array.getElem?_setIfInBounds_self, if_pos hlt], hpg u q ⟨hpl, gp, cp, csp, eu, hBp, hgp, hbp⟩⟩
    · have hcapx : cap = xs.length := by omega
      obtain ⟨olds, holds⟩ : ∃ olds, olds = (cells.toList.drop off).take xs.length := ⟨_, rfl⟩
      have hol : olds.length = xs.length := by
        have hcl : cells.toList.length = cells.size := Array.length_toList
        rw [holds, List.length_take, List.length_drop, hcl]
        omega
      have hoc : ∀ j z, olds[j]? = some z → W.cell? ((⟨g, off, none⟩ : Addr).add j) = some z := fun j z hj => by
        rw [Addr.add_mid]
        refine (blk_cell hc (off + j)).trans ?_
        rw [holds, List.getElem?_take, List.getElem?_drop] at hj
        split at hj
        · simpa using hj
        · cases hj
      have hfit : Builtin.nextslicecap (xs.length + 1) cap * it.bytes ≤ 281474976710656 := by
        rw [i3]
        exact growslice_fits (by omega) (by omega)
      have hrun := fun ty => run_append_grow (P := Try.prog) W 50 ty 30 it (.slice none 0 0) Try.underlying50 hif i1 ⟨g, off, none⟩ xs.length cap olds (by rw [i2, Nat.mul_one]; exact hol) hoc ⟨bs, 0, none⟩ 1 1 [u] (by rw [i2]; rfl) hnews (by omega) (by omega) hfit
      have hge := grownCap_ge W (xs.length + 1) cap 30
      obtain ⟨G, hG⟩ : ∃ G, G = grownCap W (xs.length + 1) cap 30 := ⟨_, rfl⟩
      rw [← hG] at hrun hge
      have hbel : Below W.heap.size W (W.drew.alloc (.cells (olds.toArray ++ [u].toArray ++ Builtin.zeroCells (Value.slice none 0 0).cells (G - (xs.length + 1))) 30)) := below_alloc (below_drew1 (Below.refl _ _)) _
      have hnew := Deep.blk_alloc_new W.drew (.cells (olds.toArray ++ [u].toArray ++ Builtin.zeroCells (Value.slice none 0 0).cells (G - (xs.length + 1))) 30)
      have hz : (Value.slice none 0 0).cells.size = 1 := rfl
      refine ⟨_, _, W.heap.size, hrun, ⟨0, G, _, by rw [List.length_append]; rfl, by rw [List.length_append]; exact hge, ?_, hB, hnew, fun j q hj => ?_⟩, .inr (Nat.le_refl _), Kp.of_below hbel, fun b cs t fr hbb _ => blk_below hbb hbel⟩
      · simp only [Array.size_append, List.size_toArray, size_zeroCells, hz, hol, List.length_cons, List.length_nil]
        omega
      · rw [Nat.zero_add]
        by_cases hjl : j < xs.length
        · rw [List.getElem?_append_left hjl] at hj
          obtain ⟨z, hz, hq⟩ := hx j q hj
          refine ⟨z, ?_, hq.keep (keepT_below hbel)⟩
          rw [Array.getElem?_append_left (by simp [hol]; omega), Array.getElem?_append_left (by simp [hol]; exact hjl)]
          rw [List.getElem?_toArray, holds, List.getElem?_take, if_pos hjl, List.getElem?_drop]
          simpa using hz
        · have hjx : j = xs.length := by
            have := (List.getElem?_eq_some_iff.1 hj).1
            simp at this
            omega
          subst hjx
          have : q = p := by simpa using hj.symm
          subst this
          refine ⟨u, ?_, PgV.keep ⟨hpl, gp, cp, csp, eu, hBp, hgp, hbp⟩ (keepT_below hbel)⟩
          rw [Array.getElem?_append_left (by simp [hol]), Array.getElem?_append_right (by simp [hol])]
          simp [hol]
end Go.Proofs.Ytehgbikleiaagaa.P
end
section
namespace Go.Proofs.Ytehgbikleiaagaa.P
open Go.RowKit Go.Proofs.YtehgbikleiaagaaW.PrintWords Go.Proofs.YtehgbikleiaagaaW.PrintLast Go.Proofs.YtehgbikleiaagaaW.PrintMore
set_option linter.unusedVariables false
set_option linter.unusedSimpArgs false
set_option maxRecDepth 4000
theorem write_pages (s : Dk) (q : Int) (b : List Int) : (writeD s q b).pages = s.pages := by
  unfold writeD
  split
  · rfl
  · split
    · rfl
    · split
      · exact stepS_pages s
      · exact stepS_pages s
theorem sync_pages (s : Dk) : (syncD s).pages = s.pages := by
  unfold syncD
  split
  · rfl
  · split
    · exact stepS_pages s
    · exact stepS_pages s
theorem hasP_last_all (s : Dk) (n : Int) : hasP s n = lastS s s.cache.length n := by
  unfold hasP lastS
  rw [List.take_length]
  have key : ∀ (l : List (Int × List Int)) (f : Int → List Int), (match l.find? (fun x => decide (x.1 = n)) with | some x => x.2 | none => f n) = (l.reverse.foldl (fun f x => upd f x.1 x.2) f) n := by
    intro l
    induction l with
    | nil => intro f; rfl
    | cons x l ih =>
      intro f
      rw [List.reverse_cons, List.foldl_append, List.find?_cons]
      simp only [List.foldl_cons, List.foldl_nil]
      by_cases h : x.1 = n
      · have : decide (x.1 = n) = true := decide_eq_true h
        simp only [this]
        unfold upd
        rw [if_pos h.symm]
      · have : decide (x.1 = n) = false := decide_eq_false h
        simp only [this]
        unfold upd
        rw [if_neg (fun e => h e.symm)]
        exact ih f
  have := key s.cache.reverse s.last
  rw [List.reverse_reverse] at this
  exact this
end Go.Proofs.Ytehgbikleiaagaa.P
end
section
namespace Go.Proofs.Ytehgbikleiaagaa.P
open Go.RowKit Go.Proofs.YtehgbikleiaagaaW.PrintWords Go.Proofs.YtehgbikleiaagaaW.PrintLast Go.Proofs.YtehgbikleiaagaaW.PrintMore
set_option linter.unusedVariables false
set_option linter.unusedSimpArgs false
def KeepX (W W' : World) (x : Nat) : Prop := ∀ (b : Nat) (cs : Array Value) (t : TypeId) (fr : Nat × Nat), W.heap[b]? = some (Obj.cells cs t fr) → b ≠ x → W'.heap[b]? = some (Obj.cells cs t fr)
theorem PgV.keepX {W W' : World} {B x : Nat} {u : Value} {p : List Int} (h : PgV W B u p) (hk : KeepX W W' x) {cs : Array Value} {t : TypeId} {fr : Nat × Nat} (hx : W.heap[x]? = some (.cells cs t fr)) (ht : t ≠ 5) : PgV W' B u p := by
  obtain ⟨h0, g, c, ds, e, hb, hc, hy⟩ := h
  refine ⟨h0, g, c, ds, e, hb, hk _ _ _ _ hc (fun e => ?_), hy⟩
  rw [e, hx] at hc
  cases hc
  exact ht rfl
theorem RowV.keepX {W W' : World} {B g x : Nat} {v : Value} {xs : List (List Int)} (h : RowV W B g v xs) (hk : KeepX W W' x) {cs : Array Value} {t : TypeId} {fr : Nat × Nat} (hx : W.heap[x]? = some (.cells cs t fr)) (ht : t ≠ 5) (hg : g ≠ x) : RowV W' B g v xs := by
  obtain ⟨off, cap, cells, e, h1, h2, h4, hc, hy⟩ := h
  refine ⟨off, cap, cells, e, h1, h2, h4, hk _ _ _ _ hc hg, fun j p hj => ?_⟩
  obtain ⟨u, hu, hp⟩ := hy j p hj
  exact ⟨u, hu, hp.keepX hk hx ht⟩
theorem RowV.typed {W : World} {B g : Nat} {v : Value} {xs : List (List Int)} (h : RowV W B g v xs) : ∃ cs, W.heap[g]? = some (.cells cs 30 (0, 0)) := by
  obtain ⟨off, cap, cells, e, h1, h2, h4, hc, hy⟩ := h
  exact ⟨cells, hc⟩
theorem keepX_set (W : World) (a : Addr) (u : Value) : KeepX W (W.setCell a u) a.block := fun b cs t fr hb hne => (Below.heap_setCell W a u b hne).trans hb
def putN {α : Type} (f : Nat → α) (k : Nat) (x : α) : Nat → α := fun j => if j = k then x else f j
theorem three_put (v : Nat → Value) (u : Value) : ∀ k, k < 3 → (#[v 0, v 1, v 2] : Array Value).setIfInBounds k u = #[putN v k u 0, putN v k u 1, putN v k u 2]
  | 0, _ => rfl
  | 1, _ => rfl
  | 2, _ => rfl
  | k + 3, h => by omega
theorem MayW.put {W : World} {B am n n' k gk : Nat} {g : Nat → Nat} {v : Nat → Value} {xs : Nat → List (List Int)} (h : MayW W B am n g v xs) (hk : k < 3) (hn : ∀ j, j < n' → j ≠ k → j < n) {u : Value} {ys : List (List Int)} (hr : RowV W B gk u ys) (hg : ∀ j, j < n' → j ≠ k → g j ≠ gk) :
    MayW (W.setCell ⟨am, k, none⟩ u) B am n' (putN g k gk) (putN v k u) (putN xs k ys) := by
  have hks := keepX_set W ⟨am, k, none⟩ u
  have hne : ∀ {x : Nat} {w : Value} {zs : List (List Int)}, RowV W B x w zs → x ≠ am := fun hw e => by
    obtain ⟨cs, hc⟩ := hw.typed
    rw [e, h.blk] at hc
    cases hc
  refine ⟨h.ba, (blk_put h.blk k u rfl).trans (by rw [three_put v u k hk]), fun j hj => ?_, fun i j hi hj hij => ?_⟩
  · unfold putN
    by_cases hjk : j = k
    · rw [if_pos hjk, if_pos hjk, if_pos hjk]
      exact hr.keepX hks h.blk (by decide) (hne hr)
    · rw [if_neg hjk, if_neg hjk, if_neg hjk]
      have hrj := h.row j (hn j hj hjk)
      exact hrj.keepX hks h.blk (by decide) (hne hrj)
  · unfold putN
    by_cases hik : i = k
    · rw [if_pos hik]
      by_cases hjk : j = k
      · exact absurd (hik.trans hjk.symm) hij
      · rw [if_neg hjk]
        exact fun e => hg j hj hjk e.symm
    · rw [if_neg hik]
      by_cases hjk : j = k
      · rw [if_pos hjk]
        exact hg i hi hik
      · rw [if_neg hjk]
        exact h.apart i j (hn i hi hik) (hn j hj hjk) hij
theorem MayW.cell {W : World} {B am n : Nat} {g : Nat → Nat} {v : Nat → Value} {xs : Nat → List (List Int)} (h : MayW W B am n g v xs) {k : Nat} (hk : k < 3) : W.cell? ⟨am, k, none⟩ = some (v k) ∧ W.frozen? ⟨am, k, none⟩ = false := by
  refine ⟨(blk_cell h.blk k).trans ?_, blk_frozen h.blk k⟩
  match k, hk with
  | 0, _ => rfl
  | 1, _ => rfl
  | 2, _ => rfl
  | k + 3, h => omega
theorem MayW.start (W : World) (d : DataW Unit) : MayW (W.alloc (.cells #[.slice none 0 0, .slice none 0 0, .slice none 0 0] 51)) W.heap.size W.heap.size 0 (fun _ => 0) (fun _ => .slice none 0 0) (fun _ => []) :=
  ⟨Nat.le_refl _, Deep.blk_alloc_new W _, fun k hk => absurd hk (Nat.not_lt_zero k), fun k j hk => absurd hk (Nat.not_lt_zero k)⟩
theorem MayW.append {W : World} {B am k : Nat} {g : Nat → Nat} {v : Nat → Value} {xs : Nat → List (List Int)} (h : MayW W B am 3 g v xs) (hk : k < 3) (hx0 : 0 < (xs k).length) (hx1 : (xs k).length ≤ 1000) {bs : Nat} {u : Value} {p : List Int} (hu : PgV W B u p) (hb : W.heap[bs]? = some (.cells #[u] 30 (0, 0))) (hB : B ≤ W.heap.size) :
    ∃ v' W' g', (∀ ty, (Builtin.append_ #[50, 50] ty #[v k, .slice (some ⟨bs, 0, none⟩) 1 1]).run Try.prog W = .ok v' W') ∧ (∃ o c, v' = .slice o ((xs k).length + 1) c) ∧ W'.heap[am]? = W.heap[am]? ∧ MayW (W'.setCell ⟨am, k, none⟩ v') B am 3 (putN g k g') (putN v k v') (putN xs k (xs k ++ [p])) ∧ Kp (fun b => b = g k) W W' := by
  obtain ⟨v', W', g', hrun, hrow, hgg, hkp, hkx⟩ := (h.row k hk).append hx0 hx1 hu hb hB
  obtain ⟨cs, hc⟩ := (h.row k hk).typed
  have ham : am ≠ g k := fun e => by
    rw [← e, h.blk] at hc
    cases hc
  have hmay : ∀ j, j < 3 → j ≠ k → RowV W' B (g j) (v j) (xs j) := fun j hj hjk => (h.row j hj).keepX hkx hc (by decide) (h.apart j k hj hk hjk)
  have hblk : W'.heap[am]? = some (.cells #[v 0, v 1, v 2] 51 (0, 0)) := hkx _ _ _ _ h.blk ham
  have hlt : ∀ j, j < 3 → g j < W.heap.size := fun j hj => by
    obtain ⟨cs, hc⟩ := (h.row j hj).typed
    exact blk_lt hc
  have hgj : ∀ j, j < 3 → j ≠ k → g j ≠ g' := fun j hj hjk => by
    rcases hgg with e | e
    · rw [e]
      exact h.apart j k hj hk hjk
    · have := hlt j hj
      omega
  have hrow2 := hrow
  obtain ⟨o, c, ca, ev, _⟩ := hrow
  refine ⟨v', W', g', hrun, ⟨_, _, by rw [ev, List.length_append]; rfl⟩, hblk.trans h.blk.symm, ?_, hkp⟩
  have hks := keepX_set W' ⟨am, k, none⟩ v'
  have hne : ∀ {x : Nat} {w : Value} {zs : List (List Int)}, RowV W' B x w zs → x ≠ am := fun hw e => by
    obtain ⟨cs, hc⟩ := hw.typed
    rw [e, hblk] at hc
    cases hc
  refine ⟨h.ba, (blk_put hblk k v' rfl).trans (by rw [three_put v v' k hk]), fun j hj => ?_, fun i j hi hj hij => ?_⟩
  · unfold putN
    by_cases hjk : j = k
    · rw [if_pos hjk, if_pos hjk, if_pos hjk]
      exact hrow2.keepX hks hblk (by decide) (hne hrow2)
    · rw [if_neg hjk, if_neg hjk, if_neg hjk]
      have hrj := hmay j hj hjk
      exact hrj.keepX hks hblk (by decide) (hne hrj)
  · unfold putN
    by_cases hik : i = k
    · rw [if_pos hik]
      by_cases hjk : j = k
      · exact absurd (hik.trans hjk.symm) hij
      · rw [if_neg hjk]
        exact fun e => hgj j hj hjk e.symm
    · rw [if_neg hik]
      by_cases hjk : j = k
      · rw [if_pos hjk]
        exact hgj i hi hik
      · rw [if_neg hjk]
        exact h.apart i j hi hj hij
theorem RowV.last {W : World} {B g : Nat} {v : Value} {xs : List (List Int)} (h : RowV W B g v xs) (h0 : 0 < xs.length) : ∃ off cap, v = .slice (some ⟨g, off, none⟩) xs.length cap ∧ xs.length ≤ cap ∧ RowV W B g (.slice (some ⟨g, off + (xs.length - 1), none⟩) 1 (cap - (xs.length - 1))) [xs.getLastD []] := by
  obtain ⟨off, cap, cells, e, h1, h2, h4, hc, hy⟩ := h
  refine ⟨off, cap, e, h1, off + (xs.length - 1), cap - (xs.length - 1), cells, rfl, by simp; omega, by omega, h4, hc, fun j q hj => ?_⟩
  cases j with
  | zero =>
    have hq : xs.getLastD [] = q := by simpa using hj
    have hl : xs[xs.length - 1]? = some q := by
      rw [← hq, List.getLastD_eq_getLast?, List.getLast?_eq_getElem?, List.getElem?_eq_getElem (by omega)]
      rfl
    obtain ⟨u, hu, hp⟩ := hy _ _ hl
    exact ⟨u, by rw [Nat.add_zero]; exact hu, hp⟩
  | succ j => simp at hj
end Go.Proofs.Ytehgbikleiaagaa.P
end
section
namespace Go.Proofs.Ytehgbikleiaagaa.P
open Go.RowKit Go.Proofs.YtehgbikleiaagaaW.PrintWords Go.Proofs.YtehgbikleiaagaaW.PrintLast Go.Proofs.YtehgbikleiaagaaW.PrintMore
set_option linter.unusedVariables false
set_option linter.unusedSimpArgs false
def DP (W : World) (bd d : Nat) (sd : Dk) (Cd : Nat) (bc c : Nat) (sc : Dk) (Cc : Nat) : Prop := ∃ M N v M2 N2 v2, DD W bd d M N v sd ∧ N + sd.cache.length ≤ Cd ∧ DD W bc c M2 N2 v2 sc ∧ N2 + sc.cache.length ≤ Cc ∧ (∀ k, FD d M v k → k < bc) ∧ bd ≤ bc
section
variable {w w' : World} {bd d Cd bc c Cc : Nat} {sd sc : Dk}
theorem DP.snd (h : DP w bd d sd Cd bc c sc Cc) : DS w bc c sc Cc := by
  obtain ⟨M, N, v, M2, N2, v2, h1, h2, h3, h4, h5, h6⟩ := h
  exact ⟨M2, N2, v2, h3, h4⟩
theorem DP.step (h : DP w bd d sd Cd bc c sc Cc) (hb : Below w.heap.size w w') : DP w' bd d sd Cd bc c sc Cc := by
  obtain ⟨M, N, v, M2, N2, v2, h1, h2, h3, h4, h5, h6⟩ := h
  exact ⟨M, N, v, M2, N2, v2, h1.step hb, h2, h3.step hb, h4, h5, h6⟩
end
theorem dp_clone {base d C : Nat} {s : Dk} (w : World) (h : DS w base d s C) :
    Calls Try.prog 23 #[.pointer (some ⟨d, 0, none⟩)] w fun e w' => ∃ d', e = .returned (.pointer (some ⟨d', 0, none⟩)) ∧ DP w' base d s C w.heap.size d' s C ∧ Below w.heap.size w w' := by
  obtain ⟨M, N, v, h, hc⟩ := h
  refine (clone_calls w h).mono ?_
  rintro e w' ⟨d', M', v', he, hd, hb⟩
  exact ⟨d', he, ⟨M, N, v, M', N, v', h.step hb, hc, hd, hc, fun k hk => h.fd_lt hk, Nat.le_trans h.bd (Nat.le_of_lt h.lt)⟩, hb⟩
end Go.Proofs.Ytehgbikleiaagaa.P
end
section
namespace Go.Proofs.Ytehgbikleiaagaa.P
open Go.RowKit Go.Proofs.YtehgbikleiaagaaW.PrintWords Go.Proofs.YtehgbikleiaagaaW.PrintLast Go.Proofs.YtehgbikleiaagaaW.PrintMore
attribute [local go_sem] max2_int min2_int max_two min_two max_three min_three max_four min_four
set_option linter.unusedVariables false
set_option linter.unusedSimpArgs false
structure Rk where
  bytes : List Int
  pend : List (Int × List Int)
  arm : Int
  down : Bool
def BvV (W : World) (B g : Nat) (u : Value) (b : List Int) : Prop := ∃ (c : Nat) (cs : Array Value), u = .slice (some ⟨g, 0, none⟩) b.length c ∧ b.length ≤ c ∧ B ≤ g ∧ W.heap[g]? = some (.cells cs 5 (0, 0)) ∧ ∀ (i : Nat) (x : Int), b[i]? = some x → cs[i]? = some (Value.int .u8 x)
def PnV (W : World) (B gL : Nat) (u : Value) (P : List (Int × List Int)) : Prop := (P = [] ∧ u = .slice none 0 0) ∨ ∃ (g c : Nat) (cs : Array Value), u = .slice (some ⟨g, 0, none⟩) P.length c ∧ P.length ≤ c ∧ B ≤ g ∧ W.heap[g]? = some (.cells cs 74 (0, 0)) ∧ c * 2 ≤ cs.size ∧
  ∀ (j : Nat) (p : Int × List Int), P[j]? = some p → p.2.length = 512 ∧ cs[2 * j]? = some (Value.int .i64 p.1) ∧ ∃ (z : Value) (gz : Nat), cs[2 * j + 1]? = some z ∧ gz ≠ gL ∧ BvV W B gz z p.2
structure RD (W : World) (B r gL : Nat) (uL uP : Value) (s : Rk) : Prop where
  br : B ≤ r
  blk : W.heap[r]? = some (.cells #[uL, uP, .int .i64 s.arm, .bool s.down] 58 (0, 0))
  lb : BvV W B gL uL s.bytes
  pb : PnV W B gL uP s.pend
  lz : s.bytes.length % 512 = 0 ∧ s.bytes.length ≤ 2097152
  az : -1 ≤ s.arm ∧ s.arm < 9223372036854775808
def RS (W : World) (B r : Nat) (s : Rk) : Prop := ∃ gL uL uP, RD W B r gL uL uP s
theorem BvV.keep {W W' : World} {B g : Nat} {u : Value} {b : List Int} (h : BvV W B g u b) (hk : KeepT W W') : BvV W' B g u b := by
  obtain ⟨c, cs, e, h1, h2, h3, h4⟩ := h
  exact ⟨c, cs, e, h1, h2, hk _ _ _ _ h3 (by decide) (by decide), h4⟩
theorem BvV.keepX {W W' : World} {B g x : Nat} {u : Value} {b : List Int} (h : BvV W B g u b) (hk : KeepX W W' x) (hx : g ≠ x) : BvV W' B g u b := by
  obtain ⟨c, cs, e, h1, h2, h3, h4⟩ := h
  exact ⟨c, cs, e, h1, h2, hk _ _ _ _ h3 hx, h4⟩
theorem PnV.keep {W W' : World} {B gL : Nat} {u : Value} {P : List (Int × List Int)} (h : PnV W B gL u P) (hk : KeepT W W') : PnV W' B gL u P := by
  rcases h with h | ⟨g, c, cs, e, h1, h2, h3, h4, h5⟩
  · exact .inl h
  · refine .inr ⟨g, c, cs, e, h1, h2, hk _ _ _ _ h3 (by decide) (by decide), h4, fun j p hj => ?_⟩
    obtain ⟨a1, a2, z, gz, a3, a4, a5⟩ := h5 j p hj
    exact ⟨a1, a2, z, gz, a3, a4, a5.keep hk⟩
theorem RS.keep {W W' : World} {B r : Nat} {s : Rk} (h : RS W B r s) (hk : KeepT W W') : RS W' B r s := by
  obtain ⟨gL, uL, uP, h1, h2, h3, h4, h5, h6⟩ := h
  exact ⟨gL, uL, uP, h1, hk _ _ _ _ h2 (by decide) (by decide), h3.keep hk, h4.keep hk, h5, h6⟩
def KeepR (w w' : World) : Prop := ∀ (k : Nat) (cs : Array Value) (t : TypeId) (fr : Nat × Nat), w.heap[k]? = some (Obj.cells cs t fr) → t ≠ 58 → t ≠ 74 → w'.heap[k]? = some (Obj.cells cs t fr)
theorem keepR_below {w w' : World} (h : Below w.heap.size w w') : KeepR w w' := fun k cs t fr hb _ _ => blk_below hb h
theorem R_keepR {b : Nat} {ok : Nat → Prop} {w w' : World} {v : Value} {xs : List Int} (h : Kd.R (Kd.int .u8) 5 w b ok v xs) (ht : KeepR w w') : Kd.R (Kd.int .u8) 5 w' b ok v xs := by
  refine Kd.R_mono (Kd.R_move (Kd.R_bound h) (fun k hk => ?_)) (fun _ hk => hk.1)
  obtain ⟨_, _, _, q, hqm, cells, hc⟩ := hk
  have hq5 : q = 5 := by simpa [Kd.int, Kd.scalar] using hqm
  subst hq5
  rw [hc, ht k cells 5 _ hc (by decide) (by decide)]
def RF (B : Nat) (w w' : World) : Prop := Below B w w' ∧ w.heap.size ≤ w'.heap.size ∧ ∀ (k : Nat) (o : Obj), w.heap[k]? = some o → (∀ cs t fr, o = Obj.cells cs t fr → t ≠ 58 ∧ t ≠ 74 ∧ t ≠ 5) → w'.heap[k]? = some o
theorem RF.of_below {B : Nat} {w w' : World} (h : Below w.heap.size w w') (hB : B ≤ w.heap.size) : RF B w w' := ⟨h.mono hB, h.size, fun k o hk _ => (h.block k (by
  rcases Nat.lt_or_ge k w.heap.size with hlt | hge
  · exact hlt
  · rw [Array.getElem?_eq_none hge] at hk; cases hk)).trans hk⟩
theorem RF.trans {B : Nat} {a b c : World} (h : RF B a b) (k : RF B b c) : RF B a c := ⟨h.1.trans k.1, Nat.le_trans h.2.1 k.2.1, fun x o hx ho => k.2.2 x o (h.2.2 x o hx ho) ho⟩
theorem RF.ds {B : Nat} {w w' : World} (h : RF B w w') {base d C : Nat} {s : Dk} (hd : DS w base d s C) : DS w' base d s C := by
  obtain ⟨hb, hsz, hk⟩ := h
  obtain ⟨M, N, v, hd, hc⟩ := hd
  have key : ∀ k, FD d M v k → w'.heap[k]? = w.heap[k]? := by
    rintro k (rfl | rfl | e)
    · exact (hk _ _ hd.blk (fun cs t fr e => by cases e; decide)).trans hd.blk.symm
    · obtain ⟨es, clock, hm⟩ := hd.mp.blk
      exact (hk _ _ hm (fun cs t fr e => by cases e)).trans hm.symm
    · obtain ⟨cells, hcc⟩ := Kd.R_typed hd.row k e.symm
      exact (hk _ _ hcc (fun cs t fr e => by cases e; decide)).trans hcc.symm
  exact ⟨M, N, v, hd.keep (S := fun k => w'.heap[k]? ≠ w.heap[k]?) ⟨hb.os, hb.tape, hb.output, hsz, fun k _ hn => Classical.not_not.1 hn⟩ (fun k hf hs => hs (key k hf)), hc⟩
section
variable {W : World} {B r gL : Nat} {uL uP : Value} {s : Rk}
theorem RD.lt (h : RD W B r gL uL uP s) : r < W.heap.size := blk_lt h.blk
theorem RD.put (h : RD W B r gL uL uP s) (i : Nat) (u : Value) {s' : Rk} (e : (#[uL, uP, .int .i64 s.arm, .bool s.down] : Array Value).setIfInBounds i u = #[uL, uP, .int .i64 s'.arm, .bool s'.down]) (e1 : s'.bytes = s.bytes) (e2 : s'.pend = s.pend) (e3 : -1 ≤ s'.arm ∧ s'.arm < 9223372036854775808) :
    RD (W.setCell ⟨r, i, none⟩ u) B r gL uL uP s' ∧ RF B W (W.setCell ⟨r, i, none⟩ u) ∧ KeepR W (W.setCell ⟨r, i, none⟩ u) := by
  have hx := keepX_set W ⟨r, i, none⟩ u
  refine ⟨⟨h.br, blk_put h.blk i u e, ?_, ?_, by rw [e1]; exact h.lz, e3⟩, ⟨(Kp.set (S := fun k => k = r) W ⟨r, i, none⟩ u rfl).below (Nat.le_trans h.br (Nat.le_of_lt h.lt)) (fun k e => e ▸ h.br), (Kp.set (S := fun k => k = r) W ⟨r, i, none⟩ u rfl).size, fun k o hk ho => (Below.heap_setCell W _ u k (fun e => by
      have hb := h.blk
      rw [← show k = r from e, hk] at hb
      exact absurd rfl (ho _ _ _ (Option.some.inj hb)).1)).trans hk⟩, fun k cs t fr hk ht _ => hx k cs t fr hk (fun e => by
      have hb := h.blk
      rw [← show k = r from e, hk] at hb
      cases hb
      exact ht rfl)⟩
  · rw [e1]
    refine h.lb.keepX hx (fun e => ?_)
    obtain ⟨c, cs, _, _, _, hc, _⟩ := h.lb
    have := h.blk
    rw [← show gL = r from e, hc] at this
    cases this
  · rw [e2]
    rcases h.pb with hp | ⟨g, c, cs, a0, a1, a2, a3, a4, a5⟩
    · exact .inl hp
    · refine .inr ⟨g, c, cs, a0, a1, a2, hx _ _ _ _ a3 (fun e => ?_), a4, fun j p hj => ?_⟩
      · have := h.blk
        rw [← show g = r from e, a3] at this
        cases this
      · obtain ⟨b1, b2, z, gz, b3, b4, b5⟩ := a5 j p hj
        refine ⟨b1, b2, z, gz, b3, b4, b5.keepX hx (fun e => ?_)⟩
        obtain ⟨c, cs, _, _, _, hc, _⟩ := b5
        have := h.blk
        rw [← show gz = r from e, hc] at this
        cases this
end
def rstep (s : Rk) : Rk := if s.arm = 0 then { s with down := true } else if 0 < s.arm then { s with arm := s.arm - 1 } else s
set_option maxHeartbeats 1000000 in
set_option maxRecDepth 100000 in
theorem rfails_calls {B r : Nat} {s : Rk} (w : World) (h : RS w B r s) :
    Calls Try.prog 43 #[.pointer (some ⟨r, 0, none⟩)] w fun e w' => e = .returned (.bool (decide (s.arm = 0))) ∧ RS w' B r (rstep s) ∧ RF B w w' ∧ KeepR w w' := by
  obtain ⟨gL, uL, uP, h⟩ := h
  have H := Aside0.mk h
  have c2 : w.cell? ⟨r, 2, none⟩ = some (.int .i64 s.arm) := (blk_cell h.blk 2).trans rfl
  have f2 := blk_frozen h.blk 2
  have c3 : w.cell? ⟨r, 3, none⟩ = some (.bool s.down) := (blk_cell h.blk 3).trans rfl
  have f3 := blk_frozen h.blk 3
  have hl := h.az
  clear h
  unfold rstep
  by_cases h0 : s.arm = 0
  · rw [if_pos h0, decide_eq_true h0]
    have b0 : (s.arm == 0) = true := by simp [h0]
    have b1 : decide (s.arm = 0) = true := by simp [h0]
    rw [h0] at c2
    have HP := Aside0.mk (H.out.put 3 (.bool true) (s' := { s with down := true }) rfl rfl rfl H.out.az)
    clear h0 hl
    go_enter Try.func43, Try.ntmps43
    go_wp2
    go_ret
    exact ⟨by simp, ⟨_, _, _, HP.out.1⟩, HP.out.2.1, HP.out.2.2⟩
  · rw [if_neg h0, decide_eq_false h0]
    have b0 : (s.arm == 0) = false := by simp [h0]
    have b1 : decide (s.arm = 0) = false := by simp [h0]
    by_cases h1 : 0 < s.arm
    · rw [if_pos h1]
      have b2 : decide (0 < s.arm) = true := decide_eq_true h1
      have e1 : IntKind.i64.wrap (s.arm - 1) = s.arm - 1 := by rw [IntKind.wrap_i64]; omega
      have HP := Aside0.mk (H.out.put 2 (.int .i64 (s.arm - 1)) (s' := { s with arm := s.arm - 1 }) rfl rfl rfl (by dsimp only; omega))
      clear h0 h1 hl
      go_enter Try.func43, Try.ntmps43
      go_wp2
      go_ret
      exact ⟨by simp, ⟨_, _, _, HP.out.1⟩, HP.out.2.1, HP.out.2.2⟩
    · rw [if_neg h1]
      have b2 : decide (0 < s.arm) = false := decide_eq_false h1
      have HB := Aside0.mk (Below.refl w.heap.size w)
      have HBr := Aside0.mk (Nat.le_trans H.out.br (Nat.le_of_lt H.out.lt))
      clear h0 h1 hl
      go_enter Try.func43, Try.ntmps43
      go_wp2
      go_ret
      exact ⟨by simp, ⟨_, _, _, H.out⟩, RF.of_below HB.out HBr.out, keepR_below HB.out⟩
set_option maxHeartbeats 1000000 in
set_option maxRecDepth 100000 in
theorem rarms_calls {B r : Nat} {s : Rk} (n : Int) (hn : n < 9223372036854775808) (w : World) (h : RS w B r s) :
    Calls Try.prog 38 #[.pointer (some ⟨r, 0, none⟩), .int .i64 n] w fun e w' => (∃ u, e = .returned u) ∧ RS w' B r { s with arm := max (-1) n } ∧ RF B w w' := by
  obtain ⟨gL, uL, uP, h⟩ := h
  have c2 : w.cell? ⟨r, 2, none⟩ = some (.int .i64 s.arm) := (blk_cell h.blk 2).trans rfl
  have f2 := blk_frozen h.blk 2
  have HP := Aside0.mk (h.put 2 (.int .i64 (max (-1) n)) (s' := { s with arm := max (-1) n }) rfl rfl rfl (by dsimp only; omega))
  clear h hn
  by_cases hx : n ≤ -1
  · rw [show max (-1) n = -1 by omega] at HP ⊢
    go_enter Try.func38, Try.ntmps38
    go_wp2
    all_goals first | (exfalso; omega) | skip
    go_end0
    exact ⟨⟨_, rfl⟩, ⟨_, _, _, HP.out.1⟩, HP.out.2.1⟩
  · rw [show max (-1) n = n by omega] at HP ⊢
    go_enter Try.func38, Try.ntmps38
    go_wp2
    all_goals first | (exfalso; omega) | skip
    go_end0
    exact ⟨⟨_, rfl⟩, ⟨_, _, _, HP.out.1⟩, HP.out.2.1⟩
set_option maxRecDepth 100000 in
theorem rpages_calls {B r : Nat} {s : Rk} (m : Nat) (hm : s.bytes.length = m * 512) (w : World) (h : RS w B r s) :
    Calls Try.prog 26 #[.pointer (some ⟨r, 0, none⟩)] w fun e w' => e = .returned (.int .i64 (m : Int)) ∧ Below w.heap.size w w' := by
  obtain ⟨gL, uL, uP, h⟩ := h
  obtain ⟨c, cs, e, _⟩ := h.lb
  have c0 : w.cell? ⟨r, 0, none⟩ = some (.slice (some ⟨gL, 0, none⟩) s.bytes.length c) := by rw [← e]; exact (blk_cell h.blk 0).trans rfl
  have HB := Aside0.mk (Below.refl w.heap.size w)
  have hz := h.lz.2
  have hq : wrap64 ((s.bytes.length : Int) / 512) = (m : Int) := by
    have e : (s.bytes.length : Int) / 512 = (m : Int) := by omega
    rw [e]
    unfold wrap64
    omega
  clear h hz hm e
  obtain ⟨L, hL⟩ : ∃ L, L = s.bytes.length := ⟨_, rfl⟩
  rw [← hL] at c0 hq
  clear hL
  go_enter Try.func26, Try.ntmps26
  go_wp2
  go_ret
  exact ⟨by first | rfl | simp [hq], HB.out⟩
end Go.Proofs.Ytehgbikleiaagaa.P
end
section
namespace Go.Proofs.Ytehgbikleiaagaa.P
open Go.RowKit Go.Proofs.YtehgbikleiaagaaW.PrintWords Go.Proofs.YtehgbikleiaagaaW.PrintLast Go.Proofs.YtehgbikleiaagaaW.PrintMore
attribute [local go_sem] max2_int min2_int max_two min_two max_three min_three max_four min_four
set_option linter.unusedVariables false
set_option linter.unusedSimpArgs false
end Go.Proofs.Ytehgbikleiaagaa.P
end
section
namespace Go.Proofs.Ytehgbikleiaagaa.P
open Go.RowKit Go.Proofs.YtehgbikleiaagaaW.PrintWords Go.Proofs.YtehgbikleiaagaaW.PrintLast Go.Proofs.YtehgbikleiaagaaW.PrintMore
attribute [local go_sem] max2_int min2_int max_two min_two max_three min_three max_four min_four
set_option linter.unusedVariables false
set_option linter.unusedSimpArgs false
def bare (s : Dk) : Dk := { s with cache := [] }
def rOf (s : Dk) : Rk := ⟨imageP (bare s) s.pages.toNat, s.cache, s.left, s.down⟩
theorem bare_has (s : Dk) (n : Int) : hasP (bare s) n = s.last n := hasP_last (fun x hx => by simp [bare] at hx)
theorem bare_len {s : Dk} (hl : ∀ i, (s.last i).length = 512) (m : Nat) : (imageP (bare s) m).length = m * 512 := imageP_len (s := bare s) hl (fun x hx => by simp [bare] at hx) m
theorem bare_page {s : Dk} (hl : ∀ i, (s.last i).length = 512) {m j : Nat} (hj : j < m) : ((imageP (bare s) m).drop (j * 512)).take 512 = s.last (j : Int) := by
  have := image_page (s := bare s) (fun i => by rw [bare_has]; exact hl i) m j hj
  rw [bare_has] at this
  exact this
theorem bvV_of {W : World} {b L cap : Nat} {ok : Nat → Prop} {A : Option Addr} {p : List Int} (hp : 0 < p.length) (ho : Kd.R (Kd.int .u8) 5 W b ok (.slice A L cap) p) : ∃ g, BvV W b g (.slice A L cap) p := by
  obtain ⟨g, c, e, hb, _, cells, hc⟩ := Kd.R_form ho hp
  have hL := Kd.R_reads' ho
  injection e with e1 e2 e3
  subst e1 e2 e3
  refine ⟨g, cap, cells, rfl, hL.2.1, hb, hc, fun i x hx => ?_⟩
  have hi : i < p.length := (List.getElem?_eq_some_iff.1 hx).1
  have := (Kd.R_celln 0 ho (i : Int) (by omega) (by omega)).1
  rw [Int.toNat_natCast, blk_cell hc i] at this
  rw [this]
  simp only [rdOf, Int.toNat_natCast, List.getD_eq_getElem?_getD, hx, Option.getD_some]
def BvA (W : World) (u : Value) (p : List Int) : Prop := p.length = 512 ∧ ∃ (g o c : Nat) (cs : Array Value), u = .slice (some ⟨g, o, none⟩) 512 c ∧ W.heap[g]? = some (.cells cs 5 (0, 0)) ∧ ∀ (i : Nat) (x : Int), p[i]? = some x → cs[o + i]? = some (Value.int .u8 x)
theorem BvA.c {W : World} {u : Value} {p : List Int} (h : BvA W u p) : ∃ A c, u = .slice A 512 c ∧ Kd.C (Kd.int .u8) W A p.length p := by
  obtain ⟨h5, g, o, c, cs, e, hc, hx⟩ := h
  refine ⟨_, c, e, rfl, by rw [h5]; decide, fun _ => ⟨⟨g, o, none⟩, rfl, fun j x hj => ⟨[.int .u8 x], rfl, rfl, fun i u hi => ?_⟩⟩⟩
  cases i with
  | zero =>
    obtain rfl : Value.int .u8 x = u := by simpa using hi
    show W.cell? ((⟨g, o, none⟩ : Addr).add (j * 1 + 0)) = _
    rw [Addr.add_mid, Nat.mul_one, Nat.add_zero]
    exact (blk_cell hc (o + j)).trans (hx j x hj)
  | succ i => simp at hi
theorem BvV.any {W : World} {B g : Nat} {u : Value} {p : List Int} (h : BvV W B g u p) (h5 : p.length = 512) : BvA W u p := by
  obtain ⟨c, cs, e, h1, h2, h3, h4⟩ := h
  exact ⟨h5, g, 0, c, cs, by rw [e, h5], h3, fun i x hx => by rw [Nat.zero_add]; exact h4 i x hx⟩
theorem bare_new (p : Int) : ∀ m, imageP (bare (newS p)) m = List.replicate (m * 512) 0 := by
  intro m
  induction m with
  | zero => simp [imageP]
  | succ m ih =>
    rw [imageP_succ, ih, bare_has, Nat.succ_mul, ← List.replicate_append_replicate]
    rfl
theorem rnew_bad (p : Int) (hp : p < 1 ∨ 4096 < p) (w : World) :
    Calls Try.prog 24 #[.int .i64 p] w fun e w' => e = .returned (.tuple #[.pointer none, .int .i64 2]) ∧ Below w.heap.size w w' := by
  have HB := Aside0.mk (Below.refl w.heap.size w)
  by_cases h0 : p < 1
  · have b0 : decide (p < 1) = true := decide_eq_true h0
    have b1 : (p < 1) = True := eq_true h0
    clear hp h0
    go_enter Try.func24, Try.ntmps24
    go_wp2
    refine bodyPost_ret (results_tmp2 rfl _ _ _) rfl ?_
    exact ⟨by simp, HB.out⟩
  · have b0 : decide (p < 1) = false := decide_eq_false h0
    have h1 : 4096 < p := by omega
    have b1 : decide (4096 < p) = true := decide_eq_true h1
    have b2 : (p < 1) = False := eq_false h0
    have b3 : (4096 < p) = True := eq_true h1
    clear hp h0 h1
    go_enter Try.func24, Try.ntmps24
    go_wp2
    refine bodyPost_ret (results_tmp2 rfl _ _ _) rfl ?_
    exact ⟨by simp, HB.out⟩
set_option maxHeartbeats 1000000 in
set_option maxRecDepth 100000 in
theorem rnew_calls (q : Nat) (h0 : 1 ≤ q) (h1 : q ≤ 4096) (w : World) :
    Calls Try.prog 24 #[.int .i64 (q : Int)] w fun e w' => ∃ r, e = .returned (.tuple #[.pointer (some ⟨r, 0, none⟩), .int .i64 0]) ∧ RS w' w.heap.size r (rOf (newS (q : Int))) ∧ Below w.heap.size w w' := by
  have HB := Aside0.mk (Below.refl w.heap.size w)
  have b0 : decide ((q : Int) < 1) = false := decide_eq_false (by omega)
  have b1 : decide (4096 < (q : Int)) = false := decide_eq_false (by omega)
  have w5_ : wrap64 ((q : Int) * 512) = (q : Int) * 512 := by unfold wrap64; omega
  have HQ := Aside0.mk (And.intro h0 h1)
  have HW := Aside0.mk w5_
  have b2 : ((q : Int) < 1) = False := eq_false (by omega)
  have b3 : (4096 < (q : Int)) = False := eq_false (by omega)
  clear h0 h1
  go_enter Try.func24, Try.ntmps24
  go_wp2_with ((with_reducible refine gate_dst (N := 12) rfl ?_); refine Kd.R_make (Kd.int .u8) (w0 := w) w.heap.size 5 rfl (N := 12) rfl 30 _ _ rfl (wrap64 ((q : Int) * 512)) rfl rfl Try.underlying30 (.int .u8 0) 1 info5 rfl (by decide) (by decide) 0 (ok := fun _ => True) (okp := fun _ => False) rfl (fun _ h => h.elim) trivial (by rw [HW.out]; have := HQ.out; exact Int.mul_nonneg (Int.natCast_nonneg q) (by decide)) (by rw [HW.out]; have := HQ.out.2; rw [show ((q : Int) * 512).toNat = q * 512 from rfl]; exact Nat.le_trans (Nat.mul_le_mul (Nat.mul_le_mul this (Nat.le_refl 512)) (Nat.le_refl 1)) (by decide)) HB.out (below_size HB.out) ?_; intro v9 w9 ho hb hg hn; have HO := Aside0.mk ho; have HB1 := Aside0.mk hb; obtain ⟨A9, c9, e9⟩ := Kd.R_slice ho; rw [List.length_replicate] at e9; subst e9; clear ho hb hg hn)
  refine bodyPost_ret (results_tmp2 rfl _ _ _) rfl ?_
  have hbel : Below w9.heap.size w9 (w9.alloc (.cells #[.slice A9 (q * 512) c9, .slice none 0 0, .int .i64 (-1), .bool false] 58)) := below_alloc (Below.refl _ _) _
  have ho : Kd.R (Kd.int .u8) 5 w9 w.heap.size (fun _ => True) (.slice A9 (q * 512) c9) (List.replicate (q * 512) 0) := by
    have := HO.out
    rw [HW.out] at this
    exact this
  obtain ⟨gL, hL⟩ := bvV_of (by rw [List.length_replicate]; have := HQ.out.1; omega) ho
  refine ⟨w9.heap.size, rfl, ⟨gL, _, _, below_size HB1.out, Deep.blk_alloc_new w9 _, ?_, .inl ⟨rfl, rfl⟩, ?_, ?_⟩, below_alloc HB1.out _⟩
  · show BvV _ _ _ _ (imageP (bare (newS (q : Int))) ((q : Int)).toNat)
    rw [Int.toNat_natCast, bare_new]
    exact hL.keep (keepT_below hbel)
  · show (imageP (bare (newS (q : Int))) ((q : Int)).toNat).length % 512 = 0 ∧ (imageP (bare (newS (q : Int))) ((q : Int)).toNat).length ≤ 2097152
    rw [Int.toNat_natCast, bare_new, List.length_replicate]
    have := HQ.out.2
    omega
  · show -1 ≤ (-1 : Int) ∧ (-1 : Int) < 9223372036854775808
    omega
end Go.Proofs.Ytehgbikleiaagaa.P
end
section
namespace Go.Proofs.Ytehgbikleiaagaa.P
open Go.RowKit Go.Proofs.YtehgbikleiaagaaW.PrintWords Go.Proofs.YtehgbikleiaagaaW.PrintLast Go.Proofs.YtehgbikleiaagaaW.PrintMore
attribute [local go_sem] max2_int min2_int max_two min_two max_three min_three max_four min_four
set_option linter.unusedVariables false
set_option linter.unusedSimpArgs false
theorem BvA.below {W W' : World} {u : Value} {p : List Int} (h : BvA W u p) (hb : Below W.heap.size W W') : BvA W' u p := by
  obtain ⟨h5, g, o, c, cs, e, hc, hx⟩ := h
  exact ⟨h5, g, o, c, cs, e, blk_below hc hb, hx⟩
theorem wrap_succ (q : Nat) (h : q < 1073741824) : wrap64 ((q : Int) + 1) = (q : Int) + 1 := by unfold wrap64; omega
theorem below_of_grown {W W' : World} (h : W.grownBy W' none) : Below W.heap.size W W' := ⟨h.os, h.tape, h.output, h.size, fun k hk => h.block k hk (by simp)⟩
set_option maxHeartbeats 4000000 in
set_option maxRecDepth 100000 in
theorem rhas_calls {B r : Nat} {s : Dk} (m : Nat) (hm : s.pages = (m : Int)) (h2 : m ≤ 4096) (hl : ∀ i, (s.last i).length = 512) (hc5 : ∀ x ∈ s.cache, x.2.length = 512) (hcl : s.cache.length ≤ 1073741823) (j : Nat) (hj : j < m) (w : World) (h : RS w B r (rOf s)) :
    Calls Try.prog 40 #[.pointer (some ⟨r, 0, none⟩), .int .i64 (j : Int)] w fun e w' => ∃ v', e = .returned v' ∧ Kd.R (Kd.int .u8) 5 w' w.heap.size (fun _ => True) v' (hasP s (j : Int)) ∧ Below w.heap.size w w' := by
  obtain ⟨gL, uL, uP, h⟩ := h
  have hlen : (rOf s).bytes.length = m * 512 := by
    show (imageP (bare s) s.pages.toNat).length = _
    rw [hm, Int.toNat_natCast]
    exact bare_len hl m
  obtain ⟨cL, csL, eL, hcL, _, hbL, hxL⟩ := h.lb
  rw [hlen] at eL hcL
  have c0 : w.cell? ⟨r, 0, none⟩ = some (.slice (some ⟨gL, 0, none⟩) (m * 512) cL) := by rw [← eL]; exact (blk_cell h.blk 0).trans rfl
  have hpg : ((rOf s).bytes.drop (j * 512)).take 512 = s.last (j : Int) := by
    show ((imageP (bare s) s.pages.toNat).drop (j * 512)).take 512 = _
    rw [hm, Int.toNat_natCast]
    exact bare_page hl hj
  have HA0 : Aside0 (BvA w (.slice (some ⟨gL, j * 512, none⟩) 512 (cL - j * 512)) (s.last (j : Int))) := ⟨hl _, gL, j * 512, _, csL, rfl, hbL, fun i x hx => by
    rw [← hpg, List.getElem?_take, List.getElem?_drop] at hx
    split at hx
    · exact hxL _ x hx
    · cases hx⟩
  have HRD := Aside0.mk h
  have HL := Aside0.mk hl
  have HC5 := Aside0.mk hc5
  have HCL := Aside0.mk hcl
  have HB0 := Aside0.mk (Below.refl w.heap.size w)
  obtain ⟨L, hL⟩ : ∃ L, L = m * 512 := ⟨_, rfl⟩
  rw [← hL] at c0
  have w1_ : wrap64 ((j : Int) * 512) = (j : Int) * 512 := by unfold wrap64; omega
  have w2_ : wrap64 ((j : Int) * 512 + 512) = (j : Int) * 512 + 512 := by unfold wrap64; omega
  have g1 : (0 : Int) ≤ (j : Int) * 512 := by omega
  have g2 : (j : Int) * 512 ≤ (j : Int) * 512 + 512 := by omega
  have g3 : (j : Int) * 512 + 512 ≤ (cL : Int) := by omega
  have g4 : ((j : Int) * 512).toNat = j * 512 := by omega
  have g5 : ((j : Int) * 512 + 512).toNat = j * 512 + 512 := by omega
  have g6 : j * 512 + 512 - j * 512 = 512 := by omega
  have g7_ : (cL = j * 512) = False := eq_false (by omega)
  clear h hl hc5 hcl hlen eL hcL hbL hxL hpg hL hj hm h2
  go_enter Try.func40, Try.ntmps40
  go_wp2_with fail
  go_loopw [5, 6] (fun v5 v6 wr => ∃ k : Nat, v6 = .int .i64 (k : Int) ∧ k ≤ s.cache.length ∧ Aside0 (BvA wr v5 (lastS s k (j : Int))) ∧ Aside0 (Below w.heap.size w wr)) (fun _ v6 _ => s.cache.length - (intOf v6).toNat)
  case atStart => exact ⟨0, rfl, Nat.zero_le _, HA0, HB0⟩
  case round =>
    clear HA0 HB0
    obtain ⟨k, rfl, hk, HA, HB⟩ := hrel
    have hrb := blk_below HRD.out.blk HB.out
    rcases HRD.out.pb with ⟨hnil, enil⟩ | ⟨gP, cP, csP, eP, hcP, _, hbP, _, hxP⟩
    · have hnil' : s.cache = [] := hnil
      have c1 : wr.cell? ⟨r, 1, none⟩ = some (.slice none 0 0) := by rw [← enil]; exact (blk_cell hrb 1).trans rfl
      have hk0 : k = s.cache.length := by rw [hnil'] at hk ⊢; simpa using hk
      have HK := Aside0.mk hk0
      have b1 : decide ((k : Int) < 0) = false := decide_eq_false (by omega)
      have b2 : ((k : Int) < 0) = False := eq_false (by omega)
      obtain ⟨A5, c5, e5, hC5⟩ := HA.out.c
      subst e5
      have HCC := Aside0.mk hC5
      have HLL := Aside0.mk HA.out.1
      clear hnil enil hnil' hk hk0 hrb hC5
      go_wp2_with (first
        | ((with_reducible refine gate_dst (N := 44) rfl ?_); refine Kd.R_lit (Kd.int .u8) (w0 := w) w.heap.size 5 rfl (N := 44) rfl (xs := ([] : List Int)) (inner := []) (ok := fun _ => True) (okp := fun _ => False) (run_empty30 rfl _) ⟨rfl, fun j x hj => by simp at hj⟩ (fun _ h => h.elim) trivial HB.out (below_size HB.out) (by decide) ?_; intro v1 w2 ho hb hg hn; have HO := Aside0.mk ho; have HB1 := Aside0.mk hb; have HC1 := Aside0.mk (Kd.C_below HCC.out (below_of_grown hg)); clear ho hb hg hn HB)
        | ((with_reducible refine gate_builtin (b := .append) (xs := #[.tmp 44, .tmp 45]) rfl ?_); at_builtin; refine Kd.R_append_rows (Kd.int .u8) (w0 := w) w.heap.size rfl (.tmp 44) (.tmp 45) 30 5 (.int .u8 0) 1 rfl Try.underlying30 info5 rfl (by decide) (by decide) v1 [] (lastS s k (j : Int)) A5 512 c5 (fun _ => True) (fun _ => False) rfl rfl HO.out ?aR (fun _ _ h => h) (fun _ h => h.elim) (fun _ _ => trivial) HB1.out (below_size HB1.out) (by decide) ?_; (case aR => have := HC1.out; rw [HLL.out] at this; exact this); intro v2 w3 ho hb hg hat; have HB2 := Aside0.mk hb; have HO2 := Aside0.mk (show Kd.R (Kd.int .u8) 5 w3 w.heap.size (fun _ => True) v2 (lastS s k (j : Int)) from ho); clear ho hb hg hat HO HB1))
      go_ret
      have hkey : lastS s k (j : Int) = hasP s (j : Int) := by rw [HK.out]; exact (hasP_last_all s _).symm
      have hro := HO2.out
      rw [hkey] at hro
      exact ⟨v2, by simp, hro, HB2.out⟩
    · have c1 : wr.cell? ⟨r, 1, none⟩ = some (.slice (some ⟨gP, 0, none⟩) s.cache.length cP) := by
        have : uP = .slice (some ⟨gP, 0, none⟩) s.cache.length cP := eP
        rw [← this]
        exact (blk_cell hrb 1).trans rfl
      by_cases hlt : k < s.cache.length
      · obtain ⟨p, hp⟩ : ∃ p, p = s.cache[k] := ⟨_, rfl⟩
        obtain ⟨p5, a1, z, gz, a2, _, a3⟩ := hxP k p (by rw [hp]; exact List.getElem?_eq_getElem hlt)
        have hbz := blk_below hbP HB.out
        rw [Nat.mul_comm 2 k] at a1 a2
        have d0 : wr.cell? ⟨gP, k * 2, none⟩ = some (.int .i64 p.1) := (blk_cell hbz (k * 2)).trans a1
        have d1 : wr.cell? ⟨gP, k * 2 + 1, none⟩ = some z := (blk_cell hbz (k * 2 + 1)).trans a2
        have ha3 := a3.keep (keepT_below HB.out)
        obtain ⟨cz, csz, ez, _⟩ := a3
        rw [p5] at ez
        have hsuc : lastS s (k + 1) (j : Int) = if (j : Int) = p.1 then p.2 else lastS s k (j : Int) := by rw [lastS_succ hlt, hp]; rfl
        have HSU := Aside0.mk (And.intro hsuc (And.intro p5 ha3))
        have HK := Aside0.mk hlt
        have hk31 : k < 1073741824 := Nat.lt_of_lt_of_le hlt (Nat.le_trans HCL.out (by decide))
        have w3_ := wrap_succ k hk31
        have hki : (k : Int) < (s.cache.length : Int) := Int.ofNat_lt.2 hlt
        have b1 : decide ((k : Int) < (s.cache.length : Int)) = true := decide_eq_true hki
        have b5 : (0 : Int) ≤ (k : Int) := Int.natCast_nonneg k
        have b2 : ((k : Int) < (s.cache.length : Int)) = True := eq_true hki
        have b3 : (k < s.cache.length) = True := eq_true hlt
        subst ez
        clear hxP eP hcP hbP hbz hp p5 a1 a2 ha3 hsuc hlt hk hrb hk31 hki
        by_cases hn : p.1 = (j : Int)
        · have t0 : (p.1 == (j : Int)) = true := beq_iff_eq.mpr hn
          have t1 : decide (p.1 = (j : Int)) = true := decide_eq_true hn
          have HN := Aside0.mk hn
          clear hn
          go_wp2
          go_roundw
          case rel => exact ⟨k + 1, by first | exact congrArg (Value.int .i64) w3_ | rfl, HK.out, ⟨by rw [HSU.out.1, if_pos HN.out.symm]; exact HSU.out.2.2.any HSU.out.2.1⟩, HB⟩
          case measure => exact meas_lt HK.out (by first | exact congrArg (Value.int .i64) w3_ | rfl)
        · have t0 : (p.1 == (j : Int)) = false := beq_eq_false_iff_ne.mpr hn
          have t1 : decide (p.1 = (j : Int)) = false := decide_eq_false hn
          have HN := Aside0.mk hn
          clear hn
          go_wp2
          go_roundw
          case rel => exact ⟨k + 1, by first | exact congrArg (Value.int .i64) w3_ | rfl, HK.out, ⟨by rw [HSU.out.1, if_neg (fun e => HN.out e.symm)]; exact HA.out⟩, HB⟩
          case measure => exact meas_lt HK.out (by first | exact congrArg (Value.int .i64) w3_ | rfl)
      · have hk0 : k = s.cache.length := Nat.le_antisymm hk (Nat.not_lt.1 hlt)
        have HK := Aside0.mk hk0
        have hki : ¬ (k : Int) < (s.cache.length : Int) := fun h => hlt (Int.ofNat_lt.1 h)
        have b1 : decide ((k : Int) < (s.cache.length : Int)) = false := decide_eq_false hki
        have b2 : ((k : Int) < (s.cache.length : Int)) = False := eq_false hki
        have b3 : (k < s.cache.length) = False := eq_false hlt
        obtain ⟨A5, c5, e5, hC5⟩ := HA.out.c
        subst e5
        have HCC := Aside0.mk hC5
        have HLL := Aside0.mk HA.out.1
        clear hxP eP hcP hbP hlt hk hk0 hrb hC5 hki
        go_wp2_with (first
          | ((with_reducible refine gate_dst (N := 44) rfl ?_); refine Kd.R_lit (Kd.int .u8) (w0 := w) w.heap.size 5 rfl (N := 44) rfl (xs := ([] : List Int)) (inner := []) (ok := fun _ => True) (okp := fun _ => False) (run_empty30 rfl _) ⟨rfl, fun j x hj => by simp at hj⟩ (fun _ h => h.elim) trivial HB.out (below_size HB.out) (by decide) ?_; intro v1 w2 ho hb hg hn; have HO := Aside0.mk ho; have HB1 := Aside0.mk hb; have HC1 := Aside0.mk (Kd.C_below HCC.out (below_of_grown hg)); clear ho hb hg hn HB)
          | ((with_reducible refine gate_builtin (b := .append) (xs := #[.tmp 44, .tmp 45]) rfl ?_); at_builtin; refine Kd.R_append_rows (Kd.int .u8) (w0 := w) w.heap.size rfl (.tmp 44) (.tmp 45) 30 5 (.int .u8 0) 1 rfl Try.underlying30 info5 rfl (by decide) (by decide) v1 [] (lastS s k (j : Int)) A5 512 c5 (fun _ => True) (fun _ => False) rfl rfl HO.out ?aR (fun _ _ h => h) (fun _ h => h.elim) (fun _ _ => trivial) HB1.out (below_size HB1.out) (by decide) ?_; (case aR => have := HC1.out; rw [HLL.out] at this; exact this); intro v2 w3 ho hb hg hat; have HB2 := Aside0.mk hb; have HO2 := Aside0.mk (show Kd.R (Kd.int .u8) 5 w3 w.heap.size (fun _ => True) v2 (lastS s k (j : Int)) from ho); clear ho hb hg hat HO HB1))
        go_ret
        have hkey : lastS s k (j : Int) = hasP s (j : Int) := by rw [HK.out]; exact (hasP_last_all s _).symm
        have hro := HO2.out
        rw [hkey] at hro
        exact ⟨v2, by simp, hro, HB2.out⟩
end Go.Proofs.Ytehgbikleiaagaa.P
end
section
namespace Go.Proofs.Ytehgbikleiaagaa.P
open Go.RowKit Go.Proofs.YtehgbikleiaagaaW.PrintWords Go.Proofs.YtehgbikleiaagaaW.PrintLast Go.Proofs.YtehgbikleiaagaaW.PrintMore
attribute [local go_sem] max2_int min2_int max_two min_two max_three min_three max_four min_four
set_option linter.unusedVariables false
set_option linter.unusedSimpArgs false
structure DZ (s : Dk) (m : Nat) : Prop where
  hm : s.pages = (m : Int)
  h1 : 1 ≤ m
  h2 : m ≤ 4096
  hl : ∀ i, (s.last i).length = 512
  hc : ∀ x ∈ s.cache, x.2.length = 512 ∧ 0 ≤ x.1 ∧ x.1 < s.pages
  hn : s.cache.length ≤ 1073741823
theorem DZ.bytes {s : Dk} {m : Nat} (h : DZ s m) : (rOf s).bytes.length = m * 512 := by
  show (imageP (bare s) s.pages.toNat).length = _
  rw [h.hm, Int.toNat_natCast]
  exact bare_len h.hl m
theorem RS.c3 {W : World} {B r : Nat} {s : Rk} (h : RS W B r s) : W.cell? ⟨r, 3, none⟩ = some (.bool s.down) := by
  obtain ⟨gL, uL, uP, h⟩ := h
  exact (blk_cell h.blk 3).trans rfl
theorem RS.step {W W' : World} {B r : Nat} {s : Rk} (h : RS W B r s) (hb : Below W.heap.size W W') : RS W' B r s := h.keep (keepT_below hb)
def RQ (E : Int) (b : List Int) (w : World) (e : Ending) (w' : World) : Prop := ∃ v, e = .returned (.tuple #[v, .int .i64 E]) ∧ Below w.heap.size w w' ∧
      ((E ≠ 0 ∧ v = .slice none 0 0) ∨ (E = 0 ∧ Kd.R (Kd.int .u8) 5 w' w.heap.size (fun _ => True) v b))
set_option maxHeartbeats 4000000 in
set_option maxRecDepth 100000 in
theorem rread_calls {B r : Nat} {s : Dk} (m : Nat) (hz : DZ s m) (n : Int) (w : World) (h : RS w B r (rOf s)) :
    Calls Try.prog 35 #[.pointer (some ⟨r, 0, none⟩), .int .i64 n] w fun e w' => RQ (lookP s n) (hasP s n) w e w' := by
  have HH := Aside0.mk h
  have HZ := Aside0.mk hz
  have HB0 := Aside0.mk (Below.refl w.heap.size w)
  have c3 : w.cell? ⟨r, 3, none⟩ = some (.bool s.down) := h.c3
  unfold lookP
  clear h hz
  cases hd : s.down with
  | true =>
    rw [hd] at c3
    clear hd
    go_enter Try.func35, Try.ntmps35
    go_wp2
    refine bodyPost_ret (results_tmp2 rfl _ _ _) rfl ?_
    exact ⟨.slice none 0 0, by simp, HB0.out, .inl ⟨by simp, rfl⟩⟩
  | false =>
    rw [hd] at c3
    clear hd
    by_cases h0 : n < 0
    · have b0 : decide (n < 0) = true := decide_eq_true h0
      have b1 : (n < 0) = True := eq_true h0
      have e : (if (false = true) then (9 : Int) else if n < 0 ∨ s.pages ≤ n then 2 else 0) = 2 := by simp [h0]
      rw [e]
      clear e h0
      go_enter Try.func35, Try.ntmps35
      go_wp2
      refine bodyPost_ret (results_tmp2 rfl _ _ _) rfl ?_
      exact ⟨.slice none 0 0, by simp, HB0.out, .inl ⟨by simp, rfl⟩⟩
    · have b0 : decide (n < 0) = false := decide_eq_false h0
      have b1 : (n < 0) = False := eq_false h0
      have hpg := rpages_calls m HZ.out.bytes w HH.out
      by_cases h1 : s.pages ≤ n
      · have e : (if (false = true) then (9 : Int) else if n < 0 ∨ s.pages ≤ n then 2 else 0) = 2 := by simp [h1]
        rw [e]
        have h1' : (m : Int) ≤ n := by rw [← HZ.out.hm]; exact h1
        have b2 : decide ((m : Int) ≤ n) = true := decide_eq_true h1'
        have b3 : ((m : Int) ≤ n) = True := eq_true h1'
        clear e h0 h1 h1'
        go_enter Try.func35, Try.ntmps35
        go_wp2_with (go_at_call 26; (with_reducible refine hpg.mono ?_); rintro e w1 ⟨rfl, hb⟩; have HB := Aside0.mk hb; clear hb)
        refine bodyPost_ret (results_tmp2 rfl _ _ _) rfl ?_
        exact ⟨.slice none 0 0, by simp, HB.out, .inl ⟨by simp, rfl⟩⟩
      · have e : (if (false = true) then (9 : Int) else if n < 0 ∨ s.pages ≤ n then 2 else 0) = 0 := by simp [h0, h1]
        rw [e]
        have h1' : ¬ (m : Int) ≤ n := by rw [← HZ.out.hm]; exact h1
        obtain ⟨j, hj⟩ : ∃ j : Nat, n = (j : Int) := ⟨n.toNat, by omega⟩
        subst hj
        have hjm : j < m := by omega
        have HJ := Aside0.mk hjm
        have b2 : decide ((m : Int) ≤ (j : Int)) = false := decide_eq_false h1'
        have b3 : ((m : Int) ≤ (j : Int)) = False := eq_false h1'
        have b4 : (m ≤ j) = False := eq_false (Nat.not_le.2 hjm)
        clear e h0 h1 h1' hjm
        go_enter Try.func35, Try.ntmps35
        go_wp2_with (go_at_call 26; (with_reducible refine hpg.mono ?_); rintro e w1 ⟨rfl, hb⟩; have HB := Aside0.mk hb; clear hb)
        refine (rhas_calls m HZ.out.hm HZ.out.h2 HZ.out.hl (fun x hx => (HZ.out.hc x hx).1) HZ.out.hn j HJ.out _ (HH.out.step HB.out)).mono ?_
        rintro e w2 ⟨v, rfl, ho, hb⟩
        have HO := Aside0.mk (Kd.R_lower ho (below_size HB.out))
        have HB2 := Aside0.mk (below_step HB.out hb)
        clear ho hb
        go_wp2
        refine bodyPost_ret (results_tmp2 rfl _ _ _) rfl ?_
        exact ⟨v, by simp, HB2.out, .inr ⟨rfl, HO.out⟩⟩
end Go.Proofs.Ytehgbikleiaagaa.P
end
section
namespace Go.Proofs.Ytehgbikleiaagaa.P
open Go.RowKit Go.Proofs.YtehgbikleiaagaaW.PrintWords Go.Proofs.YtehgbikleiaagaaW.PrintLast Go.Proofs.YtehgbikleiaagaaW.PrintMore
attribute [local go_sem] max2_int min2_int max_two min_two max_three min_three max_four min_four
set_option linter.unusedVariables false
set_option linter.unusedSimpArgs false
set_option maxHeartbeats 4000000 in
set_option maxRecDepth 100000 in
theorem rimage_calls {B r : Nat} {s : Dk} (m : Nat) (hz : DZ s m) (w : World) (h : RS w B r (rOf s)) :
    Calls Try.prog 29 #[.pointer (some ⟨r, 0, none⟩)] w fun e w' => ∃ v', e = .returned v' ∧ Kd.R (Kd.int .u8) 5 w' w.heap.size (fun _ => True) v' (imageP s m) ∧ Below w.heap.size w w' := by
  have H := Aside0.mk h
  have HZ := Aside0.mk hz
  have HO0 := Aside0.mk (Kd.R_nil (Kd.int .u8) 5 w w.heap.size (fun _ => True))
  have HB0 := Aside0.mk (Below.refl w.heap.size w)
  have hm2 : m ≤ 4096 := hz.h2
  have HM2 := Aside0.mk hm2
  clear h hz
  go_enter Try.func29, Try.ntmps29
  go_wp2_with fail
  go_loopw [3, 4] (fun v3 v4 wr => ∃ k : Nat, v4 = .int .i64 (k : Int) ∧ k ≤ m ∧ Aside0 (Kd.R (Kd.int .u8) 5 wr w.heap.size (fun _ => True) v3 (imageP s k)) ∧ Aside0 (Below w.heap.size w wr)) (fun _ v4 _ => m - (intOf v4).toNat)
  case atStart => exact ⟨0, rfl, Nat.zero_le _, HO0, HB0⟩
  case round =>
    clear HO0 HB0
    obtain ⟨k, rfl, hk, HO, HB⟩ := hrel
    by_cases hlt : k < m
    · have hki : (k : Int) < (m : Int) := Int.ofNat_lt.2 hlt
      have b0 : decide (k < m) = true := decide_eq_true hlt
      have b1 : decide ((k : Int) < (m : Int)) = true := decide_eq_true hki
      have b2 : ((k : Int) < (m : Int)) = True := eq_true hki
      have b3 : (k < m) = True := eq_true hlt
      have HK := Aside0.mk hlt
      have w3_ := wrap_succ k (Nat.lt_of_lt_of_le hlt (Nat.le_trans hm2 (by decide)))
      have HIL := Aside0.mk (imageP_len HZ.out.hl (fun x hx => (HZ.out.hc x hx).1) k)
      have HL5 := Aside0.mk (hasP_len HZ.out.hl (fun x hx => (HZ.out.hc x hx).1) (k : Int))
      obtain ⟨A3, c3, e3⟩ := Kd.R_slice HO.out
      subst e3
      clear hki hlt hk
      go_upto_region 5 with (go_at_call 26; (with_reducible refine (rpages_calls m HZ.out.bytes _ (H.out.step HB.out)).mono ?_); rintro e w1 ⟨rfl, hb⟩; have HB1 := Aside0.mk (below_step HB.out hb); have HO1 := Aside0.mk (Kd.R_below HO.out hb); clear hb HB HO)
      go_wp2_with fail
      refine (rhas_calls m HZ.out.hm HZ.out.h2 HZ.out.hl (fun x hx => (HZ.out.hc x hx).1) HZ.out.hn k HK.out _ (H.out.step HB1.out)).mono ?_
      rintro e w2 ⟨v, rfl, ho, hb⟩
      obtain ⟨A5, c5, e5⟩ := Kd.R_slice ho
      have hC := (Kd.R_reads' (e5 ▸ ho)).2.2
      rw [HL5.out] at e5 hC
      subst e5
      have HC := Aside0.mk hC
      have HB2 := Aside0.mk (below_step HB1.out hb)
      have HO2 := Aside0.mk (Kd.R_below HO1.out hb)
      clear ho hb hC
      go_wp2_with ((with_reducible refine gate_builtin (b := .append) (xs := #[.tmp 11, .tmp 14]) rfl ?_); at_builtin; refine Kd.R_append_rows (Kd.int .u8) (w0 := w) w.heap.size rfl (.tmp 11) (.tmp 14) 30 5 (.int .u8 0) 1 rfl Try.underlying30 info5 rfl (by decide) (by decide) (.slice A3 (imageP s k).length c3) (imageP s k) (hasP s (k : Int)) A5 512 c5 (fun _ => True) (fun _ => False) rfl rfl HO2.out ?aR (fun _ _ h => h) (fun _ h => h.elim) (fun _ _ => trivial) HB2.out (below_size HB2.out) ?aL ?_; (case aR => exact HC.out); (case aL => rw [HIL.out]; have := HM2.out; have := HK.out; omega); intro v253 w16 ho hb hg hat; have HE := Aside0.mk (And.intro ho hb); clear ho hb hg hat)
      go_roundw
      case rel => exact ⟨k + 1, by first | exact congrArg (Value.int .i64) w3_ | rfl, HK.out, ⟨by rw [imageP_succ]; exact HE.out.1⟩, ⟨HE.out.2⟩⟩
      case measure => exact meas_lt HK.out (by first | exact congrArg (Value.int .i64) w3_ | rfl)
    · have hke : k = m := Nat.le_antisymm hk (Nat.not_lt.1 hlt)
      have hki : ¬ (k : Int) < (m : Int) := fun h => hlt (Int.ofNat_lt.1 h)
      have b0 : decide (k < m) = false := decide_eq_false hlt
      have b1 : decide ((k : Int) < (m : Int)) = false := decide_eq_false hki
      have b2 : ((k : Int) < (m : Int)) = False := eq_false hki
      have b3 : (k < m) = False := eq_false hlt
      have HKE := Aside0.mk hke
      clear hlt hk hke hki
      go_wp2_with (go_at_call 26; (with_reducible refine (rpages_calls m HZ.out.bytes _ (H.out.step HB.out)).mono ?_); rintro e w1 ⟨rfl, hb⟩; have HB1 := Aside0.mk (below_step HB.out hb); have HO1 := Aside0.mk (Kd.R_below HO.out hb); clear hb HB HO)
      go_ret
      exact ⟨_, rfl, by rw [← HKE.out]; exact HO1.out, HB1.out⟩
end Go.Proofs.Ytehgbikleiaagaa.P
end
section
namespace Go.Proofs.Ytehgbikleiaagaa.P
open Go.RowKit Go.Proofs.YtehgbikleiaagaaW.PrintWords Go.Proofs.YtehgbikleiaagaaW.PrintLast Go.Proofs.YtehgbikleiaagaaW.PrintMore
attribute [local go_sem] max2_int min2_int max_two min_two max_three min_three max_four min_four
set_option linter.unusedVariables false
set_option linter.unusedSimpArgs false
set_option maxHeartbeats 4000000 in
set_option maxRecDepth 100000 in
theorem rpending_calls {B r : Nat} {s : Dk} (m : Nat) (hz : DZ s m) (w : World) (h : RS w B r (rOf s)) :
    Calls Try.prog 28 #[.pointer (some ⟨r, 0, none⟩)] w fun e w' => ∃ v', e = .returned v' ∧ Kd.R (Kd.int .i64) 3 w' w.heap.size (fun _ => True) v' (s.cache.map (·.1)) ∧ Below w.heap.size w w' := by
  obtain ⟨gL, uL, uP, h⟩ := h
  have HRD := Aside0.mk h
  have HZ := Aside0.mk hz
  have HO0 := Aside0.mk (Kd.R_nil (Kd.int .i64) 3 w w.heap.size (fun _ => True))
  have HB0 := Aside0.mk (Below.refl w.heap.size w)
  clear h hz
  go_enter Try.func28, Try.ntmps28
  go_wp2_with fail
  go_loopw [3, 4] (fun v3 v4 wr => ∃ k : Nat, v4 = .int .i64 (k : Int) ∧ k ≤ s.cache.length ∧ Aside0 (Kd.R (Kd.int .i64) 3 wr w.heap.size (fun _ => True) v3 (pendP s k)) ∧ Aside0 (Below w.heap.size w wr)) (fun _ v4 _ => s.cache.length - (intOf v4).toNat)
  case atStart => exact ⟨0, rfl, Nat.zero_le _, HO0, HB0⟩
  case round =>
    clear HO0 HB0
    obtain ⟨k, rfl, hk, HO, HB⟩ := hrel
    have hrb := blk_below HRD.out.blk HB.out
    rcases HRD.out.pb with ⟨hnil, enil⟩ | ⟨gP, cP, csP, eP, hcP, _, hbP, _, hxP⟩
    · have hnil' : s.cache = [] := hnil
      have c1 : wr.cell? ⟨r, 1, none⟩ = some (.slice none 0 0) := by rw [← enil]; exact (blk_cell hrb 1).trans rfl
      have hk0 : k = s.cache.length := by rw [hnil'] at hk ⊢; simpa using hk
      have b1 : decide ((k : Int) < 0) = false := decide_eq_false (by omega)
      have b2 : ((k : Int) < 0) = False := eq_false (by omega)
      have HO2 : Aside0 (Kd.R (Kd.int .i64) 3 wr w.heap.size (fun _ => True) u3 (s.cache.map (·.1))) := ⟨by have := HO.out; unfold pendP at this; rwa [hk0, List.take_length] at this⟩
      clear hnil enil hnil' hk hk0 hrb
      go_wp2
      go_ret
      exact ⟨_, rfl, HO2.out, HB.out⟩
    · have c1 : wr.cell? ⟨r, 1, none⟩ = some (.slice (some ⟨gP, 0, none⟩) s.cache.length cP) := by
        have : uP = .slice (some ⟨gP, 0, none⟩) s.cache.length cP := eP
        rw [← this]
        exact (blk_cell hrb 1).trans rfl
      by_cases hlt : k < s.cache.length
      · obtain ⟨p, hp⟩ : ∃ p, p = s.cache[k] := ⟨_, rfl⟩
        obtain ⟨p5, a1, z, gz, a2, _, a3⟩ := hxP k p (by rw [hp]; exact List.getElem?_eq_getElem hlt)
        have hbz := blk_below hbP HB.out
        rw [Nat.mul_comm 2 k] at a1
        have d0 : wr.cell? ⟨gP, k * 2, none⟩ = some (.int .i64 p.1) := (blk_cell hbz (k * 2)).trans a1
        have HPS : Aside0 (pendP s (k + 1) = pendP s k ++ [p.1]) := ⟨by unfold pendP; rw [List.take_add_one, List.getElem?_eq_getElem hlt, Option.toList_some, List.map_append, hp]; rfl⟩
        have HPL : Aside0 ((pendP s k).length = k) := ⟨by unfold pendP; rw [List.length_map, List.length_take]; exact Nat.min_eq_left (Nat.le_of_lt hlt)⟩
        have HK := Aside0.mk hlt
        have hk31 : k < 1073741824 := Nat.lt_of_lt_of_le hlt (Nat.le_trans HZ.out.hn (by decide))
        have HK31 := Aside0.mk hk31
        have w3_ := wrap_succ k hk31
        have hki : (k : Int) < (s.cache.length : Int) := Int.ofNat_lt.2 hlt
        have b1 : decide ((k : Int) < (s.cache.length : Int)) = true := decide_eq_true hki
        have b5 : (0 : Int) ≤ (k : Int) := Int.natCast_nonneg k
        have b2 : ((k : Int) < (s.cache.length : Int)) = True := eq_true hki
        have b3 : (k < s.cache.length) = True := eq_true hlt
        obtain ⟨A3, c3, e3⟩ := Kd.R_slice HO.out
        subst e3
        obtain ⟨pn, hpn⟩ : ∃ pn, pn = p.1 := ⟨_, rfl⟩
        have HPN := Aside0.mk hpn
        rw [← hpn] at d0
        clear hxP eP hcP hbP hbz hp p5 a1 a2 a3 hlt hk hrb hk31 hki hpn
        go_wp2_with ((with_reducible refine gate_builtin (b := .append) (xs := #[.tmp 14, .tmp 23]) rfl ?_); at_builtin; refine Kd.R_append (Kd.int .i64) (w0 := w) (W := wr) w.heap.size rfl (.tmp 14) (.tmp 23) 41 3 (.int .i64 0) 8 rfl Try.underlying41 info3 rfl (by decide) (by decide) (.slice A3 (pendP s k).length c3) (pendP s k) pn [.int .i64 pn] (fun _ => True) (fun _ => False) rfl rfl ?aP (fun _ hk => hk.elim) ?aF ?aO ?aB ?aS ?aL ?_; (case aP => exact rfl); (case aB => exact HB.out); (case aF => exact (fun _ _ => trivial)); (case aO => exact HO.out); (case aS => exact below_size HB.out); (case aL => rw [HPL.out]; have := HK31.out; omega); intro v204 w16 ho hb hg hat; have HE := Aside0.mk (And.intro ho hb); clear ho hb hg hat)
        go_roundw
        case rel => exact ⟨k + 1, by first | exact congrArg (Value.int .i64) w3_ | rfl, HK.out, ⟨by rw [HPS.out, ← HPN.out]; exact HE.out.1⟩, ⟨HE.out.2⟩⟩
        case measure => exact meas_lt HK.out (by first | exact congrArg (Value.int .i64) w3_ | rfl)
      · have hk0 : k = s.cache.length := Nat.le_antisymm hk (Nat.not_lt.1 hlt)
        have hki : ¬ (k : Int) < (s.cache.length : Int) := fun h => hlt (Int.ofNat_lt.1 h)
        have b1 : decide ((k : Int) < (s.cache.length : Int)) = false := decide_eq_false hki
        have b2 : ((k : Int) < (s.cache.length : Int)) = False := eq_false hki
        have b3 : (k < s.cache.length) = False := eq_false hlt
        have HO2 : Aside0 (Kd.R (Kd.int .i64) 3 wr w.heap.size (fun _ => True) u3 (s.cache.map (·.1))) := ⟨by have := HO.out; unfold pendP at this; rwa [hk0, List.take_length] at this⟩
        clear hxP eP hcP hbP hlt hk hk0 hrb hki
        go_wp2
        go_ret
        exact ⟨_, rfl, HO2.out, HB.out⟩
end Go.Proofs.Ytehgbikleiaagaa.P
end
section
namespace Go.Proofs.Ytehgbikleiaagaa.P
open Go.RowKit Go.Proofs.YtehgbikleiaagaaW.PrintWords Go.Proofs.YtehgbikleiaagaaW.PrintLast Go.Proofs.YtehgbikleiaagaaW.PrintMore
set_option linter.unusedVariables false
set_option linter.unusedSimpArgs false
theorem info74 : (Try.prog.info? 74).map (fun i => (i.zero, i.size, i.bytes)) = some (some (.agg #[.int .i64 0, .slice none 0 0]), 2, 32) := by kernel_rfl
theorem zero74_size : (Value.agg #[.int .i64 0, .slice none 0 0]).cells.size = 2 := rfl
def PnC (W : World) (B gL : Nat) (cs : Array Value) (P : List (Int × List Int)) : Prop := ∀ (j : Nat) (p : Int × List Int), P[j]? = some p → p.2.length = 512 ∧ cs[2 * j]? = some (Value.int .i64 p.1) ∧ ∃ (z : Value) (gz : Nat), cs[2 * j + 1]? = some z ∧ gz ≠ gL ∧ BvV W B gz z p.2
theorem PnC.snoc {W W' : World} {B gL : Nat} {cs ds : Array Value} {P : List (Int × List Int)} (h : PnC W B gL cs P) (hk : ∀ z gz b, BvV W B gz z b → BvV W' B gz z b) (hd : ∀ j, j < 2 * P.length → ds[j]? = cs[j]?) {n : Int} {b : List Int} {z : Value} {gz : Nat} (h5 : b.length = 512) (hz : BvV W B gz z b) (hg : gz ≠ gL)
    (d0 : ds[2 * P.length]? = some (Value.int .i64 n)) (d1 : ds[2 * P.length + 1]? = some z) : PnC W' B gL ds (P ++ [(n, b)]) := by
  intro j p hj
  by_cases hlt : j < P.length
  · rw [List.getElem?_append_left hlt] at hj
    obtain ⟨a1, a2, y, gy, a3, a4, a5⟩ := h j p hj
    exact ⟨a1, (hd _ (by omega)).trans a2, y, gy, (hd _ (by omega)).trans a3, a4, hk _ _ _ a5⟩
  · have hjx : j = P.length := by
      have := (List.getElem?_eq_some_iff.1 hj).1
      simp at this
      omega
    subst hjx
    have : p = (n, b) := by simpa using hj.symm
    subst this
    exact ⟨h5, d0, z, gz, d1, hg, hk _ _ _ hz⟩
theorem BvV.keepY {W W' : World} {B g x : Nat} {u : Value} {b : List Int} (h : BvV W B g u b) (hk : KeepX W W' x) {cs : Array Value} {t : TypeId} {fr : Nat × Nat} (hx : W.heap[x]? = some (.cells cs t fr)) (ht : t ≠ 5) : BvV W' B g u b :=
  h.keepX hk (fun e => by
    obtain ⟨c, ds, _, _, _, hc, _⟩ := h
    rw [e, hx] at hc
    cases hc
    exact ht rfl)
theorem PnV.append {W : World} {B gL : Nat} {u : Value} {P : List (Int × List Int)} (h : PnV W B gL u P) (hP : P.length ≤ 1073741822) {bs : Nat} {n : Int} {b : List Int} {z : Value} {gz : Nat} (h5 : b.length = 512) (hz : BvV W B gz z b) (hg : gz ≠ gL) (hzo : z.oneCell' = true) (hb : W.heap[bs]? = some (.cells #[.int .i64 n, z] 74 (0, 0))) (hB : B ≤ W.heap.size) :
    ∃ u' W' S, (∀ ty, (Builtin.append_ #[56, 56] ty #[u, .slice (some ⟨bs, 0, none⟩) 1 1]).run Try.prog W = .ok u' W') ∧ (∃ o c, u' = .slice o (P.length + 1) c) ∧ PnV W' B gL u' (P ++ [(n, b)]) ∧ Kp S W W' ∧ (∀ k, S k → B ≤ k ∧ ∃ cs, W.heap[k]? = some (Obj.cells cs 74 (0, 0))) ∧
      (∀ (k : Nat) (cs : Array Value) (t : TypeId) (fr : Nat × Nat), W.heap[k]? = some (Obj.cells cs t fr) → t ≠ 74 → W'.heap[k]? = some (Obj.cells cs t fr)) := by
  have hi := info74
  cases hif : Try.prog.info? 74 with
  | none => rw [hif] at hi; cases hi
  | some it =>
    rw [hif] at hi
    simp only [Option.map_some, Option.some.injEq, Prod.mk.injEq] at hi
    obtain ⟨i1, i2, i3⟩ := hi
    have hnews : ∀ j y, [Value.int .i64 n, z][j]? = some y → W.cell? ((⟨bs, 0, none⟩ : Addr).add j) = some y := fun j y hj => by
      rw [Addr.add_mid, Nat.zero_add]
      refine (blk_cell hb j).trans ?_
      simpa using hj
    rcases h with ⟨rfl, rfl⟩ | ⟨g, cap, cells, rfl, h1, hBg, hc, h2, hx⟩
    · have hrun := fun ty => run_append_nil (P := Try.prog) W 56 ty 74 it _ Try.underlying56 hif i1 ⟨bs, 0, none⟩ 1 1 [.int .i64 n, z] (by rw [i2]; rfl) hnews (by decide) (by decide) (by rw [i3]; decide)
      have hge := grownCap_ge W 1 0 74
      obtain ⟨G, hG⟩ : ∃ G, G = grownCap W 1 0 74 := ⟨_, rfl⟩
      rw [← hG] at hrun hge
      have hbel : Below W.heap.size W (W.drew.alloc (.cells ([Value.int .i64 n, z].toArray ++ Builtin.zeroCells (Value.agg #[.int .i64 0, .slice none 0 0]).cells (G - 1)) 74)) := below_alloc (below_drew1 (Below.refl _ _)) _
      refine ⟨_, _, fun _ => False, hrun, ⟨_, _, rfl⟩, .inr ⟨W.heap.size, G, _, rfl, hge, hB, Deep.blk_alloc_new W.drew _, ?_, ?_⟩, Kp.of_below hbel, fun k hk => hk.elim, fun k cs t fr hk _ => blk_below hk hbel⟩
      · simp only [Array.size_append, List.size_toArray, size_zeroCells, zero74_size, List.length_cons, List.length_nil]
        omega
      · exact PnC.snoc (P := []) (cs := #[]) (fun j p hj => by simp at hj) (fun y gy c hy => hy.keep (keepT_below hbel)) (fun j hj => absurd hj (Nat.not_lt_zero j)) h5 hz hg ((Array.getElem?_append_left (show 0 < 2 by decide)).trans rfl) ((Array.getElem?_append_left (show 1 < 2 by decide)).trans rfl)
    · have hgs : g < W.heap.size := blk_lt hc
      by_cases hroom : P.length + 1 ≤ cap
      · have hl0 : P.length * 2 < cells.size := by omega
        have hl1 : P.length * 2 + 1 < cells.size := by omega
        have hrun := fun ty => run_append_room_cells (P := Try.prog) W 56 ty 74 it Try.underlying56 hif g 0 P.length cap ⟨bs, 0, none⟩ 1 1 [.int .i64 n, z] (by rw [i2]; rfl) hnews (fun y hy => by
            rcases List.mem_cons.1 hy with rfl | hy
            · rfl
            · rw [List.mem_singleton.1 hy]; exact hzo) hroom
          (fun j hj => by
            have hj2 : j < 2 := hj
            rw [i2, blk_cell hc _, Array.getElem?_eq_getElem (by omega)]
            rfl) (fun j hj => blk_frozen hc _)
        rw [i2, Nat.zero_add] at hrun
        have hset : W.setCells g (P.length * 2) [.int .i64 n, z] = (W.setCell ⟨g, P.length * 2, none⟩ (.int .i64 n)).setCell ⟨g, P.length * 2 + 1, none⟩ z := rfl
        rw [hset] at hrun
        have hkp : Kp (fun k => k = g) W ((W.setCell ⟨g, P.length * 2, none⟩ (.int .i64 n)).setCell ⟨g, P.length * 2 + 1, none⟩ z) := (Kp.set (S := fun k => k = g) W ⟨g, P.length * 2, none⟩ (.int .i64 n) rfl).trans (Kp.set (S := fun k => k = g) _ ⟨g, P.length * 2 + 1, none⟩ z rfl) (fun _ _ e => e)
        have hblk : ((W.setCell ⟨g, P.length * 2, none⟩ (.int .i64 n)).setCell ⟨g, P.length * 2 + 1, none⟩ z).heap[g]? = some (.cells ((cells.setIfInBounds (P.length * 2) (.int .i64 n)).setIfInBounds (P.length * 2 + 1) z) 74 (0, 0)) := blk_put (blk_put hc _ _ rfl) _ _ rfl
        have hkx : KeepX W ((W.setCell ⟨g, P.length * 2, none⟩ (.int .i64 n)).setCell ⟨g, P.length * 2 + 1, none⟩ z) g := fun k cs t fr hk hne => (hkp.block k (blk_lt hk) hne).trans hk
        obtain ⟨W', hW'⟩ : ∃ W', W' = (W.setCell ⟨g, P.length * 2, none⟩ (.int .i64 n)).setCell ⟨g, P.length * 2 + 1, none⟩ z := ⟨_, rfl⟩
        rw [← hW'] at hrun hkp hblk hkx
        refine ⟨_, W', fun k => k = g, hrun, ⟨_, _, rfl⟩, .inr ⟨g, cap, _, by rw [List.length_append]; rfl, by rw [List.length_append]; exact hroom, hBg, hblk, by rw [Array.size_setIfInBounds, Array.size_setIfInBounds]; exact h2, ?_⟩, hkp, fun k hk => ⟨hk ▸ hBg, cells, hk ▸ hc⟩, fun k cs t fr hk ht => hkx k cs t fr hk (fun e => by
          rw [e, hc] at hk
          cases hk
          exact ht rfl)⟩
        refine PnC.snoc (cs := cells) hx (fun y gy c hy => hy.keepY hkx hc (by decide)) (fun j hj => ?_) h5 hz hg ?_ ?_
        · rw [Array.getElem?_setIfInBounds_ne (by omega), Array.getElem?_setIfInBounds_ne (by omega)]
        · rw [Array.getElem?_setIfInBounds_ne (by omega), Nat.mul_comm 2, Array.getElem?_setIfInBounds_self, if_pos hl0]
        · rw [Nat.mul_comm 2, Array.getElem?_setIfInBounds_self, if_pos (by rw [Array.size_setIfInBounds]; exact hl1)]
      · have hcapx : cap = P.length := by omega
        obtain ⟨olds, holds⟩ : ∃ olds, olds = cells.toList.take (P.length * 2) := ⟨_, rfl⟩
        have hol : olds.length = P.length * 2 := by
          have hcl : cells.toList.length = cells.size := Array.length_toList
          rw [holds, List.length_take, hcl]
          omega
        have hoc : ∀ j y, olds[j]? = some y → W.cell? ((⟨g, 0, none⟩ : Addr).add j) = some y := fun j y hj => by
          rw [Addr.add_mid, Nat.zero_add]
          refine (blk_cell hc j).trans ?_
          rw [holds, List.getElem?_take] at hj
          split at hj
          · simpa using hj
          · cases hj
        have hfit : Builtin.nextslicecap (P.length + 1) cap * it.bytes ≤ 281474976710656 := by
          rw [i3]
          exact growslice_fits (by omega) (by omega)
        have hrun := fun ty => run_append_grow (P := Try.prog) W 56 ty 74 it _ Try.underlying56 hif i1 ⟨g, 0, none⟩ P.length cap olds (by rw [i2]; exact hol) hoc ⟨bs, 0, none⟩ 1 1 [.int .i64 n, z] (by rw [i2]; rfl) hnews (by omega) (by omega) hfit
        have hge := grownCap_ge W (P.length + 1) cap 74
        obtain ⟨G, hG⟩ : ∃ G, G = grownCap W (P.length + 1) cap 74 := ⟨_, rfl⟩
        rw [← hG] at hrun hge
        have hbel : Below W.heap.size W (W.drew.alloc (.cells (olds.toArray ++ [Value.int .i64 n, z].toArray ++ Builtin.zeroCells (Value.agg #[.int .i64 0, .slice none 0 0]).cells (G - (P.length + 1))) 74)) := below_alloc (below_drew1 (Below.refl _ _)) _
        have hos : olds.toArray.size = P.length * 2 := by rw [List.size_toArray]; exact hol
        have ho2 : (olds.toArray ++ [Value.int .i64 n, z].toArray).size = P.length * 2 + 2 := by rw [Array.size_append, hos]; rfl
        refine ⟨_, _, fun _ => False, hrun, ⟨_, _, rfl⟩, .inr ⟨W.heap.size, G, _, by rw [List.length_append]; rfl, by rw [List.length_append]; exact hge, hB, Deep.blk_alloc_new W.drew _, ?_, ?_⟩, Kp.of_below hbel, fun k hk => hk.elim, fun k cs t fr hk _ => blk_below hk hbel⟩
        · rw [Array.size_append, ho2, size_zeroCells, zero74_size]
          omega
        · refine PnC.snoc (cs := cells) hx (fun y gy c hy => hy.keep (keepT_below hbel)) (fun j hj => ?_) h5 hz hg ?_ ?_
          · rw [Array.getElem?_append_left (by rw [ho2]; omega), Array.getElem?_append_left (by rw [hos]; omega), List.getElem?_toArray, holds, List.getElem?_take, if_pos (by omega)]
            simp
          · rw [Array.getElem?_append_left (by rw [ho2]; omega), Array.getElem?_append_right (by rw [hos]; omega), hos, show 2 * P.length - P.length * 2 = 0 by omega]
            rfl
          · rw [Array.getElem?_append_left (by rw [ho2]; omega), Array.getElem?_append_right (by rw [hos]; omega), hos, show 2 * P.length + 1 - P.length * 2 = 1 by omega]
            rfl
end Go.Proofs.Ytehgbikleiaagaa.P
end
section
namespace Go.Proofs.Ytehgbikleiaagaa.P
open Go.RowKit Go.Proofs.YtehgbikleiaagaaW.PrintWords Go.Proofs.YtehgbikleiaagaaW.PrintLast Go.Proofs.YtehgbikleiaagaaW.PrintMore
attribute [local go_sem] max2_int min2_int max_two min_two max_three min_three max_four min_four
attribute [local go_sem] guard_ptr eql_ptr neq_ptr
set_option linter.unusedVariables false
set_option linter.unusedSimpArgs false
theorem exec_convert {P : Program} {ρ : Operand → Value} {op : Oper} {w : World} {v : Value} (t1 t2 : TypeId) (x : Operand) (ho : op.op = .convert t1 t2 x) {vx : Value} (hx : ρ x = vx) (hv : (convert t1 t2 vx).run P w = .ok v w) : (execOp ρ op).run P w = .ok (.value v) w := by
  subst hx
  unfold execOp
  simp only [ho, Sem.run_bind, hv, Result.andThen_ok, Sem.run_pure]
end Go.Proofs.Ytehgbikleiaagaa.P
end
section
namespace Go.Proofs.Ytehgbikleiaagaa.P
open Go.RowKit Go.Proofs.YtehgbikleiaagaaW.PrintWords Go.Proofs.YtehgbikleiaagaaW.PrintLast Go.Proofs.YtehgbikleiaagaaW.PrintMore
attribute [local go_sem] max2_int min2_int max_two min_two max_three min_three max_four min_four
attribute [local go_sem] guard_ptr eql_ptr neq_ptr
set_option linter.unusedVariables false
set_option linter.unusedSimpArgs false
theorem exec_buildSlice1' {P : Program} {ρ : Operand → Value} {op : Oper} {w w1 : World} {v : Value} (t n i0 : Nat) (x0 : Operand) {v0 : Value} (ho : op.op = .buildSlice t n #[(i0, x0)]) (h0 : ρ x0 = v0) (hv : (Instr.buildSlice t n #[(i0, v0)]).run P w = .ok v w1) : (execOp ρ op).run P w = .ok (.value v) w1 := by
  subst h0
  unfold execOp
  simp only [ho, List.map_toArray, List.map_cons, List.map_nil, Sem.run_bind, hv, Result.andThen_ok, Sem.run_pure]
theorem exec_append {P : Program} {ρ : Operand → Value} {op : Oper} {w w1 : World} {v : Value} (x y : Operand) (t1 t2 : TypeId) (ho : op.op = .call { callee := .builtin .append, args := #[x, y], argTypes := #[t1, t2] }) {vx vy : Value} (hx : ρ x = vx) (hy : ρ y = vy) (hv : ∀ ty, (Builtin.append_ #[t1, t2] ty #[vx, vy]).run P w = .ok v w1) : (execOp ρ op).run P w = .ok (.value v) w1 := by
  unfold execOp
  simp [ho, resolve, invoke, builtin, hx, hy, hv]
theorem DS.cache_le {W : World} {base d C : Nat} {s : Dk} (h : DS W base d s C) : s.cache.length ≤ C := by
  obtain ⟨M, N, v, h, hc⟩ := h
  omega
theorem info4 : (Try.prog.info? 4).map (fun i => (i.zero, i.size, i.bytes)) = some (some (.bool false), 1, 1) := by kernel_rfl
end Go.Proofs.Ytehgbikleiaagaa.P
end
section
namespace Go.Proofs.Ytehgbikleiaagaa.P
open Go.RowKit Go.Proofs.YtehgbikleiaagaaW.PrintWords Go.Proofs.YtehgbikleiaagaaW.PrintLast Go.Proofs.YtehgbikleiaagaaW.PrintMore
attribute [local go_sem] max2_int min2_int max_two min_two max_three min_three max_four min_four
set_option linter.unusedVariables false
set_option linter.unusedSimpArgs false
theorem slice56 (n : Int) (A : Option Addr) (L c : Nat) (w : World) : (Instr.buildSlice 56 1 #[(0, .agg #[.int .i64 n, .slice A L c])]).run Try.prog w = .ok (.slice (some ⟨w.heap.size, 0, none⟩) 1 1) (w.alloc (.cells #[.int .i64 n, .slice A L c] 74)) := by
  have h := info74
  cases hi : Try.prog.info? 74 with
  | none => rw [hi] at h; cases h
  | some it =>
    rw [hi] at h
    simp only [Option.map_some, Option.some.injEq, Prod.mk.injEq] at h
    refine run_buildSlice w 56 74 1 _ _ it _ Try.underlying56 hi h.1 (by rw [h.2.1]; decide) (by rw [h.2.1]; decide) ?_
    rw [h.2.1, fill_one _ _ 0 (.agg #[.int .i64 n, .slice A L c]) [] 0 rfl (by simp [Value.cells]), Instr.fill]
    simp [Value.cells]
theorem rOf_step (s : Dk) : rOf (stepS s) = rstep (rOf s) := by
  have hb : imageP (bare (stepS s)) (stepS s).pages.toNat = imageP (bare s) s.pages.toNat := by
    rw [stepS_pages]
    exact imageP_congr (fun n => by rw [bare_has, bare_has, stepS_last]) _
  unfold rOf
  rw [hb, stepS_cache]
  unfold rstep stepS
  by_cases h0 : s.left = 0
  · simp [h0]
  · by_cases h1 : 0 < s.left
    · simp [h0, h1]
    · simp [h0, h1]
theorem rOf_write (s : Dk) (n : Int) (b : List Int) : rOf (writeS s n b) = { rstep (rOf s) with pend := s.cache ++ [(n, b)] } := by
  rw [← rOf_step]
  unfold rOf writeS
  congr 1
theorem rstep_pend (s : Rk) : (rstep s).pend = s.pend := by unfold rstep; split <;> (try split) <;> rfl
theorem PnV.keepR {W W' : World} {B gL r : Nat} {u : Value} {P : List (Int × List Int)} (h : PnV W B gL u P) (hx : KeepX W W' r) {cs : Array Value} {fr : Nat × Nat} (hr : W.heap[r]? = some (.cells cs 58 fr)) : PnV W' B gL u P := by
  rcases h with hp | ⟨g, c, ds, a0, a1, a2, a3, a4, a5⟩
  · exact .inl hp
  · refine .inr ⟨g, c, ds, a0, a1, a2, hx _ _ _ _ a3 (fun e => ?_), a4, fun j p hj => ?_⟩
    · rw [e, hr] at a3
      cases a3
    · obtain ⟨b1, b2, z, gz, b3, b4, b5⟩ := a5 j p hj
      exact ⟨b1, b2, z, gz, b3, b4, b5.keepY hx hr (by decide)⟩
theorem write_fin {w w1 w2 w5 W6 : World} {B r gL : Nat} {uL uP u6 : Value} {s : Rk} {n : Int} {b : List Int} {S : Nat → Prop} (hBw : B ≤ w.heap.size) (hb : Below w.heap.size w w1) (hf : RF B w1 w2) (hk : KeepR w1 w2) (hr : RD w2 B r gL uL uP s) (h5 : Below w2.heap.size w2 w5) (hp : PnV W6 B gL u6 (s.pend ++ [(n, b)])) (hk6 : Kp S w5 W6) (hS : ∀ k, S k → B ≤ k ∧ ∃ cs, w5.heap[k]? = some (Obj.cells cs 74 (0, 0)))
    (hx6 : ∀ (k : Nat) (cs : Array Value) (t : TypeId) (fr : Nat × Nat), w5.heap[k]? = some (Obj.cells cs t fr) → t ≠ 74 → W6.heap[k]? = some (Obj.cells cs t fr)) :
    RD (W6.setCell ⟨r, 1, none⟩ u6) B r gL uL u6 { s with pend := s.pend ++ [(n, b)] } ∧ RF B w (W6.setCell ⟨r, 1, none⟩ u6) ∧ KeepR w (W6.setCell ⟨r, 1, none⟩ u6) := by
  have hr6 : W6.heap[r]? = some (.cells #[uL, uP, .int .i64 s.arm, .bool s.down] 58 (0, 0)) := hx6 r _ 58 (0, 0) (blk_below hr.blk h5) (by decide)
  have hxs := keepX_set W6 ⟨r, 1, none⟩ u6
  have hB2 : B ≤ w2.heap.size := Nat.le_trans hr.br (Nat.le_of_lt hr.lt)
  have hB5 : B ≤ w5.heap.size := Nat.le_trans hB2 h5.size
  have hf1 : RF B w w2 := (RF.of_below hb hBw).trans hf
  have hf5 : RF B w w5 := hf1.trans (RF.of_below h5 hB2)
  have hf6 : RF B w5 W6 := ⟨hk6.below hB5 (fun k e => (hS k e).1), hk6.size, fun k o hk ho => by
    by_cases hs : S k
    · obtain ⟨_, cs, hc⟩ := hS k hs
      rw [hk] at hc
      exact absurd rfl (ho _ _ _ (Option.some.inj hc)).2.1
    · have hlt : k < w5.heap.size := by
        rcases Nat.lt_or_ge k w5.heap.size with hlt | hge
        · exact hlt
        · rw [Array.getElem?_eq_none hge] at hk; cases hk
      exact (hk6.block k hlt hs).trans hk⟩
  have hB6 : B ≤ W6.heap.size := Nat.le_trans hB5 hk6.size
  have hf7 : RF B W6 (W6.setCell ⟨r, 1, none⟩ u6) := ⟨(Kp.set (S := fun k => k = r) W6 ⟨r, 1, none⟩ u6 rfl).below hB6 (fun k e => e ▸ hr.br), (Kp.set (S := fun k => k = r) W6 ⟨r, 1, none⟩ u6 rfl).size, fun k o hk ho => (Below.heap_setCell W6 _ u6 k (fun e => by
    rw [show k = r from e, hr6] at hk
    exact absurd rfl (ho _ _ _ (Option.some.inj hk).symm).1)).trans hk⟩
  refine ⟨⟨hr.br, blk_put hr6 1 u6 rfl, ?_, hp.keepR hxs hr6, hr.lz, hr.az⟩, hf5.trans (hf6.trans hf7), fun k cs t fr hkk h1 h2 => ?_⟩
  · obtain ⟨c, cs, e, q1, q2, q3, q4⟩ := hr.lb
    have h6 : W6.heap[gL]? = some (.cells cs 5 (0, 0)) := hx6 gL cs 5 (0, 0) (blk_below q3 h5) (by decide)
    refine ⟨c, cs, e, q1, q2, hxs gL cs 5 (0, 0) h6 (fun e => ?_), q4⟩
    rw [show gL = r from e, hr6] at h6
    cases h6
  · have h6 := hx6 k cs t fr (blk_below (hk k cs t fr (blk_below hkk hb) h1 h2) h5) h2
    refine hxs k cs t fr h6 (fun e => ?_)
    rw [show k = r from e, hr6] at h6
    cases h6
    exact h1 rfl
end Go.Proofs.Ytehgbikleiaagaa.P
end
section
namespace Go.Proofs.Ytehgbikleiaagaa.P
open Go.RowKit Go.Proofs.YtehgbikleiaagaaW.PrintWords Go.Proofs.YtehgbikleiaagaaW.PrintLast Go.Proofs.YtehgbikleiaagaaW.PrintMore
attribute [local go_sem] max2_int min2_int max_two min_two max_three min_three max_four min_four
set_option linter.unusedVariables false
set_option linter.unusedSimpArgs false
set_option maxHeartbeats 4000000 in
set_option maxRecDepth 100000 in
theorem rwrite_look {B r : Nat} {s : Dk} (m : Nat) (hz : DZ s m) (n : Int) (hl : lookP s n ≠ 0) (A : Option Addr) (len c : Nat) (w : World) (h : RS w B r (rOf s)) :
    Calls Try.prog 36 #[.pointer (some ⟨r, 0, none⟩), .int .i64 n, .slice A len c] w fun e w' => e = .returned (.int .i64 (lookP s n)) ∧ Below w.heap.size w w' := by
  have HH := Aside0.mk h
  have HZ := Aside0.mk hz
  have HB0 := Aside0.mk (Below.refl w.heap.size w)
  have c3 : w.cell? ⟨r, 3, none⟩ = some (.bool s.down) := h.c3
  have hpg := rpages_calls m HZ.out.bytes w HH.out
  unfold lookP at hl ⊢
  clear h hz
  cases hd : s.down with
  | true =>
    rw [hd] at c3
    rw [if_pos rfl]
    clear hd hl hpg
    go_enter Try.func36, Try.ntmps36
    go_wp2
    go_ret
    exact ⟨by simp, HB0.out⟩
  | false =>
    rw [hd] at c3 hl
    rw [if_neg (by decide)] at hl ⊢
    clear hd
    by_cases h0 : n < 0
    · rw [if_pos (.inl h0)]
      have b0 : decide (n < 0) = true := decide_eq_true h0
      have b1 : (n < 0) = True := eq_true h0
      clear h0 hl hpg
      go_enter Try.func36, Try.ntmps36
      go_wp2
      go_ret
      exact ⟨by simp, HB0.out⟩
    · by_cases h1 : s.pages ≤ n
      · rw [if_pos (.inr h1)]
        have h1' : (m : Int) ≤ n := by rw [← HZ.out.hm]; exact h1
        have b0 : decide (n < 0) = false := decide_eq_false h0
        have b1 : (n < 0) = False := eq_false h0
        have b2 : decide ((m : Int) ≤ n) = true := decide_eq_true h1'
        have b3 : ((m : Int) ≤ n) = True := eq_true h1'
        clear h0 h1 h1' hl
        go_enter Try.func36, Try.ntmps36
        go_wp2_with (go_at_call 26; (with_reducible refine hpg.mono ?_); rintro e w1 ⟨rfl, hb⟩; have HB := Aside0.mk hb; clear hb)
        go_ret
        exact ⟨by simp, HB.out⟩
      · exfalso
        rw [if_neg (by omega)] at hl
        exact hl rfl
set_option maxHeartbeats 4000000 in
set_option maxRecDepth 100000 in
theorem rwrite_len {B r : Nat} {s : Dk} (m : Nat) (hz : DZ s m) (j : Nat) (hj : j < m) (hd : s.down = false) (A : Option Addr) (len c : Nat) (hlen : len ≠ 512) (w : World) (h : RS w B r (rOf s)) :
    Calls Try.prog 36 #[.pointer (some ⟨r, 0, none⟩), .int .i64 (j : Int), .slice A len c] w fun e w' => e = .returned (.int .i64 3) ∧ Below w.heap.size w w' := by
  have c3 : w.cell? ⟨r, 3, none⟩ = some (.bool s.down) := h.c3
  rw [hd] at c3
  have hpg := rpages_calls m hz.bytes w h
  have hji : ¬ (m : Int) ≤ (j : Int) := by omega
  have hl1 : ¬ (len : Int) = 512 := by omega
  have l0 : ((len : Int) == 512) = false := beq_eq_false_iff_ne.mpr hl1
  have l1 : ((len : Int) != 512) = true := by simp only [bne, l0]; rfl
  have l2 : decide ((len : Int) = 512) = false := decide_eq_false hl1
  have l3 : (len == 512) = false := beq_eq_false_iff_ne.mpr hlen
  have l4 : (len != 512) = true := by simp only [bne, l3]; rfl
  have b0 : decide ((j : Int) < 0) = false := decide_eq_false (by omega)
  have b1 : ((j : Int) < 0) = False := eq_false (by omega)
  have b2 : decide ((m : Int) ≤ (j : Int)) = false := decide_eq_false hji
  have b3 : ((m : Int) ≤ (j : Int)) = False := eq_false hji
  have b4 : (m ≤ j) = False := eq_false (Nat.not_le.2 hj)
  clear h hz hd hj hji hl1 hlen
  go_enter Try.func36, Try.ntmps36
  go_wp2_with (go_at_call 26; (with_reducible refine hpg.mono ?_); rintro e w1 ⟨rfl, hb⟩; have HB := Aside0.mk hb; clear hb)
  go_ret
  exact ⟨by simp, HB.out⟩
end Go.Proofs.Ytehgbikleiaagaa.P
end
section
namespace Go.Proofs.Ytehgbikleiaagaa.P
open Go.RowKit Go.Proofs.YtehgbikleiaagaaW.PrintWords Go.Proofs.YtehgbikleiaagaaW.PrintLast Go.Proofs.YtehgbikleiaagaaW.PrintMore
set_option linter.unusedVariables false
set_option linter.unusedSimpArgs false
set_option maxRecDepth 4000
theorem image_get {s : Dk} (hl : ∀ i, (s.last i).length = 512) : ∀ m i, i < m * 512 → (imageP (bare s) m)[i]? = (s.last ((i / 512 : Nat) : Int))[i % 512]? := by
  intro m
  induction m with
  | zero => intro i hi; omega
  | succ m ih =>
    intro i hi
    rw [imageP_succ]
    have hlen := bare_len hl m
    by_cases h : i < m * 512
    · rw [List.getElem?_append_left (by rw [hlen]; exact h)]
      exact ih i h
    · have h1 : i / 512 = m := by omega
      have h2 : i - m * 512 = i % 512 := by omega
      rw [List.getElem?_append_right (by rw [hlen]; omega), hlen, h1, h2, bare_has]
theorem image_over {s : Dk} (hl : ∀ i, (s.last i).length = 512) {m j n : Nat} (hj : j < m) (hn : n ≤ 512) {b : List Int} (hb : b.length = 512) :
    (imageP (bare s) m).take (j * 512) ++ b.take n ++ (imageP (bare s) m).drop (j * 512 + n) = imageP (bare { s with last := upd s.last (j : Int) (over n b (s.last (j : Int))) }) m := by
  have hl2 : ∀ i, (upd s.last (j : Int) (over n b (s.last (j : Int))) i).length = 512 := by
    intro i
    unfold upd
    split
    · exact over_len hb (hl _) hn
    · exact hl i
  have hlen := bare_len hl m
  have hlen2 := bare_len (s := { s with last := upd s.last (j : Int) (over n b (s.last (j : Int))) }) hl2 m
  have hjm : (j + 1) * 512 ≤ m * 512 := Nat.mul_le_mul_right _ hj
  have ht : ((imageP (bare s) m).take (j * 512)).length = j * 512 := by rw [List.length_take, hlen]; omega
  have hbn : (b.take n).length = n := by rw [List.length_take, hb]; omega
  apply List.ext_getElem?
  intro i
  by_cases hi : i < m * 512
  · rw [image_get (s := { s with last := upd s.last (j : Int) (over n b (s.last (j : Int))) }) hl2 m i hi]
    show _ = (upd s.last (j : Int) (over n b (s.last (j : Int))) ((i / 512 : Nat) : Int))[i % 512]?
    unfold upd
    by_cases h1 : i < j * 512
    · rw [if_neg (by omega), List.append_assoc, List.getElem?_append_left (by rw [ht]; exact h1), List.getElem?_take, if_pos h1]
      exact image_get hl m i hi
    · by_cases h2 : i < j * 512 + n
      · have hq : i / 512 = j := by omega
        have hr : i % 512 = i - j * 512 := by omega
        rw [if_pos (by rw [hq]), hr, List.append_assoc, List.getElem?_append_right (by rw [ht]; omega), ht, List.getElem?_append_left (by rw [hbn]; omega)]
        unfold over
        rw [List.getElem?_append_left (by rw [hbn]; omega)]
      · rw [List.getElem?_append_right (by rw [List.length_append, ht, hbn]; omega), List.length_append, ht, hbn, List.getElem?_drop, show j * 512 + n + (i - (j * 512 + n)) = i by omega, image_get hl m i hi]
        by_cases hq : i / 512 = j
        · rw [if_pos (by rw [hq])]
          unfold over
          have hr : i % 512 = i - j * 512 := by omega
          rw [List.getElem?_append_right (by rw [hbn, hr]; omega), hbn, List.getElem?_drop, hq]
          congr 1
          omega
        · rw [if_neg (by omega)]
  · rw [List.getElem?_eq_none (by rw [List.length_append, List.length_append, ht, hbn, List.length_drop, hlen]; omega), List.getElem?_eq_none (by rw [hlen2]; omega)]
end Go.Proofs.Ytehgbikleiaagaa.P
end
section
namespace Go.Proofs.Ytehgbikleiaagaa.P
open Go.RowKit Go.Proofs.YtehgbikleiaagaaW.PrintWords Go.Proofs.YtehgbikleiaagaaW.PrintLast Go.Proofs.YtehgbikleiaagaaW.PrintMore
set_option linter.unusedVariables false
set_option linter.unusedSimpArgs false
set_option maxRecDepth 4000
theorem rOf_last (s : Dk) (m : Nat) (hm : s.pages = (m : Int)) (f : Int → List Int) : rOf { s with last := f } = { rOf s with bytes := imageP (bare { s with last := f }) m } := by
  unfold rOf
  show (⟨imageP (bare { s with last := f }) s.pages.toNat, s.cache, s.left, s.down⟩ : Rk) = _
  rw [hm, Int.toNat_natCast]
theorem rcopy {w : World} {B r gL : Nat} {uL uP : Value} {s : Dk} (m : Nat) (h : RD w B r gL uL uP (rOf s)) (hz : DZ s m) {j n : Nat} (hj : j < m) (hn : n ≤ 512) {gz : Nat} {z : Value} {b : List Int} (hzv : BvV w B gz z b) (hb : b.length = 512) (hg : gz ≠ gL) :
    ∃ cL cz w', uL = .slice (some ⟨gL, 0, none⟩) (m * 512) cL ∧ z = .slice (some ⟨gz, 0, none⟩) 512 cz ∧ m * 512 ≤ cL ∧ 512 ≤ cz ∧
      (∀ ty, (Builtin.copy_ #[30, 30] ty #[.slice (some ⟨gL, j * 512, none⟩) (m * 512 - j * 512) (cL - j * 512), .slice (some ⟨gz, 0, none⟩) n cz]).run Try.prog w = .ok (.int .i64 (n : Int)) w') ∧
      RD w' B r gL uL uP (rOf { s with last := upd s.last (j : Int) (over n b (s.last (j : Int))) }) ∧ RF B w w' := by
  have hbytes : (rOf s).bytes = imageP (bare s) m := by
    show imageP (bare s) s.pages.toNat = _
    rw [hz.hm, Int.toNat_natCast]
  obtain ⟨cL, csL, eL, hcL, hBL, hbL, hxL⟩ := h.lb
  obtain ⟨cz, csz, ez, hcz, hBz, hbz, hxz⟩ := hzv
  rw [hz.bytes] at eL hcL
  rw [hb] at ez hcz
  have hlen := bare_len hz.hl m
  have hjm : (j + 1) * 512 ≤ m * 512 := Nat.mul_le_mul_right _ hj
  have hsz : m * 512 ≤ csL.size := by
    rcases Nat.lt_or_ge csL.size (m * 512) with hlt | hge
    · exfalso
      have hi : csL.size < (imageP (bare s) m).length := by rw [hlen]; exact hlt
      have := hxL csL.size _ (by rw [hbytes]; exact List.getElem?_eq_getElem hi)
      simp at this
    · exact hge
  obtain ⟨cs, hcs⟩ : ∃ cs, cs = (bvs b).take n := ⟨_, rfl⟩
  have hcl : cs.length = n := by rw [hcs, List.length_take, bvs_len, hb]; omega
  have hrun := fun ty => run_copy_row (P := Try.prog) w 30 30 ty 5 gL (j * 512) (m * 512 - j * 512) (cL - j * 512) ⟨gz, 0, none⟩ n cz csL 5 cs Try.underlying30 (by kernel_rfl) hbL (by rw [hcl]; exact (Nat.min_eq_left (by omega)).symm) (fun i v hi => by
    rw [Addr.add_mid, Nat.zero_add]
    refine (blk_cell hbz i).trans ?_
    rw [hcs, List.getElem?_take] at hi
    split at hi
    · unfold bvs at hi
      rw [List.getElem?_map] at hi
      cases hbi : b[i]? with
      | none => rw [hbi] at hi; cases hi
      | some x =>
        rw [hbi] at hi
        rw [hxz i x hbi]
        exact hi
    · cases hi) (by rw [hcl]; omega) (fun v hv => by
    rw [hcs] at hv
    obtain ⟨y, _, rfl⟩ := List.mem_map.1 (List.mem_of_mem_take hv)
    rfl)
  rw [hcl] at hrun
  obtain ⟨ds, hds⟩ : ∃ ds, ds = (csL.toList.take (j * 512) ++ cs ++ csL.toList.drop (j * 512 + n)).toArray := ⟨_, rfl⟩
  rw [← hds] at hrun
  have hblk : (w.setRow gL ds).heap[gL]? = some (.cells ds 5 (0, 0)) := setRow_heap w gL _ _ 5 _ hbL
  have hxr : KeepX w (w.setRow gL ds) gL := fun k c2 t fr hk hne => (setRow_other w gL k _ hne).trans hk
  have hkp : Kp (fun k => k = gL) w (w.setRow gL ds) := ⟨rfl, rfl, rfl, by simp [World.setRow], fun k hk hn => setRow_other w gL k _ hn⟩
  have hrL : r ≠ gL := fun e => by
    have := h.blk
    rw [e, hbL] at this
    cases this
  have hBw : B ≤ w.heap.size := Nat.le_trans h.br (Nat.le_of_lt h.lt)
  refine ⟨cL, cz, w.setRow gL ds, eL, ez, hcL, hcz, fun ty => hrun ty, ?_, hkp.below hBw (fun k e => e ▸ hBL), hkp.size, fun k o hk ho => (setRow_other w gL k _ (fun e => ?_)).trans hk⟩
  · rw [rOf_last s m hz.hm]
    have hl2 : ∀ i, (upd s.last (j : Int) (over n b (s.last (j : Int))) i).length = 512 := by
      intro i
      unfold upd
      split
      · exact over_len hb (hz.hl _) hn
      · exact hz.hl i
    have hlen2 := bare_len (s := { s with last := upd s.last (j : Int) (over n b (s.last (j : Int))) }) hl2 m
    have hov := image_over hz.hl hj hn hb
    have ht : ((imageP (bare s) m).take (j * 512)).length = j * 512 := by rw [List.length_take, hlen]; omega
    have hbn : (b.take n).length = n := by rw [List.length_take, hb]; omega
    have hct : (csL.toList.take (j * 512)).length = j * 512 := by
      have hq : csL.toList.length = csL.size := Array.length_toList
      rw [List.length_take, hq]; omega
    refine ⟨h.br, hxr _ _ _ _ h.blk hrL, ⟨cL, ds, by rw [eL]; congr 1; exact hlen2.symm, by show (imageP _ m).length ≤ cL; rw [hlen2]; exact hcL, hBL, hblk, fun i x hx => ?_⟩, ?_, ?_, h.az⟩
    · have hx2 : (imageP (bare { s with last := upd s.last (j : Int) (over n b (s.last (j : Int))) }) m)[i]? = some x := hx
      rw [← hov] at hx2
      rw [hds, List.getElem?_toArray]
      by_cases h1 : i < j * 512
      · rw [List.append_assoc, List.getElem?_append_left (by rw [ht]; exact h1), List.getElem?_take, if_pos h1] at hx2
        rw [List.append_assoc, List.getElem?_append_left (by rw [hct]; exact h1), List.getElem?_take, if_pos h1]
        have := hxL i x (by rw [hbytes]; exact hx2)
        simpa using this
      · by_cases h2 : i < j * 512 + n
        · rw [List.append_assoc, List.getElem?_append_right (by rw [ht]; omega), ht, List.getElem?_append_left (by rw [hbn]; omega)] at hx2
          rw [List.append_assoc, List.getElem?_append_right (by rw [hct]; omega), hct, List.getElem?_append_left (by rw [hcl]; omega), hcs]
          unfold bvs
          rw [← List.map_take, List.getElem?_map, hx2]
          rfl
        · rw [List.getElem?_append_right (by rw [List.length_append, ht, hbn]; omega), List.length_append, ht, hbn, List.getElem?_drop] at hx2
          rw [List.getElem?_append_right (by rw [List.length_append, hct, hcl]; omega), List.length_append, hct, hcl, List.getElem?_drop]
          have := hxL _ x (by rw [hbytes]; exact hx2)
          simpa using this
    · rcases h.pb with hp | ⟨gP, cP, csP, a0, a1, a2, a3, a4, a5⟩
      · exact .inl hp
      · refine .inr ⟨gP, cP, csP, a0, a1, a2, hxr _ _ _ _ a3 (fun e => ?_), a4, fun k p hk => ?_⟩
        · rw [e, hbL] at a3
          cases a3
        · obtain ⟨q1, q2, y, gy, q3, q4, q5⟩ := a5 k p hk
          exact ⟨q1, q2, y, gy, q3, q4, q5.keepX hxr q4⟩
    · show (imageP _ m).length % 512 = 0 ∧ (imageP _ m).length ≤ 2097152
      rw [hlen2]
      have := hz.h2
      omega
  · rw [e, hbL] at hk
    exact absurd rfl (ho _ _ _ (Option.some.inj hk).symm).2.2
end Go.Proofs.Ytehgbikleiaagaa.P
end
section
namespace Go.Proofs.Ytehgbikleiaagaa.P
open Go.RowKit Go.Proofs.YtehgbikleiaagaaW.PrintWords Go.Proofs.YtehgbikleiaagaaW.PrintLast Go.Proofs.YtehgbikleiaagaaW.PrintMore
attribute [local go_sem] max2_int min2_int max_two min_two max_three min_three max_four min_four
set_option linter.unusedVariables false
set_option linter.unusedSimpArgs false
theorem RD.clear {W : World} {B r gL : Nat} {uL uP : Value} {s : Rk} (h : RD W B r gL uL uP s) : RD (W.setCell ⟨r, 1, none⟩ (.slice none 0 0)) B r gL uL (.slice none 0 0) { s with pend := [] } ∧ RF B W (W.setCell ⟨r, 1, none⟩ (.slice none 0 0)) := by
  have hx := keepX_set W ⟨r, 1, none⟩ (.slice none 0 0)
  refine ⟨⟨h.br, blk_put h.blk 1 _ rfl, h.lb.keepX hx (fun e => ?_), .inl ⟨rfl, rfl⟩, h.lz, h.az⟩, (Kp.set (S := fun k => k = r) W ⟨r, 1, none⟩ _ rfl).below (Nat.le_trans h.br (Nat.le_of_lt h.lt)) (fun k e => e ▸ h.br), (Kp.set (S := fun k => k = r) W ⟨r, 1, none⟩ (.slice none 0 0) rfl).size, fun k o hk ho => (Below.heap_setCell W _ _ k (fun e => ?_)).trans hk⟩
  · obtain ⟨c, cs, _, _, _, hc, _⟩ := h.lb
    have := h.blk
    rw [← show gL = r from e, hc] at this
    cases this
  · have hb := h.blk
    rw [← show k = r from e, hk] at hb
    exact absurd rfl (ho _ _ _ (Option.some.inj hb)).1
theorem over_full {b p : List Int} (hb : b.length = 512) (hp : p.length = 512) : over 512 b p = b := by
  unfold over
  rw [List.take_of_length_le (Nat.le_of_eq hb), List.drop_eq_nil_of_le (Nat.le_of_eq hp), List.append_nil]
theorem DZ.last {s : Dk} {m : Nat} (hz : DZ s m) (k : Nat) (hk : k ≤ s.cache.length) : DZ { s with last := lastS s k } m :=
  ⟨hz.hm, hz.h1, hz.h2, lastS_len hz.hl (fun x hx => (hz.hc x hx).1) k, hz.hc, hz.hn⟩
theorem DZ.step {s : Dk} {m : Nat} (hz : DZ s m) : DZ (stepS s) m := ⟨by rw [stepS_pages]; exact hz.hm, hz.h1, hz.h2, by rw [stepS_last]; exact hz.hl, by rw [stepS_cache, stepS_pages]; exact hz.hc, by rw [stepS_cache]; exact hz.hn⟩
theorem sync_copy {w : World} {B r : Nat} {s : Dk} (m : Nat) (hz : DZ s m) (k : Nat) (hk : k < s.cache.length) (h : RS w B r (rOf { s with last := lastS s k })) :
    ∃ (gL cL gP cP gz cz : Nat) (w' : World) (j : Nat), (j : Int) = s.cache[k].1 ∧ j < m ∧ m * 512 ≤ cL ∧ w.cell? ⟨r, 0, none⟩ = some (.slice (some ⟨gL, 0, none⟩) (m * 512) cL) ∧ w.cell? ⟨r, 1, none⟩ = some (.slice (some ⟨gP, 0, none⟩) s.cache.length cP) ∧ w.cell? ⟨gP, k * 2, none⟩ = some (.int .i64 (j : Int)) ∧ w.cell? ⟨gP, k * 2 + 1, none⟩ = some (.slice (some ⟨gz, 0, none⟩) 512 cz) ∧
      (∀ ty, (Builtin.copy_ #[30, 30] ty #[.slice (some ⟨gL, j * 512, none⟩) (m * 512 - j * 512) (cL - j * 512), .slice (some ⟨gz, 0, none⟩) 512 cz]).run Try.prog w = .ok (.int .i64 ((512 : Nat) : Int)) w') ∧
      RS w' B r (rOf { s with last := lastS s (k + 1) }) ∧ RF B w w' := by
  obtain ⟨gL, uL, uP, hr⟩ := h
  have hz2 := hz.last k (Nat.le_of_lt hk)
  rcases hr.pb with ⟨hnil, _⟩ | ⟨gP, cP, csP, eP, hcP, hBP, hbP, hsP, hxP⟩
  · exfalso
    have : s.cache = [] := hnil
    rw [this] at hk
    exact absurd hk (Nat.not_lt_zero k)
  · obtain ⟨p, hp⟩ : ∃ p, p = s.cache[k] := ⟨_, rfl⟩
    obtain ⟨p5, a1, z, gz, a2, a3, a4⟩ := hxP k p (by rw [hp]; exact List.getElem?_eq_getElem hk)
    rw [Nat.mul_comm 2 k] at a1 a2
    have hpc := hz.hc p (by rw [hp]; exact List.getElem_mem hk)
    have hm := hz.hm
    obtain ⟨j, hj⟩ : ∃ j : Nat, (j : Int) = p.1 := ⟨p.1.toNat, by omega⟩
    have hjm : j < m := by omega
    obtain ⟨cL, cz, w', e1, e2, e3, e4, hrun, hrd, hrf⟩ := rcopy m hr hz2 (n := 512) hjm (Nat.le_refl _) a4 p5 a3
    refine ⟨gL, cL, gP, cP, gz, cz, w', j, by rw [hj, hp], hjm, e3, by rw [← e1]; exact (blk_cell hr.blk 0).trans rfl, ?_, by rw [hj]; exact (blk_cell hbP (k * 2)).trans a1, by rw [← e2]; exact (blk_cell hbP (k * 2 + 1)).trans a2, hrun, ⟨gL, uL, uP, ?_⟩, hrf⟩
    · have : uP = .slice (some ⟨gP, 0, none⟩) s.cache.length cP := eP
      rw [← this]
      exact (blk_cell hr.blk 1).trans rfl
    · have e : lastS s (k + 1) = upd (lastS s k) (j : Int) (over 512 p.2 (lastS s k (j : Int))) := by
        rw [lastS_succ hk, ← hp, hj, over_full p5 (hz2.hl _)]
      rw [e]
      exact hrd
end Go.Proofs.Ytehgbikleiaagaa.P
end
section
namespace Go.Proofs.Ytehgbikleiaagaa.P
open Go.RowKit Go.Proofs.YtehgbikleiaagaaW.PrintWords Go.Proofs.YtehgbikleiaagaaW.PrintLast Go.Proofs.YtehgbikleiaagaaW.PrintMore
attribute [local go_sem] max2_int min2_int max_two min_two max_three min_three max_four min_four
set_option linter.unusedVariables false
set_option linter.unusedSimpArgs false
theorem RS.c1 {W : World} {B r : Nat} {s : Dk} (h : RS W B r (rOf s)) : (∃ o c, W.cell? ⟨r, 1, none⟩ = some (.slice o s.cache.length c)) ∧ W.frozen? ⟨r, 1, none⟩ = false := by
  obtain ⟨gL, uL, uP, h⟩ := h
  refine ⟨?_, blk_frozen h.blk 1⟩
  have hc : W.cell? ⟨r, 1, none⟩ = some uP := (blk_cell h.blk 1).trans rfl
  rcases h.pb with ⟨hnil, e⟩ | ⟨gP, cP, csP, e, _⟩
  · have hn : s.cache = [] := hnil
    rw [hc, e, hn]
    exact ⟨_, _, rfl⟩
  · rw [hc, e]
    exact ⟨_, _, rfl⟩
theorem RS.clear {W : World} {B r : Nat} {s : Dk} {f : Int → List Int} (h : RS W B r (rOf { s with last := f })) : RS (W.setCell ⟨r, 1, none⟩ (.slice none 0 0)) B r (rOf { s with last := f, cache := [] }) ∧ RF B W (W.setCell ⟨r, 1, none⟩ (.slice none 0 0)) := by
  obtain ⟨gL, uL, uP, h⟩ := h
  have := h.clear
  exact ⟨⟨gL, uL, _, this.1⟩, this.2⟩
set_option maxHeartbeats 4000000 in
set_option maxRecDepth 100000 in
theorem rsync_ok {B r : Nat} {s : Dk} (m : Nat) (hz : DZ s m) (hd : s.down = false) (hs : s.left ≠ 0) (w : World) (h : RS w B r (rOf s)) :
    Calls Try.prog 37 #[.pointer (some ⟨r, 0, none⟩)] w fun e w' => e = .returned (.int .i64 0) ∧ RS w' B r (rOf (syncS s)) ∧ RF B w w' := by
  have c3 : w.cell? ⟨r, 3, none⟩ = some (.bool s.down) := h.c3
  rw [hd] at c3
  have hfl := rfails_calls w h
  have hs0 : decide ((rOf s).arm = 0) = false := decide_eq_false hs
  rw [hs0, ← rOf_step] at hfl
  have hz1 := hz.step
  obtain ⟨s1, hs1⟩ : ∃ s1, s1 = stepS s := ⟨_, rfl⟩
  rw [← hs1] at hfl hz1
  have HZ := Aside0.mk hz1
  have HS1 : Aside0 (rOf (syncS s) = rOf { s1 with last := lastS s1 s1.cache.length, cache := [] }) := ⟨by rw [hs1]; unfold syncS; rw [stepS_cache, stepS_last']⟩
  clear h hz hd hs hs0 hs1 hz1
  go_enter Try.func37, Try.ntmps37
  go_upto_region 3 with (go_at_call 43; (with_reducible refine hfl.mono ?_); rintro e w2 ⟨rfl, hs2, hf2, hk2⟩; have HS2 := Aside0.mk hs2; have HF2 := Aside0.mk hf2; clear hs2 hf2 hk2 hfl)
  go_wp2_with fail
  go_loopw [3] (fun v3 wr => ∃ k : Nat, v3 = .int .i64 (k : Int) ∧ k ≤ s1.cache.length ∧ Aside0 (RS wr B r (rOf { s1 with last := lastS s1 k })) ∧ Aside0 (RF B w wr)) (fun v3 _ => s1.cache.length - (intOf v3).toNat)
  case atStart => exact ⟨0, rfl, Nat.zero_le _, HS2, HF2⟩
  case round =>
    clear HS2 HF2
    obtain ⟨k, rfl, hk, HS, HF⟩ := hrel
    by_cases hlt : k < s1.cache.length
    · have hBw : B ≤ wr.heap.size := by obtain ⟨_, _, _, q⟩ := HS.out; exact Nat.le_trans q.br (Nat.le_of_lt q.lt)
      have hdw : Below wr.heap.size wr wr.drew := below_drew1 (Below.refl _ _)
      obtain ⟨gL, cL, gP, cP, gz, cz, w', j, hj, hjm, hcL, d0, d1, d2, d3, hrun, hrs, hrf⟩ := sync_copy m HZ.out k hlt (HS.out.step hdw)
      have c1 : wr.cell? ⟨r, 1, none⟩ = some (.slice (some ⟨gP, 0, none⟩) s1.cache.length cP) := d1
      have HD := Aside0.mk (And.intro d0 (And.intro d1 (And.intro d2 d3)))
      have HRN := Aside0.mk hrun
      have HRS := Aside0.mk hrs
      have HRF := Aside0.mk (HF.out.trans ((RF.of_below hdw hBw).trans hrf))
      have HK := Aside0.mk hlt
      have hm4 := HZ.out.h2
      have w1_ : wrap64 ((j : Int) * 512) = (j : Int) * 512 := by unfold wrap64; omega
      have g1 : (0 : Int) ≤ (j : Int) * 512 := by omega
      have g4 : ((j : Int) * 512).toNat = j * 512 := by omega
      have g3 : (j : Int) * 512 ≤ (m : Int) * 512 := by omega
      have g5 : j * 512 ≤ m * 512 := by omega
      have g7 : ¬ (cL = j * 512) := by omega
      have hki : (k : Int) < (s1.cache.length : Int) := Int.ofNat_lt.2 hlt
      have w3_ := wrap_succ k (Nat.lt_of_lt_of_le hlt (Nat.le_trans HZ.out.hn (by decide)))
      have b5 : (0 : Int) ≤ (k : Int) := Int.natCast_nonneg k
      have g8 : (j ≤ m) = True := eq_true (Nat.le_of_lt hjm)
      have g7_ : (cL = j * 512) = False := eq_false g7
      have b1 : decide ((k : Int) < (s1.cache.length : Int)) = true := decide_eq_true hki
      have b2 : ((k : Int) < (s1.cache.length : Int)) = True := eq_true hki
      have b3 : (k < s1.cache.length) = True := eq_true hlt
      clear hBw hdw hj hjm hcL d0 d1 d2 d3 hrun hrs hrf hm4 g7 hki hlt hk
      go_upto_region 6 with fail
      refine start_ (n := 23) (S := fun w' => w'.cell? ⟨r, 0, none⟩ = some (.slice (some ⟨gL, 0, none⟩) (m * 512) cL) ∧ w'.cell? ⟨r, 1, none⟩ = some (.slice (some ⟨gP, 0, none⟩) s1.cache.length cP) ∧ w'.cell? ⟨gP, k * 2, none⟩ = some (.int .i64 (j : Int)) ∧ w'.cell? ⟨gP, k * 2 + 1, none⟩ = some (.slice (some ⟨gz, 0, none⟩) 512 cz)) (ds := [22]) #[false, false, false, false, false, false, false, false, false, false, false, false, false, false, false, false, false, false, false, false, false, false, false] (by kernel_rfl) rfl rfl ⟨HD.out.1, HD.out.2.1, HD.out.2.2.1, HD.out.2.2.2⟩ (fun hHeld => ?_)
      refine pure_ (i := 0) (N := some 21) (v := ?_) (a' := ?_) #[true, false, false, false, false, false, false, false, false, false, false, false, false, false, false, false, false, false, false, false, false, false, false] rfl rfl (by kernel_rfl) (fun _ _ _ h => h) (Or.inl ⟨by rfl, ?_⟩) ?_ ?_
      rotate_left
      · intro w'
        go_simp
        with_reducible rfl
      rotate_left
      · simp only [Act.put, List.setIfInBounds_toArray, List.set_cons_zero, List.set_cons_succ, i64_w, i32_w]
        rfl
      refine pure_ (i := 1) (N := some 22) (v := ?_) (a' := ?_) #[true, true, false, false, false, false, false, false, false, false, false, false, false, false, false, false, false, false, false, false, false, false, false] rfl rfl (by kernel_rfl) (fun _ _ _ h => h) (Or.inl ⟨by rfl, ?_⟩) ?_ ?_
      rotate_left
      · intro w'
        go_simp
        with_reducible rfl
      rotate_left
      · simp only [Act.put, List.setIfInBounds_toArray, List.set_cons_zero, List.set_cons_succ, i64_w, i32_w]
        rfl
      refine pure_ (i := 2) (N := some 23) (v := ?_) (a' := ?_) #[true, true, true, false, false, false, false, false, false, false, false, false, false, false, false, false, false, false, false, false, false, false, false] rfl rfl (by kernel_rfl) (fun _ _ _ h => h) (Or.inl ⟨by rfl, ?_⟩) ?_ ?_
      rotate_left
      · intro w'
        go_simp
        with_reducible rfl
      rotate_left
      · simp only [Act.put, List.setIfInBounds_toArray, List.set_cons_zero, List.set_cons_succ, i64_w, i32_w]
        rfl
      refine pure_ (i := 4) (N := some 25) (v := ?_) (a' := ?_) #[true, true, true, false, true, false, false, false, false, false, false, false, false, false, false, false, false, false, false, false, false, false, false] rfl rfl (by kernel_rfl) (fun _ _ _ h => h) (Or.inl ⟨by rfl, ?_⟩) ?_ ?_
      rotate_left
      · intro w'
        go_simp
        with_reducible rfl
      rotate_left
      · simp only [Act.put, List.setIfInBounds_toArray, List.set_cons_zero, List.set_cons_succ, i64_w, i32_w]
        rfl
      refine pure_ (i := 5) (N := some 26) (v := ?_) (a' := ?_) #[true, true, true, false, true, true, false, false, false, false, false, false, false, false, false, false, false, false, false, false, false, false, false] rfl rfl (by kernel_rfl) (fun _ _ _ h => h) (Or.inl ⟨by rfl, ?_⟩) ?_ ?_
      rotate_left
      · intro w'
        go_simp
        with_reducible rfl
      rotate_left
      · simp only [Act.put, List.setIfInBounds_toArray, List.set_cons_zero, List.set_cons_succ, i64_w, i32_w]
        rfl
      refine pure_ (i := 6) (N := some 27) (v := ?_) (a' := ?_) #[true, true, true, false, true, true, true, false, false, false, false, false, false, false, false, false, false, false, false, false, false, false, false] rfl rfl (by kernel_rfl) (fun _ _ _ h => h) (Or.inl ⟨by rfl, ?_⟩) ?_ ?_
      rotate_left
      · intro w'
        go_simp
        with_reducible rfl
      rotate_left
      · simp only [Act.put, List.setIfInBounds_toArray, List.set_cons_zero, List.set_cons_succ, i64_w, i32_w]
        rfl
      refine pure_ (i := 8) (N := some 29) (v := ?_) (a' := ?_) #[true, true, true, false, true, true, true, false, true, false, false, false, false, false, false, false, false, false, false, false, false, false, false] rfl rfl (by kernel_rfl) (fun _ _ _ h => h) (Or.inl ⟨by rfl, ?_⟩) ?_ ?_
      rotate_left
      · intro w'
        go_simp
        with_reducible rfl
      rotate_left
      · simp only [Act.put, List.setIfInBounds_toArray, List.set_cons_zero, List.set_cons_succ, i64_w, i32_w]
        rfl
      refine pure_ (i := 14) (N := some 35) (v := ?_) (a' := ?_) #[true, true, true, false, true, true, true, false, true, false, false, false, false, false, true, false, false, false, false, false, false, false, false] rfl rfl (by kernel_rfl) (fun _ _ _ h => h) (Or.inl ⟨by rfl, ?_⟩) ?_ ?_
      rotate_left
      · intro w'
        go_simp
        with_reducible rfl
      rotate_left
      · simp only [Act.put, List.setIfInBounds_toArray, List.set_cons_zero, List.set_cons_succ, i64_w, i32_w]
        rfl
      refine pure_ (i := 15) (N := some 36) (v := ?_) (a' := ?_) #[true, true, true, false, true, true, true, false, true, false, false, false, false, false, true, true, false, false, false, false, false, false, false] rfl rfl (by kernel_rfl) (fun _ _ _ h => h) (Or.inl ⟨by rfl, ?_⟩) ?_ ?_
      rotate_left
      · intro w'
        go_simp
        with_reducible rfl
      rotate_left
      · simp only [Act.put, List.setIfInBounds_toArray, List.set_cons_zero, List.set_cons_succ, i64_w, i32_w]
        rfl
      refine pure_ (i := 16) (N := some 37) (v := ?_) (a' := ?_) #[true, true, true, false, true, true, true, false, true, false, false, false, false, false, true, true, true, false, false, false, false, false, false] rfl rfl (by kernel_rfl) (fun _ _ _ h => h) (Or.inl ⟨by rfl, ?_⟩) ?_ ?_
      rotate_left
      · intro w'
        go_simp
        with_reducible rfl
      rotate_left
      · simp only [Act.put, List.setIfInBounds_toArray, List.set_cons_zero, List.set_cons_succ, i64_w, i32_w]
        rfl
      refine pure_ (i := 18) (N := some 39) (v := ?_) (a' := ?_) #[true, true, true, false, true, true, true, false, true, false, false, false, false, false, true, true, true, false, true, false, false, false, false] rfl rfl (by kernel_rfl) (fun _ _ _ h => h) (Or.inl ⟨by rfl, ?_⟩) ?_ ?_
      rotate_left
      · intro w'
        go_simp
        with_reducible rfl
      rotate_left
      · simp only [Act.put, List.setIfInBounds_toArray, List.set_cons_zero, List.set_cons_succ, i64_w, i32_w]
        rfl
      refine take_ (i := 3) (N := some 24) (v := ?_) (a' := ?_) #[true, true, true, true, true, true, true, false, true, false, false, false, false, false, true, true, true, false, true, false, false, false, false] rfl rfl (by kernel_rfl) (fun _ _ _ h => h) (Or.inl ⟨by rfl, ?_⟩) hHeld ?_ ?_
      rotate_left
      · rintro w' ⟨s0, s1, s2, s3⟩
        go_simp
        with_reducible rfl
      rotate_left
      · simp only [Act.put, List.setIfInBounds_toArray, List.set_cons_zero, List.set_cons_succ, i64_w, i32_w]
        rfl
      refine take_ (i := 7) (N := some 28) (v := ?_) (a' := ?_) #[true, true, true, true, true, true, true, true, true, false, false, false, false, false, true, true, true, false, true, false, false, false, false] rfl rfl (by kernel_rfl) (fun _ _ _ h => h) (Or.inl ⟨by rfl, ?_⟩) hHeld ?_ ?_
      rotate_left
      · rintro w' ⟨s0, s1, s2, s3⟩
        go_simp
        with_reducible rfl
      rotate_left
      · simp only [Act.put, List.setIfInBounds_toArray, List.set_cons_zero, List.set_cons_succ, i64_w, i32_w]
        rfl
      refine pure_ (i := 9) (N := some 30) (v := ?_) (a' := ?_) #[true, true, true, true, true, true, true, true, true, true, false, false, false, false, true, true, true, false, true, false, false, false, false] rfl rfl (by kernel_rfl) (fun _ _ _ h => h) (Or.inl ⟨by rfl, ?_⟩) ?_ ?_
      rotate_left
      · intro w'
        go_simp
        with_reducible rfl
      rotate_left
      · simp only [Act.put, List.setIfInBounds_toArray, List.set_cons_zero, List.set_cons_succ, i64_w, i32_w]
        rfl
      refine pure_ (i := 10) (N := some 31) (v := ?_) (a' := ?_) #[true, true, true, true, true, true, true, true, true, true, true, false, false, false, true, true, true, false, true, false, false, false, false] rfl rfl (by kernel_rfl) (fun _ _ _ h => h) (Or.inl ⟨by rfl, ?_⟩) ?_ ?_
      rotate_left
      · intro w'
        go_simp
        with_reducible rfl
      rotate_left
      · simp only [Act.put, List.setIfInBounds_toArray, List.set_cons_zero, List.set_cons_succ, i64_w, i32_w]
        rfl
      refine take_ (i := 11) (N := some 32) (v := ?_) (a' := ?_) #[true, true, true, true, true, true, true, true, true, true, true, true, false, false, true, true, true, false, true, false, false, false, false] rfl rfl (by kernel_rfl) (fun _ _ _ h => h) (Or.inl ⟨by rfl, ?_⟩) hHeld ?_ ?_
      rotate_left
      · rintro w' ⟨s0, s1, s2, s3⟩
        go_simp
        with_reducible rfl
      rotate_left
      · simp only [Act.put, List.setIfInBounds_toArray, List.set_cons_zero, List.set_cons_succ, i64_w, i32_w]
        rfl
      refine pure_ (i := 12) (N := some 33) (v := ?_) (a' := ?_) #[true, true, true, true, true, true, true, true, true, true, true, true, true, false, true, true, true, false, true, false, false, false, false] rfl rfl (by kernel_rfl) (fun _ _ _ h => h) (Or.inl ⟨by rfl, ?_⟩) ?_ ?_
      rotate_left
      · intro w'
        go_simp
        with_reducible rfl
      rotate_left
      · simp only [Act.put, List.setIfInBounds_toArray, List.set_cons_zero, List.set_cons_succ, i64_w, i32_w]
        rfl
      refine pure_ (i := 13) (N := some 34) (v := ?_) (a' := ?_) #[true, true, true, true, true, true, true, true, true, true, true, true, true, true, true, true, true, false, true, false, false, false, false] rfl rfl (by kernel_rfl) (fun _ _ _ h => h) (Or.inl ⟨by rfl, ?_⟩) ?_ ?_
      rotate_left
      · intro w'
        go_simp
        with_reducible rfl
      rotate_left
      · simp only [Act.put, List.setIfInBounds_toArray, List.set_cons_zero, List.set_cons_succ, i64_w, i32_w]
        rfl
      refine take_ (i := 17) (N := some 38) (v := ?_) (a' := ?_) #[true, true, true, true, true, true, true, true, true, true, true, true, true, true, true, true, true, true, true, false, false, false, false] rfl rfl (by kernel_rfl) (fun _ _ _ h => h) (Or.inl ⟨by rfl, ?_⟩) hHeld ?_ ?_
      rotate_left
      · rintro w' ⟨s0, s1, s2, s3⟩
        go_simp
        with_reducible rfl
      rotate_left
      · simp only [Act.put, List.setIfInBounds_toArray, List.set_cons_zero, List.set_cons_succ, i64_w, i32_w]
        rfl
      refine pure_ (i := 19) (N := some 40) (v := ?_) (a' := ?_) #[true, true, true, true, true, true, true, true, true, true, true, true, true, true, true, true, true, true, true, true, false, false, false] rfl rfl (by kernel_rfl) (fun _ _ _ h => h) (Or.inl ⟨by rfl, ?_⟩) ?_ ?_
      rotate_left
      · intro w'
        go_simp
        with_reducible rfl
      rotate_left
      · simp only [Act.put, List.setIfInBounds_toArray, List.set_cons_zero, List.set_cons_succ, i64_w, i32_w]
        rfl
      refine pure_ (i := 20) (N := some 41) (v := ?_) (a' := ?_) #[true, true, true, true, true, true, true, true, true, true, true, true, true, true, true, true, true, true, true, true, true, false, false] rfl rfl (by kernel_rfl) (fun _ _ _ h => h) (Or.inl ⟨by rfl, ?_⟩) ?_ ?_
      rotate_left
      · intro w'
        go_simp
        with_reducible rfl
      rotate_left
      · simp only [Act.put, List.setIfInBounds_toArray, List.set_cons_zero, List.set_cons_succ, i64_w, i32_w]
        rfl
      refine take_ (i := 21) (N := some 42) (v := ?_) (a' := ?_) #[true, true, true, true, true, true, true, true, true, true, true, true, true, true, true, true, true, true, true, true, true, true, false] rfl rfl (by kernel_rfl) (fun _ _ _ h => h) (Or.inl ⟨by rfl, ?_⟩) hHeld ?_ ?_
      rotate_left
      · rintro w' ⟨s0, s1, s2, s3⟩
        go_simp
        with_reducible rfl
      rotate_left
      · simp only [Act.put, List.setIfInBounds_toArray, List.set_cons_zero, List.set_cons_succ, i64_w, i32_w]
        rfl
      refine last_ (i := 22) (N := some 43) #[true, true, true, true, true, true, true, true, true, true, true, true, true, true, true, true, true, true, true, true, true, true, true] rfl rfl (by kernel_rfl) (by decide) (fun K hK => ?_)
      refine value_ (w1 := w') (v := .int .i64 ((512 : Nat) : Int)) (by rfl) rfl (exec_copy (.tmp 34) (.tmp 42) 30 30 rfl (by rfl) (by rfl) HRN.out) ?_
      refine hK.out _ _ ?_
      clear hK K
      refine norm_ (a' := ?_) ?_ ?_
      rotate_left
      · show Act.put _ (some 43) _ = _
        simp only [Act.put, List.setIfInBounds_toArray, List.set_cons_zero, List.set_cons_succ, i64_w, i32_w]
        rfl
      refine done_ (by kernel_rfl) ?_
      go_wp2_with fail
      go_roundw
      case rel => exact ⟨k + 1, by first | exact congrArg (Value.int .i64) w3_ | rfl, HK.out, HRS, HRF⟩
      case measure => exact meas_lt HK.out (by first | exact congrArg (Value.int .i64) w3_ | rfl)
    · obtain ⟨⟨o, c, c1⟩, f1⟩ := HS.out.c1
      have hk0 : k = s1.cache.length := Nat.le_antisymm hk (Nat.not_lt.1 hlt)
      have HCL := Aside0.mk HS.out.clear
      have hki : ¬ (k : Int) < (s1.cache.length : Int) := fun h => hlt (Int.ofNat_lt.1 h)
      have c1' : wr.cell? ⟨r, 1, none⟩ = some (.slice o s1.cache.length c) := c1
      have HK := Aside0.mk hk0
      have b1 : decide ((k : Int) < (s1.cache.length : Int)) = false := decide_eq_false hki
      have b2 : ((k : Int) < (s1.cache.length : Int)) = False := eq_false hki
      have b3 : (k < s1.cache.length) = False := eq_false hlt
      clear hlt hk hk0 hki c1
      go_wp2
      go_ret
      refine ⟨by simp, ?_, HF.out.trans HCL.out.2⟩
      rw [HS1.out, ← HK.out]
      exact HCL.out.1
end Go.Proofs.Ytehgbikleiaagaa.P
end
section
namespace Go.Proofs.Ytehgbikleiaagaa.P
open Go.RowKit Go.Proofs.YtehgbikleiaagaaW.PrintWords Go.Proofs.YtehgbikleiaagaaW.PrintLast Go.Proofs.YtehgbikleiaagaaW.PrintMore
attribute [local go_sem] max2_int min2_int max_two min_two max_three min_three max_four min_four
set_option linter.unusedVariables false
set_option linter.unusedSimpArgs false
set_option maxHeartbeats 1000000 in
set_option maxRecDepth 100000 in
theorem rsync_down {B r : Nat} {s : Dk} (hd : s.down = true) (w : World) (h : RS w B r (rOf s)) :
    Calls Try.prog 37 #[.pointer (some ⟨r, 0, none⟩)] w fun e w' => e = .returned (.int .i64 9) ∧ Below w.heap.size w w' := by
  have c3 : w.cell? ⟨r, 3, none⟩ = some (.bool s.down) := h.c3
  rw [hd] at c3
  have HB := Aside0.mk (Below.refl w.heap.size w)
  clear h hd
  go_enter Try.func37, Try.ntmps37
  go_wp2
  go_ret
  exact ⟨by simp, HB.out⟩
set_option maxHeartbeats 1000000 in
set_option maxRecDepth 100000 in
theorem rsync_fail {B r : Nat} {s : Dk} (hd : s.down = false) (hs : s.left = 0) (w : World) (h : RS w B r (rOf s)) :
    Calls Try.prog 37 #[.pointer (some ⟨r, 0, none⟩)] w fun e w' => e = .returned (.int .i64 9) ∧ RS w' B r (rOf (stepS s)) ∧ RF B w w' := by
  have c3 : w.cell? ⟨r, 3, none⟩ = some (.bool s.down) := h.c3
  rw [hd] at c3
  have hfl := rfails_calls w h
  have hs0 : decide ((rOf s).arm = 0) = true := decide_eq_true hs
  rw [hs0] at hfl
  clear h hd hs hs0
  go_enter Try.func37, Try.ntmps37
  go_wp2_with (go_at_call 43; (with_reducible refine hfl.mono ?_); rintro e w2 ⟨rfl, hs2, hf2, hk2⟩; have HS2 := Aside0.mk hs2; have HF2 := Aside0.mk hf2; clear hs2 hf2 hk2 hfl)
  go_ret
  exact ⟨by simp, by rw [rOf_step]; exact HS2.out, HF2.out⟩
theorem rsync_calls {B r : Nat} {s : Dk} (m : Nat) (hz : DZ s m) (w : World) (h : RS w B r (rOf s)) :
    Calls Try.prog 37 #[.pointer (some ⟨r, 0, none⟩)] w fun e w' => e = .returned (.int .i64 (syncE s)) ∧ RS w' B r (rOf (syncD s)) ∧ RF B w w' := by
  have hBW : B ≤ w.heap.size := by obtain ⟨_, _, _, q⟩ := h; exact Nat.le_trans q.br (Nat.le_of_lt q.lt)
  unfold syncE syncD
  by_cases hd : s.down = true
  · rw [if_pos hd, if_pos hd]
    exact (rsync_down hd w h).mono fun e w' ⟨he, hb⟩ => ⟨he, h.step hb, RF.of_below hb hBW⟩
  · rw [if_neg hd, if_neg hd]
    have hd0 : s.down = false := by simpa using hd
    by_cases hs : s.left = 0
    · rw [if_pos hs, if_pos hs]
      exact rsync_fail hd0 hs w h
    · rw [if_neg hs, if_neg hs]
      exact rsync_ok m hz hd0 hs w h
theorem rarms_disk {B r : Nat} {s : Dk} (n : Int) (hn : n < 9223372036854775808) (w : World) (h : RS w B r (rOf s)) :
    Calls Try.prog 38 #[.pointer (some ⟨r, 0, none⟩), .int .i64 n] w fun e w' => (∃ u, e = .returned u) ∧ RS w' B r (rOf { s with left := max (-1) n }) ∧ RF B w w' := rarms_calls n hn w h
end Go.Proofs.Ytehgbikleiaagaa.P
end
section
namespace Go.Proofs.Ytehgbikleiaagaa.P
open Go.RowKit Go.Proofs.YtehgbikleiaagaaW.PrintWords Go.Proofs.YtehgbikleiaagaaW.PrintLast Go.Proofs.YtehgbikleiaagaaW.PrintMore
set_option linter.unusedVariables false
set_option linter.unusedSimpArgs false
theorem DZ.mend {s : Dk} {m : Nat} (hz : DZ s m) (keep : List Bool) (torn cut : Int) (k : Nat) (hk : k ≤ s.cache.length) : DZ { s with last := mendL s keep torn cut k } m :=
  ⟨hz.hm, hz.h1, hz.h2, mendL_len hz.hl (fun x hx => (hz.hc x hx).1) k hk, hz.hc, hz.hn⟩
theorem over_none (b p : List Int) : over 0 b p = p := by simp [over]
theorem mendL_none {s : Dk} {keep : List Bool} {torn cut : Int} {k : Nat} (hk : k < s.cache.length) (h : mendN keep torn cut k = 0) : mendL s keep torn cut (k + 1) = mendL s keep torn cut k := by
  rw [mendL_succ hk, h, over_none]
  funext i
  unfold upd
  split
  · rename_i e
    rw [e]
  · rfl
theorem mend_copy {w : World} {B r : Nat} {s : Dk} {keep : List Bool} {torn cut : Int} (m : Nat) (hz : DZ s m) (k : Nat) (hk : k < s.cache.length) (n : Nat) (hn : n = mendN keep torn cut k) (h : RS w B r (rOf { s with last := mendL s keep torn cut k })) :
    ∃ (gL cL gP cP gz cz : Nat) (w' : World) (j : Nat), (j : Int) = s.cache[k].1 ∧ j < m ∧ m * 512 ≤ cL ∧ 512 ≤ cz ∧ n ≤ 512 ∧ w.cell? ⟨r, 0, none⟩ = some (.slice (some ⟨gL, 0, none⟩) (m * 512) cL) ∧ w.cell? ⟨r, 1, none⟩ = some (.slice (some ⟨gP, 0, none⟩) s.cache.length cP) ∧ w.cell? ⟨gP, k * 2, none⟩ = some (.int .i64 (j : Int)) ∧ w.cell? ⟨gP, k * 2 + 1, none⟩ = some (.slice (some ⟨gz, 0, none⟩) 512 cz) ∧
      (∀ ty, (Builtin.copy_ #[30, 30] ty #[.slice (some ⟨gL, j * 512, none⟩) (m * 512 - j * 512) (cL - j * 512), .slice (some ⟨gz, 0, none⟩) n cz]).run Try.prog w = .ok (.int .i64 (n : Int)) w') ∧
      RS w' B r (rOf { s with last := mendL s keep torn cut (k + 1) }) ∧ RF B w w' := by
  obtain ⟨gL, uL, uP, hr⟩ := h
  have hz2 := hz.mend keep torn cut k (Nat.le_of_lt hk)
  have hn5 : n ≤ 512 := by rw [hn]; exact mendYtehgbikleiaagaale _ _ _ _
  rcases hr.pb with ⟨hnil, _⟩ | ⟨gP, cP, csP, eP, hcP, hBP, hbP, hsP, hxP⟩
  · exfalso
    have : s.cache = [] := hnil
    rw [this] at hk
    exact absurd hk (Nat.not_lt_zero k)
  · obtain ⟨p, hp⟩ : ∃ p, p = s.cache[k] := ⟨_, rfl⟩
    obtain ⟨p5, a1, z, gz, a2, a3, a4⟩ := hxP k p (by rw [hp]; exact List.getElem?_eq_getElem hk)
    rw [Nat.mul_comm 2 k] at a1 a2
    have hpc := hz.hc p (by rw [hp]; exact List.getElem_mem hk)
    have hm := hz.hm
    obtain ⟨j, hj⟩ : ∃ j : Nat, (j : Int) = p.1 := ⟨p.1.toNat, by omega⟩
    have hjm : j < m := by omega
    obtain ⟨cL, cz, w', e1, e2, e3, e4, hrun, hrd, hrf⟩ := rcopy m hr hz2 (n := n) hjm hn5 a4 p5 a3
    refine ⟨gL, cL, gP, cP, gz, cz, w', j, by rw [hj, hp], hjm, e3, e4, hn5, by rw [← e1]; exact (blk_cell hr.blk 0).trans rfl, ?_, by rw [hj]; exact (blk_cell hbP (k * 2)).trans a1, by rw [← e2]; exact (blk_cell hbP (k * 2 + 1)).trans a2, hrun, ⟨gL, uL, uP, ?_⟩, hrf⟩
    · have : uP = .slice (some ⟨gP, 0, none⟩) s.cache.length cP := eP
      rw [← this]
      exact (blk_cell hr.blk 1).trans rfl
    · have e : mendL s keep torn cut (k + 1) = upd (mendL s keep torn cut k) (j : Int) (over n p.2 (mendL s keep torn cut k (j : Int))) := by
        rw [mendL_succ hk, ← hp, hj, ← hn]
      rw [e]
      exact hrd
end Go.Proofs.Ytehgbikleiaagaa.P
end

/- Laid by a program of this session out of its texts for the law DiskBytes, part 2. -/
import Derived.Laws.StructEq
import Derived.Laws.CopyRow
import Derived.Laws.CopyOwn
import Derived.Laws.Pointers
import Derived.Laws.Entries
import Derived.ArgAppend
import Derived.Test.YtehgbikleiaagaaZDiskBytes1
section
namespace Go.Proofs.Ytehgbikleiaagaa.P
open Go.RowKit Go.Proofs.YtehgbikleiaagaaW.PrintWords Go.Proofs.YtehgbikleiaagaaW.PrintLast Go.Proofs.YtehgbikleiaagaaW.PrintMore
attribute [local go_sem] max2_int min2_int max_two min_two max_three min_three max_four min_four
set_option linter.unusedVariables false
set_option linter.unusedSimpArgs false
theorem MP.copy {W W' : World} {M M' N : Nat} {f : Int → List Int} (h : MP W M N f) (hb : W'.heap[M']? = W.heap[M]?) : MP W' M' N f := by
  obtain ⟨D, ⟨es, clock, hm, F, hs, hD⟩, h2⟩ := h
  exact ⟨D, ⟨es, clock, hb.trans hm, F, hs, hD⟩, h2⟩
theorem Below.of_drew (W : World) {w4 : World} (h : Below W.drew.heap.size W.drew w4) : Below W.heap.size W w4 := ⟨h.os, h.tape, h.output, h.size, h.block⟩
theorem at_world {P : Program} {c : Code} {Q : Exit → Act → World → Prop} {a : Act} {W : World} (R : World → Prop) (h : R W) (k : ∀ W', R W' → Code.wp P c Q a W') : Code.wp P c Q a W := k W h
set_option maxHeartbeats 2000000 in
set_option maxRecDepth 100000 in
theorem clone_calls {base d M N : Nat} {v : Value} {s : Dk} (w : World) (h : DD w base d M N v s) :
    Calls Try.prog 23 #[dp d] w fun e w' => ∃ d' M' v', e = .returned (dp d') ∧ DD w' w.heap.size d' M' N v' s ∧ Below w.heap.size w w' := by
  obtain ⟨A, c, ev⟩ := Kd.R_slice h.row
  subst ev
  have c0 : w.cell? ⟨d, 0, none⟩ = some (.int .i64 s.pages) := (blk_cell h.blk 0).trans rfl
  have c1 : w.cell? ⟨d, 1, none⟩ = some (.map (some M)) := (blk_cell h.blk 1).trans rfl
  have c2 : w.cell? ⟨d, 2, none⟩ = some (.slice A s.cache.length c) := (blk_cell h.blk 2).trans rfl
  have c3 : w.cell? ⟨d, 3, none⟩ = some (.int .i64 s.left) := (blk_cell h.blk 3).trans rfl
  have c4 : w.cell? ⟨d, 4, none⟩ = some (.bool s.down) := (blk_cell h.blk 4).trans rfl
  have hu := Try.underlying64
  have H := Aside0.mk h
  clear h
  unfold dp
  go_enter Try.func23, Try.ntmps23
  go_upto_region 2 with fail
  refine at_world (fun W => W.heap[w.heap.size]? = some (.cells (dkBlk M (.slice A s.cache.length c) s) 64 (0, 0)) ∧ Below w.heap.size w W) ?start (fun W hI => ?_)
  case start =>
    exact ⟨Deep.blk_alloc_new w _, below_alloc (Below.refl _ _) _⟩
  have HI := Aside0.mk hI
  clear c0 c1 c2 c3 c4 hI
  have hd := H.out.lt
  have hH := H.out.step HI.out.2
  have cd1 : W.cell? ⟨d, 1, none⟩ = some (.map (some M)) := (blk_cell hH.blk 1).trans rfl
  have cd2 : W.cell? ⟨d, 2, none⟩ = some (.slice A s.cache.length c) := (blk_cell hH.blk 2).trans rfl
  obtain ⟨es, clock, hm⟩ := hH.mp.blk
  have HD := Aside0.mk hH
  have HCL : Aside0 (clonePending.f s.cache = some s.cache) := ⟨if_pos (by have := hH.tot; omega)⟩
  have HMB := Aside0.mk hm
  have HMB2 : Aside0 (W.drew.heap[M]? = some (.map es clock)) := ⟨hm⟩
  clear hH hd hm
  refine start_ (n := 14) (S := fun w' => w'.cell? ⟨d, 1, none⟩ = some (.map (some M)) ∧ w'.cell? ⟨d, 2, none⟩ = some (.slice A s.cache.length c)) (ds := [11, 13]) #[false, false, false, false, false, false, false, false, false, false, false, false, false, false] (by kernel_rfl) rfl rfl ⟨cd1, cd2⟩ (fun hHeld => ?_)
  refine pure_ (i := 0) (N := some 7) (v := ?_) (a' := ?_) #[true, false, false, false, false, false, false, false, false, false, false, false, false, false] rfl rfl (by kernel_rfl) (fun _ _ _ h => h) (Or.inl ⟨by rfl, ?_⟩) ?_ ?_
  rotate_left
  · intro w'
    go_simp
    with_reducible rfl
  rotate_left
  · simp only [Act.put, List.setIfInBounds_toArray, List.set_cons_zero, List.set_cons_succ, i64_w, i32_w]
    rfl
  refine pure_ (i := 1) (N := some 8) (v := ?_) (a' := ?_) #[true, true, false, false, false, false, false, false, false, false, false, false, false, false] rfl rfl (by kernel_rfl) (fun _ _ _ h => h) (Or.inl ⟨by rfl, ?_⟩) ?_ ?_
  rotate_left
  · intro w'
    go_simp
    with_reducible rfl
  rotate_left
  · simp only [Act.put, List.setIfInBounds_toArray, List.set_cons_zero, List.set_cons_succ, i64_w, i32_w]
    rfl
  refine pure_ (i := 2) (N := some 9) (v := ?_) (a' := ?_) #[true, true, true, false, false, false, false, false, false, false, false, false, false, false] rfl rfl (by kernel_rfl) (fun _ _ _ h => h) (Or.inl ⟨by rfl, ?_⟩) ?_ ?_
  rotate_left
  · intro w'
    go_simp
    with_reducible rfl
  rotate_left
  · simp only [Act.put, List.setIfInBounds_toArray, List.set_cons_zero, List.set_cons_succ, i64_w, i32_w]
    rfl
  refine pure_ (i := 5) (N := some 12) (v := ?_) (a' := ?_) #[true, true, true, false, false, true, false, false, false, false, false, false, false, false] rfl rfl (by kernel_rfl) (fun _ _ _ h => h) (Or.inl ⟨by rfl, ?_⟩) ?_ ?_
  rotate_left
  · intro w'
    go_simp
    with_reducible rfl
  rotate_left
  · simp only [Act.put, List.setIfInBounds_toArray, List.set_cons_zero, List.set_cons_succ, i64_w, i32_w]
    rfl
  refine pure_ (i := 6) (N := some 13) (v := ?_) (a' := ?_) #[true, true, true, false, false, true, true, false, false, false, false, false, false, false] rfl rfl (by kernel_rfl) (fun _ _ _ h => h) (Or.inl ⟨by rfl, ?_⟩) ?_ ?_
  rotate_left
  · intro w'
    go_simp
    with_reducible rfl
  rotate_left
  · simp only [Act.put, List.setIfInBounds_toArray, List.set_cons_zero, List.set_cons_succ, i64_w, i32_w]
    rfl
  refine pure_ (i := 7) (N := some 14) (v := ?_) (a' := ?_) #[true, true, true, false, false, true, true, true, false, false, false, false, false, false] rfl rfl (by kernel_rfl) (fun _ _ _ h => h) (Or.inl ⟨by rfl, ?_⟩) ?_ ?_
  rotate_left
  · intro w'
    go_simp
    with_reducible rfl
  rotate_left
  · simp only [Act.put, List.setIfInBounds_toArray, List.set_cons_zero, List.set_cons_succ, i64_w, i32_w]
    rfl
  refine take_ (i := 3) (N := some 10) (v := ?_) (a' := ?_) #[true, true, true, true, false, true, true, true, false, false, false, false, false, false] rfl rfl (by kernel_rfl) (fun _ _ _ h => h) (Or.inl ⟨by rfl, ?_⟩) hHeld ?_ ?_
  rotate_left
  · rintro w' ⟨s0, s1⟩
    go_simp
    with_reducible rfl
  rotate_left
  · simp only [Act.put, List.setIfInBounds_toArray, List.set_cons_zero, List.set_cons_succ, i64_w, i32_w]
    rfl
  refine take_ (i := 8) (N := some 15) (v := ?_) (a' := ?_) #[true, true, true, true, false, true, true, true, true, false, false, false, false, false] rfl rfl (by kernel_rfl) (fun _ _ _ h => h) (Or.inl ⟨by rfl, ?_⟩) hHeld ?_ ?_
  rotate_left
  · rintro w' ⟨s0, s1⟩
    go_simp
    with_reducible rfl
  rotate_left
  · simp only [Act.put, List.setIfInBounds_toArray, List.set_cons_zero, List.set_cons_succ, i64_w, i32_w]
    rfl
  refine one_ (i := 4) (N := some 11) #[true, true, true, true, true, true, true, true, true, false, false, false, false, false] rfl rfl (by kernel_rfl) (by decide) (fun K hK => ?_)
  refine goes_ Try.func33 (by kernel_rfl) rfl #[.map (some M)] (by rfl) rfl rfl (by simp only [List.map_toArray, List.map_cons, List.map_nil]; rfl) ?_
  with_reducible refine (mapsClone_calls M es clock W.drew HMB2.out).mono ?_
  rintro e w3 ⟨rfl, rfl⟩
  refine ⟨_, rfl, ?_⟩
  have HB3 := Aside0.mk (Below.alloc (Below.refl W.drew.heap.size W.drew) (Nat.le_refl _) (.map es clock))
  have HB3w := Aside0.mk (Below.of_drew W HB3.out)
  refine hK.out _ _ ⟨(World.cell?_of_block (HB3.out.block d HD.out.lt)).trans cd1, (World.cell?_of_block (HB3.out.block d HD.out.lt)).trans cd2⟩ (fun hHeld => ?_)
  clear hK K
  refine norm_ (a' := ?_) ?_ ?_
  rotate_left
  · show Act.put _ (some 11) _ = _
    simp only [Act.put, List.setIfInBounds_toArray, List.set_cons_zero, List.set_cons_succ, i64_w, i32_w]
    rfl
  refine one_ (i := 9) (N := some 16) #[true, true, true, true, true, true, true, true, true, true, false, false, false, false] rfl rfl (by kernel_rfl) (by decide) (fun K hK => ?_)
  refine goes_ Try.func34 (by kernel_rfl) rfl #[.slice A s.cache.length c] (by rfl) rfl rfl (by simp only [List.map_toArray, List.map_cons, List.map_nil]; rfl) ?_
  with_reducible refine (clonePending.calls A c s.cache s.cache (W.drew.alloc (.map es clock)) (Kd.C_below (Kd.R_reads' HD.out.row).2.2 HB3w.out) (Kd.R_reads' HD.out.row).2.1 HCL.out).mono ?_
  rintro e w4 ⟨v4, rfl, hR, hb4⟩
  refine ⟨_, rfl, ?_⟩
  obtain ⟨A4, k4, e4⟩ := Kd.R_slice hR
  subst e4
  have HE4 := Aside0.mk (And.intro hR hb4)
  clear hR hb4
  have hy := Aside0.mk (blk_below (blk_below HI.out.1 HB3w.out) HE4.out.2)
  have ey1 : w4.cell? ⟨w.heap.size, 1, none⟩ = some (.map (some M)) := (blk_cell hy.out 1).trans rfl
  have ey2 : w4.cell? ⟨w.heap.size, 2, none⟩ = some (.slice A s.cache.length c) := (blk_cell hy.out 2).trans rfl
  have fy1 := blk_frozen hy.out 1
  have fy2 := blk_frozen hy.out 2
  refine hK.out _ _ ⟨(World.cell?_of_block (HE4.out.2.block d (Nat.lt_of_lt_of_le HD.out.lt HB3.out.size))).trans ((World.cell?_of_block (HB3.out.block d HD.out.lt)).trans cd1), (World.cell?_of_block (HE4.out.2.block d (Nat.lt_of_lt_of_le HD.out.lt HB3.out.size))).trans ((World.cell?_of_block (HB3.out.block d HD.out.lt)).trans cd2)⟩ (fun hHeld => ?_)
  clear hK K
  refine norm_ (a' := ?_) ?_ ?_
  rotate_left
  · show Act.put _ (some 16) _ = _
    simp only [Act.put, List.setIfInBounds_toArray, List.set_cons_zero, List.set_cons_succ, i64_w, i32_w]
    rfl
  refine pure_ (i := 10) (N := some 17) (v := ?_) (a' := ?_) #[true, true, true, true, true, true, true, true, true, true, true, false, false, false] rfl rfl (by kernel_rfl) (fun _ _ _ h => h) (Or.inl ⟨by rfl, ?_⟩) ?_ ?_
  rotate_left
  · intro w'
    go_simp
    with_reducible rfl
  rotate_left
  · simp only [Act.put, List.setIfInBounds_toArray, List.set_cons_zero, List.set_cons_succ, i64_w, i32_w]
    rfl
  refine last_ (i := 11) (N := none) #[true, true, true, true, true, true, true, true, true, true, true, true, false, false] rfl rfl (by kernel_rfl) (by decide) (fun K hK => ?_)
  refine skip_ (w1 := ?_) (by rfl) rfl ?_ ?_
  rotate_left
  · go_simp
    rfl
  refine hK.out _ _ ?_
  clear hK K
  refine pure_ (i := 12) (N := some 18) (v := ?_) (a' := ?_) #[true, true, true, true, true, true, true, true, true, true, true, true, true, false] rfl rfl (by kernel_rfl) (fun _ _ _ h => h) (Or.inl ⟨by rfl, ?_⟩) ?_ ?_
  rotate_left
  · intro w'
    go_simp
    with_reducible rfl
  rotate_left
  · simp only [Act.put, List.setIfInBounds_toArray, List.set_cons_zero, List.set_cons_succ, i64_w, i32_w]
    rfl
  refine last_ (i := 13) (N := none) #[true, true, true, true, true, true, true, true, true, true, true, true, true, true] rfl rfl (by kernel_rfl) (by decide) (fun K hK => ?_)
  refine skip_ (w1 := ?_) (by rfl) rfl ?_ ?_
  rotate_left
  · go_simp
    rfl
  refine hK.out _ _ ?_
  clear hK K
  refine done_ (by kernel_rfl) ?_
  have HE : Aside0 (DD ((w4.setCell ⟨w.heap.size, 1, none⟩ (.map (some W.drew.heap.size))).setCell ⟨w.heap.size, 2, none⟩ (.slice A4 s.cache.length k4)) w.heap.size w.heap.size W.drew.heap.size N (.slice A4 s.cache.length k4) s ∧ Below w.heap.size w ((w4.setCell ⟨w.heap.size, 1, none⟩ (.map (some W.drew.heap.size))).setCell ⟨w.heap.size, 2, none⟩ (.slice A4 s.cache.length k4))) := by
    have hlt := blk_lt HI.out.1
    have hne : W.drew.heap.size ≠ w.heap.size := fun e => absurd (show w.heap.size < W.drew.heap.size from hlt) (by omega)
    have b1 := blk_put hy.out 1 (.map (some W.drew.heap.size)) rfl
    have hb4 : Below W.drew.heap.size W.drew w4 := HB3.out.trans (HE4.out.2.mono HB3.out.size)
    refine ⟨⟨{ bd := Nat.le_refl _, bm := Nat.le_of_lt hlt, blk := blk_put b1 2 _ rfl, mp := ?_, row := ?_, tot := HD.out.tot, p1 := HD.out.p1, p2 := HD.out.p2, l512 := HD.out.l512, c512 := HD.out.c512, lf := HD.out.lf }, ?_⟩⟩
    · refine HD.out.mp.copy ?_
      refine (Below.heap_setCell _ _ _ _ hne).trans ((Below.heap_setCell _ _ _ _ hne).trans ((HE4.out.2.block _ ?_).trans ((Deep.blk_alloc_new W.drew _).trans HMB.out.symm)))
      exact blk_lt (Deep.blk_alloc_new W.drew (.map es clock))
    · have r0 := Kd.R_lower (base' := w.heap.size) HE4.out.1 (Nat.le_trans (Nat.le_of_lt hlt) HB3.out.size)
      have r1 := Kd.R_mono (ok' := fun _ => True) (Kd.R_far (p := ⟨w.heap.size, 1, none⟩) (Kd.R_types r0 hy.out (by rw [kp_E]; decide)) (fun _ hk => hk.2) (.map (some W.drew.heap.size))) (fun _ _ => trivial)
      exact Kd.R_mono (Kd.R_far (p := ⟨w.heap.size, 2, none⟩) (Kd.R_types r1 b1 (by rw [kp_E]; decide)) (fun _ hk => hk.2) _) (fun _ _ => trivial)
    · exact ((HI.out.2.trans ((Below.of_drew W hb4).mono (Nat.le_of_lt hlt))).setCell (Nat.le_refl _) _).setCell (Nat.le_refl _) _
  go_wp2
  go_ret
  exact ⟨_, _, _, rfl, HE.out.1, HE.out.2⟩
end Go.Proofs.Ytehgbikleiaagaa.P
end
section
namespace Go.Proofs.Ytehgbikleiaagaa.P
open Go.RowKit Go.Proofs.YtehgbikleiaagaaW.PrintWords Go.Proofs.YtehgbikleiaagaaW.PrintLast Go.Proofs.YtehgbikleiaagaaW.PrintMore
attribute [local go_sem] max2_int min2_int max_two min_two max_three min_three max_four min_four
set_option linter.unusedVariables false
set_option linter.unusedSimpArgs false
theorem info5 : (Try.prog.info? 5).map (fun i => (i.zero, i.size, i.bytes)) = some (some (.int .u8 0), 1, 1) := by kernel_rfl
def imageP (s : Dk) (k : Nat) : List Int := (List.range k).flatMap (fun (i : Nat) => hasP s (i : Int))
theorem imageP_succ (s : Dk) (k : Nat) : imageP s (k + 1) = imageP s k ++ hasP s (k : Int) := by
  unfold imageP
  rw [List.range_succ, List.flatMap_append]
  simp
theorem imageP_len {s : Dk} (hl : ∀ i, (s.last i).length = 512) (hc : ∀ x ∈ s.cache, x.2.length = 512) : ∀ k, (imageP s k).length = k * 512 := by
  intro k
  induction k with
  | zero => simp [imageP]
  | succ k ih => rw [imageP_succ, List.length_append, ih, hasP_len hl hc, Nat.succ_mul]
theorem c_bytes {W : World} {g : Nat} {t : TypeId} {p : List Int} (h : W.heap[g]? = some (.cells (bvs p).toArray t (0, 0))) (hl : p.length ≤ 9223372036854775807) : Kd.C (Kd.int .u8) W (some ⟨g, 0, none⟩) p.length p := by
  refine ⟨rfl, hl, fun _ => ⟨⟨g, 0, none⟩, rfl, fun j x hj => ⟨[.int .u8 x], rfl, rfl, fun i u hi => ?_⟩⟩⟩
  cases i with
  | zero =>
    obtain rfl : Value.int .u8 x = u := by simpa using hi
    show W.cell? ((⟨g, 0, none⟩ : Addr).add (j * 1 + 0)) = _
    rw [Addr.add_mid, Nat.zero_add, Nat.mul_one, Nat.add_zero]
    refine (blk_cell h j).trans ?_
    simp [bvs, hj]
  | succ i => simp at hi
set_option maxHeartbeats 4000000 in
set_option maxRecDepth 100000 in
theorem image_calls {base d M N : Nat} {v : Value} {s : Dk} (w : World) (h : DD w base d M N v s) :
    Calls Try.prog 21 #[dp d] w fun e w' => ∃ v', e = .returned v' ∧ Kd.R (Kd.int .u8) 5 w' w.heap.size (fun _ => True) v' (imageP s s.pages.toNat) ∧ Below w.heap.size w w' := by
  have c0 : w.cell? ⟨d, 0, none⟩ = some (.int .i64 s.pages) := (blk_cell h.blk 0).trans rfl
  have H := Aside0.mk h
  obtain ⟨m, hm⟩ : ∃ m : Nat, s.pages = (m : Int) := ⟨s.pages.toNat, by have := h.p1; omega⟩
  have hm2 : m ≤ 4096 := by have := h.p2; omega
  rw [hm] at c0 ⊢
  rw [Int.toNat_natCast]
  obtain ⟨zp, hzp⟩ : ∃ zp : Array Value, zp = (bvs pgZ).toArray := ⟨_, rfl⟩
  have hz : ∀ w, (zeroValue 67).run Try.prog w = .ok (.agg zp) w := fun w => by rw [hzp]; exact zero67 w
  have HZ := Aside0.mk (show zp.size = 512 by rw [hzp, List.size_toArray, bvs_len, pgZ_len])
  have HMM := Aside0.mk (And.intro hm hm2)
  have HO0 := Aside0.mk (Kd.R_nil (Kd.int .u8) 5 w w.heap.size (fun _ => True))
  have HB0 := Aside0.mk (Below.refl w.heap.size w)
  clear hzp h hm hm2
  unfold dp
  go_enter Try.func21, Try.ntmps21
  go_wp2_with fail
  go_loopw [3, 10] (fun v3 v10 wr => ∃ k : Nat, v10 = .int .i64 (k : Int) ∧ k ≤ m ∧ Aside0 (Kd.R (Kd.int .u8) 5 wr w.heap.size (fun _ => True) v3 (imageP s k)) ∧ Aside0 (Below w.heap.size w wr)) (fun _ v10 _ => m - (intOf v10).toNat)
  case atStart => exact ⟨0, rfl, Nat.zero_le _, HO0, HB0⟩
  case round =>
    clear HO0 HB0
    obtain ⟨k, rfl, hk, HO, HB⟩ := hrel
    have HL5 := Aside0.mk (hasP_len H.out.l512 (fun x hx => (H.out.c512 x hx).1) (k : Int))
    have HIL := Aside0.mk (imageP_len H.out.l512 (fun x hx => (H.out.c512 x hx).1) k)
    by_cases hlt : k < m
    · have hhas := has_calls (k : Int) (by omega) (by rw [HMM.out.1]; omega) wr (H.out.step HB.out)
      have hst : ∀ W : World, (storeCells ⟨W.heap.size, 0, none⟩ (bvs (hasP s (k : Int))).toArray.toList 0).run Try.prog (W.alloc (.cells zp 67)) = .ok () (W.alloc (.cells (bvs (hasP s (k : Int))).toArray 67)) := fun W =>
        run_storeCells_new W 67 zp _ (by rw [s67, List.size_toArray, bvs_len, HL5.out]) (by rw [HZ.out, List.size_toArray, bvs_len, HL5.out]) (one_bvs _)
      have hps : (bvs (hasP s (k : Int))).toArray.size = 512 := by rw [List.size_toArray, bvs_len, HL5.out]
      unfold pgV dp at hhas
      generalize hpe : (bvs (hasP s (k : Int))).toArray = pg at hhas hst hps
      have HPE := Aside0.mk hpe
      have b0 : decide (k < m) = true := decide_eq_true hlt
      have b1 : decide ((k : Int) < (m : Int)) = true := decide_eq_true (by omega)
      have HK := Aside0.mk hlt
      have hm4 : m ≤ 4096 := HMM.out.2
      obtain ⟨A3, c3, e3⟩ := Kd.R_slice HO.out
      subst e3
      clear hpe hlt
      go_upto_region 6 with (go_at_call 32; refine hhas.mono ?_; rintro e w2 ⟨rfl, hb2⟩)
      have HB2 := Aside0.mk (below_alloc (below_step HB.out hb2) (.cells pg 67))
      have HO2 := Aside0.mk (Kd.R_alloc (Kd.R_below HO.out hb2) (.cells pg 67))
      have hpb := Deep.blk_alloc_new w2 (.cells pg 67)
      rw [← HPE.out] at hpb
      have HC2 := Aside0.mk (c_bytes hpb (by rw [HL5.out]; decide))
      clear hb2 hpb hhas hst
      have HC3 : Aside0 (Kd.C (Kd.int .u8) (w2.alloc (.cells pg 67)) (some ⟨w2.heap.size, 0, none⟩) 512 (hasP s (k : Int))) := ⟨by have := HC2.out; rw [HPE.out, HL5.out] at this; exact this⟩
      clear HC2 HPE
      go_wp2_with (first | ((with_reducible refine gate_builtin (b := .append) (xs := #[.tmp 16, .tmp 17]) rfl ?_); at_builtin; refine Kd.R_append_rows (Kd.int .u8) (w0 := w) w.heap.size rfl (.tmp 16) (.tmp 17) 30 5 (.int .u8 0) 1 rfl Try.underlying30 info5 rfl (by decide) (by decide) (.slice A3 (imageP s k).length c3) (imageP s k) (hasP s (k : Int)) (some ⟨w2.heap.size, 0, none⟩) 512 512 (fun _ => True) (fun _ => False) rfl rfl ?aO ?aR (fun _ _ h => h) (fun _ h => h.elim) ?aF ?aB ?aS ?aL ?_; (case aR => exact HC3.out); (case aB => exact HB2.out); (case aF => exact (fun _ _ => trivial)); (case aO => exact HO2.out); (case aS => exact below_size HB2.out); (case aL => have := HIL.out; have := HMM.out.2; have := HK.out; omega); intro v253 w16 ho hb hg hat; have HE := Aside0.mk (And.intro ho hb); clear ho hb hg hat))
      go_roundw
      case rel => exact ⟨k + 1, by go_num, HK.out, ⟨by rw [imageP_succ]; exact HE.out.1⟩, ⟨HE.out.2⟩⟩
      case measure => have := HK.out; simp [intOf]; omega
    · obtain rfl : k = m := by omega
      have b0 : decide (k < k) = false := decide_eq_false (by omega)
      have b1 : decide ((k : Int) < (k : Int)) = false := decide_eq_false (by omega)
      clear hlt hk
      go_wp2
      go_ret
      exact ⟨_, rfl, HO.out, HB.out⟩
end Go.Proofs.Ytehgbikleiaagaa.P
end
section
namespace Go.Proofs.Ytehgbikleiaagaa.P
open Go.RowKit Go.Proofs.YtehgbikleiaagaaW.PrintWords Go.Proofs.YtehgbikleiaagaaW.PrintLast Go.Proofs.YtehgbikleiaagaaW.PrintMore
attribute [local go_sem] max2_int min2_int max_two min_two max_three min_three max_four min_four
set_option linter.unusedVariables false
set_option linter.unusedSimpArgs false
end Go.Proofs.Ytehgbikleiaagaa.P
end
section
namespace Go.Proofs.Ytehgbikleiaagaa.P
open Go.RowKit Go.Proofs.YtehgbikleiaagaaW.PrintWords Go.Proofs.YtehgbikleiaagaaW.PrintLast Go.Proofs.YtehgbikleiaagaaW.PrintMore
attribute [local go_sem] max2_int min2_int max_two min_two max_three min_three max_four min_four
set_option linter.unusedVariables false
set_option linter.unusedSimpArgs false
def pageN (long : Bool) : Nat := if long = true then 513 else 512
def pageP (fill : Int) (B : List Int) (long : Bool) : List Int := B.take (min B.length (pageN long)) ++ (List.replicate (pageN long) fill).drop (min B.length (pageN long))
theorem pageP_len (fill : Int) (B : List Int) (long : Bool) : (pageP fill B long).length = pageN long := by
  unfold pageP
  simp
  omega
def opV (kd n fill : Int) (Bv : Value) (long : Bool) (Kv : Value) (torn cut : Int) : Value := .agg #[.int .i64 kd, .int .i64 n, .int .u8 fill, Bv, .bool long, Kv, .int .i64 torn, .int .i64 cut]
def PI (w : World) (cs : Array Value) (u : Value) (xs : List Int) (W : World) : Prop :=
  W.heap[w.heap.size]? = some (.cells cs 32 (0, 0)) ∧ Kd.R (Kd.int .u8) 5 W w.heap.size (fun _ => True) u xs ∧ Below w.heap.size w W
section
variable {w W : World} {cs : Array Value} {g m cap : Nat} {xs : List Int}
theorem PI.set (h : PI w cs (.slice (some ⟨g, 0, none⟩) m cap) xs W) (k : Nat) (x : Int) : PI w cs (.slice (some ⟨g, 0, none⟩) m cap) (xs.set k x) (W.setCell ⟨g, k, none⟩ (.int .u8 x)) := by
  have hne : w.heap.size ≠ g := fun e => Kd.R_ne h.2.1 h.1 (by decide) (by rw [e]; rfl)
  have hp := Kd.R_putn h.2.1 (k : Int) x
  rw [Int.toNat_natCast] at hp
  exact ⟨blk_far h.1 hne _, hp, below_set h.2.2 (Kd.R_base h.2.1 g rfl)⟩
theorem PI.cell (h : PI w cs (.slice (some ⟨g, 0, none⟩) m cap) xs W) (k : Nat) (hk : k < m) : W.cell? ⟨g, k, none⟩ = some (.int .u8 (rdOf 0 xs (k : Int))) ∧ W.frozen? ⟨g, k, none⟩ = false := by
  have := Kd.R_celln 0 h.2.1 (k : Int) (by omega) (by omega)
  rwa [Int.toNat_natCast] at this
end
set_option maxHeartbeats 4000000 in
set_option maxRecDepth 100000 in
theorem page_one (long : Bool) (m : Nat) (hm : m = pageN long) (kd n fill : Int) (A : Option Addr) (c : Nat) (B : List Int) (A2 : Option Addr) (m2 c2 : Nat) (torn cut : Int) (w : World) (hr : Kd.C (Kd.int .u8) w A B.length B) :
    Calls Try.prog 11 #[opV kd n fill (.slice A B.length c) long (.slice A2 m2 c2) torn cut] w fun e w' => ∃ v', e = .returned v' ∧ Kd.R (Kd.int .u8) 5 w' w.heap.size (fun _ => True) v' (pageP fill B long) ∧ Below w.heap.size w w' := by
  have HMM := Aside0.mk hm
  have HR := Aside0.mk hr
  have hm5 : m ≤ 513 := by rw [hm]; unfold pageN; split <;> omega
  obtain ⟨cs, hcs⟩ : ∃ cs : Array Value, cs = #[.int .i64 kd, .int .i64 n, .int .u8 fill, .slice A B.length c, .bool long, .slice A2 m2 c2, .int .i64 torn, .int .i64 cut] := ⟨_, rfl⟩
  have hbx := Deep.blk_alloc_new w (.cells #[.int .i64 kd, .int .i64 n, .int .u8 fill, .slice A B.length c, .bool long, .slice A2 m2 c2, .int .i64 torn, .int .i64 cut] 32)
  have x4 : World.cell? _ ⟨w.heap.size, 4, none⟩ = some (.bool long) := (blk_cell hbx 4).trans rfl
  have HBX := Aside0.mk hbx
  have HB0 := Aside0.mk (below_alloc (Below.refl w.heap.size w) (.cells #[.int .i64 kd, .int .i64 n, .int .u8 fill, .slice A B.length c, .bool long, .slice A2 m2 c2, .int .i64 torn, .int .i64 cut] 32))
  rw [← hcs] at hbx x4 HB0 HBX
  have HCS := Aside0.mk hcs
  clear hm hr hbx
  unfold opV
  rw [← hcs]
  clear hcs
  go_enter Try.func11, Try.ntmps11
  cases long with
  | false =>
    have hm0 : m = 512 := HMM.out
    subst hm0
    go_upto_region 5 with ((with_reducible refine gate_dst (N := 9) rfl ?_); refine Kd.R_make (Kd.int .u8) (w0 := w) w.heap.size 5 rfl (N := 9) rfl 30 _ _ rfl 512 rfl rfl Try.underlying30 (.int .u8 0) 1 info5 rfl (by decide) (by decide) 0 (ok := fun _ => True) (okp := fun _ => False) rfl (fun _ h => h.elim) trivial (by decide) (by decide) HB0.out (below_size HB0.out) ?_; intro v9 w9 ho hb hg hn; obtain ⟨g, cap, e9, _, _, _⟩ := Kd.R_form ho (by rw [List.length_replicate]; decide); rw [List.length_replicate] at e9; subst e9; have HP := Aside0.mk (show PI w cs _ _ w9 from ⟨blk_grown HBX.out hg (by simp), ho, hb⟩); clear ho hb hg hn)
    have HX := HCS
    clear x4
    go_wp2_with fail
    go_loopw [5] (fun v5 wr => ∃ (k : Nat) (xs : List Int), v5 = .int .i64 (k : Int) ∧ k ≤ 512 ∧ Aside0 (PI w cs (.slice (some ⟨g, 0, none⟩) 512 cap) xs wr ∧ xs.length = 512 ∧ ∀ j, j < k → xs[j]? = some fill)) (fun v5 _ => 512 - (intOf v5).toNat)
    case atStart => exact ⟨0, _, rfl, Nat.zero_le _, ⟨HP.out, by rw [List.length_replicate]; rfl, fun j hj => absurd hj (Nat.not_lt_zero j)⟩⟩
    case round =>
      clear HP
      obtain ⟨k, xs, rfl, hk, HP⟩ := hrel
      have x2 : wr.cell? ⟨w.heap.size, 2, none⟩ = some (.int .u8 fill) := (blk_cell HP.out.1.1 2).trans (by rw [HX.out]; rfl)
      have x3 : wr.cell? ⟨w.heap.size, 3, none⟩ = some (.slice A B.length c) := (blk_cell HP.out.1.1 3).trans (by rw [HX.out]; rfl)
      by_cases hlt : k < 512
      · have hck := HP.out.1.cell k hlt
        obtain ⟨y, hy⟩ : ∃ y, y = rdOf 0 xs (k : Int) := ⟨_, rfl⟩
        rw [← hy] at hck
        obtain ⟨cg, fg⟩ := hck
        have HE : Aside0 (PI w cs (.slice (some ⟨g, 0, none⟩) 512 cap) (xs.set k fill) (wr.setCell ⟨g, k, none⟩ (.int .u8 fill)) ∧ (xs.set k fill).length = 512 ∧ ∀ j, j < k + 1 → (xs.set k fill)[j]? = some fill) := ⟨HP.out.1.set k fill, by rw [List.length_set]; exact HP.out.2.1, fun j hj => by
          by_cases e : k = j
          · subst e
            exact List.getElem?_set_self (by have := HP.out.2.1; omega)
          · rw [List.getElem?_set_ne e]
            exact HP.out.2.2 j (by omega)⟩
        have HK := Aside0.mk hlt
        have b0 : decide (k < 512) = true := decide_eq_true hlt
        have b1 : decide ((k : Int) < 512) = true := decide_eq_true (by omega)
        have b2 : (k < 512) = True := eq_true hlt
        have b3 : ((k : Int) < 512) = True := eq_true (by omega)
        clear hy x3
        go_wp2
        go_roundw
        case rel => exact ⟨k + 1, _, by go_num, HK.out, HE⟩
        case measure => have := HK.out; simp [intOf]; omega
      · have hke : k = 512 := by omega
        subst hke
        have b0 : decide ((512 : Nat) < 512) = false := by decide
        have b1 : decide ((512 : Int) < 512) = false := by decide
        have HE : Aside0 (xs = List.replicate 512 fill) := ⟨List.eq_replicate_iff.2 ⟨HP.out.2.1, fun y hy => by
          obtain ⟨j, hj, rfl⟩ := List.mem_iff_getElem.1 hy
          have := HP.out.2.2 j (by have := HP.out.2.1; omega)
          rw [List.getElem?_eq_getElem hj] at this
          exact Option.some.inj this⟩⟩
        clear hlt hk x2
        go_wp2_with (first | ((with_reducible refine gate_builtin (b := .copy) (xs := #[.tmp 20, .tmp 22]) rfl ?_); (refine Kd.R_copy (enc := Value.int .u8) (h1 := fun _ => rfl) (0 : Int) (w0 := w) w.heap.size rfl (.tmp 20) (.tmp 22) 30 30 5 rfl Try.underlying30 (by kernel_rfl) (.slice (some ⟨g, 0, none⟩) 512 cap) xs B A B.length c (fun _ => True) rfl rfl ?aO ?aR ?aB ?aS ?_); (case aO => exact HP.out.1.2.1); (case aR => exact Kd.C_below HR.out HP.out.1.2.2); (case aB => exact HP.out.1.2.2); (case aS => exact below_size HP.out.1.2.2); intro w16 ho hb hg; have HF := Aside0.mk (And.intro ho hb); clear ho hb hg))
        go_ret
        refine ⟨_, rfl, ?_, HF.out.2⟩
        have := HF.out.1
        rw [HP.out.2.1, HE.out] at this
        exact this
  | true =>
    have hm0 : m = 513 := HMM.out
    subst hm0
    go_upto_region 5 with ((with_reducible refine gate_dst (N := 9) rfl ?_); refine Kd.R_make (Kd.int .u8) (w0 := w) w.heap.size 5 rfl (N := 9) rfl 30 _ _ rfl 513 rfl rfl Try.underlying30 (.int .u8 0) 1 info5 rfl (by decide) (by decide) 0 (ok := fun _ => True) (okp := fun _ => False) rfl (fun _ h => h.elim) trivial (by decide) (by decide) HB0.out (below_size HB0.out) ?_; intro v9 w9 ho hb hg hn; obtain ⟨g, cap, e9, _, _, _⟩ := Kd.R_form ho (by rw [List.length_replicate]; decide); rw [List.length_replicate] at e9; subst e9; have HP := Aside0.mk (show PI w cs _ _ w9 from ⟨blk_grown HBX.out hg (by simp), ho, hb⟩); clear ho hb hg hn)
    have HX := HCS
    clear x4
    go_wp2_with fail
    go_loopw [5] (fun v5 wr => ∃ (k : Nat) (xs : List Int), v5 = .int .i64 (k : Int) ∧ k ≤ 513 ∧ Aside0 (PI w cs (.slice (some ⟨g, 0, none⟩) 513 cap) xs wr ∧ xs.length = 513 ∧ ∀ j, j < k → xs[j]? = some fill)) (fun v5 _ => 513 - (intOf v5).toNat)
    case atStart => exact ⟨0, _, rfl, Nat.zero_le _, ⟨HP.out, by rw [List.length_replicate]; rfl, fun j hj => absurd hj (Nat.not_lt_zero j)⟩⟩
    case round =>
      clear HP
      obtain ⟨k, xs, rfl, hk, HP⟩ := hrel
      have x2 : wr.cell? ⟨w.heap.size, 2, none⟩ = some (.int .u8 fill) := (blk_cell HP.out.1.1 2).trans (by rw [HX.out]; rfl)
      have x3 : wr.cell? ⟨w.heap.size, 3, none⟩ = some (.slice A B.length c) := (blk_cell HP.out.1.1 3).trans (by rw [HX.out]; rfl)
      by_cases hlt : k < 513
      · have hck := HP.out.1.cell k hlt
        obtain ⟨y, hy⟩ : ∃ y, y = rdOf 0 xs (k : Int) := ⟨_, rfl⟩
        rw [← hy] at hck
        obtain ⟨cg, fg⟩ := hck
        have HE : Aside0 (PI w cs (.slice (some ⟨g, 0, none⟩) 513 cap) (xs.set k fill) (wr.setCell ⟨g, k, none⟩ (.int .u8 fill)) ∧ (xs.set k fill).length = 513 ∧ ∀ j, j < k + 1 → (xs.set k fill)[j]? = some fill) := ⟨HP.out.1.set k fill, by rw [List.length_set]; exact HP.out.2.1, fun j hj => by
          by_cases e : k = j
          · subst e
            exact List.getElem?_set_self (by have := HP.out.2.1; omega)
          · rw [List.getElem?_set_ne e]
            exact HP.out.2.2 j (by omega)⟩
        have HK := Aside0.mk hlt
        have b0 : decide (k < 513) = true := decide_eq_true hlt
        have b1 : decide ((k : Int) < 513) = true := decide_eq_true (by omega)
        have b2 : (k < 513) = True := eq_true hlt
        have b3 : ((k : Int) < 513) = True := eq_true (by omega)
        clear hy x3
        go_wp2
        go_roundw
        case rel => exact ⟨k + 1, _, by go_num, HK.out, HE⟩
        case measure => have := HK.out; simp [intOf]; omega
      · have hke : k = 513 := by omega
        subst hke
        have b0 : decide ((513 : Nat) < 513) = false := by decide
        have b1 : decide ((513 : Int) < 513) = false := by decide
        have HE : Aside0 (xs = List.replicate 513 fill) := ⟨List.eq_replicate_iff.2 ⟨HP.out.2.1, fun y hy => by
          obtain ⟨j, hj, rfl⟩ := List.mem_iff_getElem.1 hy
          have := HP.out.2.2 j (by have := HP.out.2.1; omega)
          rw [List.getElem?_eq_getElem hj] at this
          exact Option.some.inj this⟩⟩
        clear hlt hk x2
        go_wp2_with (first | ((with_reducible refine gate_builtin (b := .copy) (xs := #[.tmp 20, .tmp 22]) rfl ?_); (refine Kd.R_copy (enc := Value.int .u8) (h1 := fun _ => rfl) (0 : Int) (w0 := w) w.heap.size rfl (.tmp 20) (.tmp 22) 30 30 5 rfl Try.underlying30 (by kernel_rfl) (.slice (some ⟨g, 0, none⟩) 513 cap) xs B A B.length c (fun _ => True) rfl rfl ?aO ?aR ?aB ?aS ?_); (case aO => exact HP.out.1.2.1); (case aR => exact Kd.C_below HR.out HP.out.1.2.2); (case aB => exact HP.out.1.2.2); (case aS => exact below_size HP.out.1.2.2); intro w16 ho hb hg; have HF := Aside0.mk (And.intro ho hb); clear ho hb hg))
        go_ret
        refine ⟨_, rfl, ?_, HF.out.2⟩
        have := HF.out.1
        rw [HP.out.2.1, HE.out] at this
        exact this
end Go.Proofs.Ytehgbikleiaagaa.P
end
section
namespace Go.Proofs.Ytehgbikleiaagaa.P
open Go.RowKit Go.Proofs.YtehgbikleiaagaaW.PrintWords Go.Proofs.YtehgbikleiaagaaW.PrintLast Go.Proofs.YtehgbikleiaagaaW.PrintMore
attribute [local go_sem] max2_int min2_int max_two min_two max_three min_three max_four min_four
set_option linter.unusedVariables false
set_option linter.unusedSimpArgs false
theorem DD.more {W : World} {base d M N N' : Nat} {v : Value} {s : Dk} (h : DD W base d M N v s) (hn : N ≤ N') (ht : N' + s.cache.length ≤ 1073741824) : DD W base d M N' v s := { h with mp := h.mp.mono hn, tot := ht }
theorem meas_lt {m k : Nat} {x : Int} (h : k < m) (e : Value.int .i64 x = .int .i64 ((k + 1 : Nat) : Int)) : m - (intOf (.int .i64 x)).toNat < m - (intOf (.int .i64 (k : Int))).toNat := by
  rw [e]
  simp only [intOf, Int.toNat_natCast]
  omega
end Go.Proofs.Ytehgbikleiaagaa.P
end
section
namespace Go.Proofs.Ytehgbikleiaagaa.P
open Go.RowKit Go.Proofs.YtehgbikleiaagaaW.PrintWords Go.Proofs.YtehgbikleiaagaaW.PrintLast Go.Proofs.YtehgbikleiaagaaW.PrintMore
attribute [local go_sem] max2_int min2_int max_two min_two max_three min_three max_four min_four
set_option linter.unusedVariables false
set_option linter.unusedSimpArgs false
def mendN (keep : List Bool) (torn cut : Int) (k : Nat) : Nat := if (k : Int) = torn then (max 0 (min cut 512)).toNat else if keep.getD k false = true then 512 else 0
theorem mendYtehgbikleiaagaale (keep : List Bool) (torn cut : Int) (k : Nat) : mendN keep torn cut k ≤ 512 := by unfold mendN; split <;> (try split) <;> omega
def over (n : Nat) (b p : List Int) : List Int := b.take n ++ p.drop n
def mendL (s : Dk) (keep : List Bool) (torn cut : Int) (k : Nat) : Int → List Int :=
  (s.cache.zipIdx.take k).foldl (fun f x => upd f x.1.1 (over (mendN keep torn cut x.2) x.1.2 (f x.1.1))) s.last
theorem mendL_succ {s : Dk} {keep : List Bool} {torn cut : Int} {k : Nat} (hk : k < s.cache.length) :
    mendL s keep torn cut (k + 1) = upd (mendL s keep torn cut k) s.cache[k].1 (over (mendN keep torn cut k) s.cache[k].2 (mendL s keep torn cut k s.cache[k].1)) := by
  unfold mendL
  have h : k < s.cache.zipIdx.length := by simpa using hk
  rw [List.take_add_one, List.getElem?_eq_getElem h, List.foldl_append]
  simp
theorem over_len {n : Nat} {b p : List Int} (hb : b.length = 512) (hp : p.length = 512) (hn : n ≤ 512) : (over n b p).length = 512 := by
  unfold over
  simp
  omega
theorem mendL_len {s : Dk} {keep : List Bool} {torn cut : Int} (hl : ∀ i, (s.last i).length = 512) (hc : ∀ x ∈ s.cache, x.2.length = 512) : ∀ k, k ≤ s.cache.length → ∀ i, (mendL s keep torn cut k i).length = 512 := by
  intro k
  induction k with
  | zero => exact fun _ => hl
  | succ k ih =>
    intro hk i
    rw [mendL_succ (by omega)]
    unfold upd
    split
    · exact over_len (hc _ (List.getElem_mem (by omega))) (ih (by omega) _) (mendYtehgbikleiaagaale _ _ _ _)
    · exact ih (by omega) i
def mendS (s : Dk) (keep : List Bool) (torn cut : Int) : Dk := { s with last := mendL s keep torn cut s.cache.length, cache := [], left := -1, down := false }
def MI (w : World) (M N : Nat) (s : Dk) (keep : List Bool) (torn cut : Int) (k : Nat) (W : World) : Prop := Kp (fun j => j = M) w W ∧ MP W M (N + k) (mendL s keep torn cut k)
section
variable {P : Program} {ρ : Operand → Value} {op : Oper} {w w1 : World} {v : Value}
theorem exec_alloc (t : TypeId) (ho : op.op = .alloc t) (z : Array Value) (hz : ∀ w, (zeroValue t).run P w = .ok (.agg z) w) : (execOp ρ op).run P w = .ok (.value (.pointer (some ⟨w.heap.size, 0, none⟩))) (w.alloc (.cells z t)) := by
  unfold execOp
  simp [ho, Instr.alloc, Sem.run_bind, hz, newVar, newRow, Value.cells]
theorem exec_store (t : TypeId) (x y : Operand) (ho : op.op = .store t x y) (hv : (Instr.storeAt t (ρ x) (ρ y)).run P w = .ok () w1) : (execOp ρ op).run P w = .ok .skip w1 := by
  unfold execOp
  simp only [ho, Sem.run_bind, hv, Result.andThen_ok, Sem.run_pure]
theorem exec_lookup (t : TypeId) (x y : Operand) (b : Bool) (ho : op.op = .lookup t x y b) (hv : (Instr.lookup t (ρ x) (ρ y) b).run P w = .ok v w) : (execOp ρ op).run P w = .ok (.value v) w := by
  unfold execOp
  simp only [ho, Sem.run_bind, hv, Result.andThen_ok, Sem.run_pure]
theorem exec_copy (x y : Operand) (t1 t2 : TypeId) (ho : op.op = .call { callee := .builtin .copy, args := #[x, y], argTypes := #[t1, t2] }) {vx vy : Value} (hx : ρ x = vx) (hy : ρ y = vy) (hv : ∀ ty, (Builtin.copy_ #[t1, t2] ty #[vx, vy]).run P w = .ok v w1) : (execOp ρ op).run P w = .ok (.value v) w1 := by
  unfold execOp
  simp [ho, resolve, invoke, builtin, hx, hy, hv]
end
theorem over_copy (W : World) (g11 b9 n : Nat) (b p : List Int) (hb : b.length = 512) (hp : p.length = 512) (hn : n ≤ 512) (h11 : W.heap[g11]? = some (.cells (bvs p).toArray 67 (0, 0))) (h9 : ∀ j u, (bvs b)[j]? = some u → W.cell? ⟨b9, 1 + j, none⟩ = some u) :
    ∃ W', (∀ ty, (Builtin.copy_ #[30, 30] ty #[.slice (some ⟨g11, 0, none⟩) n 512, .slice (some ⟨b9, 1, none⟩) 512 512]).run Try.prog W = .ok (.int .i64 (n : Int)) W') ∧ W'.heap[g11]? = some (.cells (bvs (over n b p)).toArray 67 (0, 0)) ∧ Kp (fun j => j = g11) W W' := by
  have hlen : ((bvs b).take n).length = n := by rw [List.length_take, bvs_len, hb]; omega
  refine ⟨W.setRow g11 ((bvs p).toArray.toList.take 0 ++ (bvs b).take n ++ (bvs p).toArray.toList.drop (0 + ((bvs b).take n).length)).toArray, fun ty => ?_, ?_, ?_⟩
  · have h := run_copy_row (P := Try.prog) W 30 30 ty 5 g11 0 n 512 ⟨b9, 1, none⟩ 512 512 (bvs p).toArray 67 ((bvs b).take n) Try.underlying30 (by kernel_rfl) h11 (by rw [hlen]; exact (Nat.min_eq_right hn).symm) (fun j v hj => ?_) ?_ (fun v hv => ?_)
    · rw [h, hlen]; rfl
    · rw [Addr.add_mid]
      refine h9 j v ?_
      rw [List.getElem?_take] at hj
      split at hj
      · exact hj
      · cases hj
    · rw [hlen, List.size_toArray, bvs_len, hp]; omega
    · have h1 := List.mem_of_mem_take hv
      obtain ⟨y, _, rfl⟩ := List.mem_map.1 h1
      rfl
  · rw [setRow_heap W g11 _ _ 67 _ h11, hlen]
    unfold over bvs
    simp [List.map_take, List.map_drop]
  · exact ⟨rfl, rfl, rfl, by simp [World.setRow], fun k hk hn => setRow_other W g11 k _ hn⟩
end Go.Proofs.Ytehgbikleiaagaa.P
end
section
namespace Go.Proofs.Ytehgbikleiaagaa.P
open Go.RowKit Go.Proofs.YtehgbikleiaagaaW.PrintWords Go.Proofs.YtehgbikleiaagaaW.PrintLast Go.Proofs.YtehgbikleiaagaaW.PrintMore
attribute [local go_sem] max2_int min2_int max_two min_two max_three min_three max_four min_four
set_option linter.unusedVariables false
set_option linter.unusedSimpArgs false
theorem exec_lookup2 {P : Program} {ρ : Operand → Value} {op : Oper} {w : World} {v : Value} (t : TypeId) (x y : Operand) (b : Bool) (ho : op.op = .lookup t x y b) {vx vy : Value} (hx : ρ x = vx) (hy : ρ y = vy) (hv : (Instr.lookup t vx vy b).run P w = .ok v w) : (execOp ρ op).run P w = .ok (.value v) w := by
  subst hx hy
  exact exec_lookup t x y b ho hv
theorem run_storeAt67 (w : World) (z q : List Int) (hz : z.length = 512) (hq : q.length = 512) : (Instr.storeAt 67 (.pointer (some ⟨w.heap.size, 0, none⟩)) (.agg (bvs q).toArray)).run Try.prog (w.alloc (.cells (bvs z).toArray 67)) = .ok () (w.alloc (.cells (bvs q).toArray 67)) :=
  run_storeAt_new w 67 _ _ (by rw [s67, List.size_toArray, bvs_len, hq]) (by rw [List.size_toArray, List.size_toArray, bvs_len, bvs_len, hz, hq]) (one_bvs _)
set_option maxHeartbeats 4000000 in
set_option maxRecDepth 100000 in
theorem mend_calls {base d M N : Nat} {v : Value} {s : Dk} (A2 : Option Addr) (c3 : Nat) (keep : List Bool) (torn cut : Int) (w : World) (h : DD w base d M N v s) (hkr : Kd.C Kd.bool w A2 keep.length keep) (hkM : keep ≠ [] → ∀ a, A2 = some a → a.block ≠ M) :
    Calls Try.prog 14 #[dp d, .slice A2 keep.length c3, .int .i64 torn, .int .i64 cut] w fun e w' => (∃ u, e = .returned u) ∧ DD w' base d M (N + s.cache.length) (.slice none 0 0) (mendS s keep torn cut) ∧ MV d M v (.slice none 0 0) w w' := by
  obtain ⟨xs, hxs⟩ := pes_of s.cache (fun x hx => (h.c512 x hx).1)
  have HC := Aside0.mk h.c512
  have HL5 := Aside0.mk h.l512
  have HP2 := Aside0.mk h.p2
  have HT := Aside0.mk h.tot
  obtain ⟨A, c, ev⟩ := Kd.R_slice h.row
  subst ev
  have hlen : xs.length = s.cache.length := by rw [← hxs]; simp
  have hpes := pes_row h.row hxs
  have HP := Aside0.mk hpes
  have HD := Aside0.mk h
  have HKR := Aside0.mk hkr
  have HKM := Aside0.mk hkM
  have c2 : w.cell? ⟨d, 2, none⟩ = some (.slice A s.cache.length c) := (blk_cell h.blk 2).trans rfl
  have c1' := (blk_cell h.blk 1).trans rfl
  obtain ⟨zq, hzq⟩ : ∃ zq : Array Value, zq = (Value.int .i64 0 :: bvs pgZ).toArray := ⟨_, rfl⟩
  have hz9 : ∀ w, (zeroValue 69).run Try.prog w = .ok (.agg zq) w := fun w => by rw [hzq]; exact zero69 w
  have HQ := Aside0.mk (show zq.size = 513 by rw [hzq, List.size_toArray, List.length_cons, bvs_len, pgZ_len])
  have HSI := Aside0.mk (show MI w M N s keep torn cut 0 w from ⟨Kp.refl _ _, by rw [Nat.add_zero]; exact h.mp⟩)
  have HX := Aside0.mk hxs
  have HLn := Aside0.mk hlen
  clear hzq h hpes hxs hlen hkr hkM
  unfold dp
  go_enter Try.func14, Try.ntmps14
  go_wp2_with fail
  go_loopw [17] (fun v17 wr => ∃ k : Nat, v17 = .int .i64 (k : Int) ∧ k ≤ s.cache.length ∧ Aside0 (MI w M N s keep torn cut k wr)) (fun v17 _ => s.cache.length - (intOf v17).toNat)
  case atStart => exact ⟨0, rfl, Nat.zero_le _, HSI⟩
  case round =>
    clear HSI
    obtain ⟨k, rfl, hk, HS⟩ := hrel
    by_cases hlt : k < s.cache.length
    · have hkx : k < xs.length := by rw [HLn.out]; exact hlt
      obtain ⟨x, hx⟩ : ∃ x, x = xs.getD k zPE := ⟨_, rfl⟩
      have hxc : s.cache[k] = x.1 := by
        rw [hx, List.getD_eq_getElem?_getD, List.getElem?_eq_getElem hkx, Option.getD_some]
        have := HX.out
        simp only [← this, List.getElem_map]
      have HXC : Aside0 (mendL s keep torn cut (k + 1) = upd (mendL s keep torn cut k) x.1.1 (over (mendN keep torn cut k) x.1.2 (mendL s keep torn cut k x.1.1))) := ⟨by rw [mendL_succ hlt, hxc]⟩
      have hx1 : 0 ≤ x.1.1 ∧ x.1.1 < s.pages := by rw [← hxc]; exact (HC.out _ (List.getElem_mem hlt)).2
      rcases HP.out with ⟨_, e⟩ | ⟨g, cap, e, hg, hcs⟩
      · rw [e] at hkx
        exact absurd hkx (Nat.not_lt_zero k)
      · injection e with eA eL ec
        clear eL
        subst eA ec
        have hgM : g ≠ M := fun e => by
          obtain ⟨es, clock, hm⟩ := HD.out.mp.blk
          have := hcs k hkx 0 (.int .i64 (xs.getD k zPE).1.1) rfl
          rw [e] at this
          simp [World.cell?, hm] at this
        have hld : (Instr.loadAt 69 (.pointer (some ⟨g, k * 513, none⟩))).run Try.prog wr = .ok (.agg (peV x.1).toArray) wr := by
          refine run_loadAt_mid wr g (k * 513) 69 _ _ (fun j u hj => ?_) Try.underlying69 rfl (by rw [s69]; exact (congrArg some (by have := sz_peV x; simpa using this)).symm)
          rw [hx] at hj
          exact (World.cell?_of_block (HS.out.1.block g hg (fun e => hgM e))).trans (hcs k hkx j u hj)
        have hst : (storeCells ⟨wr.heap.size, 0, none⟩ (peV x.1).toArray.toList 0).run Try.prog (wr.alloc (.cells zq 69)) = .ok () (wr.alloc (.cells (peV x.1).toArray 69)) :=
          run_storeCells_new wr 69 zq _ (by rw [s69]; exact (congrArg some (sz_peV x)).symm) (by rw [HQ.out]; exact (sz_peV x).symm) (one_peV _)
        have hsz5 : (peV x.1).toArray.size = 513 := sz_peV x
        have c1 : Aside0 (wr.cell? ⟨d, 1, none⟩ = some (.map (some M))) := ⟨(World.cell?_of_block (HS.out.1.block d HD.out.lt (fun e => HD.out.dM e))).trans c1'⟩
        have hW2 := Deep.blk_alloc_new wr (.cells (peV x.1).toArray 69)
        obtain ⟨W2, hW2e⟩ : ∃ W2, W2 = wr.alloc (.cells (peV x.1).toArray 69) := ⟨_, rfl⟩
        have HMP := Aside0.mk (HS.out.2.keep (W' := W2) (by rw [hW2e]; exact Below.heap_alloc wr _ M HS.out.2.lt))
        have HK := Aside0.mk (And.intro hlt (And.intro hk hx1))
        generalize hpe : (peV x.1).toArray = pe at hld hst hW2 hW2e hsz5
        have HPE := Aside0.mk hpe
        have HW2 := Aside0.mk (And.intro hW2 hW2e)
        clear hW2 hW2e
        have b0 : decide (k < s.cache.length) = true := decide_eq_true hlt
        have b1 : decide ((k : Int) < (s.cache.length : Int)) = true := decide_eq_true (by omega)
        have b2 : (k < s.cache.length) = True := eq_true hlt
        have b3 : ((k : Int) < (s.cache.length : Int)) = True := eq_true (by omega)
        clear hpe hx hxc hx1 hcs hkx hlt hk
        go_upto_region 4 with (refine wp_load_eq 69 _ rfl hld ?_)
        rw [← HW2.out.2]
        clear hld hst
        rename_i K2 hK2 K1 hK1 K0 hK0
        obtain ⟨p, hp⟩ : ∃ p, p = mendL s keep torn cut k x.1.1 := ⟨_, rfl⟩
        have hp5 : p.length = 512 := by rw [hp]; exact mendL_len HL5.out (fun x hx => (HC.out x hx).1) k HK.out.2.1 _
        have HPP := Aside0.mk hp
        obtain ⟨zp, hzp⟩ : ∃ zp : Array Value, zp = (bvs pgZ).toArray := ⟨_, rfl⟩
        have hz7 : ∀ w, (zeroValue 67).run Try.prog w = .ok (.agg zp) w := fun w => by rw [hzp]; exact zero67 w
        have hst4 : ∀ w : World, (Instr.storeAt 67 (.pointer (some ⟨w.heap.size, 0, none⟩)) (.agg (bvs p).toArray)).run Try.prog (w.alloc (.cells zp 67)) = .ok () (w.alloc (.cells (bvs p).toArray 67)) := fun w => by rw [hzp]; exact run_storeAt67 w _ _ pgZ_len hp5
        have HP5 := Aside0.mk hp5
        obtain ⟨qg, hqg⟩ : ∃ qg, qg = (bvs p).toArray := ⟨_, rfl⟩
        rw [← hqg] at hst4
        have HQG := Aside0.mk hqg
        clear hp hp5 hzp hqg
        have part : ∀ (n : Nat), n = mendN keep torn cut k → ∀ (y22 y23 y24 y25 y26 y27 y28 y29 y30 y31 y32 y33 y34 y35 y36 y37 y38 y39 : Value), K1 ⟨#[Value.pointer (some ⟨d, 0, none⟩), .slice A2 keep.length c3, .int .i64 torn, .int .i64 cut, undef, undef, undef, undef, .int .i64 (k : Int), .pointer (some ⟨wr.heap.size, 0, none⟩), .int .i64 (n : Int), u11, .pointer (some ⟨d, 0, none⟩), .pointer (some ⟨d, 0, none⟩), .pointer (some ⟨d, 2, none⟩), .slice (some ⟨g, 0, none⟩) s.cache.length c, .int .i64 (s.cache.length : Int), .int .i64 (k : Int), .bool true, .int .i64 (k : Int), .pointer (some ⟨g, k * 513, none⟩), .agg pe, y22, y23, y24, y25, y26, y27, y28, y29, y30, y31, y32, y33, y34, y35, y36, y37, y38, y39, u40, u41, u42, u43, u44, u45, u46, u47, u48, u49, u50, u51, u52, u53, u54, u55, u56, u57, u58, u59, undef, undef, undef, undef, undef, undef, undef, undef, undef], []⟩ W2 := by
          intro n hn y22 y23 y24 y25 y26 y27 y28 y29 y30 y31 y32 y33 y34 y35 y36 y37 y38 y39
          refine hK1 _ _ ?_
          have hn5 : n ≤ 512 := by rw [hn]; exact mendYtehgbikleiaagaale _ _ _ _
          have HN := Aside0.mk hn
          have cd1 : W2.cell? ⟨d, 1, none⟩ = some (.map (some M)) := by rw [HW2.out.2]; exact (World.cell?_of_block (Below.heap_alloc wr _ d (Nat.lt_of_lt_of_le HD.out.lt HS.out.1.size))).trans c1.out
          have hd2 : d < W2.heap.size := World.block_lt_of_cell? W2 _ cd1
          have hW2 := HW2.out.1
          rw [← HW2.out.2] at hW2
          have hw2 : wr.heap.size < W2.heap.size := blk_lt hW2
          have cx0 : W2.cell? ⟨wr.heap.size, 0, none⟩ = some (.int .i64 x.1.1) := (blk_cell hW2 0).trans (by rw [← HPE.out]; rfl)
          have hlk : (Instr.lookup 61 (.map (some M)) (.int .i64 x.1.1) false).run Try.prog W2.drew = .ok (.agg qg) W2.drew := by
            have := MP.look (W := W2.drew) (HMP.out.keep (W' := W2.drew) rfl) (i := x.1.1) (by have := HK.out.2.2.1; omega) (by have := HK.out.2.2.2; have := HP2.out; omega)
            rw [← HPP.out] at this
            rw [HQG.out]
            exact this
          have ca1 : (W2.drew.alloc (.cells zp 67)).cell? ⟨d, 1, none⟩ = some (.map (some M)) := (World.cell?_of_block (Below.heap_alloc W2.drew _ d hd2)).trans cd1
          have ca2 : (W2.drew.alloc (.cells zp 67)).cell? ⟨wr.heap.size, 0, none⟩ = some (.int .i64 x.1.1) := (World.cell?_of_block (Below.heap_alloc W2.drew _ _ hw2)).trans cx0
          have ca3 : (Instr.lookup 61 (.map (some M)) (.int .i64 x.1.1) false).run Try.prog (W2.drew.alloc (.cells zp 67)) = .ok (.agg qg) (W2.drew.alloc (.cells zp 67)) := by
            have := MP.look (W := W2.drew.alloc (.cells zp 67)) (HMP.out.keep (Below.heap_alloc W2.drew _ M HMP.out.lt)) (i := x.1.1) (by have := HK.out.2.2.1; omega) (by have := HK.out.2.2.2; have := HP2.out; omega)
            rw [← HPP.out] at this
            rw [HQG.out]
            exact this
          have hs4 := hst4 W2.drew
          obtain ⟨W4, hW4⟩ : ∃ W4, W4 = W2.drew.alloc (.cells qg 67) := ⟨_, rfl⟩
          have h411 : W4.heap[W2.heap.size]? = some (.cells qg 67 (0, 0)) := by rw [hW4]; exact Deep.blk_alloc_new W2.drew _
          have hb4 : Below W2.heap.size W2 W4 := by rw [hW4]; exact below_alloc (below_drew1 (Below.refl _ _)) _
          rw [← hW4] at hs4
          have h4b : W4.heap[wr.heap.size]? = some (.cells pe 69 (0, 0)) := (hb4.block _ hw2).trans hW2
          obtain ⟨W5, hcp, h511, hk5⟩ := over_copy W4.drew W2.heap.size wr.heap.size n x.1.2 p x.2 HP5.out hn5 (by rw [← HQG.out]; exact h411) (fun j u hj => by
            refine (blk_cell (w := W4.drew) h4b (1 + j)).trans ?_
            rw [← HPE.out, Nat.add_comm 1 j]
            simpa [peV] using hj)
          have hb5 : Below W2.heap.size W2 W5 := hb4.trans ((Kp.trans (S := fun j => j = W2.heap.size) (Kp.of_below (below_drew1 (Below.refl _ _))) hk5 (fun _ _ e => e)).below hb4.size (fun j e => Nat.le_of_eq e.symm))
          have cd5 : W5.cell? ⟨d, 1, none⟩ = some (.map (some M)) := (World.cell?_of_block (hb5.block d hd2)).trans cd1
          have cx5 : W5.cell? ⟨wr.heap.size, 0, none⟩ = some (.int .i64 x.1.1) := (World.cell?_of_block (hb5.block _ hw2)).trans cx0
          obtain ⟨og, hog⟩ : ∃ og, og = (bvs (over n x.1.2 p)).toArray := ⟨_, rfl⟩
          have hol := over_len (n := n) (b := x.1.2) (p := p) x.2 HP5.out hn5
          have hl7 : (Instr.loadAt 67 (.pointer (some ⟨W2.heap.size, 0, none⟩))).run Try.prog W5.drew = .ok (.agg og) W5.drew := by
            rw [hog]
            refine run_loadAt_mid W5.drew W2.heap.size 0 67 (bvs (over n x.1.2 p)) _ (fun j u hj => ?_) Try.underlying67 rfl (by rw [s67, bvs_len, hol])
            refine (blk_cell (w := W5.drew) h511 (0 + j)).trans ?_
            rw [Nat.zero_add]
            simpa using hj
          obtain ⟨W6, hmu, hM6, hg6⟩ := MP.store (W := W5.drew) (HMP.out.keep (W' := W5.drew) (hb5.block M HMP.out.lt)) (by have := HT.out; have := HK.out.1; unfold maxLen; omega) (i := x.1.1) (by have := HK.out.2.2.1; omega) (by have := HK.out.2.2.2; have := HP2.out; omega) (over n x.1.2 p)
          unfold pgV at hmu
          rw [← hog] at hmu
          have HE : Aside0 (MI w M N s keep torn cut (k + 1) W6) := ⟨(HS.out.1.trans (Kp.of_below (S := fun j => j = M) (by rw [HW2.out.2]; exact below_alloc (Below.refl _ _) _)) (fun _ _ e => e)).trans ((Kp.of_below hb5).trans (Kp.grown (S := fun j => j = M) (a := W5) ⟨hg6.os, hg6.tape, hg6.output, hg6.size, hg6.block⟩ (fun j e => by injection e with e; exact e.symm)) (fun _ _ e => e)) (fun _ _ e => e), by rw [HXC.out, ← HPP.out, ← HN.out]; exact hM6⟩
          have hlk' := Aside0.mk hlk
          have hs4' := Aside0.mk hs4
          have hcp' := Aside0.mk hcp
          have hl7' := Aside0.mk hl7
          have hmu' := Aside0.mk hmu
          have cd1' := Aside0.mk cd1
          have cx0' := Aside0.mk cx0
          have cd5' := Aside0.mk cd5
          have cx5' := Aside0.mk cx5
          have ca1' := Aside0.mk ca1
          have ca2' := Aside0.mk ca2
          have ca3' := Aside0.mk ca3
          have hn0 : (0 : Int) ≤ (n : Int) := by omega
          have hn1 : (n : Int) ≤ 512 := by omega
          have hn2 : (n ≤ 512) = True := eq_true hn5
          clear hn hlk hs4 hcp hl7 hmu cd1 cx0 cd5 cx5 ca1 ca2 ca3 hd2 hW2 hw2 h411 hb4 h4b hk5 hb5 h511 hM6 hg6 hol hog hW4 hK1 hK0 hst4 hz9 hsz5 c1' c2
          go_upto_region 8 with fail
          refine start_ (n := 9) (S := fun w' => w'.cell? ⟨d, 1, none⟩ = some (.map (some M)) ∧ w'.cell? ⟨wr.heap.size, 0, none⟩ = some (.int .i64 x.1.1) ∧ (Instr.lookup 61 (.map (some M)) (.int .i64 x.1.1) false).run Try.prog w' = .ok (.agg qg) w') (ds := [8]) #[false, false, false, false, false, false, false, false, false] (by kernel_rfl) rfl rfl ⟨cd1'.out, cx0'.out, hlk'.out⟩ (fun hHeld => ?_)
          refine pure_ (i := 0) (N := some 40) (v := ?_) (a' := ?_) #[true, false, false, false, false, false, false, false, false] rfl rfl (by kernel_rfl) (fun _ _ _ h => h) (Or.inl ⟨by rfl, ?_⟩) ?_ ?_
          rotate_left
          · intro w'
            go_simp
            with_reducible rfl
          rotate_left
          · simp only [Act.put, List.setIfInBounds_toArray, List.set_cons_zero, List.set_cons_succ, i64_w, i32_w]
            rfl
          refine pure_ (i := 1) (N := some 41) (v := ?_) (a' := ?_) #[true, true, false, false, false, false, false, false, false] rfl rfl (by kernel_rfl) (fun _ _ _ h => h) (Or.inl ⟨by rfl, ?_⟩) ?_ ?_
          rotate_left
          · intro w'
            go_simp
            with_reducible rfl
          rotate_left
          · simp only [Act.put, List.setIfInBounds_toArray, List.set_cons_zero, List.set_cons_succ, i64_w, i32_w]
            rfl
          refine pure_ (i := 2) (N := some 42) (v := ?_) (a' := ?_) #[true, true, true, false, false, false, false, false, false] rfl rfl (by kernel_rfl) (fun _ _ _ h => h) (Or.inl ⟨by rfl, ?_⟩) ?_ ?_
          rotate_left
          · intro w'
            go_simp
            with_reducible rfl
          rotate_left
          · simp only [Act.put, List.setIfInBounds_toArray, List.set_cons_zero, List.set_cons_succ, i64_w, i32_w]
            rfl
          refine pure_ (i := 4) (N := some 44) (v := ?_) (a' := ?_) #[true, true, true, false, true, false, false, false, false] rfl rfl (by kernel_rfl) (fun _ _ _ h => h) (Or.inl ⟨by rfl, ?_⟩) ?_ ?_
          rotate_left
          · intro w'
            go_simp
            with_reducible rfl
          rotate_left
          · simp only [Act.put, List.setIfInBounds_toArray, List.set_cons_zero, List.set_cons_succ, i64_w, i32_w]
            rfl
          refine take_ (i := 3) (N := some 43) (v := ?_) (a' := ?_) #[true, true, true, true, true, false, false, false, false] rfl rfl (by kernel_rfl) (fun _ _ _ h => h) (Or.inl ⟨by rfl, ?_⟩) hHeld ?_ ?_
          rotate_left
          · rintro w' ⟨s0, s1, s2⟩
            go_simp
            with_reducible rfl
          rotate_left
          · simp only [Act.put, List.setIfInBounds_toArray, List.set_cons_zero, List.set_cons_succ, i64_w, i32_w]
            rfl
          refine take_ (i := 5) (N := some 45) (v := ?_) (a' := ?_) #[true, true, true, true, true, true, false, false, false] rfl rfl (by kernel_rfl) (fun _ _ _ h => h) (Or.inl ⟨by rfl, ?_⟩) hHeld ?_ ?_
          rotate_left
          · rintro w' ⟨s0, s1, s2⟩
            go_simp
            with_reducible rfl
          rotate_left
          · simp only [Act.put, List.setIfInBounds_toArray, List.set_cons_zero, List.set_cons_succ, i64_w, i32_w]
            rfl
          refine take_ (i := 6) (N := some 46) (v := ?_) (a' := ?_) #[true, true, true, true, true, true, true, false, false] rfl rfl (by kernel_rfl) (fun _ _ _ h => h) (Or.inl ⟨by rfl, ?_⟩) hHeld ?_ ?_
          rotate_left
          · rintro w' ⟨s0, s1, s2⟩
            refine Eq.trans (exec_lookup2 61 (.tmp 43) (.tmp 45) false rfl (vx := .map (some M)) (vy := .int .i64 x.1.1) (by rfl) (by rfl) s2) ?_
            with_reducible rfl
          rotate_left
          · simp only [Act.put, List.setIfInBounds_toArray, List.set_cons_zero, List.set_cons_succ, i64_w, i32_w]
            rfl
          refine one_ (i := 7) (N := some 11) #[true, true, true, true, true, true, true, true, false] rfl rfl (by kernel_rfl) (by decide) (fun K hK => ?_)
          refine value_ (w1 := W2.drew.alloc (.cells zp 67)) (v := .pointer (some ⟨W2.heap.size, 0, none⟩)) (by rfl) rfl (exec_alloc 67 rfl zp hz7) ?_
          refine hK.out _ _ ⟨ca1'.out, ca2'.out, ca3'.out⟩ (fun hHeld => ?_)
          clear hK K
          refine norm_ (a' := ?_) ?_ ?_
          rotate_left
          · show Act.put _ (some 11) _ = _
            simp only [Act.put, List.setIfInBounds_toArray, List.set_cons_zero, List.set_cons_succ, i64_w, i32_w]
            rfl
          refine last_ (i := 8) (N := none) #[true, true, true, true, true, true, true, true, true] rfl rfl (by kernel_rfl) (by decide) (fun K hK => ?_)
          refine skip_ (w1 := W4) (by rfl) rfl (exec_store 67 (.tmp 11) (.tmp 46) rfl hs4'.out) ?_
          refine hK.out _ _ ?_
          clear hK K
          refine done_ (by kernel_rfl) ?_
          go_upto_region 9 with fail
          refine start_ (n := 5) (S := fun w' => True) (ds := [4]) #[false, false, false, false, false] (by kernel_rfl) rfl rfl trivial (fun hHeld => ?_)
          refine pure_ (i := 0) (N := some 47) (v := ?_) (a' := ?_) #[true, false, false, false, false] rfl rfl (by kernel_rfl) (fun _ _ _ h => h) (Or.inl ⟨by rfl, ?_⟩) ?_ ?_
          rotate_left
          · intro w'
            go_simp
            with_reducible rfl
          rotate_left
          · simp only [Act.put, List.setIfInBounds_toArray, List.set_cons_zero, List.set_cons_succ, i64_w, i32_w]
            rfl
          refine pure_ (i := 1) (N := some 48) (v := ?_) (a' := ?_) #[true, true, false, false, false] rfl rfl (by kernel_rfl) (fun _ _ _ h => h) (Or.inl ⟨by rfl, ?_⟩) ?_ ?_
          rotate_left
          · intro w'
            go_simp
            with_reducible rfl
          rotate_left
          · simp only [Act.put, List.setIfInBounds_toArray, List.set_cons_zero, List.set_cons_succ, i64_w, i32_w]
            rfl
          refine pure_ (i := 2) (N := some 49) (v := ?_) (a' := ?_) #[true, true, true, false, false] rfl rfl (by kernel_rfl) (fun _ _ _ h => h) (Or.inl ⟨by rfl, ?_⟩) ?_ ?_
          rotate_left
          · intro w'
            go_simp
            with_reducible rfl
          rotate_left
          · simp only [Act.put, List.setIfInBounds_toArray, List.set_cons_zero, List.set_cons_succ, i64_w, i32_w]
            rfl
          refine pure_ (i := 3) (N := some 50) (v := ?_) (a' := ?_) #[true, true, true, true, false] rfl rfl (by kernel_rfl) (fun _ _ _ h => h) (Or.inl ⟨by rfl, ?_⟩) ?_ ?_
          rotate_left
          · intro w'
            go_simp
            with_reducible rfl
          rotate_left
          · simp only [Act.put, List.setIfInBounds_toArray, List.set_cons_zero, List.set_cons_succ, i64_w, i32_w]
            rfl
          refine last_ (i := 4) (N := some 51) #[true, true, true, true, true] rfl rfl (by kernel_rfl) (by decide) (fun K hK => ?_)
          refine value_ (w1 := W5) (v := .int .i64 (n : Int)) (by rfl) rfl (exec_copy (.tmp 48) (.tmp 50) 30 30 rfl (by rfl) (by rfl) hcp'.out) ?_
          refine hK.out _ _ ?_
          clear hK K
          refine norm_ (a' := ?_) ?_ ?_
          rotate_left
          · show Act.put _ (some 51) _ = _
            simp only [Act.put, List.setIfInBounds_toArray, List.set_cons_zero, List.set_cons_succ, i64_w, i32_w]
            rfl
          refine done_ (by kernel_rfl) ?_
          clear hz7
          go_upto_region 10 with fail
          refine start_ (n := 8) (S := fun w' => w'.cell? ⟨d, 1, none⟩ = some (.map (some M)) ∧ w'.cell? ⟨wr.heap.size, 0, none⟩ = some (.int .i64 x.1.1)) (ds := [7]) #[false, false, false, false, false, false, false, false] (by kernel_rfl) rfl rfl ⟨cd5'.out, cx5'.out⟩ (fun hHeld => ?_)
          refine pure_ (i := 0) (N := some 52) (v := ?_) (a' := ?_) #[true, false, false, false, false, false, false, false] rfl rfl (by kernel_rfl) (fun _ _ _ h => h) (Or.inl ⟨by rfl, ?_⟩) ?_ ?_
          rotate_left
          · intro w'
            go_simp
            with_reducible rfl
          rotate_left
          · simp only [Act.put, List.setIfInBounds_toArray, List.set_cons_zero, List.set_cons_succ, i64_w, i32_w]
            rfl
          refine pure_ (i := 1) (N := some 53) (v := ?_) (a' := ?_) #[true, true, false, false, false, false, false, false] rfl rfl (by kernel_rfl) (fun _ _ _ h => h) (Or.inl ⟨by rfl, ?_⟩) ?_ ?_
          rotate_left
          · intro w'
            go_simp
            with_reducible rfl
          rotate_left
          · simp only [Act.put, List.setIfInBounds_toArray, List.set_cons_zero, List.set_cons_succ, i64_w, i32_w]
            rfl
          refine pure_ (i := 2) (N := some 54) (v := ?_) (a' := ?_) #[true, true, true, false, false, false, false, false] rfl rfl (by kernel_rfl) (fun _ _ _ h => h) (Or.inl ⟨by rfl, ?_⟩) ?_ ?_
          rotate_left
          · intro w'
            go_simp
            with_reducible rfl
          rotate_left
          · simp only [Act.put, List.setIfInBounds_toArray, List.set_cons_zero, List.set_cons_succ, i64_w, i32_w]
            rfl
          refine pure_ (i := 4) (N := some 56) (v := ?_) (a' := ?_) #[true, true, true, false, true, false, false, false] rfl rfl (by kernel_rfl) (fun _ _ _ h => h) (Or.inl ⟨by rfl, ?_⟩) ?_ ?_
          rotate_left
          · intro w'
            go_simp
            with_reducible rfl
          rotate_left
          · simp only [Act.put, List.setIfInBounds_toArray, List.set_cons_zero, List.set_cons_succ, i64_w, i32_w]
            rfl
          refine take_ (i := 3) (N := some 55) (v := ?_) (a' := ?_) #[true, true, true, true, true, false, false, false] rfl rfl (by kernel_rfl) (fun _ _ _ h => h) (Or.inl ⟨by rfl, ?_⟩) hHeld ?_ ?_
          rotate_left
          · rintro w' ⟨s0, s1⟩
            go_simp
            with_reducible rfl
          rotate_left
          · simp only [Act.put, List.setIfInBounds_toArray, List.set_cons_zero, List.set_cons_succ, i64_w, i32_w]
            rfl
          refine take_ (i := 5) (N := some 57) (v := ?_) (a' := ?_) #[true, true, true, true, true, true, false, false] rfl rfl (by kernel_rfl) (fun _ _ _ h => h) (Or.inl ⟨by rfl, ?_⟩) hHeld ?_ ?_
          rotate_left
          · rintro w' ⟨s0, s1⟩
            go_simp
            with_reducible rfl
          rotate_left
          · simp only [Act.put, List.setIfInBounds_toArray, List.set_cons_zero, List.set_cons_succ, i64_w, i32_w]
            rfl
          refine one_ (i := 6) (N := some 58) #[true, true, true, true, true, true, true, false] rfl rfl (by kernel_rfl) (by decide) (fun K hK => ?_)
          refine value_ (w1 := W5.drew) (v := .agg og) (by rfl) rfl (exec_load 67 (.tmp 11) rfl hl7'.out) ?_
          refine hK.out _ _ ⟨cd5'.out, cx5'.out⟩ (fun hHeld => ?_)
          clear hK K
          refine norm_ (a' := ?_) ?_ ?_
          rotate_left
          · show Act.put _ (some 58) _ = _
            simp only [Act.put, List.setIfInBounds_toArray, List.set_cons_zero, List.set_cons_succ, i64_w, i32_w]
            rfl
          refine last_ (i := 7) (N := none) #[true, true, true, true, true, true, true, true] rfl rfl (by kernel_rfl) (by decide) (fun K hK => ?_)
          refine skip_ (w1 := W6) (by rfl) rfl (exec_mapUpdate 61 (.tmp 55) (.tmp 57) (.tmp 58) rfl hmu'.out) ?_
          refine hK.out _ _ ?_
          clear hK K
          refine done_ (by kernel_rfl) ?_
          have hkb : k < 1073741824 := by have := HT.out; have := HK.out.1; omega
          go_wp2
          go_roundw
          case rel => exact ⟨k + 1, by go_num, HK.out.1, HE⟩
          case measure => exact meas_lt HK.out.1 (by go_num)
        clear hK1 hz7 hst4 hsz5 hz9
        have hex : ∀ (n : Nat) (z : Int), z = (n : Int) → (Value.int .i64 z) = .int .i64 (n : Int) := fun n z e => by rw [e]
        by_cases ht : (k : Int) = torn
        · have t0 : ((k : Int) == torn) = true := beq_iff_eq.mpr ht
          have t1 : decide ((k : Int) = torn) = true := decide_eq_true ht
          have hn : mendN keep torn cut k = (max 0 (min cut 512)).toNat := if_pos ht
          by_cases hc0 : cut ≤ 0
          · have e : (mendN keep torn cut k : Int) = 0 := by rw [hn]; omega
            have hq := part _ rfl
            rw [e] at hq
            have q1 : (512 < cut) = False := eq_false (by omega)
            have q2 : (0 < cut) = False := eq_false (by omega)
            clear part ht hn hc0 e
            go_wp2
            exact hq _ _ _ _ _ _ _ _ _ _ _ _ _ _ _ _ _ _
          · by_cases hc5 : 512 < cut
            · have e : (mendN keep torn cut k : Int) = 512 := by rw [hn]; omega
              have hq := part _ rfl
              rw [e] at hq
              have q1 : (512 < cut) = True := eq_true hc5
              clear part ht hn hc0 hc5 e
              go_wp2
              exact hq _ _ _ _ _ _ _ _ _ _ _ _ _ _ _ _ _ _
            · have e : (mendN keep torn cut k : Int) = cut := by rw [hn]; omega
              have hq := part _ rfl
              rw [e] at hq
              have q1 : (512 < cut) = False := eq_false hc5
              have q2 : (0 < cut) = True := eq_true (by omega)
              clear part ht hn hc0 hc5 e
              go_wp2
              exact hq _ _ _ _ _ _ _ _ _ _ _ _ _ _ _ _ _ _
        · have t0 : ((k : Int) == torn) = false := beq_eq_false_iff_ne.mpr ht
          have t1 : decide ((k : Int) = torn) = false := decide_eq_false ht
          have hn : mendN keep torn cut k = if keep.getD k false = true then 512 else 0 := if_neg ht
          by_cases hkl : k < keep.length
          · obtain ⟨ad, ea, hca⟩ := Kd.at_bool HKR.out (k : Int) (by omega) (by omega)
            subst ea
            rw [Int.toNat_natCast] at hca
            have hrk : rdOf false keep (k : Int) = keep.getD k false := by simp [rdOf]
            rw [hrk] at hca
            have hcb : W2.cell? (ad.add k) = some (.bool (keep.getD k false)) := by
              have hbl := World.block_lt_of_cell? w _ hca
              rw [HW2.out.2]
              refine (World.cell?_of_block (Below.heap_alloc wr _ _ (Nat.lt_of_lt_of_le hbl HS.out.1.size))).trans ?_
              refine (World.cell?_of_block (HS.out.1.block _ hbl (fun e => HKM.out (List.ne_nil_of_length_pos (by omega)) ad rfl ?_))).trans hca
              rw [← e]
              unfold Addr.add
              split <;> rfl
            have l1 : ((k : Int) < (keep.length : Int)) = True := eq_true (by omega)
            have l2 : decide ((k : Int) < (keep.length : Int)) = true := decide_eq_true (by omega)
            have l3 : (k < keep.length) = True := eq_true hkl
            have l4 : decide (k < keep.length) = true := decide_eq_true hkl
            cases hkb : keep.getD k false with
            | true =>
              rw [hkb] at hcb
              have e : (mendN keep torn cut k : Int) = 512 := by rw [hn, hkb]; rfl
              have hq := part _ rfl
              rw [e] at hq
              clear part ht hn e hkl hca hrk hkb
              go_wp2
              exact hq _ _ _ _ _ _ _ _ _ _ _ _ _ _ _ _ _ _
            | false =>
              rw [hkb] at hcb
              have e : (mendN keep torn cut k : Int) = 0 := by rw [hn, hkb]; rfl
              have hq := part _ rfl
              rw [e] at hq
              clear part ht hn e hkl hca hrk hkb
              go_wp2
              exact hq _ _ _ _ _ _ _ _ _ _ _ _ _ _ _ _ _ _
          · have e : (mendN keep torn cut k : Int) = 0 := by rw [hn, List.getD_eq_getElem?_getD, List.getElem?_eq_none (by omega)]; rfl
            have hq := part _ rfl
            rw [e] at hq
            have l1 : ((k : Int) < (keep.length : Int)) = False := eq_false (by omega)
            have l2 : decide ((k : Int) < (keep.length : Int)) = false := decide_eq_false (by omega)
            have l3 : (k < keep.length) = False := eq_false hkl
            have l4 : decide (k < keep.length) = false := decide_eq_false hkl
            clear part ht hn e hkl
            go_wp2
            exact hq _ _ _ _ _ _ _ _ _ _ _ _ _ _ _ _ _ _
    · have hke : k = s.cache.length := by omega
      subst hke
      have b0 : decide (s.cache.length < s.cache.length) = false := decide_eq_false (by omega)
      have b1 : decide ((s.cache.length : Int) < (s.cache.length : Int)) = false := decide_eq_false (by omega)
      have hb := (HS.out.1.block d HD.out.lt (fun e => HD.out.dM e)).trans HD.out.blk
      have c2r : wr.cell? ⟨d, 2, none⟩ = some (.slice A s.cache.length c) := (blk_cell hb 2).trans rfl
      have f2r := blk_frozen hb 2
      have c3r : wr.cell? ⟨d, 3, none⟩ = some (.int .i64 s.left) := (blk_cell hb 3).trans rfl
      have f3r := blk_frozen hb 3
      have c4r : wr.cell? ⟨d, 4, none⟩ = some (.bool s.down) := (blk_cell hb 4).trans rfl
      have f4r := blk_frozen hb 4
      have HE : Aside0 (DD (((wr.setCell ⟨d, 2, none⟩ (.slice none 0 0)).setCell ⟨d, 3, none⟩ (.int .i64 (-1))).setCell ⟨d, 4, none⟩ (.bool false)) base d M (N + s.cache.length) (.slice none 0 0) (mendS s keep torn cut)) := ⟨{
        bd := HD.out.bd
        bm := HD.out.bm
        blk := blk_put (blk_put (blk_put hb 2 _ rfl) 3 _ rfl) 4 _ rfl
        mp := ((HS.out.2.keep (Below.heap_setCell wr _ _ M (fun e => HD.out.dM e.symm))).keep (Below.heap_setCell _ _ _ M (fun e => HD.out.dM e.symm))).keep (Below.heap_setCell _ _ _ M (fun e => HD.out.dM e.symm))
        row := Kd.R_nil _ _ _ _ _
        tot := by have := HT.out; simpa [mendS] using this
        p1 := HD.out.p1
        p2 := HD.out.p2
        l512 := mendL_len HL5.out (fun x hx => (HC.out x hx).1) _ (Nat.le_refl _)
        c512 := fun x hx => by simp [mendS] at hx
        lf := by simp [mendS] }⟩
      have HE2 : Aside0 (MV d M (.slice A s.cache.length c) (.slice none 0 0) w (((wr.setCell ⟨d, 2, none⟩ (.slice none 0 0)).setCell ⟨d, 3, none⟩ (.int .i64 (-1))).setCell ⟨d, 4, none⟩ (.bool false))) := ⟨(((Kp.wide HS.out.1 (fun j e => .inr (.inl e))).trans (Kp.set (S := FD d M (.slice A s.cache.length c)) wr _ _ (.inl rfl)) (fun j _ e => e)).trans (Kp.set (S := FD d M (.slice A s.cache.length c)) _ _ _ (.inl rfl)) (fun j _ e => e)).trans (Kp.set (S := FD d M (.slice A s.cache.length c)) _ _ _ (.inl rfl)) (fun j _ e => e), fun k hk => by simp [Value.ownBlock] at hk⟩
      clear hlt hk hb
      go_wp2
      go_end0
      exact ⟨⟨_, rfl⟩, HE.out, HE2.out⟩
end Go.Proofs.Ytehgbikleiaagaa.P
end
section
namespace Go.Proofs.Ytehgbikleiaagaa.P
open Go.RowKit Go.Proofs.YtehgbikleiaagaaW.PrintWords Go.Proofs.YtehgbikleiaagaaW.PrintLast Go.Proofs.YtehgbikleiaagaaW.PrintMore
attribute [local go_sem] max2_int min2_int max_two min_two max_three min_three max_four min_four
set_option linter.unusedVariables false
set_option linter.unusedSimpArgs false
structure TF (base : Nat) (w w' : World) : Prop where
  b : Below base w w'
  size : w.heap.size ≤ w'.heap.size
  blk : ∀ (g : Nat) (cs : Array Value) (t : TypeId) (fr : Nat × Nat), w.heap[g]? = some (Obj.cells cs t fr) → t ≠ 64 → t ≠ 69 → w'.heap[g]? = some (Obj.cells cs t fr)
theorem TF.refl (base : Nat) (w : World) : TF base w w := ⟨Below.refl _ _, Nat.le_refl _, fun _ _ _ _ h _ _ => h⟩
theorem TF.trans {base : Nat} {a b c : World} (h : TF base a b) (k : TF base b c) : TF base a c := ⟨h.b.trans k.b, Nat.le_trans h.size k.size, fun g cs t fr hb h1 h2 => k.blk g cs t fr (h.blk g cs t fr hb h1 h2) h1 h2⟩
theorem TF.mono {base base' : Nat} {a b : World} (h : TF base a b) (hb : base' ≤ base) : TF base' a b := ⟨h.b.mono hb, h.size, h.blk⟩
theorem TF.of_below {base : Nat} {a b : World} (h : Below a.heap.size a b) (hb : base ≤ a.heap.size) : TF base a b := ⟨h.mono hb, h.size, fun g cs t fr hg _ _ => blk_below hg h⟩
theorem DD.fd_typed {W : World} {base d M N : Nat} {v : Value} {s : Dk} (h : DD W base d M N v s) {g : Nat} {cs : Array Value} {t : TypeId} {fr : Nat × Nat} (hb : W.heap[g]? = some (.cells cs t fr)) (h1 : t ≠ 64) (h2 : t ≠ 69) : ¬ FD d M v g := by
  rintro (rfl | rfl | e)
  · have := h.blk
    rw [hb] at this
    cases this
    exact h1 rfl
  · obtain ⟨es, clock, hm⟩ := h.mp.blk
    rw [hb] at hm
    cases hm
  · obtain ⟨cells, hc⟩ := Kd.R_typed h.row g e.symm
    rw [hb] at hc
    cases hc
    exact h2 rfl
theorem DD.tf {w w' : World} {base d M N : Nat} {v v' : Value} {s : Dk} (h : DD w base d M N v s) (hm : MV d M v v' w w') : TF base w w' :=
  ⟨h.below hm, hm.kp.size, fun g cs t fr hb h1 h2 => (hm.kp.block g (blk_lt hb) (h.fd_typed hb h1 h2)).trans hb⟩
theorem R_tf {α : Type} {d : Kd α} {e b base : Nat} {ok : Nat → Prop} {w w' : World} {v : Value} {xs : List α} (h : d.R e w b ok v xs) (ht : TF base w w') (hq : ∀ q, q ∈ e :: d.E → q ≠ 64 ∧ q ≠ 69) : d.R e w' b ok v xs := by
  refine Kd.R_mono (Kd.R_move (Kd.R_bound h) (fun k hk => ?_)) (fun _ hk => hk.1)
  obtain ⟨_, _, _, q, hqm, cells, hc⟩ := hk
  rw [hc, ht.blk k cells q _ hc (hq q hqm).1 (hq q hqm).2]
theorem R5_tf {b base : Nat} {ok : Nat → Prop} {w w' : World} {v : Value} {xs : List Int} (h : Kd.R (Kd.int .u8) 5 w b ok v xs) (ht : TF base w w') : Kd.R (Kd.int .u8) 5 w' b ok v xs :=
  R_tf h ht (fun q hq => by simp [Kd.int, Kd.scalar] at hq; subst hq; decide)
def DS (W : World) (base d : Nat) (s : Dk) (C : Nat) : Prop := ∃ M N v, DD W base d M N v s ∧ N + s.cache.length ≤ C
section
variable {w w' : World} {base d C : Nat} {s : Dk}
theorem DS.step (h : DS w base d s C) (hb : Below w.heap.size w w') : DS w' base d s C := by
  obtain ⟨M, N, v, h, hc⟩ := h
  exact ⟨M, N, v, h.step hb, hc⟩
theorem DS.base_le (h : DS w base d s C) : base ≤ w.heap.size := by
  obtain ⟨M, N, v, h, hc⟩ := h
  exact Nat.le_trans h.bd (Nat.le_of_lt h.lt)
theorem DS.tf (h : DS w base d s C) (hb : Below w.heap.size w w') : TF base w w' := TF.of_below hb h.base_le
theorem DS.more {C' : Nat} (h : DS w base d s C) (hC : C ≤ C') : DS w base d s C' := by
  obtain ⟨M, N, v, h, hc⟩ := h
  exact ⟨M, N, v, h, Nat.le_trans hc hC⟩
theorem DS.p1 (h : DS w base d s C) : 1 ≤ s.pages := by obtain ⟨M, N, v, h, hc⟩ := h; exact h.p1
theorem DS.l512 (h : DS w base d s C) : ∀ i, (s.last i).length = 512 := by obtain ⟨M, N, v, h, hc⟩ := h; exact h.l512
theorem DS.c512 (h : DS w base d s C) : ∀ x ∈ s.cache, x.2.length = 512 ∧ 0 ≤ x.1 ∧ x.1 < s.pages := by obtain ⟨M, N, v, h, hc⟩ := h; exact h.c512
theorem DS.has_len (h : DS w base d s C) (n : Int) : (hasP s n).length = 512 := hasP_len h.l512 (fun x hx => (h.c512 x hx).1) n
end
theorem ds_new (p : Int) (h0 : 1 ≤ p) (h1 : p ≤ 4096) (w : World) :
    Calls Try.prog 10 #[.int .i64 p] w fun e w' => ∃ d, e = .returned (.tuple #[.pointer (some ⟨d, 0, none⟩), .int .i64 0]) ∧ DS w' w.heap.size d (newS p) 0 ∧ Below w.heap.size w w' :=
  (new_calls p h0 h1 w).mono fun e w' ⟨d, M, he, hd, hb⟩ => ⟨d, he, ⟨M, 0, _, hd, by simp [newS]⟩, hb⟩
def writeE (s : Dk) (n : Int) (b : List Int) : Int := if lookP s n ≠ 0 then lookP s n else if b.length ≠ 512 then 3 else if s.left = 0 then 9 else 0
def writeD (s : Dk) (n : Int) (b : List Int) : Dk := if lookP s n ≠ 0 then s else if b.length ≠ 512 then s else if s.left = 0 then stepS s else writeS s n b
theorem row_range {w : World} {b g cap : Nat} {ok : Nat → Prop} {xs : List Int} (h : Kd.R (Kd.int .u8) 5 w b ok (.slice (some ⟨g, 0, none⟩) xs.length cap) xs) : w.rangeAt g 0 (bvs xs) := by
  intro j u hj
  have hlt : j < xs.length := by
    have := (List.getElem?_eq_some_iff.1 hj).1
    rwa [bvs_len] at this
  have hc := (Kd.R_celln 0 h (j : Int) (by omega) (by omega)).1
  rw [Int.toNat_natCast] at hc
  rw [Nat.zero_add, hc]
  simp only [bvs, List.getElem?_map, List.getElem?_eq_getElem hlt, Option.map_some, Option.some.injEq] at hj
  rw [← hj]
  simp [rdOf, List.getElem?_eq_getElem hlt]
theorem ds_write {base d C : Nat} {s : Dk} (n : Int) (own : Value) (b : List Int) {b2 : Nat} {ok : Nat → Prop} (w : World) (h : DS w base d s C) (hC : C < 1073741824) (ho : Kd.R (Kd.int .u8) 5 w b2 ok own b) :
    Calls Try.prog 12 #[.pointer (some ⟨d, 0, none⟩), .int .i64 n, own] w fun e w' => e = .returned (.int .i64 (writeE s n b)) ∧ DS w' base d (writeD s n b) (C + 1) ∧ TF base w w' := by
  obtain ⟨M, N, v, h, hc⟩ := h
  have hbl : base ≤ w.heap.size := Nat.le_trans h.bd (Nat.le_of_lt h.lt)
  unfold writeE writeD
  by_cases hl : lookP s n ≠ 0
  · rw [if_pos hl, if_pos hl]
    obtain ⟨A, c, e⟩ := Kd.R_slice ho
    subst e
    exact (write_look n A b.length c hl w h).mono fun e w' ⟨he, hb⟩ => ⟨he, ⟨M, N, v, h.step hb, by omega⟩, TF.of_below hb hbl⟩
  · rw [if_neg hl, if_neg hl]
    have hl0 : lookP s n = 0 := Decidable.not_not.1 hl
    by_cases h5 : b.length ≠ 512
    · rw [if_pos h5, if_pos h5]
      obtain ⟨A, c, e⟩ := Kd.R_slice ho
      subst e
      exact (write_len n A b.length c hl0 h5 w h).mono fun e w' ⟨he, hb⟩ => ⟨he, ⟨M, N, v, h.step hb, by omega⟩, TF.of_below hb hbl⟩
    · rw [if_neg h5, if_neg h5]
      have h50 : b.length = 512 := Decidable.not_not.1 h5
      by_cases hs : s.left = 0
      · rw [if_pos hs, if_pos hs]
        obtain ⟨A, c, e⟩ := Kd.R_slice ho
        subst e
        rw [h50]
        exact (write_down n A c hl0 hs w h).mono fun e w' ⟨he, hd, hm⟩ => ⟨he, ⟨M, N, v, hd, by rw [stepS_cache]; omega⟩, h.tf hm⟩
      · rw [if_neg hs, if_neg hs]
        obtain ⟨g, cap, e, _, hg, cells, hcell⟩ := Kd.R_form ho (by omega)
        subst e
        have hr := row_range ho
        rw [h50]
        exact (write_ok n b g cap hl0 h50 hs w h (by omega) hg (h.fd_typed hcell (by decide) (by decide)) hr).mono fun e w' ⟨he, v', hd, hm⟩ => ⟨he, ⟨M, N, v', hd, by simp [writeS]; omega⟩, h.tf hm⟩
def syncE (s : Dk) : Int := if s.down = true then 9 else if s.left = 0 then 9 else 0
def syncD (s : Dk) : Dk := if s.down = true then s else if s.left = 0 then stepS s else syncS s
theorem ds_sync {base d C : Nat} {s : Dk} (w : World) (h : DS w base d s C) :
    Calls Try.prog 13 #[.pointer (some ⟨d, 0, none⟩)] w fun e w' => e = .returned (.int .i64 (syncE s)) ∧ DS w' base d (syncD s) C ∧ TF base w w' := by
  obtain ⟨M, N, v, h, hc⟩ := h
  have hbl : base ≤ w.heap.size := Nat.le_trans h.bd (Nat.le_of_lt h.lt)
  unfold syncE syncD
  by_cases hd : s.down = true
  · rw [if_pos hd, if_pos hd]
    exact (sync_down hd w h).mono fun e w' ⟨he, hb⟩ => ⟨he, ⟨M, N, v, h.step hb, hc⟩, TF.of_below hb hbl⟩
  · rw [if_neg hd, if_neg hd]
    have hd0 : s.down = false := by simpa using hd
    by_cases hs : s.left = 0
    · rw [if_pos hs, if_pos hs]
      exact (sync_fail hd0 hs w h).mono fun e w' ⟨he, hd, hm⟩ => ⟨he, ⟨M, N, v, hd, by rw [stepS_cache]; exact hc⟩, h.tf hm⟩
    · rw [if_neg hs, if_neg hs]
      exact (sync_ok hd0 hs w h).mono fun e w' ⟨he, hd, hm⟩ => ⟨he, ⟨M, _, _, hd, by simpa [syncS] using hc⟩, h.tf hm⟩
theorem ds_mend {base d C : Nat} {s : Dk} (A2 : Option Addr) (c3 : Nat) (keep : List Bool) (torn cut : Int) (w : World) (h : DS w base d s C) (hkr : Kd.C Kd.bool w A2 keep.length keep) :
    Calls Try.prog 14 #[.pointer (some ⟨d, 0, none⟩), .slice A2 keep.length c3, .int .i64 torn, .int .i64 cut] w fun e w' => (∃ u, e = .returned u) ∧ DS w' base d (mendS s keep torn cut) C ∧ TF base w w' := by
  obtain ⟨M, N, v, h, hc⟩ := h
  have hkm : keep ≠ [] → ∀ a, A2 = some a → a.block ≠ M := by
    rintro hne a rfl e
    have hpos : 0 < keep.length := List.length_pos_iff.2 hne
    obtain ⟨ad, e1, hcell⟩ := Kd.at_bool hkr 0 (by omega) (by omega)
    injection e1 with e1
    subst e1
    obtain ⟨es, clock, hm⟩ := h.mp.blk
    have hb : (a.add (0 : Int).toNat).block = M := by rw [← e]; unfold Addr.add; split <;> rfl
    unfold World.cell? at hcell
    rw [hb, hm] at hcell
    cases hcell
  exact (mend_calls A2 c3 keep torn cut w h hkr hkm).mono fun e w' ⟨he, hd, hm⟩ => ⟨he, ⟨M, _, _, hd, by simpa [mendS] using hc⟩, h.tf hm⟩
theorem ds_read {base d C : Nat} {s : Dk} (n : Int) (w : World) (h : DS w base d s C) :
    Calls Try.prog 15 #[.pointer (some ⟨d, 0, none⟩), .int .i64 n] w fun e w' => ∃ v, e = .returned (.tuple #[v, .int .i64 (lookP s n)]) ∧ Below w.heap.size w w' ∧
      ((lookP s n ≠ 0 ∧ v = .slice none 0 0) ∨ (lookP s n = 0 ∧ ∃ g, w.heap.size ≤ g ∧ v = .slice (some ⟨g, 0, none⟩) 512 512 ∧ w'.heap[g]? = some (.cells (bvs (hasP s n)).toArray 67 (0, 0)))) := by
  obtain ⟨M, N, v, h, hc⟩ := h
  by_cases hl : lookP s n = 0
  · rw [hl]
    exact (read_ok n hl w h).mono fun e w' ⟨g, hg, he, hc, hb⟩ => ⟨_, he, hb, .inr ⟨rfl, g, hg, rfl, hc⟩⟩
  · exact (read_bad n hl w h).mono fun e w' ⟨he, hb⟩ => ⟨_, he, hb, .inl ⟨hl, rfl⟩⟩
theorem ds_arm {base d C : Nat} {s : Dk} (n : Int) (hn : n < 9223372036854775808) (w : World) (h : DS w base d s C) :
    Calls Try.prog 16 #[.pointer (some ⟨d, 0, none⟩), .int .i64 n] w fun e w' => (∃ u, e = .returned u) ∧ DS w' base d { s with left := max (-1) n } C ∧ TF base w w' := by
  obtain ⟨M, N, v, h, hc⟩ := h
  exact (arm_calls n hn w h).mono fun e w' ⟨he, hd, hm⟩ => ⟨he, ⟨M, _, _, hd, hc⟩, h.tf hm⟩
theorem ds_image {base d C : Nat} {s : Dk} (w : World) (h : DS w base d s C) :
    Calls Try.prog 21 #[.pointer (some ⟨d, 0, none⟩)] w fun e w' => ∃ v', e = .returned v' ∧ Kd.R (Kd.int .u8) 5 w' w.heap.size (fun _ => True) v' (imageP s s.pages.toNat) ∧ Below w.heap.size w w' := by
  obtain ⟨M, N, v, h, hc⟩ := h
  exact image_calls w h
end Go.Proofs.Ytehgbikleiaagaa.P
end
section
namespace Go.Proofs.Ytehgbikleiaagaa.P
open Go.RowKit Go.Proofs.YtehgbikleiaagaaW.PrintWords Go.Proofs.YtehgbikleiaagaaW.PrintLast Go.Proofs.YtehgbikleiaagaaW.PrintMore
attribute [local go_sem] max2_int min2_int max_two min_two max_three min_three max_four min_four
set_option linter.unusedVariables false
set_option linter.unusedSimpArgs false
def pgF (f : Int) : List Int := List.replicate 512 f
theorem u25p : Try.prog.underlying 25 = some (.pointer (Try.prog.pointee 25)) := by kernel_rfl
theorem guard_ptr (op : BinOp) (t : TypeId) (x y : Operand) (a b : Option Addr) (w : World) : (eqGuard op t x y (.pointer a) (.pointer b)).run Try.prog w = .ok () w := by cases op <;> rfl
theorem eql_ptr (p : Addr) (w : World) : (binOp .eql 25 (.pointer (some p)) (.pointer none)).run Try.prog w = .ok (.bool false) w := run_eql_pointer_nil w 25 (some p) u25p
theorem neq_ptr (p : Addr) (w : World) : (binOp .neq 25 (.pointer (some p)) (.pointer none)).run Try.prog w = .ok (.bool true) w := run_neq_pointer_nil w 25 (some p) u25p
attribute [local go_sem] guard_ptr eql_ptr neq_ptr
theorem pageP_fill (f : Int) : pageP f [] false = pgF f := rfl
theorem page_fill (fill : Int) (w : World) :
    Calls Try.prog 11 #[.agg #[.int .i64 0, .int .i64 0, .int .u8 fill, .slice none 0 0, .bool false, .slice none 0 0, .int .i64 0, .int .i64 0]] w fun e w' => ∃ v', e = .returned v' ∧ Kd.R (Kd.int .u8) 5 w' w.heap.size (fun _ => True) v' (pgF fill) ∧ Below w.heap.size w w' := by
  have h := page_one false 512 rfl 0 0 fill none 0 [] none 0 0 0 0 w (Kd.C_nil _ _)
  rw [pageP_fill] at h
  exact h
theorem ds_write0 {base d C : Nat} {s : Dk} (n : Int) (own : Value) (b : List Int) {b2 : Nat} {ok : Nat → Prop} (he : writeE s n b = 0) (w : World) (h : DS w base d s C) (hC : C < 1073741824) (ho : Kd.R (Kd.int .u8) 5 w b2 ok own b) :
    Calls Try.prog 12 #[.pointer (some ⟨d, 0, none⟩), .int .i64 n, own] w fun e w' => e = .returned (.int .i64 0) ∧ DS w' base d (writeD s n b) (C + 1) ∧ TF base w w' := by
  have := ds_write n own b w h hC ho
  rwa [he] at this
theorem ds_read0 {base d C : Nat} {s : Dk} (n : Int) (hl : lookP s n = 0) (b : List Int) (hb : hasP s n = b) (w : World) (h : DS w base d s C) :
    Calls Try.prog 15 #[.pointer (some ⟨d, 0, none⟩), .int .i64 n] w fun e w' => ∃ g, e = .returned (.tuple #[.slice (some ⟨g, 0, none⟩) 512 512, .int .i64 0]) ∧ Below w.heap.size w w' ∧ w'.heap[g]? = some (.cells (bvs b).toArray 67 (0, 0)) := by
  subst hb
  refine (ds_read n w h).mono ?_
  rintro e w' ⟨v, he, hbw, ⟨hn, _⟩ | ⟨_, g, _, rfl, hc⟩⟩
  · exact absurd hl hn
  · rw [hl] at he
    exact ⟨g, he, hbw, hc⟩
def wS1 : Dk := writeD (newS 4) 1 (pgF 1)
def wS2 : Dk := writeD wS1 1 (pgF 2)
def wS3 : Dk := writeD wS2 2 (pgF 3)
def wS4 : Dk := mendS wS3 [true] 2 1
theorem wE1 : writeE (newS 4) 1 (pgF 1) = 0 := by decide +kernel
theorem wE2 : writeE wS1 1 (pgF 2) = 0 := by decide +kernel
theorem wE3 : writeE wS2 2 (pgF 3) = 0 := by decide +kernel
theorem wL1 : lookP wS3 1 = 0 := by decide +kernel
theorem wL2 : lookP wS4 1 = 0 := by decide +kernel
theorem wL3 : lookP wS4 2 = 0 := by decide +kernel
theorem wR1 : (hasP wS3 1)[0]? = some 2 := by decide +kernel
theorem wR2 : (hasP wS4 1)[9]? = some 1 := by decide +kernel
theorem wR3 : (hasP wS4 2)[0]? = some 3 := by decide +kernel
theorem wR4 : (hasP wS4 2)[1]? = some 0 := by decide +kernel
theorem pg_cell {W : World} {g : Nat} {b : List Int} (h : W.heap[g]? = some (.cells (bvs b).toArray 67 (0, 0))) {i : Nat} {x : Int} (hx : b[i]? = some x) : W.cell? ⟨g, i, none⟩ = some (.int .u8 x) :=
  (blk_cell h i).trans (by simp [bvs, hx])
theorem c_bools {W : World} {g : Nat} {t : TypeId} {p : List Bool} (h : W.heap[g]? = some (.cells (p.map Value.bool).toArray t (0, 0))) (hl : p.length ≤ 9223372036854775807) : Kd.C Kd.bool W (some ⟨g, 0, none⟩) p.length p := by
  refine ⟨rfl, hl, fun _ => ⟨⟨g, 0, none⟩, rfl, fun j x hj => ⟨[.bool x], rfl, rfl, fun i u hi => ?_⟩⟩⟩
  cases i with
  | zero =>
    obtain rfl : Value.bool x = u := by simpa using hi
    show W.cell? ((⟨g, 0, none⟩ : Addr).add (j * 1 + 0)) = _
    rw [Addr.add_mid, Nat.zero_add, Nat.mul_one, Nat.add_zero]
    refine (blk_cell h j).trans ?_
    simp [hj]
  | succ i => simp at hi
theorem mend_w {base d C : Nat} {s : Dk} (w : World) (h : DS w base d s C) :
    Calls Try.prog 14 #[.pointer (some ⟨d, 0, none⟩), .slice (some ⟨w.heap.size, 0, none⟩) 1 1, .int .i64 2, .int .i64 1] (w.alloc (.cells #[.bool true] 4)) fun e w' => (∃ u, e = .returned u) ∧ DS w' base d (mendS s [true] 2 1) C ∧ TF base (w.alloc (.cells #[.bool true] 4)) w' :=
  ds_mend (some ⟨w.heap.size, 0, none⟩) 1 [true] 2 1 _ (h.step (below_alloc (Below.refl _ _) _)) (c_bools (p := [true]) (Deep.blk_alloc_new w _) (by decide))
set_option maxHeartbeats 4000000 in
set_option maxRecDepth 100000 in
theorem works_calls (w : World) : Calls Try.prog 9 #[] w fun e w' => e = .returned (.bool true) ∧ Below w.heap.size w w' := by
  have hn := ds_new 4 (by decide) (by decide) w
  obtain ⟨r1, h1⟩ : ∃ r1, r1 = hasP wS3 1 := ⟨_, rfl⟩
  obtain ⟨r2, h2⟩ : ∃ r2, r2 = hasP wS4 1 := ⟨_, rfl⟩
  obtain ⟨r3, h3⟩ : ∃ r3, r3 = hasP wS4 2 := ⟨_, rfl⟩
  have H1 := Aside0.mk h1
  have H2 := Aside0.mk h2
  have H3 := Aside0.mk h3
  clear h1 h2 h3
  go_enter Try.func9, Try.ntmps9
  go_upto_region 4 with (go_at_call 10; refine hn.mono ?_; rintro e w1 ⟨d, rfl, hs, hb⟩; have HS := Aside0.mk hs; have HB := Aside0.mk hb; clear hs hb hn)
  go_upto_region 5 with (first
    | (go_at_call 11; (with_reducible refine (page_fill 1 _).mono ?_); rintro e w2 ⟨v3, rfl, ho, hb⟩; have HO1 := Aside0.mk ho; have HS1 := Aside0.mk (HS.out.step hb); have HB1 := Aside0.mk (below_step HB.out hb); clear ho hb HS HB)
    | (go_at_call 11; (with_reducible refine (page_fill 2 _).mono ?_); rintro e w3 ⟨v4, rfl, ho, hb⟩; have HO2 := Aside0.mk ho; have HO1b := Aside0.mk (Kd.R_below HO1.out hb); have HS2 := Aside0.mk (HS1.out.step hb); have HB2 := Aside0.mk (below_step HB1.out hb); clear ho hb HS1 HB1 HO1)
    | (go_at_call 11; (with_reducible refine (page_fill 3 _).mono ?_); rintro e w4 ⟨v5, rfl, ho, hb⟩; have HO3 := Aside0.mk ho; have HO1c := Aside0.mk (Kd.R_below HO1b.out hb); have HO2c := Aside0.mk (Kd.R_below HO2.out hb); have HS3 := Aside0.mk (HS2.out.step hb); have HB3 := Aside0.mk (below_step HB2.out hb); clear ho hb HS2 HB2 HO1b HO2))
  go_upto_region 7 with (first
    | (go_at_call 12; (with_reducible refine (ds_write0 1 v3 (pgF 1) wE1 _ HS3.out (by decide) HO1c.out).mono ?_); rintro e w5 ⟨rfl, hs, ht⟩; have HS4 := Aside0.mk hs; have HO2d := Aside0.mk (R5_tf HO2c.out ht); have HO3d := Aside0.mk (R5_tf HO3.out ht); have HB4 := Aside0.mk (HB3.out.trans ht.b); clear hs ht HS3 HB3 HO2c HO3 HO1c)
    | (go_at_call 12; (with_reducible refine (ds_write0 1 v4 (pgF 2) wE2 _ HS4.out (by decide) HO2d.out).mono ?_); rintro e w6 ⟨rfl, hs, ht⟩; have HS5 := Aside0.mk hs; have HO3e := Aside0.mk (R5_tf HO3d.out ht); have HB5 := Aside0.mk (HB4.out.trans ht.b); clear hs ht HS4 HB4 HO2d HO3d)
    | (go_at_call 12; (with_reducible refine (ds_write0 2 v5 (pgF 3) wE3 _ HS5.out (by decide) HO3e.out).mono ?_); rintro e w7 ⟨rfl, hs, ht⟩; have HS6 := Aside0.mk hs; have HB6 := Aside0.mk (HB5.out.trans ht.b); clear hs ht HS5 HB5 HO3e))
  go_upto_region 8 with (go_at_call 15; (with_reducible refine (ds_read0 1 wL1 r1 H1.out.symm _ HS6.out).mono ?_); rintro e w8 ⟨g1, rfl, hb, hc⟩; have HS7 := Aside0.mk (HS6.out.step hb); have HB7 := Aside0.mk (below_step HB6.out hb); have HC1 := Aside0.mk hc; clear hb hc HS6 HB6)
  go_upto_region 9 with (go_at_call 14; (with_reducible refine (mend_w _ HS7.out).mono ?_); rintro e w9 ⟨⟨u, rfl⟩, hs, ht⟩; have HS8 := Aside0.mk hs; have HB8 := Aside0.mk ((below_alloc HB7.out (.cells #[.bool true] 4)).trans (ht.b)); have HC2 := Aside0.mk (ht.blk _ _ _ _ (blk_alloc HC1.out _) (by decide) (by decide)); clear hs ht HS7 HB7)
  go_upto_region 10 with (go_at_call 15; (with_reducible refine (ds_read0 1 wL2 r2 H2.out.symm _ HS8.out).mono ?_); rintro e w10 ⟨g2, rfl, hb, hc⟩; have HS9 := Aside0.mk (HS8.out.step hb); have HB9 := Aside0.mk (below_step HB8.out hb); have HC3 := Aside0.mk (blk_below HC2.out hb); have HC4 := Aside0.mk hc; clear hb hc HS8 HB8)
  go_upto_region 11 with (go_at_call 15; (with_reducible refine (ds_read0 2 wL3 r3 H3.out.symm _ HS9.out).mono ?_); rintro e w11 ⟨g3, rfl, hb, hc⟩; have HB10 := Aside0.mk (below_step HB9.out hb); have HC5 := Aside0.mk (blk_below HC3.out hb); have HC6 := Aside0.mk (blk_below HC4.out hb); have HC7 := Aside0.mk hc; clear hb hc HS9 HB9)
  have z1 := pg_cell HC5.out (i := 0) (x := 2) (by rw [H1.out]; exact wR1)
  have z2 := pg_cell HC6.out (i := 9) (x := 1) (by rw [H2.out]; exact wR2)
  have z3 := pg_cell HC7.out (i := 0) (x := 3) (by rw [H3.out]; exact wR3)
  have z4 := pg_cell HC7.out (i := 1) (x := 0) (by rw [H3.out]; exact wR4)
  go_wp2
  go_ret
  exact ⟨by simp, HB10.out⟩
end Go.Proofs.Ytehgbikleiaagaa.P
end
section
namespace Go.Proofs.Ytehgbikleiaagaa.P
open Go.RowKit Go.Proofs.YtehgbikleiaagaaW.PrintWords Go.Proofs.YtehgbikleiaagaaW.PrintLast Go.Proofs.YtehgbikleiaagaaW.PrintMore
set_option linter.unusedVariables false
set_option linter.unusedSimpArgs false
structure S32 where
  f0 : Int
  f1 : Int
  f2 : Int
  f3 : List Int
  f4 : Bool
  f5 : List Bool
  f6 : Int
  f7 : Int
def z32 : S32 := ⟨0, 0, 0, [], false, [], 0, 0⟩
def k32 : Kd S32 := Kd.iso (Kd.pair (Kd.int .i64) (Kd.pair (Kd.int .i64) (Kd.pair (Kd.int .u8) (Kd.pair (Kd.slice 5 (Kd.int .u8)) (Kd.pair Kd.bool (Kd.pair (Kd.slice 4 Kd.bool) (Kd.pair (Kd.int .i64) (Kd.int .i64)))))))) (fun x : S32 => (x.f0, x.f1, x.f2, x.f3, x.f4, x.f5, x.f6, x.f7))
theorem k32_open {w : World} {x : S32} {cs : List Value} (h : k32.K w x cs) : ∃ A3 c3 A5 c5, cs = [.int .i64 x.f0, .int .i64 x.f1, .int .u8 x.f2, .slice A3 x.f3.length c3, .bool x.f4, .slice A5 x.f5.length c5, .int .i64 x.f6, .int .i64 x.f7] ∧ x.f3.length ≤ c3 ∧ (Kd.int .u8).C w A3 x.f3.length x.f3 ∧ x.f5.length ≤ c5 ∧ Kd.bool.C w A5 x.f5.length x.f5 := by
  obtain ⟨_, _, rfl, rfl, ⟨_, _, rfl, rfl, ⟨_, _, rfl, rfl, ⟨_, _, rfl, ⟨A3, c3, rfl, l3, g3⟩, ⟨_, _, rfl, rfl, ⟨_, _, rfl, ⟨A5, c5, rfl, l5, g5⟩, ⟨_, _, rfl, rfl, rfl⟩⟩⟩⟩⟩⟩⟩ := h
  exact ⟨A3, c3, A5, c5, rfl, l3, g3, l5, g5⟩
theorem at_T32 {w : World} {A : Option Addr} {n : Nat} {xs : List S32} (h : Kd.C k32 w A n xs) (k : Nat) (h1 : k < n) (x : S32) (hx : x = xs.getD k z32) : ∃ ad A3 c3 A5 c5, A = some ad ∧ w.cell? (ad.add (k * 8)) = some (.int .i64 x.f0) ∧ w.cell? ⟨(ad.add (k * 8)).block, (ad.add (k * 8)).off + 1, none⟩ = some (.int .i64 x.f1) ∧ w.cell? ⟨(ad.add (k * 8)).block, (ad.add (k * 8)).off + 2, none⟩ = some (.int .u8 x.f2) ∧ w.cell? ⟨(ad.add (k * 8)).block, (ad.add (k * 8)).off + 3, none⟩ = some (.slice A3 x.f3.length c3) ∧ w.cell? ⟨(ad.add (k * 8)).block, (ad.add (k * 8)).off + 4, none⟩ = some (.bool x.f4) ∧ w.cell? ⟨(ad.add (k * 8)).block, (ad.add (k * 8)).off + 5, none⟩ = some (.slice A5 x.f5.length c5) ∧ w.cell? ⟨(ad.add (k * 8)).block, (ad.add (k * 8)).off + 6, none⟩ = some (.int .i64 x.f6) ∧ w.cell? ⟨(ad.add (k * 8)).block, (ad.add (k * 8)).off + 7, none⟩ = some (.int .i64 x.f7) ∧
    x.f3.length ≤ c3 ∧ (Kd.int .u8).C w A3 x.f3.length x.f3 ∧ x.f5.length ≤ c5 ∧ Kd.bool.C w A5 x.f5.length x.f5 := by
  obtain ⟨ad, c, e, _, hK, hc0⟩ := Kd.C_get h z32 (k : Int) (by omega) (by omega)
  rw [Int.toNat_natCast] at hK hc0
  rw [← hx] at hK
  obtain ⟨A3, c3, A5, c5, rfl, l3, g3, l5, g5⟩ := k32_open hK
  have hc : ∀ j u, [Value.int .i64 x.f0, .int .i64 x.f1, .int .u8 x.f2, .slice A3 x.f3.length c3, .bool x.f4, .slice A5 x.f5.length c5, .int .i64 x.f6, .int .i64 x.f7][j]? = some u → w.cell? (ad.add (k * 8 + j)) = some u := hc0
  exact ⟨ad, A3, c3, A5, c5, e, hc 0 _ rfl, by rw [← add_field _ _ 1 (by omega)]; exact hc 1 _ rfl, by rw [← add_field _ _ 2 (by omega)]; exact hc 2 _ rfl, by rw [← add_field _ _ 3 (by omega)]; exact hc 3 _ rfl, by rw [← add_field _ _ 4 (by omega)]; exact hc 4 _ rfl, by rw [← add_field _ _ 5 (by omega)]; exact hc 5 _ rfl, by rw [← add_field _ _ 6 (by omega)]; exact hc 6 _ rfl, by rw [← add_field _ _ 7 (by omega)]; exact hc 7 _ rfl, l3, g3, l5, g5⟩
end Go.Proofs.Ytehgbikleiaagaa.P
end
section
namespace Go.Proofs.Ytehgbikleiaagaa.P
open Go.RowKit Go.Proofs.YtehgbikleiaagaaW.PrintWords
def G30 (xs : List (Int)) : Prop := (∀ x ∈ xs, (Lit.int .u8 x).wf = true) ∧ xs.length * 1 ≤ 140737488351232
def m30 (xs : List (Int)) : Nat := (xs.map fun _ => 1).sum + 1
theorem open30 (fuel : Nat) : Opens.At Try.prog fuel (Kd.slice 5 (Kd.int .u8)) 30 G30 m30 :=
  Opens.slice_ Try.underlying30 (by kernel_rfl) (by kernel_rfl) (fun n _ => (Opens.int_ Try.underlying5))
def G23 (xs : List (Bool)) : Prop := (∀ x ∈ xs, True) ∧ xs.length * 1 ≤ 140737488351232
def m23 (xs : List (Bool)) : Nat := (xs.map fun _ => 1).sum + 1
theorem open23 (fuel : Nat) : Opens.At Try.prog fuel (Kd.slice 4 Kd.bool) 23 G23 m23 :=
  Opens.slice_ Try.underlying23 (by kernel_rfl) (by kernel_rfl) (fun n _ => (Opens.bool_ Try.underlying4))
def G32 (x : S32) : Prop := (Lit.int .i64 x.f0).wf = true ∧ (Lit.int .i64 x.f1).wf = true ∧ (Lit.int .u8 x.f2).wf = true ∧ G30 x.f3 ∧ True ∧ G23 x.f5 ∧ (Lit.int .i64 x.f6).wf = true ∧ (Lit.int .i64 x.f7).wf = true
def m32 (x : S32) : Nat := 1 + (1 + (1 + ((m30 x.f3) + (1 + ((m23 x.f5) + (1 + (1))))))) + 1
theorem open32 (fuel : Nat) : Opens.At Try.prog fuel k32 32 G32 m32 :=
  Opens.iso_ (fun x : S32 => (x.f0, x.f1, x.f2, x.f3, x.f4, x.f5, x.f6, x.f7)) (fun a => ⟨a.1, a.2.1, a.2.2.1, a.2.2.2.1, a.2.2.2.2.1, a.2.2.2.2.2.1, a.2.2.2.2.2.2.1, a.2.2.2.2.2.2.2⟩) (fun _ => rfl) (Opens.struct_ Try.underlying32 (fun n _ => Opens.cons_ (by kernel_rfl) (Opens.int_ Try.underlying3) (Opens.cons_ (by kernel_rfl) (Opens.int_ Try.underlying3) (Opens.cons_ (by kernel_rfl) (Opens.int_ Try.underlying5) (Opens.cons_ (by kernel_rfl) (open30 _) (Opens.cons_ (by kernel_rfl) (Opens.bool_ Try.underlying4) (Opens.cons_ (by kernel_rfl) (open23 _) (Opens.cons_ (by kernel_rfl) (Opens.int_ Try.underlying3) (Opens.last_ (by kernel_rfl) (by kernel_rfl) (Opens.int_ Try.underlying3))))))))))
def G22 (xs : List (S32)) : Prop := (∀ x ∈ xs, G32 x) ∧ xs.length * 96 ≤ 140737488351232
def m22 (xs : List (S32)) : Nat := (xs.map fun x => (m32 x)).sum + 1
theorem open22 (fuel : Nat) : Opens.At Try.prog fuel (Kd.slice 32 k32) 22 G22 m22 :=
  Opens.slice_ Try.underlying22 (by kernel_rfl) (by kernel_rfl) (fun n _ => (open32 _))
end Go.Proofs.Ytehgbikleiaagaa.P
end
section
namespace Go.Proofs.Ytehgbikleiaagaa.P
open Go.RowKit Go.Proofs.YtehgbikleiaagaaW.PrintWords Go.Proofs.YtehgbikleiaagaaW.PrintLast Go.Proofs.YtehgbikleiaagaaW.PrintMore
set_option linter.unusedVariables false
set_option linter.unusedSimpArgs false
def modU (m : Int) (a : Int) : Int := wrap64 ((IntKind.u64.wrap a).tmod m)
theorem modU_range (m : Int) (h0 : 0 < m) (h1 : m ≤ 1000) (a : Int) : 0 ≤ modU m a ∧ modU m a < m := by
  have hu : 0 ≤ IntKind.u64.wrap a := by
    have := IntKind.wrap_u64 a
    rw [this]
    omega
  have ht : (IntKind.u64.wrap a).tmod m = (IntKind.u64.wrap a) % m := Int.tmod_eq_emod_of_nonneg hu
  have h2 := Int.emod_nonneg (IntKind.u64.wrap a) (show m ≠ 0 by omega)
  have h3 := Int.emod_lt_of_pos (IntKind.u64.wrap a) h0
  unfold modU
  rw [ht]
  unfold wrap64
  omega
theorem lookP_ok' {s : Dk} {n : Int} (hd : s.down = false) (h0 : 0 ≤ n) (h1 : n < s.pages) : lookP s n = 0 := by
  unfold lookP
  rw [if_neg (by simp [hd]), if_neg (by omega)]
theorem hasP_last {s : Dk} {n : Int} (h : ∀ x ∈ s.cache, x.1 ≠ n) : hasP s n = s.last n := by
  unfold hasP
  rw [List.find?_eq_none.2 (fun x hx => by simpa using h x (List.mem_reverse.1 hx))]
end Go.Proofs.Ytehgbikleiaagaa.P
end
section
namespace Go.Proofs.Ytehgbikleiaagaa.P
open Go.RowKit Go.Proofs.YtehgbikleiaagaaW.PrintWords Go.Proofs.YtehgbikleiaagaaW.PrintLast Go.Proofs.YtehgbikleiaagaaW.PrintMore
attribute [local go_sem] max2_int min2_int max_two min_two max_three min_three max_four min_four
attribute [local go_sem] guard_ptr eql_ptr neq_ptr
set_option linter.unusedVariables false
set_option linter.unusedSimpArgs false
end Go.Proofs.Ytehgbikleiaagaa.P
end
section
namespace Go.Proofs.Ytehgbikleiaagaa.P
open Go.RowKit Go.Proofs.YtehgbikleiaagaaW.PrintWords Go.Proofs.YtehgbikleiaagaaW.PrintLast Go.Proofs.YtehgbikleiaagaaW.PrintMore
set_option linter.unusedVariables false
set_option linter.unusedSimpArgs false
set_option maxRecDepth 4000
theorem imageP_congr {s t : Dk} (h : ∀ n, hasP s n = hasP t n) (k : Nat) : imageP s k = imageP t k := by
  unfold imageP
  simp only [h]
theorem ds_image0 {base d C : Nat} {s : Dk} (m : Nat) (hm : s.pages = (m : Int)) (b : List Int) (hb : imageP s m = b) (L : Nat) (hL : m * 512 = L) (w : World) (h : DS w base d s C) :
    Calls Try.prog 21 #[.pointer (some ⟨d, 0, none⟩)] w fun e w' => ∃ g cap, e = .returned (.slice (some ⟨g, 0, none⟩) L cap) ∧ L ≤ cap ∧ Kd.R (Kd.int .u8) 5 w' w.heap.size (fun _ => True) (.slice (some ⟨g, 0, none⟩) L cap) b ∧ Below w.heap.size w w' := by
  subst hb hL
  have h1 := h.p1
  have hlen := imageP_len h.l512 (fun x hx => (h.c512 x hx).1) m
  refine (ds_image w h).mono ?_
  rintro e w' ⟨v, rfl, ho, hb⟩
  rw [hm, Int.toNat_natCast] at ho
  obtain ⟨g, cap, rfl, _, _, _⟩ := Kd.R_form ho (by rw [hlen]; omega)
  rw [hlen] at ho ⊢
  exact ⟨g, cap, rfl, (Kd.R_reads' ho).2.1, ho, hb⟩
theorem row_string {W : World} {b2 L : Nat} {A : Option Addr} {cap : Nat} {ok : Nat → Prop} {b : List Int} (ho : Kd.R (Kd.int .u8) 5 W b2 ok (.slice A L cap) b) : (convert 30 9 (.slice A L cap)).run Try.prog W = .ok (.string (strOfNums b)) W := by
  obtain ⟨h1, h2, h3⟩ := Kd.R_reads' ho
  rw [h1]
  exact Kd.C_string Try.underlying30 Try.underlying5 Try.underlying9 h3
end Go.Proofs.Ytehgbikleiaagaa.P
end
section
namespace Go.Proofs.Ytehgbikleiaagaa.P
open Go.RowKit Go.Proofs.YtehgbikleiaagaaW.PrintWords Go.Proofs.YtehgbikleiaagaaW.PrintLast Go.Proofs.YtehgbikleiaagaaW.PrintMore
attribute [local go_sem] max2_int min2_int max_two min_two max_three min_three max_four min_four
set_option linter.unusedVariables false
set_option linter.unusedSimpArgs false
theorem DS.setb {W : World} {base d C : Nat} {s : Dk} (h : DS W base d s C) {g : Nat} {cs : Array Value} {t : TypeId} {fr : Nat × Nat} (hb : W.heap[g]? = some (.cells cs t fr)) (h1 : t ≠ 64) (h2 : t ≠ 69) (i : Nat) (u : Value) : DS (W.setCell ⟨g, i, none⟩ u) base d s C := by
  obtain ⟨M, N, v, h, hc⟩ := h
  exact ⟨M, N, v, h.keep (Kp.set (S := fun k => k = g) W ⟨g, i, none⟩ u rfl) (fun k hk e => h.fd_typed hb h1 h2 (e ▸ hk)), hc⟩
end Go.Proofs.Ytehgbikleiaagaa.P
end
section
namespace Go.Proofs.Ytehgbikleiaagaa.P
open Go.RowKit Go.Proofs.YtehgbikleiaagaaW.PrintWords Go.Proofs.YtehgbikleiaagaaW.PrintLast Go.Proofs.YtehgbikleiaagaaW.PrintMore
set_option linter.unusedVariables false
set_option linter.unusedSimpArgs false
def PgV (W : World) (B : Nat) (u : Value) (p : List Int) : Prop := p.length = 512 ∧ ∃ (g c : Nat) (cs : Array Value), u = .slice (some ⟨g, 0, none⟩) 512 c ∧ B ≤ g ∧ W.heap[g]? = some (.cells cs 5 (0, 0)) ∧ ∀ (i : Nat) (x : Int), p[i]? = some x → cs[i]? = some (Value.int .u8 x)
def RowV (W : World) (B g : Nat) (v : Value) (xs : List (List Int)) : Prop := ∃ (off cap : Nat) (cells : Array Value), v = .slice (some ⟨g, off, none⟩) xs.length cap ∧ xs.length ≤ cap ∧ off + cap ≤ cells.size ∧ B ≤ g ∧ W.heap[g]? = some (.cells cells 30 (0, 0)) ∧
  ∀ (j : Nat) (p : List Int), xs[j]? = some p → ∃ u, cells[off + j]? = some u ∧ PgV W B u p
structure MayW (W : World) (B am n : Nat) (g : Nat → Nat) (v : Nat → Value) (xs : Nat → List (List Int)) : Prop where
  ba : B ≤ am
  blk : W.heap[am]? = some (.cells #[v 0, v 1, v 2] 51 (0, 0))
  row : ∀ k, k < n → RowV W B (g k) (v k) (xs k)
  apart : ∀ k j, k < n → j < n → k ≠ j → g k ≠ g j
def KeepT (W W' : World) : Prop := ∀ (b : Nat) (cs : Array Value) (t : TypeId) (fr : Nat × Nat), W.heap[b]? = some (Obj.cells cs t fr) → t ≠ 64 → t ≠ 69 → W'.heap[b]? = some (Obj.cells cs t fr)
theorem keepT_below {W W' : World} (h : Below W.heap.size W W') : KeepT W W' := fun b cs t fr hb _ _ => blk_below hb h
theorem keepT_tf {B : Nat} {W W' : World} (h : TF B W W') : KeepT W W' := h.blk
theorem PgV.keep {W W' : World} {B : Nat} {u : Value} {p : List Int} (h : PgV W B u p) (hk : KeepT W W') : PgV W' B u p := by
  obtain ⟨h0, g, c, cs, e, hb, hc, hx⟩ := h
  exact ⟨h0, g, c, cs, e, hb, hk _ _ _ _ hc (by decide) (by decide), hx⟩
theorem RowV.keep {W W' : World} {B g : Nat} {v : Value} {xs : List (List Int)} (h : RowV W B g v xs) (hk : KeepT W W') : RowV W' B g v xs := by
  obtain ⟨off, cap, cells, e, h1, h2, h4, hc, hx⟩ := h
  refine ⟨off, cap, cells, e, h1, h2, h4, hk _ _ _ _ hc (by decide) (by decide), fun j p hj => ?_⟩
  obtain ⟨u, hu, hp⟩ := hx j p hj
  exact ⟨u, hu, hp.keep hk⟩
theorem MayW.keep {W W' : World} {B am n : Nat} {g : Nat → Nat} {v : Nat → Value} {xs : Nat → List (List Int)} (h : MayW W B am n g v xs) (hk : KeepT W W') : MayW W' B am n g v xs :=
  ⟨h.ba, hk _ _ _ _ h.blk (by decide) (by decide), fun k hkn => (h.row k hkn).keep hk, h.apart⟩
theorem pgV_of {W : World} {B b cap : Nat} {ok : Nat → Prop} {A : Option Addr} {L : Nat} {p : List Int} (hp : p.length = 512) (ho : Kd.R (Kd.int .u8) 5 W b ok (.slice A L cap) p) (hB : B ≤ b) : PgV W B (.slice A L cap) p := by
  obtain ⟨g, c, e, hb, _, cells, hc⟩ := Kd.R_form ho (by omega)
  rw [hp] at e
  injection e with e1 e2 e3
  subst e1 e2 e3
  refine ⟨hp, g, cap, cells, rfl, Nat.le_trans hB hb, hc, fun i x hx => ?_⟩
  have hi : i < p.length := (List.getElem?_eq_some_iff.1 hx).1
  have := (Kd.R_celln 0 ho (i : Int) (by omega) (by omega)).1
  rw [Int.toNat_natCast, blk_cell hc i] at this
  rw [this]
  simp only [rdOf, Int.toNat_natCast, List.getD_eq_getElem?_getD, hx, Option.getD_some]
theorem DS.kp {W W' : World} {base d C : Nat} {s : Dk} {S : Nat → Prop} (h : DS W base d s C) (hk : Kp S W W') (hS : ∀ k, S k → ∃ (cs : Array Value) (t : TypeId) (fr : Nat × Nat), W.heap[k]? = some (Obj.cells cs t fr) ∧ t ≠ 64 ∧ t ≠ 69) : DS W' base d s C := by
  obtain ⟨M, N, v, h, hc⟩ := h
  refine ⟨M, N, v, h.keep hk (fun k hf hs => ?_), hc⟩
  obtain ⟨cs, t, fr, hb, h1, h2⟩ := hS k hs
  exact h.fd_typed hb h1 h2 hf
theorem info30 : (Try.prog.info? 30).map (fun i => (i.zero, i.size, i.bytes)) = some (some (.slice none 0 0), 1, 24) := by kernel_rfl
theorem RowV.append {W : World} {B g : Nat} {v : Value} {xs : List (List Int)} (h : RowV W B g v xs) (hx0 : 0 < xs.length) (hx1 : xs.length ≤ 1000) {bs : Nat} {u : Value} {p : List Int} (hu : PgV W B u p) (hb : W.heap[bs]? = some (.cells #[u] 30 (0, 0))) (hB : B ≤ W.heap.size) :
    ∃ v' W' g', (∀ ty, (Builtin.append_ #[50, 50] ty #[v, .slice (some ⟨bs, 0, none⟩) 1 1]).run Try.prog W = .ok v' W') ∧ RowV W' B g' v' (xs ++ [p]) ∧ (g' = g ∨ W.heap.size ≤ g') ∧ Kp (fun k => k = g) W W' ∧
      (∀ b cs t fr, W.heap[b]? = some (Obj.cells cs t fr) → b ≠ g → W'.heap[b]? = some (Obj.cells cs t fr)) := by
  obtain ⟨off, cap, cells, rfl, h1, h2, h4, hc, hx⟩ := h
  have hi := info30
  cases hif : Try.prog.info? 30 with
  | none => rw [hif] at hi; cases hi
  | some it =>
    rw [hif] at hi
    simp only [Option.map_some, Option.some.injEq, Prod.mk.injEq] at hi
    obtain ⟨i1, i2, i3⟩ := hi
    obtain ⟨hpl, gp, cp, csp, eu, hBp, hgp, hbp⟩ := hu
    have hone : u.oneCell' = true := by rw [eu]; rfl
    have hgsz : g < W.heap.size := blk_lt hc
    have hnews : ∀ j z, [u][j]? = some z → W.cell? ((⟨bs, 0, none⟩ : Addr).add j) = some z := fun j z hj => by
      rw [Addr.add_mid, Nat.zero_add]
      refine (blk_cell hb j).trans ?_
      simpa using hj
    by_cases hroom : xs.length + 1 ≤ cap
    · have hlt : off + xs.length < cells.size := by omega
      have hrun := fun ty => run_append_room_cells (P := Try.prog) W 50 ty 30 it Try.underlying50 hif g off xs.length cap ⟨bs, 0, none⟩ 1 1 [u] (by rw [i2]; rfl) hnews (fun z hz => by rw [List.mem_singleton.1 hz]; exact hone) hroom
        (fun j hj => by
          have : j = 0 := by simpa using hj
          subst this
          rw [i2, Nat.mul_one, Nat.add_zero, blk_cell hc (off + xs.length), Array.getElem?_eq_getElem hlt]
          rfl) (fun j hj => blk_frozen hc _)
      rw [i2, Nat.mul_one] at hrun
      have hset : W.setCells g (off + xs.length) [u] = W.setCell ⟨g, off + xs.length, none⟩ u := rfl
      rw [hset] at hrun
      have hkp : Kp (fun k => k = g) W (W.setCell ⟨g, off + xs.length, none⟩ u) := Kp.set (S := fun k => k = g) W ⟨g, off + xs.length, none⟩ u rfl
      have hblk : (W.setCell ⟨g, off + xs.length, none⟩ u).heap[g]? = some (.cells (cells.setIfInBounds (off + xs.length) u) 30 (0, 0)) := blk_put hc _ u rfl
      have hoth : ∀ b cs t fr, W.heap[b]? = some (Obj.cells cs t fr) → b ≠ g → (W.setCell ⟨g, off + xs.length, none⟩ u).heap[b]? = some (Obj.cells cs t fr) := fun b cs t fr hbb hne => (Below.heap_setCell W _ u b hne).trans hbb
      have hpg : ∀ z q, PgV W B z q → PgV (W.setCell ⟨g, off + xs.length, none⟩ u) B z q := fun z q ⟨q0, gq, cq, csq, eq, hBq, hgq, hbq⟩ =>
        ⟨q0, gq, cq, csq, eq, hBq, hoth gq csq 5 (0, 0) hgq (fun e => by rw [e, hc] at hgq; cases hgq), hbq⟩
      refine ⟨_, _, g, hrun, ⟨off, cap, _, by rw [List.length_append]; rfl, by rw [List.length_append]; exact hroom, by rw [Array.size_setIfInBounds]; exact h2, h4, hblk, fun j q hj => ?_⟩, .inl rfl, hkp, hoth⟩
      by_cases hjl : j < xs.length
      · rw [List.getElem?_append_left hjl] at hj
        obtain ⟨z, hz, hq⟩ := hx j q hj
        exact ⟨z, by rw [Array.getElem?_setIfInBounds_ne (by omega)]; exact hz, hpg z q hq⟩
      · have hjx : j = xs.length := by
          have := (List.getElem?_eq_some_iff.1 hj).1
          simp at this
          omega
        subst hjx
        have : q = p := by simpa using hj.symm
        subst this
        exact ⟨u, by rw [Array.getElem?_setIfInBounds_self, if_pos hlt], hpg u q ⟨hpl, gp, cp, csp, eu, hBp, hgp, hbp⟩⟩
    · have hcapx : cap = xs.length := by omega
      obtain ⟨olds, holds⟩ : ∃ olds, olds = (cells.toList.drop off).take xs.length := ⟨_, rfl⟩
      have hol : olds.length = xs.length := by
        have hcl : cells.toList.length = cells.size := Array.length_toList
        rw [holds, List.length_take, List.length_drop, hcl]
        omega
      have hoc : ∀ j z, olds[j]? = some z → W.cell? ((⟨g, off, none⟩ : Addr).add j) = some z := fun j z hj => by
        rw [Addr.add_mid]
        refine (blk_cell hc (off + j)).trans ?_
        rw [holds, List.getElem?_take, List.getElem?_drop] at hj
        split at hj
        · simpa using hj
        · cases hj
      have hfit : Builtin.nextslicecap (xs.length + 1) cap * it.bytes ≤ 281474976710656 := by
        rw [i3]
        exact growslice_fits (by omega) (by omega)
      have hrun := fun ty => run_append_grow (P := Try.prog) W 50 ty 30 it (.slice none 0 0) Try.underlying50 hif i1 ⟨g, off, none⟩ xs.length cap olds (by rw [i2, Nat.mul_one]; exact hol) hoc ⟨bs, 0, none⟩ 1 1 [u] (by rw [i2]; rfl) hnews (by omega) (by omega) hfit
      have hge := grownCap_ge W (xs.length + 1) cap 30
      obtain ⟨G, hG⟩ : ∃ G, G = grownCap W (xs.length + 1) cap 30 := ⟨_, rfl⟩
      rw [← hG] at hrun hge
      have hbel : Below W.heap.size W (W.drew.alloc (.cells (olds.toArray ++ [u].toArray ++ Builtin.zeroCells (Value.slice none 0 0).cells (G - (xs.length + 1))) 30)) := below_alloc (below_drew1 (Below.refl _ _)) _
      have hnew := Deep.blk_alloc_new W.drew (.cells (olds.toArray ++ [u].toArray ++ Builtin.zeroCells (Value.slice none 0 0).cells (G - (xs.length + 1))) 30)
      have hz : (Value.slice none 0 0).cells.size = 1 := rfl
      refine ⟨_, _, W.heap.size, hrun, ⟨0, G, _, by rw [List.length_append]; rfl, by rw [List.length_append]; exact hge, ?_, hB, hnew, fun j q hj => ?_⟩, .inr (Nat.le_refl _), Kp.of_below hbel, fun b cs t fr hbb _ => blk_below hbb hbel⟩
      · simp only [Array.size_append, List.size_toArray, size_zeroCells, hz, hol, List.length_cons, List.length_nil]
        omega
      · rw [Nat.zero_add]
        by_cases hjl : j < xs.length
        · rw [List.getElem?_append_left hjl] at hj
          obtain ⟨z, hz, hq⟩ := hx j q hj
          refine ⟨z, ?_, hq.keep (keepT_below hbel)⟩
          rw [Array.getElem?_append_left (by simp [hol]; omega), Array.getElem?_append_left (by simp [hol]; exact hjl)]
          rw [List.getElem?_toArray, holds, List.getElem?_take, if_pos hjl, List.getElem?_drop]
          simpa using hz
        · have hjx : j = xs.length := by
            have := (List.getElem?_eq_some_iff.1 hj).1
            simp at this
            omega
          subst hjx
          have : q = p := by simpa using hj.symm
          subst this
          refine ⟨u, ?_, PgV.keep ⟨hpl, gp, cp, csp, eu, hBp, hgp, hbp⟩ (keepT_below hbel)⟩
          rw [Array.getElem?_append_left (by simp [hol]), Array.getElem?_append_right (by simp [hol])]
          simp [hol]
end Go.Proofs.Ytehgbikleiaagaa.P
end
section
namespace Go.Proofs.Ytehgbikleiaagaa.P
open Go.RowKit Go.Proofs.YtehgbikleiaagaaW.PrintWords Go.Proofs.YtehgbikleiaagaaW.PrintLast Go.Proofs.YtehgbikleiaagaaW.PrintMore
set_option linter.unusedVariables false
set_option linter.unusedSimpArgs false
set_option maxRecDepth 4000
def mayP (s : Dk) (n : Int) : List (List Int) := s.last n :: (s.cache.filter (fun x => decide (x.1 = n))).map (·.2)
theorem mayP_pos (s : Dk) (n : Int) : 0 < (mayP s n).length := by simp [mayP]
theorem mayP_le (s : Dk) (n : Int) : (mayP s n).length ≤ s.cache.length + 1 := by
  unfold mayP
  rw [List.length_cons, List.length_map]
  have := List.length_filter_le (fun x => decide (x.1 = n)) s.cache
  omega
theorem mayP_congr {s t : Dk} (h1 : s.last = t.last) (h2 : s.cache = t.cache) (n : Int) : mayP s n = mayP t n := by unfold mayP; rw [h1, h2]
theorem write_way {s : Dk} {q : Int} {b : List Int} : (writeE s q b = 0 ∧ (writeD s q b).last = s.last ∧ (writeD s q b).cache = s.cache ++ [(q, b)]) ∨ (writeE s q b ≠ 0 ∧ (writeD s q b).last = s.last ∧ (writeD s q b).cache = s.cache) := by
  unfold writeE writeD
  by_cases h1 : lookP s q ≠ 0
  · rw [if_pos h1, if_pos h1]
    exact .inr ⟨h1, rfl, rfl⟩
  · rw [if_neg h1, if_neg h1]
    by_cases h2 : b.length ≠ 512
    · rw [if_pos h2, if_pos h2]
      exact .inr ⟨by decide, rfl, rfl⟩
    · rw [if_neg h2, if_neg h2]
      by_cases h3 : s.left = 0
      · rw [if_pos h3, if_pos h3]
        exact .inr ⟨by decide, stepS_last s, stepS_cache s⟩
      · rw [if_neg h3, if_neg h3]
        exact .inl ⟨rfl, stepS_last s, rfl⟩
theorem write_pages (s : Dk) (q : Int) (b : List Int) : (writeD s q b).pages = s.pages := by
  unfold writeD
  split
  · rfl
  · split
    · rfl
    · split
      · exact stepS_pages s
      · exact stepS_pages s
theorem sync_pages (s : Dk) : (syncD s).pages = s.pages := by
  unfold syncD
  split
  · rfl
  · split
    · exact stepS_pages s
    · exact stepS_pages s
theorem mayP_write {s t : Dk} {q : Int} {b : List Int} (h1 : t.last = s.last) (h2 : t.cache = s.cache ++ [(q, b)]) (n : Int) : mayP t n = if n = q then mayP s n ++ [b] else mayP s n := by
  unfold mayP
  rw [h1, h2, List.filter_append, List.map_append]
  by_cases h : n = q
  · rw [if_pos h, List.filter_cons, if_pos (by simp [h])]
    simp
  · rw [if_neg h, List.filter_cons, if_neg (by simp; exact fun e => h e.symm)]
    simp
theorem lastS_may (s : Dk) (n : Int) : ∀ k, k ≤ s.cache.length → lastS s k n = (s.last n :: ((s.cache.take k).filter (fun x => decide (x.1 = n))).map (·.2)).getLastD [] := by
  intro k
  induction k with
  | zero => intro _; simp [lastS]
  | succ k ih =>
    intro hk
    rw [lastS_succ (by omega), List.take_add_one, List.getElem?_eq_getElem (by omega), Option.toList_some, List.filter_append, List.map_append]
    unfold upd
    by_cases h : n = (s.cache[k]'(by omega)).1
    · rw [if_pos h, List.filter_cons, if_pos (by simp [h])]
      simp only [List.filter_nil, List.map_cons, List.map_nil]
      rw [← List.cons_append, List.getLastD_concat]
    · rw [if_neg h, ih (by omega), List.filter_cons, if_neg (by simp; exact fun e => h e.symm)]
      simp
theorem lastS_all (s : Dk) (n : Int) : lastS s s.cache.length n = (mayP s n).getLastD [] := by
  rw [lastS_may s n _ (Nat.le_refl _), List.take_length]
  rfl
theorem sync_way {s : Dk} : (syncE s = 0 ∧ ∀ n, mayP (syncD s) n = [(mayP s n).getLastD []]) ∨ (syncE s ≠ 0 ∧ ∀ n, mayP (syncD s) n = mayP s n) := by
  unfold syncE syncD
  by_cases h1 : s.down = true
  · rw [if_pos h1, if_pos h1]
    exact .inr ⟨by decide, fun _ => rfl⟩
  · rw [if_neg h1, if_neg h1]
    by_cases h2 : s.left = 0
    · rw [if_pos h2, if_pos h2]
      exact .inr ⟨by decide, fun n => mayP_congr (stepS_last s) (stepS_cache s) n⟩
    · rw [if_neg h2, if_neg h2]
      refine .inl ⟨rfl, fun n => ?_⟩
      rw [← lastS_all]
      rfl
theorem hasP_last_all (s : Dk) (n : Int) : hasP s n = lastS s s.cache.length n := by
  unfold hasP lastS
  rw [List.take_length]
  have key : ∀ (l : List (Int × List Int)) (f : Int → List Int), (match l.find? (fun x => decide (x.1 = n)) with | some x => x.2 | none => f n) = (l.reverse.foldl (fun f x => upd f x.1 x.2) f) n := by
    intro l
    induction l with
    | nil => intro f; rfl
    | cons x l ih =>
      intro f
      rw [List.reverse_cons, List.foldl_append, List.find?_cons]
      simp only [List.foldl_cons, List.foldl_nil]
      by_cases h : x.1 = n
      · have : decide (x.1 = n) = true := decide_eq_true h
        simp only [this]
        unfold upd
        rw [if_pos h.symm]
      · have : decide (x.1 = n) = false := decide_eq_false h
        simp only [this]
        unfold upd
        rw [if_neg (fun e => h e.symm)]
        exact ih f
  have := key s.cache.reverse s.last
  rw [List.reverse_reverse] at this
  exact this
theorem mend_bytes (s : Dk) (keep : List Bool) (torn cut : Int) (hl : ∀ i, (s.last i).length = 512) (hc : ∀ x ∈ s.cache, x.2.length = 512) (n : Int) (i : Nat) (hi : i < 512) : ∀ k, k ≤ s.cache.length →
    ∃ p ∈ (s.last n :: ((s.cache.take k).filter (fun x => decide (x.1 = n))).map (·.2)), (mendL s keep torn cut k n).getD i 0 = p.getD i 0 := by
  intro k
  induction k with
  | zero => intro _; exact ⟨s.last n, by simp, by simp [mendL]⟩
  | succ k ih =>
    intro hk
    obtain ⟨p, hp, he⟩ := ih (by omega)
    have hmono : p ∈ (s.last n :: ((s.cache.take (k + 1)).filter (fun x => decide (x.1 = n))).map (·.2)) := by
      rw [List.take_add_one, List.filter_append, List.map_append, ← List.cons_append]
      exact List.mem_append_left _ hp
    rw [mendL_succ (by omega)]
    unfold upd
    by_cases h : n = (s.cache[k]'(by omega)).1
    · rw [if_pos h, ← h]
      unfold over
      have hb5 : (s.cache[k]'(by omega)).2.length = 512 := hc _ (List.getElem_mem (by omega))
      have hm5 := mendYtehgbikleiaagaale keep torn cut k
      by_cases hin : i < mendN keep torn cut k
      · refine ⟨(s.cache[k]'(by omega)).2, ?_, ?_⟩
        · rw [List.take_add_one, List.getElem?_eq_getElem (by omega), Option.toList_some, List.filter_append, List.map_append, List.filter_cons, if_pos (by simp [h])]
          simp
        · have e : ((s.cache[k]'(by omega)).2.take (mendN keep torn cut k) ++ (mendL s keep torn cut k n).drop (mendN keep torn cut k))[i]? = (s.cache[k]'(by omega)).2[i]? := by
            rw [List.getElem?_append_left (by rw [List.length_take]; omega), List.getElem?_take, if_pos hin]
          simp only [List.getD_eq_getElem?_getD, e]
      · refine ⟨p, hmono, ?_⟩
        have e : ((s.cache[k]'(by omega)).2.take (mendN keep torn cut k) ++ (mendL s keep torn cut k n).drop (mendN keep torn cut k))[i]? = (mendL s keep torn cut k n)[i]? := by
          have hlt : ((s.cache[k]'(by omega)).2.take (mendN keep torn cut k)).length = mendN keep torn cut k := by rw [List.length_take, hb5]; omega
          rw [List.getElem?_append_right (by rw [hlt]; omega), hlt, List.getElem?_drop]
          congr 1
          omega
        rw [← he]
        simp only [List.getD_eq_getElem?_getD, e]
    · rw [if_neg h]
      exact ⟨p, hmono, he⟩
theorem mend_has (s : Dk) (keep : List Bool) (torn cut : Int) (hl : ∀ i, (s.last i).length = 512) (hc : ∀ x ∈ s.cache, x.2.length = 512) (n : Int) (i : Nat) (hi : i < 512) :
    ((mayP s n).any fun p => (hasP (mendS s keep torn cut) n).getD i 0 == p.getD i 0) = true := by
  rw [hasP_last (fun x hx => by simp [mendS] at hx)]
  obtain ⟨p, hp, he⟩ := mend_bytes s keep torn cut hl hc n i hi s.cache.length (Nat.le_refl _)
  rw [List.take_length] at hp
  rw [List.any_eq_true]
  refine ⟨p, hp, ?_⟩
  show ((mendL s keep torn cut s.cache.length n).getD i 0 == p.getD i 0) = true
  rw [he]
  exact beq_self_eq_true _
theorem mend_all (s : Dk) (hl : ∀ i, (s.last i).length = 512) (hc : ∀ x ∈ s.cache, x.2.length = 512) (m : Nat) (hm : s.cache.length ≤ m) (n : Int) : hasP (mendS s (List.replicate m true) (-1) 0) n = hasP s n := by
  rw [hasP_last_all s n, hasP_last (fun x hx => by simp [mendS] at hx)]
  show mendL s (List.replicate m true) (-1) 0 s.cache.length n = _
  have key : ∀ k, k ≤ s.cache.length → mendL s (List.replicate m true) (-1) 0 k = lastS s k := by
    intro k
    induction k with
    | zero => intro _; rfl
    | succ k ih =>
      intro hk
      rw [mendL_succ (by omega), lastS_succ (by omega), ih (by omega)]
      congr 1
      have hn : mendN (List.replicate m true) (-1) 0 k = 512 := by
        unfold mendN
        have h1 : ¬ ((k : Int) = -1) := by omega
        have h2 : (List.replicate m true).getD k false = true := by
          rw [List.getD_eq_getElem?_getD, List.getElem?_replicate, if_pos (by omega)]
          rfl
        rw [if_neg h1, if_pos h2]
      have hb5 : (s.cache[k]'(by omega)).2.length = 512 := hc _ (List.getElem_mem (by omega))
      have hl5 := lastS_len hl hc k (s.cache[k]'(by omega)).1
      rw [hn]
      unfold over
      rw [List.take_of_length_le (Nat.le_of_eq hb5), List.drop_eq_nil_of_le (Nat.le_of_eq hl5), List.append_nil]
  rw [key _ (Nat.le_refl _)]
end Go.Proofs.Ytehgbikleiaagaa.P
end
section
namespace Go.Proofs.Ytehgbikleiaagaa.P
open Go.RowKit Go.Proofs.YtehgbikleiaagaaW.PrintWords Go.Proofs.YtehgbikleiaagaaW.PrintLast Go.Proofs.YtehgbikleiaagaaW.PrintMore
set_option linter.unusedVariables false
set_option linter.unusedSimpArgs false
def KeepX (W W' : World) (x : Nat) : Prop := ∀ (b : Nat) (cs : Array Value) (t : TypeId) (fr : Nat × Nat), W.heap[b]? = some (Obj.cells cs t fr) → b ≠ x → W'.heap[b]? = some (Obj.cells cs t fr)
theorem PgV.keepX {W W' : World} {B x : Nat} {u : Value} {p : List Int} (h : PgV W B u p) (hk : KeepX W W' x) {cs : Array Value} {t : TypeId} {fr : Nat × Nat} (hx : W.heap[x]? = some (.cells cs t fr)) (ht : t ≠ 5) : PgV W' B u p := by
  obtain ⟨h0, g, c, ds, e, hb, hc, hy⟩ := h
  refine ⟨h0, g, c, ds, e, hb, hk _ _ _ _ hc (fun e => ?_), hy⟩
  rw [e, hx] at hc
  cases hc
  exact ht rfl
theorem RowV.keepX {W W' : World} {B g x : Nat} {v : Value} {xs : List (List Int)} (h : RowV W B g v xs) (hk : KeepX W W' x) {cs : Array Value} {t : TypeId} {fr : Nat × Nat} (hx : W.heap[x]? = some (.cells cs t fr)) (ht : t ≠ 5) (hg : g ≠ x) : RowV W' B g v xs := by
  obtain ⟨off, cap, cells, e, h1, h2, h4, hc, hy⟩ := h
  refine ⟨off, cap, cells, e, h1, h2, h4, hk _ _ _ _ hc hg, fun j p hj => ?_⟩
  obtain ⟨u, hu, hp⟩ := hy j p hj
  exact ⟨u, hu, hp.keepX hk hx ht⟩
theorem RowV.typed {W : World} {B g : Nat} {v : Value} {xs : List (List Int)} (h : RowV W B g v xs) : ∃ cs, W.heap[g]? = some (.cells cs 30 (0, 0)) := by
  obtain ⟨off, cap, cells, e, h1, h2, h4, hc, hy⟩ := h
  exact ⟨cells, hc⟩
theorem keepX_set (W : World) (a : Addr) (u : Value) : KeepX W (W.setCell a u) a.block := fun b cs t fr hb hne => (Below.heap_setCell W a u b hne).trans hb
def putN {α : Type} (f : Nat → α) (k : Nat) (x : α) : Nat → α := fun j => if j = k then x else f j
theorem three_put (v : Nat → Value) (u : Value) : ∀ k, k < 3 → (#[v 0, v 1, v 2] : Array Value).setIfInBounds k u = #[putN v k u 0, putN v k u 1, putN v k u 2]
  | 0, _ => rfl
  | 1, _ => rfl
  | 2, _ => rfl
  | k + 3, h => by omega
theorem MayW.put {W : World} {B am n n' k gk : Nat} {g : Nat → Nat} {v : Nat → Value} {xs : Nat → List (List Int)} (h : MayW W B am n g v xs) (hk : k < 3) (hn : ∀ j, j < n' → j ≠ k → j < n) {u : Value} {ys : List (List Int)} (hr : RowV W B gk u ys) (hg : ∀ j, j < n' → j ≠ k → g j ≠ gk) :
    MayW (W.setCell ⟨am, k, none⟩ u) B am n' (putN g k gk) (putN v k u) (putN xs k ys) := by
  have hks := keepX_set W ⟨am, k, none⟩ u
  have hne : ∀ {x : Nat} {w : Value} {zs : List (List Int)}, RowV W B x w zs → x ≠ am := fun hw e => by
    obtain ⟨cs, hc⟩ := hw.typed
    rw [e, h.blk] at hc
    cases hc
  refine ⟨h.ba, (blk_put h.blk k u rfl).trans (by rw [three_put v u k hk]), fun j hj => ?_, fun i j hi hj hij => ?_⟩
  · unfold putN
    by_cases hjk : j = k
    · rw [if_pos hjk, if_pos hjk, if_pos hjk]
      exact hr.keepX hks h.blk (by decide) (hne hr)
    · rw [if_neg hjk, if_neg hjk, if_neg hjk]
      have hrj := h.row j (hn j hj hjk)
      exact hrj.keepX hks h.blk (by decide) (hne hrj)
  · unfold putN
    by_cases hik : i = k
    · rw [if_pos hik]
      by_cases hjk : j = k
      · exact absurd (hik.trans hjk.symm) hij
      · rw [if_neg hjk]
        exact fun e => hg j hj hjk e.symm
    · rw [if_neg hik]
      by_cases hjk : j = k
      · rw [if_pos hjk]
        exact hg i hi hik
      · rw [if_neg hjk]
        exact h.apart i j (hn i hi hik) (hn j hj hjk) hij
theorem MayW.cell {W : World} {B am n : Nat} {g : Nat → Nat} {v : Nat → Value} {xs : Nat → List (List Int)} (h : MayW W B am n g v xs) {k : Nat} (hk : k < 3) : W.cell? ⟨am, k, none⟩ = some (v k) ∧ W.frozen? ⟨am, k, none⟩ = false := by
  refine ⟨(blk_cell h.blk k).trans ?_, blk_frozen h.blk k⟩
  match k, hk with
  | 0, _ => rfl
  | 1, _ => rfl
  | 2, _ => rfl
  | k + 3, h => omega
theorem MayW.start (W : World) (d : DataW Unit) : MayW (W.alloc (.cells #[.slice none 0 0, .slice none 0 0, .slice none 0 0] 51)) W.heap.size W.heap.size 0 (fun _ => 0) (fun _ => .slice none 0 0) (fun _ => []) :=
  ⟨Nat.le_refl _, Deep.blk_alloc_new W _, fun k hk => absurd hk (Nat.not_lt_zero k), fun k j hk => absurd hk (Nat.not_lt_zero k)⟩
theorem rowV_one {W : World} {B b : Nat} {u : Value} {p : List Int} (hu : PgV W B u p) (hb : W.heap[b]? = some (.cells #[u] 30 (0, 0))) (hB : B ≤ b) : RowV W B b (.slice (some ⟨b, 0, none⟩) 1 1) [p] := by
  refine ⟨0, 1, #[u], rfl, Nat.le_refl _, Nat.le_refl _, hB, hb, fun j q hj => ?_⟩
  cases j with
  | zero =>
    obtain rfl : p = q := by simpa using hj
    exact ⟨u, rfl, hu⟩
  | succ j => simp at hj
theorem MayW.append {W : World} {B am k : Nat} {g : Nat → Nat} {v : Nat → Value} {xs : Nat → List (List Int)} (h : MayW W B am 3 g v xs) (hk : k < 3) (hx0 : 0 < (xs k).length) (hx1 : (xs k).length ≤ 1000) {bs : Nat} {u : Value} {p : List Int} (hu : PgV W B u p) (hb : W.heap[bs]? = some (.cells #[u] 30 (0, 0))) (hB : B ≤ W.heap.size) :
    ∃ v' W' g', (∀ ty, (Builtin.append_ #[50, 50] ty #[v k, .slice (some ⟨bs, 0, none⟩) 1 1]).run Try.prog W = .ok v' W') ∧ (∃ o c, v' = .slice o ((xs k).length + 1) c) ∧ W'.heap[am]? = W.heap[am]? ∧ MayW (W'.setCell ⟨am, k, none⟩ v') B am 3 (putN g k g') (putN v k v') (putN xs k (xs k ++ [p])) ∧ Kp (fun b => b = g k) W W' := by
  obtain ⟨v', W', g', hrun, hrow, hgg, hkp, hkx⟩ := (h.row k hk).append hx0 hx1 hu hb hB
  obtain ⟨cs, hc⟩ := (h.row k hk).typed
  have ham : am ≠ g k := fun e => by
    rw [← e, h.blk] at hc
    cases hc
  have hmay : ∀ j, j < 3 → j ≠ k → RowV W' B (g j) (v j) (xs j) := fun j hj hjk => (h.row j hj).keepX hkx hc (by decide) (h.apart j k hj hk hjk)
  have hblk : W'.heap[am]? = some (.cells #[v 0, v 1, v 2] 51 (0, 0)) := hkx _ _ _ _ h.blk ham
  have hlt : ∀ j, j < 3 → g j < W.heap.size := fun j hj => by
    obtain ⟨cs, hc⟩ := (h.row j hj).typed
    exact blk_lt hc
  have hgj : ∀ j, j < 3 → j ≠ k → g j ≠ g' := fun j hj hjk => by
    rcases hgg with e | e
    · rw [e]
      exact h.apart j k hj hk hjk
    · have := hlt j hj
      omega
  have hrow2 := hrow
  obtain ⟨o, c, ca, ev, _⟩ := hrow
  refine ⟨v', W', g', hrun, ⟨_, _, by rw [ev, List.length_append]; rfl⟩, hblk.trans h.blk.symm, ?_, hkp⟩
  have hks := keepX_set W' ⟨am, k, none⟩ v'
  have hne : ∀ {x : Nat} {w : Value} {zs : List (List Int)}, RowV W' B x w zs → x ≠ am := fun hw e => by
    obtain ⟨cs, hc⟩ := hw.typed
    rw [e, hblk] at hc
    cases hc
  refine ⟨h.ba, (blk_put hblk k v' rfl).trans (by rw [three_put v v' k hk]), fun j hj => ?_, fun i j hi hj hij => ?_⟩
  · unfold putN
    by_cases hjk : j = k
    · rw [if_pos hjk, if_pos hjk, if_pos hjk]
      exact hrow2.keepX hks hblk (by decide) (hne hrow2)
    · rw [if_neg hjk, if_neg hjk, if_neg hjk]
      have hrj := hmay j hj hjk
      exact hrj.keepX hks hblk (by decide) (hne hrj)
  · unfold putN
    by_cases hik : i = k
    · rw [if_pos hik]
      by_cases hjk : j = k
      · exact absurd (hik.trans hjk.symm) hij
      · rw [if_neg hjk]
        exact fun e => hgj j hj hjk e.symm
    · rw [if_neg hik]
      by_cases hjk : j = k
      · rw [if_pos hjk]
        exact hgj i hi hik
      · rw [if_neg hjk]
        exact h.apart i j hi hj hij
theorem RowV.last {W : World} {B g : Nat} {v : Value} {xs : List (List Int)} (h : RowV W B g v xs) (h0 : 0 < xs.length) : ∃ off cap, v = .slice (some ⟨g, off, none⟩) xs.length cap ∧ xs.length ≤ cap ∧ RowV W B g (.slice (some ⟨g, off + (xs.length - 1), none⟩) 1 (cap - (xs.length - 1))) [xs.getLastD []] := by
  obtain ⟨off, cap, cells, e, h1, h2, h4, hc, hy⟩ := h
  refine ⟨off, cap, e, h1, off + (xs.length - 1), cap - (xs.length - 1), cells, rfl, by simp; omega, by omega, h4, hc, fun j q hj => ?_⟩
  cases j with
  | zero =>
    have hq : xs.getLastD [] = q := by simpa using hj
    have hl : xs[xs.length - 1]? = some q := by
      rw [← hq, List.getLastD_eq_getLast?, List.getLast?_eq_getElem?, List.getElem?_eq_getElem (by omega)]
      rfl
    obtain ⟨u, hu, hp⟩ := hy _ _ hl
    exact ⟨u, by rw [Nat.add_zero]; exact hu, hp⟩
  | succ j => simp at hj
end Go.Proofs.Ytehgbikleiaagaa.P
end
section
namespace Go.Proofs.Ytehgbikleiaagaa.P
open Go.RowKit Go.Proofs.YtehgbikleiaagaaW.PrintWords Go.Proofs.YtehgbikleiaagaaW.PrintLast Go.Proofs.YtehgbikleiaagaaW.PrintMore
attribute [local go_sem] max2_int min2_int max_two min_two max_three min_three max_four min_four
attribute [local go_sem] guard_ptr eql_ptr neq_ptr
set_option linter.unusedVariables false
set_option linter.unusedSimpArgs false
theorem exec_convert {P : Program} {ρ : Operand → Value} {op : Oper} {w : World} {v : Value} (t1 t2 : TypeId) (x : Operand) (ho : op.op = .convert t1 t2 x) {vx : Value} (hx : ρ x = vx) (hv : (convert t1 t2 vx).run P w = .ok v w) : (execOp ρ op).run P w = .ok (.value v) w := by
  subst hx
  unfold execOp
  simp only [ho, Sem.run_bind, hv, Result.andThen_ok, Sem.run_pure]
end Go.Proofs.Ytehgbikleiaagaa.P
end
section
namespace Go.Proofs.Ytehgbikleiaagaa.P
open Go.RowKit Go.Proofs.YtehgbikleiaagaaW.PrintWords Go.Proofs.YtehgbikleiaagaaW.PrintLast Go.Proofs.YtehgbikleiaagaaW.PrintMore
set_option linter.unusedVariables false
set_option linter.unusedSimpArgs false
def DP (W : World) (bd d : Nat) (sd : Dk) (Cd : Nat) (bc c : Nat) (sc : Dk) (Cc : Nat) : Prop := ∃ M N v M2 N2 v2, DD W bd d M N v sd ∧ N + sd.cache.length ≤ Cd ∧ DD W bc c M2 N2 v2 sc ∧ N2 + sc.cache.length ≤ Cc ∧ (∀ k, FD d M v k → k < bc) ∧ bd ≤ bc
section
variable {w w' : World} {bd d Cd bc c Cc : Nat} {sd sc : Dk}
theorem DP.fst (h : DP w bd d sd Cd bc c sc Cc) : DS w bd d sd Cd := by
  obtain ⟨M, N, v, M2, N2, v2, h1, h2, h3, h4, h5, h6⟩ := h
  exact ⟨M, N, v, h1, h2⟩
theorem DP.snd (h : DP w bd d sd Cd bc c sc Cc) : DS w bc c sc Cc := by
  obtain ⟨M, N, v, M2, N2, v2, h1, h2, h3, h4, h5, h6⟩ := h
  exact ⟨M2, N2, v2, h3, h4⟩
theorem DP.step (h : DP w bd d sd Cd bc c sc Cc) (hb : Below w.heap.size w w') : DP w' bd d sd Cd bc c sc Cc := by
  obtain ⟨M, N, v, M2, N2, v2, h1, h2, h3, h4, h5, h6⟩ := h
  exact ⟨M, N, v, M2, N2, v2, h1.step hb, h2, h3.step hb, h4, h5, h6⟩
end
theorem dp_clone {base d C : Nat} {s : Dk} (w : World) (h : DS w base d s C) :
    Calls Try.prog 23 #[.pointer (some ⟨d, 0, none⟩)] w fun e w' => ∃ d', e = .returned (.pointer (some ⟨d', 0, none⟩)) ∧ DP w' base d s C w.heap.size d' s C ∧ Below w.heap.size w w' := by
  obtain ⟨M, N, v, h, hc⟩ := h
  refine (clone_calls w h).mono ?_
  rintro e w' ⟨d', M', v', he, hd, hb⟩
  exact ⟨d', he, ⟨M, N, v, M', N, v', h.step hb, hc, hd, hc, fun k hk => h.fd_lt hk, Nat.le_trans h.bd (Nat.le_of_lt h.lt)⟩, hb⟩
theorem dp_mend_c {bd d Cd bc c Cc : Nat} {sd sc : Dk} (A2 : Option Addr) (c3 : Nat) (keep : List Bool) (torn cut : Int) (w : World) (h : DP w bd d sd Cd bc c sc Cc) (hkr : Kd.C Kd.bool w A2 keep.length keep) :
    Calls Try.prog 14 #[.pointer (some ⟨c, 0, none⟩), .slice A2 keep.length c3, .int .i64 torn, .int .i64 cut] w fun e w' => (∃ u, e = .returned u) ∧ DP w' bd d sd Cd bc c (mendS sc keep torn cut) Cc ∧ TF bd w w' := by
  obtain ⟨M, N, v, M2, N2, v2, h1, h2, h3, h4, h5, h6⟩ := h
  have hkm : keep ≠ [] → ∀ a, A2 = some a → a.block ≠ M2 := by
    rintro hne a rfl e
    have hpos : 0 < keep.length := List.length_pos_iff.2 hne
    obtain ⟨ad, e1, hcell⟩ := Kd.at_bool hkr 0 (by omega) (by omega)
    injection e1 with e1
    subst e1
    obtain ⟨es, clock, hm⟩ := h3.mp.blk
    have hb : (a.add (0 : Int).toNat).block = M2 := by rw [← e]; unfold Addr.add; split <;> rfl
    unfold World.cell? at hcell
    rw [hb, hm] at hcell
    cases hcell
  refine (mend_calls A2 c3 keep torn cut w h3 hkr hkm).mono ?_
  rintro e w' ⟨he, hx, hm⟩
  refine ⟨he, ⟨M, N, v, M2, _, _, h1.keep hm.kp (fun k hk hs => ?_), h2, hx, by simpa [mendS] using h4, h5, h6⟩, (h3.tf hm).mono h6⟩
  have := h5 k hk
  have := h3.fd_base hs
  omega
theorem dp_mend_d {bd d Cd bc c Cc : Nat} {sd sc : Dk} (A2 : Option Addr) (c3 : Nat) (keep : List Bool) (torn cut : Int) (w : World) (h : DP w bd d sd Cd bc c sc Cc) (hkr : Kd.C Kd.bool w A2 keep.length keep) :
    Calls Try.prog 14 #[.pointer (some ⟨d, 0, none⟩), .slice A2 keep.length c3, .int .i64 torn, .int .i64 cut] w fun e w' => (∃ u, e = .returned u) ∧ DP w' bd d (mendS sd keep torn cut) Cd bc c sc Cc ∧ TF bd w w' := by
  obtain ⟨M, N, v, M2, N2, v2, h1, h2, h3, h4, h5, h6⟩ := h
  have hkm : keep ≠ [] → ∀ a, A2 = some a → a.block ≠ M := by
    rintro hne a rfl e
    have hpos : 0 < keep.length := List.length_pos_iff.2 hne
    obtain ⟨ad, e1, hcell⟩ := Kd.at_bool hkr 0 (by omega) (by omega)
    injection e1 with e1
    subst e1
    obtain ⟨es, clock, hm⟩ := h1.mp.blk
    have hb : (a.add (0 : Int).toNat).block = M := by rw [← e]; unfold Addr.add; split <;> rfl
    unfold World.cell? at hcell
    rw [hb, hm] at hcell
    cases hcell
  refine (mend_calls A2 c3 keep torn cut w h1 hkr hkm).mono ?_
  rintro e w' ⟨he, hx, hm⟩
  refine ⟨he, ⟨M, _, _, M2, N2, v2, hx, by simpa [mendS] using h2, h3.keep hm.kp (fun k hk hs => ?_), h4, fun k hk => ?_, h6⟩, h1.tf hm⟩
  · have := h5 k hs
    have := h3.fd_base hk
    omega
  · rcases hk with rfl | rfl | e
    · exact h5 _ (.inl rfl)
    · exact h5 _ (.inr (.inl rfl))
    · simp [Value.ownBlock] at e
end Go.Proofs.Ytehgbikleiaagaa.P
end

/- Laid by a program of this session out of its texts for the law PagerWhole, part 2. -/
import Derived.Shelf.SlMaps.Clone
import Derived.Lib.SliceRun
import Derived.Lib.Slices
import Derived.Laws.StructEq
import Derived.Laws.CopyRow
import Derived.Laws.CopyOwn
import Derived.Laws.Pointers
import Derived.Laws.Entries
import Derived.ArgAppend
import Derived.Lib.SlBytesConst
import Derived.Test.YtmjmichkkmmdcaaZPagerWhole1
section
namespace Go.Proofs.Ytmjmichkkmmdcaa.P
open Go.RowKit Go.Proofs.YtmjmichkkmmdcaaW.PrintWords Go.Proofs.YtmjmichkkmmdcaaW.PrintLast Go.Proofs.YtmjmichkkmmdcaaW.PrintMore
attribute [local go_sem] max2_int min2_int max_two min_two max_three min_three max_four min_four
set_option linter.unusedVariables false
set_option linter.unusedSimpArgs false
set_option maxRecDepth 100000
theorem Kp.wide {S S' : Nat → Prop} {a b : World} (h : Kp S a b) (hS : ∀ k, S k → S' k) : Kp S' a b := ⟨h.os, h.tape, h.output, h.size, fun k hk hn => h.block k hk (fun e => hn (hS k e))⟩
def SI (w2 : World) (M N : Nat) (s : Dk) (k : Nat) (W : World) : Prop := Kp (fun j => j = M) w2 W ∧ MP W M (N + k) (lastS s k)
theorem stepS_last' (s : Dk) (k : Nat) : lastS (stepS s) k = lastS s k := by unfold lastS; rw [stepS_cache, stepS_last]
theorem lastS_len {s : Dk} (hl : ∀ i, (s.last i).length = 512) (hc : ∀ x ∈ s.cache, x.2.length = 512) : ∀ k i, (lastS s k i).length = 512 := by
  intro k
  induction k with
  | zero => exact hl
  | succ k ih =>
    intro i
    by_cases hk : k < s.cache.length
    · rw [lastS_succ hk]
      unfold upd
      split
      · exact hc _ (List.getElem_mem hk)
      · exact ih i
    · have e : lastS s (k + 1) = lastS s k := by
        unfold lastS
        rw [List.take_of_length_le (by omega), List.take_of_length_le (by omega)]
      rw [e]
      exact ih i
set_option maxHeartbeats 4000000 in
set_option maxRecDepth 100000 in
theorem sync_ok {base d M N : Nat} {v : Value} {s : Dk} (hd : s.down = false) (hs : s.left ≠ 0) (w : World) (h : DD w base d M N v s) :
    Calls Try.prog 40 #[dp d] w fun e w' => e = .returned (.int .i64 0) ∧ DD w' base d M (N + s.cache.length) (.slice none 0 0) (syncS s) ∧ MV d M v (.slice none 0 0) w w' := by
  have hstep := step_calls w h
  rw [decide_eq_true hs] at hstep
  have c4 : w.cell? ⟨d, 4, none⟩ = some (.bool s.down) := (blk_cell h.blk 4).trans rfl
  rw [hd] at c4
  obtain ⟨xs, hxs⟩ := pes_of s.cache (fun x hx => (h.c512 x hx).1)
  have HC := Aside0.mk h.c512
  have HL5 := Aside0.mk h.l512
  have HP2 := Aside0.mk h.p2
  have HT := Aside0.mk h.tot
  obtain ⟨A, c, ev⟩ := Kd.R_slice h.row
  subst ev
  clear h hs hd
  unfold dp at hstep ⊢
  go_enter Try.func40, Try.ntmps40
  go_upto_region 3 with (go_at_call 48; refine hstep.mono ?_; rintro e w2 ⟨rfl, hd2, hm2⟩)
  have hlen : xs.length = s.cache.length := by rw [← hxs]; simp
  have HD := Aside0.mk hd2
  have HM := Aside0.mk hm2
  have hpes := pes_row hd2.row (by rw [hxs, stepS_cache])
  have HP := Aside0.mk hpes
  have c2 : w2.cell? ⟨d, 2, none⟩ = some (.slice A s.cache.length c) := (blk_cell hd2.blk 2).trans rfl
  have c1' := (blk_cell hd2.blk 1).trans rfl
  obtain ⟨zq, hzq⟩ : ∃ zq : Array Value, zq = (Value.int .i64 0 :: bvs pgZ).toArray := ⟨_, rfl⟩
  have hz9 : ∀ w, (zeroValue 98).run Try.prog w = .ok (.agg zq) w := fun w => by rw [hzq]; exact zero69 w
  have HQ := Aside0.mk (show zq.size = 513 by rw [hzq, List.size_toArray, List.length_cons, bvs_len, pgZ_len])
  have HSI := Aside0.mk (show SI w2 M N s 0 w2 from ⟨Kp.refl _ _, by rw [Nat.add_zero, ← stepS_last' s 0]; exact hd2.mp⟩)
  have HX := Aside0.mk hxs
  have HLn := Aside0.mk hlen
  clear hzq hd2 hm2 hpes hxs hlen c4 hstep
  go_wp2_with fail
  go_loopw [19] (fun v19 wr => ∃ k : Nat, v19 = .int .i64 (k : Int) ∧ k ≤ s.cache.length ∧ Aside0 (SI w2 M N s k wr)) (fun v19 _ => s.cache.length - (intOf v19).toNat)
  case atStart => exact ⟨0, rfl, Nat.zero_le _, HSI⟩
  case round =>
    clear HSI
    obtain ⟨k, rfl, hk, HS⟩ := hrel
    by_cases hlt : k < s.cache.length
    · have hkx : k < xs.length := by rw [HLn.out]; exact hlt
      obtain ⟨x, hx⟩ : ∃ x, x = xs.getD k zPE := ⟨_, rfl⟩
      have hxc : s.cache[k] = x.1 := by
        rw [hx, List.getD_eq_getElem?_getD, List.getElem?_eq_getElem hkx, Option.getD_some]
        have := HX.out
        simp only [← this, List.getElem_map]
      have HXC : Aside0 (lastS s (k + 1) = upd (lastS s k) x.1.1 x.1.2) := ⟨by rw [lastS_succ hlt, hxc]⟩
      have hx1 : 0 ≤ x.1.1 ∧ x.1.1 < s.pages := by rw [← hxc]; exact (HC.out _ (List.getElem_mem hlt)).2
      rcases HP.out with ⟨_, e⟩ | ⟨g, cap, e, hg, hcs⟩
      · rw [e] at hkx
        exact absurd hkx (Nat.not_lt_zero k)
      · injection e with eA eL ec
        clear eL
        subst eA ec
        have hgM : g ≠ M := fun e => by
          obtain ⟨es, clock, hm⟩ := HD.out.mp.blk
          have := hcs k hkx 0 (.int .i64 (xs.getD k zPE).1.1) rfl
          rw [e] at this
          simp [World.cell?, hm] at this
        have hld : (Instr.loadAt 98 (.pointer (some ⟨g, k * 513, none⟩))).run Try.prog wr = .ok (.agg (peV x.1).toArray) wr := by
          refine run_loadAt_mid wr g (k * 513) 98 _ _ (fun j u hj => ?_) Try.underlying98 rfl (by rw [s69]; exact (congrArg some (by have := sz_peV x; simpa using this)).symm)
          rw [hx] at hj
          exact (World.cell?_of_block (HS.out.1.block g hg (fun e => hgM e))).trans (hcs k hkx j u hj)
        have hst : (storeCells ⟨wr.heap.size, 0, none⟩ (peV x.1).toArray.toList 0).run Try.prog (wr.alloc (.cells zq 98)) = .ok () (wr.alloc (.cells (peV x.1).toArray 98)) :=
          run_storeCells_new wr 98 zq _ (by rw [s69]; exact (congrArg some (sz_peV x)).symm) (by rw [HQ.out]; exact (sz_peV x).symm) (one_peV _)
        have hsz5 : (peV x.1).toArray.size = 513 := sz_peV x
        have c1 : Aside0 (wr.cell? ⟨d, 1, none⟩ = some (.map (some M))) := ⟨(World.cell?_of_block (HS.out.1.block d HD.out.lt (fun e => HD.out.dM e))).trans c1'⟩
        have hW2 := Deep.blk_alloc_new wr (.cells (peV x.1).toArray 98)
        obtain ⟨W2, hW2e⟩ : ∃ W2, W2 = wr.alloc (.cells (peV x.1).toArray 98) := ⟨_, rfl⟩
        have HMP := Aside0.mk (HS.out.2.keep (W' := W2.drew) (by rw [hW2e]; exact Below.heap_alloc wr _ M HS.out.2.lt))
        have HK := Aside0.mk (And.intro hlt (And.intro hk hx1))
        generalize hpe : (peV x.1).toArray = pe at hld hst hW2 hW2e hsz5
        have HPE := Aside0.mk hpe
        have HW2 := Aside0.mk (And.intro hW2 hW2e)
        clear hW2 hW2e
        have b0 : decide (k < s.cache.length) = true := decide_eq_true hlt
        have b1 : decide ((k : Int) < (s.cache.length : Int)) = true := decide_eq_true (by omega)
        have b2 : (k < s.cache.length) = True := eq_true hlt
        have b3 : ((k : Int) < (s.cache.length : Int)) = True := eq_true (by omega)
        clear hpe hx hxc hx1 hcs hkx hlt hk
        go_upto_region 6 with (refine wp_load_eq 98 _ rfl hld ?_)
        rw [← HW2.out.2]
        have cd1 : W2.cell? ⟨d, 1, none⟩ = some (.map (some M)) := by rw [HW2.out.2]; exact (World.cell?_of_block (Below.heap_alloc wr _ d (Nat.lt_of_lt_of_le HD.out.lt HS.out.1.size))).trans c1.out
        have hW2 := HW2.out.1
        rw [← HW2.out.2] at hW2
        have cx0 : W2.cell? ⟨wr.heap.size, 0, none⟩ = some (.int .i64 x.1.1) := (blk_cell hW2 0).trans (by rw [← HPE.out]; rfl)
        have hl7 : Aside0 ((Instr.loadAt 91 (.pointer (some ⟨wr.heap.size, 1, none⟩))).run Try.prog W2.drew = .ok (.agg (bvs x.1.2).toArray) W2.drew) := ⟨by
          refine run_loadAt_mid W2.drew wr.heap.size 1 91 (bvs x.1.2) _ (fun j u hj => ?_) Try.underlying91 rfl (by rw [s67, bvs_len, x.2])
          refine (blk_cell (w := W2.drew) hW2 (1 + j)).trans ?_
          rw [← HPE.out, Nat.add_comm 1 j]
          simpa [peV] using hj⟩
        obtain ⟨W3, hmu0, hM3, hg3⟩ := HMP.out.store (by have := HT.out; have := HK.out.1; unfold maxLen; omega) (i := x.1.1) (by have := HK.out.2.2.1; omega) (by have := HK.out.2.2.2; have := HP2.out; omega) x.1.2
        have hmu := Aside0.mk hmu0
        have HE : Aside0 (SI w2 M N s (k + 1) W3) := ⟨(HS.out.1.trans (Kp.of_below (S := fun j => j = M) (by rw [HW2.out.2]; exact below_alloc (Below.refl _ _) _)) (fun _ _ e => e)).trans (Kp.grown (S := fun j => j = M) (a := W2) ⟨hg3.os, hg3.tape, hg3.output, hg3.size, hg3.block⟩ (fun j e => by injection e with e; exact e.symm)) (fun _ _ e => e), by rw [HXC.out]; exact hM3⟩
        clear hmu0 hM3 hg3 hW2 hld hst hsz5
        refine start_ (n := 9) (S := fun w' => w'.cell? ⟨d, 1, none⟩ = some (.map (some M)) ∧ w'.cell? ⟨wr.heap.size, 0, none⟩ = some (.int .i64 x.1.1)) (ds := [8]) #[false, false, false, false, false, false, false, false, false] (by kernel_rfl) rfl rfl ⟨cd1, cx0⟩ (fun hHeld => ?_)
        refine pure_ (i := 0) (N := some 23) (v := ?_) (a' := ?_) #[true, false, false, false, false, false, false, false, false] rfl rfl (by kernel_rfl) (fun _ _ _ h => h) (Or.inl ⟨by rfl, ?_⟩) ?_ ?_
        rotate_left
        · intro w'
          go_simp
          with_reducible rfl
        rotate_left
        · simp only [Act.put, List.setIfInBounds_toArray, List.set_cons_zero, List.set_cons_succ, i64_w, i32_w]
          rfl
        refine pure_ (i := 1) (N := some 24) (v := ?_) (a' := ?_) #[true, true, false, false, false, false, false, false, false] rfl rfl (by kernel_rfl) (fun _ _ _ h => h) (Or.inl ⟨by rfl, ?_⟩) ?_ ?_
        rotate_left
        · intro w'
          go_simp
          with_reducible rfl
        rotate_left
        · simp only [Act.put, List.setIfInBounds_toArray, List.set_cons_zero, List.set_cons_succ, i64_w, i32_w]
          rfl
        refine pure_ (i := 2) (N := some 25) (v := ?_) (a' := ?_) #[true, true, true, false, false, false, false, false, false] rfl rfl (by kernel_rfl) (fun _ _ _ h => h) (Or.inl ⟨by rfl, ?_⟩) ?_ ?_
        rotate_left
        · intro w'
          go_simp
          with_reducible rfl
        rotate_left
        · simp only [Act.put, List.setIfInBounds_toArray, List.set_cons_zero, List.set_cons_succ, i64_w, i32_w]
          rfl
        refine pure_ (i := 4) (N := some 27) (v := ?_) (a' := ?_) #[true, true, true, false, true, false, false, false, false] rfl rfl (by kernel_rfl) (fun _ _ _ h => h) (Or.inl ⟨by rfl, ?_⟩) ?_ ?_
        rotate_left
        · intro w'
          go_simp
          with_reducible rfl
        rotate_left
        · simp only [Act.put, List.setIfInBounds_toArray, List.set_cons_zero, List.set_cons_succ, i64_w, i32_w]
          rfl
        refine pure_ (i := 6) (N := some 29) (v := ?_) (a' := ?_) #[true, true, true, false, true, false, true, false, false] rfl rfl (by kernel_rfl) (fun _ _ _ h => h) (Or.inl ⟨by rfl, ?_⟩) ?_ ?_
        rotate_left
        · intro w'
          go_simp
          with_reducible rfl
        rotate_left
        · simp only [Act.put, List.setIfInBounds_toArray, List.set_cons_zero, List.set_cons_succ, i64_w, i32_w]
          rfl
        refine take_ (i := 3) (N := some 26) (v := ?_) (a' := ?_) #[true, true, true, true, true, false, true, false, false] rfl rfl (by kernel_rfl) (fun _ _ _ h => h) (Or.inl ⟨by rfl, ?_⟩) hHeld ?_ ?_
        rotate_left
        · rintro w' ⟨s0, s1⟩
          go_simp
          with_reducible rfl
        rotate_left
        · simp only [Act.put, List.setIfInBounds_toArray, List.set_cons_zero, List.set_cons_succ, i64_w, i32_w]
          rfl
        refine take_ (i := 5) (N := some 28) (v := ?_) (a' := ?_) #[true, true, true, true, true, true, true, false, false] rfl rfl (by kernel_rfl) (fun _ _ _ h => h) (Or.inl ⟨by rfl, ?_⟩) hHeld ?_ ?_
        rotate_left
        · rintro w' ⟨s0, s1⟩
          go_simp
          with_reducible rfl
        rotate_left
        · simp only [Act.put, List.setIfInBounds_toArray, List.set_cons_zero, List.set_cons_succ, i64_w, i32_w]
          rfl
        refine one_ (i := 7) (N := some 30) #[true, true, true, true, true, true, true, true, false] rfl rfl (by kernel_rfl) (by decide) (fun K hK => ?_)
        refine value_ (w1 := W2.drew) (v := .agg (bvs x.1.2).toArray) (by rfl) rfl (exec_load 91 (.tmp 29) rfl hl7.out) ?_
        refine hK.out _ _ ⟨cd1, cx0⟩ (fun hHeld => ?_)
        clear hK K
        refine norm_ (a' := ?_) ?_ ?_
        rotate_left
        · show Act.put _ (some 30) _ = _
          simp only [Act.put, List.setIfInBounds_toArray, List.set_cons_zero, List.set_cons_succ, i64_w, i32_w]
          rfl
        refine last_ (i := 8) (N := none) #[true, true, true, true, true, true, true, true, true] rfl rfl (by kernel_rfl) (by decide) (fun K hK => ?_)
        refine skip_ (w1 := W3) (by rfl) rfl (exec_mapUpdate 94 (.tmp 26) (.tmp 28) (.tmp 30) rfl hmu.out) ?_
        refine hK.out _ _ ?_
        clear hK K
        refine done_ (by kernel_rfl) ?_
        have hkb : k < 1073741824 := by have := HT.out; have := HK.out.1; omega
        go_wp2
        go_roundw
        case rel => exact ⟨k + 1, by go_num, HK.out.1, HE⟩
        case measure => have := HK.out.1; simp [intOf]; omega
    · have hke : k = s.cache.length := by omega
      subst hke
      have b0 : decide (s.cache.length < s.cache.length) = false := decide_eq_false (by omega)
      have b1 : decide ((s.cache.length : Int) < (s.cache.length : Int)) = false := decide_eq_false (by omega)
      have hb := (HS.out.1.block d HD.out.lt (fun e => HD.out.dM e)).trans HD.out.blk
      have c2r : wr.cell? ⟨d, 2, none⟩ = some (.slice A s.cache.length c) := (blk_cell hb 2).trans rfl
      have f2r := blk_frozen hb 2
      have HE : Aside0 (DD (wr.setCell ⟨d, 2, none⟩ (.slice none 0 0)) base d M (N + s.cache.length) (.slice none 0 0) (syncS s)) := ⟨{
        bd := HD.out.bd
        bm := HD.out.bm
        blk := blk_put hb 2 _ rfl
        mp := HS.out.2.keep (Below.heap_setCell wr _ _ M (fun e => HD.out.dM e.symm))
        row := Kd.R_nil _ _ _ _ _
        tot := by have := HT.out; simpa [syncS] using this
        p1 := HD.out.p1
        p2 := HD.out.p2
        l512 := lastS_len HL5.out (fun x hx => (HC.out x hx).1) _
        c512 := fun x hx => by simp [syncS] at hx
        lf := HD.out.lf }⟩
      have HE2 : Aside0 (MV d M (.slice A s.cache.length c) (.slice none 0 0) w (wr.setCell ⟨d, 2, none⟩ (.slice none 0 0))) := ⟨HM.out.trans ⟨(Kp.wide HS.out.1 (fun j e => .inr (.inl e))).trans (Kp.set (S := FD d M (.slice A s.cache.length c)) wr _ _ (.inl rfl)) (fun j _ e => e), fun k hk => by simp [Value.ownBlock] at hk⟩⟩
      clear hlt hk
      go_wp2
      go_ret
      exact ⟨by simp, HE.out, HE2.out⟩
end Go.Proofs.Ytmjmichkkmmdcaa.P
end
section
namespace Go.Proofs.Ytmjmichkkmmdcaa.P
open Go.RowKit Go.Shelf Go.Proofs.YtmjmichkkmmdcaaW.PrintWords Go.Proofs.YtmjmichkkmmdcaaW.PrintLast Go.Proofs.YtmjmichkkmmdcaaW.PrintMore
attribute [local go_sem] max2_int min2_int max_two min_two max_three min_three max_four min_four
set_option linter.unusedVariables false
set_option linter.unusedSimpArgs false
set_option maxRecDepth 100000
def clonePending.f (l0 : List (Int × List Int)) : Option (List (Int × List Int)) := if l0.length < 1073741825 then some l0 else none
set_option maxHeartbeats 2000000 in
set_option maxRecDepth 100000 in
theorem clonePending.calls (A0 : Option Addr) (c0 : Nat) (l0 : List (Int × List Int)) (r : List (Int × List Int)) (w : World) (hr0 : Kd.C kp w A0 l0.length l0) (hc0 : l0.length ≤ c0) (h : clonePending.f l0 = some r) :
    Calls Try.prog 76 #[.slice A0 l0.length c0] w fun e w' => ∃ v0_ : Value, e = .returned v0_ ∧ Kd.R kp 98 w' w.heap.size (fun _ => True) v0_ r ∧ Below w.heap.size w w' := by
  unfold clonePending.f at h
  by_cases hl : l0.length < 1073741825
  case neg => rw [if_neg hl] at h; cases h
  rw [if_pos hl] at h
  obtain rfl := Option.some.inj h
  have HR0 := Aside0.mk hr0
  have HC0 := Aside0.mk hc0
  have LM := Aside0.mk hl
  have HB := Aside0.mk (Below.refl w.heap.size w)
  have hnil := fun (W : World) => Lib.run_eql_slice_nil (P := Try.prog) W 93 98 A0 l0.length c0 0 0 Try.underlying93
  cases A0 with
  | none =>
    have hz : l0 = [] := by
      cases l0 with
      | nil => rfl
      | cons x t =>
        obtain ⟨ad, c, e, _⟩ := Kd.C_get hr0 (0, []) 0 (by omega) (by simp)
        cases e
    subst hz
    have hnil1 : ∀ W : World, (binOp .eql 93 (.slice none 0 c0) (.slice none 0 0)).run Try.prog W = .ok (.bool true) W := fun W => hnil W
    clear hr0 hc0 hl h hnil
    go_enter Try.func76, Try.ntmps76
    go_wp2
    go_ret
    exact ⟨_, rfl, Kd.R_nil _ _ _ _ _, Below.refl _ _⟩
  | some ad =>
    have hnil1 : ∀ W : World, (binOp .eql 93 (.slice (some ad) l0.length c0) (.slice none 0 0)).run Try.prog W = .ok (.bool false) W := fun W => hnil W
    clear hr0 hc0 hl h hnil
    go_enter Try.func76, Try.ntmps76
    go_wp2_with (first | ((with_reducible refine gate_dst (N := 5) rfl ?_); refine Kd.R_lit kp _ 98 ?hg (N := 5) ?hd (xs := ([] : List (Int × List Int))) (inner := []) (ok := fun _ => True) (okp := fun _ => True) ?hr ?hp (fun _ hk => hk) trivial (Below.refl _ _) (Nat.le_refl _) (by simp) ?_; (case hd => rfl); (case hg => rfl); (case hr => first | (go_simp; done) | (go_simp; rfl)); (case hp => exact (Reps.none _ _)); intro v249 w13 ho14 hb hg_ hnew_; clear hg_ hnew_; have n0_ := Aside0.mk (Kd.R_lower ho14 (below_size HB.out)); have n1_ := Aside0.mk (below_step HB.out hb); clear HB; have HO := n0_; have HB := n1_; clear n0_ n1_; clear hb ho14) | ((with_reducible refine gate_builtin (b := .append) (xs := #[.tmp 5, .tmp 6]) rfl ?_); at_builtin; refine Kd.R_append_rows kp (w0 := w) w.heap.size rfl (.tmp 5) (.tmp 6) 93 98 (.agg (Value.int .i64 0 :: bvs pgZ).toArray) 520 rfl Try.underlying93 info69 rfl (by decide) (by decide) v249 [] l0 _ _ _ (fun _ => True) (fun _ => False) rfl rfl ?aO ?aR (fun _ _ h => h) (fun _ h => h.elim) ?aF ?aB ?aS ?aL ?_; (case aR => exact Kd.C_below HR0.out HB.out); (case aB => exact HB.out); (case aF => exact (fun _ _ => trivial)); (case aO => exact HO.out); (case aS => exact below_size HB.out); (case aL => have := LM.out; simp; omega); intro v253 w16 ho hb hg hat; rw [List.nil_append] at ho; have n0_ := Aside0.mk hb; have n1_ := Aside0.mk ho; clear HB; clear HO; have HB := n0_; have HO254 := n1_; clear n0_ n1_; clear ho hb hg hat))
    go_ret
    exact ⟨_, rfl, HO254.out, HB.out⟩
end Go.Proofs.Ytmjmichkkmmdcaa.P
end
section
namespace Go.Proofs.Ytmjmichkkmmdcaa.P
open Go.RowKit Go.Proofs.YtmjmichkkmmdcaaW.PrintWords Go.Proofs.YtmjmichkkmmdcaaW.PrintLast Go.Proofs.YtmjmichkkmmdcaaW.PrintMore
attribute [local go_sem] max2_int min2_int max_two min_two max_three min_three max_four min_four
set_option linter.unusedVariables false
set_option linter.unusedSimpArgs false
set_option maxRecDepth 100000
theorem MP.copy {W W' : World} {M M' N : Nat} {f : Int → List Int} (h : MP W M N f) (hb : W'.heap[M']? = W.heap[M]?) : MP W' M' N f := by
  obtain ⟨D, ⟨es, clock, hm, F, hs, hD⟩, h2⟩ := h
  exact ⟨D, ⟨es, clock, hb.trans hm, F, hs, hD⟩, h2⟩
theorem at_world {P : Program} {c : Code} {Q : Exit → Act → World → Prop} {a : Act} {W : World} (R : World → Prop) (h : R W) (k : ∀ W', R W' → Code.wp P c Q a W') : Code.wp P c Q a W := k W h
end Go.Proofs.Ytmjmichkkmmdcaa.P
end
section
namespace Go.Proofs.Ytmjmichkkmmdcaa.P
open Go.RowKit Go.Proofs.YtmjmichkkmmdcaaW.PrintWords Go.Proofs.YtmjmichkkmmdcaaW.PrintLast Go.Proofs.YtmjmichkkmmdcaaW.PrintMore
attribute [local go_sem] max2_int min2_int max_two min_two max_three min_three max_four min_four
set_option linter.unusedVariables false
set_option linter.unusedSimpArgs false
set_option maxRecDepth 100000
theorem info5 : (Try.prog.info? 5).map (fun i => (i.zero, i.size, i.bytes)) = some (some (.int .u8 0), 1, 1) := by kernel_rfl
def imageP (s : Dk) (k : Nat) : List Int := (List.range k).flatMap (fun (i : Nat) => hasP s (i : Int))
theorem imageP_succ (s : Dk) (k : Nat) : imageP s (k + 1) = imageP s k ++ hasP s (k : Int) := by
  unfold imageP
  rw [List.range_succ, List.flatMap_append]
  simp
theorem imageP_len {s : Dk} (hl : ∀ i, (s.last i).length = 512) (hc : ∀ x ∈ s.cache, x.2.length = 512) : ∀ k, (imageP s k).length = k * 512 := by
  intro k
  induction k with
  | zero => simp [imageP]
  | succ k ih => rw [imageP_succ, List.length_append, ih, hasP_len hl hc, Nat.succ_mul]
theorem c_bytes {W : World} {g : Nat} {t : TypeId} {p : List Int} (h : W.heap[g]? = some (.cells (bvs p).toArray t (0, 0))) (hl : p.length ≤ 9223372036854775807) : Kd.C (Kd.int .u8) W (some ⟨g, 0, none⟩) p.length p := by
  refine ⟨rfl, hl, fun _ => ⟨⟨g, 0, none⟩, rfl, fun j x hj => ⟨[.int .u8 x], rfl, rfl, fun i u hi => ?_⟩⟩⟩
  cases i with
  | zero =>
    obtain rfl : Value.int .u8 x = u := by simpa using hi
    show W.cell? ((⟨g, 0, none⟩ : Addr).add (j * 1 + 0)) = _
    rw [Addr.add_mid, Nat.zero_add, Nat.mul_one, Nat.add_zero]
    refine (blk_cell h j).trans ?_
    simp [bvs, hj]
  | succ i => simp at hi
end Go.Proofs.Ytmjmichkkmmdcaa.P
end
section
namespace Go.Proofs.Ytmjmichkkmmdcaa.P
open Go.RowKit Go.Proofs.YtmjmichkkmmdcaaW.PrintWords Go.Proofs.YtmjmichkkmmdcaaW.PrintLast Go.Proofs.YtmjmichkkmmdcaaW.PrintMore
attribute [local go_sem] max2_int min2_int max_two min_two max_three min_three max_four min_four
set_option linter.unusedVariables false
set_option linter.unusedSimpArgs false
set_option maxRecDepth 100000
end Go.Proofs.Ytmjmichkkmmdcaa.P
end
section
namespace Go.Proofs.Ytmjmichkkmmdcaa.P
open Go.RowKit Go.Proofs.YtmjmichkkmmdcaaW.PrintWords Go.Proofs.YtmjmichkkmmdcaaW.PrintLast Go.Proofs.YtmjmichkkmmdcaaW.PrintMore
attribute [local go_sem] max2_int min2_int max_two min_two max_three min_three max_four min_four
set_option linter.unusedVariables false
set_option linter.unusedSimpArgs false
set_option maxRecDepth 100000
def PI (w : World) (cs : Array Value) (u : Value) (xs : List Int) (W : World) : Prop :=
  W.heap[w.heap.size]? = some (.cells cs 32 (0, 0)) ∧ Kd.R (Kd.int .u8) 5 W w.heap.size (fun _ => True) u xs ∧ Below w.heap.size w W
section
variable {w W : World} {cs : Array Value} {g m cap : Nat} {xs : List Int}
theorem PI.set (h : PI w cs (.slice (some ⟨g, 0, none⟩) m cap) xs W) (k : Nat) (x : Int) : PI w cs (.slice (some ⟨g, 0, none⟩) m cap) (xs.set k x) (W.setCell ⟨g, k, none⟩ (.int .u8 x)) := by
  have hne : w.heap.size ≠ g := fun e => Kd.R_ne h.2.1 h.1 (by decide) (by rw [e]; rfl)
  have hp := Kd.R_putn h.2.1 (k : Int) x
  rw [Int.toNat_natCast] at hp
  exact ⟨blk_far h.1 hne _, hp, below_set h.2.2 (Kd.R_base h.2.1 g rfl)⟩
theorem PI.cell (h : PI w cs (.slice (some ⟨g, 0, none⟩) m cap) xs W) (k : Nat) (hk : k < m) : W.cell? ⟨g, k, none⟩ = some (.int .u8 (rdOf 0 xs (k : Int))) ∧ W.frozen? ⟨g, k, none⟩ = false := by
  have := Kd.R_celln 0 h.2.1 (k : Int) (by omega) (by omega)
  rwa [Int.toNat_natCast] at this
end
end Go.Proofs.Ytmjmichkkmmdcaa.P
end
section
namespace Go.Proofs.Ytmjmichkkmmdcaa.P
open Go.RowKit Go.Proofs.YtmjmichkkmmdcaaW.PrintWords Go.Proofs.YtmjmichkkmmdcaaW.PrintLast Go.Proofs.YtmjmichkkmmdcaaW.PrintMore
set_option linter.unusedVariables false
set_option linter.unusedSimpArgs false
set_option maxRecDepth 100000
theorem size5 (w : World) : (sizeOf 5).run Try.prog w = .ok 1 w := by
  have h := info5
  cases hi : Try.prog.info? 5 with
  | none => rw [hi] at h; cases h
  | some i =>
    rw [hi] at h
    simp only [Option.map_some, Option.some.injEq, Prod.mk.injEq] at h
    simp [sizeOf, typeInfo, Sem.run_bind, hi, h.2.1]
end Go.Proofs.Ytmjmichkkmmdcaa.P
end
section
namespace Go.Proofs.Ytmjmichkkmmdcaa.P
open Go.RowKit Go.Proofs.YtmjmichkkmmdcaaW.PrintWords Go.Proofs.YtmjmichkkmmdcaaW.PrintLast Go.Proofs.YtmjmichkkmmdcaaW.PrintMore
attribute [local go_sem] max2_int min2_int max_two min_two max_three min_three max_four min_four
set_option linter.unusedVariables false
set_option linter.unusedSimpArgs false
set_option maxRecDepth 100000
theorem DD.more {W : World} {base d M N N' : Nat} {v : Value} {s : Dk} (h : DD W base d M N v s) (hn : N ≤ N') (ht : N' + s.cache.length ≤ 1073741824) : DD W base d M N' v s := { h with mp := h.mp.mono hn, tot := ht }
theorem meas_lt {m k : Nat} {x : Int} (h : k < m) (e : Value.int .i64 x = .int .i64 ((k + 1 : Nat) : Int)) : m - (intOf (.int .i64 x)).toNat < m - (intOf (.int .i64 (k : Int))).toNat := by
  rw [e]
  simp only [intOf, Int.toNat_natCast]
  omega
end Go.Proofs.Ytmjmichkkmmdcaa.P
end
section
namespace Go.Proofs.Ytmjmichkkmmdcaa.P
open Go.RowKit Go.Proofs.YtmjmichkkmmdcaaW.PrintWords Go.Proofs.YtmjmichkkmmdcaaW.PrintLast Go.Proofs.YtmjmichkkmmdcaaW.PrintMore
attribute [local go_sem] max2_int min2_int max_two min_two max_three min_three max_four min_four
set_option linter.unusedVariables false
set_option linter.unusedSimpArgs false
set_option maxRecDepth 100000
def mendN (keep : List Bool) (torn cut : Int) (k : Nat) : Nat := if (k : Int) = torn then (max 0 (min cut 512)).toNat else if keep.getD k false = true then 512 else 0
theorem mendYtmjmichkkmmdcaale (keep : List Bool) (torn cut : Int) (k : Nat) : mendN keep torn cut k ≤ 512 := by unfold mendN; split <;> (try split) <;> omega
def over (n : Nat) (b p : List Int) : List Int := b.take n ++ p.drop n
def mendL (s : Dk) (keep : List Bool) (torn cut : Int) (k : Nat) : Int → List Int :=
  (s.cache.zipIdx.take k).foldl (fun f x => upd f x.1.1 (over (mendN keep torn cut x.2) x.1.2 (f x.1.1))) s.last
theorem mendL_succ {s : Dk} {keep : List Bool} {torn cut : Int} {k : Nat} (hk : k < s.cache.length) :
    mendL s keep torn cut (k + 1) = upd (mendL s keep torn cut k) s.cache[k].1 (over (mendN keep torn cut k) s.cache[k].2 (mendL s keep torn cut k s.cache[k].1)) := by
  unfold mendL
  have h : k < s.cache.zipIdx.length := by simpa using hk
  rw [List.take_add_one, List.getElem?_eq_getElem h, List.foldl_append]
  simp
theorem over_len {n : Nat} {b p : List Int} (hb : b.length = 512) (hp : p.length = 512) (hn : n ≤ 512) : (over n b p).length = 512 := by
  unfold over
  simp
  omega
theorem mendL_len {s : Dk} {keep : List Bool} {torn cut : Int} (hl : ∀ i, (s.last i).length = 512) (hc : ∀ x ∈ s.cache, x.2.length = 512) : ∀ k, k ≤ s.cache.length → ∀ i, (mendL s keep torn cut k i).length = 512 := by
  intro k
  induction k with
  | zero => exact fun _ => hl
  | succ k ih =>
    intro hk i
    rw [mendL_succ (by omega)]
    unfold upd
    split
    · exact over_len (hc _ (List.getElem_mem (by omega))) (ih (by omega) _) (mendYtmjmichkkmmdcaale _ _ _ _)
    · exact ih (by omega) i
def mendS (s : Dk) (keep : List Bool) (torn cut : Int) : Dk := { s with last := mendL s keep torn cut s.cache.length, cache := [], left := -1, down := false }
def MI (w : World) (M N : Nat) (s : Dk) (keep : List Bool) (torn cut : Int) (k : Nat) (W : World) : Prop := Kp (fun j => j = M) w W ∧ MP W M (N + k) (mendL s keep torn cut k)
section
variable {P : Program} {ρ : Operand → Value} {op : Oper} {w w1 : World} {v : Value}
theorem exec_alloc (t : TypeId) (ho : op.op = .alloc t) (z : Array Value) (hz : ∀ w, (zeroValue t).run P w = .ok (.agg z) w) : (execOp ρ op).run P w = .ok (.value (.pointer (some ⟨w.heap.size, 0, none⟩))) (w.alloc (.cells z t)) := by
  unfold execOp
  simp [ho, Instr.alloc, Sem.run_bind, hz, newVar, newRow, Value.cells]
theorem exec_store (t : TypeId) (x y : Operand) (ho : op.op = .store t x y) (hv : (Instr.storeAt t (ρ x) (ρ y)).run P w = .ok () w1) : (execOp ρ op).run P w = .ok .skip w1 := by
  unfold execOp
  simp only [ho, Sem.run_bind, hv, Result.andThen_ok, Sem.run_pure]
theorem exec_lookup (t : TypeId) (x y : Operand) (b : Bool) (ho : op.op = .lookup t x y b) (hv : (Instr.lookup t (ρ x) (ρ y) b).run P w = .ok v w) : (execOp ρ op).run P w = .ok (.value v) w := by
  unfold execOp
  simp only [ho, Sem.run_bind, hv, Result.andThen_ok, Sem.run_pure]
theorem exec_copy (x y : Operand) (t1 t2 : TypeId) (ho : op.op = .call { callee := .builtin .copy, args := #[x, y], argTypes := #[t1, t2] }) {vx vy : Value} (hx : ρ x = vx) (hy : ρ y = vy) (hv : ∀ ty, (Builtin.copy_ #[t1, t2] ty #[vx, vy]).run P w = .ok v w1) : (execOp ρ op).run P w = .ok (.value v) w1 := by
  unfold execOp
  simp [ho, resolve, invoke, builtin, hx, hy, hv]
end
theorem over_copy (W : World) (g11 b9 n : Nat) (b p : List Int) (hb : b.length = 512) (hp : p.length = 512) (hn : n ≤ 512) (h11 : W.heap[g11]? = some (.cells (bvs p).toArray 91 (0, 0))) (h9 : ∀ j u, (bvs b)[j]? = some u → W.cell? ⟨b9, 1 + j, none⟩ = some u) :
    ∃ W', (∀ ty, (Builtin.copy_ #[22, 22] ty #[.slice (some ⟨g11, 0, none⟩) n 512, .slice (some ⟨b9, 1, none⟩) 512 512]).run Try.prog W = .ok (.int .i64 (n : Int)) W') ∧ W'.heap[g11]? = some (.cells (bvs (over n b p)).toArray 91 (0, 0)) ∧ Kp (fun j => j = g11) W W' := by
  have hlen : ((bvs b).take n).length = n := by rw [List.length_take, bvs_len, hb]; omega
  refine ⟨W.setRow g11 ((bvs p).toArray.toList.take 0 ++ (bvs b).take n ++ (bvs p).toArray.toList.drop (0 + ((bvs b).take n).length)).toArray, fun ty => ?_, ?_, ?_⟩
  · have h := run_copy_row (P := Try.prog) W 22 22 ty 5 g11 0 n 512 ⟨b9, 1, none⟩ 512 512 (bvs p).toArray 91 ((bvs b).take n) Try.underlying22 (by kernel_rfl) h11 (by rw [hlen]; exact (Nat.min_eq_right hn).symm) (fun j v hj => ?_) ?_ (fun v hv => ?_)
    · rw [h, hlen]; rfl
    · rw [Addr.add_mid]
      refine h9 j v ?_
      rw [List.getElem?_take] at hj
      split at hj
      · exact hj
      · cases hj
    · rw [hlen, List.size_toArray, bvs_len, hp]; omega
    · have h1 := List.mem_of_mem_take hv
      obtain ⟨y, _, rfl⟩ := List.mem_map.1 h1
      rfl
  · rw [setRow_heap W g11 _ _ 91 _ h11, hlen]
    unfold over bvs
    simp [List.map_take, List.map_drop]
  · exact ⟨rfl, rfl, rfl, by simp [World.setRow], fun k hk hn => setRow_other W g11 k _ hn⟩
end Go.Proofs.Ytmjmichkkmmdcaa.P
end
section
namespace Go.Proofs.Ytmjmichkkmmdcaa.P
open Go.RowKit Go.Proofs.YtmjmichkkmmdcaaW.PrintWords Go.Proofs.YtmjmichkkmmdcaaW.PrintLast Go.Proofs.YtmjmichkkmmdcaaW.PrintMore
attribute [local go_sem] max2_int min2_int max_two min_two max_three min_three max_four min_four
set_option linter.unusedVariables false
set_option linter.unusedSimpArgs false
set_option maxRecDepth 100000
theorem exec_lookup2 {P : Program} {ρ : Operand → Value} {op : Oper} {w : World} {v : Value} (t : TypeId) (x y : Operand) (b : Bool) (ho : op.op = .lookup t x y b) {vx vy : Value} (hx : ρ x = vx) (hy : ρ y = vy) (hv : (Instr.lookup t vx vy b).run P w = .ok v w) : (execOp ρ op).run P w = .ok (.value v) w := by
  subst hx hy
  exact exec_lookup t x y b ho hv
theorem run_storeAt67 (w : World) (z q : List Int) (hz : z.length = 512) (hq : q.length = 512) : (Instr.storeAt 91 (.pointer (some ⟨w.heap.size, 0, none⟩)) (.agg (bvs q).toArray)).run Try.prog (w.alloc (.cells (bvs z).toArray 91)) = .ok () (w.alloc (.cells (bvs q).toArray 91)) :=
  run_storeAt_new w 91 _ _ (by rw [s67, List.size_toArray, bvs_len, hq]) (by rw [List.size_toArray, List.size_toArray, bvs_len, bvs_len, hz, hq]) (one_bvs _)
set_option maxHeartbeats 4000000 in
set_option maxRecDepth 100000 in
theorem mend_calls {base d M N : Nat} {v : Value} {s : Dk} (A2 : Option Addr) (c3 : Nat) (keep : List Bool) (torn cut : Int) (w : World) (h : DD w base d M N v s) (hkr : Kd.C Kd.bool w A2 keep.length keep) (hkM : keep ≠ [] → ∀ a, A2 = some a → a.block ≠ M) :
    Calls Try.prog 29 #[dp d, .slice A2 keep.length c3, .int .i64 torn, .int .i64 cut] w fun e w' => (∃ u, e = .returned u) ∧ DD w' base d M (N + s.cache.length) (.slice none 0 0) (mendS s keep torn cut) ∧ MV d M v (.slice none 0 0) w w' := by
  obtain ⟨xs, hxs⟩ := pes_of s.cache (fun x hx => (h.c512 x hx).1)
  have HC := Aside0.mk h.c512
  have HL5 := Aside0.mk h.l512
  have HP2 := Aside0.mk h.p2
  have HT := Aside0.mk h.tot
  obtain ⟨A, c, ev⟩ := Kd.R_slice h.row
  subst ev
  have hlen : xs.length = s.cache.length := by rw [← hxs]; simp
  have hpes := pes_row h.row hxs
  have HP := Aside0.mk hpes
  have HD := Aside0.mk h
  have HKR := Aside0.mk hkr
  have HKM := Aside0.mk hkM
  have c2 : w.cell? ⟨d, 2, none⟩ = some (.slice A s.cache.length c) := (blk_cell h.blk 2).trans rfl
  have c1' := (blk_cell h.blk 1).trans rfl
  obtain ⟨zq, hzq⟩ : ∃ zq : Array Value, zq = (Value.int .i64 0 :: bvs pgZ).toArray := ⟨_, rfl⟩
  have hz9 : ∀ w, (zeroValue 98).run Try.prog w = .ok (.agg zq) w := fun w => by rw [hzq]; exact zero69 w
  have HQ := Aside0.mk (show zq.size = 513 by rw [hzq, List.size_toArray, List.length_cons, bvs_len, pgZ_len])
  have HSI := Aside0.mk (show MI w M N s keep torn cut 0 w from ⟨Kp.refl _ _, by rw [Nat.add_zero]; exact h.mp⟩)
  have HX := Aside0.mk hxs
  have HLn := Aside0.mk hlen
  clear hzq h hpes hxs hlen hkr hkM
  unfold dp
  go_enter Try.func29, Try.ntmps29
  go_wp2_with fail
  go_loopw [17] (fun v17 wr => ∃ k : Nat, v17 = .int .i64 (k : Int) ∧ k ≤ s.cache.length ∧ Aside0 (MI w M N s keep torn cut k wr)) (fun v17 _ => s.cache.length - (intOf v17).toNat)
  case atStart => exact ⟨0, rfl, Nat.zero_le _, HSI⟩
  case round =>
    clear HSI
    obtain ⟨k, rfl, hk, HS⟩ := hrel
    by_cases hlt : k < s.cache.length
    · have hkx : k < xs.length := by rw [HLn.out]; exact hlt
      obtain ⟨x, hx⟩ : ∃ x, x = xs.getD k zPE := ⟨_, rfl⟩
      have hxc : s.cache[k] = x.1 := by
        rw [hx, List.getD_eq_getElem?_getD, List.getElem?_eq_getElem hkx, Option.getD_some]
        have := HX.out
        simp only [← this, List.getElem_map]
      have HXC : Aside0 (mendL s keep torn cut (k + 1) = upd (mendL s keep torn cut k) x.1.1 (over (mendN keep torn cut k) x.1.2 (mendL s keep torn cut k x.1.1))) := ⟨by rw [mendL_succ hlt, hxc]⟩
      have hx1 : 0 ≤ x.1.1 ∧ x.1.1 < s.pages := by rw [← hxc]; exact (HC.out _ (List.getElem_mem hlt)).2
      rcases HP.out with ⟨_, e⟩ | ⟨g, cap, e, hg, hcs⟩
      · rw [e] at hkx
        exact absurd hkx (Nat.not_lt_zero k)
      · injection e with eA eL ec
        clear eL
        subst eA ec
        have hgM : g ≠ M := fun e => by
          obtain ⟨es, clock, hm⟩ := HD.out.mp.blk
          have := hcs k hkx 0 (.int .i64 (xs.getD k zPE).1.1) rfl
          rw [e] at this
          simp [World.cell?, hm] at this
        have hld : (Instr.loadAt 98 (.pointer (some ⟨g, k * 513, none⟩))).run Try.prog wr = .ok (.agg (peV x.1).toArray) wr := by
          refine run_loadAt_mid wr g (k * 513) 98 _ _ (fun j u hj => ?_) Try.underlying98 rfl (by rw [s69]; exact (congrArg some (by have := sz_peV x; simpa using this)).symm)
          rw [hx] at hj
          exact (World.cell?_of_block (HS.out.1.block g hg (fun e => hgM e))).trans (hcs k hkx j u hj)
        have hst : (storeCells ⟨wr.heap.size, 0, none⟩ (peV x.1).toArray.toList 0).run Try.prog (wr.alloc (.cells zq 98)) = .ok () (wr.alloc (.cells (peV x.1).toArray 98)) :=
          run_storeCells_new wr 98 zq _ (by rw [s69]; exact (congrArg some (sz_peV x)).symm) (by rw [HQ.out]; exact (sz_peV x).symm) (one_peV _)
        have hsz5 : (peV x.1).toArray.size = 513 := sz_peV x
        have c1 : Aside0 (wr.cell? ⟨d, 1, none⟩ = some (.map (some M))) := ⟨(World.cell?_of_block (HS.out.1.block d HD.out.lt (fun e => HD.out.dM e))).trans c1'⟩
        have hW2 := Deep.blk_alloc_new wr (.cells (peV x.1).toArray 98)
        obtain ⟨W2, hW2e⟩ : ∃ W2, W2 = wr.alloc (.cells (peV x.1).toArray 98) := ⟨_, rfl⟩
        have HMP := Aside0.mk (HS.out.2.keep (W' := W2) (by rw [hW2e]; exact Below.heap_alloc wr _ M HS.out.2.lt))
        have HK := Aside0.mk (And.intro hlt (And.intro hk hx1))
        generalize hpe : (peV x.1).toArray = pe at hld hst hW2 hW2e hsz5
        have HPE := Aside0.mk hpe
        have HW2 := Aside0.mk (And.intro hW2 hW2e)
        clear hW2 hW2e
        have b0 : decide (k < s.cache.length) = true := decide_eq_true hlt
        have b1 : decide ((k : Int) < (s.cache.length : Int)) = true := decide_eq_true (by omega)
        have b2 : (k < s.cache.length) = True := eq_true hlt
        have b3 : ((k : Int) < (s.cache.length : Int)) = True := eq_true (by omega)
        clear hpe hx hxc hx1 hcs hkx hlt hk
        go_upto_region 4 with (refine wp_load_eq 98 _ rfl hld ?_)
        rw [← HW2.out.2]
        clear hld hst
        rename_i K2 hK2 K1 hK1 K0 hK0
        obtain ⟨p, hp⟩ : ∃ p, p = mendL s keep torn cut k x.1.1 := ⟨_, rfl⟩
        have hp5 : p.length = 512 := by rw [hp]; exact mendL_len HL5.out (fun x hx => (HC.out x hx).1) k HK.out.2.1 _
        have HPP := Aside0.mk hp
        obtain ⟨zp, hzp⟩ : ∃ zp : Array Value, zp = (bvs pgZ).toArray := ⟨_, rfl⟩
        have hz7 : ∀ w, (zeroValue 91).run Try.prog w = .ok (.agg zp) w := fun w => by rw [hzp]; exact zero67 w
        have hst4 : ∀ w : World, (Instr.storeAt 91 (.pointer (some ⟨w.heap.size, 0, none⟩)) (.agg (bvs p).toArray)).run Try.prog (w.alloc (.cells zp 91)) = .ok () (w.alloc (.cells (bvs p).toArray 91)) := fun w => by rw [hzp]; exact run_storeAt67 w _ _ pgZ_len hp5
        have HP5 := Aside0.mk hp5
        obtain ⟨qg, hqg⟩ : ∃ qg, qg = (bvs p).toArray := ⟨_, rfl⟩
        rw [← hqg] at hst4
        have HQG := Aside0.mk hqg
        clear hp hp5 hzp hqg
        have part : ∀ (n : Nat), n = mendN keep torn cut k → ∀ (y22 y23 y24 y25 y26 y27 y28 y29 y30 y31 y32 y33 y34 y35 y36 y37 y38 y39 : Value), K1 ⟨#[Value.pointer (some ⟨d, 0, none⟩), .slice A2 keep.length c3, .int .i64 torn, .int .i64 cut, undef, undef, undef, undef, .int .i64 (k : Int), .pointer (some ⟨wr.heap.size, 0, none⟩), .int .i64 (n : Int), u11, .pointer (some ⟨d, 0, none⟩), .pointer (some ⟨d, 0, none⟩), .pointer (some ⟨d, 2, none⟩), .slice (some ⟨g, 0, none⟩) s.cache.length c, .int .i64 (s.cache.length : Int), .int .i64 (k : Int), .bool true, .int .i64 (k : Int), .pointer (some ⟨g, k * 513, none⟩), .agg pe, y22, y23, y24, y25, y26, y27, y28, y29, y30, y31, y32, y33, y34, y35, y36, y37, y38, y39, u40, u41, u42, u43, u44, u45, u46, u47, u48, u49, u50, u51, u52, u53, u54, u55, u56, u57, u58, u59, undef, undef, undef, undef, undef, undef, undef, undef, undef], []⟩ W2 := by
          intro n hn y22 y23 y24 y25 y26 y27 y28 y29 y30 y31 y32 y33 y34 y35 y36 y37 y38 y39
          refine hK1 _ _ ?_
          have hn5 : n ≤ 512 := by rw [hn]; exact mendYtmjmichkkmmdcaale _ _ _ _
          have HN := Aside0.mk hn
          have cd1 : W2.cell? ⟨d, 1, none⟩ = some (.map (some M)) := by rw [HW2.out.2]; exact (World.cell?_of_block (Below.heap_alloc wr _ d (Nat.lt_of_lt_of_le HD.out.lt HS.out.1.size))).trans c1.out
          have hd2 : d < W2.heap.size := World.block_lt_of_cell? W2 _ cd1
          have hW2 := HW2.out.1
          rw [← HW2.out.2] at hW2
          have hw2 : wr.heap.size < W2.heap.size := blk_lt hW2
          have cx0 : W2.cell? ⟨wr.heap.size, 0, none⟩ = some (.int .i64 x.1.1) := (blk_cell hW2 0).trans (by rw [← HPE.out]; rfl)
          have hlk : (Instr.lookup 94 (.map (some M)) (.int .i64 x.1.1) false).run Try.prog W2.drew = .ok (.agg qg) W2.drew := by
            have := MP.look (W := W2.drew) (HMP.out.keep (W' := W2.drew) rfl) (i := x.1.1) (by have := HK.out.2.2.1; omega) (by have := HK.out.2.2.2; have := HP2.out; omega)
            rw [← HPP.out] at this
            rw [HQG.out]
            exact this
          have ca1 : (W2.drew.alloc (.cells zp 91)).cell? ⟨d, 1, none⟩ = some (.map (some M)) := (World.cell?_of_block (Below.heap_alloc W2.drew _ d hd2)).trans cd1
          have ca2 : (W2.drew.alloc (.cells zp 91)).cell? ⟨wr.heap.size, 0, none⟩ = some (.int .i64 x.1.1) := (World.cell?_of_block (Below.heap_alloc W2.drew _ _ hw2)).trans cx0
          have ca3 : (Instr.lookup 94 (.map (some M)) (.int .i64 x.1.1) false).run Try.prog (W2.drew.alloc (.cells zp 91)) = .ok (.agg qg) (W2.drew.alloc (.cells zp 91)) := by
            have := MP.look (W := W2.drew.alloc (.cells zp 91)) (HMP.out.keep (Below.heap_alloc W2.drew _ M HMP.out.lt)) (i := x.1.1) (by have := HK.out.2.2.1; omega) (by have := HK.out.2.2.2; have := HP2.out; omega)
            rw [← HPP.out] at this
            rw [HQG.out]
            exact this
          have hs4 := hst4 W2.drew
          obtain ⟨W4, hW4⟩ : ∃ W4, W4 = W2.drew.alloc (.cells qg 91) := ⟨_, rfl⟩
          have h411 : W4.heap[W2.heap.size]? = some (.cells qg 91 (0, 0)) := by rw [hW4]; exact Deep.blk_alloc_new W2.drew _
          have hb4 : Below W2.heap.size W2 W4 := by rw [hW4]; exact below_alloc (below_drew1 (Below.refl _ _)) _
          rw [← hW4] at hs4
          have h4b : W4.heap[wr.heap.size]? = some (.cells pe 98 (0, 0)) := (hb4.block _ hw2).trans hW2
          obtain ⟨W5, hcp, h511, hk5⟩ := over_copy W4.drew W2.heap.size wr.heap.size n x.1.2 p x.2 HP5.out hn5 (by rw [← HQG.out]; exact h411) (fun j u hj => by
            refine (blk_cell (w := W4.drew) h4b (1 + j)).trans ?_
            rw [← HPE.out, Nat.add_comm 1 j]
            simpa [peV] using hj)
          have hb5 : Below W2.heap.size W2 W5 := hb4.trans ((Kp.trans (S := fun j => j = W2.heap.size) (Kp.of_below (below_drew1 (Below.refl _ _))) hk5 (fun _ _ e => e)).below hb4.size (fun j e => Nat.le_of_eq e.symm))
          have cd5 : W5.cell? ⟨d, 1, none⟩ = some (.map (some M)) := (World.cell?_of_block (hb5.block d hd2)).trans cd1
          have cx5 : W5.cell? ⟨wr.heap.size, 0, none⟩ = some (.int .i64 x.1.1) := (World.cell?_of_block (hb5.block _ hw2)).trans cx0
          obtain ⟨og, hog⟩ : ∃ og, og = (bvs (over n x.1.2 p)).toArray := ⟨_, rfl⟩
          have hol := over_len (n := n) (b := x.1.2) (p := p) x.2 HP5.out hn5
          have hl7 : (Instr.loadAt 91 (.pointer (some ⟨W2.heap.size, 0, none⟩))).run Try.prog W5.drew = .ok (.agg og) W5.drew := by
            rw [hog]
            refine run_loadAt_mid W5.drew W2.heap.size 0 91 (bvs (over n x.1.2 p)) _ (fun j u hj => ?_) Try.underlying91 rfl (by rw [s67, bvs_len, hol])
            refine (blk_cell (w := W5.drew) h511 (0 + j)).trans ?_
            rw [Nat.zero_add]
            simpa using hj
          obtain ⟨W6, hmu, hM6, hg6⟩ := MP.store (W := W5.drew) (HMP.out.keep (W' := W5.drew) (hb5.block M HMP.out.lt)) (by have := HT.out; have := HK.out.1; unfold maxLen; omega) (i := x.1.1) (by have := HK.out.2.2.1; omega) (by have := HK.out.2.2.2; have := HP2.out; omega) (over n x.1.2 p)
          unfold pgV at hmu
          rw [← hog] at hmu
          have HE : Aside0 (MI w M N s keep torn cut (k + 1) W6) := ⟨(HS.out.1.trans (Kp.of_below (S := fun j => j = M) (by rw [HW2.out.2]; exact below_alloc (Below.refl _ _) _)) (fun _ _ e => e)).trans ((Kp.of_below hb5).trans (Kp.grown (S := fun j => j = M) (a := W5) ⟨hg6.os, hg6.tape, hg6.output, hg6.size, hg6.block⟩ (fun j e => by injection e with e; exact e.symm)) (fun _ _ e => e)) (fun _ _ e => e), by rw [HXC.out, ← HPP.out, ← HN.out]; exact hM6⟩
          have hlk' := Aside0.mk hlk
          have hs4' := Aside0.mk hs4
          have hcp' := Aside0.mk hcp
          have hl7' := Aside0.mk hl7
          have hmu' := Aside0.mk hmu
          have cd1' := Aside0.mk cd1
          have cx0' := Aside0.mk cx0
          have cd5' := Aside0.mk cd5
          have cx5' := Aside0.mk cx5
          have ca1' := Aside0.mk ca1
          have ca2' := Aside0.mk ca2
          have ca3' := Aside0.mk ca3
          have hn0 : (0 : Int) ≤ (n : Int) := by omega
          have hn1 : (n : Int) ≤ 512 := by omega
          have hn2 : (n ≤ 512) = True := eq_true hn5
          clear hn hlk hs4 hcp hl7 hmu cd1 cx0 cd5 cx5 ca1 ca2 ca3 hd2 hW2 hw2 h411 hb4 h4b hk5 hb5 h511 hM6 hg6 hol hog hW4 hK1 hK0 hst4 hz9 hsz5 c1' c2
          go_upto_region 8 with fail
          refine start_ (n := 9) (S := fun w' => w'.cell? ⟨d, 1, none⟩ = some (.map (some M)) ∧ w'.cell? ⟨wr.heap.size, 0, none⟩ = some (.int .i64 x.1.1) ∧ (Instr.lookup 94 (.map (some M)) (.int .i64 x.1.1) false).run Try.prog w' = .ok (.agg qg) w') (ds := [8]) #[false, false, false, false, false, false, false, false, false] (by kernel_rfl) rfl rfl ⟨cd1'.out, cx0'.out, hlk'.out⟩ (fun hHeld => ?_)
          refine pure_ (i := 0) (N := some 40) (v := ?_) (a' := ?_) #[true, false, false, false, false, false, false, false, false] rfl rfl (by kernel_rfl) (fun _ _ _ h => h) (Or.inl ⟨by rfl, ?_⟩) ?_ ?_
          rotate_left
          · intro w'
            go_simp
            with_reducible rfl
          rotate_left
          · simp only [Act.put, List.setIfInBounds_toArray, List.set_cons_zero, List.set_cons_succ, i64_w, i32_w]
            rfl
          refine pure_ (i := 1) (N := some 41) (v := ?_) (a' := ?_) #[true, true, false, false, false, false, false, false, false] rfl rfl (by kernel_rfl) (fun _ _ _ h => h) (Or.inl ⟨by rfl, ?_⟩) ?_ ?_
          rotate_left
          · intro w'
            go_simp
            with_reducible rfl
          rotate_left
          · simp only [Act.put, List.setIfInBounds_toArray, List.set_cons_zero, List.set_cons_succ, i64_w, i32_w]
            rfl
          refine pure_ (i := 2) (N := some 42) (v := ?_) (a' := ?_) #[true, true, true, false, false, false, false, false, false] rfl rfl (by kernel_rfl) (fun _ _ _ h => h) (Or.inl ⟨by rfl, ?_⟩) ?_ ?_
          rotate_left
          · intro w'
            go_simp
            with_reducible rfl
          rotate_left
          · simp only [Act.put, List.setIfInBounds_toArray, List.set_cons_zero, List.set_cons_succ, i64_w, i32_w]
            rfl
          refine pure_ (i := 4) (N := some 44) (v := ?_) (a' := ?_) #[true, true, true, false, true, false, false, false, false] rfl rfl (by kernel_rfl) (fun _ _ _ h => h) (Or.inl ⟨by rfl, ?_⟩) ?_ ?_
          rotate_left
          · intro w'
            go_simp
            with_reducible rfl
          rotate_left
          · simp only [Act.put, List.setIfInBounds_toArray, List.set_cons_zero, List.set_cons_succ, i64_w, i32_w]
            rfl
          refine take_ (i := 3) (N := some 43) (v := ?_) (a' := ?_) #[true, true, true, true, true, false, false, false, false] rfl rfl (by kernel_rfl) (fun _ _ _ h => h) (Or.inl ⟨by rfl, ?_⟩) hHeld ?_ ?_
          rotate_left
          · rintro w' ⟨s0, s1, s2⟩
            go_simp
            with_reducible rfl
          rotate_left
          · simp only [Act.put, List.setIfInBounds_toArray, List.set_cons_zero, List.set_cons_succ, i64_w, i32_w]
            rfl
          refine take_ (i := 5) (N := some 45) (v := ?_) (a' := ?_) #[true, true, true, true, true, true, false, false, false] rfl rfl (by kernel_rfl) (fun _ _ _ h => h) (Or.inl ⟨by rfl, ?_⟩) hHeld ?_ ?_
          rotate_left
          · rintro w' ⟨s0, s1, s2⟩
            go_simp
            with_reducible rfl
          rotate_left
          · simp only [Act.put, List.setIfInBounds_toArray, List.set_cons_zero, List.set_cons_succ, i64_w, i32_w]
            rfl
          refine take_ (i := 6) (N := some 46) (v := ?_) (a' := ?_) #[true, true, true, true, true, true, true, false, false] rfl rfl (by kernel_rfl) (fun _ _ _ h => h) (Or.inl ⟨by rfl, ?_⟩) hHeld ?_ ?_
          rotate_left
          · rintro w' ⟨s0, s1, s2⟩
            refine Eq.trans (exec_lookup2 94 (.tmp 43) (.tmp 45) false rfl (vx := .map (some M)) (vy := .int .i64 x.1.1) (by rfl) (by rfl) s2) ?_
            with_reducible rfl
          rotate_left
          · simp only [Act.put, List.setIfInBounds_toArray, List.set_cons_zero, List.set_cons_succ, i64_w, i32_w]
            rfl
          refine one_ (i := 7) (N := some 11) #[true, true, true, true, true, true, true, true, false] rfl rfl (by kernel_rfl) (by decide) (fun K hK => ?_)
          refine value_ (w1 := W2.drew.alloc (.cells zp 91)) (v := .pointer (some ⟨W2.heap.size, 0, none⟩)) (by rfl) rfl (exec_alloc 91 rfl zp hz7) ?_
          refine hK.out _ _ ⟨ca1'.out, ca2'.out, ca3'.out⟩ (fun hHeld => ?_)
          clear hK K
          refine norm_ (a' := ?_) ?_ ?_
          rotate_left
          · show Act.put _ (some 11) _ = _
            simp only [Act.put, List.setIfInBounds_toArray, List.set_cons_zero, List.set_cons_succ, i64_w, i32_w]
            rfl
          refine last_ (i := 8) (N := none) #[true, true, true, true, true, true, true, true, true] rfl rfl (by kernel_rfl) (by decide) (fun K hK => ?_)
          refine skip_ (w1 := W4) (by rfl) rfl (exec_store 91 (.tmp 11) (.tmp 46) rfl hs4'.out) ?_
          refine hK.out _ _ ?_
          clear hK K
          refine done_ (by kernel_rfl) ?_
          go_upto_region 9 with fail
          refine start_ (n := 5) (S := fun w' => True) (ds := [4]) #[false, false, false, false, false] (by kernel_rfl) rfl rfl trivial (fun hHeld => ?_)
          refine pure_ (i := 0) (N := some 47) (v := ?_) (a' := ?_) #[true, false, false, false, false] rfl rfl (by kernel_rfl) (fun _ _ _ h => h) (Or.inl ⟨by rfl, ?_⟩) ?_ ?_
          rotate_left
          · intro w'
            go_simp
            with_reducible rfl
          rotate_left
          · simp only [Act.put, List.setIfInBounds_toArray, List.set_cons_zero, List.set_cons_succ, i64_w, i32_w]
            rfl
          refine pure_ (i := 1) (N := some 48) (v := ?_) (a' := ?_) #[true, true, false, false, false] rfl rfl (by kernel_rfl) (fun _ _ _ h => h) (Or.inl ⟨by rfl, ?_⟩) ?_ ?_
          rotate_left
          · intro w'
            go_simp
            with_reducible rfl
          rotate_left
          · simp only [Act.put, List.setIfInBounds_toArray, List.set_cons_zero, List.set_cons_succ, i64_w, i32_w]
            rfl
          refine pure_ (i := 2) (N := some 49) (v := ?_) (a' := ?_) #[true, true, true, false, false] rfl rfl (by kernel_rfl) (fun _ _ _ h => h) (Or.inl ⟨by rfl, ?_⟩) ?_ ?_
          rotate_left
          · intro w'
            go_simp
            with_reducible rfl
          rotate_left
          · simp only [Act.put, List.setIfInBounds_toArray, List.set_cons_zero, List.set_cons_succ, i64_w, i32_w]
            rfl
          refine pure_ (i := 3) (N := some 50) (v := ?_) (a' := ?_) #[true, true, true, true, false] rfl rfl (by kernel_rfl) (fun _ _ _ h => h) (Or.inl ⟨by rfl, ?_⟩) ?_ ?_
          rotate_left
          · intro w'
            go_simp
            with_reducible rfl
          rotate_left
          · simp only [Act.put, List.setIfInBounds_toArray, List.set_cons_zero, List.set_cons_succ, i64_w, i32_w]
            rfl
          refine last_ (i := 4) (N := some 51) #[true, true, true, true, true] rfl rfl (by kernel_rfl) (by decide) (fun K hK => ?_)
          refine value_ (w1 := W5) (v := .int .i64 (n : Int)) (by rfl) rfl (exec_copy (.tmp 48) (.tmp 50) 22 22 rfl (by rfl) (by rfl) hcp'.out) ?_
          refine hK.out _ _ ?_
          clear hK K
          refine norm_ (a' := ?_) ?_ ?_
          rotate_left
          · show Act.put _ (some 51) _ = _
            simp only [Act.put, List.setIfInBounds_toArray, List.set_cons_zero, List.set_cons_succ, i64_w, i32_w]
            rfl
          refine done_ (by kernel_rfl) ?_
          clear hz7
          go_upto_region 10 with fail
          refine start_ (n := 8) (S := fun w' => w'.cell? ⟨d, 1, none⟩ = some (.map (some M)) ∧ w'.cell? ⟨wr.heap.size, 0, none⟩ = some (.int .i64 x.1.1)) (ds := [7]) #[false, false, false, false, false, false, false, false] (by kernel_rfl) rfl rfl ⟨cd5'.out, cx5'.out⟩ (fun hHeld => ?_)
          refine pure_ (i := 0) (N := some 52) (v := ?_) (a' := ?_) #[true, false, false, false, false, false, false, false] rfl rfl (by kernel_rfl) (fun _ _ _ h => h) (Or.inl ⟨by rfl, ?_⟩) ?_ ?_
          rotate_left
          · intro w'
            go_simp
            with_reducible rfl
          rotate_left
          · simp only [Act.put, List.setIfInBounds_toArray, List.set_cons_zero, List.set_cons_succ, i64_w, i32_w]
            rfl
          refine pure_ (i := 1) (N := some 53) (v := ?_) (a' := ?_) #[true, true, false, false, false, false, false, false] rfl rfl (by kernel_rfl) (fun _ _ _ h => h) (Or.inl ⟨by rfl, ?_⟩) ?_ ?_
          rotate_left
          · intro w'
            go_simp
            with_reducible rfl
          rotate_left
          · simp only [Act.put, List.setIfInBounds_toArray, List.set_cons_zero, List.set_cons_succ, i64_w, i32_w]
            rfl
          refine pure_ (i := 2) (N := some 54) (v := ?_) (a' := ?_) #[true, true, true, false, false, false, false, false] rfl rfl (by kernel_rfl) (fun _ _ _ h => h) (Or.inl ⟨by rfl, ?_⟩) ?_ ?_
          rotate_left
          · intro w'
            go_simp
            with_reducible rfl
          rotate_left
          · simp only [Act.put, List.setIfInBounds_toArray, List.set_cons_zero, List.set_cons_succ, i64_w, i32_w]
            rfl
          refine pure_ (i := 4) (N := some 56) (v := ?_) (a' := ?_) #[true, true, true, false, true, false, false, false] rfl rfl (by kernel_rfl) (fun _ _ _ h => h) (Or.inl ⟨by rfl, ?_⟩) ?_ ?_
          rotate_left
          · intro w'
            go_simp
            with_reducible rfl
          rotate_left
          · simp only [Act.put, List.setIfInBounds_toArray, List.set_cons_zero, List.set_cons_succ, i64_w, i32_w]
            rfl
          refine take_ (i := 3) (N := some 55) (v := ?_) (a' := ?_) #[true, true, true, true, true, false, false, false] rfl rfl (by kernel_rfl) (fun _ _ _ h => h) (Or.inl ⟨by rfl, ?_⟩) hHeld ?_ ?_
          rotate_left
          · rintro w' ⟨s0, s1⟩
            go_simp
            with_reducible rfl
          rotate_left
          · simp only [Act.put, List.setIfInBounds_toArray, List.set_cons_zero, List.set_cons_succ, i64_w, i32_w]
            rfl
          refine take_ (i := 5) (N := some 57) (v := ?_) (a' := ?_) #[true, true, true, true, true, true, false, false] rfl rfl (by kernel_rfl) (fun _ _ _ h => h) (Or.inl ⟨by rfl, ?_⟩) hHeld ?_ ?_
          rotate_left
          · rintro w' ⟨s0, s1⟩
            go_simp
            with_reducible rfl
          rotate_left
          · simp only [Act.put, List.setIfInBounds_toArray, List.set_cons_zero, List.set_cons_succ, i64_w, i32_w]
            rfl
          refine one_ (i := 6) (N := some 58) #[true, true, true, true, true, true, true, false] rfl rfl (by kernel_rfl) (by decide) (fun K hK => ?_)
          refine value_ (w1 := W5.drew) (v := .agg og) (by rfl) rfl (exec_load 91 (.tmp 11) rfl hl7'.out) ?_
          refine hK.out _ _ ⟨cd5'.out, cx5'.out⟩ (fun hHeld => ?_)
          clear hK K
          refine norm_ (a' := ?_) ?_ ?_
          rotate_left
          · show Act.put _ (some 58) _ = _
            simp only [Act.put, List.setIfInBounds_toArray, List.set_cons_zero, List.set_cons_succ, i64_w, i32_w]
            rfl
          refine last_ (i := 7) (N := none) #[true, true, true, true, true, true, true, true] rfl rfl (by kernel_rfl) (by decide) (fun K hK => ?_)
          refine skip_ (w1 := W6) (by rfl) rfl (exec_mapUpdate 94 (.tmp 55) (.tmp 57) (.tmp 58) rfl hmu'.out) ?_
          refine hK.out _ _ ?_
          clear hK K
          refine done_ (by kernel_rfl) ?_
          have hkb : k < 1073741824 := by have := HT.out; have := HK.out.1; omega
          go_wp2
          go_roundw
          case rel => exact ⟨k + 1, by go_num, HK.out.1, HE⟩
          case measure => exact meas_lt HK.out.1 (by go_num)
        clear hK1 hz7 hst4 hsz5 hz9
        have hex : ∀ (n : Nat) (z : Int), z = (n : Int) → (Value.int .i64 z) = .int .i64 (n : Int) := fun n z e => by rw [e]
        by_cases ht : (k : Int) = torn
        · have t0 : ((k : Int) == torn) = true := beq_iff_eq.mpr ht
          have t1 : decide ((k : Int) = torn) = true := decide_eq_true ht
          have hn : mendN keep torn cut k = (max 0 (min cut 512)).toNat := if_pos ht
          by_cases hc0 : cut ≤ 0
          · have e : (mendN keep torn cut k : Int) = 0 := by rw [hn]; omega
            have hq := part _ rfl
            rw [e] at hq
            have q1 : (512 < cut) = False := eq_false (by omega)
            have q2 : (0 < cut) = False := eq_false (by omega)
            clear part ht hn hc0 e
            go_wp2
            exact hq _ _ _ _ _ _ _ _ _ _ _ _ _ _ _ _ _ _
          · by_cases hc5 : 512 < cut
            · have e : (mendN keep torn cut k : Int) = 512 := by rw [hn]; omega
              have hq := part _ rfl
              rw [e] at hq
              have q1 : (512 < cut) = True := eq_true hc5
              clear part ht hn hc0 hc5 e
              go_wp2
              exact hq _ _ _ _ _ _ _ _ _ _ _ _ _ _ _ _ _ _
            · have e : (mendN keep torn cut k : Int) = cut := by rw [hn]; omega
              have hq := part _ rfl
              rw [e] at hq
              have q1 : (512 < cut) = False := eq_false hc5
              have q2 : (0 < cut) = True := eq_true (by omega)
              clear part ht hn hc0 hc5 e
              go_wp2
              exact hq _ _ _ _ _ _ _ _ _ _ _ _ _ _ _ _ _ _
        · have t0 : ((k : Int) == torn) = false := beq_eq_false_iff_ne.mpr ht
          have t1 : decide ((k : Int) = torn) = false := decide_eq_false ht
          have hn : mendN keep torn cut k = if keep.getD k false = true then 512 else 0 := if_neg ht
          by_cases hkl : k < keep.length
          · obtain ⟨ad, ea, hca⟩ := Kd.at_bool HKR.out (k : Int) (by omega) (by omega)
            subst ea
            rw [Int.toNat_natCast] at hca
            have hrk : rdOf false keep (k : Int) = keep.getD k false := by simp [rdOf]
            rw [hrk] at hca
            have hcb : W2.cell? (ad.add k) = some (.bool (keep.getD k false)) := by
              have hbl := World.block_lt_of_cell? w _ hca
              rw [HW2.out.2]
              refine (World.cell?_of_block (Below.heap_alloc wr _ _ (Nat.lt_of_lt_of_le hbl HS.out.1.size))).trans ?_
              refine (World.cell?_of_block (HS.out.1.block _ hbl (fun e => HKM.out (List.ne_nil_of_length_pos (by omega)) ad rfl ?_))).trans hca
              rw [← e]
              unfold Addr.add
              split <;> rfl
            have l1 : ((k : Int) < (keep.length : Int)) = True := eq_true (by omega)
            have l2 : decide ((k : Int) < (keep.length : Int)) = true := decide_eq_true (by omega)
            have l3 : (k < keep.length) = True := eq_true hkl
            have l4 : decide (k < keep.length) = true := decide_eq_true hkl
            cases hkb : keep.getD k false with
            | true =>
              rw [hkb] at hcb
              have e : (mendN keep torn cut k : Int) = 512 := by rw [hn, hkb]; rfl
              have hq := part _ rfl
              rw [e] at hq
              clear part ht hn e hkl hca hrk hkb
              go_wp2
              exact hq _ _ _ _ _ _ _ _ _ _ _ _ _ _ _ _ _ _
            | false =>
              rw [hkb] at hcb
              have e : (mendN keep torn cut k : Int) = 0 := by rw [hn, hkb]; rfl
              have hq := part _ rfl
              rw [e] at hq
              clear part ht hn e hkl hca hrk hkb
              go_wp2
              exact hq _ _ _ _ _ _ _ _ _ _ _ _ _ _ _ _ _ _
          · have e : (mendN keep torn cut k : Int) = 0 := by rw [hn, List.getD_eq_getElem?_getD, List.getElem?_eq_none (by omega)]; rfl
            have hq := part _ rfl
            rw [e] at hq
            have l1 : ((k : Int) < (keep.length : Int)) = False := eq_false (by omega)
            have l2 : decide ((k : Int) < (keep.length : Int)) = false := decide_eq_false (by omega)
            have l3 : (k < keep.length) = False := eq_false hkl
            have l4 : decide (k < keep.length) = false := decide_eq_false hkl
            clear part ht hn e hkl
            go_wp2
            exact hq _ _ _ _ _ _ _ _ _ _ _ _ _ _ _ _ _ _
    · have hke : k = s.cache.length := by omega
      subst hke
      have b0 : decide (s.cache.length < s.cache.length) = false := decide_eq_false (by omega)
      have b1 : decide ((s.cache.length : Int) < (s.cache.length : Int)) = false := decide_eq_false (by omega)
      have hb := (HS.out.1.block d HD.out.lt (fun e => HD.out.dM e)).trans HD.out.blk
      have c2r : wr.cell? ⟨d, 2, none⟩ = some (.slice A s.cache.length c) := (blk_cell hb 2).trans rfl
      have f2r := blk_frozen hb 2
      have c3r : wr.cell? ⟨d, 3, none⟩ = some (.int .i64 s.left) := (blk_cell hb 3).trans rfl
      have f3r := blk_frozen hb 3
      have c4r : wr.cell? ⟨d, 4, none⟩ = some (.bool s.down) := (blk_cell hb 4).trans rfl
      have f4r := blk_frozen hb 4
      have HE : Aside0 (DD (((wr.setCell ⟨d, 2, none⟩ (.slice none 0 0)).setCell ⟨d, 3, none⟩ (.int .i64 (-1))).setCell ⟨d, 4, none⟩ (.bool false)) base d M (N + s.cache.length) (.slice none 0 0) (mendS s keep torn cut)) := ⟨{
        bd := HD.out.bd
        bm := HD.out.bm
        blk := blk_put (blk_put (blk_put hb 2 _ rfl) 3 _ rfl) 4 _ rfl
        mp := ((HS.out.2.keep (Below.heap_setCell wr _ _ M (fun e => HD.out.dM e.symm))).keep (Below.heap_setCell _ _ _ M (fun e => HD.out.dM e.symm))).keep (Below.heap_setCell _ _ _ M (fun e => HD.out.dM e.symm))
        row := Kd.R_nil _ _ _ _ _
        tot := by have := HT.out; simpa [mendS] using this
        p1 := HD.out.p1
        p2 := HD.out.p2
        l512 := mendL_len HL5.out (fun x hx => (HC.out x hx).1) _ (Nat.le_refl _)
        c512 := fun x hx => by simp [mendS] at hx
        lf := by simp [mendS] }⟩
      have HE2 : Aside0 (MV d M (.slice A s.cache.length c) (.slice none 0 0) w (((wr.setCell ⟨d, 2, none⟩ (.slice none 0 0)).setCell ⟨d, 3, none⟩ (.int .i64 (-1))).setCell ⟨d, 4, none⟩ (.bool false))) := ⟨(((Kp.wide HS.out.1 (fun j e => .inr (.inl e))).trans (Kp.set (S := FD d M (.slice A s.cache.length c)) wr _ _ (.inl rfl)) (fun j _ e => e)).trans (Kp.set (S := FD d M (.slice A s.cache.length c)) _ _ _ (.inl rfl)) (fun j _ e => e)).trans (Kp.set (S := FD d M (.slice A s.cache.length c)) _ _ _ (.inl rfl)) (fun j _ e => e), fun k hk => by simp [Value.ownBlock] at hk⟩
      clear hlt hk hb
      go_wp2
      go_end0
      exact ⟨⟨_, rfl⟩, HE.out, HE2.out⟩
end Go.Proofs.Ytmjmichkkmmdcaa.P
end
section
namespace Go.Proofs.Ytmjmichkkmmdcaa.P
open Go.RowKit Go.Proofs.YtmjmichkkmmdcaaW.PrintWords Go.Proofs.YtmjmichkkmmdcaaW.PrintLast Go.Proofs.YtmjmichkkmmdcaaW.PrintMore
attribute [local go_sem] max2_int min2_int max_two min_two max_three min_three max_four min_four
set_option linter.unusedVariables false
set_option linter.unusedSimpArgs false
set_option maxRecDepth 100000
structure TF (base : Nat) (w w' : World) : Prop where
  b : Below base w w'
  size : w.heap.size ≤ w'.heap.size
  blk : ∀ (g : Nat) (cs : Array Value) (t : TypeId) (fr : Nat × Nat), w.heap[g]? = some (Obj.cells cs t fr) → t ≠ 96 → t ≠ 98 → w'.heap[g]? = some (Obj.cells cs t fr)
theorem TF.refl (base : Nat) (w : World) : TF base w w := ⟨Below.refl _ _, Nat.le_refl _, fun _ _ _ _ h _ _ => h⟩
theorem TF.trans {base : Nat} {a b c : World} (h : TF base a b) (k : TF base b c) : TF base a c := ⟨h.b.trans k.b, Nat.le_trans h.size k.size, fun g cs t fr hb h1 h2 => k.blk g cs t fr (h.blk g cs t fr hb h1 h2) h1 h2⟩
theorem TF.mono {base base' : Nat} {a b : World} (h : TF base a b) (hb : base' ≤ base) : TF base' a b := ⟨h.b.mono hb, h.size, h.blk⟩
theorem TF.of_below {base : Nat} {a b : World} (h : Below a.heap.size a b) (hb : base ≤ a.heap.size) : TF base a b := ⟨h.mono hb, h.size, fun g cs t fr hg _ _ => blk_below hg h⟩
theorem DD.fd_typed {W : World} {base d M N : Nat} {v : Value} {s : Dk} (h : DD W base d M N v s) {g : Nat} {cs : Array Value} {t : TypeId} {fr : Nat × Nat} (hb : W.heap[g]? = some (.cells cs t fr)) (h1 : t ≠ 96) (h2 : t ≠ 98) : ¬ FD d M v g := by
  rintro (rfl | rfl | e)
  · have := h.blk
    rw [hb] at this
    cases this
    exact h1 rfl
  · obtain ⟨es, clock, hm⟩ := h.mp.blk
    rw [hb] at hm
    cases hm
  · obtain ⟨cells, hc⟩ := Kd.R_typed h.row g e.symm
    rw [hb] at hc
    cases hc
    exact h2 rfl
theorem DD.tf {w w' : World} {base d M N : Nat} {v v' : Value} {s : Dk} (h : DD w base d M N v s) (hm : MV d M v v' w w') : TF base w w' :=
  ⟨h.below hm, hm.kp.size, fun g cs t fr hb h1 h2 => (hm.kp.block g (blk_lt hb) (h.fd_typed hb h1 h2)).trans hb⟩
theorem R_tf {α : Type} {d : Kd α} {e b base : Nat} {ok : Nat → Prop} {w w' : World} {v : Value} {xs : List α} (h : d.R e w b ok v xs) (ht : TF base w w') (hq : ∀ q, q ∈ e :: d.E → q ≠ 96 ∧ q ≠ 98) : d.R e w' b ok v xs := by
  refine Kd.R_mono (Kd.R_move (Kd.R_bound h) (fun k hk => ?_)) (fun _ hk => hk.1)
  obtain ⟨_, _, _, q, hqm, cells, hc⟩ := hk
  rw [hc, ht.blk k cells q _ hc (hq q hqm).1 (hq q hqm).2]
theorem R5_tf {b base : Nat} {ok : Nat → Prop} {w w' : World} {v : Value} {xs : List Int} (h : Kd.R (Kd.int .u8) 5 w b ok v xs) (ht : TF base w w') : Kd.R (Kd.int .u8) 5 w' b ok v xs :=
  R_tf h ht (fun q hq => by simp [Kd.int, Kd.scalar] at hq; subst hq; decide)
def DS (W : World) (base d : Nat) (s : Dk) (C : Nat) : Prop := ∃ M N v, DD W base d M N v s ∧ N + s.cache.length ≤ C
section
variable {w w' : World} {base d C : Nat} {s : Dk}
theorem DS.step (h : DS w base d s C) (hb : Below w.heap.size w w') : DS w' base d s C := by
  obtain ⟨M, N, v, h, hc⟩ := h
  exact ⟨M, N, v, h.step hb, hc⟩
theorem DS.base_le (h : DS w base d s C) : base ≤ w.heap.size := by
  obtain ⟨M, N, v, h, hc⟩ := h
  exact Nat.le_trans h.bd (Nat.le_of_lt h.lt)
theorem DS.tf (h : DS w base d s C) (hb : Below w.heap.size w w') : TF base w w' := TF.of_below hb h.base_le
theorem DS.more {C' : Nat} (h : DS w base d s C) (hC : C ≤ C') : DS w base d s C' := by
  obtain ⟨M, N, v, h, hc⟩ := h
  exact ⟨M, N, v, h, Nat.le_trans hc hC⟩
theorem DS.p1 (h : DS w base d s C) : 1 ≤ s.pages := by obtain ⟨M, N, v, h, hc⟩ := h; exact h.p1
theorem DS.l512 (h : DS w base d s C) : ∀ i, (s.last i).length = 512 := by obtain ⟨M, N, v, h, hc⟩ := h; exact h.l512
theorem DS.c512 (h : DS w base d s C) : ∀ x ∈ s.cache, x.2.length = 512 ∧ 0 ≤ x.1 ∧ x.1 < s.pages := by obtain ⟨M, N, v, h, hc⟩ := h; exact h.c512
theorem DS.has_len (h : DS w base d s C) (n : Int) : (hasP s n).length = 512 := hasP_len h.l512 (fun x hx => (h.c512 x hx).1) n
end
theorem ds_new (p : Int) (h0 : 1 ≤ p) (h1 : p ≤ 4096) (w : World) :
    Calls Try.prog 30 #[.int .i64 p] w fun e w' => ∃ d, e = .returned (.tuple #[.pointer (some ⟨d, 0, none⟩), .int .i64 0]) ∧ DS w' w.heap.size d (newS p) 0 ∧ Below w.heap.size w w' :=
  (new_calls p h0 h1 w).mono fun e w' ⟨d, M, he, hd, hb⟩ => ⟨d, he, ⟨M, 0, _, hd, by simp [newS]⟩, hb⟩
def writeE (s : Dk) (n : Int) (b : List Int) : Int := if lookP s n ≠ 0 then lookP s n else if b.length ≠ 512 then 3 else if s.left = 0 then 9 else 0
def writeD (s : Dk) (n : Int) (b : List Int) : Dk := if lookP s n ≠ 0 then s else if b.length ≠ 512 then s else if s.left = 0 then stepS s else writeS s n b
theorem row_range {w : World} {b g cap : Nat} {ok : Nat → Prop} {xs : List Int} (h : Kd.R (Kd.int .u8) 5 w b ok (.slice (some ⟨g, 0, none⟩) xs.length cap) xs) : w.rangeAt g 0 (bvs xs) := by
  intro j u hj
  have hlt : j < xs.length := by
    have := (List.getElem?_eq_some_iff.1 hj).1
    rwa [bvs_len] at this
  have hc := (Kd.R_celln 0 h (j : Int) (by omega) (by omega)).1
  rw [Int.toNat_natCast] at hc
  rw [Nat.zero_add, hc]
  simp only [bvs, List.getElem?_map, List.getElem?_eq_getElem hlt, Option.map_some, Option.some.injEq] at hj
  rw [← hj]
  simp [rdOf, List.getElem?_eq_getElem hlt]
theorem ds_write {base d C : Nat} {s : Dk} (n : Int) (own : Value) (b : List Int) {b2 : Nat} {ok : Nat → Prop} (w : World) (h : DS w base d s C) (hC : C < 1073741824) (ho : Kd.R (Kd.int .u8) 5 w b2 ok own b) :
    Calls Try.prog 18 #[.pointer (some ⟨d, 0, none⟩), .int .i64 n, own] w fun e w' => e = .returned (.int .i64 (writeE s n b)) ∧ DS w' base d (writeD s n b) (C + 1) ∧ TF base w w' := by
  obtain ⟨M, N, v, h, hc⟩ := h
  have hbl : base ≤ w.heap.size := Nat.le_trans h.bd (Nat.le_of_lt h.lt)
  unfold writeE writeD
  by_cases hl : lookP s n ≠ 0
  · rw [if_pos hl, if_pos hl]
    obtain ⟨A, c, e⟩ := Kd.R_slice ho
    subst e
    exact (write_look n A b.length c hl w h).mono fun e w' ⟨he, hb⟩ => ⟨he, ⟨M, N, v, h.step hb, by omega⟩, TF.of_below hb hbl⟩
  · rw [if_neg hl, if_neg hl]
    have hl0 : lookP s n = 0 := Decidable.not_not.1 hl
    by_cases h5 : b.length ≠ 512
    · rw [if_pos h5, if_pos h5]
      obtain ⟨A, c, e⟩ := Kd.R_slice ho
      subst e
      exact (write_len n A b.length c hl0 h5 w h).mono fun e w' ⟨he, hb⟩ => ⟨he, ⟨M, N, v, h.step hb, by omega⟩, TF.of_below hb hbl⟩
    · rw [if_neg h5, if_neg h5]
      have h50 : b.length = 512 := Decidable.not_not.1 h5
      by_cases hs : s.left = 0
      · rw [if_pos hs, if_pos hs]
        obtain ⟨A, c, e⟩ := Kd.R_slice ho
        subst e
        rw [h50]
        exact (write_down n A c hl0 hs w h).mono fun e w' ⟨he, hd, hm⟩ => ⟨he, ⟨M, N, v, hd, by rw [stepS_cache]; omega⟩, h.tf hm⟩
      · rw [if_neg hs, if_neg hs]
        obtain ⟨g, cap, e, _, hg, cells, hcell⟩ := Kd.R_form ho (by omega)
        subst e
        have hr := row_range ho
        rw [h50]
        exact (write_ok n b g cap hl0 h50 hs w h (by omega) hg (h.fd_typed hcell (by decide) (by decide)) hr).mono fun e w' ⟨he, v', hd, hm⟩ => ⟨he, ⟨M, N, v', hd, by simp [writeS]; omega⟩, h.tf hm⟩
def syncE (s : Dk) : Int := if s.down = true then 9 else if s.left = 0 then 9 else 0
def syncD (s : Dk) : Dk := if s.down = true then s else if s.left = 0 then stepS s else syncS s
theorem ds_sync {base d C : Nat} {s : Dk} (w : World) (h : DS w base d s C) :
    Calls Try.prog 40 #[.pointer (some ⟨d, 0, none⟩)] w fun e w' => e = .returned (.int .i64 (syncE s)) ∧ DS w' base d (syncD s) C ∧ TF base w w' := by
  obtain ⟨M, N, v, h, hc⟩ := h
  have hbl : base ≤ w.heap.size := Nat.le_trans h.bd (Nat.le_of_lt h.lt)
  unfold syncE syncD
  by_cases hd : s.down = true
  · rw [if_pos hd, if_pos hd]
    exact (sync_down hd w h).mono fun e w' ⟨he, hb⟩ => ⟨he, ⟨M, N, v, h.step hb, hc⟩, TF.of_below hb hbl⟩
  · rw [if_neg hd, if_neg hd]
    have hd0 : s.down = false := by simpa using hd
    by_cases hs : s.left = 0
    · rw [if_pos hs, if_pos hs]
      exact (sync_fail hd0 hs w h).mono fun e w' ⟨he, hd, hm⟩ => ⟨he, ⟨M, N, v, hd, by rw [stepS_cache]; exact hc⟩, h.tf hm⟩
    · rw [if_neg hs, if_neg hs]
      exact (sync_ok hd0 hs w h).mono fun e w' ⟨he, hd, hm⟩ => ⟨he, ⟨M, _, _, hd, by simpa [syncS] using hc⟩, h.tf hm⟩
theorem ds_mend {base d C : Nat} {s : Dk} (A2 : Option Addr) (c3 : Nat) (keep : List Bool) (torn cut : Int) (w : World) (h : DS w base d s C) (hkr : Kd.C Kd.bool w A2 keep.length keep) :
    Calls Try.prog 29 #[.pointer (some ⟨d, 0, none⟩), .slice A2 keep.length c3, .int .i64 torn, .int .i64 cut] w fun e w' => (∃ u, e = .returned u) ∧ DS w' base d (mendS s keep torn cut) C ∧ TF base w w' := by
  obtain ⟨M, N, v, h, hc⟩ := h
  have hkm : keep ≠ [] → ∀ a, A2 = some a → a.block ≠ M := by
    rintro hne a rfl e
    have hpos : 0 < keep.length := List.length_pos_iff.2 hne
    obtain ⟨ad, e1, hcell⟩ := Kd.at_bool hkr 0 (by omega) (by omega)
    injection e1 with e1
    subst e1
    obtain ⟨es, clock, hm⟩ := h.mp.blk
    have hb : (a.add (0 : Int).toNat).block = M := by rw [← e]; unfold Addr.add; split <;> rfl
    unfold World.cell? at hcell
    rw [hb, hm] at hcell
    cases hcell
  exact (mend_calls A2 c3 keep torn cut w h hkr hkm).mono fun e w' ⟨he, hd, hm⟩ => ⟨he, ⟨M, _, _, hd, by simpa [mendS] using hc⟩, h.tf hm⟩
theorem ds_read {base d C : Nat} {s : Dk} (n : Int) (w : World) (h : DS w base d s C) :
    Calls Try.prog 17 #[.pointer (some ⟨d, 0, none⟩), .int .i64 n] w fun e w' => ∃ v, e = .returned (.tuple #[v, .int .i64 (lookP s n)]) ∧ Below w.heap.size w w' ∧
      ((lookP s n ≠ 0 ∧ v = .slice none 0 0) ∨ (lookP s n = 0 ∧ ∃ g, w.heap.size ≤ g ∧ v = .slice (some ⟨g, 0, none⟩) 512 512 ∧ w'.heap[g]? = some (.cells (bvs (hasP s n)).toArray 91 (0, 0)))) := by
  obtain ⟨M, N, v, h, hc⟩ := h
  by_cases hl : lookP s n = 0
  · rw [hl]
    exact (read_ok n hl w h).mono fun e w' ⟨g, hg, he, hc, hb⟩ => ⟨_, he, hb, .inr ⟨rfl, g, hg, rfl, hc⟩⟩
  · exact (read_bad n hl w h).mono fun e w' ⟨he, hb⟩ => ⟨_, he, hb, .inl ⟨hl, rfl⟩⟩
theorem ds_arm {base d C : Nat} {s : Dk} (n : Int) (hn : n < 9223372036854775808) (w : World) (h : DS w base d s C) :
    Calls Try.prog 27 #[.pointer (some ⟨d, 0, none⟩), .int .i64 n] w fun e w' => (∃ u, e = .returned u) ∧ DS w' base d { s with left := max (-1) n } C ∧ TF base w w' := by
  obtain ⟨M, N, v, h, hc⟩ := h
  exact (arm_calls n hn w h).mono fun e w' ⟨he, hd, hm⟩ => ⟨he, ⟨M, _, _, hd, hc⟩, h.tf hm⟩
theorem ds_down {base d C : Nat} {s : Dk} (w : World) (h : DS w base d s C) :
    Calls Try.prog 28 #[.pointer (some ⟨d, 0, none⟩)] w fun e w' => e = .returned (.bool s.down) ∧ Below w.heap.size w w' := by
  obtain ⟨M, N, v, h, hc⟩ := h
  exact down_calls w h
theorem ds_pages {base d C : Nat} {s : Dk} (w : World) (h : DS w base d s C) :
    Calls Try.prog 43 #[.pointer (some ⟨d, 0, none⟩)] w fun e w' => e = .returned (.int .i64 s.pages) ∧ Below w.heap.size w w' := by
  obtain ⟨M, N, v, h, hc⟩ := h
  exact pages_calls w h
end Go.Proofs.Ytmjmichkkmmdcaa.P
end
section
namespace Go.Proofs.Ytmjmichkkmmdcaa.P
open Go.RowKit Go.Proofs.YtmjmichkkmmdcaaW.PrintWords Go.Proofs.YtmjmichkkmmdcaaW.PrintLast Go.Proofs.YtmjmichkkmmdcaaW.PrintMore
attribute [local go_sem] max2_int min2_int max_two min_two max_three min_three max_four min_four
set_option linter.unusedVariables false
set_option linter.unusedSimpArgs false
set_option maxRecDepth 100000
theorem u25p : Try.prog.underlying 28 = some (.pointer (Try.prog.pointee 28)) := by kernel_rfl
theorem guard_ptr (op : BinOp) (t : TypeId) (x y : Operand) (a b : Option Addr) (w : World) : (eqGuard op t x y (.pointer a) (.pointer b)).run Try.prog w = .ok () w := by cases op <;> rfl
theorem eql_ptr (p : Addr) (w : World) : (binOp .eql 28 (.pointer (some p)) (.pointer none)).run Try.prog w = .ok (.bool false) w := run_eql_pointer_nil w 28 (some p) u25p
theorem neq_ptr (p : Addr) (w : World) : (binOp .neq 28 (.pointer (some p)) (.pointer none)).run Try.prog w = .ok (.bool true) w := run_neq_pointer_nil w 28 (some p) u25p
attribute [local go_sem] guard_ptr eql_ptr neq_ptr
end Go.Proofs.Ytmjmichkkmmdcaa.P
end
section
namespace Go.Proofs.Ytmjmichkkmmdcaa.P
open Go.RowKit Go.Proofs.YtmjmichkkmmdcaaW.PrintWords Go.Proofs.YtmjmichkkmmdcaaW.PrintLast Go.Proofs.YtmjmichkkmmdcaaW.PrintMore
set_option linter.unusedVariables false
set_option linter.unusedSimpArgs false
set_option maxRecDepth 100000
structure S32 where
  f0 : Int
  f1 : Int
  f2 : Int
  f3 : List Int
  f4 : Bool
  f5 : List Bool
  f6 : Int
  f7 : Int
end Go.Proofs.Ytmjmichkkmmdcaa.P
end
section
namespace Go.Proofs.Ytmjmichkkmmdcaa.P
open Go.RowKit Go.Proofs.YtmjmichkkmmdcaaW.PrintWords Go.Proofs.YtmjmichkkmmdcaaW.PrintLast Go.Proofs.YtmjmichkkmmdcaaW.PrintMore
set_option linter.unusedVariables false
set_option linter.unusedSimpArgs false
set_option maxRecDepth 100000
def modU (m : Int) (a : Int) : Int := wrap64 ((IntKind.u64.wrap a).tmod m)
theorem modU_range (m : Int) (h0 : 0 < m) (h1 : m ≤ 1000) (a : Int) : 0 ≤ modU m a ∧ modU m a < m := by
  have hu : 0 ≤ IntKind.u64.wrap a := by
    have := IntKind.wrap_u64 a
    rw [this]
    omega
  have ht : (IntKind.u64.wrap a).tmod m = (IntKind.u64.wrap a) % m := Int.tmod_eq_emod_of_nonneg hu
  have h2 := Int.emod_nonneg (IntKind.u64.wrap a) (show m ≠ 0 by omega)
  have h3 := Int.emod_lt_of_pos (IntKind.u64.wrap a) h0
  unfold modU
  rw [ht]
  unfold wrap64
  omega
theorem stepS_free {s : Dk} (h : s.left = -1) : stepS s = s := by
  unfold stepS
  rw [if_neg (by omega), if_neg (by omega)]
theorem lookP_ok' {s : Dk} {n : Int} (hd : s.down = false) (h0 : 0 ≤ n) (h1 : n < s.pages) : lookP s n = 0 := by
  unfold lookP
  rw [if_neg (by simp [hd]), if_neg (by omega)]
theorem writeE_ok {s : Dk} {n : Int} {b : List Int} (hd : s.down = false) (h0 : 0 ≤ n) (h1 : n < s.pages) (hb : b.length = 512) (hl : s.left ≠ 0) : writeE s n b = 0 := by
  unfold writeE
  rw [lookP_ok' hd h0 h1, if_neg (by simp), if_neg (by omega), if_neg hl]
theorem writeD_ok {s : Dk} {n : Int} {b : List Int} (hd : s.down = false) (h0 : 0 ≤ n) (h1 : n < s.pages) (hb : b.length = 512) (hl : s.left ≠ 0) : writeD s n b = writeS s n b := by
  unfold writeD
  rw [lookP_ok' hd h0 h1, if_neg (by simp), if_neg (by omega), if_neg hl]
theorem hasP_last {s : Dk} {n : Int} (h : ∀ x ∈ s.cache, x.1 ≠ n) : hasP s n = s.last n := by
  unfold hasP
  rw [List.find?_eq_none.2 (fun x hx => by simpa using h x (List.mem_reverse.1 hx))]
end Go.Proofs.Ytmjmichkkmmdcaa.P
end
section
namespace Go.Proofs.Ytmjmichkkmmdcaa.P
open Go.RowKit Go.Proofs.YtmjmichkkmmdcaaW.PrintWords Go.Proofs.YtmjmichkkmmdcaaW.PrintLast Go.Proofs.YtmjmichkkmmdcaaW.PrintMore
attribute [local go_sem] max2_int min2_int max_two min_two max_three min_three max_four min_four
attribute [local go_sem] guard_ptr eql_ptr neq_ptr
set_option linter.unusedVariables false
set_option linter.unusedSimpArgs false
set_option maxRecDepth 100000
end Go.Proofs.Ytmjmichkkmmdcaa.P
end
section
namespace Go.Proofs.Ytmjmichkkmmdcaa.P
open Go.RowKit Go.Proofs.YtmjmichkkmmdcaaW.PrintWords Go.Proofs.YtmjmichkkmmdcaaW.PrintLast Go.Proofs.YtmjmichkkmmdcaaW.PrintMore
set_option linter.unusedVariables false
set_option linter.unusedSimpArgs false
set_option maxRecDepth 100000
set_option maxRecDepth 4000
theorem row_string {W : World} {b2 L : Nat} {A : Option Addr} {cap : Nat} {ok : Nat → Prop} {b : List Int} (ho : Kd.R (Kd.int .u8) 5 W b2 ok (.slice A L cap) b) : (convert 22 9 (.slice A L cap)).run Try.prog W = .ok (.string (strOfNums b)) W := by
  obtain ⟨h1, h2, h3⟩ := Kd.R_reads' ho
  rw [h1]
  exact Kd.C_string Try.underlying22 Try.underlying5 Try.underlying9 h3
end Go.Proofs.Ytmjmichkkmmdcaa.P
end
section
namespace Go.Proofs.Ytmjmichkkmmdcaa.P
open Go.RowKit Go.Proofs.YtmjmichkkmmdcaaW.PrintWords Go.Proofs.YtmjmichkkmmdcaaW.PrintLast Go.Proofs.YtmjmichkkmmdcaaW.PrintMore
attribute [local go_sem] max2_int min2_int max_two min_two max_three min_three max_four min_four
set_option linter.unusedVariables false
set_option linter.unusedSimpArgs false
set_option maxRecDepth 100000
theorem DS.setb {W : World} {base d C : Nat} {s : Dk} (h : DS W base d s C) {g : Nat} {cs : Array Value} {t : TypeId} {fr : Nat × Nat} (hb : W.heap[g]? = some (.cells cs t fr)) (h1 : t ≠ 96) (h2 : t ≠ 98) (i : Nat) (u : Value) : DS (W.setCell ⟨g, i, none⟩ u) base d s C := by
  obtain ⟨M, N, v, h, hc⟩ := h
  exact ⟨M, N, v, h.keep (Kp.set (S := fun k => k = g) W ⟨g, i, none⟩ u rfl) (fun k hk e => h.fd_typed hb h1 h2 (e ▸ hk)), hc⟩
theorem build30 (w : World) : (Instr.buildSlice 22 0 #[]).run Try.prog w = .ok (.slice (some ⟨w.heap.size, 0, none⟩) 0 0) (w.alloc (.cells #[] 5)) := by
  simp [Instr.buildSlice, Sem.run_bind, run_underlying Try.underlying22, size5, Instr.fill, newRow, Result.andThen]
  rw [show Array.range 0 = #[] by decide, List.map_toArray]
  rfl
theorem run_empty30 {ρ : Operand → Value} {op : Oper} (ho : op.op = .buildSlice 22 0 #[]) (w : World) : (execOp ρ op).run Try.prog w = .ok (.value (.slice (some ⟨w.heap.size, 0, none⟩) 0 0)) (w.alloc (.cells #[] 5)) := by
  unfold execOp
  simp only [ho, List.map_toArray, List.map_nil, Sem.run_bind, build30, Result.andThen_ok, Sem.run_pure]
end Go.Proofs.Ytmjmichkkmmdcaa.P
end
section
namespace Go.Proofs.Ytmjmichkkmmdcaa.P
open Go.RowKit Go.Proofs.YtmjmichkkmmdcaaW.PrintWords Go.Proofs.YtmjmichkkmmdcaaW.PrintLast Go.Proofs.YtmjmichkkmmdcaaW.PrintMore
set_option linter.unusedVariables false
set_option linter.unusedSimpArgs false
set_option maxRecDepth 100000
def PgV (W : World) (B : Nat) (u : Value) (p : List Int) : Prop := p.length = 512 ∧ ∃ (g c : Nat) (cs : Array Value), u = .slice (some ⟨g, 0, none⟩) 512 c ∧ B ≤ g ∧ W.heap[g]? = some (.cells cs 5 (0, 0)) ∧ ∀ (i : Nat) (x : Int), p[i]? = some x → cs[i]? = some (Value.int .u8 x)
def RowV (W : World) (B g : Nat) (v : Value) (xs : List (List Int)) : Prop := ∃ (off cap : Nat) (cells : Array Value), v = .slice (some ⟨g, off, none⟩) xs.length cap ∧ xs.length ≤ cap ∧ off + cap ≤ cells.size ∧ B ≤ g ∧ W.heap[g]? = some (.cells cells 22 (0, 0)) ∧
  ∀ (j : Nat) (p : List Int), xs[j]? = some p → ∃ u, cells[off + j]? = some u ∧ PgV W B u p
def KeepT (W W' : World) : Prop := ∀ (b : Nat) (cs : Array Value) (t : TypeId) (fr : Nat × Nat), W.heap[b]? = some (Obj.cells cs t fr) → t ≠ 96 → t ≠ 98 → W'.heap[b]? = some (Obj.cells cs t fr)
theorem keepT_below {W W' : World} (h : Below W.heap.size W W') : KeepT W W' := fun b cs t fr hb _ _ => blk_below hb h
theorem PgV.keep {W W' : World} {B : Nat} {u : Value} {p : List Int} (h : PgV W B u p) (hk : KeepT W W') : PgV W' B u p := by
  obtain ⟨h0, g, c, cs, e, hb, hc, hx⟩ := h
  exact ⟨h0, g, c, cs, e, hb, hk _ _ _ _ hc (by decide) (by decide), hx⟩
theorem RowV.keep {W W' : World} {B g : Nat} {v : Value} {xs : List (List Int)} (h : RowV W B g v xs) (hk : KeepT W W') : RowV W' B g v xs := by
  obtain ⟨off, cap, cells, e, h1, h2, h4, hc, hx⟩ := h
  refine ⟨off, cap, cells, e, h1, h2, h4, hk _ _ _ _ hc (by decide) (by decide), fun j p hj => ?_⟩
  obtain ⟨u, hu, hp⟩ := hx j p hj
  exact ⟨u, hu, hp.keep hk⟩
theorem DS.kp {W W' : World} {base d C : Nat} {s : Dk} {S : Nat → Prop} (h : DS W base d s C) (hk : Kp S W W') (hS : ∀ k, S k → ∃ (cs : Array Value) (t : TypeId) (fr : Nat × Nat), W.heap[k]? = some (Obj.cells cs t fr) ∧ t ≠ 96 ∧ t ≠ 98) : DS W' base d s C := by
  obtain ⟨M, N, v, h, hc⟩ := h
  refine ⟨M, N, v, h.keep hk (fun k hf hs => ?_), hc⟩
  obtain ⟨cs, t, fr, hb, h1, h2⟩ := hS k hs
  exact h.fd_typed hb h1 h2 hf
theorem info30 : (Try.prog.info? 22).map (fun i => (i.zero, i.size, i.bytes)) = some (some (.slice none 0 0), 1, 24) := by kernel_rfl
theorem RowV.append {W : World} {B g : Nat} {v : Value} {xs : List (List Int)} (h : RowV W B g v xs) (hx0 : 0 < xs.length) (hx1 : xs.length ≤ 1000) {bs : Nat} {u : Value} {p : List Int} (hu : PgV W B u p) (hb : W.heap[bs]? = some (.cells #[u] 22 (0, 0))) (hB : B ≤ W.heap.size) :
    ∃ v' W' g', (∀ ty, (Builtin.append_ #[40, 40] ty #[v, .slice (some ⟨bs, 0, none⟩) 1 1]).run Try.prog W = .ok v' W') ∧ RowV W' B g' v' (xs ++ [p]) ∧ (g' = g ∨ W.heap.size ≤ g') ∧ Kp (fun k => k = g) W W' ∧
      (∀ b cs t fr, W.heap[b]? = some (Obj.cells cs t fr) → b ≠ g → W'.heap[b]? = some (Obj.cells cs t fr)) := by
  obtain ⟨off, cap, cells, rfl, h1, h2, h4, hc, hx⟩ := h
  have hi := info30
  cases hif : Try.prog.info? 22 with
  | none => rw [hif] at hi; cases hi
  | some it =>
    rw [hif] at hi
    simp only [Option.map_some, Option.some.injEq, Prod.mk.injEq] at hi
    obtain ⟨i1, i2, i3⟩ := hi
    obtain ⟨hpl, gp, cp, csp, eu, hBp, hgp, hbp⟩ := hu
    have hone : u.oneCell' = true := by rw [eu]; rfl
    have hgsz : g < W.heap.size := blk_lt hc
    have hnews : ∀ j z, [u][j]? = some z → W.cell? ((⟨bs, 0, none⟩ : Addr).add j) = some z := fun j z hj => by
      rw [Addr.add_mid, Nat.zero_add]
      refine (blk_cell hb j).trans ?_
      simpa using hj
    by_cases hroom : xs.length + 1 ≤ cap
    · have hlt : off + xs.length < cells.size := by omega
      have hrun := fun ty => run_append_room_cells (P := Try.prog) W 40 ty 22 it Try.underlying40 hif g off xs.length cap ⟨bs, 0, none⟩ 1 1 [u] (by rw [i2]; rfl) hnews (fun z hz => by rw [List.mem_singleton.1 hz]; exact hone) hroom
        (fun j hj => by
          have : j = 0 := by simpa using hj
          subst this
          rw [i2, Nat.mul_one, Nat.add_zero, blk_cell hc (off + xs.length), Array.getElem?_eq_getElem hlt]
          rfl) (fun j hj => blk_frozen hc _)
      rw [i2, Nat.mul_one] at hrun
      have hset : W.setCells g (off + xs.length) [u] = W.setCell ⟨g, off + xs.length, none⟩ u := rfl
      rw [hset] at hrun
      have hkp : Kp (fun k => k = g) W (W.setCell ⟨g, off + xs.length, none⟩ u) := Kp.set (S := fun k => k = g) W ⟨g, off + xs.length, none⟩ u rfl
      have hblk : (W.setCell ⟨g, off + xs.length, none⟩ u).heap[g]? = some (.cells (cells.setIfInBounds (off + xs.length) u) 22 (0, 0)) := blk_put hc _ u rfl
      have hoth : ∀ b cs t fr, W.heap[b]? = some (Obj.cells cs t fr) → b ≠ g → (W.setCell ⟨g, off + xs.length, none⟩ u).heap[b]? = some (Obj.cells cs t fr) := fun b cs t fr hbb hne => (Below.heap_setCell W _ u b hne).trans hbb
      have hpg : ∀ z q, PgV W B z q → PgV (W.setCell ⟨g, off + xs.length, none⟩ u) B z q := fun z q ⟨q0, gq, cq, csq, eq, hBq, hgq, hbq⟩ =>
        ⟨q0, gq, cq, csq, eq, hBq, hoth gq csq 5 (0, 0) hgq (fun e => by rw [e, hc] at hgq; cases hgq), hbq⟩
      refine ⟨_, _, g, hrun, ⟨off, cap, _, by rw [List.length_append]; rfl, by rw [List.length_append]; exact hroom, by rw [Array.size_setIfInBounds]; exact h2, h4, hblk, fun j q hj => ?_⟩, .inl rfl, hkp, hoth⟩
      by_cases hjl : j < xs.length
      · rw [List.getElem?_append_left hjl] at hj
        obtain ⟨z, hz, hq⟩ := hx j q hj
        exact ⟨z, by rw [Array.getElem?_setIfInBounds_ne (by omega)]; exact hz, hpg z q hq⟩
      · have hjx : j = xs.length := by
          have := (List.getElem?_eq_some_iff.1 hj).1
          simp at this
          omega
        subst hjx
        have : q = p := by simpa using hj.symm
        subst this
        exact ⟨u, by rw [Array.getElem?_setIfInBounds_self, if_pos hlt], hpg u q ⟨hpl, gp, cp, csp, eu, hBp, hgp, hbp⟩⟩
    · have hcapx : cap = xs.length := by omega
      obtain ⟨olds, holds⟩ : ∃ olds, olds = (cells.toList.drop off).take xs.length := ⟨_, rfl⟩
      have hol : olds.length = xs.length := by
        have hcl : cells.toList.length = cells.size := Array.length_toList
        rw [holds, List.length_take, List.length_drop, hcl]
        omega
      have hoc : ∀ j z, olds[j]? = some z → W.cell? ((⟨g, off, none⟩ : Addr).add j) = some z := fun j z hj => by
        rw [Addr.add_mid]
        refine (blk_cell hc (off + j)).trans ?_
        rw [holds, List.getElem?_take, List.getElem?_drop] at hj
        split at hj
        · simpa using hj
        · cases hj
      have hfit : Builtin.nextslicecap (xs.length + 1) cap * it.bytes ≤ 281474976710656 := by
        rw [i3]
        exact growslice_fits (by omega) (by omega)
      have hrun := fun ty => run_append_grow (P := Try.prog) W 40 ty 22 it (.slice none 0 0) Try.underlying40 hif i1 ⟨g, off, none⟩ xs.length cap olds (by rw [i2, Nat.mul_one]; exact hol) hoc ⟨bs, 0, none⟩ 1 1 [u] (by rw [i2]; rfl) hnews (by omega) (by omega) hfit
      have hge := grownCap_ge W (xs.length + 1) cap 22
      obtain ⟨G, hG⟩ : ∃ G, G = grownCap W (xs.length + 1) cap 22 := ⟨_, rfl⟩
      rw [← hG] at hrun hge
      have hbel : Below W.heap.size W (W.drew.alloc (.cells (olds.toArray ++ [u].toArray ++ Builtin.zeroCells (Value.slice none 0 0).cells (G - (xs.length + 1))) 22)) := below_alloc (below_drew1 (Below.refl _ _)) _
      have hnew := Deep.blk_alloc_new W.drew (.cells (olds.toArray ++ [u].toArray ++ Builtin.zeroCells (Value.slice none 0 0).cells (G - (xs.length + 1))) 22)
      have hz : (Value.slice none 0 0).cells.size = 1 := rfl
      refine ⟨_, _, W.heap.size, hrun, ⟨0, G, _, by rw [List.length_append]; rfl, by rw [List.length_append]; exact hge, ?_, hB, hnew, fun j q hj => ?_⟩, .inr (Nat.le_refl _), Kp.of_below hbel, fun b cs t fr hbb _ => blk_below hbb hbel⟩
      · simp only [Array.size_append, List.size_toArray, size_zeroCells, hz, hol, List.length_cons, List.length_nil]
        omega
      · rw [Nat.zero_add]
        by_cases hjl : j < xs.length
        · rw [List.getElem?_append_left hjl] at hj
          obtain ⟨z, hz, hq⟩ := hx j q hj
          refine ⟨z, ?_, hq.keep (keepT_below hbel)⟩
          rw [Array.getElem?_append_left (by simp [hol]; omega), Array.getElem?_append_left (by simp [hol]; exact hjl)]
          rw [List.getElem?_toArray, holds, List.getElem?_take, if_pos hjl, List.getElem?_drop]
          simpa using hz
        · have hjx : j = xs.length := by
            have := (List.getElem?_eq_some_iff.1 hj).1
            simp at this
            omega
          subst hjx
          have : q = p := by simpa using hj.symm
          subst this
          refine ⟨u, ?_, PgV.keep ⟨hpl, gp, cp, csp, eu, hBp, hgp, hbp⟩ (keepT_below hbel)⟩
          rw [Array.getElem?_append_left (by simp [hol]), Array.getElem?_append_right (by simp [hol])]
          simp [hol]
end Go.Proofs.Ytmjmichkkmmdcaa.P
end
section
namespace Go.Proofs.Ytmjmichkkmmdcaa.P
open Go.RowKit Go.Proofs.YtmjmichkkmmdcaaW.PrintWords Go.Proofs.YtmjmichkkmmdcaaW.PrintLast Go.Proofs.YtmjmichkkmmdcaaW.PrintMore
set_option linter.unusedVariables false
set_option linter.unusedSimpArgs false
set_option maxRecDepth 100000
set_option maxRecDepth 4000
theorem write_way {s : Dk} {q : Int} {b : List Int} : (writeE s q b = 0 ∧ (writeD s q b).last = s.last ∧ (writeD s q b).cache = s.cache ++ [(q, b)]) ∨ (writeE s q b ≠ 0 ∧ (writeD s q b).last = s.last ∧ (writeD s q b).cache = s.cache) := by
  unfold writeE writeD
  by_cases h1 : lookP s q ≠ 0
  · rw [if_pos h1, if_pos h1]
    exact .inr ⟨h1, rfl, rfl⟩
  · rw [if_neg h1, if_neg h1]
    by_cases h2 : b.length ≠ 512
    · rw [if_pos h2, if_pos h2]
      exact .inr ⟨by decide, rfl, rfl⟩
    · rw [if_neg h2, if_neg h2]
      by_cases h3 : s.left = 0
      · rw [if_pos h3, if_pos h3]
        exact .inr ⟨by decide, stepS_last s, stepS_cache s⟩
      · rw [if_neg h3, if_neg h3]
        exact .inl ⟨rfl, stepS_last s, rfl⟩
theorem write_pages (s : Dk) (q : Int) (b : List Int) : (writeD s q b).pages = s.pages := by
  unfold writeD
  split
  · rfl
  · split
    · rfl
    · split
      · exact stepS_pages s
      · exact stepS_pages s
theorem sync_pages (s : Dk) : (syncD s).pages = s.pages := by
  unfold syncD
  split
  · rfl
  · split
    · exact stepS_pages s
    · exact stepS_pages s
theorem hasP_last_all (s : Dk) (n : Int) : hasP s n = lastS s s.cache.length n := by
  unfold hasP lastS
  rw [List.take_length]
  have key : ∀ (l : List (Int × List Int)) (f : Int → List Int), (match l.find? (fun x => decide (x.1 = n)) with | some x => x.2 | none => f n) = (l.reverse.foldl (fun f x => upd f x.1 x.2) f) n := by
    intro l
    induction l with
    | nil => intro f; rfl
    | cons x l ih =>
      intro f
      rw [List.reverse_cons, List.foldl_append, List.find?_cons]
      simp only [List.foldl_cons, List.foldl_nil]
      by_cases h : x.1 = n
      · have : decide (x.1 = n) = true := decide_eq_true h
        simp only [this]
        unfold upd
        rw [if_pos h.symm]
      · have : decide (x.1 = n) = false := decide_eq_false h
        simp only [this]
        unfold upd
        rw [if_neg (fun e => h e.symm)]
        exact ih f
  have := key s.cache.reverse s.last
  rw [List.reverse_reverse] at this
  exact this
end Go.Proofs.Ytmjmichkkmmdcaa.P
end
section
namespace Go.Proofs.Ytmjmichkkmmdcaa.P
open Go.RowKit Go.Proofs.YtmjmichkkmmdcaaW.PrintWords Go.Proofs.YtmjmichkkmmdcaaW.PrintLast Go.Proofs.YtmjmichkkmmdcaaW.PrintMore
set_option linter.unusedVariables false
set_option linter.unusedSimpArgs false
set_option maxRecDepth 100000
def KeepX (W W' : World) (x : Nat) : Prop := ∀ (b : Nat) (cs : Array Value) (t : TypeId) (fr : Nat × Nat), W.heap[b]? = some (Obj.cells cs t fr) → b ≠ x → W'.heap[b]? = some (Obj.cells cs t fr)
theorem PgV.keepX {W W' : World} {B x : Nat} {u : Value} {p : List Int} (h : PgV W B u p) (hk : KeepX W W' x) {cs : Array Value} {t : TypeId} {fr : Nat × Nat} (hx : W.heap[x]? = some (.cells cs t fr)) (ht : t ≠ 5) : PgV W' B u p := by
  obtain ⟨h0, g, c, ds, e, hb, hc, hy⟩ := h
  refine ⟨h0, g, c, ds, e, hb, hk _ _ _ _ hc (fun e => ?_), hy⟩
  rw [e, hx] at hc
  cases hc
  exact ht rfl
theorem RowV.keepX {W W' : World} {B g x : Nat} {v : Value} {xs : List (List Int)} (h : RowV W B g v xs) (hk : KeepX W W' x) {cs : Array Value} {t : TypeId} {fr : Nat × Nat} (hx : W.heap[x]? = some (.cells cs t fr)) (ht : t ≠ 5) (hg : g ≠ x) : RowV W' B g v xs := by
  obtain ⟨off, cap, cells, e, h1, h2, h4, hc, hy⟩ := h
  refine ⟨off, cap, cells, e, h1, h2, h4, hk _ _ _ _ hc hg, fun j p hj => ?_⟩
  obtain ⟨u, hu, hp⟩ := hy j p hj
  exact ⟨u, hu, hp.keepX hk hx ht⟩
theorem keepX_set (W : World) (a : Addr) (u : Value) : KeepX W (W.setCell a u) a.block := fun b cs t fr hb hne => (Below.heap_setCell W a u b hne).trans hb
theorem RowV.last {W : World} {B g : Nat} {v : Value} {xs : List (List Int)} (h : RowV W B g v xs) (h0 : 0 < xs.length) : ∃ off cap, v = .slice (some ⟨g, off, none⟩) xs.length cap ∧ xs.length ≤ cap ∧ RowV W B g (.slice (some ⟨g, off + (xs.length - 1), none⟩) 1 (cap - (xs.length - 1))) [xs.getLastD []] := by
  obtain ⟨off, cap, cells, e, h1, h2, h4, hc, hy⟩ := h
  refine ⟨off, cap, e, h1, off + (xs.length - 1), cap - (xs.length - 1), cells, rfl, by simp; omega, by omega, h4, hc, fun j q hj => ?_⟩
  cases j with
  | zero =>
    have hq : xs.getLastD [] = q := by simpa using hj
    have hl : xs[xs.length - 1]? = some q := by
      rw [← hq, List.getLastD_eq_getLast?, List.getLast?_eq_getElem?, List.getElem?_eq_getElem (by omega)]
      rfl
    obtain ⟨u, hu, hp⟩ := hy _ _ hl
    exact ⟨u, by rw [Nat.add_zero]; exact hu, hp⟩
  | succ j => simp at hj
end Go.Proofs.Ytmjmichkkmmdcaa.P
end
section
namespace Go.Proofs.Ytmjmichkkmmdcaa.P
open Go.RowKit Go.Proofs.YtmjmichkkmmdcaaW.PrintWords Go.Proofs.YtmjmichkkmmdcaaW.PrintLast Go.Proofs.YtmjmichkkmmdcaaW.PrintMore
set_option linter.unusedVariables false
set_option linter.unusedSimpArgs false
set_option maxRecDepth 100000
def DP (W : World) (bd d : Nat) (sd : Dk) (Cd : Nat) (bc c : Nat) (sc : Dk) (Cc : Nat) : Prop := ∃ M N v M2 N2 v2, DD W bd d M N v sd ∧ N + sd.cache.length ≤ Cd ∧ DD W bc c M2 N2 v2 sc ∧ N2 + sc.cache.length ≤ Cc ∧ (∀ k, FD d M v k → k < bc) ∧ bd ≤ bc
section
variable {w w' : World} {bd d Cd bc c Cc : Nat} {sd sc : Dk}
theorem DP.snd (h : DP w bd d sd Cd bc c sc Cc) : DS w bc c sc Cc := by
  obtain ⟨M, N, v, M2, N2, v2, h1, h2, h3, h4, h5, h6⟩ := h
  exact ⟨M2, N2, v2, h3, h4⟩
theorem DP.step (h : DP w bd d sd Cd bc c sc Cc) (hb : Below w.heap.size w w') : DP w' bd d sd Cd bc c sc Cc := by
  obtain ⟨M, N, v, M2, N2, v2, h1, h2, h3, h4, h5, h6⟩ := h
  exact ⟨M, N, v, M2, N2, v2, h1.step hb, h2, h3.step hb, h4, h5, h6⟩
end
end Go.Proofs.Ytmjmichkkmmdcaa.P
end
section
namespace Go.Proofs.Ytmjmichkkmmdcaa.P
open Go.RowKit Go.Proofs.YtmjmichkkmmdcaaW.PrintWords Go.Proofs.YtmjmichkkmmdcaaW.PrintLast Go.Proofs.YtmjmichkkmmdcaaW.PrintMore
attribute [local go_sem] max2_int min2_int max_two min_two max_three min_three max_four min_four
set_option linter.unusedVariables false
set_option linter.unusedSimpArgs false
set_option maxRecDepth 100000
structure Rk where
  bytes : List Int
  pend : List (Int × List Int)
  arm : Int
  down : Bool
def BvV (W : World) (B g : Nat) (u : Value) (b : List Int) : Prop := ∃ (c : Nat) (cs : Array Value), u = .slice (some ⟨g, 0, none⟩) b.length c ∧ b.length ≤ c ∧ B ≤ g ∧ W.heap[g]? = some (.cells cs 5 (0, 0)) ∧ ∀ (i : Nat) (x : Int), b[i]? = some x → cs[i]? = some (Value.int .u8 x)
def PnV (W : World) (B gL : Nat) (u : Value) (P : List (Int × List Int)) : Prop := (P = [] ∧ u = .slice none 0 0) ∨ ∃ (g c : Nat) (cs : Array Value), u = .slice (some ⟨g, 0, none⟩) P.length c ∧ P.length ≤ c ∧ B ≤ g ∧ W.heap[g]? = some (.cells cs 112 (0, 0)) ∧ c * 2 ≤ cs.size ∧
  ∀ (j : Nat) (p : Int × List Int), P[j]? = some p → p.2.length = 512 ∧ cs[2 * j]? = some (Value.int .i64 p.1) ∧ ∃ (z : Value) (gz : Nat), cs[2 * j + 1]? = some z ∧ gz ≠ gL ∧ BvV W B gz z p.2
structure RD (W : World) (B r gL : Nat) (uL uP : Value) (s : Rk) : Prop where
  br : B ≤ r
  blk : W.heap[r]? = some (.cells #[uL, uP, .int .i64 s.arm, .bool s.down] 76 (0, 0))
  lb : BvV W B gL uL s.bytes
  pb : PnV W B gL uP s.pend
  lz : s.bytes.length % 512 = 0 ∧ s.bytes.length ≤ 2097152
  az : -1 ≤ s.arm ∧ s.arm < 9223372036854775808
def RS (W : World) (B r : Nat) (s : Rk) : Prop := ∃ gL uL uP, RD W B r gL uL uP s
theorem BvV.keep {W W' : World} {B g : Nat} {u : Value} {b : List Int} (h : BvV W B g u b) (hk : KeepT W W') : BvV W' B g u b := by
  obtain ⟨c, cs, e, h1, h2, h3, h4⟩ := h
  exact ⟨c, cs, e, h1, h2, hk _ _ _ _ h3 (by decide) (by decide), h4⟩
theorem BvV.keepX {W W' : World} {B g x : Nat} {u : Value} {b : List Int} (h : BvV W B g u b) (hk : KeepX W W' x) (hx : g ≠ x) : BvV W' B g u b := by
  obtain ⟨c, cs, e, h1, h2, h3, h4⟩ := h
  exact ⟨c, cs, e, h1, h2, hk _ _ _ _ h3 hx, h4⟩
theorem PnV.keep {W W' : World} {B gL : Nat} {u : Value} {P : List (Int × List Int)} (h : PnV W B gL u P) (hk : KeepT W W') : PnV W' B gL u P := by
  rcases h with h | ⟨g, c, cs, e, h1, h2, h3, h4, h5⟩
  · exact .inl h
  · refine .inr ⟨g, c, cs, e, h1, h2, hk _ _ _ _ h3 (by decide) (by decide), h4, fun j p hj => ?_⟩
    obtain ⟨a1, a2, z, gz, a3, a4, a5⟩ := h5 j p hj
    exact ⟨a1, a2, z, gz, a3, a4, a5.keep hk⟩
theorem RS.keep {W W' : World} {B r : Nat} {s : Rk} (h : RS W B r s) (hk : KeepT W W') : RS W' B r s := by
  obtain ⟨gL, uL, uP, h1, h2, h3, h4, h5, h6⟩ := h
  exact ⟨gL, uL, uP, h1, hk _ _ _ _ h2 (by decide) (by decide), h3.keep hk, h4.keep hk, h5, h6⟩
def KeepR (w w' : World) : Prop := ∀ (k : Nat) (cs : Array Value) (t : TypeId) (fr : Nat × Nat), w.heap[k]? = some (Obj.cells cs t fr) → t ≠ 76 → t ≠ 112 → w'.heap[k]? = some (Obj.cells cs t fr)
def RF (B : Nat) (w w' : World) : Prop := Below B w w' ∧ w.heap.size ≤ w'.heap.size ∧ ∀ (k : Nat) (o : Obj), w.heap[k]? = some o → (∀ cs t fr, o = Obj.cells cs t fr → t ≠ 76 ∧ t ≠ 112 ∧ t ≠ 5) → w'.heap[k]? = some o
theorem RF.of_below {B : Nat} {w w' : World} (h : Below w.heap.size w w') (hB : B ≤ w.heap.size) : RF B w w' := ⟨h.mono hB, h.size, fun k o hk _ => (h.block k (by
  rcases Nat.lt_or_ge k w.heap.size with hlt | hge
  · exact hlt
  · rw [Array.getElem?_eq_none hge] at hk; cases hk)).trans hk⟩
theorem RF.trans {B : Nat} {a b c : World} (h : RF B a b) (k : RF B b c) : RF B a c := ⟨h.1.trans k.1, Nat.le_trans h.2.1 k.2.1, fun x o hx ho => k.2.2 x o (h.2.2 x o hx ho) ho⟩
theorem RF.ds {B : Nat} {w w' : World} (h : RF B w w') {base d C : Nat} {s : Dk} (hd : DS w base d s C) : DS w' base d s C := by
  obtain ⟨hb, hsz, hk⟩ := h
  obtain ⟨M, N, v, hd, hc⟩ := hd
  have key : ∀ k, FD d M v k → w'.heap[k]? = w.heap[k]? := by
    rintro k (rfl | rfl | e)
    · exact (hk _ _ hd.blk (fun cs t fr e => by cases e; decide)).trans hd.blk.symm
    · obtain ⟨es, clock, hm⟩ := hd.mp.blk
      exact (hk _ _ hm (fun cs t fr e => by cases e)).trans hm.symm
    · obtain ⟨cells, hcc⟩ := Kd.R_typed hd.row k e.symm
      exact (hk _ _ hcc (fun cs t fr e => by cases e; decide)).trans hcc.symm
  exact ⟨M, N, v, hd.keep (S := fun k => w'.heap[k]? ≠ w.heap[k]?) ⟨hb.os, hb.tape, hb.output, hsz, fun k _ hn => Classical.not_not.1 hn⟩ (fun k hf hs => hs (key k hf)), hc⟩
section
variable {W : World} {B r gL : Nat} {uL uP : Value} {s : Rk}
theorem RD.lt (h : RD W B r gL uL uP s) : r < W.heap.size := blk_lt h.blk
theorem RD.put (h : RD W B r gL uL uP s) (i : Nat) (u : Value) {s' : Rk} (e : (#[uL, uP, .int .i64 s.arm, .bool s.down] : Array Value).setIfInBounds i u = #[uL, uP, .int .i64 s'.arm, .bool s'.down]) (e1 : s'.bytes = s.bytes) (e2 : s'.pend = s.pend) (e3 : -1 ≤ s'.arm ∧ s'.arm < 9223372036854775808) :
    RD (W.setCell ⟨r, i, none⟩ u) B r gL uL uP s' ∧ RF B W (W.setCell ⟨r, i, none⟩ u) ∧ KeepR W (W.setCell ⟨r, i, none⟩ u) := by
  have hx := keepX_set W ⟨r, i, none⟩ u
  refine ⟨⟨h.br, blk_put h.blk i u e, ?_, ?_, by rw [e1]; exact h.lz, e3⟩, ⟨(Kp.set (S := fun k => k = r) W ⟨r, i, none⟩ u rfl).below (Nat.le_trans h.br (Nat.le_of_lt h.lt)) (fun k e => e ▸ h.br), (Kp.set (S := fun k => k = r) W ⟨r, i, none⟩ u rfl).size, fun k o hk ho => (Below.heap_setCell W _ u k (fun e => by
      have hb := h.blk
      rw [← show k = r from e, hk] at hb
      exact absurd rfl (ho _ _ _ (Option.some.inj hb)).1)).trans hk⟩, fun k cs t fr hk ht _ => hx k cs t fr hk (fun e => by
      have hb := h.blk
      rw [← show k = r from e, hk] at hb
      cases hb
      exact ht rfl)⟩
  · rw [e1]
    refine h.lb.keepX hx (fun e => ?_)
    obtain ⟨c, cs, _, _, _, hc, _⟩ := h.lb
    have := h.blk
    rw [← show gL = r from e, hc] at this
    cases this
  · rw [e2]
    rcases h.pb with hp | ⟨g, c, cs, a0, a1, a2, a3, a4, a5⟩
    · exact .inl hp
    · refine .inr ⟨g, c, cs, a0, a1, a2, hx _ _ _ _ a3 (fun e => ?_), a4, fun j p hj => ?_⟩
      · have := h.blk
        rw [← show g = r from e, a3] at this
        cases this
      · obtain ⟨b1, b2, z, gz, b3, b4, b5⟩ := a5 j p hj
        refine ⟨b1, b2, z, gz, b3, b4, b5.keepX hx (fun e => ?_)⟩
        obtain ⟨c, cs, _, _, _, hc, _⟩ := b5
        have := h.blk
        rw [← show gz = r from e, hc] at this
        cases this
end
end Go.Proofs.Ytmjmichkkmmdcaa.P
end
section
namespace Go.Proofs.Ytmjmichkkmmdcaa.P
open Go.RowKit Go.Proofs.YtmjmichkkmmdcaaW.PrintWords Go.Proofs.YtmjmichkkmmdcaaW.PrintLast Go.Proofs.YtmjmichkkmmdcaaW.PrintMore
attribute [local go_sem] max2_int min2_int max_two min_two max_three min_three max_four min_four
set_option linter.unusedVariables false
set_option linter.unusedSimpArgs false
set_option maxRecDepth 100000
end Go.Proofs.Ytmjmichkkmmdcaa.P
end
section
namespace Go.Proofs.Ytmjmichkkmmdcaa.P
open Go.RowKit Go.Proofs.YtmjmichkkmmdcaaW.PrintWords Go.Proofs.YtmjmichkkmmdcaaW.PrintLast Go.Proofs.YtmjmichkkmmdcaaW.PrintMore
attribute [local go_sem] max2_int min2_int max_two min_two max_three min_three max_four min_four
set_option linter.unusedVariables false
set_option linter.unusedSimpArgs false
set_option maxRecDepth 100000
def bare (s : Dk) : Dk := { s with cache := [] }
def rOf (s : Dk) : Rk := ⟨imageP (bare s) s.pages.toNat, s.cache, s.left, s.down⟩
theorem bare_len {s : Dk} (hl : ∀ i, (s.last i).length = 512) (m : Nat) : (imageP (bare s) m).length = m * 512 := imageP_len (s := bare s) hl (fun x hx => by simp [bare] at hx) m
def BvA (W : World) (u : Value) (p : List Int) : Prop := p.length = 512 ∧ ∃ (g o c : Nat) (cs : Array Value), u = .slice (some ⟨g, o, none⟩) 512 c ∧ W.heap[g]? = some (.cells cs 5 (0, 0)) ∧ ∀ (i : Nat) (x : Int), p[i]? = some x → cs[o + i]? = some (Value.int .u8 x)
theorem BvA.c {W : World} {u : Value} {p : List Int} (h : BvA W u p) : ∃ A c, u = .slice A 512 c ∧ Kd.C (Kd.int .u8) W A p.length p := by
  obtain ⟨h5, g, o, c, cs, e, hc, hx⟩ := h
  refine ⟨_, c, e, rfl, by rw [h5]; decide, fun _ => ⟨⟨g, o, none⟩, rfl, fun j x hj => ⟨[.int .u8 x], rfl, rfl, fun i u hi => ?_⟩⟩⟩
  cases i with
  | zero =>
    obtain rfl : Value.int .u8 x = u := by simpa using hi
    show W.cell? ((⟨g, o, none⟩ : Addr).add (j * 1 + 0)) = _
    rw [Addr.add_mid, Nat.mul_one, Nat.add_zero]
    exact (blk_cell hc (o + j)).trans (hx j x hj)
  | succ i => simp at hi
theorem BvV.any {W : World} {B g : Nat} {u : Value} {p : List Int} (h : BvV W B g u p) (h5 : p.length = 512) : BvA W u p := by
  obtain ⟨c, cs, e, h1, h2, h3, h4⟩ := h
  exact ⟨h5, g, 0, c, cs, by rw [e, h5], h3, fun i x hx => by rw [Nat.zero_add]; exact h4 i x hx⟩
end Go.Proofs.Ytmjmichkkmmdcaa.P
end
section
namespace Go.Proofs.Ytmjmichkkmmdcaa.P
open Go.RowKit Go.Proofs.YtmjmichkkmmdcaaW.PrintWords Go.Proofs.YtmjmichkkmmdcaaW.PrintLast Go.Proofs.YtmjmichkkmmdcaaW.PrintMore
attribute [local go_sem] max2_int min2_int max_two min_two max_three min_three max_four min_four
set_option linter.unusedVariables false
set_option linter.unusedSimpArgs false
set_option maxRecDepth 100000
theorem BvA.below {W W' : World} {u : Value} {p : List Int} (h : BvA W u p) (hb : Below W.heap.size W W') : BvA W' u p := by
  obtain ⟨h5, g, o, c, cs, e, hc, hx⟩ := h
  exact ⟨h5, g, o, c, cs, e, blk_below hc hb, hx⟩
end Go.Proofs.Ytmjmichkkmmdcaa.P
end
section
namespace Go.Proofs.Ytmjmichkkmmdcaa.P
open Go.RowKit Go.Proofs.YtmjmichkkmmdcaaW.PrintWords Go.Proofs.YtmjmichkkmmdcaaW.PrintLast Go.Proofs.YtmjmichkkmmdcaaW.PrintMore
attribute [local go_sem] max2_int min2_int max_two min_two max_three min_three max_four min_four
set_option linter.unusedVariables false
set_option linter.unusedSimpArgs false
set_option maxRecDepth 100000
structure DZ (s : Dk) (m : Nat) : Prop where
  hm : s.pages = (m : Int)
  h1 : 1 ≤ m
  h2 : m ≤ 4096
  hl : ∀ i, (s.last i).length = 512
  hc : ∀ x ∈ s.cache, x.2.length = 512 ∧ 0 ≤ x.1 ∧ x.1 < s.pages
  hn : s.cache.length ≤ 1073741823
theorem DZ.bytes {s : Dk} {m : Nat} (h : DZ s m) : (rOf s).bytes.length = m * 512 := by
  show (imageP (bare s) s.pages.toNat).length = _
  rw [h.hm, Int.toNat_natCast]
  exact bare_len h.hl m
theorem RS.c3 {W : World} {B r : Nat} {s : Rk} (h : RS W B r s) : W.cell? ⟨r, 3, none⟩ = some (.bool s.down) := by
  obtain ⟨gL, uL, uP, h⟩ := h
  exact (blk_cell h.blk 3).trans rfl
theorem RS.step {W W' : World} {B r : Nat} {s : Rk} (h : RS W B r s) (hb : Below W.heap.size W W') : RS W' B r s := h.keep (keepT_below hb)
end Go.Proofs.Ytmjmichkkmmdcaa.P
end
section
namespace Go.Proofs.Ytmjmichkkmmdcaa.P
open Go.RowKit Go.Proofs.YtmjmichkkmmdcaaW.PrintWords Go.Proofs.YtmjmichkkmmdcaaW.PrintLast Go.Proofs.YtmjmichkkmmdcaaW.PrintMore
attribute [local go_sem] max2_int min2_int max_two min_two max_three min_three max_four min_four
set_option linter.unusedVariables false
set_option linter.unusedSimpArgs false
set_option maxRecDepth 100000
end Go.Proofs.Ytmjmichkkmmdcaa.P
end
section
namespace Go.Proofs.Ytmjmichkkmmdcaa.P
open Go.RowKit Go.Proofs.YtmjmichkkmmdcaaW.PrintWords Go.Proofs.YtmjmichkkmmdcaaW.PrintLast Go.Proofs.YtmjmichkkmmdcaaW.PrintMore
set_option linter.unusedVariables false
set_option linter.unusedSimpArgs false
set_option maxRecDepth 100000
theorem info74 : (Try.prog.info? 112).map (fun i => (i.zero, i.size, i.bytes)) = some (some (.agg #[.int .i64 0, .slice none 0 0]), 2, 32) := by kernel_rfl
theorem zero74_size : (Value.agg #[.int .i64 0, .slice none 0 0]).cells.size = 2 := rfl
def PnC (W : World) (B gL : Nat) (cs : Array Value) (P : List (Int × List Int)) : Prop := ∀ (j : Nat) (p : Int × List Int), P[j]? = some p → p.2.length = 512 ∧ cs[2 * j]? = some (Value.int .i64 p.1) ∧ ∃ (z : Value) (gz : Nat), cs[2 * j + 1]? = some z ∧ gz ≠ gL ∧ BvV W B gz z p.2
theorem PnC.snoc {W W' : World} {B gL : Nat} {cs ds : Array Value} {P : List (Int × List Int)} (h : PnC W B gL cs P) (hk : ∀ z gz b, BvV W B gz z b → BvV W' B gz z b) (hd : ∀ j, j < 2 * P.length → ds[j]? = cs[j]?) {n : Int} {b : List Int} {z : Value} {gz : Nat} (h5 : b.length = 512) (hz : BvV W B gz z b) (hg : gz ≠ gL)
    (d0 : ds[2 * P.length]? = some (Value.int .i64 n)) (d1 : ds[2 * P.length + 1]? = some z) : PnC W' B gL ds (P ++ [(n, b)]) := by
  intro j p hj
  by_cases hlt : j < P.length
  · rw [List.getElem?_append_left hlt] at hj
    obtain ⟨a1, a2, y, gy, a3, a4, a5⟩ := h j p hj
    exact ⟨a1, (hd _ (by omega)).trans a2, y, gy, (hd _ (by omega)).trans a3, a4, hk _ _ _ a5⟩
  · have hjx : j = P.length := by
      have := (List.getElem?_eq_some_iff.1 hj).1
      simp at this
      omega
    subst hjx
    have : p = (n, b) := by simpa using hj.symm
    subst this
    exact ⟨h5, d0, z, gz, d1, hg, hk _ _ _ hz⟩
theorem BvV.keepY {W W' : World} {B g x : Nat} {u : Value} {b : List Int} (h : BvV W B g u b) (hk : KeepX W W' x) {cs : Array Value} {t : TypeId} {fr : Nat × Nat} (hx : W.heap[x]? = some (.cells cs t fr)) (ht : t ≠ 5) : BvV W' B g u b :=
  h.keepX hk (fun e => by
    obtain ⟨c, ds, _, _, _, hc, _⟩ := h
    rw [e, hx] at hc
    cases hc
    exact ht rfl)
theorem PnV.append {W : World} {B gL : Nat} {u : Value} {P : List (Int × List Int)} (h : PnV W B gL u P) (hP : P.length ≤ 1073741822) {bs : Nat} {n : Int} {b : List Int} {z : Value} {gz : Nat} (h5 : b.length = 512) (hz : BvV W B gz z b) (hg : gz ≠ gL) (hzo : z.oneCell' = true) (hb : W.heap[bs]? = some (.cells #[.int .i64 n, z] 112 (0, 0))) (hB : B ≤ W.heap.size) :
    ∃ u' W' S, (∀ ty, (Builtin.append_ #[74, 74] ty #[u, .slice (some ⟨bs, 0, none⟩) 1 1]).run Try.prog W = .ok u' W') ∧ (∃ o c, u' = .slice o (P.length + 1) c) ∧ PnV W' B gL u' (P ++ [(n, b)]) ∧ Kp S W W' ∧ (∀ k, S k → B ≤ k ∧ ∃ cs, W.heap[k]? = some (Obj.cells cs 112 (0, 0))) ∧
      (∀ (k : Nat) (cs : Array Value) (t : TypeId) (fr : Nat × Nat), W.heap[k]? = some (Obj.cells cs t fr) → t ≠ 112 → W'.heap[k]? = some (Obj.cells cs t fr)) := by
  have hi := info74
  cases hif : Try.prog.info? 112 with
  | none => rw [hif] at hi; cases hi
  | some it =>
    rw [hif] at hi
    simp only [Option.map_some, Option.some.injEq, Prod.mk.injEq] at hi
    obtain ⟨i1, i2, i3⟩ := hi
    have hnews : ∀ j y, [Value.int .i64 n, z][j]? = some y → W.cell? ((⟨bs, 0, none⟩ : Addr).add j) = some y := fun j y hj => by
      rw [Addr.add_mid, Nat.zero_add]
      refine (blk_cell hb j).trans ?_
      simpa using hj
    rcases h with ⟨rfl, rfl⟩ | ⟨g, cap, cells, rfl, h1, hBg, hc, h2, hx⟩
    · have hrun := fun ty => run_append_nil (P := Try.prog) W 74 ty 112 it _ Try.underlying74 hif i1 ⟨bs, 0, none⟩ 1 1 [.int .i64 n, z] (by rw [i2]; rfl) hnews (by decide) (by decide) (by rw [i3]; decide)
      have hge := grownCap_ge W 1 0 112
      obtain ⟨G, hG⟩ : ∃ G, G = grownCap W 1 0 112 := ⟨_, rfl⟩
      rw [← hG] at hrun hge
      have hbel : Below W.heap.size W (W.drew.alloc (.cells ([Value.int .i64 n, z].toArray ++ Builtin.zeroCells (Value.agg #[.int .i64 0, .slice none 0 0]).cells (G - 1)) 112)) := below_alloc (below_drew1 (Below.refl _ _)) _
      refine ⟨_, _, fun _ => False, hrun, ⟨_, _, rfl⟩, .inr ⟨W.heap.size, G, _, rfl, hge, hB, Deep.blk_alloc_new W.drew _, ?_, ?_⟩, Kp.of_below hbel, fun k hk => hk.elim, fun k cs t fr hk _ => blk_below hk hbel⟩
      · simp only [Array.size_append, List.size_toArray, size_zeroCells, zero74_size, List.length_cons, List.length_nil]
        omega
      · exact PnC.snoc (P := []) (cs := #[]) (fun j p hj => by simp at hj) (fun y gy c hy => hy.keep (keepT_below hbel)) (fun j hj => absurd hj (Nat.not_lt_zero j)) h5 hz hg ((Array.getElem?_append_left (show 0 < 2 by decide)).trans rfl) ((Array.getElem?_append_left (show 1 < 2 by decide)).trans rfl)
    · have hgs : g < W.heap.size := blk_lt hc
      by_cases hroom : P.length + 1 ≤ cap
      · have hl0 : P.length * 2 < cells.size := by omega
        have hl1 : P.length * 2 + 1 < cells.size := by omega
        have hrun := fun ty => run_append_room_cells (P := Try.prog) W 74 ty 112 it Try.underlying74 hif g 0 P.length cap ⟨bs, 0, none⟩ 1 1 [.int .i64 n, z] (by rw [i2]; rfl) hnews (fun y hy => by
            rcases List.mem_cons.1 hy with rfl | hy
            · rfl
            · rw [List.mem_singleton.1 hy]; exact hzo) hroom
          (fun j hj => by
            have hj2 : j < 2 := hj
            rw [i2, blk_cell hc _, Array.getElem?_eq_getElem (by omega)]
            rfl) (fun j hj => blk_frozen hc _)
        rw [i2, Nat.zero_add] at hrun
        have hset : W.setCells g (P.length * 2) [.int .i64 n, z] = (W.setCell ⟨g, P.length * 2, none⟩ (.int .i64 n)).setCell ⟨g, P.length * 2 + 1, none⟩ z := rfl
        rw [hset] at hrun
        have hkp : Kp (fun k => k = g) W ((W.setCell ⟨g, P.length * 2, none⟩ (.int .i64 n)).setCell ⟨g, P.length * 2 + 1, none⟩ z) := (Kp.set (S := fun k => k = g) W ⟨g, P.length * 2, none⟩ (.int .i64 n) rfl).trans (Kp.set (S := fun k => k = g) _ ⟨g, P.length * 2 + 1, none⟩ z rfl) (fun _ _ e => e)
        have hblk : ((W.setCell ⟨g, P.length * 2, none⟩ (.int .i64 n)).setCell ⟨g, P.length * 2 + 1, none⟩ z).heap[g]? = some (.cells ((cells.setIfInBounds (P.length * 2) (.int .i64 n)).setIfInBounds (P.length * 2 + 1) z) 112 (0, 0)) := blk_put (blk_put hc _ _ rfl) _ _ rfl
        have hkx : KeepX W ((W.setCell ⟨g, P.length * 2, none⟩ (.int .i64 n)).setCell ⟨g, P.length * 2 + 1, none⟩ z) g := fun k cs t fr hk hne => (hkp.block k (blk_lt hk) hne).trans hk
        obtain ⟨W', hW'⟩ : ∃ W', W' = (W.setCell ⟨g, P.length * 2, none⟩ (.int .i64 n)).setCell ⟨g, P.length * 2 + 1, none⟩ z := ⟨_, rfl⟩
        rw [← hW'] at hrun hkp hblk hkx
        refine ⟨_, W', fun k => k = g, hrun, ⟨_, _, rfl⟩, .inr ⟨g, cap, _, by rw [List.length_append]; rfl, by rw [List.length_append]; exact hroom, hBg, hblk, by rw [Array.size_setIfInBounds, Array.size_setIfInBounds]; exact h2, ?_⟩, hkp, fun k hk => ⟨hk ▸ hBg, cells, hk ▸ hc⟩, fun k cs t fr hk ht => hkx k cs t fr hk (fun e => by
          rw [e, hc] at hk
          cases hk
          exact ht rfl)⟩
        refine PnC.snoc (cs := cells) hx (fun y gy c hy => hy.keepY hkx hc (by decide)) (fun j hj => ?_) h5 hz hg ?_ ?_
        · rw [Array.getElem?_setIfInBounds_ne (by omega), Array.getElem?_setIfInBounds_ne (by omega)]
        · rw [Array.getElem?_setIfInBounds_ne (by omega), Nat.mul_comm 2, Array.getElem?_setIfInBounds_self, if_pos hl0]
        · rw [Nat.mul_comm 2, Array.getElem?_setIfInBounds_self, if_pos (by rw [Array.size_setIfInBounds]; exact hl1)]
      · have hcapx : cap = P.length := by omega
        obtain ⟨olds, holds⟩ : ∃ olds, olds = cells.toList.take (P.length * 2) := ⟨_, rfl⟩
        have hol : olds.length = P.length * 2 := by
          have hcl : cells.toList.length = cells.size := Array.length_toList
          rw [holds, List.length_take, hcl]
          omega
        have hoc : ∀ j y, olds[j]? = some y → W.cell? ((⟨g, 0, none⟩ : Addr).add j) = some y := fun j y hj => by
          rw [Addr.add_mid, Nat.zero_add]
          refine (blk_cell hc j).trans ?_
          rw [holds, List.getElem?_take] at hj
          split at hj
          · simpa using hj
          · cases hj
        have hfit : Builtin.nextslicecap (P.length + 1) cap * it.bytes ≤ 281474976710656 := by
          rw [i3]
          exact growslice_fits (by omega) (by omega)
        have hrun := fun ty => run_append_grow (P := Try.prog) W 74 ty 112 it _ Try.underlying74 hif i1 ⟨g, 0, none⟩ P.length cap olds (by rw [i2]; exact hol) hoc ⟨bs, 0, none⟩ 1 1 [.int .i64 n, z] (by rw [i2]; rfl) hnews (by omega) (by omega) hfit
        have hge := grownCap_ge W (P.length + 1) cap 112
        obtain ⟨G, hG⟩ : ∃ G, G = grownCap W (P.length + 1) cap 112 := ⟨_, rfl⟩
        rw [← hG] at hrun hge
        have hbel : Below W.heap.size W (W.drew.alloc (.cells (olds.toArray ++ [Value.int .i64 n, z].toArray ++ Builtin.zeroCells (Value.agg #[.int .i64 0, .slice none 0 0]).cells (G - (P.length + 1))) 112)) := below_alloc (below_drew1 (Below.refl _ _)) _
        have hos : olds.toArray.size = P.length * 2 := by rw [List.size_toArray]; exact hol
        have ho2 : (olds.toArray ++ [Value.int .i64 n, z].toArray).size = P.length * 2 + 2 := by rw [Array.size_append, hos]; rfl
        refine ⟨_, _, fun _ => False, hrun, ⟨_, _, rfl⟩, .inr ⟨W.heap.size, G, _, by rw [List.length_append]; rfl, by rw [List.length_append]; exact hge, hB, Deep.blk_alloc_new W.drew _, ?_, ?_⟩, Kp.of_below hbel, fun k hk => hk.elim, fun k cs t fr hk _ => blk_below hk hbel⟩
        · rw [Array.size_append, ho2, size_zeroCells, zero74_size]
          omega
        · refine PnC.snoc (cs := cells) hx (fun y gy c hy => hy.keep (keepT_below hbel)) (fun j hj => ?_) h5 hz hg ?_ ?_
          · rw [Array.getElem?_append_left (by rw [ho2]; omega), Array.getElem?_append_left (by rw [hos]; omega), List.getElem?_toArray, holds, List.getElem?_take, if_pos (by omega)]
            simp
          · rw [Array.getElem?_append_left (by rw [ho2]; omega), Array.getElem?_append_right (by rw [hos]; omega), hos, show 2 * P.length - P.length * 2 = 0 by omega]
            rfl
          · rw [Array.getElem?_append_left (by rw [ho2]; omega), Array.getElem?_append_right (by rw [hos]; omega), hos, show 2 * P.length + 1 - P.length * 2 = 1 by omega]
            rfl
end Go.Proofs.Ytmjmichkkmmdcaa.P
end
section
namespace Go.Proofs.Ytmjmichkkmmdcaa.P
open Go.RowKit Go.Proofs.YtmjmichkkmmdcaaW.PrintWords Go.Proofs.YtmjmichkkmmdcaaW.PrintLast Go.Proofs.YtmjmichkkmmdcaaW.PrintMore
attribute [local go_sem] max2_int min2_int max_two min_two max_three min_three max_four min_four
attribute [local go_sem] guard_ptr eql_ptr neq_ptr
set_option linter.unusedVariables false
set_option linter.unusedSimpArgs false
set_option maxRecDepth 100000
end Go.Proofs.Ytmjmichkkmmdcaa.P
end
section
namespace Go.Proofs.Ytmjmichkkmmdcaa.P
open Go.RowKit Go.Proofs.YtmjmichkkmmdcaaW.PrintWords Go.Proofs.YtmjmichkkmmdcaaW.PrintLast Go.Proofs.YtmjmichkkmmdcaaW.PrintMore
attribute [local go_sem] max2_int min2_int max_two min_two max_three min_three max_four min_four
attribute [local go_sem] guard_ptr eql_ptr neq_ptr
set_option linter.unusedVariables false
set_option linter.unusedSimpArgs false
set_option maxRecDepth 100000
theorem exec_append {P : Program} {ρ : Operand → Value} {op : Oper} {w w1 : World} {v : Value} (x y : Operand) (t1 t2 : TypeId) (ho : op.op = .call { callee := .builtin .append, args := #[x, y], argTypes := #[t1, t2] }) {vx vy : Value} (hx : ρ x = vx) (hy : ρ y = vy) (hv : ∀ ty, (Builtin.append_ #[t1, t2] ty #[vx, vy]).run P w = .ok v w1) : (execOp ρ op).run P w = .ok (.value v) w1 := by
  unfold execOp
  simp [ho, resolve, invoke, builtin, hx, hy, hv]
end Go.Proofs.Ytmjmichkkmmdcaa.P
end
section
namespace Go.Proofs.Ytmjmichkkmmdcaa.P
open Go.RowKit Go.Proofs.YtmjmichkkmmdcaaW.PrintWords Go.Proofs.YtmjmichkkmmdcaaW.PrintLast Go.Proofs.YtmjmichkkmmdcaaW.PrintMore
attribute [local go_sem] max2_int min2_int max_two min_two max_three min_three max_four min_four
set_option linter.unusedVariables false
set_option linter.unusedSimpArgs false
set_option maxRecDepth 100000
end Go.Proofs.Ytmjmichkkmmdcaa.P
end
section
namespace Go.Proofs.Ytmjmichkkmmdcaa.P
open Go.RowKit Go.Proofs.YtmjmichkkmmdcaaW.PrintWords Go.Proofs.YtmjmichkkmmdcaaW.PrintLast Go.Proofs.YtmjmichkkmmdcaaW.PrintMore
attribute [local go_sem] max2_int min2_int max_two min_two max_three min_three max_four min_four
set_option linter.unusedVariables false
set_option linter.unusedSimpArgs false
set_option maxRecDepth 100000
end Go.Proofs.Ytmjmichkkmmdcaa.P
end
section
namespace Go.Proofs.Ytmjmichkkmmdcaa.P
open Go.RowKit Go.Proofs.YtmjmichkkmmdcaaW.PrintWords Go.Proofs.YtmjmichkkmmdcaaW.PrintLast Go.Proofs.YtmjmichkkmmdcaaW.PrintMore
attribute [local go_sem] max2_int min2_int max_two min_two max_three min_three max_four min_four
set_option linter.unusedVariables false
set_option linter.unusedSimpArgs false
set_option maxRecDepth 100000
theorem RD.clear {W : World} {B r gL : Nat} {uL uP : Value} {s : Rk} (h : RD W B r gL uL uP s) : RD (W.setCell ⟨r, 1, none⟩ (.slice none 0 0)) B r gL uL (.slice none 0 0) { s with pend := [] } ∧ RF B W (W.setCell ⟨r, 1, none⟩ (.slice none 0 0)) := by
  have hx := keepX_set W ⟨r, 1, none⟩ (.slice none 0 0)
  refine ⟨⟨h.br, blk_put h.blk 1 _ rfl, h.lb.keepX hx (fun e => ?_), .inl ⟨rfl, rfl⟩, h.lz, h.az⟩, (Kp.set (S := fun k => k = r) W ⟨r, 1, none⟩ _ rfl).below (Nat.le_trans h.br (Nat.le_of_lt h.lt)) (fun k e => e ▸ h.br), (Kp.set (S := fun k => k = r) W ⟨r, 1, none⟩ (.slice none 0 0) rfl).size, fun k o hk ho => (Below.heap_setCell W _ _ k (fun e => ?_)).trans hk⟩
  · obtain ⟨c, cs, _, _, _, hc, _⟩ := h.lb
    have := h.blk
    rw [← show gL = r from e, hc] at this
    cases this
  · have hb := h.blk
    rw [← show k = r from e, hk] at hb
    exact absurd rfl (ho _ _ _ (Option.some.inj hb)).1
theorem DZ.last {s : Dk} {m : Nat} (hz : DZ s m) (k : Nat) (hk : k ≤ s.cache.length) : DZ { s with last := lastS s k } m :=
  ⟨hz.hm, hz.h1, hz.h2, lastS_len hz.hl (fun x hx => (hz.hc x hx).1) k, hz.hc, hz.hn⟩
theorem DZ.step {s : Dk} {m : Nat} (hz : DZ s m) : DZ (stepS s) m := ⟨by rw [stepS_pages]; exact hz.hm, hz.h1, hz.h2, by rw [stepS_last]; exact hz.hl, by rw [stepS_cache, stepS_pages]; exact hz.hc, by rw [stepS_cache]; exact hz.hn⟩
end Go.Proofs.Ytmjmichkkmmdcaa.P
end
section
namespace Go.Proofs.Ytmjmichkkmmdcaa.P
open Go.RowKit Go.Proofs.YtmjmichkkmmdcaaW.PrintWords Go.Proofs.YtmjmichkkmmdcaaW.PrintLast Go.Proofs.YtmjmichkkmmdcaaW.PrintMore
attribute [local go_sem] max2_int min2_int max_two min_two max_three min_three max_four min_four
set_option linter.unusedVariables false
set_option linter.unusedSimpArgs false
set_option maxRecDepth 100000
theorem RS.c1 {W : World} {B r : Nat} {s : Dk} (h : RS W B r (rOf s)) : (∃ o c, W.cell? ⟨r, 1, none⟩ = some (.slice o s.cache.length c)) ∧ W.frozen? ⟨r, 1, none⟩ = false := by
  obtain ⟨gL, uL, uP, h⟩ := h
  refine ⟨?_, blk_frozen h.blk 1⟩
  have hc : W.cell? ⟨r, 1, none⟩ = some uP := (blk_cell h.blk 1).trans rfl
  rcases h.pb with ⟨hnil, e⟩ | ⟨gP, cP, csP, e, _⟩
  · have hn : s.cache = [] := hnil
    rw [hc, e, hn]
    exact ⟨_, _, rfl⟩
  · rw [hc, e]
    exact ⟨_, _, rfl⟩
theorem RS.clear {W : World} {B r : Nat} {s : Dk} {f : Int → List Int} (h : RS W B r (rOf { s with last := f })) : RS (W.setCell ⟨r, 1, none⟩ (.slice none 0 0)) B r (rOf { s with last := f, cache := [] }) ∧ RF B W (W.setCell ⟨r, 1, none⟩ (.slice none 0 0)) := by
  obtain ⟨gL, uL, uP, h⟩ := h
  have := h.clear
  exact ⟨⟨gL, uL, _, this.1⟩, this.2⟩
end Go.Proofs.Ytmjmichkkmmdcaa.P
end
section
namespace Go.Proofs.Ytmjmichkkmmdcaa.P
open Go.RowKit Go.Proofs.YtmjmichkkmmdcaaW.PrintWords Go.Proofs.YtmjmichkkmmdcaaW.PrintLast Go.Proofs.YtmjmichkkmmdcaaW.PrintMore
attribute [local go_sem] max2_int min2_int max_two min_two max_three min_three max_four min_four
set_option linter.unusedVariables false
set_option linter.unusedSimpArgs false
set_option maxRecDepth 100000
end Go.Proofs.Ytmjmichkkmmdcaa.P
end
section
namespace Go.Proofs.Ytmjmichkkmmdcaa.P
open Go.RowKit Go.Proofs.YtmjmichkkmmdcaaW.PrintWords Go.Proofs.YtmjmichkkmmdcaaW.PrintLast Go.Proofs.YtmjmichkkmmdcaaW.PrintMore
set_option linter.unusedVariables false
set_option linter.unusedSimpArgs false
set_option maxRecDepth 100000
def DQ (W : World) (bd d : Nat) (sd : Dk) (Cd : Nat) (bc c : Nat) (sc : Dk) (Cc : Nat) : Prop := ∃ M N v M2 N2 v2, DD W bd d M N v sd ∧ N + sd.cache.length ≤ Cd ∧ DD W bc c M2 N2 v2 sc ∧ N2 + sc.cache.length ≤ Cc ∧ (∀ k, FD d M v k → ¬ FD c M2 v2 k)
section
variable {w w' : World} {bd d Cd bc c Cc M N M2 N2 : Nat} {sd sc sd' : Dk} {v v' v2 : Value}
theorem DQ.snd (h : DQ w bd d sd Cd bc c sc Cc) : DS w bc c sc Cc := by
  obtain ⟨M, N, v, M2, N2, v2, h1, h2, h3, h4, h5⟩ := h
  exact ⟨M2, N2, v2, h3, h4⟩
theorem DQ.step (h : DQ w bd d sd Cd bc c sc Cc) (hb : Below w.heap.size w w') : DQ w' bd d sd Cd bc c sc Cc := by
  obtain ⟨M, N, v, M2, N2, v2, h1, h2, h3, h4, h5⟩ := h
  exact ⟨M, N, v, M2, N2, v2, h1.step hb, h2, h3.step hb, h4, h5⟩
end
end Go.Proofs.Ytmjmichkkmmdcaa.P
end
section
namespace Go.Proofs.Ytmjmichkkmmdcaa.P
open Go.RowKit Go.Proofs.YtmjmichkkmmdcaaW.PrintWords Go.Proofs.YtmjmichkkmmdcaaW.PrintLast Go.Proofs.YtmjmichkkmmdcaaW.PrintMore
set_option linter.unusedVariables false
set_option linter.unusedSimpArgs false
set_option maxRecDepth 100000
structure QS (Z W : World) (d r C m : Nat) (s t : Dk) : Prop where
  ex : ∃ base B, DS W base d s C ∧ RS W B r (rOf t) ∧ Z.heap.size ≤ base ∧ Z.heap.size ≤ B
  lo : Below Z.heap.size Z W
  ps : s.pages = (m : Int)
  zt : DZ t m
section
variable {Z w w' : World} {d r C m : Nat} {s t : Dk}
theorem QS.step (h : QS Z w d r C m s t) (hb : Below w.heap.size w w') : QS Z w' d r C m s t := by
  obtain ⟨⟨base, B, h1, h2, h3, h4⟩, h5, h6, h7⟩ := h
  exact ⟨⟨base, B, h1.step hb, h2.step hb, h3, h4⟩, below_step h5 hb, h6, h7⟩
theorem QS.more {C' : Nat} (h : QS Z w d r C m s t) (hc : C ≤ C') : QS Z w d r C' m s t := by
  obtain ⟨⟨base, B, h1, h2, h3, h4⟩, h5, h6, h7⟩ := h
  exact ⟨⟨base, B, h1.more hc, h2, h3, h4⟩, h5, h6, h7⟩
end
section
variable {Z w : World} {d r C m : Nat} {s t : Dk}
end
end Go.Proofs.Ytmjmichkkmmdcaa.P
end
section
namespace Go.Proofs.Ytmjmichkkmmdcaa.P
open Go.RowKit Go.Proofs.YtmjmichkkmmdcaaW.PrintWords Go.Proofs.YtmjmichkkmmdcaaW.PrintLast Go.Proofs.YtmjmichkkmmdcaaW.PrintMore
attribute [local go_sem] max2_int min2_int max_two min_two max_three min_three max_four min_four
set_option linter.unusedVariables false
set_option linter.unusedSimpArgs false
set_option maxRecDepth 100000
def RX (W : World) (B r x : Nat) (s : Rk) : Prop := ∃ gL uL uP, RD W B r gL uL uP s ∧ gL ≠ x ∧ PnV W B x uP s.pend
theorem RX.rs {W : World} {B r x : Nat} {s : Rk} (h : RX W B r x s) : RS W B r s := by
  obtain ⟨gL, uL, uP, h1, _⟩ := h
  exact ⟨gL, uL, uP, h1⟩
theorem RX.keep {W W' : World} {B r x : Nat} {s : Rk} (h : RX W B r x s) (hk : KeepT W W') : RX W' B r x s := by
  obtain ⟨gL, uL, uP, h1, h2, h3⟩ := h
  exact ⟨gL, uL, uP, ⟨h1.br, hk _ _ _ _ h1.blk (by decide) (by decide), h1.lb.keep hk, h1.pb.keep hk, h1.lz, h1.az⟩, h2, h3.keep hk⟩
theorem RX.step {W W' : World} {B r x : Nat} {s : Rk} (h : RX W B r x s) (hb : Below W.heap.size W W') : RX W' B r x s := h.keep (keepT_below hb)
end Go.Proofs.Ytmjmichkkmmdcaa.P
end
section
namespace Go.Proofs.Ytmjmichkkmmdcaa.P
open Go.RowKit Go.Proofs.YtmjmichkkmmdcaaW.PrintWords Go.Proofs.YtmjmichkkmmdcaaW.PrintLast Go.Proofs.YtmjmichkkmmdcaaW.PrintMore
set_option linter.unusedVariables false
set_option linter.unusedSimpArgs false
set_option maxRecDepth 100000
structure OV (Z : World) (x : S32) (A3 A5 : Option Addr) : Prop where
  h3 : Kd.C (Kd.int .u8) Z A3 x.f3.length x.f3
  h5 : Kd.C Kd.bool Z A5 x.f5.length x.f5
  n5 : x.f5.length ≤ 140737488351232
  n1 : x.f1 < 9223372036854775808
section
variable {Z w : World} {d r C m : Nat} {s : Dk}
end
end Go.Proofs.Ytmjmichkkmmdcaa.P
end
section
namespace Go.Proofs.Ytmjmichkkmmdcaa.P
open Go.RowKit Go.Proofs.YtmjmichkkmmdcaaW.PrintWords Go.Proofs.YtmjmichkkmmdcaaW.PrintLast Go.Proofs.YtmjmichkkmmdcaaW.PrintMore
theorem u45p : Try.prog.underlying 53 = some (.pointer (Try.prog.pointee 53)) := by kernel_rfl
theorem eql_ptr25 (p : Option Addr) (w : World) : (binOp .eql 28 (.pointer p) (.pointer none)).run Try.prog w = .ok (.bool p.isNone) w := run_eql_pointer_nil w 28 p u25p
theorem eql_ptr45 (p : Option Addr) (w : World) : (binOp .eql 53 (.pointer p) (.pointer none)).run Try.prog w = .ok (.bool p.isNone) w := run_eql_pointer_nil w 53 p u45p
attribute [local go_sem] guard_ptr eql_ptr25 eql_ptr45
set_option linter.unusedVariables false
set_option linter.unusedSimpArgs false
set_option maxRecDepth 100000
structure CQ (Z W : World) (d c r Cd C m : Nat) (sd s : Dk) : Prop where
  ex : ∃ bd bc B, DQ W bd d sd Cd bc c s C ∧ RS W B r (rOf s) ∧ Z.heap.size ≤ bd ∧ Z.heap.size ≤ bc ∧ Z.heap.size ≤ B
  lo : Below Z.heap.size Z W
  ps : s.pages = (m : Int)
  zt : DZ s m
section
variable {Z w w' : World} {d c r Cd C m : Nat} {sd s : Dk}
theorem CQ.step (h : CQ Z w d c r Cd C m sd s) (hb : Below w.heap.size w w') : CQ Z w' d c r Cd C m sd s := by
  obtain ⟨⟨bd, bc, B, h1, h2, h3, h4, h5⟩, h6, h7, h8⟩ := h
  exact ⟨⟨bd, bc, B, h1.step hb, h2.step hb, h3, h4, h5⟩, below_step h6 hb, h7, h8⟩
theorem CQ.qs (h : CQ Z w d c r Cd C m sd s) : QS Z w c r C m s s := by
  obtain ⟨⟨bd, bc, B, h1, h2, h3, h4, h5⟩, h6, h7, h8⟩ := h
  exact ⟨⟨bc, B, h1.snd, h2, h4, h5⟩, h6, h7, h8⟩
end
end Go.Proofs.Ytmjmichkkmmdcaa.P
end
section
namespace Go.Proofs.Ytmjmichkkmmdcaa.P
open Go.RowKit Go.Proofs.YtmjmichkkmmdcaaW.PrintWords Go.Proofs.YtmjmichkkmmdcaaW.PrintLast Go.Proofs.YtmjmichkkmmdcaaW.PrintMore
set_option linter.unusedVariables false
set_option linter.unusedSimpArgs false
def le (n : Int) (k : Nat) : List Int := (List.range k).map fun i => n / 256 ^ i % 256
theorem le_len (n : Int) (k : Nat) : (le n k).length = k := by simp [le]
theorem le_zero (n : Int) : le n 0 = [] := rfl
theorem le_succ (n : Int) (k : Nat) : le n (k + 1) = le n k ++ [n / 256 ^ k % 256] := by simp [le, List.range_succ]
def BY (b : List Int) : Prop := ∀ x ∈ b, 0 ≤ x ∧ x ≤ 255
theorem BY.nil : BY [] := fun x hx => by simp at hx
theorem BY.append {a b : List Int} (ha : BY a) (hb : BY b) : BY (a ++ b) := fun x hx => (List.mem_append.1 hx).elim (ha x) (hb x)
theorem BY.take {a : List Int} (ha : BY a) (k : Nat) : BY (a.take k) := fun x hx => ha x (List.mem_of_mem_take hx)
theorem BY.drop {a : List Int} (ha : BY a) (k : Nat) : BY (a.drop k) := fun x hx => ha x (List.mem_of_mem_drop hx)
theorem BY.rep (k : Nat) : BY (List.replicate k 0) := fun x hx => by rw [(List.mem_replicate.1 hx).2]; decide
theorem BY.le (n : Int) (k : Nat) : BY (le n k) := fun x hx => by
  obtain ⟨i, _, rfl⟩ := List.mem_map.1 hx
  omega
theorem C_cells {W : World} {A : Option Addr} {n : Nat} {xs : List Int} (h : Kd.C (Kd.int .u8) W A n xs) (hn : 0 < n) : ∃ ad, A = some ad ∧ ∀ j u, (bvs xs)[j]? = some u → W.cell? (ad.add j) = some u := by
  obtain ⟨_, _, h3⟩ := h
  obtain ⟨ad, e, hc⟩ := h3 hn
  refine ⟨ad, e, fun j u hj => ?_⟩
  have hjl : j < xs.length := by
    have := (List.getElem?_eq_some_iff.1 hj).1
    rwa [bvs_len] at this
  obtain ⟨cs, hl, hK, hcell⟩ := hc j xs[j] (List.getElem?_eq_getElem hjl)
  have e1 : cs = [.int .u8 xs[j]] := hK
  subst e1
  have h0 := hcell 0 (.int .u8 xs[j]) rfl
  have hu : u = .int .u8 xs[j] := by
    simp only [bvs, List.getElem?_map, List.getElem?_eq_getElem hjl, Option.map_some, Option.some.injEq] at hj
    exact hj.symm
  rw [hu]
  have e2 : j * 1 + 0 = j := by omega
  simpa [Kd.int, Kd.scalar, e2] using h0
theorem full_append {W : World} {A B : Option Addr} {n m c : Nat} {xs ys : List Int} (base : Nat) (hx : Kd.C (Kd.int .u8) W A n xs) (hy : Kd.C (Kd.int .u8) W B m ys) (hn : 0 < n) (hm : 0 < m) (hl : n + m ≤ 1000000) (hb : base ≤ W.heap.size) :
    ∃ v' W', (∀ ty, (Builtin.append_ #[22, 22] ty #[.slice A n n, .slice B m c]).run Try.prog W = .ok v' W') ∧ Kd.R (Kd.int .u8) 5 W' base (fun _ => True) v' (xs ++ ys) ∧ Below W.heap.size W W' := by
  obtain ⟨ax, ex, hcx⟩ := C_cells hx hn
  obtain ⟨ay, ey, hcy⟩ := C_cells hy hm
  subst ex ey
  have hxl : xs.length = n := Kd.C_len hx
  have hyl : ys.length = m := Kd.C_len hy
  have hi := info5
  cases hif : Try.prog.info? 5 with
  | none => rw [hif] at hi; cases hi
  | some it =>
    rw [hif] at hi
    simp only [Option.map_some, Option.some.injEq, Prod.mk.injEq] at hi
    obtain ⟨i1, i2, i3⟩ := hi
    have hfit : Builtin.nextslicecap (n + m) n * it.bytes ≤ 281474976710656 := by
      rw [i3]
      exact growslice_fits (by omega) (by omega)
    have hrun := fun ty => run_append_grow (P := Try.prog) W 22 ty 5 it _ Try.underlying22 hif i1 ax n n (bvs xs) (by rw [i2, bvs_len, hxl, Nat.mul_one]) hcx ay m c (bvs ys) (by rw [i2, bvs_len, hyl, Nat.mul_one]) hcy (by omega) (by omega) hfit
    have hge := grownCap_ge W (n + m) n 5
    have hle : grownCap W (n + m) n 5 ≤ maxLen := grownCap_le_maxLen W (n + m) n 5 (by unfold maxLen; omega)
    obtain ⟨G, hG⟩ : ∃ G, G = grownCap W (n + m) n 5 := ⟨_, rfl⟩
    rw [← hG] at hrun hge hle
    refine ⟨_, _, hrun, Kd.R_of_own (enc := Value.int .u8) ⟨by simp [encs], .inr ⟨W.heap.size, G, _, by simp [hxl, hyl], hb, Deep.blk_alloc_new W.drew _, by simp [hxl, hyl]; omega, hle, ?_, ?_⟩⟩ (fun _ _ => trivial), below_alloc (below_drew1 (Below.refl _ _)) _⟩
    · have e1 : (Value.int IntKind.u8 0).cells.size = 1 := rfl
      rw [Array.size_append, Array.size_append, List.size_toArray, List.size_toArray, bvs_len, bvs_len, hxl, hyl, size_zeroCells, e1]
      omega
    · have e1 : (bvs xs ++ bvs ys).length = n + m := by rw [List.length_append, bvs_len, bvs_len, hxl, hyl]
      have e2 : encs (Value.int IntKind.u8) (xs ++ ys) = bvs xs ++ bvs ys := by simp [encs, bvs]
      rw [List.length_append, hxl, hyl, Nat.mul_one, e2, Array.toList_append, Array.toList_append]
      show ((bvs xs ++ bvs ys) ++ _).take (n + m) = _
      rw [List.take_append_of_le_length (by omega), List.take_of_length_le (by omega)]
theorem F_append {ops : Array Oper} {o : Oper} {rest : List Oper} {a : Act} {Q : Exit → Act → World → Prop} {w0 W : World} (base : Nat) (hgd : o.guard = none) (s x : Operand)
    (ho : o.op = .call { callee := .builtin .append, args := #[s, x], argTypes := #[22, 22] }) {A B : Option Addr} {n m c : Nat} {xs ys : List Int} (hs : a.eval s = .slice A n n) (hx : a.eval x = .slice B m c)
    (hX : Kd.C (Kd.int .u8) W A n xs) (hY : Kd.C (Kd.int .u8) W B m ys) (hn : 0 < n) (hm : 0 < m) (hl : n + m ≤ 1000000) (HB : Below base w0 W) (hb : base ≤ W.heap.size)
    (h : ∀ v1 w1, Kd.R (Kd.int .u8) 5 w1 base (fun _ => True) v1 (xs ++ ys) → Below base w0 w1 → base ≤ w1.heap.size → wpList Try.prog ops Q rest (a.put o.dst v1) w1) : wpList Try.prog ops Q (o :: rest) a W := by
  obtain ⟨v', W', hrun, hR, hB⟩ := full_append base hX hY hn hm hl hb
  refine wpList_plain hgd (fun K hK => ?_)
  unfold Oper.wp
  rw [exec_append s x 22 22 ho hs hx hrun]
  exact hK _ _ (h v' W' hR (HB.trans (hB.mono hb)) (Nat.le_trans hb hB.size))
end Go.Proofs.Ytmjmichkkmmdcaa.P
end
section
namespace Go.Proofs.Ytmjmichkkmmdcaa.P
open Go.RowKit Go.Proofs.Ytmjmichkkmmdcaa.Pure Go.Proofs.YtmjmichkkmmdcaaW.PrintWords Go.Proofs.YtmjmichkkmmdcaaW.PrintLast Go.Proofs.YtmjmichkkmmdcaaW.PrintMore
set_option linter.unusedVariables false
set_option linter.unusedSimpArgs false
def sumB (l : List Int) : Int := Go.bits .xor .u32 4294967295 (crc 4294967295 l)
theorem sumB_range (l : List Int) : 0 ≤ sumB l ∧ sumB l < 4294967296 := xor_u32 _ _
theorem sum_calls {A : Option Addr} {c : Nat} {l : List Int} (w : World) (hC : Kd.C (Kd.int .u8) w A l.length l) (hc : l.length ≤ c) (hb : BY l) (hl : l.length ≤ 1000000) :
    Calls Try.prog 9 #[.slice A l.length c] w fun e w' => e = .returned (.int .u32 (sumB l)) ∧ Below w.heap.size w w' := by
  obtain ⟨k, hk⟩ := (prog_sum l hb (by omega)).get
  exact (pager_Sum.calls k A c l _ w hC hc hk).mono fun e w' ⟨he, hd⟩ => ⟨he, hd.below⟩
theorem map_inj : ∀ (a b : List Int), BY a → BY b → (a.map fun n => UInt8.ofNat n.toNat) = (b.map fun n => UInt8.ofNat n.toNat) → a = b
  | [], [], _, _, _ => rfl
  | [], _ :: _, _, _, h => by simp at h
  | _ :: _, [], _, _, h => by simp at h
  | x :: a, y :: b, ha, hb, h => by
    simp only [List.map_cons, List.cons.injEq] at h
    have h1 := congrArg UInt8.toNat h.1
    have hx := ha x (by simp)
    have hy := hb y (by simp)
    simp only [UInt8.toNat_ofNat'] at h1
    have e : x = y := by omega
    rw [e, map_inj a b (fun z hz => ha z (by simp [hz])) (fun z hz => hb z (by simp [hz])) h.2]
theorem strOf_inj {a b : List Int} (ha : BY a) (hb : BY b) (h : (strOfNums a).toList = (strOfNums b).toList) : a = b := by
  rw [ByteArray.toList_eq, ByteArray.toList_eq, strOfNums_data, strOfNums_data] at h
  exact map_inj a b ha hb h
theorem equal_calls {A B : Option Addr} {c c' : Nat} {a b : List Int} (w : World) (hA : Kd.C (Kd.int .u8) w A a.length a) (hc : a.length ≤ c) (hB : Kd.C (Kd.int .u8) w B b.length b) (hc' : b.length ≤ c') (ha : BY a) (hb : BY b) :
    Calls Try.prog 68 #[.slice A a.length c, .slice B b.length c'] w fun e w' => e = .returned (.bool (decide (a = b))) ∧ Below w.heap.size w w' := by
  have hf : bytes_Equal.f a b = some (decide (a = b)) := by
    unfold bytes_Equal.f
    congr 1
    by_cases e : a = b
    · subst e; simp
    · rw [decide_eq_false e]
      exact beq_eq_false_iff_ne.mpr (fun h => e (strOf_inj ha hb h))
  exact (bytes_Equal.calls A c a B c' b _ w hA hc hB hc' hf).mono fun e w' ⟨he, hd⟩ => ⟨he, hd.below⟩
def OF (W : World) (base : Nat) (v : Value) (xs : List Int) : Prop := Kd.R (Kd.int .u8) 5 W base (fun _ => True) v xs ∨ (0 < xs.length ∧ ∃ A, v = .slice A xs.length xs.length ∧ Kd.C (Kd.int .u8) W A xs.length xs)
theorem OF.own {W : World} {base : Nat} {v : Value} {xs : List Int} (h : Kd.R (Kd.int .u8) 5 W base (fun _ => True) v xs) : OF W base v xs := .inl h
theorem OF.below {W W' : World} {base : Nat} {v : Value} {xs : List Int} (h : OF W base v xs) (hb : Below W.heap.size W W') : OF W' base v xs :=
  h.elim (fun h => .inl (Kd.R_below h hb)) (fun ⟨h0, A, e, h⟩ => .inr ⟨h0, A, e, Kd.C_below h hb⟩)
set_option maxHeartbeats 4000000 in
set_option maxRecDepth 100000 in
theorem put_calls {w0 w : World} {base : Nat} {v : Value} {xs : List Int} (n : Int) (hn0 : 0 ≤ n) (hn1 : n < 18446744073709551616) (k : Nat) (hk0 : 0 < k) (hk : k ≤ 8) (kz : Int) (hkz : kz = (k : Int)) (hO : OF w base v xs) (hB : Below base w0 w) (hb : base ≤ w.heap.size) (hl : xs.length ≤ 10000) :
    Calls Try.prog 70 #[v, .int .u64 n, .int .i64 kz] w fun e w' => ∃ v', e = .returned v' ∧ Kd.R (Kd.int .u8) 5 w' base (fun _ => True) v' (xs ++ le n k) ∧ Below base w0 w' := by
  subst hkz
  have HN := Aside0.mk (And.intro hn0 hn1)
  have HK := Aside0.mk (And.intro hk0 hk)
  have HL := Aside0.mk hl
  have HO := Aside0.mk (show OF w base v (xs ++ le n 0) ∧ (0 < 0 → Kd.R (Kd.int .u8) 5 w base (fun _ => True) v (xs ++ le n 0)) from ⟨by rw [le_zero, List.append_nil]; exact hO, fun h => absurd h (Nat.lt_irrefl 0)⟩)
  have HB := Aside0.mk (And.intro hB hb)
  clear hn0 hn1 hk0 hk hO hB hb hl
  go_enter Try.func70, Try.ntmps70
  go_wp2_with fail
  go_loopw [0, 9] (fun v0 v9 wr => ∃ j : Nat, v9 = .int .i64 (j : Int) ∧ j ≤ k ∧ Aside0 (OF wr base v0 (xs ++ le n j) ∧ (0 < j → Kd.R (Kd.int .u8) 5 wr base (fun _ => True) v0 (xs ++ le n j))) ∧ Aside0 (Below base w0 wr ∧ base ≤ wr.heap.size)) (fun _ v9 _ => k - (intOf v9).toNat)
  case atStart => exact ⟨0, rfl, Nat.zero_le _, HO, HB⟩
  case round =>
    clear HO HB
    obtain ⟨j, rfl, hj, HO, HB⟩ := hrel
    by_cases hlt : j < k
    · have HJ := Aside0.mk hlt
      have hlti : (j : Int) < (k : Int) := Int.ofNat_lt.2 hlt
      have b1 : decide ((j : Int) < (k : Int)) = true := decide_eq_true hlti
      have b2 : ((j : Int) < (k : Int)) = True := eq_true hlti
      have b3 : (j < k) = True := eq_true hlt
      have hj8 : j < 8 := Nat.lt_of_lt_of_le hlt HK.out.2
      have w2_ : wrap64 ((j : Int) + 1) = (j : Int) + 1 := by unfold wrap64; omega
      have w8_ : IntKind.i64.wrap (8 * (j : Int)) = ((8 * j : Nat) : Int) := by rw [IntKind.wrap_i64]; omega
      have w8' : wrap64 (8 * (j : Int)) = ((8 * j : Nat) : Int) := by unfold wrap64; omega
      obtain ⟨m, hm⟩ : ∃ m : Nat, m = 8 * j := ⟨_, rfl⟩
      rw [← hm] at w8_ w8'
      have hm0 : (0 : Int) ≤ (m : Int) := Int.natCast_nonneg m
      have p1 := eq_true hm0
      have p2 : decide (0 ≤ (m : Int)) = true := decide_eq_true hm0
      obtain ⟨q, hq⟩ : ∃ q, q = n / 256 ^ j := ⟨_, rfl⟩
      have he : (2 : Int) ^ m = 256 ^ j := by rw [hm, Int.pow_mul]; rfl
      have s1 : n / 2 ^ min (m : Int).toNat 64 = q := by rw [Int.toNat_natCast, Nat.min_eq_left (by omega), he, hq]
      have s2 : n / 2 ^ min m 64 = q := by rw [Nat.min_eq_left (by omega), he, hq]
      have s3 : n / 2 ^ m = q := by rw [he, hq]
      have s4 : (m : Int) ≤ 64 → n / 2 ^ m = q := fun _ => s3
      have HQ : Aside0 (le n (j + 1) = le n j ++ [q % 256]) := ⟨by rw [le_succ, hq]⟩
      have HLE : Aside0 ((xs ++ le n j).length ≤ 10008) := ⟨by rw [List.length_append, le_len]; have := HL.out; omega⟩
      clear hlt hlti hj hj8 hm hq he hm0
      rcases HO.out.1 with hr | ⟨h0, A, hv, hc⟩
      · have HR := Aside0.mk hr
        clear hr
        go_wp2_with ((with_reducible refine gate_builtin (b := .append) (xs := #[.tmp 12, .tmp 18]) rfl ?_); at_builtin; refine Kd.R_append (Kd.int .u8) (w0 := w0) base rfl (.tmp 12) (.tmp 18) 22 5 (.int .u8 0) 1 rfl Try.underlying22 info5 rfl (by decide) (by decide) u0 (xs ++ le n j) (q % 256) [.int .u8 (q % 256)] (fun _ => True) (fun _ => False) rfl rfl ?aP (fun _ hk => hk.elim) (fun _ _ => trivial) HR.out HB.out.1 HB.out.2 ?aL ?_; (case aP => rfl); (case aL => have := HLE.out; omega); intro v1 w1 ho hb hg hat; rw [List.append_assoc, ← HQ.out] at ho; have HO1 := Aside0.mk ho; have HB1 := Aside0.mk (And.intro hb (Nat.le_trans HB.out.2 hg.size)); clear ho hb hg hat)
        go_roundw
        case rel => exact ⟨j + 1, by first | exact congrArg (Value.int .i64) w2_ | rfl, HJ.out, ⟨.inl HO1.out, fun _ => HO1.out⟩, HB1⟩
        case measure => exact meas_lt HJ.out (by first | exact congrArg (Value.int .i64) w2_ | rfl)
      · have HC := Aside0.mk (And.intro h0 hc)
        obtain ⟨L, hL⟩ : ∃ L, L = (xs ++ le n j).length := ⟨_, rfl⟩
        have HLL := Aside0.mk hL
        rw [← hL] at hv
        have HV := Aside0.mk hv
        clear hL hc h0 hv
        go_wp2_with ((with_reducible refine gate_builtin (b := .append) (xs := #[.tmp 12, .tmp 18]) rfl ?_); at_builtin; (refine F_append (w0 := w0) base rfl (.tmp 12) (.tmp 18) rfl (A := A) (n := L) (xs := xs ++ le n j) (ys := [q % 256]) (m := 1) HV.out rfl ?aX ?aY ?an (by decide) ?aL ?aB ?ab ?_; (case aX => rw [HLL.out]; exact Kd.C_alloc HC.out.2 _); (case aY => exact c_bytes (p := [q % 256]) (Deep.blk_alloc_new _ _) (by simp)); (case an => rw [HLL.out]; exact HC.out.1); (case aL => have := HLE.out; have := HLL.out; omega); (case aB => exact HB.out.1.trans ((below_alloc (Below.refl _ _) _).mono HB.out.2)); (case ab => exact Nat.le_trans HB.out.2 (below_alloc (Below.refl _ _) _).size); intro v1 w1 ho hb hz; rw [List.append_assoc, ← HQ.out] at ho; have HO1 := Aside0.mk ho; have HB1 := Aside0.mk (And.intro hb hz); clear ho hb hz))
        go_roundw
        case rel => exact ⟨j + 1, by first | exact congrArg (Value.int .i64) w2_ | rfl, HJ.out, ⟨.inl HO1.out, fun _ => HO1.out⟩, HB1⟩
        case measure => exact meas_lt HJ.out (by first | exact congrArg (Value.int .i64) w2_ | rfl)
    · have hjk : j = k := by omega
      have b1 : decide ((j : Int) < (k : Int)) = false := decide_eq_false (fun h => hlt (Int.ofNat_lt.1 h))
      have b2 : ((j : Int) < (k : Int)) = False := eq_false (fun h => hlt (Int.ofNat_lt.1 h))
      have b3 : (j < k) = False := eq_false hlt
      have HR : Aside0 (Kd.R (Kd.int .u8) 5 wr base (fun _ => True) u0 (xs ++ le n k)) := ⟨hjk ▸ HO.out.2 (hjk ▸ HK.out.1)⟩
      clear hlt hjk hj
      go_wp2
      go_ret
      exact ⟨_, rfl, HR.out, HB.out.1⟩
theorem bclone_calls {A : Option Addr} {c : Nat} {l : List Int} (w : World) (hC : Kd.C (Kd.int .u8) w A l.length l) (h0 : 0 < l.length) (hl : l.length ≤ 1000000) :
    Calls Try.prog 69 #[.slice A l.length c] w fun e w' => ∃ v', e = .returned v' ∧ Kd.R (Kd.int .u8) 5 w' w.heap.size (fun _ => True) v' l ∧ Below w.heap.size w w' := by
  obtain ⟨ad, e, _⟩ := C_cells hC h0
  subst e
  have hnil := fun (W : World) => Lib.run_eql_slice_nil (P := Try.prog) W 22 5 (some ad) l.length c 0 0 Try.underlying22
  have hnil1 : ∀ W : World, (binOp .eql 22 (.slice (some ad) l.length c) (.slice none 0 0)).run Try.prog W = .ok (.bool false) W := fun W => hnil W
  have HC := Aside0.mk hC
  have HL := Aside0.mk (And.intro h0 hl)
  have HB := Aside0.mk (Below.refl w.heap.size w)
  obtain ⟨L, hL⟩ : ∃ L, L = l.length := ⟨_, rfl⟩
  have HLL := Aside0.mk hL
  rw [← hL] at hnil1
  rw [← hL]
  clear hnil hC h0 hl hL
  go_enter Try.func69, Try.ntmps69
  go_wp2_with (first
    | ((with_reducible refine gate_dst (N := 5) rfl ?_); refine Kd.R_lit (Kd.int .u8) (w0 := w) w.heap.size 5 rfl (N := 5) rfl (xs := ([] : List Int)) (inner := []) (ok := fun _ => True) (okp := fun _ => False) (run_empty30 rfl _) ⟨rfl, fun j x hj => by simp at hj⟩ (fun _ h => h.elim) trivial HB.out (below_size HB.out) (by decide) ?_; intro v1 w1 ho hb hg hn; have HO := Aside0.mk ho; have HB1 := Aside0.mk hb; clear ho hb hg hn)
    | ((with_reducible refine gate_builtin (b := .append) (xs := #[.tmp 5, .tmp 6]) rfl ?_); at_builtin; refine Kd.R_append_rows (Kd.int .u8) (w0 := w) w.heap.size rfl (.tmp 5) (.tmp 6) 22 5 (.int .u8 0) 1 rfl Try.underlying22 info5 rfl (by decide) (by decide) v1 [] l (some ad) L c (fun _ => True) (fun _ => False) rfl rfl HO.out ?aR (fun _ _ h => h) (fun _ h => h.elim) (fun _ _ => trivial) HB1.out (below_size HB1.out) ?aL ?_; (case aR => rw [HLL.out]; exact Kd.C_below HC.out HB1.out); (case aL => have := HLL.out; have := HL.out; simp; omega); intro v2 w2 ho hb hg hat; have HB2 := Aside0.mk hb; have HO2 := Aside0.mk ho; clear ho hb hg hat))
  go_ret
  exact ⟨_, rfl, HO2.out, HB2.out⟩
def pageB (l : List Int) : List Int := l ++ le (sumB l) 4
theorem pageB_len (l : List Int) : (pageB l).length = l.length + 4 := by simp [pageB, le_len]
theorem pageB_by {l : List Int} (h : BY l) : BY (pageB l) := h.append (BY.le _ _)
set_option maxHeartbeats 1000000 in
theorem sealed_calls {A : Option Addr} {c : Nat} {l : List Int} (w : World) (hC : Kd.C (Kd.int .u8) w A l.length l) (hc : l.length ≤ c) (hb : BY l) (h0 : 0 < l.length) (hl : l.length ≤ 10000) :
    Calls Try.prog 45 #[.slice A l.length c] w fun e w' => ∃ v', e = .returned v' ∧ Kd.R (Kd.int .u8) 5 w' w.heap.size (fun _ => True) v' (pageB l) ∧ Below w.heap.size w w' := by
  have HC := Aside0.mk hC
  have HCC := Aside0.mk hc
  have HBY := Aside0.mk hb
  have HL := Aside0.mk (And.intro h0 hl)
  obtain ⟨S, hS⟩ : ∃ S, S = sumB l := ⟨_, rfl⟩
  have HS := Aside0.mk hS
  have hr := sumB_range l
  rw [← hS] at hr
  have HSR : Aside0 (0 ≤ S ∧ S < 18446744073709551616) := ⟨by omega⟩
  have ws_ : IntKind.u64.wrap S = S := by rw [IntKind.wrap_u64]; omega
  have ws2 : S % 18446744073709551616 = S := by omega
  clear hC hc hb h0 hl hS hr
  go_enter Try.func45, Try.ntmps45
  go_wp2_with (first
    | (go_at_call 69; (with_reducible refine (bclone_calls w HC.out HL.out.1 (Nat.le_trans HL.out.2 (by decide))).mono ?_); rintro e w1 ⟨v1, rfl, ho, hb⟩; have HO1 := Aside0.mk ho; have HB1 := Aside0.mk hb; clear ho hb)
    | (go_at_call 9; (with_reducible refine (sum_calls _ (Kd.C_below HC.out HB1.out) HCC.out HBY.out (Nat.le_trans HL.out.2 (by decide))).mono ?_); rw [← HS.out]; rintro e w2 ⟨rfl, hb⟩; have HO2 := Aside0.mk (Kd.R_below HO1.out hb); have HB2 := Aside0.mk (below_step HB1.out hb); clear hb)
    | (go_at_call 70; (with_reducible refine (put_calls (w0 := w) S HSR.out.1 HSR.out.2 4 (by decide) (by decide) 4 rfl (OF.own HO2.out) HB2.out (below_size HB2.out) HL.out.2).mono ?_); rintro e w3 ⟨v3, rfl, ho, hb⟩; have HO3 := Aside0.mk ho; have HB3 := Aside0.mk hb; clear ho hb))
  go_ret
  exact ⟨_, rfl, by have := HO3.out; rw [HS.out] at this; exact this, HB3.out⟩
end Go.Proofs.Ytmjmichkkmmdcaa.P
end
section
namespace Go.Proofs.Ytmjmichkkmmdcaa.P
open Go.RowKit Go.Proofs.Ytmjmichkkmmdcaa.Pure Go.Proofs.YtmjmichkkmmdcaaW.PrintWords Go.Proofs.YtmjmichkkmmdcaaW.PrintLast Go.Proofs.YtmjmichkkmmdcaaW.PrintMore
set_option linter.unusedVariables false
set_option linter.unusedSimpArgs false
theorem C_take508 {W : World} {A : Option Addr} {b : List Int} (h : Kd.C (Kd.int .u8) W A 512 b) (h5 : b.length = 512) : Kd.C (Kd.int .u8) W A 508 (b.take 508) := by
  have h1 : Kd.C (Kd.int .u8) W A b.length b := by rw [h5]; exact h
  have := Kd.C_take (m := 508) h1 (by omega)
  rwa [List.length_take, h5] at this
theorem take508_len {b : List Int} (h5 : b.length = 512) : (b.take 508).length = 508 := by rw [List.length_take, h5]; rfl
def rightB (b : List Int) : Bool := decide (b = pageB (b.take 508))
set_option maxHeartbeats 1000000 in
theorem right_calls {A : Option Addr} {c : Nat} {b : List Int} (w : World) (hC : Kd.C (Kd.int .u8) w A 512 b) (h5 : b.length = 512) (hc : 512 ≤ c) (hb : BY b) :
    Calls Try.prog 49 #[.slice A 512 c] w fun e w' => e = .returned (.bool (rightB b)) ∧ Below w.heap.size w w' := by
  have HC := Aside0.mk hC
  have H5 := Aside0.mk h5
  have HCC := Aside0.mk hc
  have HBY := Aside0.mk hb
  have hci : (508 : Int) ≤ (c : Int) := by omega
  have hc1 : ((508 : Int) ≤ (c : Int)) = True := eq_true hci
  have hc2 : (508 ≤ c) = True := eq_true (by omega)
  obtain ⟨l, hl⟩ : ∃ l, l = b.take 508 := ⟨_, rfl⟩
  have HL := Aside0.mk hl
  have hll : l.length = 508 := by rw [hl]; exact take508_len h5
  have HLL := Aside0.mk hll
  have hcl : Kd.C (Kd.int .u8) w A 508 l := by rw [hl]; exact C_take508 hC h5
  have hse : ∀ W, Below w.heap.size w W → Calls Try.prog 45 #[.slice A 508 c] W fun e w' => ∃ A' c', e = .returned (.slice A' 512 c') ∧ 512 ≤ c' ∧ Kd.C (Kd.int .u8) w' A' 512 (pageB l) ∧ Below W.heap.size W w' := fun W hW => by
    have h1 := Kd.C_below hcl hW
    have := sealed_calls (c := c) W (by rw [hll]; exact h1) (by omega) (by rw [hl]; exact hb.take 508) (by omega) (by omega)
    rw [hll] at this
    refine this.mono ?_
    rintro e w' ⟨v, rfl, ho, hB⟩
    obtain ⟨A', c', rfl⟩ := Kd.R_slice ho
    have hp : (pageB l).length = 512 := by rw [pageB_len, hll]
    have hr := Kd.R_reads' ho
    rw [hp] at hr ⊢
    exact ⟨A', c', rfl, hr.2.1, hr.2.2, hB⟩
  have heq : ∀ W A' c', Below w.heap.size w W → 512 ≤ c' → Kd.C (Kd.int .u8) W A' 512 (pageB l) → Calls Try.prog 68 #[.slice A 512 c, .slice A' 512 c'] W fun e w' => e = .returned (.bool (rightB b)) ∧ Below W.heap.size W w' := fun W A' c' hW hc' hC' => by
    have hp : (pageB l).length = 512 := by rw [pageB_len, hll]
    have := equal_calls (c := c) (c' := c') W (by rw [h5]; exact Kd.C_below hC hW) (by omega) (by rw [hp]; exact hC') (by omega) hb (pageB_by (l := l) (by rw [hl]; exact hb.take 508))
    rw [h5, hp] at this
    unfold rightB
    rw [← hl]
    exact this
  have HB := Aside0.mk (Below.refl w.heap.size w)
  clear hC h5 hc hb hci hl hll hcl
  go_enter Try.func49, Try.ntmps49
  go_wp2_with (first
    | (go_at_call 45; (with_reducible refine (hse _ HB.out).mono ?_); rintro e w1 ⟨A', c', rfl, hc', hC', hb⟩; have HC1 := Aside0.mk (And.intro hc' hC'); have HB1 := Aside0.mk hb; clear hb hse hc' hC')
    | (go_at_call 68; (with_reducible refine (heq _ _ _ HB1.out HC1.out.1 HC1.out.2).mono ?_); rintro e w2 ⟨rfl, hb⟩; have HB2 := Aside0.mk (below_step HB1.out hb); clear hb heq))
  go_ret
  exact ⟨by simp, HB2.out⟩
end Go.Proofs.Ytmjmichkkmmdcaa.P
end
section
namespace Go.Proofs.Ytmjmichkkmmdcaa.P
open Go.RowKit Go.Proofs.Ytmjmichkkmmdcaa.Pure Go.Proofs.YtmjmichkkmmdcaaW.PrintWords Go.Proofs.YtmjmichkkmmdcaaW.PrintLast Go.Proofs.YtmjmichkkmmdcaaW.PrintMore
set_option linter.unusedVariables false
set_option linter.unusedSimpArgs false
def recL (gen root : Int) : List Int := [81, 82, 89, 49] ++ le gen 8 ++ le root 4
def headL (gen root : Int) : List Int := recL gen root ++ List.replicate 476 0 ++ recL gen root
theorem recL_len (gen root : Int) : (recL gen root).length = 16 := by simp [recL, le_len]
theorem headL_len (gen root : Int) : (headL gen root).length = 508 := by unfold headL; rw [List.length_append, List.length_append, recL_len, List.length_replicate]
theorem recL_by (gen root : Int) : BY (recL gen root) := (BY.append (fun x hx => by simp at hx; omega) (BY.le _ _)).append (BY.le _ _)
theorem headL_by (gen root : Int) : BY (headL gen root) := ((recL_by _ _).append (BY.rep _)).append (recL_by _ _)
theorem lit4 (W : World) (fr : Nat × Nat) : Kd.C (Kd.int .u8) (W.alloc (.cells #[.int .u8 81, .int .u8 82, .int .u8 89, .int .u8 49] 5 fr)) (some ⟨W.heap.size, 0, none⟩) 4 ([81, 82, 89, 49] : List Int) := by
  refine Kd.C_of_reads (enc := Value.int .u8) (d := (0 : Int)) (h1 := fun _ => rfl) ⟨rfl, by decide, fun _ => ⟨_, rfl, ?_⟩⟩
  intro j hj
  have h : ∀ i : Nat, (W.alloc (.cells #[.int .u8 81, .int .u8 82, .int .u8 89, .int .u8 49] 5 fr)).cell? ⟨W.heap.size, i, none⟩ = (#[.int .u8 81, .int .u8 82, .int .u8 89, .int .u8 49] : Array Value)[i]? := fun i => World.cell?_alloc_mark W _ 5 fr i
  have hj9 : j = 0 ∨ j = 1 ∨ j = 2 ∨ j = 3 := by omega
  rcases hj9 with rfl | rfl | rfl | rfl <;> exact (h _).trans rfl
theorem below_mark (w : World) (o : Obj) : Below w.heap.size w (w.alloc o) := below_alloc (Below.refl _ _) o
end Go.Proofs.Ytmjmichkkmmdcaa.P
end
section
namespace Go.Proofs.Ytmjmichkkmmdcaa.P
open Go.RowKit Go.Proofs.Ytmjmichkkmmdcaa.Pure Go.Proofs.YtmjmichkkmmdcaaW.PrintWords Go.Proofs.YtmjmichkkmmdcaaW.PrintLast Go.Proofs.YtmjmichkkmmdcaaW.PrintMore
set_option linter.unusedVariables false
set_option linter.unusedSimpArgs false
theorem F_exec {ops : Array Oper} {o : Oper} {rest : List Oper} {a : Act} {Q : Exit → Act → World → Prop} {W W' : World} {v : Value} (hgd : o.guard = none) (hrun : (execOp a.eval o).run Try.prog W = .ok (.value v) W') (h : wpList Try.prog ops Q rest (a.put o.dst v) W') : wpList Try.prog ops Q (o :: rest) a W := by
  refine wpList_plain hgd (fun K hK => ?_)
  unfold Oper.wp
  rw [hrun]
  exact hK _ _ h
theorem OF.full {W : World} {base n : Nat} {A : Option Addr} {xs : List Int} (h0 : 0 < n) (hC : Kd.C (Kd.int .u8) W A n xs) : OF W base (.slice A n n) xs := by
  have e : xs.length = n := Kd.C_len hC
  subst e
  exact .inr ⟨h0, A, rfl, hC⟩
theorem exec_convert2 {P : Program} {ρ : Operand → Value} {op : Oper} {w w1 : World} {v : Value} (t1 t2 : TypeId) (x : Operand) (ho : op.op = .convert t1 t2 x) {vx : Value} (hx : ρ x = vx) (hv : (convert t1 t2 vx).run P w = .ok v w1) : (execOp ρ op).run P w = .ok (.value v) w1 := by
  unfold execOp
  simp only [ho, hx, Sem.run_bind, hv, Result.andThen_ok, Sem.run_pure]
theorem build4 (w : World) : (Instr.buildSlice 22 4 #[(0, .int .u8 81), (1, .int .u8 82), (2, .int .u8 89), (3, .int .u8 49)]).run Try.prog w = .ok (.slice (some ⟨w.heap.size, 0, none⟩) 4 4) (w.alloc (.cells #[.int .u8 81, .int .u8 82, .int .u8 89, .int .u8 49] 5)) := by
  have h := info5
  cases hi : Try.prog.info? 5 with
  | none => rw [hi] at h; cases h
  | some it =>
    rw [hi] at h
    simp only [Option.map_some, Option.some.injEq, Prod.mk.injEq] at h
    refine run_buildSlice w 22 5 4 _ _ it _ Try.underlying22 hi h.1 (by rw [h.2.1]; decide) (by rw [h.2.1]; decide) ?_
    rw [h.2.1]
    first | kernel_rfl | (simp [Instr.fill, Value.cells]; done) | decide
theorem exec_build4 {ρ : Operand → Value} {op : Oper} (w : World) (ho : op.op = .buildSlice 22 4 #[(0, .const (.int .u8 81)), (1, .const (.int .u8 82)), (2, .const (.int .u8 89)), (3, .const (.int .u8 49))]) (h0 : ∀ v, ρ (.const v) = v) : (execOp ρ op).run Try.prog w = .ok (.value (.slice (some ⟨w.heap.size, 0, none⟩) 4 4)) (w.alloc (.cells #[.int .u8 81, .int .u8 82, .int .u8 89, .int .u8 49] 5)) := by
  unfold execOp
  simp only [ho, List.map_toArray, List.map_cons, List.map_nil, h0, Sem.run_bind, build4, Result.andThen_ok, Sem.run_pure]
theorem sub_copy {W : World} {base g cap L o n c : Nat} {ok : Nat → Prop} {xs ys : List Int} {B : Option Addr} (hO : Kd.R (Kd.int .u8) 5 W base ok (.slice (some ⟨g, 0, none⟩) L cap) xs) (hon : o + n ≤ L) (hn : 0 < n) (hC : Kd.C (Kd.int .u8) W B n ys) (d : Nat) (hd : n ≤ d) (dc : Nat) :
    ∃ W', (∀ ty, (Builtin.copy_ #[22, 22] ty #[.slice (some ⟨g, o, none⟩) d dc, .slice B n c]).run Try.prog W = .ok (.int .i64 (n : Int)) W') ∧ Kd.R (Kd.int .u8) 5 W' base ok (.slice (some ⟨g, 0, none⟩) L cap) (xs.take o ++ ys ++ xs.drop (o + n)) ∧ W.grownBy W' (some g) := by
  obtain ⟨ay, ey, hcy⟩ := C_cells hC hn
  subst ey
  have hyl : ys.length = n := Kd.C_len hC
  have hown := Kd.own_of_R hO
  have hok := hO.1
  obtain ⟨hxl, hh⟩ := hown
  have hL : L = xs.length := (Kd.R_reads' hO).1
  rcases hh with ⟨e, _⟩ | ⟨g', cap', cur, e, hbg, hblk, hnc, hcm, hcs, htake⟩
  · cases e
  · injection e with e1 e2 e3
    injection e1 with e1
    injection e1 with e1 _ _
    subst e1 e3
    have hsz : cur.size = cap := by omega
    have hle : L ≤ cap := by rw [hL]; exact hnc
    have hrun := fun ty => run_copy_row (P := Try.prog) W 22 22 ty 5 g o d dc ay n c cur 5 (bvs ys) Try.underlying22 (by kernel_rfl) hblk (by rw [bvs_len, hyl]; exact (Nat.min_eq_left hd).symm) hcy (by rw [bvs_len, hyl]; omega) (fun v hv => by obtain ⟨y, _, rfl⟩ := List.mem_map.1 hv; rfl)
    rw [bvs_len, hyl] at hrun
    refine ⟨_, hrun, ?_, ⟨rfl, rfl, rfl, by simp [World.setRow], fun k hk hne => setRow_other W g k _ (fun e => hne (by rw [e]))⟩⟩
    rw [hL]
    have hxl2 : (xs.take o ++ ys ++ xs.drop (o + n)).length = xs.length := by simp [hyl]; omega
    have htake2 : cur.toList.take L = bvs xs := by
      rw [hL]
      have : cur.toList.take (xs.length * 1) = bvs xs := htake
      rwa [Nat.mul_one] at this
    have hcl : cur.toList.length = cap := by rw [Array.length_toList, hsz]
    have key : (cur.toList.take o ++ bvs ys ++ cur.toList.drop (o + n)).take L = bvs (xs.take o ++ ys ++ xs.drop (o + n)) := by
      have h1 : cur.toList.take o = bvs (xs.take o) := by
        have := congrArg (List.take o) htake2
        rw [List.take_take, Nat.min_eq_left (by omega)] at this
        rw [this]
        simp [bvs, List.map_take]
      have h2 : (cur.toList.drop (o + n)).take (L - (o + n)) = bvs (xs.drop (o + n)) := by
        have := congrArg (List.drop (o + n)) htake2
        rw [List.drop_take] at this
        rw [this]
        simp [bvs, List.map_drop]
      have hA : (cur.toList.take o ++ bvs ys).length = o + n := by rw [List.length_append, List.length_take, hcl, bvs_len, hyl]; omega
      rw [List.take_append, hA, List.take_of_length_le (by omega), h2, h1]
      simp [bvs]
    refine Kd.R_of_own (enc := Value.int .u8) ⟨by simp [encs], .inr ⟨g, cap, _, by rw [hxl2], hbg, setRow_heap W g _ _ 5 _ hblk, by rw [hxl2, ← hL]; exact hle, hcm, ?_, ?_⟩⟩ hok
    · rw [List.size_toArray, List.length_append, List.length_append, List.length_take, List.length_drop, hcl, bvs_len, hyl]
      omega
    · rw [hxl2, Nat.mul_one, ← hL]
      exact key
theorem head_over (R : List Int) (h : R.length = 16) : ((R.take (min 16 (List.replicate 508 (0 : Int)).length) ++ (List.replicate 508 (0 : Int)).drop (min 16 (List.replicate 508 (0 : Int)).length)).take 492 ++ R ++ (R.take (min 16 (List.replicate 508 (0 : Int)).length) ++ (List.replicate 508 (0 : Int)).drop (min 16 (List.replicate 508 (0 : Int)).length)).drop (492 + 16)) = R ++ List.replicate 476 0 ++ R := by
  have e1 : min 16 (List.replicate 508 (0 : Int)).length = 16 := by rw [List.length_replicate]; rfl
  have h1 : R.take 16 = R := List.take_of_length_le (by omega)
  have h2 : (List.replicate 508 (0 : Int)).drop 16 = List.replicate 492 0 := by rw [List.drop_replicate]
  have h3 : (R ++ List.replicate 492 (0 : Int)).drop (492 + 16) = [] := List.drop_of_length_le (by rw [List.length_append, h, List.length_replicate]; decide)
  have h4 : (R ++ List.replicate 492 (0 : Int)).take 492 = R ++ List.replicate 476 0 := by
    rw [List.take_append, h, List.take_of_length_le (by omega), List.take_replicate]
    rfl
  rw [e1, h1, h2, h3, h4, List.append_nil]
set_option maxHeartbeats 4000000 in
set_option maxRecDepth 100000 in
theorem hpage_calls (gen root : Int) (g0 : 0 ≤ gen) (g1 : gen < 9223372036854775808) (r0 : 0 ≤ root) (r1 : root < 9223372036854775808) (w : World) :
    Calls Try.prog 66 #[.agg #[.int .i64 root, .int .i64 gen]] w fun e w' => ∃ v', e = .returned v' ∧ Kd.R (Kd.int .u8) 5 w' w.heap.size (fun _ => True) v' (pageB (headL gen root)) ∧ Below w.heap.size w w' := by
  have HG := Aside0.mk (And.intro g0 (show gen < 18446744073709551616 by omega))
  have HRT := Aside0.mk (And.intro r0 (show root < 18446744073709551616 by omega))
  have e1 : IntKind.u64.wrap gen = gen := by rw [IntKind.wrap_u64]; omega
  have e2 : gen % 18446744073709551616 = gen := by omega
  have e3 : IntKind.u64.wrap root = root := by rw [IntKind.wrap_u64]; omega
  have e4 : root % 18446744073709551616 = root := by omega
  clear g0 g1 r0 r1
  go_enter Try.func66, Try.ntmps66
  go_upto_region 1 with fail
  have hbk := Deep.blk_alloc_new w (.cells #[.int .i64 root, .int .i64 gen] 81)
  refine at_world (fun W => W.heap[w.heap.size]? = some (.cells #[.int .i64 root, .int .i64 gen] 81 (0, 0)) ∧ Below w.heap.size w W) ⟨hbk, below_alloc (Below.refl _ _) _⟩ (fun W hW => ?_)
  have HBK0 : Aside0 (W.drew.heap[w.heap.size]? = some (.cells #[.int .i64 root, .int .i64 gen] 81 (0, 0))) := ⟨hW.1⟩
  have HB0 := Aside0.mk (below_step hW.2 (below_drew1 (Below.refl _ _)))
  clear hW hbk
  refine start_ (n := 11) (S := fun w' => w'.cell? ⟨w.heap.size, 0, none⟩ = some (.int .i64 root) ∧ w'.cell? ⟨w.heap.size, 1, none⟩ = some (.int .i64 gen)) (ds := [9]) #[false, false, false, false, false, false, false, false, false, false, false] (by kernel_rfl) rfl rfl ⟨(blk_cell HBK0.out 0).trans rfl, (blk_cell HBK0.out 1).trans rfl⟩ (fun hHeld => ?_)
  refine pure_ (i := 2) (N := some 7) (v := ?_) (a' := ?_) #[false, false, true, false, false, false, false, false, false, false, false] rfl rfl (by kernel_rfl) (fun _ _ _ h => h) (Or.inl ⟨by rfl, ?_⟩) ?_ ?_
  rotate_left
  · intro w'
    go_simp
    with_reducible rfl
  rotate_left
  · simp only [Act.put, List.setIfInBounds_toArray, List.set_cons_zero, List.set_cons_succ, i64_w, i32_w]
    rfl
  refine pure_ (i := 6) (N := some 11) (v := ?_) (a' := ?_) #[false, false, true, false, false, false, true, false, false, false, false] rfl rfl (by kernel_rfl) (fun _ _ _ h => h) (Or.inl ⟨by rfl, ?_⟩) ?_ ?_
  rotate_left
  · intro w'
    go_simp
    with_reducible rfl
  rotate_left
  · simp only [Act.put, List.setIfInBounds_toArray, List.set_cons_zero, List.set_cons_succ, i64_w, i32_w]
    rfl
  refine take_ (i := 3) (N := some 8) (v := ?_) (a' := ?_) #[false, false, true, true, false, false, true, false, false, false, false] rfl rfl (by kernel_rfl) (fun _ _ _ h => h) (Or.inl ⟨by rfl, ?_⟩) hHeld ?_ ?_
  rotate_left
  · rintro w' ⟨s0, s1⟩
    go_simp
    with_reducible rfl
  rotate_left
  · simp only [Act.put, List.setIfInBounds_toArray, List.set_cons_zero, List.set_cons_succ, i64_w, i32_w]
    rfl
  refine pure_ (i := 4) (N := some 9) (v := ?_) (a' := ?_) #[false, false, true, true, true, false, true, false, false, false, false] rfl rfl (by kernel_rfl) (fun _ _ _ h => h) (Or.inl ⟨by rfl, ?_⟩) ?_ ?_
  rotate_left
  · intro w'
    go_simp
    with_reducible rfl
  rotate_left
  · simp only [Act.put, List.setIfInBounds_toArray, List.set_cons_zero, List.set_cons_succ, i64_w, i32_w]
    rfl
  refine take_ (i := 7) (N := some 12) (v := ?_) (a' := ?_) #[false, false, true, true, true, false, true, true, false, false, false] rfl rfl (by kernel_rfl) (fun _ _ _ h => h) (Or.inl ⟨by rfl, ?_⟩) hHeld ?_ ?_
  rotate_left
  · rintro w' ⟨s0, s1⟩
    go_simp
    with_reducible rfl
  rotate_left
  · simp only [Act.put, List.setIfInBounds_toArray, List.set_cons_zero, List.set_cons_succ, i64_w, i32_w]
    rfl
  refine pure_ (i := 8) (N := some 13) (v := ?_) (a' := ?_) #[false, false, true, true, true, false, true, true, true, false, false] rfl rfl (by kernel_rfl) (fun _ _ _ h => h) (Or.inl ⟨by rfl, ?_⟩) ?_ ?_
  rotate_left
  · intro w'
    go_simp
    with_reducible rfl
  rotate_left
  · simp only [Act.put, List.setIfInBounds_toArray, List.set_cons_zero, List.set_cons_succ, i64_w, i32_w]
    rfl
  refine one_ (i := 0) (N := some 5) #[true, false, true, true, true, false, true, true, true, false, false] rfl rfl (by kernel_rfl) (by decide) (fun K hK => ?_)
  refine value_ (w1 := W.drew.alloc (.cells #[.int .u8 81, .int .u8 82, .int .u8 89, .int .u8 49] 5)) (v := .slice (some ⟨W.drew.heap.size, 0, none⟩) 4 4) (by rfl) rfl (exec_build4 W.drew (by rfl) (fun _ => rfl)) ?_
  have HBK1 := Aside0.mk (blk_alloc HBK0.out (.cells #[.int .u8 81, .int .u8 82, .int .u8 89, .int .u8 49] 5))
  refine hK.out _ _ ⟨(blk_cell HBK1.out 0).trans rfl, (blk_cell HBK1.out 1).trans rfl⟩ (fun hHeld => ?_)
  clear hK K
  refine norm_ (a' := ?_) ?_ ?_
  rotate_left
  · show Act.put _ (some 5) _ = _
    simp only [Act.put, List.setIfInBounds_toArray, List.set_cons_zero, List.set_cons_succ, i64_w, i32_w]
    rfl
  refine one_ (i := 1) (N := some 6) #[true, true, true, true, true, false, true, true, true, false, false] rfl rfl (by kernel_rfl) (by decide) (fun K hK => ?_)
  refine value_ (w1 := W.drew.alloc (.cells #[.int .u8 81, .int .u8 82, .int .u8 89, .int .u8 49] 5 (4, 5))) (v := .slice (some ⟨W.drew.heap.size, 0, none⟩) 4 4) (by rfl) rfl (exec_convert2 22 22 (.tmp 5) rfl (by rfl) (Lib.run_convert_bytes_const W.drew 22 5 _ 4 4 Try.underlying22 Try.underlying5)) ?_
  have HBK2 := Aside0.mk (blk_below HBK0.out (below_mark W.drew (.cells #[.int .u8 81, .int .u8 82, .int .u8 89, .int .u8 49] 5 (4, 5))))
  have HB2 := Aside0.mk (below_mark W.drew (.cells #[.int .u8 81, .int .u8 82, .int .u8 89, .int .u8 49] 5 (4, 5)))
  have HL2 := Aside0.mk (lit4 W.drew (4, 5))
  refine hK.out _ _ ⟨(blk_cell HBK2.out 0).trans rfl, (blk_cell HBK2.out 1).trans rfl⟩ (fun hHeld => ?_)
  clear hK K
  refine norm_ (a' := ?_) ?_ ?_
  rotate_left
  · show Act.put _ (some 6) _ = _
    simp only [Act.put, List.setIfInBounds_toArray, List.set_cons_zero, List.set_cons_succ, i64_w, i32_w]
    rfl
  refine one_ (i := 5) (N := some 10) #[true, true, true, true, true, true, true, true, true, false, false] rfl rfl (by kernel_rfl) (by decide) (fun K hK => ?_)
  refine goes_ Try.func70 (by kernel_rfl) rfl #[.slice (some ⟨W.drew.heap.size, 0, none⟩) 4 4, .int .u64 gen, .int .i64 8] (by rfl) rfl rfl (by simp only [List.map_toArray, List.map_cons, List.map_nil]; rfl) ?_
  with_reducible refine (put_calls (w0 := W.drew) (base := W.drew.heap.size) gen HG.out.1 HG.out.2 8 (by decide) (by decide) 8 rfl (OF.full (by decide) HL2.out) HB2.out (below_size HB2.out) (by decide)).mono ?_
  rintro e w4 ⟨v4, rfl, ho, hb⟩
  refine ⟨_, rfl, ?_⟩
  have HO4 := Aside0.mk ho
  have HB4 := Aside0.mk hb
  have HBK4 := Aside0.mk (blk_below HBK0.out hb)
  clear ho hb
  refine hK.out _ _ ⟨(blk_cell HBK4.out 0).trans rfl, (blk_cell HBK4.out 1).trans rfl⟩ (fun hHeld => ?_)
  clear hK K
  refine norm_ (a' := ?_) ?_ ?_
  rotate_left
  · show Act.put _ (some 10) _ = _
    simp only [Act.put, List.setIfInBounds_toArray, List.set_cons_zero, List.set_cons_succ, i64_w, i32_w]
    rfl
  refine last_ (i := 9) (N := some 14) #[true, true, true, true, true, true, true, true, true, true, false] rfl rfl (by kernel_rfl) (by decide) (fun K hK => ?_)
  refine goes_ Try.func70 (by kernel_rfl) rfl #[v4, .int .u64 root, .int .i64 4] (by rfl) rfl rfl (by simp only [List.map_toArray, List.map_cons, List.map_nil]; rfl) ?_
  with_reducible refine (put_calls (w0 := W.drew) (base := W.drew.heap.size) root HRT.out.1 HRT.out.2 4 (by decide) (by decide) 4 rfl (OF.own HO4.out) HB4.out (below_size HB4.out) (by simp [le_len])).mono ?_
  rintro e w5 ⟨v5, rfl, ho, hb⟩
  refine ⟨_, rfl, ?_⟩
  have HO5 := Aside0.mk (show Kd.R (Kd.int .u8) 5 w5 w.heap.size (fun _ => True) v5 (recL gen root) from Kd.R_lower ho (below_size HB0.out))
  have HB5 := Aside0.mk (HB0.out.trans (hb.mono (below_size HB0.out)))
  clear ho hb hHeld
  refine hK.out _ _ ?_
  clear hK K
  refine norm_ (a' := ?_) ?_ ?_
  rotate_left
  · show Act.put _ (some 14) _ = _
    simp only [Act.put, List.setIfInBounds_toArray, List.set_cons_zero, List.set_cons_succ, i64_w, i32_w]
    rfl
  refine pure_ (i := 10) (N := some 3) (v := ?_) (a' := ?_) #[true, true, true, true, true, true, true, true, true, true, true] rfl rfl (by kernel_rfl) (fun _ _ _ h => h) (Or.inl ⟨by rfl, ?_⟩) ?_ ?_
  rotate_left
  · intro w'
    go_simp
    with_reducible rfl
  rotate_left
  · simp only [Act.put, List.setIfInBounds_toArray, List.set_cons_zero, List.set_cons_succ, i64_w, i32_w]
    rfl
  refine done_ (by kernel_rfl) ?_
  go_upto_region 2 with fail
  obtain ⟨A5, c5, e5⟩ := Kd.R_slice HO5.out
  rw [recL_len] at e5
  subst e5
  have hC := (Kd.R_reads' HO5.out).2.2
  rw [recL_len] at hC
  have HC := Aside0.mk hC
  have HBB := Aside0.mk (Below.refl w5.heap.size w5)
  clear hC
  go_upto_region 3 with ((with_reducible refine gate_dst (N := 15) rfl ?_); refine Kd.R_make (Kd.int .u8) (w0 := w5) w5.heap.size 5 rfl (N := 15) rfl 22 _ _ rfl 508 rfl rfl Try.underlying22 (.int .u8 0) 1 info5 rfl (by decide) (by decide) 0 (ok := fun _ => True) (okp := fun _ => False) rfl (fun _ h => h.elim) trivial (by decide) (by decide) HBB.out (below_size HBB.out) ?_; intro v6 w6 ho hb hg hn; obtain ⟨g6, c6, e6, hg6, _, _⟩ := Kd.R_form ho (by rw [List.length_replicate]; decide); rw [List.length_replicate] at e6; subst e6; have HO6 := Aside0.mk (show Kd.R (Kd.int .u8) 5 w6 w5.heap.size (fun _ => True) (.slice (some ⟨g6, 0, none⟩) 508 c6) (List.replicate 508 0) from ho); have HB6 := Aside0.mk hb; have HG6 := Aside0.mk hg6; clear ho hb hg hn hg6)
  have hcap : 508 ≤ c6 := (Kd.R_reads' HO6.out).2.1
  go_upto_region 4 with ((with_reducible refine gate_builtin (b := .copy) (xs := #[.tmp 16, .tmp 17]) rfl ?_); (refine Kd.R_copy (enc := Value.int .u8) (h1 := fun _ => rfl) (0 : Int) (w0 := w5) w5.heap.size rfl (.tmp 16) (.tmp 17) 22 22 5 rfl Try.underlying22 (by kernel_rfl) (.slice (some ⟨g6, 0, none⟩) 508 c6) (List.replicate 508 0) (recL gen root) A5 16 c5 (fun _ => True) rfl rfl HO6.out (Kd.C_below HC.out HB6.out) HB6.out (below_size HB6.out) ?_); intro w7 ho hb hg; have HO7 := Aside0.mk ho; have HB7 := Aside0.mk hb; clear ho hb hg)
  have hk1 : ((492 : Int) ≤ 508) = True := by decide
  obtain ⟨w8, hrun, hO8, hg8⟩ := sub_copy (c := c5) (o := 492) (n := 16) HO7.out (by decide) (by decide) (Kd.C_below HC.out HB7.out) 16 (by decide) (c6 - 492)
  rw [head_over (recL gen root) (recL_len gen root)] at hO8
  have HRUN := Aside0.mk hrun
  have HO8 := Aside0.mk (show Kd.R (Kd.int .u8) 5 w8 w5.heap.size (fun _ => True) (.slice (some ⟨g6, 0, none⟩) 508 c6) (headL gen root) from hO8)
  have HB8 := Aside0.mk (HB7.out.grown hg8 (below_size HB7.out) (fun k e => by injection e with e; rw [← e]; exact HG6.out))
  have hc6 : (c6 = 492) = False := eq_false (by omega)
  have hc7 : (492 ≤ c6) = True := eq_true (by omega)
  have hc8 : ((508 : Int) ≤ (c6 : Int)) = True := eq_true (by omega)
  clear hrun hO8 hg8 hcap
  go_upto_region 5 with ((with_reducible refine gate_builtin (b := .copy) (xs := #[.tmp 20, .tmp 21]) rfl ?_); refine F_exec rfl (exec_copy (.tmp 20) (.tmp 21) 22 22 rfl rfl rfl HRUN.out) ?_)
  have hse : Calls Try.prog 45 #[.slice (some ⟨g6, 0, none⟩) 508 c6] w8 fun e w' => ∃ v', e = .returned v' ∧ Kd.R (Kd.int .u8) 5 w' w8.heap.size (fun _ => True) v' (pageB (headL gen root)) ∧ Below w8.heap.size w8 w' := by
    have hr := Kd.R_reads' HO8.out
    have h1 := hr.2.2
    have := sealed_calls (c := c6) w8 h1 (by rw [← hr.1]; exact hr.2.1) (headL_by gen root) (by rw [← hr.1]; decide) (by rw [← hr.1]; decide)
    rw [← hr.1] at this
    exact this
  go_wp2_with (go_at_call 45; (with_reducible refine hse.mono ?_); rintro e w9 ⟨v9, rfl, ho, hb⟩; have HO9 := Aside0.mk ho; have HB9 := Aside0.mk hb; clear ho hb hse)
  go_ret
  have hz5 := below_size HB5.out
  have hz8 := Nat.le_trans hz5 (below_size HB8.out)
  exact ⟨_, rfl, Kd.R_lower HO9.out hz8, HB5.out.trans ((HB8.out.mono hz5).trans (HB9.out.mono hz8))⟩
end Go.Proofs.Ytmjmichkkmmdcaa.P
end
section
namespace Go.Proofs.Ytmjmichkkmmdcaa.P
open Go.RowKit Go.Proofs.Ytmjmichkkmmdcaa.Pure Go.Proofs.YtmjmichkkmmdcaaW.PrintWords Go.Proofs.YtmjmichkkmmdcaaW.PrintLast Go.Proofs.YtmjmichkkmmdcaaW.PrintMore
set_option linter.unusedVariables false
set_option linter.unusedSimpArgs false
def val : List Int → Int
  | [] => 0
  | x :: t => x + 256 * val t
theorem val_append : ∀ (a b : List Int), val (a ++ b) = val a + 256 ^ a.length * val b
  | [], b => by simp [val]
  | x :: a, b => by
    show x + 256 * val (a ++ b) = x + 256 * val a + 256 ^ (a.length + 1) * val b
    rw [val_append a b, Int.pow_succ, Int.mul_add, Int.add_assoc, Int.mul_comm (256 ^ a.length) 256, Int.mul_assoc]
theorem val_one (x : Int) : val [x] = x := by simp [val]
theorem val_range : ∀ {b : List Int}, BY b → 0 ≤ val b ∧ val b < 256 ^ b.length
  | [], _ => by simp [val]
  | x :: t, h => by
    have h1 := val_range (b := t) (fun y hy => h y (by simp [hy]))
    have hx := h x (by simp)
    show 0 ≤ x + 256 * val t ∧ x + 256 * val t < 256 ^ (t.length + 1)
    rw [Int.pow_succ]
    omega
theorem val_64 {b : List Int} (h : BY b) (hl : b.length ≤ 8) : 0 ≤ val b ∧ val b < 18446744073709551616 := by
  have h1 := val_range h
  refine ⟨h1.1, Int.lt_of_lt_of_le h1.2 ?_⟩
  have key : ∀ n, n ≤ 8 → (256 : Int) ^ n ≤ 18446744073709551616 := by decide
  exact key _ hl
theorem mod_mul_nat (a b m : Nat) : (m : Int) % (a : Int) + (a : Int) * ((m : Int) / (a : Int) % (b : Int)) = (m : Int) % ((a : Int) * (b : Int)) := by
  exact_mod_cast (Nat.mod_mul (x := m) (a := a) (b := b)).symm
theorem val_le (n : Int) (hn : 0 ≤ n) : ∀ k, val (le n k) = n % 256 ^ k
  | 0 => by simp [le, val]
  | k + 1 => by
    rw [le_succ, val_append, val_le n hn k, le_len, val_one, Int.pow_succ]
    obtain ⟨m, rfl⟩ := Int.eq_ofNat_of_zero_le hn
    have := mod_mul_nat (256 ^ k) 256 m
    rw [Int.natCast_pow] at this
    exact this
theorem or_comm64 (a b : Int) : Go.bits .or .u64 a b = Go.bits .or .u64 b a := by
  show IntKind.u64.wrap ((BitVec.ofInt 64 a ||| BitVec.ofInt 64 b).toNat : Int) = IntKind.u64.wrap ((BitVec.ofInt 64 b ||| BitVec.ofInt 64 a).toNat : Int)
  rw [BitVec.or_comm]
theorem prog_number : ∀ (suf pre : List Int), BY (pre ++ suf) → (pre ++ suf).length ≤ 8 →
    Pure.Ev (fun k => pager_number.l0 k (val pre) (pre ++ suf) ((pre ++ suf).length : Int) (pre.length : Int)) (val (pre ++ suf))
  | [], pre, _, _ => by
    refine Pure.Ev.succ ?_
    rw [List.append_nil]
    have e : ¬ ((pre.length : Int) < (pre.length : Int)) := Int.lt_irrefl _
    simp only [pager_number.l0, e, if_false]
    exact Pure.Ev.pure _
  | x :: suf, pre, hb, hl => by
    refine Pure.Ev.succ ?_
    have hx := hb x (by simp)
    have hpl : pre.length < 8 := by simp at hl; omega
    have e1 : (pre.length : Int) < ((pre ++ x :: suf).length : Int) := by simp; omega
    have e2 : (0 : Int) ≤ (pre.length : Int) := by omega
    have e3 : IntKind.u64.wrap x = x := by rw [IntKind.wrap_u64]; omega
    have e4 : wrap64 (8 * (pre.length : Int)) = ((8 * pre.length : Nat) : Int) := by unfold wrap64; omega
    have e5 : (0 : Int) ≤ ((8 * pre.length : Nat) : Int) := by omega
    have e6 : wrap64 ((pre.length : Int) + 1) = ((pre ++ [x]).length : Int) := by unfold wrap64; simp; omega
    have hpre : BY pre := fun y hy => hb y (by simp [hy])
    have hv := val_range hpre
    have e8 : (2 : Int) ^ (8 * pre.length) = 256 ^ pre.length := by rw [Int.pow_mul]; rfl
    have h64 := val_64 (b := pre ++ [x]) (hpre.append (fun y hy => by simp at hy; subst hy; exact hx)) (by simp; omega)
    have hva : val (pre ++ [x]) = val pre + 256 ^ pre.length * x := by rw [val_append, val_one]
    have e7 : Go.bits .or .u64 (val pre) (shl .u64 x ((8 * pre.length : Nat) : Int)) = val (pre ++ [x]) := by
      have es : shl .u64 x ((8 * pre.length : Nat) : Int) = x * 256 ^ pre.length := by
        unfold shl
        have hm : min ((8 * pre.length : Nat) : Int).toNat IntKind.u64.bits = 8 * pre.length := by
          rw [Int.toNat_natCast]
          exact Nat.min_eq_left (by show 8 * pre.length ≤ 64; omega)
        rw [hm, e8, IntKind.wrap_u64]
        have : 0 ≤ x * 256 ^ pre.length := Int.mul_nonneg hx.1 (Int.pow_nonneg (by decide))
        rw [Int.mul_comm] at hva
        omega
      have hmul : 0 ≤ x * 256 ^ pre.length := Int.mul_nonneg hx.1 (Int.pow_nonneg (by decide))
      rw [es, or_comm64, hva, Int.mul_comm (256 ^ pre.length) x]
      rw [Int.mul_comm (256 ^ pre.length) x] at hva
      rw [bits_join .u64 64 (by decide) (fun m h0 h1 => by rw [IntKind.wrap_u64]; omega) (8 * pre.length) (x * 256 ^ pre.length) (val pre) hmul (by rw [e8, Int.mul_emod_left]) (by omega) hv.1 (by rw [e8]; exact hv.2) (by omega)]
      omega
    simp only [pager_number.l0, e1, e2, if_true, rd_at, e3, e4, e5, e6, e7]
    have := prog_number suf (pre ++ [x]) (by simpa using hb) (by simpa using hl)
    simpa using this
theorem number_calls {A : Option Addr} {c : Nat} {l : List Int} (w : World) (hC : Kd.C (Kd.int .u8) w A l.length l) (hc : l.length ≤ c) (hb : BY l) (hl : l.length ≤ 8) :
    Calls Try.prog 67 #[.slice A l.length c] w fun e w' => e = .returned (.int .u64 (val l)) ∧ Below w.heap.size w w' := by
  obtain ⟨k, hk⟩ := (prog_number l [] hb hl).get
  exact (pager_number.calls k A c l _ w hC hc hk).mono fun e w' ⟨he, hd⟩ => ⟨he, hd.below⟩
end Go.Proofs.Ytmjmichkkmmdcaa.P
end
section
namespace Go.Proofs.Ytmjmichkkmmdcaa.P
open Go.RowKit Go.Proofs.Ytmjmichkkmmdcaa.Pure Go.Proofs.YtmjmichkkmmdcaaW.PrintWords Go.Proofs.YtmjmichkkmmdcaaW.PrintLast Go.Proofs.YtmjmichkkmmdcaaW.PrintMore
set_option linter.unusedVariables false
set_option linter.unusedSimpArgs false
def genP (b : List Int) : Int := val ((b.take 12).drop 4)
def rootP (b : List Int) : Int := val ((b.take 16).drop 12)
def headOK (b : List Int) (slot pages : Int) : Prop := genP b ≤ 4611686018427387904 ∧ rootP b ≠ 1 ∧ rootP b < pages ∧ genP b % 2 = slot ∧ b = pageB (headL (genP b) (rootP b))
instance (b : List Int) (slot pages : Int) : Decidable (headOK b slot pages) := by unfold headOK; infer_instance
theorem C_sub {W : World} {g c o m : Nat} {b : List Int} (h : Kd.C (Kd.int .u8) W (some ⟨g, 0, none⟩) b.length b) (hm : m ≤ b.length) (ho : o < m) : Kd.C (Kd.int .u8) W (some ⟨g, o, none⟩) (m - o) ((b.take m).drop o) := by
  have hmax := Kd.C_max h
  obtain ⟨ad, e, hc⟩ := C_cells h (by omega)
  injection e with e
  subst e
  refine ⟨by rw [List.length_drop, List.length_take]; omega, by omega, fun _ => ⟨⟨g, o, none⟩, rfl, fun j x hj => ⟨[.int .u8 x], rfl, rfl, fun i u hi => ?_⟩⟩⟩
  cases i with
  | succ i => simp at hi
  | zero =>
    obtain rfl : Value.int .u8 x = u := by simpa using hi
    rw [List.getElem?_drop, List.getElem?_take] at hj
    split at hj
    · have h1 := hc (o + j) (.int .u8 x) (by simp [bvs, hj])
      show W.cell? ((⟨g, o, none⟩ : Addr).add (j * 1 + 0)) = _
      rw [Addr.add_mid] at h1 ⊢
      rw [Nat.zero_add] at h1
      rw [Nat.mul_one, Nat.add_zero]
      exact h1
    · cases hj
theorem genP_len {b : List Int} (h5 : b.length = 512) : ((b.take 12).drop 4).length = 8 := by simp [h5]
theorem rootP_len {b : List Int} (h5 : b.length = 512) : ((b.take 16).drop 12).length = 4 := by simp [h5]
def HQ (b : List Int) (slot pages : Int) (e : Ending) : Prop := ∃ x y : Int, e = .returned (.tuple #[.agg #[.int .i64 x, .int .i64 y], .bool (decide (headOK b slot pages))]) ∧ (headOK b slot pages → x = rootP b ∧ y = genP b)
set_option maxHeartbeats 8000000 in
set_option maxRecDepth 100000 in
theorem headOf_calls {g c : Nat} {b : List Int} (slot pages : Int) (hs : slot = 0 ∨ slot = 1) (hp0 : 0 ≤ pages) (hp1 : pages ≤ 4096) (w : World) (hC : Kd.C (Kd.int .u8) w (some ⟨g, 0, none⟩) 512 b) (h5 : b.length = 512) (hc : 512 ≤ c) (hb : BY b) :
    Calls Try.prog 44 #[.slice (some ⟨g, 0, none⟩) 512 c, .int .i64 slot, .int .i64 pages] w fun e w' => HQ b slot pages e ∧ Below w.heap.size w w' := by
  have HC := Aside0.mk hC
  have H5 := Aside0.mk h5
  have HCC := Aside0.mk hc
  have HBY := Aside0.mk hb
  obtain ⟨G, hG⟩ : ∃ G, G = genP b := ⟨_, rfl⟩
  obtain ⟨R, hR⟩ : ∃ R, R = rootP b := ⟨_, rfl⟩
  have HGR := Aside0.mk (And.intro hG hR)
  have hg64 : 0 ≤ G ∧ G < 18446744073709551616 := by rw [hG]; exact val_64 ((hb.take 12).drop 4) (by rw [genP_len h5]; decide)
  have hr64 : 0 ≤ R ∧ R < 18446744073709551616 := by rw [hR]; exact val_64 ((hb.take 16).drop 12) (by rw [rootP_len h5]; decide)
  have HG64 := Aside0.mk hg64
  have HR64 := Aside0.mk hr64
  have hnum : ∀ W, Below w.heap.size w W → Calls Try.prog 67 #[.slice (some ⟨g, 4, none⟩) 8 (c - 4)] W fun e w' => e = .returned (.int .u64 G) ∧ Below W.heap.size W w' := fun W hW => by
    have h1 := C_sub (m := 12) (o := 4) (c := c) (by rw [h5]; exact Kd.C_below hC hW) (by omega) (by omega)
    have := number_calls (c := c - 4) (l := (b.take 12).drop 4) W (by rw [genP_len h5]; exact h1) (by rw [genP_len h5]; omega) ((hb.take 12).drop 4) (by rw [genP_len h5]; decide)
    rw [genP_len h5] at this
    rw [hG]
    exact this
  have hnum2 : ∀ W, Below w.heap.size w W → Calls Try.prog 67 #[.slice (some ⟨g, 12, none⟩) 4 (c - 12)] W fun e w' => e = .returned (.int .u64 R) ∧ Below W.heap.size W w' := fun W hW => by
    have h1 := C_sub (m := 16) (o := 12) (c := c) (by rw [h5]; exact Kd.C_below hC hW) (by omega) (by omega)
    have := number_calls (c := c - 12) (l := (b.take 16).drop 12) W (by rw [rootP_len h5]; exact h1) (by rw [rootP_len h5]; omega) ((hb.take 16).drop 12) (by rw [rootP_len h5]; decide)
    rw [rootP_len h5] at this
    rw [hR]
    exact this
  have HN1 := Aside0.mk hnum
  have HN2 := Aside0.mk hnum2
  have hx0 : (c = 4) = False := eq_false (by omega)
  have hx1 : (c = 12) = False := eq_false (by omega)
  have hx2 : (12 ≤ c) = True := eq_true (by omega)
  have hx3 : (16 ≤ c) = True := eq_true (by omega)
  have hx4 : ((12 : Int) ≤ (c : Int)) = True := eq_true (by omega)
  have hx5 : ((16 : Int) ≤ (c : Int)) = True := eq_true (by omega)
  have hpw : IntKind.u64.wrap pages = pages := by rw [IntKind.wrap_u64]; omega
  have hpw2 : pages % 18446744073709551616 = pages := by omega
  have HP := Aside0.mk (And.intro hp0 hp1)
  have HS := Aside0.mk hs
  clear hC h5 hc hb hG hR hg64 hr64 hnum hnum2 hp0 hp1 hs
  go_enter Try.func44, Try.ntmps44
  go_upto_region 1 with fail
  have hbk := Deep.blk_alloc_new w (.cells #[.int .i64 0, .int .i64 0] 81)
  refine at_world (fun W => W.heap[w.heap.size]? = some (.cells #[.int .i64 0, .int .i64 0] 81 (0, 0)) ∧ Below w.heap.size w W) ⟨hbk, below_alloc (Below.refl _ _) _⟩ (fun W hW => ?_)
  have HBK0 : Aside0 (W.drew.heap[w.heap.size]? = some (.cells #[.int .i64 0, .int .i64 0] 81 (0, 0))) := ⟨hW.1⟩
  have HB0 := Aside0.mk (below_step hW.2 (below_drew1 (Below.refl _ _)))
  clear hW hbk
  refine start_ (n := 8) (S := fun w' => True) (ds := [5]) #[false, false, false, false, false, false, false, false] (by kernel_rfl) rfl rfl trivial (fun hHeld => ?_)
  refine pure_ (i := 0) (N := some 11) (v := ?_) (a' := ?_) #[true, false, false, false, false, false, false, false] rfl rfl (by kernel_rfl) (fun _ _ _ h => h) (Or.inl ⟨by rfl, ?_⟩) ?_ ?_
  rotate_left
  · intro w'
    go_simp
    with_reducible rfl
  rotate_left
  · simp only [Act.put, List.setIfInBounds_toArray, List.set_cons_zero, List.set_cons_succ, i64_w, i32_w]
    rfl
  refine pure_ (i := 1) (N := some 12) (v := ?_) (a' := ?_) #[true, true, false, false, false, false, false, false] rfl rfl (by kernel_rfl) (fun _ _ _ h => h) (Or.inl ⟨by rfl, ?_⟩) ?_ ?_
  rotate_left
  · intro w'
    go_simp
    with_reducible rfl
  rotate_left
  · simp only [Act.put, List.setIfInBounds_toArray, List.set_cons_zero, List.set_cons_succ, i64_w, i32_w]
    rfl
  refine pure_ (i := 3) (N := some 14) (v := ?_) (a' := ?_) #[true, true, false, true, false, false, false, false] rfl rfl (by kernel_rfl) (fun _ _ _ h => h) (Or.inl ⟨by rfl, ?_⟩) ?_ ?_
  rotate_left
  · intro w'
    go_simp
    with_reducible rfl
  rotate_left
  · simp only [Act.put, List.setIfInBounds_toArray, List.set_cons_zero, List.set_cons_succ, i64_w, i32_w]
    rfl
  refine pure_ (i := 4) (N := some 15) (v := ?_) (a' := ?_) #[true, true, false, true, true, false, false, false] rfl rfl (by kernel_rfl) (fun _ _ _ h => h) (Or.inl ⟨by rfl, ?_⟩) ?_ ?_
  rotate_left
  · intro w'
    go_simp
    with_reducible rfl
  rotate_left
  · simp only [Act.put, List.setIfInBounds_toArray, List.set_cons_zero, List.set_cons_succ, i64_w, i32_w]
    rfl
  refine one_ (i := 2) (N := some 13) #[true, true, true, true, true, false, false, false] rfl rfl (by kernel_rfl) (by decide) (fun K hK => ?_)
  refine goes_ Try.func67 (by kernel_rfl) rfl #[.slice (some ⟨g, 4, none⟩) 8 (c - 4)] (by rfl) rfl rfl (by simp only [List.map_toArray, List.map_cons, List.map_nil]; rfl) ?_
  with_reducible refine (HN1.out _ HB0.out).mono ?_
  rintro e w2 ⟨rfl, hb⟩
  refine ⟨_, rfl, ?_⟩
  have HB2 := Aside0.mk (below_step HB0.out hb)
  have HBK2 := Aside0.mk (blk_below HBK0.out hb)
  clear hb
  refine hK.out _ _ trivial (fun hHeld => ?_)
  clear hK K
  refine norm_ (a' := ?_) ?_ ?_
  rotate_left
  · show Act.put _ (some 13) _ = _
    simp only [Act.put, List.setIfInBounds_toArray, List.set_cons_zero, List.set_cons_succ, i64_w, i32_w]
    rfl
  refine last_ (i := 5) (N := some 16) #[true, true, true, true, true, true, false, false] rfl rfl (by kernel_rfl) (by decide) (fun K hK => ?_)
  refine goes_ Try.func67 (by kernel_rfl) rfl #[.slice (some ⟨g, 12, none⟩) 4 (c - 12)] (by rfl) rfl rfl (by simp only [List.map_toArray, List.map_cons, List.map_nil]; rfl) ?_
  with_reducible refine (HN2.out _ HB2.out).mono ?_
  rintro e w3 ⟨rfl, hb⟩
  refine ⟨_, rfl, ?_⟩
  have HB3 := Aside0.mk (below_step HB2.out hb)
  have HBK3 := Aside0.mk (blk_below HBK2.out hb)
  clear hb hHeld
  refine hK.out _ _ ?_
  clear hK K
  refine norm_ (a' := ?_) ?_ ?_
  rotate_left
  · show Act.put _ (some 16) _ = _
    simp only [Act.put, List.setIfInBounds_toArray, List.set_cons_zero, List.set_cons_succ, i64_w, i32_w]
    rfl
  refine pure_ (i := 6) (N := some 8) (v := ?_) (a' := ?_) #[true, true, true, true, true, true, true, false] rfl rfl (by kernel_rfl) (fun _ _ _ h => h) (Or.inl ⟨by rfl, ?_⟩) ?_ ?_
  rotate_left
  · intro w'
    go_simp
    with_reducible rfl
  rotate_left
  · simp only [Act.put, List.setIfInBounds_toArray, List.set_cons_zero, List.set_cons_succ, i64_w, i32_w]
    rfl
  refine pure_ (i := 7) (N := some 9) (v := ?_) (a' := ?_) #[true, true, true, true, true, true, true, true] rfl rfl (by kernel_rfl) (fun _ _ _ h => h) (Or.inl ⟨by rfl, ?_⟩) ?_ ?_
  rotate_left
  · intro w'
    go_simp
    with_reducible rfl
  rotate_left
  · simp only [Act.put, List.setIfInBounds_toArray, List.set_cons_zero, List.set_cons_succ, i64_w, i32_w]
    rfl
  refine done_ (by kernel_rfl) ?_
  go_upto_region 2 with fail
  have ca0 : w3.cell? ⟨w.heap.size, 0, none⟩ = some (.int .i64 0) := (blk_cell HBK3.out 0).trans rfl
  have ca1 : w3.cell? ⟨w.heap.size, 1, none⟩ = some (.int .i64 0) := (blk_cell HBK3.out 1).trans rfl
  have cf0 := blk_frozen HBK3.out 0
  have cf1 := blk_frozen HBK3.out 1
  have fin : ∀ (hbad : ¬ headOK b slot pages) (x : Value), x = .tuple #[.agg #[.int .i64 0, .int .i64 0], .bool false] → HQ b slot pages (.returned x) := fun hbad x hx => ⟨0, 0, by rw [hx, decide_eq_false hbad], fun h => absurd h hbad⟩
  have FIN := Aside0.mk fin
  clear fin
  by_cases h1 : 4611686018427387904 < G
  · have t0 : decide (4611686018427387904 < G) = true := decide_eq_true h1
    have t1 : (4611686018427387904 < G) = True := eq_true h1
    have HBAD : Aside0 (¬ headOK b slot pages) := ⟨fun h => absurd h.1 (by rw [← HGR.out.1]; exact Int.not_le.2 h1)⟩
    clear h1
    go_wp2
    refine bodyPost_ret (results_ct rfl _ _ w.heap.size 81 #[.int .i64 0, .int .i64 0] (0, 0) _ rfl (blk_put (blk_put HBK3.out 0 _ rfl) 1 _ rfl) Try.underlying81 rfl (by kernel_rfl)) rfl ?_
    exact ⟨FIN.out HBAD.out _ (by simp), below_set (below_set HB3.out (Nat.le_refl _)) (Nat.le_refl _)⟩
  · have t0 : decide (4611686018427387904 < G) = false := decide_eq_false h1
    have t1 : (4611686018427387904 < G) = False := eq_false h1
    by_cases h2 : R = 1
    · have u0 : decide (R = 1) = true := decide_eq_true h2
      have u1 : (R == 1) = true := beq_iff_eq.mpr h2
      have HBAD : Aside0 (¬ headOK b slot pages) := ⟨fun h => h.2.1 (by rw [← HGR.out.2]; exact h2)⟩
      clear h1 h2
      go_wp2
      refine bodyPost_ret (results_ct rfl _ _ w.heap.size 81 #[.int .i64 0, .int .i64 0] (0, 0) _ rfl (blk_put (blk_put HBK3.out 0 _ rfl) 1 _ rfl) Try.underlying81 rfl (by kernel_rfl)) rfl ?_
      exact ⟨FIN.out HBAD.out _ (by simp), below_set (below_set HB3.out (Nat.le_refl _)) (Nat.le_refl _)⟩
    · have u0 : decide (R = 1) = false := decide_eq_false h2
      have u1 : (R == 1) = false := beq_eq_false_iff_ne.mpr h2
      have u2 : (R = 1) = False := eq_false h2
      by_cases h3 : pages ≤ R
      · have v0 : decide (pages ≤ R) = true := decide_eq_true h3
        have v1 : (pages ≤ R) = True := eq_true h3
        have HBAD : Aside0 (¬ headOK b slot pages) := ⟨fun h => absurd h.2.2.1 (by rw [← HGR.out.2]; exact Int.not_lt.2 h3)⟩
        clear h1 h2 h3
        go_wp2
        refine bodyPost_ret (results_ct rfl _ _ w.heap.size 81 #[.int .i64 0, .int .i64 0] (0, 0) _ rfl (blk_put (blk_put HBK3.out 0 _ rfl) 1 _ rfl) Try.underlying81 rfl (by kernel_rfl)) rfl ?_
        exact ⟨FIN.out HBAD.out _ (by simp), below_set (below_set HB3.out (Nat.le_refl _)) (Nat.le_refl _)⟩
      · have v0 : decide (pages ≤ R) = false := decide_eq_false h3
        have v1 : (pages ≤ R) = False := eq_false h3
        have x1 : IntKind.i64.wrap R = R := by rw [IntKind.wrap_i64]; have := HR64.out; have := HP.out; omega
        have x2 : IntKind.i64.wrap G = G := by rw [IntKind.wrap_i64]; have := HG64.out; omega
        have x3 : wrap64 R = R := by unfold wrap64; have := HR64.out; have := HP.out; omega
        have x4 : wrap64 G = G := by unfold wrap64; have := HG64.out; omega
        have HK := Aside0.mk (show G ≤ 4611686018427387904 ∧ R ≠ 1 ∧ R < pages from ⟨Int.not_lt.1 h1, h2, Int.not_le.1 h3⟩)
        have hR63 : R < 9223372036854775808 := by have := HP.out; omega
        have hG63 : G < 9223372036854775808 := by omega
        have H63 := Aside0.mk (And.intro hR63 hG63)
        clear h1 h2 h3 hR63 hG63 hx0 hx1 hx2 hx3 hx4 hx5
        go_upto_region 5 with fail
        have hbk1 := Deep.blk_alloc_new w3 (.cells #[.int .i64 R, .int .i64 G] 81)
        refine at_world (fun W => W.heap[w3.heap.size]? = some (.cells #[.int .i64 R, .int .i64 G] 81 (0, 0)) ∧ Below w3.heap.size w3 W) ⟨hbk1, below_alloc (Below.refl _ _) _⟩ (fun W5 hW5 => ?_)
        have HB5 := Aside0.mk (below_step hW5.2 (below_drew1 (Below.refl _ _)))
        have HBR : Aside0 (W5.drew.heap[w3.heap.size]? = some (.cells #[.int .i64 R, .int .i64 G] 81 (0, 0))) := ⟨hW5.1⟩
        clear hW5 hbk1 ca0 ca1 cf0 cf1
        by_cases h4 : G % 2 = slot
        · have y0 : decide (G % 2 = slot) = true := decide_eq_true h4
          have y1 : (G % 2 == slot) = true := beq_iff_eq.mpr h4
          have hpg : ∀ W, Calls Try.prog 66 #[.agg #[.int .i64 R, .int .i64 G]] W fun e w' => ∃ A' c', e = .returned (.slice A' 512 c') ∧ 512 ≤ c' ∧ Kd.C (Kd.int .u8) w' A' 512 (pageB (headL G R)) ∧ Below W.heap.size W w' := fun W => by
            refine (hpage_calls G R HG64.out.1 H63.out.2 HR64.out.1 H63.out.1 W).mono ?_
            rintro e w' ⟨v, rfl, ho, hB⟩
            obtain ⟨A', c', rfl⟩ := Kd.R_slice ho
            have hl : (pageB (headL G R)).length = 512 := by rw [pageB_len, headL_len]
            have hr := Kd.R_reads' ho
            rw [hl] at hr ⊢
            exact ⟨A', c', rfl, hr.2.1, hr.2.2, hB⟩
          have heq : ∀ W A' c', Below w.heap.size w W → 512 ≤ c' → Kd.C (Kd.int .u8) W A' 512 (pageB (headL G R)) → Calls Try.prog 68 #[.slice (some ⟨g, 0, none⟩) 512 c, .slice A' 512 c'] W fun e w' => e = .returned (.bool (decide (b = pageB (headL G R)))) ∧ Below W.heap.size W w' := fun W A' c' hW hc' hC' => by
            have hl : (pageB (headL G R)).length = 512 := by rw [pageB_len, headL_len]
            have := equal_calls (c := c) (c' := c') W (by rw [H5.out]; exact Kd.C_below HC.out hW) (by rw [H5.out]; exact HCC.out) (by rw [hl]; exact hC') (by rw [hl]; exact hc') HBY.out (pageB_by (headL_by G R))
            rw [H5.out, hl] at this
            exact this
          have HPG := Aside0.mk hpg
          have HEQ := Aside0.mk heq
          have H4 := Aside0.mk h4
          clear hpg heq h4
          obtain ⟨bq, hbq⟩ : ∃ bq, bq = decide (b = pageB (headL G R)) := ⟨_, rfl⟩
          have HBQ := Aside0.mk hbq
          rw [← hbq] at HEQ
          clear hbq
          refine start_ (n := 13) (S := fun w' => w'.cell? ⟨w3.heap.size, 0, none⟩ = some (.int .i64 R) ∧ w'.cell? ⟨w3.heap.size, 1, none⟩ = some (.int .i64 G)) (ds := [11]) #[false, false, false, false, false, false, false, false, false, false, false, false, false] (by kernel_rfl) rfl rfl ⟨(blk_cell HBR.out 0).trans rfl, (blk_cell HBR.out 1).trans rfl⟩ (fun hHeld => ?_)
          refine pure_ (i := 3) (N := some 38) (v := ?_) (a' := ?_) #[false, false, false, true, false, false, false, false, false, false, false, false, false] rfl rfl (by kernel_rfl) (fun _ _ _ h => h) (Or.inl ⟨by rfl, ?_⟩) ?_ ?_
          rotate_left
          · intro w'
            go_simp
            with_reducible rfl
          rotate_left
          · simp only [Act.put, List.setIfInBounds_toArray, List.set_cons_zero, List.set_cons_succ, i64_w, i32_w]
            rfl
          refine take_ (i := 0) (N := some 35) (v := ?_) (a' := ?_) #[true, false, false, true, false, false, false, false, false, false, false, false, false] rfl rfl (by kernel_rfl) (fun _ _ _ h => h) (Or.inl ⟨by rfl, ?_⟩) hHeld ?_ ?_
          rotate_left
          · rintro w' ⟨s0, s1⟩
            go_simp
            with_reducible rfl
          rotate_left
          · simp only [Act.put, List.setIfInBounds_toArray, List.set_cons_zero, List.set_cons_succ, i64_w, i32_w]
            rfl
          refine take_ (i := 1) (N := some 36) (v := ?_) (a' := ?_) #[true, true, false, true, false, false, false, false, false, false, false, false, false] rfl rfl (by kernel_rfl) (fun _ _ _ h => h) (Or.inl ⟨by rfl, ?_⟩) hHeld ?_ ?_
          rotate_left
          · rintro w' ⟨s0, s1⟩
            go_simp
            with_reducible rfl
          rotate_left
          · simp only [Act.put, List.setIfInBounds_toArray, List.set_cons_zero, List.set_cons_succ, i64_w, i32_w]
            rfl
          refine one_ (i := 2) (N := some 37) #[true, true, true, true, false, false, false, false, false, false, false, false, false] rfl rfl (by kernel_rfl) (by decide) (fun K hK => ?_)
          refine goes_ Try.func65 (by kernel_rfl) rfl #[.agg #[.int .i64 R, .int .i64 G]] (by rfl) rfl rfl (by simp only [List.map_toArray, List.map_cons, List.map_nil]; rfl) ?_
          with_reducible refine (pager_head_slot.calls R G (G % 2) _ (by unfold pager_head_slot.f; rw [Int.tmod_eq_emod_of_nonneg HG64.out.1])).mono ?_
          rintro e w6 ⟨rfl, hb⟩
          refine ⟨_, rfl, ?_⟩
          have HB6 := Aside0.mk (below_step HB5.out hb)
          have HBR6 := Aside0.mk (blk_below HBR.out hb)
          clear hb
          refine hK.out _ _ ⟨(blk_cell HBR6.out 0).trans rfl, (blk_cell HBR6.out 1).trans rfl⟩ (fun hHeld => ?_)
          clear hK K
          refine norm_ (a' := ?_) ?_ ?_
          rotate_left
          · show Act.put _ (some 37) _ = _
            simp only [Act.put, List.setIfInBounds_toArray, List.set_cons_zero, List.set_cons_succ, i64_w, i32_w]
            rfl
          refine pure_ (i := 4) (N := some 39) (v := ?_) (a' := ?_) #[true, true, true, true, true, false, false, false, false, false, false, false, false] rfl rfl (by kernel_rfl) (fun _ _ _ h => h) (Or.inl ⟨by rfl, ?_⟩) ?_ ?_
          rotate_left
          · intro w'
            go_simp
            with_reducible rfl
          rotate_left
          · simp only [Act.put, List.setIfInBounds_toArray, List.set_cons_zero, List.set_cons_succ, i64_w, i32_w]
            rfl
          refine pure_ (i := 5) (N := some 40) (v := ?_) (a' := ?_) #[true, true, true, true, true, true, false, false, false, false, false, false, false] rfl rfl (by kernel_rfl) (fun _ _ _ h => h) (Or.inl ⟨by rfl, ?_⟩) ?_ ?_
          rotate_left
          · intro w'
            go_simp
            with_reducible rfl
          rotate_left
          · simp only [Act.put, List.setIfInBounds_toArray, List.set_cons_zero, List.set_cons_succ, i64_w, i32_w]
            rfl
          refine pure_ (i := 6) (N := some 41) (v := ?_) (a' := ?_) #[true, true, true, true, true, true, true, false, false, false, false, false, false] rfl rfl (by kernel_rfl) (fun _ _ _ h => h) (Or.inl ⟨by rfl, ?_⟩) ?_ ?_
          rotate_left
          · intro w'
            go_simp
            with_reducible rfl
          rotate_left
          · simp only [Act.put, List.setIfInBounds_toArray, List.set_cons_zero, List.set_cons_succ, i64_w, i32_w]
            rfl
          refine take_ (i := 7) (N := some 42) (v := ?_) (a' := ?_) #[true, true, true, true, true, true, true, true, false, false, false, false, false] rfl rfl (by kernel_rfl) (fun _ _ _ h => h) (Or.inl ⟨by rfl, ?_⟩) hHeld ?_ ?_
          rotate_left
          · rintro w' ⟨s0, s1⟩
            go_simp
            with_reducible rfl
          rotate_left
          · simp only [Act.put, List.setIfInBounds_toArray, List.set_cons_zero, List.set_cons_succ, i64_w, i32_w]
            rfl
          refine one_ (i := 8) (N := some 43) #[true, true, true, true, true, true, true, true, true, false, false, false, false] rfl rfl (by kernel_rfl) (by decide) (fun K hK => ?_)
          refine goes_ Try.func66 (by kernel_rfl) rfl #[.agg #[.int .i64 R, .int .i64 G]] (by rfl) rfl rfl (by simp only [List.map_toArray, List.map_cons, List.map_nil]; rfl) ?_
          with_reducible refine (HPG.out _).mono ?_
          rintro e w7 ⟨A', c', rfl, hc', hC', hb⟩
          refine ⟨_, rfl, ?_⟩
          have HC7 := Aside0.mk (And.intro hc' hC')
          have HB7 := Aside0.mk (below_step HB6.out hb)
          have HBR7 := Aside0.mk (blk_below HBR6.out hb)
          clear hb hc' hC'
          refine hK.out _ _ ⟨(blk_cell HBR7.out 0).trans rfl, (blk_cell HBR7.out 1).trans rfl⟩ (fun hHeld => ?_)
          clear hK K
          refine norm_ (a' := ?_) ?_ ?_
          rotate_left
          · show Act.put _ (some 43) _ = _
            simp only [Act.put, List.setIfInBounds_toArray, List.set_cons_zero, List.set_cons_succ, i64_w, i32_w]
            rfl
          refine one_ (i := 9) (N := some 44) #[true, true, true, true, true, true, true, true, true, true, false, false, false] rfl rfl (by kernel_rfl) (by decide) (fun K hK => ?_)
          refine goes_ Try.func68 (by kernel_rfl) rfl #[.slice (some ⟨g, 0, none⟩) 512 c, .slice A' 512 c'] (by rfl) rfl rfl (by simp only [List.map_toArray, List.map_cons, List.map_nil]; rfl) ?_
          with_reducible refine (HEQ.out _ A' c' (HB3.out.trans (HB7.out.mono (below_size HB3.out))) HC7.out.1 HC7.out.2).mono ?_
          rintro e w8 ⟨rfl, hb⟩
          refine ⟨_, rfl, ?_⟩
          have HB8 := Aside0.mk (below_step HB7.out hb)
          have HBR8 := Aside0.mk (blk_below HBR7.out hb)
          clear hb
          refine hK.out _ _ ⟨(blk_cell HBR8.out 0).trans rfl, (blk_cell HBR8.out 1).trans rfl⟩ (fun hHeld => ?_)
          clear hK K
          refine norm_ (a' := ?_) ?_ ?_
          rotate_left
          · show Act.put _ (some 44) _ = _
            simp only [Act.put, List.setIfInBounds_toArray, List.set_cons_zero, List.set_cons_succ, i64_w, i32_w]
            rfl
          refine pure_ (i := 10) (N := some 45) (v := ?_) (a' := ?_) #[true, true, true, true, true, true, true, true, true, true, true, false, false] rfl rfl (by kernel_rfl) (fun _ _ _ h => h) (Or.inl ⟨by rfl, ?_⟩) ?_ ?_
          rotate_left
          · intro w'
            go_simp
            with_reducible rfl
          rotate_left
          · simp only [Act.put, List.setIfInBounds_toArray, List.set_cons_zero, List.set_cons_succ, i64_w, i32_w]
            rfl
          refine last_ (i := 11) (N := none) #[true, true, true, true, true, true, true, true, true, true, true, true, false] rfl rfl (by kernel_rfl) (by decide) (fun K hK => ?_)
          have hbz := blk_below HBK3.out HB8.out
          have ca0 : w8.cell? ⟨w.heap.size, 0, none⟩ = some (.int .i64 0) := (blk_cell hbz 0).trans rfl
          have ca1 : w8.cell? ⟨w.heap.size, 1, none⟩ = some (.int .i64 0) := (blk_cell hbz 1).trans rfl
          have cf0 := blk_frozen hbz 0
          have cf1 := blk_frozen hbz 1
          have HFI : Aside0 (((w8.setCell ⟨w.heap.size, 0, none⟩ (.int .i64 R)).setCell ⟨w.heap.size, 1, none⟩ (.int .i64 G)).heap[w.heap.size]? = some (.cells #[.int .i64 R, .int .i64 G] 81 (0, 0)) ∧ Below w.heap.size w ((w8.setCell ⟨w.heap.size, 0, none⟩ (.int .i64 R)).setCell ⟨w.heap.size, 1, none⟩ (.int .i64 G))) := ⟨⟨blk_put (blk_put hbz 0 _ rfl) 1 _ rfl, below_set (below_set (HB3.out.trans ((HB8.out).mono (below_size HB3.out))) (Nat.le_refl _)) (Nat.le_refl _)⟩⟩
          clear hbz hHeld
          refine skip_ (w1 := ?_) (by rfl) rfl ?_ ?_
          rotate_left
          · go_simp
            rfl
          clear ca0 ca1 cf0 cf1
          refine hK.out _ _ ?_
          clear hK K
          refine pure_ (i := 12) (N := some 7) (v := ?_) (a' := ?_) #[true, true, true, true, true, true, true, true, true, true, true, true, true] rfl rfl (by kernel_rfl) (fun _ _ _ h => h) (Or.inl ⟨by rfl, ?_⟩) ?_ ?_
          rotate_left
          · intro w'
            go_simp
            with_reducible rfl
          rotate_left
          · simp only [Act.put, List.setIfInBounds_toArray, List.set_cons_zero, List.set_cons_succ, i64_w, i32_w]
            rfl
          refine done_ (by kernel_rfl) ?_
          go_wp2
          refine bodyPost_ret (results_ct rfl _ _ w.heap.size 81 #[.int .i64 R, .int .i64 G] (0, 0) _ rfl HFI.out.1 Try.underlying81 rfl (by kernel_rfl)) rfl ?_
          refine ⟨⟨R, G, ?_, fun _ => ⟨HGR.out.2, HGR.out.1⟩⟩, HFI.out.2⟩
          have hiff : headOK b slot pages ↔ b = pageB (headL G R) := by
            unfold headOK
            rw [← HGR.out.1, ← HGR.out.2]
            exact ⟨fun h => h.2.2.2.2, fun h => ⟨HK.out.1, HK.out.2.1, HK.out.2.2, H4.out, h⟩⟩
          have : bq = decide (headOK b slot pages) := by rw [HBQ.out]; exact decide_eq_decide.2 hiff.symm
          simp [this]
        · have y0 : decide (G % 2 = slot) = false := decide_eq_false h4
          have y1 : (G % 2 == slot) = false := beq_eq_false_iff_ne.mpr h4
          have HBAD : Aside0 (¬ headOK b slot pages) := ⟨fun h => h4 (by rw [HGR.out.1]; exact h.2.2.2.1)⟩
          clear h4
          refine start_ (n := 13) (S := fun w' => w'.cell? ⟨w3.heap.size, 0, none⟩ = some (.int .i64 R) ∧ w'.cell? ⟨w3.heap.size, 1, none⟩ = some (.int .i64 G)) (ds := [11]) #[false, false, false, false, false, false, false, false, false, false, false, false, false] (by kernel_rfl) rfl rfl ⟨(blk_cell HBR.out 0).trans rfl, (blk_cell HBR.out 1).trans rfl⟩ (fun hHeld => ?_)
          refine pure_ (i := 3) (N := some 38) (v := ?_) (a' := ?_) #[false, false, false, true, false, false, false, false, false, false, false, false, false] rfl rfl (by kernel_rfl) (fun _ _ _ h => h) (Or.inl ⟨by rfl, ?_⟩) ?_ ?_
          rotate_left
          · intro w'
            go_simp
            with_reducible rfl
          rotate_left
          · simp only [Act.put, List.setIfInBounds_toArray, List.set_cons_zero, List.set_cons_succ, i64_w, i32_w]
            rfl
          refine take_ (i := 0) (N := some 35) (v := ?_) (a' := ?_) #[true, false, false, true, false, false, false, false, false, false, false, false, false] rfl rfl (by kernel_rfl) (fun _ _ _ h => h) (Or.inl ⟨by rfl, ?_⟩) hHeld ?_ ?_
          rotate_left
          · rintro w' ⟨s0, s1⟩
            go_simp
            with_reducible rfl
          rotate_left
          · simp only [Act.put, List.setIfInBounds_toArray, List.set_cons_zero, List.set_cons_succ, i64_w, i32_w]
            rfl
          refine take_ (i := 1) (N := some 36) (v := ?_) (a' := ?_) #[true, true, false, true, false, false, false, false, false, false, false, false, false] rfl rfl (by kernel_rfl) (fun _ _ _ h => h) (Or.inl ⟨by rfl, ?_⟩) hHeld ?_ ?_
          rotate_left
          · rintro w' ⟨s0, s1⟩
            go_simp
            with_reducible rfl
          rotate_left
          · simp only [Act.put, List.setIfInBounds_toArray, List.set_cons_zero, List.set_cons_succ, i64_w, i32_w]
            rfl
          refine one_ (i := 2) (N := some 37) #[true, true, true, true, false, false, false, false, false, false, false, false, false] rfl rfl (by kernel_rfl) (by decide) (fun K hK => ?_)
          refine goes_ Try.func65 (by kernel_rfl) rfl #[.agg #[.int .i64 R, .int .i64 G]] (by rfl) rfl rfl (by simp only [List.map_toArray, List.map_cons, List.map_nil]; rfl) ?_
          with_reducible refine (pager_head_slot.calls R G (G % 2) _ (by unfold pager_head_slot.f; rw [Int.tmod_eq_emod_of_nonneg HG64.out.1])).mono ?_
          rintro e w6 ⟨rfl, hb⟩
          refine ⟨_, rfl, ?_⟩
          have HB6 := Aside0.mk (below_step HB5.out hb)
          have HBR6 := Aside0.mk (blk_below HBR.out hb)
          clear hb
          refine hK.out _ _ ⟨(blk_cell HBR6.out 0).trans rfl, (blk_cell HBR6.out 1).trans rfl⟩ (fun hHeld => ?_)
          clear hK K
          refine norm_ (a' := ?_) ?_ ?_
          rotate_left
          · show Act.put _ (some 37) _ = _
            simp only [Act.put, List.setIfInBounds_toArray, List.set_cons_zero, List.set_cons_succ, i64_w, i32_w]
            rfl
          refine pure_ (i := 4) (N := some 39) (v := ?_) (a' := ?_) #[true, true, true, true, true, false, false, false, false, false, false, false, false] rfl rfl (by kernel_rfl) (fun _ _ _ h => h) (Or.inl ⟨by rfl, ?_⟩) ?_ ?_
          rotate_left
          · intro w'
            go_simp
            with_reducible rfl
          rotate_left
          · simp only [Act.put, List.setIfInBounds_toArray, List.set_cons_zero, List.set_cons_succ, i64_w, i32_w]
            rfl
          refine pure_ (i := 5) (N := some 40) (v := ?_) (a' := ?_) #[true, true, true, true, true, true, false, false, false, false, false, false, false] rfl rfl (by kernel_rfl) (fun _ _ _ h => h) (Or.inl ⟨by rfl, ?_⟩) ?_ ?_
          rotate_left
          · intro w'
            go_simp
            with_reducible rfl
          rotate_left
          · simp only [Act.put, List.setIfInBounds_toArray, List.set_cons_zero, List.set_cons_succ, i64_w, i32_w]
            rfl
          refine pure_ (i := 6) (N := some 41) (v := undef) (a' := ?_) #[true, true, true, true, true, true, true, false, false, false, false, false, false] rfl rfl (by kernel_rfl) (fun _ _ _ h => h) (Or.inr ⟨by rfl, rfl⟩) ?_ ?_
          rotate_left
          · simp only [Act.put, List.setIfInBounds_toArray, List.set_cons_zero, List.set_cons_succ, i64_w, i32_w]
            rfl
          refine pure_ (i := 7) (N := some 42) (v := undef) (a' := ?_) #[true, true, true, true, true, true, true, true, false, false, false, false, false] rfl rfl (by kernel_rfl) (fun _ _ _ h => h) (Or.inr ⟨by rfl, rfl⟩) ?_ ?_
          rotate_left
          · simp only [Act.put, List.setIfInBounds_toArray, List.set_cons_zero, List.set_cons_succ, i64_w, i32_w]
            rfl
          refine pure_ (i := 8) (N := some 43) (v := undef) (a' := ?_) #[true, true, true, true, true, true, true, true, true, false, false, false, false] rfl rfl (by kernel_rfl) (fun _ _ _ h => h) (Or.inr ⟨by rfl, rfl⟩) ?_ ?_
          rotate_left
          · simp only [Act.put, List.setIfInBounds_toArray, List.set_cons_zero, List.set_cons_succ, i64_w, i32_w]
            rfl
          refine pure_ (i := 9) (N := some 44) (v := undef) (a' := ?_) #[true, true, true, true, true, true, true, true, true, true, false, false, false] rfl rfl (by kernel_rfl) (fun _ _ _ h => h) (Or.inr ⟨by rfl, rfl⟩) ?_ ?_
          rotate_left
          · simp only [Act.put, List.setIfInBounds_toArray, List.set_cons_zero, List.set_cons_succ, i64_w, i32_w]
            rfl
          refine pure_ (i := 10) (N := some 45) (v := ?_) (a' := ?_) #[true, true, true, true, true, true, true, true, true, true, true, false, false] rfl rfl (by kernel_rfl) (fun _ _ _ h => h) (Or.inl ⟨by rfl, ?_⟩) ?_ ?_
          rotate_left
          · intro w'
            go_simp
            with_reducible rfl
          rotate_left
          · simp only [Act.put, List.setIfInBounds_toArray, List.set_cons_zero, List.set_cons_succ, i64_w, i32_w]
            rfl
          refine last_ (i := 11) (N := none) #[true, true, true, true, true, true, true, true, true, true, true, true, false] rfl rfl (by kernel_rfl) (by decide) (fun K hK => ?_)
          have hbz := blk_below HBK3.out HB6.out
          have ca0 : w6.cell? ⟨w.heap.size, 0, none⟩ = some (.int .i64 0) := (blk_cell hbz 0).trans rfl
          have ca1 : w6.cell? ⟨w.heap.size, 1, none⟩ = some (.int .i64 0) := (blk_cell hbz 1).trans rfl
          have cf0 := blk_frozen hbz 0
          have cf1 := blk_frozen hbz 1
          have HFI : Aside0 (((w6.setCell ⟨w.heap.size, 0, none⟩ (.int .i64 R)).setCell ⟨w.heap.size, 1, none⟩ (.int .i64 G)).heap[w.heap.size]? = some (.cells #[.int .i64 R, .int .i64 G] 81 (0, 0)) ∧ Below w.heap.size w ((w6.setCell ⟨w.heap.size, 0, none⟩ (.int .i64 R)).setCell ⟨w.heap.size, 1, none⟩ (.int .i64 G))) := ⟨⟨blk_put (blk_put hbz 0 _ rfl) 1 _ rfl, below_set (below_set (HB3.out.trans ((HB6.out).mono (below_size HB3.out))) (Nat.le_refl _)) (Nat.le_refl _)⟩⟩
          clear hbz hHeld
          refine skip_ (w1 := ?_) (by rfl) rfl ?_ ?_
          rotate_left
          · go_simp
            rfl
          clear ca0 ca1 cf0 cf1
          refine hK.out _ _ ?_
          clear hK K
          refine pure_ (i := 12) (N := some 7) (v := ?_) (a' := ?_) #[true, true, true, true, true, true, true, true, true, true, true, true, true] rfl rfl (by kernel_rfl) (fun _ _ _ h => h) (Or.inl ⟨by rfl, ?_⟩) ?_ ?_
          rotate_left
          · intro w'
            go_simp
            with_reducible rfl
          rotate_left
          · simp only [Act.put, List.setIfInBounds_toArray, List.set_cons_zero, List.set_cons_succ, i64_w, i32_w]
            rfl
          refine done_ (by kernel_rfl) ?_
          go_wp2
          refine bodyPost_ret (results_ct rfl _ _ w.heap.size 81 #[.int .i64 R, .int .i64 G] (0, 0) _ rfl HFI.out.1 Try.underlying81 rfl (by kernel_rfl)) rfl ?_
          exact ⟨⟨R, G, by simp [decide_eq_false HBAD.out], fun h => absurd h HBAD.out⟩, HFI.out.2⟩
end Go.Proofs.Ytmjmichkkmmdcaa.P
end
section
namespace Go.Proofs.Ytmjmichkkmmdcaa.P
open Go.RowKit Go.Proofs.Ytmjmichkkmmdcaa.Pure Go.Proofs.YtmjmichkkmmdcaaW.PrintWords Go.Proofs.YtmjmichkkmmdcaaW.PrintLast Go.Proofs.YtmjmichkkmmdcaaW.PrintMore
set_option linter.unusedVariables false
set_option linter.unusedSimpArgs false
def DB (s : Dk) : Prop := (∀ i, BY (s.last i)) ∧ ∀ x ∈ s.cache, BY x.2
theorem DB.has {s : Dk} (h : DB s) (n : Int) : BY (hasP s n) := by
  unfold hasP
  split
  · rename_i x hx
    exact h.2 x (by simpa using List.mem_of_find?_eq_some hx)
  · exact h.1 n
def hpg (gen root : Int) : List Int := pageB (headL gen root)
theorem hpg_len (gen root : Int) : (hpg gen root).length = 512 := by unfold hpg; rw [pageB_len, headL_len]
theorem hpg_by (gen root : Int) : BY (hpg gen root) := pageB_by (headL_by gen root)
def headP (b : List Int) (slot pages : Int) : Option (Int × Int) := if headOK b slot pages then some (genP b, rootP b) else none
def updB (o h : Option (Int × Int)) : Option (Int × Int) := match h with
  | none => o
  | some x => match o with
    | none => some x
    | some y => if y.1 < x.1 then some x else some y
def best (s : Dk) : Nat → Option (Int × Int)
  | 0 => none
  | j + 1 => updB (best s j) (headP (hasP s (j : Int)) (j : Int) s.pages)
def opnP (s : Dk) : Option (Int × Int) := best s 2
def opnE (s : Dk) : Int := if s.pages ≤ 2 then 2 else if s.down = true then 9 else if (opnP s).isSome = true then 0 else 10
def PG (W : World) (p d : Nat) (root gen : Int) (down : Bool) : Prop := W.heap[p]? = some (.cells #[.pointer (some ⟨d, 0, none⟩), .int .i64 root, .int .i64 gen, .bool down] 83 (0, 0))
def OpQ (d : Nat) (s : Dk) (w : World) (e : Ending) (w' : World) : Prop := Below w.heap.size w w' ∧ ∃ po, e = .returned (.tuple #[.pointer po, .int .i64 (opnE s)]) ∧ (opnE s ≠ 0 → po = none) ∧ (∀ x, opnE s = 0 → opnP s = some x → ∃ p, po = some ⟨p, 0, none⟩ ∧ w.heap.size ≤ p ∧ PG w' p d x.2 x.1 false)
set_option maxHeartbeats 8000000 in
set_option maxRecDepth 100000 in
theorem open_calls {base d C : Nat} {s : Dk} (m : Nat) (hm : s.pages = (m : Int)) (hm4 : m ≤ 4096) (hdb : DB s) (w : World) (h : DS w base d s C) :
    Calls Try.prog 15 #[.pointer (some ⟨d, 0, none⟩)] w fun e w' => OpQ d s w e w' := by
  have HS := Aside0.mk h
  have HM := Aside0.mk (And.intro hm hm4)
  have HDB := Aside0.mk hdb
  have hpg : ∀ W, Below w.heap.size w W → Calls Try.prog 43 #[.pointer (some ⟨d, 0, none⟩)] W fun e w' => e = .returned (.int .i64 (m : Int)) ∧ Below W.heap.size W w' := fun W hW => by
    rw [← hm]
    exact ds_pages W (h.step hW)
  have HPGS := Aside0.mk hpg
  have HB := Aside0.mk (Below.refl w.heap.size w)
  clear h hdb hpg
  by_cases h2 : m ≤ 2
  · have h2i : (m : Int) ≤ 2 := by omega
    have hE : opnE s = 2 := by unfold opnE; rw [if_pos (by rw [hm]; exact h2i)]
    have HE := Aside0.mk hE
    have b0 : decide ((m : Int) ≤ 2) = true := decide_eq_true h2i
    have b1 : ((m : Int) ≤ 2) = True := eq_true h2i
    have b2 : (m ≤ 2) = True := eq_true h2
    clear hm hm4 h2 h2i hE
    go_enter Try.func15, Try.ntmps15
    go_wp2_with (go_at_call 43; (with_reducible refine (HPGS.out _ HB.out).mono ?_); rintro e w1 ⟨rfl, hb⟩; have HB1 := Aside0.mk hb; clear hb)
    refine bodyPost_ret (results_tmp2 rfl _ _ _) rfl ?_
    exact ⟨HB1.out, none, by rw [HE.out]; simp, fun _ => rfl, fun x h0 _ => by rw [HE.out] at h0; cases h0⟩
  · have h2i : ¬ (m : Int) ≤ 2 := by omega
    have b0 : decide ((m : Int) ≤ 2) = false := decide_eq_false h2i
    have b1 : ((m : Int) ≤ 2) = False := eq_false h2i
    have b2 : (m ≤ 2) = False := eq_false h2
    have H2 := Aside0.mk (show 3 ≤ m by omega)
    have HP2 := Aside0.mk (show ¬ s.pages ≤ 2 by rw [hm]; exact h2i)
    clear hm hm4 h2 h2i
    go_enter Try.func15, Try.ntmps15
    go_upto_region 4 with (go_at_call 43; (with_reducible refine (HPGS.out _ HB.out).mono ?_); rintro e w1 ⟨rfl, hb⟩; have HB1 := Aside0.mk hb; clear hb)
    have HN0 : Aside0 (∃ x y : Int, (w1.alloc (.cells #[.int .i64 0, .int .i64 0] 81)).heap[w1.heap.size]? = some (.cells #[.int .i64 x, .int .i64 y] 81 (0, 0)) ∧ ∀ z, best s 0 = some z → x = z.2 ∧ y = z.1) := ⟨0, 0, Deep.blk_alloc_new w1 _, fun z hz => by cases hz⟩
    have HB2 := Aside0.mk (below_alloc HB1.out (.cells #[.int .i64 0, .int .i64 0] 81))
    have HZ1 := Aside0.mk (below_size HB1.out)
    go_wp2_with fail
    go_loopw [5, 14] (fun v5 v14 wr => ∃ j : Nat, v14 = .int .i64 (j : Int) ∧ v5 = .bool (best s j).isSome ∧ j ≤ 2 ∧ Aside0 (∃ x y : Int, wr.heap[w1.heap.size]? = some (.cells #[.int .i64 x, .int .i64 y] 81 (0, 0)) ∧ ∀ z, best s j = some z → x = z.2 ∧ y = z.1) ∧ Aside0 (Below w.heap.size w wr) ∧ Aside0 (0 < j → s.down = false)) (fun _ v14 _ => 2 - (intOf v14).toNat)
    case atStart => exact ⟨0, rfl, rfl, Nat.zero_le _, HN0, HB2, ⟨fun h => absurd h (Nat.lt_irrefl 0)⟩⟩
    case round =>
      clear HN0 HB2
      obtain ⟨j, rfl, rfl, hj, HN, HB2, HDJ⟩ := hrel
      by_cases hlt : j < 2
      · have hlti : (j : Int) < 2 := by omega
        have c1 : decide ((j : Int) < 2) = true := decide_eq_true hlti
        have c2 : ((j : Int) < 2) = True := eq_true hlti
        have c3 : (j < 2) = True := eq_true hlt
        have w2_ : wrap64 ((j : Int) + 1) = (j : Int) + 1 := by unfold wrap64; omega
        have HJ := Aside0.mk hlt
        have hj01 : (j : Int) = 0 ∨ (j : Int) = 1 := by omega
        have HJ01 := Aside0.mk hj01
        clear hlt hlti hj hj01
        by_cases hd : s.down = true
        · have hl : lookP s (j : Int) = 9 := if_pos hd
          have HL := Aside0.mk hl
          have HE : Aside0 (opnE s = 9) := ⟨by unfold opnE; rw [if_neg (Int.not_le.2 HP2.out), if_pos hd]⟩
          clear hl hd
          go_wp2_with (go_at_call 17; (with_reducible refine (ds_read (j : Int) _ (HS.out.step HB2.out)).mono ?_); rintro e w3 ⟨v, rfl, hb, hq⟩; obtain rfl : v = .slice none 0 0 := (by rcases hq with ⟨_, e⟩ | ⟨hn, _⟩; exact e; rw [HL.out] at hn; cases hn); rw [HL.out]; have HB3 := Aside0.mk (below_step HB2.out hb); clear hb hq)
          refine bodyPost_ret (results_tmp2 rfl _ _ _) rfl ?_
          exact ⟨HB3.out, none, by rw [HE.out]; simp, fun _ => rfl, fun x h0 _ => by rw [HE.out] at h0; cases h0⟩
        · have hd0 : s.down = false := by simpa using hd
          have HD0 := Aside0.mk hd0
          have hl : lookP s (j : Int) = 0 := lookP_ok' hd0 (Int.natCast_nonneg j) (by rw [HM.out.1]; have := H2.out; have := HJ.out; omega)
          have HL := Aside0.mk hl
          clear hl hd hd0
          obtain ⟨B, hB⟩ : ∃ B, B = hasP s (j : Int) := ⟨_, rfl⟩
          have HBB := Aside0.mk hB
          have hB5 : B.length = 512 := by rw [hB]; exact HS.out.has_len _
          have hBY : BY B := by rw [hB]; exact HDB.out.has _
          have HB5 := Aside0.mk (And.intro hB5 hBY)
          clear hB hB5 hBY
          go_upto_region 11 with (go_at_call 17; (with_reducible refine (ds_read (j : Int) _ (HS.out.step HB2.out)).mono ?_); rw [HL.out, ← HBB.out]; rintro e w3 ⟨v, rfl, hb, ⟨hn, _⟩ | ⟨_, g, hg, rfl, hc⟩⟩; (first | exact absurd rfl hn | skip); have HC3 := Aside0.mk hc; have HB3 := Aside0.mk (below_step HB2.out hb); have HN3 : Aside0 (∃ x y : Int, w3.heap[w1.heap.size]? = some (.cells #[.int .i64 x, .int .i64 y] 81 (0, 0)) ∧ ∀ z, best s j = some z → x = z.2 ∧ y = z.1) := ⟨HN.out.imp fun x hx => hx.imp fun y hy => ⟨blk_below hy.1 hb, hy.2⟩⟩; clear hb hg hc HN)
          have hho : ∀ W, Below w3.heap.size w3 W → Calls Try.prog 44 #[.slice (some ⟨g, 0, none⟩) 512 512, .int .i64 (j : Int), .int .i64 (m : Int)] W fun e w' => HQ B (j : Int) (m : Int) e ∧ Below W.heap.size W w' := fun W hW => by
            have hCb := c_bytes HC3.out (by rw [HB5.out.1]; decide)
            rw [HB5.out.1] at hCb
            exact headOf_calls (j : Int) (m : Int) HJ01.out (Int.natCast_nonneg m) (by have := HM.out.2; omega) W (Kd.C_below hCb hW) HB5.out.1 (Nat.le_refl _) HB5.out.2
          have HHO := Aside0.mk hho
          clear hho
          by_cases hok : headOK B (j : Int) (m : Int)
          · have HOK := Aside0.mk hok
            have hbj : best s (j + 1) = updB (best s j) (some (genP B, rootP B)) := by
              show updB (best s j) (headP (hasP s (j : Int)) (j : Int) s.pages) = _
              rw [← HBB.out, HM.out.1]
              unfold headP
              rw [if_pos hok]
            have HBJ := Aside0.mk hbj
            clear hok hbj
            go_upto_region 12 with (first
              | (go_at_call 43; (with_reducible refine (HPGS.out _ HB3.out).mono ?_); rintro e w4 ⟨rfl, hb⟩; have HB4 := Aside0.mk hb; clear hb)
              | (go_at_call 44; (with_reducible refine (HHO.out _ HB4.out).mono ?_); rintro e w5 ⟨⟨x5, y5, rfl, hxy⟩, hb⟩; rw [decide_eq_true HOK.out]; have HXY := Aside0.mk (hxy HOK.out); have HB5' := Aside0.mk (HB4.out.trans (hb.mono (below_size HB4.out))); clear hxy hb))
            have hbz := Deep.blk_alloc_new w5 (.cells #[.int .i64 x5, .int .i64 y5] 81)
            obtain ⟨x0, y0, hn0, hz0⟩ := HN3.out
            have hn5 := blk_alloc (blk_below hn0 HB5'.out) (.cells #[.int .i64 x5, .int .i64 y5] 81)
            have HB6 := Aside0.mk (below_alloc (below_step HB3.out HB5'.out) (.cells #[.int .i64 x5, .int .i64 y5] 81))
            have HXY0 := Aside0.mk hz0
            have HBZ := Aside0.mk (And.intro hbz hn5)
            clear hbz hn0 hz0 hn5
            have ca0 := (blk_cell HBZ.out.1 0).trans (rfl : _ = some (Value.int .i64 x5))
            have ca1 := (blk_cell HBZ.out.1 1).trans (rfl : _ = some (Value.int .i64 y5))
            have cb0 := (blk_cell HBZ.out.2 0).trans (rfl : _ = some (Value.int .i64 x0))
            have cb1 := (blk_cell HBZ.out.2 1).trans (rfl : _ = some (Value.int .i64 y0))
            have cf0 := blk_frozen HBZ.out.2 0
            have cf1 := blk_frozen HBZ.out.2 1
            have HST : Aside0 (∀ (k : Nat), ((((w5.alloc (.cells #[.int .i64 x5, .int .i64 y5] 81)).setCell ⟨w1.heap.size, 0, none⟩ (.int .i64 x5)).setCell ⟨w1.heap.size, 1, none⟩ (.int .i64 y5)).heap[w1.heap.size]? = some (.cells #[.int .i64 x5, .int .i64 y5] 81 (0, 0))) ∧ Below w.heap.size w (((w5.alloc (.cells #[.int .i64 x5, .int .i64 y5] 81)).setCell ⟨w1.heap.size, 0, none⟩ (.int .i64 x5)).setCell ⟨w1.heap.size, 1, none⟩ (.int .i64 y5))) := ⟨fun _ => ⟨blk_put (blk_put HBZ.out.2 0 _ rfl) 1 _ rfl, below_set (below_set HB6.out HZ1.out) HZ1.out⟩⟩
            cases hbb : best s j with
            | none =>
              have HN' : Aside0 (best s (j + 1) = some (genP B, rootP B)) := ⟨by rw [HBJ.out, hbb]; rfl⟩
              clear hbb
              go_wp2_with fail
              go_roundw
              case rel => exact ⟨j + 1, by first | exact congrArg (Value.int .i64) w2_ | rfl, by rw [HN'.out]; rfl, HJ.out, ⟨x5, y5, (HST.out 0).1, fun z hz => by rw [HN'.out] at hz; cases hz; exact HXY.out⟩, ⟨(HST.out 0).2⟩, ⟨fun _ => HD0.out⟩⟩
              case measure => exact meas_lt HJ.out (by first | exact congrArg (Value.int .i64) w2_ | rfl)
            | some z =>
              have hxy := HXY0.out z hbb
              by_cases hgt : y0 < y5
              · have HN' : Aside0 (best s (j + 1) = some (genP B, rootP B)) := ⟨by rw [HBJ.out, hbb]; show (if z.1 < genP B then _ else _) = _; rw [if_pos (by rw [← hxy.2, ← HXY.out.2]; exact hgt)]⟩
                have d0 : decide (y0 < y5) = true := decide_eq_true hgt
                have d1 : (y0 < y5) = True := eq_true hgt
                clear hbb hxy hgt
                go_wp2_with fail
                go_roundw
                case rel => exact ⟨j + 1, by first | exact congrArg (Value.int .i64) w2_ | rfl, by rw [HN'.out]; rfl, HJ.out, ⟨x5, y5, (HST.out 0).1, fun z hz => by rw [HN'.out] at hz; cases hz; exact HXY.out⟩, ⟨(HST.out 0).2⟩, ⟨fun _ => HD0.out⟩⟩
                case measure => exact meas_lt HJ.out (by first | exact congrArg (Value.int .i64) w2_ | rfl)
              · have HN' : Aside0 (best s (j + 1) = some z) := ⟨by rw [HBJ.out, hbb]; show (if z.1 < genP B then _ else _) = _; rw [if_neg (by rw [← hxy.2, ← HXY.out.2]; exact hgt)]⟩
                have HXZ := Aside0.mk hxy
                have d0 : decide (y0 < y5) = false := decide_eq_false hgt
                have d1 : (y0 < y5) = False := eq_false hgt
                clear hbb hxy hgt
                go_wp2_with fail
                go_roundw
                case rel => exact ⟨j + 1, by first | exact congrArg (Value.int .i64) w2_ | rfl, by rw [HN'.out], HJ.out, ⟨x0, y0, HBZ.out.2, fun z hz => by rw [HN'.out] at hz; cases hz; exact HXZ.out⟩, HB6, ⟨fun _ => HD0.out⟩⟩
                case measure => exact meas_lt HJ.out (by first | exact congrArg (Value.int .i64) w2_ | rfl)
          · have HOK := Aside0.mk hok
            have hbj : best s (j + 1) = best s j := by
              show updB (best s j) (headP (hasP s (j : Int)) (j : Int) s.pages) = _
              rw [← HBB.out, HM.out.1]
              unfold headP
              rw [if_neg hok]
              rfl
            have HBJ := Aside0.mk hbj
            clear hok hbj
            go_wp2_with (first
              | (go_at_call 43; (with_reducible refine (HPGS.out _ HB3.out).mono ?_); rintro e w4 ⟨rfl, hb⟩; have HB4 := Aside0.mk hb; clear hb)
              | (go_at_call 44; (with_reducible refine (HHO.out _ HB4.out).mono ?_); rintro e w5 ⟨⟨x5, y5, rfl, hxy⟩, hb⟩; rw [decide_eq_false HOK.out]; have HB5' := Aside0.mk (HB4.out.trans (hb.mono (below_size HB4.out))); clear hxy hb))
            go_roundw
            case rel => exact ⟨j + 1, by first | exact congrArg (Value.int .i64) w2_ | rfl, by rw [HBJ.out], HJ.out, ⟨HN3.out.imp fun x hx => hx.imp fun y hy => ⟨blk_alloc (blk_below hy.1 HB5'.out) _, fun z hz => hy.2 z (by rw [← HBJ.out]; exact hz)⟩⟩, ⟨below_alloc (below_step HB3.out HB5'.out) _⟩, ⟨fun _ => HD0.out⟩⟩
            case measure => exact meas_lt HJ.out (by first | exact congrArg (Value.int .i64) w2_ | rfl)
      · have hj2 : j = 2 := by omega
        subst hj2
        have hd0 := HDJ.out (by decide)
        have c1 : decide (((2 : Nat) : Int) < 2) = false := by decide
        obtain ⟨x0, y0, hn0, hz0⟩ := HN.out
        have HN0 := Aside0.mk (And.intro hn0 hz0)
        clear hlt hj hn0 hz0 HN HDJ
        cases hbb : best s 2 with
        | none =>
          have HE : Aside0 (opnE s = 10) := ⟨by unfold opnE opnP; rw [if_neg (Int.not_le.2 HP2.out), if_neg (by rw [hd0]; decide), hbb]; rfl⟩
          clear hbb hd0
          go_wp2_with fail
          refine bodyPost_ret (results_tmp2 rfl _ _ _) rfl ?_
          exact ⟨HB2.out, none, by rw [HE.out]; simp, fun _ => rfl, fun x h0 _ => by rw [HE.out] at h0; cases h0⟩
        | some z =>
          have HE : Aside0 (opnE s = 0) := ⟨by unfold opnE opnP; rw [if_neg (Int.not_le.2 HP2.out), if_neg (by rw [hd0]; decide), hbb]; rfl⟩
          have HBB := Aside0.mk hbb
          have cb0 := (blk_cell HN0.out.1 0).trans (rfl : _ = some (Value.int .i64 x0))
          have cb1 := (blk_cell HN0.out.1 1).trans (rfl : _ = some (Value.int .i64 y0))
          clear hbb hd0
          go_wp2_with fail
          refine bodyPost_ret (results_tmp2 rfl _ _ _) rfl ?_
          refine ⟨below_alloc HB2.out _, some ⟨wr.heap.size, 0, none⟩, by rw [HE.out]; simp, fun h => absurd HE.out h, fun x _ hx => ?_⟩
          have hxz : x = z := by
            have : opnP s = some z := HBB.out
            rw [this] at hx
            exact (Option.some.inj hx).symm
          have hv := HN0.out.2 z HBB.out
          refine ⟨_, rfl, below_size HB2.out, ?_⟩
          rw [hxz, ← hv.1, ← hv.2]
          exact Deep.blk_alloc_new wr _
end Go.Proofs.Ytmjmichkkmmdcaa.P
end
section
namespace Go.Proofs.Ytmjmichkkmmdcaa.P
open Go.RowKit Go.Proofs.Ytmjmichkkmmdcaa.Pure Go.Proofs.YtmjmichkkmmdcaaW.PrintWords Go.Proofs.YtmjmichkkmmdcaaW.PrintLast Go.Proofs.YtmjmichkkmmdcaaW.PrintMore
set_option linter.unusedVariables false
set_option linter.unusedSimpArgs false
structure DAct (base d : Nat) (Φ : Nat → World → Dk → Prop) : Prop where
  step : ∀ {C : Nat} {w w' : World} {s : Dk}, Φ C w s → Below w.heap.size w w' → Φ C w' s
  more : ∀ {C : Nat} {w : World} {s : Dk}, Φ C w s → Φ (C + 1) w s
  set : ∀ {C : Nat} {w : World} {s : Dk} {g : Nat} {cs : Array Value} {fr : Nat × Nat}, Φ C w s → w.heap[g]? = some (Obj.cells cs 83 fr) → ∀ (i : Nat) (u : Value), Φ C (w.setCell ⟨g, i, none⟩ u) s
  bd : ∀ {C : Nat} {w : World} {s : Dk}, Φ C w s → base ≤ w.heap.size
  pages : ∀ {C : Nat} {w : World} {s : Dk}, Φ C w s → Calls Try.prog 43 #[.pointer (some ⟨d, 0, none⟩)] w fun e w' => e = .returned (.int .i64 s.pages) ∧ Below w.heap.size w w'
  sync : ∀ {C : Nat} {w : World} {s : Dk}, Φ C w s → Calls Try.prog 40 #[.pointer (some ⟨d, 0, none⟩)] w fun e w' => e = .returned (.int .i64 (syncE s)) ∧ Φ C w' (syncD s) ∧ TF base w w'
  write : ∀ {C : Nat} {w : World} {s : Dk} (n : Int) (own : Value) (b : List Int) {b2 : Nat} {ok : Nat → Prop}, Φ C w s → C < 1073741824 → Kd.R (Kd.int .u8) 5 w b2 ok own b → Calls Try.prog 18 #[.pointer (some ⟨d, 0, none⟩), .int .i64 n, own] w fun e w' => e = .returned (.int .i64 (writeE s n b)) ∧ Φ (C + 1) w' (writeD s n b) ∧ TF base w w'
theorem dact_ds (base d : Nat) : DAct base d (fun C w s => DS w base d s C) where
  step := fun h hb => h.step hb
  more := fun h => h.more (Nat.le_succ _)
  set := fun h hg i u => h.setb hg (by decide) (by decide) i u
  bd := fun h => h.base_le
  pages := fun h => ds_pages _ h
  sync := fun h => ds_sync _ h
  write := fun n own b _ _ h hC ho => ds_write n own b _ h hC ho
def layE (s : Dk) (gen root : Int) : Int := writeE s (gen % 2) (hpg gen root)
def layD (s : Dk) (gen root : Int) : Dk := writeD s (gen % 2) (hpg gen root)
set_option maxHeartbeats 4000000 in
set_option maxRecDepth 100000 in
theorem lay_calls {base d : Nat} {Φ : Nat → World → Dk → Prop} (hA : DAct base d Φ) {C : Nat} {s : Dk} (gen root : Int) (g0 : 0 ≤ gen) (g1 : gen < 9223372036854775808) (r0 : 0 ≤ root) (r1 : root < 9223372036854775808) (w : World) (h : Φ C w s) (hC : C < 1073741824) :
    Calls Try.prog 42 #[.pointer (some ⟨d, 0, none⟩), .agg #[.int .i64 root, .int .i64 gen]] w fun e w' => e = .returned (.int .i64 (layE s gen root)) ∧ Φ (C + 1) w' (layD s gen root) ∧ TF base w w' := by
  have HA := Aside0.mk hA
  have HH := Aside0.mk h
  have HC := Aside0.mk hC
  have HG := Aside0.mk (And.intro g0 g1)
  have HR := Aside0.mk (And.intro r0 r1)
  have HBD := Aside0.mk (hA.bd h)
  obtain ⟨q, hq⟩ : ∃ q, q = gen % 2 := ⟨_, rfl⟩
  have HQm := Aside0.mk hq
  clear hA h hC g0 g1 r0 r1 hq
  go_enter Try.func42, Try.ntmps42
  go_upto_region 1 with fail
  have hbk := Deep.blk_alloc_new w (.cells #[.int .i64 root, .int .i64 gen] 81)
  refine at_world (fun W => W.heap[w.heap.size]? = some (.cells #[.int .i64 root, .int .i64 gen] 81 (0, 0)) ∧ Below w.heap.size w W) ⟨hbk, below_alloc (Below.refl _ _) _⟩ (fun W hW => ?_)
  have HBK0 : Aside0 (W.drew.heap[w.heap.size]? = some (.cells #[.int .i64 root, .int .i64 gen] 81 (0, 0))) := ⟨hW.1⟩
  have HB0 := Aside0.mk (below_step hW.2 (below_drew1 (Below.refl _ _)))
  clear hW hbk
  refine start_ (n := 7) (S := fun w' => w'.cell? ⟨w.heap.size, 0, none⟩ = some (.int .i64 root) ∧ w'.cell? ⟨w.heap.size, 1, none⟩ = some (.int .i64 gen)) (ds := [5]) #[false, false, false, false, false, false, false] (by kernel_rfl) rfl rfl ⟨(blk_cell HBK0.out 0).trans rfl, (blk_cell HBK0.out 1).trans rfl⟩ (fun hHeld => ?_)
  refine pure_ (i := 0) (N := some 5) (v := ?_) (a' := ?_) #[true, false, false, false, false, false, false] rfl rfl (by kernel_rfl) (fun _ _ _ h => h) (Or.inl ⟨by rfl, ?_⟩) ?_ ?_
  rotate_left
  · intro w'
    go_simp
    with_reducible rfl
  rotate_left
  · simp only [Act.put, List.setIfInBounds_toArray, List.set_cons_zero, List.set_cons_succ, i64_w, i32_w]
    rfl
  refine take_ (i := 1) (N := some 6) (v := ?_) (a' := ?_) #[true, true, false, false, false, false, false] rfl rfl (by kernel_rfl) (fun _ _ _ h => h) (Or.inl ⟨by rfl, ?_⟩) hHeld ?_ ?_
  rotate_left
  · rintro w' ⟨s0, s1⟩
    go_simp
    with_reducible rfl
  rotate_left
  · simp only [Act.put, List.setIfInBounds_toArray, List.set_cons_zero, List.set_cons_succ, i64_w, i32_w]
    rfl
  refine take_ (i := 3) (N := some 8) (v := ?_) (a' := ?_) #[true, true, false, true, false, false, false] rfl rfl (by kernel_rfl) (fun _ _ _ h => h) (Or.inl ⟨by rfl, ?_⟩) hHeld ?_ ?_
  rotate_left
  · rintro w' ⟨s0, s1⟩
    go_simp
    with_reducible rfl
  rotate_left
  · simp only [Act.put, List.setIfInBounds_toArray, List.set_cons_zero, List.set_cons_succ, i64_w, i32_w]
    rfl
  refine one_ (i := 2) (N := some 7) #[true, true, true, true, false, false, false] rfl rfl (by kernel_rfl) (by decide) (fun K hK => ?_)
  refine goes_ Try.func65 (by kernel_rfl) rfl #[.agg #[.int .i64 root, .int .i64 gen]] (by rfl) rfl rfl (by simp only [List.map_toArray, List.map_cons, List.map_nil]; rfl) ?_
  with_reducible refine (pager_head_slot.calls root gen q _ (by unfold pager_head_slot.f; rw [Int.tmod_eq_emod_of_nonneg HG.out.1, HQm.out])).mono ?_
  rintro e w2 ⟨rfl, hb⟩
  refine ⟨_, rfl, ?_⟩
  have HB2 := Aside0.mk (below_step HB0.out hb)
  have HBK2 := Aside0.mk (blk_below HBK0.out hb)
  clear hb
  refine hK.out _ _ ⟨(blk_cell HBK2.out 0).trans rfl, (blk_cell HBK2.out 1).trans rfl⟩ (fun hHeld => ?_)
  clear hK K
  refine norm_ (a' := ?_) ?_ ?_
  rotate_left
  · show Act.put _ (some 7) _ = _
    simp only [Act.put, List.setIfInBounds_toArray, List.set_cons_zero, List.set_cons_succ, i64_w, i32_w]
    rfl
  refine one_ (i := 4) (N := some 9) #[true, true, true, true, true, false, false] rfl rfl (by kernel_rfl) (by decide) (fun K hK => ?_)
  refine goes_ Try.func66 (by kernel_rfl) rfl #[.agg #[.int .i64 root, .int .i64 gen]] (by rfl) rfl rfl (by simp only [List.map_toArray, List.map_cons, List.map_nil]; rfl) ?_
  with_reducible refine (hpage_calls gen root HG.out.1 HG.out.2 HR.out.1 HR.out.2 _).mono ?_
  rintro e w3 ⟨v3, rfl, ho, hb⟩
  refine ⟨_, rfl, ?_⟩
  have HO3 := Aside0.mk ho
  have HB3 := Aside0.mk (below_step HB2.out hb)
  have HBK3 := Aside0.mk (blk_below HBK2.out hb)
  clear hb ho
  refine hK.out _ _ ⟨(blk_cell HBK3.out 0).trans rfl, (blk_cell HBK3.out 1).trans rfl⟩ (fun hHeld => ?_)
  clear hK K
  refine norm_ (a' := ?_) ?_ ?_
  rotate_left
  · show Act.put _ (some 9) _ = _
    simp only [Act.put, List.setIfInBounds_toArray, List.set_cons_zero, List.set_cons_succ, i64_w, i32_w]
    rfl
  refine last_ (i := 5) (N := some 10) #[true, true, true, true, true, true, false] rfl rfl (by kernel_rfl) (by decide) (fun K hK => ?_)
  refine goes_ Try.func18 (by kernel_rfl) rfl #[.pointer (some ⟨d, 0, none⟩), .int .i64 q, v3] (by rfl) rfl rfl (by simp only [List.map_toArray, List.map_cons, List.map_nil]; rfl) ?_
  with_reducible refine (HA.out.write q v3 (hpg gen root) (HA.out.step HH.out HB3.out) HC.out HO3.out).mono ?_
  rintro e w4 ⟨rfl, hs, ht⟩
  refine ⟨_, rfl, ?_⟩
  have HF4 := Aside0.mk (And.intro hs ht)
  clear hs ht hHeld
  refine hK.out _ _ ?_
  clear hK K
  refine norm_ (a' := ?_) ?_ ?_
  rotate_left
  · show Act.put _ (some 10) _ = _
    simp only [Act.put, List.setIfInBounds_toArray, List.set_cons_zero, List.set_cons_succ, i64_w, i32_w]
    rfl
  refine pure_ (i := 6) (N := some 4) (v := ?_) (a' := ?_) #[true, true, true, true, true, true, true] rfl rfl (by kernel_rfl) (fun _ _ _ h => h) (Or.inl ⟨by rfl, ?_⟩) ?_ ?_
  rotate_left
  · intro w'
    go_simp
    with_reducible rfl
  rotate_left
  · simp only [Act.put, List.setIfInBounds_toArray, List.set_cons_zero, List.set_cons_succ, i64_w, i32_w]
    rfl
  refine done_ (by kernel_rfl) ?_
  go_wp2
  go_ret
  unfold layE layD
  rw [← HQm.out]
  exact ⟨by simp, HF4.out.1, (TF.of_below HB3.out HBD.out).trans HF4.out.2⟩
end Go.Proofs.Ytmjmichkkmmdcaa.P
end

/- Laid by a program of this session out of its texts for the law DiskLoads, part 2. -/
import Derived.Laws.CopyRow
import Derived.Laws.CopyOwn
import Derived.Laws.Pointers
import Derived.Laws.Entries
import Derived.Test.YtehgbikleiaagaaZDiskLoads1
section
namespace Go.Proofs.Ytehgbikleiaagaa.P
open Go.RowKit Go.Proofs.YtehgbikleiaagaaW.PrintWords Go.Proofs.YtehgbikleiaagaaW.PrintLast Go.Proofs.YtehgbikleiaagaaW.PrintMore
attribute [local go_sem] max2_int min2_int max_two min_two max_three min_three max_four min_four
set_option linter.unusedVariables false
set_option linter.unusedSimpArgs false
set_option maxHeartbeats 1000000 in
set_option maxRecDepth 100000 in
theorem load_rest (A : Option Addr) (len cap : Nat) (hl : len % 512 ≠ 0) (w : World) :
    Calls Try.prog 19 #[.slice A len cap] w fun e w' => e = .returned (.tuple #[.pointer none, .int .i64 2]) ∧ Below w.heap.size w w' := by
  have HB := Aside0.mk (Below.refl w.heap.size w)
  have hz : ¬ (len : Int) % 512 = 0 := by omega
  have b0 : ((len : Int) % 512 == 0) = false := beq_eq_false_iff_ne.mpr hz
  have b1 : ((len : Int) % 512 != 0) = true := by simp only [bne, b0]; rfl
  have b2 : decide ((len : Int) % 512 = 0) = false := decide_eq_false hz
  have b3 : (len % 512 == 0) = false := beq_eq_false_iff_ne.mpr hl
  go_enter Try.func19, Try.ntmps19
  go_wp2
  refine bodyPost_ret (results_tmp2 rfl _ _ _) rfl ?_
  exact ⟨by simp, HB.out⟩
set_option maxHeartbeats 1000000 in
set_option maxRecDepth 100000 in
theorem load_size (A : Option Addr) (m cap : Nat) (hm : m < 1 ∨ 4096 < m) (hlen : m * 512 ≤ 9223372036854775807) (w : World) :
    Calls Try.prog 19 #[.slice A (m * 512) cap] w fun e w' => e = .returned (.tuple #[.pointer none, .int .i64 2]) ∧ Below w.heap.size w w' := by
  have hn := new_bad (m : Int) (by omega) w
  have hz : ((m * 512 : Nat) : Int) % 512 = 0 := by omega
  have hq : wrap64 (((m * 512 : Nat) : Int) / 512) = (m : Int) := by
    have e : ((m * 512 : Nat) : Int) / 512 = (m : Int) := by omega
    rw [e]
    unfold wrap64
    omega
  obtain ⟨q, hqq⟩ : ∃ q : Nat, q = m * 512 := ⟨_, rfl⟩
  rw [← hqq] at hz hq ⊢
  have b0 : ((q : Int) % 512 == 0) = true := beq_iff_eq.mpr hz
  have b1 : ((q : Int) % 512 != 0) = false := by simp only [bne, b0]; rfl
  have b2 : decide ((q : Int) % 512 = 0) = true := decide_eq_true hz
  have hz2 : q % 512 = 0 := by omega
  clear hqq hm hlen
  go_enter Try.func19, Try.ntmps19
  go_wp2_with (go_at_call 10; refine hn.mono ?_; rintro e w1 ⟨rfl, hb1⟩)
  refine bodyPost_ret (results_tmp2 rfl _ _ _) rfl ?_
  exact ⟨by simp, hb1⟩
def imgP (b : List Int) (i : Nat) : List Int := (b.drop (i * 512)).take 512
def lastL (b : List Int) (k : Nat) : Int → List Int := fun i => if 0 ≤ i ∧ i < (k : Int) then imgP b i.toNat else pgZ
def loadS (b : List Int) (m : Nat) : Dk := ⟨(m : Int), lastL b m, [], -1, false⟩
theorem imgP_len {b : List Int} {m i : Nat} (hb : b.length = m * 512) (hi : i < m) : (imgP b i).length = 512 := by
  unfold imgP
  rw [List.length_take, List.length_drop, hb]
  have : (i + 1) * 512 ≤ m * 512 := Nat.mul_le_mul_right _ hi
  omega
theorem lastL_succ (b : List Int) (k : Nat) : lastL b (k + 1) = upd (lastL b k) (k : Int) (imgP b k) := by
  funext i
  unfold lastL upd
  by_cases h : i = (k : Int)
  · subst h
    rw [if_pos ⟨by omega, by omega⟩, if_pos rfl, Int.toNat_natCast]
  · rw [if_neg h]
    dsimp only
    by_cases h2 : 0 ≤ i ∧ i < (k : Int)
    · rw [if_pos h2, if_pos ⟨h2.1, by omega⟩]
    · rw [if_neg h2, if_neg (by omega)]
theorem lastL_skip (b : List Int) (k : Nat) (h : imgP b k = pgZ) : lastL b (k + 1) = lastL b k := by
  rw [lastL_succ]
  funext i
  unfold upd
  split
  · rename_i e
    subst e
    unfold lastL
    rw [if_neg (by omega), h]
  · rfl
theorem lastL_len {b : List Int} {m : Nat} (hb : b.length = m * 512) (k : Nat) (hk : k ≤ m) (i : Int) : (lastL b k i).length = 512 := by
  unfold lastL
  split
  · rename_i h
    exact imgP_len hb (by omega)
  · exact pgZ_len
theorem arr67' (a : Addr) (cap : Nat) (w : World) : (Instr.arrayAt 67 (.slice (some a) 512 cap)).run Try.prog w = .ok (.pointer (some a)) w := by
  simp [Instr.arrayAt, Sem.run_bind, run_underlying Try.underlying67]
theorem build67 (w : World) : (Instr.build 67 #[]).run Try.prog w = .ok (pgV pgZ) w := by
  simp [Instr.build, Sem.run_bind, run_underlying Try.underlying67, zero67, size5, pgV, Value.cells, Instr.fill, Result.andThen]
theorem wp_build0_eq {P : Program} {op : Oper} {a : Act} {w : World} {K : Act → World → Prop} {Q : Exit → Act → World → Prop} (t : TypeId) (ho : op.op = .build t #[]) {v : Value} (hv : (Instr.build t #[]).run P w = .ok v w) (h : K (a.put op.dst v) w) : op.wp P a w K Q := by
  unfold Oper.wp execOp
  simp only [ho, List.map_toArray, List.map_nil, Sem.run_bind, hv, Result.andThen_ok, Sem.run_pure]
  exact h
theorem wp_bin_agg {P : Program} {op : Oper} {a : Act} {w : World} {K : Act → World → Prop} {Q : Exit → Act → World → Prop} (b : BinOp) (t t2 : TypeId) (x y : Operand) (ho : op.op = .binOp b t x y t2) {xs ys : Array Value} (hx : a.eval x = .agg xs) (hy : a.eval y = .agg ys) (hm : P.eqGuardType P.depth t = false) {v : Value} (hv : (binOp b t (.agg xs) (.agg ys)).run P w = .ok v w) (h : K (a.put op.dst v) w) : op.wp P a w K Q := by
  unfold Oper.wp execOp
  simp only [ho, hx, hy, Sem.run_bind, run_eqGuard_agg w b t x y xs ys hm, hv, Result.andThen_ok, Sem.run_pure]
  exact h
theorem DD.more {W : World} {base d M N N' : Nat} {v : Value} {s : Dk} (h : DD W base d M N v s) (hn : N ≤ N') (ht : N' + s.cache.length ≤ 1073741824) : DD W base d M N' v s := { h with mp := h.mp.mono hn, tot := ht }
theorem meas_lt {m k : Nat} {x : Int} (h : k < m) (e : Value.int .i64 x = .int .i64 ((k + 1 : Nat) : Int)) : m - (intOf (.int .i64 x)).toNat < m - (intOf (.int .i64 (k : Int))).toNat := by
  rw [e]
  simp only [intOf, Int.toNat_natCast]
  omega
theorem eqg67 : Try.prog.eqGuardType Try.prog.depth 67 = false := by kernel_rfl
set_option maxHeartbeats 4000000 in
set_option maxRecDepth 100000 in
theorem load_ok (g cap m : Nat) (b : List Int) (hb : b.length = m * 512) (h0 : 1 ≤ m) (h1 : m ≤ 4096) (hcap : m * 512 ≤ cap) (w : World) (hg : g < w.heap.size) (hr : w.rangeAt g 0 (bvs b)) :
    Calls Try.prog 19 #[.slice (some ⟨g, 0, none⟩) (m * 512) cap] w fun e w' => ∃ d M, e = .returned (.tuple #[dp d, .int .i64 0]) ∧ DD w' w.heap.size d M m (.slice none 0 0) (loadS b m) ∧ Below w.heap.size w w' := by
  have hn := new_calls (m : Int) (by omega) (by omega) w
  have hz : ((m * 512 : Nat) : Int) % 512 = 0 := by omega
  have hq : wrap64 (((m * 512 : Nat) : Int) / 512) = (m : Int) := by
    have e : ((m * 512 : Nat) : Int) / 512 = (m : Int) := by omega
    rw [e]
    unfold wrap64
    omega
  obtain ⟨q, hqq⟩ : ∃ q : Nat, q = m * 512 := ⟨_, rfl⟩
  rw [← hqq] at hz hq ⊢
  have b0 : ((q : Int) % 512 == 0) = true := beq_iff_eq.mpr hz
  have b1 : ((q : Int) % 512 != 0) = false := by simp only [bne, b0]; rfl
  have b2 : decide ((q : Int) % 512 = 0) = true := decide_eq_true hz
  have hz2 : q % 512 = 0 := by omega
  have HA := Aside0.mk (And.intro hb (And.intro h0 (And.intro h1 (And.intro hcap (And.intro hg (And.intro hr hqq))))))
  clear hb h0 h1 hcap hg hr hqq
  obtain ⟨zp, hzp⟩ : ∃ zp : Array Value, zp = (bvs pgZ).toArray := ⟨_, rfl⟩
  have hzz : ∀ w, (zeroValue 67).run Try.prog w = .ok (.agg zp) w := fun w => by rw [hzp]; exact zero67 w
  have HZ := Aside0.mk hzp
  clear hzp
  go_enter Try.func19, Try.ntmps19
  go_upto_region 6 with (go_at_call 10; refine hn.mono ?_; rintro e w1 ⟨d, M, rfl, hd1, hb1⟩)
  have HD := Aside0.mk hd1
  have HB := Aside0.mk hb1
  have c0 : w1.cell? ⟨d, 0, none⟩ = some (.int .i64 (m : Int)) := (blk_cell hd1.blk 0).trans rfl
  clear hd1 hb1 hn b0 b1 b2 hz hz2 hq
  unfold dp
  go_wp2_with fail
  go_loopw [26] (fun v26 wr => ∃ k : Nat, v26 = .int .i64 (k : Int) ∧ k ≤ m ∧ Aside0 (DD wr w.heap.size d M k (.slice none 0 0) ⟨(m : Int), lastL b k, [], -1, false⟩) ∧ Aside0 (Below w.heap.size w wr)) (fun v26 _ => m - (intOf v26).toNat)
  case atStart =>
    refine ⟨0, rfl, Nat.zero_le _, ⟨?_⟩, HB⟩
    have e : lastL b 0 = fun _ => pgZ := by funext i; unfold lastL; rw [if_neg (by omega)]
    rw [e]
    exact HD.out
  case round =>
    obtain ⟨k, rfl, hk, HS, HW⟩ := hrel
    by_cases hlt : k < m
    · have w1_ : wrap64 ((k : Int) * 512) = (k : Int) * 512 := by unfold wrap64; have := HA.out.2.2.1; omega
      have w2_ : wrap64 ((k : Int) + 1) = (k : Int) + 1 := by unfold wrap64; have := HA.out.2.2.1; omega
      have w3_ : wrap64 (((k : Int) + 1) * 512) = ((k : Int) + 1) * 512 := by unfold wrap64; have := HA.out.2.2.1; omega
      have hqm := HA.out.2.2.2.2.2.2
      have b0 : decide (k < m) = true := decide_eq_true hlt
      have b1 : decide ((k : Int) < (m : Int)) = true := decide_eq_true (by omega)
      have b2 : (k < m) = True := eq_true hlt
      have b3 : ((k : Int) < (m : Int)) = True := eq_true (by omega)
      have g1 : (0 : Int) ≤ (k : Int) * 512 := by omega
      have g2 : (k : Int) * 512 ≤ ((k : Int) + 1) * 512 := by omega
      have g3 : ((k : Int) + 1) * 512 ≤ (cap : Int) := by have := HA.out.2.2.2.1; omega
      have g4 : ((k : Int) * 512).toNat = k * 512 := by omega
      have g5 : (((k : Int) + 1) * 512).toNat = (k + 1) * 512 := by omega
      have HK := Aside0.mk hlt
      have harr : (Instr.arrayAt 67 (.slice (some ⟨g, k * 512, none⟩) ((k + 1) * 512 - k * 512) (cap - k * 512))).run Try.prog wr = .ok (.pointer (some ⟨g, k * 512, none⟩)) wr := by
        rw [show (k + 1) * 512 - k * 512 = 512 by omega]
        exact arr67' _ _ _
      have hpl := imgP_len (i := k) HA.out.1 hlt
      have hld : (Instr.loadAt 67 (.pointer (some ⟨g, k * 512, none⟩))).run Try.prog wr = .ok (.agg (bvs (imgP b k)).toArray) wr := by
        refine run_loadAt_mid wr g (k * 512) 67 _ _ (fun j u hj => ?_) Try.underlying67 rfl (by rw [s67, bvs_len, hpl])
        refine (HW.out.cell (p := ⟨g, k * 512 + j, none⟩) HA.out.2.2.2.2.1).trans ?_
        have h2 : (bvs b)[k * 512 + j]? = some u := by
          unfold bvs imgP at hj
          rw [List.map_take, List.map_drop, List.getElem?_take, List.getElem?_drop] at hj
          split at hj
          · exact hj
          · cases hj
        have := HA.out.2.2.2.2.2.1 (k * 512 + j) u h2
        rwa [Nat.zero_add] at this
      have hst : (storeCells ⟨wr.heap.size, 0, none⟩ (bvs (imgP b k)).toArray.toList 0).run Try.prog (wr.alloc (.cells zp 67)) = .ok () (wr.alloc (.cells (bvs (imgP b k)).toArray 67)) :=
        run_storeCells_new wr 67 zp _ (by rw [s67, List.size_toArray, bvs_len, hpl]) (by rw [HZ.out, List.size_toArray, List.size_toArray, bvs_len, bvs_len, hpl, pgZ_len]) (one_bvs _)
      have hps : (bvs (imgP b k)).toArray.size = 512 := by rw [List.size_toArray, bvs_len, hpl]
      have hl2 : (Instr.loadAt 67 (.pointer (some ⟨wr.heap.size, 0, none⟩))).run Try.prog (wr.alloc (.cells (bvs (imgP b k)).toArray 67)) = .ok (.agg (bvs (imgP b k)).toArray) (wr.alloc (.cells (bvs (imgP b k)).toArray 67)) :=
        run_loadAt_new wr 67 _ 512 5 u67 (by rw [s67, hps])
      have hbu : ∀ w, (Instr.build 67 #[]).run Try.prog w = .ok (.agg zp) w := fun w => by rw [build67, pgV, HZ.out]
      have hne : ∀ w, (binOp .neq 67 (.agg (bvs (imgP b k)).toArray) (.agg zp)).run Try.prog w = .ok (.bool (imgP b k != pgZ)) w := fun w => by rw [HZ.out]; exact neq67 w _ _ hpl pgZ_len
      have HPE := Aside0.mk (And.intro hpl trivial)
      have HS2 := Aside0.mk (HS.out.step (below_alloc (Below.refl _ _) (.cells (bvs (imgP b k)).toArray 67)))
      have HW2 := Aside0.mk (below_alloc HW.out (.cells (bvs (imgP b k)).toArray 67))
      generalize hpe : (bvs (imgP b k)).toArray = pg at hld hst hps hl2 hne HS2 HW2
      have HPG := Aside0.mk hpe
      by_cases hz : imgP b k = pgZ
      · have hz2 : (imgP b k != pgZ) = false := by simp [hz]
        have HZZ := Aside0.mk hz
        rw [hz2] at hne
        clear hpe hz hz2 hpl hlt hk hqm
        go_upto_region 10 with (refine wp_load_eq 67 _ rfl hld ?_)
        go_wp2
        refine wp_load_eq 67 (.tmp 7) rfl (v := .agg pg) ?hl ?_
        case hl => exact hl2
        go_wp2_with (first | (refine wp_build0_eq 67 rfl (hbu _) ?_) | (refine wp_bin_agg .neq 67 67 (.tmp 38) (.tmp 39) rfl (by rfl) (by rfl) eqg67 (hne _) ?_))
        go_roundw
        case rel =>
          refine ⟨k + 1, by go_num, HK.out, ⟨?_⟩, HW2⟩
          rw [lastL_skip b k HZZ.out]
          exact HS2.out.more (Nat.le_succ k) (by have h1 := HA.out.2.2.1; have h2 := HK.out; show k + 1 + 0 ≤ 1073741824; omega)
        case measure => exact meas_lt HK.out (by go_num)
      · have hz2 : (imgP b k != pgZ) = true := by simp [hz]
        rw [hz2] at hne
        obtain ⟨W2, hW2e⟩ : ∃ W2, W2 = wr.alloc (.cells pg 67) := ⟨_, rfl⟩
        have HW2e := Aside0.mk hW2e
        have HD2 : Aside0 (DD W2 w.heap.size d M k (.slice none 0 0) ⟨(m : Int), lastL b k, [], -1, false⟩) := ⟨by rw [hW2e]; exact HS2.out⟩
        have HB2 : Aside0 (Below w.heap.size w W2) := ⟨by rw [hW2e]; exact HW2.out⟩
        have hl3 : Aside0 ((Instr.loadAt 67 (.pointer (some ⟨wr.heap.size, 0, none⟩))).run Try.prog W2.drew = .ok (.agg pg) W2.drew) := ⟨by
          rw [← HPG.out]
          refine run_loadAt_mid W2.drew wr.heap.size 0 67 (bvs (imgP b k)) _ (fun j u hj => ?_) Try.underlying67 rfl (by rw [s67, bvs_len, hpl])
          have hW := Deep.blk_alloc_new wr (.cells pg 67)
          rw [← hW2e] at hW
          refine (blk_cell (w := W2.drew) hW (0 + j)).trans ?_
          rw [← HPG.out, Nat.zero_add]
          simpa using hj⟩
        have cd1 : W2.cell? ⟨d, 1, none⟩ = some (.map (some M)) := (blk_cell HD2.out.blk 1).trans rfl
        obtain ⟨W3, hmu0, hM3, hg3⟩ := MP.store (W := W2.drew) (HD2.out.mp.keep (W' := W2.drew) rfl) (by have := HK.out; have := HA.out.2.2.1; unfold maxLen; omega) (i := (k : Int)) (by omega) (by have := HK.out; have := HA.out.2.2.1; omega) (imgP b k)
        unfold pgV at hmu0
        rw [HPG.out] at hmu0
        have hmu := Aside0.mk hmu0
        have HE : Aside0 (DD W3 w.heap.size d M (k + 1) (.slice none 0 0) ⟨(m : Int), lastL b (k + 1), [], -1, false⟩ ∧ Below w.heap.size w W3) := ⟨by
          have hkp : Kp (fun j => j = M) W2 W3 := Kp.grown (S := fun j => j = M) (a := W2) ⟨hg3.os, hg3.tape, hg3.output, hg3.size, hg3.block⟩ (fun j e => by injection e with e; exact e.symm)
          refine ⟨⟨HD2.out.bd, HD2.out.bm, (hkp.block d HD2.out.lt HD2.out.dM).trans HD2.out.blk, ?_, Kd.R_nil _ _ _ _ _, ?_, HD2.out.p1, HD2.out.p2, ?_, fun x hx => absurd hx (List.not_mem_nil), HD2.out.lf⟩, HB2.out.trans (hkp.below (Nat.le_trans HD2.out.bd (Nat.le_of_lt HD2.out.lt)) (fun j e => e ▸ HD2.out.bm))⟩
          · rw [lastL_succ]; exact hM3
          · have h1 := HA.out.2.2.1; have h2 := HK.out; show k + 1 + 0 ≤ 1073741824; omega
          · exact lastL_len HA.out.1 (k + 1) HK.out⟩
        clear hpe hz hz2 hpl hlt hk hqm hW2e hmu0 hM3 hg3
        go_upto_region 10 with (refine wp_load_eq 67 _ rfl hld ?_)
        go_wp2
        refine wp_load_eq 67 (.tmp 7) rfl (v := .agg pg) ?hl ?_
        case hl => exact hl2
        go_wp2_with (first | (refine wp_build0_eq 67 rfl (hbu _) ?_) | (refine wp_bin_agg .neq 67 67 (.tmp 38) (.tmp 39) rfl (by rfl) (by rfl) eqg67 (hne _) ?_))
        rw [← HW2e.out]
        clear hld hst hps hl2 hne hbu harr
        refine start_ (n := 7) (S := fun w' => w'.cell? ⟨d, 1, none⟩ = some (.map (some M))) (ds := [6]) #[false, false, false, false, false, false, false] (by kernel_rfl) rfl rfl (cd1) (fun hHeld => ?_)
        refine pure_ (i := 0) (N := some 41) (v := ?_) (a' := ?_) #[true, false, false, false, false, false, false] rfl rfl (by kernel_rfl) (fun _ _ _ h => h) (Or.inl ⟨by rfl, ?_⟩) ?_ ?_
        rotate_left
        · intro w'
          go_simp
          with_reducible rfl
        rotate_left
        · simp only [Act.put, List.setIfInBounds_toArray, List.set_cons_zero, List.set_cons_succ, i64_w, i32_w]
          rfl
        refine pure_ (i := 1) (N := some 42) (v := ?_) (a' := ?_) #[true, true, false, false, false, false, false] rfl rfl (by kernel_rfl) (fun _ _ _ h => h) (Or.inl ⟨by rfl, ?_⟩) ?_ ?_
        rotate_left
        · intro w'
          go_simp
          with_reducible rfl
        rotate_left
        · simp only [Act.put, List.setIfInBounds_toArray, List.set_cons_zero, List.set_cons_succ, i64_w, i32_w]
          rfl
        refine pure_ (i := 2) (N := some 43) (v := ?_) (a' := ?_) #[true, true, true, false, false, false, false] rfl rfl (by kernel_rfl) (fun _ _ _ h => h) (Or.inl ⟨by rfl, ?_⟩) ?_ ?_
        rotate_left
        · intro w'
          go_simp
          with_reducible rfl
        rotate_left
        · simp only [Act.put, List.setIfInBounds_toArray, List.set_cons_zero, List.set_cons_succ, i64_w, i32_w]
          rfl
        refine pure_ (i := 4) (N := some 45) (v := ?_) (a' := ?_) #[true, true, true, false, true, false, false] rfl rfl (by kernel_rfl) (fun _ _ _ h => h) (Or.inl ⟨by rfl, ?_⟩) ?_ ?_
        rotate_left
        · intro w'
          go_simp
          with_reducible rfl
        rotate_left
        · simp only [Act.put, List.setIfInBounds_toArray, List.set_cons_zero, List.set_cons_succ, i64_w, i32_w]
          rfl
        refine take_ (i := 3) (N := some 44) (v := ?_) (a' := ?_) #[true, true, true, true, true, false, false] rfl rfl (by kernel_rfl) (fun _ _ _ h => h) (Or.inl ⟨by rfl, ?_⟩) hHeld ?_ ?_
        rotate_left
        · intro w' s0
          go_simp
          with_reducible rfl
        rotate_left
        · simp only [Act.put, List.setIfInBounds_toArray, List.set_cons_zero, List.set_cons_succ, i64_w, i32_w]
          rfl
        refine one_ (i := 5) (N := some 46) #[true, true, true, true, true, true, false] rfl rfl (by kernel_rfl) (by decide) (fun K hK => ?_)
        refine value_ (w1 := W2.drew) (v := .agg pg) (by rfl) rfl (exec_load 67 (.tmp 7) rfl hl3.out) ?_
        refine hK.out _ _ (cd1) (fun hHeld => ?_)
        clear hK K
        refine norm_ (a' := ?_) ?_ ?_
        rotate_left
        · show Act.put _ (some 46) _ = _
          simp only [Act.put, List.setIfInBounds_toArray, List.set_cons_zero, List.set_cons_succ, i64_w, i32_w]
          rfl
        refine last_ (i := 6) (N := none) #[true, true, true, true, true, true, true] rfl rfl (by kernel_rfl) (by decide) (fun K hK => ?_)
        refine skip_ (w1 := W3) (by rfl) rfl (exec_mapUpdate 61 (.tmp 44) (.tmp 45) (.tmp 46) rfl hmu.out) ?_
        refine hK.out _ _ ?_
        clear hK K
        refine done_ (by kernel_rfl) ?_
        have hkb : k < 1073741824 := by have := HA.out.2.2.1; have := HK.out; omega
        go_wp2
        go_roundw
        case rel => exact ⟨k + 1, by go_num, HK.out, ⟨HE.out.1⟩, ⟨HE.out.2⟩⟩
        case measure => exact meas_lt HK.out (by go_num)
    · have hke : k = m := by omega
      subst hke
      have b0 : decide (k < k) = false := decide_eq_false (by omega)
      have b1 : decide ((k : Int) < (k : Int)) = false := decide_eq_false (by omega)
      clear hlt hk
      go_wp2
      refine bodyPost_ret (results_tmp2 rfl _ _ _) rfl ?_
      exact ⟨_, _, rfl, HS.out, HW.out⟩
end Go.Proofs.Ytehgbikleiaagaa.P
end
section
namespace Go.Proofs.Ytehgbikleiaagaa.P
open Go.RowKit Go.Proofs.YtehgbikleiaagaaW.PrintWords Go.Proofs.YtehgbikleiaagaaW.PrintLast Go.Proofs.YtehgbikleiaagaaW.PrintMore
attribute [local go_sem] max2_int min2_int max_two min_two max_three min_three max_four min_four
set_option linter.unusedVariables false
set_option linter.unusedSimpArgs false
def mendN (keep : List Bool) (torn cut : Int) (k : Nat) : Nat := if (k : Int) = torn then (max 0 (min cut 512)).toNat else if keep.getD k false = true then 512 else 0
theorem mendYtehgbikleiaagaale (keep : List Bool) (torn cut : Int) (k : Nat) : mendN keep torn cut k ≤ 512 := by unfold mendN; split <;> (try split) <;> omega
def over (n : Nat) (b p : List Int) : List Int := b.take n ++ p.drop n
def mendL (s : Dk) (keep : List Bool) (torn cut : Int) (k : Nat) : Int → List Int :=
  (s.cache.zipIdx.take k).foldl (fun f x => upd f x.1.1 (over (mendN keep torn cut x.2) x.1.2 (f x.1.1))) s.last
theorem mendL_succ {s : Dk} {keep : List Bool} {torn cut : Int} {k : Nat} (hk : k < s.cache.length) :
    mendL s keep torn cut (k + 1) = upd (mendL s keep torn cut k) s.cache[k].1 (over (mendN keep torn cut k) s.cache[k].2 (mendL s keep torn cut k s.cache[k].1)) := by
  unfold mendL
  have h : k < s.cache.zipIdx.length := by simpa using hk
  rw [List.take_add_one, List.getElem?_eq_getElem h, List.foldl_append]
  simp
theorem over_len {n : Nat} {b p : List Int} (hb : b.length = 512) (hp : p.length = 512) (hn : n ≤ 512) : (over n b p).length = 512 := by
  unfold over
  simp
  omega
theorem mendL_len {s : Dk} {keep : List Bool} {torn cut : Int} (hl : ∀ i, (s.last i).length = 512) (hc : ∀ x ∈ s.cache, x.2.length = 512) : ∀ k, k ≤ s.cache.length → ∀ i, (mendL s keep torn cut k i).length = 512 := by
  intro k
  induction k with
  | zero => exact fun _ => hl
  | succ k ih =>
    intro hk i
    rw [mendL_succ (by omega)]
    unfold upd
    split
    · exact over_len (hc _ (List.getElem_mem (by omega))) (ih (by omega) _) (mendYtehgbikleiaagaale _ _ _ _)
    · exact ih (by omega) i
def mendS (s : Dk) (keep : List Bool) (torn cut : Int) : Dk := { s with last := mendL s keep torn cut s.cache.length, cache := [], left := -1, down := false }
def MI (w : World) (M N : Nat) (s : Dk) (keep : List Bool) (torn cut : Int) (k : Nat) (W : World) : Prop := Kp (fun j => j = M) w W ∧ MP W M (N + k) (mendL s keep torn cut k)
section
variable {P : Program} {ρ : Operand → Value} {op : Oper} {w w1 : World} {v : Value}
theorem exec_alloc (t : TypeId) (ho : op.op = .alloc t) (z : Array Value) (hz : ∀ w, (zeroValue t).run P w = .ok (.agg z) w) : (execOp ρ op).run P w = .ok (.value (.pointer (some ⟨w.heap.size, 0, none⟩))) (w.alloc (.cells z t)) := by
  unfold execOp
  simp [ho, Instr.alloc, Sem.run_bind, hz, newVar, newRow, Value.cells]
theorem exec_store (t : TypeId) (x y : Operand) (ho : op.op = .store t x y) (hv : (Instr.storeAt t (ρ x) (ρ y)).run P w = .ok () w1) : (execOp ρ op).run P w = .ok .skip w1 := by
  unfold execOp
  simp only [ho, Sem.run_bind, hv, Result.andThen_ok, Sem.run_pure]
theorem exec_lookup (t : TypeId) (x y : Operand) (b : Bool) (ho : op.op = .lookup t x y b) (hv : (Instr.lookup t (ρ x) (ρ y) b).run P w = .ok v w) : (execOp ρ op).run P w = .ok (.value v) w := by
  unfold execOp
  simp only [ho, Sem.run_bind, hv, Result.andThen_ok, Sem.run_pure]
theorem exec_copy (x y : Operand) (t1 t2 : TypeId) (ho : op.op = .call { callee := .builtin .copy, args := #[x, y], argTypes := #[t1, t2] }) {vx vy : Value} (hx : ρ x = vx) (hy : ρ y = vy) (hv : ∀ ty, (Builtin.copy_ #[t1, t2] ty #[vx, vy]).run P w = .ok v w1) : (execOp ρ op).run P w = .ok (.value v) w1 := by
  unfold execOp
  simp [ho, resolve, invoke, builtin, hx, hy, hv]
end
theorem over_copy (W : World) (g11 b9 n : Nat) (b p : List Int) (hb : b.length = 512) (hp : p.length = 512) (hn : n ≤ 512) (h11 : W.heap[g11]? = some (.cells (bvs p).toArray 67 (0, 0))) (h9 : ∀ j u, (bvs b)[j]? = some u → W.cell? ⟨b9, 1 + j, none⟩ = some u) :
    ∃ W', (∀ ty, (Builtin.copy_ #[30, 30] ty #[.slice (some ⟨g11, 0, none⟩) n 512, .slice (some ⟨b9, 1, none⟩) 512 512]).run Try.prog W = .ok (.int .i64 (n : Int)) W') ∧ W'.heap[g11]? = some (.cells (bvs (over n b p)).toArray 67 (0, 0)) ∧ Kp (fun j => j = g11) W W' := by
  have hlen : ((bvs b).take n).length = n := by rw [List.length_take, bvs_len, hb]; omega
  refine ⟨W.setRow g11 ((bvs p).toArray.toList.take 0 ++ (bvs b).take n ++ (bvs p).toArray.toList.drop (0 + ((bvs b).take n).length)).toArray, fun ty => ?_, ?_, ?_⟩
  · have h := run_copy_row (P := Try.prog) W 30 30 ty 5 g11 0 n 512 ⟨b9, 1, none⟩ 512 512 (bvs p).toArray 67 ((bvs b).take n) Try.underlying30 (by kernel_rfl) h11 (by rw [hlen]; exact (Nat.min_eq_right hn).symm) (fun j v hj => ?_) ?_ (fun v hv => ?_)
    · rw [h, hlen]; rfl
    · rw [Addr.add_mid]
      refine h9 j v ?_
      rw [List.getElem?_take] at hj
      split at hj
      · exact hj
      · cases hj
    · rw [hlen, List.size_toArray, bvs_len, hp]; omega
    · have h1 := List.mem_of_mem_take hv
      obtain ⟨y, _, rfl⟩ := List.mem_map.1 h1
      rfl
  · rw [setRow_heap W g11 _ _ 67 _ h11, hlen]
    unfold over bvs
    simp [List.map_take, List.map_drop]
  · exact ⟨rfl, rfl, rfl, by simp [World.setRow], fun k hk hn => setRow_other W g11 k _ hn⟩
end Go.Proofs.Ytehgbikleiaagaa.P
end
section
namespace Go.Proofs.Ytehgbikleiaagaa.P
open Go.RowKit Go.Proofs.YtehgbikleiaagaaW.PrintWords Go.Proofs.YtehgbikleiaagaaW.PrintLast Go.Proofs.YtehgbikleiaagaaW.PrintMore
attribute [local go_sem] max2_int min2_int max_two min_two max_three min_three max_four min_four
set_option linter.unusedVariables false
set_option linter.unusedSimpArgs false
theorem exec_lookup2 {P : Program} {ρ : Operand → Value} {op : Oper} {w : World} {v : Value} (t : TypeId) (x y : Operand) (b : Bool) (ho : op.op = .lookup t x y b) {vx vy : Value} (hx : ρ x = vx) (hy : ρ y = vy) (hv : (Instr.lookup t vx vy b).run P w = .ok v w) : (execOp ρ op).run P w = .ok (.value v) w := by
  subst hx hy
  exact exec_lookup t x y b ho hv
theorem run_storeAt67 (w : World) (z q : List Int) (hz : z.length = 512) (hq : q.length = 512) : (Instr.storeAt 67 (.pointer (some ⟨w.heap.size, 0, none⟩)) (.agg (bvs q).toArray)).run Try.prog (w.alloc (.cells (bvs z).toArray 67)) = .ok () (w.alloc (.cells (bvs q).toArray 67)) :=
  run_storeAt_new w 67 _ _ (by rw [s67, List.size_toArray, bvs_len, hq]) (by rw [List.size_toArray, List.size_toArray, bvs_len, bvs_len, hz, hq]) (one_bvs _)
set_option maxHeartbeats 4000000 in
set_option maxRecDepth 100000 in
theorem mend_calls {base d M N : Nat} {v : Value} {s : Dk} (A2 : Option Addr) (c3 : Nat) (keep : List Bool) (torn cut : Int) (w : World) (h : DD w base d M N v s) (hkr : Kd.C Kd.bool w A2 keep.length keep) (hkM : keep ≠ [] → ∀ a, A2 = some a → a.block ≠ M) :
    Calls Try.prog 14 #[dp d, .slice A2 keep.length c3, .int .i64 torn, .int .i64 cut] w fun e w' => (∃ u, e = .returned u) ∧ DD w' base d M (N + s.cache.length) (.slice none 0 0) (mendS s keep torn cut) ∧ MV d M v (.slice none 0 0) w w' := by
  obtain ⟨xs, hxs⟩ := pes_of s.cache (fun x hx => (h.c512 x hx).1)
  have HC := Aside0.mk h.c512
  have HL5 := Aside0.mk h.l512
  have HP2 := Aside0.mk h.p2
  have HT := Aside0.mk h.tot
  obtain ⟨A, c, ev⟩ := Kd.R_slice h.row
  subst ev
  have hlen : xs.length = s.cache.length := by rw [← hxs]; simp
  have hpes := pes_row h.row hxs
  have HP := Aside0.mk hpes
  have HD := Aside0.mk h
  have HKR := Aside0.mk hkr
  have HKM := Aside0.mk hkM
  have c2 : w.cell? ⟨d, 2, none⟩ = some (.slice A s.cache.length c) := (blk_cell h.blk 2).trans rfl
  have c1' := (blk_cell h.blk 1).trans rfl
  obtain ⟨zq, hzq⟩ : ∃ zq : Array Value, zq = (Value.int .i64 0 :: bvs pgZ).toArray := ⟨_, rfl⟩
  have hz9 : ∀ w, (zeroValue 69).run Try.prog w = .ok (.agg zq) w := fun w => by rw [hzq]; exact zero69 w
  have HQ := Aside0.mk (show zq.size = 513 by rw [hzq, List.size_toArray, List.length_cons, bvs_len, pgZ_len])
  have HSI := Aside0.mk (show MI w M N s keep torn cut 0 w from ⟨Kp.refl _ _, by rw [Nat.add_zero]; exact h.mp⟩)
  have HX := Aside0.mk hxs
  have HLn := Aside0.mk hlen
  clear hzq h hpes hxs hlen hkr hkM
  unfold dp
  go_enter Try.func14, Try.ntmps14
  go_wp2_with fail
  go_loopw [17] (fun v17 wr => ∃ k : Nat, v17 = .int .i64 (k : Int) ∧ k ≤ s.cache.length ∧ Aside0 (MI w M N s keep torn cut k wr)) (fun v17 _ => s.cache.length - (intOf v17).toNat)
  case atStart => exact ⟨0, rfl, Nat.zero_le _, HSI⟩
  case round =>
    clear HSI
    obtain ⟨k, rfl, hk, HS⟩ := hrel
    by_cases hlt : k < s.cache.length
    · have hkx : k < xs.length := by rw [HLn.out]; exact hlt
      obtain ⟨x, hx⟩ : ∃ x, x = xs.getD k zPE := ⟨_, rfl⟩
      have hxc : s.cache[k] = x.1 := by
        rw [hx, List.getD_eq_getElem?_getD, List.getElem?_eq_getElem hkx, Option.getD_some]
        have := HX.out
        simp only [← this, List.getElem_map]
      have HXC : Aside0 (mendL s keep torn cut (k + 1) = upd (mendL s keep torn cut k) x.1.1 (over (mendN keep torn cut k) x.1.2 (mendL s keep torn cut k x.1.1))) := ⟨by rw [mendL_succ hlt, hxc]⟩
      have hx1 : 0 ≤ x.1.1 ∧ x.1.1 < s.pages := by rw [← hxc]; exact (HC.out _ (List.getElem_mem hlt)).2
      rcases HP.out with ⟨_, e⟩ | ⟨g, cap, e, hg, hcs⟩
      · rw [e] at hkx
        exact absurd hkx (Nat.not_lt_zero k)
      · injection e with eA eL ec
        clear eL
        subst eA ec
        have hgM : g ≠ M := fun e => by
          obtain ⟨es, clock, hm⟩ := HD.out.mp.blk
          have := hcs k hkx 0 (.int .i64 (xs.getD k zPE).1.1) rfl
          rw [e] at this
          simp [World.cell?, hm] at this
        have hld : (Instr.loadAt 69 (.pointer (some ⟨g, k * 513, none⟩))).run Try.prog wr = .ok (.agg (peV x.1).toArray) wr := by
          refine run_loadAt_mid wr g (k * 513) 69 _ _ (fun j u hj => ?_) Try.underlying69 rfl (by rw [s69]; exact (congrArg some (by have := sz_peV x; simpa using this)).symm)
          rw [hx] at hj
          exact (World.cell?_of_block (HS.out.1.block g hg (fun e => hgM e))).trans (hcs k hkx j u hj)
        have hst : (storeCells ⟨wr.heap.size, 0, none⟩ (peV x.1).toArray.toList 0).run Try.prog (wr.alloc (.cells zq 69)) = .ok () (wr.alloc (.cells (peV x.1).toArray 69)) :=
          run_storeCells_new wr 69 zq _ (by rw [s69]; exact (congrArg some (sz_peV x)).symm) (by rw [HQ.out]; exact (sz_peV x).symm) (one_peV _)
        have hsz5 : (peV x.1).toArray.size = 513 := sz_peV x
        have c1 : Aside0 (wr.cell? ⟨d, 1, none⟩ = some (.map (some M))) := ⟨(World.cell?_of_block (HS.out.1.block d HD.out.lt (fun e => HD.out.dM e))).trans c1'⟩
        have hW2 := Deep.blk_alloc_new wr (.cells (peV x.1).toArray 69)
        obtain ⟨W2, hW2e⟩ : ∃ W2, W2 = wr.alloc (.cells (peV x.1).toArray 69) := ⟨_, rfl⟩
        have HMP := Aside0.mk (HS.out.2.keep (W' := W2) (by rw [hW2e]; exact Below.heap_alloc wr _ M HS.out.2.lt))
        have HK := Aside0.mk (And.intro hlt (And.intro hk hx1))
        generalize hpe : (peV x.1).toArray = pe at hld hst hW2 hW2e hsz5
        have HPE := Aside0.mk hpe
        have HW2 := Aside0.mk (And.intro hW2 hW2e)
        clear hW2 hW2e
        have b0 : decide (k < s.cache.length) = true := decide_eq_true hlt
        have b1 : decide ((k : Int) < (s.cache.length : Int)) = true := decide_eq_true (by omega)
        have b2 : (k < s.cache.length) = True := eq_true hlt
        have b3 : ((k : Int) < (s.cache.length : Int)) = True := eq_true (by omega)
        clear hpe hx hxc hx1 hcs hkx hlt hk
        go_upto_region 4 with (refine wp_load_eq 69 _ rfl hld ?_)
        rw [← HW2.out.2]
        clear hld hst
        rename_i K2 hK2 K1 hK1 K0 hK0
        obtain ⟨p, hp⟩ : ∃ p, p = mendL s keep torn cut k x.1.1 := ⟨_, rfl⟩
        have hp5 : p.length = 512 := by rw [hp]; exact mendL_len HL5.out (fun x hx => (HC.out x hx).1) k HK.out.2.1 _
        have HPP := Aside0.mk hp
        obtain ⟨zp, hzp⟩ : ∃ zp : Array Value, zp = (bvs pgZ).toArray := ⟨_, rfl⟩
        have hz7 : ∀ w, (zeroValue 67).run Try.prog w = .ok (.agg zp) w := fun w => by rw [hzp]; exact zero67 w
        have hst4 : ∀ w : World, (Instr.storeAt 67 (.pointer (some ⟨w.heap.size, 0, none⟩)) (.agg (bvs p).toArray)).run Try.prog (w.alloc (.cells zp 67)) = .ok () (w.alloc (.cells (bvs p).toArray 67)) := fun w => by rw [hzp]; exact run_storeAt67 w _ _ pgZ_len hp5
        have HP5 := Aside0.mk hp5
        obtain ⟨qg, hqg⟩ : ∃ qg, qg = (bvs p).toArray := ⟨_, rfl⟩
        rw [← hqg] at hst4
        have HQG := Aside0.mk hqg
        clear hp hp5 hzp hqg
        have part : ∀ (n : Nat), n = mendN keep torn cut k → ∀ (y22 y23 y24 y25 y26 y27 y28 y29 y30 y31 y32 y33 y34 y35 y36 y37 y38 y39 : Value), K1 ⟨#[Value.pointer (some ⟨d, 0, none⟩), .slice A2 keep.length c3, .int .i64 torn, .int .i64 cut, undef, undef, undef, undef, .int .i64 (k : Int), .pointer (some ⟨wr.heap.size, 0, none⟩), .int .i64 (n : Int), u11, .pointer (some ⟨d, 0, none⟩), .pointer (some ⟨d, 0, none⟩), .pointer (some ⟨d, 2, none⟩), .slice (some ⟨g, 0, none⟩) s.cache.length c, .int .i64 (s.cache.length : Int), .int .i64 (k : Int), .bool true, .int .i64 (k : Int), .pointer (some ⟨g, k * 513, none⟩), .agg pe, y22, y23, y24, y25, y26, y27, y28, y29, y30, y31, y32, y33, y34, y35, y36, y37, y38, y39, u40, u41, u42, u43, u44, u45, u46, u47, u48, u49, u50, u51, u52, u53, u54, u55, u56, u57, u58, u59, undef, undef, undef, undef, undef, undef, undef, undef, undef], []⟩ W2 := by
          intro n hn y22 y23 y24 y25 y26 y27 y28 y29 y30 y31 y32 y33 y34 y35 y36 y37 y38 y39
          refine hK1 _ _ ?_
          have hn5 : n ≤ 512 := by rw [hn]; exact mendYtehgbikleiaagaale _ _ _ _
          have HN := Aside0.mk hn
          have cd1 : W2.cell? ⟨d, 1, none⟩ = some (.map (some M)) := by rw [HW2.out.2]; exact (World.cell?_of_block (Below.heap_alloc wr _ d (Nat.lt_of_lt_of_le HD.out.lt HS.out.1.size))).trans c1.out
          have hd2 : d < W2.heap.size := World.block_lt_of_cell? W2 _ cd1
          have hW2 := HW2.out.1
          rw [← HW2.out.2] at hW2
          have hw2 : wr.heap.size < W2.heap.size := blk_lt hW2
          have cx0 : W2.cell? ⟨wr.heap.size, 0, none⟩ = some (.int .i64 x.1.1) := (blk_cell hW2 0).trans (by rw [← HPE.out]; rfl)
          have hlk : (Instr.lookup 61 (.map (some M)) (.int .i64 x.1.1) false).run Try.prog W2.drew = .ok (.agg qg) W2.drew := by
            have := MP.look (W := W2.drew) (HMP.out.keep (W' := W2.drew) rfl) (i := x.1.1) (by have := HK.out.2.2.1; omega) (by have := HK.out.2.2.2; have := HP2.out; omega)
            rw [← HPP.out] at this
            rw [HQG.out]
            exact this
          have ca1 : (W2.drew.alloc (.cells zp 67)).cell? ⟨d, 1, none⟩ = some (.map (some M)) := (World.cell?_of_block (Below.heap_alloc W2.drew _ d hd2)).trans cd1
          have ca2 : (W2.drew.alloc (.cells zp 67)).cell? ⟨wr.heap.size, 0, none⟩ = some (.int .i64 x.1.1) := (World.cell?_of_block (Below.heap_alloc W2.drew _ _ hw2)).trans cx0
          have ca3 : (Instr.lookup 61 (.map (some M)) (.int .i64 x.1.1) false).run Try.prog (W2.drew.alloc (.cells zp 67)) = .ok (.agg qg) (W2.drew.alloc (.cells zp 67)) := by
            have := MP.look (W := W2.drew.alloc (.cells zp 67)) (HMP.out.keep (Below.heap_alloc W2.drew _ M HMP.out.lt)) (i := x.1.1) (by have := HK.out.2.2.1; omega) (by have := HK.out.2.2.2; have := HP2.out; omega)
            rw [← HPP.out] at this
            rw [HQG.out]
            exact this
          have hs4 := hst4 W2.drew
          obtain ⟨W4, hW4⟩ : ∃ W4, W4 = W2.drew.alloc (.cells qg 67) := ⟨_, rfl⟩
          have h411 : W4.heap[W2.heap.size]? = some (.cells qg 67 (0, 0)) := by rw [hW4]; exact Deep.blk_alloc_new W2.drew _
          have hb4 : Below W2.heap.size W2 W4 := by rw [hW4]; exact below_alloc (below_drew1 (Below.refl _ _)) _
          rw [← hW4] at hs4
          have h4b : W4.heap[wr.heap.size]? = some (.cells pe 69 (0, 0)) := (hb4.block _ hw2).trans hW2
          obtain ⟨W5, hcp, h511, hk5⟩ := over_copy W4.drew W2.heap.size wr.heap.size n x.1.2 p x.2 HP5.out hn5 (by rw [← HQG.out]; exact h411) (fun j u hj => by
            refine (blk_cell (w := W4.drew) h4b (1 + j)).trans ?_
            rw [← HPE.out, Nat.add_comm 1 j]
            simpa [peV] using hj)
          have hb5 : Below W2.heap.size W2 W5 := hb4.trans ((Kp.trans (S := fun j => j = W2.heap.size) (Kp.of_below (below_drew1 (Below.refl _ _))) hk5 (fun _ _ e => e)).below hb4.size (fun j e => Nat.le_of_eq e.symm))
          have cd5 : W5.cell? ⟨d, 1, none⟩ = some (.map (some M)) := (World.cell?_of_block (hb5.block d hd2)).trans cd1
          have cx5 : W5.cell? ⟨wr.heap.size, 0, none⟩ = some (.int .i64 x.1.1) := (World.cell?_of_block (hb5.block _ hw2)).trans cx0
          obtain ⟨og, hog⟩ : ∃ og, og = (bvs (over n x.1.2 p)).toArray := ⟨_, rfl⟩
          have hol := over_len (n := n) (b := x.1.2) (p := p) x.2 HP5.out hn5
          have hl7 : (Instr.loadAt 67 (.pointer (some ⟨W2.heap.size, 0, none⟩))).run Try.prog W5.drew = .ok (.agg og) W5.drew := by
            rw [hog]
            refine run_loadAt_mid W5.drew W2.heap.size 0 67 (bvs (over n x.1.2 p)) _ (fun j u hj => ?_) Try.underlying67 rfl (by rw [s67, bvs_len, hol])
            refine (blk_cell (w := W5.drew) h511 (0 + j)).trans ?_
            rw [Nat.zero_add]
            simpa using hj
          obtain ⟨W6, hmu, hM6, hg6⟩ := MP.store (W := W5.drew) (HMP.out.keep (W' := W5.drew) (hb5.block M HMP.out.lt)) (by have := HT.out; have := HK.out.1; unfold maxLen; omega) (i := x.1.1) (by have := HK.out.2.2.1; omega) (by have := HK.out.2.2.2; have := HP2.out; omega) (over n x.1.2 p)
          unfold pgV at hmu
          rw [← hog] at hmu
          have HE : Aside0 (MI w M N s keep torn cut (k + 1) W6) := ⟨(HS.out.1.trans (Kp.of_below (S := fun j => j = M) (by rw [HW2.out.2]; exact below_alloc (Below.refl _ _) _)) (fun _ _ e => e)).trans ((Kp.of_below hb5).trans (Kp.grown (S := fun j => j = M) (a := W5) ⟨hg6.os, hg6.tape, hg6.output, hg6.size, hg6.block⟩ (fun j e => by injection e with e; exact e.symm)) (fun _ _ e => e)) (fun _ _ e => e), by rw [HXC.out, ← HPP.out, ← HN.out]; exact hM6⟩
          have hlk' := Aside0.mk hlk
          have hs4' := Aside0.mk hs4
          have hcp' := Aside0.mk hcp
          have hl7' := Aside0.mk hl7
          have hmu' := Aside0.mk hmu
          have cd1' := Aside0.mk cd1
          have cx0' := Aside0.mk cx0
          have cd5' := Aside0.mk cd5
          have cx5' := Aside0.mk cx5
          have ca1' := Aside0.mk ca1
          have ca2' := Aside0.mk ca2
          have ca3' := Aside0.mk ca3
          have hn0 : (0 : Int) ≤ (n : Int) := by omega
          have hn1 : (n : Int) ≤ 512 := by omega
          have hn2 : (n ≤ 512) = True := eq_true hn5
          clear hn hlk hs4 hcp hl7 hmu cd1 cx0 cd5 cx5 ca1 ca2 ca3 hd2 hW2 hw2 h411 hb4 h4b hk5 hb5 h511 hM6 hg6 hol hog hW4 hK1 hK0 hst4 hz9 hsz5 c1' c2
          go_upto_region 8 with fail
          refine start_ (n := 9) (S := fun w' => w'.cell? ⟨d, 1, none⟩ = some (.map (some M)) ∧ w'.cell? ⟨wr.heap.size, 0, none⟩ = some (.int .i64 x.1.1) ∧ (Instr.lookup 61 (.map (some M)) (.int .i64 x.1.1) false).run Try.prog w' = .ok (.agg qg) w') (ds := [8]) #[false, false, false, false, false, false, false, false, false] (by kernel_rfl) rfl rfl ⟨cd1'.out, cx0'.out, hlk'.out⟩ (fun hHeld => ?_)
          refine pure_ (i := 0) (N := some 40) (v := ?_) (a' := ?_) #[true, false, false, false, false, false, false, false, false] rfl rfl (by kernel_rfl) (fun _ _ _ h => h) (Or.inl ⟨by rfl, ?_⟩) ?_ ?_
          rotate_left
          · intro w'
            go_simp
            with_reducible rfl
          rotate_left
          · simp only [Act.put, List.setIfInBounds_toArray, List.set_cons_zero, List.set_cons_succ, i64_w, i32_w]
            rfl
          refine pure_ (i := 1) (N := some 41) (v := ?_) (a' := ?_) #[true, true, false, false, false, false, false, false, false] rfl rfl (by kernel_rfl) (fun _ _ _ h => h) (Or.inl ⟨by rfl, ?_⟩) ?_ ?_
          rotate_left
          · intro w'
            go_simp
            with_reducible rfl
          rotate_left
          · simp only [Act.put, List.setIfInBounds_toArray, List.set_cons_zero, List.set_cons_succ, i64_w, i32_w]
            rfl
          refine pure_ (i := 2) (N := some 42) (v := ?_) (a' := ?_) #[true, true, true, false, false, false, false, false, false] rfl rfl (by kernel_rfl) (fun _ _ _ h => h) (Or.inl ⟨by rfl, ?_⟩) ?_ ?_
          rotate_left
          · intro w'
            go_simp
            with_reducible rfl
          rotate_left
          · simp only [Act.put, List.setIfInBounds_toArray, List.set_cons_zero, List.set_cons_succ, i64_w, i32_w]
            rfl
          refine pure_ (i := 4) (N := some 44) (v := ?_) (a' := ?_) #[true, true, true, false, true, false, false, false, false] rfl rfl (by kernel_rfl) (fun _ _ _ h => h) (Or.inl ⟨by rfl, ?_⟩) ?_ ?_
          rotate_left
          · intro w'
            go_simp
            with_reducible rfl
          rotate_left
          · simp only [Act.put, List.setIfInBounds_toArray, List.set_cons_zero, List.set_cons_succ, i64_w, i32_w]
            rfl
          refine take_ (i := 3) (N := some 43) (v := ?_) (a' := ?_) #[true, true, true, true, true, false, false, false, false] rfl rfl (by kernel_rfl) (fun _ _ _ h => h) (Or.inl ⟨by rfl, ?_⟩) hHeld ?_ ?_
          rotate_left
          · rintro w' ⟨s0, s1, s2⟩
            go_simp
            with_reducible rfl
          rotate_left
          · simp only [Act.put, List.setIfInBounds_toArray, List.set_cons_zero, List.set_cons_succ, i64_w, i32_w]
            rfl
          refine take_ (i := 5) (N := some 45) (v := ?_) (a' := ?_) #[true, true, true, true, true, true, false, false, false] rfl rfl (by kernel_rfl) (fun _ _ _ h => h) (Or.inl ⟨by rfl, ?_⟩) hHeld ?_ ?_
          rotate_left
          · rintro w' ⟨s0, s1, s2⟩
            go_simp
            with_reducible rfl
          rotate_left
          · simp only [Act.put, List.setIfInBounds_toArray, List.set_cons_zero, List.set_cons_succ, i64_w, i32_w]
            rfl
          refine take_ (i := 6) (N := some 46) (v := ?_) (a' := ?_) #[true, true, true, true, true, true, true, false, false] rfl rfl (by kernel_rfl) (fun _ _ _ h => h) (Or.inl ⟨by rfl, ?_⟩) hHeld ?_ ?_
          rotate_left
          · rintro w' ⟨s0, s1, s2⟩
            refine Eq.trans (exec_lookup2 61 (.tmp 43) (.tmp 45) false rfl (vx := .map (some M)) (vy := .int .i64 x.1.1) (by rfl) (by rfl) s2) ?_
            with_reducible rfl
          rotate_left
          · simp only [Act.put, List.setIfInBounds_toArray, List.set_cons_zero, List.set_cons_succ, i64_w, i32_w]
            rfl
          refine one_ (i := 7) (N := some 11) #[true, true, true, true, true, true, true, true, false] rfl rfl (by kernel_rfl) (by decide) (fun K hK => ?_)
          refine value_ (w1 := W2.drew.alloc (.cells zp 67)) (v := .pointer (some ⟨W2.heap.size, 0, none⟩)) (by rfl) rfl (exec_alloc 67 rfl zp hz7) ?_
          refine hK.out _ _ ⟨ca1'.out, ca2'.out, ca3'.out⟩ (fun hHeld => ?_)
          clear hK K
          refine norm_ (a' := ?_) ?_ ?_
          rotate_left
          · show Act.put _ (some 11) _ = _
            simp only [Act.put, List.setIfInBounds_toArray, List.set_cons_zero, List.set_cons_succ, i64_w, i32_w]
            rfl
          refine last_ (i := 8) (N := none) #[true, true, true, true, true, true, true, true, true] rfl rfl (by kernel_rfl) (by decide) (fun K hK => ?_)
          refine skip_ (w1 := W4) (by rfl) rfl (exec_store 67 (.tmp 11) (.tmp 46) rfl hs4'.out) ?_
          refine hK.out _ _ ?_
          clear hK K
          refine done_ (by kernel_rfl) ?_
          go_upto_region 9 with fail
          refine start_ (n := 5) (S := fun w' => True) (ds := [4]) #[false, false, false, false, false] (by kernel_rfl) rfl rfl trivial (fun hHeld => ?_)
          refine pure_ (i := 0) (N := some 47) (v := ?_) (a' := ?_) #[true, false, false, false, false] rfl rfl (by kernel_rfl) (fun _ _ _ h => h) (Or.inl ⟨by rfl, ?_⟩) ?_ ?_
          rotate_left
          · intro w'
            go_simp
            with_reducible rfl
          rotate_left
          · simp only [Act.put, List.setIfInBounds_toArray, List.set_cons_zero, List.set_cons_succ, i64_w, i32_w]
            rfl
          refine pure_ (i := 1) (N := some 48) (v := ?_) (a' := ?_) #[true, true, false, false, false] rfl rfl (by kernel_rfl) (fun _ _ _ h => h) (Or.inl ⟨by rfl, ?_⟩) ?_ ?_
          rotate_left
          · intro w'
            go_simp
            with_reducible rfl
          rotate_left
          · simp only [Act.put, List.setIfInBounds_toArray, List.set_cons_zero, List.set_cons_succ, i64_w, i32_w]
            rfl
          refine pure_ (i := 2) (N := some 49) (v := ?_) (a' := ?_) #[true, true, true, false, false] rfl rfl (by kernel_rfl) (fun _ _ _ h => h) (Or.inl ⟨by rfl, ?_⟩) ?_ ?_
          rotate_left
          · intro w'
            go_simp
            with_reducible rfl
          rotate_left
          · simp only [Act.put, List.setIfInBounds_toArray, List.set_cons_zero, List.set_cons_succ, i64_w, i32_w]
            rfl
          refine pure_ (i := 3) (N := some 50) (v := ?_) (a' := ?_) #[true, true, true, true, false] rfl rfl (by kernel_rfl) (fun _ _ _ h => h) (Or.inl ⟨by rfl, ?_⟩) ?_ ?_
          rotate_left
          · intro w'
            go_simp
            with_reducible rfl
          rotate_left
          · simp only [Act.put, List.setIfInBounds_toArray, List.set_cons_zero, List.set_cons_succ, i64_w, i32_w]
            rfl
          refine last_ (i := 4) (N := some 51) #[true, true, true, true, true] rfl rfl (by kernel_rfl) (by decide) (fun K hK => ?_)
          refine value_ (w1 := W5) (v := .int .i64 (n : Int)) (by rfl) rfl (exec_copy (.tmp 48) (.tmp 50) 30 30 rfl (by rfl) (by rfl) hcp'.out) ?_
          refine hK.out _ _ ?_
          clear hK K
          refine norm_ (a' := ?_) ?_ ?_
          rotate_left
          · show Act.put _ (some 51) _ = _
            simp only [Act.put, List.setIfInBounds_toArray, List.set_cons_zero, List.set_cons_succ, i64_w, i32_w]
            rfl
          refine done_ (by kernel_rfl) ?_
          clear hz7
          go_upto_region 10 with fail
          refine start_ (n := 8) (S := fun w' => w'.cell? ⟨d, 1, none⟩ = some (.map (some M)) ∧ w'.cell? ⟨wr.heap.size, 0, none⟩ = some (.int .i64 x.1.1)) (ds := [7]) #[false, false, false, false, false, false, false, false] (by kernel_rfl) rfl rfl ⟨cd5'.out, cx5'.out⟩ (fun hHeld => ?_)
          refine pure_ (i := 0) (N := some 52) (v := ?_) (a' := ?_) #[true, false, false, false, false, false, false, false] rfl rfl (by kernel_rfl) (fun _ _ _ h => h) (Or.inl ⟨by rfl, ?_⟩) ?_ ?_
          rotate_left
          · intro w'
            go_simp
            with_reducible rfl
          rotate_left
          · simp only [Act.put, List.setIfInBounds_toArray, List.set_cons_zero, List.set_cons_succ, i64_w, i32_w]
            rfl
          refine pure_ (i := 1) (N := some 53) (v := ?_) (a' := ?_) #[true, true, false, false, false, false, false, false] rfl rfl (by kernel_rfl) (fun _ _ _ h => h) (Or.inl ⟨by rfl, ?_⟩) ?_ ?_
          rotate_left
          · intro w'
            go_simp
            with_reducible rfl
          rotate_left
          · simp only [Act.put, List.setIfInBounds_toArray, List.set_cons_zero, List.set_cons_succ, i64_w, i32_w]
            rfl
          refine pure_ (i := 2) (N := some 54) (v := ?_) (a' := ?_) #[true, true, true, false, false, false, false, false] rfl rfl (by kernel_rfl) (fun _ _ _ h => h) (Or.inl ⟨by rfl, ?_⟩) ?_ ?_
          rotate_left
          · intro w'
            go_simp
            with_reducible rfl
          rotate_left
          · simp only [Act.put, List.setIfInBounds_toArray, List.set_cons_zero, List.set_cons_succ, i64_w, i32_w]
            rfl
          refine pure_ (i := 4) (N := some 56) (v := ?_) (a' := ?_) #[true, true, true, false, true, false, false, false] rfl rfl (by kernel_rfl) (fun _ _ _ h => h) (Or.inl ⟨by rfl, ?_⟩) ?_ ?_
          rotate_left
          · intro w'
            go_simp
            with_reducible rfl
          rotate_left
          · simp only [Act.put, List.setIfInBounds_toArray, List.set_cons_zero, List.set_cons_succ, i64_w, i32_w]
            rfl
          refine take_ (i := 3) (N := some 55) (v := ?_) (a' := ?_) #[true, true, true, true, true, false, false, false] rfl rfl (by kernel_rfl) (fun _ _ _ h => h) (Or.inl ⟨by rfl, ?_⟩) hHeld ?_ ?_
          rotate_left
          · rintro w' ⟨s0, s1⟩
            go_simp
            with_reducible rfl
          rotate_left
          · simp only [Act.put, List.setIfInBounds_toArray, List.set_cons_zero, List.set_cons_succ, i64_w, i32_w]
            rfl
          refine take_ (i := 5) (N := some 57) (v := ?_) (a' := ?_) #[true, true, true, true, true, true, false, false] rfl rfl (by kernel_rfl) (fun _ _ _ h => h) (Or.inl ⟨by rfl, ?_⟩) hHeld ?_ ?_
          rotate_left
          · rintro w' ⟨s0, s1⟩
            go_simp
            with_reducible rfl
          rotate_left
          · simp only [Act.put, List.setIfInBounds_toArray, List.set_cons_zero, List.set_cons_succ, i64_w, i32_w]
            rfl
          refine one_ (i := 6) (N := some 58) #[true, true, true, true, true, true, true, false] rfl rfl (by kernel_rfl) (by decide) (fun K hK => ?_)
          refine value_ (w1 := W5.drew) (v := .agg og) (by rfl) rfl (exec_load 67 (.tmp 11) rfl hl7'.out) ?_
          refine hK.out _ _ ⟨cd5'.out, cx5'.out⟩ (fun hHeld => ?_)
          clear hK K
          refine norm_ (a' := ?_) ?_ ?_
          rotate_left
          · show Act.put _ (some 58) _ = _
            simp only [Act.put, List.setIfInBounds_toArray, List.set_cons_zero, List.set_cons_succ, i64_w, i32_w]
            rfl
          refine last_ (i := 7) (N := none) #[true, true, true, true, true, true, true, true] rfl rfl (by kernel_rfl) (by decide) (fun K hK => ?_)
          refine skip_ (w1 := W6) (by rfl) rfl (exec_mapUpdate 61 (.tmp 55) (.tmp 57) (.tmp 58) rfl hmu'.out) ?_
          refine hK.out _ _ ?_
          clear hK K
          refine done_ (by kernel_rfl) ?_
          have hkb : k < 1073741824 := by have := HT.out; have := HK.out.1; omega
          go_wp2
          go_roundw
          case rel => exact ⟨k + 1, by go_num, HK.out.1, HE⟩
          case measure => exact meas_lt HK.out.1 (by go_num)
        clear hK1 hz7 hst4 hsz5 hz9
        have hex : ∀ (n : Nat) (z : Int), z = (n : Int) → (Value.int .i64 z) = .int .i64 (n : Int) := fun n z e => by rw [e]
        by_cases ht : (k : Int) = torn
        · have t0 : ((k : Int) == torn) = true := beq_iff_eq.mpr ht
          have t1 : decide ((k : Int) = torn) = true := decide_eq_true ht
          have hn : mendN keep torn cut k = (max 0 (min cut 512)).toNat := if_pos ht
          by_cases hc0 : cut ≤ 0
          · have e : (mendN keep torn cut k : Int) = 0 := by rw [hn]; omega
            have hq := part _ rfl
            rw [e] at hq
            have q1 : (512 < cut) = False := eq_false (by omega)
            have q2 : (0 < cut) = False := eq_false (by omega)
            clear part ht hn hc0 e
            go_wp2
            exact hq _ _ _ _ _ _ _ _ _ _ _ _ _ _ _ _ _ _
          · by_cases hc5 : 512 < cut
            · have e : (mendN keep torn cut k : Int) = 512 := by rw [hn]; omega
              have hq := part _ rfl
              rw [e] at hq
              have q1 : (512 < cut) = True := eq_true hc5
              clear part ht hn hc0 hc5 e
              go_wp2
              exact hq _ _ _ _ _ _ _ _ _ _ _ _ _ _ _ _ _ _
            · have e : (mendN keep torn cut k : Int) = cut := by rw [hn]; omega
              have hq := part _ rfl
              rw [e] at hq
              have q1 : (512 < cut) = False := eq_false hc5
              have q2 : (0 < cut) = True := eq_true (by omega)
              clear part ht hn hc0 hc5 e
              go_wp2
              exact hq _ _ _ _ _ _ _ _ _ _ _ _ _ _ _ _ _ _
        · have t0 : ((k : Int) == torn) = false := beq_eq_false_iff_ne.mpr ht
          have t1 : decide ((k : Int) = torn) = false := decide_eq_false ht
          have hn : mendN keep torn cut k = if keep.getD k false = true then 512 else 0 := if_neg ht
          by_cases hkl : k < keep.length
          · obtain ⟨ad, ea, hca⟩ := Kd.at_bool HKR.out (k : Int) (by omega) (by omega)
            subst ea
            rw [Int.toNat_natCast] at hca
            have hrk : rdOf false keep (k : Int) = keep.getD k false := by simp [rdOf]
            rw [hrk] at hca
            have hcb : W2.cell? (ad.add k) = some (.bool (keep.getD k false)) := by
              have hbl := World.block_lt_of_cell? w _ hca
              rw [HW2.out.2]
              refine (World.cell?_of_block (Below.heap_alloc wr _ _ (Nat.lt_of_lt_of_le hbl HS.out.1.size))).trans ?_
              refine (World.cell?_of_block (HS.out.1.block _ hbl (fun e => HKM.out (List.ne_nil_of_length_pos (by omega)) ad rfl ?_))).trans hca
              rw [← e]
              unfold Addr.add
              split <;> rfl
            have l1 : ((k : Int) < (keep.length : Int)) = True := eq_true (by omega)
            have l2 : decide ((k : Int) < (keep.length : Int)) = true := decide_eq_true (by omega)
            have l3 : (k < keep.length) = True := eq_true hkl
            have l4 : decide (k < keep.length) = true := decide_eq_true hkl
            cases hkb : keep.getD k false with
            | true =>
              rw [hkb] at hcb
              have e : (mendN keep torn cut k : Int) = 512 := by rw [hn, hkb]; rfl
              have hq := part _ rfl
              rw [e] at hq
              clear part ht hn e hkl hca hrk hkb
              go_wp2
              exact hq _ _ _ _ _ _ _ _ _ _ _ _ _ _ _ _ _ _
            | false =>
              rw [hkb] at hcb
              have e : (mendN keep torn cut k : Int) = 0 := by rw [hn, hkb]; rfl
              have hq := part _ rfl
              rw [e] at hq
              clear part ht hn e hkl hca hrk hkb
              go_wp2
              exact hq _ _ _ _ _ _ _ _ _ _ _ _ _ _ _ _ _ _
          · have e : (mendN keep torn cut k : Int) = 0 := by rw [hn, List.getD_eq_getElem?_getD, List.getElem?_eq_none (by omega)]; rfl
            have hq := part _ rfl
            rw [e] at hq
            have l1 : ((k : Int) < (keep.length : Int)) = False := eq_false (by omega)
            have l2 : decide ((k : Int) < (keep.length : Int)) = false := decide_eq_false (by omega)
            have l3 : (k < keep.length) = False := eq_false hkl
            have l4 : decide (k < keep.length) = false := decide_eq_false hkl
            clear part ht hn e hkl
            go_wp2
            exact hq _ _ _ _ _ _ _ _ _ _ _ _ _ _ _ _ _ _
    · have hke : k = s.cache.length := by omega
      subst hke
      have b0 : decide (s.cache.length < s.cache.length) = false := decide_eq_false (by omega)
      have b1 : decide ((s.cache.length : Int) < (s.cache.length : Int)) = false := decide_eq_false (by omega)
      have hb := (HS.out.1.block d HD.out.lt (fun e => HD.out.dM e)).trans HD.out.blk
      have c2r : wr.cell? ⟨d, 2, none⟩ = some (.slice A s.cache.length c) := (blk_cell hb 2).trans rfl
      have f2r := blk_frozen hb 2
      have c3r : wr.cell? ⟨d, 3, none⟩ = some (.int .i64 s.left) := (blk_cell hb 3).trans rfl
      have f3r := blk_frozen hb 3
      have c4r : wr.cell? ⟨d, 4, none⟩ = some (.bool s.down) := (blk_cell hb 4).trans rfl
      have f4r := blk_frozen hb 4
      have HE : Aside0 (DD (((wr.setCell ⟨d, 2, none⟩ (.slice none 0 0)).setCell ⟨d, 3, none⟩ (.int .i64 (-1))).setCell ⟨d, 4, none⟩ (.bool false)) base d M (N + s.cache.length) (.slice none 0 0) (mendS s keep torn cut)) := ⟨{
        bd := HD.out.bd
        bm := HD.out.bm
        blk := blk_put (blk_put (blk_put hb 2 _ rfl) 3 _ rfl) 4 _ rfl
        mp := ((HS.out.2.keep (Below.heap_setCell wr _ _ M (fun e => HD.out.dM e.symm))).keep (Below.heap_setCell _ _ _ M (fun e => HD.out.dM e.symm))).keep (Below.heap_setCell _ _ _ M (fun e => HD.out.dM e.symm))
        row := Kd.R_nil _ _ _ _ _
        tot := by have := HT.out; simpa [mendS] using this
        p1 := HD.out.p1
        p2 := HD.out.p2
        l512 := mendL_len HL5.out (fun x hx => (HC.out x hx).1) _ (Nat.le_refl _)
        c512 := fun x hx => by simp [mendS] at hx
        lf := by simp [mendS] }⟩
      have HE2 : Aside0 (MV d M (.slice A s.cache.length c) (.slice none 0 0) w (((wr.setCell ⟨d, 2, none⟩ (.slice none 0 0)).setCell ⟨d, 3, none⟩ (.int .i64 (-1))).setCell ⟨d, 4, none⟩ (.bool false))) := ⟨(((Kp.wide HS.out.1 (fun j e => .inr (.inl e))).trans (Kp.set (S := FD d M (.slice A s.cache.length c)) wr _ _ (.inl rfl)) (fun j _ e => e)).trans (Kp.set (S := FD d M (.slice A s.cache.length c)) _ _ _ (.inl rfl)) (fun j _ e => e)).trans (Kp.set (S := FD d M (.slice A s.cache.length c)) _ _ _ (.inl rfl)) (fun j _ e => e), fun k hk => by simp [Value.ownBlock] at hk⟩
      clear hlt hk hb
      go_wp2
      go_end0
      exact ⟨⟨_, rfl⟩, HE.out, HE2.out⟩
end Go.Proofs.Ytehgbikleiaagaa.P
end
section
namespace Go.Proofs.Ytehgbikleiaagaa.P
open Go.RowKit Go.Proofs.YtehgbikleiaagaaW.PrintWords Go.Proofs.YtehgbikleiaagaaW.PrintLast Go.Proofs.YtehgbikleiaagaaW.PrintMore
attribute [local go_sem] max2_int min2_int max_two min_two max_three min_three max_four min_four
set_option linter.unusedVariables false
set_option linter.unusedSimpArgs false
structure TF (base : Nat) (w w' : World) : Prop where
  b : Below base w w'
  size : w.heap.size ≤ w'.heap.size
  blk : ∀ (g : Nat) (cs : Array Value) (t : TypeId) (fr : Nat × Nat), w.heap[g]? = some (Obj.cells cs t fr) → t ≠ 64 → t ≠ 69 → w'.heap[g]? = some (Obj.cells cs t fr)
theorem TF.refl (base : Nat) (w : World) : TF base w w := ⟨Below.refl _ _, Nat.le_refl _, fun _ _ _ _ h _ _ => h⟩
theorem TF.trans {base : Nat} {a b c : World} (h : TF base a b) (k : TF base b c) : TF base a c := ⟨h.b.trans k.b, Nat.le_trans h.size k.size, fun g cs t fr hb h1 h2 => k.blk g cs t fr (h.blk g cs t fr hb h1 h2) h1 h2⟩
theorem TF.mono {base base' : Nat} {a b : World} (h : TF base a b) (hb : base' ≤ base) : TF base' a b := ⟨h.b.mono hb, h.size, h.blk⟩
theorem TF.of_below {base : Nat} {a b : World} (h : Below a.heap.size a b) (hb : base ≤ a.heap.size) : TF base a b := ⟨h.mono hb, h.size, fun g cs t fr hg _ _ => blk_below hg h⟩
theorem DD.fd_typed {W : World} {base d M N : Nat} {v : Value} {s : Dk} (h : DD W base d M N v s) {g : Nat} {cs : Array Value} {t : TypeId} {fr : Nat × Nat} (hb : W.heap[g]? = some (.cells cs t fr)) (h1 : t ≠ 64) (h2 : t ≠ 69) : ¬ FD d M v g := by
  rintro (rfl | rfl | e)
  · have := h.blk
    rw [hb] at this
    cases this
    exact h1 rfl
  · obtain ⟨es, clock, hm⟩ := h.mp.blk
    rw [hb] at hm
    cases hm
  · obtain ⟨cells, hc⟩ := Kd.R_typed h.row g e.symm
    rw [hb] at hc
    cases hc
    exact h2 rfl
theorem DD.tf {w w' : World} {base d M N : Nat} {v v' : Value} {s : Dk} (h : DD w base d M N v s) (hm : MV d M v v' w w') : TF base w w' :=
  ⟨h.below hm, hm.kp.size, fun g cs t fr hb h1 h2 => (hm.kp.block g (blk_lt hb) (h.fd_typed hb h1 h2)).trans hb⟩
theorem R_tf {α : Type} {d : Kd α} {e b base : Nat} {ok : Nat → Prop} {w w' : World} {v : Value} {xs : List α} (h : d.R e w b ok v xs) (ht : TF base w w') (hq : ∀ q, q ∈ e :: d.E → q ≠ 64 ∧ q ≠ 69) : d.R e w' b ok v xs := by
  refine Kd.R_mono (Kd.R_move (Kd.R_bound h) (fun k hk => ?_)) (fun _ hk => hk.1)
  obtain ⟨_, _, _, q, hqm, cells, hc⟩ := hk
  rw [hc, ht.blk k cells q _ hc (hq q hqm).1 (hq q hqm).2]
theorem R5_tf {b base : Nat} {ok : Nat → Prop} {w w' : World} {v : Value} {xs : List Int} (h : Kd.R (Kd.int .u8) 5 w b ok v xs) (ht : TF base w w') : Kd.R (Kd.int .u8) 5 w' b ok v xs :=
  R_tf h ht (fun q hq => by simp [Kd.int, Kd.scalar] at hq; subst hq; decide)
def DS (W : World) (base d : Nat) (s : Dk) (C : Nat) : Prop := ∃ M N v, DD W base d M N v s ∧ N + s.cache.length ≤ C
section
variable {w w' : World} {base d C : Nat} {s : Dk}
theorem DS.step (h : DS w base d s C) (hb : Below w.heap.size w w') : DS w' base d s C := by
  obtain ⟨M, N, v, h, hc⟩ := h
  exact ⟨M, N, v, h.step hb, hc⟩
theorem DS.base_le (h : DS w base d s C) : base ≤ w.heap.size := by
  obtain ⟨M, N, v, h, hc⟩ := h
  exact Nat.le_trans h.bd (Nat.le_of_lt h.lt)
theorem DS.tf (h : DS w base d s C) (hb : Below w.heap.size w w') : TF base w w' := TF.of_below hb h.base_le
theorem DS.more {C' : Nat} (h : DS w base d s C) (hC : C ≤ C') : DS w base d s C' := by
  obtain ⟨M, N, v, h, hc⟩ := h
  exact ⟨M, N, v, h, Nat.le_trans hc hC⟩
theorem DS.p1 (h : DS w base d s C) : 1 ≤ s.pages := by obtain ⟨M, N, v, h, hc⟩ := h; exact h.p1
theorem DS.l512 (h : DS w base d s C) : ∀ i, (s.last i).length = 512 := by obtain ⟨M, N, v, h, hc⟩ := h; exact h.l512
theorem DS.c512 (h : DS w base d s C) : ∀ x ∈ s.cache, x.2.length = 512 ∧ 0 ≤ x.1 ∧ x.1 < s.pages := by obtain ⟨M, N, v, h, hc⟩ := h; exact h.c512
end
theorem ds_new (p : Int) (h0 : 1 ≤ p) (h1 : p ≤ 4096) (w : World) :
    Calls Try.prog 10 #[.int .i64 p] w fun e w' => ∃ d, e = .returned (.tuple #[.pointer (some ⟨d, 0, none⟩), .int .i64 0]) ∧ DS w' w.heap.size d (newS p) 0 ∧ Below w.heap.size w w' :=
  (new_calls p h0 h1 w).mono fun e w' ⟨d, M, he, hd, hb⟩ => ⟨d, he, ⟨M, 0, _, hd, by simp [newS]⟩, hb⟩
def writeE (s : Dk) (n : Int) (b : List Int) : Int := if lookP s n ≠ 0 then lookP s n else if b.length ≠ 512 then 3 else if s.left = 0 then 9 else 0
def writeD (s : Dk) (n : Int) (b : List Int) : Dk := if lookP s n ≠ 0 then s else if b.length ≠ 512 then s else if s.left = 0 then stepS s else writeS s n b
theorem row_range {w : World} {b g cap : Nat} {ok : Nat → Prop} {xs : List Int} (h : Kd.R (Kd.int .u8) 5 w b ok (.slice (some ⟨g, 0, none⟩) xs.length cap) xs) : w.rangeAt g 0 (bvs xs) := by
  intro j u hj
  have hlt : j < xs.length := by
    have := (List.getElem?_eq_some_iff.1 hj).1
    rwa [bvs_len] at this
  have hc := (Kd.R_celln 0 h (j : Int) (by omega) (by omega)).1
  rw [Int.toNat_natCast] at hc
  rw [Nat.zero_add, hc]
  simp only [bvs, List.getElem?_map, List.getElem?_eq_getElem hlt, Option.map_some, Option.some.injEq] at hj
  rw [← hj]
  simp [rdOf, List.getElem?_eq_getElem hlt]
theorem ds_write {base d C : Nat} {s : Dk} (n : Int) (own : Value) (b : List Int) {b2 : Nat} {ok : Nat → Prop} (w : World) (h : DS w base d s C) (hC : C < 1073741824) (ho : Kd.R (Kd.int .u8) 5 w b2 ok own b) :
    Calls Try.prog 12 #[.pointer (some ⟨d, 0, none⟩), .int .i64 n, own] w fun e w' => e = .returned (.int .i64 (writeE s n b)) ∧ DS w' base d (writeD s n b) (C + 1) ∧ TF base w w' := by
  obtain ⟨M, N, v, h, hc⟩ := h
  have hbl : base ≤ w.heap.size := Nat.le_trans h.bd (Nat.le_of_lt h.lt)
  unfold writeE writeD
  by_cases hl : lookP s n ≠ 0
  · rw [if_pos hl, if_pos hl]
    obtain ⟨A, c, e⟩ := Kd.R_slice ho
    subst e
    exact (write_look n A b.length c hl w h).mono fun e w' ⟨he, hb⟩ => ⟨he, ⟨M, N, v, h.step hb, by omega⟩, TF.of_below hb hbl⟩
  · rw [if_neg hl, if_neg hl]
    have hl0 : lookP s n = 0 := Decidable.not_not.1 hl
    by_cases h5 : b.length ≠ 512
    · rw [if_pos h5, if_pos h5]
      obtain ⟨A, c, e⟩ := Kd.R_slice ho
      subst e
      exact (write_len n A b.length c hl0 h5 w h).mono fun e w' ⟨he, hb⟩ => ⟨he, ⟨M, N, v, h.step hb, by omega⟩, TF.of_below hb hbl⟩
    · rw [if_neg h5, if_neg h5]
      have h50 : b.length = 512 := Decidable.not_not.1 h5
      by_cases hs : s.left = 0
      · rw [if_pos hs, if_pos hs]
        obtain ⟨A, c, e⟩ := Kd.R_slice ho
        subst e
        rw [h50]
        exact (write_down n A c hl0 hs w h).mono fun e w' ⟨he, hd, hm⟩ => ⟨he, ⟨M, N, v, hd, by rw [stepS_cache]; omega⟩, h.tf hm⟩
      · rw [if_neg hs, if_neg hs]
        obtain ⟨g, cap, e, _, hg, cells, hcell⟩ := Kd.R_form ho (by omega)
        subst e
        have hr := row_range ho
        rw [h50]
        exact (write_ok n b g cap hl0 h50 hs w h (by omega) hg (h.fd_typed hcell (by decide) (by decide)) hr).mono fun e w' ⟨he, v', hd, hm⟩ => ⟨he, ⟨M, N, v', hd, by simp [writeS]; omega⟩, h.tf hm⟩
theorem ds_mend {base d C : Nat} {s : Dk} (A2 : Option Addr) (c3 : Nat) (keep : List Bool) (torn cut : Int) (w : World) (h : DS w base d s C) (hkr : Kd.C Kd.bool w A2 keep.length keep) :
    Calls Try.prog 14 #[.pointer (some ⟨d, 0, none⟩), .slice A2 keep.length c3, .int .i64 torn, .int .i64 cut] w fun e w' => (∃ u, e = .returned u) ∧ DS w' base d (mendS s keep torn cut) C ∧ TF base w w' := by
  obtain ⟨M, N, v, h, hc⟩ := h
  have hkm : keep ≠ [] → ∀ a, A2 = some a → a.block ≠ M := by
    rintro hne a rfl e
    have hpos : 0 < keep.length := List.length_pos_iff.2 hne
    obtain ⟨ad, e1, hcell⟩ := Kd.at_bool hkr 0 (by omega) (by omega)
    injection e1 with e1
    subst e1
    obtain ⟨es, clock, hm⟩ := h.mp.blk
    have hb : (a.add (0 : Int).toNat).block = M := by rw [← e]; unfold Addr.add; split <;> rfl
    unfold World.cell? at hcell
    rw [hb, hm] at hcell
    cases hcell
  exact (mend_calls A2 c3 keep torn cut w h hkr hkm).mono fun e w' ⟨he, hd, hm⟩ => ⟨he, ⟨M, _, _, hd, by simpa [mendS] using hc⟩, h.tf hm⟩
theorem ds_read {base d C : Nat} {s : Dk} (n : Int) (w : World) (h : DS w base d s C) :
    Calls Try.prog 15 #[.pointer (some ⟨d, 0, none⟩), .int .i64 n] w fun e w' => ∃ v, e = .returned (.tuple #[v, .int .i64 (lookP s n)]) ∧ Below w.heap.size w w' ∧
      ((lookP s n ≠ 0 ∧ v = .slice none 0 0) ∨ (lookP s n = 0 ∧ ∃ g, w.heap.size ≤ g ∧ v = .slice (some ⟨g, 0, none⟩) 512 512 ∧ w'.heap[g]? = some (.cells (bvs (hasP s n)).toArray 67 (0, 0)))) := by
  obtain ⟨M, N, v, h, hc⟩ := h
  by_cases hl : lookP s n = 0
  · rw [hl]
    exact (read_ok n hl w h).mono fun e w' ⟨g, hg, he, hc, hb⟩ => ⟨_, he, hb, .inr ⟨rfl, g, hg, rfl, hc⟩⟩
  · exact (read_bad n hl w h).mono fun e w' ⟨he, hb⟩ => ⟨_, he, hb, .inl ⟨hl, rfl⟩⟩
theorem ds_pages {base d C : Nat} {s : Dk} (w : World) (h : DS w base d s C) :
    Calls Try.prog 22 #[.pointer (some ⟨d, 0, none⟩)] w fun e w' => e = .returned (.int .i64 s.pages) ∧ Below w.heap.size w w' := by
  obtain ⟨M, N, v, h, hc⟩ := h
  exact pages_calls w h
theorem ds_image {base d C : Nat} {s : Dk} (w : World) (h : DS w base d s C) :
    Calls Try.prog 21 #[.pointer (some ⟨d, 0, none⟩)] w fun e w' => ∃ v', e = .returned v' ∧ Kd.R (Kd.int .u8) 5 w' w.heap.size (fun _ => True) v' (imageP s s.pages.toNat) ∧ Below w.heap.size w w' := by
  obtain ⟨M, N, v, h, hc⟩ := h
  exact image_calls w h
end Go.Proofs.Ytehgbikleiaagaa.P
end
section
namespace Go.Proofs.Ytehgbikleiaagaa.P
open Go.RowKit Go.Proofs.YtehgbikleiaagaaW.PrintWords Go.Proofs.YtehgbikleiaagaaW.PrintLast Go.Proofs.YtehgbikleiaagaaW.PrintMore
attribute [local go_sem] max2_int min2_int max_two min_two max_three min_three max_four min_four
set_option linter.unusedVariables false
set_option linter.unusedSimpArgs false
def pgF (f : Int) : List Int := List.replicate 512 f
theorem u25p : Try.prog.underlying 25 = some (.pointer (Try.prog.pointee 25)) := by kernel_rfl
theorem guard_ptr (op : BinOp) (t : TypeId) (x y : Operand) (a b : Option Addr) (w : World) : (eqGuard op t x y (.pointer a) (.pointer b)).run Try.prog w = .ok () w := by cases op <;> rfl
theorem eql_ptr (p : Addr) (w : World) : (binOp .eql 25 (.pointer (some p)) (.pointer none)).run Try.prog w = .ok (.bool false) w := run_eql_pointer_nil w 25 (some p) u25p
theorem neq_ptr (p : Addr) (w : World) : (binOp .neq 25 (.pointer (some p)) (.pointer none)).run Try.prog w = .ok (.bool true) w := run_neq_pointer_nil w 25 (some p) u25p
attribute [local go_sem] guard_ptr eql_ptr neq_ptr
theorem pageP_fill (f : Int) : pageP f [] false = pgF f := rfl
theorem page_fill (fill : Int) (w : World) :
    Calls Try.prog 11 #[.agg #[.int .i64 0, .int .i64 0, .int .u8 fill, .slice none 0 0, .bool false, .slice none 0 0, .int .i64 0, .int .i64 0]] w fun e w' => ∃ v', e = .returned v' ∧ Kd.R (Kd.int .u8) 5 w' w.heap.size (fun _ => True) v' (pgF fill) ∧ Below w.heap.size w w' := by
  have h := page_one false 512 rfl 0 0 fill none 0 [] none 0 0 0 0 w (Kd.C_nil _ _)
  rw [pageP_fill] at h
  exact h
theorem ds_write0 {base d C : Nat} {s : Dk} (n : Int) (own : Value) (b : List Int) {b2 : Nat} {ok : Nat → Prop} (he : writeE s n b = 0) (w : World) (h : DS w base d s C) (hC : C < 1073741824) (ho : Kd.R (Kd.int .u8) 5 w b2 ok own b) :
    Calls Try.prog 12 #[.pointer (some ⟨d, 0, none⟩), .int .i64 n, own] w fun e w' => e = .returned (.int .i64 0) ∧ DS w' base d (writeD s n b) (C + 1) ∧ TF base w w' := by
  have := ds_write n own b w h hC ho
  rwa [he] at this
theorem ds_read0 {base d C : Nat} {s : Dk} (n : Int) (hl : lookP s n = 0) (b : List Int) (hb : hasP s n = b) (w : World) (h : DS w base d s C) :
    Calls Try.prog 15 #[.pointer (some ⟨d, 0, none⟩), .int .i64 n] w fun e w' => ∃ g, e = .returned (.tuple #[.slice (some ⟨g, 0, none⟩) 512 512, .int .i64 0]) ∧ Below w.heap.size w w' ∧ w'.heap[g]? = some (.cells (bvs b).toArray 67 (0, 0)) := by
  subst hb
  refine (ds_read n w h).mono ?_
  rintro e w' ⟨v, he, hbw, ⟨hn, _⟩ | ⟨_, g, _, rfl, hc⟩⟩
  · exact absurd hl hn
  · rw [hl] at he
    exact ⟨g, he, hbw, hc⟩
def wS1 : Dk := writeD (newS 4) 1 (pgF 1)
def wS2 : Dk := writeD wS1 1 (pgF 2)
def wS3 : Dk := writeD wS2 2 (pgF 3)
def wS4 : Dk := mendS wS3 [true] 2 1
theorem wE1 : writeE (newS 4) 1 (pgF 1) = 0 := by decide +kernel
theorem wE2 : writeE wS1 1 (pgF 2) = 0 := by decide +kernel
theorem wE3 : writeE wS2 2 (pgF 3) = 0 := by decide +kernel
theorem wL1 : lookP wS3 1 = 0 := by decide +kernel
theorem wL2 : lookP wS4 1 = 0 := by decide +kernel
theorem wL3 : lookP wS4 2 = 0 := by decide +kernel
theorem wR1 : (hasP wS3 1)[0]? = some 2 := by decide +kernel
theorem wR2 : (hasP wS4 1)[9]? = some 1 := by decide +kernel
theorem wR3 : (hasP wS4 2)[0]? = some 3 := by decide +kernel
theorem wR4 : (hasP wS4 2)[1]? = some 0 := by decide +kernel
theorem pg_cell {W : World} {g : Nat} {b : List Int} (h : W.heap[g]? = some (.cells (bvs b).toArray 67 (0, 0))) {i : Nat} {x : Int} (hx : b[i]? = some x) : W.cell? ⟨g, i, none⟩ = some (.int .u8 x) :=
  (blk_cell h i).trans (by simp [bvs, hx])
theorem c_bools {W : World} {g : Nat} {t : TypeId} {p : List Bool} (h : W.heap[g]? = some (.cells (p.map Value.bool).toArray t (0, 0))) (hl : p.length ≤ 9223372036854775807) : Kd.C Kd.bool W (some ⟨g, 0, none⟩) p.length p := by
  refine ⟨rfl, hl, fun _ => ⟨⟨g, 0, none⟩, rfl, fun j x hj => ⟨[.bool x], rfl, rfl, fun i u hi => ?_⟩⟩⟩
  cases i with
  | zero =>
    obtain rfl : Value.bool x = u := by simpa using hi
    show W.cell? ((⟨g, 0, none⟩ : Addr).add (j * 1 + 0)) = _
    rw [Addr.add_mid, Nat.zero_add, Nat.mul_one, Nat.add_zero]
    refine (blk_cell h j).trans ?_
    simp [hj]
  | succ i => simp at hi
theorem mend_w {base d C : Nat} {s : Dk} (w : World) (h : DS w base d s C) :
    Calls Try.prog 14 #[.pointer (some ⟨d, 0, none⟩), .slice (some ⟨w.heap.size, 0, none⟩) 1 1, .int .i64 2, .int .i64 1] (w.alloc (.cells #[.bool true] 4)) fun e w' => (∃ u, e = .returned u) ∧ DS w' base d (mendS s [true] 2 1) C ∧ TF base (w.alloc (.cells #[.bool true] 4)) w' :=
  ds_mend (some ⟨w.heap.size, 0, none⟩) 1 [true] 2 1 _ (h.step (below_alloc (Below.refl _ _) _)) (c_bools (p := [true]) (Deep.blk_alloc_new w _) (by decide))
set_option maxHeartbeats 4000000 in
set_option maxRecDepth 100000 in
theorem works_calls (w : World) : Calls Try.prog 9 #[] w fun e w' => e = .returned (.bool true) ∧ Below w.heap.size w w' := by
  have hn := ds_new 4 (by decide) (by decide) w
  obtain ⟨r1, h1⟩ : ∃ r1, r1 = hasP wS3 1 := ⟨_, rfl⟩
  obtain ⟨r2, h2⟩ : ∃ r2, r2 = hasP wS4 1 := ⟨_, rfl⟩
  obtain ⟨r3, h3⟩ : ∃ r3, r3 = hasP wS4 2 := ⟨_, rfl⟩
  have H1 := Aside0.mk h1
  have H2 := Aside0.mk h2
  have H3 := Aside0.mk h3
  clear h1 h2 h3
  go_enter Try.func9, Try.ntmps9
  go_upto_region 4 with (go_at_call 10; refine hn.mono ?_; rintro e w1 ⟨d, rfl, hs, hb⟩; have HS := Aside0.mk hs; have HB := Aside0.mk hb; clear hs hb hn)
  go_upto_region 5 with (first
    | (go_at_call 11; (with_reducible refine (page_fill 1 _).mono ?_); rintro e w2 ⟨v3, rfl, ho, hb⟩; have HO1 := Aside0.mk ho; have HS1 := Aside0.mk (HS.out.step hb); have HB1 := Aside0.mk (below_step HB.out hb); clear ho hb HS HB)
    | (go_at_call 11; (with_reducible refine (page_fill 2 _).mono ?_); rintro e w3 ⟨v4, rfl, ho, hb⟩; have HO2 := Aside0.mk ho; have HO1b := Aside0.mk (Kd.R_below HO1.out hb); have HS2 := Aside0.mk (HS1.out.step hb); have HB2 := Aside0.mk (below_step HB1.out hb); clear ho hb HS1 HB1 HO1)
    | (go_at_call 11; (with_reducible refine (page_fill 3 _).mono ?_); rintro e w4 ⟨v5, rfl, ho, hb⟩; have HO3 := Aside0.mk ho; have HO1c := Aside0.mk (Kd.R_below HO1b.out hb); have HO2c := Aside0.mk (Kd.R_below HO2.out hb); have HS3 := Aside0.mk (HS2.out.step hb); have HB3 := Aside0.mk (below_step HB2.out hb); clear ho hb HS2 HB2 HO1b HO2))
  go_upto_region 7 with (first
    | (go_at_call 12; (with_reducible refine (ds_write0 1 v3 (pgF 1) wE1 _ HS3.out (by decide) HO1c.out).mono ?_); rintro e w5 ⟨rfl, hs, ht⟩; have HS4 := Aside0.mk hs; have HO2d := Aside0.mk (R5_tf HO2c.out ht); have HO3d := Aside0.mk (R5_tf HO3.out ht); have HB4 := Aside0.mk (HB3.out.trans ht.b); clear hs ht HS3 HB3 HO2c HO3 HO1c)
    | (go_at_call 12; (with_reducible refine (ds_write0 1 v4 (pgF 2) wE2 _ HS4.out (by decide) HO2d.out).mono ?_); rintro e w6 ⟨rfl, hs, ht⟩; have HS5 := Aside0.mk hs; have HO3e := Aside0.mk (R5_tf HO3d.out ht); have HB5 := Aside0.mk (HB4.out.trans ht.b); clear hs ht HS4 HB4 HO2d HO3d)
    | (go_at_call 12; (with_reducible refine (ds_write0 2 v5 (pgF 3) wE3 _ HS5.out (by decide) HO3e.out).mono ?_); rintro e w7 ⟨rfl, hs, ht⟩; have HS6 := Aside0.mk hs; have HB6 := Aside0.mk (HB5.out.trans ht.b); clear hs ht HS5 HB5 HO3e))
  go_upto_region 8 with (go_at_call 15; (with_reducible refine (ds_read0 1 wL1 r1 H1.out.symm _ HS6.out).mono ?_); rintro e w8 ⟨g1, rfl, hb, hc⟩; have HS7 := Aside0.mk (HS6.out.step hb); have HB7 := Aside0.mk (below_step HB6.out hb); have HC1 := Aside0.mk hc; clear hb hc HS6 HB6)
  go_upto_region 9 with (go_at_call 14; (with_reducible refine (mend_w _ HS7.out).mono ?_); rintro e w9 ⟨⟨u, rfl⟩, hs, ht⟩; have HS8 := Aside0.mk hs; have HB8 := Aside0.mk ((below_alloc HB7.out (.cells #[.bool true] 4)).trans (ht.b)); have HC2 := Aside0.mk (ht.blk _ _ _ _ (blk_alloc HC1.out _) (by decide) (by decide)); clear hs ht HS7 HB7)
  go_upto_region 10 with (go_at_call 15; (with_reducible refine (ds_read0 1 wL2 r2 H2.out.symm _ HS8.out).mono ?_); rintro e w10 ⟨g2, rfl, hb, hc⟩; have HS9 := Aside0.mk (HS8.out.step hb); have HB9 := Aside0.mk (below_step HB8.out hb); have HC3 := Aside0.mk (blk_below HC2.out hb); have HC4 := Aside0.mk hc; clear hb hc HS8 HB8)
  go_upto_region 11 with (go_at_call 15; (with_reducible refine (ds_read0 2 wL3 r3 H3.out.symm _ HS9.out).mono ?_); rintro e w11 ⟨g3, rfl, hb, hc⟩; have HB10 := Aside0.mk (below_step HB9.out hb); have HC5 := Aside0.mk (blk_below HC3.out hb); have HC6 := Aside0.mk (blk_below HC4.out hb); have HC7 := Aside0.mk hc; clear hb hc HS9 HB9)
  have z1 := pg_cell HC5.out (i := 0) (x := 2) (by rw [H1.out]; exact wR1)
  have z2 := pg_cell HC6.out (i := 9) (x := 1) (by rw [H2.out]; exact wR2)
  have z3 := pg_cell HC7.out (i := 0) (x := 3) (by rw [H3.out]; exact wR3)
  have z4 := pg_cell HC7.out (i := 1) (x := 0) (by rw [H3.out]; exact wR4)
  go_wp2
  go_ret
  exact ⟨by simp, HB10.out⟩
end Go.Proofs.Ytehgbikleiaagaa.P
end
section
namespace Go.Proofs.Ytehgbikleiaagaa.P
open Go.RowKit Go.Proofs.YtehgbikleiaagaaW.PrintWords Go.Proofs.YtehgbikleiaagaaW.PrintLast Go.Proofs.YtehgbikleiaagaaW.PrintMore
set_option linter.unusedVariables false
set_option linter.unusedSimpArgs false
structure S32 where
  f0 : Int
  f1 : Int
  f2 : Int
  f3 : List Int
  f4 : Bool
  f5 : List Bool
  f6 : Int
  f7 : Int
end Go.Proofs.Ytehgbikleiaagaa.P
end
section
namespace Go.Proofs.Ytehgbikleiaagaa.P
open Go.RowKit Go.Proofs.YtehgbikleiaagaaW.PrintWords
def G30 (xs : List (Int)) : Prop := (∀ x ∈ xs, (Lit.int .u8 x).wf = true) ∧ xs.length * 1 ≤ 140737488351232
def m30 (xs : List (Int)) : Nat := (xs.map fun _ => 1).sum + 1
theorem open30 (fuel : Nat) : Opens.At Try.prog fuel (Kd.slice 5 (Kd.int .u8)) 30 G30 m30 :=
  Opens.slice_ Try.underlying30 (by kernel_rfl) (by kernel_rfl) (fun n _ => (Opens.int_ Try.underlying5))
end Go.Proofs.Ytehgbikleiaagaa.P
end
section
namespace Go.Proofs.Ytehgbikleiaagaa.P
open Go.RowKit Go.Proofs.YtehgbikleiaagaaW.PrintWords Go.Proofs.YtehgbikleiaagaaW.PrintLast Go.Proofs.YtehgbikleiaagaaW.PrintMore
set_option linter.unusedVariables false
set_option linter.unusedSimpArgs false
def modU (m : Int) (a : Int) : Int := wrap64 ((IntKind.u64.wrap a).tmod m)
theorem modU_range (m : Int) (h0 : 0 < m) (h1 : m ≤ 1000) (a : Int) : 0 ≤ modU m a ∧ modU m a < m := by
  have hu : 0 ≤ IntKind.u64.wrap a := by
    have := IntKind.wrap_u64 a
    rw [this]
    omega
  have ht : (IntKind.u64.wrap a).tmod m = (IntKind.u64.wrap a) % m := Int.tmod_eq_emod_of_nonneg hu
  have h2 := Int.emod_nonneg (IntKind.u64.wrap a) (show m ≠ 0 by omega)
  have h3 := Int.emod_lt_of_pos (IntKind.u64.wrap a) h0
  unfold modU
  rw [ht]
  unfold wrap64
  omega
theorem hasP_last {s : Dk} {n : Int} (h : ∀ x ∈ s.cache, x.1 ≠ n) : hasP s n = s.last n := by
  unfold hasP
  rw [List.find?_eq_none.2 (fun x hx => by simpa using h x (List.mem_reverse.1 hx))]
end Go.Proofs.Ytehgbikleiaagaa.P
end
section
namespace Go.Proofs.Ytehgbikleiaagaa.P
open Go.RowKit Go.Proofs.YtehgbikleiaagaaW.PrintWords Go.Proofs.YtehgbikleiaagaaW.PrintLast Go.Proofs.YtehgbikleiaagaaW.PrintMore
attribute [local go_sem] max2_int min2_int max_two min_two max_three min_three max_four min_four
attribute [local go_sem] guard_ptr eql_ptr neq_ptr
set_option linter.unusedVariables false
set_option linter.unusedSimpArgs false
end Go.Proofs.Ytehgbikleiaagaa.P
end
section
namespace Go.Proofs.Ytehgbikleiaagaa.P
open Go.RowKit Go.Proofs.YtehgbikleiaagaaW.PrintWords Go.Proofs.YtehgbikleiaagaaW.PrintLast Go.Proofs.YtehgbikleiaagaaW.PrintMore
set_option linter.unusedVariables false
set_option linter.unusedSimpArgs false
set_option maxRecDepth 4000
theorem hasP_load {b : List Int} {m j : Nat} (hj : j < m) : hasP (loadS b m) (j : Int) = imgP b j := by
  rw [hasP_last (fun x hx => by simp [loadS] at hx)]
  show lastL b m (j : Int) = _
  unfold lastL
  rw [if_pos ⟨by omega, by omega⟩, Int.toNat_natCast]
theorem image_load {b : List Int} {m : Nat} (hb : b.length = m * 512) : imageP (loadS b m) m = b := by
  have key : ∀ k, k ≤ m → imageP (loadS b m) k = b.take (k * 512) := by
    intro k
    induction k with
    | zero => intro _; simp [imageP]
    | succ k ih =>
      intro hk
      rw [imageP_succ, ih (by omega), hasP_load (by omega)]
      unfold imgP
      rw [Nat.succ_mul, List.take_add]
  rw [key m (Nat.le_refl _), ← hb, List.take_length]
theorem ds_image0 {base d C : Nat} {s : Dk} (m : Nat) (hm : s.pages = (m : Int)) (b : List Int) (hb : imageP s m = b) (L : Nat) (hL : m * 512 = L) (w : World) (h : DS w base d s C) :
    Calls Try.prog 21 #[.pointer (some ⟨d, 0, none⟩)] w fun e w' => ∃ g cap, e = .returned (.slice (some ⟨g, 0, none⟩) L cap) ∧ L ≤ cap ∧ Kd.R (Kd.int .u8) 5 w' w.heap.size (fun _ => True) (.slice (some ⟨g, 0, none⟩) L cap) b ∧ Below w.heap.size w w' := by
  subst hb hL
  have h1 := h.p1
  have hlen := imageP_len h.l512 (fun x hx => (h.c512 x hx).1) m
  refine (ds_image w h).mono ?_
  rintro e w' ⟨v, rfl, ho, hb⟩
  rw [hm, Int.toNat_natCast] at ho
  obtain ⟨g, cap, rfl, _, _, _⟩ := Kd.R_form ho (by rw [hlen]; omega)
  rw [hlen] at ho ⊢
  exact ⟨g, cap, rfl, (Kd.R_reads' ho).2.1, ho, hb⟩
theorem load_at (m : Nat) (L : Nat) (hL : m * 512 = L) (b : List Int) (hb : b.length = L) (h0 : 1 ≤ m) (h1 : m ≤ 4096) {g cap b2 : Nat} {ok : Nat → Prop} (w : World) (ho : Kd.R (Kd.int .u8) 5 w b2 ok (.slice (some ⟨g, 0, none⟩) L cap) b) :
    Calls Try.prog 19 #[.slice (some ⟨g, 0, none⟩) L cap] w fun e w' => ∃ d M, e = .returned (.tuple #[.pointer (some ⟨d, 0, none⟩), .int .i64 0]) ∧ DD w' w.heap.size d M m (.slice none 0 0) (loadS b m) ∧ Below w.heap.size w w' := by
  subst hL
  have hr : w.rangeAt g 0 (bvs b) := by
    rw [← hb] at ho
    exact row_range ho
  exact load_ok g cap m b hb h0 h1 (Kd.R_reads' ho).2.1 w (Kd.R_lt ho g rfl) hr
theorem row_string {W : World} {b2 L : Nat} {A : Option Addr} {cap : Nat} {ok : Nat → Prop} {b : List Int} (ho : Kd.R (Kd.int .u8) 5 W b2 ok (.slice A L cap) b) : (convert 30 9 (.slice A L cap)).run Try.prog W = .ok (.string (strOfNums b)) W := by
  obtain ⟨h1, h2, h3⟩ := Kd.R_reads' ho
  rw [h1]
  exact Kd.C_string Try.underlying30 Try.underlying5 Try.underlying9 h3
end Go.Proofs.Ytehgbikleiaagaa.P
end
section
namespace Go.Proofs.Ytehgbikleiaagaa.P
open Go.RowKit Go.Proofs.YtehgbikleiaagaaW.PrintWords Go.Proofs.YtehgbikleiaagaaW.PrintLast Go.Proofs.YtehgbikleiaagaaW.PrintMore
attribute [local go_sem] max2_int min2_int max_two min_two max_three min_three max_four min_four
set_option linter.unusedVariables false
set_option linter.unusedSimpArgs false
def badL (L : Nat) : Bool := decide (L % 512 ≠ 0 ∨ L / 512 < 1 ∨ 4096 < L / 512)
def badE (L : Nat) : Int := if badL L = true then 2 else 0
theorem load_any (b : List Int) {A : Option Addr} {cap b2 : Nat} {ok : Nat → Prop} (w : World) (ho : Kd.R (Kd.int .u8) 5 w b2 ok (.slice A b.length cap) b) :
    Calls Try.prog 19 #[.slice A b.length cap] w fun e w' => ∃ pd, e = .returned (.tuple #[.pointer pd, .int .i64 (badE b.length)]) ∧ pd.isNone = badL b.length ∧ Below w.heap.size w w' ∧
      (badL b.length = false → ∃ d, pd = some ⟨d, 0, none⟩ ∧ DS w' w.heap.size d (loadS b (b.length / 512)) (b.length / 512)) := by
  have hlen := (Kd.R_reads' ho).2.2.1
  by_cases h1 : b.length % 512 ≠ 0
  · have hb : badL b.length = true := decide_eq_true (.inl h1)
    unfold badE
    rw [hb]
    refine (load_rest A b.length cap h1 w).mono ?_
    rintro e w' ⟨rfl, hbw⟩
    exact ⟨none, rfl, rfl, hbw, fun h => by cases h⟩
  · have h0 : b.length = b.length / 512 * 512 := by omega
    by_cases h2 : b.length / 512 < 1 ∨ 4096 < b.length / 512
    · have hb : badL b.length = true := decide_eq_true (.inr h2)
      unfold badE
      rw [hb]
      have hL := (Kd.R_reads' ho).2.2.2.1
      have key := load_size A (b.length / 512) cap h2 (by omega) w
      rw [← h0] at key
      refine key.mono ?_
      rintro e w' ⟨rfl, hbw⟩
      exact ⟨none, rfl, rfl, hbw, fun h => by cases h⟩
    · have hb : badL b.length = false := decide_eq_false (by omega)
      unfold badE
      rw [hb]
      obtain ⟨g, cap', e, _, _, _⟩ := Kd.R_form ho (by omega)
      injection e with e1 e2 e3
      subst e1 e3
      refine (load_at (b.length / 512) b.length h0.symm b rfl (by omega) (by omega) w ho).mono ?_
      rintro e w' ⟨d, M, rfl, hd, hbw⟩
      exact ⟨some ⟨d, 0, none⟩, rfl, rfl, hbw, fun _ => ⟨d, rfl, M, _, _, hd, by simp [loadS]⟩⟩
theorem DS.setb {W : World} {base d C : Nat} {s : Dk} (h : DS W base d s C) {g : Nat} {cs : Array Value} {t : TypeId} {fr : Nat × Nat} (hb : W.heap[g]? = some (.cells cs t fr)) (h1 : t ≠ 64) (h2 : t ≠ 69) (i : Nat) (u : Value) : DS (W.setCell ⟨g, i, none⟩ u) base d s C := by
  obtain ⟨M, N, v, h, hc⟩ := h
  exact ⟨M, N, v, h.keep (Kp.set (S := fun k => k = g) W ⟨g, i, none⟩ u rfl) (fun k hk e => h.fd_typed hb h1 h2 (e ▸ hk)), hc⟩
theorem build30 (w : World) : (Instr.buildSlice 30 0 #[]).run Try.prog w = .ok (.slice (some ⟨w.heap.size, 0, none⟩) 0 0) (w.alloc (.cells #[] 5)) := by
  simp [Instr.buildSlice, Sem.run_bind, run_underlying Try.underlying30, size5, Instr.fill, newRow, Result.andThen]
  rw [show Array.range 0 = #[] by decide, List.map_toArray]
  rfl
theorem run_empty30 {ρ : Operand → Value} {op : Oper} (ho : op.op = .buildSlice 30 0 #[]) (w : World) : (execOp ρ op).run Try.prog w = .ok (.value (.slice (some ⟨w.heap.size, 0, none⟩) 0 0)) (w.alloc (.cells #[] 5)) := by
  unfold execOp
  simp only [ho, List.map_toArray, List.map_nil, Sem.run_bind, build30, Result.andThen_ok, Sem.run_pure]
end Go.Proofs.Ytehgbikleiaagaa.P
end
section
namespace Go.Proofs.Ytehgbikleiaagaa.P
open Go.RowKit Go.Proofs.YtehgbikleiaagaaW.PrintWords Go.Proofs.YtehgbikleiaagaaW.PrintLast Go.Proofs.YtehgbikleiaagaaW.PrintMore
attribute [local go_sem] max2_int min2_int max_two min_two max_three min_three max_four min_four
set_option linter.unusedVariables false
set_option linter.unusedSimpArgs false
set_option maxHeartbeats 4000000 in
set_option maxRecDepth 100000 in
theorem rload_any (b : List Int) (A : Option Addr) (cap : Nat) (hb : b.length ≤ 140737488351232) (w : World) (hr : Kd.C (Kd.int .u8) w A b.length b) :
    Calls Try.prog 20 #[.slice A b.length cap] w fun e w' => ∃ pd, e = .returned (.tuple #[.pointer pd, .int .i64 (badE b.length)]) ∧ pd.isNone = badL b.length ∧ Below w.heap.size w w' := by
  have HR := Aside0.mk hr
  have HL := Aside0.mk hb
  have HB := Aside0.mk (Below.refl w.heap.size w)
  obtain ⟨L, hL⟩ : ∃ L, L = b.length := ⟨_, rfl⟩
  have HLL := Aside0.mk hL
  rw [← hL]
  unfold badE
  clear hr hb
  by_cases h0 : L = 0
  · have hbad : badL L = true := decide_eq_true (by omega)
    rw [hbad]
    have t0 : ((L : Int) == 0) = true := by simp [h0]
    have t1 : decide ((L : Int) = 0) = true := by simp [h0]
    have t2 : (L == 0) = true := by simp [h0]
    have t3 : decide (L = 0) = true := by simp [h0]
    have t4 : (L = 0) = True := eq_true h0
    clear h0 hL
    go_enter Try.func20, Try.ntmps20
    go_wp2
    refine bodyPost_ret (results_tmp2 rfl _ _ _) rfl ?_
    exact ⟨none, rfl, rfl, HB.out⟩
  · have t0 : ((L : Int) == 0) = false := beq_eq_false_iff_ne.mpr (by omega)
    have t1 : decide ((L : Int) = 0) = false := decide_eq_false (by omega)
    have t2 : (L == 0) = false := beq_eq_false_iff_ne.mpr h0
    have t3 : decide (L = 0) = false := decide_eq_false h0
    have t4 : (L = 0) = False := eq_false h0
    by_cases h1 : L % 512 = 0
    · have u0 : ((L : Int) % 512 == 0) = true := beq_iff_eq.mpr (by omega)
      have u1 : ((L : Int) % 512 != 0) = false := by simp only [bne, u0]; rfl
      have u2 : decide ((L : Int) % 512 = 0) = true := decide_eq_true (by omega)
      have u3 : ((L : Int) % 512 = 0) = True := eq_true (by omega)
      by_cases h2 : 2097152 < L
      · have hbad : badL L = true := decide_eq_true (by omega)
        rw [hbad]
        have v0 : decide ((2097152 : Int) < (L : Int)) = true := decide_eq_true (by omega)
        have v1 : ((2097152 : Int) < (L : Int)) = True := eq_true (by omega)
        have v2 : decide ((L : Int) > 2097152) = true := decide_eq_true (by omega)
        have v3 : (2097152 < L) = True := eq_true h2
        clear h0 h1 h2 hL
        go_enter Try.func20, Try.ntmps20
        go_wp2
        refine bodyPost_ret (results_tmp2 rfl _ _ _) rfl ?_
        exact ⟨none, rfl, rfl, HB.out⟩
      · have hbad : badL L = false := decide_eq_false (by omega)
        rw [hbad]
        have v0 : decide ((2097152 : Int) < (L : Int)) = false := decide_eq_false (by omega)
        have v1 : ((2097152 : Int) < (L : Int)) = False := eq_false (by omega)
        have v2 : decide ((L : Int) > 2097152) = false := decide_eq_false (by omega)
        have v3 : (2097152 < L) = False := eq_false h2
        clear h0 h1 h2 hL
        go_enter Try.func20, Try.ntmps20
        go_upto_region 3 with fail
        go_wp2_with (first
          | ((with_reducible refine gate_dst (N := 18) rfl ?_); refine Kd.R_lit (Kd.int .u8) (w0 := w) w.heap.size 5 rfl (N := 18) rfl (xs := ([] : List Int)) (inner := []) (ok := fun _ => True) (okp := fun _ => False) (run_empty30 rfl _) ⟨rfl, fun j x hj => by simp at hj⟩ (fun _ h => h.elim) trivial HB.out (below_size HB.out) (by decide) ?_; intro v1 w1 ho hb hg hn; have HO := Aside0.mk ho; have HB1 := Aside0.mk hb; clear ho hb hg hn)
          | ((with_reducible refine gate_builtin (b := .append) (xs := #[.tmp 18, .tmp 19]) rfl ?_); at_builtin; refine Kd.R_append_rows (Kd.int .u8) (w0 := w) w.heap.size rfl (.tmp 18) (.tmp 19) 30 5 (.int .u8 0) 1 rfl Try.underlying30 info5 rfl (by decide) (by decide) v1 [] b A L cap (fun _ => True) (fun _ => False) rfl rfl HO.out ?aR (fun _ _ h => h) (fun _ h => h.elim) (fun _ _ => trivial) HB1.out (below_size HB1.out) ?aL ?_; (case aR => rw [HLL.out]; exact Kd.C_below HR.out HB1.out); (case aL => have := HLL.out; have := HL.out; simp; omega); intro v2 w2 ho hb hg hat; have HB2 := Aside0.mk hb; obtain ⟨A2, c2, e2⟩ := Kd.R_slice ho; subst e2; clear ho hb hg hat))
        refine bodyPost_ret (results_tmp2 rfl _ _ _) rfl ?_
        exact ⟨_, rfl, rfl, below_alloc HB2.out _⟩
    · have hbad : badL L = true := decide_eq_true (.inl h1)
      rw [hbad]
      have u0 : ((L : Int) % 512 == 0) = false := beq_eq_false_iff_ne.mpr (by omega)
      have u1 : ((L : Int) % 512 != 0) = true := by simp only [bne, u0]; rfl
      have u2 : decide ((L : Int) % 512 = 0) = false := decide_eq_false (by omega)
      have u3 : ((L : Int) % 512 = 0) = False := eq_false (by omega)
      clear h0 h1 hL
      go_enter Try.func20, Try.ntmps20
      go_wp2
      refine bodyPost_ret (results_tmp2 rfl _ _ _) rfl ?_
      exact ⟨none, rfl, rfl, HB.out⟩
end Go.Proofs.Ytehgbikleiaagaa.P
end
section
namespace Go.Proofs.Ytehgbikleiaagaa.P
open Go.RowKit Go.Proofs.YtehgbikleiaagaaW.PrintWords Go.Proofs.YtehgbikleiaagaaW.PrintLast Go.Proofs.YtehgbikleiaagaaW.PrintMore
attribute [local go_sem] max2_int min2_int max_two min_two max_three min_three max_four min_four
set_option linter.unusedVariables false
set_option linter.unusedSimpArgs false
theorem u45p : Try.prog.underlying 45 = some (.pointer (Try.prog.pointee 45)) := by kernel_rfl
theorem eql_ptr25 (p : Option Addr) (w : World) : (binOp .eql 25 (.pointer p) (.pointer none)).run Try.prog w = .ok (.bool p.isNone) w := run_eql_pointer_nil w 25 p u25p
theorem eql_ptr45 (p : Option Addr) (w : World) : (binOp .eql 45 (.pointer p) (.pointer none)).run Try.prog w = .ok (.bool p.isNone) w := run_eql_pointer_nil w 45 p u45p
theorem neq_ptr25 (p : Option Addr) (w : World) : (binOp .neq 25 (.pointer p) (.pointer none)).run Try.prog w = .ok (.bool (!p.isNone)) w := run_neq_pointer_nil w 25 p u25p
attribute [local go_sem] guard_ptr eql_ptr25 eql_ptr45 neq_ptr25
theorem exec_convert' {P : Program} {ρ : Operand → Value} {op : Oper} {w : World} {v : Value} (t1 t2 : TypeId) (x : Operand) (ho : op.op = .convert t1 t2 x) {vx : Value} (hx : ρ x = vx) (hv : (convert t1 t2 vx).run P w = .ok v w) : (execOp ρ op).run P w = .ok (.value v) w := by
  subst hx
  unfold execOp
  simp only [ho, Sem.run_bind, hv, Result.andThen_ok, Sem.run_pure]
theorem ds_pages_q {base d C : Nat} {s : Dk} (q : Nat) (hq : s.pages = (q : Int)) (w : World) (h : DS w base d s C) :
    Calls Try.prog 22 #[.pointer (some ⟨d, 0, none⟩)] w fun e w' => e = .returned (.int .i64 (q : Int)) ∧ Below w.heap.size w w' := by
  rw [← hq]
  exact ds_pages w h
def quarrylaw05_DiskLoads.f (l0 : List Int) (a1 a2 : Int) : Option Bool := if l0.length ≤ 140737488351232 then some true else none
set_option maxHeartbeats 8000000 in
set_option maxRecDepth 100000 in
theorem quarrylaw05_DiskLoads.calls (A0 : Option Addr) (c0 : Nat) (l0 : List Int) (a1 a2 : Int) (r : Bool) (w : World) (hr0 : Kd.C (Kd.int .u8) w A0 l0.length l0) (hc0 : l0.length ≤ c0) (h : quarrylaw05_DiskLoads.f l0 a1 a2 = some r) :
    Calls Try.prog 5 #[.slice A0 l0.length c0, .int .u8 a1, .int .i64 a2] w fun e w' => e = .returned (.bool r) ∧ Below w.heap.size w w' := by
  unfold quarrylaw05_DiskLoads.f at h
  have hsz : l0.length ≤ 140737488351232 := by
    by_cases hx : l0.length ≤ 140737488351232
    · exact hx
    · rw [if_neg hx] at h
      cases h
  rw [if_pos hsz] at h
  obtain rfl : true = r := Option.some.inj h
  have hwk := works_calls w
  have HR0 := Aside0.mk hr0
  have HSZ := Aside0.mk hsz
  obtain ⟨L, hL⟩ : ∃ L, L = l0.length := ⟨_, rfl⟩
  obtain ⟨E, hE⟩ : ∃ E, E = badE L := ⟨_, rfl⟩
  obtain ⟨bd, hbd⟩ : ∃ bd, bd = badL L := ⟨_, rfl⟩
  have HLL := Aside0.mk (And.intro hL (And.intro hE hbd))
  rw [← hL]
  clear hr0 hc0 h hsz hL hE hbd
  go_enter Try.func5, Try.ntmps5
  go_upto_region 3 with (go_at_call 9; (with_reducible refine hwk.mono ?_); rintro e w1 ⟨rfl, hb⟩; have HB := Aside0.mk hb; clear hb hwk)
  go_upto_region 4 with (first
    | ((with_reducible refine gate_dst (N := 19) rfl ?_); refine Kd.R_lit (Kd.int .u8) (w0 := w) w.heap.size 5 rfl (N := 19) rfl (xs := ([] : List Int)) (inner := []) (ok := fun _ => True) (okp := fun _ => False) (run_empty30 rfl _) ⟨rfl, fun j x hj => by simp at hj⟩ (fun _ h => h.elim) trivial HB.out (below_size HB.out) (by decide) ?_; intro v1 w2 ho hb hg hn; have HO := Aside0.mk ho; have HB1 := Aside0.mk hb; clear ho hb hg hn HB)
    | ((with_reducible refine gate_builtin (b := .append) (xs := #[.tmp 19, .tmp 20]) rfl ?_); at_builtin; refine Kd.R_append_rows (Kd.int .u8) (w0 := w) w.heap.size rfl (.tmp 19) (.tmp 20) 30 5 (.int .u8 0) 1 rfl Try.underlying30 info5 rfl (by decide) (by decide) v1 [] l0 A0 L c0 (fun _ => True) (fun _ => False) rfl rfl HO.out ?aR (fun _ _ h => h) (fun _ h => h.elim) (fun _ _ => trivial) HB1.out (below_size HB1.out) ?aL ?_; (case aR => rw [HLL.out.1]; exact Kd.C_below HR0.out HB1.out); (case aL => have := HLL.out.1; have := HSZ.out; simp; omega); intro v2 w3 ho hb hg hat; have HB2 := Aside0.mk hb; have HO2 := Aside0.mk (show Kd.R (Kd.int .u8) 5 w3 w.heap.size (fun _ => True) v2 l0 from ho); obtain ⟨A2, c2, e2⟩ := Kd.R_slice HO2.out; rw [← HLL.out.1] at e2; subst e2; clear ho hb hg hat HO HB1))
  have hla : ∀ W, Kd.R (Kd.int .u8) 5 W w.heap.size (fun _ => True) (.slice A2 L c2) l0 → Calls Try.prog 19 #[.slice A2 L c2] W fun e w' => ∃ pd, e = .returned (.tuple #[.pointer pd, .int .i64 E]) ∧ pd.isNone = bd ∧ Below W.heap.size W w' ∧ (bd = false → ∃ d, pd = some ⟨d, 0, none⟩ ∧ DS w' W.heap.size d (loadS l0 (L / 512)) (L / 512)) := by
    obtain ⟨rfl, rfl, rfl⟩ := HLL.out
    exact fun W ho => load_any l0 W ho
  have hlb : ∀ W, Kd.C (Kd.int .u8) W A0 L l0 → Calls Try.prog 20 #[.slice A0 L c0] W fun e w' => ∃ pd, e = .returned (.tuple #[.pointer pd, .int .i64 E]) ∧ pd.isNone = bd ∧ Below W.heap.size W w' := by
    obtain ⟨rfl, rfl, rfl⟩ := HLL.out
    exact fun W hr => rload_any l0 A0 c0 HSZ.out W hr
  have HC0 : Aside0 (Kd.C (Kd.int .u8) w A0 L l0) := ⟨by rw [HLL.out.1]; exact HR0.out⟩
  have HLA := Aside0.mk hla
  have HLB := Aside0.mk hlb
  clear hla hlb
  go_upto_region 8 with (first
    | (go_at_call 19; (with_reducible refine (HLA.out _ HO2.out).mono ?_); rintro e w4 ⟨pd, rfl, hpd, hb, hd⟩; have HD := Aside0.mk hd; have HO3 := Aside0.mk (Kd.R_below HO2.out hb); have HBs := Aside0.mk (below_size HB2.out); have HB3 := Aside0.mk (below_step HB2.out hb); clear hb hd HO2 HB2)
    | (go_at_call 20; (with_reducible refine (HLB.out _ (Kd.C_below HC0.out HB3.out)).mono ?_); rintro e w5 ⟨pr, rfl, hpr, hb⟩; have HDb := Aside0.mk hb; have HO4 := Aside0.mk (Kd.R_below HO3.out hb); have HB4 := Aside0.mk (below_step HB3.out hb); clear hb HO3 HB3))
  rename_i K hK K2 hK2
  have fin : ∀ (y3 y4 y5 y6 y7 y8 y9 y10 y11 y12 y13 y14 y15 y16 y17 y18 y19 y20 y21 y22 y23 y24 y25 y26 y27 y28 y29 y30 y31 y32 y33 y34 y35 y36 y37 y38 y39 y40 y41 y42 y43 y44 y45 y46 y47 y48 y49 y50 y51 y52 y53 y54 y55 y56 y57 y58 y59 y60 y61 : Value) (W : World), Below w.heap.size w W → K ⟨#[.slice A0 L c0, .int .u8 a1, .int .i64 a2, y3, y4, y5, y6, y7, y8, y9, y10, y11, y12, y13, y14, y15, y16, y17, y18, y19, y20, y21, y22, y23, y24, y25, y26, y27, y28, y29, y30, y31, y32, y33, y34, y35, y36, y37, y38, y39, y40, y41, y42, y43, y44, y45, y46, y47, y48, y49, y50, y51, y52, y53, y54, y55, y56, y57, y58, y59, y60, y61, undef, undef, undef, undef, undef, undef, undef, undef, undef, undef, undef, undef, undef, undef, undef, undef, undef, undef, undef, undef, undef, undef, undef, undef, undef, undef, undef, undef, undef, undef, undef, undef, undef, undef, undef, undef, undef, undef, undef, undef, undef, undef, undef], []⟩ W := by
    intro y3 y4 y5 y6 y7 y8 y9 y10 y11 y12 y13 y14 y15 y16 y17 y18 y19 y20 y21 y22 y23 y24 y25 y26 y27 y28 y29 y30 y31 y32 y33 y34 y35 y36 y37 y38 y39 y40 y41 y42 y43 y44 y45 y46 y47 y48 y49 y50 y51 y52 y53 y54 y55 y56 y57 y58 y59 y60 y61 W hbW
    refine hK _ _ ?_
    have HBW := Aside0.mk hbW
    clear hK hK2 hbW HD HDb HO4 HBs HB4
    have hm6 := modU_range 6 (by decide) (by decide) a2
    obtain ⟨q, hq⟩ : ∃ q : Nat, (q : Int) = 1 + modU 6 a2 := ⟨(1 + modU 6 a2).toNat, by omega⟩
    have hq2 : wrap64 (1 + wrap64 ((IntKind.u64.wrap a2).tmod 6)) = (q : Int) := by
      show wrap64 (1 + modU 6 a2) = _
      rw [← hq]
      unfold wrap64
      omega
    have HQ : Aside0 (1 ≤ q ∧ q ≤ 6) := ⟨by omega⟩
    have w5_ : wrap64 ((q : Int) * 512) = (q : Int) * 512 := by unfold wrap64; omega
    clear hm6 hq
    go_upto_region 16 with fail
    rw [hq2]
    clear hq2
    go_upto_region 17 with ((with_reducible refine gate_dst (N := 69) rfl ?_); refine Kd.R_make (Kd.int .u8) (w0 := w) w.heap.size 5 rfl (N := 69) rfl 30 _ _ rfl (wrap64 ((q : Int) * 512)) rfl rfl Try.underlying30 (.int .u8 0) 1 info5 rfl (by decide) (by decide) 0 (ok := fun _ => True) (okp := fun _ => False) rfl (fun _ h => h.elim) trivial (by rw [w5_]; omega) (by rw [w5_]; have := HQ.out; omega) HBW.out (below_size HBW.out) ?_; intro v9 w9 ho hb hg hn; have HO5 := Aside0.mk ho; have HB5 := Aside0.mk hb; clear ho hb hg hn)
    obtain ⟨L6, hL6⟩ : ∃ L6 : Nat, L6 = q * 512 := ⟨_, rfl⟩
    have hto : (wrap64 ((q : Int) * 512)).toNat = L6 := by rw [w5_]; omega
    have HL6 := Aside0.mk (And.intro hL6 hto)
    have hfo := HO5.out
    rw [hto] at hfo
    obtain ⟨g, cap, e9, _, _, _⟩ := Kd.R_form hfo (by rw [List.length_replicate]; have := HQ.out; omega)
    rw [List.length_replicate] at e9
    subst e9
    have HP := Aside0.mk hfo
    clear hfo hto hL6 HO5 w5_
    go_wp2_with fail
    go_loopw [14] (fun v14 wr => ∃ (k : Nat) (xs : List Int), v14 = .int .i64 (k : Int) ∧ k ≤ L6 ∧ Aside0 (Kd.R (Kd.int .u8) 5 wr w.heap.size (fun _ => True) (.slice (some ⟨g, 0, none⟩) L6 cap) xs ∧ xs.length = L6 ∧ ∀ j, j < k → xs[j]? = some a1) ∧ Aside0 (Below w.heap.size w wr)) (fun v14 _ => L6 - (intOf v14).toNat)
    case atStart => exact ⟨0, _, rfl, Nat.zero_le _, ⟨HP.out, List.length_replicate, fun j hj => absurd hj (Nat.not_lt_zero j)⟩, HB5⟩
    case round =>
      clear HP HB5
      obtain ⟨k, xs, rfl, hk, HP, HB⟩ := hrel
      by_cases hlt : k < L6
      · have hck := Kd.R_celln 0 HP.out.1 (k : Int) (by omega) (by omega)
        rw [Int.toNat_natCast] at hck
        obtain ⟨y, hy⟩ : ∃ y, y = rdOf 0 xs (k : Int) := ⟨_, rfl⟩
        rw [← hy] at hck
        obtain ⟨cg, fg⟩ := hck
        have HE : Aside0 (Kd.R (Kd.int .u8) 5 (wr.setCell ⟨g, k, none⟩ (.int .u8 a1)) w.heap.size (fun _ => True) (.slice (some ⟨g, 0, none⟩) L6 cap) (xs.set k a1) ∧ (xs.set k a1).length = L6 ∧ ∀ j, j < k + 1 → (xs.set k a1)[j]? = some a1) := ⟨by have := Kd.R_putn HP.out.1 (k : Int) a1; rw [Int.toNat_natCast] at this; exact this, by rw [List.length_set]; exact HP.out.2.1, fun j hj => by
          by_cases e : k = j
          · subst e
            exact List.getElem?_set_self (by have := HP.out.2.1; omega)
          · rw [List.getElem?_set_ne e]
            exact HP.out.2.2 j (by omega)⟩
        have HBE : Aside0 (Below w.heap.size w (wr.setCell ⟨g, k, none⟩ (.int .u8 a1))) := ⟨below_set HB.out (Kd.R_base HP.out.1 g rfl)⟩
        have HK := Aside0.mk hlt
        have b0 : decide (k < L6) = true := decide_eq_true hlt
        have b1 : decide ((k : Int) < (L6 : Int)) = true := decide_eq_true (by omega)
        have b2 : (k < L6) = True := eq_true hlt
        have b3 : ((k : Int) < (L6 : Int)) = True := eq_true (by omega)
        have w2_ : wrap64 ((k : Int) + 1) = (k : Int) + 1 := by unfold wrap64; have := HL6.out.1; have := HQ.out; omega
        clear hy hlt hk
        go_wp2
        go_roundw
        case rel => exact ⟨k + 1, _, by go_num, HK.out, HE, HBE⟩
        case measure => exact meas_lt HK.out (by go_num)
      · have hke : k = L6 := by omega
        subst hke
        have b0 : decide (k < k) = false := decide_eq_false (by omega)
        have b1 : decide ((k : Int) < (k : Int)) = false := decide_eq_false (by omega)
        have hx : xs = List.replicate k a1 := List.eq_replicate_iff.2 ⟨HP.out.2.1, fun y hy => by
          obtain ⟨j, hj, rfl⟩ := List.mem_iff_getElem.1 hy
          have := HP.out.2.2 j (by have := HP.out.2.1; omega)
          rw [List.getElem?_eq_getElem hj] at this
          exact Option.some.inj this⟩
        have hxl := HP.out.2.1
        have HO6 := Aside0.mk HP.out.1
        have HXL := Aside0.mk hxl
        clear hlt hk hx hxl HP
        go_upto_region 22 with (go_at_call 19; (with_reducible refine (load_at q k HL6.out.1.symm xs HXL.out HQ.out.1 (Nat.le_trans HQ.out.2 (by decide)) _ HO6.out).mono ?_); rintro e w6 ⟨dx, Mx, rfl, hd, hb⟩; have HX := Aside0.mk (show DS w6 wr.heap.size dx (loadS xs q) q from ⟨Mx, q, _, hd, by simp [loadS]⟩); have HO7 := Aside0.mk (Kd.R_below HO6.out hb); have HB2 := Aside0.mk (below_step HB.out hb); clear hd hb HO6 HB)
        obtain ⟨sI, hsI⟩ : ∃ sI, sI = strOfNums xs := ⟨_, rfl⟩
        have HSI := Aside0.mk hsI
        have cI : Aside0 ((convert 30 9 (.slice (some ⟨g, 0, none⟩) k cap)).run Try.prog w6.drew = .ok (.string sI) w6.drew) := ⟨by rw [hsI]; exact row_string (Kd.R_drew HO7.out)⟩
        have EX : Aside0 (imageP (loadS xs q) q = xs) := ⟨image_load (HXL.out.trans HL6.out.1)⟩
        have HX3 := Aside0.mk (DS.step HX.out (below_drew1 (Below.refl _ _)))
        clear hsI
        refine start_ (n := 21) (S := fun w' => (convert 30 9 (.slice (some ⟨g, 0, none⟩) k cap)).run Try.prog w' = .ok (.string sI) w') (ds := []) #[false, false, false, false, false, false, false, false, false, false, false, false, false, false, false, false, false, false, false, false, false] (by kernel_rfl) rfl rfl (cI.out) (fun hHeld => ?_)
        refine pure_ (i := 0) (N := some 85) (v := ?_) (a' := ?_) #[true, false, false, false, false, false, false, false, false, false, false, false, false, false, false, false, false, false, false, false, false] rfl rfl (by kernel_rfl) (fun _ _ _ h => h) (Or.inl ⟨by rfl, ?_⟩) ?_ ?_
        rotate_left
        · intro w'
          go_simp
          with_reducible rfl
        rotate_left
        · simp only [Act.put, List.setIfInBounds_toArray, List.set_cons_zero, List.set_cons_succ, i64_w, i32_w]
          rfl
        refine pure_ (i := 1) (N := some 86) (v := ?_) (a' := ?_) #[true, true, false, false, false, false, false, false, false, false, false, false, false, false, false, false, false, false, false, false, false] rfl rfl (by kernel_rfl) (fun _ _ _ h => h) (Or.inl ⟨by rfl, ?_⟩) ?_ ?_
        rotate_left
        · intro w'
          go_simp
          with_reducible rfl
        rotate_left
        · simp only [Act.put, List.setIfInBounds_toArray, List.set_cons_zero, List.set_cons_succ, i64_w, i32_w]
          rfl
        refine pure_ (i := 2) (N := some 87) (v := ?_) (a' := ?_) #[true, true, true, false, false, false, false, false, false, false, false, false, false, false, false, false, false, false, false, false, false] rfl rfl (by kernel_rfl) (fun _ _ _ h => h) (Or.inl ⟨by rfl, ?_⟩) ?_ ?_
        rotate_left
        · intro w'
          go_simp
          with_reducible rfl
        rotate_left
        · simp only [Act.put, List.setIfInBounds_toArray, List.set_cons_zero, List.set_cons_succ, i64_w, i32_w]
          rfl
        refine pure_ (i := 3) (N := some 88) (v := ?_) (a' := ?_) #[true, true, true, true, false, false, false, false, false, false, false, false, false, false, false, false, false, false, false, false, false] rfl rfl (by kernel_rfl) (fun _ _ _ h => h) (Or.inl ⟨by rfl, ?_⟩) ?_ ?_
        rotate_left
        · intro w'
          go_simp
          with_reducible rfl
        rotate_left
        · simp only [Act.put, List.setIfInBounds_toArray, List.set_cons_zero, List.set_cons_succ, i64_w, i32_w]
          rfl
        refine pure_ (i := 4) (N := some 89) (v := ?_) (a' := ?_) #[true, true, true, true, true, false, false, false, false, false, false, false, false, false, false, false, false, false, false, false, false] rfl rfl (by kernel_rfl) (fun _ _ _ h => h) (Or.inl ⟨by rfl, ?_⟩) ?_ ?_
        rotate_left
        · intro w'
          go_simp
          with_reducible rfl
        rotate_left
        · simp only [Act.put, List.setIfInBounds_toArray, List.set_cons_zero, List.set_cons_succ, i64_w, i32_w]
          rfl
        refine pure_ (i := 5) (N := some 90) (v := ?_) (a' := ?_) #[true, true, true, true, true, true, false, false, false, false, false, false, false, false, false, false, false, false, false, false, false] rfl rfl (by kernel_rfl) (fun _ _ _ h => h) (Or.inl ⟨by rfl, ?_⟩) ?_ ?_
        rotate_left
        · intro w'
          go_simp
          with_reducible rfl
        rotate_left
        · simp only [Act.put, List.setIfInBounds_toArray, List.set_cons_zero, List.set_cons_succ, i64_w, i32_w]
          rfl
        refine pure_ (i := 6) (N := some 91) (v := ?_) (a' := ?_) #[true, true, true, true, true, true, true, false, false, false, false, false, false, false, false, false, false, false, false, false, false] rfl rfl (by kernel_rfl) (fun _ _ _ h => h) (Or.inl ⟨by rfl, ?_⟩) ?_ ?_
        rotate_left
        · intro w'
          go_simp
          with_reducible rfl
        rotate_left
        · simp only [Act.put, List.setIfInBounds_toArray, List.set_cons_zero, List.set_cons_succ, i64_w, i32_w]
          rfl
        refine pure_ (i := 7) (N := some 92) (v := ?_) (a' := ?_) #[true, true, true, true, true, true, true, true, false, false, false, false, false, false, false, false, false, false, false, false, false] rfl rfl (by kernel_rfl) (fun _ _ _ h => h) (Or.inl ⟨by rfl, ?_⟩) ?_ ?_
        rotate_left
        · intro w'
          go_simp
          with_reducible rfl
        rotate_left
        · simp only [Act.put, List.setIfInBounds_toArray, List.set_cons_zero, List.set_cons_succ, i64_w, i32_w]
          rfl
        refine pure_ (i := 9) (N := some 94) (v := ?_) (a' := ?_) #[true, true, true, true, true, true, true, true, false, true, false, false, false, false, false, false, false, false, false, false, false] rfl rfl (by kernel_rfl) (fun _ _ _ h => h) (Or.inl ⟨by rfl, ?_⟩) ?_ ?_
        rotate_left
        · intro w'
          go_simp
          with_reducible rfl
        rotate_left
        · simp only [Act.put, List.setIfInBounds_toArray, List.set_cons_zero, List.set_cons_succ, i64_w, i32_w]
          rfl
        refine one_ (i := 8) (N := some 93) #[true, true, true, true, true, true, true, true, true, true, false, false, false, false, false, false, false, false, false, false, false] rfl rfl (by kernel_rfl) (by decide) (fun K hK => ?_)
        refine goes_ Try.func22 (by kernel_rfl) rfl #[.pointer (some ⟨dx, 0, none⟩)] (by rfl) rfl rfl (by simp only [List.map_toArray, List.map_cons, List.map_nil]; rfl) ?_
        with_reducible refine (ds_pages_q q (show (loadS xs q).pages = (q : Int) from rfl) _ HX3.out).mono ?_
        rintro e w8 ⟨rfl, hb0⟩
        refine ⟨_, rfl, ?_⟩
        have hb := Below.of_drew w6 hb0
        have HX4 := Aside0.mk (HX.out.step hb)
        have HO8 := Aside0.mk (Kd.R_below HO7.out hb)
        have HB3 := Aside0.mk (below_step HB2.out hb)
        clear hb hb0
        have cI8 : (convert 30 9 (.slice (some ⟨g, 0, none⟩) k cap)).run Try.prog w8 = .ok (.string sI) w8 := by rw [HSI.out]; exact row_string HO8.out
        refine hK.out _ _ (cI8) (fun hHeld => ?_)
        clear hK K
        refine norm_ (a' := ?_) ?_ ?_
        rotate_left
        · show Act.put _ (some 93) _ = _
          simp only [Act.put, List.setIfInBounds_toArray, List.set_cons_zero, List.set_cons_succ, i64_w, i32_w]
          rfl
        refine pure_ (i := 10) (N := some 95) (v := ?_) (a' := ?_) #[true, true, true, true, true, true, true, true, true, true, true, false, false, false, false, false, false, false, false, false, false] rfl rfl (by kernel_rfl) (fun _ _ _ h => h) (Or.inl ⟨by rfl, ?_⟩) ?_ ?_
        rotate_left
        · intro w'
          go_simp
          with_reducible rfl
        rotate_left
        · simp only [Act.put, List.setIfInBounds_toArray, List.set_cons_zero, List.set_cons_succ, i64_w, i32_w]
          rfl
        refine pure_ (i := 11) (N := some 96) (v := ?_) (a' := ?_) #[true, true, true, true, true, true, true, true, true, true, true, true, false, false, false, false, false, false, false, false, false] rfl rfl (by kernel_rfl) (fun _ _ _ h => h) (Or.inl ⟨by rfl, ?_⟩) ?_ ?_
        rotate_left
        · intro w'
          go_simp
          with_reducible rfl
        rotate_left
        · simp only [Act.put, List.setIfInBounds_toArray, List.set_cons_zero, List.set_cons_succ, i64_w, i32_w]
          rfl
        refine pure_ (i := 12) (N := some 97) (v := ?_) (a' := ?_) #[true, true, true, true, true, true, true, true, true, true, true, true, true, false, false, false, false, false, false, false, false] rfl rfl (by kernel_rfl) (fun _ _ _ h => h) (Or.inl ⟨by rfl, ?_⟩) ?_ ?_
        rotate_left
        · intro w'
          go_simp
          with_reducible rfl
        rotate_left
        · simp only [Act.put, List.setIfInBounds_toArray, List.set_cons_zero, List.set_cons_succ, i64_w, i32_w]
          rfl
        refine pure_ (i := 13) (N := some 98) (v := ?_) (a' := ?_) #[true, true, true, true, true, true, true, true, true, true, true, true, true, true, false, false, false, false, false, false, false] rfl rfl (by kernel_rfl) (fun _ _ _ h => h) (Or.inl ⟨by rfl, ?_⟩) ?_ ?_
        rotate_left
        · intro w'
          go_simp
          with_reducible rfl
        rotate_left
        · simp only [Act.put, List.setIfInBounds_toArray, List.set_cons_zero, List.set_cons_succ, i64_w, i32_w]
          rfl
        refine pure_ (i := 16) (N := some 101) (v := ?_) (a' := ?_) #[true, true, true, true, true, true, true, true, true, true, true, true, true, true, false, false, true, false, false, false, false] rfl rfl (by kernel_rfl) (fun _ _ _ h => h) (Or.inl ⟨by rfl, ?_⟩) ?_ ?_
        rotate_left
        · intro w'
          go_simp
          with_reducible rfl
        rotate_left
        · simp only [Act.put, List.setIfInBounds_toArray, List.set_cons_zero, List.set_cons_succ, i64_w, i32_w]
          rfl
        refine take_ (i := 17) (N := some 102) (v := ?_) (a' := ?_) #[true, true, true, true, true, true, true, true, true, true, true, true, true, true, false, false, true, true, false, false, false] rfl rfl (by kernel_rfl) (fun _ _ _ h => h) (Or.inl ⟨by rfl, ?_⟩) hHeld ?_ ?_
        rotate_left
        · intro w' s0
          go_simp
          with_reducible rfl
        rotate_left
        · simp only [Act.put, List.setIfInBounds_toArray, List.set_cons_zero, List.set_cons_succ, i64_w, i32_w]
          rfl
        refine one_ (i := 14) (N := some 99) #[true, true, true, true, true, true, true, true, true, true, true, true, true, true, true, false, true, true, false, false, false] rfl rfl (by kernel_rfl) (by decide) (fun K hK => ?_)
        clear cI8
        refine goes_ Try.func21 (by kernel_rfl) rfl #[.pointer (some ⟨dx, 0, none⟩)] (by rfl) rfl rfl (by simp only [List.map_toArray, List.map_cons, List.map_nil]; rfl) ?_
        with_reducible refine (ds_image0 q (show (loadS xs q).pages = (q : Int) from rfl) xs EX.out k HL6.out.1.symm _ HX4.out).mono ?_
        rintro e w9 ⟨gx, cx, rfl, _, ho, hb⟩
        refine ⟨_, rfl, ?_⟩
        have HOX := Aside0.mk ho
        have HO9 := Aside0.mk (Kd.R_below HO8.out hb)
        have HB4 := Aside0.mk (below_step HB3.out hb)
        clear ho hb
        have cX : (convert 30 9 (.slice (some ⟨gx, 0, none⟩) k cx)).run Try.prog w9 = .ok (.string sI) w9 := by rw [HSI.out]; exact row_string HOX.out
        have cI9 : (convert 30 9 (.slice (some ⟨g, 0, none⟩) k cap)).run Try.prog w9 = .ok (.string sI) w9 := by rw [HSI.out]; exact row_string HO9.out
        refine hK.out _ _ (cI9) (fun hHeld => ?_)
        clear hK K
        refine norm_ (a' := ?_) ?_ ?_
        rotate_left
        · show Act.put _ (some 99) _ = _
          simp only [Act.put, List.setIfInBounds_toArray, List.set_cons_zero, List.set_cons_succ, i64_w, i32_w]
          rfl
        refine one_ (i := 15) (N := some 100) #[true, true, true, true, true, true, true, true, true, true, true, true, true, true, true, true, true, true, false, false, false] rfl rfl (by kernel_rfl) (by decide) (fun K hK => ?_)
        refine value_ (w1 := w9) (v := .string sI) (by rfl) rfl (exec_convert' 30 9 (.tmp 99) rfl (by rfl) cX) ?_
        refine hK.out _ _ (cI9) (fun hHeld => ?_)
        clear hK K
        refine norm_ (a' := ?_) ?_ ?_
        rotate_left
        · show Act.put _ (some 100) _ = _
          simp only [Act.put, List.setIfInBounds_toArray, List.set_cons_zero, List.set_cons_succ, i64_w, i32_w]
          rfl
        refine pure_ (i := 18) (N := some 103) (v := ?_) (a' := ?_) #[true, true, true, true, true, true, true, true, true, true, true, true, true, true, true, true, true, true, true, false, false] rfl rfl (by kernel_rfl) (fun _ _ _ h => h) (Or.inl ⟨by rfl, ?_⟩) ?_ ?_
        rotate_left
        · intro w'
          go_simp
          with_reducible rfl
        rotate_left
        · simp only [Act.put, List.setIfInBounds_toArray, List.set_cons_zero, List.set_cons_succ, i64_w, i32_w]
          rfl
        refine pure_ (i := 19) (N := some 104) (v := ?_) (a' := ?_) #[true, true, true, true, true, true, true, true, true, true, true, true, true, true, true, true, true, true, true, true, false] rfl rfl (by kernel_rfl) (fun _ _ _ h => h) (Or.inl ⟨by rfl, ?_⟩) ?_ ?_
        rotate_left
        · intro w'
          go_simp
          with_reducible rfl
        rotate_left
        · simp only [Act.put, List.setIfInBounds_toArray, List.set_cons_zero, List.set_cons_succ, i64_w, i32_w]
          rfl
        refine pure_ (i := 20) (N := some 6) (v := ?_) (a' := ?_) #[true, true, true, true, true, true, true, true, true, true, true, true, true, true, true, true, true, true, true, true, true] rfl rfl (by kernel_rfl) (fun _ _ _ h => h) (Or.inl ⟨by rfl, ?_⟩) ?_ ?_
        rotate_left
        · intro w'
          go_simp
          with_reducible rfl
        rotate_left
        · simp only [Act.put, List.setIfInBounds_toArray, List.set_cons_zero, List.set_cons_succ, i64_w, i32_w]
          rfl
        refine done_ (by kernel_rfl) ?_
        go_wp2_with fail
        go_ret
        exact ⟨by simp, HB4.out⟩
  have FIN := Aside0.mk fin
  clear hK fin
  cases hb : bd with
  | true =>
    subst hb
    go_wp2_with fail
    exact FIN.out _ _ _ _ _ _ _ _ _ _ _ _ _ _ _ _ _ _ _ _ _ _ _ _ _ _ _ _ _ _ _ _ _ _ _ _ _ _ _ _ _ _ _ _ _ _ _ _ _ _ _ _ _ _ _ _ _ _ _ _ HB4.out
  | false =>
    subst hb
    obtain ⟨d, hpd2, hds⟩ := HD.out rfl
    subst hpd2
    have HS := Aside0.mk (hds.step HDb.out)
    clear hds HD HDb hpd hpr
    by_cases hL0 : L = 0
    · exfalso
      have := HLL.out.2.2
      rw [hL0] at this
      exact absurd this (by decide)
    · have hbadf := HLL.out.2.2
      unfold badL at hbadf
      have hbf := of_decide_eq_false hbadf.symm
      have HM : Aside0 (L / 512 * 512 = L) := ⟨by omega⟩
      have HLS : Aside0 (L ≤ 2097152) := ⟨by omega⟩
      obtain ⟨g, cap, e9, _, _, _⟩ := Kd.R_form HO4.out (by rw [← HLL.out.1]; omega)
      injection e9 with e1 e2 e3
      subst e1 e3
      clear e2 hL0 hbadf hbf
      go_wp2_with fail
      go_loopw [12] (fun v12 wr => ∃ (k : Nat) (xs : List Int), v12 = .int .i64 (k : Int) ∧ k ≤ L ∧ Aside0 (Kd.R (Kd.int .u8) 5 wr w.heap.size (fun _ => True) (.slice (some ⟨g, 0, none⟩) L c2) xs) ∧ Aside0 (DS wr w3.heap.size d (loadS l0 (L / 512)) (L / 512)) ∧ Aside0 (Below w.heap.size w wr)) (fun v12 _ => L - (intOf v12).toNat)
      case atStart => exact ⟨0, _, rfl, Nat.zero_le _, HO4, HS, HB4⟩
      case round =>
        clear HO4 HS HB4
        obtain ⟨k, xs, rfl, hk, HP, HS, HB⟩ := hrel
        by_cases hlt : k < L
        · have hck := Kd.R_celln 0 HP.out (k : Int) (by omega) (by omega)
          rw [Int.toNat_natCast] at hck
          obtain ⟨y, hy⟩ : ∃ y, y = rdOf 0 xs (k : Int) := ⟨_, rfl⟩
          rw [← hy] at hck
          obtain ⟨cg, fg⟩ := hck
          obtain ⟨cells, hcl⟩ := Kd.R_typed HP.out g rfl
          have HE : Aside0 (∀ z, Kd.R (Kd.int .u8) 5 (wr.setCell ⟨g, k, none⟩ (.int .u8 z)) w.heap.size (fun _ => True) (.slice (some ⟨g, 0, none⟩) L c2) (xs.set k z) ∧ DS (wr.setCell ⟨g, k, none⟩ (.int .u8 z)) w3.heap.size d (loadS l0 (L / 512)) (L / 512) ∧ Below w.heap.size w (wr.setCell ⟨g, k, none⟩ (.int .u8 z))) := ⟨fun z => ⟨by have := Kd.R_putn HP.out (k : Int) z; rw [Int.toNat_natCast] at this; exact this, HS.out.setb hcl (by decide) (by decide) k _, below_set HB.out (Kd.R_base HP.out g rfl)⟩⟩
          have HK := Aside0.mk hlt
          have b0 : decide (k < L) = true := decide_eq_true hlt
          have b1 : decide ((k : Int) < (L : Int)) = true := decide_eq_true (by omega)
          have b2 : (k < L) = True := eq_true hlt
          have b3 : ((k : Int) < (L : Int)) = True := eq_true (by omega)
          have w2_ : wrap64 ((k : Int) + 1) = (k : Int) + 1 := by unfold wrap64; have := HLS.out; omega
          clear hy hlt hk hcl
          go_wp2
          go_roundw
          case rel => exact ⟨k + 1, _, by go_num, HK.out, ⟨(HE.out _).1⟩, ⟨(HE.out _).2.1⟩, ⟨(HE.out _).2.2⟩⟩
          case measure => exact meas_lt HK.out (by go_num)
        · have hke : k = L := by omega
          subst hke
          have b0 : decide (k < k) = false := decide_eq_false (by omega)
          have b1 : decide ((k : Int) < (k : Int)) = false := decide_eq_false (by omega)
          clear hlt hk
          go_upto_region 13 with fail
          obtain ⟨s0, hs0⟩ : ∃ s0, s0 = strOfNums l0 := ⟨_, rfl⟩
          have HS0 := Aside0.mk hs0
          have cI : Aside0 ((convert 30 9 (.slice A0 k c0)).run Try.prog wr.drew = .ok (.string s0) wr.drew) := ⟨by rw [hs0]; exact Kd.C_string Try.underlying30 Try.underlying5 Try.underlying9 (Kd.C_drew (Kd.C_below HC0.out HB.out))⟩
          have EX : Aside0 (imageP (loadS l0 (k / 512)) (k / 512) = l0) := ⟨image_load (by rw [← HLL.out.1]; exact HM.out.symm)⟩
          have HX3 := Aside0.mk (DS.step HS.out (below_drew1 (Below.refl _ _)))
          clear hs0
          refine start_ (n := 6) (S := fun w' => (convert 30 9 (.slice A0 k c0)).run Try.prog w' = .ok (.string s0) w') (ds := []) #[false, false, false, false, false, false] (by kernel_rfl) rfl rfl (cI.out) (fun hHeld => ?_)
          refine pure_ (i := 0) (N := some 56) (v := ?_) (a' := ?_) #[true, false, false, false, false, false] rfl rfl (by kernel_rfl) (fun _ _ _ h => h) (Or.inl ⟨by rfl, ?_⟩) ?_ ?_
          rotate_left
          · intro w'
            go_simp
            with_reducible rfl
          rotate_left
          · simp only [Act.put, List.setIfInBounds_toArray, List.set_cons_zero, List.set_cons_succ, i64_w, i32_w]
            rfl
          refine pure_ (i := 3) (N := some 59) (v := ?_) (a' := ?_) #[true, false, false, true, false, false] rfl rfl (by kernel_rfl) (fun _ _ _ h => h) (Or.inl ⟨by rfl, ?_⟩) ?_ ?_
          rotate_left
          · intro w'
            go_simp
            with_reducible rfl
          rotate_left
          · simp only [Act.put, List.setIfInBounds_toArray, List.set_cons_zero, List.set_cons_succ, i64_w, i32_w]
            rfl
          refine take_ (i := 4) (N := some 60) (v := ?_) (a' := ?_) #[true, false, false, true, true, false] rfl rfl (by kernel_rfl) (fun _ _ _ h => h) (Or.inl ⟨by rfl, ?_⟩) hHeld ?_ ?_
          rotate_left
          · intro w' s0
            go_simp
            with_reducible rfl
          rotate_left
          · simp only [Act.put, List.setIfInBounds_toArray, List.set_cons_zero, List.set_cons_succ, i64_w, i32_w]
            rfl
          refine one_ (i := 1) (N := some 57) #[true, true, false, true, true, false] rfl rfl (by kernel_rfl) (by decide) (fun K hK => ?_)
          refine goes_ Try.func21 (by kernel_rfl) rfl #[.pointer (some ⟨d, 0, none⟩)] (by rfl) rfl rfl (by simp only [List.map_toArray, List.map_cons, List.map_nil]; rfl) ?_
          with_reducible refine (ds_image0 (k / 512) (show (loadS l0 (k / 512)).pages = ((k / 512 : Nat) : Int) from rfl) l0 EX.out k HM.out _ HX3.out).mono ?_
          rintro e w9 ⟨gx, cx, rfl, _, ho, hb0⟩
          refine ⟨_, rfl, ?_⟩
          have hb := Below.of_drew wr hb0
          have HOX := Aside0.mk ho
          have HB6 := Aside0.mk (below_step HB.out hb)
          clear ho hb hb0
          have cX : (convert 30 9 (.slice (some ⟨gx, 0, none⟩) k cx)).run Try.prog w9 = .ok (.string s0) w9 := by rw [HS0.out]; exact row_string HOX.out
          have cI9 : (convert 30 9 (.slice A0 k c0)).run Try.prog w9 = .ok (.string s0) w9 := by rw [HS0.out]; exact Kd.C_string Try.underlying30 Try.underlying5 Try.underlying9 (Kd.C_below HC0.out HB6.out)
          refine hK.out _ _ (cI9) (fun hHeld => ?_)
          clear hK K
          refine norm_ (a' := ?_) ?_ ?_
          rotate_left
          · show Act.put _ (some 57) _ = _
            simp only [Act.put, List.setIfInBounds_toArray, List.set_cons_zero, List.set_cons_succ, i64_w, i32_w]
            rfl
          refine one_ (i := 2) (N := some 58) #[true, true, true, true, true, false] rfl rfl (by kernel_rfl) (by decide) (fun K hK => ?_)
          refine value_ (w1 := w9) (v := .string s0) (by rfl) rfl (exec_convert' 30 9 (.tmp 57) rfl (by rfl) cX) ?_
          refine hK.out _ _ (cI9) (fun hHeld => ?_)
          clear hK K
          refine norm_ (a' := ?_) ?_ ?_
          rotate_left
          · show Act.put _ (some 58) _ = _
            simp only [Act.put, List.setIfInBounds_toArray, List.set_cons_zero, List.set_cons_succ, i64_w, i32_w]
            rfl
          refine pure_ (i := 5) (N := some 61) (v := ?_) (a' := ?_) #[true, true, true, true, true, true] rfl rfl (by kernel_rfl) (fun _ _ _ h => h) (Or.inl ⟨by rfl, ?_⟩) ?_ ?_
          rotate_left
          · intro w'
            go_simp
            with_reducible rfl
          rotate_left
          · simp only [Act.put, List.setIfInBounds_toArray, List.set_cons_zero, List.set_cons_succ, i64_w, i32_w]
            rfl
          refine done_ (by kernel_rfl) ?_
          go_wp2_with fail
          exact FIN.out _ _ _ _ _ _ _ _ _ _ _ _ _ _ _ _ _ _ _ _ _ _ _ _ _ _ _ _ _ _ _ _ _ _ _ _ _ _ _ _ _ _ _ _ _ _ _ _ _ _ _ _ _ _ _ _ _ _ _ _ HB6.out
end Go.Proofs.Ytehgbikleiaagaa.P
end
section
namespace Go.Proofs.Ytehgbikleiaagaa.Pure
open Go.RowKit Go.Proofs.Ytehgbikleiaagaa.P Go.Proofs.YtehgbikleiaagaaW.PrintWords Go.Proofs.YtehgbikleiaagaaW.PrintLast
theorem DiskLoads : ∀ (l0 : List (Int)) (a1 : Int) (a2 : Int), G30 l0 → (Lit.int .u8 a1).wf = true → (Lit.int .i64 a2).wf = true → quarrylaw05_DiskLoads.f l0 a1 a2 = some true := by
  intro l0 a1 a2 h _ _
  unfold quarrylaw05_DiskLoads.f
  rw [if_pos (by have := h.2; omega)]
end Go.Proofs.Ytehgbikleiaagaa.Pure
end

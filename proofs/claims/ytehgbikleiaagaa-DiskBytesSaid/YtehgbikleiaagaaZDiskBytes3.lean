/- Laid by a program of this session out of its texts for the law DiskBytes, part 3. -/
import Derived.Test.YtehgbikleiaagaaZDiskBytes2
section
namespace Go.Proofs.Ytehgbikleiaagaa.P
open Go.RowKit Go.Proofs.YtehgbikleiaagaaW.PrintWords Go.Proofs.YtehgbikleiaagaaW.PrintLast Go.Proofs.YtehgbikleiaagaaW.PrintMore
attribute [local go_sem] max2_int min2_int max_two min_two max_three min_three max_four min_four
attribute [local go_sem] guard_ptr eql_ptr neq_ptr
set_option linter.unusedVariables false
set_option linter.unusedSimpArgs false
theorem exec_buildSlice1' {P : Program} {ρ : Operand → Value} {op : Oper} {w w1 : World} {v : Value} (t n i0 : Nat) (x0 : Operand) {v0 : Value} (ho : op.op = .buildSlice t n #[(i0, x0)]) (h0 : ρ x0 = v0) (hv : (Instr.buildSlice t n #[(i0, v0)]).run P w = .ok v w1) : (execOp ρ op).run P w = .ok (.value v) w1 := by
  subst h0
  unfold execOp
  simp only [ho, List.map_toArray, List.map_cons, List.map_nil, Sem.run_bind, hv, Result.andThen_ok, Sem.run_pure]
theorem exec_append {P : Program} {ρ : Operand → Value} {op : Oper} {w w1 : World} {v : Value} (x y : Operand) (t1 t2 : TypeId) (ho : op.op = .call { callee := .builtin .append, args := #[x, y], argTypes := #[t1, t2] }) {vx vy : Value} (hx : ρ x = vx) (hy : ρ y = vy) (hv : ∀ ty, (Builtin.append_ #[t1, t2] ty #[vx, vy]).run P w = .ok v w1) : (execOp ρ op).run P w = .ok (.value v) w1 := by
  unfold execOp
  simp [ho, resolve, invoke, builtin, hx, hy, hv]
theorem slice50 (A : Option Addr) (L c : Nat) (w : World) : (Instr.buildSlice 50 1 #[(0, .slice A L c)]).run Try.prog w = .ok (.slice (some ⟨w.heap.size, 0, none⟩) 1 1) (w.alloc (.cells #[.slice A L c] 30)) := by
  have h := info30
  cases hi : Try.prog.info? 30 with
  | none => rw [hi] at h; cases h
  | some it =>
    rw [hi] at h
    simp only [Option.map_some, Option.some.injEq, Prod.mk.injEq] at h
    refine run_buildSlice w 50 30 1 _ _ it _ Try.underlying50 hi h.1 (by rw [h.2.1]; decide) (by rw [h.2.1]; decide) ?_
    rw [h.2.1, fill_one _ _ 0 (.slice A L c) [] 0 rfl (by simp [Value.cells]), Instr.fill]
    simp [Value.cells]
theorem DS.cache_le {W : World} {base d C : Nat} {s : Dk} (h : DS W base d s C) : s.cache.length ≤ C := by
  obtain ⟨M, N, v, h, hc⟩ := h
  omega
theorem mend_pages (s : Dk) (keep : List Bool) (torn cut : Int) : (mendS s keep torn cut).pages = s.pages := rfl
theorem wrap_succ (q : Nat) (h : q < 1073741824) : wrap64 ((q : Int) + 1) = (q : Int) + 1 := by unfold wrap64; omega
theorem info4 : (Try.prog.info? 4).map (fun i => (i.zero, i.size, i.bytes)) = some (some (.bool false), 1, 1) := by kernel_rfl
def quarrylaw05_DiskBytes.f (l0 : List S32) (l1 : List Bool) (a2 a3 : Int) : Option Bool := if (l0.all fun x => decide (x.f1 < 9223372036854775808)) = true then some true else none
set_option maxHeartbeats 8000000 in
set_option maxRecDepth 100000 in
theorem quarrylaw05_DiskBytes.calls (A0 : Option Addr) (c0 : Nat) (l0 : List S32) (A1 : Option Addr) (c1 : Nat) (l1 : List Bool) (a2 a3 : Int) (r : Bool) (w : World) (hr0 : Kd.C k32 w A0 l0.length l0) (hc0 : l0.length ≤ c0) (hr1 : Kd.C Kd.bool w A1 l1.length l1) (hc1 : l1.length ≤ c1) (h : quarrylaw05_DiskBytes.f l0 l1 a2 a3 = some r) :
    Calls Try.prog 6 #[.slice A0 l0.length c0, .slice A1 l1.length c1, .int .i64 a2, .int .i64 a3] w fun e w' => e = .returned (.bool r) ∧ Below w.heap.size w w' := by
  unfold quarrylaw05_DiskBytes.f at h
  have hall : (l0.all fun x => decide (x.f1 < 9223372036854775808)) = true := by
    by_cases hx : (l0.all fun x => decide (x.f1 < 9223372036854775808)) = true
    · exact hx
    · rw [if_neg hx] at h
      cases h
  rw [if_pos hall] at h
  obtain rfl : true = r := Option.some.inj h
  have hwk := works_calls w
  have HR0 := Aside0.mk hr0
  have HR1 := Aside0.mk hr1
  have HALL := Aside0.mk hall
  clear hr0 hc0 hr1 hc1 h hall
  go_enter Try.func6, Try.ntmps6
  go_upto_region 3 with (go_at_call 9; (with_reducible refine hwk.mono ?_); rintro e w1 ⟨rfl, hb⟩; have HB := Aside0.mk hb; clear hb hwk)
  go_upto_region 7 with (go_at_call 10; (with_reducible refine (ds_new 3 (by decide) (by decide) _).mono ?_); rintro e w2 ⟨d, rfl, hs, hb⟩; have HS := Aside0.mk hs; have HB1 := Aside0.mk (below_step HB.out hb); clear hs hb)
  have hBw : w.heap.size ≤ w1.heap.size := below_size HB.out
  have HBw := Aside0.mk hBw
  have HB2 := Aside0.mk (below_alloc HB1.out (.cells #[.slice none 0 0, .slice none 0 0, .slice none 0 0] 51))
  have HS2 := Aside0.mk (HS.out.step (below_alloc (Below.refl _ _) (.cells #[.slice none 0 0, .slice none 0 0, .slice none 0 0] 51)))
  have HM0 := Aside0.mk (MayW.start w2 .nil)
  have HB12 : Aside0 (w1.heap.size ≤ w2.heap.size ∧ w.heap.size ≤ w2.heap.size) := ⟨HS.out.base_le, below_size HB1.out⟩
  clear hBw HB HB1 HS
  obtain ⟨am, ham⟩ : ∃ am, am = w2.heap.size := ⟨_, rfl⟩
  rw [← ham] at HM0 HB12 ⊢
  clear ham
  go_wp2_with fail
  go_loopw [12] (fun v12 wr => ∃ (k : Nat) (g : Nat → Nat) (v : Nat → Value) (xs : Nat → List (List Int)), v12 = .int .i64 (k : Int) ∧ k ≤ 3 ∧ Aside0 (DS wr w1.heap.size d (newS 3) 0) ∧ Aside0 (MayW wr am am k g v xs ∧ (∀ j, j < k → xs j = [pgZ]) ∧ am ≤ wr.heap.size) ∧ Aside0 (Below w.heap.size w wr)) (fun v12 _ => 3 - (intOf v12).toNat)
  case atStart => exact ⟨0, _, _, _, rfl, Nat.zero_le _, HS2, ⟨HM0.out, fun j hj => absurd hj (Nat.not_lt_zero j), Nat.le_of_lt (blk_lt HM0.out.blk)⟩, HB2⟩
  case round =>
    clear HS2 HM0 HB2
    obtain ⟨k, g, v, xs, rfl, hk, HS, HM, HB⟩ := hrel
    by_cases hlt : k < 3
    · have HK := Aside0.mk hlt
      have b1 : decide ((k : Int) < 3) = true := decide_eq_true (by omega)
      have b2 : ((k : Int) < 3) = True := eq_true (by omega)
      have b3 : (k < 3) = True := eq_true hlt
      have g1 : (0 : Int) ≤ (k : Int) := by omega
      have w2_ : wrap64 ((k : Int) + 1) = (k : Int) + 1 := by unfold wrap64; omega
      clear hlt hk
      go_upto_region 9 with ((with_reducible refine gate_dst (N := 44) rfl ?_); refine Kd.R_make (Kd.int .u8) (w0 := wr) wr.heap.size 5 rfl (N := 44) rfl 30 _ _ rfl 512 rfl rfl Try.underlying30 (.int .u8 0) 1 info5 rfl (by decide) (by decide) 0 (ok := fun _ => True) (okp := fun _ => False) rfl (fun _ h => h.elim) trivial (by decide) (by decide) (Below.refl _ _) (Nat.le_refl _) ?_; intro v9 w9 ho hb hg hn; obtain ⟨A9, c9, e9⟩ := Kd.R_slice ho; rw [List.length_replicate] at e9; subst e9; have HPG := Aside0.mk (pgV_of (B := am) (by rw [List.length_replicate]; rfl) ho HM.out.2.2); have HM1 := Aside0.mk (MayW.keep HM.out.1 (keepT_below hb)); have HS1 := Aside0.mk (HS.out.step hb); have HB1 := Aside0.mk (below_step HB.out hb); have HZ := Aside0.mk (Nat.le_trans HM.out.2.2 hb.size); have ca := (blk_alloc HM1.out.blk (.cells #[.slice A9 512 c9] 30)); have HMA := Aside0.mk (MayW.keep HM1.out (keepT_below (below_alloc (Below.refl _ _) (.cells #[.slice A9 512 c9] 30)))); have hcell := HMA.out.cell HK.out; have hc1 := hcell.1; have hc2 := hcell.2; have HSA := Aside0.mk (HS1.out.step (below_alloc (Below.refl _ _) (.cells #[.slice A9 512 c9] 30))); have HBA := Aside0.mk (below_alloc HB1.out (.cells #[.slice A9 512 c9] 30)); have HRO := Aside0.mk (rowV_one (B := am) (HPG.out.keep (keepT_below (below_alloc (Below.refl _ _) (.cells #[.slice A9 512 c9] 30)))) (Deep.blk_alloc_new w9 (.cells #[.slice A9 512 c9] 30)) HZ.out); clear ho hb hg hn hcell ca)
      have hgl : ∀ j, j < k → g j < w9.heap.size := fun j hj => by
        obtain ⟨cs, hc⟩ := (HM1.out.row j hj).typed
        exact blk_lt hc
      have HE := Aside0.mk (HMA.out.put (n' := k + 1) HK.out (fun j hj hjk => by omega) HRO.out (fun j hj hjk => Nat.ne_of_lt (hgl j (by omega))))
      have HSE := Aside0.mk (HSA.out.setb (g := am) HMA.out.blk (by decide) (by decide) k (.slice (some ⟨w9.heap.size, 0, none⟩) 1 1))
      have HBE : Aside0 (Below w.heap.size w ((w9.alloc (.cells #[.slice A9 512 c9] 30)).setCell ⟨am, k, none⟩ (.slice (some ⟨w9.heap.size, 0, none⟩) 1 1))) := ⟨below_set HBA.out HB12.out.2⟩
      clear hgl
      go_wp2
      go_roundw
      case rel => exact ⟨k + 1, _, _, _, by go_num, HK.out, HSE, ⟨HE.out, fun j hj => by
        unfold putN
        by_cases e : j = k
        · rw [if_pos e]; rfl
        · rw [if_neg e]; exact HM.out.2.1 j (by omega), Nat.le_of_lt (blk_lt HE.out.blk)⟩, HBE⟩
      case measure => exact meas_lt HK.out (by go_num)
    · have hk3 : k = 3 := by omega
      have b1 : decide ((k : Int) < 3) = false := decide_eq_false (by omega)
      have b2 : ((k : Int) < 3) = False := eq_false (by omega)
      have b3 : (k < 3) = False := eq_false hlt
      have HXS : Aside0 (∀ j, j < 3 → xs j = mayP (newS 3) (j : Int)) := ⟨fun j hj => by rw [HM.out.2.1 j (by omega)]; rfl⟩
      have HMN : Aside0 (MayW wr am am 3 g v xs) := ⟨by rw [← hk3]; exact HM.out.1⟩
      clear hlt hk hk3 HM
      go_wp2_with fail
      go_loopw [13] (fun v13 wq => ∃ (k : Nat) (s : Dk) (g : Nat → Nat) (v : Nat → Value) (xs : Nat → List (List Int)), v13 = .int .i64 (k : Int) ∧ k ≤ 60 ∧ k ≤ l0.length ∧ Aside0 (DS wq w1.heap.size d s k) ∧ Aside0 (s.pages = 3 ∧ ∀ j, j < 3 → xs j = mayP s (j : Int)) ∧ Aside0 (MayW wq am am 3 g v xs) ∧ Aside0 (Below w.heap.size w wq)) (fun v13 _ => 60 - (intOf v13).toNat)
      case atStart => exact ⟨0, _, _, _, _, rfl, Nat.zero_le _, Nat.zero_le _, HS, ⟨rfl, HXS.out⟩, HMN, HB⟩
      case round =>
        clear HS HMN HB HXS b1 b2 b3
        obtain ⟨k, s, g, v, xs, rfl, hk, hkl, HS, HI, HM, HB⟩ := hrel
        by_cases hlt : k < l0.length ∧ k < 60
        · obtain ⟨x, hx⟩ : ∃ x, x = l0.getD k z32 := ⟨_, rfl⟩
          have HXN : Aside0 (x.f1 < 9223372036854775808) := ⟨by
            have h1 := List.all_eq_true.1 HALL.out x (by rw [hx, List.getD_eq_getElem?_getD, List.getElem?_eq_getElem hlt.1]; exact List.getElem_mem hlt.1)
            exact of_decide_eq_true h1⟩
          obtain ⟨ad, A3, c3, A5, c5, eA, z0, z1, z2, z3, z4, z5, z6, z7, _, hC3, _, _⟩ := at_T32 HR0.out k hlt.1 x hx
          subst eA
          have HC3 := Aside0.mk hC3
          have x0 := (HB.out.cell (World.block_lt_of_cell? w _ z0)).trans z0
          have x1 := (HB.out.cell (World.block_lt_of_cell? w _ z1)).trans z1
          have x2 := (HB.out.cell (World.block_lt_of_cell? w _ z2)).trans z2
          have x3 := (HB.out.cell (World.block_lt_of_cell? w _ z3)).trans z3
          have x4 := (HB.out.cell (World.block_lt_of_cell? w _ z4)).trans z4
          have x5 := (HB.out.cell (World.block_lt_of_cell? w _ z5)).trans z5
          have x6 := (HB.out.cell (World.block_lt_of_cell? w _ z6)).trans z6
          have x7 := (HB.out.cell (World.block_lt_of_cell? w _ z7)).trans z7
          have HQ := Aside0.mk (modU_range 3 (by decide) (by decide) x.f1)
          obtain ⟨q, hq⟩ : ∃ q : Nat, (q : Int) = modU 3 x.f1 := ⟨(modU 3 x.f1).toNat, by have := HQ.out.1; omega⟩
          have HQ3 : Aside0 (q < 3) := ⟨by have := HQ.out.2; omega⟩
          have hq2 : wrap64 ((IntKind.u64.wrap x.f1).tmod 3) = (q : Int) := hq.symm
          have HK := Aside0.mk hlt
          have w2_ : wrap64 ((k : Int) + 1) = (k : Int) + 1 := by unfold wrap64; omega
          have HKC : Aside0 (k < 1073741824) := ⟨by omega⟩
          have b1 : decide ((k : Int) < (l0.length : Int)) = true := decide_eq_true (by omega)
          have b2 : ((k : Int) < (l0.length : Int)) = True := eq_true (by omega)
          have b3 : decide ((k : Int) < 60) = true := decide_eq_true (by omega)
          have b4 : ((k : Int) < 60) = True := eq_true (by omega)
          have b5 : (k < l0.length) = True := eq_true hlt.1
          have b6 : decide (k < l0.length) = true := decide_eq_true hlt.1
          have b7 : (k < 60) = True := eq_true hlt.2
          clear hx hlt hk hkl hC3 hq z0 z1 z2 z3 z4 z5 z6 z7
          go_upto_region 15 with fail
          rw [hq2]
          clear hq2
          by_cases hk1 : x.f0 = 1
          · have t0 : (x.f0 == 1) = true := beq_iff_eq.mpr hk1
            have t1 : decide (x.f0 = 1) = true := decide_eq_true hk1
            clear hk1
            go_upto_region 19 with fail
            have hnew := Deep.blk_alloc_new wr (.cells #[.int .i64 x.f0, .int .i64 x.f1, .int .u8 x.f2, .slice A3 x.f3.length c3, .bool false, .slice A5 x.f5.length c5, .int .i64 x.f6, .int .i64 x.f7] 32)
            refine at_world (fun W => W.heap[wr.heap.size]? = some (.cells #[.int .i64 x.f0, .int .i64 x.f1, .int .u8 x.f2, .slice A3 x.f3.length c3, .bool false, .slice A5 x.f5.length c5, .int .i64 x.f6, .int .i64 x.f7] 32 (0, 0)) ∧ Below wr.heap.size wr W) ⟨hnew, below_alloc (Below.refl _ _) _⟩ (fun W hW => ?_)
            clear hnew x0 x1 x2 x3 x4 x5 x6 x7
            have HBK := Aside0.mk hW.1
            have HS1 := Aside0.mk (HS.out.step hW.2)
            have HB1 := Aside0.mk (below_step HB.out hW.2)
            have HM1 := Aside0.mk (HM.out.keep (keepT_below hW.2))
            have HC4 := Aside0.mk (Kd.C_below HC3.out HB1.out)
            clear hW
            have h5 : (pageP x.f2 x.f3 false).length = 512 := by rw [pageP_len]; rfl
            have H5 := Aside0.mk h5
            have y0 : W.cell? ⟨wr.heap.size, 0, none⟩ = some (.int .i64 x.f0) := (blk_cell HBK.out 0).trans rfl
            have y1 : W.cell? ⟨wr.heap.size, 1, none⟩ = some (.int .i64 x.f1) := (blk_cell HBK.out 1).trans rfl
            have y2 : W.cell? ⟨wr.heap.size, 2, none⟩ = some (.int .u8 x.f2) := (blk_cell HBK.out 2).trans rfl
            have y3 : W.cell? ⟨wr.heap.size, 3, none⟩ = some (.slice A3 x.f3.length c3) := (blk_cell HBK.out 3).trans rfl
            have y4 : W.cell? ⟨wr.heap.size, 4, none⟩ = some (.bool false) := (blk_cell HBK.out 4).trans rfl
            have y5 : W.cell? ⟨wr.heap.size, 5, none⟩ = some (.slice A5 x.f5.length c5) := (blk_cell HBK.out 5).trans rfl
            have y6 : W.cell? ⟨wr.heap.size, 6, none⟩ = some (.int .i64 x.f6) := (blk_cell HBK.out 6).trans rfl
            have y7 : W.cell? ⟨wr.heap.size, 7, none⟩ = some (.int .i64 x.f7) := (blk_cell HBK.out 7).trans rfl
            have hpg : ∀ W, Kd.C (Kd.int .u8) W A3 x.f3.length x.f3 → Calls Try.prog 11 #[.agg #[.int .i64 x.f0, .int .i64 x.f1, .int .u8 x.f2, .slice A3 x.f3.length c3, .bool false, .slice A5 x.f5.length c5, .int .i64 x.f6, .int .i64 x.f7]] W fun e w' => ∃ A10 c10, e = .returned (.slice A10 512 c10) ∧ Kd.R (Kd.int .u8) 5 w' W.heap.size (fun _ => True) (.slice A10 512 c10) (pageP x.f2 x.f3 false) ∧ Below W.heap.size W w' := fun W hC => by
              refine (page_one false 512 rfl x.f0 x.f1 x.f2 A3 c3 x.f3 A5 x.f5.length c5 x.f6 x.f7 W hC).mono ?_
              rintro e w' ⟨v, rfl, ho, hb⟩
              obtain ⟨A10, c10, rfl⟩ := Kd.R_slice ho
              rw [H5.out] at ho ⊢
              exact ⟨A10, c10, rfl, ho, hb⟩
            have HPG := Aside0.mk hpg
            clear h5 hpg
            rcases write_way (s := s) (q := (q : Int)) (b := pageP x.f2 x.f3 false) with ⟨hE, hWl, hWc⟩ | ⟨hE, hWl, hWc⟩
            · have HE := Aside0.mk (And.intro hE (And.intro hWl hWc))
              clear hE hWl hWc
              go_upto_region 20 with (first
                | (go_at_call 11; (with_reducible refine (HPG.out W HC4.out).mono ?_); rintro e w4 ⟨A9, c9, rfl, ho, hb⟩; have HO := Aside0.mk ho; have HBK2 := Aside0.mk (blk_below HBK.out hb); have HS2 := Aside0.mk (HS1.out.step hb); have HB2 := Aside0.mk (below_step HB1.out hb); have HM2 := Aside0.mk (HM1.out.keep (keepT_below hb)); have HC5 := Aside0.mk (Kd.C_below HC4.out hb); clear ho hb)
                | (go_at_call 12; (with_reducible refine (ds_write (q : Int) _ (pageP x.f2 x.f3 false) _ HS2.out HKC.out HO.out).mono ?_); rw [HE.out.1]; rintro e w5 ⟨rfl, hs, ht⟩; have HS3 := Aside0.mk hs; have HB3 := Aside0.mk (HB2.out.trans (ht.b.mono HBw.out)); have HBK3 := Aside0.mk (ht.blk _ _ _ _ HBK2.out (by decide) (by decide)); have HM3 := Aside0.mk (HM2.out.keep (keepT_tf ht)); have HC6 := Aside0.mk (Kd.C_below HC3.out HB3.out); clear hs ht))
              have hqx := HI.out.2 q HQ3.out
              have hx0 : 0 < (xs q).length := by rw [hqx]; exact mayP_pos _ _
              have hx1 : (xs q).length ≤ 1000 := by
                rw [hqx]
                have h1 := mayP_le s (q : Int)
                have h2 := HS.out.cache_le
                have h3 := HK.out.2
                omega
              have HXL := Aside0.mk (And.intro hx0 hx1)
              have q1 : (0 : Int) ≤ (q : Int) := by omega
              have q2 : ((q : Int) < 3) = True := eq_true (by have := HQ3.out; omega)
              have q3 : decide ((q : Int) < 3) = true := decide_eq_true (by have := HQ3.out; omega)
              have q4 : (q < 3) = True := eq_true HQ3.out
              clear hqx hx0 hx1 y0 y1 y2 y3 y4 y5 y6 y7
              refine start_ (n := 10) (S := fun w' => w'.cell? ⟨wr.heap.size, 0, none⟩ = some (.int .i64 x.f0) ∧ w'.cell? ⟨wr.heap.size, 1, none⟩ = some (.int .i64 x.f1) ∧ w'.cell? ⟨wr.heap.size, 2, none⟩ = some (.int .u8 x.f2) ∧ w'.cell? ⟨wr.heap.size, 3, none⟩ = some (.slice A3 x.f3.length c3) ∧ w'.cell? ⟨wr.heap.size, 4, none⟩ = some (.bool false) ∧ w'.cell? ⟨wr.heap.size, 5, none⟩ = some (.slice A5 x.f5.length c5) ∧ w'.cell? ⟨wr.heap.size, 6, none⟩ = some (.int .i64 x.f6) ∧ w'.cell? ⟨wr.heap.size, 7, none⟩ = some (.int .i64 x.f7) ∧ w'.cell? ⟨am, q, none⟩ = some (v q)) (ds := [7, 9]) #[false, false, false, false, false, false, false, false, false, false] (by kernel_rfl) rfl rfl ⟨(blk_cell (w := w5.drew) HBK3.out 0).trans rfl, (blk_cell (w := w5.drew) HBK3.out 1).trans rfl, (blk_cell (w := w5.drew) HBK3.out 2).trans rfl, (blk_cell (w := w5.drew) HBK3.out 3).trans rfl, (blk_cell (w := w5.drew) HBK3.out 4).trans rfl, (blk_cell (w := w5.drew) HBK3.out 5).trans rfl, (blk_cell (w := w5.drew) HBK3.out 6).trans rfl, (blk_cell (w := w5.drew) HBK3.out 7).trans rfl, (HM3.out.cell HQ3.out).1⟩ (fun hHeld => ?_)
              refine pure_ (i := 0) (N := some 80) (v := ?_) (a' := ?_) #[true, false, false, false, false, false, false, false, false, false] rfl rfl (by kernel_rfl) (fun _ _ _ h => h) (Or.inl ⟨by rfl, ?_⟩) ?_ ?_
              rotate_left
              · intro w'
                go_simp
                with_reducible rfl
              rotate_left
              · simp only [Act.put, List.setIfInBounds_toArray, List.set_cons_zero, List.set_cons_succ, i64_w, i32_w]
                rfl
              refine pure_ (i := 1) (N := some 81) (v := ?_) (a' := ?_) #[true, true, false, false, false, false, false, false, false, false] rfl rfl (by kernel_rfl) (fun _ _ _ h => h) (Or.inl ⟨by rfl, ?_⟩) ?_ ?_
              rotate_left
              · intro w'
                go_simp
                with_reducible rfl
              rotate_left
              · simp only [Act.put, List.setIfInBounds_toArray, List.set_cons_zero, List.set_cons_succ, i64_w, i32_w]
                rfl
              refine pure_ (i := 2) (N := some 82) (v := ?_) (a' := ?_) #[true, true, true, false, false, false, false, false, false, false] rfl rfl (by kernel_rfl) (fun _ _ _ h => h) (Or.inl ⟨by rfl, ?_⟩) ?_ ?_
              rotate_left
              · intro w'
                go_simp
                with_reducible rfl
              rotate_left
              · simp only [Act.put, List.setIfInBounds_toArray, List.set_cons_zero, List.set_cons_succ, i64_w, i32_w]
                rfl
              refine take_ (i := 3) (N := some 83) (v := ?_) (a' := ?_) #[true, true, true, true, false, false, false, false, false, false] rfl rfl (by kernel_rfl) (fun _ _ _ h => h) (Or.inl ⟨by rfl, ?_⟩) hHeld ?_ ?_
              rotate_left
              · rintro w' ⟨s0, s1, s2, s3, s4, s5, s6, s7, s8⟩
                go_simp
                with_reducible rfl
              rotate_left
              · simp only [Act.put, List.setIfInBounds_toArray, List.set_cons_zero, List.set_cons_succ, i64_w, i32_w]
                rfl
              refine take_ (i := 4) (N := some 84) (v := ?_) (a' := ?_) #[true, true, true, true, true, false, false, false, false, false] rfl rfl (by kernel_rfl) (fun _ _ _ h => h) (Or.inl ⟨by rfl, ?_⟩) hHeld ?_ ?_
              rotate_left
              · rintro w' ⟨s0, s1, s2, s3, s4, s5, s6, s7, s8⟩
                go_simp
                with_reducible rfl
              rotate_left
              · simp only [Act.put, List.setIfInBounds_toArray, List.set_cons_zero, List.set_cons_succ, i64_w, i32_w]
                rfl
              refine one_ (i := 5) (N := some 85) #[true, true, true, true, true, true, false, false, false, false] rfl rfl (by kernel_rfl) (by decide) (fun K hK => ?_)
              refine goes_ Try.func11 (by kernel_rfl) rfl #[.agg #[.int .i64 x.f0, .int .i64 x.f1, .int .u8 x.f2, .slice A3 x.f3.length c3, .bool false, .slice A5 x.f5.length c5, .int .i64 x.f6, .int .i64 x.f7]] (by rfl) rfl rfl (by simp only [List.map_toArray, List.map_cons, List.map_nil]; rfl) ?_
              with_reducible refine (HPG.out w5.drew (Kd.C_drew HC6.out)).mono ?_
              rintro e w6 ⟨A10, c10, rfl, ho, hb0⟩
              refine ⟨_, rfl, ?_⟩
              have hb := Below.of_drew w5 hb0
              have HO6 := Aside0.mk (pgV_of (B := am) H5.out ho (Nat.le_of_lt (blk_lt HM3.out.blk)))
              have HBK6 := Aside0.mk (blk_below HBK3.out hb)
              have HS6 := Aside0.mk (HS3.out.step hb)
              have HB6 := Aside0.mk (below_step HB3.out hb)
              have HM6 := Aside0.mk (HM3.out.keep (keepT_below hb))
              clear ho hb hb0
              refine hK.out _ _ ⟨(blk_cell HBK6.out 0).trans rfl, (blk_cell HBK6.out 1).trans rfl, (blk_cell HBK6.out 2).trans rfl, (blk_cell HBK6.out 3).trans rfl, (blk_cell HBK6.out 4).trans rfl, (blk_cell HBK6.out 5).trans rfl, (blk_cell HBK6.out 6).trans rfl, (blk_cell HBK6.out 7).trans rfl, (HM6.out.cell HQ3.out).1⟩ (fun hHeld => ?_)
              clear hK K
              refine norm_ (a' := ?_) ?_ ?_
              rotate_left
              · show Act.put _ (some 85) _ = _
                simp only [Act.put, List.setIfInBounds_toArray, List.set_cons_zero, List.set_cons_succ, i64_w, i32_w]
                rfl
              refine one_ (i := 6) (N := some 86) #[true, true, true, true, true, true, true, false, false, false] rfl rfl (by kernel_rfl) (by decide) (fun K hK => ?_)
              refine value_ (w1 := w6.alloc (.cells #[.slice A10 512 c10] 30)) (v := .slice (some ⟨w6.heap.size, 0, none⟩) 1 1) (by rfl) rfl (exec_buildSlice1' 50 1 0 (.tmp 85) rfl (by rfl) (slice50 A10 512 c10 w6)) ?_
              have HBK7 := Aside0.mk (blk_alloc HBK6.out (.cells #[.slice A10 512 c10] 30))
              have hba : Below w6.heap.size w6 (w6.alloc (.cells #[.slice A10 512 c10] 30)) := below_alloc (Below.refl _ _) _
              have HS7 := Aside0.mk (HS6.out.step hba)
              have HB7 := Aside0.mk (below_step HB6.out hba)
              have HM7 := Aside0.mk (HM6.out.keep (keepT_below hba))
              have HO7 := Aside0.mk (HO6.out.keep (keepT_below hba))
              clear hba
              refine hK.out _ _ ⟨(blk_cell HBK7.out 0).trans rfl, (blk_cell HBK7.out 1).trans rfl, (blk_cell HBK7.out 2).trans rfl, (blk_cell HBK7.out 3).trans rfl, (blk_cell HBK7.out 4).trans rfl, (blk_cell HBK7.out 5).trans rfl, (blk_cell HBK7.out 6).trans rfl, (blk_cell HBK7.out 7).trans rfl, (HM7.out.cell HQ3.out).1⟩ (fun hHeld => ?_)
              clear hK K
              refine norm_ (a' := ?_) ?_ ?_
              rotate_left
              · show Act.put _ (some 86) _ = _
                simp only [Act.put, List.setIfInBounds_toArray, List.set_cons_zero, List.set_cons_succ, i64_w, i32_w]
                rfl
              refine last_ (i := 7) (N := some 87) #[true, true, true, true, true, true, true, true, false, false] rfl rfl (by kernel_rfl) (by decide) (fun K hK => ?_)
              obtain ⟨v8, W8, g8, hrun, ⟨o8, c8, e8⟩, hbl8, hm8, hk8⟩ := HM7.out.append HQ3.out HXL.out.1 HXL.out.2 HO7.out (Deep.blk_alloc_new w6 _) (Nat.le_of_lt (blk_lt HM7.out.blk))
              refine value_ (w1 := W8) (v := v8) (by rfl) rfl (exec_append (.tmp 83) (.tmp 86) 50 50 rfl (by rfl) (by rfl) hrun) ?_
              have HM8 := Aside0.mk hm8
              have hb8 : W8.heap[am]? = some (.cells #[v 0, v 1, v 2] 51 (0, 0)) := hbl8.trans HM7.out.blk
              have HS8 : Aside0 (DS (W8.setCell ⟨am, q, none⟩ v8) w1.heap.size d (writeD s (q : Int) (pageP x.f2 x.f3 false)) (k + 1)) := ⟨(HS7.out.kp hk8 (fun b e => by obtain ⟨cs, hc⟩ := (HM7.out.row q HQ3.out).typed; exact ⟨cs, 30, (0, 0), e ▸ hc, by decide, by decide⟩)).setb hb8 (by decide) (by decide) q v8⟩
              have HB8 : Aside0 (Below w.heap.size w (W8.setCell ⟨am, q, none⟩ v8)) := ⟨below_set (HB7.out.trans (hk8.below (Nat.le_trans HB12.out.2 (Nat.le_of_lt (blk_lt HM7.out.blk))) (fun b e => by obtain ⟨_, _, _, _, _, _, hgb, _⟩ := HM7.out.row q HQ3.out; rw [e]; exact Nat.le_trans HB12.out.2 hgb))) HB12.out.2⟩
              have ca := ((blk_cell hb8 q).trans (blk_cell HM7.out.blk q).symm).trans (HM7.out.cell HQ3.out).1
              have cf := blk_frozen hb8 q
              subst e8
              clear hrun hbl8 hm8 hk8 hb8 hHeld
              refine hK.out _ _ ?_
              clear hK K
              refine norm_ (a' := ?_) ?_ ?_
              rotate_left
              · show Act.put _ (some 87) _ = _
                simp only [Act.put, List.setIfInBounds_toArray, List.set_cons_zero, List.set_cons_succ, i64_w, i32_w]
                rfl
              refine pure_ (i := 8) (N := some 88) (v := ?_) (a' := ?_) #[true, true, true, true, true, true, true, true, true, false] rfl rfl (by kernel_rfl) (fun _ _ _ h => h) (Or.inl ⟨by rfl, ?_⟩) ?_ ?_
              rotate_left
              · intro w'
                go_simp
                with_reducible rfl
              rotate_left
              · simp only [Act.put, List.setIfInBounds_toArray, List.set_cons_zero, List.set_cons_succ, i64_w, i32_w]
                rfl
              refine last_ (i := 9) (N := none) #[true, true, true, true, true, true, true, true, true, true] rfl rfl (by kernel_rfl) (by decide) (fun K hK => ?_)
              refine skip_ (w1 := ?_) (by rfl) rfl ?_ ?_
              rotate_left
              · go_simp
                rfl
              clear ca cf
              refine hK.out _ _ ?_
              clear hK K
              refine done_ (by kernel_rfl) ?_
              go_wp2
              go_roundw
              case rel => exact ⟨k + 1, _, _, _, _, by go_num, by have := HK.out; omega, HK.out.1, HS8, ⟨by rw [write_pages]; exact HI.out.1, fun j hj => by
                rw [mayP_write HE.out.2.1 HE.out.2.2]
                unfold putN
                by_cases e : j = q
                · rw [if_pos e, if_pos (by rw [e]), HI.out.2 q HQ3.out, e]
                · rw [if_neg e, if_neg (by omega), HI.out.2 j hj]⟩, HM8, HB8⟩
              case measure => exact meas_lt HK.out.2 (by go_num)
            · obtain ⟨E, hEE⟩ : ∃ E, E = writeE s (q : Int) (pageP x.f2 x.f3 false) := ⟨_, rfl⟩
              rw [← hEE] at hE
              have e0 : (E == 0) = false := beq_eq_false_iff_ne.mpr hE
              have e1 : decide (E = 0) = false := decide_eq_false hE
              have HE := Aside0.mk (And.intro hEE (And.intro hWl hWc))
              clear hE hWl hWc hEE
              go_wp2_with (first
                | (go_at_call 11; (with_reducible refine (HPG.out W HC4.out).mono ?_); rintro e w4 ⟨A9, c9, rfl, ho, hb⟩; have HO := Aside0.mk ho; have HS2 := Aside0.mk (HS1.out.step hb); have HB2 := Aside0.mk (below_step HB1.out hb); have HM2 := Aside0.mk (HM1.out.keep (keepT_below hb)); clear ho hb)
                | (go_at_call 12; (with_reducible refine (ds_write (q : Int) _ (pageP x.f2 x.f3 false) _ HS2.out HKC.out HO.out).mono ?_); rw [← HE.out.1]; rintro e w5 ⟨rfl, hs, ht⟩; have HS3 := Aside0.mk hs; have HB3 := Aside0.mk (HB2.out.trans (ht.b.mono HBw.out)); have HM3 := Aside0.mk (HM2.out.keep (keepT_tf ht)); clear hs ht))
              go_roundw
              case rel => exact ⟨k + 1, _, _, _, _, by go_num, by have := HK.out; omega, HK.out.1, HS3, ⟨by rw [write_pages]; exact HI.out.1, fun j hj => by rw [mayP_congr HE.out.2.1 HE.out.2.2]; exact HI.out.2 j hj⟩, HM3, HB3⟩
              case measure => exact meas_lt HK.out.2 (by go_num)
          · have t0 : (x.f0 == 1) = false := beq_eq_false_iff_ne.mpr hk1
            have t1 : decide (x.f0 = 1) = false := decide_eq_false hk1
            clear hk1
            by_cases hk2 : x.f0 = 2
            · have t2 : (x.f0 == 2) = true := beq_iff_eq.mpr hk2
              have t3 : decide (x.f0 = 2) = true := decide_eq_true hk2
              clear hk2
              go_upto_region 22 with fail
              refine at_world (fun W => Below wr.heap.size wr W) (below_alloc (Below.refl _ _) _) (fun W hW => ?_)
              clear x0 x1 x2 x3 x4 x5 x6 x7
              have HS1 := Aside0.mk (HS.out.step hW)
              have HB1 := Aside0.mk (below_step HB.out hW)
              have HM1 := Aside0.mk (HM.out.keep (keepT_below hW))
              clear hW
              rcases sync_way (s := s) with ⟨hE, hWy⟩ | ⟨hE, hWy⟩
              · have HE := Aside0.mk (And.intro hE hWy)
                clear hE hWy
                go_upto_region 23 with (go_at_call 13; (with_reducible refine (ds_sync _ HS1.out).mono ?_); rw [HE.out.1]; rintro e w4 ⟨rfl, hs, ht⟩; have HS3 := Aside0.mk (hs.more (Nat.le_succ k)); have HB3 := Aside0.mk (HB1.out.trans (ht.b.mono HBw.out)); have HM3 := Aside0.mk (HM1.out.keep (keepT_tf ht)); clear hs ht)
                go_wp2_with fail
                go_loopw [16] (fun v16 wz => ∃ (j : Nat) (g2 : Nat → Nat) (v2 : Nat → Value) (xs2 : Nat → List (List Int)), v16 = .int .i64 (j : Int) ∧ j ≤ 3 ∧ Aside0 (DS wz w1.heap.size d (syncD s) (k + 1)) ∧ Aside0 (∀ i, i < 3 → xs2 i = if i < j then [(xs i).getLastD []] else xs i) ∧ Aside0 (MayW wz am am 3 g2 v2 xs2) ∧ Aside0 (Below w.heap.size w wz)) (fun v16 _ => 3 - (intOf v16).toNat)
                case atStart => exact ⟨0, _, _, _, rfl, Nat.zero_le _, HS3, ⟨fun i hi => by rw [if_neg (Nat.not_lt_zero i)]⟩, HM3, HB3⟩
                case round =>
                  clear HS3 HM3 HB3
                  obtain ⟨j, g2, v2, xs2, rfl, hj, HS4, HX4, HM4, HB4⟩ := hrel
                  by_cases hj3 : j < 3
                  · have hxj : xs2 j = xs j := by rw [HX4.out j hj3, if_neg (Nat.lt_irrefl j)]
                    have hpos : 0 < (xs2 j).length := by rw [hxj, HI.out.2 j hj3]; exact mayP_pos _ _
                    obtain ⟨off, cp, ev, hcp, hrow⟩ := (HM4.out.row j hj3).last hpos
                    obtain ⟨m1, hm1⟩ : ∃ m1, m1 = (xs2 j).length - 1 := ⟨_, rfl⟩
                    obtain ⟨L, hL⟩ : ∃ L, L = (xs2 j).length := ⟨_, rfl⟩
                    rw [← hm1] at hrow
                    rw [← hL] at ev
                    have hLm : L = m1 + 1 := by omega
                    have hLs : L ≤ 1000 := by
                      rw [hL, hxj, HI.out.2 j hj3]
                      have h1 := mayP_le s (j : Int)
                      have h2 := HS.out.cache_le
                      have h3 := HK.out.2
                      omega
                    have ca : wr.cell? ⟨am, j, none⟩ = some (.slice (some ⟨g2 j, off, none⟩) L cp) := by rw [← ev]; exact (HM4.out.cell hj3).1
                    have cf := (HM4.out.cell hj3).2
                    obtain ⟨W5, hW5⟩ : ∃ W5, W5 = wr.setCell ⟨am, j, none⟩ (.slice (some ⟨g2 j, off + m1, none⟩) 1 (cp - m1)) := ⟨_, rfl⟩
                    have hmp := HM4.out.put (n' := 3) hj3 (fun i hi _ => hi) hrow (fun i hi hij => HM4.out.apart i j hi hj3 hij)
                    rw [← hW5] at hmp
                    have hsp := HS4.out.setb HM4.out.blk (by decide) (by decide) j (.slice (some ⟨g2 j, off + m1, none⟩) 1 (cp - m1))
                    rw [← hW5] at hsp
                    have hbp : Below w.heap.size w W5 := by rw [hW5]; exact below_set HB4.out HB12.out.2
                    have hdw : Below W5.heap.size W5 W5.drew := below_drew1 (Below.refl _ _)
                    have HMP := Aside0.mk (hmp.keep (keepT_below hdw))
                    have HSP := Aside0.mk (hsp.step hdw)
                    have HBP := Aside0.mk (below_step hbp hdw)
                    have HW5 := Aside0.mk hW5
                    clear hdw hmp hsp hbp hW5
                    have HXJ := Aside0.mk hxj
                    have HXE : Aside0 (∀ i, i < 3 → putN xs2 j [(xs2 j).getLastD []] i = if i < j + 1 then [(xs i).getLastD []] else xs i) := ⟨by
                      intro i hi
                      unfold putN
                      by_cases e : i = j
                      · rw [if_pos e, if_pos (by omega), e, hxj]
                      · rw [if_neg e, HX4.out i hi]
                        by_cases e2 : i < j
                        · rw [if_pos e2, if_pos (by omega)]
                        · rw [if_neg e2, if_neg (by omega)]⟩
                    have HJ := Aside0.mk hj3
                    have f1 : wrap64 ((L : Int) - 1) = (m1 : Int) := by unfold wrap64; omega
                    have f2 : (0 : Int) ≤ (m1 : Int) := by omega
                    have f3 : (m1 : Int) ≤ (L : Int) := by omega
                    have f4 : L - m1 = 1 := by omega
                    have f5 : (cp = m1) = False := eq_false (by omega)
                    have f6 : (m1 ≤ L) = True := eq_true (by omega)
                    have f7 : ((m1 : Int) ≤ (cp : Int)) = True := eq_true (by omega)
                    have f8 : ((L : Int) ≤ (cp : Int)) = True := eq_true (by omega)
                    have q1 : (0 : Int) ≤ (j : Int) := by omega
                    have q2 : ((j : Int) < 3) = True := eq_true (by omega)
                    have q3 : decide ((j : Int) < 3) = true := decide_eq_true (by omega)
                    have q4 : (j < 3) = True := eq_true hj3
                    have w3_ : wrap64 ((j : Int) + 1) = (j : Int) + 1 := by unfold wrap64; omega
                    have HCA := Aside0.mk ca
                    clear hxj hpos ev hcp hrow hm1 hL hLm hLs hj3 hj
                    go_upto_region 26 with fail
                    clear ca
                    refine start_ (n := 12) (S := fun w' => w'.cell? ⟨am, j, none⟩ = some (.slice (some ⟨g2 j, off, none⟩) L cp)) (ds := [11]) #[false, false, false, false, false, false, false, false, false, false, false, false] (by kernel_rfl) rfl rfl (HCA.out) (fun hHeld => ?_)
                    refine pure_ (i := 0) (N := some 98) (v := ?_) (a' := ?_) #[true, false, false, false, false, false, false, false, false, false, false, false] rfl rfl (by kernel_rfl) (fun _ _ _ h => h) (Or.inl ⟨by rfl, ?_⟩) ?_ ?_
                    rotate_left
                    · intro w'
                      go_simp
                      with_reducible rfl
                    rotate_left
                    · simp only [Act.put, List.setIfInBounds_toArray, List.set_cons_zero, List.set_cons_succ, i64_w, i32_w]
                      rfl
                    refine pure_ (i := 1) (N := some 99) (v := ?_) (a' := ?_) #[true, true, false, false, false, false, false, false, false, false, false, false] rfl rfl (by kernel_rfl) (fun _ _ _ h => h) (Or.inl ⟨by rfl, ?_⟩) ?_ ?_
                    rotate_left
                    · intro w'
                      go_simp
                      with_reducible rfl
                    rotate_left
                    · simp only [Act.put, List.setIfInBounds_toArray, List.set_cons_zero, List.set_cons_succ, i64_w, i32_w]
                      rfl
                    refine pure_ (i := 2) (N := some 100) (v := ?_) (a' := ?_) #[true, true, true, false, false, false, false, false, false, false, false, false] rfl rfl (by kernel_rfl) (fun _ _ _ h => h) (Or.inl ⟨by rfl, ?_⟩) ?_ ?_
                    rotate_left
                    · intro w'
                      go_simp
                      with_reducible rfl
                    rotate_left
                    · simp only [Act.put, List.setIfInBounds_toArray, List.set_cons_zero, List.set_cons_succ, i64_w, i32_w]
                      rfl
                    refine pure_ (i := 4) (N := some 102) (v := ?_) (a' := ?_) #[true, true, true, false, true, false, false, false, false, false, false, false] rfl rfl (by kernel_rfl) (fun _ _ _ h => h) (Or.inl ⟨by rfl, ?_⟩) ?_ ?_
                    rotate_left
                    · intro w'
                      go_simp
                      with_reducible rfl
                    rotate_left
                    · simp only [Act.put, List.setIfInBounds_toArray, List.set_cons_zero, List.set_cons_succ, i64_w, i32_w]
                      rfl
                    refine pure_ (i := 5) (N := some 103) (v := ?_) (a' := ?_) #[true, true, true, false, true, true, false, false, false, false, false, false] rfl rfl (by kernel_rfl) (fun _ _ _ h => h) (Or.inl ⟨by rfl, ?_⟩) ?_ ?_
                    rotate_left
                    · intro w'
                      go_simp
                      with_reducible rfl
                    rotate_left
                    · simp only [Act.put, List.setIfInBounds_toArray, List.set_cons_zero, List.set_cons_succ, i64_w, i32_w]
                      rfl
                    refine take_ (i := 3) (N := some 101) (v := ?_) (a' := ?_) #[true, true, true, true, true, true, false, false, false, false, false, false] rfl rfl (by kernel_rfl) (fun _ _ _ h => h) (Or.inl ⟨by rfl, ?_⟩) hHeld ?_ ?_
                    rotate_left
                    · intro w' s0
                      go_simp
                      with_reducible rfl
                    rotate_left
                    · simp only [Act.put, List.setIfInBounds_toArray, List.set_cons_zero, List.set_cons_succ, i64_w, i32_w]
                      rfl
                    refine take_ (i := 6) (N := some 104) (v := ?_) (a' := ?_) #[true, true, true, true, true, true, true, false, false, false, false, false] rfl rfl (by kernel_rfl) (fun _ _ _ h => h) (Or.inl ⟨by rfl, ?_⟩) hHeld ?_ ?_
                    rotate_left
                    · intro w' s0
                      go_simp
                      with_reducible rfl
                    rotate_left
                    · simp only [Act.put, List.setIfInBounds_toArray, List.set_cons_zero, List.set_cons_succ, i64_w, i32_w]
                      rfl
                    refine pure_ (i := 7) (N := some 105) (v := ?_) (a' := ?_) #[true, true, true, true, true, true, true, true, false, false, false, false] rfl rfl (by kernel_rfl) (fun _ _ _ h => h) (Or.inl ⟨by rfl, ?_⟩) ?_ ?_
                    rotate_left
                    · intro w'
                      go_simp
                      with_reducible rfl
                    rotate_left
                    · simp only [Act.put, List.setIfInBounds_toArray, List.set_cons_zero, List.set_cons_succ, i64_w, i32_w]
                      rfl
                    refine pure_ (i := 8) (N := some 106) (v := ?_) (a' := ?_) #[true, true, true, true, true, true, true, true, true, false, false, false] rfl rfl (by kernel_rfl) (fun _ _ _ h => h) (Or.inl ⟨by rfl, ?_⟩) ?_ ?_
                    rotate_left
                    · intro w'
                      go_simp
                      with_reducible rfl
                    rotate_left
                    · simp only [Act.put, List.setIfInBounds_toArray, List.set_cons_zero, List.set_cons_succ, i64_w, i32_w]
                      rfl
                    refine pure_ (i := 9) (N := some 107) (v := ?_) (a' := ?_) #[true, true, true, true, true, true, true, true, true, true, false, false] rfl rfl (by kernel_rfl) (fun _ _ _ h => h) (Or.inl ⟨by rfl, ?_⟩) ?_ ?_
                    rotate_left
                    · intro w'
                      go_simp
                      with_reducible rfl
                    rotate_left
                    · simp only [Act.put, List.setIfInBounds_toArray, List.set_cons_zero, List.set_cons_succ, i64_w, i32_w]
                      rfl
                    refine pure_ (i := 10) (N := some 108) (v := ?_) (a' := ?_) #[true, true, true, true, true, true, true, true, true, true, true, false] rfl rfl (by kernel_rfl) (fun _ _ _ h => h) (Or.inl ⟨by rfl, ?_⟩) ?_ ?_
                    rotate_left
                    · intro w'
                      go_simp
                      with_reducible rfl
                    rotate_left
                    · simp only [Act.put, List.setIfInBounds_toArray, List.set_cons_zero, List.set_cons_succ, i64_w, i32_w]
                      rfl
                    refine last_ (i := 11) (N := none) #[true, true, true, true, true, true, true, true, true, true, true, true] rfl rfl (by kernel_rfl) (by decide) (fun K hK => ?_)
                    have ca := HCA.out
                    refine skip_ (w1 := ?_) (by rfl) rfl ?_ ?_
                    rotate_left
                    · go_simp
                      rfl
                    clear ca cf
                    refine hK.out _ _ ?_
                    clear hK K
                    refine done_ (by kernel_rfl) ?_
                    go_wp2_with fail
                    constructor
                    · rw [← HW5.out]
                      exact ⟨j + 1, _, _, putN xs2 j [(xs2 j).getLastD []], congrArg (Value.int .i64) w3_, HJ.out, HSP, HXE, HMP, HBP⟩
                    · exact meas_lt HJ.out (congrArg (Value.int .i64) w3_)
                  · have q2 : ((j : Int) < 3) = False := eq_false (by omega)
                    have q3 : decide ((j : Int) < 3) = false := decide_eq_false (by omega)
                    have HX5 : Aside0 (∀ i, i < 3 → xs2 i = mayP (syncD s) (i : Int)) := ⟨fun i hi => by rw [HX4.out i hi, if_pos (by omega), HE.out.2, HI.out.2 i hi]⟩
                    clear hj3 hj
                    go_wp2
                    go_roundw
                    case rel => exact ⟨k + 1, _, _, _, _, by go_num, by have := HK.out; omega, HK.out.1, HS4, ⟨by rw [sync_pages]; exact HI.out.1, HX5.out⟩, HM4, HB4⟩
                    case measure => exact meas_lt HK.out.2 (by go_num)
              · obtain ⟨E, hEE⟩ : ∃ E, E = syncE s := ⟨_, rfl⟩
                rw [← hEE] at hE
                have e0 : (E == 0) = false := beq_eq_false_iff_ne.mpr hE
                have e1 : decide (E = 0) = false := decide_eq_false hE
                have HE := Aside0.mk (And.intro hEE hWy)
                clear hE hWy hEE
                go_wp2_with (go_at_call 13; (with_reducible refine (ds_sync _ HS1.out).mono ?_); rw [← HE.out.1]; rintro e w4 ⟨rfl, hs, ht⟩; have HS3 := Aside0.mk (hs.more (Nat.le_succ k)); have HB3 := Aside0.mk (HB1.out.trans (ht.b.mono HBw.out)); have HM3 := Aside0.mk (HM1.out.keep (keepT_tf ht)); clear hs ht)
                go_roundw
                case rel => exact ⟨k + 1, _, _, _, _, by go_num, by have := HK.out; omega, HK.out.1, HS3, ⟨by rw [sync_pages]; exact HI.out.1, fun i hi => by rw [HE.out.2]; exact HI.out.2 i hi⟩, HM3, HB3⟩
                case measure => exact meas_lt HK.out.2 (by go_num)
            · have t2 : (x.f0 == 2) = false := beq_eq_false_iff_ne.mpr hk2
              have t3 : decide (x.f0 = 2) = false := decide_eq_false hk2
              clear hk2
              by_cases hk3 : x.f0 = 3
              · have t4 : (x.f0 == 3) = true := beq_iff_eq.mpr hk3
                have t5 : decide (x.f0 = 3) = true := decide_eq_true hk3
                clear hk3
                go_upto_region 28 with fail
                have hxl := World.block_lt_of_cell? wr _ x1
                refine at_world (fun W => Below wr.heap.size wr W) (below_alloc (Below.refl _ _) _) (fun W hW => ?_)
                have y1 := (hW.cell hxl).trans x1
                clear x0 x1 x2 x3 x4 x5 x6 x7 hxl
                have HS1 := Aside0.mk (HS.out.step hW)
                have HB1 := Aside0.mk (below_step HB.out hW)
                have HM1 := Aside0.mk (HM.out.keep (keepT_below hW))
                clear hW
                go_wp2_with (go_at_call 16; (with_reducible refine (ds_arm x.f1 HXN.out _ HS1.out).mono ?_); rintro e w4 ⟨⟨u, rfl⟩, hs, ht⟩; have HS3 := Aside0.mk (hs.more (Nat.le_succ k)); have HB3 := Aside0.mk (HB1.out.trans (ht.b.mono HBw.out)); have HM3 := Aside0.mk (HM1.out.keep (keepT_tf ht)); clear hs ht)
                go_roundw
                case rel => exact ⟨k + 1, _, _, _, _, by go_num, by have := HK.out; omega, HK.out.1, HS3, ⟨HI.out.1, fun i hi => HI.out.2 i hi⟩, HM3, HB3⟩
                case measure => exact meas_lt HK.out.2 (by go_num)
              · have t4 : (x.f0 == 3) = false := beq_eq_false_iff_ne.mpr hk3
                have t5 : decide (x.f0 = 3) = false := decide_eq_false hk3
                clear hk3
                have HS3 : Aside0 (∀ W, Below wr.heap.size wr W → DS W w1.heap.size d s (k + 1)) := ⟨fun W hW => (HS.out.step hW).more (Nat.le_succ k)⟩
                have HM3 : Aside0 (∀ W, Below wr.heap.size wr W → MayW W am am 3 g v xs) := ⟨fun W hW => HM.out.keep (keepT_below hW)⟩
                go_wp2
                go_roundw
                case rel => exact ⟨k + 1, _, _, _, _, by go_num, by have := HK.out; omega, HK.out.1, ⟨HS3.out _ (below_alloc (Below.refl _ _) _)⟩, HI, ⟨HM3.out _ (below_alloc (Below.refl _ _) _)⟩, ⟨below_alloc HB.out _⟩⟩
                case measure => exact meas_lt HK.out.2 (by go_num)
        · rename_i K hK
          have HIM0 : Aside0 (s.pages = ((3 : Nat) : Int)) := ⟨HI.out.1⟩
          have HCL := Aside0.mk HS.out.cache_le
          have HL5 := Aside0.mk HS.out.l512
          have HC5 := Aside0.mk (fun y hy => (HS.out.c512 y hy).1)
          have HKL : Aside0 (k ≤ 60) := ⟨hk⟩
          have fin : ∀ (y0 y4 y5 y6 y7 y8 y10 y12 y13 y14 y15 y16 y17 y18 y19 y20 y21 y22 y23 y24 y25 y26 y27 y28 y29 y30 y31 y32 y33 y34 y35 y36 y37 y38 y39 y40 y41 y42 y43 y44 y45 y46 y47 y48 y49 y50 y51 y52 y53 y54 y55 y56 y57 y58 y59 y60 y61 y62 y63 y64 y65 y66 y67 y68 y69 y70 y71 y72 y73 y74 y75 y76 y77 y78 y79 y80 y81 y82 y83 y84 y85 y86 y87 y88 y89 y90 y91 y92 y93 y94 y95 y96 y97 y98 y99 y100 y101 y102 y103 y104 y105 y106 y107 y108 y109 y110 y111 y112 y113 y114 y115 y116 y117 y118 y119 y120 y121 y122 y123 y124 y125 y126 y127 y128 y129 y130 y131 y132 y133 y134 y135 y136 y137 y138 y139 y140 y141 y142 y143 y144 y145 y146 y147 y148 y149 y150 y151 y152 y153 y154 y155 y156 y157 y158 y159 y160 y161 y162 y163 y164 y165 y166 y167 y168 y169 y170 y171 y172 y173 y174 y175 y176 y177 y178 y179 y180 y181 y182 y183 y184 y185 y186 y187 y188 y189 y190 y191 y192 y193 y194 y195 : Value), K ⟨#[y0, .slice A1 l1.length c1, .int .i64 a2, .int .i64 a3, y4, y5, y6, y7, y8, .pointer (some ⟨d, 0, none⟩), y10, .pointer (some ⟨am, 0, none⟩), y12, y13, y14, y15, y16, y17, y18, y19, y20, y21, y22, y23, y24, y25, y26, y27, y28, y29, y30, y31, y32, y33, y34, y35, y36, y37, y38, y39, y40, y41, y42, y43, y44, y45, y46, y47, y48, y49, y50, y51, y52, y53, y54, y55, y56, y57, y58, y59, y60, y61, y62, y63, y64, y65, y66, y67, y68, y69, y70, y71, y72, y73, y74, y75, y76, y77, y78, y79, y80, y81, y82, y83, y84, y85, y86, y87, y88, y89, y90, y91, y92, y93, y94, y95, y96, y97, y98, y99, y100, y101, y102, y103, y104, y105, y106, y107, y108, y109, y110, y111, y112, y113, y114, y115, y116, y117, y118, y119, y120, y121, y122, y123, y124, y125, y126, y127, y128, y129, y130, y131, y132, y133, y134, y135, y136, y137, y138, y139, y140, y141, y142, y143, y144, y145, y146, y147, y148, y149, y150, y151, y152, y153, y154, y155, y156, y157, y158, y159, y160, y161, y162, y163, y164, y165, y166, y167, y168, y169, y170, y171, y172, y173, y174, y175, y176, y177, y178, y179, y180, y181, y182, y183, y184, y185, y186, y187, y188, y189, y190, y191, y192, y193, y194, y195], []⟩ wr := by
            intro y0 y4 y5 y6 y7 y8 y10 y12 y13 y14 y15 y16 y17 y18 y19 y20 y21 y22 y23 y24 y25 y26 y27 y28 y29 y30 y31 y32 y33 y34 y35 y36 y37 y38 y39 y40 y41 y42 y43 y44 y45 y46 y47 y48 y49 y50 y51 y52 y53 y54 y55 y56 y57 y58 y59 y60 y61 y62 y63 y64 y65 y66 y67 y68 y69 y70 y71 y72 y73 y74 y75 y76 y77 y78 y79 y80 y81 y82 y83 y84 y85 y86 y87 y88 y89 y90 y91 y92 y93 y94 y95 y96 y97 y98 y99 y100 y101 y102 y103 y104 y105 y106 y107 y108 y109 y110 y111 y112 y113 y114 y115 y116 y117 y118 y119 y120 y121 y122 y123 y124 y125 y126 y127 y128 y129 y130 y131 y132 y133 y134 y135 y136 y137 y138 y139 y140 y141 y142 y143 y144 y145 y146 y147 y148 y149 y150 y151 y152 y153 y154 y155 y156 y157 y158 y159 y160 y161 y162 y163 y164 y165 y166 y167 y168 y169 y170 y171 y172 y173 y174 y175 y176 y177 y178 y179 y180 y181 y182 y183 y184 y185 y186 y187 y188 y189 y190 y191 y192 y193 y194 y195
            refine hK _ _ ?_
            clear hK hlt hk hkl
            refine at_world (fun W => DS W w1.heap.size d s k ∧ MayW W am am 3 g v xs ∧ Below w.heap.size w W) ⟨HS.out, HM.out, HB.out⟩ (fun W0 hW0 => ?_)
            have HS0 := Aside0.mk hW0.1
            have HM0 := Aside0.mk hW0.2.1
            have HB0 := Aside0.mk hW0.2.2
            clear hW0 HS HM HB
            go_upto_region 30 with ((with_reducible refine gate_dst (N := 118) rfl ?_); refine Kd.R_make Kd.bool (w0 := W0) W0.heap.size 4 rfl (N := 118) rfl 23 _ _ rfl 100 rfl rfl Try.underlying23 (.bool false) 1 info4 rfl (by decide) (by decide) false (ok := fun _ => True) (okp := fun _ => False) rfl (fun _ h => h.elim) trivial (by decide) (by decide) (Below.refl _ _) (Nat.le_refl _) ?_; intro v9 w9 ho hb hg hn; obtain ⟨ga, ca, e9, _, _, _⟩ := Kd.R_form ho (by rw [List.length_replicate]; decide); rw [List.length_replicate] at e9; subst e9; have HA := Aside0.mk ho; have HZ := Aside0.mk hb; clear ho hb hg hn)
            go_wp2_with fail
            go_loopw [18] (fun v18 wz => ∃ (i : Nat) (ks : List Bool), v18 = .int .i64 (i : Int) ∧ i ≤ 100 ∧ Aside0 (Kd.R Kd.bool 4 wz W0.heap.size (fun _ => True) (.slice (some ⟨ga, 0, none⟩) 100 ca) ks ∧ ks.length = 100 ∧ ∀ j, j < i → ks[j]? = some true) ∧ Aside0 (Below W0.heap.size W0 wz)) (fun v18 _ => 100 - (intOf v18).toNat)
            case atStart => exact ⟨0, _, rfl, Nat.zero_le _, ⟨HA.out, List.length_replicate, fun j hj => absurd hj (Nat.not_lt_zero j)⟩, HZ⟩
            case round =>
              clear HA HZ
              obtain ⟨i, ks, rfl, hi, HA, HZ⟩ := hrel
              by_cases hlt : i < 100
              · have hck := Kd.R_celln false HA.out.1 (i : Int) (by omega) (by omega)
                rw [Int.toNat_natCast] at hck
                obtain ⟨y, hy⟩ : ∃ y, y = rdOf false ks (i : Int) := ⟨_, rfl⟩
                rw [← hy] at hck
                obtain ⟨cg, fg⟩ := hck
                have HE : Aside0 (Kd.R Kd.bool 4 (wr.setCell ⟨ga, i, none⟩ (.bool true)) W0.heap.size (fun _ => True) (.slice (some ⟨ga, 0, none⟩) 100 ca) (ks.set i true) ∧ (ks.set i true).length = 100 ∧ ∀ j, j < i + 1 → (ks.set i true)[j]? = some true) := ⟨by have := Kd.R_putn HA.out.1 (i : Int) true; rw [Int.toNat_natCast] at this; exact this, by rw [List.length_set]; exact HA.out.2.1, fun j hj => by
                  by_cases e : i = j
                  · subst e
                    exact List.getElem?_set_self (by have := HA.out.2.1; omega)
                  · rw [List.getElem?_set_ne e]
                    exact HA.out.2.2 j (by omega)⟩
                have HZE : Aside0 (Below W0.heap.size W0 (wr.setCell ⟨ga, i, none⟩ (.bool true))) := ⟨below_set HZ.out (Kd.R_base HA.out.1 ga rfl)⟩
                have HK := Aside0.mk hlt
                have w2_ : wrap64 ((i : Int) + 1) = (i : Int) + 1 := by unfold wrap64; omega
                have b1 : decide ((i : Int) < 100) = true := decide_eq_true (by omega)
                have b2 : (i < 100) = True := eq_true hlt
                have b3 : ((i : Int) < 100) = True := eq_true (by omega)
                have b4 : decide (i < 100) = true := decide_eq_true hlt
                clear hy hlt hi
                go_wp2
                go_roundw
                case rel => exact ⟨i + 1, _, by go_num, HK.out, HE, HZE⟩
                case measure => exact meas_lt HK.out (by go_num)
              · have hie : i = 100 := by omega
                have hks : ks = List.replicate 100 true := List.eq_replicate_iff.2 ⟨HA.out.2.1, fun y hy => by
                  obtain ⟨j, hj, rfl⟩ := List.mem_iff_getElem.1 hy
                  have h1 := HA.out.2.1
                  have := HA.out.2.2 j (by omega)
                  rw [List.getElem?_eq_getElem hj] at this
                  exact Option.some.inj this⟩
                have hR := HA.out.1
                rw [hks] at hR
                have HR2 := Aside0.mk hR
                have b1 : decide ((i : Int) < 100) = false := decide_eq_false (by omega)
                have b2 : (i < 100) = False := eq_false hlt
                have b3 : ((i : Int) < 100) = False := eq_false (by omega)
                have b4 : decide (i < 100) = false := decide_eq_false hlt
                have HS1 := Aside0.mk (HS0.out.step HZ.out)
                have HM1 := Aside0.mk (HM0.out.keep (keepT_below HZ.out))
                have HB1 := Aside0.mk (below_step HB0.out HZ.out)
                clear hie hks hR hlt hi HA HZ HS0 HM0 HB0
                obtain ⟨img, himg⟩ : ∃ img, img = imageP s 3 := ⟨_, rfl⟩
                have HIMG := Aside0.mk himg
                clear himg
                go_upto_region 37 with (go_at_call 23; (with_reducible refine (dp_clone _ HS1.out).mono ?_); rintro e w5 ⟨c, rfl, hp, hb⟩; have HP := Aside0.mk hp; have HM2 := Aside0.mk (HM1.out.keep (keepT_below hb)); have HB2 := Aside0.mk (below_step HB1.out hb); have HR3 := Aside0.mk (Kd.R_below HR2.out hb); have HMs := Aside0.mk (HS1.out.base_le); clear hp hb)
                go_upto_region 38 with (go_at_call 21; (with_reducible refine (ds_image0 3 HIM0.out img HIMG.out.symm 1536 (by decide) _ HP.out.fst).mono ?_); rintro e w6 ⟨g7, cap, rfl, _, ho, hb⟩; have HO := Aside0.mk ho; have HP2 := Aside0.mk (HP.out.step hb); have HM3 := Aside0.mk (HM2.out.keep (keepT_below hb)); have HB3 := Aside0.mk (below_step HB2.out hb); have HR4 := Aside0.mk (Kd.R_below HR3.out hb); clear ho hb)
                have hmc : Calls Try.prog 14 #[.pointer (some ⟨c, 0, none⟩), .slice (some ⟨ga, 0, none⟩) 100 ca, .int .i64 (-1), .int .i64 0] w6 fun e w' => (∃ u, e = .returned u) ∧ DP w' w1.heap.size d s k wr.heap.size c (mendS s (List.replicate 100 true) (-1) 0) k ∧ TF w1.heap.size w6 w' := by
                  have hC := (Kd.R_reads' HR4.out).2.2
                  have := dp_mend_c (some ⟨ga, 0, none⟩) ca (List.replicate 100 true) (-1) 0 w6 HP2.out hC
                  rw [List.length_replicate] at this
                  exact this
                go_upto_region 39 with (go_at_call 14; (with_reducible refine hmc.mono ?_); rintro e w7 ⟨⟨u, rfl⟩, hp, ht⟩; have HP3 := Aside0.mk hp; have HO2 := Aside0.mk (R5_tf HO.out ht); have HM4 := Aside0.mk (HM3.out.keep (keepT_tf ht)); have HB4 := Aside0.mk (HB3.out.trans (ht.b.mono HBw.out)); clear hp ht hmc)
                go_upto_region 40 with (go_at_call 14; (with_reducible refine (dp_mend_d A1 c1 l1 a2 a3 _ HP3.out (Kd.C_below HR1.out HB4.out)).mono ?_); rintro e w8 ⟨⟨u, rfl⟩, hp, ht⟩; have HP4 := Aside0.mk hp; have HO3 := Aside0.mk (R5_tf HO2.out ht); have HM5 := Aside0.mk (HM4.out.keep (keepT_tf ht)); have HB5 := Aside0.mk (HB4.out.trans (ht.b.mono HBw.out)); clear hp ht)
                clear HS1 HM1 HB1 HP HM2 HB2 HR2 HR3 HP2 HM3 HB3 HR4 HO HP3 HO2 HM4 HB4
                go_wp2_with fail
                go_loopw [21] (fun v21 wz => ∃ j : Nat, v21 = .int .i64 (j : Int) ∧ j ≤ 3 ∧ Aside0 (Below w8.heap.size w8 wz)) (fun v21 _ => 3 - (intOf v21).toNat)
                case atStart => exact ⟨0, rfl, Nat.zero_le _, ⟨Below.refl _ _⟩⟩
                case round =>
                  obtain ⟨j, rfl, hj, HQ⟩ := hrel
                  by_cases hj3 : j < 3
                  · have HJ := Aside0.mk hj3
                    have e1 : Aside0 (lookP (mendS s l1 a2 a3) (j : Int) = 0) := ⟨lookP_ok' rfl (by omega) (by show (j : Int) < s.pages; rw [HIM0.out]; omega)⟩
                    obtain ⟨pj, hpj⟩ : ∃ pj, pj = hasP (mendS s l1 a2 a3) (j : Int) := ⟨_, rfl⟩
                    have hpl : pj.length = 512 := by rw [hpj]; exact HP4.out.fst.has_len _
                    have HPJ := Aside0.mk (And.intro hpj hpl)
                    have w3_ : wrap64 ((j : Int) + 1) = (j : Int) + 1 := by unfold wrap64; omega
                    have q1 : (0 : Int) ≤ (j : Int) := by omega
                    have hji : (j : Int) < 3 := by omega
                    have q2 : ((j : Int) < 3) = True := eq_true hji
                    have q3 : decide ((j : Int) < 3) = true := decide_eq_true hji
                    have q4 : (j < 3) = True := eq_true hj3
                    clear hpj hpl hj3 hj hji
                    go_upto_region 46 with (go_at_call 15; (with_reducible refine (ds_read0 (j : Int) e1.out pj HPJ.out.1.symm _ (HP4.out.fst.step HQ.out)).mono ?_); rintro e w9 ⟨g9, rfl, hb, hcl⟩; have HG := Aside0.mk hcl; have HQ1 := Aside0.mk (below_step HQ.out hb); clear hb hcl)
                    have hmk := HM5.out.keep (keepT_below HQ1.out)
                    obtain ⟨off, cp, cells, ev, hcp, hsz, hBg, hcb, hpx⟩ := hmk.row j HJ.out
                    obtain ⟨L, hL⟩ : ∃ L, L = (xs j).length := ⟨_, rfl⟩
                    rw [← hL] at ev hcp
                    have camj : w9.cell? ⟨am, j, none⟩ = some (.slice (some ⟨g j, off, none⟩) L cp) := by rw [← ev]; exact (hmk.cell HJ.out).1
                    have hLs : L ≤ 1000 := by
                      rw [hL, HI.out.2 j HJ.out]
                      have h1 := mayP_le s (j : Int)
                      have h2 := HCL.out
                      have h3 := HKL.out
                      omega
                    have HRW := Aside0.mk (And.intro hcb (And.intro hpx (And.intro hL (And.intro camj (And.intro hcp hLs)))))
                    clear hmk ev hcp hsz hBg hcb hpx hL camj hLs
                    go_wp2_with fail
                    go_loopw [24] (fun v24 wz => ∃ i : Nat, v24 = .int .i64 (i : Int) ∧ i ≤ 512 ∧ Aside0 (Below w9.heap.size w9 wz)) (fun v24 _ => 512 - (intOf v24).toNat)
                    case atStart => exact ⟨0, rfl, Nat.zero_le _, ⟨Below.refl _ _⟩⟩
                    case round =>
                      obtain ⟨i, rfl, hi, HB6⟩ := hrel
                      by_cases hi5 : i < 512
                      · have HI5 := Aside0.mk hi5
                        have w4_ : wrap64 ((i : Int) + 1) = (i : Int) + 1 := by unfold wrap64; omega
                        have p1 : (0 : Int) ≤ (i : Int) := by omega
                        have hii : (i : Int) < 512 := by omega
                        have p2 : ((i : Int) < 512) = True := eq_true hii
                        have p3 : decide ((i : Int) < 512) = true := decide_eq_true hii
                        have p4 : (i < 512) = True := eq_true hi5
                        clear hi5 hi hii
                        go_wp2_with fail
                        go_loopw [25, 26] (fun v25 v26 wz => ∃ (q : Nat) (okv : Bool), v26 = .int .i64 (q : Int) ∧ v25 = .bool okv ∧ q ≤ L ∧ Aside0 (okv = ((xs j).take q).any fun p => pj.getD i 0 == p.getD i 0) ∧ Aside0 (Below w9.heap.size w9 wz)) (fun _ v26 _ => L - (intOf v26).toNat)
                        case atStart => exact ⟨0, false, rfl, rfl, Nat.zero_le _, ⟨by simp⟩, HB6⟩
                        case round =>
                          obtain ⟨q, okv, rfl, rfl, hq, HOK, HB7⟩ := hrel
                          have hamlt := World.block_lt_of_cell? w9 _ HRW.out.2.2.2.1
                          have camj : wr.cell? ⟨am, j, none⟩ = some (.slice (some ⟨g j, off, none⟩) L cp) := (HB7.out.cell hamlt).trans HRW.out.2.2.2.1
                          clear hamlt
                          by_cases hqL : q < L
                          · have hqx : q < (xs j).length := by rw [← HRW.out.2.2.1]; exact hqL
                            obtain ⟨p, hp⟩ : ∃ p, p = (xs j)[q] := ⟨_, rfl⟩
                            obtain ⟨u, hu, hpl, gp, cq, cs, eu, _, hgp, hcs⟩ := HRW.out.2.1 q p (by rw [hp]; exact List.getElem?_eq_getElem hqx)
                            subst eu
                            have hdd : Below w9.heap.size w9 wr.drew := below_drew1 HB7.out
                            have cU : wr.drew.cell? ⟨g j, off + q, none⟩ = some (.slice (some ⟨gp, 0, none⟩) 512 cq) := (blk_cell (w := wr.drew) (blk_below HRW.out.1 hdd) (off + q)).trans hu
                            obtain ⟨ci, hci⟩ : ∃ ci, ci = p.getD i 0 := ⟨_, rfl⟩
                            obtain ⟨bi, hbi⟩ : ∃ bi, bi = pj.getD i 0 := ⟨_, rfl⟩
                            have hpi : p[i]? = some ci := by rw [hci, List.getD_eq_getElem?_getD, List.getElem?_eq_getElem (by rw [hpl]; exact HI5.out)]; rfl
                            have hbi2 : pj[i]? = some bi := by rw [hbi, List.getD_eq_getElem?_getD, List.getElem?_eq_getElem (by rw [HPJ.out.2]; exact HI5.out)]; rfl
                            have cP : wr.drew.cell? ⟨gp, i, none⟩ = some (.int .u8 ci) := (blk_cell (w := wr.drew) (blk_below hgp hdd) i).trans (hcs i ci hpi)
                            have cB : wr.drew.cell? ⟨g9, i, none⟩ = some (.int .u8 bi) := pg_cell (W := wr.drew) (blk_below HG.out hdd) hbi2
                            have cA : wr.drew.cell? ⟨am, j, none⟩ = some (.slice (some ⟨g j, off, none⟩) L cp) := camj
                            have HOK2 : Aside0 ((((xs j).take (q + 1)).any fun p => pj.getD i 0 == p.getD i 0) = (okv || (bi == ci))) := ⟨by
                              rw [List.take_add_one, List.getElem?_eq_getElem hqx, Option.toList_some, List.any_append, ← HOK.out, ← hp, hbi, hci]
                              simp⟩
                            have HC := Aside0.mk (And.intro cB (And.intro cA (And.intro cU cP)))
                            have HQL := Aside0.mk hqL
                            have hq31 : q < 1073741824 := Nat.lt_of_lt_of_le (Nat.lt_of_lt_of_le hqL HRW.out.2.2.2.2.2) (by decide)
                            have w5_ := wrap_succ q hq31
                            have r1 : (0 : Int) ≤ (q : Int) := Int.natCast_nonneg q
                            have hqi : (q : Int) < (L : Int) := Int.ofNat_lt.2 hqL
                            have hqc : (q : Int) < (cp : Int) := Int.ofNat_lt.2 (Nat.lt_of_lt_of_le hqL HRW.out.2.2.2.2.1)
                            have HBD := Aside0.mk hdd
                            have r2 : ((q : Int) < (L : Int)) = True := eq_true hqi
                            have r3 : decide ((q : Int) < (L : Int)) = true := decide_eq_true hqi
                            have r4 : (q < L) = True := eq_true hqL
                            have r5 : decide (q < L) = true := decide_eq_true hqL
                            clear hdd hqx hp hu hgp hcs hpl hci hbi hpi hbi2 cU cP cB cA hqL hq hqi hq31 hqc
                            go_upto_region 53 with fail
                            clear camj
                            cases hok : okv with
                            | true =>
                              subst hok
                              refine start_ (n := 18) (S := fun w' => w'.cell? ⟨g9, i, none⟩ = some (.int .u8 bi) ∧ w'.cell? ⟨am, j, none⟩ = some (.slice (some ⟨g j, off, none⟩) L cp) ∧ w'.cell? ⟨g j, off + q, none⟩ = some (.slice (some ⟨gp, 0, none⟩) 512 cq) ∧ w'.cell? ⟨gp, i, none⟩ = some (.int .u8 ci)) (ds := []) #[false, false, false, false, false, false, false, false, false, false, false, false, false, false, false, false, false, false] (by kernel_rfl) rfl rfl ⟨HC.out.1, HC.out.2.1, HC.out.2.2.1, HC.out.2.2.2⟩ (fun hHeld => ?_)
                              refine pure_ (i := 0) (N := some 171) (v := ?_) (a' := ?_) #[true, false, false, false, false, false, false, false, false, false, false, false, false, false, false, false, false, false] rfl rfl (by kernel_rfl) (fun _ _ _ h => h) (Or.inl ⟨by rfl, ?_⟩) ?_ ?_
                              rotate_left
                              · intro w'
                                go_simp
                                with_reducible rfl
                              rotate_left
                              · simp only [Act.put, List.setIfInBounds_toArray, List.set_cons_zero, List.set_cons_succ, i64_w, i32_w]
                                rfl
                              refine pure_ (i := 1) (N := some 172) (v := ?_) (a' := ?_) #[true, true, false, false, false, false, false, false, false, false, false, false, false, false, false, false, false, false] rfl rfl (by kernel_rfl) (fun _ _ _ h => h) (Or.inl ⟨by rfl, ?_⟩) ?_ ?_
                              rotate_left
                              · intro w'
                                go_simp
                                with_reducible rfl
                              rotate_left
                              · simp only [Act.put, List.setIfInBounds_toArray, List.set_cons_zero, List.set_cons_succ, i64_w, i32_w]
                                rfl
                              refine pure_ (i := 2) (N := some 173) (v := undef) (a' := ?_) #[true, true, true, false, false, false, false, false, false, false, false, false, false, false, false, false, false, false] rfl rfl (by kernel_rfl) (fun _ _ _ h => h) (Or.inr ⟨by rfl, rfl⟩) ?_ ?_
                              rotate_left
                              · simp only [Act.put, List.setIfInBounds_toArray, List.set_cons_zero, List.set_cons_succ, i64_w, i32_w]
                                rfl
                              refine pure_ (i := 3) (N := some 174) (v := undef) (a' := ?_) #[true, true, true, true, false, false, false, false, false, false, false, false, false, false, false, false, false, false] rfl rfl (by kernel_rfl) (fun _ _ _ h => h) (Or.inr ⟨by rfl, rfl⟩) ?_ ?_
                              rotate_left
                              · simp only [Act.put, List.setIfInBounds_toArray, List.set_cons_zero, List.set_cons_succ, i64_w, i32_w]
                                rfl
                              refine pure_ (i := 4) (N := some 175) (v := undef) (a' := ?_) #[true, true, true, true, true, false, false, false, false, false, false, false, false, false, false, false, false, false] rfl rfl (by kernel_rfl) (fun _ _ _ h => h) (Or.inr ⟨by rfl, rfl⟩) ?_ ?_
                              rotate_left
                              · simp only [Act.put, List.setIfInBounds_toArray, List.set_cons_zero, List.set_cons_succ, i64_w, i32_w]
                                rfl
                              refine pure_ (i := 5) (N := some 176) (v := undef) (a' := ?_) #[true, true, true, true, true, true, false, false, false, false, false, false, false, false, false, false, false, false] rfl rfl (by kernel_rfl) (fun _ _ _ h => h) (Or.inr ⟨by rfl, rfl⟩) ?_ ?_
                              rotate_left
                              · simp only [Act.put, List.setIfInBounds_toArray, List.set_cons_zero, List.set_cons_succ, i64_w, i32_w]
                                rfl
                              refine pure_ (i := 6) (N := some 177) (v := undef) (a' := ?_) #[true, true, true, true, true, true, true, false, false, false, false, false, false, false, false, false, false, false] rfl rfl (by kernel_rfl) (fun _ _ _ h => h) (Or.inr ⟨by rfl, rfl⟩) ?_ ?_
                              rotate_left
                              · simp only [Act.put, List.setIfInBounds_toArray, List.set_cons_zero, List.set_cons_succ, i64_w, i32_w]
                                rfl
                              refine pure_ (i := 7) (N := some 178) (v := undef) (a' := ?_) #[true, true, true, true, true, true, true, true, false, false, false, false, false, false, false, false, false, false] rfl rfl (by kernel_rfl) (fun _ _ _ h => h) (Or.inr ⟨by rfl, rfl⟩) ?_ ?_
                              rotate_left
                              · simp only [Act.put, List.setIfInBounds_toArray, List.set_cons_zero, List.set_cons_succ, i64_w, i32_w]
                                rfl
                              refine pure_ (i := 8) (N := some 179) (v := undef) (a' := ?_) #[true, true, true, true, true, true, true, true, true, false, false, false, false, false, false, false, false, false] rfl rfl (by kernel_rfl) (fun _ _ _ h => h) (Or.inr ⟨by rfl, rfl⟩) ?_ ?_
                              rotate_left
                              · simp only [Act.put, List.setIfInBounds_toArray, List.set_cons_zero, List.set_cons_succ, i64_w, i32_w]
                                rfl
                              refine pure_ (i := 9) (N := some 180) (v := undef) (a' := ?_) #[true, true, true, true, true, true, true, true, true, true, false, false, false, false, false, false, false, false] rfl rfl (by kernel_rfl) (fun _ _ _ h => h) (Or.inr ⟨by rfl, rfl⟩) ?_ ?_
                              rotate_left
                              · simp only [Act.put, List.setIfInBounds_toArray, List.set_cons_zero, List.set_cons_succ, i64_w, i32_w]
                                rfl
                              refine pure_ (i := 10) (N := some 181) (v := undef) (a' := ?_) #[true, true, true, true, true, true, true, true, true, true, true, false, false, false, false, false, false, false] rfl rfl (by kernel_rfl) (fun _ _ _ h => h) (Or.inr ⟨by rfl, rfl⟩) ?_ ?_
                              rotate_left
                              · simp only [Act.put, List.setIfInBounds_toArray, List.set_cons_zero, List.set_cons_succ, i64_w, i32_w]
                                rfl
                              refine pure_ (i := 11) (N := some 182) (v := undef) (a' := ?_) #[true, true, true, true, true, true, true, true, true, true, true, true, false, false, false, false, false, false] rfl rfl (by kernel_rfl) (fun _ _ _ h => h) (Or.inr ⟨by rfl, rfl⟩) ?_ ?_
                              rotate_left
                              · simp only [Act.put, List.setIfInBounds_toArray, List.set_cons_zero, List.set_cons_succ, i64_w, i32_w]
                                rfl
                              refine pure_ (i := 12) (N := some 183) (v := undef) (a' := ?_) #[true, true, true, true, true, true, true, true, true, true, true, true, true, false, false, false, false, false] rfl rfl (by kernel_rfl) (fun _ _ _ h => h) (Or.inr ⟨by rfl, rfl⟩) ?_ ?_
                              rotate_left
                              · simp only [Act.put, List.setIfInBounds_toArray, List.set_cons_zero, List.set_cons_succ, i64_w, i32_w]
                                rfl
                              refine pure_ (i := 13) (N := some 184) (v := undef) (a' := ?_) #[true, true, true, true, true, true, true, true, true, true, true, true, true, true, false, false, false, false] rfl rfl (by kernel_rfl) (fun _ _ _ h => h) (Or.inr ⟨by rfl, rfl⟩) ?_ ?_
                              rotate_left
                              · simp only [Act.put, List.setIfInBounds_toArray, List.set_cons_zero, List.set_cons_succ, i64_w, i32_w]
                                rfl
                              refine pure_ (i := 14) (N := some 185) (v := undef) (a' := ?_) #[true, true, true, true, true, true, true, true, true, true, true, true, true, true, true, false, false, false] rfl rfl (by kernel_rfl) (fun _ _ _ h => h) (Or.inr ⟨by rfl, rfl⟩) ?_ ?_
                              rotate_left
                              · simp only [Act.put, List.setIfInBounds_toArray, List.set_cons_zero, List.set_cons_succ, i64_w, i32_w]
                                rfl
                              refine pure_ (i := 15) (N := some 186) (v := undef) (a' := ?_) #[true, true, true, true, true, true, true, true, true, true, true, true, true, true, true, true, false, false] rfl rfl (by kernel_rfl) (fun _ _ _ h => h) (Or.inr ⟨by rfl, rfl⟩) ?_ ?_
                              rotate_left
                              · simp only [Act.put, List.setIfInBounds_toArray, List.set_cons_zero, List.set_cons_succ, i64_w, i32_w]
                                rfl
                              refine pure_ (i := 16) (N := some 187) (v := ?_) (a' := ?_) #[true, true, true, true, true, true, true, true, true, true, true, true, true, true, true, true, true, false] rfl rfl (by kernel_rfl) (fun _ _ _ h => h) (Or.inl ⟨by rfl, ?_⟩) ?_ ?_
                              rotate_left
                              · intro w'
                                go_simp
                                with_reducible rfl
                              rotate_left
                              · simp only [Act.put, List.setIfInBounds_toArray, List.set_cons_zero, List.set_cons_succ, i64_w, i32_w]
                                rfl
                              refine pure_ (i := 17) (N := some 25) (v := ?_) (a' := ?_) #[true, true, true, true, true, true, true, true, true, true, true, true, true, true, true, true, true, true] rfl rfl (by kernel_rfl) (fun _ _ _ h => h) (Or.inl ⟨by rfl, ?_⟩) ?_ ?_
                              rotate_left
                              · intro w'
                                go_simp
                                with_reducible rfl
                              rotate_left
                              · simp only [Act.put, List.setIfInBounds_toArray, List.set_cons_zero, List.set_cons_succ, i64_w, i32_w]
                                rfl
                              refine done_ (by kernel_rfl) ?_
                              go_wp2_with fail
                              go_roundw
                              case rel => exact ⟨q + 1, true, by first | exact congrArg (Value.int .i64) w5_ | rfl, rfl, HQL.out, ⟨HOK2.out.symm⟩, HBD⟩
                              case measure => exact meas_lt HQL.out (by first | exact congrArg (Value.int .i64) w5_ | rfl)
                            | false =>
                              subst hok
                              by_cases hbc : bi = ci
                              · have s1 : (bi == ci) = true := beq_iff_eq.mpr hbc
                                have s2 : decide (bi = ci) = true := decide_eq_true hbc
                                have HOK3 := HOK2.out
                                rw [s1] at HOK3
                                have HOK4 := Aside0.mk HOK3
                                clear hbc HOK3
                                refine start_ (n := 18) (S := fun w' => w'.cell? ⟨g9, i, none⟩ = some (.int .u8 bi) ∧ w'.cell? ⟨am, j, none⟩ = some (.slice (some ⟨g j, off, none⟩) L cp) ∧ w'.cell? ⟨g j, off + q, none⟩ = some (.slice (some ⟨gp, 0, none⟩) 512 cq) ∧ w'.cell? ⟨gp, i, none⟩ = some (.int .u8 ci)) (ds := []) #[false, false, false, false, false, false, false, false, false, false, false, false, false, false, false, false, false, false] (by kernel_rfl) rfl rfl ⟨HC.out.1, HC.out.2.1, HC.out.2.2.1, HC.out.2.2.2⟩ (fun hHeld => ?_)
                                refine pure_ (i := 0) (N := some 171) (v := ?_) (a' := ?_) #[true, false, false, false, false, false, false, false, false, false, false, false, false, false, false, false, false, false] rfl rfl (by kernel_rfl) (fun _ _ _ h => h) (Or.inl ⟨by rfl, ?_⟩) ?_ ?_
                                rotate_left
                                · intro w'
                                  go_simp
                                  with_reducible rfl
                                rotate_left
                                · simp only [Act.put, List.setIfInBounds_toArray, List.set_cons_zero, List.set_cons_succ, i64_w, i32_w]
                                  rfl
                                refine pure_ (i := 1) (N := some 172) (v := ?_) (a' := ?_) #[true, true, false, false, false, false, false, false, false, false, false, false, false, false, false, false, false, false] rfl rfl (by kernel_rfl) (fun _ _ _ h => h) (Or.inl ⟨by rfl, ?_⟩) ?_ ?_
                                rotate_left
                                · intro w'
                                  go_simp
                                  with_reducible rfl
                                rotate_left
                                · simp only [Act.put, List.setIfInBounds_toArray, List.set_cons_zero, List.set_cons_succ, i64_w, i32_w]
                                  rfl
                                refine pure_ (i := 2) (N := some 173) (v := ?_) (a' := ?_) #[true, true, true, false, false, false, false, false, false, false, false, false, false, false, false, false, false, false] rfl rfl (by kernel_rfl) (fun _ _ _ h => h) (Or.inl ⟨by rfl, ?_⟩) ?_ ?_
                                rotate_left
                                · intro w'
                                  go_simp
                                  with_reducible rfl
                                rotate_left
                                · simp only [Act.put, List.setIfInBounds_toArray, List.set_cons_zero, List.set_cons_succ, i64_w, i32_w]
                                  rfl
                                refine pure_ (i := 3) (N := some 174) (v := ?_) (a' := ?_) #[true, true, true, true, false, false, false, false, false, false, false, false, false, false, false, false, false, false] rfl rfl (by kernel_rfl) (fun _ _ _ h => h) (Or.inl ⟨by rfl, ?_⟩) ?_ ?_
                                rotate_left
                                · intro w'
                                  go_simp
                                  with_reducible rfl
                                rotate_left
                                · simp only [Act.put, List.setIfInBounds_toArray, List.set_cons_zero, List.set_cons_succ, i64_w, i32_w]
                                  rfl
                                refine pure_ (i := 4) (N := some 175) (v := ?_) (a' := ?_) #[true, true, true, true, true, false, false, false, false, false, false, false, false, false, false, false, false, false] rfl rfl (by kernel_rfl) (fun _ _ _ h => h) (Or.inl ⟨by rfl, ?_⟩) ?_ ?_
                                rotate_left
                                · intro w'
                                  go_simp
                                  with_reducible rfl
                                rotate_left
                                · simp only [Act.put, List.setIfInBounds_toArray, List.set_cons_zero, List.set_cons_succ, i64_w, i32_w]
                                  rfl
                                refine pure_ (i := 6) (N := some 177) (v := ?_) (a' := ?_) #[true, true, true, true, true, false, true, false, false, false, false, false, false, false, false, false, false, false] rfl rfl (by kernel_rfl) (fun _ _ _ h => h) (Or.inl ⟨by rfl, ?_⟩) ?_ ?_
                                rotate_left
                                · intro w'
                                  go_simp
                                  with_reducible rfl
                                rotate_left
                                · simp only [Act.put, List.setIfInBounds_toArray, List.set_cons_zero, List.set_cons_succ, i64_w, i32_w]
                                  rfl
                                refine pure_ (i := 7) (N := some 178) (v := ?_) (a' := ?_) #[true, true, true, true, true, false, true, true, false, false, false, false, false, false, false, false, false, false] rfl rfl (by kernel_rfl) (fun _ _ _ h => h) (Or.inl ⟨by rfl, ?_⟩) ?_ ?_
                                rotate_left
                                · intro w'
                                  go_simp
                                  with_reducible rfl
                                rotate_left
                                · simp only [Act.put, List.setIfInBounds_toArray, List.set_cons_zero, List.set_cons_succ, i64_w, i32_w]
                                  rfl
                                refine pure_ (i := 9) (N := some 180) (v := ?_) (a' := ?_) #[true, true, true, true, true, false, true, true, false, true, false, false, false, false, false, false, false, false] rfl rfl (by kernel_rfl) (fun _ _ _ h => h) (Or.inl ⟨by rfl, ?_⟩) ?_ ?_
                                rotate_left
                                · intro w'
                                  go_simp
                                  with_reducible rfl
                                rotate_left
                                · simp only [Act.put, List.setIfInBounds_toArray, List.set_cons_zero, List.set_cons_succ, i64_w, i32_w]
                                  rfl
                                refine pure_ (i := 12) (N := some 183) (v := ?_) (a' := ?_) #[true, true, true, true, true, false, true, true, false, true, false, false, true, false, false, false, false, false] rfl rfl (by kernel_rfl) (fun _ _ _ h => h) (Or.inl ⟨by rfl, ?_⟩) ?_ ?_
                                rotate_left
                                · intro w'
                                  go_simp
                                  with_reducible rfl
                                rotate_left
                                · simp only [Act.put, List.setIfInBounds_toArray, List.set_cons_zero, List.set_cons_succ, i64_w, i32_w]
                                  rfl
                                refine take_ (i := 5) (N := some 176) (v := ?_) (a' := ?_) #[true, true, true, true, true, true, true, true, false, true, false, false, true, false, false, false, false, false] rfl rfl (by kernel_rfl) (fun _ _ _ h => h) (Or.inl ⟨by rfl, ?_⟩) hHeld ?_ ?_
                                rotate_left
                                · rintro w' ⟨s0, s1, s2, s3⟩
                                  go_simp
                                  with_reducible rfl
                                rotate_left
                                · simp only [Act.put, List.setIfInBounds_toArray, List.set_cons_zero, List.set_cons_succ, i64_w, i32_w]
                                  rfl
                                refine take_ (i := 8) (N := some 179) (v := ?_) (a' := ?_) #[true, true, true, true, true, true, true, true, true, true, false, false, true, false, false, false, false, false] rfl rfl (by kernel_rfl) (fun _ _ _ h => h) (Or.inl ⟨by rfl, ?_⟩) hHeld ?_ ?_
                                rotate_left
                                · rintro w' ⟨s0, s1, s2, s3⟩
                                  go_simp
                                  with_reducible rfl
                                rotate_left
                                · simp only [Act.put, List.setIfInBounds_toArray, List.set_cons_zero, List.set_cons_succ, i64_w, i32_w]
                                  rfl
                                refine pure_ (i := 10) (N := some 181) (v := ?_) (a' := ?_) #[true, true, true, true, true, true, true, true, true, true, true, false, true, false, false, false, false, false] rfl rfl (by kernel_rfl) (fun _ _ _ h => h) (Or.inl ⟨by rfl, ?_⟩) ?_ ?_
                                rotate_left
                                · intro w'
                                  go_simp
                                  with_reducible rfl
                                rotate_left
                                · simp only [Act.put, List.setIfInBounds_toArray, List.set_cons_zero, List.set_cons_succ, i64_w, i32_w]
                                  rfl
                                refine take_ (i := 11) (N := some 182) (v := ?_) (a' := ?_) #[true, true, true, true, true, true, true, true, true, true, true, true, true, false, false, false, false, false] rfl rfl (by kernel_rfl) (fun _ _ _ h => h) (Or.inl ⟨by rfl, ?_⟩) hHeld ?_ ?_
                                rotate_left
                                · rintro w' ⟨s0, s1, s2, s3⟩
                                  go_simp
                                  with_reducible rfl
                                rotate_left
                                · simp only [Act.put, List.setIfInBounds_toArray, List.set_cons_zero, List.set_cons_succ, i64_w, i32_w]
                                  rfl
                                refine pure_ (i := 13) (N := some 184) (v := ?_) (a' := ?_) #[true, true, true, true, true, true, true, true, true, true, true, true, true, true, false, false, false, false] rfl rfl (by kernel_rfl) (fun _ _ _ h => h) (Or.inl ⟨by rfl, ?_⟩) ?_ ?_
                                rotate_left
                                · intro w'
                                  go_simp
                                  with_reducible rfl
                                rotate_left
                                · simp only [Act.put, List.setIfInBounds_toArray, List.set_cons_zero, List.set_cons_succ, i64_w, i32_w]
                                  rfl
                                refine take_ (i := 14) (N := some 185) (v := ?_) (a' := ?_) #[true, true, true, true, true, true, true, true, true, true, true, true, true, true, true, false, false, false] rfl rfl (by kernel_rfl) (fun _ _ _ h => h) (Or.inl ⟨by rfl, ?_⟩) hHeld ?_ ?_
                                rotate_left
                                · rintro w' ⟨s0, s1, s2, s3⟩
                                  go_simp
                                  with_reducible rfl
                                rotate_left
                                · simp only [Act.put, List.setIfInBounds_toArray, List.set_cons_zero, List.set_cons_succ, i64_w, i32_w]
                                  rfl
                                refine pure_ (i := 15) (N := some 186) (v := ?_) (a' := ?_) #[true, true, true, true, true, true, true, true, true, true, true, true, true, true, true, true, false, false] rfl rfl (by kernel_rfl) (fun _ _ _ h => h) (Or.inl ⟨by rfl, ?_⟩) ?_ ?_
                                rotate_left
                                · intro w'
                                  go_simp
                                  with_reducible rfl
                                rotate_left
                                · simp only [Act.put, List.setIfInBounds_toArray, List.set_cons_zero, List.set_cons_succ, i64_w, i32_w]
                                  rfl
                                refine pure_ (i := 16) (N := some 187) (v := ?_) (a' := ?_) #[true, true, true, true, true, true, true, true, true, true, true, true, true, true, true, true, true, false] rfl rfl (by kernel_rfl) (fun _ _ _ h => h) (Or.inl ⟨by rfl, ?_⟩) ?_ ?_
                                rotate_left
                                · intro w'
                                  go_simp
                                  with_reducible rfl
                                rotate_left
                                · simp only [Act.put, List.setIfInBounds_toArray, List.set_cons_zero, List.set_cons_succ, i64_w, i32_w]
                                  rfl
                                refine pure_ (i := 17) (N := some 25) (v := ?_) (a' := ?_) #[true, true, true, true, true, true, true, true, true, true, true, true, true, true, true, true, true, true] rfl rfl (by kernel_rfl) (fun _ _ _ h => h) (Or.inl ⟨by rfl, ?_⟩) ?_ ?_
                                rotate_left
                                · intro w'
                                  go_simp
                                  with_reducible rfl
                                rotate_left
                                · simp only [Act.put, List.setIfInBounds_toArray, List.set_cons_zero, List.set_cons_succ, i64_w, i32_w]
                                  rfl
                                refine done_ (by kernel_rfl) ?_
                                go_wp2_with fail
                                go_roundw
                                case rel => exact ⟨q + 1, true, by first | exact congrArg (Value.int .i64) w5_ | rfl, rfl, HQL.out, ⟨HOK4.out.symm⟩, HBD⟩
                                case measure => exact meas_lt HQL.out (by first | exact congrArg (Value.int .i64) w5_ | rfl)
                              · have s1 : (bi == ci) = false := beq_eq_false_iff_ne.mpr hbc
                                have s2 : decide (bi = ci) = false := decide_eq_false hbc
                                have HOK3 := HOK2.out
                                rw [s1] at HOK3
                                have HOK4 := Aside0.mk HOK3
                                clear hbc HOK3
                                refine start_ (n := 18) (S := fun w' => w'.cell? ⟨g9, i, none⟩ = some (.int .u8 bi) ∧ w'.cell? ⟨am, j, none⟩ = some (.slice (some ⟨g j, off, none⟩) L cp) ∧ w'.cell? ⟨g j, off + q, none⟩ = some (.slice (some ⟨gp, 0, none⟩) 512 cq) ∧ w'.cell? ⟨gp, i, none⟩ = some (.int .u8 ci)) (ds := []) #[false, false, false, false, false, false, false, false, false, false, false, false, false, false, false, false, false, false] (by kernel_rfl) rfl rfl ⟨HC.out.1, HC.out.2.1, HC.out.2.2.1, HC.out.2.2.2⟩ (fun hHeld => ?_)
                                refine pure_ (i := 0) (N := some 171) (v := ?_) (a' := ?_) #[true, false, false, false, false, false, false, false, false, false, false, false, false, false, false, false, false, false] rfl rfl (by kernel_rfl) (fun _ _ _ h => h) (Or.inl ⟨by rfl, ?_⟩) ?_ ?_
                                rotate_left
                                · intro w'
                                  go_simp
                                  with_reducible rfl
                                rotate_left
                                · simp only [Act.put, List.setIfInBounds_toArray, List.set_cons_zero, List.set_cons_succ, i64_w, i32_w]
                                  rfl
                                refine pure_ (i := 1) (N := some 172) (v := ?_) (a' := ?_) #[true, true, false, false, false, false, false, false, false, false, false, false, false, false, false, false, false, false] rfl rfl (by kernel_rfl) (fun _ _ _ h => h) (Or.inl ⟨by rfl, ?_⟩) ?_ ?_
                                rotate_left
                                · intro w'
                                  go_simp
                                  with_reducible rfl
                                rotate_left
                                · simp only [Act.put, List.setIfInBounds_toArray, List.set_cons_zero, List.set_cons_succ, i64_w, i32_w]
                                  rfl
                                refine pure_ (i := 2) (N := some 173) (v := ?_) (a' := ?_) #[true, true, true, false, false, false, false, false, false, false, false, false, false, false, false, false, false, false] rfl rfl (by kernel_rfl) (fun _ _ _ h => h) (Or.inl ⟨by rfl, ?_⟩) ?_ ?_
                                rotate_left
                                · intro w'
                                  go_simp
                                  with_reducible rfl
                                rotate_left
                                · simp only [Act.put, List.setIfInBounds_toArray, List.set_cons_zero, List.set_cons_succ, i64_w, i32_w]
                                  rfl
                                refine pure_ (i := 3) (N := some 174) (v := ?_) (a' := ?_) #[true, true, true, true, false, false, false, false, false, false, false, false, false, false, false, false, false, false] rfl rfl (by kernel_rfl) (fun _ _ _ h => h) (Or.inl ⟨by rfl, ?_⟩) ?_ ?_
                                rotate_left
                                · intro w'
                                  go_simp
                                  with_reducible rfl
                                rotate_left
                                · simp only [Act.put, List.setIfInBounds_toArray, List.set_cons_zero, List.set_cons_succ, i64_w, i32_w]
                                  rfl
                                refine pure_ (i := 4) (N := some 175) (v := ?_) (a' := ?_) #[true, true, true, true, true, false, false, false, false, false, false, false, false, false, false, false, false, false] rfl rfl (by kernel_rfl) (fun _ _ _ h => h) (Or.inl ⟨by rfl, ?_⟩) ?_ ?_
                                rotate_left
                                · intro w'
                                  go_simp
                                  with_reducible rfl
                                rotate_left
                                · simp only [Act.put, List.setIfInBounds_toArray, List.set_cons_zero, List.set_cons_succ, i64_w, i32_w]
                                  rfl
                                refine pure_ (i := 6) (N := some 177) (v := ?_) (a' := ?_) #[true, true, true, true, true, false, true, false, false, false, false, false, false, false, false, false, false, false] rfl rfl (by kernel_rfl) (fun _ _ _ h => h) (Or.inl ⟨by rfl, ?_⟩) ?_ ?_
                                rotate_left
                                · intro w'
                                  go_simp
                                  with_reducible rfl
                                rotate_left
                                · simp only [Act.put, List.setIfInBounds_toArray, List.set_cons_zero, List.set_cons_succ, i64_w, i32_w]
                                  rfl
                                refine pure_ (i := 7) (N := some 178) (v := ?_) (a' := ?_) #[true, true, true, true, true, false, true, true, false, false, false, false, false, false, false, false, false, false] rfl rfl (by kernel_rfl) (fun _ _ _ h => h) (Or.inl ⟨by rfl, ?_⟩) ?_ ?_
                                rotate_left
                                · intro w'
                                  go_simp
                                  with_reducible rfl
                                rotate_left
                                · simp only [Act.put, List.setIfInBounds_toArray, List.set_cons_zero, List.set_cons_succ, i64_w, i32_w]
                                  rfl
                                refine pure_ (i := 9) (N := some 180) (v := ?_) (a' := ?_) #[true, true, true, true, true, false, true, true, false, true, false, false, false, false, false, false, false, false] rfl rfl (by kernel_rfl) (fun _ _ _ h => h) (Or.inl ⟨by rfl, ?_⟩) ?_ ?_
                                rotate_left
                                · intro w'
                                  go_simp
                                  with_reducible rfl
                                rotate_left
                                · simp only [Act.put, List.setIfInBounds_toArray, List.set_cons_zero, List.set_cons_succ, i64_w, i32_w]
                                  rfl
                                refine pure_ (i := 12) (N := some 183) (v := ?_) (a' := ?_) #[true, true, true, true, true, false, true, true, false, true, false, false, true, false, false, false, false, false] rfl rfl (by kernel_rfl) (fun _ _ _ h => h) (Or.inl ⟨by rfl, ?_⟩) ?_ ?_
                                rotate_left
                                · intro w'
                                  go_simp
                                  with_reducible rfl
                                rotate_left
                                · simp only [Act.put, List.setIfInBounds_toArray, List.set_cons_zero, List.set_cons_succ, i64_w, i32_w]
                                  rfl
                                refine take_ (i := 5) (N := some 176) (v := ?_) (a' := ?_) #[true, true, true, true, true, true, true, true, false, true, false, false, true, false, false, false, false, false] rfl rfl (by kernel_rfl) (fun _ _ _ h => h) (Or.inl ⟨by rfl, ?_⟩) hHeld ?_ ?_
                                rotate_left
                                · rintro w' ⟨s0, s1, s2, s3⟩
                                  go_simp
                                  with_reducible rfl
                                rotate_left
                                · simp only [Act.put, List.setIfInBounds_toArray, List.set_cons_zero, List.set_cons_succ, i64_w, i32_w]
                                  rfl
                                refine take_ (i := 8) (N := some 179) (v := ?_) (a' := ?_) #[true, true, true, true, true, true, true, true, true, true, false, false, true, false, false, false, false, false] rfl rfl (by kernel_rfl) (fun _ _ _ h => h) (Or.inl ⟨by rfl, ?_⟩) hHeld ?_ ?_
                                rotate_left
                                · rintro w' ⟨s0, s1, s2, s3⟩
                                  go_simp
                                  with_reducible rfl
                                rotate_left
                                · simp only [Act.put, List.setIfInBounds_toArray, List.set_cons_zero, List.set_cons_succ, i64_w, i32_w]
                                  rfl
                                refine pure_ (i := 10) (N := some 181) (v := ?_) (a' := ?_) #[true, true, true, true, true, true, true, true, true, true, true, false, true, false, false, false, false, false] rfl rfl (by kernel_rfl) (fun _ _ _ h => h) (Or.inl ⟨by rfl, ?_⟩) ?_ ?_
                                rotate_left
                                · intro w'
                                  go_simp
                                  with_reducible rfl
                                rotate_left
                                · simp only [Act.put, List.setIfInBounds_toArray, List.set_cons_zero, List.set_cons_succ, i64_w, i32_w]
                                  rfl
                                refine take_ (i := 11) (N := some 182) (v := ?_) (a' := ?_) #[true, true, true, true, true, true, true, true, true, true, true, true, true, false, false, false, false, false] rfl rfl (by kernel_rfl) (fun _ _ _ h => h) (Or.inl ⟨by rfl, ?_⟩) hHeld ?_ ?_
                                rotate_left
                                · rintro w' ⟨s0, s1, s2, s3⟩
                                  go_simp
                                  with_reducible rfl
                                rotate_left
                                · simp only [Act.put, List.setIfInBounds_toArray, List.set_cons_zero, List.set_cons_succ, i64_w, i32_w]
                                  rfl
                                refine pure_ (i := 13) (N := some 184) (v := ?_) (a' := ?_) #[true, true, true, true, true, true, true, true, true, true, true, true, true, true, false, false, false, false] rfl rfl (by kernel_rfl) (fun _ _ _ h => h) (Or.inl ⟨by rfl, ?_⟩) ?_ ?_
                                rotate_left
                                · intro w'
                                  go_simp
                                  with_reducible rfl
                                rotate_left
                                · simp only [Act.put, List.setIfInBounds_toArray, List.set_cons_zero, List.set_cons_succ, i64_w, i32_w]
                                  rfl
                                refine take_ (i := 14) (N := some 185) (v := ?_) (a' := ?_) #[true, true, true, true, true, true, true, true, true, true, true, true, true, true, true, false, false, false] rfl rfl (by kernel_rfl) (fun _ _ _ h => h) (Or.inl ⟨by rfl, ?_⟩) hHeld ?_ ?_
                                rotate_left
                                · rintro w' ⟨s0, s1, s2, s3⟩
                                  go_simp
                                  with_reducible rfl
                                rotate_left
                                · simp only [Act.put, List.setIfInBounds_toArray, List.set_cons_zero, List.set_cons_succ, i64_w, i32_w]
                                  rfl
                                refine pure_ (i := 15) (N := some 186) (v := ?_) (a' := ?_) #[true, true, true, true, true, true, true, true, true, true, true, true, true, true, true, true, false, false] rfl rfl (by kernel_rfl) (fun _ _ _ h => h) (Or.inl ⟨by rfl, ?_⟩) ?_ ?_
                                rotate_left
                                · intro w'
                                  go_simp
                                  with_reducible rfl
                                rotate_left
                                · simp only [Act.put, List.setIfInBounds_toArray, List.set_cons_zero, List.set_cons_succ, i64_w, i32_w]
                                  rfl
                                refine pure_ (i := 16) (N := some 187) (v := ?_) (a' := ?_) #[true, true, true, true, true, true, true, true, true, true, true, true, true, true, true, true, true, false] rfl rfl (by kernel_rfl) (fun _ _ _ h => h) (Or.inl ⟨by rfl, ?_⟩) ?_ ?_
                                rotate_left
                                · intro w'
                                  go_simp
                                  with_reducible rfl
                                rotate_left
                                · simp only [Act.put, List.setIfInBounds_toArray, List.set_cons_zero, List.set_cons_succ, i64_w, i32_w]
                                  rfl
                                refine pure_ (i := 17) (N := some 25) (v := ?_) (a' := ?_) #[true, true, true, true, true, true, true, true, true, true, true, true, true, true, true, true, true, true] rfl rfl (by kernel_rfl) (fun _ _ _ h => h) (Or.inl ⟨by rfl, ?_⟩) ?_ ?_
                                rotate_left
                                · intro w'
                                  go_simp
                                  with_reducible rfl
                                rotate_left
                                · simp only [Act.put, List.setIfInBounds_toArray, List.set_cons_zero, List.set_cons_succ, i64_w, i32_w]
                                  rfl
                                refine done_ (by kernel_rfl) ?_
                                go_wp2_with fail
                                go_roundw
                                case rel => exact ⟨q + 1, false, by first | exact congrArg (Value.int .i64) w5_ | rfl, rfl, HQL.out, ⟨HOK4.out.symm⟩, HBD⟩
                                case measure => exact meas_lt HQL.out (by first | exact congrArg (Value.int .i64) w5_ | rfl)
                          · have hqe : q = L := by omega
                            have hok : okv = true := by
                              rw [HOK.out, hqe, HRW.out.2.2.1, List.take_length, HI.out.2 j HJ.out, HPJ.out.1]
                              exact mend_has s l1 a2 a3 HL5.out HC5.out (j : Int) i HI5.out
                            subst hok
                            have hqi : ¬ (q : Int) < (L : Int) := fun h => hqL (Int.ofNat_lt.1 h)
                            have r2 : ((q : Int) < (L : Int)) = False := eq_false hqi
                            have r3 : decide ((q : Int) < (L : Int)) = false := decide_eq_false hqi
                            have r4 : (q < L) = False := eq_false hqL
                            have r5 : decide (q < L) = false := decide_eq_false hqL
                            clear hqe hqL hq hqi
                            go_wp2
                            go_roundw
                            case rel => exact ⟨i + 1, by first | exact congrArg (Value.int .i64) w4_ | rfl, HI5.out, HB7⟩
                            case measure => exact meas_lt HI5.out (by first | exact congrArg (Value.int .i64) w4_ | rfl)
                      · have hii : ¬ (i : Int) < 512 := by omega
                        have p2 : ((i : Int) < 512) = False := eq_false hii
                        have p3 : decide ((i : Int) < 512) = false := decide_eq_false hii
                        have p4 : (i < 512) = False := eq_false hi5
                        have HB8 := Aside0.mk (below_step HQ1.out HB6.out)
                        clear hi5 hi hii
                        go_wp2
                        go_roundw
                        case rel => exact ⟨j + 1, by first | exact congrArg (Value.int .i64) w3_ | rfl, HJ.out, HB8⟩
                        case measure => exact meas_lt HJ.out (by first | exact congrArg (Value.int .i64) w3_ | rfl)
                  · have hji : ¬ (j : Int) < 3 := by omega
                    have q2 : ((j : Int) < 3) = False := eq_false hji
                    have q3 : decide ((j : Int) < 3) = false := decide_eq_false hji
                    have q4 : (j < 3) = False := eq_false hj3
                    clear hj3 hj hji
                    go_upto_region 56 with fail
                    obtain ⟨sI, hsI⟩ : ∃ sI, sI = strOfNums img := ⟨_, rfl⟩
                    have HSI := Aside0.mk hsI
                    have HO4 := Aside0.mk (Kd.R_below HO3.out HQ.out)
                    have cI : Aside0 ((convert 30 9 (.slice (some ⟨g7, 0, none⟩) 1536 cap)).run Try.prog wr.drew = .ok (.string sI) wr.drew) := ⟨by rw [hsI]; exact row_string (Kd.R_drew HO4.out)⟩
                    have HX3 := Aside0.mk (DS.step (HP4.out.snd.step HQ.out) (below_drew1 (Below.refl _ _)))
                    have HB6 := Aside0.mk (below_step HB5.out HQ.out)
                    have EX : Aside0 (imageP (mendS s (List.replicate 100 true) (-1) 0) 3 = img) := ⟨(imageP_congr (fun n => mend_all s HL5.out HC5.out 100 (by have := HCL.out; have := HKL.out; omega) n) 3).trans HIMG.out.symm⟩
                    clear hsI
                    refine start_ (n := 7) (S := fun w' => (convert 30 9 (.slice (some ⟨g7, 0, none⟩) 1536 cap)).run Try.prog w' = .ok (.string sI) w') (ds := []) #[false, false, false, false, false, false, false] (by kernel_rfl) rfl rfl (cI.out) (fun hHeld => ?_)
                    refine pure_ (i := 0) (N := some 190) (v := ?_) (a' := ?_) #[true, false, false, false, false, false, false] rfl rfl (by kernel_rfl) (fun _ _ _ h => h) (Or.inl ⟨by rfl, ?_⟩) ?_ ?_
                    rotate_left
                    · intro w'
                      go_simp
                      with_reducible rfl
                    rotate_left
                    · simp only [Act.put, List.setIfInBounds_toArray, List.set_cons_zero, List.set_cons_succ, i64_w, i32_w]
                      rfl
                    refine pure_ (i := 3) (N := some 193) (v := ?_) (a' := ?_) #[true, false, false, true, false, false, false] rfl rfl (by kernel_rfl) (fun _ _ _ h => h) (Or.inl ⟨by rfl, ?_⟩) ?_ ?_
                    rotate_left
                    · intro w'
                      go_simp
                      with_reducible rfl
                    rotate_left
                    · simp only [Act.put, List.setIfInBounds_toArray, List.set_cons_zero, List.set_cons_succ, i64_w, i32_w]
                      rfl
                    refine take_ (i := 4) (N := some 194) (v := ?_) (a' := ?_) #[true, false, false, true, true, false, false] rfl rfl (by kernel_rfl) (fun _ _ _ h => h) (Or.inl ⟨by rfl, ?_⟩) hHeld ?_ ?_
                    rotate_left
                    · intro w' s0
                      go_simp
                      with_reducible rfl
                    rotate_left
                    · simp only [Act.put, List.setIfInBounds_toArray, List.set_cons_zero, List.set_cons_succ, i64_w, i32_w]
                      rfl
                    refine one_ (i := 1) (N := some 191) #[true, true, false, true, true, false, false] rfl rfl (by kernel_rfl) (by decide) (fun K hK => ?_)
                    refine goes_ Try.func21 (by kernel_rfl) rfl #[.pointer (some ⟨c, 0, none⟩)] (by rfl) rfl rfl (by simp only [List.map_toArray, List.map_cons, List.map_nil]; rfl) ?_
                    with_reducible refine (ds_image0 3 ((mend_pages _ _ _ _).trans HIM0.out) img EX.out 1536 (by decide) _ HX3.out).mono ?_
                    rintro e w9 ⟨gx, cx, rfl, _, ho, hb0⟩
                    refine ⟨_, rfl, ?_⟩
                    have hb := Below.of_drew wr hb0
                    have HOX := Aside0.mk ho
                    have HO5 := Aside0.mk (Kd.R_below HO4.out hb)
                    have HB7 := Aside0.mk (below_step HB6.out hb)
                    clear ho hb hb0
                    have cX : (convert 30 9 (.slice (some ⟨gx, 0, none⟩) 1536 cx)).run Try.prog w9 = .ok (.string sI) w9 := by rw [HSI.out]; exact row_string HOX.out
                    have cI9 : (convert 30 9 (.slice (some ⟨g7, 0, none⟩) 1536 cap)).run Try.prog w9 = .ok (.string sI) w9 := by rw [HSI.out]; exact row_string HO5.out
                    refine hK.out _ _ (cI9) (fun hHeld => ?_)
                    clear hK K
                    refine norm_ (a' := ?_) ?_ ?_
                    rotate_left
                    · show Act.put _ (some 191) _ = _
                      simp only [Act.put, List.setIfInBounds_toArray, List.set_cons_zero, List.set_cons_succ, i64_w, i32_w]
                      rfl
                    refine one_ (i := 2) (N := some 192) #[true, true, true, true, true, false, false] rfl rfl (by kernel_rfl) (by decide) (fun K hK => ?_)
                    refine value_ (w1 := w9) (v := .string sI) (by rfl) rfl (exec_convert 30 9 (.tmp 191) rfl (by rfl) cX) ?_
                    refine hK.out _ _ (cI9) (fun hHeld => ?_)
                    clear hK K
                    refine norm_ (a' := ?_) ?_ ?_
                    rotate_left
                    · show Act.put _ (some 192) _ = _
                      simp only [Act.put, List.setIfInBounds_toArray, List.set_cons_zero, List.set_cons_succ, i64_w, i32_w]
                      rfl
                    refine pure_ (i := 5) (N := some 195) (v := ?_) (a' := ?_) #[true, true, true, true, true, true, false] rfl rfl (by kernel_rfl) (fun _ _ _ h => h) (Or.inl ⟨by rfl, ?_⟩) ?_ ?_
                    rotate_left
                    · intro w'
                      go_simp
                      with_reducible rfl
                    rotate_left
                    · simp only [Act.put, List.setIfInBounds_toArray, List.set_cons_zero, List.set_cons_succ, i64_w, i32_w]
                      rfl
                    refine pure_ (i := 6) (N := some 8) (v := ?_) (a' := ?_) #[true, true, true, true, true, true, true] rfl rfl (by kernel_rfl) (fun _ _ _ h => h) (Or.inl ⟨by rfl, ?_⟩) ?_ ?_
                    rotate_left
                    · intro w'
                      go_simp
                      with_reducible rfl
                    rotate_left
                    · simp only [Act.put, List.setIfInBounds_toArray, List.set_cons_zero, List.set_cons_succ, i64_w, i32_w]
                      rfl
                    refine done_ (by kernel_rfl) ?_
                    go_wp2_with fail
                    go_ret
                    exact ⟨by simp, HB7.out⟩
          have FIN := Aside0.mk fin
          clear hK fin
          by_cases h2 : k < l0.length
          · have b2 : decide ((k : Int) < (l0.length : Int)) = true := decide_eq_true (by omega)
            have b3 : decide ((k : Int) < 60) = false := decide_eq_false (by omega)
            have b4 : (k < l0.length) = True := eq_true h2
            have b5 : (k < 60) = False := eq_false (by omega)
            have b6 : ((k : Int) < (l0.length : Int)) = True := eq_true (by omega)
            have b7 : ((k : Int) < 60) = False := eq_false (by omega)
            clear hlt h2 hk hkl
            go_wp2_with fail
            exact FIN.out _ _ _ _ _ _ _ _ _ _ _ _ _ _ _ _ _ _ _ _ _ _ _ _ _ _ _ _ _ _ _ _ _ _ _ _ _ _ _ _ _ _ _ _ _ _ _ _ _ _ _ _ _ _ _ _ _ _ _ _ _ _ _ _ _ _ _ _ _ _ _ _ _ _ _ _ _ _ _ _ _ _ _ _ _ _ _ _ _ _ _ _ _ _ _ _ _ _ _ _ _ _ _ _ _ _ _ _ _ _ _ _ _ _ _ _ _ _ _ _ _ _ _ _ _ _ _ _ _ _ _ _ _ _ _ _ _ _ _ _ _ _ _ _ _ _ _ _ _ _ _ _ _ _ _ _ _ _ _ _ _ _ _ _ _ _ _ _ _ _ _ _ _ _ _ _ _ _ _ _ _ _ _ _ _ _ _ _ _ _ _
          · have b2 : decide ((k : Int) < (l0.length : Int)) = false := decide_eq_false (by omega)
            have b4 : (k < l0.length) = False := eq_false h2
            have b6 : ((k : Int) < (l0.length : Int)) = False := eq_false (by omega)
            clear hlt h2 hk hkl
            go_wp2_with fail
            exact FIN.out _ _ _ _ _ _ _ _ _ _ _ _ _ _ _ _ _ _ _ _ _ _ _ _ _ _ _ _ _ _ _ _ _ _ _ _ _ _ _ _ _ _ _ _ _ _ _ _ _ _ _ _ _ _ _ _ _ _ _ _ _ _ _ _ _ _ _ _ _ _ _ _ _ _ _ _ _ _ _ _ _ _ _ _ _ _ _ _ _ _ _ _ _ _ _ _ _ _ _ _ _ _ _ _ _ _ _ _ _ _ _ _ _ _ _ _ _ _ _ _ _ _ _ _ _ _ _ _ _ _ _ _ _ _ _ _ _ _ _ _ _ _ _ _ _ _ _ _ _ _ _ _ _ _ _ _ _ _ _ _ _ _ _ _ _ _ _ _ _ _ _ _ _ _ _ _ _ _ _ _ _ _ _ _ _ _ _ _ _ _ _
end Go.Proofs.Ytehgbikleiaagaa.P
end
section
namespace Go.Proofs.Ytehgbikleiaagaa.Pure
open Go.RowKit Go.Proofs.Ytehgbikleiaagaa.P Go.Proofs.YtehgbikleiaagaaW.PrintWords Go.Proofs.YtehgbikleiaagaaW.PrintLast
theorem lt_of_wf {n : Int} (h : (Lit.int .i64 n).wf = true) : n < 9223372036854775808 := by
  simp [Lit.wf, IntKind.min, IntKind.max, IntKind.signed, IntKind.bits] at h
  omega
theorem DiskBytes : ∀ (l0 : List (S32)) (l1 : List (Bool)) (a2 : Int) (a3 : Int), G22 l0 → G23 l1 → (Lit.int .i64 a2).wf = true → (Lit.int .i64 a3).wf = true → quarrylaw05_DiskBytes.f l0 l1 a2 a3 = some true := by
  intro l0 l1 a2 a3 h _ _ _
  unfold quarrylaw05_DiskBytes.f
  rw [if_pos]
  rw [List.all_eq_true]
  intro x hx
  exact decide_eq_true (lt_of_wf (h.1 x hx).2.1)
end Go.Proofs.Ytehgbikleiaagaa.Pure
end

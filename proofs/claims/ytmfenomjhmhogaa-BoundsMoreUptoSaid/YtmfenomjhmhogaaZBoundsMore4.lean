/- Laid by a program of this session out of its texts for the law BoundsMore, part 4. -/
import Derived.Lib.Bytealg
import Derived.Test.YtmfenomjhmhogaaZBoundsMore3
section
namespace Go.Proofs.Ytmfenomjhmhogaa.P
open Go.RowKit Go.Proofs.YtmfenomjhmhogaaW.PrintWords Go.Proofs.YtmfenomjhmhogaaW.PrintLast Go.Proofs.YtmfenomjhmhogaaW.PrintMore
attribute [local go_sem] max2_int min2_int max_two min_two max_three min_three max_four min_four
set_option linter.unusedVariables false
set_option linter.unusedSimpArgs false
def quarryref03_Next.l0 : Nat → List Int → Int → Option (List Int × Bool)
 | 0, _, _ => none
 | k + 1, x0, x4 => if x4 > 0 then (if 0 ≤ (wrap64 (x4 - 1)) then (if (wrap64 (x4 - 1)) < (x0.length : Int) then (if (rd x0 (wrap64 (x4 - 1))) = 255 then (quarryref03_Next.l0 k x0 (wrap64 (x4 - 1))) else (if x4 = 0 then (some (([] : List Int), false)) else ((some (([] : List Int) : List Int)).bind fun y135 => (if 0 ≤ x4 then (if x4 ≤ (x0.length : Int) then (if y135.length + (x0.take (x4 : Int).toNat).length < 140737488355328 then ((some (y135 ++ (x0.take (x4 : Int).toNat) : List Int)).bind fun y139 => (if (wrap64 (x4 - 1)) < (y139.length : Int) then (some ((y139.set ((wrap64 (x4 - 1)) : Int).toNat (((rd y139 (wrap64 (x4 - 1))) + 1) % 256)), true)) else (none))) else (none)) else (none)) else (none))))) else (none)) else (none)) else (if x4 = 0 then (some (([] : List Int), false)) else ((some (([] : List Int) : List Int)).bind fun y144 => (if 0 ≤ x4 then (if x4 ≤ (x0.length : Int) then (if y144.length + (x0.take (x4 : Int).toNat).length < 140737488355328 then ((some (y144 ++ (x0.take (x4 : Int).toNat) : List Int)).bind fun y148 => (if 0 ≤ (wrap64 (x4 - 1)) then (if (wrap64 (x4 - 1)) < (y148.length : Int) then (some ((y148.set ((wrap64 (x4 - 1)) : Int).toNat (((rd y148 (wrap64 (x4 - 1))) + 1) % 256)), true)) else (none)) else (none))) else (none)) else (none)) else (none))))
def quarryref03_Next.f (k : Nat) (l0 : List Int) : Option (List Int × Bool) := quarryref03_Next.l0 k l0 (l0.length : Int)
set_option maxHeartbeats 8000000 in
set_option maxRecDepth 100000 in
theorem quarryref03_Next.calls (k : Nat) (A0 : Option Addr) (c0 : Nat) (l0 : List Int) (r1 : List Int) (r2 : Bool) (w : World) (hr0 : Kd.C (Kd.int .u8) w A0 l0.length l0) (hc0 : l0.length ≤ c0) (h : quarryref03_Next.f k l0 = some (r1, r2)) :
  Calls Try.prog 37 #[.slice A0 l0.length c0] w fun e w' => ∃ v0_ : Value, e = .returned (.tuple #[v0_, .bool r2]) ∧ Kd.R (Kd.int .u8) 5 w' w.heap.size (fun _ => True) v0_ r1 ∧ Below w.heap.size w w' := by
 have HR0 := Aside0.mk hr0
 have HC0 := Aside0.mk hc0
 clear hr0 hc0
 have HB := Aside0.mk (Below.refl w.heap.size w)
 have H : (quarryref03_Next.l0 k l0 (l0.length : Int)) = some (r1, r2) := h
 clear h
 have H' := Aside0.mk H
 clear H
 go_enter Try.func37, Try.ntmps37
 go_wp2
 go_loopg [4] k (fun kq v4 w' => ∃ (x4_1 : Int), v4 = .int .i64 x4_1 ∧ Aside0 (quarryref03_Next.l0 kq l0 x4_1 = some (r1, r2)) ∧ Aside0 (kq ≤ k) ∧ Aside0 (Below w.heap.size w w'))
 case atStart => exact ⟨((l0.length : Int)), (by first | rfl | (simp; done) | (simp [*]; done)), H', ⟨Nat.le_refl _⟩, ⟨by repeat (first | (with_reducible first | exact HB.out | apply below_alloc | apply pw_below_drewN | apply below_drew1) | exact HB.out)⟩⟩
 case round =>
  clear H'
  obtain ⟨x4_1, rfl, HA, HK1, HB⟩ := hrel
  cases gk with
  | zero => exact absurd HA.out (by simp [quarryref03_Next.l0])
  | succ k1 =>
   have H := HA.out
   clear HA
   simp only [quarryref03_Next.l0] at H
   by_cases c2 : x4_1 > 0
   ·rw [if_pos c2] at H
    have c2b0 : decide (0 < x4_1) = true := decide_eq_true c2
    clear c2
    obtain ⟨ji3, hji3⟩ : ∃ j_ : Int, (wrap64 (x4_1 - 1)) = j_ := ⟨_, rfl⟩
    replace H : (if 0 ≤ (ji3) then (if (ji3) < (l0.length : Int) then (if (rd l0 (ji3)) = 255 then (quarryref03_Next.l0 k1 l0 ji3) else (if x4_1 = 0 then (some (([] : List Int), false)) else ((some (([] : List Int) : List Int)).bind fun y135 => (if 0 ≤ x4_1 then (if x4_1 ≤ (l0.length : Int) then (if y135.length + (l0.take (x4_1 : Int).toNat).length < 140737488355328 then ((some (y135 ++ (l0.take (x4_1 : Int).toNat) : List Int)).bind fun y139 => (if (ji3) < (y139.length : Int) then (some ((y139.set ((ji3) : Int).toNat (((rd y139 (ji3)) + 1) % 256)), true)) else (none))) else (none)) else (none)) else (none))))) else (none)) else (none)) = some (r1, r2) := by first | (rw [hji3] at H; exact H) | (simp only [hji3] at H ⊢; exact H)
    have hji3w : (IntKind.i64.wrap (x4_1 - 1)) = ji3 := (i64_w _).trans hji3
    by_cases c4 : 0 ≤ (ji3)
    ·rw [if_pos c4] at H
     have c4b0 : decide (0 ≤ (ji3)) = true := decide_eq_true c4
     clear c4
     by_cases c5 : (ji3) < (l0.length : Int)
     ·rw [if_pos c5] at H
      have c5b0 : decide ((ji3) < (l0.length : Int)) = true := decide_eq_true c5
      clear c5
      by_cases c6 : (rd l0 (ji3)) = 255
      ·rw [if_pos c6] at H
       have c6b0 : ((rd l0 (ji3)) == 255) = true := beq_iff_eq.mpr c6
       have c6b1 : ((rd l0 (ji3)) != 255) = false := bne_eq_false_iff_eq.mpr c6
       clear c6
       have H' := Aside0.mk H
       clear H
       have p134 : 0 ≤ ((ji3) : Int) := of_decide_eq_true (by first | (with_reducible assumption) | assumption)
       have q134 : (ji3) < (l0.length : Int) := of_decide_eq_true (by first | (with_reducible assumption) | assumption)
       obtain ⟨ad134, e134, hx134_0⟩ := Kd.at_int HR0.out (ji3) p134 q134
       cases e134
       replace hx134_0 := (HB.out.cell (World.block_lt_of_cell? w _ hx134_0)).trans hx134_0
       replace p134 := eq_true p134
       replace q134 := eq_true q134
       go_wp2
       go_roundg k1
       case measure => have := HK1.out; omega
       case rel => exact ⟨(ji3), (by first | rfl | (simp; done) | (simp only [← hji3] <;> (first | rfl | simp)) | (simp [*]; done)), H', ⟨by have := HK1.out; omega⟩, ⟨by repeat (first | (with_reducible first | exact HB.out | apply below_alloc | apply pw_below_drewN | apply below_drew1) | exact HB.out)⟩⟩
      ·rw [if_neg c6] at H
       have c6b0 : ((rd l0 (ji3)) == 255) = false := beq_eq_false_iff_ne.mpr c6
       have c6b1 : ((rd l0 (ji3)) != 255) = true := bne_iff_ne.mpr c6
       by_cases c7 : x4_1 = 0
       ·rw [if_pos c7] at H
        have c7b0 : (x4_1 == 0) = true := beq_iff_eq.mpr c7
        have c7b1 : (x4_1 != 0) = false := bne_eq_false_iff_eq.mpr c7
        clear c7
        simp only [Option.some.injEq, Prod.mk.injEq] at H
        obtain ⟨rfl, rfl⟩ := H
        have p134 : 0 ≤ ((ji3) : Int) := of_decide_eq_true (by first | (with_reducible assumption) | assumption)
        have q134 : (ji3) < (l0.length : Int) := of_decide_eq_true (by first | (with_reducible assumption) | assumption)
        obtain ⟨ad134, e134, hx134_0⟩ := Kd.at_int HR0.out (ji3) p134 q134
        cases e134
        replace hx134_0 := (HB.out.cell (World.block_lt_of_cell? w _ hx134_0)).trans hx134_0
        replace p134 := eq_true p134
        replace q134 := eq_true q134
        go_wp2
        go_ret2
        exact ⟨_, by first | rfl | (simp [errW_none, errW_some] <;> rfl) | (simp only [← hji3]; first | rfl | (simp [errW_none, errW_some] <;> rfl)) | (simp [*, errW_none, errW_some] <;> rfl), by first | exact Kd.R_nil _ _ _ _ _ | exact Kd.N_nil _ _ _ _ _ | exact Kd.V_nil _ _ _ _ _ | exact Kd.Q_nil _ _ _ _ _ | exact Kd.S_nil _ _ _ _ _, by repeat (first | (with_reducible first | exact HB.out | apply below_alloc | apply pw_below_drewN | apply below_drew1) | exact HB.out)⟩
       ·rw [if_neg c7] at H
        have c7b0 : (x4_1 == 0) = false := beq_eq_false_iff_ne.mpr c7
        have c7b1 : (x4_1 != 0) = true := bne_iff_ne.mpr c7
        obtain ⟨y135, hy135⟩ : ∃ y_ : List Int, y_ = (([] : List Int)) := ⟨_, rfl⟩
        replace H : (if 0 ≤ x4_1 then (if x4_1 ≤ (l0.length : Int) then (if y135.length + (l0.take (x4_1 : Int).toNat).length < 140737488355328 then ((some (y135 ++ (l0.take (x4_1 : Int).toNat) : List Int)).bind fun y139 => (if (ji3) < (y139.length : Int) then (some ((y139.set ((ji3) : Int).toNat (((rd y139 (ji3)) + 1) % 256)), true)) else (none))) else (none)) else (none)) else (none)) = some (r1, r2) := by first | (rw [hy135]; with_reducible exact H) | (have H2_ := (Option.bind_some _ _).symm.trans H; rw [hy135]; with_reducible exact H2_) | (have H2_ := (Option.bind_some _ _).symm.trans H; with_reducible exact H2_) | with_reducible exact H | (rw [hy135]; exact H) | exact H
        have Ny135 := Aside0.mk hy135
        clear hy135
        by_cases c8 : 0 ≤ x4_1
        ·rw [if_pos c8] at H
         have c8b0 := eq_true c8
         have c8b1 : decide (0 ≤ x4_1) = true := decide_eq_true c8
         clear c8
         by_cases c9 : x4_1 ≤ (l0.length : Int)
         ·rw [if_pos c9] at H
          have c9b0 := eq_true c9
          have c9b1 : decide (x4_1 ≤ (l0.length : Int)) = true := decide_eq_true c9
          clear c9
          by_cases c10 : y135.length + (l0.take (x4_1 : Int).toNat).length < 140737488355328
          ·rw [if_pos c10] at H
           have LMc10 := Aside0.mk c10
           clear c10
           obtain ⟨y139, hy139⟩ : ∃ y_ : List Int, y_ = (y135 ++ (l0.take (x4_1 : Int).toNat)) := ⟨_, rfl⟩
           replace H : (if (ji3) < (y139.length : Int) then (some ((y139.set ((ji3) : Int).toNat (((rd y139 (ji3)) + 1) % 256)), true)) else (none)) = some (r1, r2) := by first | (rw [hy139]; with_reducible exact H) | (have H2_ := (Option.bind_some _ _).symm.trans H; rw [hy139]; with_reducible exact H2_) | (have H2_ := (Option.bind_some _ _).symm.trans H; with_reducible exact H2_) | with_reducible exact H | (rw [hy139]; exact H) | exact H
           have Ny139 := Aside0.mk hy139
           clear hy139
           by_cases c11 : (ji3) < (y139.length : Int)
           ·rw [if_pos c11] at H
            have c11b0 : decide ((ji3) < (y139.length : Int)) = true := decide_eq_true c11
            clear c11
            obtain ⟨y143, hy143⟩ : ∃ y_ : List Int, y_ = (y139.set ((ji3) : Int).toNat (((rd y139 (ji3)) + 1) % 256)) := ⟨_, rfl⟩
            replace H : (some (y143, true)) = some (r1, r2) := by first | (rw [hy143]; with_reducible exact H) | (have H2_ := (Option.bind_some _ _).symm.trans H; rw [hy143]; with_reducible exact H2_) | (have H2_ := (Option.bind_some _ _).symm.trans H; with_reducible exact H2_) | with_reducible exact H | (rw [hy143]; exact H) | exact H
            have Ny143 := Aside0.mk hy143
            clear hy143
            simp only [Option.some.injEq, Prod.mk.injEq] at H
            obtain ⟨rfl, rfl⟩ := H
            have p134 : 0 ≤ ((ji3) : Int) := of_decide_eq_true (by first | (with_reducible assumption) | assumption)
            have q134 : (ji3) < (l0.length : Int) := of_decide_eq_true (by first | (with_reducible assumption) | assumption)
            obtain ⟨ad134, e134, hx134_0⟩ := Kd.at_int HR0.out (ji3) p134 q134
            cases e134
            replace hx134_0 := (HB.out.cell (World.block_lt_of_cell? w _ hx134_0)).trans hx134_0
            replace p134 := eq_true p134
            replace q134 := eq_true q134
            go_wp2_with (first | ((with_reducible refine gate_dst (N := 22) rfl ?_); refine Kd.R_lit (Kd.int .u8) _ 5 ?hg (N := 22) ?hd (xs := ([] : List Int)) (inner := []) (ok := fun _ => True) (okp := fun _ => True) ?hr ?hp (fun _ hk => hk) trivial (Below.refl _ _) (Nat.le_refl _) (by simp) ?_; (case hd => rfl); (case hg => rfl); (case hr => first | (go_simp; done) | (go_simp; rfl)); (case hp => exact (Reps.none _ _)); intro v136 w13 ho14 hb hg_ hnew_; clear hg_ hnew_; (first | rw [← Ny135.out] at ho14 | (simp only [Int.reduceToNat] at ho14; rw [← Ny135.out] at ho14)); have n0_ := Aside0.mk (Kd.R_lower ho14 (below_size (by repeat (first | (with_reducible first | exact HB.out | apply below_alloc | apply pw_below_drewN | apply below_drew1) | exact HB.out)))); have n1_ := Aside0.mk (below_step (by repeat (first | (with_reducible first | exact HB.out | apply below_alloc | apply pw_below_drewN | apply below_drew1) | exact HB.out)) hb); clear HB; have HO137 := n0_; have HB := n1_; clear n0_ n1_; clear hb ho14; obtain ⟨i015, hi015, _, hsz15, _⟩ := info_parts info5; obtain ⟨hcut15, hA15, hC15⟩ := print_take_of (P := Try.prog) (Value.int .u8) 0 44 5 .i64 Try.underlying44 hi015 hsz15 (some ad134) c0 l0 x4_1 (of_decide_eq_true (by first | (with_reducible assumption) | assumption)) (of_decide_eq_true (by first | (with_reducible assumption) | assumption)) HC0.out; have HR138 := Aside0.mk (Kd.C_of_reads (h1 := fun _ => rfl) (hA15 _ (Kd.reads_of_C HR0.out))); have HC138 := Aside0.mk hC15; clear hA15 hC15 hi015 hsz15) | ((with_reducible refine gate_builtin (b := .append) (xs := #[.tmp 22, .tmp 25]) rfl ?_); at_builtin; refine Kd.R_append_rows (Kd.int .u8) (w0 := w) w.heap.size rfl (.tmp 22) (.tmp 25) 44 5 (.int .u8 0) 1 rfl Try.underlying44 info5 rfl (by decide) (by omega) v136 y135 (l0.take (x4_1 : Int).toNat) _ _ _ (fun _ => True) (fun _ => False) rfl rfl ?aO ?aR (fun _ _ h => h) (fun _ h => h.elim) ?aF ?aB ?aS ?aL ?_; (case aR => first | (have hl_ : (l0.take (x4_1 : Int).toNat).length = x4_1.toNat := (by rw [List.length_take]; have h_ : (x4_1 : Int) ≤ (l0.length : Int) := of_decide_eq_true (by first | (with_reducible assumption) | assumption); omega); have hq_ := (Kd.C_below HR138.out HB.out); rw [hl_] at hq_; exact hq_) | (rw [← show (l0.take (x4_1 : Int).toNat).length = x4_1.toNat from (by rw [List.length_take]; have h_ : (x4_1 : Int) ≤ (l0.length : Int) := of_decide_eq_true (by first | (with_reducible assumption) | assumption); omega)]; repeat (first | exact (Kd.C_below HR138.out HB.out) | (with_reducible refine Kd.C_alloc ?_ _) | (with_reducible refine Kd.C_drewN ?_ _) | (with_reducible refine Kd.C_drew ?_))) | (repeat (first | exact (Kd.C_below HR138.out HB.out) | (with_reducible refine Kd.C_alloc ?_ _) | (with_reducible refine Kd.C_drewN ?_ _) | (with_reducible refine Kd.C_drew ?_)))); (case aB => exact (by repeat (first | (with_reducible first | exact HB.out | apply below_alloc | apply pw_below_drewN | apply below_drew1) | exact HB.out))); (case aF => exact (fun _ _ => trivial)); (case aO => exact (by (with_reducible repeat (first | apply Kd.R_alloc | apply Kd.R_drewN | apply Kd.R_drew)); exact HO137.out)); (case aS => exact (below_size (by repeat (first | (with_reducible first | exact HB.out | apply below_alloc | apply pw_below_drewN | apply below_drew1) | exact HB.out)))); (case aL => have := LMc10.out; have hlx_ := (show (l0.take (x4_1 : Int).toNat).length = x4_1.toNat from (by rw [List.length_take]; have h_ : (x4_1 : Int) ≤ (l0.length : Int) := of_decide_eq_true (by first | (with_reducible assumption) | assumption); omega)); omega); intro v140 w16 ho hb hg hat; rw [← Ny139.out] at ho; have n0_ := Aside0.mk (hb); have n1_ := Aside0.mk (ho); clear HB; clear HO137; have HB := n0_; have HO141 := n1_; clear n0_ n1_; clear ho hb hg hat; obtain ⟨Ao17, co17, eo17⟩ := Kd.R_slice HO141.out; subst eo17; have p142 : 0 ≤ ((ji3) : Int) := of_decide_eq_true (by first | (with_reducible assumption) | assumption); have q142 : (ji3) < (y139.length : Int) := of_decide_eq_true (by first | (with_reducible assumption) | assumption); obtain ⟨ad142, e142, hx142_0⟩ := Kd.at_int (Kd.R_reads' HO141.out).2.2 (ji3) p142 q142; cases e142; replace p142 := eq_true p142; replace q142 := eq_true q142; have p12 : 0 ≤ ((ji3) : Int) := of_decide_eq_true (by first | (with_reducible assumption) | assumption); have q12 : ((ji3) : Int) < ((y139.length : Int) : Int) := of_decide_eq_true (by first | (with_reducible assumption) | assumption); obtain ⟨go12, co12, eo12, gb12, gl12, cl12, HG12⟩ := Kd.R_form HO141.out (by omega); (first | cases eo12 | (injection eo12 with ea_ en_ ec_; (first | subst ea_ | (injection ea_ with ea_; subst ea_)); subst ec_; clear en_)); have GB12 := Aside0.mk gb12; have GG12 := Aside0.mk HG12; clear gb12 gl12 HG12; (first | simp only [add_plain] at hx142_0 | skip); obtain ⟨hx12_0, hf12_0⟩ := Kd.R_celln 0 HO141.out ((ji3) : Int) p12 q12; replace p12 := eq_true p12; replace q12 := eq_true q12; obtain ⟨hy18_, hz18_⟩ := Kd.R_celln 0 HO141.out ((ji3) : Int) (of_decide_eq_true (by first | (with_reducible assumption) | assumption)) (of_decide_eq_true (by first | (with_reducible assumption) | assumption)); have HP18 := Kd.R_putg HO141.out ((ji3) : Int) (((rd y139 (ji3)) + 1) % 256)) | ((with_reducible refine gate_store (t := 5) (p := 33) rfl ?_); refine store_event (t := 5) (p := 33) (v := ?vo_w19) (w1 := (w16.setCell ⟨go12, ((ji3) : Int).toNat, none⟩ (.int .u8 (((rd y139 (ji3)) + 1) % 256)))) ?hg ?ho ?hn ?hr ?_; (case ho => rfl); (case hg => rfl); (case hn => rfl); (case hr => first | (go_simp; done) | (go_simp; rfl)); intro w19 hw; have hg : w16.grownBy w19 (some go12) := (by rw [hw]; exact HP18.2); have hp_ : Kd.R (Kd.int .u8) 5 w19 w.heap.size (fun _ => True) (.slice (some ⟨go12, 0, none⟩) y139.length co17) y143 := (by rw [hw, Ny143.out]; exact HP18.1); clear HP18; have n0_ := Aside0.mk (hp_); have n1_ := Aside0.mk ((by rw [hw]; exact below_set (HB.out) GB12.out : Below w.heap.size w w19)); clear HO141; clear HB; have HO141 := n0_; have HB := n1_; clear n0_ n1_; clear hg hw hp_))
            go_ret2
            exact ⟨_, by first | rfl | (simp [errW_none, errW_some] <;> rfl) | (simp only [← hji3]; first | rfl | (simp [errW_none, errW_some] <;> rfl)) | (simp [*, errW_none, errW_some] <;> rfl), by (with_reducible repeat (first | apply Kd.R_alloc | apply Kd.R_drewN | apply Kd.R_drew)); exact HO141.out, by repeat (first | (with_reducible first | exact HB.out | apply below_alloc | apply pw_below_drewN | apply below_drew1) | exact HB.out)⟩
           ·rw [if_neg c11] at H
            exact absurd H (by simp)
          ·rw [if_neg c10] at H
           exact absurd H (by simp)
         ·rw [if_neg c9] at H
          exact absurd H (by simp)
        ·rw [if_neg c8] at H
         exact absurd H (by simp)
     ·rw [if_neg c5] at H
      exact absurd H (by simp)
    ·rw [if_neg c4] at H
     exact absurd H (by simp)
   ·rw [if_neg c2] at H
    have c2b0 : decide (0 < x4_1) = false := decide_eq_false c2
    clear c2
    by_cases c20 : x4_1 = 0
    ·rw [if_pos c20] at H
     have c20b0 : (x4_1 == 0) = true := beq_iff_eq.mpr c20
     have c20b1 : (x4_1 != 0) = false := bne_eq_false_iff_eq.mpr c20
     clear c20
     simp only [Option.some.injEq, Prod.mk.injEq] at H
     obtain ⟨rfl, rfl⟩ := H
     go_wp2
     go_ret2
     exact ⟨_, by first | rfl | (simp [errW_none, errW_some] <;> rfl) | (simp [*, errW_none, errW_some] <;> rfl), by first | exact Kd.R_nil _ _ _ _ _ | exact Kd.N_nil _ _ _ _ _ | exact Kd.V_nil _ _ _ _ _ | exact Kd.Q_nil _ _ _ _ _ | exact Kd.S_nil _ _ _ _ _, by repeat (first | (with_reducible first | exact HB.out | apply below_alloc | apply pw_below_drewN | apply below_drew1) | exact HB.out)⟩
    ·rw [if_neg c20] at H
     have c20b0 : (x4_1 == 0) = false := beq_eq_false_iff_ne.mpr c20
     have c20b1 : (x4_1 != 0) = true := bne_iff_ne.mpr c20
     obtain ⟨y144, hy144⟩ : ∃ y_ : List Int, y_ = (([] : List Int)) := ⟨_, rfl⟩
     replace H : (if 0 ≤ x4_1 then (if x4_1 ≤ (l0.length : Int) then (if y144.length + (l0.take (x4_1 : Int).toNat).length < 140737488355328 then ((some (y144 ++ (l0.take (x4_1 : Int).toNat) : List Int)).bind fun y148 => (if 0 ≤ (wrap64 (x4_1 - 1)) then (if (wrap64 (x4_1 - 1)) < (y148.length : Int) then (some ((y148.set ((wrap64 (x4_1 - 1)) : Int).toNat (((rd y148 (wrap64 (x4_1 - 1))) + 1) % 256)), true)) else (none)) else (none))) else (none)) else (none)) else (none)) = some (r1, r2) := by first | (rw [hy144]; with_reducible exact H) | (have H2_ := (Option.bind_some _ _).symm.trans H; rw [hy144]; with_reducible exact H2_) | (have H2_ := (Option.bind_some _ _).symm.trans H; with_reducible exact H2_) | with_reducible exact H | (rw [hy144]; exact H) | exact H
     have Ny144 := Aside0.mk hy144
     clear hy144
     by_cases c21 : 0 ≤ x4_1
     ·rw [if_pos c21] at H
      have c21b0 := eq_true c21
      have c21b1 : decide (0 ≤ x4_1) = true := decide_eq_true c21
      clear c21
      by_cases c22 : x4_1 ≤ (l0.length : Int)
      ·rw [if_pos c22] at H
       have c22b0 := eq_true c22
       have c22b1 : decide (x4_1 ≤ (l0.length : Int)) = true := decide_eq_true c22
       clear c22
       by_cases c23 : y144.length + (l0.take (x4_1 : Int).toNat).length < 140737488355328
       ·rw [if_pos c23] at H
        have LMc23 := Aside0.mk c23
        clear c23
        obtain ⟨y148, hy148⟩ : ∃ y_ : List Int, y_ = (y144 ++ (l0.take (x4_1 : Int).toNat)) := ⟨_, rfl⟩
        replace H : (if 0 ≤ (wrap64 (x4_1 - 1)) then (if (wrap64 (x4_1 - 1)) < (y148.length : Int) then (some ((y148.set ((wrap64 (x4_1 - 1)) : Int).toNat (((rd y148 (wrap64 (x4_1 - 1))) + 1) % 256)), true)) else (none)) else (none)) = some (r1, r2) := by first | (rw [hy148]; with_reducible exact H) | (have H2_ := (Option.bind_some _ _).symm.trans H; rw [hy148]; with_reducible exact H2_) | (have H2_ := (Option.bind_some _ _).symm.trans H; with_reducible exact H2_) | with_reducible exact H | (rw [hy148]; exact H) | exact H
        have Ny148 := Aside0.mk hy148
        clear hy148
        obtain ⟨ji24, hji24⟩ : ∃ j_ : Int, (wrap64 (x4_1 - 1)) = j_ := ⟨_, rfl⟩
        replace H : (if 0 ≤ (ji24) then (if (ji24) < (y148.length : Int) then (some ((y148.set ((ji24) : Int).toNat (((rd y148 (ji24)) + 1) % 256)), true)) else (none)) else (none)) = some (r1, r2) := by first | (rw [hji24] at H; exact H) | (simp only [hji24] at H ⊢; exact H)
        have hji24w : (IntKind.i64.wrap (x4_1 - 1)) = ji24 := (i64_w _).trans hji24
        by_cases c25 : 0 ≤ (ji24)
        ·rw [if_pos c25] at H
         have c25b0 : decide (0 ≤ (ji24)) = true := decide_eq_true c25
         clear c25
         by_cases c26 : (ji24) < (y148.length : Int)
         ·rw [if_pos c26] at H
          have c26b0 : decide ((ji24) < (y148.length : Int)) = true := decide_eq_true c26
          clear c26
          obtain ⟨y152, hy152⟩ : ∃ y_ : List Int, y_ = (y148.set ((ji24) : Int).toNat (((rd y148 (ji24)) + 1) % 256)) := ⟨_, rfl⟩
          replace H : (some (y152, true)) = some (r1, r2) := by first | (rw [hy152]; with_reducible exact H) | (have H2_ := (Option.bind_some _ _).symm.trans H; rw [hy152]; with_reducible exact H2_) | (have H2_ := (Option.bind_some _ _).symm.trans H; with_reducible exact H2_) | with_reducible exact H | (rw [hy152]; exact H) | exact H
          have Ny152 := Aside0.mk hy152
          clear hy152
          simp only [Option.some.injEq, Prod.mk.injEq] at H
          obtain ⟨rfl, rfl⟩ := H
          go_wp2_with (first | ((with_reducible refine gate_dst (N := 22) rfl ?_); refine Kd.R_lit (Kd.int .u8) _ 5 ?hg (N := 22) ?hd (xs := ([] : List Int)) (inner := []) (ok := fun _ => True) (okp := fun _ => True) ?hr ?hp (fun _ hk => hk) trivial (Below.refl _ _) (Nat.le_refl _) (by simp) ?_; (case hd => rfl); (case hg => rfl); (case hr => first | (go_simp; done) | (go_simp; rfl)); (case hp => exact (Reps.none _ _)); intro v145 w28 ho29 hb hg_ hnew_; clear hg_ hnew_; (first | rw [← Ny144.out] at ho29 | (simp only [Int.reduceToNat] at ho29; rw [← Ny144.out] at ho29)); have n0_ := Aside0.mk (Kd.R_lower ho29 (below_size (by repeat (first | (with_reducible first | exact HB.out | apply below_alloc | apply pw_below_drewN | apply below_drew1) | exact HB.out)))); have n1_ := Aside0.mk (below_step (by repeat (first | (with_reducible first | exact HB.out | apply below_alloc | apply pw_below_drewN | apply below_drew1) | exact HB.out)) hb); clear HB; have HO146 := n0_; have HB := n1_; clear n0_ n1_; clear hb ho29; obtain ⟨i030, hi030, _, hsz30, _⟩ := info_parts info5; obtain ⟨hcut30, hA30, hC30⟩ := print_take_of (P := Try.prog) (Value.int .u8) 0 44 5 .i64 Try.underlying44 hi030 hsz30 A0 c0 l0 x4_1 (of_decide_eq_true (by first | (with_reducible assumption) | assumption)) (of_decide_eq_true (by first | (with_reducible assumption) | assumption)) HC0.out; have HR147 := Aside0.mk (Kd.C_of_reads (h1 := fun _ => rfl) (hA30 _ (Kd.reads_of_C HR0.out))); have HC147 := Aside0.mk hC30; clear hA30 hC30 hi030 hsz30) | ((with_reducible refine gate_builtin (b := .append) (xs := #[.tmp 22, .tmp 25]) rfl ?_); at_builtin; refine Kd.R_append_rows (Kd.int .u8) (w0 := w) w.heap.size rfl (.tmp 22) (.tmp 25) 44 5 (.int .u8 0) 1 rfl Try.underlying44 info5 rfl (by decide) (by omega) v145 y144 (l0.take (x4_1 : Int).toNat) _ _ _ (fun _ => True) (fun _ => False) rfl rfl ?aO ?aR (fun _ _ h => h) (fun _ h => h.elim) ?aF ?aB ?aS ?aL ?_; (case aR => first | (have hl_ : (l0.take (x4_1 : Int).toNat).length = x4_1.toNat := (by rw [List.length_take]; have h_ : (x4_1 : Int) ≤ (l0.length : Int) := of_decide_eq_true (by first | (with_reducible assumption) | assumption); omega); have hq_ := (Kd.C_below HR147.out HB.out); rw [hl_] at hq_; exact hq_) | (rw [← show (l0.take (x4_1 : Int).toNat).length = x4_1.toNat from (by rw [List.length_take]; have h_ : (x4_1 : Int) ≤ (l0.length : Int) := of_decide_eq_true (by first | (with_reducible assumption) | assumption); omega)]; repeat (first | exact (Kd.C_below HR147.out HB.out) | (with_reducible refine Kd.C_alloc ?_ _) | (with_reducible refine Kd.C_drewN ?_ _) | (with_reducible refine Kd.C_drew ?_))) | (repeat (first | exact (Kd.C_below HR147.out HB.out) | (with_reducible refine Kd.C_alloc ?_ _) | (with_reducible refine Kd.C_drewN ?_ _) | (with_reducible refine Kd.C_drew ?_)))); (case aB => exact (by repeat (first | (with_reducible first | exact HB.out | apply below_alloc | apply pw_below_drewN | apply below_drew1) | exact HB.out))); (case aF => exact (fun _ _ => trivial)); (case aO => exact (by (with_reducible repeat (first | apply Kd.R_alloc | apply Kd.R_drewN | apply Kd.R_drew)); exact HO146.out)); (case aS => exact (below_size (by repeat (first | (with_reducible first | exact HB.out | apply below_alloc | apply pw_below_drewN | apply below_drew1) | exact HB.out)))); (case aL => have := LMc23.out; have hlx_ := (show (l0.take (x4_1 : Int).toNat).length = x4_1.toNat from (by rw [List.length_take]; have h_ : (x4_1 : Int) ≤ (l0.length : Int) := of_decide_eq_true (by first | (with_reducible assumption) | assumption); omega)); omega); intro v149 w31 ho hb hg hat; rw [← Ny148.out] at ho; have n0_ := Aside0.mk (hb); have n1_ := Aside0.mk (ho); clear HB; clear HO146; have HB := n0_; have HO150 := n1_; clear n0_ n1_; clear ho hb hg hat; obtain ⟨Ao32, co32, eo32⟩ := Kd.R_slice HO150.out; subst eo32; have p151 : 0 ≤ ((ji24) : Int) := of_decide_eq_true (by first | (with_reducible assumption) | assumption); have q151 : (ji24) < (y148.length : Int) := of_decide_eq_true (by first | (with_reducible assumption) | assumption); obtain ⟨ad151, e151, hx151_0⟩ := Kd.at_int (Kd.R_reads' HO150.out).2.2 (ji24) p151 q151; cases e151; replace p151 := eq_true p151; replace q151 := eq_true q151; have p27 : 0 ≤ ((ji24) : Int) := of_decide_eq_true (by first | (with_reducible assumption) | assumption); have q27 : ((ji24) : Int) < ((y148.length : Int) : Int) := of_decide_eq_true (by first | (with_reducible assumption) | assumption); obtain ⟨go27, co27, eo27, gb27, gl27, cl27, HG27⟩ := Kd.R_form HO150.out (by omega); (first | cases eo27 | (injection eo27 with ea_ en_ ec_; (first | subst ea_ | (injection ea_ with ea_; subst ea_)); subst ec_; clear en_)); have GB27 := Aside0.mk gb27; have GG27 := Aside0.mk HG27; clear gb27 gl27 HG27; (first | simp only [add_plain] at hx151_0 | skip); obtain ⟨hx27_0, hf27_0⟩ := Kd.R_celln 0 HO150.out ((ji24) : Int) p27 q27; replace p27 := eq_true p27; replace q27 := eq_true q27; obtain ⟨hy33_, hz33_⟩ := Kd.R_celln 0 HO150.out ((ji24) : Int) (of_decide_eq_true (by first | (with_reducible assumption) | assumption)) (of_decide_eq_true (by first | (with_reducible assumption) | assumption)); have HP33 := Kd.R_putg HO150.out ((ji24) : Int) (((rd y148 (ji24)) + 1) % 256)) | ((with_reducible refine gate_store (t := 5) (p := 33) rfl ?_); refine store_event (t := 5) (p := 33) (v := ?vo_w34) (w1 := (w31.setCell ⟨go27, ((ji24) : Int).toNat, none⟩ (.int .u8 (((rd y148 (ji24)) + 1) % 256)))) ?hg ?ho ?hn ?hr ?_; (case ho => rfl); (case hg => rfl); (case hn => rfl); (case hr => first | (go_simp; done) | (go_simp; rfl)); intro w34 hw; have hg : w31.grownBy w34 (some go27) := (by rw [hw]; exact HP33.2); have hp_ : Kd.R (Kd.int .u8) 5 w34 w.heap.size (fun _ => True) (.slice (some ⟨go27, 0, none⟩) y148.length co32) y152 := (by rw [hw, Ny152.out]; exact HP33.1); clear HP33; have n0_ := Aside0.mk (hp_); have n1_ := Aside0.mk ((by rw [hw]; exact below_set (HB.out) GB27.out : Below w.heap.size w w34)); clear HO150; clear HB; have HO150 := n0_; have HB := n1_; clear n0_ n1_; clear hg hw hp_))
          go_ret2
          exact ⟨_, by first | rfl | (simp [errW_none, errW_some] <;> rfl) | (simp only [← hji24]; first | rfl | (simp [errW_none, errW_some] <;> rfl)) | (simp [*, errW_none, errW_some] <;> rfl), by (with_reducible repeat (first | apply Kd.R_alloc | apply Kd.R_drewN | apply Kd.R_drew)); exact HO150.out, by repeat (first | (with_reducible first | exact HB.out | apply below_alloc | apply pw_below_drewN | apply below_drew1) | exact HB.out)⟩
         ·rw [if_neg c26] at H
          exact absurd H (by simp)
        ·rw [if_neg c25] at H
         exact absurd H (by simp)
       ·rw [if_neg c23] at H
        exact absurd H (by simp)
      ·rw [if_neg c22] at H
       exact absurd H (by simp)
     ·rw [if_neg c21] at H
      exact absurd H (by simp)
end Go.Proofs.Ytmfenomjhmhogaa.P
end
section
namespace Go.Proofs.Ytmfenomjhmhogaa.P
open Go.RowKit Go.Proofs.YtmfenomjhmhogaaW.PrintWords Go.Proofs.YtmfenomjhmhogaaW.PrintLast Go.Proofs.YtmfenomjhmhogaaW.PrintMore
attribute [local go_sem] max2_int min2_int max_two min_two max_three min_three max_four min_four
set_option linter.unusedVariables false
set_option linter.unusedSimpArgs false
attribute [local go_sem high] eqA25
def quarrylaw19_works.f (k : Nat)  : Option (Bool) := (some (([0, 1] : List Int) : List Int)).bind fun y287 => ((some (([false, false] : List Bool) : List Bool)).bind fun y290 => ((quarrylaw19_number.f 1).bind fun bt294 => ((quarrylaw19_number.f 2).bind fun bt297 => ((some (([(⟨0, 5, (⟨bt294.1, bt294.2.1, bt294.2.2⟩ : S25)⟩ : S69), (⟨1, 9, (⟨bt297.1, bt297.2.1, bt297.2.2⟩ : S25)⟩ : S69)] : List (S69)) : List (S69))).bind fun y300 => ((bounds_Range.f k 0 (⟨#[]⟩ : ByteArray) (⟨#[]⟩ : ByteArray) y287 y290 false y300).bind fun bt303 => ((quarrylaw19_number.f 1).bind fun bt310 => ((quarrylaw19_number.f 2).bind fun bt313 => ((quarryref03_Encode.f k (([(⟨bt310.1, bt310.2.1, bt310.2.2⟩ : S25), (⟨bt313.1, bt313.2.1, bt313.2.2⟩ : S25)] : List (S25))) ([] : List Bool)).bind fun bt319 => ((quarrylaw19_number.f 1).bind fun bt323 => ((quarryref03_Encode.f k (([(⟨bt323.1, bt323.2.1, bt323.2.2⟩ : S25)] : List (S25))) ([] : List Bool)).bind fun bt329 => ((quarryref03_Next.f k bt319.1).bind fun bt333 => ((quarryref03_Next.f k bt329.1).bind fun bt337 => (if (strOfNums bt303.1).toList = (strOfNums bt333.1).toList then (if (strOfNums bt303.2.1).toList = (strOfNums bt337.1).toList then (if bt303.2.2 = true then (none) else ((bounds_Best.f k (([(⟨0, (⟨#[]⟩ : ByteArray), (⟨#[]⟩ : ByteArray), (([1] : List Int)), (([false] : List Bool)), false⟩ : S41), (⟨0, (⟨#[]⟩ : ByteArray), (⟨#[]⟩ : ByteArray), y287, y290, false⟩ : S41)] : List (S41))) y300).bind fun t350 => (some (t350 == 1)))) else (none)) else (none))))))))))))))
set_option maxHeartbeats 8000000 in
set_option maxRecDepth 100000 in
theorem quarrylaw19_works.calls (k : Nat)  (r : Bool) (w : World) (h : quarrylaw19_works.f k  = some r) :
  Calls Try.prog 20 #[] w fun e w' => e = .returned (.bool r) ∧ Below w.heap.size w w' := by
 have hu41 := Try.underlying41
 have hu69 := Try.underlying69
 have HB := Aside0.mk (Below.refl w.heap.size w)
 have H : ((some (([0, 1] : List Int) : List Int)).bind fun y287 => ((some (([false, false] : List Bool) : List Bool)).bind fun y290 => ((quarrylaw19_number.f 1).bind fun bt294 => ((quarrylaw19_number.f 2).bind fun bt297 => ((some (([(⟨0, 5, (⟨bt294.1, bt294.2.1, bt294.2.2⟩ : S25)⟩ : S69), (⟨1, 9, (⟨bt297.1, bt297.2.1, bt297.2.2⟩ : S25)⟩ : S69)] : List (S69)) : List (S69))).bind fun y300 => ((bounds_Range.f k 0 (⟨#[]⟩ : ByteArray) (⟨#[]⟩ : ByteArray) y287 y290 false y300).bind fun bt303 => ((quarrylaw19_number.f 1).bind fun bt310 => ((quarrylaw19_number.f 2).bind fun bt313 => ((quarryref03_Encode.f k (([(⟨bt310.1, bt310.2.1, bt310.2.2⟩ : S25), (⟨bt313.1, bt313.2.1, bt313.2.2⟩ : S25)] : List (S25))) ([] : List Bool)).bind fun bt319 => ((quarrylaw19_number.f 1).bind fun bt323 => ((quarryref03_Encode.f k (([(⟨bt323.1, bt323.2.1, bt323.2.2⟩ : S25)] : List (S25))) ([] : List Bool)).bind fun bt329 => ((quarryref03_Next.f k bt319.1).bind fun bt333 => ((quarryref03_Next.f k bt329.1).bind fun bt337 => (if (strOfNums bt303.1).toList = (strOfNums bt333.1).toList then (if (strOfNums bt303.2.1).toList = (strOfNums bt337.1).toList then (if bt303.2.2 = true then (none) else ((bounds_Best.f k (([(⟨0, (⟨#[]⟩ : ByteArray), (⟨#[]⟩ : ByteArray), (([1] : List Int)), (([false] : List Bool)), false⟩ : S41), (⟨0, (⟨#[]⟩ : ByteArray), (⟨#[]⟩ : ByteArray), y287, y290, false⟩ : S41)] : List (S41))) y300).bind fun t350 => (some (t350 == 1)))) else (none)) else (none))))))))))))))) = some r := h
 clear h
 obtain ⟨y287, hy287⟩ : ∃ y_ : List Int, y_ = (([0, 1] : List Int)) := ⟨_, rfl⟩
 replace H : ((some (([false, false] : List Bool) : List Bool)).bind fun y290 => ((quarrylaw19_number.f 1).bind fun bt294 => ((quarrylaw19_number.f 2).bind fun bt297 => ((some (([(⟨0, 5, (⟨bt294.1, bt294.2.1, bt294.2.2⟩ : S25)⟩ : S69), (⟨1, 9, (⟨bt297.1, bt297.2.1, bt297.2.2⟩ : S25)⟩ : S69)] : List (S69)) : List (S69))).bind fun y300 => ((bounds_Range.f k 0 (⟨#[]⟩ : ByteArray) (⟨#[]⟩ : ByteArray) y287 y290 false y300).bind fun bt303 => ((quarrylaw19_number.f 1).bind fun bt310 => ((quarrylaw19_number.f 2).bind fun bt313 => ((quarryref03_Encode.f k (([(⟨bt310.1, bt310.2.1, bt310.2.2⟩ : S25), (⟨bt313.1, bt313.2.1, bt313.2.2⟩ : S25)] : List (S25))) ([] : List Bool)).bind fun bt319 => ((quarrylaw19_number.f 1).bind fun bt323 => ((quarryref03_Encode.f k (([(⟨bt323.1, bt323.2.1, bt323.2.2⟩ : S25)] : List (S25))) ([] : List Bool)).bind fun bt329 => ((quarryref03_Next.f k bt319.1).bind fun bt333 => ((quarryref03_Next.f k bt329.1).bind fun bt337 => (if (strOfNums bt303.1).toList = (strOfNums bt333.1).toList then (if (strOfNums bt303.2.1).toList = (strOfNums bt337.1).toList then (if bt303.2.2 = true then (none) else ((bounds_Best.f k (([(⟨0, (⟨#[]⟩ : ByteArray), (⟨#[]⟩ : ByteArray), (([1] : List Int)), (([false] : List Bool)), false⟩ : S41), (⟨0, (⟨#[]⟩ : ByteArray), (⟨#[]⟩ : ByteArray), y287, y290, false⟩ : S41)] : List (S41))) y300).bind fun t350 => (some (t350 == 1)))) else (none)) else (none)))))))))))))) = some r := by first | (rw [hy287]; with_reducible exact H) | (have H2_ := (Option.bind_some _ _).symm.trans H; rw [hy287]; with_reducible exact H2_) | (have H2_ := (Option.bind_some _ _).symm.trans H; with_reducible exact H2_) | with_reducible exact H | (rw [hy287]; exact H) | exact H
 have Ny287 := Aside0.mk hy287
 clear hy287
 obtain ⟨y290, hy290⟩ : ∃ y_ : List Bool, y_ = (([false, false] : List Bool)) := ⟨_, rfl⟩
 replace H : ((quarrylaw19_number.f 1).bind fun bt294 => ((quarrylaw19_number.f 2).bind fun bt297 => ((some (([(⟨0, 5, (⟨bt294.1, bt294.2.1, bt294.2.2⟩ : S25)⟩ : S69), (⟨1, 9, (⟨bt297.1, bt297.2.1, bt297.2.2⟩ : S25)⟩ : S69)] : List (S69)) : List (S69))).bind fun y300 => ((bounds_Range.f k 0 (⟨#[]⟩ : ByteArray) (⟨#[]⟩ : ByteArray) y287 y290 false y300).bind fun bt303 => ((quarrylaw19_number.f 1).bind fun bt310 => ((quarrylaw19_number.f 2).bind fun bt313 => ((quarryref03_Encode.f k (([(⟨bt310.1, bt310.2.1, bt310.2.2⟩ : S25), (⟨bt313.1, bt313.2.1, bt313.2.2⟩ : S25)] : List (S25))) ([] : List Bool)).bind fun bt319 => ((quarrylaw19_number.f 1).bind fun bt323 => ((quarryref03_Encode.f k (([(⟨bt323.1, bt323.2.1, bt323.2.2⟩ : S25)] : List (S25))) ([] : List Bool)).bind fun bt329 => ((quarryref03_Next.f k bt319.1).bind fun bt333 => ((quarryref03_Next.f k bt329.1).bind fun bt337 => (if (strOfNums bt303.1).toList = (strOfNums bt333.1).toList then (if (strOfNums bt303.2.1).toList = (strOfNums bt337.1).toList then (if bt303.2.2 = true then (none) else ((bounds_Best.f k (([(⟨0, (⟨#[]⟩ : ByteArray), (⟨#[]⟩ : ByteArray), (([1] : List Int)), (([false] : List Bool)), false⟩ : S41), (⟨0, (⟨#[]⟩ : ByteArray), (⟨#[]⟩ : ByteArray), y287, y290, false⟩ : S41)] : List (S41))) y300).bind fun t350 => (some (t350 == 1)))) else (none)) else (none))))))))))))) = some r := by first | (rw [hy290]; with_reducible exact H) | (have H2_ := (Option.bind_some _ _).symm.trans H; rw [hy290]; with_reducible exact H2_) | (have H2_ := (Option.bind_some _ _).symm.trans H; with_reducible exact H2_) | with_reducible exact H | (rw [hy290]; exact H) | exact H
 have Ny290 := Aside0.mk hy290
 clear hy290
 replace H := Option.bind_eq_some_iff.mp H
 obtain ⟨⟨t294, t295, t296⟩, A10, H⟩ := H
 replace H : ((quarrylaw19_number.f 2).bind fun bt297 => ((some (([(⟨0, 5, (⟨t294, t295, t296⟩ : S25)⟩ : S69), (⟨1, 9, (⟨bt297.1, bt297.2.1, bt297.2.2⟩ : S25)⟩ : S69)] : List (S69)) : List (S69))).bind fun y300 => ((bounds_Range.f k 0 (⟨#[]⟩ : ByteArray) (⟨#[]⟩ : ByteArray) y287 y290 false y300).bind fun bt303 => ((quarrylaw19_number.f 1).bind fun bt310 => ((quarrylaw19_number.f 2).bind fun bt313 => ((quarryref03_Encode.f k (([(⟨bt310.1, bt310.2.1, bt310.2.2⟩ : S25), (⟨bt313.1, bt313.2.1, bt313.2.2⟩ : S25)] : List (S25))) ([] : List Bool)).bind fun bt319 => ((quarrylaw19_number.f 1).bind fun bt323 => ((quarryref03_Encode.f k (([(⟨bt323.1, bt323.2.1, bt323.2.2⟩ : S25)] : List (S25))) ([] : List Bool)).bind fun bt329 => ((quarryref03_Next.f k bt319.1).bind fun bt333 => ((quarryref03_Next.f k bt329.1).bind fun bt337 => (if (strOfNums bt303.1).toList = (strOfNums bt333.1).toList then (if (strOfNums bt303.2.1).toList = (strOfNums bt337.1).toList then (if bt303.2.2 = true then (none) else ((bounds_Best.f k (([(⟨0, (⟨#[]⟩ : ByteArray), (⟨#[]⟩ : ByteArray), (([1] : List Int)), (([false] : List Bool)), false⟩ : S41), (⟨0, (⟨#[]⟩ : ByteArray), (⟨#[]⟩ : ByteArray), y287, y290, false⟩ : S41)] : List (S41))) y300).bind fun t350 => (some (t350 == 1)))) else (none)) else (none)))))))))))) = some r := H
 have A1 := Aside0.mk A10
 clear A10
 replace H := Option.bind_eq_some_iff.mp H
 obtain ⟨⟨t297, t298, t299⟩, A20, H⟩ := H
 replace H : ((some (([(⟨0, 5, (⟨t294, t295, t296⟩ : S25)⟩ : S69), (⟨1, 9, (⟨t297, t298, t299⟩ : S25)⟩ : S69)] : List (S69)) : List (S69))).bind fun y300 => ((bounds_Range.f k 0 (⟨#[]⟩ : ByteArray) (⟨#[]⟩ : ByteArray) y287 y290 false y300).bind fun bt303 => ((quarrylaw19_number.f 1).bind fun bt310 => ((quarrylaw19_number.f 2).bind fun bt313 => ((quarryref03_Encode.f k (([(⟨bt310.1, bt310.2.1, bt310.2.2⟩ : S25), (⟨bt313.1, bt313.2.1, bt313.2.2⟩ : S25)] : List (S25))) ([] : List Bool)).bind fun bt319 => ((quarrylaw19_number.f 1).bind fun bt323 => ((quarryref03_Encode.f k (([(⟨bt323.1, bt323.2.1, bt323.2.2⟩ : S25)] : List (S25))) ([] : List Bool)).bind fun bt329 => ((quarryref03_Next.f k bt319.1).bind fun bt333 => ((quarryref03_Next.f k bt329.1).bind fun bt337 => (if (strOfNums bt303.1).toList = (strOfNums bt333.1).toList then (if (strOfNums bt303.2.1).toList = (strOfNums bt337.1).toList then (if bt303.2.2 = true then (none) else ((bounds_Best.f k (([(⟨0, (⟨#[]⟩ : ByteArray), (⟨#[]⟩ : ByteArray), (([1] : List Int)), (([false] : List Bool)), false⟩ : S41), (⟨0, (⟨#[]⟩ : ByteArray), (⟨#[]⟩ : ByteArray), y287, y290, false⟩ : S41)] : List (S41))) y300).bind fun t350 => (some (t350 == 1)))) else (none)) else (none))))))))))) = some r := H
 have A2 := Aside0.mk A20
 clear A20
 obtain ⟨y300, hy300⟩ : ∃ y_ : List (S69), y_ = (([(⟨0, 5, (⟨t294, t295, t296⟩ : S25)⟩ : S69), (⟨1, 9, (⟨t297, t298, t299⟩ : S25)⟩ : S69)] : List (S69))) := ⟨_, rfl⟩
 replace H : ((bounds_Range.f k 0 (⟨#[]⟩ : ByteArray) (⟨#[]⟩ : ByteArray) y287 y290 false y300).bind fun bt303 => ((quarrylaw19_number.f 1).bind fun bt310 => ((quarrylaw19_number.f 2).bind fun bt313 => ((quarryref03_Encode.f k (([(⟨bt310.1, bt310.2.1, bt310.2.2⟩ : S25), (⟨bt313.1, bt313.2.1, bt313.2.2⟩ : S25)] : List (S25))) ([] : List Bool)).bind fun bt319 => ((quarrylaw19_number.f 1).bind fun bt323 => ((quarryref03_Encode.f k (([(⟨bt323.1, bt323.2.1, bt323.2.2⟩ : S25)] : List (S25))) ([] : List Bool)).bind fun bt329 => ((quarryref03_Next.f k bt319.1).bind fun bt333 => ((quarryref03_Next.f k bt329.1).bind fun bt337 => (if (strOfNums bt303.1).toList = (strOfNums bt333.1).toList then (if (strOfNums bt303.2.1).toList = (strOfNums bt337.1).toList then (if bt303.2.2 = true then (none) else ((bounds_Best.f k (([(⟨0, (⟨#[]⟩ : ByteArray), (⟨#[]⟩ : ByteArray), (([1] : List Int)), (([false] : List Bool)), false⟩ : S41), (⟨0, (⟨#[]⟩ : ByteArray), (⟨#[]⟩ : ByteArray), y287, y290, false⟩ : S41)] : List (S41))) y300).bind fun t350 => (some (t350 == 1)))) else (none)) else (none)))))))))) = some r := by first | (rw [hy300]; with_reducible exact H) | (have H2_ := (Option.bind_some _ _).symm.trans H; rw [hy300]; with_reducible exact H2_) | (have H2_ := (Option.bind_some _ _).symm.trans H; with_reducible exact H2_) | with_reducible exact H | (rw [hy300]; exact H) | exact H
 have Ny300 := Aside0.mk hy300
 clear hy300
 replace H := Option.bind_eq_some_iff.mp H
 obtain ⟨⟨t303, t306, t309⟩, A30, H⟩ := H
 replace H : ((quarrylaw19_number.f 1).bind fun bt310 => ((quarrylaw19_number.f 2).bind fun bt313 => ((quarryref03_Encode.f k (([(⟨bt310.1, bt310.2.1, bt310.2.2⟩ : S25), (⟨bt313.1, bt313.2.1, bt313.2.2⟩ : S25)] : List (S25))) ([] : List Bool)).bind fun bt319 => ((quarrylaw19_number.f 1).bind fun bt323 => ((quarryref03_Encode.f k (([(⟨bt323.1, bt323.2.1, bt323.2.2⟩ : S25)] : List (S25))) ([] : List Bool)).bind fun bt329 => ((quarryref03_Next.f k bt319.1).bind fun bt333 => ((quarryref03_Next.f k bt329.1).bind fun bt337 => (if (strOfNums t303).toList = (strOfNums bt333.1).toList then (if (strOfNums t306).toList = (strOfNums bt337.1).toList then (if t309 = true then (none) else ((bounds_Best.f k (([(⟨0, (⟨#[]⟩ : ByteArray), (⟨#[]⟩ : ByteArray), (([1] : List Int)), (([false] : List Bool)), false⟩ : S41), (⟨0, (⟨#[]⟩ : ByteArray), (⟨#[]⟩ : ByteArray), y287, y290, false⟩ : S41)] : List (S41))) y300).bind fun t350 => (some (t350 == 1)))) else (none)) else (none))))))))) = some r := H
 have A3 := Aside0.mk A30
 clear A30
 replace H := Option.bind_eq_some_iff.mp H
 obtain ⟨⟨t310, t311, t312⟩, A40, H⟩ := H
 replace H : ((quarrylaw19_number.f 2).bind fun bt313 => ((quarryref03_Encode.f k (([(⟨t310, t311, t312⟩ : S25), (⟨bt313.1, bt313.2.1, bt313.2.2⟩ : S25)] : List (S25))) ([] : List Bool)).bind fun bt319 => ((quarrylaw19_number.f 1).bind fun bt323 => ((quarryref03_Encode.f k (([(⟨bt323.1, bt323.2.1, bt323.2.2⟩ : S25)] : List (S25))) ([] : List Bool)).bind fun bt329 => ((quarryref03_Next.f k bt319.1).bind fun bt333 => ((quarryref03_Next.f k bt329.1).bind fun bt337 => (if (strOfNums t303).toList = (strOfNums bt333.1).toList then (if (strOfNums t306).toList = (strOfNums bt337.1).toList then (if t309 = true then (none) else ((bounds_Best.f k (([(⟨0, (⟨#[]⟩ : ByteArray), (⟨#[]⟩ : ByteArray), (([1] : List Int)), (([false] : List Bool)), false⟩ : S41), (⟨0, (⟨#[]⟩ : ByteArray), (⟨#[]⟩ : ByteArray), y287, y290, false⟩ : S41)] : List (S41))) y300).bind fun t350 => (some (t350 == 1)))) else (none)) else (none)))))))) = some r := H
 have A4 := Aside0.mk A40
 clear A40
 replace H := Option.bind_eq_some_iff.mp H
 obtain ⟨⟨t313, t314, t315⟩, A50, H⟩ := H
 replace H : ((quarryref03_Encode.f k (([(⟨t310, t311, t312⟩ : S25), (⟨t313, t314, t315⟩ : S25)] : List (S25))) ([] : List Bool)).bind fun bt319 => ((quarrylaw19_number.f 1).bind fun bt323 => ((quarryref03_Encode.f k (([(⟨bt323.1, bt323.2.1, bt323.2.2⟩ : S25)] : List (S25))) ([] : List Bool)).bind fun bt329 => ((quarryref03_Next.f k bt319.1).bind fun bt333 => ((quarryref03_Next.f k bt329.1).bind fun bt337 => (if (strOfNums t303).toList = (strOfNums bt333.1).toList then (if (strOfNums t306).toList = (strOfNums bt337.1).toList then (if t309 = true then (none) else ((bounds_Best.f k (([(⟨0, (⟨#[]⟩ : ByteArray), (⟨#[]⟩ : ByteArray), (([1] : List Int)), (([false] : List Bool)), false⟩ : S41), (⟨0, (⟨#[]⟩ : ByteArray), (⟨#[]⟩ : ByteArray), y287, y290, false⟩ : S41)] : List (S41))) y300).bind fun t350 => (some (t350 == 1)))) else (none)) else (none))))))) = some r := H
 have A5 := Aside0.mk A50
 clear A50
 obtain ⟨y316, hy316⟩ : ∃ y_ : List (S25), y_ = (([(⟨t310, t311, t312⟩ : S25), (⟨t313, t314, t315⟩ : S25)] : List (S25))) := ⟨_, rfl⟩
 replace H : ((quarryref03_Encode.f k y316 ([] : List Bool)).bind fun bt319 => ((quarrylaw19_number.f 1).bind fun bt323 => ((quarryref03_Encode.f k (([(⟨bt323.1, bt323.2.1, bt323.2.2⟩ : S25)] : List (S25))) ([] : List Bool)).bind fun bt329 => ((quarryref03_Next.f k bt319.1).bind fun bt333 => ((quarryref03_Next.f k bt329.1).bind fun bt337 => (if (strOfNums t303).toList = (strOfNums bt333.1).toList then (if (strOfNums t306).toList = (strOfNums bt337.1).toList then (if t309 = true then (none) else ((bounds_Best.f k (([(⟨0, (⟨#[]⟩ : ByteArray), (⟨#[]⟩ : ByteArray), (([1] : List Int)), (([false] : List Bool)), false⟩ : S41), (⟨0, (⟨#[]⟩ : ByteArray), (⟨#[]⟩ : ByteArray), y287, y290, false⟩ : S41)] : List (S41))) y300).bind fun t350 => (some (t350 == 1)))) else (none)) else (none))))))) = some r := by first | (rw [hy316]; with_reducible exact H) | (have H2_ := (Option.bind_some _ _).symm.trans H; rw [hy316]; with_reducible exact H2_) | (have H2_ := (Option.bind_some _ _).symm.trans H; with_reducible exact H2_) | with_reducible exact H | (rw [hy316]; exact H) | exact H
 have Ny316 := Aside0.mk hy316
 clear hy316
 replace H := Option.bind_eq_some_iff.mp H
 obtain ⟨⟨t319, t320⟩, A60, H⟩ := H
 replace H : ((quarrylaw19_number.f 1).bind fun bt323 => ((quarryref03_Encode.f k (([(⟨bt323.1, bt323.2.1, bt323.2.2⟩ : S25)] : List (S25))) ([] : List Bool)).bind fun bt329 => ((quarryref03_Next.f k t319).bind fun bt333 => ((quarryref03_Next.f k bt329.1).bind fun bt337 => (if (strOfNums t303).toList = (strOfNums bt333.1).toList then (if (strOfNums t306).toList = (strOfNums bt337.1).toList then (if t309 = true then (none) else ((bounds_Best.f k (([(⟨0, (⟨#[]⟩ : ByteArray), (⟨#[]⟩ : ByteArray), (([1] : List Int)), (([false] : List Bool)), false⟩ : S41), (⟨0, (⟨#[]⟩ : ByteArray), (⟨#[]⟩ : ByteArray), y287, y290, false⟩ : S41)] : List (S41))) y300).bind fun t350 => (some (t350 == 1)))) else (none)) else (none)))))) = some r := H
 have A6 := Aside0.mk A60
 clear A60
 replace H := Option.bind_eq_some_iff.mp H
 obtain ⟨⟨t323, t324, t325⟩, A70, H⟩ := H
 replace H : ((quarryref03_Encode.f k (([(⟨t323, t324, t325⟩ : S25)] : List (S25))) ([] : List Bool)).bind fun bt329 => ((quarryref03_Next.f k t319).bind fun bt333 => ((quarryref03_Next.f k bt329.1).bind fun bt337 => (if (strOfNums t303).toList = (strOfNums bt333.1).toList then (if (strOfNums t306).toList = (strOfNums bt337.1).toList then (if t309 = true then (none) else ((bounds_Best.f k (([(⟨0, (⟨#[]⟩ : ByteArray), (⟨#[]⟩ : ByteArray), (([1] : List Int)), (([false] : List Bool)), false⟩ : S41), (⟨0, (⟨#[]⟩ : ByteArray), (⟨#[]⟩ : ByteArray), y287, y290, false⟩ : S41)] : List (S41))) y300).bind fun t350 => (some (t350 == 1)))) else (none)) else (none))))) = some r := H
 have A7 := Aside0.mk A70
 clear A70
 obtain ⟨y326, hy326⟩ : ∃ y_ : List (S25), y_ = (([(⟨t323, t324, t325⟩ : S25)] : List (S25))) := ⟨_, rfl⟩
 replace H : ((quarryref03_Encode.f k y326 ([] : List Bool)).bind fun bt329 => ((quarryref03_Next.f k t319).bind fun bt333 => ((quarryref03_Next.f k bt329.1).bind fun bt337 => (if (strOfNums t303).toList = (strOfNums bt333.1).toList then (if (strOfNums t306).toList = (strOfNums bt337.1).toList then (if t309 = true then (none) else ((bounds_Best.f k (([(⟨0, (⟨#[]⟩ : ByteArray), (⟨#[]⟩ : ByteArray), (([1] : List Int)), (([false] : List Bool)), false⟩ : S41), (⟨0, (⟨#[]⟩ : ByteArray), (⟨#[]⟩ : ByteArray), y287, y290, false⟩ : S41)] : List (S41))) y300).bind fun t350 => (some (t350 == 1)))) else (none)) else (none))))) = some r := by first | (rw [hy326]; with_reducible exact H) | (have H2_ := (Option.bind_some _ _).symm.trans H; rw [hy326]; with_reducible exact H2_) | (have H2_ := (Option.bind_some _ _).symm.trans H; with_reducible exact H2_) | with_reducible exact H | (rw [hy326]; exact H) | exact H
 have Ny326 := Aside0.mk hy326
 clear hy326
 replace H := Option.bind_eq_some_iff.mp H
 obtain ⟨⟨t329, t330⟩, A80, H⟩ := H
 replace H : ((quarryref03_Next.f k t319).bind fun bt333 => ((quarryref03_Next.f k t329).bind fun bt337 => (if (strOfNums t303).toList = (strOfNums bt333.1).toList then (if (strOfNums t306).toList = (strOfNums bt337.1).toList then (if t309 = true then (none) else ((bounds_Best.f k (([(⟨0, (⟨#[]⟩ : ByteArray), (⟨#[]⟩ : ByteArray), (([1] : List Int)), (([false] : List Bool)), false⟩ : S41), (⟨0, (⟨#[]⟩ : ByteArray), (⟨#[]⟩ : ByteArray), y287, y290, false⟩ : S41)] : List (S41))) y300).bind fun t350 => (some (t350 == 1)))) else (none)) else (none)))) = some r := H
 have A8 := Aside0.mk A80
 clear A80
 replace H := Option.bind_eq_some_iff.mp H
 obtain ⟨⟨t333, t334⟩, A90, H⟩ := H
 replace H : ((quarryref03_Next.f k t329).bind fun bt337 => (if (strOfNums t303).toList = (strOfNums t333).toList then (if (strOfNums t306).toList = (strOfNums bt337.1).toList then (if t309 = true then (none) else ((bounds_Best.f k (([(⟨0, (⟨#[]⟩ : ByteArray), (⟨#[]⟩ : ByteArray), (([1] : List Int)), (([false] : List Bool)), false⟩ : S41), (⟨0, (⟨#[]⟩ : ByteArray), (⟨#[]⟩ : ByteArray), y287, y290, false⟩ : S41)] : List (S41))) y300).bind fun t350 => (some (t350 == 1)))) else (none)) else (none))) = some r := H
 have A9 := Aside0.mk A90
 clear A90
 replace H := Option.bind_eq_some_iff.mp H
 obtain ⟨⟨t337, t338⟩, A100, H⟩ := H
 replace H : (if (strOfNums t303).toList = (strOfNums t333).toList then (if (strOfNums t306).toList = (strOfNums t337).toList then (if t309 = true then (none) else ((bounds_Best.f k (([(⟨0, (⟨#[]⟩ : ByteArray), (⟨#[]⟩ : ByteArray), (([1] : List Int)), (([false] : List Bool)), false⟩ : S41), (⟨0, (⟨#[]⟩ : ByteArray), (⟨#[]⟩ : ByteArray), y287, y290, false⟩ : S41)] : List (S41))) y300).bind fun t350 => (some (t350 == 1)))) else (none)) else (none)) = some r := H
 have A10 := Aside0.mk A100
 clear A100
 by_cases c11 : (strOfNums t303).toList = (strOfNums t333).toList
 ·rw [if_pos c11] at H
  have c11b0 : ((strOfNums t303).toList == (strOfNums t333).toList) = true := beq_iff_eq.mpr c11
  have c11b1 : ((strOfNums t303).toList != (strOfNums t333).toList) = false := bne_eq_false_iff_eq.mpr c11
  clear c11
  by_cases c12 : (strOfNums t306).toList = (strOfNums t337).toList
  ·rw [if_pos c12] at H
   have c12b0 : ((strOfNums t306).toList == (strOfNums t337).toList) = true := beq_iff_eq.mpr c12
   have c12b1 : ((strOfNums t306).toList != (strOfNums t337).toList) = false := bne_eq_false_iff_eq.mpr c12
   clear c12
   by_cases c13 : t309 = true
   ·rw [if_pos c13] at H
    cases H
   ·replace c13 := Bool.eq_false_iff.mpr c13
    subst c13
    have H1 : ((bounds_Best.f k (([(⟨0, (⟨#[]⟩ : ByteArray), (⟨#[]⟩ : ByteArray), (([1] : List Int)), (([false] : List Bool)), false⟩ : S41), (⟨0, (⟨#[]⟩ : ByteArray), (⟨#[]⟩ : ByteArray), y287, y290, false⟩ : S41)] : List (S41))) y300).bind fun t350 => (some (t350 == 1))) = some r := by rw [if_neg (show ¬ (false = true) by decide)] at H; exact H
    clear H
    have H := H1
    clear H1
    obtain ⟨y341, hy341⟩ : ∃ y_ : List Int, y_ = (([1] : List Int)) := ⟨_, rfl⟩
    replace H : ((bounds_Best.f k (([(⟨0, (⟨#[]⟩ : ByteArray), (⟨#[]⟩ : ByteArray), y341, (([false] : List Bool)), false⟩ : S41), (⟨0, (⟨#[]⟩ : ByteArray), (⟨#[]⟩ : ByteArray), y287, y290, false⟩ : S41)] : List (S41))) y300).bind fun t350 => (some (t350 == 1))) = some r := by first | (rw [hy341]; with_reducible exact H) | (have H2_ := (Option.bind_some _ _).symm.trans H; rw [hy341]; with_reducible exact H2_) | (have H2_ := (Option.bind_some _ _).symm.trans H; with_reducible exact H2_) | with_reducible exact H | (rw [hy341]; exact H) | exact H
    have Ny341 := Aside0.mk hy341
    clear hy341
    obtain ⟨y344, hy344⟩ : ∃ y_ : List Bool, y_ = (([false] : List Bool)) := ⟨_, rfl⟩
    replace H : ((bounds_Best.f k (([(⟨0, (⟨#[]⟩ : ByteArray), (⟨#[]⟩ : ByteArray), y341, y344, false⟩ : S41), (⟨0, (⟨#[]⟩ : ByteArray), (⟨#[]⟩ : ByteArray), y287, y290, false⟩ : S41)] : List (S41))) y300).bind fun t350 => (some (t350 == 1))) = some r := by first | (rw [hy344]; with_reducible exact H) | (have H2_ := (Option.bind_some _ _).symm.trans H; rw [hy344]; with_reducible exact H2_) | (have H2_ := (Option.bind_some _ _).symm.trans H; with_reducible exact H2_) | with_reducible exact H | (rw [hy344]; exact H) | exact H
    have Ny344 := Aside0.mk hy344
    clear hy344
    obtain ⟨y347, hy347⟩ : ∃ y_ : List (S41), y_ = (([(⟨0, (⟨#[]⟩ : ByteArray), (⟨#[]⟩ : ByteArray), y341, y344, false⟩ : S41), (⟨0, (⟨#[]⟩ : ByteArray), (⟨#[]⟩ : ByteArray), y287, y290, false⟩ : S41)] : List (S41))) := ⟨_, rfl⟩
    replace H : ((bounds_Best.f k y347 y300).bind fun t350 => (some (t350 == 1))) = some r := by first | (rw [hy347]; with_reducible exact H) | (have H2_ := (Option.bind_some _ _).symm.trans H; rw [hy347]; with_reducible exact H2_) | (have H2_ := (Option.bind_some _ _).symm.trans H; with_reducible exact H2_) | with_reducible exact H | (rw [hy347]; exact H) | exact H
    have Ny347 := Aside0.mk hy347
    clear hy347
    replace H := Option.bind_eq_some_iff.mp H
    obtain ⟨t350, A480, H⟩ := H
    replace H : (some (t350 == 1)) = some r := H
    have A48 := Aside0.mk A480
    clear A480
    obtain rfl := Option.some.inj H
    go_enter Try.func20, Try.ntmps20
    go_wp2_with (first | ((with_reducible refine gate_dst (N := 14) rfl ?_); (try (refine gate_guard (by rfl) ?_; dsimp only)); refine Kd.R_lit (Kd.int .i64) _ 3 ?hg (N := 14) ?hd (xs := ([0, 1] : List Int)) (inner := [.int .i64 0, .int .i64 1]) (ok := fun _ => True) (okp := fun _ => True) ?hr ?hp (fun _ hk => hk) trivial (Below.refl _ _) (Nat.le_refl _) (by simp) ?_; (case hd => rfl); (case hg => rfl); (case hr => first | (go_simp; done) | (go_simp; rfl)); (case hp => exact (Reps.one (show Kd.M (Kd.int .i64) _ _ _ 0 [.int .i64 0] from rfl) (Reps.one (show Kd.M (Kd.int .i64) _ _ _ 1 [.int .i64 1] from rfl) (Reps.none _ _)))); intro v288 w49 ho50 hb hg_ hnew_; clear hg_ hnew_; (first | rw [← Ny287.out] at ho50 | (simp only [Int.reduceToNat] at ho50; rw [← Ny287.out] at ho50)); have n0_ := Aside0.mk (Kd.R_lower ho50 (below_size (by repeat (first | (with_reducible first | exact HB.out | apply below_alloc | apply pw_below_drewN | apply below_drew1) | exact HB.out)))); have n1_ := Aside0.mk (below_step (by repeat (first | (with_reducible first | exact HB.out | apply below_alloc | apply pw_below_drewN | apply below_drew1) | exact HB.out)) hb); clear HB; have HO289 := n0_; have HB := n1_; clear n0_ n1_; clear hb ho50) | ((with_reducible refine gate_dst (N := 15) rfl ?_); (try (refine gate_guard (by rfl) ?_; dsimp only)); refine Kd.R_lit Kd.bool _ 4 ?hg (N := 15) ?hd (xs := ([false, false] : List Bool)) (inner := [.bool false, .bool false]) (ok := fun _ => True) (okp := fun _ => True) ?hr ?hp (fun _ hk => hk) trivial (Below.refl _ _) (Nat.le_refl _) (by simp) ?_; (case hd => rfl); (case hg => rfl); (case hr => first | (go_simp; done) | (go_simp; rfl)); (case hp => exact (Reps.one (show Kd.M Kd.bool _ _ _ false [.bool false] from rfl) (Reps.one (show Kd.M Kd.bool _ _ _ false [.bool false] from rfl) (Reps.none _ _)))); intro v291 w51 ho52 hb hg_ hnew_; clear hg_ hnew_; (first | rw [← Ny290.out] at ho52 | (simp only [Int.reduceToNat] at ho52; rw [← Ny290.out] at ho52)); have n0_ := Aside0.mk (Kd.R_below (by (with_reducible repeat (first | apply Kd.R_alloc | apply Kd.R_drewN | apply Kd.R_drew)); exact HO289.out) hb); have n1_ := Aside0.mk (Kd.R_lower ho52 (below_size (by repeat (first | (with_reducible first | exact HB.out | apply below_alloc | apply pw_below_drewN | apply below_drew1) | exact HB.out)))); have n2_ := Aside0.mk (below_step (by repeat (first | (with_reducible first | exact HB.out | apply below_alloc | apply pw_below_drewN | apply below_drew1) | exact HB.out)) hb); clear HO289; clear HB; have HO289 := n0_; have HO292 := n1_; have HB := n2_; clear n0_ n1_ n2_; clear hb ho52; obtain ⟨Ao53, co53, eo53⟩ := Kd.R_slice HO292.out; subst eo53; obtain ⟨Ao54, co54, eo54⟩ := Kd.R_slice HO289.out; subst eo54) | ((with_reducible refine gate_dst (N := 1) rfl ?_); (try (refine gate_guard (by rfl) ?_; dsimp only)); refine box_event ?hg (N := 1) ?hd (cs := #[.int .i64 0, .string (⟨#[]⟩ : ByteArray), .string (⟨#[]⟩ : ByteArray), .slice none 0 0, .slice none 0 0, .bool false]) (t := 41) ?hr ?_; (case hd => rfl); (case hg => rfl); (case hr => first | (go_simp; done) | (go_simp; rfl)); intro gb293 hg w55 hbox hb; have n0_ := Aside0.mk (Kd.R_below (by (with_reducible repeat (first | apply Kd.R_alloc | apply Kd.R_drewN | apply Kd.R_drew)); exact HO289.out) hb); have n1_ := Aside0.mk (Kd.R_below (by (with_reducible repeat (first | apply Kd.R_alloc | apply Kd.R_drewN | apply Kd.R_drew)); exact HO292.out) hb); have n2_ := Aside0.mk (below_step (by repeat (first | (with_reducible first | exact HB.out | apply below_alloc | apply pw_below_drewN | apply below_drew1) | exact HB.out)) hb); have n3_ := Aside0.mk (hbox); have n4_ := Aside0.mk ((by rw [hg]; exact (below_size (by repeat (first | (with_reducible first | exact HB.out | apply below_alloc | apply pw_below_drewN | apply below_drew1) | exact HB.out))) : w.heap.size ≤ gb293)); have n5_ := Aside0.mk ((by rw [hg]; exact (below_size (by repeat (first | (with_reducible first | exact HB.out | apply below_alloc | apply pw_below_drewN | apply below_drew1) | exact HB.out))) : w.heap.size ≤ gb293)); clear HO289; clear HO292; clear HB; have HO289 := n0_; have HO292 := n1_; have HB := n2_; have BK293 := n3_; have GW293 := n4_; have GE293 := n5_; clear n0_ n1_ n2_ n3_ n4_ n5_; clear hb hbox hg; have hcz56_0 : w55.cell? ⟨gb293, 0, none⟩ = some (.int .i64 0) := (blk_cell BK293.out 0).trans rfl; have hcz56_1 : w55.cell? ⟨gb293, 1, none⟩ = some (.string (⟨#[]⟩ : ByteArray)) := (blk_cell BK293.out 1).trans rfl; have hcz56_2 : w55.cell? ⟨gb293, 2, none⟩ = some (.string (⟨#[]⟩ : ByteArray)) := (blk_cell BK293.out 2).trans rfl; have hcz56_3 : w55.cell? ⟨gb293, 3, none⟩ = some (.slice none 0 0) := (blk_cell BK293.out 3).trans rfl; have hcz56_4 : w55.cell? ⟨gb293, 4, none⟩ = some (.slice none 0 0) := (blk_cell BK293.out 4).trans rfl; have hcz56_5 : w55.cell? ⟨gb293, 5, none⟩ = some (.bool false) := (blk_cell BK293.out 5).trans rfl; have hfz56_0 := blk_frozen BK293.out 0; have hfz56_1 := blk_frozen BK293.out 1; have hfz56_2 := blk_frozen BK293.out 2; have hfz56_3 := blk_frozen BK293.out 3; have hfz56_4 := blk_frozen BK293.out 4; have hfz56_5 := blk_frozen BK293.out 5) | ((with_reducible refine gate_callee (f := 41) rfl ?_); refine goesL_ (some 17) rfl rfl Try.func41 (by kernel_rfl) rfl #[.int .i64 1] rfl (by (try simp only [List.map_toArray, List.map_cons, List.map_nil]); first | done | rfl | (simp only [List.length_drop, List.length_take]; rfl)) ?_; (with_reducible refine (quarrylaw19_number.calls 1 t294 t295 t296 _ A1.out).mono ?_); rintro e w57 ⟨rfl, hb⟩; refine ⟨_, rfl, ?_⟩; have n0_ := Aside0.mk (Kd.R_below (by (with_reducible repeat (first | apply Kd.R_alloc | apply Kd.R_drewN | apply Kd.R_drew)); exact (Kd.R_mono (Kd.R_far (p := ⟨gb293, 5, none⟩) (Kd.R_far (p := ⟨gb293, 4, none⟩) (Kd.R_far (p := ⟨gb293, 3, none⟩) (Kd.R_far (p := ⟨gb293, 2, none⟩) (Kd.R_far (p := ⟨gb293, 1, none⟩) (Kd.R_far (p := ⟨gb293, 0, none⟩) (Kd.R_types HO289.out BK293.out (by decide)) (fun _ hk => hk.2) (.int .i64 0)) (fun _ hk => hk.2) (.string (⟨#[]⟩ : ByteArray))) (fun _ hk => hk.2) (.string (⟨#[]⟩ : ByteArray))) (fun _ hk => hk.2) (.slice Ao54 y287.length co54)) (fun _ hk => hk.2) (.slice Ao53 y290.length co53)) (fun _ hk => hk.2) (.bool false)) (fun _ h_ => h_.1))) hb); have n1_ := Aside0.mk (Kd.R_below (by (with_reducible repeat (first | apply Kd.R_alloc | apply Kd.R_drewN | apply Kd.R_drew)); exact (Kd.R_mono (Kd.R_far (p := ⟨gb293, 5, none⟩) (Kd.R_far (p := ⟨gb293, 4, none⟩) (Kd.R_far (p := ⟨gb293, 3, none⟩) (Kd.R_far (p := ⟨gb293, 2, none⟩) (Kd.R_far (p := ⟨gb293, 1, none⟩) (Kd.R_far (p := ⟨gb293, 0, none⟩) (Kd.R_types HO292.out BK293.out (by decide)) (fun _ hk => hk.2) (.int .i64 0)) (fun _ hk => hk.2) (.string (⟨#[]⟩ : ByteArray))) (fun _ hk => hk.2) (.string (⟨#[]⟩ : ByteArray))) (fun _ hk => hk.2) (.slice Ao54 y287.length co54)) (fun _ hk => hk.2) (.slice Ao53 y290.length co53)) (fun _ hk => hk.2) (.bool false)) (fun _ h_ => h_.1))) hb); have n2_ := Aside0.mk (blk_below (g := gb293) (o := .cells #[.int .i64 0, .string (⟨#[]⟩ : ByteArray), .string (⟨#[]⟩ : ByteArray), .slice Ao54 y287.length co54, .slice Ao53 y290.length co53, .bool false] 41 (0, 0)) (by (with_reducible repeat (first | refine blk_drewN ?_ _ | refine blk_drew ?_ | refine blk_alloc ?_ _)); refine blk_put (cs := #[.int .i64 0, .string (⟨#[]⟩ : ByteArray), .string (⟨#[]⟩ : ByteArray), .slice Ao54 y287.length co54, .slice Ao53 y290.length co53, .bool false]) ?_ 5 _ rfl; (with_reducible repeat (first | refine blk_drewN ?_ _ | refine blk_drew ?_ | refine blk_alloc ?_ _)); refine blk_put (cs := #[.int .i64 0, .string (⟨#[]⟩ : ByteArray), .string (⟨#[]⟩ : ByteArray), .slice Ao54 y287.length co54, .slice none 0 0, .bool false]) ?_ 4 _ rfl; (with_reducible repeat (first | refine blk_drewN ?_ _ | refine blk_drew ?_ | refine blk_alloc ?_ _)); refine blk_put (cs := #[.int .i64 0, .string (⟨#[]⟩ : ByteArray), .string (⟨#[]⟩ : ByteArray), .slice none 0 0, .slice none 0 0, .bool false]) ?_ 3 _ rfl; (with_reducible repeat (first | refine blk_drewN ?_ _ | refine blk_drew ?_ | refine blk_alloc ?_ _)); refine blk_put (cs := #[.int .i64 0, .string (⟨#[]⟩ : ByteArray), .string (⟨#[]⟩ : ByteArray), .slice none 0 0, .slice none 0 0, .bool false]) ?_ 2 _ rfl; (with_reducible repeat (first | refine blk_drewN ?_ _ | refine blk_drew ?_ | refine blk_alloc ?_ _)); refine blk_put (cs := #[.int .i64 0, .string (⟨#[]⟩ : ByteArray), .string (⟨#[]⟩ : ByteArray), .slice none 0 0, .slice none 0 0, .bool false]) ?_ 1 _ rfl; (with_reducible repeat (first | refine blk_drewN ?_ _ | refine blk_drew ?_ | refine blk_alloc ?_ _)); refine blk_put (cs := #[.int .i64 0, .string (⟨#[]⟩ : ByteArray), .string (⟨#[]⟩ : ByteArray), .slice none 0 0, .slice none 0 0, .bool false]) ?_ 0 _ rfl; (with_reducible repeat (first | refine blk_drewN ?_ _ | refine blk_drew ?_ | refine blk_alloc ?_ _)); exact BK293.out) hb); have n3_ := Aside0.mk (below_step (by repeat (first | (with_reducible first | exact HB.out | apply below_alloc | apply pw_below_drewN | apply below_drew1 | refine below_set ?_ GE293.out) | exact HB.out)) hb); clear HO289; clear HO292; clear BK293; clear HB; have HO289 := n0_; have HO292 := n1_; have BK293 := n2_; have HB := n3_; clear n0_ n1_ n2_ n3_; (try clear hb); (try clear hb2); (try clear hk); (try clear hi)) | ((with_reducible refine gate_callee (f := 41) rfl ?_); refine goesL_ (some 19) rfl rfl Try.func41 (by kernel_rfl) rfl #[.int .i64 2] rfl (by (try simp only [List.map_toArray, List.map_cons, List.map_nil]); first | done | rfl | (simp only [List.length_drop, List.length_take]; rfl)) ?_; (with_reducible refine (quarrylaw19_number.calls 2 t297 t298 t299 _ A2.out).mono ?_); rintro e w58 ⟨rfl, hb⟩; refine ⟨_, rfl, ?_⟩; have n0_ := Aside0.mk (Kd.R_below (by (with_reducible repeat (first | apply Kd.R_alloc | apply Kd.R_drewN | apply Kd.R_drew)); exact HO289.out) hb); have n1_ := Aside0.mk (Kd.R_below (by (with_reducible repeat (first | apply Kd.R_alloc | apply Kd.R_drewN | apply Kd.R_drew)); exact HO292.out) hb); have n2_ := Aside0.mk (blk_below (g := gb293) (o := .cells #[.int .i64 0, .string (⟨#[]⟩ : ByteArray), .string (⟨#[]⟩ : ByteArray), .slice Ao54 y287.length co54, .slice Ao53 y290.length co53, .bool false] 41 (0, 0)) (bk_ BK293) hb); have n3_ := Aside0.mk (below_step (by repeat (first | (with_reducible first | exact HB.out | apply below_alloc | apply pw_below_drewN | apply below_drew1 | refine below_set ?_ GE293.out) | exact HB.out)) hb); clear HO289; clear HO292; clear BK293; clear HB; have HO289 := n0_; have HO292 := n1_; have BK293 := n2_; have HB := n3_; clear n0_ n1_ n2_ n3_; (try clear hb); (try clear hb2); (try clear hk); (try clear hi)) | ((with_reducible refine gate_dst (N := 21) rfl ?_); (try (refine gate_guard (by rfl) ?_; dsimp only)); refine Kd.R_lit k69 _ 69 ?hg (N := 21) ?hd (xs := ([(⟨0, 5, (⟨t294, t295, t296⟩ : S25)⟩ : S69), (⟨1, 9, (⟨t297, t298, t299⟩ : S25)⟩ : S69)] : List (S69))) (inner := [.int .i64 0, .int .i64 5, .int .i64 t294, .int .i64 t295, .string t296, .int .i64 1, .int .i64 9, .int .i64 t297, .int .i64 t298, .string t299]) (ok := fun _ => True) (okp := fun _ => True) ?hr ?hp (fun _ hk => hk) trivial (Below.refl _ _) (Nat.le_refl _) (by simp) ?_; (case hd => rfl); (case hg => rfl); (case hr => first | (go_simp; done) | (go_simp; rfl)); (case hp => exact (Reps.c5 (show Kd.M k69 _ _ _ (⟨0, 5, (⟨t294, t295, t296⟩ : S25)⟩ : S69) [.int .i64 0, .int .i64 5, .int .i64 t294, .int .i64 t295, .string t296] from (k69_mkM _ _ _ (⟨0, 5, (⟨t294, t295, t296⟩ : S25)⟩ : S69) )) (Reps.c5 (show Kd.M k69 _ _ _ (⟨1, 9, (⟨t297, t298, t299⟩ : S25)⟩ : S69) [.int .i64 1, .int .i64 9, .int .i64 t297, .int .i64 t298, .string t299] from (k69_mkM _ _ _ (⟨1, 9, (⟨t297, t298, t299⟩ : S25)⟩ : S69) )) (Reps.none _ _)))); intro v301 w59 ho60 hb hg_ hnew_; clear hg_ hnew_; (first | rw [← Ny300.out] at ho60 | (simp only [Int.reduceToNat] at ho60; rw [← Ny300.out] at ho60)); have n0_ := Aside0.mk (Kd.R_below (by (with_reducible repeat (first | apply Kd.R_alloc | apply Kd.R_drewN | apply Kd.R_drew)); exact HO289.out) hb); have n1_ := Aside0.mk (Kd.R_below (by (with_reducible repeat (first | apply Kd.R_alloc | apply Kd.R_drewN | apply Kd.R_drew)); exact HO292.out) hb); have n2_ := Aside0.mk (Kd.R_lower ho60 (below_size (by repeat (first | (with_reducible first | exact HB.out | apply below_alloc | apply pw_below_drewN | apply below_drew1 | refine below_set ?_ GE293.out) | exact HB.out)))); have n3_ := Aside0.mk (blk_below (g := gb293) (o := .cells #[.int .i64 0, .string (⟨#[]⟩ : ByteArray), .string (⟨#[]⟩ : ByteArray), .slice Ao54 y287.length co54, .slice Ao53 y290.length co53, .bool false] 41 (0, 0)) (bk_ BK293) hb); have n4_ := Aside0.mk (below_step (by repeat (first | (with_reducible first | exact HB.out | apply below_alloc | apply pw_below_drewN | apply below_drew1 | refine below_set ?_ GE293.out) | exact HB.out)) hb); clear HO289; clear HO292; clear BK293; clear HB; have HO289 := n0_; have HO292 := n1_; have HO302 := n2_; have BK293 := n3_; have HB := n4_; clear n0_ n1_ n2_ n3_ n4_; clear hb ho60; have hcz61_0 : w59.cell? ⟨gb293, 0, none⟩ = some (.int .i64 0) := (blk_cell BK293.out 0).trans rfl; have hcz61_1 : w59.cell? ⟨gb293, 1, none⟩ = some (.string (⟨#[]⟩ : ByteArray)) := (blk_cell BK293.out 1).trans rfl; have hcz61_2 : w59.cell? ⟨gb293, 2, none⟩ = some (.string (⟨#[]⟩ : ByteArray)) := (blk_cell BK293.out 2).trans rfl; have hcz61_3 : w59.cell? ⟨gb293, 3, none⟩ = some (.slice Ao54 y287.length co54) := (blk_cell BK293.out 3).trans rfl; have hcz61_4 : w59.cell? ⟨gb293, 4, none⟩ = some (.slice Ao53 y290.length co53) := (blk_cell BK293.out 4).trans rfl; have hcz61_5 : w59.cell? ⟨gb293, 5, none⟩ = some (.bool false) := (blk_cell BK293.out 5).trans rfl; have hfz61_0 := blk_frozen BK293.out 0; have hfz61_1 := blk_frozen BK293.out 1; have hfz61_2 := blk_frozen BK293.out 2; have hfz61_3 := blk_frozen BK293.out 3; have hfz61_4 := blk_frozen BK293.out 4; have hfz61_5 := blk_frozen BK293.out 5; obtain ⟨Ao62, co62, eo62⟩ := Kd.R_slice HO302.out; subst eo62) | ((with_reducible refine gate_callee (f := 15) rfl ?_); refine goesL_ (some 25) rfl rfl Try.func15 (by kernel_rfl) rfl #[.agg #[.int .i64 0, .string (⟨#[]⟩ : ByteArray), .string (⟨#[]⟩ : ByteArray), .slice Ao54 y287.length co54, .slice Ao53 y290.length co53, .bool false], .slice Ao62 y300.length co62] rfl (by (try simp only [List.map_toArray, List.map_cons, List.map_nil]); first | done | rfl | (simp only [List.length_drop, List.length_take]; rfl)) ?_; (with_reducible refine (bounds_Range.calls k 0 (⟨#[]⟩ : ByteArray) (⟨#[]⟩ : ByteArray) _ _ y287 _ _ y290 false _ _ y300 t303 t306 false _ ?side1 ?side2 ?side3 ?side4 ?side5 ?side6 A3.out).mono ?_); (case side1 => repeat (first | exact (Kd.R_reads' HO289.out).2.2 | (with_reducible refine Kd.C_alloc ?_ _) | (with_reducible refine Kd.C_drewN ?_ _) | (with_reducible refine Kd.C_drew ?_))); (case side2 => exact (Kd.R_reads' HO289.out).2.1); (case side3 => repeat (first | exact (Kd.R_reads' HO292.out).2.2 | (with_reducible refine Kd.C_alloc ?_ _) | (with_reducible refine Kd.C_drewN ?_ _) | (with_reducible refine Kd.C_drew ?_))); (case side4 => exact (Kd.R_reads' HO292.out).2.1); (case side5 => repeat (first | exact (Kd.R_reads' HO302.out).2.2 | (with_reducible refine Kd.C_alloc ?_ _) | (with_reducible refine Kd.C_drewN ?_ _) | (with_reducible refine Kd.C_drew ?_))); (case side6 => exact (Kd.R_reads' HO302.out).2.1); rintro e w63 ⟨v304, v307, rfl, ho0, ho1, hb⟩; refine ⟨_, rfl, ?_⟩; have n0_ := Aside0.mk (Kd.R_below (by (with_reducible repeat (first | apply Kd.R_alloc | apply Kd.R_drewN | apply Kd.R_drew)); exact HO289.out) hb); have n1_ := Aside0.mk (Kd.R_below (by (with_reducible repeat (first | apply Kd.R_alloc | apply Kd.R_drewN | apply Kd.R_drew)); exact HO292.out) hb); have n2_ := Aside0.mk (Kd.R_below (by (with_reducible repeat (first | apply Kd.R_alloc | apply Kd.R_drewN | apply Kd.R_drew)); exact HO302.out) hb); have n3_ := Aside0.mk (Kd.R_lower ho0 (below_size (by repeat (first | (with_reducible first | exact HB.out | apply below_alloc | apply pw_below_drewN | apply below_drew1 | refine below_set ?_ GE293.out) | exact HB.out)))); have n4_ := Aside0.mk (Kd.R_lower ho1 (below_size (by repeat (first | (with_reducible first | exact HB.out | apply below_alloc | apply pw_below_drewN | apply below_drew1 | refine below_set ?_ GE293.out) | exact HB.out)))); have n5_ := Aside0.mk (blk_below (g := gb293) (o := .cells #[.int .i64 0, .string (⟨#[]⟩ : ByteArray), .string (⟨#[]⟩ : ByteArray), .slice Ao54 y287.length co54, .slice Ao53 y290.length co53, .bool false] 41 (0, 0)) (bk_ BK293) hb); have n6_ := Aside0.mk (below_step (by repeat (first | (with_reducible first | exact HB.out | apply below_alloc | apply pw_below_drewN | apply below_drew1 | refine below_set ?_ GE293.out) | exact HB.out)) hb); clear HO289; clear HO292; clear HO302; clear BK293; clear HB; have HO289 := n0_; have HO292 := n1_; have HO302 := n2_; have HO305 := n3_; have HO308 := n4_; have BK293 := n5_; have HB := n6_; clear n0_ n1_ n2_ n3_ n4_ n5_ n6_; (try clear hb); (try clear hb2); (try clear hk); (try clear hi); (try clear ho0); (try clear ho1)) | ((with_reducible refine gate_callee (f := 41) rfl ?_); refine goesL_ (some 30) rfl rfl Try.func41 (by kernel_rfl) rfl #[.int .i64 1] rfl (by (try simp only [List.map_toArray, List.map_cons, List.map_nil]); first | done | rfl | (simp only [List.length_drop, List.length_take]; rfl)) ?_; (with_reducible refine (quarrylaw19_number.calls 1 t310 t311 t312 _ A4.out).mono ?_); rintro e w64 ⟨rfl, hb⟩; refine ⟨_, rfl, ?_⟩; have n0_ := Aside0.mk (Kd.R_below (by (with_reducible repeat (first | apply Kd.R_alloc | apply Kd.R_drewN | apply Kd.R_drew)); exact HO289.out) hb); have n1_ := Aside0.mk (Kd.R_below (by (with_reducible repeat (first | apply Kd.R_alloc | apply Kd.R_drewN | apply Kd.R_drew)); exact HO292.out) hb); have n2_ := Aside0.mk (Kd.R_below (by (with_reducible repeat (first | apply Kd.R_alloc | apply Kd.R_drewN | apply Kd.R_drew)); exact HO302.out) hb); have n3_ := Aside0.mk (Kd.R_below (by (with_reducible repeat (first | apply Kd.R_alloc | apply Kd.R_drewN | apply Kd.R_drew)); exact HO305.out) hb); have n4_ := Aside0.mk (Kd.R_below (by (with_reducible repeat (first | apply Kd.R_alloc | apply Kd.R_drewN | apply Kd.R_drew)); exact HO308.out) hb); have n5_ := Aside0.mk (blk_below (g := gb293) (o := .cells #[.int .i64 0, .string (⟨#[]⟩ : ByteArray), .string (⟨#[]⟩ : ByteArray), .slice Ao54 y287.length co54, .slice Ao53 y290.length co53, .bool false] 41 (0, 0)) (bk_ BK293) hb); have n6_ := Aside0.mk (below_step (by repeat (first | (with_reducible first | exact HB.out | apply below_alloc | apply pw_below_drewN | apply below_drew1 | refine below_set ?_ GE293.out) | exact HB.out)) hb); clear HO289; clear HO292; clear HO302; clear HO305; clear HO308; clear BK293; clear HB; have HO289 := n0_; have HO292 := n1_; have HO302 := n2_; have HO305 := n3_; have HO308 := n4_; have BK293 := n5_; have HB := n6_; clear n0_ n1_ n2_ n3_ n4_ n5_ n6_; (try clear hb); (try clear hb2); (try clear hk); (try clear hi)) | ((with_reducible refine gate_callee (f := 41) rfl ?_); refine goesL_ (some 31) rfl rfl Try.func41 (by kernel_rfl) rfl #[.int .i64 2] rfl (by (try simp only [List.map_toArray, List.map_cons, List.map_nil]); first | done | rfl | (simp only [List.length_drop, List.length_take]; rfl)) ?_; (with_reducible refine (quarrylaw19_number.calls 2 t313 t314 t315 _ A5.out).mono ?_); rintro e w65 ⟨rfl, hb⟩; refine ⟨_, rfl, ?_⟩; have n0_ := Aside0.mk (Kd.R_below (by (with_reducible repeat (first | apply Kd.R_alloc | apply Kd.R_drewN | apply Kd.R_drew)); exact HO289.out) hb); have n1_ := Aside0.mk (Kd.R_below (by (with_reducible repeat (first | apply Kd.R_alloc | apply Kd.R_drewN | apply Kd.R_drew)); exact HO292.out) hb); have n2_ := Aside0.mk (Kd.R_below (by (with_reducible repeat (first | apply Kd.R_alloc | apply Kd.R_drewN | apply Kd.R_drew)); exact HO302.out) hb); have n3_ := Aside0.mk (Kd.R_below (by (with_reducible repeat (first | apply Kd.R_alloc | apply Kd.R_drewN | apply Kd.R_drew)); exact HO305.out) hb); have n4_ := Aside0.mk (Kd.R_below (by (with_reducible repeat (first | apply Kd.R_alloc | apply Kd.R_drewN | apply Kd.R_drew)); exact HO308.out) hb); have n5_ := Aside0.mk (blk_below (g := gb293) (o := .cells #[.int .i64 0, .string (⟨#[]⟩ : ByteArray), .string (⟨#[]⟩ : ByteArray), .slice Ao54 y287.length co54, .slice Ao53 y290.length co53, .bool false] 41 (0, 0)) (bk_ BK293) hb); have n6_ := Aside0.mk (below_step (by repeat (first | (with_reducible first | exact HB.out | apply below_alloc | apply pw_below_drewN | apply below_drew1 | refine below_set ?_ GE293.out) | exact HB.out)) hb); clear HO289; clear HO292; clear HO302; clear HO305; clear HO308; clear BK293; clear HB; have HO289 := n0_; have HO292 := n1_; have HO302 := n2_; have HO305 := n3_; have HO308 := n4_; have BK293 := n5_; have HB := n6_; clear n0_ n1_ n2_ n3_ n4_ n5_ n6_; (try clear hb); (try clear hb2); (try clear hk); (try clear hi)) | ((with_reducible refine gate_dst (N := 32) rfl ?_); (try (refine gate_guard (by rfl) ?_; dsimp only)); refine Kd.R_lit k25 _ 25 ?hg (N := 32) ?hd (xs := ([(⟨t310, t311, t312⟩ : S25), (⟨t313, t314, t315⟩ : S25)] : List (S25))) (inner := [.int .i64 t310, .int .i64 t311, .string t312, .int .i64 t313, .int .i64 t314, .string t315]) (ok := fun _ => True) (okp := fun _ => True) ?hr ?hp (fun _ hk => hk) trivial (Below.refl _ _) (Nat.le_refl _) (by simp) ?_; (case hd => rfl); (case hg => rfl); (case hr => first | (go_simp; done) | (go_simp; rfl)); (case hp => exact (Reps.c3 (show Kd.M k25 _ _ _ (⟨t310, t311, t312⟩ : S25) [.int .i64 t310, .int .i64 t311, .string t312] from (k25_mkM _ _ _ (⟨t310, t311, t312⟩ : S25) )) (Reps.c3 (show Kd.M k25 _ _ _ (⟨t313, t314, t315⟩ : S25) [.int .i64 t313, .int .i64 t314, .string t315] from (k25_mkM _ _ _ (⟨t313, t314, t315⟩ : S25) )) (Reps.none _ _)))); intro v317 w66 ho67 hb hg_ hnew_; clear hg_ hnew_; (first | rw [← Ny316.out] at ho67 | (simp only [Int.reduceToNat] at ho67; rw [← Ny316.out] at ho67)); have n0_ := Aside0.mk (Kd.R_below (by (with_reducible repeat (first | apply Kd.R_alloc | apply Kd.R_drewN | apply Kd.R_drew)); exact HO289.out) hb); have n1_ := Aside0.mk (Kd.R_below (by (with_reducible repeat (first | apply Kd.R_alloc | apply Kd.R_drewN | apply Kd.R_drew)); exact HO292.out) hb); have n2_ := Aside0.mk (Kd.R_below (by (with_reducible repeat (first | apply Kd.R_alloc | apply Kd.R_drewN | apply Kd.R_drew)); exact HO302.out) hb); have n3_ := Aside0.mk (Kd.R_below (by (with_reducible repeat (first | apply Kd.R_alloc | apply Kd.R_drewN | apply Kd.R_drew)); exact HO305.out) hb); have n4_ := Aside0.mk (Kd.R_below (by (with_reducible repeat (first | apply Kd.R_alloc | apply Kd.R_drewN | apply Kd.R_drew)); exact HO308.out) hb); have n5_ := Aside0.mk (Kd.R_lower ho67 (below_size (by repeat (first | (with_reducible first | exact HB.out | apply below_alloc | apply pw_below_drewN | apply below_drew1 | refine below_set ?_ GE293.out) | exact HB.out)))); have n6_ := Aside0.mk (blk_below (g := gb293) (o := .cells #[.int .i64 0, .string (⟨#[]⟩ : ByteArray), .string (⟨#[]⟩ : ByteArray), .slice Ao54 y287.length co54, .slice Ao53 y290.length co53, .bool false] 41 (0, 0)) (bk_ BK293) hb); have n7_ := Aside0.mk (below_step (by repeat (first | (with_reducible first | exact HB.out | apply below_alloc | apply pw_below_drewN | apply below_drew1 | refine below_set ?_ GE293.out) | exact HB.out)) hb); clear HO289; clear HO292; clear HO302; clear HO305; clear HO308; clear BK293; clear HB; have HO289 := n0_; have HO292 := n1_; have HO302 := n2_; have HO305 := n3_; have HO308 := n4_; have HO318 := n5_; have BK293 := n6_; have HB := n7_; clear n0_ n1_ n2_ n3_ n4_ n5_ n6_ n7_; clear hb ho67; obtain ⟨Ao68, co68, eo68⟩ := Kd.R_slice HO318.out; subst eo68) | ((with_reducible refine gate_callee (f := 23) rfl ?_); refine goesL_ (some 33) rfl rfl Try.func23 (by kernel_rfl) rfl #[.slice Ao68 y316.length co68, .slice none 0 0] rfl (by (try simp only [List.map_toArray, List.map_cons, List.map_nil]); first | done | rfl | (simp only [List.length_drop, List.length_take]; rfl)) ?_; (refine (quarryref03_Encode.calls k _ _ y316 _ _ ([] : List Bool) t319 t320 _ ?side1 ?side2 ?side3 ?side4 A6.out).mono ?_); (case side1 => repeat (first | exact (Kd.R_reads' HO318.out).2.2 | (with_reducible refine Kd.C_alloc ?_ _) | (with_reducible refine Kd.C_drewN ?_ _) | (with_reducible refine Kd.C_drew ?_))); (case side2 => exact (Kd.R_reads' HO318.out).2.1); (case side3 => exact Kd.C_nil _ _); (case side4 => exact Nat.le_refl _); rintro e w69 ⟨v321, rfl, ho0, hb⟩; refine ⟨_, rfl, ?_⟩; have n0_ := Aside0.mk (Kd.R_below (by (with_reducible repeat (first | apply Kd.R_alloc | apply Kd.R_drewN | apply Kd.R_drew)); exact HO289.out) hb); have n1_ := Aside0.mk (Kd.R_below (by (with_reducible repeat (first | apply Kd.R_alloc | apply Kd.R_drewN | apply Kd.R_drew)); exact HO292.out) hb); have n2_ := Aside0.mk (Kd.R_below (by (with_reducible repeat (first | apply Kd.R_alloc | apply Kd.R_drewN | apply Kd.R_drew)); exact HO302.out) hb); have n3_ := Aside0.mk (Kd.R_elder' (by (with_reducible repeat (first | apply Kd.R_alloc | apply Kd.R_drewN | apply Kd.R_drew)); exact HO305.out) (Kd.R_base ho0) hb); have n4_ := Aside0.mk (Kd.R_elder' (by (with_reducible repeat (first | apply Kd.R_alloc | apply Kd.R_drewN | apply Kd.R_drew)); exact HO308.out) (Kd.R_base ho0) hb); have n5_ := Aside0.mk (Kd.R_below (by (with_reducible repeat (first | apply Kd.R_alloc | apply Kd.R_drewN | apply Kd.R_drew)); exact HO318.out) hb); have n6_ := Aside0.mk (Kd.R_lower (Kd.R_new' (Kd.R_new' ho0 (Kd.R_lt (by (with_reducible repeat (first | apply Kd.R_alloc | apply Kd.R_drewN | apply Kd.R_drew)); exact HO305.out))) (Kd.R_lt (by (with_reducible repeat (first | apply Kd.R_alloc | apply Kd.R_drewN | apply Kd.R_drew)); exact HO308.out))) (below_size (by repeat (first | (with_reducible first | exact HB.out | apply below_alloc | apply pw_below_drewN | apply below_drew1 | refine below_set ?_ GE293.out) | exact HB.out)))); have n7_ := Aside0.mk (blk_below (g := gb293) (o := .cells #[.int .i64 0, .string (⟨#[]⟩ : ByteArray), .string (⟨#[]⟩ : ByteArray), .slice Ao54 y287.length co54, .slice Ao53 y290.length co53, .bool false] 41 (0, 0)) (bk_ BK293) hb); have n8_ := Aside0.mk (below_step (by repeat (first | (with_reducible first | exact HB.out | apply below_alloc | apply pw_below_drewN | apply below_drew1 | refine below_set ?_ GE293.out) | exact HB.out)) hb); clear HO289; clear HO292; clear HO302; clear HO305; clear HO308; clear HO318; clear BK293; clear HB; have HO289 := n0_; have HO292 := n1_; have HO302 := n2_; have HO305 := n3_; have HO308 := n4_; have HO318 := n5_; have HO322 := n6_; have BK293 := n7_; have HB := n8_; clear n0_ n1_ n2_ n3_ n4_ n5_ n6_ n7_ n8_; (try clear hb); (try clear hb2); (try clear hk); (try clear hi); (try clear ho0)) | ((with_reducible refine gate_callee (f := 41) rfl ?_); refine goesL_ (some 37) rfl rfl Try.func41 (by kernel_rfl) rfl #[.int .i64 1] rfl (by (try simp only [List.map_toArray, List.map_cons, List.map_nil]); first | done | rfl | (simp only [List.length_drop, List.length_take]; rfl)) ?_; (with_reducible refine (quarrylaw19_number.calls 1 t323 t324 t325 _ A7.out).mono ?_); rintro e w70 ⟨rfl, hb⟩; refine ⟨_, rfl, ?_⟩; have n0_ := Aside0.mk (Kd.R_below (by (with_reducible repeat (first | apply Kd.R_alloc | apply Kd.R_drewN | apply Kd.R_drew)); exact HO289.out) hb); have n1_ := Aside0.mk (Kd.R_below (by (with_reducible repeat (first | apply Kd.R_alloc | apply Kd.R_drewN | apply Kd.R_drew)); exact HO292.out) hb); have n2_ := Aside0.mk (Kd.R_below (by (with_reducible repeat (first | apply Kd.R_alloc | apply Kd.R_drewN | apply Kd.R_drew)); exact HO302.out) hb); have n3_ := Aside0.mk (Kd.R_below (by (with_reducible repeat (first | apply Kd.R_alloc | apply Kd.R_drewN | apply Kd.R_drew)); exact HO305.out) hb); have n4_ := Aside0.mk (Kd.R_below (by (with_reducible repeat (first | apply Kd.R_alloc | apply Kd.R_drewN | apply Kd.R_drew)); exact HO308.out) hb); have n5_ := Aside0.mk (Kd.R_below (by (with_reducible repeat (first | apply Kd.R_alloc | apply Kd.R_drewN | apply Kd.R_drew)); exact HO318.out) hb); have n6_ := Aside0.mk (Kd.R_below (by (with_reducible repeat (first | apply Kd.R_alloc | apply Kd.R_drewN | apply Kd.R_drew)); exact HO322.out) hb); have n7_ := Aside0.mk (blk_below (g := gb293) (o := .cells #[.int .i64 0, .string (⟨#[]⟩ : ByteArray), .string (⟨#[]⟩ : ByteArray), .slice Ao54 y287.length co54, .slice Ao53 y290.length co53, .bool false] 41 (0, 0)) (bk_ BK293) hb); have n8_ := Aside0.mk (below_step (by repeat (first | (with_reducible first | exact HB.out | apply below_alloc | apply pw_below_drewN | apply below_drew1 | refine below_set ?_ GE293.out) | exact HB.out)) hb); clear HO289; clear HO292; clear HO302; clear HO305; clear HO308; clear HO318; clear HO322; clear BK293; clear HB; have HO289 := n0_; have HO292 := n1_; have HO302 := n2_; have HO305 := n3_; have HO308 := n4_; have HO318 := n5_; have HO322 := n6_; have BK293 := n7_; have HB := n8_; clear n0_ n1_ n2_ n3_ n4_ n5_ n6_ n7_ n8_; (try clear hb); (try clear hb2); (try clear hk); (try clear hi)) | ((with_reducible refine gate_dst (N := 38) rfl ?_); (try (refine gate_guard (by rfl) ?_; dsimp only)); refine Kd.R_lit k25 _ 25 ?hg (N := 38) ?hd (xs := ([(⟨t323, t324, t325⟩ : S25)] : List (S25))) (inner := [.int .i64 t323, .int .i64 t324, .string t325]) (ok := fun _ => True) (okp := fun _ => True) ?hr ?hp (fun _ hk => hk) trivial (Below.refl _ _) (Nat.le_refl _) (by simp) ?_; (case hd => rfl); (case hg => rfl); (case hr => first | (go_simp; done) | (go_simp; rfl)); (case hp => exact (Reps.c3 (show Kd.M k25 _ _ _ (⟨t323, t324, t325⟩ : S25) [.int .i64 t323, .int .i64 t324, .string t325] from (k25_mkM _ _ _ (⟨t323, t324, t325⟩ : S25) )) (Reps.none _ _))); intro v327 w71 ho72 hb hg_ hnew_; clear hg_ hnew_; (first | rw [← Ny326.out] at ho72 | (simp only [Int.reduceToNat] at ho72; rw [← Ny326.out] at ho72)); have n0_ := Aside0.mk (Kd.R_below (by (with_reducible repeat (first | apply Kd.R_alloc | apply Kd.R_drewN | apply Kd.R_drew)); exact HO289.out) hb); have n1_ := Aside0.mk (Kd.R_below (by (with_reducible repeat (first | apply Kd.R_alloc | apply Kd.R_drewN | apply Kd.R_drew)); exact HO292.out) hb); have n2_ := Aside0.mk (Kd.R_below (by (with_reducible repeat (first | apply Kd.R_alloc | apply Kd.R_drewN | apply Kd.R_drew)); exact HO302.out) hb); have n3_ := Aside0.mk (Kd.R_below (by (with_reducible repeat (first | apply Kd.R_alloc | apply Kd.R_drewN | apply Kd.R_drew)); exact HO305.out) hb); have n4_ := Aside0.mk (Kd.R_below (by (with_reducible repeat (first | apply Kd.R_alloc | apply Kd.R_drewN | apply Kd.R_drew)); exact HO308.out) hb); have n5_ := Aside0.mk (Kd.R_elder' (by (with_reducible repeat (first | apply Kd.R_alloc | apply Kd.R_drewN | apply Kd.R_drew)); exact HO318.out) (Kd.R_base ho72) hb); have n6_ := Aside0.mk (Kd.R_below (by (with_reducible repeat (first | apply Kd.R_alloc | apply Kd.R_drewN | apply Kd.R_drew)); exact HO322.out) hb); have n7_ := Aside0.mk (Kd.R_lower (Kd.R_new' ho72 (Kd.R_lt (by (with_reducible repeat (first | apply Kd.R_alloc | apply Kd.R_drewN | apply Kd.R_drew)); exact HO318.out))) (below_size (by repeat (first | (with_reducible first | exact HB.out | apply below_alloc | apply pw_below_drewN | apply below_drew1 | refine below_set ?_ GE293.out) | exact HB.out)))); have n8_ := Aside0.mk (blk_below (g := gb293) (o := .cells #[.int .i64 0, .string (⟨#[]⟩ : ByteArray), .string (⟨#[]⟩ : ByteArray), .slice Ao54 y287.length co54, .slice Ao53 y290.length co53, .bool false] 41 (0, 0)) (bk_ BK293) hb); have n9_ := Aside0.mk (below_step (by repeat (first | (with_reducible first | exact HB.out | apply below_alloc | apply pw_below_drewN | apply below_drew1 | refine below_set ?_ GE293.out) | exact HB.out)) hb); clear HO289; clear HO292; clear HO302; clear HO305; clear HO308; clear HO318; clear HO322; clear BK293; clear HB; have HO289 := n0_; have HO292 := n1_; have HO302 := n2_; have HO305 := n3_; have HO308 := n4_; have HO318 := n5_; have HO322 := n6_; have HO328 := n7_; have BK293 := n8_; have HB := n9_; clear n0_ n1_ n2_ n3_ n4_ n5_ n6_ n7_ n8_ n9_; clear hb ho72; obtain ⟨Ao73, co73, eo73⟩ := Kd.R_slice HO328.out; subst eo73) | ((with_reducible refine gate_callee (f := 23) rfl ?_); refine goesL_ (some 39) rfl rfl Try.func23 (by kernel_rfl) rfl #[.slice Ao73 y326.length co73, .slice none 0 0] rfl (by (try simp only [List.map_toArray, List.map_cons, List.map_nil]); first | done | rfl | (simp only [List.length_drop, List.length_take]; rfl)) ?_; (refine (quarryref03_Encode.calls k _ _ y326 _ _ ([] : List Bool) t329 t330 _ ?side1 ?side2 ?side3 ?side4 A8.out).mono ?_); (case side1 => repeat (first | exact (Kd.R_reads' HO328.out).2.2 | (with_reducible refine Kd.C_alloc ?_ _) | (with_reducible refine Kd.C_drewN ?_ _) | (with_reducible refine Kd.C_drew ?_))); (case side2 => exact (Kd.R_reads' HO328.out).2.1); (case side3 => exact Kd.C_nil _ _); (case side4 => exact Nat.le_refl _); rintro e w74 ⟨v331, rfl, ho0, hb⟩; refine ⟨_, rfl, ?_⟩; have n0_ := Aside0.mk (Kd.R_below (by (with_reducible repeat (first | apply Kd.R_alloc | apply Kd.R_drewN | apply Kd.R_drew)); exact HO289.out) hb); have n1_ := Aside0.mk (Kd.R_below (by (with_reducible repeat (first | apply Kd.R_alloc | apply Kd.R_drewN | apply Kd.R_drew)); exact HO292.out) hb); have n2_ := Aside0.mk (Kd.R_below (by (with_reducible repeat (first | apply Kd.R_alloc | apply Kd.R_drewN | apply Kd.R_drew)); exact HO302.out) hb); have n3_ := Aside0.mk (Kd.R_elder' (by (with_reducible repeat (first | apply Kd.R_alloc | apply Kd.R_drewN | apply Kd.R_drew)); exact HO305.out) (Kd.R_base ho0) hb); have n4_ := Aside0.mk (Kd.R_elder' (by (with_reducible repeat (first | apply Kd.R_alloc | apply Kd.R_drewN | apply Kd.R_drew)); exact HO308.out) (Kd.R_base ho0) hb); have n5_ := Aside0.mk (Kd.R_below (by (with_reducible repeat (first | apply Kd.R_alloc | apply Kd.R_drewN | apply Kd.R_drew)); exact HO318.out) hb); have n6_ := Aside0.mk (Kd.R_elder' (by (with_reducible repeat (first | apply Kd.R_alloc | apply Kd.R_drewN | apply Kd.R_drew)); exact HO322.out) (Kd.R_base ho0) hb); have n7_ := Aside0.mk (Kd.R_below (by (with_reducible repeat (first | apply Kd.R_alloc | apply Kd.R_drewN | apply Kd.R_drew)); exact HO328.out) hb); have n8_ := Aside0.mk (Kd.R_lower (Kd.R_new' (Kd.R_new' (Kd.R_new' ho0 (Kd.R_lt (by (with_reducible repeat (first | apply Kd.R_alloc | apply Kd.R_drewN | apply Kd.R_drew)); exact HO305.out))) (Kd.R_lt (by (with_reducible repeat (first | apply Kd.R_alloc | apply Kd.R_drewN | apply Kd.R_drew)); exact HO308.out))) (Kd.R_lt (by (with_reducible repeat (first | apply Kd.R_alloc | apply Kd.R_drewN | apply Kd.R_drew)); exact HO322.out))) (below_size (by repeat (first | (with_reducible first | exact HB.out | apply below_alloc | apply pw_below_drewN | apply below_drew1 | refine below_set ?_ GE293.out) | exact HB.out)))); have n9_ := Aside0.mk (blk_below (g := gb293) (o := .cells #[.int .i64 0, .string (⟨#[]⟩ : ByteArray), .string (⟨#[]⟩ : ByteArray), .slice Ao54 y287.length co54, .slice Ao53 y290.length co53, .bool false] 41 (0, 0)) (bk_ BK293) hb); have n10_ := Aside0.mk (below_step (by repeat (first | (with_reducible first | exact HB.out | apply below_alloc | apply pw_below_drewN | apply below_drew1 | refine below_set ?_ GE293.out) | exact HB.out)) hb); clear HO289; clear HO292; clear HO302; clear HO305; clear HO308; clear HO318; clear HO322; clear HO328; clear BK293; clear HB; have HO289 := n0_; have HO292 := n1_; have HO302 := n2_; have HO305 := n3_; have HO308 := n4_; have HO318 := n5_; have HO322 := n6_; have HO328 := n7_; have HO332 := n8_; have BK293 := n9_; have HB := n10_; clear n0_ n1_ n2_ n3_ n4_ n5_ n6_ n7_ n8_ n9_ n10_; (try clear hb); (try clear hb2); (try clear hk); (try clear hi); (try clear ho0); obtain ⟨Ao75, co75, eo75⟩ := Kd.R_slice HO322.out; subst eo75) | ((with_reducible refine gate_callee (f := 37) rfl ?_); refine goesL_ (some 44) rfl rfl Try.func37 (by kernel_rfl) rfl #[.slice Ao75 t319.length co75] rfl (by (try simp only [List.map_toArray, List.map_cons, List.map_nil]); first | done | rfl | (simp only [List.length_drop, List.length_take]; rfl)) ?_; (with_reducible refine (quarryref03_Next.calls k _ _ t319 t333 t334 _ ?side1 ?side2 A9.out).mono ?_); (case side1 => repeat (first | exact (Kd.R_reads' HO322.out).2.2 | (with_reducible refine Kd.C_alloc ?_ _) | (with_reducible refine Kd.C_drewN ?_ _) | (with_reducible refine Kd.C_drew ?_))); (case side2 => exact (Kd.R_reads' HO322.out).2.1); rintro e w76 ⟨v335, rfl, ho0, hb⟩; refine ⟨_, rfl, ?_⟩; have n0_ := Aside0.mk (Kd.R_below (by (with_reducible repeat (first | apply Kd.R_alloc | apply Kd.R_drewN | apply Kd.R_drew)); exact HO289.out) hb); have n1_ := Aside0.mk (Kd.R_below (by (with_reducible repeat (first | apply Kd.R_alloc | apply Kd.R_drewN | apply Kd.R_drew)); exact HO292.out) hb); have n2_ := Aside0.mk (Kd.R_below (by (with_reducible repeat (first | apply Kd.R_alloc | apply Kd.R_drewN | apply Kd.R_drew)); exact HO302.out) hb); have n3_ := Aside0.mk (Kd.R_elder' (by (with_reducible repeat (first | apply Kd.R_alloc | apply Kd.R_drewN | apply Kd.R_drew)); exact HO305.out) (Kd.R_base ho0) hb); have n4_ := Aside0.mk (Kd.R_elder' (by (with_reducible repeat (first | apply Kd.R_alloc | apply Kd.R_drewN | apply Kd.R_drew)); exact HO308.out) (Kd.R_base ho0) hb); have n5_ := Aside0.mk (Kd.R_below (by (with_reducible repeat (first | apply Kd.R_alloc | apply Kd.R_drewN | apply Kd.R_drew)); exact HO318.out) hb); have n6_ := Aside0.mk (Kd.R_elder' (by (with_reducible repeat (first | apply Kd.R_alloc | apply Kd.R_drewN | apply Kd.R_drew)); exact HO322.out) (Kd.R_base ho0) hb); have n7_ := Aside0.mk (Kd.R_below (by (with_reducible repeat (first | apply Kd.R_alloc | apply Kd.R_drewN | apply Kd.R_drew)); exact HO328.out) hb); have n8_ := Aside0.mk (Kd.R_elder' (by (with_reducible repeat (first | apply Kd.R_alloc | apply Kd.R_drewN | apply Kd.R_drew)); exact HO332.out) (Kd.R_base ho0) hb); have n9_ := Aside0.mk (Kd.R_lower (Kd.R_new' (Kd.R_new' (Kd.R_new' (Kd.R_new' ho0 (Kd.R_lt (by (with_reducible repeat (first | apply Kd.R_alloc | apply Kd.R_drewN | apply Kd.R_drew)); exact HO305.out))) (Kd.R_lt (by (with_reducible repeat (first | apply Kd.R_alloc | apply Kd.R_drewN | apply Kd.R_drew)); exact HO308.out))) (Kd.R_lt (by (with_reducible repeat (first | apply Kd.R_alloc | apply Kd.R_drewN | apply Kd.R_drew)); exact HO322.out))) (Kd.R_lt (by (with_reducible repeat (first | apply Kd.R_alloc | apply Kd.R_drewN | apply Kd.R_drew)); exact HO332.out))) (below_size (by repeat (first | (with_reducible first | exact HB.out | apply below_alloc | apply pw_below_drewN | apply below_drew1 | refine below_set ?_ GE293.out) | exact HB.out)))); have n10_ := Aside0.mk (blk_below (g := gb293) (o := .cells #[.int .i64 0, .string (⟨#[]⟩ : ByteArray), .string (⟨#[]⟩ : ByteArray), .slice Ao54 y287.length co54, .slice Ao53 y290.length co53, .bool false] 41 (0, 0)) (bk_ BK293) hb); have n11_ := Aside0.mk (below_step (by repeat (first | (with_reducible first | exact HB.out | apply below_alloc | apply pw_below_drewN | apply below_drew1 | refine below_set ?_ GE293.out) | exact HB.out)) hb); clear HO289; clear HO292; clear HO302; clear HO305; clear HO308; clear HO318; clear HO322; clear HO328; clear HO332; clear BK293; clear HB; have HO289 := n0_; have HO292 := n1_; have HO302 := n2_; have HO305 := n3_; have HO308 := n4_; have HO318 := n5_; have HO322 := n6_; have HO328 := n7_; have HO332 := n8_; have HO336 := n9_; have BK293 := n10_; have HB := n11_; clear n0_ n1_ n2_ n3_ n4_ n5_ n6_ n7_ n8_ n9_ n10_ n11_; (try clear hb); (try clear hb2); (try clear hk); (try clear hi); (try clear ho0); obtain ⟨Ao77, co77, eo77⟩ := Kd.R_slice HO332.out; subst eo77) | ((with_reducible refine gate_callee (f := 37) rfl ?_); refine goesL_ (some 49) rfl rfl Try.func37 (by kernel_rfl) rfl #[.slice Ao77 t329.length co77] rfl (by (try simp only [List.map_toArray, List.map_cons, List.map_nil]); first | done | rfl | (simp only [List.length_drop, List.length_take]; rfl)) ?_; (with_reducible refine (quarryref03_Next.calls k _ _ t329 t337 t338 _ ?side1 ?side2 A10.out).mono ?_); (case side1 => repeat (first | exact (Kd.R_reads' HO332.out).2.2 | (with_reducible refine Kd.C_alloc ?_ _) | (with_reducible refine Kd.C_drewN ?_ _) | (with_reducible refine Kd.C_drew ?_))); (case side2 => exact (Kd.R_reads' HO332.out).2.1); rintro e w78 ⟨v339, rfl, ho0, hb⟩; refine ⟨_, rfl, ?_⟩; have n0_ := Aside0.mk (Kd.R_below (by (with_reducible repeat (first | apply Kd.R_alloc | apply Kd.R_drewN | apply Kd.R_drew)); exact HO289.out) hb); have n1_ := Aside0.mk (Kd.R_below (by (with_reducible repeat (first | apply Kd.R_alloc | apply Kd.R_drewN | apply Kd.R_drew)); exact HO292.out) hb); have n2_ := Aside0.mk (Kd.R_below (by (with_reducible repeat (first | apply Kd.R_alloc | apply Kd.R_drewN | apply Kd.R_drew)); exact HO302.out) hb); have n3_ := Aside0.mk (Kd.R_elder' (by (with_reducible repeat (first | apply Kd.R_alloc | apply Kd.R_drewN | apply Kd.R_drew)); exact HO305.out) (Kd.R_base ho0) hb); have n4_ := Aside0.mk (Kd.R_elder' (by (with_reducible repeat (first | apply Kd.R_alloc | apply Kd.R_drewN | apply Kd.R_drew)); exact HO308.out) (Kd.R_base ho0) hb); have n5_ := Aside0.mk (Kd.R_below (by (with_reducible repeat (first | apply Kd.R_alloc | apply Kd.R_drewN | apply Kd.R_drew)); exact HO318.out) hb); have n6_ := Aside0.mk (Kd.R_elder' (by (with_reducible repeat (first | apply Kd.R_alloc | apply Kd.R_drewN | apply Kd.R_drew)); exact HO322.out) (Kd.R_base ho0) hb); have n7_ := Aside0.mk (Kd.R_below (by (with_reducible repeat (first | apply Kd.R_alloc | apply Kd.R_drewN | apply Kd.R_drew)); exact HO328.out) hb); have n8_ := Aside0.mk (Kd.R_elder' (by (with_reducible repeat (first | apply Kd.R_alloc | apply Kd.R_drewN | apply Kd.R_drew)); exact HO332.out) (Kd.R_base ho0) hb); have n9_ := Aside0.mk (Kd.R_elder' (by (with_reducible repeat (first | apply Kd.R_alloc | apply Kd.R_drewN | apply Kd.R_drew)); exact HO336.out) (Kd.R_base ho0) hb); have n10_ := Aside0.mk (Kd.R_lower (Kd.R_new' (Kd.R_new' (Kd.R_new' (Kd.R_new' (Kd.R_new' ho0 (Kd.R_lt (by (with_reducible repeat (first | apply Kd.R_alloc | apply Kd.R_drewN | apply Kd.R_drew)); exact HO305.out))) (Kd.R_lt (by (with_reducible repeat (first | apply Kd.R_alloc | apply Kd.R_drewN | apply Kd.R_drew)); exact HO308.out))) (Kd.R_lt (by (with_reducible repeat (first | apply Kd.R_alloc | apply Kd.R_drewN | apply Kd.R_drew)); exact HO322.out))) (Kd.R_lt (by (with_reducible repeat (first | apply Kd.R_alloc | apply Kd.R_drewN | apply Kd.R_drew)); exact HO332.out))) (Kd.R_lt (by (with_reducible repeat (first | apply Kd.R_alloc | apply Kd.R_drewN | apply Kd.R_drew)); exact HO336.out))) (below_size (by repeat (first | (with_reducible first | exact HB.out | apply below_alloc | apply pw_below_drewN | apply below_drew1 | refine below_set ?_ GE293.out) | exact HB.out)))); have n11_ := Aside0.mk (blk_below (g := gb293) (o := .cells #[.int .i64 0, .string (⟨#[]⟩ : ByteArray), .string (⟨#[]⟩ : ByteArray), .slice Ao54 y287.length co54, .slice Ao53 y290.length co53, .bool false] 41 (0, 0)) (bk_ BK293) hb); have n12_ := Aside0.mk (below_step (by repeat (first | (with_reducible first | exact HB.out | apply below_alloc | apply pw_below_drewN | apply below_drew1 | refine below_set ?_ GE293.out) | exact HB.out)) hb); clear HO289; clear HO292; clear HO302; clear HO305; clear HO308; clear HO318; clear HO322; clear HO328; clear HO332; clear HO336; clear BK293; clear HB; have HO289 := n0_; have HO292 := n1_; have HO302 := n2_; have HO305 := n3_; have HO308 := n4_; have HO318 := n5_; have HO322 := n6_; have HO328 := n7_; have HO332 := n8_; have HO336 := n9_; have HO340 := n10_; have BK293 := n11_; have HB := n12_; clear n0_ n1_ n2_ n3_ n4_ n5_ n6_ n7_ n8_ n9_ n10_ n11_ n12_; (try clear hb); (try clear hb2); (try clear hk); (try clear hi); (try clear ho0); have hcv79 := own_string (P := Try.prog) Try.underlying44 Try.underlying5 Try.underlying9 (Kd.own_of_R HO305.out); have hcv80 := own_string (P := Try.prog) Try.underlying44 Try.underlying5 Try.underlying9 (Kd.own_of_R HO336.out); have hcv81 := own_string (P := Try.prog) Try.underlying44 Try.underlying5 Try.underlying9 (Kd.own_of_R HO308.out); have hcv82 := own_string (P := Try.prog) Try.underlying44 Try.underlying5 Try.underlying9 (Kd.own_of_R HO340.out)) | ((with_reducible refine gate_dst (N := 69) rfl ?_); (try (refine gate_guard (by rfl) ?_; dsimp only)); refine Kd.R_lit (Kd.int .i64) _ 3 ?hg (N := 69) ?hd (xs := ([1] : List Int)) (inner := [.int .i64 1]) (ok := fun _ => True) (okp := fun _ => True) ?hr ?hp (fun _ hk => hk) trivial (Below.refl _ _) (Nat.le_refl _) (by simp) ?_; (case hd => rfl); (case hg => rfl); (case hr => first | (go_simp; done) | (go_simp; rfl)); (case hp => exact (Reps.one (show Kd.M (Kd.int .i64) _ _ _ 1 [.int .i64 1] from rfl) (Reps.none _ _))); intro v342 w83 ho84 hb hg_ hnew_; clear hg_ hnew_; (first | rw [← Ny341.out] at ho84 | (simp only [Int.reduceToNat] at ho84; rw [← Ny341.out] at ho84)); have n0_ := Aside0.mk (Kd.R_elder' (by (with_reducible repeat (first | apply Kd.R_alloc | apply Kd.R_drewN | apply Kd.R_drew)); exact HO289.out) (Kd.R_base ho84) hb); have n1_ := Aside0.mk (Kd.R_below (by (with_reducible repeat (first | apply Kd.R_alloc | apply Kd.R_drewN | apply Kd.R_drew)); exact HO292.out) hb); have n2_ := Aside0.mk (Kd.R_below (by (with_reducible repeat (first | apply Kd.R_alloc | apply Kd.R_drewN | apply Kd.R_drew)); exact HO302.out) hb); have n3_ := Aside0.mk (Kd.R_below (by (with_reducible repeat (first | apply Kd.R_alloc | apply Kd.R_drewN | apply Kd.R_drew)); exact HO305.out) hb); have n4_ := Aside0.mk (Kd.R_below (by (with_reducible repeat (first | apply Kd.R_alloc | apply Kd.R_drewN | apply Kd.R_drew)); exact HO308.out) hb); have n5_ := Aside0.mk (Kd.R_below (by (with_reducible repeat (first | apply Kd.R_alloc | apply Kd.R_drewN | apply Kd.R_drew)); exact HO318.out) hb); have n6_ := Aside0.mk (Kd.R_below (by (with_reducible repeat (first | apply Kd.R_alloc | apply Kd.R_drewN | apply Kd.R_drew)); exact HO322.out) hb); have n7_ := Aside0.mk (Kd.R_below (by (with_reducible repeat (first | apply Kd.R_alloc | apply Kd.R_drewN | apply Kd.R_drew)); exact HO328.out) hb); have n8_ := Aside0.mk (Kd.R_below (by (with_reducible repeat (first | apply Kd.R_alloc | apply Kd.R_drewN | apply Kd.R_drew)); exact HO332.out) hb); have n9_ := Aside0.mk (Kd.R_below (by (with_reducible repeat (first | apply Kd.R_alloc | apply Kd.R_drewN | apply Kd.R_drew)); exact HO336.out) hb); have n10_ := Aside0.mk (Kd.R_below (by (with_reducible repeat (first | apply Kd.R_alloc | apply Kd.R_drewN | apply Kd.R_drew)); exact HO340.out) hb); have n11_ := Aside0.mk (Kd.R_lower (Kd.R_new' ho84 (Kd.R_lt (by (with_reducible repeat (first | apply Kd.R_alloc | apply Kd.R_drewN | apply Kd.R_drew)); exact HO289.out))) (below_size (by repeat (first | (with_reducible first | exact HB.out | apply below_alloc | apply pw_below_drewN | apply below_drew1 | refine below_set ?_ GE293.out) | exact HB.out)))); have n12_ := Aside0.mk (blk_below (g := gb293) (o := .cells #[.int .i64 0, .string (⟨#[]⟩ : ByteArray), .string (⟨#[]⟩ : ByteArray), .slice Ao54 y287.length co54, .slice Ao53 y290.length co53, .bool false] 41 (0, 0)) (bk_ BK293) hb); have n13_ := Aside0.mk (below_step (by repeat (first | (with_reducible first | exact HB.out | apply below_alloc | apply pw_below_drewN | apply below_drew1 | refine below_set ?_ GE293.out) | exact HB.out)) hb); clear HO289; clear HO292; clear HO302; clear HO305; clear HO308; clear HO318; clear HO322; clear HO328; clear HO332; clear HO336; clear HO340; clear BK293; clear HB; have HO289 := n0_; have HO292 := n1_; have HO302 := n2_; have HO305 := n3_; have HO308 := n4_; have HO318 := n5_; have HO322 := n6_; have HO328 := n7_; have HO332 := n8_; have HO336 := n9_; have HO340 := n10_; have HO343 := n11_; have BK293 := n12_; have HB := n13_; clear n0_ n1_ n2_ n3_ n4_ n5_ n6_ n7_ n8_ n9_ n10_ n11_ n12_ n13_; clear hb ho84) | ((with_reducible refine gate_dst (N := 70) rfl ?_); (try (refine gate_guard (by rfl) ?_; dsimp only)); refine Kd.R_lit Kd.bool _ 4 ?hg (N := 70) ?hd (xs := ([false] : List Bool)) (inner := [.bool false]) (ok := fun _ => True) (okp := fun _ => True) ?hr ?hp (fun _ hk => hk) trivial (Below.refl _ _) (Nat.le_refl _) (by simp) ?_; (case hd => rfl); (case hg => rfl); (case hr => first | (go_simp; done) | (go_simp; rfl)); (case hp => exact (Reps.one (show Kd.M Kd.bool _ _ _ false [.bool false] from rfl) (Reps.none _ _))); intro v345 w85 ho86 hb hg_ hnew_; clear hg_ hnew_; (first | rw [← Ny344.out] at ho86 | (simp only [Int.reduceToNat] at ho86; rw [← Ny344.out] at ho86)); have n0_ := Aside0.mk (Kd.R_below (by (with_reducible repeat (first | apply Kd.R_alloc | apply Kd.R_drewN | apply Kd.R_drew)); exact HO289.out) hb); have n1_ := Aside0.mk (Kd.R_elder' (by (with_reducible repeat (first | apply Kd.R_alloc | apply Kd.R_drewN | apply Kd.R_drew)); exact HO292.out) (Kd.R_base ho86) hb); have n2_ := Aside0.mk (Kd.R_below (by (with_reducible repeat (first | apply Kd.R_alloc | apply Kd.R_drewN | apply Kd.R_drew)); exact HO302.out) hb); have n3_ := Aside0.mk (Kd.R_below (by (with_reducible repeat (first | apply Kd.R_alloc | apply Kd.R_drewN | apply Kd.R_drew)); exact HO305.out) hb); have n4_ := Aside0.mk (Kd.R_below (by (with_reducible repeat (first | apply Kd.R_alloc | apply Kd.R_drewN | apply Kd.R_drew)); exact HO308.out) hb); have n5_ := Aside0.mk (Kd.R_below (by (with_reducible repeat (first | apply Kd.R_alloc | apply Kd.R_drewN | apply Kd.R_drew)); exact HO318.out) hb); have n6_ := Aside0.mk (Kd.R_below (by (with_reducible repeat (first | apply Kd.R_alloc | apply Kd.R_drewN | apply Kd.R_drew)); exact HO322.out) hb); have n7_ := Aside0.mk (Kd.R_below (by (with_reducible repeat (first | apply Kd.R_alloc | apply Kd.R_drewN | apply Kd.R_drew)); exact HO328.out) hb); have n8_ := Aside0.mk (Kd.R_below (by (with_reducible repeat (first | apply Kd.R_alloc | apply Kd.R_drewN | apply Kd.R_drew)); exact HO332.out) hb); have n9_ := Aside0.mk (Kd.R_below (by (with_reducible repeat (first | apply Kd.R_alloc | apply Kd.R_drewN | apply Kd.R_drew)); exact HO336.out) hb); have n10_ := Aside0.mk (Kd.R_below (by (with_reducible repeat (first | apply Kd.R_alloc | apply Kd.R_drewN | apply Kd.R_drew)); exact HO340.out) hb); have n11_ := Aside0.mk (Kd.R_below (by (with_reducible repeat (first | apply Kd.R_alloc | apply Kd.R_drewN | apply Kd.R_drew)); exact HO343.out) hb); have n12_ := Aside0.mk (Kd.R_lower (Kd.R_new' ho86 (Kd.R_lt (by (with_reducible repeat (first | apply Kd.R_alloc | apply Kd.R_drewN | apply Kd.R_drew)); exact HO292.out))) (below_size (by repeat (first | (with_reducible first | exact HB.out | apply below_alloc | apply pw_below_drewN | apply below_drew1 | refine below_set ?_ GE293.out) | exact HB.out)))); have n13_ := Aside0.mk (blk_below (g := gb293) (o := .cells #[.int .i64 0, .string (⟨#[]⟩ : ByteArray), .string (⟨#[]⟩ : ByteArray), .slice Ao54 y287.length co54, .slice Ao53 y290.length co53, .bool false] 41 (0, 0)) (bk_ BK293) hb); have n14_ := Aside0.mk (below_step (by repeat (first | (with_reducible first | exact HB.out | apply below_alloc | apply pw_below_drewN | apply below_drew1 | refine below_set ?_ GE293.out) | exact HB.out)) hb); clear HO289; clear HO292; clear HO302; clear HO305; clear HO308; clear HO318; clear HO322; clear HO328; clear HO332; clear HO336; clear HO340; clear HO343; clear BK293; clear HB; have HO289 := n0_; have HO292 := n1_; have HO302 := n2_; have HO305 := n3_; have HO308 := n4_; have HO318 := n5_; have HO322 := n6_; have HO328 := n7_; have HO332 := n8_; have HO336 := n9_; have HO340 := n10_; have HO343 := n11_; have HO346 := n12_; have BK293 := n13_; have HB := n14_; clear n0_ n1_ n2_ n3_ n4_ n5_ n6_ n7_ n8_ n9_ n10_ n11_ n12_ n13_ n14_; clear hb ho86; obtain ⟨Ao87, co87, eo87⟩ := Kd.R_slice HO346.out; subst eo87; obtain ⟨Ao88, co88, eo88⟩ := Kd.R_slice HO343.out; subst eo88; have hcz89_0 : w85.cell? ⟨gb293, 0, none⟩ = some (.int .i64 0) := (blk_cell BK293.out 0).trans rfl; have hcz89_1 : w85.cell? ⟨gb293, 1, none⟩ = some (.string (⟨#[]⟩ : ByteArray)) := (blk_cell BK293.out 1).trans rfl; have hcz89_2 : w85.cell? ⟨gb293, 2, none⟩ = some (.string (⟨#[]⟩ : ByteArray)) := (blk_cell BK293.out 2).trans rfl; have hcz89_3 : w85.cell? ⟨gb293, 3, none⟩ = some (.slice Ao54 y287.length co54) := (blk_cell BK293.out 3).trans rfl; have hcz89_4 : w85.cell? ⟨gb293, 4, none⟩ = some (.slice Ao53 y290.length co53) := (blk_cell BK293.out 4).trans rfl; have hcz89_5 : w85.cell? ⟨gb293, 5, none⟩ = some (.bool false) := (blk_cell BK293.out 5).trans rfl; have hfz89_0 := blk_frozen BK293.out 0; have hfz89_1 := blk_frozen BK293.out 1; have hfz89_2 := blk_frozen BK293.out 2; have hfz89_3 := blk_frozen BK293.out 3; have hfz89_4 := blk_frozen BK293.out 4; have hfz89_5 := blk_frozen BK293.out 5) | ((with_reducible refine gate_dst (N := 73) rfl ?_); (try (refine gate_guard (by rfl) ?_; dsimp only)); refine Kd.N_lit k41 _ 41 ?hg (N' := 73) ?hd (xs := ([(⟨0, (⟨#[]⟩ : ByteArray), (⟨#[]⟩ : ByteArray), y341, y344, false⟩ : S41), (⟨0, (⟨#[]⟩ : ByteArray), (⟨#[]⟩ : ByteArray), y287, y290, false⟩ : S41)] : List (S41))) (inner := [.int .i64 0, .string (⟨#[]⟩ : ByteArray), .string (⟨#[]⟩ : ByteArray), .slice Ao88 y341.length co88, .slice Ao87 y344.length co87, .bool false, .int .i64 0, .string (⟨#[]⟩ : ByteArray), .string (⟨#[]⟩ : ByteArray), .slice Ao54 y287.length co54, .slice Ao53 y290.length co53, .bool false]) (ok := (fun k_ => some k_ ≠ (.slice Ao62 y300.length co62 : Value).ownBlock ∧ some k_ ≠ (v304 : Value).ownBlock ∧ some k_ ≠ (v307 : Value).ownBlock ∧ some k_ ≠ (.slice Ao68 y316.length co68 : Value).ownBlock ∧ some k_ ≠ (.slice Ao75 t319.length co75 : Value).ownBlock ∧ some k_ ≠ (.slice Ao73 y326.length co73 : Value).ownBlock ∧ some k_ ≠ (.slice Ao77 t329.length co77 : Value).ownBlock ∧ some k_ ≠ (v335 : Value).ownBlock ∧ some k_ ≠ (v339 : Value).ownBlock ∧ k_ ≠ gb293)) (okp := (fun k_ => some k_ ≠ (.slice Ao62 y300.length co62 : Value).ownBlock ∧ some k_ ≠ (v304 : Value).ownBlock ∧ some k_ ≠ (v307 : Value).ownBlock ∧ some k_ ≠ (.slice Ao68 y316.length co68 : Value).ownBlock ∧ some k_ ≠ (.slice Ao75 t319.length co75 : Value).ownBlock ∧ some k_ ≠ (.slice Ao73 y326.length co73 : Value).ownBlock ∧ some k_ ≠ (.slice Ao77 t329.length co77 : Value).ownBlock ∧ some k_ ≠ (v335 : Value).ownBlock ∧ some k_ ≠ (v339 : Value).ownBlock ∧ k_ ≠ gb293)) ?hr ?hp (fun _ hk => hk) ((show ∀ k_, w85.heap.size ≤ k_ → (fun k_ => some k_ ≠ (.slice Ao62 y300.length co62 : Value).ownBlock ∧ some k_ ≠ (v304 : Value).ownBlock ∧ some k_ ≠ (v307 : Value).ownBlock ∧ some k_ ≠ (.slice Ao68 y316.length co68 : Value).ownBlock ∧ some k_ ≠ (.slice Ao75 t319.length co75 : Value).ownBlock ∧ some k_ ≠ (.slice Ao73 y326.length co73 : Value).ownBlock ∧ some k_ ≠ (.slice Ao77 t329.length co77 : Value).ownBlock ∧ some k_ ≠ (v335 : Value).ownBlock ∧ some k_ ≠ (v339 : Value).ownBlock ∧ k_ ≠ gb293) k_ from fun k_ hk => ⟨Kd.fresh' (Kd.R_lt (by (with_reducible repeat (first | apply Kd.R_alloc | apply Kd.R_drewN | apply Kd.R_drew)); exact HO302.out)) k_ hk, Kd.fresh' (Kd.R_lt (by (with_reducible repeat (first | apply Kd.R_alloc | apply Kd.R_drewN | apply Kd.R_drew)); exact HO305.out)) k_ hk, Kd.fresh' (Kd.R_lt (by (with_reducible repeat (first | apply Kd.R_alloc | apply Kd.R_drewN | apply Kd.R_drew)); exact HO308.out)) k_ hk, Kd.fresh' (Kd.R_lt (by (with_reducible repeat (first | apply Kd.R_alloc | apply Kd.R_drewN | apply Kd.R_drew)); exact HO318.out)) k_ hk, Kd.fresh' (Kd.R_lt (by (with_reducible repeat (first | apply Kd.R_alloc | apply Kd.R_drewN | apply Kd.R_drew)); exact HO322.out)) k_ hk, Kd.fresh' (Kd.R_lt (by (with_reducible repeat (first | apply Kd.R_alloc | apply Kd.R_drewN | apply Kd.R_drew)); exact HO328.out)) k_ hk, Kd.fresh' (Kd.R_lt (by (with_reducible repeat (first | apply Kd.R_alloc | apply Kd.R_drewN | apply Kd.R_drew)); exact HO332.out)) k_ hk, Kd.fresh' (Kd.R_lt (by (with_reducible repeat (first | apply Kd.R_alloc | apply Kd.R_drewN | apply Kd.R_drew)); exact HO336.out)) k_ hk, Kd.fresh' (Kd.R_lt (by (with_reducible repeat (first | apply Kd.R_alloc | apply Kd.R_drewN | apply Kd.R_drew)); exact HO340.out)) k_ hk, Kd.freshB (g := gb293) (o := .cells #[.int .i64 0, .string (⟨#[]⟩ : ByteArray), .string (⟨#[]⟩ : ByteArray), .slice Ao54 y287.length co54, .slice Ao53 y290.length co53, .bool false] 41 (0, 0)) (bk_ BK293) k_ hk⟩) _ (Nat.le_refl _)) (Below.refl _ _) (Nat.le_refl _) (by simp) ?_; (case hd => rfl); (case hg => rfl); (case hr => first | (go_simp; done) | (go_simp; rfl)); (case hp => exact (Reps.c6 (show Kd.FK k41 _ _ (⟨0, (⟨#[]⟩ : ByteArray), (⟨#[]⟩ : ByteArray), y341, y344, false⟩ : S41) [.int .i64 0, .string (⟨#[]⟩ : ByteArray), .string (⟨#[]⟩ : ByteArray), .slice Ao88 y341.length co88, .slice Ao87 y344.length co87, .bool false] from (k41_mkF _ _ (⟨0, (⟨#[]⟩ : ByteArray), (⟨#[]⟩ : ByteArray), y341, y344, false⟩ : S41) (Kd.R_reads' (Kd.R_mono (ok' := (fun k_ => some k_ ≠ (.slice Ao62 y300.length co62 : Value).ownBlock ∧ some k_ ≠ (v304 : Value).ownBlock ∧ some k_ ≠ (v307 : Value).ownBlock ∧ some k_ ≠ (.slice Ao68 y316.length co68 : Value).ownBlock ∧ some k_ ≠ (.slice Ao75 t319.length co75 : Value).ownBlock ∧ some k_ ≠ (.slice Ao73 y326.length co73 : Value).ownBlock ∧ some k_ ≠ (.slice Ao77 t329.length co77 : Value).ownBlock ∧ some k_ ≠ (v335 : Value).ownBlock ∧ some k_ ≠ (v339 : Value).ownBlock ∧ k_ ≠ gb293)) (Kd.R_types (Kd.R_apart' (Kd.R_apart' (Kd.R_apart' (Kd.R_apart' (Kd.R_apart' (Kd.R_apart' (Kd.R_apart' (Kd.R_apart' (Kd.R_apart' (HO343.out) (Kd.R_typed HO302.out) (by decide)) (Kd.R_typed HO305.out) (by decide)) (Kd.R_typed HO308.out) (by decide)) (Kd.R_typed HO318.out) (by decide)) (Kd.R_typed HO322.out) (by decide)) (Kd.R_typed HO328.out) (by decide)) (Kd.R_typed HO332.out) (by decide)) (Kd.R_typed HO336.out) (by decide)) (Kd.R_typed HO340.out) (by decide)) BK293.out (by decide)) (fun k_ hk => ⟨hk.1.1.1.1.1.1.1.1.1.2, ⟨hk.1.1.1.1.1.1.1.1.2, ⟨hk.1.1.1.1.1.1.1.2, ⟨hk.1.1.1.1.1.1.2, ⟨hk.1.1.1.1.1.2, ⟨hk.1.1.1.1.2, ⟨hk.1.1.1.2, ⟨hk.1.1.2, ⟨hk.1.2, hk.2⟩⟩⟩⟩⟩⟩⟩⟩⟩))).2.1 (Kd.R_F (Kd.R_mono (ok' := (fun k_ => some k_ ≠ (.slice Ao62 y300.length co62 : Value).ownBlock ∧ some k_ ≠ (v304 : Value).ownBlock ∧ some k_ ≠ (v307 : Value).ownBlock ∧ some k_ ≠ (.slice Ao68 y316.length co68 : Value).ownBlock ∧ some k_ ≠ (.slice Ao75 t319.length co75 : Value).ownBlock ∧ some k_ ≠ (.slice Ao73 y326.length co73 : Value).ownBlock ∧ some k_ ≠ (.slice Ao77 t329.length co77 : Value).ownBlock ∧ some k_ ≠ (v335 : Value).ownBlock ∧ some k_ ≠ (v339 : Value).ownBlock ∧ k_ ≠ gb293)) (Kd.R_types (Kd.R_apart' (Kd.R_apart' (Kd.R_apart' (Kd.R_apart' (Kd.R_apart' (Kd.R_apart' (Kd.R_apart' (Kd.R_apart' (Kd.R_apart' (HO343.out) (Kd.R_typed HO302.out) (by decide)) (Kd.R_typed HO305.out) (by decide)) (Kd.R_typed HO308.out) (by decide)) (Kd.R_typed HO318.out) (by decide)) (Kd.R_typed HO322.out) (by decide)) (Kd.R_typed HO328.out) (by decide)) (Kd.R_typed HO332.out) (by decide)) (Kd.R_typed HO336.out) (by decide)) (Kd.R_typed HO340.out) (by decide)) BK293.out (by decide)) (fun k_ hk => ⟨hk.1.1.1.1.1.1.1.1.1.2, ⟨hk.1.1.1.1.1.1.1.1.2, ⟨hk.1.1.1.1.1.1.1.2, ⟨hk.1.1.1.1.1.1.2, ⟨hk.1.1.1.1.1.2, ⟨hk.1.1.1.1.2, ⟨hk.1.1.1.2, ⟨hk.1.1.2, ⟨hk.1.2, hk.2⟩⟩⟩⟩⟩⟩⟩⟩⟩))) (Kd.R_reads' (Kd.R_mono (ok' := (fun k_ => some k_ ≠ (.slice Ao62 y300.length co62 : Value).ownBlock ∧ some k_ ≠ (v304 : Value).ownBlock ∧ some k_ ≠ (v307 : Value).ownBlock ∧ some k_ ≠ (.slice Ao68 y316.length co68 : Value).ownBlock ∧ some k_ ≠ (.slice Ao75 t319.length co75 : Value).ownBlock ∧ some k_ ≠ (.slice Ao73 y326.length co73 : Value).ownBlock ∧ some k_ ≠ (.slice Ao77 t329.length co77 : Value).ownBlock ∧ some k_ ≠ (v335 : Value).ownBlock ∧ some k_ ≠ (v339 : Value).ownBlock ∧ k_ ≠ gb293)) (Kd.R_types (Kd.R_apart' (Kd.R_apart' (Kd.R_apart' (Kd.R_apart' (Kd.R_apart' (Kd.R_apart' (Kd.R_apart' (Kd.R_apart' (Kd.R_apart' (HO346.out) (Kd.R_typed HO302.out) (by decide)) (Kd.R_typed HO305.out) (by decide)) (Kd.R_typed HO308.out) (by decide)) (Kd.R_typed HO318.out) (by decide)) (Kd.R_typed HO322.out) (by decide)) (Kd.R_typed HO328.out) (by decide)) (Kd.R_typed HO332.out) (by decide)) (Kd.R_typed HO336.out) (by decide)) (Kd.R_typed HO340.out) (by decide)) BK293.out (by decide)) (fun k_ hk => ⟨hk.1.1.1.1.1.1.1.1.1.2, ⟨hk.1.1.1.1.1.1.1.1.2, ⟨hk.1.1.1.1.1.1.1.2, ⟨hk.1.1.1.1.1.1.2, ⟨hk.1.1.1.1.1.2, ⟨hk.1.1.1.1.2, ⟨hk.1.1.1.2, ⟨hk.1.1.2, ⟨hk.1.2, hk.2⟩⟩⟩⟩⟩⟩⟩⟩⟩))).2.1 (Kd.R_F (Kd.R_mono (ok' := (fun k_ => some k_ ≠ (.slice Ao62 y300.length co62 : Value).ownBlock ∧ some k_ ≠ (v304 : Value).ownBlock ∧ some k_ ≠ (v307 : Value).ownBlock ∧ some k_ ≠ (.slice Ao68 y316.length co68 : Value).ownBlock ∧ some k_ ≠ (.slice Ao75 t319.length co75 : Value).ownBlock ∧ some k_ ≠ (.slice Ao73 y326.length co73 : Value).ownBlock ∧ some k_ ≠ (.slice Ao77 t329.length co77 : Value).ownBlock ∧ some k_ ≠ (v335 : Value).ownBlock ∧ some k_ ≠ (v339 : Value).ownBlock ∧ k_ ≠ gb293)) (Kd.R_types (Kd.R_apart' (Kd.R_apart' (Kd.R_apart' (Kd.R_apart' (Kd.R_apart' (Kd.R_apart' (Kd.R_apart' (Kd.R_apart' (Kd.R_apart' (HO346.out) (Kd.R_typed HO302.out) (by decide)) (Kd.R_typed HO305.out) (by decide)) (Kd.R_typed HO308.out) (by decide)) (Kd.R_typed HO318.out) (by decide)) (Kd.R_typed HO322.out) (by decide)) (Kd.R_typed HO328.out) (by decide)) (Kd.R_typed HO332.out) (by decide)) (Kd.R_typed HO336.out) (by decide)) (Kd.R_typed HO340.out) (by decide)) BK293.out (by decide)) (fun k_ hk => ⟨hk.1.1.1.1.1.1.1.1.1.2, ⟨hk.1.1.1.1.1.1.1.1.2, ⟨hk.1.1.1.1.1.1.1.2, ⟨hk.1.1.1.1.1.1.2, ⟨hk.1.1.1.1.1.2, ⟨hk.1.1.1.1.2, ⟨hk.1.1.1.2, ⟨hk.1.1.2, ⟨hk.1.2, hk.2⟩⟩⟩⟩⟩⟩⟩⟩⟩))))) (Reps.c6 (show Kd.FK k41 _ _ (⟨0, (⟨#[]⟩ : ByteArray), (⟨#[]⟩ : ByteArray), y287, y290, false⟩ : S41) [.int .i64 0, .string (⟨#[]⟩ : ByteArray), .string (⟨#[]⟩ : ByteArray), .slice Ao54 y287.length co54, .slice Ao53 y290.length co53, .bool false] from (k41_mkF _ _ (⟨0, (⟨#[]⟩ : ByteArray), (⟨#[]⟩ : ByteArray), y287, y290, false⟩ : S41) (Kd.R_reads' (Kd.R_mono (ok' := (fun k_ => some k_ ≠ (.slice Ao62 y300.length co62 : Value).ownBlock ∧ some k_ ≠ (v304 : Value).ownBlock ∧ some k_ ≠ (v307 : Value).ownBlock ∧ some k_ ≠ (.slice Ao68 y316.length co68 : Value).ownBlock ∧ some k_ ≠ (.slice Ao75 t319.length co75 : Value).ownBlock ∧ some k_ ≠ (.slice Ao73 y326.length co73 : Value).ownBlock ∧ some k_ ≠ (.slice Ao77 t329.length co77 : Value).ownBlock ∧ some k_ ≠ (v335 : Value).ownBlock ∧ some k_ ≠ (v339 : Value).ownBlock ∧ k_ ≠ gb293)) (Kd.R_types (Kd.R_apart' (Kd.R_apart' (Kd.R_apart' (Kd.R_apart' (Kd.R_apart' (Kd.R_apart' (Kd.R_apart' (Kd.R_apart' (Kd.R_apart' (HO289.out) (Kd.R_typed HO302.out) (by decide)) (Kd.R_typed HO305.out) (by decide)) (Kd.R_typed HO308.out) (by decide)) (Kd.R_typed HO318.out) (by decide)) (Kd.R_typed HO322.out) (by decide)) (Kd.R_typed HO328.out) (by decide)) (Kd.R_typed HO332.out) (by decide)) (Kd.R_typed HO336.out) (by decide)) (Kd.R_typed HO340.out) (by decide)) BK293.out (by decide)) (fun k_ hk => ⟨hk.1.1.1.1.1.1.1.1.1.2, ⟨hk.1.1.1.1.1.1.1.1.2, ⟨hk.1.1.1.1.1.1.1.2, ⟨hk.1.1.1.1.1.1.2, ⟨hk.1.1.1.1.1.2, ⟨hk.1.1.1.1.2, ⟨hk.1.1.1.2, ⟨hk.1.1.2, ⟨hk.1.2, hk.2⟩⟩⟩⟩⟩⟩⟩⟩⟩))).2.1 (Kd.R_F (Kd.R_mono (ok' := (fun k_ => some k_ ≠ (.slice Ao62 y300.length co62 : Value).ownBlock ∧ some k_ ≠ (v304 : Value).ownBlock ∧ some k_ ≠ (v307 : Value).ownBlock ∧ some k_ ≠ (.slice Ao68 y316.length co68 : Value).ownBlock ∧ some k_ ≠ (.slice Ao75 t319.length co75 : Value).ownBlock ∧ some k_ ≠ (.slice Ao73 y326.length co73 : Value).ownBlock ∧ some k_ ≠ (.slice Ao77 t329.length co77 : Value).ownBlock ∧ some k_ ≠ (v335 : Value).ownBlock ∧ some k_ ≠ (v339 : Value).ownBlock ∧ k_ ≠ gb293)) (Kd.R_types (Kd.R_apart' (Kd.R_apart' (Kd.R_apart' (Kd.R_apart' (Kd.R_apart' (Kd.R_apart' (Kd.R_apart' (Kd.R_apart' (Kd.R_apart' (HO289.out) (Kd.R_typed HO302.out) (by decide)) (Kd.R_typed HO305.out) (by decide)) (Kd.R_typed HO308.out) (by decide)) (Kd.R_typed HO318.out) (by decide)) (Kd.R_typed HO322.out) (by decide)) (Kd.R_typed HO328.out) (by decide)) (Kd.R_typed HO332.out) (by decide)) (Kd.R_typed HO336.out) (by decide)) (Kd.R_typed HO340.out) (by decide)) BK293.out (by decide)) (fun k_ hk => ⟨hk.1.1.1.1.1.1.1.1.1.2, ⟨hk.1.1.1.1.1.1.1.1.2, ⟨hk.1.1.1.1.1.1.1.2, ⟨hk.1.1.1.1.1.1.2, ⟨hk.1.1.1.1.1.2, ⟨hk.1.1.1.1.2, ⟨hk.1.1.1.2, ⟨hk.1.1.2, ⟨hk.1.2, hk.2⟩⟩⟩⟩⟩⟩⟩⟩⟩))) (Kd.R_reads' (Kd.R_mono (ok' := (fun k_ => some k_ ≠ (.slice Ao62 y300.length co62 : Value).ownBlock ∧ some k_ ≠ (v304 : Value).ownBlock ∧ some k_ ≠ (v307 : Value).ownBlock ∧ some k_ ≠ (.slice Ao68 y316.length co68 : Value).ownBlock ∧ some k_ ≠ (.slice Ao75 t319.length co75 : Value).ownBlock ∧ some k_ ≠ (.slice Ao73 y326.length co73 : Value).ownBlock ∧ some k_ ≠ (.slice Ao77 t329.length co77 : Value).ownBlock ∧ some k_ ≠ (v335 : Value).ownBlock ∧ some k_ ≠ (v339 : Value).ownBlock ∧ k_ ≠ gb293)) (Kd.R_types (Kd.R_apart' (Kd.R_apart' (Kd.R_apart' (Kd.R_apart' (Kd.R_apart' (Kd.R_apart' (Kd.R_apart' (Kd.R_apart' (Kd.R_apart' (HO292.out) (Kd.R_typed HO302.out) (by decide)) (Kd.R_typed HO305.out) (by decide)) (Kd.R_typed HO308.out) (by decide)) (Kd.R_typed HO318.out) (by decide)) (Kd.R_typed HO322.out) (by decide)) (Kd.R_typed HO328.out) (by decide)) (Kd.R_typed HO332.out) (by decide)) (Kd.R_typed HO336.out) (by decide)) (Kd.R_typed HO340.out) (by decide)) BK293.out (by decide)) (fun k_ hk => ⟨hk.1.1.1.1.1.1.1.1.1.2, ⟨hk.1.1.1.1.1.1.1.1.2, ⟨hk.1.1.1.1.1.1.1.2, ⟨hk.1.1.1.1.1.1.2, ⟨hk.1.1.1.1.1.2, ⟨hk.1.1.1.1.2, ⟨hk.1.1.1.2, ⟨hk.1.1.2, ⟨hk.1.2, hk.2⟩⟩⟩⟩⟩⟩⟩⟩⟩))).2.1 (Kd.R_F (Kd.R_mono (ok' := (fun k_ => some k_ ≠ (.slice Ao62 y300.length co62 : Value).ownBlock ∧ some k_ ≠ (v304 : Value).ownBlock ∧ some k_ ≠ (v307 : Value).ownBlock ∧ some k_ ≠ (.slice Ao68 y316.length co68 : Value).ownBlock ∧ some k_ ≠ (.slice Ao75 t319.length co75 : Value).ownBlock ∧ some k_ ≠ (.slice Ao73 y326.length co73 : Value).ownBlock ∧ some k_ ≠ (.slice Ao77 t329.length co77 : Value).ownBlock ∧ some k_ ≠ (v335 : Value).ownBlock ∧ some k_ ≠ (v339 : Value).ownBlock ∧ k_ ≠ gb293)) (Kd.R_types (Kd.R_apart' (Kd.R_apart' (Kd.R_apart' (Kd.R_apart' (Kd.R_apart' (Kd.R_apart' (Kd.R_apart' (Kd.R_apart' (Kd.R_apart' (HO292.out) (Kd.R_typed HO302.out) (by decide)) (Kd.R_typed HO305.out) (by decide)) (Kd.R_typed HO308.out) (by decide)) (Kd.R_typed HO318.out) (by decide)) (Kd.R_typed HO322.out) (by decide)) (Kd.R_typed HO328.out) (by decide)) (Kd.R_typed HO332.out) (by decide)) (Kd.R_typed HO336.out) (by decide)) (Kd.R_typed HO340.out) (by decide)) BK293.out (by decide)) (fun k_ hk => ⟨hk.1.1.1.1.1.1.1.1.1.2, ⟨hk.1.1.1.1.1.1.1.1.2, ⟨hk.1.1.1.1.1.1.1.2, ⟨hk.1.1.1.1.1.1.2, ⟨hk.1.1.1.1.1.2, ⟨hk.1.1.1.1.2, ⟨hk.1.1.1.2, ⟨hk.1.1.2, ⟨hk.1.2, hk.2⟩⟩⟩⟩⟩⟩⟩⟩⟩))))) (Reps.none _ _)))); intro v348 w90 ho91 hb hg_ hnew_; clear hg_ hnew_; (first | rw [← Ny347.out] at ho91 | (simp only [Int.reduceToNat] at ho91; rw [← Ny347.out] at ho91)); have n0_ := Aside0.mk (Kd.R_below (by (with_reducible repeat (first | apply Kd.R_alloc | apply Kd.R_drewN | apply Kd.R_drew)); exact HO302.out) hb); have n1_ := Aside0.mk (Kd.R_below (by (with_reducible repeat (first | apply Kd.R_alloc | apply Kd.R_drewN | apply Kd.R_drew)); exact HO305.out) hb); have n2_ := Aside0.mk (Kd.R_below (by (with_reducible repeat (first | apply Kd.R_alloc | apply Kd.R_drewN | apply Kd.R_drew)); exact HO308.out) hb); have n3_ := Aside0.mk (Kd.R_below (by (with_reducible repeat (first | apply Kd.R_alloc | apply Kd.R_drewN | apply Kd.R_drew)); exact HO318.out) hb); have n4_ := Aside0.mk (Kd.R_below (by (with_reducible repeat (first | apply Kd.R_alloc | apply Kd.R_drewN | apply Kd.R_drew)); exact HO322.out) hb); have n5_ := Aside0.mk (Kd.R_below (by (with_reducible repeat (first | apply Kd.R_alloc | apply Kd.R_drewN | apply Kd.R_drew)); exact HO328.out) hb); have n6_ := Aside0.mk (Kd.R_below (by (with_reducible repeat (first | apply Kd.R_alloc | apply Kd.R_drewN | apply Kd.R_drew)); exact HO332.out) hb); have n7_ := Aside0.mk (Kd.R_below (by (with_reducible repeat (first | apply Kd.R_alloc | apply Kd.R_drewN | apply Kd.R_drew)); exact HO336.out) hb); have n8_ := Aside0.mk (Kd.R_below (by (with_reducible repeat (first | apply Kd.R_alloc | apply Kd.R_drewN | apply Kd.R_drew)); exact HO340.out) hb); have n9_ := Aside0.mk (Kd.N_lower ho91 (below_size (by repeat (first | (with_reducible first | exact HB.out | apply below_alloc | apply pw_below_drewN | apply below_drew1 | refine below_set ?_ GE293.out) | exact HB.out)))); have n10_ := Aside0.mk (blk_below (g := gb293) (o := .cells #[.int .i64 0, .string (⟨#[]⟩ : ByteArray), .string (⟨#[]⟩ : ByteArray), .slice Ao54 y287.length co54, .slice Ao53 y290.length co53, .bool false] 41 (0, 0)) (bk_ BK293) hb); have n11_ := Aside0.mk (below_step (by repeat (first | (with_reducible first | exact HB.out | apply below_alloc | apply pw_below_drewN | apply below_drew1 | refine below_set ?_ GE293.out) | exact HB.out)) hb); clear HO302; clear HO305; clear HO308; clear HO318; clear HO322; clear HO328; clear HO332; clear HO336; clear HO340; clear BK293; clear HB; clear HO289; clear HO292; clear HO343; clear HO346; have HO302 := n0_; have HO305 := n1_; have HO308 := n2_; have HO318 := n3_; have HO322 := n4_; have HO328 := n5_; have HO332 := n6_; have HO336 := n7_; have HO340 := n8_; have HO349 := n9_; have BK293 := n10_; have HB := n11_; clear n0_ n1_ n2_ n3_ n4_ n5_ n6_ n7_ n8_ n9_ n10_ n11_; clear hb ho91; obtain ⟨Ao92, co92, eo92⟩ := Kd.N_slice HO349.out; subst eo92) | (go_at_call 18; (with_reducible refine (bounds_Best.calls k _ _ y347 _ _ y300 t350 _ ?side1 ?side2 ?side3 ?side4 A48.out).mono ?_); (case side1 => repeat (first | exact (Kd.N_reads' HO349.out).2.2 | (with_reducible refine Kd.C_alloc ?_ _) | (with_reducible refine Kd.C_drewN ?_ _) | (with_reducible refine Kd.C_drew ?_))); (case side2 => exact (Kd.N_reads' HO349.out).2.1); (case side3 => repeat (first | exact (Kd.R_reads' HO302.out).2.2 | (with_reducible refine Kd.C_alloc ?_ _) | (with_reducible refine Kd.C_drewN ?_ _) | (with_reducible refine Kd.C_drew ?_))); (case side4 => exact (Kd.R_reads' HO302.out).2.1); rintro e w93 ⟨rfl, hb⟩; have n0_ := Aside0.mk (Kd.R_below (by (with_reducible repeat (first | apply Kd.R_alloc | apply Kd.R_drewN | apply Kd.R_drew)); exact HO302.out) hb); have n1_ := Aside0.mk (Kd.R_below (by (with_reducible repeat (first | apply Kd.R_alloc | apply Kd.R_drewN | apply Kd.R_drew)); exact HO305.out) hb); have n2_ := Aside0.mk (Kd.R_below (by (with_reducible repeat (first | apply Kd.R_alloc | apply Kd.R_drewN | apply Kd.R_drew)); exact HO308.out) hb); have n3_ := Aside0.mk (Kd.R_below (by (with_reducible repeat (first | apply Kd.R_alloc | apply Kd.R_drewN | apply Kd.R_drew)); exact HO318.out) hb); have n4_ := Aside0.mk (Kd.R_below (by (with_reducible repeat (first | apply Kd.R_alloc | apply Kd.R_drewN | apply Kd.R_drew)); exact HO322.out) hb); have n5_ := Aside0.mk (Kd.R_below (by (with_reducible repeat (first | apply Kd.R_alloc | apply Kd.R_drewN | apply Kd.R_drew)); exact HO328.out) hb); have n6_ := Aside0.mk (Kd.R_below (by (with_reducible repeat (first | apply Kd.R_alloc | apply Kd.R_drewN | apply Kd.R_drew)); exact HO332.out) hb); have n7_ := Aside0.mk (Kd.R_below (by (with_reducible repeat (first | apply Kd.R_alloc | apply Kd.R_drewN | apply Kd.R_drew)); exact HO336.out) hb); have n8_ := Aside0.mk (Kd.R_below (by (with_reducible repeat (first | apply Kd.R_alloc | apply Kd.R_drewN | apply Kd.R_drew)); exact HO340.out) hb); have n9_ := Aside0.mk (Kd.N_below (by (with_reducible repeat (first | apply Kd.N_alloc | apply Kd.N_drewN | apply Kd.N_drew)); exact HO349.out) hb); have n10_ := Aside0.mk (blk_below (g := gb293) (o := .cells #[.int .i64 0, .string (⟨#[]⟩ : ByteArray), .string (⟨#[]⟩ : ByteArray), .slice Ao54 y287.length co54, .slice Ao53 y290.length co53, .bool false] 41 (0, 0)) (bk_ BK293) hb); have n11_ := Aside0.mk (below_step (by repeat (first | (with_reducible first | exact HB.out | apply below_alloc | apply pw_below_drewN | apply below_drew1 | refine below_set ?_ GE293.out) | exact HB.out)) hb); clear HO302; clear HO305; clear HO308; clear HO318; clear HO322; clear HO328; clear HO332; clear HO336; clear HO340; clear HO349; clear BK293; clear HB; have HO302 := n0_; have HO305 := n1_; have HO308 := n2_; have HO318 := n3_; have HO322 := n4_; have HO328 := n5_; have HO332 := n6_; have HO336 := n7_; have HO340 := n8_; have HO349 := n9_; have BK293 := n10_; have HB := n11_; clear n0_ n1_ n2_ n3_ n4_ n5_ n6_ n7_ n8_ n9_ n10_ n11_; (try clear hb); (try clear hb2); (try clear hk); (try clear hi)))
    go_ret
    exact ⟨by first | rfl | (simp [errW_none, errW_some] <;> rfl) | (simp [*, errW_none, errW_some] <;> rfl), by repeat (first | (with_reducible first | exact HB.out | apply below_alloc | apply pw_below_drewN | apply below_drew1 | refine below_set ?_ GE293.out) | exact HB.out)⟩
  ·rw [if_neg c12] at H
   cases H
 ·rw [if_neg c11] at H
  cases H
end Go.Proofs.Ytmfenomjhmhogaa.P
end
section
namespace Go.Proofs.Ytmfenomjhmhogaa.P
open Go.RowKit Go.Proofs.YtmfenomjhmhogaaW.PrintWords Go.Proofs.YtmfenomjhmhogaaW.PrintLast Go.Proofs.YtmfenomjhmhogaaW.PrintMore
attribute [local go_sem] max2_int min2_int max_two min_two max_three min_three max_four min_four
set_option linter.unusedVariables false
set_option linter.unusedSimpArgs false
def quarrylaw19_its.l0 : Nat → List (S58) → List (S69) → Int → Option ((List (S69)))
 | 0, _, _, _ => none
 | k + 1, x0, x3, x4 => if x4 < (x0.length : Int) then (if 0 ≤ x4 then (if x3.length < 2932031007402 then (quarrylaw19_its.l0 k x0 (x3 ++ [(⟨(rd_T58 x0 x4).f0, (rd_T58 x0 x4).f1, (⟨(rd_T58 x0 x4).f2.f0, (rd_T58 x0 x4).f2.f1, (rd_T58 x0 x4).f2.f2⟩ : S25)⟩ : S69)]) (wrap64 (x4 + 1))) else (none)) else (none)) else (some x3)
def quarrylaw19_its.f (k : Nat) (l0 : List (S58)) : Option ((List (S69))) := quarrylaw19_its.l0 k l0 ([] : List (S69)) 0
def quarrylaw19_its.T5 : Bool × List (List Nat × List Nat) := (true, [([], []), ([], []), ([], []), ([1, 2], [1, 2]), ([3], [3]), ([4], [4]), ([], []), ([], []), ([6, 7], [6, 7]), ([8], [8]), ([9], [9]), ([], []), ([], []), ([11, 12], [11, 12]), ([13], [13]), ([14], [14]), ([5, 10, 15], [5, 10, 15]), ([16], [16]), ([0, 17], [0, 17]), ([18, 18, 0, 1, 2, 3, 4, 5, 6, 7, 8, 9, 10, 11, 12, 13, 14, 15, 16, 17, 18], [0, 18])])
def quarrylaw19_its.B5 : List Nat := [0, 0, 0, 6, 14, 30, 0, 0, 192, 448, 960, 0, 0, 6144, 14336, 30720, 65534, 131070, 262143, 524287]
theorem quarrylaw19_its.tab5 : rtab .any (opsOf Try.f16 5) = quarrylaw19_its.T5 := by kernel_rfl
theorem quarrylaw19_its.bits5 : waitsOk quarrylaw19_its.T5.2 quarrylaw19_its.B5 = true := by kernel_rfl
set_option maxHeartbeats 8000000 in
set_option maxRecDepth 100000 in
theorem quarrylaw19_its.calls (k : Nat) (A0 : Option Addr) (c0 : Nat) (l0 : List (S58)) (r : List (S69)) (w : World) (hr0 : Kd.C k58 w A0 l0.length l0) (hc0 : l0.length ≤ c0) (h : quarrylaw19_its.f k l0 = some r) :
  Calls Try.prog 16 #[.slice A0 l0.length c0] w fun e w' => ∃ v0_ : Value, e = .returned (v0_) ∧ Kd.R k69 69 w' w.heap.size (fun _ => True) v0_ r ∧ Below w.heap.size w w' := by
 have hu25 := Try.underlying25
 have hu69 := Try.underlying69
 have HR0 := Aside0.mk hr0
 have HC0 := Aside0.mk hc0
 clear hr0 hc0
 have HB := Aside0.mk (Below.refl w.heap.size w)
 have H : (quarrylaw19_its.l0 k l0 ([] : List (S69)) 0) = some r := h
 clear h
 have H' := Aside0.mk H
 clear H
 go_enter Try.func16, Try.ntmps16
 go_wp2
 go_loopg [3, 4] k (fun kq v3 v4 w' => ∃ (x3_1 : List (S69)) (x4_1 : Int), v4 = .int .i64 x4_1 ∧ Aside0 (quarrylaw19_its.l0 kq l0 x3_1 x4_1 = some r) ∧ Aside0 (kq ≤ k) ∧ Aside0 (Kd.R k69 69 w' w.heap.size (fun _ => True) v3 x3_1) ∧ Aside0 (Below w.heap.size w w'))
 case atStart => exact ⟨(([] : List (S69))), (0), (by first | rfl | (simp; done) | (simp [*]; done)), H', ⟨Nat.le_refl _⟩, ⟨by first | exact Kd.R_nil _ _ _ _ _ | exact Kd.N_nil _ _ _ _ _ | exact Kd.V_nil _ _ _ _ _ | exact Kd.Q_nil _ _ _ _ _ | exact Kd.S_nil _ _ _ _ _⟩, ⟨by repeat (first | (with_reducible first | exact HB.out | apply below_alloc | apply pw_below_drewN | apply below_drew1) | exact HB.out)⟩⟩
 case round =>
  clear H'
  try clear c1
  obtain ⟨x3_1, x4_1, rfl, HA, HK1, HO_3, HB⟩ := hrel
  cases gk with
  | zero => exact absurd HA.out (by simp [quarrylaw19_its.l0])
  | succ k1 =>
   have H := HA.out
   clear HA
   simp only [quarrylaw19_its.l0] at H
   by_cases c2 : x4_1 < (l0.length : Int)
   ·rw [if_pos c2] at H
    have c2b0 : decide (x4_1 < (l0.length : Int)) = true := decide_eq_true c2
    clear c2
    by_cases c3 : 0 ≤ x4_1
    ·rw [if_pos c3] at H
     have c3b0 : decide (0 ≤ x4_1) = true := decide_eq_true c3
     clear c3
     by_cases c4 : x3_1.length < 2932031007402
     ·rw [if_pos c4] at H
      have LMc4 := Aside0.mk c4
      clear c4
      obtain ⟨y235, hy235⟩ : ∃ y_ : List (S69), y_ = (x3_1 ++ [(⟨(rd_T58 l0 x4_1).f0, (rd_T58 l0 x4_1).f1, (⟨(rd_T58 l0 x4_1).f2.f0, (rd_T58 l0 x4_1).f2.f1, (rd_T58 l0 x4_1).f2.f2⟩ : S25)⟩ : S69)]) := ⟨_, rfl⟩
      replace H : (quarrylaw19_its.l0 k1 l0 y235 (wrap64 (x4_1 + 1))) = some r := by first | (rw [hy235]; with_reducible exact H) | (have H2_ := (Option.bind_some _ _).symm.trans H; rw [hy235]; with_reducible exact H2_) | (have H2_ := (Option.bind_some _ _).symm.trans H; with_reducible exact H2_) | with_reducible exact H | (rw [hy235]; exact H) | exact H
      have Ny235 := Aside0.mk hy235
      clear hy235
      have H' := Aside0.mk H
      clear H
      try go_wp2
      have n0_ := Aside0.mk (Kd.R_drew HO_3.out)
      have n1_ := Aside0.mk (below_drew1 HB.out)
      clear HO_3
      clear HB
      have HO_3 := n0_
      have HB := n1_
      clear n0_ n1_
      have p232 : 0 ≤ (x4_1 : Int) := of_decide_eq_true (by first | (with_reducible assumption) | assumption)
      have q232 : x4_1 < (l0.length : Int) := of_decide_eq_true (by first | (with_reducible assumption) | assumption)
      obtain ⟨ad232, e232, hx232_0, hx232_1, hx232_2, hx232_3, hx232_4⟩ := at_T58 HR0.out x4_1 p232 q232
      have hw232_4 := hx232_4
      have hw232_3 := hx232_3
      have hw232_2 := hx232_2
      have hw232_1 := hx232_1
      have hw232_0 := hx232_0
      cases e232
      replace hx232_0 := (HB.out.cell (World.block_lt_of_cell? w _ hx232_0)).trans hx232_0
      replace hx232_1 := (HB.out.cell (World.block_lt_of_cell? w _ hx232_1)).trans hx232_1
      replace hx232_2 := (HB.out.cell (World.block_lt_of_cell? w _ hx232_2)).trans hx232_2
      replace hx232_3 := (HB.out.cell (World.block_lt_of_cell? w _ hx232_3)).trans hx232_3
      replace hx232_4 := (HB.out.cell (World.block_lt_of_cell? w _ hx232_4)).trans hx232_4
      replace p232 := eq_true p232
      replace q232 := eq_true q232
      have p233 : 0 ≤ (x4_1 : Int) := of_decide_eq_true (by first | (with_reducible assumption) | assumption)
      have q233 : x4_1 < (l0.length : Int) := of_decide_eq_true (by first | (with_reducible assumption) | assumption)
      obtain ⟨ad233, e233, hx233_0, hx233_1, hx233_2, hx233_3, hx233_4⟩ := at_T58 HR0.out x4_1 p233 q233
      have hw233_4 := hx233_4
      have hw233_3 := hx233_3
      have hw233_2 := hx233_2
      have hw233_1 := hx233_1
      have hw233_0 := hx233_0
      obtain rfl : ad232 = ad233 := (by injection e233)
      replace hx233_0 := (HB.out.cell (World.block_lt_of_cell? w _ hx233_0)).trans hx233_0
      replace hx233_1 := (HB.out.cell (World.block_lt_of_cell? w _ hx233_1)).trans hx233_1
      replace hx233_2 := (HB.out.cell (World.block_lt_of_cell? w _ hx233_2)).trans hx233_2
      replace hx233_3 := (HB.out.cell (World.block_lt_of_cell? w _ hx233_3)).trans hx233_3
      replace hx233_4 := (HB.out.cell (World.block_lt_of_cell? w _ hx233_4)).trans hx233_4
      replace p233 := eq_true p233
      replace q233 := eq_true q233
      have p234 : 0 ≤ (x4_1 : Int) := of_decide_eq_true (by first | (with_reducible assumption) | assumption)
      have q234 : x4_1 < (l0.length : Int) := of_decide_eq_true (by first | (with_reducible assumption) | assumption)
      obtain ⟨ad234, e234, hx234_0, hx234_1, hx234_2, hx234_3, hx234_4⟩ := at_T58 HR0.out x4_1 p234 q234
      have hw234_4 := hx234_4
      have hw234_3 := hx234_3
      have hw234_2 := hx234_2
      have hw234_1 := hx234_1
      have hw234_0 := hx234_0
      obtain rfl : ad232 = ad234 := (by injection e234)
      replace hx234_0 := (HB.out.cell (World.block_lt_of_cell? w _ hx234_0)).trans hx234_0
      replace hx234_1 := (HB.out.cell (World.block_lt_of_cell? w _ hx234_1)).trans hx234_1
      replace hx234_2 := (HB.out.cell (World.block_lt_of_cell? w _ hx234_2)).trans hx234_2
      replace hx234_3 := (HB.out.cell (World.block_lt_of_cell? w _ hx234_3)).trans hx234_3
      replace hx234_4 := (HB.out.cell (World.block_lt_of_cell? w _ hx234_4)).trans hx234_4
      replace p234 := eq_true p234
      replace q234 := eq_true q234
      refine start_ (n := 20) (S := fun w' => w'.cell? (ad232.add ((x4_1).toNat * 5)) = some (.int .i64 ((rd_T58 l0 x4_1).f0)) ∧ w'.cell? ⟨(ad232.add ((x4_1).toNat * 5)).block, (ad232.add ((x4_1).toNat * 5)).off + 1, none⟩ = some (.int .i64 ((rd_T58 l0 x4_1).f1)) ∧ w'.cell? ⟨(ad232.add ((x4_1).toNat * 5)).block, (ad232.add ((x4_1).toNat * 5)).off + 2, none⟩ = some (.int .i64 ((rd_T58 l0 x4_1).f2.f0)) ∧ w'.cell? ⟨(ad232.add ((x4_1).toNat * 5)).block, (ad232.add ((x4_1).toNat * 5)).off + 3, none⟩ = some (.int .i64 ((rd_T58 l0 x4_1).f2.f1)) ∧ w'.cell? ⟨(ad232.add ((x4_1).toNat * 5)).block, (ad232.add ((x4_1).toNat * 5)).off + 4, none⟩ = some (.string ((rd_T58 l0 x4_1).f2.f2)) ∧ w'.cell? (ad232.add ((x4_1).toNat * 5)) = some (.int .i64 ((rd_T58 l0 x4_1).f0)) ∧ w'.cell? ⟨(ad232.add ((x4_1).toNat * 5)).block, (ad232.add ((x4_1).toNat * 5)).off + 1, none⟩ = some (.int .i64 ((rd_T58 l0 x4_1).f1)) ∧ w'.cell? ⟨(ad232.add ((x4_1).toNat * 5)).block, (ad232.add ((x4_1).toNat * 5)).off + 2, none⟩ = some (.int .i64 ((rd_T58 l0 x4_1).f2.f0)) ∧ w'.cell? ⟨(ad232.add ((x4_1).toNat * 5)).block, (ad232.add ((x4_1).toNat * 5)).off + 3, none⟩ = some (.int .i64 ((rd_T58 l0 x4_1).f2.f1)) ∧ w'.cell? ⟨(ad232.add ((x4_1).toNat * 5)).block, (ad232.add ((x4_1).toNat * 5)).off + 4, none⟩ = some (.string ((rd_T58 l0 x4_1).f2.f2)) ∧ w'.cell? (ad232.add ((x4_1).toNat * 5)) = some (.int .i64 ((rd_T58 l0 x4_1).f0)) ∧ w'.cell? ⟨(ad232.add ((x4_1).toNat * 5)).block, (ad232.add ((x4_1).toNat * 5)).off + 1, none⟩ = some (.int .i64 ((rd_T58 l0 x4_1).f1)) ∧ w'.cell? ⟨(ad232.add ((x4_1).toNat * 5)).block, (ad232.add ((x4_1).toNat * 5)).off + 2, none⟩ = some (.int .i64 ((rd_T58 l0 x4_1).f2.f0)) ∧ w'.cell? ⟨(ad232.add ((x4_1).toNat * 5)).block, (ad232.add ((x4_1).toNat * 5)).off + 3, none⟩ = some (.int .i64 ((rd_T58 l0 x4_1).f2.f1)) ∧ w'.cell? ⟨(ad232.add ((x4_1).toNat * 5)).block, (ad232.add ((x4_1).toNat * 5)).off + 4, none⟩ = some (.string ((rd_T58 l0 x4_1).f2.f2))) (ds := []) #[false, false, false, false, false, false, false, false, false, false, false, false, false, false, false, false, false, false, false, false] (by kernel_rfl) rfl rfl ⟨((HB.out.cell (World.block_lt_of_cell? w _ hw232_0)).trans hw232_0), ((HB.out.cell (World.block_lt_of_cell? w _ hw232_1)).trans hw232_1), ((HB.out.cell (World.block_lt_of_cell? w _ hw232_2)).trans hw232_2), ((HB.out.cell (World.block_lt_of_cell? w _ hw232_3)).trans hw232_3), ((HB.out.cell (World.block_lt_of_cell? w _ hw232_4)).trans hw232_4), ((HB.out.cell (World.block_lt_of_cell? w _ hw233_0)).trans hw233_0), ((HB.out.cell (World.block_lt_of_cell? w _ hw233_1)).trans hw233_1), ((HB.out.cell (World.block_lt_of_cell? w _ hw233_2)).trans hw233_2), ((HB.out.cell (World.block_lt_of_cell? w _ hw233_3)).trans hw233_3), ((HB.out.cell (World.block_lt_of_cell? w _ hw233_4)).trans hw233_4), ((HB.out.cell (World.block_lt_of_cell? w _ hw234_0)).trans hw234_0), ((HB.out.cell (World.block_lt_of_cell? w _ hw234_1)).trans hw234_1), ((HB.out.cell (World.block_lt_of_cell? w _ hw234_2)).trans hw234_2), ((HB.out.cell (World.block_lt_of_cell? w _ hw234_3)).trans hw234_3), ((HB.out.cell (World.block_lt_of_cell? w _ hw234_4)).trans hw234_4)⟩ (fun hHeld => ?_); refine with_tabW quarrylaw19_its.tab5 quarrylaw19_its.bits5 (fun HT_ HW_ => ?_)
      generalize wr.drew = w5 at HO_3 HB hx232_0 hx232_1 hx232_2 hx232_3 hx232_4 hx233_0 hx233_1 hx233_2 hx233_3 hx233_4 hx234_0 hx234_1 hx234_2 hx234_3 hx234_4 hHeld ⊢
      refine pure_ (i := 0) (N := some 11) (v := ?_) (a' := ?_) #[true, false, false, false, false, false, false, false, false, false, false, false, false, false, false, false, false, false, false, false] rfl rfl (any_of HT_.out (by kernel_rfl)) (fun _ _ _ h => h) (Or.inl ⟨by rfl, ?_⟩) ?_ ?_
      rotate_left
      ·intro w'
       go_simp
       with_reducible rfl
      rotate_left
      ·simp only [Act.put, List.setIfInBounds_toArray, List.set_cons_zero, List.set_cons_succ, i64_w, i32_w]
       rfl
      refine pure_ (i := 1) (N := some 12) (v := ?_) (a' := ?_) #[true, true, false, false, false, false, false, false, false, false, false, false, false, false, false, false, false, false, false, false] rfl rfl (any_of HT_.out (by kernel_rfl)) (fun _ _ _ h => h) (Or.inl ⟨by rfl, ?_⟩) ?_ ?_
      rotate_left
      ·intro w'
       go_simp
       with_reducible rfl
      rotate_left
      ·simp only [Act.put, List.setIfInBounds_toArray, List.set_cons_zero, List.set_cons_succ, i64_w, i32_w]
       rfl
      refine pure_ (i := 2) (N := some 13) (v := ?_) (a' := ?_) #[true, true, true, false, false, false, false, false, false, false, false, false, false, false, false, false, false, false, false, false] rfl rfl (any_of HT_.out (by kernel_rfl)) (fun _ _ _ h => h) (Or.inl ⟨by rfl, ?_⟩) ?_ ?_
      rotate_left
      ·intro w'
       go_simp
       with_reducible rfl
      rotate_left
      ·simp only [Act.put, List.setIfInBounds_toArray, List.set_cons_zero, List.set_cons_succ, i64_w, i32_w]
       rfl
      refine pure_ (i := 3) (N := some 14) (v := ?_) (a' := ?_) #[true, true, true, true, false, false, false, false, false, false, false, false, false, false, false, false, false, false, false, false] rfl rfl (any_of HT_.out (by kernel_rfl)) (fun _ _ _ h => h) (Or.inl ⟨by rfl, ?_⟩) ?_ ?_
      rotate_left
      ·intro w'
       go_simp
       with_reducible rfl
      rotate_left
      ·simp only [Act.put, List.setIfInBounds_toArray, List.set_cons_zero, List.set_cons_succ, i64_w, i32_w]
       rfl
      refine pure_ (i := 4) (N := some 15) (v := ?_) (a' := ?_) #[true, true, true, true, true, false, false, false, false, false, false, false, false, false, false, false, false, false, false, false] rfl rfl (any_of HT_.out (by kernel_rfl)) (fun _ _ _ h => h) (Or.inl ⟨by rfl, ?_⟩) ?_ ?_
      rotate_left
      ·intro w'
       go_simp
       with_reducible rfl
      rotate_left
      ·simp only [Act.put, List.setIfInBounds_toArray, List.set_cons_zero, List.set_cons_succ, i64_w, i32_w]
       rfl
      refine pure_ (i := 6) (N := some 17) (v := ?_) (a' := ?_) #[true, true, true, true, true, false, true, false, false, false, false, false, false, false, false, false, false, false, false, false] rfl rfl (any_of HT_.out (by kernel_rfl)) (fun _ _ _ h => h) (Or.inl ⟨by rfl, ?_⟩) ?_ ?_
      rotate_left
      ·intro w'
       go_simp
       with_reducible rfl
      rotate_left
      ·simp only [Act.put, List.setIfInBounds_toArray, List.set_cons_zero, List.set_cons_succ, i64_w, i32_w]
       rfl
      refine pure_ (i := 7) (N := some 18) (v := ?_) (a' := ?_) #[true, true, true, true, true, false, true, true, false, false, false, false, false, false, false, false, false, false, false, false] rfl rfl (any_of HT_.out (by kernel_rfl)) (fun _ _ _ h => h) (Or.inl ⟨by rfl, ?_⟩) ?_ ?_
      rotate_left
      ·intro w'
       go_simp
       with_reducible rfl
      rotate_left
      ·simp only [Act.put, List.setIfInBounds_toArray, List.set_cons_zero, List.set_cons_succ, i64_w, i32_w]
       rfl
      refine pure_ (i := 8) (N := some 19) (v := ?_) (a' := ?_) #[true, true, true, true, true, false, true, true, true, false, false, false, false, false, false, false, false, false, false, false] rfl rfl (any_of HT_.out (by kernel_rfl)) (fun _ _ _ h => h) (Or.inl ⟨by rfl, ?_⟩) ?_ ?_
      rotate_left
      ·intro w'
       go_simp
       with_reducible rfl
      rotate_left
      ·simp only [Act.put, List.setIfInBounds_toArray, List.set_cons_zero, List.set_cons_succ, i64_w, i32_w]
       rfl
      refine pure_ (i := 9) (N := some 20) (v := ?_) (a' := ?_) #[true, true, true, true, true, false, true, true, true, true, false, false, false, false, false, false, false, false, false, false] rfl rfl (any_of HT_.out (by kernel_rfl)) (fun _ _ _ h => h) (Or.inl ⟨by rfl, ?_⟩) ?_ ?_
      rotate_left
      ·intro w'
       go_simp
       with_reducible rfl
      rotate_left
      ·simp only [Act.put, List.setIfInBounds_toArray, List.set_cons_zero, List.set_cons_succ, i64_w, i32_w]
       rfl
      refine pure_ (i := 11) (N := some 22) (v := ?_) (a' := ?_) #[true, true, true, true, true, false, true, true, true, true, false, true, false, false, false, false, false, false, false, false] rfl rfl (any_of HT_.out (by kernel_rfl)) (fun _ _ _ h => h) (Or.inl ⟨by rfl, ?_⟩) ?_ ?_
      rotate_left
      ·intro w'
       go_simp
       with_reducible rfl
      rotate_left
      ·simp only [Act.put, List.setIfInBounds_toArray, List.set_cons_zero, List.set_cons_succ, i64_w, i32_w]
       rfl
      refine pure_ (i := 12) (N := some 23) (v := ?_) (a' := ?_) #[true, true, true, true, true, false, true, true, true, true, false, true, true, false, false, false, false, false, false, false] rfl rfl (any_of HT_.out (by kernel_rfl)) (fun _ _ _ h => h) (Or.inl ⟨by rfl, ?_⟩) ?_ ?_
      rotate_left
      ·intro w'
       go_simp
       with_reducible rfl
      rotate_left
      ·simp only [Act.put, List.setIfInBounds_toArray, List.set_cons_zero, List.set_cons_succ, i64_w, i32_w]
       rfl
      refine pure_ (i := 13) (N := some 24) (v := ?_) (a' := ?_) #[true, true, true, true, true, false, true, true, true, true, false, true, true, true, false, false, false, false, false, false] rfl rfl (any_of HT_.out (by kernel_rfl)) (fun _ _ _ h => h) (Or.inl ⟨by rfl, ?_⟩) ?_ ?_
      rotate_left
      ·intro w'
       go_simp
       with_reducible rfl
      rotate_left
      ·simp only [Act.put, List.setIfInBounds_toArray, List.set_cons_zero, List.set_cons_succ, i64_w, i32_w]
       rfl
      refine pure_ (i := 14) (N := some 25) (v := ?_) (a' := ?_) #[true, true, true, true, true, false, true, true, true, true, false, true, true, true, true, false, false, false, false, false] rfl rfl (any_of HT_.out (by kernel_rfl)) (fun _ _ _ h => h) (Or.inl ⟨by rfl, ?_⟩) ?_ ?_
      rotate_left
      ·intro w'
       go_simp
       with_reducible rfl
      rotate_left
      ·simp only [Act.put, List.setIfInBounds_toArray, List.set_cons_zero, List.set_cons_succ, i64_w, i32_w]
       rfl
      refine take_ (i := 5) (N := some 16) (v := ?_) (a' := ?_) #[true, true, true, true, true, true, true, true, true, true, false, true, true, true, true, false, false, false, false, false] rfl rfl (take_ofW HT_.out HW_.out (by kernel_rfl)) (fun _ _ _ h => h) (Or.inl ⟨by rfl, ?_⟩) hHeld ?_ ?_
      rotate_left
      ·rintro w' ⟨s0, s1, s2, s3, s4, s5, s6, s7, s8, s9, s10, s11, s12, s13, s14⟩
       go_simp
       with_reducible rfl
      rotate_left
      ·simp only [Act.put, List.setIfInBounds_toArray, List.set_cons_zero, List.set_cons_succ, i64_w, i32_w]
       rfl
      refine take_ (i := 10) (N := some 21) (v := ?_) (a' := ?_) #[true, true, true, true, true, true, true, true, true, true, true, true, true, true, true, false, false, false, false, false] rfl rfl (take_ofW HT_.out HW_.out (by kernel_rfl)) (fun _ _ _ h => h) (Or.inl ⟨by rfl, ?_⟩) hHeld ?_ ?_
      rotate_left
      ·rintro w' ⟨s0, s1, s2, s3, s4, s5, s6, s7, s8, s9, s10, s11, s12, s13, s14⟩
       go_simp
       with_reducible rfl
      rotate_left
      ·simp only [Act.put, List.setIfInBounds_toArray, List.set_cons_zero, List.set_cons_succ, i64_w, i32_w]
       rfl
      refine take_ (i := 15) (N := some 26) (v := ?_) (a' := ?_) #[true, true, true, true, true, true, true, true, true, true, true, true, true, true, true, true, false, false, false, false] rfl rfl (take_ofW HT_.out HW_.out (by kernel_rfl)) (fun _ _ _ h => h) (Or.inl ⟨by rfl, ?_⟩) hHeld ?_ ?_
      rotate_left
      ·rintro w' ⟨s0, s1, s2, s3, s4, s5, s6, s7, s8, s9, s10, s11, s12, s13, s14⟩
       go_simp
       with_reducible rfl
      rotate_left
      ·simp only [Act.put, List.setIfInBounds_toArray, List.set_cons_zero, List.set_cons_succ, i64_w, i32_w]
       rfl
      refine pure_ (i := 16) (N := some 27) (v := ?_) (a' := ?_) #[true, true, true, true, true, true, true, true, true, true, true, true, true, true, true, true, true, false, false, false] rfl rfl (any_of HT_.out (by kernel_rfl)) (fun _ _ _ h => h) (Or.inl ⟨by rfl, ?_⟩) ?_ ?_
      rotate_left
      ·intro w'
       go_simp
       with_reducible rfl
      rotate_left
      ·simp only [Act.put, List.setIfInBounds_toArray, List.set_cons_zero, List.set_cons_succ, i64_w, i32_w]
       rfl
      refine one_ (i := 17) (N := some 28) #[true, true, true, true, true, true, true, true, true, true, true, true, true, true, true, true, true, true, false, false] rfl rfl (one_of HT_.out (by kernel_rfl)) (by decide) (fun K hK => ?_)
      refine value_ (w1 := ?_) (v := ?_) (by rfl) rfl ?_ ?_
      rotate_left 2
      ·go_simp
       constructor
       ·rfl
       ·rfl
      refine hK.out _ _ ⟨(World.cell?_alloc_lt _ _ _ (World.block_lt_of_cell? _ _ (((HB.out.cell (World.block_lt_of_cell? w _ hw232_0)).trans hw232_0)))).trans (((HB.out.cell (World.block_lt_of_cell? w _ hw232_0)).trans hw232_0)), (World.cell?_alloc_lt _ _ _ (World.block_lt_of_cell? _ _ (((HB.out.cell (World.block_lt_of_cell? w _ hw232_1)).trans hw232_1)))).trans (((HB.out.cell (World.block_lt_of_cell? w _ hw232_1)).trans hw232_1)), (World.cell?_alloc_lt _ _ _ (World.block_lt_of_cell? _ _ (((HB.out.cell (World.block_lt_of_cell? w _ hw232_2)).trans hw232_2)))).trans (((HB.out.cell (World.block_lt_of_cell? w _ hw232_2)).trans hw232_2)), (World.cell?_alloc_lt _ _ _ (World.block_lt_of_cell? _ _ (((HB.out.cell (World.block_lt_of_cell? w _ hw232_3)).trans hw232_3)))).trans (((HB.out.cell (World.block_lt_of_cell? w _ hw232_3)).trans hw232_3)), (World.cell?_alloc_lt _ _ _ (World.block_lt_of_cell? _ _ (((HB.out.cell (World.block_lt_of_cell? w _ hw232_4)).trans hw232_4)))).trans (((HB.out.cell (World.block_lt_of_cell? w _ hw232_4)).trans hw232_4)), (World.cell?_alloc_lt _ _ _ (World.block_lt_of_cell? _ _ (((HB.out.cell (World.block_lt_of_cell? w _ hw233_0)).trans hw233_0)))).trans (((HB.out.cell (World.block_lt_of_cell? w _ hw233_0)).trans hw233_0)), (World.cell?_alloc_lt _ _ _ (World.block_lt_of_cell? _ _ (((HB.out.cell (World.block_lt_of_cell? w _ hw233_1)).trans hw233_1)))).trans (((HB.out.cell (World.block_lt_of_cell? w _ hw233_1)).trans hw233_1)), (World.cell?_alloc_lt _ _ _ (World.block_lt_of_cell? _ _ (((HB.out.cell (World.block_lt_of_cell? w _ hw233_2)).trans hw233_2)))).trans (((HB.out.cell (World.block_lt_of_cell? w _ hw233_2)).trans hw233_2)), (World.cell?_alloc_lt _ _ _ (World.block_lt_of_cell? _ _ (((HB.out.cell (World.block_lt_of_cell? w _ hw233_3)).trans hw233_3)))).trans (((HB.out.cell (World.block_lt_of_cell? w _ hw233_3)).trans hw233_3)), (World.cell?_alloc_lt _ _ _ (World.block_lt_of_cell? _ _ (((HB.out.cell (World.block_lt_of_cell? w _ hw233_4)).trans hw233_4)))).trans (((HB.out.cell (World.block_lt_of_cell? w _ hw233_4)).trans hw233_4)), (World.cell?_alloc_lt _ _ _ (World.block_lt_of_cell? _ _ (((HB.out.cell (World.block_lt_of_cell? w _ hw234_0)).trans hw234_0)))).trans (((HB.out.cell (World.block_lt_of_cell? w _ hw234_0)).trans hw234_0)), (World.cell?_alloc_lt _ _ _ (World.block_lt_of_cell? _ _ (((HB.out.cell (World.block_lt_of_cell? w _ hw234_1)).trans hw234_1)))).trans (((HB.out.cell (World.block_lt_of_cell? w _ hw234_1)).trans hw234_1)), (World.cell?_alloc_lt _ _ _ (World.block_lt_of_cell? _ _ (((HB.out.cell (World.block_lt_of_cell? w _ hw234_2)).trans hw234_2)))).trans (((HB.out.cell (World.block_lt_of_cell? w _ hw234_2)).trans hw234_2)), (World.cell?_alloc_lt _ _ _ (World.block_lt_of_cell? _ _ (((HB.out.cell (World.block_lt_of_cell? w _ hw234_3)).trans hw234_3)))).trans (((HB.out.cell (World.block_lt_of_cell? w _ hw234_3)).trans hw234_3)), (World.cell?_alloc_lt _ _ _ (World.block_lt_of_cell? _ _ (((HB.out.cell (World.block_lt_of_cell? w _ hw234_4)).trans hw234_4)))).trans (((HB.out.cell (World.block_lt_of_cell? w _ hw234_4)).trans hw234_4))⟩ (fun hHeld => ?_)
      clear hK K
      refine norm_ (a' := ?_) ?_ ?_
      rotate_left
      ·show Act.put _ (some 28) _ = _
       simp only [Act.put, List.setIfInBounds_toArray, List.set_cons_zero, List.set_cons_succ, i64_w, i32_w]
       rfl
      refine one_ (i := 18) (N := some 29) #[true, true, true, true, true, true, true, true, true, true, true, true, true, true, true, true, true, true, true, false] rfl rfl (one_of HT_.out (by kernel_rfl)) (by decide) (fun K hK => ?_)
      refine Kd.R_append_step k69 (w0 := w) w.heap.size (by rfl) (.tmp 11) (.tmp 28) 29 69 (.agg #[(.int .i64 0), (.int .i64 0), (.int .i64 0), (.int .i64 0), (.string ⟨#[]⟩)]) 48 rfl Try.underlying29 info69 rfl (by decide) (by omega) u3 x3_1 (⟨(rd_T58 l0 x4_1).f0, (rd_T58 l0 x4_1).f1, (⟨(rd_T58 l0 x4_1).f2.f0, (rd_T58 l0 x4_1).f2.f1, (rd_T58 l0 x4_1).f2.f2⟩ : S25)⟩ : S69) [.int .i64 ((rd_T58 l0 x4_1).f0), .int .i64 ((rd_T58 l0 x4_1).f1), .int .i64 ((rd_T58 l0 x4_1).f2.f0), .int .i64 ((rd_T58 l0 x4_1).f2.f1), .string ((rd_T58 l0 x4_1).f2.f2)] (fun _ => True) (fun _ => False) rfl rfl ?aP (fun _ hk => hk.elim) ?aF ?aO ?aB ?aS ?aL ?_
      (case aP => exact k69_mkM _ _ _ (⟨(rd_T58 l0 x4_1).f0, (rd_T58 l0 x4_1).f1, (⟨(rd_T58 l0 x4_1).f2.f0, (rd_T58 l0 x4_1).f2.f1, (rd_T58 l0 x4_1).f2.f2⟩ : S25)⟩ : S69))
      (case aB => exact (by repeat (first | (with_reducible first | exact HB.out | apply below_alloc | apply pw_below_drewN | apply below_drew1) | exact HB.out)))
      (case aF => exact (fun _ _ => trivial))
      (case aO => exact (by (with_reducible repeat (first | apply Kd.R_alloc | apply Kd.R_drewN | apply Kd.R_drew)); exact HO_3.out))
      (case aS => exact (below_size (by repeat (first | (with_reducible first | exact HB.out | apply below_alloc | apply pw_below_drewN | apply below_drew1) | exact HB.out))))
      (case aL => have := LMc4.out; omega)
      intro v236 w6 ho hb hg hat
      rw [← Ny235.out] at ho
      have n0_ := Aside0.mk (hb)
      have n1_ := Aside0.mk (ho)
      clear HB
      clear HO_3
      have HB := n0_
      have HO237 := n1_
      clear n0_ n1_
      clear ho hb hg hat
      refine hK.out _ _ ⟨((HB.out.cell (World.block_lt_of_cell? w _ hw232_0)).trans hw232_0), ((HB.out.cell (World.block_lt_of_cell? w _ hw232_1)).trans hw232_1), ((HB.out.cell (World.block_lt_of_cell? w _ hw232_2)).trans hw232_2), ((HB.out.cell (World.block_lt_of_cell? w _ hw232_3)).trans hw232_3), ((HB.out.cell (World.block_lt_of_cell? w _ hw232_4)).trans hw232_4), ((HB.out.cell (World.block_lt_of_cell? w _ hw233_0)).trans hw233_0), ((HB.out.cell (World.block_lt_of_cell? w _ hw233_1)).trans hw233_1), ((HB.out.cell (World.block_lt_of_cell? w _ hw233_2)).trans hw233_2), ((HB.out.cell (World.block_lt_of_cell? w _ hw233_3)).trans hw233_3), ((HB.out.cell (World.block_lt_of_cell? w _ hw233_4)).trans hw233_4), ((HB.out.cell (World.block_lt_of_cell? w _ hw234_0)).trans hw234_0), ((HB.out.cell (World.block_lt_of_cell? w _ hw234_1)).trans hw234_1), ((HB.out.cell (World.block_lt_of_cell? w _ hw234_2)).trans hw234_2), ((HB.out.cell (World.block_lt_of_cell? w _ hw234_3)).trans hw234_3), ((HB.out.cell (World.block_lt_of_cell? w _ hw234_4)).trans hw234_4)⟩ (fun hHeld => ?_)
      clear hK K
      refine norm_ (a' := ?_) ?_ ?_
      rotate_left
      ·show Act.put _ (some 29) _ = _
       simp only [Act.put, List.setIfInBounds_toArray, List.set_cons_zero, List.set_cons_succ, i64_w, i32_w]
       rfl
      refine pure_ (i := 19) (N := some 3) (v := ?_) (a' := ?_) #[true, true, true, true, true, true, true, true, true, true, true, true, true, true, true, true, true, true, true, true] rfl rfl (any_of HT_.out (by kernel_rfl)) (fun _ _ _ h => h) (Or.inl ⟨by rfl, ?_⟩) ?_ ?_
      rotate_left
      ·intro w'
       go_simp
       with_reducible rfl
      rotate_left
      ·simp only [Act.put, List.setIfInBounds_toArray, List.set_cons_zero, List.set_cons_succ, i64_w, i32_w]
       rfl
      refine done_ (done_of HT_.out (by kernel_rfl)) ?_
      try go_wp2
      go_roundg k1
      case measure => have := HK1.out; omega
      case rel => exact ⟨(y235), (wrap64 (x4_1 + 1)), (by first | rfl | (simp; done) | (simp [*]; done)), H', ⟨by have := HK1.out; omega⟩, ⟨by (with_reducible repeat (first | apply Kd.R_alloc | apply Kd.R_drewN | apply Kd.R_drew)); exact HO237.out⟩, ⟨by repeat (first | (with_reducible first | exact HB.out | apply below_alloc | apply pw_below_drewN | apply below_drew1) | exact HB.out)⟩⟩
     ·rw [if_neg c4] at H
      exact absurd H (by simp)
    ·rw [if_neg c3] at H
     exact absurd H (by simp)
   ·rw [if_neg c2] at H
    have c2b0 : decide (x4_1 < (l0.length : Int)) = false := decide_eq_false c2
    clear c2
    obtain rfl := Option.some.inj H
    go_wp2
    go_ret
    exact ⟨_, by first | rfl | (simp [errW_none, errW_some] <;> rfl) | (simp [*, errW_none, errW_some] <;> rfl), by (with_reducible repeat (first | apply Kd.R_alloc | apply Kd.R_drewN | apply Kd.R_drew)); exact HO_3.out, by repeat (first | (with_reducible first | exact HB.out | apply below_alloc | apply pw_below_drewN | apply below_drew1) | exact HB.out)⟩
end Go.Proofs.Ytmfenomjhmhogaa.P
end
section
namespace Go.Proofs.Ytmfenomjhmhogaa.P
open Go.RowKit Go.Proofs.Ytmfenomjhmhogaa.Pure Go.Proofs.YtmfenomjhmhogaaW.PrintWords Go.Proofs.YtmfenomjhmhogaaW.PrintLast Go.Proofs.YtmfenomjhmhogaaW.PrintMore
attribute [local go_sem] max2_int min2_int max_two min_two max_three min_three max_four min_four
set_option linter.unusedVariables false
set_option linter.unusedSimpArgs false
def quarrylaw19_BoundsMore.f (k : Nat) (a0_0 : Int) (a0_1 a0_2 : ByteArray) (l0_3 : List Int) (l0_4 : List Bool) (a0_5 : Bool) (l1 l2 : List S58) : Option Bool :=
  (quarrylaw19_works.f k).bind fun t => if t = true then (quarrylaw19_right.f k l1).bind fun r1 => if r1 = true then (quarrylaw19_right.f k l2).bind fun r2 => if r2 = true then
    (if l0_4.length = l0_3.length then (quarrylaw19_its.f k l1).bind fun i1 => (bounds_Best.f k [(⟨a0_0, a0_1, a0_2, l0_3, l0_4, a0_5⟩ : S41)] i1).bind fun n => if l1.length + l2.length < 2932031007402 then (quarrylaw19_its.f k (l1 ++ l2)).bind fun i2 => (bounds_Best.f k [(⟨a0_0, a0_1, a0_2, l0_3, l0_4, a0_5⟩ : S41)] i2).bind fun m => some (decide (n < 0) || m == 0) else none
     else some true) else some true else some true else none
theorem one41 {W : World} {x : S41} {g : Nat} {A3 A4 : Option Addr} {c3 c4 : Nat} (hb : W.heap[g]? = some (.cells #[.int .i64 x.f0, .string x.f1, .string x.f2, .slice A3 x.f3.length c3, .slice A4 x.f4.length c4, .bool x.f5] 41 (0, 0))) (l3 : x.f3.length ≤ c3) (g3 : (Kd.int .i64).C W A3 x.f3.length x.f3) (l4 : x.f4.length ≤ c4) (g4 : Kd.bool.C W A4 x.f4.length x.f4) :
    Kd.C k41 W (some ⟨g, 0, none⟩) [x].length [x] := by
  refine ⟨rfl, by simp, fun _ => ⟨_, rfl, fun j p hj => ?_⟩⟩
  cases j with
  | succ j => simp at hj
  | zero =>
    simp at hj
    subst hj
    refine ⟨_, rfl, k41_mk W x l3 g3 l4 g4, fun i u hu => ?_⟩
    have e : (⟨g, 0, none⟩ : Addr).add (0 * k41.sz + i) = ⟨g, i, none⟩ := by
      unfold Addr.add
      split <;> simp_all
    rw [e, blk_cell hb]
    simpa using hu
def MI (w : World) (cx : Array Value) (W : World) : Prop := W.heap[w.heap.size]? = some (.cells cx 41 (0, 0)) ∧ Below w.heap.size w W
section
variable {w W W' : World} {cx : Array Value}
theorem MI.below (h : MI w cx W) (hb : Below W.heap.size W W') : MI w cx W' := ⟨blk_below h.1 hb, below_step h.2 hb⟩
theorem MI.b (h : MI w cx W) : Below w.heap.size w W := h.2
theorem MI.drew (h : MI w cx W) : MI w cx W.drew := ⟨h.1, below_drew1 h.2⟩
theorem MI.app (h : MI w cx W) {v : Value} {xs : List S58} (ho : Kd.R k58 58 W w.heap.size (fun _ => True) v xs) (hb : Below w.heap.size w W') (hg : W.grownBy W' v.ownBlock) : MI w cx W' := ⟨blk_grown h.1 hg (Kd.R_ne ho h.1 (by decide)), hb⟩
end
def MJ (w : World) (cx : Array Value) (ts : List S69) (s : Nat × Value) (W : World) : Prop := MI w cx W ∧ W.heap[s.1]? = some (.cells cx 41 (0, 0)) ∧ Kd.R k69 69 W w.heap.size (fun _ => True) s.2 ts
set_option maxHeartbeats 8000000 in
set_option maxRecDepth 100000 in
theorem quarrylaw19_BoundsMore.r1 (k : Nat) (a0_0 : Int) (a0_1 : ByteArray) (a0_2 : ByteArray) (A0_3 : Option Addr) (c0_3 : Nat) (l0_3 : List Int) (A0_4 : Option Addr) (c0_4 : Nat) (l0_4 : List Bool) (a0_5 : Bool) (A1 : Option Addr) (c1 : Nat) (l1 : List (S58)) (A2 : Option Addr) (c2 : Nat) (l2 : List (S58)) (w : World) (hr0_3 : Kd.C (Kd.int .i64) w A0_3 l0_3.length l0_3) (hc0_3 : l0_3.length ≤ c0_3) (hr0_4 : Kd.C Kd.bool w A0_4 l0_4.length l0_4) (hc0_4 : l0_4.length ≤ c0_4) (hr1 : Kd.C k58 w A1 l1.length l1) (hc1 : l1.length ≤ c1) (hr2 : Kd.C k58 w A2 l2.length l2) (hc2 : l2.length ≤ c2) (hw : quarrylaw19_works.f k = some true) (h1 : quarrylaw19_right.f k l1 = some false) :
    Calls Try.prog 7 #[.agg #[.int .i64 a0_0, .string a0_1, .string a0_2, .slice A0_3 l0_3.length c0_3, .slice A0_4 l0_4.length c0_4, .bool a0_5], .slice A1 l1.length c1, .slice A2 l2.length c2] w fun e w' => e = .returned (.bool true) ∧ Below w.heap.size w w' := by
  have hu41 := Try.underlying41
  have HW := Aside0.mk hw
  have HR3 := Aside0.mk (And.intro hr0_3 hc0_3)
  have HR4 := Aside0.mk (And.intro hr0_4 hc0_4)
  have HR1 := Aside0.mk (And.intro hr1 hc1)
  have HR2 := Aside0.mk (And.intro hr2 hc2)
  have H1 := Aside0.mk h1
  obtain ⟨cx, hcx⟩ : ∃ cx : Array Value, cx = #[.int .i64 a0_0, .string a0_1, .string a0_2, .slice A0_3 l0_3.length c0_3, .slice A0_4 l0_4.length c0_4, .bool a0_5] := ⟨_, rfl⟩
  have HX := Aside0.mk hcx
  clear hr0_3 hc0_3 hr0_4 hc0_4 hr1 hc1 hr2 hc2 hcx hw h1
  go_enter Try.func7, Try.ntmps7
  go_upto_region 1 with fail
  refine at_world (fun W => MI w #[.int .i64 a0_0, .string a0_1, .string a0_2, .slice A0_3 l0_3.length c0_3, .slice A0_4 l0_4.length c0_4, .bool a0_5] W) ⟨Deep.blk_alloc_new w _, below_alloc (Below.refl _ _) _⟩ (fun W hI => ?_)
  rw [← HX.out] at hI
  have HI := Aside0.mk hI
  clear hI
  go_upto_region 3 with (go_at_call 20; (with_reducible refine (quarrylaw19_works.calls k true _ HW.out).mono ?_); rintro e w2 ⟨rfl, hb⟩; have HI2 := Aside0.mk (HI.out.below hb); clear hb HI; have HI := HI2; clear HI2)
  go_upto_region 4 with (go_at_call 14; (with_reducible refine (quarrylaw19_right.calls k _ _ l1 false _ (Kd.C_below HR1.out.1 HI.out.b) HR1.out.2 H1.out).mono ?_); rintro e w2 ⟨rfl, hb⟩; have HI2 := Aside0.mk (HI.out.below hb); clear hb HI; have HI := HI2; clear HI2)
  go_wp2
  go_ret
  exact ⟨rfl, HI.out.b⟩
set_option maxHeartbeats 8000000 in
set_option maxRecDepth 100000 in
theorem quarrylaw19_BoundsMore.r2 (k : Nat) (a0_0 : Int) (a0_1 : ByteArray) (a0_2 : ByteArray) (A0_3 : Option Addr) (c0_3 : Nat) (l0_3 : List Int) (A0_4 : Option Addr) (c0_4 : Nat) (l0_4 : List Bool) (a0_5 : Bool) (A1 : Option Addr) (c1 : Nat) (l1 : List (S58)) (A2 : Option Addr) (c2 : Nat) (l2 : List (S58)) (w : World) (hr0_3 : Kd.C (Kd.int .i64) w A0_3 l0_3.length l0_3) (hc0_3 : l0_3.length ≤ c0_3) (hr0_4 : Kd.C Kd.bool w A0_4 l0_4.length l0_4) (hc0_4 : l0_4.length ≤ c0_4) (hr1 : Kd.C k58 w A1 l1.length l1) (hc1 : l1.length ≤ c1) (hr2 : Kd.C k58 w A2 l2.length l2) (hc2 : l2.length ≤ c2) (hw : quarrylaw19_works.f k = some true) (h1 : quarrylaw19_right.f k l1 = some true) (h2 : quarrylaw19_right.f k l2 = some false) :
    Calls Try.prog 7 #[.agg #[.int .i64 a0_0, .string a0_1, .string a0_2, .slice A0_3 l0_3.length c0_3, .slice A0_4 l0_4.length c0_4, .bool a0_5], .slice A1 l1.length c1, .slice A2 l2.length c2] w fun e w' => e = .returned (.bool true) ∧ Below w.heap.size w w' := by
  have hu41 := Try.underlying41
  have HW := Aside0.mk hw
  have HR3 := Aside0.mk (And.intro hr0_3 hc0_3)
  have HR4 := Aside0.mk (And.intro hr0_4 hc0_4)
  have HR1 := Aside0.mk (And.intro hr1 hc1)
  have HR2 := Aside0.mk (And.intro hr2 hc2)
  have H1 := Aside0.mk h1
  have H2 := Aside0.mk h2
  obtain ⟨cx, hcx⟩ : ∃ cx : Array Value, cx = #[.int .i64 a0_0, .string a0_1, .string a0_2, .slice A0_3 l0_3.length c0_3, .slice A0_4 l0_4.length c0_4, .bool a0_5] := ⟨_, rfl⟩
  have HX := Aside0.mk hcx
  clear hr0_3 hc0_3 hr0_4 hc0_4 hr1 hc1 hr2 hc2 hcx hw h1 h2
  go_enter Try.func7, Try.ntmps7
  go_upto_region 1 with fail
  refine at_world (fun W => MI w #[.int .i64 a0_0, .string a0_1, .string a0_2, .slice A0_3 l0_3.length c0_3, .slice A0_4 l0_4.length c0_4, .bool a0_5] W) ⟨Deep.blk_alloc_new w _, below_alloc (Below.refl _ _) _⟩ (fun W hI => ?_)
  rw [← HX.out] at hI
  have HI := Aside0.mk hI
  clear hI
  go_upto_region 3 with (go_at_call 20; (with_reducible refine (quarrylaw19_works.calls k true _ HW.out).mono ?_); rintro e w2 ⟨rfl, hb⟩; have HI2 := Aside0.mk (HI.out.below hb); clear hb HI; have HI := HI2; clear HI2)
  have tok1 : True := trivial
  have tok2 : True := trivial
  go_upto_region 4 with (first | (have _t := tok1; go_at_call 14; (with_reducible refine (quarrylaw19_right.calls k _ _ l1 true _ (Kd.C_below HR1.out.1 HI.out.b) HR1.out.2 H1.out).mono ?_); rintro e w2 ⟨rfl, hb⟩; have HI2 := Aside0.mk (HI.out.below hb); clear hb HI; have HI := HI2; clear HI2; clear tok1) | (have _t := tok2; go_at_call 14; (with_reducible refine (quarrylaw19_right.calls k _ _ l2 false _ (Kd.C_below HR2.out.1 HI.out.b) HR2.out.2 H2.out).mono ?_); rintro e w2 ⟨rfl, hb⟩; have HI2 := Aside0.mk (HI.out.below hb); clear hb HI; have HI := HI2; clear HI2; clear tok2))
  go_wp2
  go_ret
  exact ⟨rfl, HI.out.b⟩
set_option maxHeartbeats 8000000 in
set_option maxRecDepth 100000 in
theorem quarrylaw19_BoundsMore.len (k : Nat) (a0_0 : Int) (a0_1 : ByteArray) (a0_2 : ByteArray) (A0_3 : Option Addr) (c0_3 : Nat) (l0_3 : List Int) (A0_4 : Option Addr) (c0_4 : Nat) (l0_4 : List Bool) (a0_5 : Bool) (A1 : Option Addr) (c1 : Nat) (l1 : List (S58)) (A2 : Option Addr) (c2 : Nat) (l2 : List (S58)) (w : World) (hr0_3 : Kd.C (Kd.int .i64) w A0_3 l0_3.length l0_3) (hc0_3 : l0_3.length ≤ c0_3) (hr0_4 : Kd.C Kd.bool w A0_4 l0_4.length l0_4) (hc0_4 : l0_4.length ≤ c0_4) (hr1 : Kd.C k58 w A1 l1.length l1) (hc1 : l1.length ≤ c1) (hr2 : Kd.C k58 w A2 l2.length l2) (hc2 : l2.length ≤ c2) (hw : quarrylaw19_works.f k = some true) (h1 : quarrylaw19_right.f k l1 = some true) (h2 : quarrylaw19_right.f k l2 = some true) (hle : ¬ l0_4.length = l0_3.length) :
    Calls Try.prog 7 #[.agg #[.int .i64 a0_0, .string a0_1, .string a0_2, .slice A0_3 l0_3.length c0_3, .slice A0_4 l0_4.length c0_4, .bool a0_5], .slice A1 l1.length c1, .slice A2 l2.length c2] w fun e w' => e = .returned (.bool true) ∧ Below w.heap.size w w' := by
  have hu41 := Try.underlying41
  have HW := Aside0.mk hw
  have HR3 := Aside0.mk (And.intro hr0_3 hc0_3)
  have HR4 := Aside0.mk (And.intro hr0_4 hc0_4)
  have HR1 := Aside0.mk (And.intro hr1 hc1)
  have HR2 := Aside0.mk (And.intro hr2 hc2)
  have H1 := Aside0.mk h1
  have H2 := Aside0.mk h2
  have q1 : ((l0_4.length : Int) != (l0_3.length : Int)) = true := by simp; omega
  have q2 : (l0_4.length != l0_3.length) = true := by simp; omega
  obtain ⟨cx, hcx⟩ : ∃ cx : Array Value, cx = #[.int .i64 a0_0, .string a0_1, .string a0_2, .slice A0_3 l0_3.length c0_3, .slice A0_4 l0_4.length c0_4, .bool a0_5] := ⟨_, rfl⟩
  have HX := Aside0.mk hcx
  clear hr0_3 hc0_3 hr0_4 hc0_4 hr1 hc1 hr2 hc2 hcx hw h1 h2 hle
  go_enter Try.func7, Try.ntmps7
  go_upto_region 1 with fail
  refine at_world (fun W => MI w #[.int .i64 a0_0, .string a0_1, .string a0_2, .slice A0_3 l0_3.length c0_3, .slice A0_4 l0_4.length c0_4, .bool a0_5] W) ⟨Deep.blk_alloc_new w _, below_alloc (Below.refl _ _) _⟩ (fun W hI => ?_)
  rw [← HX.out] at hI
  have HI := Aside0.mk hI
  clear hI
  go_upto_region 3 with (go_at_call 20; (with_reducible refine (quarrylaw19_works.calls k true _ HW.out).mono ?_); rintro e w2 ⟨rfl, hb⟩; have HI2 := Aside0.mk (HI.out.below hb); clear hb HI; have HI := HI2; clear HI2)
  have tok1 : True := trivial
  have tok2 : True := trivial
  go_upto_region 4 with (first | (have _t := tok1; go_at_call 14; (with_reducible refine (quarrylaw19_right.calls k _ _ l1 true _ (Kd.C_below HR1.out.1 HI.out.b) HR1.out.2 H1.out).mono ?_); rintro e w2 ⟨rfl, hb⟩; have HI2 := Aside0.mk (HI.out.below hb); clear hb HI; have HI := HI2; clear HI2; (try clear x3 x4); have x3 : w2.cell? ⟨w.heap.size, 3, none⟩ = some (.slice A0_3 l0_3.length c0_3) := (blk_cell HI.out.1 3).trans (by rw [HX.out]; rfl); have x4 : w2.cell? ⟨w.heap.size, 4, none⟩ = some (.slice A0_4 l0_4.length c0_4) := (blk_cell HI.out.1 4).trans (by rw [HX.out]; rfl); clear tok1) | (have _t := tok2; go_at_call 14; (with_reducible refine (quarrylaw19_right.calls k _ _ l2 true _ (Kd.C_below HR2.out.1 HI.out.b) HR2.out.2 H2.out).mono ?_); rintro e w2 ⟨rfl, hb⟩; have HI2 := Aside0.mk (HI.out.below hb); clear hb HI; have HI := HI2; clear HI2; (try clear x3 x4); have x3 : w2.cell? ⟨w.heap.size, 3, none⟩ = some (.slice A0_3 l0_3.length c0_3) := (blk_cell HI.out.1 3).trans (by rw [HX.out]; rfl); have x4 : w2.cell? ⟨w.heap.size, 4, none⟩ = some (.slice A0_4 l0_4.length c0_4) := (blk_cell HI.out.1 4).trans (by rw [HX.out]; rfl); clear tok2))
  go_wp2
  go_ret
  exact ⟨rfl, HI.out.b⟩
section
variable {P : Program} {ops : Array Oper} {o : Oper} {a : Act} {Q : Exit → Act → World → Prop} {Kc : Act → World → Prop}
theorem box41_step {W : World} (hw : Region.wanted o (yielded ops a.tmps) = true) {N : Tmp} (_hd : o.dst = some N) {cs : Array Value}
    (hrun : (execOp a.eval o).run P W = .ok (.value (.slice (some ⟨W.heap.size, 0, none⟩) 1 1)) (W.alloc (.cells cs 41)))
    (h : ∀ g, g = W.heap.size → ∀ w1, w1.heap[g]? = some (.cells cs 41 (0, 0)) → Below W.heap.size W w1 → Kc (a.put o.dst (.slice (some ⟨g, 0, none⟩) 1 1)) w1) : if Region.wanted o (yielded ops a.tmps) = true then Oper.wp P o a W Kc Q else Kc (a.put o.dst undef) W :=
  event_step hw hrun (h _ rfl _ (blk_new W _) (below_alloc (Below.refl _ _) _))
end
set_option maxHeartbeats 8000000 in
set_option maxRecDepth 100000 in
theorem quarrylaw19_BoundsMore.full (k : Nat) (a0_0 : Int) (a0_1 : ByteArray) (a0_2 : ByteArray) (A0_3 : Option Addr) (c0_3 : Nat) (l0_3 : List Int) (A0_4 : Option Addr) (c0_4 : Nat) (l0_4 : List Bool) (a0_5 : Bool) (A1 : Option Addr) (c1 : Nat) (l1 : List (S58)) (A2 : Option Addr) (c2 : Nat) (l2 : List (S58)) (w : World) (hr0_3 : Kd.C (Kd.int .i64) w A0_3 l0_3.length l0_3) (hc0_3 : l0_3.length ≤ c0_3) (hr0_4 : Kd.C Kd.bool w A0_4 l0_4.length l0_4) (hc0_4 : l0_4.length ≤ c0_4) (hr1 : Kd.C k58 w A1 l1.length l1) (hc1 : l1.length ≤ c1) (hr2 : Kd.C k58 w A2 l2.length l2) (hc2 : l2.length ≤ c2) (hw : quarrylaw19_works.f k = some true) (h1 : quarrylaw19_right.f k l1 = some true) (h2 : quarrylaw19_right.f k l2 = some true) (hle : l0_4.length = l0_3.length) (i1 i2 : List S69) (n m : Int) (hi1 : quarrylaw19_its.f k l1 = some i1) (hn : bounds_Best.f k [(⟨a0_0, a0_1, a0_2, l0_3, l0_4, a0_5⟩ : S41)] i1 = some n) (hls : l1.length + l2.length < 2932031007402) (hi2 : quarrylaw19_its.f k (l1 ++ l2) = some i2) (hm : bounds_Best.f k [(⟨a0_0, a0_1, a0_2, l0_3, l0_4, a0_5⟩ : S41)] i2 = some m) :
    Calls Try.prog 7 #[.agg #[.int .i64 a0_0, .string a0_1, .string a0_2, .slice A0_3 l0_3.length c0_3, .slice A0_4 l0_4.length c0_4, .bool a0_5], .slice A1 l1.length c1, .slice A2 l2.length c2] w fun e w' => e = .returned (.bool (decide (n < 0) || m == 0)) ∧ Below w.heap.size w w' := by
  have hu41 := Try.underlying41
  have HW := Aside0.mk hw
  have HR3 := Aside0.mk (And.intro hr0_3 hc0_3)
  have HR4 := Aside0.mk (And.intro hr0_4 hc0_4)
  have HR1 := Aside0.mk (And.intro hr1 hc1)
  have HR2 := Aside0.mk (And.intro hr2 hc2)
  have H1 := Aside0.mk h1
  have H2 := Aside0.mk h2
  have HI1_ := Aside0.mk hi1
  have HI2_ := Aside0.mk hi2
  have HN := Aside0.mk hn
  have HM := Aside0.mk hm
  have HLS := Aside0.mk hls
  have q1 : ((l0_4.length : Int) != (l0_3.length : Int)) = false := by simp [hle]
  have q2 : (l0_4.length != l0_3.length) = false := by simp [hle]
  obtain ⟨cx, hcx⟩ : ∃ cx : Array Value, cx = #[.int .i64 a0_0, .string a0_1, .string a0_2, .slice A0_3 l0_3.length c0_3, .slice A0_4 l0_4.length c0_4, .bool a0_5] := ⟨_, rfl⟩
  have HX := Aside0.mk hcx
  clear hr0_3 hc0_3 hr0_4 hc0_4 hr1 hc1 hr2 hc2 hcx hw h1 h2 hle hi1 hi2 hn hm hls
  go_enter Try.func7, Try.ntmps7
  go_upto_region 1 with fail
  refine at_world (fun W => MI w #[.int .i64 a0_0, .string a0_1, .string a0_2, .slice A0_3 l0_3.length c0_3, .slice A0_4 l0_4.length c0_4, .bool a0_5] W) ⟨Deep.blk_alloc_new w _, below_alloc (Below.refl _ _) _⟩ (fun W hI => ?_)
  rw [← HX.out] at hI
  have HI := Aside0.mk hI
  clear hI
  go_upto_region 3 with (go_at_call 20; (with_reducible refine (quarrylaw19_works.calls k true _ HW.out).mono ?_); rintro e w2 ⟨rfl, hb⟩; have HI2 := Aside0.mk (HI.out.below hb); clear hb HI; have HI := HI2; clear HI2)
  have tok1 : True := trivial
  have tok2 : True := trivial
  go_upto_region 5 with (first | (have _t := tok1; go_at_call 14; (with_reducible refine (quarrylaw19_right.calls k _ _ l1 true _ (Kd.C_below HR1.out.1 HI.out.b) HR1.out.2 H1.out).mono ?_); rintro e w2 ⟨rfl, hb⟩; have HI2 := Aside0.mk (HI.out.below hb); clear hb HI; have HI := HI2; clear HI2; (try clear x3 x4); have x3 : w2.cell? ⟨w.heap.size, 3, none⟩ = some (.slice A0_3 l0_3.length c0_3) := (blk_cell HI.out.1 3).trans (by rw [HX.out]; rfl); have x4 : w2.cell? ⟨w.heap.size, 4, none⟩ = some (.slice A0_4 l0_4.length c0_4) := (blk_cell HI.out.1 4).trans (by rw [HX.out]; rfl); clear tok1) | (have _t := tok2; go_at_call 14; (with_reducible refine (quarrylaw19_right.calls k _ _ l2 true _ (Kd.C_below HR2.out.1 HI.out.b) HR2.out.2 H2.out).mono ?_); rintro e w2 ⟨rfl, hb⟩; have HI2 := Aside0.mk (HI.out.below hb); clear hb HI; have HI := HI2; clear HI2; (try clear x3 x4); have x3 : w2.cell? ⟨w.heap.size, 3, none⟩ = some (.slice A0_3 l0_3.length c0_3) := (blk_cell HI.out.1 3).trans (by rw [HX.out]; rfl); have x4 : w2.cell? ⟨w.heap.size, 4, none⟩ = some (.slice A0_4 l0_4.length c0_4) := (blk_cell HI.out.1 4).trans (by rw [HX.out]; rfl); clear tok2))
  clear x3 x4
  have HB9 := Aside0.mk HI.out.drew
  refine start_ (n := 6) (S := fun w' => w'.cell? ⟨w.heap.size, 0, none⟩ = some (.int .i64 a0_0) ∧ w'.cell? ⟨w.heap.size, 1, none⟩ = some (.string a0_1) ∧ w'.cell? ⟨w.heap.size, 2, none⟩ = some (.string a0_2) ∧ w'.cell? ⟨w.heap.size, 3, none⟩ = some (.slice A0_3 l0_3.length c0_3) ∧ w'.cell? ⟨w.heap.size, 4, none⟩ = some (.slice A0_4 l0_4.length c0_4) ∧ w'.cell? ⟨w.heap.size, 5, none⟩ = some (.bool a0_5)) (ds := [4]) #[false, false, false, false, false, false] (by kernel_rfl) rfl rfl ⟨(blk_cell (HI.out.drew).1 0).trans (by rw [HX.out]; rfl), (blk_cell (HI.out.drew).1 1).trans (by rw [HX.out]; rfl), (blk_cell (HI.out.drew).1 2).trans (by rw [HX.out]; rfl), (blk_cell (HI.out.drew).1 3).trans (by rw [HX.out]; rfl), (blk_cell (HI.out.drew).1 4).trans (by rw [HX.out]; rfl), (blk_cell (HI.out.drew).1 5).trans (by rw [HX.out]; rfl)⟩ (fun hHeld => ?_)
  clear HI
  have HI := HB9
  clear HB9
  refine pure_ (i := 2) (N := some 30) (v := ?_) (a' := ?_) #[false, false, true, false, false, false] rfl rfl (by kernel_rfl) (fun _ _ _ h => h) (Or.inl ⟨by rfl, ?_⟩) ?_ ?_
  rotate_left
  · intro w'
    go_simp
    with_reducible rfl
  rotate_left
  · simp only [Act.put, List.setIfInBounds_toArray, List.set_cons_zero, List.set_cons_succ, i64_w, i32_w]
    rfl
  refine take_ (i := 0) (N := some 28) (v := ?_) (a' := ?_) #[true, false, true, false, false, false] rfl rfl (by kernel_rfl) (fun _ _ _ h => h) (Or.inl ⟨by rfl, ?_⟩) hHeld ?_ ?_
  rotate_left
  · rintro w' ⟨s0, s1, s2, s3, s4, s5⟩
    go_simp
    with_reducible rfl
  rotate_left
  · simp only [Act.put, List.setIfInBounds_toArray, List.set_cons_zero, List.set_cons_succ, i64_w, i32_w]
    rfl
  refine join_ (σ := Nat × Value) 2 #[true, true, true, true, false, false] (fun s => [(29, .slice (some ⟨s.1, 0, none⟩) 1 1), (31, s.2)]) (fun s w' => MJ w cx i1 s w') ?_ ?_
  rotate_left
  · intro hCont
    refine two_ (i := 1) (j := 3) (Ni := some 29) (Nj := some 31) #[true, true, true, false, false, false] #[true, false, true, true, false, false] rfl rfl rfl rfl (by kernel_rfl) (by decide) (by decide) (fun K hK => ?_) (fun K hK => ?_)
    · skip
      refine box41_step ?hg (N := 29) ?hd (cs := #[.int .i64 a0_0, .string a0_1, .string a0_2, .slice A0_3 l0_3.length c0_3, .slice A0_4 l0_4.length c0_4, .bool a0_5]) ?hr ?_
      case hd => rfl
      case hg => rfl
      case hr => first | (go_simp; done) | (go_simp; rfl)
      intro g hg w3 hbox hb
      have HG_ := Aside0.mk hbox
      have HI_ := Aside0.mk (HI.out.below hb)
      rw [← HX.out] at hbox
      have HG := Aside0.mk hbox
      clear HG_ hg hHeld hb hbox HI
      have HI := HI_
      clear HI_
      refine hK.out _ _ ⟨(blk_cell (HI.out).1 0).trans (by rw [HX.out]; rfl), (blk_cell (HI.out).1 1).trans (by rw [HX.out]; rfl), (blk_cell (HI.out).1 2).trans (by rw [HX.out]; rfl), (blk_cell (HI.out).1 3).trans (by rw [HX.out]; rfl), (blk_cell (HI.out).1 4).trans (by rw [HX.out]; rfl), (blk_cell (HI.out).1 5).trans (by rw [HX.out]; rfl)⟩ (fun hHeld => ?_)
      clear hK K
      refine norm_ (a' := ?_) ?_ ?_
      rotate_left
      · show Act.put _ (some 29) _ = _
        simp only [Act.put, List.setIfInBounds_toArray, List.set_cons_zero, List.set_cons_succ, i64_w, i32_w]
        rfl
      refine one_ (i := 3) (N := some 31) #[true, true, true, true, false, false] rfl rfl (by kernel_rfl) (by decide) (fun K hK => ?_)
      refine goes_ Try.func16 (by kernel_rfl) rfl #[.slice A1 l1.length c1] (by rfl) rfl rfl (by simp only [List.map_toArray, List.map_cons, List.map_nil]; rfl) ?_
      with_reducible refine (quarrylaw19_its.calls k A1 c1 l1 i1 _ (Kd.C_below HR1.out.1 HI.out.b) HR1.out.2 HI1_.out).mono ?_
      rintro e w3 ⟨vi, rfl, ho, hb⟩
      refine ⟨_, rfl, ?_⟩
      have HT := Aside0.mk (Kd.R_lower ho (below_size HI.out.b))
      have HI_ := Aside0.mk (HI.out.below hb)
      have HG_ := Aside0.mk (blk_below HG.out hb)
      clear hHeld ho hb HI
      have HI := HI_
      clear HI_
      clear HG
      have HG := HG_
      clear HG_
      refine hK.out _ _ ⟨(blk_cell (HI.out).1 0).trans (by rw [HX.out]; rfl), (blk_cell (HI.out).1 1).trans (by rw [HX.out]; rfl), (blk_cell (HI.out).1 2).trans (by rw [HX.out]; rfl), (blk_cell (HI.out).1 3).trans (by rw [HX.out]; rfl), (blk_cell (HI.out).1 4).trans (by rw [HX.out]; rfl), (blk_cell (HI.out).1 5).trans (by rw [HX.out]; rfl)⟩ (fun hHeld => ?_)
      clear hK K
      refine norm_ (a' := ?_) ?_ ?_
      rotate_left
      · show Act.put _ (some 31) _ = _
        simp only [Act.put, List.setIfInBounds_toArray, List.set_cons_zero, List.set_cons_succ, i64_w, i32_w]
        rfl
      exact norm_ (by first | (simp only [putAll, Act.put, List.setIfInBounds_toArray, List.set_cons_zero, List.set_cons_succ]; done) | (simp only [putAll, Act.put, List.setIfInBounds_toArray, List.set_cons_zero, List.set_cons_succ]; rfl)) (hCont (_, _) _ ⟨HI.out, HG.out, HT.out⟩)
    · skip
      refine goes_ Try.func16 (by kernel_rfl) rfl #[.slice A1 l1.length c1] (by rfl) rfl rfl (by simp only [List.map_toArray, List.map_cons, List.map_nil]; rfl) ?_
      with_reducible refine (quarrylaw19_its.calls k A1 c1 l1 i1 _ (Kd.C_below HR1.out.1 HI.out.b) HR1.out.2 HI1_.out).mono ?_
      rintro e w3 ⟨vi, rfl, ho, hb⟩
      refine ⟨_, rfl, ?_⟩
      have HT := Aside0.mk (Kd.R_lower ho (below_size HI.out.b))
      have HI_ := Aside0.mk (HI.out.below hb)
      clear hHeld ho hb HI
      have HI := HI_
      clear HI_
      refine hK.out _ _ ⟨(blk_cell (HI.out).1 0).trans (by rw [HX.out]; rfl), (blk_cell (HI.out).1 1).trans (by rw [HX.out]; rfl), (blk_cell (HI.out).1 2).trans (by rw [HX.out]; rfl), (blk_cell (HI.out).1 3).trans (by rw [HX.out]; rfl), (blk_cell (HI.out).1 4).trans (by rw [HX.out]; rfl), (blk_cell (HI.out).1 5).trans (by rw [HX.out]; rfl)⟩ (fun hHeld => ?_)
      clear hK K
      refine norm_ (a' := ?_) ?_ ?_
      rotate_left
      · show Act.put _ (some 31) _ = _
        simp only [Act.put, List.setIfInBounds_toArray, List.set_cons_zero, List.set_cons_succ, i64_w, i32_w]
        rfl
      refine one_ (i := 1) (N := some 29) #[true, true, true, true, false, false] rfl rfl (by kernel_rfl) (by decide) (fun K hK => ?_)
      refine box41_step ?hg (N := 29) ?hd (cs := #[.int .i64 a0_0, .string a0_1, .string a0_2, .slice A0_3 l0_3.length c0_3, .slice A0_4 l0_4.length c0_4, .bool a0_5]) ?hr ?_
      case hd => rfl
      case hg => rfl
      case hr => first | (go_simp; done) | (go_simp; rfl)
      intro g hg w3 hbox hb
      have HG_ := Aside0.mk hbox
      have HI_ := Aside0.mk (HI.out.below hb)
      have HT_ := Aside0.mk (Kd.R_below HT.out hb)
      rw [← HX.out] at hbox
      have HG := Aside0.mk hbox
      clear HG_ hg hHeld hb hbox HI
      have HI := HI_
      clear HI_
      clear HT
      have HT := HT_
      clear HT_
      refine hK.out _ _ ⟨(blk_cell (HI.out).1 0).trans (by rw [HX.out]; rfl), (blk_cell (HI.out).1 1).trans (by rw [HX.out]; rfl), (blk_cell (HI.out).1 2).trans (by rw [HX.out]; rfl), (blk_cell (HI.out).1 3).trans (by rw [HX.out]; rfl), (blk_cell (HI.out).1 4).trans (by rw [HX.out]; rfl), (blk_cell (HI.out).1 5).trans (by rw [HX.out]; rfl)⟩ (fun hHeld => ?_)
      clear hK K
      refine norm_ (a' := ?_) ?_ ?_
      rotate_left
      · show Act.put _ (some 29) _ = _
        simp only [Act.put, List.setIfInBounds_toArray, List.set_cons_zero, List.set_cons_succ, i64_w, i32_w]
        rfl
      exact norm_ (by first | (simp only [putAll, Act.put, List.setIfInBounds_toArray, List.set_cons_zero, List.set_cons_succ]; done) | (simp only [putAll, Act.put, List.setIfInBounds_toArray, List.set_cons_zero, List.set_cons_succ]; rfl)) (hCont (_, _) _ ⟨HI.out, HG.out, HT.out⟩)
  rintro ⟨g, vi⟩ w5 hJ
  have HJ := Aside0.mk hJ
  clear hJ HI
  have HI := Aside0.mk HJ.out.1
  have HG := Aside0.mk HJ.out.2.1
  have HT := Aside0.mk HJ.out.2.2
  clear HJ
  obtain ⟨Ai, ci, ei⟩ := Kd.R_slice HT.out
  simp only at ei
  subst ei
  have hHeld : w5.cell? ⟨w.heap.size, 0, none⟩ = some (.int .i64 a0_0) ∧ w5.cell? ⟨w.heap.size, 1, none⟩ = some (.string a0_1) ∧ w5.cell? ⟨w.heap.size, 2, none⟩ = some (.string a0_2) ∧ w5.cell? ⟨w.heap.size, 3, none⟩ = some (.slice A0_3 l0_3.length c0_3) ∧ w5.cell? ⟨w.heap.size, 4, none⟩ = some (.slice A0_4 l0_4.length c0_4) ∧ w5.cell? ⟨w.heap.size, 5, none⟩ = some (.bool a0_5) := ⟨(blk_cell (HI.out).1 0).trans (by rw [HX.out]; rfl), (blk_cell (HI.out).1 1).trans (by rw [HX.out]; rfl), (blk_cell (HI.out).1 2).trans (by rw [HX.out]; rfl), (blk_cell (HI.out).1 3).trans (by rw [HX.out]; rfl), (blk_cell (HI.out).1 4).trans (by rw [HX.out]; rfl), (blk_cell (HI.out).1 5).trans (by rw [HX.out]; rfl)⟩
  refine norm_ (a' := ?_) ?_ ?_
  rotate_left
  · simp only [putAll, Act.put, List.setIfInBounds_toArray, List.set_cons_zero, List.set_cons_succ]
    rfl
  refine last_ (i := 4) (N := some 32) #[true, true, true, true, true, false] rfl rfl (by kernel_rfl) (by decide) (fun K hK => ?_)
  refine goes_ Try.func18 (by kernel_rfl) rfl #[.slice (some ⟨g, 0, none⟩) [(⟨a0_0, a0_1, a0_2, l0_3, l0_4, a0_5⟩ : S41)].length 1, .slice Ai i1.length ci] (by rfl) rfl rfl (by simp only [List.map_toArray, List.map_cons, List.map_nil]; rfl) ?_
  with_reducible refine (bounds_Best.calls k _ 1 [(⟨a0_0, a0_1, a0_2, l0_3, l0_4, a0_5⟩ : S41)] _ ci i1 n _ (one41 (x := (⟨a0_0, a0_1, a0_2, l0_3, l0_4, a0_5⟩ : S41)) (by have := HG.out; rw [HX.out] at this; exact this) HR3.out.2 (Kd.C_below HR3.out.1 HI.out.b) HR4.out.2 (Kd.C_below HR4.out.1 HI.out.b)) (Nat.le_refl _) (Kd.R_reads' HT.out).2.2 (Kd.R_reads' HT.out).2.1 HN.out).mono ?_
  rintro e w7 ⟨rfl, hb⟩
  refine ⟨_, rfl, ?_⟩
  have HI_ := Aside0.mk (HI.out.below hb)
  clear hb hHeld HT HG HI
  have HI := HI_
  clear HI_
  refine hK.out _ _ ?_
  clear hK K
  refine norm_ (a' := ?_) ?_ ?_
  rotate_left
  · show Act.put _ (some 32) _ = _
    simp only [Act.put, List.setIfInBounds_toArray, List.set_cons_zero, List.set_cons_succ, i64_w, i32_w]
    rfl
  refine pure_ (i := 5) (N := some 7) (v := ?_) (a' := ?_) #[true, true, true, true, true, true] rfl rfl (by kernel_rfl) (fun _ _ _ h => h) (Or.inl ⟨by rfl, ?_⟩) ?_ ?_
  rotate_left
  · intro w'
    go_simp
    with_reducible rfl
  rotate_left
  · simp only [Act.put, List.setIfInBounds_toArray, List.set_cons_zero, List.set_cons_succ, i64_w, i32_w]
    rfl
  refine done_ (by kernel_rfl) ?_
  go_upto_region 6 with fail
  have HB9 := Aside0.mk HI.out.drew
  refine start_ (n := 10) (S := fun w' => w'.cell? ⟨w.heap.size, 0, none⟩ = some (.int .i64 a0_0) ∧ w'.cell? ⟨w.heap.size, 1, none⟩ = some (.string a0_1) ∧ w'.cell? ⟨w.heap.size, 2, none⟩ = some (.string a0_2) ∧ w'.cell? ⟨w.heap.size, 3, none⟩ = some (.slice A0_3 l0_3.length c0_3) ∧ w'.cell? ⟨w.heap.size, 4, none⟩ = some (.slice A0_4 l0_4.length c0_4) ∧ w'.cell? ⟨w.heap.size, 5, none⟩ = some (.bool a0_5)) (ds := [8]) #[false, false, false, false, false, false, false, false, false, false] (by kernel_rfl) rfl rfl ⟨(blk_cell (HI.out.drew).1 0).trans (by rw [HX.out]; rfl), (blk_cell (HI.out.drew).1 1).trans (by rw [HX.out]; rfl), (blk_cell (HI.out.drew).1 2).trans (by rw [HX.out]; rfl), (blk_cell (HI.out.drew).1 3).trans (by rw [HX.out]; rfl), (blk_cell (HI.out.drew).1 4).trans (by rw [HX.out]; rfl), (blk_cell (HI.out.drew).1 5).trans (by rw [HX.out]; rfl)⟩ (fun hHeld => ?_)
  clear HI
  have HI := HB9
  clear HB9
  refine pure_ (i := 3) (N := some 36) (v := ?_) (a' := ?_) #[false, false, false, true, false, false, false, false, false, false] rfl rfl (by kernel_rfl) (fun _ _ _ h => h) (Or.inl ⟨by rfl, ?_⟩) ?_ ?_
  rotate_left
  · intro w'
    go_simp
    with_reducible rfl
  rotate_left
  · simp only [Act.put, List.setIfInBounds_toArray, List.set_cons_zero, List.set_cons_succ, i64_w, i32_w]
    rfl
  refine pure_ (i := 5) (N := some 38) (v := ?_) (a' := ?_) #[false, false, false, true, false, true, false, false, false, false] rfl rfl (by kernel_rfl) (fun _ _ _ h => h) (Or.inl ⟨by rfl, ?_⟩) ?_ ?_
  rotate_left
  · intro w'
    go_simp
    with_reducible rfl
  rotate_left
  · simp only [Act.put, List.setIfInBounds_toArray, List.set_cons_zero, List.set_cons_succ, i64_w, i32_w]
    rfl
  refine take_ (i := 0) (N := some 33) (v := ?_) (a' := ?_) #[true, false, false, true, false, true, false, false, false, false] rfl rfl (by kernel_rfl) (fun _ _ _ h => h) (Or.inl ⟨by rfl, ?_⟩) hHeld ?_ ?_
  rotate_left
  · rintro w' ⟨s0, s1, s2, s3, s4, s5⟩
    go_simp
    with_reducible rfl
  rotate_left
  · simp only [Act.put, List.setIfInBounds_toArray, List.set_cons_zero, List.set_cons_succ, i64_w, i32_w]
    rfl
  refine join_ (σ := (Nat × Value) × Value × Value × Value) 2 #[true, true, true, true, true, true, true, true, false, false] (fun s => [(34, .slice (some ⟨s.1.1, 0, none⟩) 1 1), (35, s.2.1), (37, s.2.2.1), (39, s.2.2.2), (40, s.1.2)]) (fun s w' => MJ w cx i2 s.1 w') ?_ ?_
  rotate_left
  · intro hCont
    refine two_ (i := 1) (j := 2) (Ni := some 34) (Nj := some 35) #[true, true, false, true, false, true, false, false, false, false] #[true, false, true, true, false, true, false, false, false, false] rfl rfl rfl rfl (by kernel_rfl) (by decide) (by decide) (fun K hK => ?_) (fun K hK => ?_)
    · skip
      refine box41_step ?hg (N := 34) ?hd (cs := #[.int .i64 a0_0, .string a0_1, .string a0_2, .slice A0_3 l0_3.length c0_3, .slice A0_4 l0_4.length c0_4, .bool a0_5]) ?hr ?_
      case hd => rfl
      case hg => rfl
      case hr => first | (go_simp; done) | (go_simp; rfl)
      intro g hg w3 hbox hb
      have HG_ := Aside0.mk hbox
      have HI_ := Aside0.mk (HI.out.below hb)
      rw [← HX.out] at hbox
      have HG := Aside0.mk hbox
      clear HG_ hg hHeld hb hbox HI
      have HI := HI_
      clear HI_
      refine hK.out _ _ ⟨(blk_cell (HI.out).1 0).trans (by rw [HX.out]; rfl), (blk_cell (HI.out).1 1).trans (by rw [HX.out]; rfl), (blk_cell (HI.out).1 2).trans (by rw [HX.out]; rfl), (blk_cell (HI.out).1 3).trans (by rw [HX.out]; rfl), (blk_cell (HI.out).1 4).trans (by rw [HX.out]; rfl), (blk_cell (HI.out).1 5).trans (by rw [HX.out]; rfl)⟩ (fun hHeld => ?_)
      clear hK K
      refine norm_ (a' := ?_) ?_ ?_
      rotate_left
      · show Act.put _ (some 34) _ = _
        simp only [Act.put, List.setIfInBounds_toArray, List.set_cons_zero, List.set_cons_succ, i64_w, i32_w]
        rfl
      refine one_ (i := 2) (N := some 35) #[true, true, true, true, false, true, false, false, false, false] rfl rfl (by kernel_rfl) (by decide) (fun K hK => ?_)
      refine Kd.R_lit_step k58 _ 58 ?hg (N := 35) ?hd (xs := ([] : List (S58))) (inner := []) (ok := fun _ => True) (okp := fun _ => True) ?hr ?hp (fun _ hk => hk) trivial (Below.refl _ _) (Nat.le_refl _) (by simp) ?_; (case hd => rfl); (case hg => rfl); (case hr => first | (go_simp; done) | (go_simp; rfl)); (case hp => exact (Reps.none _ _))
      intro v35 w3 ho hb hg_ hnew_
      clear hg_ hnew_
      have HO0 := Aside0.mk (Kd.R_lower ho (below_size HI.out.b))
      have HI_ := Aside0.mk (HI.out.below hb)
      have HG_ := Aside0.mk (blk_below HG.out hb)
      clear hHeld ho hb HI
      have HI := HI_
      clear HI_
      clear HG
      have HG := HG_
      clear HG_
      refine hK.out _ _ ⟨(blk_cell (HI.out).1 0).trans (by rw [HX.out]; rfl), (blk_cell (HI.out).1 1).trans (by rw [HX.out]; rfl), (blk_cell (HI.out).1 2).trans (by rw [HX.out]; rfl), (blk_cell (HI.out).1 3).trans (by rw [HX.out]; rfl), (blk_cell (HI.out).1 4).trans (by rw [HX.out]; rfl), (blk_cell (HI.out).1 5).trans (by rw [HX.out]; rfl)⟩ (fun hHeld => ?_)
      clear hK K
      refine norm_ (a' := ?_) ?_ ?_
      rotate_left
      · show Act.put _ (some 35) _ = _
        simp only [Act.put, List.setIfInBounds_toArray, List.set_cons_zero, List.set_cons_succ, i64_w, i32_w]
        rfl
      refine one_ (i := 4) (N := some 37) #[true, true, true, true, true, true, false, false, false, false] rfl rfl (by kernel_rfl) (by decide) (fun K hK => ?_)
      refine Kd.R_append_rows_step k58 (w0 := w) w.heap.size (by rfl) (.tmp 35) (.tmp 36) 32 58 (.agg #[(.int .i64 0), (.int .i64 0), (.int .i64 0), (.int .i64 0), (.string ⟨#[]⟩)]) 48 rfl Try.underlying32 info58 rfl (by decide) (by omega) _ [] l1 _ _ _ (fun _ => True) (fun _ => False) (by rfl) (by rfl) HO0.out (Kd.C_below HR1.out.1 HI.out.b) (fun _ _ h => h) (fun _ h => h.elim) (fun _ _ => trivial) HI.out.b (below_size HI.out.b) (by have := HLS.out; simp; omega) ?_
      intro va w3 ho hb hg hat
      rw [List.nil_append] at ho
      obtain ⟨Ao1, co1, eo1⟩ := Kd.R_slice ho
      subst eo1
      have HO1 := Aside0.mk ho
      have HI_ := Aside0.mk (HI.out.app HO0.out hb hg)
      have HG_ := Aside0.mk (blk_grown HG.out hg (Kd.R_ne HO0.out HG.out (by decide)))
      clear HG
      have HG := HG_
      clear HG_
      clear hHeld ho hb hg hat HI HO0
      have HI := HI_
      clear HI_
      refine hK.out _ _ ⟨(blk_cell (HI.out).1 0).trans (by rw [HX.out]; rfl), (blk_cell (HI.out).1 1).trans (by rw [HX.out]; rfl), (blk_cell (HI.out).1 2).trans (by rw [HX.out]; rfl), (blk_cell (HI.out).1 3).trans (by rw [HX.out]; rfl), (blk_cell (HI.out).1 4).trans (by rw [HX.out]; rfl), (blk_cell (HI.out).1 5).trans (by rw [HX.out]; rfl)⟩ (fun hHeld => ?_)
      clear hK K
      refine norm_ (a' := ?_) ?_ ?_
      rotate_left
      · show Act.put _ (some 37) _ = _
        simp only [Act.put, List.setIfInBounds_toArray, List.set_cons_zero, List.set_cons_succ, i64_w, i32_w]
        rfl
      refine one_ (i := 6) (N := some 39) #[true, true, true, true, true, true, true, false, false, false] rfl rfl (by kernel_rfl) (by decide) (fun K hK => ?_)
      refine Kd.R_append_rows_step k58 (w0 := w) w.heap.size (by rfl) (.tmp 37) (.tmp 38) 32 58 (.agg #[(.int .i64 0), (.int .i64 0), (.int .i64 0), (.int .i64 0), (.string ⟨#[]⟩)]) 48 rfl Try.underlying32 info58 rfl (by decide) (by omega) _ l1 l2 _ _ _ (fun _ => True) (fun _ => False) (by rfl) (by rfl) HO1.out (Kd.C_below HR2.out.1 HI.out.b) (fun _ _ h => h) (fun _ h => h.elim) (fun _ _ => trivial) HI.out.b (below_size HI.out.b) (by have := HLS.out; simp; omega) ?_
      intro va w3 ho hb hg hat
      obtain ⟨Ao2, co2, eo2⟩ := Kd.R_slice ho
      subst eo2
      have HO2 := Aside0.mk ho
      have HI_ := Aside0.mk (HI.out.app HO1.out hb hg)
      have HG_ := Aside0.mk (blk_grown HG.out hg (Kd.R_ne HO1.out HG.out (by decide)))
      clear HG
      have HG := HG_
      clear HG_
      clear hHeld ho hb hg hat HI HO1
      have HI := HI_
      clear HI_
      refine hK.out _ _ ⟨(blk_cell (HI.out).1 0).trans (by rw [HX.out]; rfl), (blk_cell (HI.out).1 1).trans (by rw [HX.out]; rfl), (blk_cell (HI.out).1 2).trans (by rw [HX.out]; rfl), (blk_cell (HI.out).1 3).trans (by rw [HX.out]; rfl), (blk_cell (HI.out).1 4).trans (by rw [HX.out]; rfl), (blk_cell (HI.out).1 5).trans (by rw [HX.out]; rfl)⟩ (fun hHeld => ?_)
      clear hK K
      refine norm_ (a' := ?_) ?_ ?_
      rotate_left
      · show Act.put _ (some 39) _ = _
        simp only [Act.put, List.setIfInBounds_toArray, List.set_cons_zero, List.set_cons_succ, i64_w, i32_w]
        rfl
      refine one_ (i := 7) (N := some 40) #[true, true, true, true, true, true, true, true, false, false] rfl rfl (by kernel_rfl) (by decide) (fun K hK => ?_)
      refine goes_ Try.func16 (by kernel_rfl) rfl #[.slice Ao2 (l1 ++ l2).length co2] (by rfl) rfl rfl (by simp only [List.map_toArray, List.map_cons, List.map_nil]; rfl) ?_
      with_reducible refine (quarrylaw19_its.calls k _ _ (l1 ++ l2) i2 _ (Kd.R_reads' HO2.out).2.2 (Kd.R_reads' HO2.out).2.1 HI2_.out).mono ?_
      rintro e w3 ⟨vi, rfl, ho, hb⟩
      refine ⟨_, rfl, ?_⟩
      have HT := Aside0.mk (Kd.R_lower ho (below_size HI.out.b))
      have HI_ := Aside0.mk (HI.out.below hb)
      have HG_ := Aside0.mk (blk_below HG.out hb)
      clear hHeld ho hb HI
      have HI := HI_
      clear HI_
      clear HG
      have HG := HG_
      clear HG_
      clear HO2
      refine hK.out _ _ ⟨(blk_cell (HI.out).1 0).trans (by rw [HX.out]; rfl), (blk_cell (HI.out).1 1).trans (by rw [HX.out]; rfl), (blk_cell (HI.out).1 2).trans (by rw [HX.out]; rfl), (blk_cell (HI.out).1 3).trans (by rw [HX.out]; rfl), (blk_cell (HI.out).1 4).trans (by rw [HX.out]; rfl), (blk_cell (HI.out).1 5).trans (by rw [HX.out]; rfl)⟩ (fun hHeld => ?_)
      clear hK K
      refine norm_ (a' := ?_) ?_ ?_
      rotate_left
      · show Act.put _ (some 40) _ = _
        simp only [Act.put, List.setIfInBounds_toArray, List.set_cons_zero, List.set_cons_succ, i64_w, i32_w]
        rfl
      exact norm_ (by first | (simp only [putAll, Act.put, List.setIfInBounds_toArray, List.set_cons_zero, List.set_cons_succ]; done) | (simp only [putAll, Act.put, List.setIfInBounds_toArray, List.set_cons_zero, List.set_cons_succ]; rfl)) (hCont ((_, _), _, _, _) _ ⟨HI.out, HG.out, HT.out⟩)
    · skip
      refine Kd.R_lit_step k58 _ 58 ?hg (N := 35) ?hd (xs := ([] : List (S58))) (inner := []) (ok := fun _ => True) (okp := fun _ => True) ?hr ?hp (fun _ hk => hk) trivial (Below.refl _ _) (Nat.le_refl _) (by simp) ?_; (case hd => rfl); (case hg => rfl); (case hr => first | (go_simp; done) | (go_simp; rfl)); (case hp => exact (Reps.none _ _))
      intro v35 w3 ho hb hg_ hnew_
      clear hg_ hnew_
      have HO0 := Aside0.mk (Kd.R_lower ho (below_size HI.out.b))
      have HI_ := Aside0.mk (HI.out.below hb)
      clear hHeld ho hb HI
      have HI := HI_
      clear HI_
      refine hK.out _ _ ⟨(blk_cell (HI.out).1 0).trans (by rw [HX.out]; rfl), (blk_cell (HI.out).1 1).trans (by rw [HX.out]; rfl), (blk_cell (HI.out).1 2).trans (by rw [HX.out]; rfl), (blk_cell (HI.out).1 3).trans (by rw [HX.out]; rfl), (blk_cell (HI.out).1 4).trans (by rw [HX.out]; rfl), (blk_cell (HI.out).1 5).trans (by rw [HX.out]; rfl)⟩ (fun hHeld => ?_)
      clear hK K
      refine norm_ (a' := ?_) ?_ ?_
      rotate_left
      · show Act.put _ (some 35) _ = _
        simp only [Act.put, List.setIfInBounds_toArray, List.set_cons_zero, List.set_cons_succ, i64_w, i32_w]
        rfl
      refine two_ (i := 1) (j := 4) (Ni := some 34) (Nj := some 37) #[true, true, true, true, false, true, false, false, false, false] #[true, false, true, true, true, true, false, false, false, false] rfl rfl rfl rfl (by kernel_rfl) (by decide) (by decide) (fun K hK => ?_) (fun K hK => ?_)
      · skip
        refine box41_step ?hg (N := 34) ?hd (cs := #[.int .i64 a0_0, .string a0_1, .string a0_2, .slice A0_3 l0_3.length c0_3, .slice A0_4 l0_4.length c0_4, .bool a0_5]) ?hr ?_
        case hd => rfl
        case hg => rfl
        case hr => first | (go_simp; done) | (go_simp; rfl)
        intro g hg w3 hbox hb
        have HG_ := Aside0.mk hbox
        have HI_ := Aside0.mk (HI.out.below hb)
        have HO0_ := Aside0.mk (Kd.R_below HO0.out hb)
        rw [← HX.out] at hbox
        have HG := Aside0.mk hbox
        clear HG_ hg hHeld hb hbox HI
        have HI := HI_
        clear HI_
        clear HO0
        have HO0 := HO0_
        clear HO0_
        refine hK.out _ _ ⟨(blk_cell (HI.out).1 0).trans (by rw [HX.out]; rfl), (blk_cell (HI.out).1 1).trans (by rw [HX.out]; rfl), (blk_cell (HI.out).1 2).trans (by rw [HX.out]; rfl), (blk_cell (HI.out).1 3).trans (by rw [HX.out]; rfl), (blk_cell (HI.out).1 4).trans (by rw [HX.out]; rfl), (blk_cell (HI.out).1 5).trans (by rw [HX.out]; rfl)⟩ (fun hHeld => ?_)
        clear hK K
        refine norm_ (a' := ?_) ?_ ?_
        rotate_left
        · show Act.put _ (some 34) _ = _
          simp only [Act.put, List.setIfInBounds_toArray, List.set_cons_zero, List.set_cons_succ, i64_w, i32_w]
          rfl
        refine one_ (i := 4) (N := some 37) #[true, true, true, true, true, true, false, false, false, false] rfl rfl (by kernel_rfl) (by decide) (fun K hK => ?_)
        refine Kd.R_append_rows_step k58 (w0 := w) w.heap.size (by rfl) (.tmp 35) (.tmp 36) 32 58 (.agg #[(.int .i64 0), (.int .i64 0), (.int .i64 0), (.int .i64 0), (.string ⟨#[]⟩)]) 48 rfl Try.underlying32 info58 rfl (by decide) (by omega) _ [] l1 _ _ _ (fun _ => True) (fun _ => False) (by rfl) (by rfl) HO0.out (Kd.C_below HR1.out.1 HI.out.b) (fun _ _ h => h) (fun _ h => h.elim) (fun _ _ => trivial) HI.out.b (below_size HI.out.b) (by have := HLS.out; simp; omega) ?_
        intro va w3 ho hb hg hat
        rw [List.nil_append] at ho
        obtain ⟨Ao1, co1, eo1⟩ := Kd.R_slice ho
        subst eo1
        have HO1 := Aside0.mk ho
        have HI_ := Aside0.mk (HI.out.app HO0.out hb hg)
        have HG_ := Aside0.mk (blk_grown HG.out hg (Kd.R_ne HO0.out HG.out (by decide)))
        clear HG
        have HG := HG_
        clear HG_
        clear hHeld ho hb hg hat HI HO0
        have HI := HI_
        clear HI_
        refine hK.out _ _ ⟨(blk_cell (HI.out).1 0).trans (by rw [HX.out]; rfl), (blk_cell (HI.out).1 1).trans (by rw [HX.out]; rfl), (blk_cell (HI.out).1 2).trans (by rw [HX.out]; rfl), (blk_cell (HI.out).1 3).trans (by rw [HX.out]; rfl), (blk_cell (HI.out).1 4).trans (by rw [HX.out]; rfl), (blk_cell (HI.out).1 5).trans (by rw [HX.out]; rfl)⟩ (fun hHeld => ?_)
        clear hK K
        refine norm_ (a' := ?_) ?_ ?_
        rotate_left
        · show Act.put _ (some 37) _ = _
          simp only [Act.put, List.setIfInBounds_toArray, List.set_cons_zero, List.set_cons_succ, i64_w, i32_w]
          rfl
        refine one_ (i := 6) (N := some 39) #[true, true, true, true, true, true, true, false, false, false] rfl rfl (by kernel_rfl) (by decide) (fun K hK => ?_)
        refine Kd.R_append_rows_step k58 (w0 := w) w.heap.size (by rfl) (.tmp 37) (.tmp 38) 32 58 (.agg #[(.int .i64 0), (.int .i64 0), (.int .i64 0), (.int .i64 0), (.string ⟨#[]⟩)]) 48 rfl Try.underlying32 info58 rfl (by decide) (by omega) _ l1 l2 _ _ _ (fun _ => True) (fun _ => False) (by rfl) (by rfl) HO1.out (Kd.C_below HR2.out.1 HI.out.b) (fun _ _ h => h) (fun _ h => h.elim) (fun _ _ => trivial) HI.out.b (below_size HI.out.b) (by have := HLS.out; simp; omega) ?_
        intro va w3 ho hb hg hat
        obtain ⟨Ao2, co2, eo2⟩ := Kd.R_slice ho
        subst eo2
        have HO2 := Aside0.mk ho
        have HI_ := Aside0.mk (HI.out.app HO1.out hb hg)
        have HG_ := Aside0.mk (blk_grown HG.out hg (Kd.R_ne HO1.out HG.out (by decide)))
        clear HG
        have HG := HG_
        clear HG_
        clear hHeld ho hb hg hat HI HO1
        have HI := HI_
        clear HI_
        refine hK.out _ _ ⟨(blk_cell (HI.out).1 0).trans (by rw [HX.out]; rfl), (blk_cell (HI.out).1 1).trans (by rw [HX.out]; rfl), (blk_cell (HI.out).1 2).trans (by rw [HX.out]; rfl), (blk_cell (HI.out).1 3).trans (by rw [HX.out]; rfl), (blk_cell (HI.out).1 4).trans (by rw [HX.out]; rfl), (blk_cell (HI.out).1 5).trans (by rw [HX.out]; rfl)⟩ (fun hHeld => ?_)
        clear hK K
        refine norm_ (a' := ?_) ?_ ?_
        rotate_left
        · show Act.put _ (some 39) _ = _
          simp only [Act.put, List.setIfInBounds_toArray, List.set_cons_zero, List.set_cons_succ, i64_w, i32_w]
          rfl
        refine one_ (i := 7) (N := some 40) #[true, true, true, true, true, true, true, true, false, false] rfl rfl (by kernel_rfl) (by decide) (fun K hK => ?_)
        refine goes_ Try.func16 (by kernel_rfl) rfl #[.slice Ao2 (l1 ++ l2).length co2] (by rfl) rfl rfl (by simp only [List.map_toArray, List.map_cons, List.map_nil]; rfl) ?_
        with_reducible refine (quarrylaw19_its.calls k _ _ (l1 ++ l2) i2 _ (Kd.R_reads' HO2.out).2.2 (Kd.R_reads' HO2.out).2.1 HI2_.out).mono ?_
        rintro e w3 ⟨vi, rfl, ho, hb⟩
        refine ⟨_, rfl, ?_⟩
        have HT := Aside0.mk (Kd.R_lower ho (below_size HI.out.b))
        have HI_ := Aside0.mk (HI.out.below hb)
        have HG_ := Aside0.mk (blk_below HG.out hb)
        clear hHeld ho hb HI
        have HI := HI_
        clear HI_
        clear HG
        have HG := HG_
        clear HG_
        clear HO2
        refine hK.out _ _ ⟨(blk_cell (HI.out).1 0).trans (by rw [HX.out]; rfl), (blk_cell (HI.out).1 1).trans (by rw [HX.out]; rfl), (blk_cell (HI.out).1 2).trans (by rw [HX.out]; rfl), (blk_cell (HI.out).1 3).trans (by rw [HX.out]; rfl), (blk_cell (HI.out).1 4).trans (by rw [HX.out]; rfl), (blk_cell (HI.out).1 5).trans (by rw [HX.out]; rfl)⟩ (fun hHeld => ?_)
        clear hK K
        refine norm_ (a' := ?_) ?_ ?_
        rotate_left
        · show Act.put _ (some 40) _ = _
          simp only [Act.put, List.setIfInBounds_toArray, List.set_cons_zero, List.set_cons_succ, i64_w, i32_w]
          rfl
        exact norm_ (by first | (simp only [putAll, Act.put, List.setIfInBounds_toArray, List.set_cons_zero, List.set_cons_succ]; done) | (simp only [putAll, Act.put, List.setIfInBounds_toArray, List.set_cons_zero, List.set_cons_succ]; rfl)) (hCont ((_, _), _, _, _) _ ⟨HI.out, HG.out, HT.out⟩)
      · skip
        refine Kd.R_append_rows_step k58 (w0 := w) w.heap.size (by rfl) (.tmp 35) (.tmp 36) 32 58 (.agg #[(.int .i64 0), (.int .i64 0), (.int .i64 0), (.int .i64 0), (.string ⟨#[]⟩)]) 48 rfl Try.underlying32 info58 rfl (by decide) (by omega) _ [] l1 _ _ _ (fun _ => True) (fun _ => False) (by rfl) (by rfl) HO0.out (Kd.C_below HR1.out.1 HI.out.b) (fun _ _ h => h) (fun _ h => h.elim) (fun _ _ => trivial) HI.out.b (below_size HI.out.b) (by have := HLS.out; simp; omega) ?_
        intro va w3 ho hb hg hat
        rw [List.nil_append] at ho
        obtain ⟨Ao1, co1, eo1⟩ := Kd.R_slice ho
        subst eo1
        have HO1 := Aside0.mk ho
        have HI_ := Aside0.mk (HI.out.app HO0.out hb hg)
        clear hHeld ho hb hg hat HI HO0
        have HI := HI_
        clear HI_
        refine hK.out _ _ ⟨(blk_cell (HI.out).1 0).trans (by rw [HX.out]; rfl), (blk_cell (HI.out).1 1).trans (by rw [HX.out]; rfl), (blk_cell (HI.out).1 2).trans (by rw [HX.out]; rfl), (blk_cell (HI.out).1 3).trans (by rw [HX.out]; rfl), (blk_cell (HI.out).1 4).trans (by rw [HX.out]; rfl), (blk_cell (HI.out).1 5).trans (by rw [HX.out]; rfl)⟩ (fun hHeld => ?_)
        clear hK K
        refine norm_ (a' := ?_) ?_ ?_
        rotate_left
        · show Act.put _ (some 37) _ = _
          simp only [Act.put, List.setIfInBounds_toArray, List.set_cons_zero, List.set_cons_succ, i64_w, i32_w]
          rfl
        refine two_ (i := 1) (j := 6) (Ni := some 34) (Nj := some 39) #[true, true, true, true, true, true, false, false, false, false] #[true, false, true, true, true, true, true, false, false, false] rfl rfl rfl rfl (by kernel_rfl) (by decide) (by decide) (fun K hK => ?_) (fun K hK => ?_)
        · skip
          refine box41_step ?hg (N := 34) ?hd (cs := #[.int .i64 a0_0, .string a0_1, .string a0_2, .slice A0_3 l0_3.length c0_3, .slice A0_4 l0_4.length c0_4, .bool a0_5]) ?hr ?_
          case hd => rfl
          case hg => rfl
          case hr => first | (go_simp; done) | (go_simp; rfl)
          intro g hg w3 hbox hb
          have HG_ := Aside0.mk hbox
          have HI_ := Aside0.mk (HI.out.below hb)
          have HO1_ := Aside0.mk (Kd.R_below HO1.out hb)
          rw [← HX.out] at hbox
          have HG := Aside0.mk hbox
          clear HG_ hg hHeld hb hbox HI
          have HI := HI_
          clear HI_
          clear HO1
          have HO1 := HO1_
          clear HO1_
          refine hK.out _ _ ⟨(blk_cell (HI.out).1 0).trans (by rw [HX.out]; rfl), (blk_cell (HI.out).1 1).trans (by rw [HX.out]; rfl), (blk_cell (HI.out).1 2).trans (by rw [HX.out]; rfl), (blk_cell (HI.out).1 3).trans (by rw [HX.out]; rfl), (blk_cell (HI.out).1 4).trans (by rw [HX.out]; rfl), (blk_cell (HI.out).1 5).trans (by rw [HX.out]; rfl)⟩ (fun hHeld => ?_)
          clear hK K
          refine norm_ (a' := ?_) ?_ ?_
          rotate_left
          · show Act.put _ (some 34) _ = _
            simp only [Act.put, List.setIfInBounds_toArray, List.set_cons_zero, List.set_cons_succ, i64_w, i32_w]
            rfl
          refine one_ (i := 6) (N := some 39) #[true, true, true, true, true, true, true, false, false, false] rfl rfl (by kernel_rfl) (by decide) (fun K hK => ?_)
          refine Kd.R_append_rows_step k58 (w0 := w) w.heap.size (by rfl) (.tmp 37) (.tmp 38) 32 58 (.agg #[(.int .i64 0), (.int .i64 0), (.int .i64 0), (.int .i64 0), (.string ⟨#[]⟩)]) 48 rfl Try.underlying32 info58 rfl (by decide) (by omega) _ l1 l2 _ _ _ (fun _ => True) (fun _ => False) (by rfl) (by rfl) HO1.out (Kd.C_below HR2.out.1 HI.out.b) (fun _ _ h => h) (fun _ h => h.elim) (fun _ _ => trivial) HI.out.b (below_size HI.out.b) (by have := HLS.out; simp; omega) ?_
          intro va w3 ho hb hg hat
          obtain ⟨Ao2, co2, eo2⟩ := Kd.R_slice ho
          subst eo2
          have HO2 := Aside0.mk ho
          have HI_ := Aside0.mk (HI.out.app HO1.out hb hg)
          have HG_ := Aside0.mk (blk_grown HG.out hg (Kd.R_ne HO1.out HG.out (by decide)))
          clear HG
          have HG := HG_
          clear HG_
          clear hHeld ho hb hg hat HI HO1
          have HI := HI_
          clear HI_
          refine hK.out _ _ ⟨(blk_cell (HI.out).1 0).trans (by rw [HX.out]; rfl), (blk_cell (HI.out).1 1).trans (by rw [HX.out]; rfl), (blk_cell (HI.out).1 2).trans (by rw [HX.out]; rfl), (blk_cell (HI.out).1 3).trans (by rw [HX.out]; rfl), (blk_cell (HI.out).1 4).trans (by rw [HX.out]; rfl), (blk_cell (HI.out).1 5).trans (by rw [HX.out]; rfl)⟩ (fun hHeld => ?_)
          clear hK K
          refine norm_ (a' := ?_) ?_ ?_
          rotate_left
          · show Act.put _ (some 39) _ = _
            simp only [Act.put, List.setIfInBounds_toArray, List.set_cons_zero, List.set_cons_succ, i64_w, i32_w]
            rfl
          refine one_ (i := 7) (N := some 40) #[true, true, true, true, true, true, true, true, false, false] rfl rfl (by kernel_rfl) (by decide) (fun K hK => ?_)
          refine goes_ Try.func16 (by kernel_rfl) rfl #[.slice Ao2 (l1 ++ l2).length co2] (by rfl) rfl rfl (by simp only [List.map_toArray, List.map_cons, List.map_nil]; rfl) ?_
          with_reducible refine (quarrylaw19_its.calls k _ _ (l1 ++ l2) i2 _ (Kd.R_reads' HO2.out).2.2 (Kd.R_reads' HO2.out).2.1 HI2_.out).mono ?_
          rintro e w3 ⟨vi, rfl, ho, hb⟩
          refine ⟨_, rfl, ?_⟩
          have HT := Aside0.mk (Kd.R_lower ho (below_size HI.out.b))
          have HI_ := Aside0.mk (HI.out.below hb)
          have HG_ := Aside0.mk (blk_below HG.out hb)
          clear hHeld ho hb HI
          have HI := HI_
          clear HI_
          clear HG
          have HG := HG_
          clear HG_
          clear HO2
          refine hK.out _ _ ⟨(blk_cell (HI.out).1 0).trans (by rw [HX.out]; rfl), (blk_cell (HI.out).1 1).trans (by rw [HX.out]; rfl), (blk_cell (HI.out).1 2).trans (by rw [HX.out]; rfl), (blk_cell (HI.out).1 3).trans (by rw [HX.out]; rfl), (blk_cell (HI.out).1 4).trans (by rw [HX.out]; rfl), (blk_cell (HI.out).1 5).trans (by rw [HX.out]; rfl)⟩ (fun hHeld => ?_)
          clear hK K
          refine norm_ (a' := ?_) ?_ ?_
          rotate_left
          · show Act.put _ (some 40) _ = _
            simp only [Act.put, List.setIfInBounds_toArray, List.set_cons_zero, List.set_cons_succ, i64_w, i32_w]
            rfl
          exact norm_ (by first | (simp only [putAll, Act.put, List.setIfInBounds_toArray, List.set_cons_zero, List.set_cons_succ]; done) | (simp only [putAll, Act.put, List.setIfInBounds_toArray, List.set_cons_zero, List.set_cons_succ]; rfl)) (hCont ((_, _), _, _, _) _ ⟨HI.out, HG.out, HT.out⟩)
        · skip
          refine Kd.R_append_rows_step k58 (w0 := w) w.heap.size (by rfl) (.tmp 37) (.tmp 38) 32 58 (.agg #[(.int .i64 0), (.int .i64 0), (.int .i64 0), (.int .i64 0), (.string ⟨#[]⟩)]) 48 rfl Try.underlying32 info58 rfl (by decide) (by omega) _ l1 l2 _ _ _ (fun _ => True) (fun _ => False) (by rfl) (by rfl) HO1.out (Kd.C_below HR2.out.1 HI.out.b) (fun _ _ h => h) (fun _ h => h.elim) (fun _ _ => trivial) HI.out.b (below_size HI.out.b) (by have := HLS.out; simp; omega) ?_
          intro va w3 ho hb hg hat
          obtain ⟨Ao2, co2, eo2⟩ := Kd.R_slice ho
          subst eo2
          have HO2 := Aside0.mk ho
          have HI_ := Aside0.mk (HI.out.app HO1.out hb hg)
          clear hHeld ho hb hg hat HI HO1
          have HI := HI_
          clear HI_
          refine hK.out _ _ ⟨(blk_cell (HI.out).1 0).trans (by rw [HX.out]; rfl), (blk_cell (HI.out).1 1).trans (by rw [HX.out]; rfl), (blk_cell (HI.out).1 2).trans (by rw [HX.out]; rfl), (blk_cell (HI.out).1 3).trans (by rw [HX.out]; rfl), (blk_cell (HI.out).1 4).trans (by rw [HX.out]; rfl), (blk_cell (HI.out).1 5).trans (by rw [HX.out]; rfl)⟩ (fun hHeld => ?_)
          clear hK K
          refine norm_ (a' := ?_) ?_ ?_
          rotate_left
          · show Act.put _ (some 39) _ = _
            simp only [Act.put, List.setIfInBounds_toArray, List.set_cons_zero, List.set_cons_succ, i64_w, i32_w]
            rfl
          refine two_ (i := 1) (j := 7) (Ni := some 34) (Nj := some 40) #[true, true, true, true, true, true, true, false, false, false] #[true, false, true, true, true, true, true, true, false, false] rfl rfl rfl rfl (by kernel_rfl) (by decide) (by decide) (fun K hK => ?_) (fun K hK => ?_)
          · skip
            refine box41_step ?hg (N := 34) ?hd (cs := #[.int .i64 a0_0, .string a0_1, .string a0_2, .slice A0_3 l0_3.length c0_3, .slice A0_4 l0_4.length c0_4, .bool a0_5]) ?hr ?_
            case hd => rfl
            case hg => rfl
            case hr => first | (go_simp; done) | (go_simp; rfl)
            intro g hg w3 hbox hb
            have HG_ := Aside0.mk hbox
            have HI_ := Aside0.mk (HI.out.below hb)
            have HO2_ := Aside0.mk (Kd.R_below HO2.out hb)
            rw [← HX.out] at hbox
            have HG := Aside0.mk hbox
            clear HG_ hg hHeld hb hbox HI
            have HI := HI_
            clear HI_
            clear HO2
            have HO2 := HO2_
            clear HO2_
            refine hK.out _ _ ⟨(blk_cell (HI.out).1 0).trans (by rw [HX.out]; rfl), (blk_cell (HI.out).1 1).trans (by rw [HX.out]; rfl), (blk_cell (HI.out).1 2).trans (by rw [HX.out]; rfl), (blk_cell (HI.out).1 3).trans (by rw [HX.out]; rfl), (blk_cell (HI.out).1 4).trans (by rw [HX.out]; rfl), (blk_cell (HI.out).1 5).trans (by rw [HX.out]; rfl)⟩ (fun hHeld => ?_)
            clear hK K
            refine norm_ (a' := ?_) ?_ ?_
            rotate_left
            · show Act.put _ (some 34) _ = _
              simp only [Act.put, List.setIfInBounds_toArray, List.set_cons_zero, List.set_cons_succ, i64_w, i32_w]
              rfl
            refine one_ (i := 7) (N := some 40) #[true, true, true, true, true, true, true, true, false, false] rfl rfl (by kernel_rfl) (by decide) (fun K hK => ?_)
            refine goes_ Try.func16 (by kernel_rfl) rfl #[.slice Ao2 (l1 ++ l2).length co2] (by rfl) rfl rfl (by simp only [List.map_toArray, List.map_cons, List.map_nil]; rfl) ?_
            with_reducible refine (quarrylaw19_its.calls k _ _ (l1 ++ l2) i2 _ (Kd.R_reads' HO2.out).2.2 (Kd.R_reads' HO2.out).2.1 HI2_.out).mono ?_
            rintro e w3 ⟨vi, rfl, ho, hb⟩
            refine ⟨_, rfl, ?_⟩
            have HT := Aside0.mk (Kd.R_lower ho (below_size HI.out.b))
            have HI_ := Aside0.mk (HI.out.below hb)
            have HG_ := Aside0.mk (blk_below HG.out hb)
            clear hHeld ho hb HI
            have HI := HI_
            clear HI_
            clear HG
            have HG := HG_
            clear HG_
            clear HO2
            refine hK.out _ _ ⟨(blk_cell (HI.out).1 0).trans (by rw [HX.out]; rfl), (blk_cell (HI.out).1 1).trans (by rw [HX.out]; rfl), (blk_cell (HI.out).1 2).trans (by rw [HX.out]; rfl), (blk_cell (HI.out).1 3).trans (by rw [HX.out]; rfl), (blk_cell (HI.out).1 4).trans (by rw [HX.out]; rfl), (blk_cell (HI.out).1 5).trans (by rw [HX.out]; rfl)⟩ (fun hHeld => ?_)
            clear hK K
            refine norm_ (a' := ?_) ?_ ?_
            rotate_left
            · show Act.put _ (some 40) _ = _
              simp only [Act.put, List.setIfInBounds_toArray, List.set_cons_zero, List.set_cons_succ, i64_w, i32_w]
              rfl
            exact norm_ (by first | (simp only [putAll, Act.put, List.setIfInBounds_toArray, List.set_cons_zero, List.set_cons_succ]; done) | (simp only [putAll, Act.put, List.setIfInBounds_toArray, List.set_cons_zero, List.set_cons_succ]; rfl)) (hCont ((_, _), _, _, _) _ ⟨HI.out, HG.out, HT.out⟩)
          · skip
            refine goes_ Try.func16 (by kernel_rfl) rfl #[.slice Ao2 (l1 ++ l2).length co2] (by rfl) rfl rfl (by simp only [List.map_toArray, List.map_cons, List.map_nil]; rfl) ?_
            with_reducible refine (quarrylaw19_its.calls k _ _ (l1 ++ l2) i2 _ (Kd.R_reads' HO2.out).2.2 (Kd.R_reads' HO2.out).2.1 HI2_.out).mono ?_
            rintro e w3 ⟨vi, rfl, ho, hb⟩
            refine ⟨_, rfl, ?_⟩
            have HT := Aside0.mk (Kd.R_lower ho (below_size HI.out.b))
            have HI_ := Aside0.mk (HI.out.below hb)
            clear hHeld ho hb HI
            have HI := HI_
            clear HI_
            clear HO2
            refine hK.out _ _ ⟨(blk_cell (HI.out).1 0).trans (by rw [HX.out]; rfl), (blk_cell (HI.out).1 1).trans (by rw [HX.out]; rfl), (blk_cell (HI.out).1 2).trans (by rw [HX.out]; rfl), (blk_cell (HI.out).1 3).trans (by rw [HX.out]; rfl), (blk_cell (HI.out).1 4).trans (by rw [HX.out]; rfl), (blk_cell (HI.out).1 5).trans (by rw [HX.out]; rfl)⟩ (fun hHeld => ?_)
            clear hK K
            refine norm_ (a' := ?_) ?_ ?_
            rotate_left
            · show Act.put _ (some 40) _ = _
              simp only [Act.put, List.setIfInBounds_toArray, List.set_cons_zero, List.set_cons_succ, i64_w, i32_w]
              rfl
            refine one_ (i := 1) (N := some 34) #[true, true, true, true, true, true, true, true, false, false] rfl rfl (by kernel_rfl) (by decide) (fun K hK => ?_)
            refine box41_step ?hg (N := 34) ?hd (cs := #[.int .i64 a0_0, .string a0_1, .string a0_2, .slice A0_3 l0_3.length c0_3, .slice A0_4 l0_4.length c0_4, .bool a0_5]) ?hr ?_
            case hd => rfl
            case hg => rfl
            case hr => first | (go_simp; done) | (go_simp; rfl)
            intro g hg w3 hbox hb
            have HG_ := Aside0.mk hbox
            have HI_ := Aside0.mk (HI.out.below hb)
            have HT_ := Aside0.mk (Kd.R_below HT.out hb)
            rw [← HX.out] at hbox
            have HG := Aside0.mk hbox
            clear HG_ hg hHeld hb hbox HI
            have HI := HI_
            clear HI_
            clear HT
            have HT := HT_
            clear HT_
            refine hK.out _ _ ⟨(blk_cell (HI.out).1 0).trans (by rw [HX.out]; rfl), (blk_cell (HI.out).1 1).trans (by rw [HX.out]; rfl), (blk_cell (HI.out).1 2).trans (by rw [HX.out]; rfl), (blk_cell (HI.out).1 3).trans (by rw [HX.out]; rfl), (blk_cell (HI.out).1 4).trans (by rw [HX.out]; rfl), (blk_cell (HI.out).1 5).trans (by rw [HX.out]; rfl)⟩ (fun hHeld => ?_)
            clear hK K
            refine norm_ (a' := ?_) ?_ ?_
            rotate_left
            · show Act.put _ (some 34) _ = _
              simp only [Act.put, List.setIfInBounds_toArray, List.set_cons_zero, List.set_cons_succ, i64_w, i32_w]
              rfl
            exact norm_ (by first | (simp only [putAll, Act.put, List.setIfInBounds_toArray, List.set_cons_zero, List.set_cons_succ]; done) | (simp only [putAll, Act.put, List.setIfInBounds_toArray, List.set_cons_zero, List.set_cons_succ]; rfl)) (hCont ((_, _), _, _, _) _ ⟨HI.out, HG.out, HT.out⟩)
  rintro ⟨⟨g, vi⟩, v35, v37, v39⟩ w5 hJ
  have HJ := Aside0.mk hJ
  clear hJ HI
  have HI := Aside0.mk HJ.out.1
  have HG := Aside0.mk HJ.out.2.1
  have HT := Aside0.mk HJ.out.2.2
  clear HJ
  obtain ⟨Ai, ci, ei⟩ := Kd.R_slice HT.out
  simp only at ei
  subst ei
  have hHeld : w5.cell? ⟨w.heap.size, 0, none⟩ = some (.int .i64 a0_0) ∧ w5.cell? ⟨w.heap.size, 1, none⟩ = some (.string a0_1) ∧ w5.cell? ⟨w.heap.size, 2, none⟩ = some (.string a0_2) ∧ w5.cell? ⟨w.heap.size, 3, none⟩ = some (.slice A0_3 l0_3.length c0_3) ∧ w5.cell? ⟨w.heap.size, 4, none⟩ = some (.slice A0_4 l0_4.length c0_4) ∧ w5.cell? ⟨w.heap.size, 5, none⟩ = some (.bool a0_5) := ⟨(blk_cell (HI.out).1 0).trans (by rw [HX.out]; rfl), (blk_cell (HI.out).1 1).trans (by rw [HX.out]; rfl), (blk_cell (HI.out).1 2).trans (by rw [HX.out]; rfl), (blk_cell (HI.out).1 3).trans (by rw [HX.out]; rfl), (blk_cell (HI.out).1 4).trans (by rw [HX.out]; rfl), (blk_cell (HI.out).1 5).trans (by rw [HX.out]; rfl)⟩
  refine norm_ (a' := ?_) ?_ ?_
  rotate_left
  · simp only [putAll, Act.put, List.setIfInBounds_toArray, List.set_cons_zero, List.set_cons_succ]
    rfl
  refine last_ (i := 8) (N := some 41) #[true, true, true, true, true, true, true, true, true, false] rfl rfl (by kernel_rfl) (by decide) (fun K hK => ?_)
  refine goes_ Try.func18 (by kernel_rfl) rfl #[.slice (some ⟨g, 0, none⟩) [(⟨a0_0, a0_1, a0_2, l0_3, l0_4, a0_5⟩ : S41)].length 1, .slice Ai i2.length ci] (by rfl) rfl rfl (by simp only [List.map_toArray, List.map_cons, List.map_nil]; rfl) ?_
  with_reducible refine (bounds_Best.calls k _ 1 [(⟨a0_0, a0_1, a0_2, l0_3, l0_4, a0_5⟩ : S41)] _ ci i2 m _ (one41 (x := (⟨a0_0, a0_1, a0_2, l0_3, l0_4, a0_5⟩ : S41)) (by have := HG.out; rw [HX.out] at this; exact this) HR3.out.2 (Kd.C_below HR3.out.1 HI.out.b) HR4.out.2 (Kd.C_below HR4.out.1 HI.out.b)) (Nat.le_refl _) (Kd.R_reads' HT.out).2.2 (Kd.R_reads' HT.out).2.1 HM.out).mono ?_
  rintro e w7 ⟨rfl, hb⟩
  refine ⟨_, rfl, ?_⟩
  have HI_ := Aside0.mk (HI.out.below hb)
  clear hb hHeld HT HG HI
  have HI := HI_
  clear HI_
  refine hK.out _ _ ?_
  clear hK K
  refine norm_ (a' := ?_) ?_ ?_
  rotate_left
  · show Act.put _ (some 41) _ = _
    simp only [Act.put, List.setIfInBounds_toArray, List.set_cons_zero, List.set_cons_succ, i64_w, i32_w]
    rfl
  refine pure_ (i := 9) (N := some 8) (v := ?_) (a' := ?_) #[true, true, true, true, true, true, true, true, true, true] rfl rfl (by kernel_rfl) (fun _ _ _ h => h) (Or.inl ⟨by rfl, ?_⟩) ?_ ?_
  rotate_left
  · intro w'
    go_simp
    with_reducible rfl
  rotate_left
  · simp only [Act.put, List.setIfInBounds_toArray, List.set_cons_zero, List.set_cons_succ, i64_w, i32_w]
    rfl
  refine done_ (by kernel_rfl) ?_
  cases c1_ : decide (n < 0) with
  | true =>
    go_wp2
    go_ret
    exact ⟨by simp [of_decide_eq_true c1_], HI.out.b⟩
  | false =>
    go_wp2
    go_ret
    exact ⟨by simp [of_decide_eq_false c1_], HI.out.b⟩
theorem quarrylaw19_BoundsMore.calls (k : Nat) (a0_0 : Int) (a0_1 : ByteArray) (a0_2 : ByteArray) (A0_3 : Option Addr) (c0_3 : Nat) (l0_3 : List Int) (A0_4 : Option Addr) (c0_4 : Nat) (l0_4 : List Bool) (a0_5 : Bool) (A1 : Option Addr) (c1 : Nat) (l1 : List (S58)) (A2 : Option Addr) (c2 : Nat) (l2 : List (S58)) (r : Bool) (w : World) (hr0_3 : Kd.C (Kd.int .i64) w A0_3 l0_3.length l0_3) (hc0_3 : l0_3.length ≤ c0_3) (hr0_4 : Kd.C Kd.bool w A0_4 l0_4.length l0_4) (hc0_4 : l0_4.length ≤ c0_4) (hr1 : Kd.C k58 w A1 l1.length l1) (hc1 : l1.length ≤ c1) (hr2 : Kd.C k58 w A2 l2.length l2) (hc2 : l2.length ≤ c2) (h : quarrylaw19_BoundsMore.f k a0_0 a0_1 a0_2 l0_3 l0_4 a0_5 l1 l2 = some r) :
    Calls Try.prog 7 #[.agg #[.int .i64 a0_0, .string a0_1, .string a0_2, .slice A0_3 l0_3.length c0_3, .slice A0_4 l0_4.length c0_4, .bool a0_5], .slice A1 l1.length c1, .slice A2 l2.length c2] w fun e w' => e = .returned (.bool r) ∧ Below w.heap.size w w' := by
  unfold quarrylaw19_BoundsMore.f at h
  replace h := Option.bind_eq_some_iff.mp h
  obtain ⟨t, hw, h⟩ := h
  cases t with
  | false => simp at h
  | true =>
  rw [if_pos rfl] at h
  replace h := Option.bind_eq_some_iff.mp h
  obtain ⟨b1, h1, h⟩ := h
  cases b1 with
  | false =>
    simp at h
    subst h
    exact quarrylaw19_BoundsMore.r1 k a0_0 a0_1 a0_2 A0_3 c0_3 l0_3 A0_4 c0_4 l0_4 a0_5 A1 c1 l1 A2 c2 l2 w hr0_3 hc0_3 hr0_4 hc0_4 hr1 hc1 hr2 hc2 hw h1
  | true =>
  rw [if_pos rfl] at h
  replace h := Option.bind_eq_some_iff.mp h
  obtain ⟨b2, h2, h⟩ := h
  cases b2 with
  | false =>
    simp at h
    subst h
    exact quarrylaw19_BoundsMore.r2 k a0_0 a0_1 a0_2 A0_3 c0_3 l0_3 A0_4 c0_4 l0_4 a0_5 A1 c1 l1 A2 c2 l2 w hr0_3 hc0_3 hr0_4 hc0_4 hr1 hc1 hr2 hc2 hw h1 h2
  | true =>
  rw [if_pos rfl] at h
  by_cases hle : l0_4.length = l0_3.length
  case neg =>
    rw [if_neg hle] at h
    obtain rfl := Option.some.inj h
    exact quarrylaw19_BoundsMore.len k a0_0 a0_1 a0_2 A0_3 c0_3 l0_3 A0_4 c0_4 l0_4 a0_5 A1 c1 l1 A2 c2 l2 w hr0_3 hc0_3 hr0_4 hc0_4 hr1 hc1 hr2 hc2 hw h1 h2 hle
  rw [if_pos hle] at h
  replace h := Option.bind_eq_some_iff.mp h
  obtain ⟨i1, hi1, h⟩ := h
  replace h := Option.bind_eq_some_iff.mp h
  obtain ⟨n, hn, h⟩ := h
  by_cases hls : l1.length + l2.length < 2932031007402
  case neg => rw [if_neg hls] at h; cases h
  rw [if_pos hls] at h
  replace h := Option.bind_eq_some_iff.mp h
  obtain ⟨i2, hi2, h⟩ := h
  replace h := Option.bind_eq_some_iff.mp h
  obtain ⟨m, hm, h⟩ := h
  obtain rfl := Option.some.inj h
  exact quarrylaw19_BoundsMore.full k a0_0 a0_1 a0_2 A0_3 c0_3 l0_3 A0_4 c0_4 l0_4 a0_5 A1 c1 l1 A2 c2 l2 w hr0_3 hc0_3 hr0_4 hc0_4 hr1 hc1 hr2 hc2 hw h1 h2 hle i1 i2 n m hi1 hn hls hi2 hm
end Go.Proofs.Ytmfenomjhmhogaa.P
end
section
namespace Go.Proofs.Ytmfenomjhmhogaa.Pure
set_option linter.unusedVariables false
set_option linter.unusedSimpArgs false
open Go.RowKit Go.Proofs.Ytmfenomjhmhogaa.P Go.Proofs.YtmfenomjhmhogaaW.PrintWords Go.Proofs.YtmfenomjhmhogaaW.PrintLast Go.Proofs.YtmfenomjhmhogaaW.PrintMore
def cmpI (a b : Int) : Int := if a < b then -1 else if b < a then 1 else 0
theorem rd_at (pre : List S25) (x : S25) (suf : List S25) : rd_T25 (pre ++ x :: suf) (pre.length : Int) = x := by
  unfold rd_T25
  simp
theorem bt_at' (s : ByteArray) (pre : List UInt8) (c : UInt8) (suf : List UInt8) (h : s.data.toList = pre ++ c :: suf) : bt s (pre.length : Int) = (c.toNat : Int) := by
  unfold bt
  have hl : s.size = pre.length + (suf.length + 1) := by
    have : s.size = s.data.toList.length := by rw [Array.length_toList]; rfl
    rw [this, h]; simp
  have hi : (pre.length : Int).toNat < s.size := by omega
  rw [dif_pos hi]
  have e : s[(pre.length : Int).toNat] = s.data.toList[(pre.length : Int).toNat]'(by rw [Array.length_toList]; exact hi) := by
    rw [Array.getElem_toList]; rfl
  rw [e]
  have : s.data.toList[(pre.length : Int).toNat]'(by rw [Array.length_toList]; exact hi) = c := by
    rw [List.getElem_of_eq h]
    simp
  rw [this]
end Go.Proofs.Ytmfenomjhmhogaa.Pure
end
section
namespace Go.Proofs.Ytmfenomjhmhogaa.Pure
set_option linter.unusedVariables false
set_option linter.unusedSimpArgs false
open Go.RowKit Go.Proofs.Ytmfenomjhmhogaa.P Go.Proofs.YtmfenomjhmhogaaW.PrintWords Go.Proofs.YtmfenomjhmhogaaW.PrintLast Go.Proofs.YtmfenomjhmhogaaW.PrintMore
def BytesIn (l : List Int) : Prop := ∀ x ∈ l, 0 ≤ x ∧ x ≤ 255
def Diff (p q : List Int) (c : Int) : Prop := (c = 0 ∧ p = q) ∨ (c ≠ 0 ∧ ∃ u a b p' q', p = u ++ a :: p' ∧ q = u ++ b :: q' ∧ c = cmpI a b)
theorem Diff.refl (p : List Int) : Diff p p 0 := .inl ⟨rfl, rfl⟩
theorem Diff.cons (a : Int) {p q : List Int} {c : Int} (h : Diff p q c) : Diff (a :: p) (a :: q) c := by
  rcases h with ⟨rfl, rfl⟩ | ⟨hc, u, x, y, p', q', rfl, rfl, h⟩
  · exact .inl ⟨rfl, rfl⟩
  · exact .inr ⟨hc, a :: u, x, y, p', q', rfl, rfl, h⟩
def flipL (l : List Int) : List Int := l.map (255 - ·)
theorem flipL_length (l : List Int) : (flipL l).length = l.length := by simp [flipL]
def esc : List UInt8 → List Int
  | [] => []
  | c :: l => if c = 0 then 0 :: 255 :: esc l else (c.toNat : Int) :: esc l
def be : Nat → Int → List Int
  | 0, _ => []
  | k + 1, n => (n / 256 ^ k) % 256 :: be k n
def payload (x : S25) : List Int := if x.f0 = 1 then [x.f1 % 256] else if x.f0 = 2 then be 8 (x.f1 + 9223372036854775808) else if x.f0 = 3 ∨ x.f0 = 4 then esc x.f2.data.toList ++ [0, 1] else []
def encB (x : S25) : List Int := (x.f0 + 1) % 256 :: payload x
def turnB (b : Bool) (l : List Int) : List Int := if b = true then flipL l else l
def chk (x : S25) : Int := chkV x.f0 x.f1 x.f2
def encE : List Bool → List S25 → Option (List Int)
  | _, [] => some []
  | d, x :: l => if chk x = 0 then (encE d.tail l).map (turnB (d.headD false) (encB x) ++ ·) else none
def encR (d : List Bool) (l : List S25) : List Int × Int := match encE d l with | none => ([], 3) | some b => (b, 0)
def room (l : List S25) : Nat := (l.map fun x => 2 * x.f2.size + 12).sum
def okV (x : S25) : Prop := I64 x.f0 ∧ I64 x.f1 ∧ x.f2.size ≤ 140737488351232
theorem be_length (k : Nat) (n : Int) : (be k n).length = k := by
  induction k with
  | zero => rfl
  | succ k ih => simp [be, ih]
theorem esc_length (l : List UInt8) : (esc l).length ≤ 2 * l.length := by
  induction l with
  | nil => simp [esc]
  | cons c l ih => unfold esc; split <;> simp <;> omega
theorem size_toList (s : ByteArray) : s.size = s.data.toList.length := by rw [Array.length_toList]; rfl
theorem encB_length (x : S25) : (encB x).length ≤ 2 * x.f2.size + 11 := by
  unfold encB payload
  have h := esc_length x.f2.data.toList
  rw [← size_toList] at h
  split
  · simp
  split
  · simp [be_length]
  split
  · simp; omega
  · simp
theorem turnB_length (b : Bool) (l : List Int) : (turnB b l).length = l.length := by unfold turnB; split <;> simp [flipL]
theorem encE_length : ∀ (l : List S25) (d : List Bool) {b : List Int}, encE d l = some b → b.length ≤ room l
  | [], d, b, h => by simp only [encE, Option.some.injEq] at h; subst h; simp
  | x :: l, d, b, h => by
    unfold encE at h
    split at h
    · obtain ⟨b', hb, rfl⟩ := Option.map_eq_some_iff.1 h
      have := encE_length l _ hb
      have h2 := encB_length x
      simp [room, turnB_length] at this ⊢
      omega
    · cases h
theorem be_range (k : Nat) (n : Int) : ∀ x ∈ be k n, 0 ≤ x ∧ x ≤ 255 := by
  induction k with
  | zero => intro x hx; simp [be] at hx
  | succ k ih =>
    intro x hx
    simp only [be, List.mem_cons] at hx
    rcases hx with rfl | hx
    · omega
    · exact ih x hx
theorem esc_range (l : List UInt8) : ∀ x ∈ esc l, 0 ≤ x ∧ x ≤ 255 := by
  induction l with
  | nil => intro x hx; simp [esc] at hx
  | cons c l ih =>
    intro x hx
    unfold esc at hx
    have hc := c.toNat_lt
    split at hx
    · simp only [List.mem_cons] at hx
      rcases hx with rfl | rfl | hx
      · omega
      · omega
      · exact ih x hx
    · simp only [List.mem_cons] at hx
      rcases hx with rfl | hx
      · omega
      · exact ih x hx
theorem payload_range (x : S25) : BytesIn (payload x) := by
  unfold payload
  intro y hy
  split at hy
  · simp at hy; omega
  split at hy
  · exact be_range _ _ y hy
  split at hy
  · simp only [List.mem_append, List.mem_cons, List.not_mem_nil, or_false] at hy
    rcases hy with hy | rfl | rfl
    · exact esc_range _ y hy
    · omega
    · omega
  · simp at hy
theorem encB_range (x : S25) : BytesIn (encB x) := by
  intro y hy
  simp only [encB, List.mem_cons] at hy
  rcases hy with rfl | hy
  · omega
  · exact payload_range x y hy
theorem chk_kind {x : S25} (h : chk x = 0) : 0 ≤ x.f0 ∧ x.f0 ≤ 4 := by
  unfold chk chkV at h
  by_cases h0 : x.f0 = 0
  · omega
  by_cases h1 : x.f0 = 1
  · omega
  by_cases h2 : x.f0 = 2
  · omega
  by_cases h3 : x.f0 = 3 ∨ x.f0 = 4
  · omega
  · simp [h0, h1, h2, h3] at h
end Go.Proofs.Ytmfenomjhmhogaa.Pure
end

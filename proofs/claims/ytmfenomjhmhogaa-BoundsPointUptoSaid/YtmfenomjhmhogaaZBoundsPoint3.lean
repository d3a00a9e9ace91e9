/- Laid by a program of this session out of its texts for the law BoundsPoint, part 3. -/
import Derived.Test.YtmfenomjhmhogaaZBoundsPoint2
section
namespace Go.Proofs.Ytmfenomjhmhogaa.P
open Go.RowKit Go.Proofs.YtmfenomjhmhogaaW.PrintWords Go.Proofs.YtmfenomjhmhogaaW.PrintLast Go.Proofs.YtmfenomjhmhogaaW.PrintMore
attribute [local go_sem] max2_int min2_int max_two min_two max_three min_three max_four min_four
set_option linter.unusedVariables false
set_option linter.unusedSimpArgs false
def slices_Clone_byte_byte.f (l0 : List Int) : Option (List Int) := if l0.length < 140737488355328 then some l0 else none
set_option maxHeartbeats 2000000 in
set_option maxRecDepth 100000 in
theorem slices_Clone_byte_byte.calls (A0 : Option Addr) (c0 : Nat) (l0 : List Int) (r : List Int) (w : World) (hr0 : Kd.C (Kd.int .u8) w A0 l0.length l0) (hc0 : l0.length ≤ c0) (h : slices_Clone_byte_byte.f l0 = some r) :
  Calls Try.prog 55 #[.slice A0 l0.length c0] w fun e w' => ∃ v0_ : Value, e = .returned v0_ ∧ Kd.R (Kd.int .u8) 5 w' w.heap.size (fun _ => True) v0_ r ∧ Below w.heap.size w w' := by
 unfold slices_Clone_byte_byte.f at h
 by_cases hl : l0.length < 140737488355328
 case neg => rw [if_neg hl] at h; cases h
 rw [if_pos hl] at h
 obtain rfl := Option.some.inj h
 have HR0 := Aside0.mk hr0
 have HC0 := Aside0.mk hc0
 have LM := Aside0.mk hl
 have HB := Aside0.mk (Below.refl w.heap.size w)
 have hnil := fun (W : World) => Lib.run_eql_slice_nil (P := Try.prog) W 44 5 A0 l0.length c0 0 0 Try.underlying44
 cases A0 with
 | none =>
  have hz : l0 = [] := by
   have h1 := Kd.reads_of_C (enc := Value.int .u8) (d := (0 : Int)) (h1 := fun _ => rfl) hr0
   cases l0 with
   | nil => rfl
   | cons x t => obtain ⟨ad, he, _⟩ := h1.2.2 (by simp); cases he
  subst hz
  have hnil1 : ∀ W : World, (binOp .eql 44 (.slice none 0 c0) (.slice none 0 0)).run Try.prog W = .ok (.bool true) W := fun W => hnil W
  clear hr0 hc0 hl h hnil
  go_enter Try.func55, Try.ntmps55
  go_wp2
  go_ret
  exact ⟨_, rfl, Kd.R_nil _ _ _ _ _, Below.refl _ _⟩
 | some ad =>
  have hnil1 : ∀ W : World, (binOp .eql 44 (.slice (some ad) l0.length c0) (.slice none 0 0)).run Try.prog W = .ok (.bool false) W := fun W => hnil W
  clear hr0 hc0 hl h hnil
  go_enter Try.func55, Try.ntmps55
  go_wp2_with (first | ((with_reducible refine gate_dst (N := 5) rfl ?_); refine Kd.R_lit (Kd.int .u8) _ 5 ?hg (N := 5) ?hd (xs := ([] : List Int)) (inner := []) (ok := fun _ => True) (okp := fun _ => True) ?hr ?hp (fun _ hk => hk) trivial (Below.refl _ _) (Nat.le_refl _) (by simp) ?_; (case hd => rfl); (case hg => rfl); (case hr => first | (go_simp; done) | (go_simp; rfl)); (case hp => exact (Reps.none _ _)); intro v249 w13 ho14 hb hg_ hnew_; clear hg_ hnew_; have n0_ := Aside0.mk (Kd.R_lower ho14 (below_size HB.out)); have n1_ := Aside0.mk (below_step HB.out hb); clear HB; have HO := n0_; have HB := n1_; clear n0_ n1_; clear hb ho14) | ((with_reducible refine gate_builtin (b := .append) (xs := #[.tmp 5, .tmp 6]) rfl ?_); at_builtin; refine Kd.R_append_rows (Kd.int .u8) (w0 := w) w.heap.size rfl (.tmp 5) (.tmp 6) 44 5 (.int .u8 0) 1 rfl Try.underlying44 info5 rfl (by decide) (by omega) v249 [] l0 _ _ _ (fun _ => True) (fun _ => False) rfl rfl ?aO ?aR (fun _ _ h => h) (fun _ h => h.elim) ?aF ?aB ?aS ?aL ?_; (case aR => exact Kd.C_below HR0.out HB.out); (case aB => exact HB.out); (case aF => exact (fun _ _ => trivial)); (case aO => exact HO.out); (case aS => exact below_size HB.out); (case aL => have := LM.out; simp; omega); intro v253 w16 ho hb hg hat; rw [List.nil_append] at ho; have n0_ := Aside0.mk hb; have n1_ := Aside0.mk ho; clear HB; clear HO; have HB := n0_; have HO254 := n1_; clear n0_ n1_; clear ho hb hg hat))
  go_ret
  exact ⟨_, rfl, HO254.out, HB.out⟩
def keys_Next.l0 : Nat → List Int → Int → Option (List Int × Bool)
 | 0, _, _ => none
 | k + 1, x0, x4 => if x4 > 0 then (if 0 ≤ (wrap64 (x4 - 1)) then (if (wrap64 (x4 - 1)) < (x0.length : Int) then (if (rd x0 (wrap64 (x4 - 1))) = 255 then (keys_Next.l0 k x0 (wrap64 (x4 - 1))) else (if x4 = 0 then (some (([] : List Int), false)) else (if 0 ≤ x4 then (if x4 ≤ (x0.length : Int) then ((slices_Clone_byte_byte.f (x0.take (x4 : Int).toNat)).bind fun t221 => (if (wrap64 (x4 - 1)) < (t221.length : Int) then (some ((t221.set ((wrap64 (x4 - 1)) : Int).toNat (((rd t221 (wrap64 (x4 - 1))) + 1) % 256)), true)) else (none))) else (none)) else (none)))) else (none)) else (none)) else (if x4 = 0 then (some (([] : List Int), false)) else (if 0 ≤ x4 then (if x4 ≤ (x0.length : Int) then ((slices_Clone_byte_byte.f (x0.take (x4 : Int).toNat)).bind fun t227 => (if 0 ≤ (wrap64 (x4 - 1)) then (if (wrap64 (x4 - 1)) < (t227.length : Int) then (some ((t227.set ((wrap64 (x4 - 1)) : Int).toNat (((rd t227 (wrap64 (x4 - 1))) + 1) % 256)), true)) else (none)) else (none))) else (none)) else (none)))
def keys_Next.f (k : Nat) (l0 : List Int) : Option (List Int × Bool) := keys_Next.l0 k l0 (l0.length : Int)
theorem keys_Next.mono_l : ∀ k, (∀ y0 y1, LeO (keys_Next.l0 k y0 y1) (keys_Next.l0 (k + 1) y0 y1))
 | 0 => fun _ _ r h => by simp [keys_Next.l0] at h
 | k + 1 => by
  have ih0 := keys_Next.mono_l k
  ·intro y0 y1
   unfold keys_Next.l0
   repeat' first
   | (with_reducible exact ih0 _ _)
   | (with_reducible exact LeO.refl _)
   | (with_reducible exact LeO.none _)
   | (with_reducible refine LeO.ite ?_ ?_)
   | (with_reducible refine LeO.bind ?_ (fun _ => ?_))
   | exact ih0 _ _
   | exact LeO.none _
   | refine LeO.ite ?_ ?_
   | refine LeO.bind ?_ (fun _ => ?_)
theorem keys_Next.mono : ∀ a0 k, LeO (keys_Next.f k a0) (keys_Next.f (k + 1) a0) := by
 intro a0 k
 have ih0 := keys_Next.mono_l k
 unfold keys_Next.f
 repeat' first
   | (with_reducible exact ih0 _ _)
   | (with_reducible exact LeO.refl _)
   | (with_reducible exact LeO.none _)
   | (with_reducible refine LeO.ite ?_ ?_)
   | (with_reducible refine LeO.bind ?_ (fun _ => ?_))
   | exact ih0 _ _
   | exact LeO.none _
   | refine LeO.ite ?_ ?_
   | refine LeO.bind ?_ (fun _ => ?_)
set_option maxHeartbeats 8000000 in
set_option maxRecDepth 100000 in
theorem keys_Next.calls (k : Nat) (A0 : Option Addr) (c0 : Nat) (l0 : List Int) (r1 : List Int) (r2 : Bool) (w : World) (hr0 : Kd.C (Kd.int .u8) w A0 l0.length l0) (hc0 : l0.length ≤ c0) (h : keys_Next.f k l0 = some (r1, r2)) :
  Calls Try.prog 35 #[.slice A0 l0.length c0] w fun e w' => ∃ v0_ : Value, e = .returned (.tuple #[v0_, .bool r2]) ∧ Kd.R (Kd.int .u8) 5 w' w.heap.size (fun _ => True) v0_ r1 ∧ Below w.heap.size w w' := by
 have HR0 := Aside0.mk hr0
 have HC0 := Aside0.mk hc0
 clear hr0 hc0
 have HB := Aside0.mk (Below.refl w.heap.size w)
 have H : (keys_Next.l0 k l0 (l0.length : Int)) = some (r1, r2) := h
 clear h
 have H' := Aside0.mk H
 clear H
 go_enter Try.func35, Try.ntmps35
 go_wp2
 go_loopg [4] k (fun kq v4 w' => ∃ (x4_1 : Int), v4 = .int .i64 x4_1 ∧ Aside0 (keys_Next.l0 kq l0 x4_1 = some (r1, r2)) ∧ Aside0 (kq ≤ k) ∧ Aside0 (Below w.heap.size w w'))
 case atStart => exact ⟨((l0.length : Int)), (by first | rfl | (simp; done) | (simp [*]; done)), H', ⟨Nat.le_refl _⟩, ⟨by repeat (first | (with_reducible first | exact HB.out | apply below_alloc | apply pw_below_drewN | apply below_drew1) | exact HB.out)⟩⟩
 case round =>
  clear H'
  obtain ⟨x4_1, rfl, HA, HK1, HB⟩ := hrel
  cases gk with
  | zero => exact absurd HA.out (by simp [keys_Next.l0])
  | succ k1 =>
   have H := HA.out
   clear HA
   simp only [keys_Next.l0] at H
   by_cases c2 : x4_1 > 0
   ·rw [if_pos c2] at H
    have c2b0 : decide (0 < x4_1) = true := decide_eq_true c2
    clear c2
    obtain ⟨ji3, hji3⟩ : ∃ j_ : Int, (wrap64 (x4_1 - 1)) = j_ := ⟨_, rfl⟩
    replace H : (if 0 ≤ (ji3) then (if (ji3) < (l0.length : Int) then (if (rd l0 (ji3)) = 255 then (keys_Next.l0 k1 l0 ji3) else (if x4_1 = 0 then (some (([] : List Int), false)) else (if 0 ≤ x4_1 then (if x4_1 ≤ (l0.length : Int) then ((slices_Clone_byte_byte.f (l0.take (x4_1 : Int).toNat)).bind fun t221 => (if (ji3) < (t221.length : Int) then (some ((t221.set ((ji3) : Int).toNat (((rd t221 (ji3)) + 1) % 256)), true)) else (none))) else (none)) else (none)))) else (none)) else (none)) = some (r1, r2) := by first | (rw [hji3] at H; exact H) | (simp only [hji3] at H ⊢; exact H)
    have hji3w : (IntKind.i64.wrap (x4_1 - 1)) = ji3 := (i64_w _).trans hji3
    by_cases c4 : 0 ≤ (ji3)
    ·rw [if_pos c4] at H
     have c4b0 : decide (0 ≤ (ji3)) = true := decide_eq_true c4
     clear c4
     by_cases c5 : (ji3) < (l0.length : Int)
     ·rw [if_pos c5] at H
      have c5b0 : decide ((ji3) < (l0.length : Int)) = true := decide_eq_true c5
      clear c5
      by_cases c6 : (rd l0 (ji3)) = 255
      ·rw [if_pos c6] at H
       have c6b0 : ((rd l0 (ji3)) == 255) = true := beq_iff_eq.mpr c6
       have c6b1 : ((rd l0 (ji3)) != 255) = false := bne_eq_false_iff_eq.mpr c6
       clear c6
       have H' := Aside0.mk H
       clear H
       have p219 : 0 ≤ ((ji3) : Int) := of_decide_eq_true (by first | (with_reducible assumption) | assumption)
       have q219 : (ji3) < (l0.length : Int) := of_decide_eq_true (by first | (with_reducible assumption) | assumption)
       obtain ⟨ad219, e219, hx219_0⟩ := Kd.at_int HR0.out (ji3) p219 q219
       cases e219
       replace hx219_0 := (HB.out.cell (World.block_lt_of_cell? w _ hx219_0)).trans hx219_0
       replace p219 := eq_true p219
       replace q219 := eq_true q219
       go_wp2
       go_roundg k1
       case measure => have := HK1.out; omega
       case rel => exact ⟨(ji3), (by first | rfl | (simp; done) | (simp only [← hji3] <;> (first | rfl | simp)) | (simp [*]; done)), H', ⟨by have := HK1.out; omega⟩, ⟨by repeat (first | (with_reducible first | exact HB.out | apply below_alloc | apply pw_below_drewN | apply below_drew1) | exact HB.out)⟩⟩
      ·rw [if_neg c6] at H
       have c6b0 : ((rd l0 (ji3)) == 255) = false := beq_eq_false_iff_ne.mpr c6
       have c6b1 : ((rd l0 (ji3)) != 255) = true := bne_iff_ne.mpr c6
       by_cases c7 : x4_1 = 0
       ·rw [if_pos c7] at H
        have c7b0 : (x4_1 == 0) = true := beq_iff_eq.mpr c7
        have c7b1 : (x4_1 != 0) = false := bne_eq_false_iff_eq.mpr c7
        clear c7
        simp only [Option.some.injEq, Prod.mk.injEq] at H
        obtain ⟨rfl, rfl⟩ := H
        have p219 : 0 ≤ ((ji3) : Int) := of_decide_eq_true (by first | (with_reducible assumption) | assumption)
        have q219 : (ji3) < (l0.length : Int) := of_decide_eq_true (by first | (with_reducible assumption) | assumption)
        obtain ⟨ad219, e219, hx219_0⟩ := Kd.at_int HR0.out (ji3) p219 q219
        cases e219
        replace hx219_0 := (HB.out.cell (World.block_lt_of_cell? w _ hx219_0)).trans hx219_0
        replace p219 := eq_true p219
        replace q219 := eq_true q219
        go_wp2
        go_ret2
        exact ⟨_, by first | rfl | (simp [errW_none, errW_some] <;> rfl) | (simp only [← hji3]; first | rfl | (simp [errW_none, errW_some] <;> rfl)) | (simp [*, errW_none, errW_some] <;> rfl), by first | exact Kd.R_nil _ _ _ _ _ | exact Kd.N_nil _ _ _ _ _ | exact Kd.V_nil _ _ _ _ _ | exact Kd.Q_nil _ _ _ _ _ | exact Kd.S_nil _ _ _ _ _, by repeat (first | (with_reducible first | exact HB.out | apply below_alloc | apply pw_below_drewN | apply below_drew1) | exact HB.out)⟩
       ·rw [if_neg c7] at H
        have c7b0 : (x4_1 == 0) = false := beq_eq_false_iff_ne.mpr c7
        have c7b1 : (x4_1 != 0) = true := bne_iff_ne.mpr c7
        by_cases c8 : 0 ≤ x4_1
        ·rw [if_pos c8] at H
         have c8b0 := eq_true c8
         have c8b1 : decide (0 ≤ x4_1) = true := decide_eq_true c8
         clear c8
         by_cases c9 : x4_1 ≤ (l0.length : Int)
         ·rw [if_pos c9] at H
          have c9b0 := eq_true c9
          have c9b1 : decide (x4_1 ≤ (l0.length : Int)) = true := decide_eq_true c9
          clear c9
          replace H := Option.bind_eq_some_iff.mp H
          obtain ⟨t221, A100, H⟩ := H
          replace H : (if (ji3) < (t221.length : Int) then (some ((t221.set ((ji3) : Int).toNat (((rd t221 (ji3)) + 1) % 256)), true)) else (none)) = some (r1, r2) := H
          have A10 := Aside0.mk A100
          clear A100
          by_cases c11 : (ji3) < (t221.length : Int)
          ·rw [if_pos c11] at H
           have c11b0 : decide ((ji3) < (t221.length : Int)) = true := decide_eq_true c11
           clear c11
           obtain ⟨y225, hy225⟩ : ∃ y_ : List Int, y_ = (t221.set ((ji3) : Int).toNat (((rd t221 (ji3)) + 1) % 256)) := ⟨_, rfl⟩
           replace H : (some (y225, true)) = some (r1, r2) := by first | (rw [hy225]; with_reducible exact H) | (have H2_ := (Option.bind_some _ _).symm.trans H; rw [hy225]; with_reducible exact H2_) | (have H2_ := (Option.bind_some _ _).symm.trans H; with_reducible exact H2_) | with_reducible exact H | (rw [hy225]; exact H) | exact H
           have Ny225 := Aside0.mk hy225
           clear hy225
           simp only [Option.some.injEq, Prod.mk.injEq] at H
           obtain ⟨rfl, rfl⟩ := H
           have p219 : 0 ≤ ((ji3) : Int) := of_decide_eq_true (by first | (with_reducible assumption) | assumption)
           have q219 : (ji3) < (l0.length : Int) := of_decide_eq_true (by first | (with_reducible assumption) | assumption)
           obtain ⟨ad219, e219, hx219_0⟩ := Kd.at_int HR0.out (ji3) p219 q219
           cases e219
           replace hx219_0 := (HB.out.cell (World.block_lt_of_cell? w _ hx219_0)).trans hx219_0
           replace p219 := eq_true p219
           replace q219 := eq_true q219
           obtain ⟨i013, hi013, _, hsz13, _⟩ := info_parts info5
           obtain ⟨hcut13, hA13, hC13⟩ := print_take_of (P := Try.prog) (Value.int .u8) 0 44 5 .i64 Try.underlying44 hi013 hsz13 (some ad219) c0 l0 x4_1 (of_decide_eq_true (by first | (with_reducible assumption) | assumption)) (of_decide_eq_true (by first | (with_reducible assumption) | assumption)) HC0.out
           have HR220 := Aside0.mk (Kd.C_of_reads (h1 := fun _ => rfl) (hA13 _ (Kd.reads_of_C HR0.out)))
           have HC220 := Aside0.mk hC13
           clear hA13 hC13 hi013 hsz13
           go_wp2_with (first | ((with_reducible refine gate_callee (f := 55) rfl ?_); refine goesL_ (some 25) rfl rfl Try.func55 (by kernel_rfl) rfl #[.slice (some ad219) (l0.take (x4_1 : Int).toNat).length c0] rfl (by (try simp only [List.map_toArray, List.map_cons, List.map_nil]); first | done | (rw [show (l0.take (x4_1 : Int).toNat).length = x4_1.toNat from (by rw [List.length_take]; have h_ : (x4_1 : Int) ≤ (l0.length : Int) := of_decide_eq_true (by first | (with_reducible assumption) | assumption); omega)] <;> rfl) | rfl | (simp only [List.length_drop, List.length_take]; rfl)) ?_; (with_reducible refine (slices_Clone_byte_byte.calls _ _ (l0.take (x4_1 : Int).toNat) t221 _ ?side1 ?side2 A10.out).mono ?_); (case side1 => repeat (first | exact (Kd.C_below HR220.out HB.out) | (with_reducible refine Kd.C_alloc ?_ _) | (with_reducible refine Kd.C_drewN ?_ _) | (with_reducible refine Kd.C_drew ?_))); (case side2 => exact HC220.out); rintro e w14 ⟨v222, rfl, ho0, hb⟩; refine ⟨_, rfl, ?_⟩; have n0_ := Aside0.mk (Kd.R_lower ho0 (below_size (by repeat (first | (with_reducible first | exact HB.out | apply below_alloc | apply pw_below_drewN | apply below_drew1) | exact HB.out)))); have n1_ := Aside0.mk (below_step (by repeat (first | (with_reducible first | exact HB.out | apply below_alloc | apply pw_below_drewN | apply below_drew1) | exact HB.out)) hb); clear HB; have HO223 := n0_; have HB := n1_; clear n0_ n1_; (try clear hb); (try clear hb2); (try clear hk); (try clear hi); (try clear ho0); obtain ⟨Ao15, co15, eo15⟩ := Kd.R_slice HO223.out; subst eo15; have p224 : 0 ≤ ((ji3) : Int) := of_decide_eq_true (by first | (with_reducible assumption) | assumption); have q224 : (ji3) < (t221.length : Int) := of_decide_eq_true (by first | (with_reducible assumption) | assumption); obtain ⟨ad224, e224, hx224_0⟩ := Kd.at_int (Kd.R_reads' HO223.out).2.2 (ji3) p224 q224; cases e224; replace p224 := eq_true p224; replace q224 := eq_true q224; have p12 : 0 ≤ ((ji3) : Int) := of_decide_eq_true (by first | (with_reducible assumption) | assumption); have q12 : ((ji3) : Int) < ((t221.length : Int) : Int) := of_decide_eq_true (by first | (with_reducible assumption) | assumption); obtain ⟨go12, co12, eo12, gb12, gl12, cl12, HG12⟩ := Kd.R_form HO223.out (by omega); (first | cases eo12 | (injection eo12 with ea_ en_ ec_; (first | subst ea_ | (injection ea_ with ea_; subst ea_)); subst ec_; clear en_)); have GB12 := Aside0.mk gb12; have GG12 := Aside0.mk HG12; clear gb12 gl12 HG12; (first | simp only [add_plain] at hx224_0 | skip); obtain ⟨hx12_0, hf12_0⟩ := Kd.R_celln 0 HO223.out ((ji3) : Int) p12 q12; replace p12 := eq_true p12; replace q12 := eq_true q12; obtain ⟨hy16_, hz16_⟩ := Kd.R_celln 0 HO223.out ((ji3) : Int) (of_decide_eq_true (by first | (with_reducible assumption) | assumption)) (of_decide_eq_true (by first | (with_reducible assumption) | assumption)); have HP16 := Kd.R_putg HO223.out ((ji3) : Int) (((rd t221 (ji3)) + 1) % 256)) | ((with_reducible refine gate_store (t := 5) (p := 32) rfl ?_); refine store_event (t := 5) (p := 32) (v := ?vo_w17) (w1 := (w14.setCell ⟨go12, ((ji3) : Int).toNat, none⟩ (.int .u8 (((rd t221 (ji3)) + 1) % 256)))) ?hg ?ho ?hn ?hr ?_; (case ho => rfl); (case hg => rfl); (case hn => rfl); (case hr => first | (go_simp; done) | (go_simp; rfl)); intro w17 hw; have hg : w14.grownBy w17 (some go12) := (by rw [hw]; exact HP16.2); have hp_ : Kd.R (Kd.int .u8) 5 w17 w.heap.size (fun _ => True) (.slice (some ⟨go12, 0, none⟩) t221.length co15) y225 := (by rw [hw, Ny225.out]; exact HP16.1); clear HP16; have n0_ := Aside0.mk (hp_); have n1_ := Aside0.mk ((by rw [hw]; exact below_set (HB.out) GB12.out : Below w.heap.size w w17)); clear HO223; clear HB; have HO223 := n0_; have HB := n1_; clear n0_ n1_; clear hg hw hp_))
           go_ret2
           exact ⟨_, by first | rfl | (simp [errW_none, errW_some] <;> rfl) | (simp only [← hji3]; first | rfl | (simp [errW_none, errW_some] <;> rfl)) | (simp [*, errW_none, errW_some] <;> rfl), by (with_reducible repeat (first | apply Kd.R_alloc | apply Kd.R_drewN | apply Kd.R_drew)); exact HO223.out, by repeat (first | (with_reducible first | exact HB.out | apply below_alloc | apply pw_below_drewN | apply below_drew1) | exact HB.out)⟩
          ·rw [if_neg c11] at H
           exact absurd H (by simp)
         ·rw [if_neg c9] at H
          exact absurd H (by simp)
        ·rw [if_neg c8] at H
         exact absurd H (by simp)
     ·rw [if_neg c5] at H
      exact absurd H (by simp)
    ·rw [if_neg c4] at H
     exact absurd H (by simp)
   ·rw [if_neg c2] at H
    have c2b0 : decide (0 < x4_1) = false := decide_eq_false c2
    clear c2
    by_cases c18 : x4_1 = 0
    ·rw [if_pos c18] at H
     have c18b0 : (x4_1 == 0) = true := beq_iff_eq.mpr c18
     have c18b1 : (x4_1 != 0) = false := bne_eq_false_iff_eq.mpr c18
     clear c18
     simp only [Option.some.injEq, Prod.mk.injEq] at H
     obtain ⟨rfl, rfl⟩ := H
     go_wp2
     go_ret2
     exact ⟨_, by first | rfl | (simp [errW_none, errW_some] <;> rfl) | (simp [*, errW_none, errW_some] <;> rfl), by first | exact Kd.R_nil _ _ _ _ _ | exact Kd.N_nil _ _ _ _ _ | exact Kd.V_nil _ _ _ _ _ | exact Kd.Q_nil _ _ _ _ _ | exact Kd.S_nil _ _ _ _ _, by repeat (first | (with_reducible first | exact HB.out | apply below_alloc | apply pw_below_drewN | apply below_drew1) | exact HB.out)⟩
    ·rw [if_neg c18] at H
     have c18b0 : (x4_1 == 0) = false := beq_eq_false_iff_ne.mpr c18
     have c18b1 : (x4_1 != 0) = true := bne_iff_ne.mpr c18
     by_cases c19 : 0 ≤ x4_1
     ·rw [if_pos c19] at H
      have c19b0 := eq_true c19
      have c19b1 : decide (0 ≤ x4_1) = true := decide_eq_true c19
      clear c19
      by_cases c20 : x4_1 ≤ (l0.length : Int)
      ·rw [if_pos c20] at H
       have c20b0 := eq_true c20
       have c20b1 : decide (x4_1 ≤ (l0.length : Int)) = true := decide_eq_true c20
       clear c20
       replace H := Option.bind_eq_some_iff.mp H
       obtain ⟨t227, A210, H⟩ := H
       replace H : (if 0 ≤ (wrap64 (x4_1 - 1)) then (if (wrap64 (x4_1 - 1)) < (t227.length : Int) then (some ((t227.set ((wrap64 (x4_1 - 1)) : Int).toNat (((rd t227 (wrap64 (x4_1 - 1))) + 1) % 256)), true)) else (none)) else (none)) = some (r1, r2) := H
       have A21 := Aside0.mk A210
       clear A210
       obtain ⟨ji22, hji22⟩ : ∃ j_ : Int, (wrap64 (x4_1 - 1)) = j_ := ⟨_, rfl⟩
       replace H : (if 0 ≤ (ji22) then (if (ji22) < (t227.length : Int) then (some ((t227.set ((ji22) : Int).toNat (((rd t227 (ji22)) + 1) % 256)), true)) else (none)) else (none)) = some (r1, r2) := by first | (rw [hji22] at H; exact H) | (simp only [hji22] at H ⊢; exact H)
       (try rw [hji22] at A21)
       have hji22w : (IntKind.i64.wrap (x4_1 - 1)) = ji22 := (i64_w _).trans hji22
       by_cases c23 : 0 ≤ (ji22)
       ·rw [if_pos c23] at H
        have c23b0 : decide (0 ≤ (ji22)) = true := decide_eq_true c23
        clear c23
        by_cases c24 : (ji22) < (t227.length : Int)
        ·rw [if_pos c24] at H
         have c24b0 : decide ((ji22) < (t227.length : Int)) = true := decide_eq_true c24
         clear c24
         obtain ⟨y231, hy231⟩ : ∃ y_ : List Int, y_ = (t227.set ((ji22) : Int).toNat (((rd t227 (ji22)) + 1) % 256)) := ⟨_, rfl⟩
         replace H : (some (y231, true)) = some (r1, r2) := by first | (rw [hy231]; with_reducible exact H) | (have H2_ := (Option.bind_some _ _).symm.trans H; rw [hy231]; with_reducible exact H2_) | (have H2_ := (Option.bind_some _ _).symm.trans H; with_reducible exact H2_) | with_reducible exact H | (rw [hy231]; exact H) | exact H
         have Ny231 := Aside0.mk hy231
         clear hy231
         simp only [Option.some.injEq, Prod.mk.injEq] at H
         obtain ⟨rfl, rfl⟩ := H
         obtain ⟨i026, hi026, _, hsz26, _⟩ := info_parts info5
         obtain ⟨hcut26, hA26, hC26⟩ := print_take_of (P := Try.prog) (Value.int .u8) 0 44 5 .i64 Try.underlying44 hi026 hsz26 A0 c0 l0 x4_1 (of_decide_eq_true (by first | (with_reducible assumption) | assumption)) (of_decide_eq_true (by first | (with_reducible assumption) | assumption)) HC0.out
         have HR226 := Aside0.mk (Kd.C_of_reads (h1 := fun _ => rfl) (hA26 _ (Kd.reads_of_C HR0.out)))
         have HC226 := Aside0.mk hC26
         clear hA26 hC26 hi026 hsz26
         go_wp2_with (first | ((with_reducible refine gate_callee (f := 55) rfl ?_); refine goesL_ (some 25) rfl rfl Try.func55 (by kernel_rfl) rfl #[.slice A0 (l0.take (x4_1 : Int).toNat).length c0] rfl (by (try simp only [List.map_toArray, List.map_cons, List.map_nil]); first | done | (rw [show (l0.take (x4_1 : Int).toNat).length = x4_1.toNat from (by rw [List.length_take]; have h_ : (x4_1 : Int) ≤ (l0.length : Int) := of_decide_eq_true (by first | (with_reducible assumption) | assumption); omega)] <;> rfl) | rfl | (simp only [List.length_drop, List.length_take]; rfl)) ?_; (with_reducible refine (slices_Clone_byte_byte.calls _ _ (l0.take (x4_1 : Int).toNat) t227 _ ?side1 ?side2 A21.out).mono ?_); (case side1 => repeat (first | exact (Kd.C_below HR226.out HB.out) | (with_reducible refine Kd.C_alloc ?_ _) | (with_reducible refine Kd.C_drewN ?_ _) | (with_reducible refine Kd.C_drew ?_))); (case side2 => exact HC226.out); rintro e w27 ⟨v228, rfl, ho0, hb⟩; refine ⟨_, rfl, ?_⟩; have n0_ := Aside0.mk (Kd.R_lower ho0 (below_size (by repeat (first | (with_reducible first | exact HB.out | apply below_alloc | apply pw_below_drewN | apply below_drew1) | exact HB.out)))); have n1_ := Aside0.mk (below_step (by repeat (first | (with_reducible first | exact HB.out | apply below_alloc | apply pw_below_drewN | apply below_drew1) | exact HB.out)) hb); clear HB; have HO229 := n0_; have HB := n1_; clear n0_ n1_; (try clear hb); (try clear hb2); (try clear hk); (try clear hi); (try clear ho0); obtain ⟨Ao28, co28, eo28⟩ := Kd.R_slice HO229.out; subst eo28; have p230 : 0 ≤ ((ji22) : Int) := of_decide_eq_true (by first | (with_reducible assumption) | assumption); have q230 : (ji22) < (t227.length : Int) := of_decide_eq_true (by first | (with_reducible assumption) | assumption); obtain ⟨ad230, e230, hx230_0⟩ := Kd.at_int (Kd.R_reads' HO229.out).2.2 (ji22) p230 q230; cases e230; replace p230 := eq_true p230; replace q230 := eq_true q230; have p25 : 0 ≤ ((ji22) : Int) := of_decide_eq_true (by first | (with_reducible assumption) | assumption); have q25 : ((ji22) : Int) < ((t227.length : Int) : Int) := of_decide_eq_true (by first | (with_reducible assumption) | assumption); obtain ⟨go25, co25, eo25, gb25, gl25, cl25, HG25⟩ := Kd.R_form HO229.out (by omega); (first | cases eo25 | (injection eo25 with ea_ en_ ec_; (first | subst ea_ | (injection ea_ with ea_; subst ea_)); subst ec_; clear en_)); have GB25 := Aside0.mk gb25; have GG25 := Aside0.mk HG25; clear gb25 gl25 HG25; (first | simp only [add_plain] at hx230_0 | skip); obtain ⟨hx25_0, hf25_0⟩ := Kd.R_celln 0 HO229.out ((ji22) : Int) p25 q25; replace p25 := eq_true p25; replace q25 := eq_true q25; obtain ⟨hy29_, hz29_⟩ := Kd.R_celln 0 HO229.out ((ji22) : Int) (of_decide_eq_true (by first | (with_reducible assumption) | assumption)) (of_decide_eq_true (by first | (with_reducible assumption) | assumption)); have HP29 := Kd.R_putg HO229.out ((ji22) : Int) (((rd t227 (ji22)) + 1) % 256)) | ((with_reducible refine gate_store (t := 5) (p := 32) rfl ?_); refine store_event (t := 5) (p := 32) (v := ?vo_w30) (w1 := (w27.setCell ⟨go25, ((ji22) : Int).toNat, none⟩ (.int .u8 (((rd t227 (ji22)) + 1) % 256)))) ?hg ?ho ?hn ?hr ?_; (case ho => rfl); (case hg => rfl); (case hn => rfl); (case hr => first | (go_simp; done) | (go_simp; rfl)); intro w30 hw; have hg : w27.grownBy w30 (some go25) := (by rw [hw]; exact HP29.2); have hp_ : Kd.R (Kd.int .u8) 5 w30 w.heap.size (fun _ => True) (.slice (some ⟨go25, 0, none⟩) t227.length co28) y231 := (by rw [hw, Ny231.out]; exact HP29.1); clear HP29; have n0_ := Aside0.mk (hp_); have n1_ := Aside0.mk ((by rw [hw]; exact below_set (HB.out) GB25.out : Below w.heap.size w w30)); clear HO229; clear HB; have HO229 := n0_; have HB := n1_; clear n0_ n1_; clear hg hw hp_))
         go_ret2
         exact ⟨_, by first | rfl | (simp [errW_none, errW_some] <;> rfl) | (simp only [← hji22]; first | rfl | (simp [errW_none, errW_some] <;> rfl)) | (simp [*, errW_none, errW_some] <;> rfl), by (with_reducible repeat (first | apply Kd.R_alloc | apply Kd.R_drewN | apply Kd.R_drew)); exact HO229.out, by repeat (first | (with_reducible first | exact HB.out | apply below_alloc | apply pw_below_drewN | apply below_drew1) | exact HB.out)⟩
        ·rw [if_neg c24] at H
         exact absurd H (by simp)
       ·rw [if_neg c23] at H
        exact absurd H (by simp)
      ·rw [if_neg c20] at H
       exact absurd H (by simp)
     ·rw [if_neg c19] at H
      exact absurd H (by simp)
end Go.Proofs.Ytmfenomjhmhogaa.P
end
section
namespace Go.Proofs.Ytmfenomjhmhogaa.P
open Go.RowKit Go.Proofs.Ytmfenomjhmhogaa.Pure Go.Proofs.YtmfenomjhmhogaaW.PrintWords Go.Proofs.YtmfenomjhmhogaaW.PrintLast Go.Proofs.YtmfenomjhmhogaaW.PrintMore
attribute [local go_sem] max2_int min2_int max_two min_two max_three min_three max_four min_four
set_option linter.unusedVariables false
set_option linter.unusedSimpArgs false
def keyF (k : Nat) (vs : List S25) (d : List Bool) (t : S69) : Option (List Int) := if vs.length + 1 ≤ 4398046511104 then (keys_Encode.f k (vs ++ [t.f2]) d).bind fun r => some r.1 else none
def lowF (k : Nat) (vs : List S25) (d : List Bool) (base : List Int) : List S69 → List Int → Option (List Int)
  | [], cur => some cur
  | t :: r, _ => (keyF k vs d t).bind fun kk => if t.f1 = 9 ∨ t.f1 = 7 then (keys_Next.f k kk).bind fun nx => lowF k vs d base r (if nx.2 = true then nx.1 else base) else lowF k vs d base r kk
def highF (k : Nat) (vs : List S25) (d : List Bool) : List S69 → List Int → Bool → Option (List Int × Bool)
  | [], cur, ok => some (cur, ok)
  | t :: r, _, _ => (keyF k vs d t).bind fun kk => if t.f1 = 8 ∨ t.f1 = 10 then (keys_Next.f k kk).bind fun nx => highF k vs d r nx.1 nx.2 else highF k vs d r kk true
def swapB (vs : List S25) (d : List Bool) : Bool := decide (vs.length < d.length) && rdOf false d (vs.length : Int)
def bounds_Range.g (k : Nat) (vs : List S25) (lo up : List S69) (d : List Bool) : Option (List Int × List Int × Bool) :=
  (keys_Encode.f k vs d).bind fun be => (lowF k vs d be.1 lo be.1).bind fun low => (keys_Next.f k be.1).bind fun hb => (highF k vs d up hb.1 hb.2).bind fun hi => some (low, hi.1, !hi.2)
def bounds_Range.f (k : Nat) (a0_0 : Int) (a0_1 a0_2 : ByteArray) (l0_3 : List Int) (l0_4 : List Bool) (a0_5 : Bool) (l1 : List S69) : Option (List Int × List Int × Bool) :=
  (bounds_useOf.f a0_0 a0_1 a0_2 l0_3 l0_4 a0_5 l1).bind fun u => if swapB u.1 l0_4 = true then bounds_Range.g k u.1 u.2.2 u.2.1 l0_4 else bounds_Range.g k u.1 u.2.1 u.2.2 l0_4
theorem keyF.mono (vs : List S25) (d : List Bool) (t : S69) (k : Nat) : LeO (keyF k vs d t) (keyF (k + 1) vs d t) := LeO.ite (LeO.bind (keys_Encode.mono _ _ _) (fun _ => LeO.refl _)) (LeO.refl _)
theorem lowF.mono (vs : List S25) (d : List Bool) (base : List Int) (k : Nat) : ∀ l cur, LeO (lowF k vs d base l cur) (lowF (k + 1) vs d base l cur)
  | [], _ => LeO.refl _
  | t :: r, _ => LeO.bind (keyF.mono _ _ _ _) (fun _ => LeO.ite (LeO.bind (keys_Next.mono _ _) (fun _ => lowF.mono vs d base k r _)) (lowF.mono vs d base k r _))
theorem highF.mono (vs : List S25) (d : List Bool) (k : Nat) : ∀ l cur ok, LeO (highF k vs d l cur ok) (highF (k + 1) vs d l cur ok)
  | [], _, _ => LeO.refl _
  | t :: r, _, _ => LeO.bind (keyF.mono _ _ _ _) (fun _ => LeO.ite (LeO.bind (keys_Next.mono _ _) (fun _ => highF.mono vs d k r _ _)) (highF.mono vs d k r _ _))
def RI (w : World) (cx : Array Value) (g : Nat) (v0 : Value) (vs : List S25) (v1 : Value) (lo : List S69) (v2 : Value) (up : List S69) (W : World) : Prop :=
  W.heap[w.heap.size]? = some (.cells cx 41 (0, 0)) ∧ W.heap[g]? = some (.cells #[v0, v1, v2] 77 (0, 0)) ∧ w.heap.size ≤ g ∧ Kd.R k25 25 W w.heap.size (fun _ => True) v0 vs ∧ Kd.R k69 69 W w.heap.size (fun _ => True) v1 lo ∧ Kd.R k69 69 W w.heap.size (fun _ => True) v2 up ∧ Below w.heap.size w W
section
variable {w W W' : World} {cx : Array Value} {g : Nat} {v0 v1 v2 : Value} {vs : List S25} {lo up : List S69}
theorem RI.below (h : RI w cx g v0 vs v1 lo v2 up W) (hb : Below W.heap.size W W') : RI w cx g v0 vs v1 lo v2 up W' :=
  ⟨blk_below h.1 hb, blk_below h.2.1 hb, h.2.2.1, Kd.R_below h.2.2.2.1 hb, Kd.R_below h.2.2.2.2.1 hb, Kd.R_below h.2.2.2.2.2.1 hb, below_step h.2.2.2.2.2.2 hb⟩
theorem RI.b (h : RI w cx g v0 vs v1 lo v2 up W) : Below w.heap.size w W := h.2.2.2.2.2.2
theorem RI.rv (h : RI w cx g v0 vs v1 lo v2 up W) : Kd.R k25 25 W w.heap.size (fun _ => True) v0 vs := h.2.2.2.1
theorem RI.r1 (h : RI w cx g v0 vs v1 lo v2 up W) : Kd.R k69 69 W w.heap.size (fun _ => True) v1 lo := h.2.2.2.2.1
theorem RI.r2 (h : RI w cx g v0 vs v1 lo v2 up W) : Kd.R k69 69 W w.heap.size (fun _ => True) v2 up := h.2.2.2.2.2.1
theorem RI.u0 (h : RI w cx g v0 vs v1 lo v2 up W) : W.cell? ⟨g, 0, none⟩ = some v0 := (blk_cell h.2.1 0).trans rfl
theorem RI.u1 (h : RI w cx g v0 vs v1 lo v2 up W) : W.cell? ⟨g, 1, none⟩ = some v1 := (blk_cell h.2.1 1).trans rfl
theorem RI.u2 (h : RI w cx g v0 vs v1 lo v2 up W) : W.cell? ⟨g, 2, none⟩ = some v2 := (blk_cell h.2.1 2).trans rfl
theorem RI.swap (h : RI w cx g v0 vs v1 lo v2 up W) (hne : w.heap.size ≠ g) : RI w cx g v0 vs v2 up v1 lo ((W.setCell ⟨g, 1, none⟩ v2).setCell ⟨g, 2, none⟩ v1) := by
  have b1 := blk_put h.2.1 1 v2 rfl
  exact ⟨blk_far (blk_far h.1 hne _) hne _, blk_put b1 2 v1 rfl, h.2.2.1, R_setK (R_setK h.rv h.2.1 (by decide) _ _) b1 (by decide) _ _, R_setK (R_setK h.r2 h.2.1 (by decide) _ _) b1 (by decide) _ _, R_setK (R_setK h.r1 h.2.1 (by decide) _ _) b1 (by decide) _ _, below_set (below_set h.b h.2.2.1) h.2.2.1⟩
end
theorem two_u8 {W : World} {B : Nat} {v4 v5 : Value} {low hi : List Int} (h4 : Kd.R (Kd.int .u8) 5 W B (fun _ => True) v4 low) (h5 : Kd.R (Kd.int .u8) 5 W B (fun _ => True) v5 hi) (hap : ∀ k, v5.ownBlock = some k → some k ≠ v4.ownBlock) :
    Kd.R (Kd.int .u8) 5 W B (fun k_ => some k_ ≠ v5.ownBlock) v4 low ∧ Kd.R (Kd.int .u8) 5 W B (fun k_ => some k_ ≠ v4.ownBlock) v5 hi :=
  ⟨Kd.R_reok rfl h4 (fun k hk he => hap k he.symm hk.symm), Kd.R_reok rfl h5 hap⟩
theorem young_u8 {W W' : World} {B : Nat} {v4 v5 : Value} {low hi : List Int} (h4 : Kd.R (Kd.int .u8) 5 W B (fun _ => True) v4 low) (h5 : Kd.R (Kd.int .u8) 5 W' W.heap.size (fun _ => True) v5 hi) : ∀ k, v5.ownBlock = some k → some k ≠ v4.ownBlock := fun k hk he => by
  have h1 := Kd.R_lt h4 k he.symm
  have h2 := Kd.R_base h5 k hk
  omega
set_option maxHeartbeats 8000000 in
set_option maxRecDepth 100000 in
theorem range_keep0 (k : Nat) (a0_0 : Int) (a0_1 : ByteArray) (a0_2 : ByteArray) (A0_3 : Option Addr) (c0_3 : Nat) (l0_3 : List Int) (A0_4 : Option Addr) (c0_4 : Nat) (l0_4 : List Bool) (a0_5 : Bool) (A1 : Option Addr) (c1 : Nat) (l1 : List (S69)) (vs : List S25) (lo0 up0 : List S69) (be : List Int) (be2 : Int) (r1 r2 : List Int) (nb1 : List Int) (nb2 hi2 : Bool) (w : World) (hr0_3 : Kd.C (Kd.int .i64) w A0_3 l0_3.length l0_3) (hc0_3 : l0_3.length ≤ c0_3) (hr0_4 : Kd.C Kd.bool w A0_4 l0_4.length l0_4) (hc0_4 : l0_4.length ≤ c0_4) (hr1 : Kd.C k69 w A1 l1.length l1) (hc1 : l1.length ≤ c1) (hu : bounds_useOf.f a0_0 a0_1 a0_2 l0_3 l0_4 a0_5 l1 = some (vs, lo0, up0)) (he : keys_Encode.f k vs l0_4 = some (be, be2)) (hlo : lowF k vs l0_4 be lo0 be = some r1) (hnx : keys_Next.f k be = some (nb1, nb2)) (hhi : highF k vs l0_4 up0 nb1 nb2 = some (r2, hi2)) (hlt : ¬ vs.length < l0_4.length) :
    Calls Try.prog 15 #[.agg #[.int .i64 a0_0, .string a0_1, .string a0_2, .slice A0_3 l0_3.length c0_3, .slice A0_4 l0_4.length c0_4, .bool a0_5], .slice A1 l1.length c1] w fun e w' => ∃ v0_ v1_ : Value, e = .returned (.tuple #[v0_, v1_, .bool (!hi2)]) ∧ Kd.R (Kd.int .u8) 5 w' w.heap.size (fun k_ => some k_ ≠ (v1_ : Value).ownBlock) v0_ r1 ∧ Kd.R (Kd.int .u8) 5 w' w.heap.size (fun k_ => some k_ ≠ (v0_ : Value).ownBlock) v1_ r2 ∧ Below w.heap.size w w' := by
  have hu41 := Try.underlying41
  have hu77 := Try.underlying77
  have hu69 := Try.underlying69
  have hu25 := Try.underlying25
  have HR3 := Aside0.mk (And.intro hr0_3 hc0_3)
  have HR4 := Aside0.mk (And.intro hr0_4 hc0_4)
  have HR1 := Aside0.mk (And.intro hr1 hc1)
  have HU := Aside0.mk hu
  have HEN := Aside0.mk he
  have HLO := Aside0.mk hlo
  have HNX := Aside0.mk hnx
  have HHI := Aside0.mk hhi
  obtain ⟨cx, hcx⟩ : ∃ cx : Array Value, cx = #[.int .i64 a0_0, .string a0_1, .string a0_2, .slice A0_3 l0_3.length c0_3, .slice A0_4 l0_4.length c0_4, .bool a0_5] := ⟨_, rfl⟩
  have HX := Aside0.mk hcx
  clear hr0_3 hc0_3 hr0_4 hc0_4 hr1 hc1 hu he hlo hnx hhi hcx
  have s1 : decide ((vs.length : Int) < (l0_4.length : Int)) = false := decide_eq_false (by omega)
  have s2 : decide (vs.length < l0_4.length) = false := decide_eq_false hlt
  clear hlt
  go_enter Try.func15, Try.ntmps15
  go_upto_region 1 with fail
  refine at_world (fun W => W.heap[w.heap.size]? = some (.cells #[.int .i64 a0_0, .string a0_1, .string a0_2, .slice A0_3 l0_3.length c0_3, .slice A0_4 l0_4.length c0_4, .bool a0_5] 41 (0, 0)) ∧ Below w.heap.size w W) ⟨Deep.blk_alloc_new w _, below_alloc (Below.refl _ _) _⟩ (fun W hI => ?_)
  have HI0 := Aside0.mk hI
  clear hI
  have x0 : World.cell? W ⟨w.heap.size, 0, none⟩ = some (.int .i64 a0_0) := (blk_cell HI0.out.1 0).trans rfl
  have x1 : World.cell? W ⟨w.heap.size, 1, none⟩ = some (.string a0_1) := (blk_cell HI0.out.1 1).trans rfl
  have x2 : World.cell? W ⟨w.heap.size, 2, none⟩ = some (.string a0_2) := (blk_cell HI0.out.1 2).trans rfl
  have x3 : World.cell? W ⟨w.heap.size, 3, none⟩ = some (.slice A0_3 l0_3.length c0_3) := (blk_cell HI0.out.1 3).trans rfl
  have x4 : World.cell? W ⟨w.heap.size, 4, none⟩ = some (.slice A0_4 l0_4.length c0_4) := (blk_cell HI0.out.1 4).trans rfl
  have x5 : World.cell? W ⟨w.heap.size, 5, none⟩ = some (.bool a0_5) := (blk_cell HI0.out.1 5).trans rfl
  go_upto_region 2 with (first | (go_at_call 31; (with_reducible refine (bounds_useOf.calls a0_0 a0_1 a0_2 A0_3 c0_3 l0_3 A0_4 c0_4 l0_4 a0_5 A1 c1 l1 vs lo0 up0 _ (Kd.C_below HR3.out.1 HI0.out.2) HR3.out.2 (Kd.C_below HR4.out.1 HI0.out.2) HR4.out.2 (Kd.C_below HR1.out.1 HI0.out.2) HR1.out.2 HU.out).mono ?_); rintro e w2 ⟨v0, v1, v2, rfl, h0, h1, h2, hb⟩; obtain ⟨Av0, cv0, e0⟩ := Kd.R_slice h0; subst e0; obtain ⟨Av1, cv1, e1⟩ := Kd.R_slice h1; subst e1; obtain ⟨Av2, cv2, e2⟩ := Kd.R_slice h2; subst e2; have HK := Aside0.mk (And.intro h0 (And.intro h1 (And.intro h2 hb))); clear h0 h1 h2 hb x0 x1 x2 x3 x4 x5))
  refine at_world (fun W' => RI w cx w2.heap.size (.slice Av0 vs.length cv0) vs (.slice Av1 lo0.length cv1) lo0 (.slice Av2 up0.length cv2) up0 W' ∧ w.heap.size ≠ w2.heap.size) ?rr (fun W hI => ?_)
  case rr =>
    have hbw := HK.out.2.2.2
    have hlt := blk_lt (blk_below HI0.out.1 hbw)
    have hba := below_alloc (Below.refl w2.heap.size w2) (.cells #[.slice Av0 vs.length cv0, .slice Av1 lo0.length cv1, .slice Av2 up0.length cv2] 77)
    exact ⟨⟨by rw [HX.out]; exact blk_below (blk_below HI0.out.1 hbw) hba, Deep.blk_alloc_new w2 _, Nat.le_of_lt hlt, Kd.R_below (Kd.R_lower HK.out.1 (below_size HI0.out.2)) hba, Kd.R_below (Kd.R_mono (Kd.R_lower HK.out.2.1 (below_size HI0.out.2)) (fun _ _ => trivial)) hba, Kd.R_below (Kd.R_mono (Kd.R_lower HK.out.2.2.1 (below_size HI0.out.2)) (fun _ _ => trivial)) hba, below_step (below_step HI0.out.2 hbw) hba⟩, Nat.ne_of_lt hlt⟩
  have HNE := Aside0.mk hI.2
  have HI := Aside0.mk hI.1
  clear hI HK HI0
  have cu0 := HI.out.u0
  have fu0 := blk_frozen HI.out.2.1 0
  have cu1 := HI.out.u1
  have fu1 := blk_frozen HI.out.2.1 1
  have cu2 := HI.out.u2
  have fu2 := blk_frozen HI.out.2.1 2
  have cx4 : World.cell? _ ⟨w.heap.size, 4, none⟩ = some (.slice A0_4 l0_4.length c0_4) := (blk_cell HI.out.1 4).trans (by rw [HX.out]; rfl)
  go_upto_region 3 with (first | (go_at_call 32; (with_reducible refine (keys_Encode.calls k Av0 cv0 vs A0_4 c0_4 l0_4 be be2 _ (Kd.R_reads' HI.out.rv).2.2 (Kd.R_reads' HI.out.rv).2.1 (Kd.C_below HR4.out.1 HI.out.b) HR4.out.2 HEN.out).mono ?_); rintro e w3 ⟨v8, rfl, ho, hb⟩; have HB8 := Aside0.mk (Kd.R_lower ho (below_size HI.out.b)); have HI3 := Aside0.mk (HI.out.below hb); clear ho hb HI cu0 cu1 cu2 fu0 fu1 fu2 cx4))
  have HI := HI3
  clear HI3
  have cu0 := HI.out.u0
  have fu0 := blk_frozen HI.out.2.1 0
  have cu1 := HI.out.u1
  have fu1 := blk_frozen HI.out.2.1 1
  have cu2 := HI.out.u2
  have fu2 := blk_frozen HI.out.2.1 2
  have cx4 : World.cell? _ ⟨w.heap.size, 4, none⟩ = some (.slice A0_4 l0_4.length c0_4) := (blk_cell HI.out.1 4).trans (by rw [HX.out]; rfl)
  go_upto_region 7 with fail
  clear cu0 cu1 cu2 fu0 fu1 fu2 cx4
  have cu0 := HI.out.u0
  have fu0 := blk_frozen HI.out.2.1 0
  have cu1 := HI.out.u1
  have fu1 := blk_frozen HI.out.2.1 1
  have cu2 := HI.out.u2
  have fu2 := blk_frozen HI.out.2.1 2
  go_upto_region 8 with fail
  go_wp2
  go_loopg [4, 56] (lo0.length + 1) (fun kq v4 v56 w' => ∃ (j : Nat) (cur : List Int), v56 = .int .i64 (j : Int) ∧ Aside0 (j ≤ lo0.length ∧ lo0.length - j < kq ∧ lowF k vs l0_4 be (lo0.drop j) cur = some r1) ∧ Aside0 (RI w cx w2.heap.size (.slice Av0 vs.length cv0) vs (.slice Av1 lo0.length cv1) lo0 (.slice Av2 up0.length cv2) up0 w') ∧ Aside0 (Kd.R (Kd.int .u8) 5 w' w.heap.size (fun _ => True) v8 be) ∧ Aside0 (Kd.R (Kd.int .u8) 5 w' w.heap.size (fun _ => True) v4 cur))
  case atStart => exact ⟨0, be, rfl, ⟨by omega, by omega, HLO.out⟩, HI, HB8, HB8⟩
  case round =>
    clear HI HB8 HLO cu0 cu1 cu2 fu0 fu1 fu2
    obtain ⟨j, cur, rfl, HA, HI, HB8, HL4⟩ := hrel
    have hj := HA.out.1
    by_cases hlt : j < lo0.length
    · skip
      have p0 : (0 : Int) ≤ (j : Int) := by omega
      have q0 : (j : Int) < (lo0.length : Int) := by omega
      have hnj := (Kd.R_reads' HI.out.r1).2.2.2.1
      obtain ⟨ad1, e0, hx0, hx1, hx2, hx3, hx4⟩ := at_T69 (Kd.R_reads' HI.out.r1).2.2 (j : Int) p0 q0
      cases e0
      simp only [Int.toNat_natCast] at hx0 hx1 hx2 hx3 hx4
      have b1 : decide ((j : Int) < (lo0.length : Int)) = true := decide_eq_true q0
      have b0 : decide (j < lo0.length) = true := decide_eq_true hlt
      have HLT := Aside0.mk hlt
      have hdrop : lo0.drop j = rd_T69 lo0 (j : Int) :: lo0.drop (j + 1) := by
        rw [List.drop_eq_getElem_cons hlt]
        simp [rd_T69, List.getD_eq_getElem?_getD, List.getElem?_eq_getElem hlt]
      have hF := HA.out.2.2
      rw [hdrop] at hF
      clear hdrop
      generalize rd_T69 lo0 (j : Int) = t at hx0 hx1 hx2 hx3 hx4 hF
      unfold lowF at hF
      replace hF := Option.bind_eq_some_iff.mp hF
      obtain ⟨kk, hkk, hF⟩ := hF
      unfold keyF at hkk
      by_cases hvs : vs.length + 1 ≤ 4398046511104
      case neg => rw [if_neg hvs] at hkk; cases hkk
      rw [if_pos hvs] at hkk
      replace hkk := Option.bind_eq_some_iff.mp hkk
      obtain ⟨⟨k1_, k2_⟩, hke, hkk⟩ := hkk
      obtain rfl : k1_ = kk := Option.some.inj hkk
      have HVS := Aside0.mk hvs
      have HKE := Aside0.mk hke
      have HF := Aside0.mk hF
      clear hvs hke hkk hF hlt
      go_upto_region 11 with fail
      refine at_world (fun W' => (RI w cx w2.heap.size (.slice Av0 vs.length cv0) vs (.slice (some ad1) lo0.length cv1) lo0 (.slice Av2 up0.length cv2) up0 W' ∧ Kd.R (Kd.int .u8) 5 W' w.heap.size (fun _ => True) v8 be) ∧ W'.heap[wr.heap.size]? = some (.cells #[.int .i64 t.f0, .int .i64 t.f1, .int .i64 t.f2.f0, .int .i64 t.f2.f1, .string t.f2.f2] 69 (0, 0))) ⟨⟨HI.out.below (below_alloc (Below.refl _ _) _), Kd.R_below HB8.out (below_alloc (Below.refl _ _) _)⟩, Deep.blk_alloc_new wr _⟩ (fun W4 hI => ?_)
      clear HI HB8 hx0 hx1 hx2 hx3 hx4
      have HI := Aside0.mk hI.1.1
      have HH := Aside0.mk hI.1.2
      have HT := Aside0.mk hI.2
      clear hI
      have t0 : W4.cell? ⟨wr.heap.size, 0, none⟩ = some (.int .i64 t.f0) := (blk_cell HT.out 0).trans rfl
      have t1 : W4.cell? ⟨wr.heap.size, 1, none⟩ = some (.int .i64 t.f1) := (blk_cell HT.out 1).trans rfl
      have t2 : W4.cell? ⟨wr.heap.size, 2, none⟩ = some (.int .i64 t.f2.f0) := (blk_cell HT.out 2).trans rfl
      have t3 : W4.cell? ⟨wr.heap.size, 3, none⟩ = some (.int .i64 t.f2.f1) := (blk_cell HT.out 3).trans rfl
      have t4 : W4.cell? ⟨wr.heap.size, 4, none⟩ = some (.string t.f2.f2) := (blk_cell HT.out 4).trans rfl
      have hkc := key.calls t w2.heap.size w.heap.size Av0 cv0 vs A0_4 c0_4 l0_4 k k1_ k2_ W4 HI.out.u0 ((blk_cell HI.out.1 4).trans (by rw [HX.out]; rfl)) (Kd.R_reads' HI.out.rv).2.2 (Kd.R_reads' HI.out.rv).2.1 (Kd.C_below HR4.out.1 HI.out.b) HR4.out.2 HVS.out HKE.out
      simp only [encT] at hkc
      go_upto_region 12 with (first | (go_at_call 33; refine hkc.mono ?_; rintro e w5 ⟨v9, rfl, ho, hb⟩; obtain ⟨A9, c9, e9⟩ := Kd.R_slice ho; subst e9; have HO9 := Aside0.mk (And.intro ho hb); clear ho hb hkc t0 t1 t2 t3 t4))
      have HI5 := Aside0.mk (HI.out.below HO9.out.2)
      have HH5 := Aside0.mk (Kd.R_below HH.out HO9.out.2)
      have HT5 := Aside0.mk (blk_below HT.out HO9.out.2)
      have HK5 := Aside0.mk (Kd.R_lower HO9.out.1 (below_size HI.out.b))
      have HY5 := Aside0.mk (trivial)
      clear HI HH HT HO9
      have t1 : w5.cell? ⟨wr.heap.size, 1, none⟩ = some (.int .i64 t.f1) := (blk_cell HT5.out 1).trans rfl
      by_cases hA : t.f1 = 9
      · skip
        have hF := HF.out
        rw [if_pos (Or.inl hA)] at hF
        have q1 : (t.f1 == 9) = true := beq_iff_eq.mpr hA
        replace hF := Option.bind_eq_some_iff.mp hF
        obtain ⟨⟨nx1, nx2⟩, hn1, hF⟩ := hF
        have HNX1 := Aside0.mk hn1
        clear hA HF hn1
        cases nx2 with
        | true =>
          have HF1 : Aside0 (lowF k vs l0_4 be (lo0.drop (j + 1)) nx1 = some r1) := ⟨hF⟩
          clear hF
          go_upto_region 15 with (first | (go_at_call 35; (with_reducible refine (keys_Next.calls k A9 c9 k1_ nx1 true _ (Kd.R_reads' HK5.out).2.2 (Kd.R_reads' HK5.out).2.1 HNX1.out).mono ?_); rintro e w6 ⟨v10, rfl, ho, hb⟩; have HO9 := Aside0.mk (And.intro ho hb); clear ho hb t1))
          go_wp2
          obtain ⟨k1, rfl⟩ : ∃ k1, gk = k1 + 1 := ⟨gk - 1, by have := HA.out; omega⟩
          go_roundg k1
          case measure => omega
          case rel =>
            refine ⟨j + 1, nx1, by go_num, ⟨by have := HLT.out; omega, by have := HA.out.2.1; omega, HF1.out⟩, ⟨HI5.out.below HO9.out.2⟩, ⟨Kd.R_below HH5.out HO9.out.2⟩, ⟨Kd.R_lower HO9.out.1 (below_size HI5.out.b)⟩⟩
        | false =>
          have HF1 : Aside0 (lowF k vs l0_4 be (lo0.drop (j + 1)) be = some r1) := ⟨hF⟩
          clear hF
          go_upto_region 15 with (first | (go_at_call 35; (with_reducible refine (keys_Next.calls k A9 c9 k1_ nx1 false _ (Kd.R_reads' HK5.out).2.2 (Kd.R_reads' HK5.out).2.1 HNX1.out).mono ?_); rintro e w6 ⟨v10, rfl, ho, hb⟩; have HO9 := Aside0.mk (And.intro ho hb); clear ho hb t1))
          go_wp2
          obtain ⟨k1, rfl⟩ : ∃ k1, gk = k1 + 1 := ⟨gk - 1, by have := HA.out; omega⟩
          go_roundg k1
          case measure => omega
          case rel =>
            refine ⟨j + 1, be, by go_num, ⟨by have := HLT.out; omega, by have := HA.out.2.1; omega, HF1.out⟩, ⟨HI5.out.below HO9.out.2⟩, ⟨Kd.R_below HH5.out HO9.out.2⟩, ⟨Kd.R_below HH5.out HO9.out.2⟩⟩
      · by_cases hB : t.f1 = 7
        · skip
          have hF := HF.out
          rw [if_pos (Or.inr hB)] at hF
          have q1 : (t.f1 == 9) = false := beq_eq_false_iff_ne.mpr hA
          have q2 : (t.f1 == 7) = true := beq_iff_eq.mpr hB
          replace hF := Option.bind_eq_some_iff.mp hF
          obtain ⟨⟨nx1, nx2⟩, hn1, hF⟩ := hF
          have HNX1 := Aside0.mk hn1
          clear hA hB HF hn1
          cases nx2 with
          | true =>
            have HF1 : Aside0 (lowF k vs l0_4 be (lo0.drop (j + 1)) nx1 = some r1) := ⟨hF⟩
            clear hF
            go_upto_region 15 with (first | (go_at_call 35; (with_reducible refine (keys_Next.calls k A9 c9 k1_ nx1 true _ (Kd.R_reads' HK5.out).2.2 (Kd.R_reads' HK5.out).2.1 HNX1.out).mono ?_); rintro e w6 ⟨v10, rfl, ho, hb⟩; have HO9 := Aside0.mk (And.intro ho hb); clear ho hb t1))
            go_wp2
            obtain ⟨k1, rfl⟩ : ∃ k1, gk = k1 + 1 := ⟨gk - 1, by have := HA.out; omega⟩
            go_roundg k1
            case measure => omega
            case rel =>
              refine ⟨j + 1, nx1, by go_num, ⟨by have := HLT.out; omega, by have := HA.out.2.1; omega, HF1.out⟩, ⟨HI5.out.below HO9.out.2⟩, ⟨Kd.R_below HH5.out HO9.out.2⟩, ⟨Kd.R_lower HO9.out.1 (below_size HI5.out.b)⟩⟩
          | false =>
            have HF1 : Aside0 (lowF k vs l0_4 be (lo0.drop (j + 1)) be = some r1) := ⟨hF⟩
            clear hF
            go_upto_region 15 with (first | (go_at_call 35; (with_reducible refine (keys_Next.calls k A9 c9 k1_ nx1 false _ (Kd.R_reads' HK5.out).2.2 (Kd.R_reads' HK5.out).2.1 HNX1.out).mono ?_); rintro e w6 ⟨v10, rfl, ho, hb⟩; have HO9 := Aside0.mk (And.intro ho hb); clear ho hb t1))
            go_wp2
            obtain ⟨k1, rfl⟩ : ∃ k1, gk = k1 + 1 := ⟨gk - 1, by have := HA.out; omega⟩
            go_roundg k1
            case measure => omega
            case rel =>
              refine ⟨j + 1, be, by go_num, ⟨by have := HLT.out; omega, by have := HA.out.2.1; omega, HF1.out⟩, ⟨HI5.out.below HO9.out.2⟩, ⟨Kd.R_below HH5.out HO9.out.2⟩, ⟨Kd.R_below HH5.out HO9.out.2⟩⟩
        · skip
          have hF := HF.out
          rw [if_neg (fun h => h.elim hA hB)] at hF
          have q1 : (t.f1 == 9) = false := beq_eq_false_iff_ne.mpr hA
          have q2 : (t.f1 == 7) = false := beq_eq_false_iff_ne.mpr hB
          have HF1 : Aside0 (lowF k vs l0_4 be (lo0.drop (j + 1)) k1_ = some r1) := ⟨hF⟩
          clear hA hB HF hF
          go_wp2
          obtain ⟨k1, rfl⟩ : ∃ k1, gk = k1 + 1 := ⟨gk - 1, by have := HA.out; omega⟩
          go_roundg k1
          case measure => omega
          case rel =>
            refine ⟨j + 1, k1_, by go_num, ⟨by have := HLT.out; omega, by have := HA.out.2.1; omega, HF1.out⟩, ⟨HI5.out⟩, ⟨HH5.out⟩, ⟨HK5.out⟩⟩
    · obtain rfl : j = lo0.length := by omega
      have b0 : decide (lo0.length < lo0.length) = false := decide_eq_false hlt
      have b1 : decide ((lo0.length : Int) < (lo0.length : Int)) = false := decide_eq_false (by omega)
      have hcur : r1 = cur := by
        have h := HA.out.2.2
        rw [List.drop_length] at h
        exact (Option.some.inj h).symm
      subst hcur
      clear hlt HA
      obtain ⟨A8, c8, e8⟩ := Kd.R_slice HB8.out
      subst e8
      go_upto_region 19 with (first | (go_at_call 35; (with_reducible refine (keys_Next.calls k A8 c8 be nb1 nb2 _ (Kd.R_reads' HB8.out).2.2 (Kd.R_reads' HB8.out).2.1 HNX.out).mono ?_); rintro e w6 ⟨v5, rfl, ho, hb⟩; have HO9 := Aside0.mk (And.intro ho hb); clear ho hb))
      have HY := Aside0.mk (young_u8 HL4.out HO9.out.1)
      have HI6 := Aside0.mk (HI.out.below HO9.out.2)
      have HL6 := Aside0.mk (Kd.R_below HL4.out HO9.out.2)
      have H5 := Aside0.mk (Kd.R_lower HO9.out.1 (below_size HI.out.b))
      clear HI HL4 HB8 HO9
      have HI := HI6
      have HL4 := HL6
      clear HI6 HL6
      have cu0 := HI.out.u0
      have fu0 := blk_frozen HI.out.2.1 0
      have cu1 := HI.out.u1
      have fu1 := blk_frozen HI.out.2.1 1
      have cu2 := HI.out.u2
      have fu2 := blk_frozen HI.out.2.1 2
      go_wp2
      go_loopg [5, 16, 89] (up0.length + 1) (fun kq v5 v16 v89 w' => ∃ (j : Nat) (cur : List Int) (ok : Bool), v89 = .int .i64 (j : Int) ∧ v16 = .bool ok ∧ Aside0 (j ≤ up0.length ∧ up0.length - j < kq ∧ highF k vs l0_4 (up0.drop j) cur ok = some (r2, hi2)) ∧ Aside0 (RI w cx w2.heap.size (.slice Av0 vs.length cv0) vs (.slice Av1 lo0.length cv1) lo0 (.slice Av2 up0.length cv2) up0 w') ∧ Aside0 (Kd.R (Kd.int .u8) 5 w' w.heap.size (fun _ => True) u4 r1) ∧ Aside0 (Kd.R (Kd.int .u8) 5 w' w.heap.size (fun _ => True) v5 cur) ∧ Aside0 (∀ k, v5.ownBlock = some k → some k ≠ u4.ownBlock))
      case atStart => exact ⟨0, nb1, nb2, rfl, rfl, ⟨by omega, by omega, HHI.out⟩, HI, HL4, H5, HY⟩
      case round =>
        clear HI HL4 HHI H5 HY cu0 cu1 cu2 fu0 fu1 fu2
        obtain ⟨j, cur, ok, rfl, rfl, HA, HI, HL4, H5, HY⟩ := hrel
        have hj := HA.out.1
        by_cases hlt : j < up0.length
        · skip
          have p0 : (0 : Int) ≤ (j : Int) := by omega
          have q0 : (j : Int) < (up0.length : Int) := by omega
          have hnj := (Kd.R_reads' HI.out.r2).2.2.2.1
          obtain ⟨ad1, e0, hx0, hx1, hx2, hx3, hx4⟩ := at_T69 (Kd.R_reads' HI.out.r2).2.2 (j : Int) p0 q0
          cases e0
          simp only [Int.toNat_natCast] at hx0 hx1 hx2 hx3 hx4
          have b1 : decide ((j : Int) < (up0.length : Int)) = true := decide_eq_true q0
          have b0 : decide (j < up0.length) = true := decide_eq_true hlt
          have HLT := Aside0.mk hlt
          have hdrop : up0.drop j = rd_T69 up0 (j : Int) :: up0.drop (j + 1) := by
            rw [List.drop_eq_getElem_cons hlt]
            simp [rd_T69, List.getD_eq_getElem?_getD, List.getElem?_eq_getElem hlt]
          have hF := HA.out.2.2
          rw [hdrop] at hF
          clear hdrop
          generalize rd_T69 up0 (j : Int) = t at hx0 hx1 hx2 hx3 hx4 hF
          unfold highF at hF
          replace hF := Option.bind_eq_some_iff.mp hF
          obtain ⟨kk, hkk, hF⟩ := hF
          unfold keyF at hkk
          by_cases hvs : vs.length + 1 ≤ 4398046511104
          case neg => rw [if_neg hvs] at hkk; cases hkk
          rw [if_pos hvs] at hkk
          replace hkk := Option.bind_eq_some_iff.mp hkk
          obtain ⟨⟨k1_, k2_⟩, hke, hkk⟩ := hkk
          obtain rfl : k1_ = kk := Option.some.inj hkk
          have HVS := Aside0.mk hvs
          have HKE := Aside0.mk hke
          have HF := Aside0.mk hF
          clear hvs hke hkk hF hlt
          go_upto_region 22 with fail
          refine at_world (fun W' => (RI w cx w2.heap.size (.slice Av0 vs.length cv0) vs (.slice Av1 lo0.length cv1) lo0 (.slice (some ad1) up0.length cv2) up0 W' ∧ Kd.R (Kd.int .u8) 5 W' w.heap.size (fun _ => True) u4 r1) ∧ W'.heap[wr.heap.size]? = some (.cells #[.int .i64 t.f0, .int .i64 t.f1, .int .i64 t.f2.f0, .int .i64 t.f2.f1, .string t.f2.f2] 69 (0, 0))) ⟨⟨HI.out.below (below_alloc (Below.refl _ _) _), Kd.R_below HL4.out (below_alloc (Below.refl _ _) _)⟩, Deep.blk_alloc_new wr _⟩ (fun W4 hI => ?_)
          clear HI HL4 hx0 hx1 hx2 hx3 hx4
          have HI := Aside0.mk hI.1.1
          have HH := Aside0.mk hI.1.2
          have HT := Aside0.mk hI.2
          clear hI
          have t0 : W4.cell? ⟨wr.heap.size, 0, none⟩ = some (.int .i64 t.f0) := (blk_cell HT.out 0).trans rfl
          have t1 : W4.cell? ⟨wr.heap.size, 1, none⟩ = some (.int .i64 t.f1) := (blk_cell HT.out 1).trans rfl
          have t2 : W4.cell? ⟨wr.heap.size, 2, none⟩ = some (.int .i64 t.f2.f0) := (blk_cell HT.out 2).trans rfl
          have t3 : W4.cell? ⟨wr.heap.size, 3, none⟩ = some (.int .i64 t.f2.f1) := (blk_cell HT.out 3).trans rfl
          have t4 : W4.cell? ⟨wr.heap.size, 4, none⟩ = some (.string t.f2.f2) := (blk_cell HT.out 4).trans rfl
          have hkc := key.calls t w2.heap.size w.heap.size Av0 cv0 vs A0_4 c0_4 l0_4 k k1_ k2_ W4 HI.out.u0 ((blk_cell HI.out.1 4).trans (by rw [HX.out]; rfl)) (Kd.R_reads' HI.out.rv).2.2 (Kd.R_reads' HI.out.rv).2.1 (Kd.C_below HR4.out.1 HI.out.b) HR4.out.2 HVS.out HKE.out
          simp only [encT] at hkc
          go_upto_region 23 with (first | (go_at_call 33; refine hkc.mono ?_; rintro e w5 ⟨v9, rfl, ho, hb⟩; obtain ⟨A9, c9, e9⟩ := Kd.R_slice ho; subst e9; have HO9 := Aside0.mk (And.intro ho hb); clear ho hb hkc t0 t1 t2 t3 t4))
          have HI5 := Aside0.mk (HI.out.below HO9.out.2)
          have HH5 := Aside0.mk (Kd.R_below HH.out HO9.out.2)
          have HT5 := Aside0.mk (blk_below HT.out HO9.out.2)
          have HK5 := Aside0.mk (Kd.R_lower HO9.out.1 (below_size HI.out.b))
          have HY5 := Aside0.mk (young_u8 HH.out HO9.out.1)
          clear HI HH HT HO9
          have t1 : w5.cell? ⟨wr.heap.size, 1, none⟩ = some (.int .i64 t.f1) := (blk_cell HT5.out 1).trans rfl
          by_cases hA : t.f1 = 8
          · skip
            have hF := HF.out
            rw [if_pos (Or.inl hA)] at hF
            have q1 : (t.f1 == 8) = true := beq_iff_eq.mpr hA
            replace hF := Option.bind_eq_some_iff.mp hF
            obtain ⟨⟨nx1, nx2⟩, hn1, hF⟩ := hF
            have HNX1 := Aside0.mk hn1
            clear hA HF hn1
            have HF1 : Aside0 (highF k vs l0_4 (up0.drop (j + 1)) nx1 nx2 = some (r2, hi2)) := ⟨hF⟩
            clear hF
            go_upto_region 25 with (first | (go_at_call 35; (with_reducible refine (keys_Next.calls k A9 c9 k1_ nx1 nx2 _ (Kd.R_reads' HK5.out).2.2 (Kd.R_reads' HK5.out).2.1 HNX1.out).mono ?_); rintro e w6 ⟨v10, rfl, ho, hb⟩; have HO9 := Aside0.mk (And.intro ho hb); clear ho hb t1))
            go_wp2
            obtain ⟨k1, rfl⟩ : ∃ k1, gk = k1 + 1 := ⟨gk - 1, by have := HA.out; omega⟩
            go_roundg k1
            case measure => omega
            case rel =>
              refine ⟨j + 1, nx1, nx2, by go_num, rfl, ⟨by have := HLT.out; omega, by have := HA.out.2.1; omega, HF1.out⟩, ⟨HI5.out.below HO9.out.2⟩, ⟨Kd.R_below HH5.out HO9.out.2⟩, ⟨Kd.R_lower HO9.out.1 (below_size HI5.out.b)⟩, ⟨young_u8 HH5.out HO9.out.1⟩⟩
          · by_cases hB : t.f1 = 10
            · skip
              have hF := HF.out
              rw [if_pos (Or.inr hB)] at hF
              have q1 : (t.f1 == 8) = false := beq_eq_false_iff_ne.mpr hA
              have q2 : (t.f1 == 10) = true := beq_iff_eq.mpr hB
              replace hF := Option.bind_eq_some_iff.mp hF
              obtain ⟨⟨nx1, nx2⟩, hn1, hF⟩ := hF
              have HNX1 := Aside0.mk hn1
              clear hA hB HF hn1
              have HF1 : Aside0 (highF k vs l0_4 (up0.drop (j + 1)) nx1 nx2 = some (r2, hi2)) := ⟨hF⟩
              clear hF
              go_upto_region 25 with (first | (go_at_call 35; (with_reducible refine (keys_Next.calls k A9 c9 k1_ nx1 nx2 _ (Kd.R_reads' HK5.out).2.2 (Kd.R_reads' HK5.out).2.1 HNX1.out).mono ?_); rintro e w6 ⟨v10, rfl, ho, hb⟩; have HO9 := Aside0.mk (And.intro ho hb); clear ho hb t1))
              go_wp2
              obtain ⟨k1, rfl⟩ : ∃ k1, gk = k1 + 1 := ⟨gk - 1, by have := HA.out; omega⟩
              go_roundg k1
              case measure => omega
              case rel =>
                refine ⟨j + 1, nx1, nx2, by go_num, rfl, ⟨by have := HLT.out; omega, by have := HA.out.2.1; omega, HF1.out⟩, ⟨HI5.out.below HO9.out.2⟩, ⟨Kd.R_below HH5.out HO9.out.2⟩, ⟨Kd.R_lower HO9.out.1 (below_size HI5.out.b)⟩, ⟨young_u8 HH5.out HO9.out.1⟩⟩
            · skip
              have hF := HF.out
              rw [if_neg (fun h => h.elim hA hB)] at hF
              have q1 : (t.f1 == 8) = false := beq_eq_false_iff_ne.mpr hA
              have q2 : (t.f1 == 10) = false := beq_eq_false_iff_ne.mpr hB
              have HF1 : Aside0 (highF k vs l0_4 (up0.drop (j + 1)) k1_ true = some (r2, hi2)) := ⟨hF⟩
              clear hA hB HF hF
              go_wp2
              obtain ⟨k1, rfl⟩ : ∃ k1, gk = k1 + 1 := ⟨gk - 1, by have := HA.out; omega⟩
              go_roundg k1
              case measure => omega
              case rel =>
                refine ⟨j + 1, k1_, true, by go_num, rfl, ⟨by have := HLT.out; omega, by have := HA.out.2.1; omega, HF1.out⟩, ⟨HI5.out⟩, ⟨HH5.out⟩, ⟨HK5.out⟩, ⟨HY5.out⟩⟩
        · obtain rfl : j = up0.length := by omega
          have b0 : decide (up0.length < up0.length) = false := decide_eq_false hlt
          have b1 : decide ((up0.length : Int) < (up0.length : Int)) = false := decide_eq_false (by omega)
          have hcur : r2 = cur ∧ hi2 = ok := by
            have h := HA.out.2.2
            rw [List.drop_length] at h
            have h2 := Option.some.inj h
            exact ⟨(congrArg Prod.fst h2).symm, (congrArg Prod.snd h2).symm⟩
          obtain ⟨rfl, rfl⟩ := hcur
          clear hlt HA
          go_wp2
          go_ret3
          exact ⟨u4, u5, rfl, (two_u8 HL4.out H5.out HY.out).1, (two_u8 HL4.out H5.out HY.out).2, HI.out.b⟩
set_option maxHeartbeats 8000000 in
set_option maxRecDepth 100000 in
theorem range_keep1 (k : Nat) (a0_0 : Int) (a0_1 : ByteArray) (a0_2 : ByteArray) (A0_3 : Option Addr) (c0_3 : Nat) (l0_3 : List Int) (A0_4 : Option Addr) (c0_4 : Nat) (l0_4 : List Bool) (a0_5 : Bool) (A1 : Option Addr) (c1 : Nat) (l1 : List (S69)) (vs : List S25) (lo0 up0 : List S69) (be : List Int) (be2 : Int) (r1 r2 : List Int) (nb1 : List Int) (nb2 hi2 : Bool) (w : World) (hr0_3 : Kd.C (Kd.int .i64) w A0_3 l0_3.length l0_3) (hc0_3 : l0_3.length ≤ c0_3) (hr0_4 : Kd.C Kd.bool w A0_4 l0_4.length l0_4) (hc0_4 : l0_4.length ≤ c0_4) (hr1 : Kd.C k69 w A1 l1.length l1) (hc1 : l1.length ≤ c1) (hu : bounds_useOf.f a0_0 a0_1 a0_2 l0_3 l0_4 a0_5 l1 = some (vs, lo0, up0)) (he : keys_Encode.f k vs l0_4 = some (be, be2)) (hlo : lowF k vs l0_4 be lo0 be = some r1) (hnx : keys_Next.f k be = some (nb1, nb2)) (hhi : highF k vs l0_4 up0 nb1 nb2 = some (r2, hi2)) (hlt : vs.length < l0_4.length) (hsw : rdOf false l0_4 (vs.length : Int) = false) :
    Calls Try.prog 15 #[.agg #[.int .i64 a0_0, .string a0_1, .string a0_2, .slice A0_3 l0_3.length c0_3, .slice A0_4 l0_4.length c0_4, .bool a0_5], .slice A1 l1.length c1] w fun e w' => ∃ v0_ v1_ : Value, e = .returned (.tuple #[v0_, v1_, .bool (!hi2)]) ∧ Kd.R (Kd.int .u8) 5 w' w.heap.size (fun k_ => some k_ ≠ (v1_ : Value).ownBlock) v0_ r1 ∧ Kd.R (Kd.int .u8) 5 w' w.heap.size (fun k_ => some k_ ≠ (v0_ : Value).ownBlock) v1_ r2 ∧ Below w.heap.size w w' := by
  have hu41 := Try.underlying41
  have hu77 := Try.underlying77
  have hu69 := Try.underlying69
  have hu25 := Try.underlying25
  have HR3 := Aside0.mk (And.intro hr0_3 hc0_3)
  have HR4 := Aside0.mk (And.intro hr0_4 hc0_4)
  have HR1 := Aside0.mk (And.intro hr1 hc1)
  have HU := Aside0.mk hu
  have HEN := Aside0.mk he
  have HLO := Aside0.mk hlo
  have HNX := Aside0.mk hnx
  have HHI := Aside0.mk hhi
  obtain ⟨cx, hcx⟩ : ∃ cx : Array Value, cx = #[.int .i64 a0_0, .string a0_1, .string a0_2, .slice A0_3 l0_3.length c0_3, .slice A0_4 l0_4.length c0_4, .bool a0_5] := ⟨_, rfl⟩
  have HX := Aside0.mk hcx
  clear hr0_3 hc0_3 hr0_4 hc0_4 hr1 hc1 hu he hlo hnx hhi hcx
  have p4 : (0 : Int) ≤ (vs.length : Int) := by omega
  have q4 : (vs.length : Int) < (l0_4.length : Int) := by omega
  obtain ⟨ad4, e4, y4⟩ := Kd.at_bool HR4.out.1 (vs.length : Int) p4 q4
  cases e4
  rw [hsw] at y4
  simp only [Int.toNat_natCast] at y4
  have s1 : decide ((vs.length : Int) < (l0_4.length : Int)) = true := decide_eq_true q4
  have s2 : decide (vs.length < l0_4.length) = true := decide_eq_true hlt
  replace p4 := eq_true p4
  replace q4 := eq_true q4
  clear hsw hlt
  go_enter Try.func15, Try.ntmps15
  go_upto_region 1 with fail
  refine at_world (fun W => W.heap[w.heap.size]? = some (.cells #[.int .i64 a0_0, .string a0_1, .string a0_2, .slice A0_3 l0_3.length c0_3, .slice (some ad4) l0_4.length c0_4, .bool a0_5] 41 (0, 0)) ∧ Below w.heap.size w W) ⟨Deep.blk_alloc_new w _, below_alloc (Below.refl _ _) _⟩ (fun W hI => ?_)
  have HI0 := Aside0.mk hI
  clear hI
  have x0 : World.cell? W ⟨w.heap.size, 0, none⟩ = some (.int .i64 a0_0) := (blk_cell HI0.out.1 0).trans rfl
  have x1 : World.cell? W ⟨w.heap.size, 1, none⟩ = some (.string a0_1) := (blk_cell HI0.out.1 1).trans rfl
  have x2 : World.cell? W ⟨w.heap.size, 2, none⟩ = some (.string a0_2) := (blk_cell HI0.out.1 2).trans rfl
  have x3 : World.cell? W ⟨w.heap.size, 3, none⟩ = some (.slice A0_3 l0_3.length c0_3) := (blk_cell HI0.out.1 3).trans rfl
  have x4 : World.cell? W ⟨w.heap.size, 4, none⟩ = some (.slice (some ad4) l0_4.length c0_4) := (blk_cell HI0.out.1 4).trans rfl
  have x5 : World.cell? W ⟨w.heap.size, 5, none⟩ = some (.bool a0_5) := (blk_cell HI0.out.1 5).trans rfl
  go_upto_region 2 with (first | (go_at_call 31; (with_reducible refine (bounds_useOf.calls a0_0 a0_1 a0_2 A0_3 c0_3 l0_3 (some ad4) c0_4 l0_4 a0_5 A1 c1 l1 vs lo0 up0 _ (Kd.C_below HR3.out.1 HI0.out.2) HR3.out.2 (Kd.C_below HR4.out.1 HI0.out.2) HR4.out.2 (Kd.C_below HR1.out.1 HI0.out.2) HR1.out.2 HU.out).mono ?_); rintro e w2 ⟨v0, v1, v2, rfl, h0, h1, h2, hb⟩; obtain ⟨Av0, cv0, e0⟩ := Kd.R_slice h0; subst e0; obtain ⟨Av1, cv1, e1⟩ := Kd.R_slice h1; subst e1; obtain ⟨Av2, cv2, e2⟩ := Kd.R_slice h2; subst e2; have HK := Aside0.mk (And.intro h0 (And.intro h1 (And.intro h2 hb))); clear h0 h1 h2 hb x0 x1 x2 x3 x4 x5))
  refine at_world (fun W' => RI w cx w2.heap.size (.slice Av0 vs.length cv0) vs (.slice Av1 lo0.length cv1) lo0 (.slice Av2 up0.length cv2) up0 W' ∧ w.heap.size ≠ w2.heap.size) ?rr (fun W hI => ?_)
  case rr =>
    have hbw := HK.out.2.2.2
    have hlt := blk_lt (blk_below HI0.out.1 hbw)
    have hba := below_alloc (Below.refl w2.heap.size w2) (.cells #[.slice Av0 vs.length cv0, .slice Av1 lo0.length cv1, .slice Av2 up0.length cv2] 77)
    exact ⟨⟨by rw [HX.out]; exact blk_below (blk_below HI0.out.1 hbw) hba, Deep.blk_alloc_new w2 _, Nat.le_of_lt hlt, Kd.R_below (Kd.R_lower HK.out.1 (below_size HI0.out.2)) hba, Kd.R_below (Kd.R_mono (Kd.R_lower HK.out.2.1 (below_size HI0.out.2)) (fun _ _ => trivial)) hba, Kd.R_below (Kd.R_mono (Kd.R_lower HK.out.2.2.1 (below_size HI0.out.2)) (fun _ _ => trivial)) hba, below_step (below_step HI0.out.2 hbw) hba⟩, Nat.ne_of_lt hlt⟩
  have HNE := Aside0.mk hI.2
  have HI := Aside0.mk hI.1
  clear hI HK HI0
  have cu0 := HI.out.u0
  have fu0 := blk_frozen HI.out.2.1 0
  have cu1 := HI.out.u1
  have fu1 := blk_frozen HI.out.2.1 1
  have cu2 := HI.out.u2
  have fu2 := blk_frozen HI.out.2.1 2
  have cx4 : World.cell? _ ⟨w.heap.size, 4, none⟩ = some (.slice (some ad4) l0_4.length c0_4) := (blk_cell HI.out.1 4).trans (by rw [HX.out]; rfl)
  go_upto_region 3 with (first | (go_at_call 32; (with_reducible refine (keys_Encode.calls k Av0 cv0 vs (some ad4) c0_4 l0_4 be be2 _ (Kd.R_reads' HI.out.rv).2.2 (Kd.R_reads' HI.out.rv).2.1 (Kd.C_below HR4.out.1 HI.out.b) HR4.out.2 HEN.out).mono ?_); rintro e w3 ⟨v8, rfl, ho, hb⟩; have HB8 := Aside0.mk (Kd.R_lower ho (below_size HI.out.b)); have HI3 := Aside0.mk (HI.out.below hb); clear ho hb HI cu0 cu1 cu2 fu0 fu1 fu2 cx4))
  have HI := HI3
  clear HI3
  have cu0 := HI.out.u0
  have fu0 := blk_frozen HI.out.2.1 0
  have cu1 := HI.out.u1
  have fu1 := blk_frozen HI.out.2.1 1
  have cu2 := HI.out.u2
  have fu2 := blk_frozen HI.out.2.1 2
  have cx4 : World.cell? _ ⟨w.heap.size, 4, none⟩ = some (.slice (some ad4) l0_4.length c0_4) := (blk_cell HI.out.1 4).trans (by rw [HX.out]; rfl)
  replace y4 := (HI.out.b.cell (World.block_lt_of_cell? w _ y4)).trans y4
  go_upto_region 7 with fail
  clear cu0 cu1 cu2 fu0 fu1 fu2 cx4
  clear y4
  have cu0 := HI.out.u0
  have fu0 := blk_frozen HI.out.2.1 0
  have cu1 := HI.out.u1
  have fu1 := blk_frozen HI.out.2.1 1
  have cu2 := HI.out.u2
  have fu2 := blk_frozen HI.out.2.1 2
  go_upto_region 8 with fail
  go_wp2
  go_loopg [4, 56] (lo0.length + 1) (fun kq v4 v56 w' => ∃ (j : Nat) (cur : List Int), v56 = .int .i64 (j : Int) ∧ Aside0 (j ≤ lo0.length ∧ lo0.length - j < kq ∧ lowF k vs l0_4 be (lo0.drop j) cur = some r1) ∧ Aside0 (RI w cx w2.heap.size (.slice Av0 vs.length cv0) vs (.slice Av1 lo0.length cv1) lo0 (.slice Av2 up0.length cv2) up0 w') ∧ Aside0 (Kd.R (Kd.int .u8) 5 w' w.heap.size (fun _ => True) v8 be) ∧ Aside0 (Kd.R (Kd.int .u8) 5 w' w.heap.size (fun _ => True) v4 cur))
  case atStart => exact ⟨0, be, rfl, ⟨by omega, by omega, HLO.out⟩, HI, HB8, HB8⟩
  case round =>
    clear HI HB8 HLO cu0 cu1 cu2 fu0 fu1 fu2
    obtain ⟨j, cur, rfl, HA, HI, HB8, HL4⟩ := hrel
    have hj := HA.out.1
    by_cases hlt : j < lo0.length
    · skip
      have p0 : (0 : Int) ≤ (j : Int) := by omega
      have q0 : (j : Int) < (lo0.length : Int) := by omega
      have hnj := (Kd.R_reads' HI.out.r1).2.2.2.1
      obtain ⟨ad1, e0, hx0, hx1, hx2, hx3, hx4⟩ := at_T69 (Kd.R_reads' HI.out.r1).2.2 (j : Int) p0 q0
      cases e0
      simp only [Int.toNat_natCast] at hx0 hx1 hx2 hx3 hx4
      have b1 : decide ((j : Int) < (lo0.length : Int)) = true := decide_eq_true q0
      have b0 : decide (j < lo0.length) = true := decide_eq_true hlt
      have HLT := Aside0.mk hlt
      have hdrop : lo0.drop j = rd_T69 lo0 (j : Int) :: lo0.drop (j + 1) := by
        rw [List.drop_eq_getElem_cons hlt]
        simp [rd_T69, List.getD_eq_getElem?_getD, List.getElem?_eq_getElem hlt]
      have hF := HA.out.2.2
      rw [hdrop] at hF
      clear hdrop
      generalize rd_T69 lo0 (j : Int) = t at hx0 hx1 hx2 hx3 hx4 hF
      unfold lowF at hF
      replace hF := Option.bind_eq_some_iff.mp hF
      obtain ⟨kk, hkk, hF⟩ := hF
      unfold keyF at hkk
      by_cases hvs : vs.length + 1 ≤ 4398046511104
      case neg => rw [if_neg hvs] at hkk; cases hkk
      rw [if_pos hvs] at hkk
      replace hkk := Option.bind_eq_some_iff.mp hkk
      obtain ⟨⟨k1_, k2_⟩, hke, hkk⟩ := hkk
      obtain rfl : k1_ = kk := Option.some.inj hkk
      have HVS := Aside0.mk hvs
      have HKE := Aside0.mk hke
      have HF := Aside0.mk hF
      clear hvs hke hkk hF hlt
      go_upto_region 11 with fail
      refine at_world (fun W' => (RI w cx w2.heap.size (.slice Av0 vs.length cv0) vs (.slice (some ad1) lo0.length cv1) lo0 (.slice Av2 up0.length cv2) up0 W' ∧ Kd.R (Kd.int .u8) 5 W' w.heap.size (fun _ => True) v8 be) ∧ W'.heap[wr.heap.size]? = some (.cells #[.int .i64 t.f0, .int .i64 t.f1, .int .i64 t.f2.f0, .int .i64 t.f2.f1, .string t.f2.f2] 69 (0, 0))) ⟨⟨HI.out.below (below_alloc (Below.refl _ _) _), Kd.R_below HB8.out (below_alloc (Below.refl _ _) _)⟩, Deep.blk_alloc_new wr _⟩ (fun W4 hI => ?_)
      clear HI HB8 hx0 hx1 hx2 hx3 hx4
      have HI := Aside0.mk hI.1.1
      have HH := Aside0.mk hI.1.2
      have HT := Aside0.mk hI.2
      clear hI
      have t0 : W4.cell? ⟨wr.heap.size, 0, none⟩ = some (.int .i64 t.f0) := (blk_cell HT.out 0).trans rfl
      have t1 : W4.cell? ⟨wr.heap.size, 1, none⟩ = some (.int .i64 t.f1) := (blk_cell HT.out 1).trans rfl
      have t2 : W4.cell? ⟨wr.heap.size, 2, none⟩ = some (.int .i64 t.f2.f0) := (blk_cell HT.out 2).trans rfl
      have t3 : W4.cell? ⟨wr.heap.size, 3, none⟩ = some (.int .i64 t.f2.f1) := (blk_cell HT.out 3).trans rfl
      have t4 : W4.cell? ⟨wr.heap.size, 4, none⟩ = some (.string t.f2.f2) := (blk_cell HT.out 4).trans rfl
      have hkc := key.calls t w2.heap.size w.heap.size Av0 cv0 vs (some ad4) c0_4 l0_4 k k1_ k2_ W4 HI.out.u0 ((blk_cell HI.out.1 4).trans (by rw [HX.out]; rfl)) (Kd.R_reads' HI.out.rv).2.2 (Kd.R_reads' HI.out.rv).2.1 (Kd.C_below HR4.out.1 HI.out.b) HR4.out.2 HVS.out HKE.out
      simp only [encT] at hkc
      go_upto_region 12 with (first | (go_at_call 33; refine hkc.mono ?_; rintro e w5 ⟨v9, rfl, ho, hb⟩; obtain ⟨A9, c9, e9⟩ := Kd.R_slice ho; subst e9; have HO9 := Aside0.mk (And.intro ho hb); clear ho hb hkc t0 t1 t2 t3 t4))
      have HI5 := Aside0.mk (HI.out.below HO9.out.2)
      have HH5 := Aside0.mk (Kd.R_below HH.out HO9.out.2)
      have HT5 := Aside0.mk (blk_below HT.out HO9.out.2)
      have HK5 := Aside0.mk (Kd.R_lower HO9.out.1 (below_size HI.out.b))
      have HY5 := Aside0.mk (trivial)
      clear HI HH HT HO9
      have t1 : w5.cell? ⟨wr.heap.size, 1, none⟩ = some (.int .i64 t.f1) := (blk_cell HT5.out 1).trans rfl
      by_cases hA : t.f1 = 9
      · skip
        have hF := HF.out
        rw [if_pos (Or.inl hA)] at hF
        have q1 : (t.f1 == 9) = true := beq_iff_eq.mpr hA
        replace hF := Option.bind_eq_some_iff.mp hF
        obtain ⟨⟨nx1, nx2⟩, hn1, hF⟩ := hF
        have HNX1 := Aside0.mk hn1
        clear hA HF hn1
        cases nx2 with
        | true =>
          have HF1 : Aside0 (lowF k vs l0_4 be (lo0.drop (j + 1)) nx1 = some r1) := ⟨hF⟩
          clear hF
          go_upto_region 15 with (first | (go_at_call 35; (with_reducible refine (keys_Next.calls k A9 c9 k1_ nx1 true _ (Kd.R_reads' HK5.out).2.2 (Kd.R_reads' HK5.out).2.1 HNX1.out).mono ?_); rintro e w6 ⟨v10, rfl, ho, hb⟩; have HO9 := Aside0.mk (And.intro ho hb); clear ho hb t1))
          go_wp2
          obtain ⟨k1, rfl⟩ : ∃ k1, gk = k1 + 1 := ⟨gk - 1, by have := HA.out; omega⟩
          go_roundg k1
          case measure => omega
          case rel =>
            refine ⟨j + 1, nx1, by go_num, ⟨by have := HLT.out; omega, by have := HA.out.2.1; omega, HF1.out⟩, ⟨HI5.out.below HO9.out.2⟩, ⟨Kd.R_below HH5.out HO9.out.2⟩, ⟨Kd.R_lower HO9.out.1 (below_size HI5.out.b)⟩⟩
        | false =>
          have HF1 : Aside0 (lowF k vs l0_4 be (lo0.drop (j + 1)) be = some r1) := ⟨hF⟩
          clear hF
          go_upto_region 15 with (first | (go_at_call 35; (with_reducible refine (keys_Next.calls k A9 c9 k1_ nx1 false _ (Kd.R_reads' HK5.out).2.2 (Kd.R_reads' HK5.out).2.1 HNX1.out).mono ?_); rintro e w6 ⟨v10, rfl, ho, hb⟩; have HO9 := Aside0.mk (And.intro ho hb); clear ho hb t1))
          go_wp2
          obtain ⟨k1, rfl⟩ : ∃ k1, gk = k1 + 1 := ⟨gk - 1, by have := HA.out; omega⟩
          go_roundg k1
          case measure => omega
          case rel =>
            refine ⟨j + 1, be, by go_num, ⟨by have := HLT.out; omega, by have := HA.out.2.1; omega, HF1.out⟩, ⟨HI5.out.below HO9.out.2⟩, ⟨Kd.R_below HH5.out HO9.out.2⟩, ⟨Kd.R_below HH5.out HO9.out.2⟩⟩
      · by_cases hB : t.f1 = 7
        · skip
          have hF := HF.out
          rw [if_pos (Or.inr hB)] at hF
          have q1 : (t.f1 == 9) = false := beq_eq_false_iff_ne.mpr hA
          have q2 : (t.f1 == 7) = true := beq_iff_eq.mpr hB
          replace hF := Option.bind_eq_some_iff.mp hF
          obtain ⟨⟨nx1, nx2⟩, hn1, hF⟩ := hF
          have HNX1 := Aside0.mk hn1
          clear hA hB HF hn1
          cases nx2 with
          | true =>
            have HF1 : Aside0 (lowF k vs l0_4 be (lo0.drop (j + 1)) nx1 = some r1) := ⟨hF⟩
            clear hF
            go_upto_region 15 with (first | (go_at_call 35; (with_reducible refine (keys_Next.calls k A9 c9 k1_ nx1 true _ (Kd.R_reads' HK5.out).2.2 (Kd.R_reads' HK5.out).2.1 HNX1.out).mono ?_); rintro e w6 ⟨v10, rfl, ho, hb⟩; have HO9 := Aside0.mk (And.intro ho hb); clear ho hb t1))
            go_wp2
            obtain ⟨k1, rfl⟩ : ∃ k1, gk = k1 + 1 := ⟨gk - 1, by have := HA.out; omega⟩
            go_roundg k1
            case measure => omega
            case rel =>
              refine ⟨j + 1, nx1, by go_num, ⟨by have := HLT.out; omega, by have := HA.out.2.1; omega, HF1.out⟩, ⟨HI5.out.below HO9.out.2⟩, ⟨Kd.R_below HH5.out HO9.out.2⟩, ⟨Kd.R_lower HO9.out.1 (below_size HI5.out.b)⟩⟩
          | false =>
            have HF1 : Aside0 (lowF k vs l0_4 be (lo0.drop (j + 1)) be = some r1) := ⟨hF⟩
            clear hF
            go_upto_region 15 with (first | (go_at_call 35; (with_reducible refine (keys_Next.calls k A9 c9 k1_ nx1 false _ (Kd.R_reads' HK5.out).2.2 (Kd.R_reads' HK5.out).2.1 HNX1.out).mono ?_); rintro e w6 ⟨v10, rfl, ho, hb⟩; have HO9 := Aside0.mk (And.intro ho hb); clear ho hb t1))
            go_wp2
            obtain ⟨k1, rfl⟩ : ∃ k1, gk = k1 + 1 := ⟨gk - 1, by have := HA.out; omega⟩
            go_roundg k1
            case measure => omega
            case rel =>
              refine ⟨j + 1, be, by go_num, ⟨by have := HLT.out; omega, by have := HA.out.2.1; omega, HF1.out⟩, ⟨HI5.out.below HO9.out.2⟩, ⟨Kd.R_below HH5.out HO9.out.2⟩, ⟨Kd.R_below HH5.out HO9.out.2⟩⟩
        · skip
          have hF := HF.out
          rw [if_neg (fun h => h.elim hA hB)] at hF
          have q1 : (t.f1 == 9) = false := beq_eq_false_iff_ne.mpr hA
          have q2 : (t.f1 == 7) = false := beq_eq_false_iff_ne.mpr hB
          have HF1 : Aside0 (lowF k vs l0_4 be (lo0.drop (j + 1)) k1_ = some r1) := ⟨hF⟩
          clear hA hB HF hF
          go_wp2
          obtain ⟨k1, rfl⟩ : ∃ k1, gk = k1 + 1 := ⟨gk - 1, by have := HA.out; omega⟩
          go_roundg k1
          case measure => omega
          case rel =>
            refine ⟨j + 1, k1_, by go_num, ⟨by have := HLT.out; omega, by have := HA.out.2.1; omega, HF1.out⟩, ⟨HI5.out⟩, ⟨HH5.out⟩, ⟨HK5.out⟩⟩
    · obtain rfl : j = lo0.length := by omega
      have b0 : decide (lo0.length < lo0.length) = false := decide_eq_false hlt
      have b1 : decide ((lo0.length : Int) < (lo0.length : Int)) = false := decide_eq_false (by omega)
      have hcur : r1 = cur := by
        have h := HA.out.2.2
        rw [List.drop_length] at h
        exact (Option.some.inj h).symm
      subst hcur
      clear hlt HA
      obtain ⟨A8, c8, e8⟩ := Kd.R_slice HB8.out
      subst e8
      go_upto_region 19 with (first | (go_at_call 35; (with_reducible refine (keys_Next.calls k A8 c8 be nb1 nb2 _ (Kd.R_reads' HB8.out).2.2 (Kd.R_reads' HB8.out).2.1 HNX.out).mono ?_); rintro e w6 ⟨v5, rfl, ho, hb⟩; have HO9 := Aside0.mk (And.intro ho hb); clear ho hb))
      have HY := Aside0.mk (young_u8 HL4.out HO9.out.1)
      have HI6 := Aside0.mk (HI.out.below HO9.out.2)
      have HL6 := Aside0.mk (Kd.R_below HL4.out HO9.out.2)
      have H5 := Aside0.mk (Kd.R_lower HO9.out.1 (below_size HI.out.b))
      clear HI HL4 HB8 HO9
      have HI := HI6
      have HL4 := HL6
      clear HI6 HL6
      have cu0 := HI.out.u0
      have fu0 := blk_frozen HI.out.2.1 0
      have cu1 := HI.out.u1
      have fu1 := blk_frozen HI.out.2.1 1
      have cu2 := HI.out.u2
      have fu2 := blk_frozen HI.out.2.1 2
      go_wp2
      go_loopg [5, 16, 89] (up0.length + 1) (fun kq v5 v16 v89 w' => ∃ (j : Nat) (cur : List Int) (ok : Bool), v89 = .int .i64 (j : Int) ∧ v16 = .bool ok ∧ Aside0 (j ≤ up0.length ∧ up0.length - j < kq ∧ highF k vs l0_4 (up0.drop j) cur ok = some (r2, hi2)) ∧ Aside0 (RI w cx w2.heap.size (.slice Av0 vs.length cv0) vs (.slice Av1 lo0.length cv1) lo0 (.slice Av2 up0.length cv2) up0 w') ∧ Aside0 (Kd.R (Kd.int .u8) 5 w' w.heap.size (fun _ => True) u4 r1) ∧ Aside0 (Kd.R (Kd.int .u8) 5 w' w.heap.size (fun _ => True) v5 cur) ∧ Aside0 (∀ k, v5.ownBlock = some k → some k ≠ u4.ownBlock))
      case atStart => exact ⟨0, nb1, nb2, rfl, rfl, ⟨by omega, by omega, HHI.out⟩, HI, HL4, H5, HY⟩
      case round =>
        clear HI HL4 HHI H5 HY cu0 cu1 cu2 fu0 fu1 fu2
        obtain ⟨j, cur, ok, rfl, rfl, HA, HI, HL4, H5, HY⟩ := hrel
        have hj := HA.out.1
        by_cases hlt : j < up0.length
        · skip
          have p0 : (0 : Int) ≤ (j : Int) := by omega
          have q0 : (j : Int) < (up0.length : Int) := by omega
          have hnj := (Kd.R_reads' HI.out.r2).2.2.2.1
          obtain ⟨ad1, e0, hx0, hx1, hx2, hx3, hx4⟩ := at_T69 (Kd.R_reads' HI.out.r2).2.2 (j : Int) p0 q0
          cases e0
          simp only [Int.toNat_natCast] at hx0 hx1 hx2 hx3 hx4
          have b1 : decide ((j : Int) < (up0.length : Int)) = true := decide_eq_true q0
          have b0 : decide (j < up0.length) = true := decide_eq_true hlt
          have HLT := Aside0.mk hlt
          have hdrop : up0.drop j = rd_T69 up0 (j : Int) :: up0.drop (j + 1) := by
            rw [List.drop_eq_getElem_cons hlt]
            simp [rd_T69, List.getD_eq_getElem?_getD, List.getElem?_eq_getElem hlt]
          have hF := HA.out.2.2
          rw [hdrop] at hF
          clear hdrop
          generalize rd_T69 up0 (j : Int) = t at hx0 hx1 hx2 hx3 hx4 hF
          unfold highF at hF
          replace hF := Option.bind_eq_some_iff.mp hF
          obtain ⟨kk, hkk, hF⟩ := hF
          unfold keyF at hkk
          by_cases hvs : vs.length + 1 ≤ 4398046511104
          case neg => rw [if_neg hvs] at hkk; cases hkk
          rw [if_pos hvs] at hkk
          replace hkk := Option.bind_eq_some_iff.mp hkk
          obtain ⟨⟨k1_, k2_⟩, hke, hkk⟩ := hkk
          obtain rfl : k1_ = kk := Option.some.inj hkk
          have HVS := Aside0.mk hvs
          have HKE := Aside0.mk hke
          have HF := Aside0.mk hF
          clear hvs hke hkk hF hlt
          go_upto_region 22 with fail
          refine at_world (fun W' => (RI w cx w2.heap.size (.slice Av0 vs.length cv0) vs (.slice Av1 lo0.length cv1) lo0 (.slice (some ad1) up0.length cv2) up0 W' ∧ Kd.R (Kd.int .u8) 5 W' w.heap.size (fun _ => True) u4 r1) ∧ W'.heap[wr.heap.size]? = some (.cells #[.int .i64 t.f0, .int .i64 t.f1, .int .i64 t.f2.f0, .int .i64 t.f2.f1, .string t.f2.f2] 69 (0, 0))) ⟨⟨HI.out.below (below_alloc (Below.refl _ _) _), Kd.R_below HL4.out (below_alloc (Below.refl _ _) _)⟩, Deep.blk_alloc_new wr _⟩ (fun W4 hI => ?_)
          clear HI HL4 hx0 hx1 hx2 hx3 hx4
          have HI := Aside0.mk hI.1.1
          have HH := Aside0.mk hI.1.2
          have HT := Aside0.mk hI.2
          clear hI
          have t0 : W4.cell? ⟨wr.heap.size, 0, none⟩ = some (.int .i64 t.f0) := (blk_cell HT.out 0).trans rfl
          have t1 : W4.cell? ⟨wr.heap.size, 1, none⟩ = some (.int .i64 t.f1) := (blk_cell HT.out 1).trans rfl
          have t2 : W4.cell? ⟨wr.heap.size, 2, none⟩ = some (.int .i64 t.f2.f0) := (blk_cell HT.out 2).trans rfl
          have t3 : W4.cell? ⟨wr.heap.size, 3, none⟩ = some (.int .i64 t.f2.f1) := (blk_cell HT.out 3).trans rfl
          have t4 : W4.cell? ⟨wr.heap.size, 4, none⟩ = some (.string t.f2.f2) := (blk_cell HT.out 4).trans rfl
          have hkc := key.calls t w2.heap.size w.heap.size Av0 cv0 vs (some ad4) c0_4 l0_4 k k1_ k2_ W4 HI.out.u0 ((blk_cell HI.out.1 4).trans (by rw [HX.out]; rfl)) (Kd.R_reads' HI.out.rv).2.2 (Kd.R_reads' HI.out.rv).2.1 (Kd.C_below HR4.out.1 HI.out.b) HR4.out.2 HVS.out HKE.out
          simp only [encT] at hkc
          go_upto_region 23 with (first | (go_at_call 33; refine hkc.mono ?_; rintro e w5 ⟨v9, rfl, ho, hb⟩; obtain ⟨A9, c9, e9⟩ := Kd.R_slice ho; subst e9; have HO9 := Aside0.mk (And.intro ho hb); clear ho hb hkc t0 t1 t2 t3 t4))
          have HI5 := Aside0.mk (HI.out.below HO9.out.2)
          have HH5 := Aside0.mk (Kd.R_below HH.out HO9.out.2)
          have HT5 := Aside0.mk (blk_below HT.out HO9.out.2)
          have HK5 := Aside0.mk (Kd.R_lower HO9.out.1 (below_size HI.out.b))
          have HY5 := Aside0.mk (young_u8 HH.out HO9.out.1)
          clear HI HH HT HO9
          have t1 : w5.cell? ⟨wr.heap.size, 1, none⟩ = some (.int .i64 t.f1) := (blk_cell HT5.out 1).trans rfl
          by_cases hA : t.f1 = 8
          · skip
            have hF := HF.out
            rw [if_pos (Or.inl hA)] at hF
            have q1 : (t.f1 == 8) = true := beq_iff_eq.mpr hA
            replace hF := Option.bind_eq_some_iff.mp hF
            obtain ⟨⟨nx1, nx2⟩, hn1, hF⟩ := hF
            have HNX1 := Aside0.mk hn1
            clear hA HF hn1
            have HF1 : Aside0 (highF k vs l0_4 (up0.drop (j + 1)) nx1 nx2 = some (r2, hi2)) := ⟨hF⟩
            clear hF
            go_upto_region 25 with (first | (go_at_call 35; (with_reducible refine (keys_Next.calls k A9 c9 k1_ nx1 nx2 _ (Kd.R_reads' HK5.out).2.2 (Kd.R_reads' HK5.out).2.1 HNX1.out).mono ?_); rintro e w6 ⟨v10, rfl, ho, hb⟩; have HO9 := Aside0.mk (And.intro ho hb); clear ho hb t1))
            go_wp2
            obtain ⟨k1, rfl⟩ : ∃ k1, gk = k1 + 1 := ⟨gk - 1, by have := HA.out; omega⟩
            go_roundg k1
            case measure => omega
            case rel =>
              refine ⟨j + 1, nx1, nx2, by go_num, rfl, ⟨by have := HLT.out; omega, by have := HA.out.2.1; omega, HF1.out⟩, ⟨HI5.out.below HO9.out.2⟩, ⟨Kd.R_below HH5.out HO9.out.2⟩, ⟨Kd.R_lower HO9.out.1 (below_size HI5.out.b)⟩, ⟨young_u8 HH5.out HO9.out.1⟩⟩
          · by_cases hB : t.f1 = 10
            · skip
              have hF := HF.out
              rw [if_pos (Or.inr hB)] at hF
              have q1 : (t.f1 == 8) = false := beq_eq_false_iff_ne.mpr hA
              have q2 : (t.f1 == 10) = true := beq_iff_eq.mpr hB
              replace hF := Option.bind_eq_some_iff.mp hF
              obtain ⟨⟨nx1, nx2⟩, hn1, hF⟩ := hF
              have HNX1 := Aside0.mk hn1
              clear hA hB HF hn1
              have HF1 : Aside0 (highF k vs l0_4 (up0.drop (j + 1)) nx1 nx2 = some (r2, hi2)) := ⟨hF⟩
              clear hF
              go_upto_region 25 with (first | (go_at_call 35; (with_reducible refine (keys_Next.calls k A9 c9 k1_ nx1 nx2 _ (Kd.R_reads' HK5.out).2.2 (Kd.R_reads' HK5.out).2.1 HNX1.out).mono ?_); rintro e w6 ⟨v10, rfl, ho, hb⟩; have HO9 := Aside0.mk (And.intro ho hb); clear ho hb t1))
              go_wp2
              obtain ⟨k1, rfl⟩ : ∃ k1, gk = k1 + 1 := ⟨gk - 1, by have := HA.out; omega⟩
              go_roundg k1
              case measure => omega
              case rel =>
                refine ⟨j + 1, nx1, nx2, by go_num, rfl, ⟨by have := HLT.out; omega, by have := HA.out.2.1; omega, HF1.out⟩, ⟨HI5.out.below HO9.out.2⟩, ⟨Kd.R_below HH5.out HO9.out.2⟩, ⟨Kd.R_lower HO9.out.1 (below_size HI5.out.b)⟩, ⟨young_u8 HH5.out HO9.out.1⟩⟩
            · skip
              have hF := HF.out
              rw [if_neg (fun h => h.elim hA hB)] at hF
              have q1 : (t.f1 == 8) = false := beq_eq_false_iff_ne.mpr hA
              have q2 : (t.f1 == 10) = false := beq_eq_false_iff_ne.mpr hB
              have HF1 : Aside0 (highF k vs l0_4 (up0.drop (j + 1)) k1_ true = some (r2, hi2)) := ⟨hF⟩
              clear hA hB HF hF
              go_wp2
              obtain ⟨k1, rfl⟩ : ∃ k1, gk = k1 + 1 := ⟨gk - 1, by have := HA.out; omega⟩
              go_roundg k1
              case measure => omega
              case rel =>
                refine ⟨j + 1, k1_, true, by go_num, rfl, ⟨by have := HLT.out; omega, by have := HA.out.2.1; omega, HF1.out⟩, ⟨HI5.out⟩, ⟨HH5.out⟩, ⟨HK5.out⟩, ⟨HY5.out⟩⟩
        · obtain rfl : j = up0.length := by omega
          have b0 : decide (up0.length < up0.length) = false := decide_eq_false hlt
          have b1 : decide ((up0.length : Int) < (up0.length : Int)) = false := decide_eq_false (by omega)
          have hcur : r2 = cur ∧ hi2 = ok := by
            have h := HA.out.2.2
            rw [List.drop_length] at h
            have h2 := Option.some.inj h
            exact ⟨(congrArg Prod.fst h2).symm, (congrArg Prod.snd h2).symm⟩
          obtain ⟨rfl, rfl⟩ := hcur
          clear hlt HA
          go_wp2
          go_ret3
          exact ⟨u4, u5, rfl, (two_u8 HL4.out H5.out HY.out).1, (two_u8 HL4.out H5.out HY.out).2, HI.out.b⟩
set_option maxHeartbeats 8000000 in
set_option maxRecDepth 100000 in
theorem range_swap (k : Nat) (a0_0 : Int) (a0_1 : ByteArray) (a0_2 : ByteArray) (A0_3 : Option Addr) (c0_3 : Nat) (l0_3 : List Int) (A0_4 : Option Addr) (c0_4 : Nat) (l0_4 : List Bool) (a0_5 : Bool) (A1 : Option Addr) (c1 : Nat) (l1 : List (S69)) (vs : List S25) (lo0 up0 : List S69) (be : List Int) (be2 : Int) (r1 r2 : List Int) (nb1 : List Int) (nb2 hi2 : Bool) (w : World) (hr0_3 : Kd.C (Kd.int .i64) w A0_3 l0_3.length l0_3) (hc0_3 : l0_3.length ≤ c0_3) (hr0_4 : Kd.C Kd.bool w A0_4 l0_4.length l0_4) (hc0_4 : l0_4.length ≤ c0_4) (hr1 : Kd.C k69 w A1 l1.length l1) (hc1 : l1.length ≤ c1) (hu : bounds_useOf.f a0_0 a0_1 a0_2 l0_3 l0_4 a0_5 l1 = some (vs, lo0, up0)) (he : keys_Encode.f k vs l0_4 = some (be, be2)) (hlo : lowF k vs l0_4 be up0 be = some r1) (hnx : keys_Next.f k be = some (nb1, nb2)) (hhi : highF k vs l0_4 lo0 nb1 nb2 = some (r2, hi2)) (hlt : vs.length < l0_4.length) (hsw : rdOf false l0_4 (vs.length : Int) = true) :
    Calls Try.prog 15 #[.agg #[.int .i64 a0_0, .string a0_1, .string a0_2, .slice A0_3 l0_3.length c0_3, .slice A0_4 l0_4.length c0_4, .bool a0_5], .slice A1 l1.length c1] w fun e w' => ∃ v0_ v1_ : Value, e = .returned (.tuple #[v0_, v1_, .bool (!hi2)]) ∧ Kd.R (Kd.int .u8) 5 w' w.heap.size (fun k_ => some k_ ≠ (v1_ : Value).ownBlock) v0_ r1 ∧ Kd.R (Kd.int .u8) 5 w' w.heap.size (fun k_ => some k_ ≠ (v0_ : Value).ownBlock) v1_ r2 ∧ Below w.heap.size w w' := by
  have hu41 := Try.underlying41
  have hu77 := Try.underlying77
  have hu69 := Try.underlying69
  have hu25 := Try.underlying25
  have HR3 := Aside0.mk (And.intro hr0_3 hc0_3)
  have HR4 := Aside0.mk (And.intro hr0_4 hc0_4)
  have HR1 := Aside0.mk (And.intro hr1 hc1)
  have HU := Aside0.mk hu
  have HEN := Aside0.mk he
  have HLO := Aside0.mk hlo
  have HNX := Aside0.mk hnx
  have HHI := Aside0.mk hhi
  obtain ⟨cx, hcx⟩ : ∃ cx : Array Value, cx = #[.int .i64 a0_0, .string a0_1, .string a0_2, .slice A0_3 l0_3.length c0_3, .slice A0_4 l0_4.length c0_4, .bool a0_5] := ⟨_, rfl⟩
  have HX := Aside0.mk hcx
  clear hr0_3 hc0_3 hr0_4 hc0_4 hr1 hc1 hu he hlo hnx hhi hcx
  have p4 : (0 : Int) ≤ (vs.length : Int) := by omega
  have q4 : (vs.length : Int) < (l0_4.length : Int) := by omega
  obtain ⟨ad4, e4, y4⟩ := Kd.at_bool HR4.out.1 (vs.length : Int) p4 q4
  cases e4
  rw [hsw] at y4
  simp only [Int.toNat_natCast] at y4
  have s1 : decide ((vs.length : Int) < (l0_4.length : Int)) = true := decide_eq_true q4
  have s2 : decide (vs.length < l0_4.length) = true := decide_eq_true hlt
  replace p4 := eq_true p4
  replace q4 := eq_true q4
  clear hsw hlt
  go_enter Try.func15, Try.ntmps15
  go_upto_region 1 with fail
  refine at_world (fun W => W.heap[w.heap.size]? = some (.cells #[.int .i64 a0_0, .string a0_1, .string a0_2, .slice A0_3 l0_3.length c0_3, .slice (some ad4) l0_4.length c0_4, .bool a0_5] 41 (0, 0)) ∧ Below w.heap.size w W) ⟨Deep.blk_alloc_new w _, below_alloc (Below.refl _ _) _⟩ (fun W hI => ?_)
  have HI0 := Aside0.mk hI
  clear hI
  have x0 : World.cell? W ⟨w.heap.size, 0, none⟩ = some (.int .i64 a0_0) := (blk_cell HI0.out.1 0).trans rfl
  have x1 : World.cell? W ⟨w.heap.size, 1, none⟩ = some (.string a0_1) := (blk_cell HI0.out.1 1).trans rfl
  have x2 : World.cell? W ⟨w.heap.size, 2, none⟩ = some (.string a0_2) := (blk_cell HI0.out.1 2).trans rfl
  have x3 : World.cell? W ⟨w.heap.size, 3, none⟩ = some (.slice A0_3 l0_3.length c0_3) := (blk_cell HI0.out.1 3).trans rfl
  have x4 : World.cell? W ⟨w.heap.size, 4, none⟩ = some (.slice (some ad4) l0_4.length c0_4) := (blk_cell HI0.out.1 4).trans rfl
  have x5 : World.cell? W ⟨w.heap.size, 5, none⟩ = some (.bool a0_5) := (blk_cell HI0.out.1 5).trans rfl
  go_upto_region 2 with (first | (go_at_call 31; (with_reducible refine (bounds_useOf.calls a0_0 a0_1 a0_2 A0_3 c0_3 l0_3 (some ad4) c0_4 l0_4 a0_5 A1 c1 l1 vs lo0 up0 _ (Kd.C_below HR3.out.1 HI0.out.2) HR3.out.2 (Kd.C_below HR4.out.1 HI0.out.2) HR4.out.2 (Kd.C_below HR1.out.1 HI0.out.2) HR1.out.2 HU.out).mono ?_); rintro e w2 ⟨v0, v1, v2, rfl, h0, h1, h2, hb⟩; obtain ⟨Av0, cv0, e0⟩ := Kd.R_slice h0; subst e0; obtain ⟨Av1, cv1, e1⟩ := Kd.R_slice h1; subst e1; obtain ⟨Av2, cv2, e2⟩ := Kd.R_slice h2; subst e2; have HK := Aside0.mk (And.intro h0 (And.intro h1 (And.intro h2 hb))); clear h0 h1 h2 hb x0 x1 x2 x3 x4 x5))
  refine at_world (fun W' => RI w cx w2.heap.size (.slice Av0 vs.length cv0) vs (.slice Av1 lo0.length cv1) lo0 (.slice Av2 up0.length cv2) up0 W' ∧ w.heap.size ≠ w2.heap.size) ?rr (fun W hI => ?_)
  case rr =>
    have hbw := HK.out.2.2.2
    have hlt := blk_lt (blk_below HI0.out.1 hbw)
    have hba := below_alloc (Below.refl w2.heap.size w2) (.cells #[.slice Av0 vs.length cv0, .slice Av1 lo0.length cv1, .slice Av2 up0.length cv2] 77)
    exact ⟨⟨by rw [HX.out]; exact blk_below (blk_below HI0.out.1 hbw) hba, Deep.blk_alloc_new w2 _, Nat.le_of_lt hlt, Kd.R_below (Kd.R_lower HK.out.1 (below_size HI0.out.2)) hba, Kd.R_below (Kd.R_mono (Kd.R_lower HK.out.2.1 (below_size HI0.out.2)) (fun _ _ => trivial)) hba, Kd.R_below (Kd.R_mono (Kd.R_lower HK.out.2.2.1 (below_size HI0.out.2)) (fun _ _ => trivial)) hba, below_step (below_step HI0.out.2 hbw) hba⟩, Nat.ne_of_lt hlt⟩
  have HNE := Aside0.mk hI.2
  have HI := Aside0.mk hI.1
  clear hI HK HI0
  have cu0 := HI.out.u0
  have fu0 := blk_frozen HI.out.2.1 0
  have cu1 := HI.out.u1
  have fu1 := blk_frozen HI.out.2.1 1
  have cu2 := HI.out.u2
  have fu2 := blk_frozen HI.out.2.1 2
  have cx4 : World.cell? _ ⟨w.heap.size, 4, none⟩ = some (.slice (some ad4) l0_4.length c0_4) := (blk_cell HI.out.1 4).trans (by rw [HX.out]; rfl)
  go_upto_region 3 with (first | (go_at_call 32; (with_reducible refine (keys_Encode.calls k Av0 cv0 vs (some ad4) c0_4 l0_4 be be2 _ (Kd.R_reads' HI.out.rv).2.2 (Kd.R_reads' HI.out.rv).2.1 (Kd.C_below HR4.out.1 HI.out.b) HR4.out.2 HEN.out).mono ?_); rintro e w3 ⟨v8, rfl, ho, hb⟩; have HB8 := Aside0.mk (Kd.R_lower ho (below_size HI.out.b)); have HI3 := Aside0.mk (HI.out.below hb); clear ho hb HI cu0 cu1 cu2 fu0 fu1 fu2 cx4))
  have HI := HI3
  clear HI3
  have cu0 := HI.out.u0
  have fu0 := blk_frozen HI.out.2.1 0
  have cu1 := HI.out.u1
  have fu1 := blk_frozen HI.out.2.1 1
  have cu2 := HI.out.u2
  have fu2 := blk_frozen HI.out.2.1 2
  have cx4 : World.cell? _ ⟨w.heap.size, 4, none⟩ = some (.slice (some ad4) l0_4.length c0_4) := (blk_cell HI.out.1 4).trans (by rw [HX.out]; rfl)
  replace y4 := (HI.out.b.cell (World.block_lt_of_cell? w _ y4)).trans y4
  go_upto_region 6 with fail
  have b7 := blk_frozen HI.out.2.1 1
  have b8 := blk_frozen HI.out.2.1 2
  go_upto_region 7 with fail
  refine at_world (fun W' => RI w cx w2.heap.size (.slice Av0 vs.length cv0) vs (.slice Av2 up0.length cv2) up0 (.slice Av1 lo0.length cv1) lo0 W' ∧ Kd.R (Kd.int .u8) 5 W' w.heap.size (fun _ => True) v8 be) ⟨HI.out.swap HNE.out, R_setK (R_setK HB8.out HI.out.2.1 (by decide) _ _) (blk_put HI.out.2.1 1 _ rfl) (by decide) _ _⟩ (fun W' hI => ?_)
  clear HI HB8 b7 b8 cu0 cu1 cu2 fu0 fu1 fu2 cx4
  have HI := Aside0.mk hI.1
  have HB8 := Aside0.mk hI.2
  clear hI
  clear y4
  have cu0 := HI.out.u0
  have fu0 := blk_frozen HI.out.2.1 0
  have cu1 := HI.out.u1
  have fu1 := blk_frozen HI.out.2.1 1
  have cu2 := HI.out.u2
  have fu2 := blk_frozen HI.out.2.1 2
  go_upto_region 8 with fail
  go_wp2
  go_loopg [4, 56] (up0.length + 1) (fun kq v4 v56 w' => ∃ (j : Nat) (cur : List Int), v56 = .int .i64 (j : Int) ∧ Aside0 (j ≤ up0.length ∧ up0.length - j < kq ∧ lowF k vs l0_4 be (up0.drop j) cur = some r1) ∧ Aside0 (RI w cx w2.heap.size (.slice Av0 vs.length cv0) vs (.slice Av2 up0.length cv2) up0 (.slice Av1 lo0.length cv1) lo0 w') ∧ Aside0 (Kd.R (Kd.int .u8) 5 w' w.heap.size (fun _ => True) v8 be) ∧ Aside0 (Kd.R (Kd.int .u8) 5 w' w.heap.size (fun _ => True) v4 cur))
  case atStart => exact ⟨0, be, rfl, ⟨by omega, by omega, HLO.out⟩, HI, HB8, HB8⟩
  case round =>
    clear HI HB8 HLO cu0 cu1 cu2 fu0 fu1 fu2
    obtain ⟨j, cur, rfl, HA, HI, HB8, HL4⟩ := hrel
    have hj := HA.out.1
    by_cases hlt : j < up0.length
    · skip
      have p0 : (0 : Int) ≤ (j : Int) := by omega
      have q0 : (j : Int) < (up0.length : Int) := by omega
      have hnj := (Kd.R_reads' HI.out.r1).2.2.2.1
      obtain ⟨ad1, e0, hx0, hx1, hx2, hx3, hx4⟩ := at_T69 (Kd.R_reads' HI.out.r1).2.2 (j : Int) p0 q0
      cases e0
      simp only [Int.toNat_natCast] at hx0 hx1 hx2 hx3 hx4
      have b1 : decide ((j : Int) < (up0.length : Int)) = true := decide_eq_true q0
      have b0 : decide (j < up0.length) = true := decide_eq_true hlt
      have HLT := Aside0.mk hlt
      have hdrop : up0.drop j = rd_T69 up0 (j : Int) :: up0.drop (j + 1) := by
        rw [List.drop_eq_getElem_cons hlt]
        simp [rd_T69, List.getD_eq_getElem?_getD, List.getElem?_eq_getElem hlt]
      have hF := HA.out.2.2
      rw [hdrop] at hF
      clear hdrop
      generalize rd_T69 up0 (j : Int) = t at hx0 hx1 hx2 hx3 hx4 hF
      unfold lowF at hF
      replace hF := Option.bind_eq_some_iff.mp hF
      obtain ⟨kk, hkk, hF⟩ := hF
      unfold keyF at hkk
      by_cases hvs : vs.length + 1 ≤ 4398046511104
      case neg => rw [if_neg hvs] at hkk; cases hkk
      rw [if_pos hvs] at hkk
      replace hkk := Option.bind_eq_some_iff.mp hkk
      obtain ⟨⟨k1_, k2_⟩, hke, hkk⟩ := hkk
      obtain rfl : k1_ = kk := Option.some.inj hkk
      have HVS := Aside0.mk hvs
      have HKE := Aside0.mk hke
      have HF := Aside0.mk hF
      clear hvs hke hkk hF hlt
      go_upto_region 11 with fail
      refine at_world (fun W' => (RI w cx w2.heap.size (.slice Av0 vs.length cv0) vs (.slice (some ad1) up0.length cv2) up0 (.slice Av1 lo0.length cv1) lo0 W' ∧ Kd.R (Kd.int .u8) 5 W' w.heap.size (fun _ => True) v8 be) ∧ W'.heap[wr.heap.size]? = some (.cells #[.int .i64 t.f0, .int .i64 t.f1, .int .i64 t.f2.f0, .int .i64 t.f2.f1, .string t.f2.f2] 69 (0, 0))) ⟨⟨HI.out.below (below_alloc (Below.refl _ _) _), Kd.R_below HB8.out (below_alloc (Below.refl _ _) _)⟩, Deep.blk_alloc_new wr _⟩ (fun W4 hI => ?_)
      clear HI HB8 hx0 hx1 hx2 hx3 hx4
      have HI := Aside0.mk hI.1.1
      have HH := Aside0.mk hI.1.2
      have HT := Aside0.mk hI.2
      clear hI
      have t0 : W4.cell? ⟨wr.heap.size, 0, none⟩ = some (.int .i64 t.f0) := (blk_cell HT.out 0).trans rfl
      have t1 : W4.cell? ⟨wr.heap.size, 1, none⟩ = some (.int .i64 t.f1) := (blk_cell HT.out 1).trans rfl
      have t2 : W4.cell? ⟨wr.heap.size, 2, none⟩ = some (.int .i64 t.f2.f0) := (blk_cell HT.out 2).trans rfl
      have t3 : W4.cell? ⟨wr.heap.size, 3, none⟩ = some (.int .i64 t.f2.f1) := (blk_cell HT.out 3).trans rfl
      have t4 : W4.cell? ⟨wr.heap.size, 4, none⟩ = some (.string t.f2.f2) := (blk_cell HT.out 4).trans rfl
      have hkc := key.calls t w2.heap.size w.heap.size Av0 cv0 vs (some ad4) c0_4 l0_4 k k1_ k2_ W4 HI.out.u0 ((blk_cell HI.out.1 4).trans (by rw [HX.out]; rfl)) (Kd.R_reads' HI.out.rv).2.2 (Kd.R_reads' HI.out.rv).2.1 (Kd.C_below HR4.out.1 HI.out.b) HR4.out.2 HVS.out HKE.out
      simp only [encT] at hkc
      go_upto_region 12 with (first | (go_at_call 33; refine hkc.mono ?_; rintro e w5 ⟨v9, rfl, ho, hb⟩; obtain ⟨A9, c9, e9⟩ := Kd.R_slice ho; subst e9; have HO9 := Aside0.mk (And.intro ho hb); clear ho hb hkc t0 t1 t2 t3 t4))
      have HI5 := Aside0.mk (HI.out.below HO9.out.2)
      have HH5 := Aside0.mk (Kd.R_below HH.out HO9.out.2)
      have HT5 := Aside0.mk (blk_below HT.out HO9.out.2)
      have HK5 := Aside0.mk (Kd.R_lower HO9.out.1 (below_size HI.out.b))
      have HY5 := Aside0.mk (trivial)
      clear HI HH HT HO9
      have t1 : w5.cell? ⟨wr.heap.size, 1, none⟩ = some (.int .i64 t.f1) := (blk_cell HT5.out 1).trans rfl
      by_cases hA : t.f1 = 9
      · skip
        have hF := HF.out
        rw [if_pos (Or.inl hA)] at hF
        have q1 : (t.f1 == 9) = true := beq_iff_eq.mpr hA
        replace hF := Option.bind_eq_some_iff.mp hF
        obtain ⟨⟨nx1, nx2⟩, hn1, hF⟩ := hF
        have HNX1 := Aside0.mk hn1
        clear hA HF hn1
        cases nx2 with
        | true =>
          have HF1 : Aside0 (lowF k vs l0_4 be (up0.drop (j + 1)) nx1 = some r1) := ⟨hF⟩
          clear hF
          go_upto_region 15 with (first | (go_at_call 35; (with_reducible refine (keys_Next.calls k A9 c9 k1_ nx1 true _ (Kd.R_reads' HK5.out).2.2 (Kd.R_reads' HK5.out).2.1 HNX1.out).mono ?_); rintro e w6 ⟨v10, rfl, ho, hb⟩; have HO9 := Aside0.mk (And.intro ho hb); clear ho hb t1))
          go_wp2
          obtain ⟨k1, rfl⟩ : ∃ k1, gk = k1 + 1 := ⟨gk - 1, by have := HA.out; omega⟩
          go_roundg k1
          case measure => omega
          case rel =>
            refine ⟨j + 1, nx1, by go_num, ⟨by have := HLT.out; omega, by have := HA.out.2.1; omega, HF1.out⟩, ⟨HI5.out.below HO9.out.2⟩, ⟨Kd.R_below HH5.out HO9.out.2⟩, ⟨Kd.R_lower HO9.out.1 (below_size HI5.out.b)⟩⟩
        | false =>
          have HF1 : Aside0 (lowF k vs l0_4 be (up0.drop (j + 1)) be = some r1) := ⟨hF⟩
          clear hF
          go_upto_region 15 with (first | (go_at_call 35; (with_reducible refine (keys_Next.calls k A9 c9 k1_ nx1 false _ (Kd.R_reads' HK5.out).2.2 (Kd.R_reads' HK5.out).2.1 HNX1.out).mono ?_); rintro e w6 ⟨v10, rfl, ho, hb⟩; have HO9 := Aside0.mk (And.intro ho hb); clear ho hb t1))
          go_wp2
          obtain ⟨k1, rfl⟩ : ∃ k1, gk = k1 + 1 := ⟨gk - 1, by have := HA.out; omega⟩
          go_roundg k1
          case measure => omega
          case rel =>
            refine ⟨j + 1, be, by go_num, ⟨by have := HLT.out; omega, by have := HA.out.2.1; omega, HF1.out⟩, ⟨HI5.out.below HO9.out.2⟩, ⟨Kd.R_below HH5.out HO9.out.2⟩, ⟨Kd.R_below HH5.out HO9.out.2⟩⟩
      · by_cases hB : t.f1 = 7
        · skip
          have hF := HF.out
          rw [if_pos (Or.inr hB)] at hF
          have q1 : (t.f1 == 9) = false := beq_eq_false_iff_ne.mpr hA
          have q2 : (t.f1 == 7) = true := beq_iff_eq.mpr hB
          replace hF := Option.bind_eq_some_iff.mp hF
          obtain ⟨⟨nx1, nx2⟩, hn1, hF⟩ := hF
          have HNX1 := Aside0.mk hn1
          clear hA hB HF hn1
          cases nx2 with
          | true =>
            have HF1 : Aside0 (lowF k vs l0_4 be (up0.drop (j + 1)) nx1 = some r1) := ⟨hF⟩
            clear hF
            go_upto_region 15 with (first | (go_at_call 35; (with_reducible refine (keys_Next.calls k A9 c9 k1_ nx1 true _ (Kd.R_reads' HK5.out).2.2 (Kd.R_reads' HK5.out).2.1 HNX1.out).mono ?_); rintro e w6 ⟨v10, rfl, ho, hb⟩; have HO9 := Aside0.mk (And.intro ho hb); clear ho hb t1))
            go_wp2
            obtain ⟨k1, rfl⟩ : ∃ k1, gk = k1 + 1 := ⟨gk - 1, by have := HA.out; omega⟩
            go_roundg k1
            case measure => omega
            case rel =>
              refine ⟨j + 1, nx1, by go_num, ⟨by have := HLT.out; omega, by have := HA.out.2.1; omega, HF1.out⟩, ⟨HI5.out.below HO9.out.2⟩, ⟨Kd.R_below HH5.out HO9.out.2⟩, ⟨Kd.R_lower HO9.out.1 (below_size HI5.out.b)⟩⟩
          | false =>
            have HF1 : Aside0 (lowF k vs l0_4 be (up0.drop (j + 1)) be = some r1) := ⟨hF⟩
            clear hF
            go_upto_region 15 with (first | (go_at_call 35; (with_reducible refine (keys_Next.calls k A9 c9 k1_ nx1 false _ (Kd.R_reads' HK5.out).2.2 (Kd.R_reads' HK5.out).2.1 HNX1.out).mono ?_); rintro e w6 ⟨v10, rfl, ho, hb⟩; have HO9 := Aside0.mk (And.intro ho hb); clear ho hb t1))
            go_wp2
            obtain ⟨k1, rfl⟩ : ∃ k1, gk = k1 + 1 := ⟨gk - 1, by have := HA.out; omega⟩
            go_roundg k1
            case measure => omega
            case rel =>
              refine ⟨j + 1, be, by go_num, ⟨by have := HLT.out; omega, by have := HA.out.2.1; omega, HF1.out⟩, ⟨HI5.out.below HO9.out.2⟩, ⟨Kd.R_below HH5.out HO9.out.2⟩, ⟨Kd.R_below HH5.out HO9.out.2⟩⟩
        · skip
          have hF := HF.out
          rw [if_neg (fun h => h.elim hA hB)] at hF
          have q1 : (t.f1 == 9) = false := beq_eq_false_iff_ne.mpr hA
          have q2 : (t.f1 == 7) = false := beq_eq_false_iff_ne.mpr hB
          have HF1 : Aside0 (lowF k vs l0_4 be (up0.drop (j + 1)) k1_ = some r1) := ⟨hF⟩
          clear hA hB HF hF
          go_wp2
          obtain ⟨k1, rfl⟩ : ∃ k1, gk = k1 + 1 := ⟨gk - 1, by have := HA.out; omega⟩
          go_roundg k1
          case measure => omega
          case rel =>
            refine ⟨j + 1, k1_, by go_num, ⟨by have := HLT.out; omega, by have := HA.out.2.1; omega, HF1.out⟩, ⟨HI5.out⟩, ⟨HH5.out⟩, ⟨HK5.out⟩⟩
    · obtain rfl : j = up0.length := by omega
      have b0 : decide (up0.length < up0.length) = false := decide_eq_false hlt
      have b1 : decide ((up0.length : Int) < (up0.length : Int)) = false := decide_eq_false (by omega)
      have hcur : r1 = cur := by
        have h := HA.out.2.2
        rw [List.drop_length] at h
        exact (Option.some.inj h).symm
      subst hcur
      clear hlt HA
      obtain ⟨A8, c8, e8⟩ := Kd.R_slice HB8.out
      subst e8
      go_upto_region 19 with (first | (go_at_call 35; (with_reducible refine (keys_Next.calls k A8 c8 be nb1 nb2 _ (Kd.R_reads' HB8.out).2.2 (Kd.R_reads' HB8.out).2.1 HNX.out).mono ?_); rintro e w6 ⟨v5, rfl, ho, hb⟩; have HO9 := Aside0.mk (And.intro ho hb); clear ho hb))
      have HY := Aside0.mk (young_u8 HL4.out HO9.out.1)
      have HI6 := Aside0.mk (HI.out.below HO9.out.2)
      have HL6 := Aside0.mk (Kd.R_below HL4.out HO9.out.2)
      have H5 := Aside0.mk (Kd.R_lower HO9.out.1 (below_size HI.out.b))
      clear HI HL4 HB8 HO9
      have HI := HI6
      have HL4 := HL6
      clear HI6 HL6
      have cu0 := HI.out.u0
      have fu0 := blk_frozen HI.out.2.1 0
      have cu1 := HI.out.u1
      have fu1 := blk_frozen HI.out.2.1 1
      have cu2 := HI.out.u2
      have fu2 := blk_frozen HI.out.2.1 2
      go_wp2
      go_loopg [5, 16, 89] (lo0.length + 1) (fun kq v5 v16 v89 w' => ∃ (j : Nat) (cur : List Int) (ok : Bool), v89 = .int .i64 (j : Int) ∧ v16 = .bool ok ∧ Aside0 (j ≤ lo0.length ∧ lo0.length - j < kq ∧ highF k vs l0_4 (lo0.drop j) cur ok = some (r2, hi2)) ∧ Aside0 (RI w cx w2.heap.size (.slice Av0 vs.length cv0) vs (.slice Av2 up0.length cv2) up0 (.slice Av1 lo0.length cv1) lo0 w') ∧ Aside0 (Kd.R (Kd.int .u8) 5 w' w.heap.size (fun _ => True) u4 r1) ∧ Aside0 (Kd.R (Kd.int .u8) 5 w' w.heap.size (fun _ => True) v5 cur) ∧ Aside0 (∀ k, v5.ownBlock = some k → some k ≠ u4.ownBlock))
      case atStart => exact ⟨0, nb1, nb2, rfl, rfl, ⟨by omega, by omega, HHI.out⟩, HI, HL4, H5, HY⟩
      case round =>
        clear HI HL4 HHI H5 HY cu0 cu1 cu2 fu0 fu1 fu2
        obtain ⟨j, cur, ok, rfl, rfl, HA, HI, HL4, H5, HY⟩ := hrel
        have hj := HA.out.1
        by_cases hlt : j < lo0.length
        · skip
          have p0 : (0 : Int) ≤ (j : Int) := by omega
          have q0 : (j : Int) < (lo0.length : Int) := by omega
          have hnj := (Kd.R_reads' HI.out.r2).2.2.2.1
          obtain ⟨ad1, e0, hx0, hx1, hx2, hx3, hx4⟩ := at_T69 (Kd.R_reads' HI.out.r2).2.2 (j : Int) p0 q0
          cases e0
          simp only [Int.toNat_natCast] at hx0 hx1 hx2 hx3 hx4
          have b1 : decide ((j : Int) < (lo0.length : Int)) = true := decide_eq_true q0
          have b0 : decide (j < lo0.length) = true := decide_eq_true hlt
          have HLT := Aside0.mk hlt
          have hdrop : lo0.drop j = rd_T69 lo0 (j : Int) :: lo0.drop (j + 1) := by
            rw [List.drop_eq_getElem_cons hlt]
            simp [rd_T69, List.getD_eq_getElem?_getD, List.getElem?_eq_getElem hlt]
          have hF := HA.out.2.2
          rw [hdrop] at hF
          clear hdrop
          generalize rd_T69 lo0 (j : Int) = t at hx0 hx1 hx2 hx3 hx4 hF
          unfold highF at hF
          replace hF := Option.bind_eq_some_iff.mp hF
          obtain ⟨kk, hkk, hF⟩ := hF
          unfold keyF at hkk
          by_cases hvs : vs.length + 1 ≤ 4398046511104
          case neg => rw [if_neg hvs] at hkk; cases hkk
          rw [if_pos hvs] at hkk
          replace hkk := Option.bind_eq_some_iff.mp hkk
          obtain ⟨⟨k1_, k2_⟩, hke, hkk⟩ := hkk
          obtain rfl : k1_ = kk := Option.some.inj hkk
          have HVS := Aside0.mk hvs
          have HKE := Aside0.mk hke
          have HF := Aside0.mk hF
          clear hvs hke hkk hF hlt
          go_upto_region 22 with fail
          refine at_world (fun W' => (RI w cx w2.heap.size (.slice Av0 vs.length cv0) vs (.slice Av2 up0.length cv2) up0 (.slice (some ad1) lo0.length cv1) lo0 W' ∧ Kd.R (Kd.int .u8) 5 W' w.heap.size (fun _ => True) u4 r1) ∧ W'.heap[wr.heap.size]? = some (.cells #[.int .i64 t.f0, .int .i64 t.f1, .int .i64 t.f2.f0, .int .i64 t.f2.f1, .string t.f2.f2] 69 (0, 0))) ⟨⟨HI.out.below (below_alloc (Below.refl _ _) _), Kd.R_below HL4.out (below_alloc (Below.refl _ _) _)⟩, Deep.blk_alloc_new wr _⟩ (fun W4 hI => ?_)
          clear HI HL4 hx0 hx1 hx2 hx3 hx4
          have HI := Aside0.mk hI.1.1
          have HH := Aside0.mk hI.1.2
          have HT := Aside0.mk hI.2
          clear hI
          have t0 : W4.cell? ⟨wr.heap.size, 0, none⟩ = some (.int .i64 t.f0) := (blk_cell HT.out 0).trans rfl
          have t1 : W4.cell? ⟨wr.heap.size, 1, none⟩ = some (.int .i64 t.f1) := (blk_cell HT.out 1).trans rfl
          have t2 : W4.cell? ⟨wr.heap.size, 2, none⟩ = some (.int .i64 t.f2.f0) := (blk_cell HT.out 2).trans rfl
          have t3 : W4.cell? ⟨wr.heap.size, 3, none⟩ = some (.int .i64 t.f2.f1) := (blk_cell HT.out 3).trans rfl
          have t4 : W4.cell? ⟨wr.heap.size, 4, none⟩ = some (.string t.f2.f2) := (blk_cell HT.out 4).trans rfl
          have hkc := key.calls t w2.heap.size w.heap.size Av0 cv0 vs (some ad4) c0_4 l0_4 k k1_ k2_ W4 HI.out.u0 ((blk_cell HI.out.1 4).trans (by rw [HX.out]; rfl)) (Kd.R_reads' HI.out.rv).2.2 (Kd.R_reads' HI.out.rv).2.1 (Kd.C_below HR4.out.1 HI.out.b) HR4.out.2 HVS.out HKE.out
          simp only [encT] at hkc
          go_upto_region 23 with (first | (go_at_call 33; refine hkc.mono ?_; rintro e w5 ⟨v9, rfl, ho, hb⟩; obtain ⟨A9, c9, e9⟩ := Kd.R_slice ho; subst e9; have HO9 := Aside0.mk (And.intro ho hb); clear ho hb hkc t0 t1 t2 t3 t4))
          have HI5 := Aside0.mk (HI.out.below HO9.out.2)
          have HH5 := Aside0.mk (Kd.R_below HH.out HO9.out.2)
          have HT5 := Aside0.mk (blk_below HT.out HO9.out.2)
          have HK5 := Aside0.mk (Kd.R_lower HO9.out.1 (below_size HI.out.b))
          have HY5 := Aside0.mk (young_u8 HH.out HO9.out.1)
          clear HI HH HT HO9
          have t1 : w5.cell? ⟨wr.heap.size, 1, none⟩ = some (.int .i64 t.f1) := (blk_cell HT5.out 1).trans rfl
          by_cases hA : t.f1 = 8
          · skip
            have hF := HF.out
            rw [if_pos (Or.inl hA)] at hF
            have q1 : (t.f1 == 8) = true := beq_iff_eq.mpr hA
            replace hF := Option.bind_eq_some_iff.mp hF
            obtain ⟨⟨nx1, nx2⟩, hn1, hF⟩ := hF
            have HNX1 := Aside0.mk hn1
            clear hA HF hn1
            have HF1 : Aside0 (highF k vs l0_4 (lo0.drop (j + 1)) nx1 nx2 = some (r2, hi2)) := ⟨hF⟩
            clear hF
            go_upto_region 25 with (first | (go_at_call 35; (with_reducible refine (keys_Next.calls k A9 c9 k1_ nx1 nx2 _ (Kd.R_reads' HK5.out).2.2 (Kd.R_reads' HK5.out).2.1 HNX1.out).mono ?_); rintro e w6 ⟨v10, rfl, ho, hb⟩; have HO9 := Aside0.mk (And.intro ho hb); clear ho hb t1))
            go_wp2
            obtain ⟨k1, rfl⟩ : ∃ k1, gk = k1 + 1 := ⟨gk - 1, by have := HA.out; omega⟩
            go_roundg k1
            case measure => omega
            case rel =>
              refine ⟨j + 1, nx1, nx2, by go_num, rfl, ⟨by have := HLT.out; omega, by have := HA.out.2.1; omega, HF1.out⟩, ⟨HI5.out.below HO9.out.2⟩, ⟨Kd.R_below HH5.out HO9.out.2⟩, ⟨Kd.R_lower HO9.out.1 (below_size HI5.out.b)⟩, ⟨young_u8 HH5.out HO9.out.1⟩⟩
          · by_cases hB : t.f1 = 10
            · skip
              have hF := HF.out
              rw [if_pos (Or.inr hB)] at hF
              have q1 : (t.f1 == 8) = false := beq_eq_false_iff_ne.mpr hA
              have q2 : (t.f1 == 10) = true := beq_iff_eq.mpr hB
              replace hF := Option.bind_eq_some_iff.mp hF
              obtain ⟨⟨nx1, nx2⟩, hn1, hF⟩ := hF
              have HNX1 := Aside0.mk hn1
              clear hA hB HF hn1
              have HF1 : Aside0 (highF k vs l0_4 (lo0.drop (j + 1)) nx1 nx2 = some (r2, hi2)) := ⟨hF⟩
              clear hF
              go_upto_region 25 with (first | (go_at_call 35; (with_reducible refine (keys_Next.calls k A9 c9 k1_ nx1 nx2 _ (Kd.R_reads' HK5.out).2.2 (Kd.R_reads' HK5.out).2.1 HNX1.out).mono ?_); rintro e w6 ⟨v10, rfl, ho, hb⟩; have HO9 := Aside0.mk (And.intro ho hb); clear ho hb t1))
              go_wp2
              obtain ⟨k1, rfl⟩ : ∃ k1, gk = k1 + 1 := ⟨gk - 1, by have := HA.out; omega⟩
              go_roundg k1
              case measure => omega
              case rel =>
                refine ⟨j + 1, nx1, nx2, by go_num, rfl, ⟨by have := HLT.out; omega, by have := HA.out.2.1; omega, HF1.out⟩, ⟨HI5.out.below HO9.out.2⟩, ⟨Kd.R_below HH5.out HO9.out.2⟩, ⟨Kd.R_lower HO9.out.1 (below_size HI5.out.b)⟩, ⟨young_u8 HH5.out HO9.out.1⟩⟩
            · skip
              have hF := HF.out
              rw [if_neg (fun h => h.elim hA hB)] at hF
              have q1 : (t.f1 == 8) = false := beq_eq_false_iff_ne.mpr hA
              have q2 : (t.f1 == 10) = false := beq_eq_false_iff_ne.mpr hB
              have HF1 : Aside0 (highF k vs l0_4 (lo0.drop (j + 1)) k1_ true = some (r2, hi2)) := ⟨hF⟩
              clear hA hB HF hF
              go_wp2
              obtain ⟨k1, rfl⟩ : ∃ k1, gk = k1 + 1 := ⟨gk - 1, by have := HA.out; omega⟩
              go_roundg k1
              case measure => omega
              case rel =>
                refine ⟨j + 1, k1_, true, by go_num, rfl, ⟨by have := HLT.out; omega, by have := HA.out.2.1; omega, HF1.out⟩, ⟨HI5.out⟩, ⟨HH5.out⟩, ⟨HK5.out⟩, ⟨HY5.out⟩⟩
        · obtain rfl : j = lo0.length := by omega
          have b0 : decide (lo0.length < lo0.length) = false := decide_eq_false hlt
          have b1 : decide ((lo0.length : Int) < (lo0.length : Int)) = false := decide_eq_false (by omega)
          have hcur : r2 = cur ∧ hi2 = ok := by
            have h := HA.out.2.2
            rw [List.drop_length] at h
            have h2 := Option.some.inj h
            exact ⟨(congrArg Prod.fst h2).symm, (congrArg Prod.snd h2).symm⟩
          obtain ⟨rfl, rfl⟩ := hcur
          clear hlt HA
          go_wp2
          go_ret3
          exact ⟨u4, u5, rfl, (two_u8 HL4.out H5.out HY.out).1, (two_u8 HL4.out H5.out HY.out).2, HI.out.b⟩
theorem bounds_Range.calls (k : Nat) (a0_0 : Int) (a0_1 : ByteArray) (a0_2 : ByteArray) (A0_3 : Option Addr) (c0_3 : Nat) (l0_3 : List Int) (A0_4 : Option Addr) (c0_4 : Nat) (l0_4 : List Bool) (a0_5 : Bool) (A1 : Option Addr) (c1 : Nat) (l1 : List (S69)) (r1 : List Int) (r2 : List Int) (r3 : Bool) (w : World) (hr0_3 : Kd.C (Kd.int .i64) w A0_3 l0_3.length l0_3) (hc0_3 : l0_3.length ≤ c0_3) (hr0_4 : Kd.C Kd.bool w A0_4 l0_4.length l0_4) (hc0_4 : l0_4.length ≤ c0_4) (hr1 : Kd.C k69 w A1 l1.length l1) (hc1 : l1.length ≤ c1) (h : bounds_Range.f k a0_0 a0_1 a0_2 l0_3 l0_4 a0_5 l1 = some (r1, r2, r3)) :
    Calls Try.prog 15 #[.agg #[.int .i64 a0_0, .string a0_1, .string a0_2, .slice A0_3 l0_3.length c0_3, .slice A0_4 l0_4.length c0_4, .bool a0_5], .slice A1 l1.length c1] w fun e w' => ∃ v0_ v1_ : Value, e = .returned (.tuple #[v0_, v1_, .bool r3]) ∧ Kd.R (Kd.int .u8) 5 w' w.heap.size (fun k_ => some k_ ≠ (v1_ : Value).ownBlock) v0_ r1 ∧ Kd.R (Kd.int .u8) 5 w' w.heap.size (fun k_ => some k_ ≠ (v0_ : Value).ownBlock) v1_ r2 ∧ Below w.heap.size w w' := by
  unfold bounds_Range.f at h
  replace h := Option.bind_eq_some_iff.mp h
  obtain ⟨⟨vs, lo0, up0⟩, hu, h⟩ := h
  have hg : ∀ lo up, bounds_Range.g k vs lo up l0_4 = some (r1, r2, r3) → ∃ be be2 nb1 nb2 hi2, keys_Encode.f k vs l0_4 = some (be, be2) ∧ lowF k vs l0_4 be lo be = some r1 ∧ keys_Next.f k be = some (nb1, nb2) ∧ highF k vs l0_4 up nb1 nb2 = some (r2, hi2) ∧ r3 = !hi2 := by
    intro lo up h
    unfold bounds_Range.g at h
    replace h := Option.bind_eq_some_iff.mp h
    obtain ⟨⟨be, be2⟩, h1, h⟩ := h
    replace h := Option.bind_eq_some_iff.mp h
    obtain ⟨low, h2, h⟩ := h
    replace h := Option.bind_eq_some_iff.mp h
    obtain ⟨⟨nb1, nb2⟩, h3, h⟩ := h
    replace h := Option.bind_eq_some_iff.mp h
    obtain ⟨⟨hi1, hi2⟩, h4, h⟩ := h
    simp only [Option.some.injEq, Prod.mk.injEq] at h
    obtain ⟨rfl, rfl, rfl⟩ := h
    exact ⟨be, be2, nb1, nb2, hi2, h1, h2, h3, h4, rfl⟩
  by_cases hlt : vs.length < l0_4.length
  · cases hb : rdOf false l0_4 (vs.length : Int) with
    | true =>
      have hs : swapB vs l0_4 = true := by simp [swapB, hlt, hb]
      simp only [hs, if_true] at h
      obtain ⟨be, be2, nb1, nb2, hi2, h1, h2, h3, h4, rfl⟩ := hg _ _ h
      exact range_swap k a0_0 a0_1 a0_2 A0_3 c0_3 l0_3 A0_4 c0_4 l0_4 a0_5 A1 c1 l1 vs lo0 up0 be be2 r1 r2 nb1 nb2 hi2 w hr0_3 hc0_3 hr0_4 hc0_4 hr1 hc1 hu h1 h2 h3 h4 hlt hb
    | false =>
      have hs : swapB vs l0_4 = false := by simp [swapB, hlt, hb]
      simp only [hs, Bool.false_eq_true, if_false] at h
      obtain ⟨be, be2, nb1, nb2, hi2, h1, h2, h3, h4, rfl⟩ := hg _ _ h
      exact range_keep1 k a0_0 a0_1 a0_2 A0_3 c0_3 l0_3 A0_4 c0_4 l0_4 a0_5 A1 c1 l1 vs lo0 up0 be be2 r1 r2 nb1 nb2 hi2 w hr0_3 hc0_3 hr0_4 hc0_4 hr1 hc1 hu h1 h2 h3 h4 hlt hb
  · have hs : swapB vs l0_4 = false := by simp [swapB, hlt]
    simp only [hs, Bool.false_eq_true, if_false] at h
    obtain ⟨be, be2, nb1, nb2, hi2, h1, h2, h3, h4, rfl⟩ := hg _ _ h
    exact range_keep0 k a0_0 a0_1 a0_2 A0_3 c0_3 l0_3 A0_4 c0_4 l0_4 a0_5 A1 c1 l1 vs lo0 up0 be be2 r1 r2 nb1 nb2 hi2 w hr0_3 hc0_3 hr0_4 hc0_4 hr1 hc1 hu h1 h2 h3 h4 hlt
end Go.Proofs.Ytmfenomjhmhogaa.P
end
section
namespace Go.Proofs.Ytmfenomjhmhogaa.P
open Go.RowKit Go.Proofs.YtmfenomjhmhogaaW.PrintWords Go.Proofs.YtmfenomjhmhogaaW.PrintLast Go.Proofs.YtmfenomjhmhogaaW.PrintMore
attribute [local go_sem] max2_int min2_int max_two min_two max_three min_three max_four min_four
set_option linter.unusedVariables false
set_option linter.unusedSimpArgs false
def chkR (a b : Int) (c : ByteArray) : Int :=
 if a = 0 then (if b = 0 ∧ c.toList = [] then 0 else 3)
 else if a = 1 then (if (b = 0 ∨ b = 1) ∧ c.toList = [] then 0 else 3)
 else if a = 2 then (if c.toList = [] then 0 else 3)
 else if a = 3 ∨ a = 4 then (if b = 0 then 0 else 3)
 else 5
def quarryref01_Check.f (a0_0 : Int) (a0_1 : Int) (a0_2 : ByteArray) : Option (Int) := some (chkR a0_0 a0_1 a0_2)
theorem eqR (d : Nat) (w : World) (x0 y0 : Int) (x1 y1 : Int) (x2 y2 : ByteArray) :
  (Op.equalIn (d + 2) 25 (.agg #[.int .i64 x0, .int .i64 x1, .string x2]) (.agg #[.int .i64 y0, .int .i64 y1, .string y2])).run Try.prog w = .ok (x0 == y0 && (x1 == y1 && (x2.toList == y2.toList))) w := by
 refine eqA_of Try.underlying25 (by kernel_rfl) ?_
 refine eqf_cons (by rfl) (by go_simp; rfl) (by go_simp; rfl) (by go_simp) ?_
 refine eqf_cons (by rfl) (by go_simp; rfl) (by go_simp; rfl) (by go_simp) ?_
 exact eqf_last (by rfl) (by go_simp; rfl) (by go_simp; rfl) (by go_simp)
attribute [local go_sem high] eqR
set_option maxHeartbeats 2000000 in
set_option maxRecDepth 100000 in
theorem quarryref01_Check.z1 (a b : Int) (c : ByteArray) (w : World) (ha : a = 0) (hb : b = 0) (he : c.toList = []) :
  Calls Try.prog 21 #[.agg #[.int .i64 a, .int .i64 b, .string c]] w fun e w' => e = .returned (.int .i64 0) ∧ Below w.heap.size w w' := by
 have lo : decide (a < 0) = false := decide_eq_false (by omega)
 have hi : decide (4 < a) = false := decide_eq_false (by omega)
 have hu38 := Try.underlying25
 have k0 : (a == 0) = true := beq_iff_eq.mpr ha
 have b0 : (b == 0) = true := beq_iff_eq.mpr hb
 have b1 : (b == 1) = false := beq_eq_false_iff_ne.mpr (by omega)
 have e0 : c.toList.isEmpty = true := List.isEmpty_iff.2 he
 have e1 : (c.toList == ([] : List UInt8)) = true := beq_iff_eq.mpr he
 have n0 : (b != 0) = false := by rw [bne, b0]; rfl
 have n1 : (b != 1) = true := by rw [bne, b1]; rfl
 have e2 : (c.toList != ([] : List UInt8)) = false := by rw [bne, e1]; rfl
 clear ha hb he
 go_enter Try.func21, Try.ntmps21
 go_wp2
 go_ret
 exact ⟨rfl, by repeat (first | exact Below.refl _ _ | refine Below.setCell ?_ (Nat.le_refl _) _ | refine Below.setCell ?_ (Nat.le_succ _) _ | apply below_alloc)⟩
set_option maxHeartbeats 2000000 in
set_option maxRecDepth 100000 in
theorem quarryref01_Check.z2 (a b : Int) (c : ByteArray) (w : World) (ha : a = 0) (hb : b = 0) (he : ¬ c.toList = []) :
  Calls Try.prog 21 #[.agg #[.int .i64 a, .int .i64 b, .string c]] w fun e w' => e = .returned (.int .i64 3) ∧ Below w.heap.size w w' := by
 have lo : decide (a < 0) = false := decide_eq_false (by omega)
 have hi : decide (4 < a) = false := decide_eq_false (by omega)
 have hu38 := Try.underlying25
 have k0 : (a == 0) = true := beq_iff_eq.mpr ha
 have b0 : (b == 0) = true := beq_iff_eq.mpr hb
 have b1 : (b == 1) = false := beq_eq_false_iff_ne.mpr (by omega)
 have e0 : c.toList.isEmpty = false := by cases h : c.toList with | nil => exact absurd h he | cons => rfl
 have e1 : (c.toList == ([] : List UInt8)) = false := beq_eq_false_iff_ne.mpr he
 have n0 : (b != 0) = false := by rw [bne, b0]; rfl
 have n1 : (b != 1) = true := by rw [bne, b1]; rfl
 have e2 : (c.toList != ([] : List UInt8)) = true := by rw [bne, e1]; rfl
 clear ha hb he
 go_enter Try.func21, Try.ntmps21
 go_wp2
 go_ret
 exact ⟨rfl, by repeat (first | exact Below.refl _ _ | refine Below.setCell ?_ (Nat.le_refl _) _ | refine Below.setCell ?_ (Nat.le_succ _) _ | apply below_alloc)⟩
set_option maxHeartbeats 2000000 in
set_option maxRecDepth 100000 in
theorem quarryref01_Check.z3 (a b : Int) (c : ByteArray) (w : World) (ha : a = 0) (hb : ¬ b = 0) :
  Calls Try.prog 21 #[.agg #[.int .i64 a, .int .i64 b, .string c]] w fun e w' => e = .returned (.int .i64 3) ∧ Below w.heap.size w w' := by
 have lo : decide (a < 0) = false := decide_eq_false (by omega)
 have hi : decide (4 < a) = false := decide_eq_false (by omega)
 have hu38 := Try.underlying25
 have k0 : (a == 0) = true := beq_iff_eq.mpr ha
 have b0 : (b == 0) = false := beq_eq_false_iff_ne.mpr hb
 have n0 : (b != 0) = true := by rw [bne, b0]; rfl
 clear ha hb
 go_enter Try.func21, Try.ntmps21
 go_wp2
 go_ret
 exact ⟨rfl, by repeat (first | exact Below.refl _ _ | refine Below.setCell ?_ (Nat.le_refl _) _ | refine Below.setCell ?_ (Nat.le_succ _) _ | apply below_alloc)⟩
set_option maxHeartbeats 2000000 in
set_option maxRecDepth 100000 in
theorem quarryref01_Check.t1 (a b : Int) (c : ByteArray) (w : World) (ha : a = 1) (hb : b = 1) (he : c.toList = []) :
  Calls Try.prog 21 #[.agg #[.int .i64 a, .int .i64 b, .string c]] w fun e w' => e = .returned (.int .i64 0) ∧ Below w.heap.size w w' := by
 have lo : decide (a < 0) = false := decide_eq_false (by omega)
 have hi : decide (4 < a) = false := decide_eq_false (by omega)
 have hu38 := Try.underlying25
 have k0 : (a == 0) = false := beq_eq_false_iff_ne.mpr (by omega)
 have k1 : (a == 1) = true := beq_iff_eq.mpr ha
 have b0 : (b == 0) = false := beq_eq_false_iff_ne.mpr (by omega)
 have b1 : (b == 1) = true := beq_iff_eq.mpr hb
 have e0 : c.toList.isEmpty = true := List.isEmpty_iff.2 he
 have e1 : (c.toList == ([] : List UInt8)) = true := beq_iff_eq.mpr he
 have n0 : (b != 0) = true := by rw [bne, b0]; rfl
 have n1 : (b != 1) = false := by rw [bne, b1]; rfl
 have e2 : (c.toList != ([] : List UInt8)) = false := by rw [bne, e1]; rfl
 clear ha hb he
 go_enter Try.func21, Try.ntmps21
 go_wp2
 go_ret
 exact ⟨rfl, by repeat (first | exact Below.refl _ _ | refine Below.setCell ?_ (Nat.le_refl _) _ | refine Below.setCell ?_ (Nat.le_succ _) _ | apply below_alloc)⟩
set_option maxHeartbeats 2000000 in
set_option maxRecDepth 100000 in
theorem quarryref01_Check.t2 (a b : Int) (c : ByteArray) (w : World) (ha : a = 1) (hb : b = 1) (he : ¬ c.toList = []) :
  Calls Try.prog 21 #[.agg #[.int .i64 a, .int .i64 b, .string c]] w fun e w' => e = .returned (.int .i64 3) ∧ Below w.heap.size w w' := by
 have lo : decide (a < 0) = false := decide_eq_false (by omega)
 have hi : decide (4 < a) = false := decide_eq_false (by omega)
 have hu38 := Try.underlying25
 have k0 : (a == 0) = false := beq_eq_false_iff_ne.mpr (by omega)
 have k1 : (a == 1) = true := beq_iff_eq.mpr ha
 have b0 : (b == 0) = false := beq_eq_false_iff_ne.mpr (by omega)
 have b1 : (b == 1) = true := beq_iff_eq.mpr hb
 have e0 : c.toList.isEmpty = false := by cases h : c.toList with | nil => exact absurd h he | cons => rfl
 have e1 : (c.toList == ([] : List UInt8)) = false := beq_eq_false_iff_ne.mpr he
 have n0 : (b != 0) = true := by rw [bne, b0]; rfl
 have n1 : (b != 1) = false := by rw [bne, b1]; rfl
 have e2 : (c.toList != ([] : List UInt8)) = true := by rw [bne, e1]; rfl
 clear ha hb he
 go_enter Try.func21, Try.ntmps21
 go_wp2
 go_ret
 exact ⟨rfl, by repeat (first | exact Below.refl _ _ | refine Below.setCell ?_ (Nat.le_refl _) _ | refine Below.setCell ?_ (Nat.le_succ _) _ | apply below_alloc)⟩
set_option maxHeartbeats 2000000 in
set_option maxRecDepth 100000 in
theorem quarryref01_Check.t3 (a b : Int) (c : ByteArray) (w : World) (ha : a = 1) (hb : b = 0) (he : c.toList = []) :
  Calls Try.prog 21 #[.agg #[.int .i64 a, .int .i64 b, .string c]] w fun e w' => e = .returned (.int .i64 0) ∧ Below w.heap.size w w' := by
 have lo : decide (a < 0) = false := decide_eq_false (by omega)
 have hi : decide (4 < a) = false := decide_eq_false (by omega)
 have hu38 := Try.underlying25
 have k0 : (a == 0) = false := beq_eq_false_iff_ne.mpr (by omega)
 have k1 : (a == 1) = true := beq_iff_eq.mpr ha
 have b0 : (b == 0) = true := beq_iff_eq.mpr hb
 have b1 : (b == 1) = false := beq_eq_false_iff_ne.mpr (by omega)
 have e0 : c.toList.isEmpty = true := List.isEmpty_iff.2 he
 have e1 : (c.toList == ([] : List UInt8)) = true := beq_iff_eq.mpr he
 have n0 : (b != 0) = false := by rw [bne, b0]; rfl
 have n1 : (b != 1) = true := by rw [bne, b1]; rfl
 have e2 : (c.toList != ([] : List UInt8)) = false := by rw [bne, e1]; rfl
 clear ha hb he
 go_enter Try.func21, Try.ntmps21
 go_wp2
 go_ret
 exact ⟨rfl, by repeat (first | exact Below.refl _ _ | refine Below.setCell ?_ (Nat.le_refl _) _ | refine Below.setCell ?_ (Nat.le_succ _) _ | apply below_alloc)⟩
set_option maxHeartbeats 2000000 in
set_option maxRecDepth 100000 in
theorem quarryref01_Check.t4 (a b : Int) (c : ByteArray) (w : World) (ha : a = 1) (hb : b = 0) (he : ¬ c.toList = []) :
  Calls Try.prog 21 #[.agg #[.int .i64 a, .int .i64 b, .string c]] w fun e w' => e = .returned (.int .i64 3) ∧ Below w.heap.size w w' := by
 have lo : decide (a < 0) = false := decide_eq_false (by omega)
 have hi : decide (4 < a) = false := decide_eq_false (by omega)
 have hu38 := Try.underlying25
 have k0 : (a == 0) = false := beq_eq_false_iff_ne.mpr (by omega)
 have k1 : (a == 1) = true := beq_iff_eq.mpr ha
 have b0 : (b == 0) = true := beq_iff_eq.mpr hb
 have b1 : (b == 1) = false := beq_eq_false_iff_ne.mpr (by omega)
 have e0 : c.toList.isEmpty = false := by cases h : c.toList with | nil => exact absurd h he | cons => rfl
 have e1 : (c.toList == ([] : List UInt8)) = false := beq_eq_false_iff_ne.mpr he
 have n0 : (b != 0) = false := by rw [bne, b0]; rfl
 have n1 : (b != 1) = true := by rw [bne, b1]; rfl
 have e2 : (c.toList != ([] : List UInt8)) = true := by rw [bne, e1]; rfl
 clear ha hb he
 go_enter Try.func21, Try.ntmps21
 go_wp2
 go_ret
 exact ⟨rfl, by repeat (first | exact Below.refl _ _ | refine Below.setCell ?_ (Nat.le_refl _) _ | refine Below.setCell ?_ (Nat.le_succ _) _ | apply below_alloc)⟩
set_option maxHeartbeats 2000000 in
set_option maxRecDepth 100000 in
theorem quarryref01_Check.t5 (a b : Int) (c : ByteArray) (w : World) (ha : a = 1) (hb : ¬ b = 0) (hb1 : ¬ b = 1) (he : c.toList = []) :
  Calls Try.prog 21 #[.agg #[.int .i64 a, .int .i64 b, .string c]] w fun e w' => e = .returned (.int .i64 3) ∧ Below w.heap.size w w' := by
 have lo : decide (a < 0) = false := decide_eq_false (by omega)
 have hi : decide (4 < a) = false := decide_eq_false (by omega)
 have hu38 := Try.underlying25
 have k0 : (a == 0) = false := beq_eq_false_iff_ne.mpr (by omega)
 have k1 : (a == 1) = true := beq_iff_eq.mpr ha
 have b0 : (b == 0) = false := beq_eq_false_iff_ne.mpr hb
 have b1 : (b == 1) = false := beq_eq_false_iff_ne.mpr hb1
 have e0 : c.toList.isEmpty = true := List.isEmpty_iff.2 he
 have e1 : (c.toList == ([] : List UInt8)) = true := beq_iff_eq.mpr he
 have n0 : (b != 0) = true := by rw [bne, b0]; rfl
 have n1 : (b != 1) = true := by rw [bne, b1]; rfl
 have e2 : (c.toList != ([] : List UInt8)) = false := by rw [bne, e1]; rfl
 clear ha hb hb1 he
 go_enter Try.func21, Try.ntmps21
 go_wp2
 go_ret
 exact ⟨rfl, by repeat (first | exact Below.refl _ _ | refine Below.setCell ?_ (Nat.le_refl _) _ | refine Below.setCell ?_ (Nat.le_succ _) _ | apply below_alloc)⟩
set_option maxHeartbeats 2000000 in
set_option maxRecDepth 100000 in
theorem quarryref01_Check.t6 (a b : Int) (c : ByteArray) (w : World) (ha : a = 1) (hb : ¬ b = 0) (hb1 : ¬ b = 1) (he : ¬ c.toList = []) :
  Calls Try.prog 21 #[.agg #[.int .i64 a, .int .i64 b, .string c]] w fun e w' => e = .returned (.int .i64 3) ∧ Below w.heap.size w w' := by
 have lo : decide (a < 0) = false := decide_eq_false (by omega)
 have hi : decide (4 < a) = false := decide_eq_false (by omega)
 have hu38 := Try.underlying25
 have k0 : (a == 0) = false := beq_eq_false_iff_ne.mpr (by omega)
 have k1 : (a == 1) = true := beq_iff_eq.mpr ha
 have b0 : (b == 0) = false := beq_eq_false_iff_ne.mpr hb
 have b1 : (b == 1) = false := beq_eq_false_iff_ne.mpr hb1
 have e0 : c.toList.isEmpty = false := by cases h : c.toList with | nil => exact absurd h he | cons => rfl
 have e1 : (c.toList == ([] : List UInt8)) = false := beq_eq_false_iff_ne.mpr he
 have n0 : (b != 0) = true := by rw [bne, b0]; rfl
 have n1 : (b != 1) = true := by rw [bne, b1]; rfl
 have e2 : (c.toList != ([] : List UInt8)) = true := by rw [bne, e1]; rfl
 clear ha hb hb1 he
 go_enter Try.func21, Try.ntmps21
 go_wp2
 go_ret
 exact ⟨rfl, by repeat (first | exact Below.refl _ _ | refine Below.setCell ?_ (Nat.le_refl _) _ | refine Below.setCell ?_ (Nat.le_succ _) _ | apply below_alloc)⟩
set_option maxHeartbeats 2000000 in
set_option maxRecDepth 100000 in
theorem quarryref01_Check.n1 (a b : Int) (c : ByteArray) (w : World) (ha : a = 2) (he : c.toList = []) :
  Calls Try.prog 21 #[.agg #[.int .i64 a, .int .i64 b, .string c]] w fun e w' => e = .returned (.int .i64 0) ∧ Below w.heap.size w w' := by
 have lo : decide (a < 0) = false := decide_eq_false (by omega)
 have hi : decide (4 < a) = false := decide_eq_false (by omega)
 have hu38 := Try.underlying25
 have k0 : (a == 0) = false := beq_eq_false_iff_ne.mpr (by omega)
 have k1 : (a == 1) = false := beq_eq_false_iff_ne.mpr (by omega)
 have k2 : (a == 2) = true := beq_iff_eq.mpr ha
 have e0 : c.toList.isEmpty = true := List.isEmpty_iff.2 he
 have e1 : (c.toList == ([] : List UInt8)) = true := beq_iff_eq.mpr he
 have e2 : (c.toList != ([] : List UInt8)) = false := by rw [bne, e1]; rfl
 clear ha he
 go_enter Try.func21, Try.ntmps21
 go_wp2
 go_ret
 exact ⟨rfl, by repeat (first | exact Below.refl _ _ | refine Below.setCell ?_ (Nat.le_refl _) _ | refine Below.setCell ?_ (Nat.le_succ _) _ | apply below_alloc)⟩
set_option maxHeartbeats 2000000 in
set_option maxRecDepth 100000 in
theorem quarryref01_Check.n2 (a b : Int) (c : ByteArray) (w : World) (ha : a = 2) (he : ¬ c.toList = []) :
  Calls Try.prog 21 #[.agg #[.int .i64 a, .int .i64 b, .string c]] w fun e w' => e = .returned (.int .i64 3) ∧ Below w.heap.size w w' := by
 have lo : decide (a < 0) = false := decide_eq_false (by omega)
 have hi : decide (4 < a) = false := decide_eq_false (by omega)
 have hu38 := Try.underlying25
 have k0 : (a == 0) = false := beq_eq_false_iff_ne.mpr (by omega)
 have k1 : (a == 1) = false := beq_eq_false_iff_ne.mpr (by omega)
 have k2 : (a == 2) = true := beq_iff_eq.mpr ha
 have e0 : c.toList.isEmpty = false := by cases h : c.toList with | nil => exact absurd h he | cons => rfl
 have e1 : (c.toList == ([] : List UInt8)) = false := beq_eq_false_iff_ne.mpr he
 have e2 : (c.toList != ([] : List UInt8)) = true := by rw [bne, e1]; rfl
 clear ha he
 go_enter Try.func21, Try.ntmps21
 go_wp2
 go_ret
 exact ⟨rfl, by repeat (first | exact Below.refl _ _ | refine Below.setCell ?_ (Nat.le_refl _) _ | refine Below.setCell ?_ (Nat.le_succ _) _ | apply below_alloc)⟩
set_option maxHeartbeats 2000000 in
set_option maxRecDepth 100000 in
theorem quarryref01_Check.x1 (a b : Int) (c : ByteArray) (w : World) (ha : a = 3) (hb : b = 0) :
  Calls Try.prog 21 #[.agg #[.int .i64 a, .int .i64 b, .string c]] w fun e w' => e = .returned (.int .i64 0) ∧ Below w.heap.size w w' := by
 have lo : decide (a < 0) = false := decide_eq_false (by omega)
 have hi : decide (4 < a) = false := decide_eq_false (by omega)
 have hu38 := Try.underlying25
 have k0 : (a == 0) = false := beq_eq_false_iff_ne.mpr (by omega)
 have k1 : (a == 1) = false := beq_eq_false_iff_ne.mpr (by omega)
 have k2 : (a == 2) = false := beq_eq_false_iff_ne.mpr (by omega)
 have k3 : (a == 3) = true := beq_iff_eq.mpr ha
 have b0 : (b == 0) = true := beq_iff_eq.mpr hb
 have b1 : (b == 1) = false := beq_eq_false_iff_ne.mpr (by omega)
 have n0 : (b != 0) = false := by rw [bne, b0]; rfl
 have n1 : (b != 1) = true := by rw [bne, b1]; rfl
 clear ha hb
 go_enter Try.func21, Try.ntmps21
 go_wp2
 go_ret
 exact ⟨rfl, by repeat (first | exact Below.refl _ _ | refine Below.setCell ?_ (Nat.le_refl _) _ | refine Below.setCell ?_ (Nat.le_succ _) _ | apply below_alloc)⟩
set_option maxHeartbeats 2000000 in
set_option maxRecDepth 100000 in
theorem quarryref01_Check.x2 (a b : Int) (c : ByteArray) (w : World) (ha : a = 3) (hb : ¬ b = 0) :
  Calls Try.prog 21 #[.agg #[.int .i64 a, .int .i64 b, .string c]] w fun e w' => e = .returned (.int .i64 3) ∧ Below w.heap.size w w' := by
 have lo : decide (a < 0) = false := decide_eq_false (by omega)
 have hi : decide (4 < a) = false := decide_eq_false (by omega)
 have hu38 := Try.underlying25
 have k0 : (a == 0) = false := beq_eq_false_iff_ne.mpr (by omega)
 have k1 : (a == 1) = false := beq_eq_false_iff_ne.mpr (by omega)
 have k2 : (a == 2) = false := beq_eq_false_iff_ne.mpr (by omega)
 have k3 : (a == 3) = true := beq_iff_eq.mpr ha
 have b0 : (b == 0) = false := beq_eq_false_iff_ne.mpr hb
 have n0 : (b != 0) = true := by rw [bne, b0]; rfl
 clear ha hb
 go_enter Try.func21, Try.ntmps21
 go_wp2
 go_ret
 exact ⟨rfl, by repeat (first | exact Below.refl _ _ | refine Below.setCell ?_ (Nat.le_refl _) _ | refine Below.setCell ?_ (Nat.le_succ _) _ | apply below_alloc)⟩
set_option maxHeartbeats 2000000 in
set_option maxRecDepth 100000 in
theorem quarryref01_Check.y1 (a b : Int) (c : ByteArray) (w : World) (ha : a = 4) (hb : b = 0) :
  Calls Try.prog 21 #[.agg #[.int .i64 a, .int .i64 b, .string c]] w fun e w' => e = .returned (.int .i64 0) ∧ Below w.heap.size w w' := by
 have lo : decide (a < 0) = false := decide_eq_false (by omega)
 have hi : decide (4 < a) = false := decide_eq_false (by omega)
 have hu38 := Try.underlying25
 have k0 : (a == 0) = false := beq_eq_false_iff_ne.mpr (by omega)
 have k1 : (a == 1) = false := beq_eq_false_iff_ne.mpr (by omega)
 have k2 : (a == 2) = false := beq_eq_false_iff_ne.mpr (by omega)
 have k3 : (a == 3) = false := beq_eq_false_iff_ne.mpr (by omega)
 have k4 : (a == 4) = true := beq_iff_eq.mpr ha
 have b0 : (b == 0) = true := beq_iff_eq.mpr hb
 have b1 : (b == 1) = false := beq_eq_false_iff_ne.mpr (by omega)
 have n0 : (b != 0) = false := by rw [bne, b0]; rfl
 have n1 : (b != 1) = true := by rw [bne, b1]; rfl
 clear ha hb
 go_enter Try.func21, Try.ntmps21
 go_wp2
 go_ret
 exact ⟨rfl, by repeat (first | exact Below.refl _ _ | refine Below.setCell ?_ (Nat.le_refl _) _ | refine Below.setCell ?_ (Nat.le_succ _) _ | apply below_alloc)⟩
set_option maxHeartbeats 2000000 in
set_option maxRecDepth 100000 in
theorem quarryref01_Check.y2 (a b : Int) (c : ByteArray) (w : World) (ha : a = 4) (hb : ¬ b = 0) :
  Calls Try.prog 21 #[.agg #[.int .i64 a, .int .i64 b, .string c]] w fun e w' => e = .returned (.int .i64 3) ∧ Below w.heap.size w w' := by
 have lo : decide (a < 0) = false := decide_eq_false (by omega)
 have hi : decide (4 < a) = false := decide_eq_false (by omega)
 have hu38 := Try.underlying25
 have k0 : (a == 0) = false := beq_eq_false_iff_ne.mpr (by omega)
 have k1 : (a == 1) = false := beq_eq_false_iff_ne.mpr (by omega)
 have k2 : (a == 2) = false := beq_eq_false_iff_ne.mpr (by omega)
 have k3 : (a == 3) = false := beq_eq_false_iff_ne.mpr (by omega)
 have k4 : (a == 4) = true := beq_iff_eq.mpr ha
 have b0 : (b == 0) = false := beq_eq_false_iff_ne.mpr hb
 have n0 : (b != 0) = true := by rw [bne, b0]; rfl
 clear ha hb
 go_enter Try.func21, Try.ntmps21
 go_wp2
 go_ret
 exact ⟨rfl, by repeat (first | exact Below.refl _ _ | refine Below.setCell ?_ (Nat.le_refl _) _ | refine Below.setCell ?_ (Nat.le_succ _) _ | apply below_alloc)⟩
set_option maxHeartbeats 2000000 in
set_option maxRecDepth 100000 in
theorem quarryref01_Check.o1 (a b : Int) (c : ByteArray) (w : World) (lt : a < 0) (h0 : ¬ a = 0) (h1 : ¬ a = 1) (h2 : ¬ a = 2) (h3 : ¬ a = 3) (h4 : ¬ a = 4) :
  Calls Try.prog 21 #[.agg #[.int .i64 a, .int .i64 b, .string c]] w fun e w' => e = .returned (.int .i64 5) ∧ Below w.heap.size w w' := by
 have lo : decide (a < 0) = true := decide_eq_true lt
 have hu38 := Try.underlying25
 have k0 : (a == 0) = false := beq_eq_false_iff_ne.mpr h0
 have k1 : (a == 1) = false := beq_eq_false_iff_ne.mpr h1
 have k2 : (a == 2) = false := beq_eq_false_iff_ne.mpr h2
 have k3 : (a == 3) = false := beq_eq_false_iff_ne.mpr h3
 have k4 : (a == 4) = false := beq_eq_false_iff_ne.mpr h4
 clear lt h0 h1 h2 h3 h4
 go_enter Try.func21, Try.ntmps21
 go_wp2
 go_ret
 exact ⟨rfl, by repeat (first | exact Below.refl _ _ | refine Below.setCell ?_ (Nat.le_refl _) _ | refine Below.setCell ?_ (Nat.le_succ _) _ | apply below_alloc)⟩
set_option maxHeartbeats 2000000 in
set_option maxRecDepth 100000 in
theorem quarryref01_Check.o2 (a b : Int) (c : ByteArray) (w : World) (lt : 4 < a) (h0 : ¬ a = 0) (h1 : ¬ a = 1) (h2 : ¬ a = 2) (h3 : ¬ a = 3) (h4 : ¬ a = 4) :
  Calls Try.prog 21 #[.agg #[.int .i64 a, .int .i64 b, .string c]] w fun e w' => e = .returned (.int .i64 5) ∧ Below w.heap.size w w' := by
 have lo : decide (a < 0) = false := decide_eq_false (by omega)
 have hi : decide (4 < a) = true := decide_eq_true lt
 have hu38 := Try.underlying25
 have k0 : (a == 0) = false := beq_eq_false_iff_ne.mpr h0
 have k1 : (a == 1) = false := beq_eq_false_iff_ne.mpr h1
 have k2 : (a == 2) = false := beq_eq_false_iff_ne.mpr h2
 have k3 : (a == 3) = false := beq_eq_false_iff_ne.mpr h3
 have k4 : (a == 4) = false := beq_eq_false_iff_ne.mpr h4
 clear lt h0 h1 h2 h3 h4
 go_enter Try.func21, Try.ntmps21
 go_wp2
 go_ret
 exact ⟨rfl, by repeat (first | exact Below.refl _ _ | refine Below.setCell ?_ (Nat.le_refl _) _ | refine Below.setCell ?_ (Nat.le_succ _) _ | apply below_alloc)⟩
theorem quarryref01_Check.calls (a0_0 : Int) (a0_1 : Int) (a0_2 : ByteArray) (r : Int) (w : World) (h : quarryref01_Check.f a0_0 a0_1 a0_2 = some r) :
  Calls Try.prog 21 #[.agg #[.int .i64 a0_0, .int .i64 a0_1, .string a0_2]] w fun e w' => e = .returned (.int .i64 r) ∧ Below w.heap.size w w' := by
 obtain rfl : chkR a0_0 a0_1 a0_2 = r := Option.some.inj h
 clear h
 unfold chkR
 by_cases h0 : a0_0 = 0
 ·rw [if_pos h0]
  by_cases hb : a0_1 = 0
  ·by_cases he : a0_2.toList = []
   ·rw [if_pos ⟨hb, he⟩]; exact quarryref01_Check.z1 _ _ _ w h0 hb he
   ·rw [if_neg (fun h => he h.2)]; exact quarryref01_Check.z2 _ _ _ w h0 hb he
  ·rw [if_neg (fun h => hb h.1)]; exact quarryref01_Check.z3 _ _ _ w h0 hb
 rw [if_neg h0]
 by_cases h1 : a0_0 = 1
 ·rw [if_pos h1]
  by_cases he : a0_2.toList = []
  ·by_cases hb : a0_1 = 1
   ·rw [if_pos ⟨.inr hb, he⟩]; exact quarryref01_Check.t1 _ _ _ w h1 hb he
   ·by_cases hb0 : a0_1 = 0
    ·rw [if_pos ⟨.inl hb0, he⟩]; exact quarryref01_Check.t3 _ _ _ w h1 hb0 he
    ·rw [if_neg (fun h => h.1.elim hb0 hb)]; exact quarryref01_Check.t5 _ _ _ w h1 hb0 hb he
  ·rw [if_neg (fun h => he h.2)]
   by_cases hb : a0_1 = 1
   ·exact quarryref01_Check.t2 _ _ _ w h1 hb he
   ·by_cases hb0 : a0_1 = 0
    ·exact quarryref01_Check.t4 _ _ _ w h1 hb0 he
    ·exact quarryref01_Check.t6 _ _ _ w h1 hb0 hb he
 rw [if_neg h1]
 by_cases h2 : a0_0 = 2
 ·rw [if_pos h2]
  by_cases he : a0_2.toList = []
  ·rw [if_pos he]; exact quarryref01_Check.n1 _ _ _ w h2 he
  ·rw [if_neg he]; exact quarryref01_Check.n2 _ _ _ w h2 he
 rw [if_neg h2]
 by_cases h3 : a0_0 = 3
 ·rw [if_pos (.inl h3)]
  by_cases hb : a0_1 = 0
  ·rw [if_pos hb]; exact quarryref01_Check.x1 _ _ _ w h3 hb
  ·rw [if_neg hb]; exact quarryref01_Check.x2 _ _ _ w h3 hb
 by_cases h4 : a0_0 = 4
 ·rw [if_pos (.inr h4)]
  by_cases hb : a0_1 = 0
  ·rw [if_pos hb]; exact quarryref01_Check.y1 _ _ _ w h4 hb
  ·rw [if_neg hb]; exact quarryref01_Check.y2 _ _ _ w h4 hb
 rw [if_neg (by omega)]
 by_cases hn : a0_0 < 0
 ·exact quarryref01_Check.o1 _ _ _ w hn h0 h1 h2 h3 h4
 ·exact quarryref01_Check.o2 _ _ _ w (by omega) h0 h1 h2 h3 h4
end Go.Proofs.Ytmfenomjhmhogaa.P
end
section
namespace Go.Proofs.Ytmfenomjhmhogaa.P
open Go.RowKit Go.Proofs.YtmfenomjhmhogaaW.PrintWords Go.Proofs.YtmfenomjhmhogaaW.PrintLast Go.Proofs.YtmfenomjhmhogaaW.PrintMore
attribute [local go_sem] max2_int min2_int max_two min_two max_three min_three max_four min_four
set_option linter.unusedVariables false
set_option linter.unusedSimpArgs false
mutual
def quarryref03_bytes.l0 : Nat → List Int → Int → Int → Option (List Int)
 | 0, _, _, _ => none
 | k + 1, x3, x4, x5 => if x5 ≥ 0 then (if 0 ≤ (wrap64 (8 * x5)) then (if x3.length < 140737488355328 then (quarryref03_bytes.l0 k (x3 ++ [(Int.tmod (shr .u64 x4 (wrap64 (8 * x5))) 256) % 256]) x4 (wrap64 (x5 - 1))) else (none)) else (none)) else (some x3)
def quarryref03_bytes.l1 : Nat → List Int → Int → Int → Int → ByteArray → Option (List Int)
 | 0, _, _, _, _, _ => none
 | k + 1, x3, x6, x154000, x154001, x154002 => if x6 < (x154002.size : Int) then (if 0 ≤ x6 then (if x3.length < 140737488355328 then ((some (x3 ++ [bt x154002 x6] : List Int)).bind fun y163 => (if (bt x154002 x6) = 0 then (if y163.length < 140737488355328 then (quarryref03_bytes.l1 k (y163 ++ [255]) (wrap64 (x6 + 1)) x154000 x154001 x154002) else (none)) else (quarryref03_bytes.l1 k y163 (wrap64 (x6 + 1)) x154000 x154001 x154002))) else (none)) else (none)) else ((some (([0, 1] : List Int) : List Int)).bind fun y169 => (if x3.length + y169.length < 140737488355328 then (some (x3 ++ y169)) else (none)))
end
def quarryref03_bytes.f (k : Nat) (a0_0 : Int) (a0_1 : Int) (a0_2 : ByteArray) : Option (List Int) := (some (([(wrap64 (a0_0 + 1)) % 256] : List Int) : List Int)).bind fun y154 => (if a0_0 = 0 then (some y154) else (if a0_0 = 1 then (if y154.length < 140737488355328 then (some (y154 ++ [(a0_1) % 256])) else (none)) else (if a0_0 = 2 then (quarryref03_bytes.l0 k y154 (IntKind.u64.wrap ((IntKind.u64.wrap (a0_1)) + 9223372036854775808)) 7) else (quarryref03_bytes.l1 k y154 0 a0_0 a0_1 a0_2))))
set_option maxHeartbeats 8000000 in
set_option maxRecDepth 100000 in
theorem quarryref03_bytes.calls (k : Nat) (a0_0 : Int) (a0_1 : Int) (a0_2 : ByteArray) (r : List Int) (w : World) (h : quarryref03_bytes.f k a0_0 a0_1 a0_2 = some r) :
  Calls Try.prog 44 #[.agg #[.int .i64 a0_0, .int .i64 a0_1, .string a0_2]] w fun e w' => ∃ v0_ : Value, e = .returned (v0_) ∧ Kd.R (Kd.int .u8) 5 w' w.heap.size (fun _ => True) v0_ r ∧ Below w.heap.size w w' := by
 have hu25 := Try.underlying25
 have HB := Aside0.mk (Below.refl w.heap.size w)
 have H : ((some (([(wrap64 (a0_0 + 1)) % 256] : List Int) : List Int)).bind fun y154 => (if a0_0 = 0 then (some y154) else (if a0_0 = 1 then (if y154.length < 140737488355328 then (some (y154 ++ [(a0_1) % 256])) else (none)) else (if a0_0 = 2 then (quarryref03_bytes.l0 k y154 (IntKind.u64.wrap ((IntKind.u64.wrap (a0_1)) + 9223372036854775808)) 7) else (quarryref03_bytes.l1 k y154 0 a0_0 a0_1 a0_2))))) = some r := h
 clear h
 obtain ⟨y154, hy154⟩ : ∃ y_ : List Int, y_ = (([(wrap64 (a0_0 + 1)) % 256] : List Int)) := ⟨_, rfl⟩
 replace H : (if a0_0 = 0 then (some y154) else (if a0_0 = 1 then (if y154.length < 140737488355328 then (some (y154 ++ [(a0_1) % 256])) else (none)) else (if a0_0 = 2 then (quarryref03_bytes.l0 k y154 (IntKind.u64.wrap ((IntKind.u64.wrap (a0_1)) + 9223372036854775808)) 7) else (quarryref03_bytes.l1 k y154 0 a0_0 a0_1 a0_2)))) = some r := by first | (rw [hy154]; with_reducible exact H) | (have H2_ := (Option.bind_some _ _).symm.trans H; rw [hy154]; with_reducible exact H2_) | (have H2_ := (Option.bind_some _ _).symm.trans H; with_reducible exact H2_) | with_reducible exact H | (rw [hy154]; exact H) | exact H
 have Ny154 := Aside0.mk hy154
 clear hy154
 by_cases c2 : a0_0 = 0
 ·rw [if_pos c2] at H
  have c2b0 : (a0_0 == 0) = true := beq_iff_eq.mpr c2
  have c2b1 : (a0_0 != 0) = false := bne_eq_false_iff_eq.mpr c2
  clear c2
  obtain rfl := Option.some.inj H
  go_enter Try.func44, Try.ntmps44
  go_wp2_with (first | ((with_reducible refine gate_dst (N := 1) rfl ?_); refine box_event ?hg (N := 1) ?hd (cs := #[.int .i64 a0_0, .int .i64 a0_1, .string a0_2]) (t := 25) ?hr ?_; (case hd => rfl); (case hg => rfl); (case hr => first | (go_simp; done) | (go_simp; rfl)); intro gb153 hg w3 hbox hb; have n0_ := Aside0.mk (below_step (by repeat (first | (with_reducible first | exact HB.out | apply below_alloc | apply pw_below_drewN | apply below_drew1) | exact HB.out)) hb); have n1_ := Aside0.mk (hbox); have n2_ := Aside0.mk ((by rw [hg]; exact (below_size (by repeat (first | (with_reducible first | exact HB.out | apply below_alloc | apply pw_below_drewN | apply below_drew1) | exact HB.out))) : w.heap.size ≤ gb153)); have n3_ := Aside0.mk ((by rw [hg]; exact (below_size (by repeat (first | (with_reducible first | exact HB.out | apply below_alloc | apply pw_below_drewN | apply below_drew1) | exact HB.out))) : w.heap.size ≤ gb153)); clear HB; have HB := n0_; have BK153 := n1_; have GW153 := n2_; have GE153 := n3_; clear n0_ n1_ n2_ n3_; clear hb hbox hg; have hcz4_0 : w3.cell? ⟨gb153, 0, none⟩ = some (.int .i64 a0_0) := (blk_cell BK153.out 0).trans rfl; have hcz4_1 : w3.cell? ⟨gb153, 1, none⟩ = some (.int .i64 a0_1) := (blk_cell BK153.out 1).trans rfl; have hcz4_2 : w3.cell? ⟨gb153, 2, none⟩ = some (.string a0_2) := (blk_cell BK153.out 2).trans rfl; have hfz4_0 := blk_frozen BK153.out 0; have hfz4_1 := blk_frozen BK153.out 1; have hfz4_2 := blk_frozen BK153.out 2) | ((with_reducible refine gate_dst (N := 11) rfl ?_); refine Kd.R_lit (Kd.int .u8) _ 5 ?hg (N := 11) ?hd (xs := ([(wrap64 (a0_0 + 1)) % 256] : List Int)) (inner := [.int .u8 ((wrap64 (a0_0 + 1)) % 256)]) (ok := fun _ => True) (okp := fun _ => True) ?hr ?hp (fun _ hk => hk) trivial (Below.refl _ _) (Nat.le_refl _) (by simp) ?_; (case hd => rfl); (case hg => rfl); (case hr => first | (go_simp; done) | (go_simp; rfl)); (case hp => exact (Reps.one (show Kd.M (Kd.int .u8) _ _ _ ((wrap64 (a0_0 + 1)) % 256) [.int .u8 ((wrap64 (a0_0 + 1)) % 256)] from rfl) (Reps.none _ _))); intro v155 w5 ho6 hb hg_ hnew_; clear hg_ hnew_; (first | rw [← Ny154.out] at ho6 | (simp only [Int.reduceToNat] at ho6; rw [← Ny154.out] at ho6)); have n0_ := Aside0.mk (Kd.R_lower ho6 (below_size (by repeat (first | (with_reducible first | exact HB.out | apply below_alloc | apply pw_below_drewN | apply below_drew1 | refine below_set ?_ GE153.out) | exact HB.out)))); have n1_ := Aside0.mk (blk_below (g := gb153) (o := .cells #[.int .i64 a0_0, .int .i64 a0_1, .string a0_2] 25 (0, 0)) (bk_ BK153) hb); have n2_ := Aside0.mk (below_step (by repeat (first | (with_reducible first | exact HB.out | apply below_alloc | apply pw_below_drewN | apply below_drew1 | refine below_set ?_ GE153.out) | exact HB.out)) hb); clear BK153; clear HB; have HO156 := n0_; have BK153 := n1_; have HB := n2_; clear n0_ n1_ n2_; clear hb ho6; have hcz7_0 : w5.cell? ⟨gb153, 0, none⟩ = some (.int .i64 a0_0) := (blk_cell BK153.out 0).trans rfl; have hcz7_1 : w5.cell? ⟨gb153, 1, none⟩ = some (.int .i64 a0_1) := (blk_cell BK153.out 1).trans rfl; have hcz7_2 : w5.cell? ⟨gb153, 2, none⟩ = some (.string a0_2) := (blk_cell BK153.out 2).trans rfl; have hfz7_0 := blk_frozen BK153.out 0; have hfz7_1 := blk_frozen BK153.out 1; have hfz7_2 := blk_frozen BK153.out 2))
  go_ret
  exact ⟨_, by first | rfl | (simp [errW_none, errW_some] <;> rfl) | (simp [*, errW_none, errW_some] <;> rfl), by (with_reducible repeat (first | apply Kd.R_alloc | apply Kd.R_drewN | apply Kd.R_drew)); exact HO156.out, by repeat (first | (with_reducible first | exact HB.out | apply below_alloc | apply pw_below_drewN | apply below_drew1 | refine below_set ?_ GE153.out) | exact HB.out)⟩
 ·rw [if_neg c2] at H
  have c2b0 : (a0_0 == 0) = false := beq_eq_false_iff_ne.mpr c2
  have c2b1 : (a0_0 != 0) = true := bne_iff_ne.mpr c2
  by_cases c8 : a0_0 = 1
  ·rw [if_pos c8] at H
   have c8b0 : (a0_0 == 1) = true := beq_iff_eq.mpr c8
   have c8b1 : (a0_0 != 1) = false := bne_eq_false_iff_eq.mpr c8
   clear c8
   by_cases c9 : y154.length < 140737488355328
   ·rw [if_pos c9] at H
    have LMc9 := Aside0.mk c9
    clear c9
    obtain ⟨y157, hy157⟩ : ∃ y_ : List Int, y_ = (y154 ++ [(a0_1) % 256]) := ⟨_, rfl⟩
    replace H : (some y157) = some r := by first | (rw [hy157]; with_reducible exact H) | (have H2_ := (Option.bind_some _ _).symm.trans H; rw [hy157]; with_reducible exact H2_) | (have H2_ := (Option.bind_some _ _).symm.trans H; with_reducible exact H2_) | with_reducible exact H | (rw [hy157]; exact H) | exact H
    have Ny157 := Aside0.mk hy157
    clear hy157
    obtain rfl := Option.some.inj H
    go_enter Try.func44, Try.ntmps44
    go_wp2_with (first | ((with_reducible refine gate_dst (N := 1) rfl ?_); refine box_event ?hg (N := 1) ?hd (cs := #[.int .i64 a0_0, .int .i64 a0_1, .string a0_2]) (t := 25) ?hr ?_; (case hd => rfl); (case hg => rfl); (case hr => first | (go_simp; done) | (go_simp; rfl)); intro gb153 hg w10 hbox hb; have n0_ := Aside0.mk (below_step (by repeat (first | (with_reducible first | exact HB.out | apply below_alloc | apply pw_below_drewN | apply below_drew1) | exact HB.out)) hb); have n1_ := Aside0.mk (hbox); have n2_ := Aside0.mk ((by rw [hg]; exact (below_size (by repeat (first | (with_reducible first | exact HB.out | apply below_alloc | apply pw_below_drewN | apply below_drew1) | exact HB.out))) : w.heap.size ≤ gb153)); have n3_ := Aside0.mk ((by rw [hg]; exact (below_size (by repeat (first | (with_reducible first | exact HB.out | apply below_alloc | apply pw_below_drewN | apply below_drew1) | exact HB.out))) : w.heap.size ≤ gb153)); clear HB; have HB := n0_; have BK153 := n1_; have GW153 := n2_; have GE153 := n3_; clear n0_ n1_ n2_ n3_; clear hb hbox hg; have hcz11_0 : w10.cell? ⟨gb153, 0, none⟩ = some (.int .i64 a0_0) := (blk_cell BK153.out 0).trans rfl; have hcz11_1 : w10.cell? ⟨gb153, 1, none⟩ = some (.int .i64 a0_1) := (blk_cell BK153.out 1).trans rfl; have hcz11_2 : w10.cell? ⟨gb153, 2, none⟩ = some (.string a0_2) := (blk_cell BK153.out 2).trans rfl; have hfz11_0 := blk_frozen BK153.out 0; have hfz11_1 := blk_frozen BK153.out 1; have hfz11_2 := blk_frozen BK153.out 2) | ((with_reducible refine gate_dst (N := 11) rfl ?_); refine Kd.R_lit (Kd.int .u8) _ 5 ?hg (N := 11) ?hd (xs := ([(wrap64 (a0_0 + 1)) % 256] : List Int)) (inner := [.int .u8 ((wrap64 (a0_0 + 1)) % 256)]) (ok := fun _ => True) (okp := fun _ => True) ?hr ?hp (fun _ hk => hk) trivial (Below.refl _ _) (Nat.le_refl _) (by simp) ?_; (case hd => rfl); (case hg => rfl); (case hr => first | (go_simp; done) | (go_simp; rfl)); (case hp => exact (Reps.one (show Kd.M (Kd.int .u8) _ _ _ ((wrap64 (a0_0 + 1)) % 256) [.int .u8 ((wrap64 (a0_0 + 1)) % 256)] from rfl) (Reps.none _ _))); intro v155 w12 ho13 hb hg_ hnew_; clear hg_ hnew_; (first | rw [← Ny154.out] at ho13 | (simp only [Int.reduceToNat] at ho13; rw [← Ny154.out] at ho13)); have n0_ := Aside0.mk (Kd.R_lower ho13 (below_size (by repeat (first | (with_reducible first | exact HB.out | apply below_alloc | apply pw_below_drewN | apply below_drew1 | refine below_set ?_ GE153.out) | exact HB.out)))); have n1_ := Aside0.mk (blk_below (g := gb153) (o := .cells #[.int .i64 a0_0, .int .i64 a0_1, .string a0_2] 25 (0, 0)) (bk_ BK153) hb); have n2_ := Aside0.mk (below_step (by repeat (first | (with_reducible first | exact HB.out | apply below_alloc | apply pw_below_drewN | apply below_drew1 | refine below_set ?_ GE153.out) | exact HB.out)) hb); clear BK153; clear HB; have HO156 := n0_; have BK153 := n1_; have HB := n2_; clear n0_ n1_ n2_; clear hb ho13; have hcz14_0 : w12.cell? ⟨gb153, 0, none⟩ = some (.int .i64 a0_0) := (blk_cell BK153.out 0).trans rfl; have hcz14_1 : w12.cell? ⟨gb153, 1, none⟩ = some (.int .i64 a0_1) := (blk_cell BK153.out 1).trans rfl; have hcz14_2 : w12.cell? ⟨gb153, 2, none⟩ = some (.string a0_2) := (blk_cell BK153.out 2).trans rfl; have hfz14_0 := blk_frozen BK153.out 0; have hfz14_1 := blk_frozen BK153.out 1; have hfz14_2 := blk_frozen BK153.out 2) | ((with_reducible refine gate_builtin (b := .append) (xs := #[.tmp 19, .tmp 23]) rfl ?_); at_builtin; refine Kd.R_append (Kd.int .u8) (w0 := w) w.heap.size rfl (.tmp 19) (.tmp 23) 44 5 (.int .u8 0) 1 rfl Try.underlying44 info5 rfl (by decide) (by omega) v155 y154 ((a0_1) % 256) [.int .u8 ((a0_1) % 256)] (fun _ => True) (fun _ => False) rfl rfl ?aP (fun _ hk => hk.elim) ?aF ?aO ?aB ?aS ?aL ?_; (case aP => exact rfl); (case aB => exact (by repeat (first | (with_reducible first | exact HB.out | apply below_alloc | apply pw_below_drewN | apply below_drew1 | refine below_set ?_ GE153.out) | exact HB.out))); (case aF => exact (fun _ _ => trivial)); (case aO => exact (by (with_reducible repeat (first | apply Kd.R_alloc | apply Kd.R_drewN | apply Kd.R_drew)); exact HO156.out)); (case aS => exact (below_size (by repeat (first | (with_reducible first | exact HB.out | apply below_alloc | apply pw_below_drewN | apply below_drew1 | refine below_set ?_ GE153.out) | exact HB.out)))); (case aL => have := LMc9.out; omega); intro v158 w15 ho hb hg hat; rw [← Ny157.out] at ho; have n0_ := Aside0.mk (blk_grown (g := gb153) (o := .cells #[.int .i64 a0_0, .int .i64 a0_1, .string a0_2] 25 (0, 0)) (bk_ BK153) hg (Kd.R_ne HO156.out BK153.out (by decide))); have n1_ := Aside0.mk (hb); have n2_ := Aside0.mk (ho); clear BK153; clear HB; clear HO156; have BK153 := n0_; have HB := n1_; have HO159 := n2_; clear n0_ n1_ n2_; clear ho hb hg hat))
    go_ret
    exact ⟨_, by first | rfl | (simp [errW_none, errW_some] <;> rfl) | (simp [*, errW_none, errW_some] <;> rfl), by (with_reducible repeat (first | apply Kd.R_alloc | apply Kd.R_drewN | apply Kd.R_drew)); exact HO159.out, by repeat (first | (with_reducible first | exact HB.out | apply below_alloc | apply pw_below_drewN | apply below_drew1 | refine below_set ?_ GE153.out) | exact HB.out)⟩
   ·rw [if_neg c9] at H
    exact absurd H (by simp)
  ·rw [if_neg c8] at H
   have c8b0 : (a0_0 == 1) = false := beq_eq_false_iff_ne.mpr c8
   have c8b1 : (a0_0 != 1) = true := bne_iff_ne.mpr c8
   by_cases c16 : a0_0 = 2
   ·rw [if_pos c16] at H
    have c16b0 : (a0_0 == 2) = true := beq_iff_eq.mpr c16
    have c16b1 : (a0_0 != 2) = false := bne_eq_false_iff_eq.mpr c16
    clear c16
    have H' := Aside0.mk H
    clear H
    go_enter Try.func44, Try.ntmps44
    go_wp2_with (first | ((with_reducible refine gate_dst (N := 1) rfl ?_); refine box_event ?hg (N := 1) ?hd (cs := #[.int .i64 a0_0, .int .i64 a0_1, .string a0_2]) (t := 25) ?hr ?_; (case hd => rfl); (case hg => rfl); (case hr => first | (go_simp; done) | (go_simp; rfl)); intro gb153 hg w17 hbox hb; have n0_ := Aside0.mk (below_step (by repeat (first | (with_reducible first | exact HB.out | apply below_alloc | apply pw_below_drewN | apply below_drew1) | exact HB.out)) hb); have n1_ := Aside0.mk (hbox); have n2_ := Aside0.mk ((by rw [hg]; exact (below_size (by repeat (first | (with_reducible first | exact HB.out | apply below_alloc | apply pw_below_drewN | apply below_drew1) | exact HB.out))) : w.heap.size ≤ gb153)); have n3_ := Aside0.mk ((by rw [hg]; exact (below_size (by repeat (first | (with_reducible first | exact HB.out | apply below_alloc | apply pw_below_drewN | apply below_drew1) | exact HB.out))) : w.heap.size ≤ gb153)); clear HB; have HB := n0_; have BK153 := n1_; have GW153 := n2_; have GE153 := n3_; clear n0_ n1_ n2_ n3_; clear hb hbox hg; have hcz18_0 : w17.cell? ⟨gb153, 0, none⟩ = some (.int .i64 a0_0) := (blk_cell BK153.out 0).trans rfl; have hcz18_1 : w17.cell? ⟨gb153, 1, none⟩ = some (.int .i64 a0_1) := (blk_cell BK153.out 1).trans rfl; have hcz18_2 : w17.cell? ⟨gb153, 2, none⟩ = some (.string a0_2) := (blk_cell BK153.out 2).trans rfl; have hfz18_0 := blk_frozen BK153.out 0; have hfz18_1 := blk_frozen BK153.out 1; have hfz18_2 := blk_frozen BK153.out 2) | ((with_reducible refine gate_dst (N := 11) rfl ?_); refine Kd.R_lit (Kd.int .u8) _ 5 ?hg (N := 11) ?hd (xs := ([(wrap64 (a0_0 + 1)) % 256] : List Int)) (inner := [.int .u8 ((wrap64 (a0_0 + 1)) % 256)]) (ok := fun _ => True) (okp := fun _ => True) ?hr ?hp (fun _ hk => hk) trivial (Below.refl _ _) (Nat.le_refl _) (by simp) ?_; (case hd => rfl); (case hg => rfl); (case hr => first | (go_simp; done) | (go_simp; rfl)); (case hp => exact (Reps.one (show Kd.M (Kd.int .u8) _ _ _ ((wrap64 (a0_0 + 1)) % 256) [.int .u8 ((wrap64 (a0_0 + 1)) % 256)] from rfl) (Reps.none _ _))); intro v155 w19 ho20 hb hg_ hnew_; clear hg_ hnew_; (first | rw [← Ny154.out] at ho20 | (simp only [Int.reduceToNat] at ho20; rw [← Ny154.out] at ho20)); have n0_ := Aside0.mk (Kd.R_lower ho20 (below_size (by repeat (first | (with_reducible first | exact HB.out | apply below_alloc | apply pw_below_drewN | apply below_drew1 | refine below_set ?_ GE153.out) | exact HB.out)))); have n1_ := Aside0.mk (blk_below (g := gb153) (o := .cells #[.int .i64 a0_0, .int .i64 a0_1, .string a0_2] 25 (0, 0)) (bk_ BK153) hb); have n2_ := Aside0.mk (below_step (by repeat (first | (with_reducible first | exact HB.out | apply below_alloc | apply pw_below_drewN | apply below_drew1 | refine below_set ?_ GE153.out) | exact HB.out)) hb); clear BK153; clear HB; have HO156 := n0_; have BK153 := n1_; have HB := n2_; clear n0_ n1_ n2_; clear hb ho20; have hcz21_0 : w19.cell? ⟨gb153, 0, none⟩ = some (.int .i64 a0_0) := (blk_cell BK153.out 0).trans rfl; have hcz21_1 : w19.cell? ⟨gb153, 1, none⟩ = some (.int .i64 a0_1) := (blk_cell BK153.out 1).trans rfl; have hcz21_2 : w19.cell? ⟨gb153, 2, none⟩ = some (.string a0_2) := (blk_cell BK153.out 2).trans rfl; have hfz21_0 := blk_frozen BK153.out 0; have hfz21_1 := blk_frozen BK153.out 1; have hfz21_2 := blk_frozen BK153.out 2))
    go_loopg [3, 5] k (fun kq v3 v5 w' => ∃ (x3_1 : List Int) (x5_1 : Int), v5 = .int .i64 x5_1 ∧ Aside0 (quarryref03_bytes.l0 kq x3_1 (IntKind.u64.wrap ((IntKind.u64.wrap (a0_1)) + 9223372036854775808)) x5_1 = some r) ∧ Aside0 (kq ≤ k) ∧ Aside0 (Kd.R (Kd.int .u8) 5 w' w.heap.size (fun _ => True) v3 x3_1) ∧ Aside0 (w'.heap[gb153]? = some (.cells #[.int .i64 a0_0, .int .i64 a0_1, .string a0_2] 25 (0, 0))) ∧ Aside0 (Below w.heap.size w w'))
    case atStart => exact ⟨(y154), (7), (by first | rfl | (simp; done) | (simp [*]; done)), H', ⟨Nat.le_refl _⟩, ⟨by (with_reducible repeat (first | apply Kd.R_alloc | apply Kd.R_drewN | apply Kd.R_drew)); exact HO156.out⟩, ⟨by (with_reducible repeat (first | refine blk_drewN ?_ _ | refine blk_drew ?_ | refine blk_alloc ?_ _)); exact BK153.out⟩, ⟨by repeat (first | (with_reducible first | exact HB.out | apply below_alloc | apply pw_below_drewN | apply below_drew1 | refine below_set ?_ GE153.out) | exact HB.out)⟩⟩
    case round =>
     clear H'
     try clear c1
     try clear c2
     try clear c2b0
     try clear c2b1
     try clear p2
     try clear c4
     try clear p6
     try clear c8
     try clear c8b0
     try clear c8b1
     try clear c9
     try clear c16
     try clear c16b0
     try clear c16b1
     try clear hcz11_0
     try clear hcz11_1
     try clear hcz11_2
     try clear hcz14_0
     try clear hcz14_1
     try clear hcz14_2
     try clear hcz18_0
     try clear hcz18_1
     try clear hcz18_2
     try clear hcz21_0
     try clear hcz21_1
     try clear hcz21_2
     try clear hcz4_0
     try clear hcz4_1
     try clear hcz4_2
     try clear hcz7_0
     try clear hcz7_1
     try clear hcz7_2
     try clear hfz11_0
     try clear hfz11_1
     try clear hfz11_2
     try clear hfz14_0
     try clear hfz14_1
     try clear hfz14_2
     try clear hfz18_0
     try clear hfz18_1
     try clear hfz18_2
     try clear hfz21_0
     try clear hfz21_1
     try clear hfz21_2
     try clear hfz4_0
     try clear hfz4_1
     try clear hfz4_2
     try clear hfz7_0
     try clear hfz7_1
     try clear hfz7_2
     obtain ⟨x3_1, x5_1, rfl, HA, HK1, HO_3, BK153, HB⟩ := hrel
     cases gk with
     | zero => exact absurd HA.out (by simp [quarryref03_bytes.l0])
     | succ k1 =>
      have H := HA.out
      clear HA
      simp only [quarryref03_bytes.l0] at H
      by_cases c22 : x5_1 ≥ 0
      ·rw [if_pos c22] at H
       have c22b0 : decide (0 ≤ x5_1) = true := decide_eq_true c22
       clear c22
       obtain ⟨ji23, hji23⟩ : ∃ j_ : Int, (wrap64 (8 * x5_1)) = j_ := ⟨_, rfl⟩
       replace H : (if 0 ≤ (ji23) then (if x3_1.length < 140737488355328 then (quarryref03_bytes.l0 k1 (x3_1 ++ [(Int.tmod (shr .u64 (IntKind.u64.wrap ((IntKind.u64.wrap (a0_1)) + 9223372036854775808)) (ji23)) 256) % 256]) (IntKind.u64.wrap ((IntKind.u64.wrap (a0_1)) + 9223372036854775808)) (wrap64 (x5_1 - 1))) else (none)) else (none)) = some r := by first | (rw [hji23] at H; exact H) | (simp only [hji23] at H ⊢; exact H)
       have hji23w : (IntKind.i64.wrap (8 * x5_1)) = ji23 := (i64_w _).trans hji23
       by_cases c24 : 0 ≤ (ji23)
       ·rw [if_pos c24] at H
        have c24b0 := eq_true c24
        have c24b1 : decide (0 ≤ (ji23)) = true := decide_eq_true c24
        clear c24
        obtain ⟨ji25, hji25⟩ : ∃ j_ : Int, (shr .u64 (IntKind.u64.wrap ((IntKind.u64.wrap (a0_1)) + 9223372036854775808)) (ji23)) = j_ := ⟨_, rfl⟩
        replace H : (if x3_1.length < 140737488355328 then (quarryref03_bytes.l0 k1 (x3_1 ++ [(Int.tmod (ji25) 256) % 256]) (IntKind.u64.wrap ((IntKind.u64.wrap (a0_1)) + 9223372036854775808)) (wrap64 (x5_1 - 1))) else (none)) = some r := by first | (rw [hji25] at H; exact H) | (simp only [hji25] at H ⊢; exact H)
        have hji25_ : ((IntKind.u64.wrap ((IntKind.u64.wrap (a0_1)) + 9223372036854775808)) / 2 ^ min (ji23).toNat 64) = ji25 := hji25
        have hji25z : (ji23) ≤ 64 → ((IntKind.u64.wrap ((IntKind.u64.wrap (a0_1)) + 9223372036854775808)) / 2 ^ (ji23).toNat) = ji25 := shr_small hji25
        by_cases c26 : x3_1.length < 140737488355328
        ·rw [if_pos c26] at H
         have LMc26 := Aside0.mk c26
         clear c26
         obtain ⟨y160, hy160⟩ : ∃ y_ : List Int, y_ = (x3_1 ++ [(Int.tmod (ji25) 256) % 256]) := ⟨_, rfl⟩
         replace H : (quarryref03_bytes.l0 k1 y160 (IntKind.u64.wrap ((IntKind.u64.wrap (a0_1)) + 9223372036854775808)) (wrap64 (x5_1 - 1))) = some r := by first | (rw [hy160]; with_reducible exact H) | (have H2_ := (Option.bind_some _ _).symm.trans H; rw [hy160]; with_reducible exact H2_) | (have H2_ := (Option.bind_some _ _).symm.trans H; with_reducible exact H2_) | with_reducible exact H | (rw [hy160]; exact H) | exact H
         have Ny160 := Aside0.mk hy160
         clear hy160
         have H' := Aside0.mk H
         clear H
         go_wp2_with (first | ((with_reducible refine gate_builtin (b := .append) (xs := #[.tmp 35, .tmp 42]) rfl ?_); at_builtin; refine Kd.R_append (Kd.int .u8) (w0 := w) w.heap.size rfl (.tmp 35) (.tmp 42) 44 5 (.int .u8 0) 1 rfl Try.underlying44 info5 rfl (by decide) (by omega) u3 x3_1 ((Int.tmod (ji25) 256) % 256) [.int .u8 ((Int.tmod (ji25) 256) % 256)] (fun _ => True) (fun _ => False) rfl rfl ?aP (fun _ hk => hk.elim) ?aF ?aO ?aB ?aS ?aL ?_; (case aP => exact rfl); (case aB => exact (by repeat (first | (with_reducible first | exact HB.out | apply below_alloc | apply pw_below_drewN | apply below_drew1 | refine below_set ?_ GE153.out) | exact HB.out))); (case aF => exact (fun _ _ => trivial)); (case aO => exact (by (with_reducible repeat (first | apply Kd.R_alloc | apply Kd.R_drewN | apply Kd.R_drew)); exact HO_3.out)); (case aS => exact (below_size (by repeat (first | (with_reducible first | exact HB.out | apply below_alloc | apply pw_below_drewN | apply below_drew1 | refine below_set ?_ GE153.out) | exact HB.out)))); (case aL => have := LMc26.out; omega); intro v161 w27 ho hb hg hat; rw [← Ny160.out] at ho; have n0_ := Aside0.mk (blk_grown (g := gb153) (o := .cells #[.int .i64 a0_0, .int .i64 a0_1, .string a0_2] 25 (0, 0)) (bk_ BK153) hg (Kd.R_ne HO_3.out BK153.out (by decide))); have n1_ := Aside0.mk (hb); have n2_ := Aside0.mk (ho); clear BK153; clear HB; clear HO_3; have BK153 := n0_; have HB := n1_; have HO162 := n2_; clear n0_ n1_ n2_; clear ho hb hg hat))
         go_roundg k1
         case measure => have := HK1.out; omega
         case rel => exact ⟨(y160), (wrap64 (x5_1 - 1)), (by first | rfl | (simp; done) | (simp [*]; done)), H', ⟨by have := HK1.out; omega⟩, ⟨by (with_reducible repeat (first | apply Kd.R_alloc | apply Kd.R_drewN | apply Kd.R_drew)); exact HO162.out⟩, ⟨by (with_reducible repeat (first | refine blk_drewN ?_ _ | refine blk_drew ?_ | refine blk_alloc ?_ _)); exact BK153.out⟩, ⟨by repeat (first | (with_reducible first | exact HB.out | apply below_alloc | apply pw_below_drewN | apply below_drew1 | refine below_set ?_ GE153.out) | exact HB.out)⟩⟩
        ·rw [if_neg c26] at H
         exact absurd H (by simp)
       ·rw [if_neg c24] at H
        exact absurd H (by simp)
      ·rw [if_neg c22] at H
       have c22b0 : decide (0 ≤ x5_1) = false := decide_eq_false c22
       clear c22
       obtain rfl := Option.some.inj H
       go_wp2
       go_ret
       exact ⟨_, by first | rfl | (simp [errW_none, errW_some] <;> rfl) | (simp [*, errW_none, errW_some] <;> rfl), by (with_reducible repeat (first | apply Kd.R_alloc | apply Kd.R_drewN | apply Kd.R_drew)); exact HO_3.out, by repeat (first | (with_reducible first | exact HB.out | apply below_alloc | apply pw_below_drewN | apply below_drew1 | refine below_set ?_ GE153.out) | exact HB.out)⟩
   ·rw [if_neg c16] at H
    have c16b0 : (a0_0 == 2) = false := beq_eq_false_iff_ne.mpr c16
    have c16b1 : (a0_0 != 2) = true := bne_iff_ne.mpr c16
    have H' := Aside0.mk H
    clear H
    go_enter Try.func44, Try.ntmps44
    go_wp2_with (first | ((with_reducible refine gate_dst (N := 1) rfl ?_); refine box_event ?hg (N := 1) ?hd (cs := #[.int .i64 a0_0, .int .i64 a0_1, .string a0_2]) (t := 25) ?hr ?_; (case hd => rfl); (case hg => rfl); (case hr => first | (go_simp; done) | (go_simp; rfl)); intro gb153 hg w28 hbox hb; have n0_ := Aside0.mk (below_step (by repeat (first | (with_reducible first | exact HB.out | apply below_alloc | apply pw_below_drewN | apply below_drew1) | exact HB.out)) hb); have n1_ := Aside0.mk (hbox); have n2_ := Aside0.mk ((by rw [hg]; exact (below_size (by repeat (first | (with_reducible first | exact HB.out | apply below_alloc | apply pw_below_drewN | apply below_drew1) | exact HB.out))) : w.heap.size ≤ gb153)); have n3_ := Aside0.mk ((by rw [hg]; exact (below_size (by repeat (first | (with_reducible first | exact HB.out | apply below_alloc | apply pw_below_drewN | apply below_drew1) | exact HB.out))) : w.heap.size ≤ gb153)); clear HB; have HB := n0_; have BK153 := n1_; have GW153 := n2_; have GE153 := n3_; clear n0_ n1_ n2_ n3_; clear hb hbox hg; have hcz29_0 : w28.cell? ⟨gb153, 0, none⟩ = some (.int .i64 a0_0) := (blk_cell BK153.out 0).trans rfl; have hcz29_1 : w28.cell? ⟨gb153, 1, none⟩ = some (.int .i64 a0_1) := (blk_cell BK153.out 1).trans rfl; have hcz29_2 : w28.cell? ⟨gb153, 2, none⟩ = some (.string a0_2) := (blk_cell BK153.out 2).trans rfl; have hfz29_0 := blk_frozen BK153.out 0; have hfz29_1 := blk_frozen BK153.out 1; have hfz29_2 := blk_frozen BK153.out 2) | ((with_reducible refine gate_dst (N := 11) rfl ?_); refine Kd.R_lit (Kd.int .u8) _ 5 ?hg (N := 11) ?hd (xs := ([(wrap64 (a0_0 + 1)) % 256] : List Int)) (inner := [.int .u8 ((wrap64 (a0_0 + 1)) % 256)]) (ok := fun _ => True) (okp := fun _ => True) ?hr ?hp (fun _ hk => hk) trivial (Below.refl _ _) (Nat.le_refl _) (by simp) ?_; (case hd => rfl); (case hg => rfl); (case hr => first | (go_simp; done) | (go_simp; rfl)); (case hp => exact (Reps.one (show Kd.M (Kd.int .u8) _ _ _ ((wrap64 (a0_0 + 1)) % 256) [.int .u8 ((wrap64 (a0_0 + 1)) % 256)] from rfl) (Reps.none _ _))); intro v155 w30 ho31 hb hg_ hnew_; clear hg_ hnew_; (first | rw [← Ny154.out] at ho31 | (simp only [Int.reduceToNat] at ho31; rw [← Ny154.out] at ho31)); have n0_ := Aside0.mk (Kd.R_lower ho31 (below_size (by repeat (first | (with_reducible first | exact HB.out | apply below_alloc | apply pw_below_drewN | apply below_drew1 | refine below_set ?_ GE153.out) | exact HB.out)))); have n1_ := Aside0.mk (blk_below (g := gb153) (o := .cells #[.int .i64 a0_0, .int .i64 a0_1, .string a0_2] 25 (0, 0)) (bk_ BK153) hb); have n2_ := Aside0.mk (below_step (by repeat (first | (with_reducible first | exact HB.out | apply below_alloc | apply pw_below_drewN | apply below_drew1 | refine below_set ?_ GE153.out) | exact HB.out)) hb); clear BK153; clear HB; have HO156 := n0_; have BK153 := n1_; have HB := n2_; clear n0_ n1_ n2_; clear hb ho31; have hcz32_0 : w30.cell? ⟨gb153, 0, none⟩ = some (.int .i64 a0_0) := (blk_cell BK153.out 0).trans rfl; have hcz32_1 : w30.cell? ⟨gb153, 1, none⟩ = some (.int .i64 a0_1) := (blk_cell BK153.out 1).trans rfl; have hcz32_2 : w30.cell? ⟨gb153, 2, none⟩ = some (.string a0_2) := (blk_cell BK153.out 2).trans rfl; have hfz32_0 := blk_frozen BK153.out 0; have hfz32_1 := blk_frozen BK153.out 1; have hfz32_2 := blk_frozen BK153.out 2))
    go_loopg [3, 6] k (fun kq v3 v6 w' => ∃ (x3_1 : List Int) (x6_1 : Int), v6 = .int .i64 x6_1 ∧ Aside0 (quarryref03_bytes.l1 kq x3_1 x6_1 a0_0 a0_1 a0_2 = some r) ∧ Aside0 (kq ≤ k) ∧ Aside0 (Kd.R (Kd.int .u8) 5 w' w.heap.size (fun _ => True) v3 x3_1) ∧ Aside0 (w'.heap[gb153]? = some (.cells #[.int .i64 a0_0, .int .i64 a0_1, .string a0_2] 25 (0, 0))) ∧ Aside0 (Below w.heap.size w w'))
    case atStart => exact ⟨(y154), (0), (by first | rfl | (simp; done) | (simp [*]; done)), H', ⟨Nat.le_refl _⟩, ⟨by (with_reducible repeat (first | apply Kd.R_alloc | apply Kd.R_drewN | apply Kd.R_drew)); exact HO156.out⟩, ⟨by (with_reducible repeat (first | refine blk_drewN ?_ _ | refine blk_drew ?_ | refine blk_alloc ?_ _)); exact BK153.out⟩, ⟨by repeat (first | (with_reducible first | exact HB.out | apply below_alloc | apply pw_below_drewN | apply below_drew1 | refine below_set ?_ GE153.out) | exact HB.out)⟩⟩
    case round =>
     clear H'
     try clear c1
     try clear c2
     try clear c2b0
     try clear c2b1
     try clear p2
     try clear c4
     try clear p6
     try clear c8
     try clear c8b0
     try clear c8b1
     try clear c9
     try clear c16
     try clear c16b0
     try clear c16b1
     try clear c22
     try clear c22b0
     try clear c24
     try clear c24b0
     try clear c24b1
     try clear c26
     try clear hcz11_0
     try clear hcz11_1
     try clear hcz11_2
     try clear hcz14_0
     try clear hcz14_1
     try clear hcz14_2
     try clear hcz18_0
     try clear hcz18_1
     try clear hcz18_2
     try clear hcz21_0
     try clear hcz21_1
     try clear hcz21_2
     try clear hcz29_0
     try clear hcz29_1
     try clear hcz29_2
     try clear hcz32_0
     try clear hcz32_1
     try clear hcz32_2
     try clear hcz4_0
     try clear hcz4_1
     try clear hcz4_2
     try clear hcz7_0
     try clear hcz7_1
     try clear hcz7_2
     try clear hfz11_0
     try clear hfz11_1
     try clear hfz11_2
     try clear hfz14_0
     try clear hfz14_1
     try clear hfz14_2
     try clear hfz18_0
     try clear hfz18_1
     try clear hfz18_2
     try clear hfz21_0
     try clear hfz21_1
     try clear hfz21_2
     try clear hfz29_0
     try clear hfz29_1
     try clear hfz29_2
     try clear hfz32_0
     try clear hfz32_1
     try clear hfz32_2
     try clear hfz4_0
     try clear hfz4_1
     try clear hfz4_2
     try clear hfz7_0
     try clear hfz7_1
     try clear hfz7_2
     try clear p2
     try clear p6
     obtain ⟨x3_1, x6_1, rfl, HA, HK1, HO_3, BK153, HB⟩ := hrel
     cases gk with
     | zero => exact absurd HA.out (by simp [quarryref03_bytes.l1])
     | succ k1 =>
      have H := HA.out
      clear HA
      simp only [quarryref03_bytes.l1] at H
      by_cases c33 : x6_1 < (a0_2.size : Int)
      ·rw [if_pos c33] at H
       have c33b0 : decide (x6_1 < (a0_2.size : Int)) = true := decide_eq_true c33
       clear c33
       by_cases c34 : 0 ≤ x6_1
       ·rw [if_pos c34] at H
        have c34b0 : decide (0 ≤ x6_1) = true := decide_eq_true c34
        clear c34
        by_cases c36 : x3_1.length < 140737488355328
        ·rw [if_pos c36] at H
         have LMc36 := Aside0.mk c36
         clear c36
         obtain ⟨y163, hy163⟩ : ∃ y_ : List Int, y_ = (x3_1 ++ [bt a0_2 x6_1]) := ⟨_, rfl⟩
         replace H : (if (bt a0_2 x6_1) = 0 then (if y163.length < 140737488355328 then (quarryref03_bytes.l1 k1 (y163 ++ [255]) (wrap64 (x6_1 + 1)) a0_0 a0_1 a0_2) else (none)) else (quarryref03_bytes.l1 k1 y163 (wrap64 (x6_1 + 1)) a0_0 a0_1 a0_2)) = some r := by first | (rw [hy163]; with_reducible exact H) | (have H2_ := (Option.bind_some _ _).symm.trans H; rw [hy163]; with_reducible exact H2_) | (have H2_ := (Option.bind_some _ _).symm.trans H; with_reducible exact H2_) | with_reducible exact H | (rw [hy163]; exact H) | exact H
         have Ny163 := Aside0.mk hy163
         clear hy163
         by_cases c38 : (bt a0_2 x6_1) = 0
         ·rw [if_pos c38] at H
          have c38b0 : ((bt a0_2 x6_1) == 0) = true := beq_iff_eq.mpr c38
          have c38b1 : ((bt a0_2 x6_1) != 0) = false := bne_eq_false_iff_eq.mpr c38
          clear c38
          by_cases c39 : y163.length < 140737488355328
          ·rw [if_pos c39] at H
           have LMc39 := Aside0.mk c39
           clear c39
           obtain ⟨y166, hy166⟩ : ∃ y_ : List Int, y_ = (y163 ++ [255]) := ⟨_, rfl⟩
           replace H : (quarryref03_bytes.l1 k1 y166 (wrap64 (x6_1 + 1)) a0_0 a0_1 a0_2) = some r := by first | (rw [hy166]; with_reducible exact H) | (have H2_ := (Option.bind_some _ _).symm.trans H; rw [hy166]; with_reducible exact H2_) | (have H2_ := (Option.bind_some _ _).symm.trans H; with_reducible exact H2_) | with_reducible exact H | (rw [hy166]; exact H) | exact H
           have Ny166 := Aside0.mk hy166
           clear hy166
           have H' := Aside0.mk H
           clear H
           have hcz40_0 : wr.cell? ⟨gb153, 0, none⟩ = some (.int .i64 a0_0) := (blk_cell BK153.out 0).trans rfl
           have hcz40_1 : wr.cell? ⟨gb153, 1, none⟩ = some (.int .i64 a0_1) := (blk_cell BK153.out 1).trans rfl
           have hcz40_2 : wr.cell? ⟨gb153, 2, none⟩ = some (.string a0_2) := (blk_cell BK153.out 2).trans rfl
           have hfz40_0 := blk_frozen BK153.out 0
           have hfz40_1 := blk_frozen BK153.out 1
           have hfz40_2 := blk_frozen BK153.out 2
           have p35 : 0 ≤ (x6_1 : Int) := of_decide_eq_true (by first | (with_reducible assumption) | assumption)
           have q35 : x6_1 < (a0_2.size : Int) := of_decide_eq_true (by first | (with_reducible assumption) | assumption)
           have hx35 := bt_at a0_2 x6_1
           replace p35 := eq_true p35
           replace q35 := eq_true q35
           go_wp2_with (first | ((with_reducible refine gate_builtin (b := .append) (xs := #[.tmp 52, .tmp 57]) rfl ?_); at_builtin; refine Kd.R_append (Kd.int .u8) (w0 := w) w.heap.size rfl (.tmp 52) (.tmp 57) 44 5 (.int .u8 0) 1 rfl Try.underlying44 info5 rfl (by decide) (by omega) u3 x3_1 (bt a0_2 x6_1) [.int .u8 (bt a0_2 x6_1)] (fun _ => True) (fun _ => False) rfl rfl ?aP (fun _ hk => hk.elim) ?aF ?aO ?aB ?aS ?aL ?_; (case aP => exact rfl); (case aB => exact (by repeat (first | (with_reducible first | exact HB.out | apply below_alloc | apply pw_below_drewN | apply below_drew1 | refine below_set ?_ GE153.out) | exact HB.out))); (case aF => exact (fun _ _ => trivial)); (case aO => exact (by (with_reducible repeat (first | apply Kd.R_alloc | apply Kd.R_drewN | apply Kd.R_drew)); exact HO_3.out)); (case aS => exact (below_size (by repeat (first | (with_reducible first | exact HB.out | apply below_alloc | apply pw_below_drewN | apply below_drew1 | refine below_set ?_ GE153.out) | exact HB.out)))); (case aL => have := LMc36.out; omega); intro v164 w41 ho hb hg hat; rw [← Ny163.out] at ho; have n0_ := Aside0.mk (blk_grown (g := gb153) (o := .cells #[.int .i64 a0_0, .int .i64 a0_1, .string a0_2] 25 (0, 0)) (bk_ BK153) hg (Kd.R_ne HO_3.out BK153.out (by decide))); have n1_ := Aside0.mk (hb); have n2_ := Aside0.mk (ho); clear BK153; clear HB; clear HO_3; have BK153 := n0_; have HB := n1_; have HO165 := n2_; clear n0_ n1_ n2_; clear ho hb hg hat; have hcz42_0 : w41.cell? ⟨gb153, 0, none⟩ = some (.int .i64 a0_0) := (blk_cell BK153.out 0).trans rfl; have hcz42_1 : w41.cell? ⟨gb153, 1, none⟩ = some (.int .i64 a0_1) := (blk_cell BK153.out 1).trans rfl; have hcz42_2 : w41.cell? ⟨gb153, 2, none⟩ = some (.string a0_2) := (blk_cell BK153.out 2).trans rfl; have hfz42_0 := blk_frozen BK153.out 0; have hfz42_1 := blk_frozen BK153.out 1; have hfz42_2 := blk_frozen BK153.out 2; have p37 : 0 ≤ (x6_1 : Int) := of_decide_eq_true (by first | (with_reducible assumption) | assumption); have q37 : x6_1 < (a0_2.size : Int) := of_decide_eq_true (by first | (with_reducible assumption) | assumption); have hx37 := bt_at a0_2 x6_1; replace p37 := eq_true p37; replace q37 := eq_true q37) | ((with_reducible refine gate_builtin (b := .append) (xs := #[.tmp 64, .tmp 65]) rfl ?_); at_builtin; refine Kd.R_append (Kd.int .u8) (w0 := w) w.heap.size rfl (.tmp 64) (.tmp 65) 44 5 (.int .u8 0) 1 rfl Try.underlying44 info5 rfl (by decide) (by omega) v164 y163 255 [.int .u8 255] (fun _ => True) (fun _ => False) rfl rfl ?aP (fun _ hk => hk.elim) ?aF ?aO ?aB ?aS ?aL ?_; (case aP => exact rfl); (case aB => exact (by repeat (first | (with_reducible first | exact HB.out | apply below_alloc | apply pw_below_drewN | apply below_drew1 | refine below_set ?_ GE153.out) | exact HB.out))); (case aF => exact (fun _ _ => trivial)); (case aO => exact (by (with_reducible repeat (first | apply Kd.R_alloc | apply Kd.R_drewN | apply Kd.R_drew)); exact HO165.out)); (case aS => exact (below_size (by repeat (first | (with_reducible first | exact HB.out | apply below_alloc | apply pw_below_drewN | apply below_drew1 | refine below_set ?_ GE153.out) | exact HB.out)))); (case aL => have := LMc39.out; omega); intro v167 w43 ho hb hg hat; rw [← Ny166.out] at ho; have n0_ := Aside0.mk (blk_grown (g := gb153) (o := .cells #[.int .i64 a0_0, .int .i64 a0_1, .string a0_2] 25 (0, 0)) (bk_ BK153) hg (Kd.R_ne HO165.out BK153.out (by decide))); have n1_ := Aside0.mk (hb); have n2_ := Aside0.mk (ho); clear BK153; clear HB; clear HO165; have BK153 := n0_; have HB := n1_; have HO168 := n2_; clear n0_ n1_ n2_; clear ho hb hg hat))
           go_roundg k1
           case measure => have := HK1.out; omega
           case rel => exact ⟨(y166), (wrap64 (x6_1 + 1)), (by first | rfl | (simp; done) | (simp [*]; done)), H', ⟨by have := HK1.out; omega⟩, ⟨by (with_reducible repeat (first | apply Kd.R_alloc | apply Kd.R_drewN | apply Kd.R_drew)); exact HO168.out⟩, ⟨by (with_reducible repeat (first | refine blk_drewN ?_ _ | refine blk_drew ?_ | refine blk_alloc ?_ _)); exact BK153.out⟩, ⟨by repeat (first | (with_reducible first | exact HB.out | apply below_alloc | apply pw_below_drewN | apply below_drew1 | refine below_set ?_ GE153.out) | exact HB.out)⟩⟩
          ·rw [if_neg c39] at H
           exact absurd H (by simp)
         ·rw [if_neg c38] at H
          have c38b0 : ((bt a0_2 x6_1) == 0) = false := beq_eq_false_iff_ne.mpr c38
          have c38b1 : ((bt a0_2 x6_1) != 0) = true := bne_iff_ne.mpr c38
          have H' := Aside0.mk H
          clear H
          have hcz44_0 : wr.cell? ⟨gb153, 0, none⟩ = some (.int .i64 a0_0) := (blk_cell BK153.out 0).trans rfl
          have hcz44_1 : wr.cell? ⟨gb153, 1, none⟩ = some (.int .i64 a0_1) := (blk_cell BK153.out 1).trans rfl
          have hcz44_2 : wr.cell? ⟨gb153, 2, none⟩ = some (.string a0_2) := (blk_cell BK153.out 2).trans rfl
          have hfz44_0 := blk_frozen BK153.out 0
          have hfz44_1 := blk_frozen BK153.out 1
          have hfz44_2 := blk_frozen BK153.out 2
          have p35 : 0 ≤ (x6_1 : Int) := of_decide_eq_true (by first | (with_reducible assumption) | assumption)
          have q35 : x6_1 < (a0_2.size : Int) := of_decide_eq_true (by first | (with_reducible assumption) | assumption)
          have hx35 := bt_at a0_2 x6_1
          replace p35 := eq_true p35
          replace q35 := eq_true q35
          go_wp2_with (first | ((with_reducible refine gate_builtin (b := .append) (xs := #[.tmp 52, .tmp 57]) rfl ?_); at_builtin; refine Kd.R_append (Kd.int .u8) (w0 := w) w.heap.size rfl (.tmp 52) (.tmp 57) 44 5 (.int .u8 0) 1 rfl Try.underlying44 info5 rfl (by decide) (by omega) u3 x3_1 (bt a0_2 x6_1) [.int .u8 (bt a0_2 x6_1)] (fun _ => True) (fun _ => False) rfl rfl ?aP (fun _ hk => hk.elim) ?aF ?aO ?aB ?aS ?aL ?_; (case aP => exact rfl); (case aB => exact (by repeat (first | (with_reducible first | exact HB.out | apply below_alloc | apply pw_below_drewN | apply below_drew1 | refine below_set ?_ GE153.out) | exact HB.out))); (case aF => exact (fun _ _ => trivial)); (case aO => exact (by (with_reducible repeat (first | apply Kd.R_alloc | apply Kd.R_drewN | apply Kd.R_drew)); exact HO_3.out)); (case aS => exact (below_size (by repeat (first | (with_reducible first | exact HB.out | apply below_alloc | apply pw_below_drewN | apply below_drew1 | refine below_set ?_ GE153.out) | exact HB.out)))); (case aL => have := LMc36.out; omega); intro v164 w45 ho hb hg hat; rw [← Ny163.out] at ho; have n0_ := Aside0.mk (blk_grown (g := gb153) (o := .cells #[.int .i64 a0_0, .int .i64 a0_1, .string a0_2] 25 (0, 0)) (bk_ BK153) hg (Kd.R_ne HO_3.out BK153.out (by decide))); have n1_ := Aside0.mk (hb); have n2_ := Aside0.mk (ho); clear BK153; clear HB; clear HO_3; have BK153 := n0_; have HB := n1_; have HO165 := n2_; clear n0_ n1_ n2_; clear ho hb hg hat; have hcz46_0 : w45.cell? ⟨gb153, 0, none⟩ = some (.int .i64 a0_0) := (blk_cell BK153.out 0).trans rfl; have hcz46_1 : w45.cell? ⟨gb153, 1, none⟩ = some (.int .i64 a0_1) := (blk_cell BK153.out 1).trans rfl; have hcz46_2 : w45.cell? ⟨gb153, 2, none⟩ = some (.string a0_2) := (blk_cell BK153.out 2).trans rfl; have hfz46_0 := blk_frozen BK153.out 0; have hfz46_1 := blk_frozen BK153.out 1; have hfz46_2 := blk_frozen BK153.out 2; have p37 : 0 ≤ (x6_1 : Int) := of_decide_eq_true (by first | (with_reducible assumption) | assumption); have q37 : x6_1 < (a0_2.size : Int) := of_decide_eq_true (by first | (with_reducible assumption) | assumption); have hx37 := bt_at a0_2 x6_1; replace p37 := eq_true p37; replace q37 := eq_true q37))
          go_roundg k1
          case measure => have := HK1.out; omega
          case rel => exact ⟨(y163), (wrap64 (x6_1 + 1)), (by first | rfl | (simp; done) | (simp [*]; done)), H', ⟨by have := HK1.out; omega⟩, ⟨by (with_reducible repeat (first | apply Kd.R_alloc | apply Kd.R_drewN | apply Kd.R_drew)); exact HO165.out⟩, ⟨by (with_reducible repeat (first | refine blk_drewN ?_ _ | refine blk_drew ?_ | refine blk_alloc ?_ _)); exact BK153.out⟩, ⟨by repeat (first | (with_reducible first | exact HB.out | apply below_alloc | apply pw_below_drewN | apply below_drew1 | refine below_set ?_ GE153.out) | exact HB.out)⟩⟩
        ·rw [if_neg c36] at H
         exact absurd H (by simp)
       ·rw [if_neg c34] at H
        exact absurd H (by simp)
      ·rw [if_neg c33] at H
       have c33b0 : decide (x6_1 < (a0_2.size : Int)) = false := decide_eq_false c33
       clear c33
       obtain ⟨y169, hy169⟩ : ∃ y_ : List Int, y_ = (([0, 1] : List Int)) := ⟨_, rfl⟩
       replace H : (if x3_1.length + y169.length < 140737488355328 then (some (x3_1 ++ y169)) else (none)) = some r := by first | (rw [hy169]; with_reducible exact H) | (have H2_ := (Option.bind_some _ _).symm.trans H; rw [hy169]; with_reducible exact H2_) | (have H2_ := (Option.bind_some _ _).symm.trans H; with_reducible exact H2_) | with_reducible exact H | (rw [hy169]; exact H) | exact H
       have Ny169 := Aside0.mk hy169
       clear hy169
       by_cases c47 : x3_1.length + y169.length < 140737488355328
       ·rw [if_pos c47] at H
        have LMc47 := Aside0.mk c47
        clear c47
        obtain ⟨y172, hy172⟩ : ∃ y_ : List Int, y_ = (x3_1 ++ y169) := ⟨_, rfl⟩
        replace H : (some y172) = some r := by first | (rw [hy172]; with_reducible exact H) | (have H2_ := (Option.bind_some _ _).symm.trans H; rw [hy172]; with_reducible exact H2_) | (have H2_ := (Option.bind_some _ _).symm.trans H; with_reducible exact H2_) | with_reducible exact H | (rw [hy172]; exact H) | exact H
        have Ny172 := Aside0.mk hy172
        clear hy172
        obtain rfl := Option.some.inj H
        have hcz48_0 : wr.cell? ⟨gb153, 0, none⟩ = some (.int .i64 a0_0) := (blk_cell BK153.out 0).trans rfl
        have hcz48_1 : wr.cell? ⟨gb153, 1, none⟩ = some (.int .i64 a0_1) := (blk_cell BK153.out 1).trans rfl
        have hcz48_2 : wr.cell? ⟨gb153, 2, none⟩ = some (.string a0_2) := (blk_cell BK153.out 2).trans rfl
        have hfz48_0 := blk_frozen BK153.out 0
        have hfz48_1 := blk_frozen BK153.out 1
        have hfz48_2 := blk_frozen BK153.out 2
        go_wp2_with (first | ((with_reducible refine gate_dst (N := 68) rfl ?_); refine Kd.R_lit (Kd.int .u8) _ 5 ?hg (N := 68) ?hd (xs := ([0, 1] : List Int)) (inner := [.int .u8 0, .int .u8 1]) (ok := fun _ => True) (okp := fun _ => True) ?hr ?hp (fun _ hk => hk) trivial (Below.refl _ _) (Nat.le_refl _) (by simp) ?_; (case hd => rfl); (case hg => rfl); (case hr => first | (go_simp; done) | (go_simp; rfl)); (case hp => exact (Reps.one (show Kd.M (Kd.int .u8) _ _ _ 0 [.int .u8 0] from rfl) (Reps.one (show Kd.M (Kd.int .u8) _ _ _ 1 [.int .u8 1] from rfl) (Reps.none _ _)))); intro v170 w49 ho50 hb hg_ hnew_; clear hg_ hnew_; (first | rw [← Ny169.out] at ho50 | (simp only [Int.reduceToNat] at ho50; rw [← Ny169.out] at ho50)); have n0_ := Aside0.mk (Kd.R_elder' (by (with_reducible repeat (first | apply Kd.R_alloc | apply Kd.R_drewN | apply Kd.R_drew)); exact HO_3.out) (Kd.R_base ho50) hb); have n1_ := Aside0.mk (Kd.R_lower (Kd.R_new' ho50 (Kd.R_lt (by (with_reducible repeat (first | apply Kd.R_alloc | apply Kd.R_drewN | apply Kd.R_drew)); exact HO_3.out))) (below_size (by repeat (first | (with_reducible first | exact HB.out | apply below_alloc | apply pw_below_drewN | apply below_drew1 | refine below_set ?_ GE153.out) | exact HB.out)))); have n2_ := Aside0.mk (blk_below (g := gb153) (o := .cells #[.int .i64 a0_0, .int .i64 a0_1, .string a0_2] 25 (0, 0)) (bk_ BK153) hb); have n3_ := Aside0.mk (below_step (by repeat (first | (with_reducible first | exact HB.out | apply below_alloc | apply pw_below_drewN | apply below_drew1 | refine below_set ?_ GE153.out) | exact HB.out)) hb); clear HO_3; clear BK153; clear HB; have HO_3 := n0_; have HO171 := n1_; have BK153 := n2_; have HB := n3_; clear n0_ n1_ n2_ n3_; clear hb ho50; obtain ⟨Ao52, co52, eo52⟩ := Kd.R_slice HO171.out; subst eo52) | ((with_reducible refine gate_builtin (b := .append) (xs := #[.tmp 67, .tmp 68]) rfl ?_); at_builtin; refine Kd.R_append_rows (Kd.int .u8) (w0 := w) w.heap.size rfl (.tmp 67) (.tmp 68) 44 5 (.int .u8 0) 1 rfl Try.underlying44 info5 rfl (by decide) (by omega) u3 x3_1 y169 _ _ _ (fun k_ => some k_ ≠ (.slice Ao52 y169.length co52 : Value).ownBlock) (fun _ => False) rfl rfl ?aO ?aR (fun _ _ h => h) (fun _ h => h.elim) ?aF ?aB ?aS ?aL ?_; (case aR => repeat (first | exact (Kd.R_reads' HO171.out).2.2 | (with_reducible refine Kd.C_alloc ?_ _) | (with_reducible refine Kd.C_drewN ?_ _) | (with_reducible refine Kd.C_drew ?_))); (case aB => exact (by repeat (first | (with_reducible first | exact HB.out | apply below_alloc | apply pw_below_drewN | apply below_drew1 | refine below_set ?_ GE153.out) | exact HB.out))); (case aF => exact (fun k_ hk => Kd.fresh' (Kd.R_lt (by (with_reducible repeat (first | apply Kd.R_alloc | apply Kd.R_drewN | apply Kd.R_drew)); exact HO171.out)) k_ hk)); (case aO => exact (by (with_reducible repeat (first | apply Kd.R_alloc | apply Kd.R_drewN | apply Kd.R_drew)); exact Kd.R_mono HO_3.out (fun _ hk => hk.2))); (case aS => exact (below_size (by repeat (first | (with_reducible first | exact HB.out | apply below_alloc | apply pw_below_drewN | apply below_drew1 | refine below_set ?_ GE153.out) | exact HB.out)))); (case aL => have := LMc47.out; omega); intro v173 w51 ho hb hg hat; rw [← Ny172.out] at ho; have n0_ := Aside0.mk (blk_grown (g := gb153) (o := .cells #[.int .i64 a0_0, .int .i64 a0_1, .string a0_2] 25 (0, 0)) (bk_ BK153) hg (Kd.R_ne HO_3.out BK153.out (by decide))); have n1_ := Aside0.mk (Kd.R_after (ok := (fun _ => True)) (by (with_reducible repeat (first | apply Kd.R_alloc | apply Kd.R_drewN | apply Kd.R_drew)); exact HO171.out) hg hat); have n2_ := Aside0.mk (hb); have n3_ := Aside0.mk (ho); clear BK153; clear HO171; clear HB; clear HO_3; have BK153 := n0_; have HO171 := n1_; have HB := n2_; have HO174 := n3_; clear n0_ n1_ n2_ n3_; clear ho hb hg hat))
        go_ret
        exact ⟨_, by first | rfl | (simp [errW_none, errW_some] <;> rfl) | (simp [*, errW_none, errW_some] <;> rfl), by (with_reducible repeat (first | apply Kd.R_alloc | apply Kd.R_drewN | apply Kd.R_drew)); exact Kd.R_mono HO174.out (fun _ hk => trivial), by repeat (first | (with_reducible first | exact HB.out | apply below_alloc | apply pw_below_drewN | apply below_drew1 | refine below_set ?_ GE153.out) | exact HB.out)⟩
       ·rw [if_neg c47] at H
        exact absurd H (by simp)
def quarryref03_turned.f (l0 : List Bool) (a1 : Int) : Option (Bool) := if a1 < (l0.length : Int) then (if 0 ≤ a1 then (some (rdOf false l0 a1)) else (none)) else (some false)
set_option maxHeartbeats 8000000 in
set_option maxRecDepth 100000 in
theorem quarryref03_turned.calls (A0 : Option Addr) (c0 : Nat) (l0 : List Bool) (a1 : Int) (r : Bool) (w : World) (hr0 : Kd.C Kd.bool w A0 l0.length l0) (hc0 : l0.length ≤ c0) (h : quarryref03_turned.f l0 a1 = some r) :
  Calls Try.prog 45 #[.slice A0 l0.length c0, .int .i64 a1] w fun e w' => e = .returned (.bool r) ∧ Drawn0 w w' := by
 have HR0 := Aside0.mk hr0
 have HC0 := Aside0.mk hc0
 clear hr0 hc0
 have H : (if a1 < (l0.length : Int) then (if 0 ≤ a1 then (some (rdOf false l0 a1)) else (none)) else (some false)) = some r := h
 clear h
 by_cases c3 : a1 < (l0.length : Int)
 ·rw [if_pos c3] at H
  have c3b0 : decide (a1 < (l0.length : Int)) = true := decide_eq_true c3
  clear c3
  by_cases c4 : 0 ≤ a1
  ·rw [if_pos c4] at H
   have c4b0 : decide (0 ≤ a1) = true := decide_eq_true c4
   clear c4
   obtain rfl := Option.some.inj H
   have p175 : 0 ≤ (a1 : Int) := of_decide_eq_true (by first | (with_reducible assumption) | assumption)
   have q175 : a1 < (l0.length : Int) := of_decide_eq_true (by first | (with_reducible assumption) | assumption)
   obtain ⟨ad175, e175, hx175_0⟩ := Kd.at_bool HR0.out a1 p175 q175
   cases e175
   replace p175 := eq_true p175
   replace q175 := eq_true q175
   go_enter Try.func45, Try.ntmps45
   go_wp2
   go_ret
   exact ⟨by first | rfl | (simp; done) | (simp [*]; done), by repeat (first | exact Drawn0.refl _ | apply Drawn0.step)⟩
  ·rw [if_neg c4] at H
   exact absurd H (by simp)
 ·rw [if_neg c3] at H
  have c3b0 : decide (a1 < (l0.length : Int)) = false := decide_eq_false c3
  clear c3
  obtain rfl := Option.some.inj H
  go_enter Try.func45, Try.ntmps45
  go_wp2
  go_ret
  exact ⟨by first | rfl | (simp; done) | (simp [*]; done), by repeat (first | exact Drawn0.refl _ | apply Drawn0.step)⟩
def quarryref03_flip.l0 : Nat → List Int → List Int → Int → Option (List Int)
 | 0, _, _, _ => none
 | k + 1, x0, x3, x4 => if x4 < (x0.length : Int) then (if 0 ≤ x4 then (if x3.length < 140737488355328 then (quarryref03_flip.l0 k x0 (x3 ++ [(255 - (rd x0 x4)) % 256]) (wrap64 (x4 + 1))) else (none)) else (none)) else (some x3)
def quarryref03_flip.f (k : Nat) (l0 : List Int) : Option (List Int) := quarryref03_flip.l0 k l0 ([] : List Int) 0
set_option maxHeartbeats 8000000 in
set_option maxRecDepth 100000 in
theorem quarryref03_flip.calls (k : Nat) (A0 : Option Addr) (c0 : Nat) (l0 : List Int) (r : List Int) (w : World) (hr0 : Kd.C (Kd.int .u8) w A0 l0.length l0) (hc0 : l0.length ≤ c0) (h : quarryref03_flip.f k l0 = some r) :
  Calls Try.prog 46 #[.slice A0 l0.length c0] w fun e w' => ∃ v0_ : Value, e = .returned (v0_) ∧ Kd.R (Kd.int .u8) 5 w' w.heap.size (fun _ => True) v0_ r ∧ Below w.heap.size w w' := by
 have HR0 := Aside0.mk hr0
 have HC0 := Aside0.mk hc0
 clear hr0 hc0
 have HB := Aside0.mk (Below.refl w.heap.size w)
 have H : (quarryref03_flip.l0 k l0 ([] : List Int) 0) = some r := h
 clear h
 have H' := Aside0.mk H
 clear H
 go_enter Try.func46, Try.ntmps46
 go_wp2
 go_loopg [3, 4] k (fun kq v3 v4 w' => ∃ (x3_1 : List Int) (x4_1 : Int), v4 = .int .i64 x4_1 ∧ Aside0 (quarryref03_flip.l0 kq l0 x3_1 x4_1 = some r) ∧ Aside0 (kq ≤ k) ∧ Aside0 (Kd.R (Kd.int .u8) 5 w' w.heap.size (fun _ => True) v3 x3_1) ∧ Aside0 (Below w.heap.size w w'))
 case atStart => exact ⟨(([] : List Int)), (0), (by first | rfl | (simp; done) | (simp [*]; done)), H', ⟨Nat.le_refl _⟩, ⟨by first | exact Kd.R_nil _ _ _ _ _ | exact Kd.N_nil _ _ _ _ _ | exact Kd.V_nil _ _ _ _ _ | exact Kd.Q_nil _ _ _ _ _ | exact Kd.S_nil _ _ _ _ _⟩, ⟨by repeat (first | (with_reducible first | exact HB.out | apply below_alloc | apply pw_below_drewN | apply below_drew1) | exact HB.out)⟩⟩
 case round =>
  clear H'
  obtain ⟨x3_1, x4_1, rfl, HA, HK1, HO_3, HB⟩ := hrel
  cases gk with
  | zero => exact absurd HA.out (by simp [quarryref03_flip.l0])
  | succ k1 =>
   have H := HA.out
   clear HA
   simp only [quarryref03_flip.l0] at H
   by_cases c2 : x4_1 < (l0.length : Int)
   ·rw [if_pos c2] at H
    have c2b0 : decide (x4_1 < (l0.length : Int)) = true := decide_eq_true c2
    clear c2
    by_cases c3 : 0 ≤ x4_1
    ·rw [if_pos c3] at H
     have c3b0 : decide (0 ≤ x4_1) = true := decide_eq_true c3
     clear c3
     by_cases c4 : x3_1.length < 140737488355328
     ·rw [if_pos c4] at H
      have LMc4 := Aside0.mk c4
      clear c4
      obtain ⟨y177, hy177⟩ : ∃ y_ : List Int, y_ = (x3_1 ++ [(255 - (rd l0 x4_1)) % 256]) := ⟨_, rfl⟩
      replace H : (quarryref03_flip.l0 k1 l0 y177 (wrap64 (x4_1 + 1))) = some r := by first | (rw [hy177]; with_reducible exact H) | (have H2_ := (Option.bind_some _ _).symm.trans H; rw [hy177]; with_reducible exact H2_) | (have H2_ := (Option.bind_some _ _).symm.trans H; with_reducible exact H2_) | with_reducible exact H | (rw [hy177]; exact H) | exact H
      have Ny177 := Aside0.mk hy177
      clear hy177
      have H' := Aside0.mk H
      clear H
      have p176 : 0 ≤ (x4_1 : Int) := of_decide_eq_true (by first | (with_reducible assumption) | assumption)
      have q176 : x4_1 < (l0.length : Int) := of_decide_eq_true (by first | (with_reducible assumption) | assumption)
      obtain ⟨ad176, e176, hx176_0⟩ := Kd.at_int HR0.out x4_1 p176 q176
      cases e176
      replace hx176_0 := (HB.out.cell (World.block_lt_of_cell? w _ hx176_0)).trans hx176_0
      replace p176 := eq_true p176
      replace q176 := eq_true q176
      go_wp2_with (first | ((with_reducible refine gate_builtin (b := .append) (xs := #[.tmp 11, .tmp 17]) rfl ?_); at_builtin; refine Kd.R_append (Kd.int .u8) (w0 := w) w.heap.size rfl (.tmp 11) (.tmp 17) 44 5 (.int .u8 0) 1 rfl Try.underlying44 info5 rfl (by decide) (by omega) u3 x3_1 ((255 - (rd l0 x4_1)) % 256) [.int .u8 ((255 - (rd l0 x4_1)) % 256)] (fun _ => True) (fun _ => False) rfl rfl ?aP (fun _ hk => hk.elim) ?aF ?aO ?aB ?aS ?aL ?_; (case aP => exact rfl); (case aB => exact (by repeat (first | (with_reducible first | exact HB.out | apply below_alloc | apply pw_below_drewN | apply below_drew1) | exact HB.out))); (case aF => exact (fun _ _ => trivial)); (case aO => exact (by (with_reducible repeat (first | apply Kd.R_alloc | apply Kd.R_drewN | apply Kd.R_drew)); exact HO_3.out)); (case aS => exact (below_size (by repeat (first | (with_reducible first | exact HB.out | apply below_alloc | apply pw_below_drewN | apply below_drew1) | exact HB.out)))); (case aL => have := LMc4.out; omega); intro v178 w5 ho hb hg hat; rw [← Ny177.out] at ho; have n0_ := Aside0.mk (hb); have n1_ := Aside0.mk (ho); clear HB; clear HO_3; have HB := n0_; have HO179 := n1_; clear n0_ n1_; clear ho hb hg hat))
      go_roundg k1
      case measure => have := HK1.out; omega
      case rel => exact ⟨(y177), (wrap64 (x4_1 + 1)), (by first | rfl | (simp; done) | (simp [*]; done)), H', ⟨by have := HK1.out; omega⟩, ⟨by (with_reducible repeat (first | apply Kd.R_alloc | apply Kd.R_drewN | apply Kd.R_drew)); exact HO179.out⟩, ⟨by repeat (first | (with_reducible first | exact HB.out | apply below_alloc | apply pw_below_drewN | apply below_drew1) | exact HB.out)⟩⟩
     ·rw [if_neg c4] at H
      exact absurd H (by simp)
    ·rw [if_neg c3] at H
     exact absurd H (by simp)
   ·rw [if_neg c2] at H
    have c2b0 : decide (x4_1 < (l0.length : Int)) = false := decide_eq_false c2
    clear c2
    obtain rfl := Option.some.inj H
    go_wp2
    go_ret
    exact ⟨_, by first | rfl | (simp [errW_none, errW_some] <;> rfl) | (simp [*, errW_none, errW_some] <;> rfl), by (with_reducible repeat (first | apply Kd.R_alloc | apply Kd.R_drewN | apply Kd.R_drew)); exact HO_3.out, by repeat (first | (with_reducible first | exact HB.out | apply below_alloc | apply pw_below_drewN | apply below_drew1) | exact HB.out)⟩
def quarryref03_Encode.l0 : Nat → List (S25) → List Bool → List Int → Int → Option (List Int × Int)
 | 0, _, _, _, _ => none
 | k + 1, x0, x1, x6, x7 => if x7 < (x0.length : Int) then (if 0 ≤ x7 then ((quarryref01_Check.f ((rd_T25 x0 x7).f0) ((rd_T25 x0 x7).f1) ((rd_T25 x0 x7).f2)).bind fun t181 => (if t181 = 0 then ((quarryref03_bytes.f k ((rd_T25 x0 x7).f0) ((rd_T25 x0 x7).f1) ((rd_T25 x0 x7).f2)).bind fun t183 => ((quarryref03_turned.f x1 x7).bind fun t186 => (if t186 = true then ((quarryref03_flip.f k t183).bind fun t187 => (if x6.length + t187.length < 140737488355328 then (quarryref03_Encode.l0 k x0 x1 (x6 ++ t187) (wrap64 (x7 + 1))) else (none))) else (if x6.length + t183.length < 140737488355328 then (quarryref03_Encode.l0 k x0 x1 (x6 ++ t183) (wrap64 (x7 + 1))) else (none))))) else (some (([] : List Int), 3)))) else (none)) else (some (x6, 0))
def quarryref03_Encode.f (k : Nat) (l0 : List (S25)) (l1 : List Bool) : Option (List Int × Int) := quarryref03_Encode.l0 k l0 l1 ([] : List Int) 0
set_option maxHeartbeats 8000000 in
set_option maxRecDepth 100000 in
theorem quarryref03_Encode.calls (k : Nat) (A0 : Option Addr) (c0 : Nat) (l0 : List (S25)) (A1 : Option Addr) (c1 : Nat) (l1 : List Bool) (r1 : List Int) (r2 : Int) (w : World) (hr0 : Kd.C k25 w A0 l0.length l0) (hc0 : l0.length ≤ c0) (hr1 : Kd.C Kd.bool w A1 l1.length l1) (hc1 : l1.length ≤ c1) (h : quarryref03_Encode.f k l0 l1 = some (r1, r2)) :
  Calls Try.prog 23 #[.slice A0 l0.length c0, .slice A1 l1.length c1] w fun e w' => ∃ v0_ : Value, e = .returned (.tuple #[v0_, .int .i64 r2]) ∧ Kd.R (Kd.int .u8) 5 w' w.heap.size (fun _ => True) v0_ r1 ∧ Below w.heap.size w w' := by
 have hu25 := Try.underlying25
 have HR0 := Aside0.mk hr0
 have HC0 := Aside0.mk hc0
 clear hr0 hc0
 have HR1 := Aside0.mk hr1
 have HC1 := Aside0.mk hc1
 clear hr1 hc1
 have HB := Aside0.mk (Below.refl w.heap.size w)
 have H : (quarryref03_Encode.l0 k l0 l1 ([] : List Int) 0) = some (r1, r2) := h
 clear h
 have H' := Aside0.mk H
 clear H
 go_enter Try.func23, Try.ntmps23
 go_wp2
 go_loopg [6, 7] k (fun kq v6 v7 w' => ∃ (x6_1 : List Int) (x7_1 : Int), v7 = .int .i64 x7_1 ∧ Aside0 (quarryref03_Encode.l0 kq l0 l1 x6_1 x7_1 = some (r1, r2)) ∧ Aside0 (kq ≤ k) ∧ Aside0 (Kd.R (Kd.int .u8) 5 w' w.heap.size (fun _ => True) v6 x6_1) ∧ Aside0 (Below w.heap.size w w'))
 case atStart => exact ⟨(([] : List Int)), (0), (by first | rfl | (simp; done) | (simp [*]; done)), H', ⟨Nat.le_refl _⟩, ⟨by first | exact Kd.R_nil _ _ _ _ _ | exact Kd.N_nil _ _ _ _ _ | exact Kd.V_nil _ _ _ _ _ | exact Kd.Q_nil _ _ _ _ _ | exact Kd.S_nil _ _ _ _ _⟩, ⟨by repeat (first | (with_reducible first | exact HB.out | apply below_alloc | apply pw_below_drewN | apply below_drew1) | exact HB.out)⟩⟩
 case round =>
  clear H'
  try clear c1
  try clear c2
  try clear p2
  obtain ⟨x6_1, x7_1, rfl, HA, HK1, HO_6, HB⟩ := hrel
  cases gk with
  | zero => exact absurd HA.out (by simp [quarryref03_Encode.l0])
  | succ k1 =>
   have H := HA.out
   clear HA
   simp only [quarryref03_Encode.l0] at H
   by_cases c3 : x7_1 < (l0.length : Int)
   ·rw [if_pos c3] at H
    have c3b0 : decide (x7_1 < (l0.length : Int)) = true := decide_eq_true c3
    clear c3
    by_cases c4 : 0 ≤ x7_1
    ·rw [if_pos c4] at H
     have c4b0 : decide (0 ≤ x7_1) = true := decide_eq_true c4
     clear c4
     replace H := Option.bind_eq_some_iff.mp H
     obtain ⟨t181, A50, H⟩ := H
     replace H : (if t181 = 0 then ((quarryref03_bytes.f k1 ((rd_T25 l0 x7_1).f0) ((rd_T25 l0 x7_1).f1) ((rd_T25 l0 x7_1).f2)).bind fun t183 => ((quarryref03_turned.f l1 x7_1).bind fun t186 => (if t186 = true then ((quarryref03_flip.f k1 t183).bind fun t187 => (if x6_1.length + t187.length < 140737488355328 then (quarryref03_Encode.l0 k1 l0 l1 (x6_1 ++ t187) (wrap64 (x7_1 + 1))) else (none))) else (if x6_1.length + t183.length < 140737488355328 then (quarryref03_Encode.l0 k1 l0 l1 (x6_1 ++ t183) (wrap64 (x7_1 + 1))) else (none))))) else (some (([] : List Int), 3))) = some (r1, r2) := H
     have A5 := Aside0.mk A50
     clear A50
     by_cases c6 : t181 = 0
     ·rw [if_pos c6] at H
      have c6b0 : (t181 == 0) = true := beq_iff_eq.mpr c6
      have c6b1 : (t181 != 0) = false := bne_eq_false_iff_eq.mpr c6
      clear c6
      replace H := Option.bind_eq_some_iff.mp H
      obtain ⟨t183, A70, H⟩ := H
      replace H : ((quarryref03_turned.f l1 x7_1).bind fun t186 => (if t186 = true then ((quarryref03_flip.f k1 t183).bind fun t187 => (if x6_1.length + t187.length < 140737488355328 then (quarryref03_Encode.l0 k1 l0 l1 (x6_1 ++ t187) (wrap64 (x7_1 + 1))) else (none))) else (if x6_1.length + t183.length < 140737488355328 then (quarryref03_Encode.l0 k1 l0 l1 (x6_1 ++ t183) (wrap64 (x7_1 + 1))) else (none)))) = some (r1, r2) := H
      have A7 := Aside0.mk A70
      clear A70
      replace H := Option.bind_eq_some_iff.mp H
      obtain ⟨t186, A80, H⟩ := H
      replace H : (if t186 = true then ((quarryref03_flip.f k1 t183).bind fun t187 => (if x6_1.length + t187.length < 140737488355328 then (quarryref03_Encode.l0 k1 l0 l1 (x6_1 ++ t187) (wrap64 (x7_1 + 1))) else (none))) else (if x6_1.length + t183.length < 140737488355328 then (quarryref03_Encode.l0 k1 l0 l1 (x6_1 ++ t183) (wrap64 (x7_1 + 1))) else (none))) = some (r1, r2) := H
      have A8 := Aside0.mk A80
      clear A80
      by_cases c9 : t186 = true
      ·subst c9
       have H1 : ((quarryref03_flip.f k1 t183).bind fun t187 => (if x6_1.length + t187.length < 140737488355328 then (quarryref03_Encode.l0 k1 l0 l1 (x6_1 ++ t187) (wrap64 (x7_1 + 1))) else (none))) = some (r1, r2) := by rw [if_pos rfl] at H; exact H
       clear H
       have H := H1
       clear H1
       replace H := Option.bind_eq_some_iff.mp H
       obtain ⟨t187, A100, H⟩ := H
       replace H : (if x6_1.length + t187.length < 140737488355328 then (quarryref03_Encode.l0 k1 l0 l1 (x6_1 ++ t187) (wrap64 (x7_1 + 1))) else (none)) = some (r1, r2) := H
       have A10 := Aside0.mk A100
       clear A100
       by_cases c11 : x6_1.length + t187.length < 140737488355328
       ·rw [if_pos c11] at H
        have LMc11 := Aside0.mk c11
        clear c11
        obtain ⟨y190, hy190⟩ : ∃ y_ : List Int, y_ = (x6_1 ++ t187) := ⟨_, rfl⟩
        replace H : (quarryref03_Encode.l0 k1 l0 l1 y190 (wrap64 (x7_1 + 1))) = some (r1, r2) := by first | (rw [hy190]; with_reducible exact H) | (have H2_ := (Option.bind_some _ _).symm.trans H; rw [hy190]; with_reducible exact H2_) | (have H2_ := (Option.bind_some _ _).symm.trans H; with_reducible exact H2_) | with_reducible exact H | (rw [hy190]; exact H) | exact H
        have Ny190 := Aside0.mk hy190
        clear hy190
        have H' := Aside0.mk H
        clear H
        have p180 : 0 ≤ (x7_1 : Int) := of_decide_eq_true (by first | (with_reducible assumption) | assumption)
        have q180 : x7_1 < (l0.length : Int) := of_decide_eq_true (by first | (with_reducible assumption) | assumption)
        obtain ⟨ad180, e180, hx180_0, hx180_1, hx180_2⟩ := at_T25 HR0.out x7_1 p180 q180
        cases e180
        replace hx180_0 := (HB.out.cell (World.block_lt_of_cell? w _ hx180_0)).trans hx180_0
        replace hx180_1 := (HB.out.cell (World.block_lt_of_cell? w _ hx180_1)).trans hx180_1
        replace hx180_2 := (HB.out.cell (World.block_lt_of_cell? w _ hx180_2)).trans hx180_2
        replace p180 := eq_true p180
        replace q180 := eq_true q180
        go_wp2_with (first | ((with_reducible refine gate_callee (f := 21) rfl ?_); refine goesL_ (some 19) rfl rfl Try.func21 (by kernel_rfl) rfl #[.agg #[.int .i64 ((rd_T25 l0 x7_1).f0), .int .i64 ((rd_T25 l0 x7_1).f1), .string ((rd_T25 l0 x7_1).f2)]] rfl (by (try simp only [List.map_toArray, List.map_cons, List.map_nil]); first | done | rfl | (simp only [List.length_drop, List.length_take]; rfl)) ?_; (with_reducible refine (quarryref01_Check.calls ((rd_T25 l0 x7_1).f0) ((rd_T25 l0 x7_1).f1) ((rd_T25 l0 x7_1).f2) t181 _ A5.out).mono ?_); rintro e w12 ⟨rfl, hb⟩; refine ⟨_, rfl, ?_⟩; have n0_ := Aside0.mk (Kd.R_below (by (with_reducible repeat (first | apply Kd.R_alloc | apply Kd.R_drewN | apply Kd.R_drew)); exact HO_6.out) hb); have n1_ := Aside0.mk (below_step (by repeat (first | (with_reducible first | exact HB.out | apply below_alloc | apply pw_below_drewN | apply below_drew1) | exact HB.out)) hb); clear HO_6; clear HB; have HO_6 := n0_; have HB := n1_; clear n0_ n1_; (try clear hb); (try clear hb2); (try clear hk); (try clear hi); have p182 : 0 ≤ (x7_1 : Int) := of_decide_eq_true (by first | (with_reducible assumption) | assumption); have q182 : x7_1 < (l0.length : Int) := of_decide_eq_true (by first | (with_reducible assumption) | assumption); obtain ⟨ad182, e182, hx182_0, hx182_1, hx182_2⟩ := at_T25 HR0.out x7_1 p182 q182; obtain rfl : ad180 = ad182 := (by injection e182); replace hx182_0 := (HB.out.cell (World.block_lt_of_cell? w _ hx182_0)).trans hx182_0; replace hx182_1 := (HB.out.cell (World.block_lt_of_cell? w _ hx182_1)).trans hx182_1; replace hx182_2 := (HB.out.cell (World.block_lt_of_cell? w _ hx182_2)).trans hx182_2; replace p182 := eq_true p182; replace q182 := eq_true q182) | ((with_reducible refine gate_callee (f := 44) rfl ?_); refine goesL_ (some 25) rfl rfl Try.func44 (by kernel_rfl) rfl #[.agg #[.int .i64 ((rd_T25 l0 x7_1).f0), .int .i64 ((rd_T25 l0 x7_1).f1), .string ((rd_T25 l0 x7_1).f2)]] rfl (by (try simp only [List.map_toArray, List.map_cons, List.map_nil]); first | done | rfl | (simp only [List.length_drop, List.length_take]; rfl)) ?_; (with_reducible refine (quarryref03_bytes.calls k1 ((rd_T25 l0 x7_1).f0) ((rd_T25 l0 x7_1).f1) ((rd_T25 l0 x7_1).f2) t183 _ A7.out).mono ?_); rintro e w13 ⟨v184, rfl, ho0, hb⟩; refine ⟨_, rfl, ?_⟩; have n0_ := Aside0.mk (Kd.R_elder' (by (with_reducible repeat (first | apply Kd.R_alloc | apply Kd.R_drewN | apply Kd.R_drew)); exact HO_6.out) (Kd.R_base ho0) hb); have n1_ := Aside0.mk (Kd.R_lower (Kd.R_new' ho0 (Kd.R_lt (by (with_reducible repeat (first | apply Kd.R_alloc | apply Kd.R_drewN | apply Kd.R_drew)); exact HO_6.out))) (below_size (by repeat (first | (with_reducible first | exact HB.out | apply below_alloc | apply pw_below_drewN | apply below_drew1) | exact HB.out)))); have n2_ := Aside0.mk (below_step (by repeat (first | (with_reducible first | exact HB.out | apply below_alloc | apply pw_below_drewN | apply below_drew1) | exact HB.out)) hb); clear HO_6; clear HB; have HO_6 := n0_; have HO185 := n1_; have HB := n2_; clear n0_ n1_ n2_; (try clear hb); (try clear hb2); (try clear hk); (try clear hi); (try clear ho0)) | ((with_reducible refine gate_callee (f := 45) rfl ?_); refine goesL_ (some 28) rfl rfl Try.func45 (by kernel_rfl) rfl #[.slice A1 l1.length c1, .int .i64 x7_1] rfl (by (try simp only [List.map_toArray, List.map_cons, List.map_nil]); first | done | rfl | (simp only [List.length_drop, List.length_take]; rfl)) ?_; (with_reducible refine (quarryref03_turned.calls _ _ l1 x7_1 true _ ?side1 ?side2 A8.out).mono ?_); (case side1 => repeat (first | exact (Kd.C_below HR1.out HB.out) | (with_reducible refine Kd.C_alloc ?_ _) | (with_reducible refine Kd.C_drewN ?_ _) | (with_reducible refine Kd.C_drew ?_))); (case side2 => exact HC1.out); rintro e w' ⟨rfl, ⟨nd, rfl⟩⟩; refine ⟨_, rfl, ?_⟩; obtain ⟨Ao14, co14, eo14⟩ := Kd.R_slice HO185.out; subst eo14) | ((with_reducible refine gate_callee (f := 46) rfl ?_); refine goesL_ (some 30) rfl rfl Try.func46 (by kernel_rfl) rfl #[.slice Ao14 t183.length co14] rfl (by (try simp only [List.map_toArray, List.map_cons, List.map_nil]); first | done | rfl | (simp only [List.length_drop, List.length_take]; rfl)) ?_; (with_reducible refine (quarryref03_flip.calls k1 _ _ t183 t187 _ ?side1 ?side2 A10.out).mono ?_); (case side1 => repeat (first | exact (Kd.R_reads' HO185.out).2.2 | (with_reducible refine Kd.C_alloc ?_ _) | (with_reducible refine Kd.C_drewN ?_ _) | (with_reducible refine Kd.C_drew ?_))); (case side2 => exact (Kd.R_reads' HO185.out).2.1); rintro e w15 ⟨v188, rfl, ho0, hb⟩; refine ⟨_, rfl, ?_⟩; have n0_ := Aside0.mk (Kd.R_elder' (by (with_reducible repeat (first | apply Kd.R_alloc | apply Kd.R_drewN | apply Kd.R_drew)); exact HO_6.out) (Kd.R_base ho0) hb); have n1_ := Aside0.mk (Kd.R_elder' (by (with_reducible repeat (first | apply Kd.R_alloc | apply Kd.R_drewN | apply Kd.R_drew)); exact HO185.out) (Kd.R_base ho0) hb); have n2_ := Aside0.mk (Kd.R_lower (Kd.R_new' (Kd.R_new' ho0 (Kd.R_lt (by (with_reducible repeat (first | apply Kd.R_alloc | apply Kd.R_drewN | apply Kd.R_drew)); exact HO_6.out))) (Kd.R_lt (by (with_reducible repeat (first | apply Kd.R_alloc | apply Kd.R_drewN | apply Kd.R_drew)); exact HO185.out))) (below_size (by repeat (first | (with_reducible first | exact HB.out | apply below_alloc | apply pw_below_drewN | apply below_drew1) | exact HB.out)))); have n3_ := Aside0.mk (below_step (by repeat (first | (with_reducible first | exact HB.out | apply below_alloc | apply pw_below_drewN | apply below_drew1) | exact HB.out)) hb); clear HO_6; clear HO185; clear HB; have HO_6 := n0_; have HO185 := n1_; have HO189 := n2_; have HB := n3_; clear n0_ n1_ n2_ n3_; (try clear hb); (try clear hb2); (try clear hk); (try clear hi); (try clear ho0); obtain ⟨Ao17, co17, eo17⟩ := Kd.R_slice HO189.out; subst eo17) | ((with_reducible refine gate_builtin (b := .append) (xs := #[.tmp 31, .tmp 32]) rfl ?_); at_builtin; refine Kd.R_append_rows (Kd.int .u8) (w0 := w) w.heap.size rfl (.tmp 31) (.tmp 32) 44 5 (.int .u8 0) 1 rfl Try.underlying44 info5 rfl (by decide) (by omega) u6 x6_1 t187 _ _ _ (fun k_ => some k_ ≠ (.slice Ao14 t183.length co14 : Value).ownBlock ∧ some k_ ≠ (.slice Ao17 t187.length co17 : Value).ownBlock) (fun _ => False) rfl rfl ?aO ?aR (fun _ _ h => h) (fun _ h => h.elim) ?aF ?aB ?aS ?aL ?_; (case aR => repeat (first | exact (Kd.R_reads' HO189.out).2.2 | (with_reducible refine Kd.C_alloc ?_ _) | (with_reducible refine Kd.C_drewN ?_ _) | (with_reducible refine Kd.C_drew ?_))); (case aB => exact (by repeat (first | (with_reducible first | exact HB.out | apply below_alloc | apply pw_below_drewN | apply below_drew1) | exact HB.out))); (case aF => exact (fun k_ hk => ⟨Kd.fresh' (Kd.R_lt (by (with_reducible repeat (first | apply Kd.R_alloc | apply Kd.R_drewN | apply Kd.R_drew)); exact HO185.out)) k_ hk, Kd.fresh' (Kd.R_lt (by (with_reducible repeat (first | apply Kd.R_alloc | apply Kd.R_drewN | apply Kd.R_drew)); exact HO189.out)) k_ hk⟩)); (case aO => exact (by (with_reducible repeat (first | apply Kd.R_alloc | apply Kd.R_drewN | apply Kd.R_drew)); exact Kd.R_mono HO_6.out (fun _ hk => ⟨hk.1.2, hk.2⟩))); (case aS => exact (below_size (by repeat (first | (with_reducible first | exact HB.out | apply below_alloc | apply pw_below_drewN | apply below_drew1) | exact HB.out)))); (case aL => have := LMc11.out; omega); intro v191 w16 ho hb hg hat; rw [← Ny190.out] at ho; have n0_ := Aside0.mk (Kd.R_after (ok := (fun k_ => some k_ ≠ (.slice Ao17 t187.length co17 : Value).ownBlock)) (by (with_reducible repeat (first | apply Kd.R_alloc | apply Kd.R_drewN | apply Kd.R_drew)); exact Kd.R_mono HO185.out (fun _ hk => ⟨hk.2, hk.1.2⟩)) hg hat); have n1_ := Aside0.mk (Kd.R_after (ok := (fun k_ => some k_ ≠ (.slice Ao14 t183.length co14 : Value).ownBlock)) (by (with_reducible repeat (first | apply Kd.R_alloc | apply Kd.R_drewN | apply Kd.R_drew)); exact Kd.R_mono HO189.out (fun _ hk => ⟨hk.2, hk.1.2⟩)) hg hat); have n2_ := Aside0.mk (hb); have n3_ := Aside0.mk (ho); clear HO185; clear HO189; clear HB; clear HO_6; have HO185 := n0_; have HO189 := n1_; have HB := n2_; have HO192 := n3_; clear n0_ n1_ n2_ n3_; clear ho hb hg hat))
        go_roundg k1
        case measure => have := HK1.out; omega
        case rel => exact ⟨(y190), (wrap64 (x7_1 + 1)), (by first | rfl | (simp; done) | (simp [*]; done)), H', ⟨by have := HK1.out; omega⟩, ⟨by (with_reducible repeat (first | apply Kd.R_alloc | apply Kd.R_drewN | apply Kd.R_drew)); exact Kd.R_mono HO192.out (fun _ hk => trivial)⟩, ⟨by repeat (first | (with_reducible first | exact HB.out | apply below_alloc | apply pw_below_drewN | apply below_drew1) | exact HB.out)⟩⟩
       ·rw [if_neg c11] at H
        exact absurd H (by simp)
      ·replace c9 := Bool.eq_false_iff.mpr c9
       subst c9
       have H1 : (if x6_1.length + t183.length < 140737488355328 then (quarryref03_Encode.l0 k1 l0 l1 (x6_1 ++ t183) (wrap64 (x7_1 + 1))) else (none)) = some (r1, r2) := by rw [if_neg (show ¬ (false = true) by decide)] at H; exact H
       clear H
       have H := H1
       clear H1
       by_cases c18 : x6_1.length + t183.length < 140737488355328
       ·rw [if_pos c18] at H
        have LMc18 := Aside0.mk c18
        clear c18
        obtain ⟨y193, hy193⟩ : ∃ y_ : List Int, y_ = (x6_1 ++ t183) := ⟨_, rfl⟩
        replace H : (quarryref03_Encode.l0 k1 l0 l1 y193 (wrap64 (x7_1 + 1))) = some (r1, r2) := by first | (rw [hy193]; with_reducible exact H) | (have H2_ := (Option.bind_some _ _).symm.trans H; rw [hy193]; with_reducible exact H2_) | (have H2_ := (Option.bind_some _ _).symm.trans H; with_reducible exact H2_) | with_reducible exact H | (rw [hy193]; exact H) | exact H
        have Ny193 := Aside0.mk hy193
        clear hy193
        have H' := Aside0.mk H
        clear H
        have p180 : 0 ≤ (x7_1 : Int) := of_decide_eq_true (by first | (with_reducible assumption) | assumption)
        have q180 : x7_1 < (l0.length : Int) := of_decide_eq_true (by first | (with_reducible assumption) | assumption)
        obtain ⟨ad180, e180, hx180_0, hx180_1, hx180_2⟩ := at_T25 HR0.out x7_1 p180 q180
        cases e180
        replace hx180_0 := (HB.out.cell (World.block_lt_of_cell? w _ hx180_0)).trans hx180_0
        replace hx180_1 := (HB.out.cell (World.block_lt_of_cell? w _ hx180_1)).trans hx180_1
        replace hx180_2 := (HB.out.cell (World.block_lt_of_cell? w _ hx180_2)).trans hx180_2
        replace p180 := eq_true p180
        replace q180 := eq_true q180
        go_wp2_with (first | ((with_reducible refine gate_callee (f := 21) rfl ?_); refine goesL_ (some 19) rfl rfl Try.func21 (by kernel_rfl) rfl #[.agg #[.int .i64 ((rd_T25 l0 x7_1).f0), .int .i64 ((rd_T25 l0 x7_1).f1), .string ((rd_T25 l0 x7_1).f2)]] rfl (by (try simp only [List.map_toArray, List.map_cons, List.map_nil]); first | done | rfl | (simp only [List.length_drop, List.length_take]; rfl)) ?_; (with_reducible refine (quarryref01_Check.calls ((rd_T25 l0 x7_1).f0) ((rd_T25 l0 x7_1).f1) ((rd_T25 l0 x7_1).f2) t181 _ A5.out).mono ?_); rintro e w19 ⟨rfl, hb⟩; refine ⟨_, rfl, ?_⟩; have n0_ := Aside0.mk (Kd.R_below (by (with_reducible repeat (first | apply Kd.R_alloc | apply Kd.R_drewN | apply Kd.R_drew)); exact HO_6.out) hb); have n1_ := Aside0.mk (below_step (by repeat (first | (with_reducible first | exact HB.out | apply below_alloc | apply pw_below_drewN | apply below_drew1) | exact HB.out)) hb); clear HO_6; clear HB; have HO_6 := n0_; have HB := n1_; clear n0_ n1_; (try clear hb); (try clear hb2); (try clear hk); (try clear hi); have p182 : 0 ≤ (x7_1 : Int) := of_decide_eq_true (by first | (with_reducible assumption) | assumption); have q182 : x7_1 < (l0.length : Int) := of_decide_eq_true (by first | (with_reducible assumption) | assumption); obtain ⟨ad182, e182, hx182_0, hx182_1, hx182_2⟩ := at_T25 HR0.out x7_1 p182 q182; obtain rfl : ad180 = ad182 := (by injection e182); replace hx182_0 := (HB.out.cell (World.block_lt_of_cell? w _ hx182_0)).trans hx182_0; replace hx182_1 := (HB.out.cell (World.block_lt_of_cell? w _ hx182_1)).trans hx182_1; replace hx182_2 := (HB.out.cell (World.block_lt_of_cell? w _ hx182_2)).trans hx182_2; replace p182 := eq_true p182; replace q182 := eq_true q182) | ((with_reducible refine gate_callee (f := 44) rfl ?_); refine goesL_ (some 25) rfl rfl Try.func44 (by kernel_rfl) rfl #[.agg #[.int .i64 ((rd_T25 l0 x7_1).f0), .int .i64 ((rd_T25 l0 x7_1).f1), .string ((rd_T25 l0 x7_1).f2)]] rfl (by (try simp only [List.map_toArray, List.map_cons, List.map_nil]); first | done | rfl | (simp only [List.length_drop, List.length_take]; rfl)) ?_; (with_reducible refine (quarryref03_bytes.calls k1 ((rd_T25 l0 x7_1).f0) ((rd_T25 l0 x7_1).f1) ((rd_T25 l0 x7_1).f2) t183 _ A7.out).mono ?_); rintro e w20 ⟨v184, rfl, ho0, hb⟩; refine ⟨_, rfl, ?_⟩; have n0_ := Aside0.mk (Kd.R_elder' (by (with_reducible repeat (first | apply Kd.R_alloc | apply Kd.R_drewN | apply Kd.R_drew)); exact HO_6.out) (Kd.R_base ho0) hb); have n1_ := Aside0.mk (Kd.R_lower (Kd.R_new' ho0 (Kd.R_lt (by (with_reducible repeat (first | apply Kd.R_alloc | apply Kd.R_drewN | apply Kd.R_drew)); exact HO_6.out))) (below_size (by repeat (first | (with_reducible first | exact HB.out | apply below_alloc | apply pw_below_drewN | apply below_drew1) | exact HB.out)))); have n2_ := Aside0.mk (below_step (by repeat (first | (with_reducible first | exact HB.out | apply below_alloc | apply pw_below_drewN | apply below_drew1) | exact HB.out)) hb); clear HO_6; clear HB; have HO_6 := n0_; have HO185 := n1_; have HB := n2_; clear n0_ n1_ n2_; (try clear hb); (try clear hb2); (try clear hk); (try clear hi); (try clear ho0)) | ((with_reducible refine gate_callee (f := 45) rfl ?_); refine goesL_ (some 28) rfl rfl Try.func45 (by kernel_rfl) rfl #[.slice A1 l1.length c1, .int .i64 x7_1] rfl (by (try simp only [List.map_toArray, List.map_cons, List.map_nil]); first | done | rfl | (simp only [List.length_drop, List.length_take]; rfl)) ?_; (with_reducible refine (quarryref03_turned.calls _ _ l1 x7_1 false _ ?side1 ?side2 A8.out).mono ?_); (case side1 => repeat (first | exact (Kd.C_below HR1.out HB.out) | (with_reducible refine Kd.C_alloc ?_ _) | (with_reducible refine Kd.C_drewN ?_ _) | (with_reducible refine Kd.C_drew ?_))); (case side2 => exact HC1.out); rintro e w' ⟨rfl, ⟨nd, rfl⟩⟩; refine ⟨_, rfl, ?_⟩; obtain ⟨Ao22, co22, eo22⟩ := Kd.R_slice HO185.out; subst eo22) | ((with_reducible refine gate_builtin (b := .append) (xs := #[.tmp 31, .tmp 32]) rfl ?_); at_builtin; refine Kd.R_append_rows (Kd.int .u8) (w0 := w) w.heap.size rfl (.tmp 31) (.tmp 32) 44 5 (.int .u8 0) 1 rfl Try.underlying44 info5 rfl (by decide) (by omega) u6 x6_1 t183 _ _ _ (fun k_ => some k_ ≠ (.slice Ao22 t183.length co22 : Value).ownBlock) (fun _ => False) rfl rfl ?aO ?aR (fun _ _ h => h) (fun _ h => h.elim) ?aF ?aB ?aS ?aL ?_; (case aR => repeat (first | exact (Kd.R_reads' HO185.out).2.2 | (with_reducible refine Kd.C_alloc ?_ _) | (with_reducible refine Kd.C_drewN ?_ _) | (with_reducible refine Kd.C_drew ?_))); (case aB => exact (by repeat (first | (with_reducible first | exact HB.out | apply below_alloc | apply pw_below_drewN | apply below_drew1) | exact HB.out))); (case aF => exact (fun k_ hk => Kd.fresh' (Kd.R_lt (by (with_reducible repeat (first | apply Kd.R_alloc | apply Kd.R_drewN | apply Kd.R_drew)); exact HO185.out)) k_ hk)); (case aO => exact (by (with_reducible repeat (first | apply Kd.R_alloc | apply Kd.R_drewN | apply Kd.R_drew)); exact Kd.R_mono HO_6.out (fun _ hk => hk.2))); (case aS => exact (below_size (by repeat (first | (with_reducible first | exact HB.out | apply below_alloc | apply pw_below_drewN | apply below_drew1) | exact HB.out)))); (case aL => have := LMc18.out; omega); intro v194 w21 ho hb hg hat; rw [← Ny193.out] at ho; have n0_ := Aside0.mk (Kd.R_after (ok := (fun _ => True)) (by (with_reducible repeat (first | apply Kd.R_alloc | apply Kd.R_drewN | apply Kd.R_drew)); exact HO185.out) hg hat); have n1_ := Aside0.mk (hb); have n2_ := Aside0.mk (ho); clear HO185; clear HB; clear HO_6; have HO185 := n0_; have HB := n1_; have HO195 := n2_; clear n0_ n1_ n2_; clear ho hb hg hat))
        go_roundg k1
        case measure => have := HK1.out; omega
        case rel => exact ⟨(y193), (wrap64 (x7_1 + 1)), (by first | rfl | (simp; done) | (simp [*]; done)), H', ⟨by have := HK1.out; omega⟩, ⟨by (with_reducible repeat (first | apply Kd.R_alloc | apply Kd.R_drewN | apply Kd.R_drew)); exact Kd.R_mono HO195.out (fun _ hk => trivial)⟩, ⟨by repeat (first | (with_reducible first | exact HB.out | apply below_alloc | apply pw_below_drewN | apply below_drew1) | exact HB.out)⟩⟩
       ·rw [if_neg c18] at H
        exact absurd H (by simp)
     ·rw [if_neg c6] at H
      have c6b0 : (t181 == 0) = false := beq_eq_false_iff_ne.mpr c6
      have c6b1 : (t181 != 0) = true := bne_iff_ne.mpr c6
      simp only [Option.some.injEq, Prod.mk.injEq] at H
      obtain ⟨rfl, rfl⟩ := H
      have p180 : 0 ≤ (x7_1 : Int) := of_decide_eq_true (by first | (with_reducible assumption) | assumption)
      have q180 : x7_1 < (l0.length : Int) := of_decide_eq_true (by first | (with_reducible assumption) | assumption)
      obtain ⟨ad180, e180, hx180_0, hx180_1, hx180_2⟩ := at_T25 HR0.out x7_1 p180 q180
      cases e180
      replace hx180_0 := (HB.out.cell (World.block_lt_of_cell? w _ hx180_0)).trans hx180_0
      replace hx180_1 := (HB.out.cell (World.block_lt_of_cell? w _ hx180_1)).trans hx180_1
      replace hx180_2 := (HB.out.cell (World.block_lt_of_cell? w _ hx180_2)).trans hx180_2
      replace p180 := eq_true p180
      replace q180 := eq_true q180
      go_wp2_with (first | ((with_reducible refine gate_callee (f := 21) rfl ?_); refine goesL_ (some 19) rfl rfl Try.func21 (by kernel_rfl) rfl #[.agg #[.int .i64 ((rd_T25 l0 x7_1).f0), .int .i64 ((rd_T25 l0 x7_1).f1), .string ((rd_T25 l0 x7_1).f2)]] rfl (by (try simp only [List.map_toArray, List.map_cons, List.map_nil]); first | done | rfl | (simp only [List.length_drop, List.length_take]; rfl)) ?_; (with_reducible refine (quarryref01_Check.calls ((rd_T25 l0 x7_1).f0) ((rd_T25 l0 x7_1).f1) ((rd_T25 l0 x7_1).f2) t181 _ A5.out).mono ?_); rintro e w23 ⟨rfl, hb⟩; refine ⟨_, rfl, ?_⟩; have n0_ := Aside0.mk (Kd.R_below (by (with_reducible repeat (first | apply Kd.R_alloc | apply Kd.R_drewN | apply Kd.R_drew)); exact HO_6.out) hb); have n1_ := Aside0.mk (below_step (by repeat (first | (with_reducible first | exact HB.out | apply below_alloc | apply pw_below_drewN | apply below_drew1) | exact HB.out)) hb); clear HO_6; clear HB; have HO_6 := n0_; have HB := n1_; clear n0_ n1_; (try clear hb); (try clear hb2); (try clear hk); (try clear hi)))
      go_ret2
      exact ⟨_, by first | rfl | (simp [errW_none, errW_some] <;> rfl) | (simp [*, errW_none, errW_some] <;> rfl), by first | exact Kd.R_nil _ _ _ _ _ | exact Kd.N_nil _ _ _ _ _ | exact Kd.V_nil _ _ _ _ _ | exact Kd.Q_nil _ _ _ _ _ | exact Kd.S_nil _ _ _ _ _, by repeat (first | (with_reducible first | exact HB.out | apply below_alloc | apply pw_below_drewN | apply below_drew1) | exact HB.out)⟩
    ·rw [if_neg c4] at H
     exact absurd H (by simp)
   ·rw [if_neg c3] at H
    have c3b0 : decide (x7_1 < (l0.length : Int)) = false := decide_eq_false c3
    clear c3
    simp only [Option.some.injEq, Prod.mk.injEq] at H
    obtain ⟨rfl, rfl⟩ := H
    go_wp2
    go_ret2
    exact ⟨_, by first | rfl | (simp [errW_none, errW_some] <;> rfl) | (simp [*, errW_none, errW_some] <;> rfl), by (with_reducible repeat (first | apply Kd.R_alloc | apply Kd.R_drewN | apply Kd.R_drew)); exact HO_6.out, by repeat (first | (with_reducible first | exact HB.out | apply below_alloc | apply pw_below_drewN | apply below_drew1) | exact HB.out)⟩
end Go.Proofs.Ytmfenomjhmhogaa.P
end

/- Laid by a program of this session out of its texts for the law AggParts, part 6. -/
import Derived.Test.YtgjfciohmgpohaaZAggParts5
section
namespace Go.Proofs.Ytgjfciohmgpohaa.P
open Go.RowKit Go.Proofs.YtgjfciohmgpohaaW.PrintWords Go.Proofs.YtgjfciohmgpohaaW.PrintLast Go.Proofs.YtgjfciohmgpohaaW.PrintMore
attribute [local go_sem] max2_int min2_int max_two min_two max_three min_three max_four min_four
set_option linter.unusedVariables false
set_option linter.unusedSimpArgs false
attribute [local go_sem high] eqA32
mutual
def quarrylaw17_AggParts.j0 : Nat → List (S32) → List (S32) → Bool → Option (Bool)
 | 0, _, _, _ => none
 | k + 1, x0, x1, x30 => if x30 = true then (some true) else ((some (([] : List (S32)) : List (S32))).bind fun y255 => (if y255.length + x0.length < 4398046511104 then ((some (y255 ++ x0 : List (S32))).bind fun y258 => (if y258.length + x1.length < 4398046511104 then ((some (y258 ++ x1 : List (S32))).bind fun y261 => ((quarrylaw17_gathered.f 1 x0).bind fun bt264 => ((quarrylaw17_gathered.f 1 x1).bind fun bt269 => ((quarrylaw17_gathered.f 1 y261).bind fun bt274 => (if bt274.2.1 = (wrap64 (bt264.2.1 + bt269.2.1)) then (quarrylaw17_AggParts.l0 k x0 x1 y261 3) else (none)))))) else (none))) else (none)))
def quarrylaw17_AggParts.l0 : Nat → List (S32) → List (S32) → List (S32) → Int → Option (Bool)
 | 0, _, _, _, _ => none
 | k + 1, x0, x1, x5, x12 => if x12 ≤ 4 then ((quarrylaw17_gathered.f x12 x0).bind fun bt279 => ((quarrylaw17_gathered.f x12 x1).bind fun bt284 => ((quarrylaw17_gathered.f x12 x5).bind fun bt289 => ((quarryref01_Compare.f k bt279.1 bt279.2.1 bt279.2.2.1 bt284.1 bt284.2.1 bt284.2.2.1).bind fun t295 => (if bt279.1 = 0 then (quarrylaw17_AggParts.j2 k x0 x1 x5 x12 true bt284.1 bt284.2.1 bt284.2.2.1 bt289.1 bt289.2.1 bt289.2.2.1 bt279.1 bt279.2.1 bt279.2.2.1) else (if bt284.1 = 0 then (quarrylaw17_AggParts.j2 k x0 x1 x5 x12 false bt284.1 bt284.2.1 bt284.2.2.1 bt289.1 bt289.2.1 bt289.2.2.1 bt279.1 bt279.2.1 bt279.2.2.1) else (if x12 = 3 then (if t295 > 0 then (quarrylaw17_AggParts.j2 k x0 x1 x5 x12 true bt284.1 bt284.2.1 bt284.2.2.1 bt289.1 bt289.2.1 bt289.2.2.1 bt279.1 bt279.2.1 bt279.2.2.1) else (if x12 = 4 then (quarrylaw17_AggParts.j2 k x0 x1 x5 x12 (decide (t295 < 0)) bt284.1 bt284.2.1 bt284.2.2.1 bt289.1 bt289.2.1 bt289.2.2.1 bt279.1 bt279.2.1 bt279.2.2.1) else (quarrylaw17_AggParts.j2 k x0 x1 x5 x12 false bt284.1 bt284.2.1 bt284.2.2.1 bt289.1 bt289.2.1 bt289.2.2.1 bt279.1 bt279.2.1 bt279.2.2.1))) else (if x12 = 4 then (quarrylaw17_AggParts.j2 k x0 x1 x5 x12 (decide (t295 < 0)) bt284.1 bt284.2.1 bt284.2.2.1 bt289.1 bt289.2.1 bt289.2.2.1 bt279.1 bt279.2.1 bt279.2.2.1) else (quarrylaw17_AggParts.j2 k x0 x1 x5 x12 false bt284.1 bt284.2.1 bt284.2.2.1 bt289.1 bt289.2.1 bt289.2.2.1 bt279.1 bt279.2.1 bt279.2.2.1))))))))) else (some true)
def quarrylaw17_AggParts.j2 : Nat → List (S32) → List (S32) → List (S32) → Int → Bool → Int → Int → ByteArray → Int → Int → ByteArray → Int → Int → ByteArray → Option (Bool)
 | 0, _, _, _, _, _, _, _, _, _, _, _, _, _, _ => none
 | k + 1, x0, x1, x5, x12, x108, x289000, x289001, x289002, x294000, x294001, x294002, x295000, x295001, x295002 => if x108 = true then (if (!(x294000 == x289000) || (!(x294001 == x289001) || (!(x294002.toList == x289002.toList)))) = true then (none) else (quarrylaw17_AggParts.l0 k x0 x1 x5 (wrap64 (x12 + 1)))) else (if (!(x294000 == x295000) || (!(x294001 == x295001) || (!(x294002.toList == x295002.toList)))) = true then (none) else (quarrylaw17_AggParts.l0 k x0 x1 x5 (wrap64 (x12 + 1))))
end
def quarrylaw17_AggParts.f (k : Nat) (l0 : List (S32)) (l1 : List (S32)) : Option (Bool) := (quarrylaw17_works.f).bind fun t252 => (if t252 = true then ((quarrylaw17_right.f k l0).bind fun t253 => (if t253 = true then ((quarrylaw17_right.f k l1).bind fun t254 => (quarrylaw17_AggParts.j0 k l0 l1 (!t254))) else (quarrylaw17_AggParts.j0 k l0 l1 true))) else (none))
set_option maxHeartbeats 8000000 in
set_option maxRecDepth 100000 in
theorem quarrylaw17_AggParts.calls (k : Nat) (A0 : Option Addr) (c0 : Nat) (l0 : List (S32)) (A1 : Option Addr) (c1 : Nat) (l1 : List (S32)) (r : Bool) (w : World) (hr0 : Kd.C k32 w A0 l0.length l0) (hc0 : l0.length ≤ c0) (hr1 : Kd.C k32 w A1 l1.length l1) (hc1 : l1.length ≤ c1) (h : quarrylaw17_AggParts.f k l0 l1 = some r) :
  Calls Try.prog 6 #[.slice A0 l0.length c0, .slice A1 l1.length c1] w fun e w' => e = .returned (.bool r) ∧ Below w.heap.size w w' := by
 have hu32 := Try.underlying32
 have HR0 := Aside0.mk hr0
 have HC0 := Aside0.mk hc0
 clear hr0 hc0
 have HR1 := Aside0.mk hr1
 have HC1 := Aside0.mk hc1
 clear hr1 hc1
 have HB := Aside0.mk (Below.refl w.heap.size w)
 have H : ((quarrylaw17_works.f).bind fun t252 => (if t252 = true then ((quarrylaw17_right.f k l0).bind fun t253 => (if t253 = true then ((quarrylaw17_right.f k l1).bind fun t254 => (quarrylaw17_AggParts.j0 k l0 l1 (!t254))) else (quarrylaw17_AggParts.j0 k l0 l1 true))) else (none))) = some r := h
 clear h
 replace H := Option.bind_eq_some_iff.mp H
 obtain ⟨t252, A30, H⟩ := H
 replace H : (if t252 = true then ((quarrylaw17_right.f k l0).bind fun t253 => (if t253 = true then ((quarrylaw17_right.f k l1).bind fun t254 => (quarrylaw17_AggParts.j0 k l0 l1 (!t254))) else (quarrylaw17_AggParts.j0 k l0 l1 true))) else (none)) = some r := H
 have A3 := Aside0.mk A30
 clear A30
 by_cases c4 : t252 = true
 ·subst c4
  have H1 : ((quarrylaw17_right.f k l0).bind fun t253 => (if t253 = true then ((quarrylaw17_right.f k l1).bind fun t254 => (quarrylaw17_AggParts.j0 k l0 l1 (!t254))) else (quarrylaw17_AggParts.j0 k l0 l1 true))) = some r := by rw [if_pos rfl] at H; exact H
  clear H
  have H := H1
  clear H1
  have HC5 := Aside0.mk H
  clear H
  go_enter Try.func6, Try.ntmps6
  go_upto_region 3 with (first | ((with_reducible refine gate_callee (f := 15) rfl ?_); refine goesL_ (some 21) rfl rfl Try.func15 (by kernel_rfl) rfl #[] rfl (by (try simp only [List.map_toArray, List.map_cons, List.map_nil]); first | done | rfl | (simp only [List.length_drop, List.length_take]; rfl)) ?_; (with_reducible refine (quarrylaw17_works.calls  true _ A3.out).mono ?_); rintro e w6 ⟨rfl, hb⟩; refine ⟨_, rfl, ?_⟩; have n0_ := Aside0.mk (below_step (by repeat (first | (with_reducible first | exact HB.out | apply below_alloc | apply pw_below_drewN | apply below_drew1) | exact HB.out)) hb); clear HB; have HB := n0_; clear n0_; (try clear hb); (try clear hb2); (try clear hk); (try clear hi)))
  (try simp only [Act.put, List.setIfInBounds_toArray, List.set_cons_zero, List.set_cons_succ])
  go_cut [30] (fun v30 wc => ∃ (kq : Nat) (x30_4 : Bool), v30 = .bool x30_4 ∧ Aside0 (quarrylaw17_AggParts.j0 kq l0 l1 x30_4 = some r) ∧ Aside0 (kq ≤ k) ∧ Aside0 (Below w.heap.size w wc))
  case first =>
   have H := HC5.out
   clear HC5
   replace H := Option.bind_eq_some_iff.mp H
   obtain ⟨t253, A70, H⟩ := H
   replace H : (if t253 = true then ((quarrylaw17_right.f k l1).bind fun t254 => (quarrylaw17_AggParts.j0 k l0 l1 (!t254))) else (quarrylaw17_AggParts.j0 k l0 l1 true)) = some r := H
   have A7 := Aside0.mk A70
   clear A70
   by_cases c8 : t253 = true
   ·subst c8
    have H1 : ((quarrylaw17_right.f k l1).bind fun t254 => (quarrylaw17_AggParts.j0 k l0 l1 (!t254))) = some r := by rw [if_pos rfl] at H; exact H
    clear H
    have H := H1
    clear H1
    replace H := Option.bind_eq_some_iff.mp H
    obtain ⟨t254, A90, H⟩ := H
    replace H : (quarrylaw17_AggParts.j0 k l0 l1 (!t254)) = some r := H
    have A9 := Aside0.mk A90
    clear A90
    have H' := Aside0.mk H
    clear H
    go_wp2_with (first | ((with_reducible refine gate_callee (f := 10) rfl ?_); refine goesL_ (some 24) rfl rfl Try.func10 (by kernel_rfl) rfl #[.slice A0 l0.length c0] rfl (by (try simp only [List.map_toArray, List.map_cons, List.map_nil]); first | done | rfl | (simp only [List.length_drop, List.length_take]; rfl)) ?_; (with_reducible refine (quarrylaw17_right.calls k _ _ l0 true _ ?side1 ?side2 A7.out).mono ?_); (case side1 => repeat (first | exact (Kd.C_below HR0.out HB.out) | (with_reducible refine Kd.C_alloc ?_ _) | (with_reducible refine Kd.C_drewN ?_ _) | (with_reducible refine Kd.C_drew ?_))); (case side2 => exact HC0.out); rintro e w10 ⟨rfl, hb⟩; refine ⟨_, rfl, ?_⟩; have n0_ := Aside0.mk (below_step (by repeat (first | (with_reducible first | exact HB.out | apply below_alloc | apply pw_below_drewN | apply below_drew1) | exact HB.out)) hb); clear HB; have HB := n0_; clear n0_; (try clear hb); (try clear hb2); (try clear hk); (try clear hi)) | (go_at_call 10; (with_reducible refine (quarrylaw17_right.calls k _ _ l1 t254 _ ?side1 ?side2 A9.out).mono ?_); (case side1 => repeat (first | exact (Kd.C_below HR1.out HB.out) | (with_reducible refine Kd.C_alloc ?_ _) | (with_reducible refine Kd.C_drewN ?_ _) | (with_reducible refine Kd.C_drew ?_))); (case side2 => exact HC1.out); rintro e w11 ⟨rfl, hb⟩; have n0_ := Aside0.mk (below_step (by repeat (first | (with_reducible first | exact HB.out | apply below_alloc | apply pw_below_drewN | apply below_drew1) | exact HB.out)) hb); clear HB; have HB := n0_; clear n0_; (try clear hb); (try clear hb2); (try clear hk); (try clear hi)))
    go_meet
    case rel => exact ⟨_, (!t254), (by first | rfl | (simp; done) | (simp [*]; done)), H', ⟨by first | omega | exact Nat.le_refl _⟩, ⟨by repeat (first | (with_reducible first | exact HB.out | apply below_alloc | apply pw_below_drewN | apply below_drew1) | exact HB.out)⟩⟩
   ·replace c8 := Bool.eq_false_iff.mpr c8
    subst c8
    have H1 : (quarrylaw17_AggParts.j0 k l0 l1 true) = some r := by rw [if_neg (show ¬ (false = true) by decide)] at H; exact H
    clear H
    have H := H1
    clear H1
    have H' := Aside0.mk H
    clear H
    go_wp2_with (first | ((with_reducible refine gate_callee (f := 10) rfl ?_); refine goesL_ (some 24) rfl rfl Try.func10 (by kernel_rfl) rfl #[.slice A0 l0.length c0] rfl (by (try simp only [List.map_toArray, List.map_cons, List.map_nil]); first | done | rfl | (simp only [List.length_drop, List.length_take]; rfl)) ?_; (with_reducible refine (quarrylaw17_right.calls k _ _ l0 false _ ?side1 ?side2 A7.out).mono ?_); (case side1 => repeat (first | exact (Kd.C_below HR0.out HB.out) | (with_reducible refine Kd.C_alloc ?_ _) | (with_reducible refine Kd.C_drewN ?_ _) | (with_reducible refine Kd.C_drew ?_))); (case side2 => exact HC0.out); rintro e w12 ⟨rfl, hb⟩; refine ⟨_, rfl, ?_⟩; have n0_ := Aside0.mk (below_step (by repeat (first | (with_reducible first | exact HB.out | apply below_alloc | apply pw_below_drewN | apply below_drew1) | exact HB.out)) hb); clear HB; have HB := n0_; clear n0_; (try clear hb); (try clear hb2); (try clear hk); (try clear hi)))
    go_meet
    case rel => exact ⟨_, (true), (by first | rfl | (simp; done) | (simp [*]; done)), H', ⟨by first | omega | exact Nat.le_refl _⟩, ⟨by repeat (first | (with_reducible first | exact HB.out | apply below_alloc | apply pw_below_drewN | apply below_drew1) | exact HB.out)⟩⟩
  case rest =>
   clear HC5
   try clear c1
   try clear p2
   try clear c4
   try clear c6
   try clear c8
   try clear c10
   obtain ⟨kq, x30_4, rfl, HA, HJ4, HB⟩ := hcut
   cases kq with
   | zero => exact absurd HA.out (by simp [quarrylaw17_AggParts.j0])
   | succ kj4 =>
    have H := HA.out
    clear HA
    simp only [quarrylaw17_AggParts.j0] at H
    by_cases c13 : x30_4 = true
    ·subst c13
     have H1 : (some true) = some r := by rw [if_pos rfl] at H; exact H
     clear H
     have H := H1
     clear H1
     obtain rfl := Option.some.inj H
     go_wp2
     go_ret
     exact ⟨by first | rfl | (simp [errW_none, errW_some] <;> rfl) | (simp [*, errW_none, errW_some] <;> rfl), by repeat (first | (with_reducible first | exact HB.out | apply below_alloc | apply pw_below_drewN | apply below_drew1) | exact HB.out)⟩
    ·replace c13 := Bool.eq_false_iff.mpr c13
     subst c13
     have H1 : ((some (([] : List (S32)) : List (S32))).bind fun y255 => (if y255.length + l0.length < 4398046511104 then ((some (y255 ++ l0 : List (S32))).bind fun y258 => (if y258.length + l1.length < 4398046511104 then ((some (y258 ++ l1 : List (S32))).bind fun y261 => ((quarrylaw17_gathered.f 1 l0).bind fun bt264 => ((quarrylaw17_gathered.f 1 l1).bind fun bt269 => ((quarrylaw17_gathered.f 1 y261).bind fun bt274 => (if bt274.2.1 = (wrap64 (bt264.2.1 + bt269.2.1)) then (quarrylaw17_AggParts.l0 kj4 l0 l1 y261 3) else (none)))))) else (none))) else (none))) = some r := by rw [if_neg (show ¬ (false = true) by decide)] at H; exact H
     clear H
     have H := H1
     clear H1
     obtain ⟨y255, hy255⟩ : ∃ y_ : List (S32), y_ = (([] : List (S32))) := ⟨_, rfl⟩
     replace H : (if y255.length + l0.length < 4398046511104 then ((some (y255 ++ l0 : List (S32))).bind fun y258 => (if y258.length + l1.length < 4398046511104 then ((some (y258 ++ l1 : List (S32))).bind fun y261 => ((quarrylaw17_gathered.f 1 l0).bind fun bt264 => ((quarrylaw17_gathered.f 1 l1).bind fun bt269 => ((quarrylaw17_gathered.f 1 y261).bind fun bt274 => (if bt274.2.1 = (wrap64 (bt264.2.1 + bt269.2.1)) then (quarrylaw17_AggParts.l0 kj4 l0 l1 y261 3) else (none)))))) else (none))) else (none)) = some r := by first | (rw [hy255]; with_reducible exact H) | (have H2_ := (Option.bind_some _ _).symm.trans H; rw [hy255]; with_reducible exact H2_) | (have H2_ := (Option.bind_some _ _).symm.trans H; with_reducible exact H2_) | with_reducible exact H | (rw [hy255]; exact H) | exact H
     have Ny255 := Aside0.mk hy255
     clear hy255
     by_cases c14 : y255.length + l0.length < 4398046511104
     ·rw [if_pos c14] at H
      have LMc14 := Aside0.mk c14
      clear c14
      obtain ⟨y258, hy258⟩ : ∃ y_ : List (S32), y_ = (y255 ++ l0) := ⟨_, rfl⟩
      replace H : (if y258.length + l1.length < 4398046511104 then ((some (y258 ++ l1 : List (S32))).bind fun y261 => ((quarrylaw17_gathered.f 1 l0).bind fun bt264 => ((quarrylaw17_gathered.f 1 l1).bind fun bt269 => ((quarrylaw17_gathered.f 1 y261).bind fun bt274 => (if bt274.2.1 = (wrap64 (bt264.2.1 + bt269.2.1)) then (quarrylaw17_AggParts.l0 kj4 l0 l1 y261 3) else (none)))))) else (none)) = some r := by first | (rw [hy258]; with_reducible exact H) | (have H2_ := (Option.bind_some _ _).symm.trans H; rw [hy258]; with_reducible exact H2_) | (have H2_ := (Option.bind_some _ _).symm.trans H; with_reducible exact H2_) | with_reducible exact H | (rw [hy258]; exact H) | exact H
      have Ny258 := Aside0.mk hy258
      clear hy258
      by_cases c15 : y258.length + l1.length < 4398046511104
      ·rw [if_pos c15] at H
       have LMc15 := Aside0.mk c15
       clear c15
       obtain ⟨y261, hy261⟩ : ∃ y_ : List (S32), y_ = (y258 ++ l1) := ⟨_, rfl⟩
       replace H : ((quarrylaw17_gathered.f 1 l0).bind fun bt264 => ((quarrylaw17_gathered.f 1 l1).bind fun bt269 => ((quarrylaw17_gathered.f 1 y261).bind fun bt274 => (if bt274.2.1 = (wrap64 (bt264.2.1 + bt269.2.1)) then (quarrylaw17_AggParts.l0 kj4 l0 l1 y261 3) else (none))))) = some r := by first | (rw [hy261]; with_reducible exact H) | (have H2_ := (Option.bind_some _ _).symm.trans H; rw [hy261]; with_reducible exact H2_) | (have H2_ := (Option.bind_some _ _).symm.trans H; with_reducible exact H2_) | with_reducible exact H | (rw [hy261]; exact H) | exact H
       have Ny261 := Aside0.mk hy261
       clear hy261
       replace H := Option.bind_eq_some_iff.mp H
       obtain ⟨⟨t264, t265, t266, t267⟩, A160, H⟩ := H
       replace H : ((quarrylaw17_gathered.f 1 l1).bind fun bt269 => ((quarrylaw17_gathered.f 1 y261).bind fun bt274 => (if bt274.2.1 = (wrap64 (t265 + bt269.2.1)) then (quarrylaw17_AggParts.l0 kj4 l0 l1 y261 3) else (none)))) = some r := H
       have A16 := Aside0.mk A160
       clear A160
       replace H := Option.bind_eq_some_iff.mp H
       obtain ⟨⟨t269, t270, t271, t272⟩, A170, H⟩ := H
       replace H : ((quarrylaw17_gathered.f 1 y261).bind fun bt274 => (if bt274.2.1 = (wrap64 (t265 + t270)) then (quarrylaw17_AggParts.l0 kj4 l0 l1 y261 3) else (none))) = some r := H
       have A17 := Aside0.mk A170
       clear A170
       replace H := Option.bind_eq_some_iff.mp H
       obtain ⟨⟨t274, t275, t276, t277⟩, A180, H⟩ := H
       replace H : (if t275 = (wrap64 (t265 + t270)) then (quarrylaw17_AggParts.l0 kj4 l0 l1 y261 3) else (none)) = some r := H
       have A18 := Aside0.mk A180
       clear A180
       by_cases c19 : t275 = (wrap64 (t265 + t270))
       ·rw [if_pos c19] at H
        have c19b0 : (t275 == (wrap64 (t265 + t270))) = true := beq_iff_eq.mpr c19
        have c19b1 : (t275 != (wrap64 (t265 + t270))) = false := bne_eq_false_iff_eq.mpr c19
        clear c19
        have H' := Aside0.mk H
        clear H
        go_wp2_with (first | ((with_reducible refine gate_dst (N := 31) rfl ?_); refine Kd.R_lit k32 _ 32 ?hg (N := 31) ?hd (xs := ([] : List (S32))) (inner := []) (ok := fun _ => True) (okp := fun _ => True) ?hr ?hp (fun _ hk => hk) trivial (Below.refl _ _) (Nat.le_refl _) (by simp) ?_; (case hd => rfl); (case hg => rfl); (case hr => first | (go_simp; done) | (go_simp; rfl)); (case hp => exact (Reps.none _ _)); intro v256 w20 ho21 hb hg_ hnew_; clear hg_ hnew_; (first | rw [← Ny255.out] at ho21 | (simp only [Int.reduceToNat] at ho21; rw [← Ny255.out] at ho21)); have n0_ := Aside0.mk (Kd.R_lower ho21 (below_size (by repeat (first | (with_reducible first | exact HB.out | apply below_alloc | apply pw_below_drewN | apply below_drew1) | exact HB.out)))); have n1_ := Aside0.mk (below_step (by repeat (first | (with_reducible first | exact HB.out | apply below_alloc | apply pw_below_drewN | apply below_drew1) | exact HB.out)) hb); clear HB; have HO257 := n0_; have HB := n1_; clear n0_ n1_; clear hb ho21) | ((with_reducible refine gate_builtin (b := .append) (xs := #[.tmp 31, .tmp 32]) rfl ?_); at_builtin; refine Kd.R_append_rows k32 (w0 := w) w.heap.size rfl (.tmp 31) (.tmp 32) 22 32 (.agg #[(.int .i64 0), (.int .i64 0), (.string ⟨#[]⟩)]) 32 rfl Try.underlying22 info32 rfl (by decide) (by omega) v256 y255 l0 _ _ _ (fun _ => True) (fun _ => False) rfl rfl ?aO ?aR (fun _ _ h => h) (fun _ h => h.elim) ?aF ?aB ?aS ?aL ?_; (case aR => repeat (first | exact (Kd.C_below HR0.out HB.out) | (with_reducible refine Kd.C_alloc ?_ _) | (with_reducible refine Kd.C_drewN ?_ _) | (with_reducible refine Kd.C_drew ?_))); (case aB => exact (by repeat (first | (with_reducible first | exact HB.out | apply below_alloc | apply pw_below_drewN | apply below_drew1) | exact HB.out))); (case aF => exact (fun _ _ => trivial)); (case aO => exact (by (with_reducible repeat (first | apply Kd.R_alloc | apply Kd.R_drewN | apply Kd.R_drew)); exact HO257.out)); (case aS => exact (below_size (by repeat (first | (with_reducible first | exact HB.out | apply below_alloc | apply pw_below_drewN | apply below_drew1) | exact HB.out)))); (case aL => have := LMc14.out; omega); intro v259 w22 ho hb hg hat; rw [← Ny258.out] at ho; have n0_ := Aside0.mk (hb); have n1_ := Aside0.mk (ho); clear HB; clear HO257; have HB := n0_; have HO260 := n1_; clear n0_ n1_; clear ho hb hg hat) | ((with_reducible refine gate_builtin (b := .append) (xs := #[.tmp 33, .tmp 34]) rfl ?_); at_builtin; refine Kd.R_append_rows k32 (w0 := w) w.heap.size rfl (.tmp 33) (.tmp 34) 22 32 (.agg #[(.int .i64 0), (.int .i64 0), (.string ⟨#[]⟩)]) 32 rfl Try.underlying22 info32 rfl (by decide) (by omega) v259 y258 l1 _ _ _ (fun _ => True) (fun _ => False) rfl rfl ?aO ?aR (fun _ _ h => h) (fun _ h => h.elim) ?aF ?aB ?aS ?aL ?_; (case aR => repeat (first | exact (Kd.C_below HR1.out HB.out) | (with_reducible refine Kd.C_alloc ?_ _) | (with_reducible refine Kd.C_drewN ?_ _) | (with_reducible refine Kd.C_drew ?_))); (case aB => exact (by repeat (first | (with_reducible first | exact HB.out | apply below_alloc | apply pw_below_drewN | apply below_drew1) | exact HB.out))); (case aF => exact (fun _ _ => trivial)); (case aO => exact (by (with_reducible repeat (first | apply Kd.R_alloc | apply Kd.R_drewN | apply Kd.R_drew)); exact HO260.out)); (case aS => exact (below_size (by repeat (first | (with_reducible first | exact HB.out | apply below_alloc | apply pw_below_drewN | apply below_drew1) | exact HB.out)))); (case aL => have := LMc15.out; omega); intro v262 w23 ho hb hg hat; rw [← Ny261.out] at ho; have n0_ := Aside0.mk (hb); have n1_ := Aside0.mk (ho); clear HB; clear HO260; have HB := n0_; have HO263 := n1_; clear n0_ n1_; clear ho hb hg hat) | ((with_reducible refine gate_callee (f := 16) rfl ?_); refine goesL_ (some 38) rfl rfl Try.func16 (by kernel_rfl) rfl #[.int .i64 1, .slice A0 l0.length c0] rfl (by (try simp only [List.map_toArray, List.map_cons, List.map_nil]); first | done | rfl | (simp only [List.length_drop, List.length_take]; rfl)) ?_; (with_reducible refine (quarrylaw17_gathered.print 1 _ _ l0 t264 t265 t266 t267 _ ?side1 ?side2 A16.out).mono ?_); (case side1 => repeat (first | exact (Kd.C_below HR0.out HB.out) | (with_reducible refine Kd.C_alloc ?_ _) | (with_reducible refine Kd.C_drewN ?_ _) | (with_reducible refine Kd.C_drew ?_))); (case side2 => exact HC0.out); rintro e w24 ⟨rfl, hb⟩; refine ⟨_, rfl, ?_⟩; have n0_ := Aside0.mk (Kd.R_below (by (with_reducible repeat (first | apply Kd.R_alloc | apply Kd.R_drewN | apply Kd.R_drew)); exact HO263.out) hb); have n1_ := Aside0.mk (below_step (by repeat (first | (with_reducible first | exact HB.out | apply below_alloc | apply pw_below_drewN | apply below_drew1) | exact HB.out)) hb); clear HO263; clear HB; have HO263 := n0_; have HB := n1_; clear n0_ n1_; (try clear hb); (try clear hb2); (try clear hk); (try clear hi)) | ((with_reducible refine gate_dst (N := 6) rfl ?_); refine box_event ?hg (N := 6) ?hd (cs := #[.int .i64 0, .int .i64 0, .string (⟨#[]⟩ : ByteArray)]) (t := 32) ?hr ?_; (case hd => rfl); (case hg => rfl); (case hr => first | (go_simp; done) | (go_simp; rfl)); intro gb268 hg w25 hbox hb; have n0_ := Aside0.mk (Kd.R_below (Kd.R_elderB (by (with_reducible repeat (first | apply Kd.R_alloc | apply Kd.R_drewN | apply Kd.R_drew)); exact HO263.out) gb268 (Nat.le_of_eq hg.symm)) hb); have n1_ := Aside0.mk (below_step (by repeat (first | (with_reducible first | exact HB.out | apply below_alloc | apply pw_below_drewN | apply below_drew1) | exact HB.out)) hb); have n2_ := Aside0.mk (hbox); have n3_ := Aside0.mk ((by rw [hg]; exact (below_size (by repeat (first | (with_reducible first | exact HB.out | apply below_alloc | apply pw_below_drewN | apply below_drew1) | exact HB.out))) : w.heap.size ≤ gb268)); have n4_ := Aside0.mk ((by rw [hg]; exact (below_size (by repeat (first | (with_reducible first | exact HB.out | apply below_alloc | apply pw_below_drewN | apply below_drew1) | exact HB.out))) : w.heap.size ≤ gb268)); clear HO263; clear HB; have HO263 := n0_; have HB := n1_; have BK268 := n2_; have GW268 := n3_; have GE268 := n4_; clear n0_ n1_ n2_ n3_ n4_; clear hb hbox hg; have hcz26_0 : w25.cell? ⟨gb268, 0, none⟩ = some (.int .i64 0) := (blk_cell BK268.out 0).trans rfl; have hcz26_1 : w25.cell? ⟨gb268, 1, none⟩ = some (.int .i64 0) := (blk_cell BK268.out 1).trans rfl; have hcz26_2 : w25.cell? ⟨gb268, 2, none⟩ = some (.string (⟨#[]⟩ : ByteArray)) := (blk_cell BK268.out 2).trans rfl; have hfz26_0 := blk_frozen BK268.out 0; have hfz26_1 := blk_frozen BK268.out 1; have hfz26_2 := blk_frozen BK268.out 2) | ((with_reducible refine gate_callee (f := 16) rfl ?_); refine goesL_ (some 43) rfl rfl Try.func16 (by kernel_rfl) rfl #[.int .i64 1, .slice A1 l1.length c1] rfl (by (try simp only [List.map_toArray, List.map_cons, List.map_nil]); first | done | rfl | (simp only [List.length_drop, List.length_take]; rfl)) ?_; (with_reducible refine (quarrylaw17_gathered.print 1 _ _ l1 t269 t270 t271 t272 _ ?side1 ?side2 A17.out).mono ?_); (case side1 => exact Kd.C_below HR1.out (by repeat (first | (with_reducible first | exact HB.out | apply below_alloc | apply pw_below_drewN | apply below_drew1 | refine below_set ?_ GE268.out) | exact HB.out))); (case side2 => exact HC1.out); rintro e w27 ⟨rfl, hb⟩; refine ⟨_, rfl, ?_⟩; have n0_ := Aside0.mk (Kd.R_below (by (with_reducible repeat (first | apply Kd.R_alloc | apply Kd.R_drewN | apply Kd.R_drew)); exact (Kd.R_mono (Kd.R_far (p := ⟨gb268, 2, none⟩) (Kd.R_far (p := ⟨gb268, 1, none⟩) (Kd.R_far (p := ⟨gb268, 0, none⟩) (Kd.R_mono HO263.out (fun k_ hk => (⟨hk, hk.2⟩ : _ ∧ k_ ≠ gb268))) (fun _ hk => hk.2) (.int .i64 t264)) (fun _ hk => hk.2) (.int .i64 t265)) (fun _ hk => hk.2) (.string t266)) (fun _ h_ => h_.1))) hb); have n1_ := Aside0.mk (blk_below (g := gb268) (o := .cells #[.int .i64 t264, .int .i64 t265, .string t266] 32 (0, 0)) (by (with_reducible repeat (first | refine blk_drewN ?_ _ | refine blk_drew ?_ | refine blk_alloc ?_ _)); refine blk_put (cs := #[.int .i64 t264, .int .i64 t265, .string (⟨#[]⟩ : ByteArray)]) ?_ 2 _ rfl; (with_reducible repeat (first | refine blk_drewN ?_ _ | refine blk_drew ?_ | refine blk_alloc ?_ _)); refine blk_put (cs := #[.int .i64 t264, .int .i64 0, .string (⟨#[]⟩ : ByteArray)]) ?_ 1 _ rfl; (with_reducible repeat (first | refine blk_drewN ?_ _ | refine blk_drew ?_ | refine blk_alloc ?_ _)); refine blk_put (cs := #[.int .i64 0, .int .i64 0, .string (⟨#[]⟩ : ByteArray)]) ?_ 0 _ rfl; (with_reducible repeat (first | refine blk_drewN ?_ _ | refine blk_drew ?_ | refine blk_alloc ?_ _)); exact BK268.out) hb); have n2_ := Aside0.mk (below_step (by repeat (first | (with_reducible first | exact HB.out | apply below_alloc | apply pw_below_drewN | apply below_drew1 | refine below_set ?_ GE268.out) | exact HB.out)) hb); clear HO263; clear BK268; clear HB; have HO263 := n0_; have BK268 := n1_; have HB := n2_; clear n0_ n1_ n2_; (try clear hb); (try clear hb2); (try clear hk); (try clear hi)) | ((with_reducible refine gate_dst (N := 8) rfl ?_); refine box_event ?hg (N := 8) ?hd (cs := #[.int .i64 0, .int .i64 0, .string (⟨#[]⟩ : ByteArray)]) (t := 32) ?hr ?_; (case hd => rfl); (case hg => rfl); (case hr => first | (go_simp; done) | (go_simp; rfl)); intro gb273 hg w28 hbox hb; have n0_ := Aside0.mk (Kd.R_below (Kd.R_elderB (by (with_reducible repeat (first | apply Kd.R_alloc | apply Kd.R_drewN | apply Kd.R_drew)); exact HO263.out) gb273 (Nat.le_of_eq hg.symm)) hb); have n1_ := Aside0.mk (blk_below (g := gb268) (o := .cells #[.int .i64 t264, .int .i64 t265, .string t266] 32 (0, 0)) (bk_ BK268) hb); have n2_ := Aside0.mk (below_step (by repeat (first | (with_reducible first | exact HB.out | apply below_alloc | apply pw_below_drewN | apply below_drew1 | refine below_set ?_ GE268.out) | exact HB.out)) hb); have n3_ := Aside0.mk (hbox); have n4_ := Aside0.mk ((by rw [hg]; exact (below_size (by repeat (first | (with_reducible first | exact HB.out | apply below_alloc | apply pw_below_drewN | apply below_drew1 | refine below_set ?_ GE268.out) | exact HB.out))) : w.heap.size ≤ gb273)); have n5_ := Aside0.mk ((by rw [hg]; exact (below_size (by repeat (first | (with_reducible first | exact HB.out | apply below_alloc | apply pw_below_drewN | apply below_drew1 | refine below_set ?_ GE268.out) | exact HB.out))) : w.heap.size ≤ gb273)); have n6_ := Aside0.mk ((by rw [hg]; exact Nat.ne_of_lt (blk_lt (g := gb268) (o := .cells #[.int .i64 t264, .int .i64 t265, .string t266] 32 (0, 0)) (bk_ BK268)) : gb268 ≠ gb273)); have n7_ := Aside0.mk ((by rw [hg]; exact Nat.ne_of_gt (blk_lt (g := gb268) (o := .cells #[.int .i64 t264, .int .i64 t265, .string t266] 32 (0, 0)) (bk_ BK268)) : gb273 ≠ gb268)); clear HO263; clear BK268; clear HB; have HO263 := n0_; have BK268 := n1_; have HB := n2_; have BK273 := n3_; have GW273 := n4_; have GE273 := n5_; have NB268_273 := n6_; have NB273_268 := n7_; clear n0_ n1_ n2_ n3_ n4_ n5_ n6_ n7_; clear hb hbox hg; have hnb29 := NB273_268.out; have hnc29 := NB268_273.out; have hcz30_0 : w28.cell? ⟨gb273, 0, none⟩ = some (.int .i64 0) := (blk_cell BK273.out 0).trans rfl; have hcz30_1 : w28.cell? ⟨gb273, 1, none⟩ = some (.int .i64 0) := (blk_cell BK273.out 1).trans rfl; have hcz30_2 : w28.cell? ⟨gb273, 2, none⟩ = some (.string (⟨#[]⟩ : ByteArray)) := (blk_cell BK273.out 2).trans rfl; have hfz30_0 := blk_frozen BK273.out 0; have hfz30_1 := blk_frozen BK273.out 1; have hfz30_2 := blk_frozen BK273.out 2; obtain ⟨Ao31, co31, eo31⟩ := Kd.R_slice HO263.out; subst eo31) | ((with_reducible refine gate_callee (f := 16) rfl ?_); refine goesL_ (some 48) rfl rfl Try.func16 (by kernel_rfl) rfl #[.int .i64 1, .slice Ao31 y261.length co31] rfl (by (try simp only [List.map_toArray, List.map_cons, List.map_nil]); first | done | rfl | (simp only [List.length_drop, List.length_take]; rfl)) ?_; (with_reducible refine (quarrylaw17_gathered.print 1 _ _ y261 t274 t275 t276 t277 _ ?side1 ?side2 A18.out).mono ?_); (case side1 => refine (Kd.R_reads' (e := 32) (base := w.heap.size) (ok := fun k_ => ((True ∧ k_ ≠ gb268) ∧ k_ ≠ gb273)) (n := y261.length) (c := co31) ?_).2.2; exact (by (with_reducible repeat (first | apply Kd.R_alloc | apply Kd.R_drewN | apply Kd.R_drew)); exact (Kd.R_mono (Kd.R_far (p := ⟨gb273, 2, none⟩) (Kd.R_far (p := ⟨gb273, 1, none⟩) (Kd.R_far (p := ⟨gb273, 0, none⟩) (Kd.R_mono HO263.out (fun k_ hk => (⟨hk, hk.2⟩ : _ ∧ k_ ≠ gb273))) (fun _ hk => hk.2) (.int .i64 t269)) (fun _ hk => hk.2) (.int .i64 t270)) (fun _ hk => hk.2) (.string t271)) (fun _ h_ => h_.1)))); (case side2 => exact (Kd.R_reads' HO263.out).2.1); rintro e w32 ⟨rfl, hb⟩; refine ⟨_, rfl, ?_⟩; have n0_ := Aside0.mk (Kd.R_below (by (with_reducible repeat (first | apply Kd.R_alloc | apply Kd.R_drewN | apply Kd.R_drew)); exact (Kd.R_mono (Kd.R_far (p := ⟨gb273, 2, none⟩) (Kd.R_far (p := ⟨gb273, 1, none⟩) (Kd.R_far (p := ⟨gb273, 0, none⟩) (Kd.R_mono HO263.out (fun k_ hk => (⟨hk, hk.2⟩ : _ ∧ k_ ≠ gb273))) (fun _ hk => hk.2) (.int .i64 t269)) (fun _ hk => hk.2) (.int .i64 t270)) (fun _ hk => hk.2) (.string t271)) (fun _ h_ => h_.1))) hb); have n1_ := Aside0.mk (blk_below (g := gb268) (o := .cells #[.int .i64 t264, .int .i64 t265, .string t266] 32 (0, 0)) (by (with_reducible repeat (first | refine blk_drewN ?_ _ | refine blk_drew ?_ | refine blk_alloc ?_ _)); refine blk_far ?_ NB268_273.out _; (with_reducible repeat (first | refine blk_drewN ?_ _ | refine blk_drew ?_ | refine blk_alloc ?_ _)); refine blk_far ?_ NB268_273.out _; (with_reducible repeat (first | refine blk_drewN ?_ _ | refine blk_drew ?_ | refine blk_alloc ?_ _)); refine blk_far ?_ NB268_273.out _; (with_reducible repeat (first | refine blk_drewN ?_ _ | refine blk_drew ?_ | refine blk_alloc ?_ _)); exact BK268.out) hb); have n2_ := Aside0.mk (blk_below (g := gb273) (o := .cells #[.int .i64 t269, .int .i64 t270, .string t271] 32 (0, 0)) (by (with_reducible repeat (first | refine blk_drewN ?_ _ | refine blk_drew ?_ | refine blk_alloc ?_ _)); refine blk_put (cs := #[.int .i64 t269, .int .i64 t270, .string (⟨#[]⟩ : ByteArray)]) ?_ 2 _ rfl; (with_reducible repeat (first | refine blk_drewN ?_ _ | refine blk_drew ?_ | refine blk_alloc ?_ _)); refine blk_put (cs := #[.int .i64 t269, .int .i64 0, .string (⟨#[]⟩ : ByteArray)]) ?_ 1 _ rfl; (with_reducible repeat (first | refine blk_drewN ?_ _ | refine blk_drew ?_ | refine blk_alloc ?_ _)); refine blk_put (cs := #[.int .i64 0, .int .i64 0, .string (⟨#[]⟩ : ByteArray)]) ?_ 0 _ rfl; (with_reducible repeat (first | refine blk_drewN ?_ _ | refine blk_drew ?_ | refine blk_alloc ?_ _)); exact BK273.out) hb); have n3_ := Aside0.mk (below_step (by repeat (first | (with_reducible first | exact HB.out | apply below_alloc | apply pw_below_drewN | apply below_drew1 | refine below_set ?_ GE268.out | refine below_set ?_ GE273.out) | exact HB.out)) hb); clear HO263; clear BK268; clear BK273; clear HB; have HO263 := n0_; have BK268 := n1_; have BK273 := n2_; have HB := n3_; clear n0_ n1_ n2_ n3_; (try clear hb); (try clear hb2); (try clear hk); (try clear hi)) | ((with_reducible refine gate_dst (N := 10) rfl ?_); refine box_event ?hg (N := 10) ?hd (cs := #[.int .i64 0, .int .i64 0, .string (⟨#[]⟩ : ByteArray)]) (t := 32) ?hr ?_; (case hd => rfl); (case hg => rfl); (case hr => first | (go_simp; done) | (go_simp; rfl)); intro gb278 hg w33 hbox hb; have n0_ := Aside0.mk (Kd.R_below (Kd.R_elderB (by (with_reducible repeat (first | apply Kd.R_alloc | apply Kd.R_drewN | apply Kd.R_drew)); exact HO263.out) gb278 (Nat.le_of_eq hg.symm)) hb); have n1_ := Aside0.mk (blk_below (g := gb268) (o := .cells #[.int .i64 t264, .int .i64 t265, .string t266] 32 (0, 0)) (bk_ BK268) hb); have n2_ := Aside0.mk (blk_below (g := gb273) (o := .cells #[.int .i64 t269, .int .i64 t270, .string t271] 32 (0, 0)) (bk_ BK273) hb); have n3_ := Aside0.mk (below_step (by repeat (first | (with_reducible first | exact HB.out | apply below_alloc | apply pw_below_drewN | apply below_drew1 | refine below_set ?_ GE268.out | refine below_set ?_ GE273.out) | exact HB.out)) hb); have n4_ := Aside0.mk (hbox); have n5_ := Aside0.mk ((by rw [hg]; exact (below_size (by repeat (first | (with_reducible first | exact HB.out | apply below_alloc | apply pw_below_drewN | apply below_drew1 | refine below_set ?_ GE268.out | refine below_set ?_ GE273.out) | exact HB.out))) : w.heap.size ≤ gb278)); have n6_ := Aside0.mk ((by rw [hg]; exact (below_size (by repeat (first | (with_reducible first | exact HB.out | apply below_alloc | apply pw_below_drewN | apply below_drew1 | refine below_set ?_ GE268.out | refine below_set ?_ GE273.out) | exact HB.out))) : w.heap.size ≤ gb278)); have n7_ := Aside0.mk ((by rw [hg]; exact Nat.ne_of_lt (blk_lt (g := gb268) (o := .cells #[.int .i64 t264, .int .i64 t265, .string t266] 32 (0, 0)) (bk_ BK268)) : gb268 ≠ gb278)); have n8_ := Aside0.mk ((by rw [hg]; exact Nat.ne_of_gt (blk_lt (g := gb268) (o := .cells #[.int .i64 t264, .int .i64 t265, .string t266] 32 (0, 0)) (bk_ BK268)) : gb278 ≠ gb268)); have n9_ := Aside0.mk ((by rw [hg]; exact Nat.ne_of_lt (blk_lt (g := gb273) (o := .cells #[.int .i64 t269, .int .i64 t270, .string t271] 32 (0, 0)) (bk_ BK273)) : gb273 ≠ gb278)); have n10_ := Aside0.mk ((by rw [hg]; exact Nat.ne_of_gt (blk_lt (g := gb273) (o := .cells #[.int .i64 t269, .int .i64 t270, .string t271] 32 (0, 0)) (bk_ BK273)) : gb278 ≠ gb273)); clear HO263; clear BK268; clear BK273; clear HB; have HO263 := n0_; have BK268 := n1_; have BK273 := n2_; have HB := n3_; have BK278 := n4_; have GW278 := n5_; have GE278 := n6_; have NB268_278 := n7_; have NB278_268 := n8_; have NB273_278 := n9_; have NB278_273 := n10_; clear n0_ n1_ n2_ n3_ n4_ n5_ n6_ n7_ n8_ n9_ n10_; clear hb hbox hg; have hnb34 := NB278_268.out; have hnc34 := NB268_278.out; have hnb35 := NB278_273.out; have hnc35 := NB273_278.out; have hcz36_0 : w33.cell? ⟨gb278, 0, none⟩ = some (.int .i64 0) := (blk_cell BK278.out 0).trans rfl; have hcz36_1 : w33.cell? ⟨gb278, 1, none⟩ = some (.int .i64 0) := (blk_cell BK278.out 1).trans rfl; have hcz36_2 : w33.cell? ⟨gb278, 2, none⟩ = some (.string (⟨#[]⟩ : ByteArray)) := (blk_cell BK278.out 2).trans rfl; have hfz36_0 := blk_frozen BK278.out 0; have hfz36_1 := blk_frozen BK278.out 1; have hfz36_2 := blk_frozen BK278.out 2; have hcz37_0 : w33.cell? ⟨gb268, 0, none⟩ = some (.int .i64 t264) := (blk_cell BK268.out 0).trans rfl; have hcz37_1 : w33.cell? ⟨gb268, 1, none⟩ = some (.int .i64 t265) := (blk_cell BK268.out 1).trans rfl; have hcz37_2 : w33.cell? ⟨gb268, 2, none⟩ = some (.string t266) := (blk_cell BK268.out 2).trans rfl; have hfz37_0 := blk_frozen BK268.out 0; have hfz37_1 := blk_frozen BK268.out 1; have hfz37_2 := blk_frozen BK268.out 2; have hcz38_0 : w33.cell? ⟨gb273, 0, none⟩ = some (.int .i64 t269) := (blk_cell BK273.out 0).trans rfl; have hcz38_1 : w33.cell? ⟨gb273, 1, none⟩ = some (.int .i64 t270) := (blk_cell BK273.out 1).trans rfl; have hcz38_2 : w33.cell? ⟨gb273, 2, none⟩ = some (.string t271) := (blk_cell BK273.out 2).trans rfl; have hfz38_0 := blk_frozen BK273.out 0; have hfz38_1 := blk_frozen BK273.out 1; have hfz38_2 := blk_frozen BK273.out 2))
        go_loopg [12] kj4 (fun kq v12 w' => ∃ (x12_2 : Int), v12 = .int .i64 x12_2 ∧ Aside0 (quarrylaw17_AggParts.l0 kq l0 l1 y261 x12_2 = some r) ∧ Aside0 (kq ≤ kj4) ∧ Aside0 (Kd.R k32 32 w' w.heap.size (fun k_ => k_ ≠ gb268 ∧ k_ ≠ gb273 ∧ k_ ≠ gb278) (.slice Ao31 y261.length co31) y261) ∧ Aside0 (w'.heap[gb268]? = some (.cells #[.int .i64 t264, .int .i64 t265, .string t266] 32 (0, 0))) ∧ Aside0 (w'.heap[gb273]? = some (.cells #[.int .i64 t269, .int .i64 t270, .string t271] 32 (0, 0))) ∧ Aside0 (w'.heap[gb278]? = some (.cells #[.int .i64 t274, .int .i64 t275, .string t276] 32 (0, 0))) ∧ Aside0 (Below w.heap.size w w'))
        case atStart => exact ⟨(3), (by first | rfl | (simp; done) | (simp [*]; done)), H', ⟨Nat.le_refl _⟩, ⟨by (with_reducible repeat (first | apply Kd.R_alloc | apply Kd.R_drewN | apply Kd.R_drew)); exact Kd.R_mono (Kd.R_far (p := ⟨gb278, 2, none⟩) (Kd.R_far (p := ⟨gb278, 1, none⟩) (Kd.R_far (p := ⟨gb278, 0, none⟩) (Kd.R_mono HO263.out (fun k_ hk => (⟨hk, hk.2⟩ : _ ∧ k_ ≠ gb278))) (fun _ hk => hk.2) (.int .i64 t274)) (fun _ hk => hk.2) (.int .i64 t275)) (fun _ hk => hk.2) (.string t276)) (fun _ hk => ⟨hk.1.1.1.2, ⟨hk.1.1.2, hk.1.2⟩⟩)⟩, ⟨by (with_reducible repeat (first | refine blk_drewN ?_ _ | refine blk_drew ?_ | refine blk_alloc ?_ _)); refine blk_far ?_ NB268_278.out _; (with_reducible repeat (first | refine blk_drewN ?_ _ | refine blk_drew ?_ | refine blk_alloc ?_ _)); refine blk_far ?_ NB268_278.out _; (with_reducible repeat (first | refine blk_drewN ?_ _ | refine blk_drew ?_ | refine blk_alloc ?_ _)); refine blk_far ?_ NB268_278.out _; (with_reducible repeat (first | refine blk_drewN ?_ _ | refine blk_drew ?_ | refine blk_alloc ?_ _)); exact BK268.out⟩, ⟨by (with_reducible repeat (first | refine blk_drewN ?_ _ | refine blk_drew ?_ | refine blk_alloc ?_ _)); refine blk_far ?_ NB273_278.out _; (with_reducible repeat (first | refine blk_drewN ?_ _ | refine blk_drew ?_ | refine blk_alloc ?_ _)); refine blk_far ?_ NB273_278.out _; (with_reducible repeat (first | refine blk_drewN ?_ _ | refine blk_drew ?_ | refine blk_alloc ?_ _)); refine blk_far ?_ NB273_278.out _; (with_reducible repeat (first | refine blk_drewN ?_ _ | refine blk_drew ?_ | refine blk_alloc ?_ _)); exact BK273.out⟩, ⟨by (with_reducible repeat (first | refine blk_drewN ?_ _ | refine blk_drew ?_ | refine blk_alloc ?_ _)); refine blk_put (cs := #[.int .i64 t274, .int .i64 t275, .string (⟨#[]⟩ : ByteArray)]) ?_ 2 _ rfl; (with_reducible repeat (first | refine blk_drewN ?_ _ | refine blk_drew ?_ | refine blk_alloc ?_ _)); refine blk_put (cs := #[.int .i64 t274, .int .i64 0, .string (⟨#[]⟩ : ByteArray)]) ?_ 1 _ rfl; (with_reducible repeat (first | refine blk_drewN ?_ _ | refine blk_drew ?_ | refine blk_alloc ?_ _)); refine blk_put (cs := #[.int .i64 0, .int .i64 0, .string (⟨#[]⟩ : ByteArray)]) ?_ 0 _ rfl; (with_reducible repeat (first | refine blk_drewN ?_ _ | refine blk_drew ?_ | refine blk_alloc ?_ _)); exact BK278.out⟩, ⟨by repeat (first | (with_reducible first | exact HB.out | apply below_alloc | apply pw_below_drewN | apply below_drew1 | refine below_set ?_ GE268.out | refine below_set ?_ GE273.out | refine below_set ?_ GE278.out) | exact HB.out)⟩⟩
        case round =>
         clear H'
         try clear c1
         try clear c2
         try clear p2
         try clear c3
         try clear c4
         try clear c6
         try clear p6
         try clear c8
         try clear c10
         try clear c13
         try clear c14
         try clear c15
         try clear c16
         try clear c19
         try clear c19b0
         try clear c19b1
         try clear c29
         try clear c34
         try clear c35
         try clear hcz26_0
         try clear hcz26_1
         try clear hcz26_2
         try clear hcz30_0
         try clear hcz30_1
         try clear hcz30_2
         try clear hcz36_0
         try clear hcz36_1
         try clear hcz36_2
         try clear hcz37_0
         try clear hcz37_1
         try clear hcz37_2
         try clear hcz38_0
         try clear hcz38_1
         try clear hcz38_2
         try clear hfz26_0
         try clear hfz26_1
         try clear hfz26_2
         try clear hfz30_0
         try clear hfz30_1
         try clear hfz30_2
         try clear hfz36_0
         try clear hfz36_1
         try clear hfz36_2
         try clear hfz37_0
         try clear hfz37_1
         try clear hfz37_2
         try clear hfz38_0
         try clear hfz38_1
         try clear hfz38_2
         try clear p2
         obtain ⟨x12_2, rfl, HA, HK2, HO_5, BK268, BK273, BK278, HB⟩ := hrel
         cases gk with
         | zero => exact absurd HA.out (by simp [quarrylaw17_AggParts.l0])
         | succ k2 =>
          have H := HA.out
          clear HA
          simp only [quarrylaw17_AggParts.l0] at H
          by_cases c39 : x12_2 ≤ 4
          ·rw [if_pos c39] at H
           have c39b0 : decide (x12_2 ≤ 4) = true := decide_eq_true c39
           clear c39
           replace H := Option.bind_eq_some_iff.mp H
           obtain ⟨⟨t279, t280, t281, t282⟩, A400, H⟩ := H
           replace H : ((quarrylaw17_gathered.f x12_2 l1).bind fun bt284 => ((quarrylaw17_gathered.f x12_2 y261).bind fun bt289 => ((quarryref01_Compare.f k2 t279 t280 t281 bt284.1 bt284.2.1 bt284.2.2.1).bind fun t295 => (if t279 = 0 then (quarrylaw17_AggParts.j2 k2 l0 l1 y261 x12_2 true bt284.1 bt284.2.1 bt284.2.2.1 bt289.1 bt289.2.1 bt289.2.2.1 t279 t280 t281) else (if bt284.1 = 0 then (quarrylaw17_AggParts.j2 k2 l0 l1 y261 x12_2 false bt284.1 bt284.2.1 bt284.2.2.1 bt289.1 bt289.2.1 bt289.2.2.1 t279 t280 t281) else (if x12_2 = 3 then (if t295 > 0 then (quarrylaw17_AggParts.j2 k2 l0 l1 y261 x12_2 true bt284.1 bt284.2.1 bt284.2.2.1 bt289.1 bt289.2.1 bt289.2.2.1 t279 t280 t281) else (if x12_2 = 4 then (quarrylaw17_AggParts.j2 k2 l0 l1 y261 x12_2 (decide (t295 < 0)) bt284.1 bt284.2.1 bt284.2.2.1 bt289.1 bt289.2.1 bt289.2.2.1 t279 t280 t281) else (quarrylaw17_AggParts.j2 k2 l0 l1 y261 x12_2 false bt284.1 bt284.2.1 bt284.2.2.1 bt289.1 bt289.2.1 bt289.2.2.1 t279 t280 t281))) else (if x12_2 = 4 then (quarrylaw17_AggParts.j2 k2 l0 l1 y261 x12_2 (decide (t295 < 0)) bt284.1 bt284.2.1 bt284.2.2.1 bt289.1 bt289.2.1 bt289.2.2.1 t279 t280 t281) else (quarrylaw17_AggParts.j2 k2 l0 l1 y261 x12_2 false bt284.1 bt284.2.1 bt284.2.2.1 bt289.1 bt289.2.1 bt289.2.2.1 t279 t280 t281)))))))) = some r := H
           have A40 := Aside0.mk A400
           clear A400
           replace H := Option.bind_eq_some_iff.mp H
           obtain ⟨⟨t284, t285, t286, t287⟩, A410, H⟩ := H
           replace H : ((quarrylaw17_gathered.f x12_2 y261).bind fun bt289 => ((quarryref01_Compare.f k2 t279 t280 t281 t284 t285 t286).bind fun t295 => (if t279 = 0 then (quarrylaw17_AggParts.j2 k2 l0 l1 y261 x12_2 true t284 t285 t286 bt289.1 bt289.2.1 bt289.2.2.1 t279 t280 t281) else (if t284 = 0 then (quarrylaw17_AggParts.j2 k2 l0 l1 y261 x12_2 false t284 t285 t286 bt289.1 bt289.2.1 bt289.2.2.1 t279 t280 t281) else (if x12_2 = 3 then (if t295 > 0 then (quarrylaw17_AggParts.j2 k2 l0 l1 y261 x12_2 true t284 t285 t286 bt289.1 bt289.2.1 bt289.2.2.1 t279 t280 t281) else (if x12_2 = 4 then (quarrylaw17_AggParts.j2 k2 l0 l1 y261 x12_2 (decide (t295 < 0)) t284 t285 t286 bt289.1 bt289.2.1 bt289.2.2.1 t279 t280 t281) else (quarrylaw17_AggParts.j2 k2 l0 l1 y261 x12_2 false t284 t285 t286 bt289.1 bt289.2.1 bt289.2.2.1 t279 t280 t281))) else (if x12_2 = 4 then (quarrylaw17_AggParts.j2 k2 l0 l1 y261 x12_2 (decide (t295 < 0)) t284 t285 t286 bt289.1 bt289.2.1 bt289.2.2.1 t279 t280 t281) else (quarrylaw17_AggParts.j2 k2 l0 l1 y261 x12_2 false t284 t285 t286 bt289.1 bt289.2.1 bt289.2.2.1 t279 t280 t281))))))) = some r := H
           have A41 := Aside0.mk A410
           clear A410
           replace H := Option.bind_eq_some_iff.mp H
           obtain ⟨⟨t289, t290, t291, t292⟩, A420, H⟩ := H
           replace H : ((quarryref01_Compare.f k2 t279 t280 t281 t284 t285 t286).bind fun t295 => (if t279 = 0 then (quarrylaw17_AggParts.j2 k2 l0 l1 y261 x12_2 true t284 t285 t286 t289 t290 t291 t279 t280 t281) else (if t284 = 0 then (quarrylaw17_AggParts.j2 k2 l0 l1 y261 x12_2 false t284 t285 t286 t289 t290 t291 t279 t280 t281) else (if x12_2 = 3 then (if t295 > 0 then (quarrylaw17_AggParts.j2 k2 l0 l1 y261 x12_2 true t284 t285 t286 t289 t290 t291 t279 t280 t281) else (if x12_2 = 4 then (quarrylaw17_AggParts.j2 k2 l0 l1 y261 x12_2 (decide (t295 < 0)) t284 t285 t286 t289 t290 t291 t279 t280 t281) else (quarrylaw17_AggParts.j2 k2 l0 l1 y261 x12_2 false t284 t285 t286 t289 t290 t291 t279 t280 t281))) else (if x12_2 = 4 then (quarrylaw17_AggParts.j2 k2 l0 l1 y261 x12_2 (decide (t295 < 0)) t284 t285 t286 t289 t290 t291 t279 t280 t281) else (quarrylaw17_AggParts.j2 k2 l0 l1 y261 x12_2 false t284 t285 t286 t289 t290 t291 t279 t280 t281)))))) = some r := H
           have A42 := Aside0.mk A420
           clear A420
           replace H := Option.bind_eq_some_iff.mp H
           obtain ⟨t295, A430, H⟩ := H
           replace H : (if t279 = 0 then (quarrylaw17_AggParts.j2 k2 l0 l1 y261 x12_2 true t284 t285 t286 t289 t290 t291 t279 t280 t281) else (if t284 = 0 then (quarrylaw17_AggParts.j2 k2 l0 l1 y261 x12_2 false t284 t285 t286 t289 t290 t291 t279 t280 t281) else (if x12_2 = 3 then (if t295 > 0 then (quarrylaw17_AggParts.j2 k2 l0 l1 y261 x12_2 true t284 t285 t286 t289 t290 t291 t279 t280 t281) else (if x12_2 = 4 then (quarrylaw17_AggParts.j2 k2 l0 l1 y261 x12_2 (decide (t295 < 0)) t284 t285 t286 t289 t290 t291 t279 t280 t281) else (quarrylaw17_AggParts.j2 k2 l0 l1 y261 x12_2 false t284 t285 t286 t289 t290 t291 t279 t280 t281))) else (if x12_2 = 4 then (quarrylaw17_AggParts.j2 k2 l0 l1 y261 x12_2 (decide (t295 < 0)) t284 t285 t286 t289 t290 t291 t279 t280 t281) else (quarrylaw17_AggParts.j2 k2 l0 l1 y261 x12_2 false t284 t285 t286 t289 t290 t291 t279 t280 t281))))) = some r := H
           have A43 := Aside0.mk A430
           clear A430
           have HC44 := Aside0.mk H
           clear H
           go_upto_region 19 with (first | ((with_reducible refine gate_callee (f := 16) rfl ?_); refine goesL_ (some 66) rfl rfl Try.func16 (by kernel_rfl) rfl #[.int .i64 x12_2, .slice A0 l0.length c0] rfl (by (try simp only [List.map_toArray, List.map_cons, List.map_nil]); first | done | rfl | (simp only [List.length_drop, List.length_take]; rfl)) ?_; (with_reducible refine (quarrylaw17_gathered.print x12_2 _ _ l0 t279 t280 t281 t282 _ ?side1 ?side2 A40.out).mono ?_); (case side1 => repeat (first | exact (Kd.C_below HR0.out HB.out) | (with_reducible refine Kd.C_alloc ?_ _) | (with_reducible refine Kd.C_drewN ?_ _) | (with_reducible refine Kd.C_drew ?_))); (case side2 => exact HC0.out); rintro e w45 ⟨rfl, hb⟩; refine ⟨_, rfl, ?_⟩; have n0_ := Aside0.mk (Kd.R_below (by (with_reducible repeat (first | apply Kd.R_alloc | apply Kd.R_drewN | apply Kd.R_drew)); exact HO_5.out) hb); have n1_ := Aside0.mk (blk_below (g := gb268) (o := .cells #[.int .i64 t264, .int .i64 t265, .string t266] 32 (0, 0)) (bk_ BK268) hb); have n2_ := Aside0.mk (blk_below (g := gb273) (o := .cells #[.int .i64 t269, .int .i64 t270, .string t271] 32 (0, 0)) (bk_ BK273) hb); have n3_ := Aside0.mk (blk_below (g := gb278) (o := .cells #[.int .i64 t274, .int .i64 t275, .string t276] 32 (0, 0)) (bk_ BK278) hb); have n4_ := Aside0.mk (below_step (by repeat (first | (with_reducible first | exact HB.out | apply below_alloc | apply pw_below_drewN | apply below_drew1 | refine below_set ?_ GE268.out | refine below_set ?_ GE273.out | refine below_set ?_ GE278.out) | exact HB.out)) hb); clear HO_5; clear BK268; clear BK273; clear BK278; clear HB; have HO_5 := n0_; have BK268 := n1_; have BK273 := n2_; have BK278 := n3_; have HB := n4_; clear n0_ n1_ n2_ n3_ n4_; (try clear hb); (try clear hb2); (try clear hk); (try clear hi)) | ((with_reducible refine gate_dst (N := 13) rfl ?_); refine box_event ?hg (N := 13) ?hd (cs := #[.int .i64 0, .int .i64 0, .string (⟨#[]⟩ : ByteArray)]) (t := 32) ?hr ?_; (case hd => rfl); (case hg => rfl); (case hr => first | (go_simp; done) | (go_simp; rfl)); intro gb283 hg w46 hbox hb; have n0_ := Aside0.mk (Kd.R_below (Kd.R_elderB (by (with_reducible repeat (first | apply Kd.R_alloc | apply Kd.R_drewN | apply Kd.R_drew)); exact HO_5.out) gb283 (Nat.le_of_eq hg.symm)) hb); have n1_ := Aside0.mk (blk_below (g := gb268) (o := .cells #[.int .i64 t264, .int .i64 t265, .string t266] 32 (0, 0)) (bk_ BK268) hb); have n2_ := Aside0.mk (blk_below (g := gb273) (o := .cells #[.int .i64 t269, .int .i64 t270, .string t271] 32 (0, 0)) (bk_ BK273) hb); have n3_ := Aside0.mk (blk_below (g := gb278) (o := .cells #[.int .i64 t274, .int .i64 t275, .string t276] 32 (0, 0)) (bk_ BK278) hb); have n4_ := Aside0.mk (below_step (by repeat (first | (with_reducible first | exact HB.out | apply below_alloc | apply pw_below_drewN | apply below_drew1 | refine below_set ?_ GE268.out | refine below_set ?_ GE273.out | refine below_set ?_ GE278.out) | exact HB.out)) hb); have n5_ := Aside0.mk (hbox); have n6_ := Aside0.mk ((by rw [hg]; exact (below_size (by repeat (first | (with_reducible first | exact HB.out | apply below_alloc | apply pw_below_drewN | apply below_drew1 | refine below_set ?_ GE268.out | refine below_set ?_ GE273.out | refine below_set ?_ GE278.out) | exact HB.out))) : w.heap.size ≤ gb283)); have n7_ := Aside0.mk ((by rw [hg]; exact (below_size (by repeat (first | (with_reducible first | exact HB.out | apply below_alloc | apply pw_below_drewN | apply below_drew1 | refine below_set ?_ GE268.out | refine below_set ?_ GE273.out | refine below_set ?_ GE278.out) | exact HB.out))) : w.heap.size ≤ gb283)); have n8_ := Aside0.mk ((by rw [hg]; exact Nat.ne_of_lt (blk_lt (g := gb268) (o := .cells #[.int .i64 t264, .int .i64 t265, .string t266] 32 (0, 0)) (bk_ BK268)) : gb268 ≠ gb283)); have n9_ := Aside0.mk ((by rw [hg]; exact Nat.ne_of_gt (blk_lt (g := gb268) (o := .cells #[.int .i64 t264, .int .i64 t265, .string t266] 32 (0, 0)) (bk_ BK268)) : gb283 ≠ gb268)); have n10_ := Aside0.mk ((by rw [hg]; exact Nat.ne_of_lt (blk_lt (g := gb273) (o := .cells #[.int .i64 t269, .int .i64 t270, .string t271] 32 (0, 0)) (bk_ BK273)) : gb273 ≠ gb283)); have n11_ := Aside0.mk ((by rw [hg]; exact Nat.ne_of_gt (blk_lt (g := gb273) (o := .cells #[.int .i64 t269, .int .i64 t270, .string t271] 32 (0, 0)) (bk_ BK273)) : gb283 ≠ gb273)); have n12_ := Aside0.mk ((by rw [hg]; exact Nat.ne_of_lt (blk_lt (g := gb278) (o := .cells #[.int .i64 t274, .int .i64 t275, .string t276] 32 (0, 0)) (bk_ BK278)) : gb278 ≠ gb283)); have n13_ := Aside0.mk ((by rw [hg]; exact Nat.ne_of_gt (blk_lt (g := gb278) (o := .cells #[.int .i64 t274, .int .i64 t275, .string t276] 32 (0, 0)) (bk_ BK278)) : gb283 ≠ gb278)); clear HO_5; clear BK268; clear BK273; clear BK278; clear HB; have HO_5 := n0_; have BK268 := n1_; have BK273 := n2_; have BK278 := n3_; have HB := n4_; have BK283 := n5_; have GW283 := n6_; have GE283 := n7_; have NB268_283 := n8_; have NB283_268 := n9_; have NB273_283 := n10_; have NB283_273 := n11_; have NB278_283 := n12_; have NB283_278 := n13_; clear n0_ n1_ n2_ n3_ n4_ n5_ n6_ n7_ n8_ n9_ n10_ n11_ n12_ n13_; clear hb hbox hg; have hnb47 := NB283_268.out; have hnc47 := NB268_283.out; have hnb48 := NB283_273.out; have hnc48 := NB273_283.out; have hnb49 := NB283_278.out; have hnc49 := NB278_283.out; have hcz50_0 : w46.cell? ⟨gb283, 0, none⟩ = some (.int .i64 0) := (blk_cell BK283.out 0).trans rfl; have hcz50_1 : w46.cell? ⟨gb283, 1, none⟩ = some (.int .i64 0) := (blk_cell BK283.out 1).trans rfl; have hcz50_2 : w46.cell? ⟨gb283, 2, none⟩ = some (.string (⟨#[]⟩ : ByteArray)) := (blk_cell BK283.out 2).trans rfl; have hfz50_0 := blk_frozen BK283.out 0; have hfz50_1 := blk_frozen BK283.out 1; have hfz50_2 := blk_frozen BK283.out 2) | ((with_reducible refine gate_callee (f := 16) rfl ?_); refine goesL_ (some 72) rfl rfl Try.func16 (by kernel_rfl) rfl #[.int .i64 x12_2, .slice A1 l1.length c1] rfl (by (try simp only [List.map_toArray, List.map_cons, List.map_nil]); first | done | rfl | (simp only [List.length_drop, List.length_take]; rfl)) ?_; (with_reducible refine (quarrylaw17_gathered.print x12_2 _ _ l1 t284 t285 t286 t287 _ ?side1 ?side2 A41.out).mono ?_); (case side1 => exact Kd.C_below HR1.out (by repeat (first | (with_reducible first | exact HB.out | apply below_alloc | apply pw_below_drewN | apply below_drew1 | refine below_set ?_ GE268.out | refine below_set ?_ GE273.out | refine below_set ?_ GE278.out | refine below_set ?_ GE283.out) | exact HB.out))); (case side2 => exact HC1.out); rintro e w51 ⟨rfl, hb⟩; refine ⟨_, rfl, ?_⟩; have n0_ := Aside0.mk (Kd.R_below (by (with_reducible repeat (first | apply Kd.R_alloc | apply Kd.R_drewN | apply Kd.R_drew)); exact (Kd.R_mono (Kd.R_far (p := ⟨gb283, 2, none⟩) (Kd.R_far (p := ⟨gb283, 1, none⟩) (Kd.R_far (p := ⟨gb283, 0, none⟩) (Kd.R_mono HO_5.out (fun k_ hk => (⟨hk, hk.2⟩ : _ ∧ k_ ≠ gb283))) (fun _ hk => hk.2) (.int .i64 t279)) (fun _ hk => hk.2) (.int .i64 t280)) (fun _ hk => hk.2) (.string t281)) (fun _ h_ => h_.1))) hb); have n1_ := Aside0.mk (blk_below (g := gb268) (o := .cells #[.int .i64 t264, .int .i64 t265, .string t266] 32 (0, 0)) (by (with_reducible repeat (first | refine blk_drewN ?_ _ | refine blk_drew ?_ | refine blk_alloc ?_ _)); refine blk_far ?_ NB268_283.out _; (with_reducible repeat (first | refine blk_drewN ?_ _ | refine blk_drew ?_ | refine blk_alloc ?_ _)); refine blk_far ?_ NB268_283.out _; (with_reducible repeat (first | refine blk_drewN ?_ _ | refine blk_drew ?_ | refine blk_alloc ?_ _)); refine blk_far ?_ NB268_283.out _; (with_reducible repeat (first | refine blk_drewN ?_ _ | refine blk_drew ?_ | refine blk_alloc ?_ _)); exact BK268.out) hb); have n2_ := Aside0.mk (blk_below (g := gb273) (o := .cells #[.int .i64 t269, .int .i64 t270, .string t271] 32 (0, 0)) (by (with_reducible repeat (first | refine blk_drewN ?_ _ | refine blk_drew ?_ | refine blk_alloc ?_ _)); refine blk_far ?_ NB273_283.out _; (with_reducible repeat (first | refine blk_drewN ?_ _ | refine blk_drew ?_ | refine blk_alloc ?_ _)); refine blk_far ?_ NB273_283.out _; (with_reducible repeat (first | refine blk_drewN ?_ _ | refine blk_drew ?_ | refine blk_alloc ?_ _)); refine blk_far ?_ NB273_283.out _; (with_reducible repeat (first | refine blk_drewN ?_ _ | refine blk_drew ?_ | refine blk_alloc ?_ _)); exact BK273.out) hb); have n3_ := Aside0.mk (blk_below (g := gb278) (o := .cells #[.int .i64 t274, .int .i64 t275, .string t276] 32 (0, 0)) (by (with_reducible repeat (first | refine blk_drewN ?_ _ | refine blk_drew ?_ | refine blk_alloc ?_ _)); refine blk_far ?_ NB278_283.out _; (with_reducible repeat (first | refine blk_drewN ?_ _ | refine blk_drew ?_ | refine blk_alloc ?_ _)); refine blk_far ?_ NB278_283.out _; (with_reducible repeat (first | refine blk_drewN ?_ _ | refine blk_drew ?_ | refine blk_alloc ?_ _)); refine blk_far ?_ NB278_283.out _; (with_reducible repeat (first | refine blk_drewN ?_ _ | refine blk_drew ?_ | refine blk_alloc ?_ _)); exact BK278.out) hb); have n4_ := Aside0.mk (blk_below (g := gb283) (o := .cells #[.int .i64 t279, .int .i64 t280, .string t281] 32 (0, 0)) (by (with_reducible repeat (first | refine blk_drewN ?_ _ | refine blk_drew ?_ | refine blk_alloc ?_ _)); refine blk_put (cs := #[.int .i64 t279, .int .i64 t280, .string (⟨#[]⟩ : ByteArray)]) ?_ 2 _ rfl; (with_reducible repeat (first | refine blk_drewN ?_ _ | refine blk_drew ?_ | refine blk_alloc ?_ _)); refine blk_put (cs := #[.int .i64 t279, .int .i64 0, .string (⟨#[]⟩ : ByteArray)]) ?_ 1 _ rfl; (with_reducible repeat (first | refine blk_drewN ?_ _ | refine blk_drew ?_ | refine blk_alloc ?_ _)); refine blk_put (cs := #[.int .i64 0, .int .i64 0, .string (⟨#[]⟩ : ByteArray)]) ?_ 0 _ rfl; (with_reducible repeat (first | refine blk_drewN ?_ _ | refine blk_drew ?_ | refine blk_alloc ?_ _)); exact BK283.out) hb); have n5_ := Aside0.mk (below_step (by repeat (first | (with_reducible first | exact HB.out | apply below_alloc | apply pw_below_drewN | apply below_drew1 | refine below_set ?_ GE268.out | refine below_set ?_ GE273.out | refine below_set ?_ GE278.out | refine below_set ?_ GE283.out) | exact HB.out)) hb); clear HO_5; clear BK268; clear BK273; clear BK278; clear BK283; clear HB; have HO_5 := n0_; have BK268 := n1_; have BK273 := n2_; have BK278 := n3_; have BK283 := n4_; have HB := n5_; clear n0_ n1_ n2_ n3_ n4_ n5_; (try clear hb); (try clear hb2); (try clear hk); (try clear hi)) | ((with_reducible refine gate_dst (N := 15) rfl ?_); refine box_event ?hg (N := 15) ?hd (cs := #[.int .i64 0, .int .i64 0, .string (⟨#[]⟩ : ByteArray)]) (t := 32) ?hr ?_; (case hd => rfl); (case hg => rfl); (case hr => first | (go_simp; done) | (go_simp; rfl)); intro gb288 hg w52 hbox hb; have n0_ := Aside0.mk (Kd.R_below (Kd.R_elderB (by (with_reducible repeat (first | apply Kd.R_alloc | apply Kd.R_drewN | apply Kd.R_drew)); exact HO_5.out) gb288 (Nat.le_of_eq hg.symm)) hb); have n1_ := Aside0.mk (blk_below (g := gb268) (o := .cells #[.int .i64 t264, .int .i64 t265, .string t266] 32 (0, 0)) (bk_ BK268) hb); have n2_ := Aside0.mk (blk_below (g := gb273) (o := .cells #[.int .i64 t269, .int .i64 t270, .string t271] 32 (0, 0)) (bk_ BK273) hb); have n3_ := Aside0.mk (blk_below (g := gb278) (o := .cells #[.int .i64 t274, .int .i64 t275, .string t276] 32 (0, 0)) (bk_ BK278) hb); have n4_ := Aside0.mk (blk_below (g := gb283) (o := .cells #[.int .i64 t279, .int .i64 t280, .string t281] 32 (0, 0)) (bk_ BK283) hb); have n5_ := Aside0.mk (below_step (by repeat (first | (with_reducible first | exact HB.out | apply below_alloc | apply pw_below_drewN | apply below_drew1 | refine below_set ?_ GE268.out | refine below_set ?_ GE273.out | refine below_set ?_ GE278.out | refine below_set ?_ GE283.out) | exact HB.out)) hb); have n6_ := Aside0.mk (hbox); have n7_ := Aside0.mk ((by rw [hg]; exact (below_size (by repeat (first | (with_reducible first | exact HB.out | apply below_alloc | apply pw_below_drewN | apply below_drew1 | refine below_set ?_ GE268.out | refine below_set ?_ GE273.out | refine below_set ?_ GE278.out | refine below_set ?_ GE283.out) | exact HB.out))) : w.heap.size ≤ gb288)); have n8_ := Aside0.mk ((by rw [hg]; exact (below_size (by repeat (first | (with_reducible first | exact HB.out | apply below_alloc | apply pw_below_drewN | apply below_drew1 | refine below_set ?_ GE268.out | refine below_set ?_ GE273.out | refine below_set ?_ GE278.out | refine below_set ?_ GE283.out) | exact HB.out))) : w.heap.size ≤ gb288)); have n9_ := Aside0.mk ((by rw [hg]; exact Nat.ne_of_lt (blk_lt (g := gb268) (o := .cells #[.int .i64 t264, .int .i64 t265, .string t266] 32 (0, 0)) (bk_ BK268)) : gb268 ≠ gb288)); have n10_ := Aside0.mk ((by rw [hg]; exact Nat.ne_of_gt (blk_lt (g := gb268) (o := .cells #[.int .i64 t264, .int .i64 t265, .string t266] 32 (0, 0)) (bk_ BK268)) : gb288 ≠ gb268)); have n11_ := Aside0.mk ((by rw [hg]; exact Nat.ne_of_lt (blk_lt (g := gb273) (o := .cells #[.int .i64 t269, .int .i64 t270, .string t271] 32 (0, 0)) (bk_ BK273)) : gb273 ≠ gb288)); have n12_ := Aside0.mk ((by rw [hg]; exact Nat.ne_of_gt (blk_lt (g := gb273) (o := .cells #[.int .i64 t269, .int .i64 t270, .string t271] 32 (0, 0)) (bk_ BK273)) : gb288 ≠ gb273)); have n13_ := Aside0.mk ((by rw [hg]; exact Nat.ne_of_lt (blk_lt (g := gb278) (o := .cells #[.int .i64 t274, .int .i64 t275, .string t276] 32 (0, 0)) (bk_ BK278)) : gb278 ≠ gb288)); have n14_ := Aside0.mk ((by rw [hg]; exact Nat.ne_of_gt (blk_lt (g := gb278) (o := .cells #[.int .i64 t274, .int .i64 t275, .string t276] 32 (0, 0)) (bk_ BK278)) : gb288 ≠ gb278)); have n15_ := Aside0.mk ((by rw [hg]; exact Nat.ne_of_lt (blk_lt (g := gb283) (o := .cells #[.int .i64 t279, .int .i64 t280, .string t281] 32 (0, 0)) (bk_ BK283)) : gb283 ≠ gb288)); have n16_ := Aside0.mk ((by rw [hg]; exact Nat.ne_of_gt (blk_lt (g := gb283) (o := .cells #[.int .i64 t279, .int .i64 t280, .string t281] 32 (0, 0)) (bk_ BK283)) : gb288 ≠ gb283)); clear HO_5; clear BK268; clear BK273; clear BK278; clear BK283; clear HB; have HO_5 := n0_; have BK268 := n1_; have BK273 := n2_; have BK278 := n3_; have BK283 := n4_; have HB := n5_; have BK288 := n6_; have GW288 := n7_; have GE288 := n8_; have NB268_288 := n9_; have NB288_268 := n10_; have NB273_288 := n11_; have NB288_273 := n12_; have NB278_288 := n13_; have NB288_278 := n14_; have NB283_288 := n15_; have NB288_283 := n16_; clear n0_ n1_ n2_ n3_ n4_ n5_ n6_ n7_ n8_ n9_ n10_ n11_ n12_ n13_ n14_ n15_ n16_; clear hb hbox hg; have hnb53 := NB288_268.out; have hnc53 := NB268_288.out; have hnb54 := NB288_273.out; have hnc54 := NB273_288.out; have hnb55 := NB288_278.out; have hnc55 := NB278_288.out; have hnb56 := NB288_283.out; have hnc56 := NB283_288.out; have hcz57_0 : w52.cell? ⟨gb288, 0, none⟩ = some (.int .i64 0) := (blk_cell BK288.out 0).trans rfl; have hcz57_1 : w52.cell? ⟨gb288, 1, none⟩ = some (.int .i64 0) := (blk_cell BK288.out 1).trans rfl; have hcz57_2 : w52.cell? ⟨gb288, 2, none⟩ = some (.string (⟨#[]⟩ : ByteArray)) := (blk_cell BK288.out 2).trans rfl; have hfz57_0 := blk_frozen BK288.out 0; have hfz57_1 := blk_frozen BK288.out 1; have hfz57_2 := blk_frozen BK288.out 2) | ((with_reducible refine gate_callee (f := 16) rfl ?_); refine goesL_ (some 78) rfl rfl Try.func16 (by kernel_rfl) rfl #[.int .i64 x12_2, .slice Ao31 y261.length co31] rfl (by (try simp only [List.map_toArray, List.map_cons, List.map_nil]); first | done | rfl | (simp only [List.length_drop, List.length_take]; rfl)) ?_; (with_reducible refine (quarrylaw17_gathered.print x12_2 _ _ y261 t289 t290 t291 t292 _ ?side1 ?side2 A42.out).mono ?_); (case side1 => refine (Kd.R_reads' (e := 32) (base := w.heap.size) (ok := fun k_ => (((k_ ≠ gb268 ∧ (k_ ≠ gb273 ∧ k_ ≠ gb278)) ∧ k_ ≠ gb283) ∧ k_ ≠ gb288)) (n := y261.length) (c := co31) ?_).2.2; exact (by (with_reducible repeat (first | apply Kd.R_alloc | apply Kd.R_drewN | apply Kd.R_drew)); exact (Kd.R_mono (Kd.R_far (p := ⟨gb288, 2, none⟩) (Kd.R_far (p := ⟨gb288, 1, none⟩) (Kd.R_far (p := ⟨gb288, 0, none⟩) (Kd.R_mono HO_5.out (fun k_ hk => (⟨hk, hk.2⟩ : _ ∧ k_ ≠ gb288))) (fun _ hk => hk.2) (.int .i64 t284)) (fun _ hk => hk.2) (.int .i64 t285)) (fun _ hk => hk.2) (.string t286)) (fun _ h_ => h_.1)))); (case side2 => exact (Kd.R_reads' HO_5.out).2.1); rintro e w58 ⟨rfl, hb⟩; refine ⟨_, rfl, ?_⟩; have n0_ := Aside0.mk (Kd.R_below (by (with_reducible repeat (first | apply Kd.R_alloc | apply Kd.R_drewN | apply Kd.R_drew)); exact (Kd.R_mono (Kd.R_far (p := ⟨gb288, 2, none⟩) (Kd.R_far (p := ⟨gb288, 1, none⟩) (Kd.R_far (p := ⟨gb288, 0, none⟩) (Kd.R_mono HO_5.out (fun k_ hk => (⟨hk, hk.2⟩ : _ ∧ k_ ≠ gb288))) (fun _ hk => hk.2) (.int .i64 t284)) (fun _ hk => hk.2) (.int .i64 t285)) (fun _ hk => hk.2) (.string t286)) (fun _ h_ => h_.1))) hb); have n1_ := Aside0.mk (blk_below (g := gb268) (o := .cells #[.int .i64 t264, .int .i64 t265, .string t266] 32 (0, 0)) (by (with_reducible repeat (first | refine blk_drewN ?_ _ | refine blk_drew ?_ | refine blk_alloc ?_ _)); refine blk_far ?_ NB268_288.out _; (with_reducible repeat (first | refine blk_drewN ?_ _ | refine blk_drew ?_ | refine blk_alloc ?_ _)); refine blk_far ?_ NB268_288.out _; (with_reducible repeat (first | refine blk_drewN ?_ _ | refine blk_drew ?_ | refine blk_alloc ?_ _)); refine blk_far ?_ NB268_288.out _; (with_reducible repeat (first | refine blk_drewN ?_ _ | refine blk_drew ?_ | refine blk_alloc ?_ _)); exact BK268.out) hb); have n2_ := Aside0.mk (blk_below (g := gb273) (o := .cells #[.int .i64 t269, .int .i64 t270, .string t271] 32 (0, 0)) (by (with_reducible repeat (first | refine blk_drewN ?_ _ | refine blk_drew ?_ | refine blk_alloc ?_ _)); refine blk_far ?_ NB273_288.out _; (with_reducible repeat (first | refine blk_drewN ?_ _ | refine blk_drew ?_ | refine blk_alloc ?_ _)); refine blk_far ?_ NB273_288.out _; (with_reducible repeat (first | refine blk_drewN ?_ _ | refine blk_drew ?_ | refine blk_alloc ?_ _)); refine blk_far ?_ NB273_288.out _; (with_reducible repeat (first | refine blk_drewN ?_ _ | refine blk_drew ?_ | refine blk_alloc ?_ _)); exact BK273.out) hb); have n3_ := Aside0.mk (blk_below (g := gb278) (o := .cells #[.int .i64 t274, .int .i64 t275, .string t276] 32 (0, 0)) (by (with_reducible repeat (first | refine blk_drewN ?_ _ | refine blk_drew ?_ | refine blk_alloc ?_ _)); refine blk_far ?_ NB278_288.out _; (with_reducible repeat (first | refine blk_drewN ?_ _ | refine blk_drew ?_ | refine blk_alloc ?_ _)); refine blk_far ?_ NB278_288.out _; (with_reducible repeat (first | refine blk_drewN ?_ _ | refine blk_drew ?_ | refine blk_alloc ?_ _)); refine blk_far ?_ NB278_288.out _; (with_reducible repeat (first | refine blk_drewN ?_ _ | refine blk_drew ?_ | refine blk_alloc ?_ _)); exact BK278.out) hb); have n4_ := Aside0.mk (blk_below (g := gb283) (o := .cells #[.int .i64 t279, .int .i64 t280, .string t281] 32 (0, 0)) (by (with_reducible repeat (first | refine blk_drewN ?_ _ | refine blk_drew ?_ | refine blk_alloc ?_ _)); refine blk_far ?_ NB283_288.out _; (with_reducible repeat (first | refine blk_drewN ?_ _ | refine blk_drew ?_ | refine blk_alloc ?_ _)); refine blk_far ?_ NB283_288.out _; (with_reducible repeat (first | refine blk_drewN ?_ _ | refine blk_drew ?_ | refine blk_alloc ?_ _)); refine blk_far ?_ NB283_288.out _; (with_reducible repeat (first | refine blk_drewN ?_ _ | refine blk_drew ?_ | refine blk_alloc ?_ _)); exact BK283.out) hb); have n5_ := Aside0.mk (blk_below (g := gb288) (o := .cells #[.int .i64 t284, .int .i64 t285, .string t286] 32 (0, 0)) (by (with_reducible repeat (first | refine blk_drewN ?_ _ | refine blk_drew ?_ | refine blk_alloc ?_ _)); refine blk_put (cs := #[.int .i64 t284, .int .i64 t285, .string (⟨#[]⟩ : ByteArray)]) ?_ 2 _ rfl; (with_reducible repeat (first | refine blk_drewN ?_ _ | refine blk_drew ?_ | refine blk_alloc ?_ _)); refine blk_put (cs := #[.int .i64 t284, .int .i64 0, .string (⟨#[]⟩ : ByteArray)]) ?_ 1 _ rfl; (with_reducible repeat (first | refine blk_drewN ?_ _ | refine blk_drew ?_ | refine blk_alloc ?_ _)); refine blk_put (cs := #[.int .i64 0, .int .i64 0, .string (⟨#[]⟩ : ByteArray)]) ?_ 0 _ rfl; (with_reducible repeat (first | refine blk_drewN ?_ _ | refine blk_drew ?_ | refine blk_alloc ?_ _)); exact BK288.out) hb); have n6_ := Aside0.mk (below_step (by repeat (first | (with_reducible first | exact HB.out | apply below_alloc | apply pw_below_drewN | apply below_drew1 | refine below_set ?_ GE268.out | refine below_set ?_ GE273.out | refine below_set ?_ GE278.out | refine below_set ?_ GE283.out | refine below_set ?_ GE288.out) | exact HB.out)) hb); clear HO_5; clear BK268; clear BK273; clear BK278; clear BK283; clear BK288; clear HB; have HO_5 := n0_; have BK268 := n1_; have BK273 := n2_; have BK278 := n3_; have BK283 := n4_; have BK288 := n5_; have HB := n6_; clear n0_ n1_ n2_ n3_ n4_ n5_ n6_; (try clear hb); (try clear hb2); (try clear hk); (try clear hi)) | ((with_reducible refine gate_dst (N := 17) rfl ?_); refine box_event ?hg (N := 17) ?hd (cs := #[.int .i64 0, .int .i64 0, .string (⟨#[]⟩ : ByteArray)]) (t := 32) ?hr ?_; (case hd => rfl); (case hg => rfl); (case hr => first | (go_simp; done) | (go_simp; rfl)); intro gb293 hg w59 hbox hb; have n0_ := Aside0.mk (Kd.R_below (Kd.R_elderB (by (with_reducible repeat (first | apply Kd.R_alloc | apply Kd.R_drewN | apply Kd.R_drew)); exact HO_5.out) gb293 (Nat.le_of_eq hg.symm)) hb); have n1_ := Aside0.mk (blk_below (g := gb268) (o := .cells #[.int .i64 t264, .int .i64 t265, .string t266] 32 (0, 0)) (bk_ BK268) hb); have n2_ := Aside0.mk (blk_below (g := gb273) (o := .cells #[.int .i64 t269, .int .i64 t270, .string t271] 32 (0, 0)) (bk_ BK273) hb); have n3_ := Aside0.mk (blk_below (g := gb278) (o := .cells #[.int .i64 t274, .int .i64 t275, .string t276] 32 (0, 0)) (bk_ BK278) hb); have n4_ := Aside0.mk (blk_below (g := gb283) (o := .cells #[.int .i64 t279, .int .i64 t280, .string t281] 32 (0, 0)) (bk_ BK283) hb); have n5_ := Aside0.mk (blk_below (g := gb288) (o := .cells #[.int .i64 t284, .int .i64 t285, .string t286] 32 (0, 0)) (bk_ BK288) hb); have n6_ := Aside0.mk (below_step (by repeat (first | (with_reducible first | exact HB.out | apply below_alloc | apply pw_below_drewN | apply below_drew1 | refine below_set ?_ GE268.out | refine below_set ?_ GE273.out | refine below_set ?_ GE278.out | refine below_set ?_ GE283.out | refine below_set ?_ GE288.out) | exact HB.out)) hb); have n7_ := Aside0.mk (hbox); have n8_ := Aside0.mk ((by rw [hg]; exact (below_size (by repeat (first | (with_reducible first | exact HB.out | apply below_alloc | apply pw_below_drewN | apply below_drew1 | refine below_set ?_ GE268.out | refine below_set ?_ GE273.out | refine below_set ?_ GE278.out | refine below_set ?_ GE283.out | refine below_set ?_ GE288.out) | exact HB.out))) : w.heap.size ≤ gb293)); have n9_ := Aside0.mk ((by rw [hg]; exact (below_size (by repeat (first | (with_reducible first | exact HB.out | apply below_alloc | apply pw_below_drewN | apply below_drew1 | refine below_set ?_ GE268.out | refine below_set ?_ GE273.out | refine below_set ?_ GE278.out | refine below_set ?_ GE283.out | refine below_set ?_ GE288.out) | exact HB.out))) : w.heap.size ≤ gb293)); have n10_ := Aside0.mk ((by rw [hg]; exact Nat.ne_of_lt (blk_lt (g := gb268) (o := .cells #[.int .i64 t264, .int .i64 t265, .string t266] 32 (0, 0)) (bk_ BK268)) : gb268 ≠ gb293)); have n11_ := Aside0.mk ((by rw [hg]; exact Nat.ne_of_gt (blk_lt (g := gb268) (o := .cells #[.int .i64 t264, .int .i64 t265, .string t266] 32 (0, 0)) (bk_ BK268)) : gb293 ≠ gb268)); have n12_ := Aside0.mk ((by rw [hg]; exact Nat.ne_of_lt (blk_lt (g := gb273) (o := .cells #[.int .i64 t269, .int .i64 t270, .string t271] 32 (0, 0)) (bk_ BK273)) : gb273 ≠ gb293)); have n13_ := Aside0.mk ((by rw [hg]; exact Nat.ne_of_gt (blk_lt (g := gb273) (o := .cells #[.int .i64 t269, .int .i64 t270, .string t271] 32 (0, 0)) (bk_ BK273)) : gb293 ≠ gb273)); have n14_ := Aside0.mk ((by rw [hg]; exact Nat.ne_of_lt (blk_lt (g := gb278) (o := .cells #[.int .i64 t274, .int .i64 t275, .string t276] 32 (0, 0)) (bk_ BK278)) : gb278 ≠ gb293)); have n15_ := Aside0.mk ((by rw [hg]; exact Nat.ne_of_gt (blk_lt (g := gb278) (o := .cells #[.int .i64 t274, .int .i64 t275, .string t276] 32 (0, 0)) (bk_ BK278)) : gb293 ≠ gb278)); have n16_ := Aside0.mk ((by rw [hg]; exact Nat.ne_of_lt (blk_lt (g := gb283) (o := .cells #[.int .i64 t279, .int .i64 t280, .string t281] 32 (0, 0)) (bk_ BK283)) : gb283 ≠ gb293)); have n17_ := Aside0.mk ((by rw [hg]; exact Nat.ne_of_gt (blk_lt (g := gb283) (o := .cells #[.int .i64 t279, .int .i64 t280, .string t281] 32 (0, 0)) (bk_ BK283)) : gb293 ≠ gb283)); have n18_ := Aside0.mk ((by rw [hg]; exact Nat.ne_of_lt (blk_lt (g := gb288) (o := .cells #[.int .i64 t284, .int .i64 t285, .string t286] 32 (0, 0)) (bk_ BK288)) : gb288 ≠ gb293)); have n19_ := Aside0.mk ((by rw [hg]; exact Nat.ne_of_gt (blk_lt (g := gb288) (o := .cells #[.int .i64 t284, .int .i64 t285, .string t286] 32 (0, 0)) (bk_ BK288)) : gb293 ≠ gb288)); clear HO_5; clear BK268; clear BK273; clear BK278; clear BK283; clear BK288; clear HB; have HO_5 := n0_; have BK268 := n1_; have BK273 := n2_; have BK278 := n3_; have BK283 := n4_; have BK288 := n5_; have HB := n6_; have BK293 := n7_; have GW293 := n8_; have GE293 := n9_; have NB268_293 := n10_; have NB293_268 := n11_; have NB273_293 := n12_; have NB293_273 := n13_; have NB278_293 := n14_; have NB293_278 := n15_; have NB283_293 := n16_; have NB293_283 := n17_; have NB288_293 := n18_; have NB293_288 := n19_; clear n0_ n1_ n2_ n3_ n4_ n5_ n6_ n7_ n8_ n9_ n10_ n11_ n12_ n13_ n14_ n15_ n16_ n17_ n18_ n19_; clear hb hbox hg; have hnb60 := NB293_268.out; have hnc60 := NB268_293.out; have hnb61 := NB293_273.out; have hnc61 := NB273_293.out; have hnb62 := NB293_278.out; have hnc62 := NB278_293.out; have hnb63 := NB293_283.out; have hnc63 := NB283_293.out; have hnb64 := NB293_288.out; have hnc64 := NB288_293.out; have hcz65_0 : w59.cell? ⟨gb293, 0, none⟩ = some (.int .i64 0) := (blk_cell BK293.out 0).trans rfl; have hcz65_1 : w59.cell? ⟨gb293, 1, none⟩ = some (.int .i64 0) := (blk_cell BK293.out 1).trans rfl; have hcz65_2 : w59.cell? ⟨gb293, 2, none⟩ = some (.string (⟨#[]⟩ : ByteArray)) := (blk_cell BK293.out 2).trans rfl; have hfz65_0 := blk_frozen BK293.out 0; have hfz65_1 := blk_frozen BK293.out 1; have hfz65_2 := blk_frozen BK293.out 2; have hcz66_0 : w59.cell? ⟨gb283, 0, none⟩ = some (.int .i64 t279) := (blk_cell BK283.out 0).trans rfl; have hcz66_1 : w59.cell? ⟨gb283, 1, none⟩ = some (.int .i64 t280) := (blk_cell BK283.out 1).trans rfl; have hcz66_2 : w59.cell? ⟨gb283, 2, none⟩ = some (.string t281) := (blk_cell BK283.out 2).trans rfl; have hfz66_0 := blk_frozen BK283.out 0; have hfz66_1 := blk_frozen BK283.out 1; have hfz66_2 := blk_frozen BK283.out 2) | ((with_reducible refine gate_dst (N := 19) rfl ?_); refine box_event ?hg (N := 19) ?hd (cs := #[.int .i64 0, .int .i64 0, .string (⟨#[]⟩ : ByteArray)]) (t := 32) ?hr ?_; (case hd => rfl); (case hg => rfl); (case hr => first | (go_simp; done) | (go_simp; rfl)); intro gb294 hg w67 hbox hb; have n0_ := Aside0.mk (Kd.R_below (Kd.R_elderB (by (with_reducible repeat (first | apply Kd.R_alloc | apply Kd.R_drewN | apply Kd.R_drew)); exact (Kd.R_mono (Kd.R_far (p := ⟨gb293, 2, none⟩) (Kd.R_far (p := ⟨gb293, 1, none⟩) (Kd.R_far (p := ⟨gb293, 0, none⟩) (Kd.R_mono HO_5.out (fun k_ hk => (⟨hk, hk.2⟩ : _ ∧ k_ ≠ gb293))) (fun _ hk => hk.2) (.int .i64 t289)) (fun _ hk => hk.2) (.int .i64 t290)) (fun _ hk => hk.2) (.string t291)) (fun _ h_ => h_.1))) gb294 (Nat.le_of_eq hg.symm)) hb); have n1_ := Aside0.mk (blk_below (g := gb268) (o := .cells #[.int .i64 t264, .int .i64 t265, .string t266] 32 (0, 0)) (by (with_reducible repeat (first | refine blk_drewN ?_ _ | refine blk_drew ?_ | refine blk_alloc ?_ _)); refine blk_far ?_ NB268_293.out _; (with_reducible repeat (first | refine blk_drewN ?_ _ | refine blk_drew ?_ | refine blk_alloc ?_ _)); refine blk_far ?_ NB268_293.out _; (with_reducible repeat (first | refine blk_drewN ?_ _ | refine blk_drew ?_ | refine blk_alloc ?_ _)); refine blk_far ?_ NB268_293.out _; (with_reducible repeat (first | refine blk_drewN ?_ _ | refine blk_drew ?_ | refine blk_alloc ?_ _)); exact BK268.out) hb); have n2_ := Aside0.mk (blk_below (g := gb273) (o := .cells #[.int .i64 t269, .int .i64 t270, .string t271] 32 (0, 0)) (by (with_reducible repeat (first | refine blk_drewN ?_ _ | refine blk_drew ?_ | refine blk_alloc ?_ _)); refine blk_far ?_ NB273_293.out _; (with_reducible repeat (first | refine blk_drewN ?_ _ | refine blk_drew ?_ | refine blk_alloc ?_ _)); refine blk_far ?_ NB273_293.out _; (with_reducible repeat (first | refine blk_drewN ?_ _ | refine blk_drew ?_ | refine blk_alloc ?_ _)); refine blk_far ?_ NB273_293.out _; (with_reducible repeat (first | refine blk_drewN ?_ _ | refine blk_drew ?_ | refine blk_alloc ?_ _)); exact BK273.out) hb); have n3_ := Aside0.mk (blk_below (g := gb278) (o := .cells #[.int .i64 t274, .int .i64 t275, .string t276] 32 (0, 0)) (by (with_reducible repeat (first | refine blk_drewN ?_ _ | refine blk_drew ?_ | refine blk_alloc ?_ _)); refine blk_far ?_ NB278_293.out _; (with_reducible repeat (first | refine blk_drewN ?_ _ | refine blk_drew ?_ | refine blk_alloc ?_ _)); refine blk_far ?_ NB278_293.out _; (with_reducible repeat (first | refine blk_drewN ?_ _ | refine blk_drew ?_ | refine blk_alloc ?_ _)); refine blk_far ?_ NB278_293.out _; (with_reducible repeat (first | refine blk_drewN ?_ _ | refine blk_drew ?_ | refine blk_alloc ?_ _)); exact BK278.out) hb); have n4_ := Aside0.mk (blk_below (g := gb283) (o := .cells #[.int .i64 t279, .int .i64 t280, .string t281] 32 (0, 0)) (by (with_reducible repeat (first | refine blk_drewN ?_ _ | refine blk_drew ?_ | refine blk_alloc ?_ _)); refine blk_far ?_ NB283_293.out _; (with_reducible repeat (first | refine blk_drewN ?_ _ | refine blk_drew ?_ | refine blk_alloc ?_ _)); refine blk_far ?_ NB283_293.out _; (with_reducible repeat (first | refine blk_drewN ?_ _ | refine blk_drew ?_ | refine blk_alloc ?_ _)); refine blk_far ?_ NB283_293.out _; (with_reducible repeat (first | refine blk_drewN ?_ _ | refine blk_drew ?_ | refine blk_alloc ?_ _)); exact BK283.out) hb); have n5_ := Aside0.mk (blk_below (g := gb288) (o := .cells #[.int .i64 t284, .int .i64 t285, .string t286] 32 (0, 0)) (by (with_reducible repeat (first | refine blk_drewN ?_ _ | refine blk_drew ?_ | refine blk_alloc ?_ _)); refine blk_far ?_ NB288_293.out _; (with_reducible repeat (first | refine blk_drewN ?_ _ | refine blk_drew ?_ | refine blk_alloc ?_ _)); refine blk_far ?_ NB288_293.out _; (with_reducible repeat (first | refine blk_drewN ?_ _ | refine blk_drew ?_ | refine blk_alloc ?_ _)); refine blk_far ?_ NB288_293.out _; (with_reducible repeat (first | refine blk_drewN ?_ _ | refine blk_drew ?_ | refine blk_alloc ?_ _)); exact BK288.out) hb); have n6_ := Aside0.mk (blk_below (g := gb293) (o := .cells #[.int .i64 t289, .int .i64 t290, .string t291] 32 (0, 0)) (by (with_reducible repeat (first | refine blk_drewN ?_ _ | refine blk_drew ?_ | refine blk_alloc ?_ _)); refine blk_put (cs := #[.int .i64 t289, .int .i64 t290, .string (⟨#[]⟩ : ByteArray)]) ?_ 2 _ rfl; (with_reducible repeat (first | refine blk_drewN ?_ _ | refine blk_drew ?_ | refine blk_alloc ?_ _)); refine blk_put (cs := #[.int .i64 t289, .int .i64 0, .string (⟨#[]⟩ : ByteArray)]) ?_ 1 _ rfl; (with_reducible repeat (first | refine blk_drewN ?_ _ | refine blk_drew ?_ | refine blk_alloc ?_ _)); refine blk_put (cs := #[.int .i64 0, .int .i64 0, .string (⟨#[]⟩ : ByteArray)]) ?_ 0 _ rfl; (with_reducible repeat (first | refine blk_drewN ?_ _ | refine blk_drew ?_ | refine blk_alloc ?_ _)); exact BK293.out) hb); have n7_ := Aside0.mk (below_step (by repeat (first | (with_reducible first | exact HB.out | apply below_alloc | apply pw_below_drewN | apply below_drew1 | refine below_set ?_ GE268.out | refine below_set ?_ GE273.out | refine below_set ?_ GE278.out | refine below_set ?_ GE283.out | refine below_set ?_ GE288.out | refine below_set ?_ GE293.out) | exact HB.out)) hb); have n8_ := Aside0.mk (hbox); have n9_ := Aside0.mk ((by rw [hg]; exact (below_size (by repeat (first | (with_reducible first | exact HB.out | apply below_alloc | apply pw_below_drewN | apply below_drew1 | refine below_set ?_ GE268.out | refine below_set ?_ GE273.out | refine below_set ?_ GE278.out | refine below_set ?_ GE283.out | refine below_set ?_ GE288.out | refine below_set ?_ GE293.out) | exact HB.out))) : w.heap.size ≤ gb294)); have n10_ := Aside0.mk ((by rw [hg]; exact (below_size (by repeat (first | (with_reducible first | exact HB.out | apply below_alloc | apply pw_below_drewN | apply below_drew1 | refine below_set ?_ GE268.out | refine below_set ?_ GE273.out | refine below_set ?_ GE278.out | refine below_set ?_ GE283.out | refine below_set ?_ GE288.out | refine below_set ?_ GE293.out) | exact HB.out))) : w.heap.size ≤ gb294)); have n11_ := Aside0.mk ((by rw [hg]; exact Nat.ne_of_lt (blk_lt (g := gb268) (o := .cells #[.int .i64 t264, .int .i64 t265, .string t266] 32 (0, 0)) (by (with_reducible repeat (first | refine blk_drewN ?_ _ | refine blk_drew ?_ | refine blk_alloc ?_ _)); refine blk_far ?_ NB268_293.out _; (with_reducible repeat (first | refine blk_drewN ?_ _ | refine blk_drew ?_ | refine blk_alloc ?_ _)); refine blk_far ?_ NB268_293.out _; (with_reducible repeat (first | refine blk_drewN ?_ _ | refine blk_drew ?_ | refine blk_alloc ?_ _)); refine blk_far ?_ NB268_293.out _; (with_reducible repeat (first | refine blk_drewN ?_ _ | refine blk_drew ?_ | refine blk_alloc ?_ _)); exact BK268.out)) : gb268 ≠ gb294)); have n12_ := Aside0.mk ((by rw [hg]; exact Nat.ne_of_gt (blk_lt (g := gb268) (o := .cells #[.int .i64 t264, .int .i64 t265, .string t266] 32 (0, 0)) (by (with_reducible repeat (first | refine blk_drewN ?_ _ | refine blk_drew ?_ | refine blk_alloc ?_ _)); refine blk_far ?_ NB268_293.out _; (with_reducible repeat (first | refine blk_drewN ?_ _ | refine blk_drew ?_ | refine blk_alloc ?_ _)); refine blk_far ?_ NB268_293.out _; (with_reducible repeat (first | refine blk_drewN ?_ _ | refine blk_drew ?_ | refine blk_alloc ?_ _)); refine blk_far ?_ NB268_293.out _; (with_reducible repeat (first | refine blk_drewN ?_ _ | refine blk_drew ?_ | refine blk_alloc ?_ _)); exact BK268.out)) : gb294 ≠ gb268)); have n13_ := Aside0.mk ((by rw [hg]; exact Nat.ne_of_lt (blk_lt (g := gb273) (o := .cells #[.int .i64 t269, .int .i64 t270, .string t271] 32 (0, 0)) (by (with_reducible repeat (first | refine blk_drewN ?_ _ | refine blk_drew ?_ | refine blk_alloc ?_ _)); refine blk_far ?_ NB273_293.out _; (with_reducible repeat (first | refine blk_drewN ?_ _ | refine blk_drew ?_ | refine blk_alloc ?_ _)); refine blk_far ?_ NB273_293.out _; (with_reducible repeat (first | refine blk_drewN ?_ _ | refine blk_drew ?_ | refine blk_alloc ?_ _)); refine blk_far ?_ NB273_293.out _; (with_reducible repeat (first | refine blk_drewN ?_ _ | refine blk_drew ?_ | refine blk_alloc ?_ _)); exact BK273.out)) : gb273 ≠ gb294)); have n14_ := Aside0.mk ((by rw [hg]; exact Nat.ne_of_gt (blk_lt (g := gb273) (o := .cells #[.int .i64 t269, .int .i64 t270, .string t271] 32 (0, 0)) (by (with_reducible repeat (first | refine blk_drewN ?_ _ | refine blk_drew ?_ | refine blk_alloc ?_ _)); refine blk_far ?_ NB273_293.out _; (with_reducible repeat (first | refine blk_drewN ?_ _ | refine blk_drew ?_ | refine blk_alloc ?_ _)); refine blk_far ?_ NB273_293.out _; (with_reducible repeat (first | refine blk_drewN ?_ _ | refine blk_drew ?_ | refine blk_alloc ?_ _)); refine blk_far ?_ NB273_293.out _; (with_reducible repeat (first | refine blk_drewN ?_ _ | refine blk_drew ?_ | refine blk_alloc ?_ _)); exact BK273.out)) : gb294 ≠ gb273)); have n15_ := Aside0.mk ((by rw [hg]; exact Nat.ne_of_lt (blk_lt (g := gb278) (o := .cells #[.int .i64 t274, .int .i64 t275, .string t276] 32 (0, 0)) (by (with_reducible repeat (first | refine blk_drewN ?_ _ | refine blk_drew ?_ | refine blk_alloc ?_ _)); refine blk_far ?_ NB278_293.out _; (with_reducible repeat (first | refine blk_drewN ?_ _ | refine blk_drew ?_ | refine blk_alloc ?_ _)); refine blk_far ?_ NB278_293.out _; (with_reducible repeat (first | refine blk_drewN ?_ _ | refine blk_drew ?_ | refine blk_alloc ?_ _)); refine blk_far ?_ NB278_293.out _; (with_reducible repeat (first | refine blk_drewN ?_ _ | refine blk_drew ?_ | refine blk_alloc ?_ _)); exact BK278.out)) : gb278 ≠ gb294)); have n16_ := Aside0.mk ((by rw [hg]; exact Nat.ne_of_gt (blk_lt (g := gb278) (o := .cells #[.int .i64 t274, .int .i64 t275, .string t276] 32 (0, 0)) (by (with_reducible repeat (first | refine blk_drewN ?_ _ | refine blk_drew ?_ | refine blk_alloc ?_ _)); refine blk_far ?_ NB278_293.out _; (with_reducible repeat (first | refine blk_drewN ?_ _ | refine blk_drew ?_ | refine blk_alloc ?_ _)); refine blk_far ?_ NB278_293.out _; (with_reducible repeat (first | refine blk_drewN ?_ _ | refine blk_drew ?_ | refine blk_alloc ?_ _)); refine blk_far ?_ NB278_293.out _; (with_reducible repeat (first | refine blk_drewN ?_ _ | refine blk_drew ?_ | refine blk_alloc ?_ _)); exact BK278.out)) : gb294 ≠ gb278)); have n17_ := Aside0.mk ((by rw [hg]; exact Nat.ne_of_lt (blk_lt (g := gb283) (o := .cells #[.int .i64 t279, .int .i64 t280, .string t281] 32 (0, 0)) (by (with_reducible repeat (first | refine blk_drewN ?_ _ | refine blk_drew ?_ | refine blk_alloc ?_ _)); refine blk_far ?_ NB283_293.out _; (with_reducible repeat (first | refine blk_drewN ?_ _ | refine blk_drew ?_ | refine blk_alloc ?_ _)); refine blk_far ?_ NB283_293.out _; (with_reducible repeat (first | refine blk_drewN ?_ _ | refine blk_drew ?_ | refine blk_alloc ?_ _)); refine blk_far ?_ NB283_293.out _; (with_reducible repeat (first | refine blk_drewN ?_ _ | refine blk_drew ?_ | refine blk_alloc ?_ _)); exact BK283.out)) : gb283 ≠ gb294)); have n18_ := Aside0.mk ((by rw [hg]; exact Nat.ne_of_gt (blk_lt (g := gb283) (o := .cells #[.int .i64 t279, .int .i64 t280, .string t281] 32 (0, 0)) (by (with_reducible repeat (first | refine blk_drewN ?_ _ | refine blk_drew ?_ | refine blk_alloc ?_ _)); refine blk_far ?_ NB283_293.out _; (with_reducible repeat (first | refine blk_drewN ?_ _ | refine blk_drew ?_ | refine blk_alloc ?_ _)); refine blk_far ?_ NB283_293.out _; (with_reducible repeat (first | refine blk_drewN ?_ _ | refine blk_drew ?_ | refine blk_alloc ?_ _)); refine blk_far ?_ NB283_293.out _; (with_reducible repeat (first | refine blk_drewN ?_ _ | refine blk_drew ?_ | refine blk_alloc ?_ _)); exact BK283.out)) : gb294 ≠ gb283)); have n19_ := Aside0.mk ((by rw [hg]; exact Nat.ne_of_lt (blk_lt (g := gb288) (o := .cells #[.int .i64 t284, .int .i64 t285, .string t286] 32 (0, 0)) (by (with_reducible repeat (first | refine blk_drewN ?_ _ | refine blk_drew ?_ | refine blk_alloc ?_ _)); refine blk_far ?_ NB288_293.out _; (with_reducible repeat (first | refine blk_drewN ?_ _ | refine blk_drew ?_ | refine blk_alloc ?_ _)); refine blk_far ?_ NB288_293.out _; (with_reducible repeat (first | refine blk_drewN ?_ _ | refine blk_drew ?_ | refine blk_alloc ?_ _)); refine blk_far ?_ NB288_293.out _; (with_reducible repeat (first | refine blk_drewN ?_ _ | refine blk_drew ?_ | refine blk_alloc ?_ _)); exact BK288.out)) : gb288 ≠ gb294)); have n20_ := Aside0.mk ((by rw [hg]; exact Nat.ne_of_gt (blk_lt (g := gb288) (o := .cells #[.int .i64 t284, .int .i64 t285, .string t286] 32 (0, 0)) (by (with_reducible repeat (first | refine blk_drewN ?_ _ | refine blk_drew ?_ | refine blk_alloc ?_ _)); refine blk_far ?_ NB288_293.out _; (with_reducible repeat (first | refine blk_drewN ?_ _ | refine blk_drew ?_ | refine blk_alloc ?_ _)); refine blk_far ?_ NB288_293.out _; (with_reducible repeat (first | refine blk_drewN ?_ _ | refine blk_drew ?_ | refine blk_alloc ?_ _)); refine blk_far ?_ NB288_293.out _; (with_reducible repeat (first | refine blk_drewN ?_ _ | refine blk_drew ?_ | refine blk_alloc ?_ _)); exact BK288.out)) : gb294 ≠ gb288)); have n21_ := Aside0.mk ((by rw [hg]; exact Nat.ne_of_lt (blk_lt (g := gb293) (o := .cells #[.int .i64 t289, .int .i64 t290, .string t291] 32 (0, 0)) (by (with_reducible repeat (first | refine blk_drewN ?_ _ | refine blk_drew ?_ | refine blk_alloc ?_ _)); refine blk_put (cs := #[.int .i64 t289, .int .i64 t290, .string (⟨#[]⟩ : ByteArray)]) ?_ 2 _ rfl; (with_reducible repeat (first | refine blk_drewN ?_ _ | refine blk_drew ?_ | refine blk_alloc ?_ _)); refine blk_put (cs := #[.int .i64 t289, .int .i64 0, .string (⟨#[]⟩ : ByteArray)]) ?_ 1 _ rfl; (with_reducible repeat (first | refine blk_drewN ?_ _ | refine blk_drew ?_ | refine blk_alloc ?_ _)); refine blk_put (cs := #[.int .i64 0, .int .i64 0, .string (⟨#[]⟩ : ByteArray)]) ?_ 0 _ rfl; (with_reducible repeat (first | refine blk_drewN ?_ _ | refine blk_drew ?_ | refine blk_alloc ?_ _)); exact BK293.out)) : gb293 ≠ gb294)); have n22_ := Aside0.mk ((by rw [hg]; exact Nat.ne_of_gt (blk_lt (g := gb293) (o := .cells #[.int .i64 t289, .int .i64 t290, .string t291] 32 (0, 0)) (by (with_reducible repeat (first | refine blk_drewN ?_ _ | refine blk_drew ?_ | refine blk_alloc ?_ _)); refine blk_put (cs := #[.int .i64 t289, .int .i64 t290, .string (⟨#[]⟩ : ByteArray)]) ?_ 2 _ rfl; (with_reducible repeat (first | refine blk_drewN ?_ _ | refine blk_drew ?_ | refine blk_alloc ?_ _)); refine blk_put (cs := #[.int .i64 t289, .int .i64 0, .string (⟨#[]⟩ : ByteArray)]) ?_ 1 _ rfl; (with_reducible repeat (first | refine blk_drewN ?_ _ | refine blk_drew ?_ | refine blk_alloc ?_ _)); refine blk_put (cs := #[.int .i64 0, .int .i64 0, .string (⟨#[]⟩ : ByteArray)]) ?_ 0 _ rfl; (with_reducible repeat (first | refine blk_drewN ?_ _ | refine blk_drew ?_ | refine blk_alloc ?_ _)); exact BK293.out)) : gb294 ≠ gb293)); clear HO_5; clear BK268; clear BK273; clear BK278; clear BK283; clear BK288; clear BK293; clear HB; have HO_5 := n0_; have BK268 := n1_; have BK273 := n2_; have BK278 := n3_; have BK283 := n4_; have BK288 := n5_; have BK293 := n6_; have HB := n7_; have BK294 := n8_; have GW294 := n9_; have GE294 := n10_; have NB268_294 := n11_; have NB294_268 := n12_; have NB273_294 := n13_; have NB294_273 := n14_; have NB278_294 := n15_; have NB294_278 := n16_; have NB283_294 := n17_; have NB294_283 := n18_; have NB288_294 := n19_; have NB294_288 := n20_; have NB293_294 := n21_; have NB294_293 := n22_; clear n0_ n1_ n2_ n3_ n4_ n5_ n6_ n7_ n8_ n9_ n10_ n11_ n12_ n13_ n14_ n15_ n16_ n17_ n18_ n19_ n20_ n21_ n22_; clear hb hbox hg; have hnb68 := NB294_268.out; have hnc68 := NB268_294.out; have hnb69 := NB294_273.out; have hnc69 := NB273_294.out; have hnb70 := NB294_278.out; have hnc70 := NB278_294.out; have hnb71 := NB294_283.out; have hnc71 := NB283_294.out; have hnb72 := NB294_288.out; have hnc72 := NB288_294.out; have hnb73 := NB294_293.out; have hnc73 := NB293_294.out; have hcz74_0 : w67.cell? ⟨gb294, 0, none⟩ = some (.int .i64 0) := (blk_cell BK294.out 0).trans rfl; have hcz74_1 : w67.cell? ⟨gb294, 1, none⟩ = some (.int .i64 0) := (blk_cell BK294.out 1).trans rfl; have hcz74_2 : w67.cell? ⟨gb294, 2, none⟩ = some (.string (⟨#[]⟩ : ByteArray)) := (blk_cell BK294.out 2).trans rfl; have hfz74_0 := blk_frozen BK294.out 0; have hfz74_1 := blk_frozen BK294.out 1; have hfz74_2 := blk_frozen BK294.out 2; have hcz75_0 : w67.cell? ⟨gb283, 0, none⟩ = some (.int .i64 t279) := (blk_cell BK283.out 0).trans rfl; have hcz75_1 : w67.cell? ⟨gb283, 1, none⟩ = some (.int .i64 t280) := (blk_cell BK283.out 1).trans rfl; have hcz75_2 : w67.cell? ⟨gb283, 2, none⟩ = some (.string t281) := (blk_cell BK283.out 2).trans rfl; have hfz75_0 := blk_frozen BK283.out 0; have hfz75_1 := blk_frozen BK283.out 1; have hfz75_2 := blk_frozen BK283.out 2; have hcz76_0 : w67.cell? ⟨gb288, 0, none⟩ = some (.int .i64 t284) := (blk_cell BK288.out 0).trans rfl; have hcz76_1 : w67.cell? ⟨gb288, 1, none⟩ = some (.int .i64 t285) := (blk_cell BK288.out 1).trans rfl; have hcz76_2 : w67.cell? ⟨gb288, 2, none⟩ = some (.string t286) := (blk_cell BK288.out 2).trans rfl; have hfz76_0 := blk_frozen BK288.out 0; have hfz76_1 := blk_frozen BK288.out 1; have hfz76_2 := blk_frozen BK288.out 2) | ((with_reducible refine gate_callee (f := 17) rfl ?_); refine goesL_ (some 84) rfl rfl Try.func17 (by kernel_rfl) rfl #[.agg #[.int .i64 t279, .int .i64 t280, .string t281], .agg #[.int .i64 t284, .int .i64 t285, .string t286]] rfl (by (try simp only [List.map_toArray, List.map_cons, List.map_nil]); first | done | rfl | (simp only [List.length_drop, List.length_take]; rfl)) ?_; (with_reducible refine (quarryref01_Compare.calls k2 t279 t280 t281 t284 t285 t286 t295 _ A43.out).mono ?_); rintro e w77 ⟨rfl, hb⟩; refine ⟨_, rfl, ?_⟩; have n0_ := Aside0.mk (Kd.R_below (by (with_reducible repeat (first | apply Kd.R_alloc | apply Kd.R_drewN | apply Kd.R_drew)); exact (Kd.R_mono (Kd.R_far (p := ⟨gb294, 2, none⟩) (Kd.R_far (p := ⟨gb294, 1, none⟩) (Kd.R_far (p := ⟨gb294, 0, none⟩) (Kd.R_mono HO_5.out (fun k_ hk => (⟨hk, hk.2⟩ : _ ∧ k_ ≠ gb294))) (fun _ hk => hk.2) (.int .i64 t279)) (fun _ hk => hk.2) (.int .i64 t280)) (fun _ hk => hk.2) (.string t281)) (fun _ h_ => h_.1))) hb); have n1_ := Aside0.mk (blk_below (g := gb268) (o := .cells #[.int .i64 t264, .int .i64 t265, .string t266] 32 (0, 0)) (by (with_reducible repeat (first | refine blk_drewN ?_ _ | refine blk_drew ?_ | refine blk_alloc ?_ _)); refine blk_far ?_ NB268_294.out _; (with_reducible repeat (first | refine blk_drewN ?_ _ | refine blk_drew ?_ | refine blk_alloc ?_ _)); refine blk_far ?_ NB268_294.out _; (with_reducible repeat (first | refine blk_drewN ?_ _ | refine blk_drew ?_ | refine blk_alloc ?_ _)); refine blk_far ?_ NB268_294.out _; (with_reducible repeat (first | refine blk_drewN ?_ _ | refine blk_drew ?_ | refine blk_alloc ?_ _)); exact BK268.out) hb); have n2_ := Aside0.mk (blk_below (g := gb273) (o := .cells #[.int .i64 t269, .int .i64 t270, .string t271] 32 (0, 0)) (by (with_reducible repeat (first | refine blk_drewN ?_ _ | refine blk_drew ?_ | refine blk_alloc ?_ _)); refine blk_far ?_ NB273_294.out _; (with_reducible repeat (first | refine blk_drewN ?_ _ | refine blk_drew ?_ | refine blk_alloc ?_ _)); refine blk_far ?_ NB273_294.out _; (with_reducible repeat (first | refine blk_drewN ?_ _ | refine blk_drew ?_ | refine blk_alloc ?_ _)); refine blk_far ?_ NB273_294.out _; (with_reducible repeat (first | refine blk_drewN ?_ _ | refine blk_drew ?_ | refine blk_alloc ?_ _)); exact BK273.out) hb); have n3_ := Aside0.mk (blk_below (g := gb278) (o := .cells #[.int .i64 t274, .int .i64 t275, .string t276] 32 (0, 0)) (by (with_reducible repeat (first | refine blk_drewN ?_ _ | refine blk_drew ?_ | refine blk_alloc ?_ _)); refine blk_far ?_ NB278_294.out _; (with_reducible repeat (first | refine blk_drewN ?_ _ | refine blk_drew ?_ | refine blk_alloc ?_ _)); refine blk_far ?_ NB278_294.out _; (with_reducible repeat (first | refine blk_drewN ?_ _ | refine blk_drew ?_ | refine blk_alloc ?_ _)); refine blk_far ?_ NB278_294.out _; (with_reducible repeat (first | refine blk_drewN ?_ _ | refine blk_drew ?_ | refine blk_alloc ?_ _)); exact BK278.out) hb); have n4_ := Aside0.mk (blk_below (g := gb283) (o := .cells #[.int .i64 t279, .int .i64 t280, .string t281] 32 (0, 0)) (by (with_reducible repeat (first | refine blk_drewN ?_ _ | refine blk_drew ?_ | refine blk_alloc ?_ _)); refine blk_far ?_ NB283_294.out _; (with_reducible repeat (first | refine blk_drewN ?_ _ | refine blk_drew ?_ | refine blk_alloc ?_ _)); refine blk_far ?_ NB283_294.out _; (with_reducible repeat (first | refine blk_drewN ?_ _ | refine blk_drew ?_ | refine blk_alloc ?_ _)); refine blk_far ?_ NB283_294.out _; (with_reducible repeat (first | refine blk_drewN ?_ _ | refine blk_drew ?_ | refine blk_alloc ?_ _)); exact BK283.out) hb); have n5_ := Aside0.mk (blk_below (g := gb288) (o := .cells #[.int .i64 t284, .int .i64 t285, .string t286] 32 (0, 0)) (by (with_reducible repeat (first | refine blk_drewN ?_ _ | refine blk_drew ?_ | refine blk_alloc ?_ _)); refine blk_far ?_ NB288_294.out _; (with_reducible repeat (first | refine blk_drewN ?_ _ | refine blk_drew ?_ | refine blk_alloc ?_ _)); refine blk_far ?_ NB288_294.out _; (with_reducible repeat (first | refine blk_drewN ?_ _ | refine blk_drew ?_ | refine blk_alloc ?_ _)); refine blk_far ?_ NB288_294.out _; (with_reducible repeat (first | refine blk_drewN ?_ _ | refine blk_drew ?_ | refine blk_alloc ?_ _)); exact BK288.out) hb); have n6_ := Aside0.mk (blk_below (g := gb293) (o := .cells #[.int .i64 t289, .int .i64 t290, .string t291] 32 (0, 0)) (by (with_reducible repeat (first | refine blk_drewN ?_ _ | refine blk_drew ?_ | refine blk_alloc ?_ _)); refine blk_far ?_ NB293_294.out _; (with_reducible repeat (first | refine blk_drewN ?_ _ | refine blk_drew ?_ | refine blk_alloc ?_ _)); refine blk_far ?_ NB293_294.out _; (with_reducible repeat (first | refine blk_drewN ?_ _ | refine blk_drew ?_ | refine blk_alloc ?_ _)); refine blk_far ?_ NB293_294.out _; (with_reducible repeat (first | refine blk_drewN ?_ _ | refine blk_drew ?_ | refine blk_alloc ?_ _)); exact BK293.out) hb); have n7_ := Aside0.mk (blk_below (g := gb294) (o := .cells #[.int .i64 t279, .int .i64 t280, .string t281] 32 (0, 0)) (by (with_reducible repeat (first | refine blk_drewN ?_ _ | refine blk_drew ?_ | refine blk_alloc ?_ _)); refine blk_put (cs := #[.int .i64 t279, .int .i64 t280, .string (⟨#[]⟩ : ByteArray)]) ?_ 2 _ rfl; (with_reducible repeat (first | refine blk_drewN ?_ _ | refine blk_drew ?_ | refine blk_alloc ?_ _)); refine blk_put (cs := #[.int .i64 t279, .int .i64 0, .string (⟨#[]⟩ : ByteArray)]) ?_ 1 _ rfl; (with_reducible repeat (first | refine blk_drewN ?_ _ | refine blk_drew ?_ | refine blk_alloc ?_ _)); refine blk_put (cs := #[.int .i64 0, .int .i64 0, .string (⟨#[]⟩ : ByteArray)]) ?_ 0 _ rfl; (with_reducible repeat (first | refine blk_drewN ?_ _ | refine blk_drew ?_ | refine blk_alloc ?_ _)); exact BK294.out) hb); have n8_ := Aside0.mk (below_step (by repeat (first | (with_reducible first | exact HB.out | apply below_alloc | apply pw_below_drewN | apply below_drew1 | refine below_set ?_ GE268.out | refine below_set ?_ GE273.out | refine below_set ?_ GE278.out | refine below_set ?_ GE283.out | refine below_set ?_ GE288.out | refine below_set ?_ GE293.out | refine below_set ?_ GE294.out) | exact HB.out)) hb); clear HO_5; clear BK268; clear BK273; clear BK278; clear BK283; clear BK288; clear BK293; clear BK294; clear HB; have HO_5 := n0_; have BK268 := n1_; have BK273 := n2_; have BK278 := n3_; have BK283 := n4_; have BK288 := n5_; have BK293 := n6_; have BK294 := n7_; have HB := n8_; clear n0_ n1_ n2_ n3_ n4_ n5_ n6_ n7_ n8_; (try clear hb); (try clear hb2); (try clear hk); (try clear hi)))
           (try simp only [Act.put, List.setIfInBounds_toArray, List.set_cons_zero, List.set_cons_succ])
           go_cut [108] (fun v108 wc => ∃ (kq : Nat) (x108_43 : Bool), v108 = .bool x108_43 ∧ Aside0 (quarrylaw17_AggParts.j2 kq l0 l1 y261 x12_2 x108_43 t284 t285 t286 t289 t290 t291 t279 t280 t281 = some r) ∧ Aside0 (kq ≤ k2) ∧ Aside0 (Kd.R k32 32 wc w.heap.size (fun k_ => k_ ≠ gb268 ∧ k_ ≠ gb273 ∧ k_ ≠ gb278 ∧ k_ ≠ gb283 ∧ k_ ≠ gb288 ∧ k_ ≠ gb293 ∧ k_ ≠ gb294) (.slice Ao31 y261.length co31) y261) ∧ Aside0 (wc.heap[gb268]? = some (.cells #[.int .i64 t264, .int .i64 t265, .string t266] 32 (0, 0))) ∧ Aside0 (wc.heap[gb273]? = some (.cells #[.int .i64 t269, .int .i64 t270, .string t271] 32 (0, 0))) ∧ Aside0 (wc.heap[gb278]? = some (.cells #[.int .i64 t274, .int .i64 t275, .string t276] 32 (0, 0))) ∧ Aside0 (wc.heap[gb283]? = some (.cells #[.int .i64 t279, .int .i64 t280, .string t281] 32 (0, 0))) ∧ Aside0 (wc.heap[gb288]? = some (.cells #[.int .i64 t284, .int .i64 t285, .string t286] 32 (0, 0))) ∧ Aside0 (wc.heap[gb293]? = some (.cells #[.int .i64 t289, .int .i64 t290, .string t291] 32 (0, 0))) ∧ Aside0 (wc.heap[gb294]? = some (.cells #[.int .i64 t279, .int .i64 t280, .string t281] 32 (0, 0))) ∧ Aside0 (Below w.heap.size w wc))
           case first =>
            have H := HC44.out
            clear HC44
            by_cases c78 : t279 = 0
            ·rw [if_pos c78] at H
             have c78b0 : (t279 == 0) = true := beq_iff_eq.mpr c78
             have c78b1 : (t279 != 0) = false := bne_eq_false_iff_eq.mpr c78
             clear c78
             (first | rw [c78b0] | (simp only [i64_w, i32_w]; rw [c78b0]) | skip)
             have H' := Aside0.mk H
             clear H
             have hnb79 := NB283_268.out
             have hnc79 := NB268_283.out
             have hnb80 := NB283_273.out
             have hnc80 := NB273_283.out
             have hnb81 := NB283_278.out
             have hnc81 := NB278_283.out
             have hnb82 := NB283_288.out
             have hnc82 := NB288_283.out
             have hnb83 := NB283_293.out
             have hnc83 := NB293_283.out
             have hnb84 := NB283_294.out
             have hnc84 := NB294_283.out
             have hcz85_0 : w77.cell? ⟨gb283, 0, none⟩ = some (.int .i64 t279) := (blk_cell BK283.out 0).trans rfl
             have hcz85_1 : w77.cell? ⟨gb283, 1, none⟩ = some (.int .i64 t280) := (blk_cell BK283.out 1).trans rfl
             have hcz85_2 : w77.cell? ⟨gb283, 2, none⟩ = some (.string t281) := (blk_cell BK283.out 2).trans rfl
             have hfz85_0 := blk_frozen BK283.out 0
             have hfz85_1 := blk_frozen BK283.out 1
             have hfz85_2 := blk_frozen BK283.out 2
             go_wp2
             go_meet
             case rel => exact ⟨_, (true), (by first | rfl | (simp; done) | (simp [*]; done)), H', ⟨by have := HJ4.out; have := HK2.out; first | omega | exact Nat.le_refl _⟩, ⟨by (with_reducible repeat (first | apply Kd.R_alloc | apply Kd.R_drewN | apply Kd.R_drew)); exact Kd.R_mono HO_5.out (fun _ hk => ⟨hk.1.1.1.1.1, ⟨hk.1.1.1.1.2.1, ⟨hk.1.1.1.1.2.2, ⟨hk.1.1.1.2, ⟨hk.1.1.2, ⟨hk.1.2, hk.2⟩⟩⟩⟩⟩⟩)⟩, ⟨by (with_reducible repeat (first | refine blk_drewN ?_ _ | refine blk_drew ?_ | refine blk_alloc ?_ _)); exact BK268.out⟩, ⟨by (with_reducible repeat (first | refine blk_drewN ?_ _ | refine blk_drew ?_ | refine blk_alloc ?_ _)); exact BK273.out⟩, ⟨by (with_reducible repeat (first | refine blk_drewN ?_ _ | refine blk_drew ?_ | refine blk_alloc ?_ _)); exact BK278.out⟩, ⟨by (with_reducible repeat (first | refine blk_drewN ?_ _ | refine blk_drew ?_ | refine blk_alloc ?_ _)); exact BK283.out⟩, ⟨by (with_reducible repeat (first | refine blk_drewN ?_ _ | refine blk_drew ?_ | refine blk_alloc ?_ _)); exact BK288.out⟩, ⟨by (with_reducible repeat (first | refine blk_drewN ?_ _ | refine blk_drew ?_ | refine blk_alloc ?_ _)); exact BK293.out⟩, ⟨by (with_reducible repeat (first | refine blk_drewN ?_ _ | refine blk_drew ?_ | refine blk_alloc ?_ _)); exact BK294.out⟩, ⟨by repeat (first | (with_reducible first | exact HB.out | apply below_alloc | apply pw_below_drewN | apply below_drew1 | refine below_set ?_ GE268.out | refine below_set ?_ GE273.out | refine below_set ?_ GE278.out | refine below_set ?_ GE283.out | refine below_set ?_ GE288.out | refine below_set ?_ GE293.out | refine below_set ?_ GE294.out) | exact HB.out)⟩⟩
            ·rw [if_neg c78] at H
             have c78b0 : (t279 == 0) = false := beq_eq_false_iff_ne.mpr c78
             have c78b1 : (t279 != 0) = true := bne_iff_ne.mpr c78
             (first | rw [c78b0] | (simp only [i64_w, i32_w]; rw [c78b0]) | skip)
             by_cases c86 : t284 = 0
             ·rw [if_pos c86] at H
              have c86b0 : (t284 == 0) = true := beq_iff_eq.mpr c86
              have c86b1 : (t284 != 0) = false := bne_eq_false_iff_eq.mpr c86
              clear c86
              have H' := Aside0.mk H
              clear H
              have hnb87 := NB283_268.out
              have hnc87 := NB268_283.out
              have hnb88 := NB283_273.out
              have hnc88 := NB273_283.out
              have hnb89 := NB283_278.out
              have hnc89 := NB278_283.out
              have hnb90 := NB283_288.out
              have hnc90 := NB288_283.out
              have hnb91 := NB283_293.out
              have hnc91 := NB293_283.out
              have hnb92 := NB283_294.out
              have hnc92 := NB294_283.out
              have hcz93_0 : w77.cell? ⟨gb283, 0, none⟩ = some (.int .i64 t279) := (blk_cell BK283.out 0).trans rfl
              have hcz93_1 : w77.cell? ⟨gb283, 1, none⟩ = some (.int .i64 t280) := (blk_cell BK283.out 1).trans rfl
              have hcz93_2 : w77.cell? ⟨gb283, 2, none⟩ = some (.string t281) := (blk_cell BK283.out 2).trans rfl
              have hfz93_0 := blk_frozen BK283.out 0
              have hfz93_1 := blk_frozen BK283.out 1
              have hfz93_2 := blk_frozen BK283.out 2
              have hnb94 := NB288_268.out
              have hnc94 := NB268_288.out
              have hnb95 := NB288_273.out
              have hnc95 := NB273_288.out
              have hnb96 := NB288_278.out
              have hnc96 := NB278_288.out
              have hnb97 := NB288_293.out
              have hnc97 := NB293_288.out
              have hnb98 := NB288_294.out
              have hnc98 := NB294_288.out
              have hcz99_0 : w77.cell? ⟨gb288, 0, none⟩ = some (.int .i64 t284) := (blk_cell BK288.out 0).trans rfl
              have hcz99_1 : w77.cell? ⟨gb288, 1, none⟩ = some (.int .i64 t285) := (blk_cell BK288.out 1).trans rfl
              have hcz99_2 : w77.cell? ⟨gb288, 2, none⟩ = some (.string t286) := (blk_cell BK288.out 2).trans rfl
              have hfz99_0 := blk_frozen BK288.out 0
              have hfz99_1 := blk_frozen BK288.out 1
              have hfz99_2 := blk_frozen BK288.out 2
              go_wp2
              go_meet
              case rel => exact ⟨_, (false), (by first | rfl | (simp; done) | (simp [*]; done)), H', ⟨by have := HJ4.out; have := HK2.out; first | omega | exact Nat.le_refl _⟩, ⟨by (with_reducible repeat (first | apply Kd.R_alloc | apply Kd.R_drewN | apply Kd.R_drew)); exact Kd.R_mono HO_5.out (fun _ hk => ⟨hk.1.1.1.1.1, ⟨hk.1.1.1.1.2.1, ⟨hk.1.1.1.1.2.2, ⟨hk.1.1.1.2, ⟨hk.1.1.2, ⟨hk.1.2, hk.2⟩⟩⟩⟩⟩⟩)⟩, ⟨by (with_reducible repeat (first | refine blk_drewN ?_ _ | refine blk_drew ?_ | refine blk_alloc ?_ _)); exact BK268.out⟩, ⟨by (with_reducible repeat (first | refine blk_drewN ?_ _ | refine blk_drew ?_ | refine blk_alloc ?_ _)); exact BK273.out⟩, ⟨by (with_reducible repeat (first | refine blk_drewN ?_ _ | refine blk_drew ?_ | refine blk_alloc ?_ _)); exact BK278.out⟩, ⟨by (with_reducible repeat (first | refine blk_drewN ?_ _ | refine blk_drew ?_ | refine blk_alloc ?_ _)); exact BK283.out⟩, ⟨by (with_reducible repeat (first | refine blk_drewN ?_ _ | refine blk_drew ?_ | refine blk_alloc ?_ _)); exact BK288.out⟩, ⟨by (with_reducible repeat (first | refine blk_drewN ?_ _ | refine blk_drew ?_ | refine blk_alloc ?_ _)); exact BK293.out⟩, ⟨by (with_reducible repeat (first | refine blk_drewN ?_ _ | refine blk_drew ?_ | refine blk_alloc ?_ _)); exact BK294.out⟩, ⟨by repeat (first | (with_reducible first | exact HB.out | apply below_alloc | apply pw_below_drewN | apply below_drew1 | refine below_set ?_ GE268.out | refine below_set ?_ GE273.out | refine below_set ?_ GE278.out | refine below_set ?_ GE283.out | refine below_set ?_ GE288.out | refine below_set ?_ GE293.out | refine below_set ?_ GE294.out) | exact HB.out)⟩⟩
             ·rw [if_neg c86] at H
              have c86b0 : (t284 == 0) = false := beq_eq_false_iff_ne.mpr c86
              have c86b1 : (t284 != 0) = true := bne_iff_ne.mpr c86
              by_cases c100 : x12_2 = 3
              ·rw [if_pos c100] at H
               have c100b0 : (x12_2 == 3) = true := beq_iff_eq.mpr c100
               have c100b1 : (x12_2 != 3) = false := bne_eq_false_iff_eq.mpr c100
               clear c100
               by_cases c101 : t295 > 0
               ·rw [if_pos c101] at H
                have c101b0 : decide (0 < t295) = true := decide_eq_true c101
                clear c101
                have H' := Aside0.mk H
                clear H
                have hnb102 := NB283_268.out
                have hnc102 := NB268_283.out
                have hnb103 := NB283_273.out
                have hnc103 := NB273_283.out
                have hnb104 := NB283_278.out
                have hnc104 := NB278_283.out
                have hnb105 := NB283_288.out
                have hnc105 := NB288_283.out
                have hnb106 := NB283_293.out
                have hnc106 := NB293_283.out
                have hnb107 := NB283_294.out
                have hnc107 := NB294_283.out
                have hcz108_0 : w77.cell? ⟨gb283, 0, none⟩ = some (.int .i64 t279) := (blk_cell BK283.out 0).trans rfl
                have hcz108_1 : w77.cell? ⟨gb283, 1, none⟩ = some (.int .i64 t280) := (blk_cell BK283.out 1).trans rfl
                have hcz108_2 : w77.cell? ⟨gb283, 2, none⟩ = some (.string t281) := (blk_cell BK283.out 2).trans rfl
                have hfz108_0 := blk_frozen BK283.out 0
                have hfz108_1 := blk_frozen BK283.out 1
                have hfz108_2 := blk_frozen BK283.out 2
                have hnb109 := NB288_268.out
                have hnc109 := NB268_288.out
                have hnb110 := NB288_273.out
                have hnc110 := NB273_288.out
                have hnb111 := NB288_278.out
                have hnc111 := NB278_288.out
                have hnb112 := NB288_293.out
                have hnc112 := NB293_288.out
                have hnb113 := NB288_294.out
                have hnc113 := NB294_288.out
                have hcz114_0 : w77.cell? ⟨gb288, 0, none⟩ = some (.int .i64 t284) := (blk_cell BK288.out 0).trans rfl
                have hcz114_1 : w77.cell? ⟨gb288, 1, none⟩ = some (.int .i64 t285) := (blk_cell BK288.out 1).trans rfl
                have hcz114_2 : w77.cell? ⟨gb288, 2, none⟩ = some (.string t286) := (blk_cell BK288.out 2).trans rfl
                have hfz114_0 := blk_frozen BK288.out 0
                have hfz114_1 := blk_frozen BK288.out 1
                have hfz114_2 := blk_frozen BK288.out 2
                go_wp2
                go_meet
                case rel => exact ⟨_, (true), (by first | rfl | (simp; done) | (simp [*]; done)), H', ⟨by have := HJ4.out; have := HK2.out; first | omega | exact Nat.le_refl _⟩, ⟨by (with_reducible repeat (first | apply Kd.R_alloc | apply Kd.R_drewN | apply Kd.R_drew)); exact Kd.R_mono HO_5.out (fun _ hk => ⟨hk.1.1.1.1.1, ⟨hk.1.1.1.1.2.1, ⟨hk.1.1.1.1.2.2, ⟨hk.1.1.1.2, ⟨hk.1.1.2, ⟨hk.1.2, hk.2⟩⟩⟩⟩⟩⟩)⟩, ⟨by (with_reducible repeat (first | refine blk_drewN ?_ _ | refine blk_drew ?_ | refine blk_alloc ?_ _)); exact BK268.out⟩, ⟨by (with_reducible repeat (first | refine blk_drewN ?_ _ | refine blk_drew ?_ | refine blk_alloc ?_ _)); exact BK273.out⟩, ⟨by (with_reducible repeat (first | refine blk_drewN ?_ _ | refine blk_drew ?_ | refine blk_alloc ?_ _)); exact BK278.out⟩, ⟨by (with_reducible repeat (first | refine blk_drewN ?_ _ | refine blk_drew ?_ | refine blk_alloc ?_ _)); exact BK283.out⟩, ⟨by (with_reducible repeat (first | refine blk_drewN ?_ _ | refine blk_drew ?_ | refine blk_alloc ?_ _)); exact BK288.out⟩, ⟨by (with_reducible repeat (first | refine blk_drewN ?_ _ | refine blk_drew ?_ | refine blk_alloc ?_ _)); exact BK293.out⟩, ⟨by (with_reducible repeat (first | refine blk_drewN ?_ _ | refine blk_drew ?_ | refine blk_alloc ?_ _)); exact BK294.out⟩, ⟨by repeat (first | (with_reducible first | exact HB.out | apply below_alloc | apply pw_below_drewN | apply below_drew1 | refine below_set ?_ GE268.out | refine below_set ?_ GE273.out | refine below_set ?_ GE278.out | refine below_set ?_ GE283.out | refine below_set ?_ GE288.out | refine below_set ?_ GE293.out | refine below_set ?_ GE294.out) | exact HB.out)⟩⟩
               ·rw [if_neg c101] at H
                have c101b0 : decide (0 < t295) = false := decide_eq_false c101
                clear c101
                by_cases c115 : x12_2 = 4
                ·rw [if_pos c115] at H
                 have c115b0 : (x12_2 == 4) = true := beq_iff_eq.mpr c115
                 have c115b1 : (x12_2 != 4) = false := bne_eq_false_iff_eq.mpr c115
                 clear c115
                 have H' := Aside0.mk H
                 clear H
                 have hnb116 := NB283_268.out
                 have hnc116 := NB268_283.out
                 have hnb117 := NB283_273.out
                 have hnc117 := NB273_283.out
                 have hnb118 := NB283_278.out
                 have hnc118 := NB278_283.out
                 have hnb119 := NB283_288.out
                 have hnc119 := NB288_283.out
                 have hnb120 := NB283_293.out
                 have hnc120 := NB293_283.out
                 have hnb121 := NB283_294.out
                 have hnc121 := NB294_283.out
                 have hcz122_0 : w77.cell? ⟨gb283, 0, none⟩ = some (.int .i64 t279) := (blk_cell BK283.out 0).trans rfl
                 have hcz122_1 : w77.cell? ⟨gb283, 1, none⟩ = some (.int .i64 t280) := (blk_cell BK283.out 1).trans rfl
                 have hcz122_2 : w77.cell? ⟨gb283, 2, none⟩ = some (.string t281) := (blk_cell BK283.out 2).trans rfl
                 have hfz122_0 := blk_frozen BK283.out 0
                 have hfz122_1 := blk_frozen BK283.out 1
                 have hfz122_2 := blk_frozen BK283.out 2
                 have hnb123 := NB288_268.out
                 have hnc123 := NB268_288.out
                 have hnb124 := NB288_273.out
                 have hnc124 := NB273_288.out
                 have hnb125 := NB288_278.out
                 have hnc125 := NB278_288.out
                 have hnb126 := NB288_293.out
                 have hnc126 := NB293_288.out
                 have hnb127 := NB288_294.out
                 have hnc127 := NB294_288.out
                 have hcz128_0 : w77.cell? ⟨gb288, 0, none⟩ = some (.int .i64 t284) := (blk_cell BK288.out 0).trans rfl
                 have hcz128_1 : w77.cell? ⟨gb288, 1, none⟩ = some (.int .i64 t285) := (blk_cell BK288.out 1).trans rfl
                 have hcz128_2 : w77.cell? ⟨gb288, 2, none⟩ = some (.string t286) := (blk_cell BK288.out 2).trans rfl
                 have hfz128_0 := blk_frozen BK288.out 0
                 have hfz128_1 := blk_frozen BK288.out 1
                 have hfz128_2 := blk_frozen BK288.out 2
                 go_wp2
                 go_meet
                 case rel => exact ⟨_, (decide (t295 < 0)), (by first | rfl | (simp; done) | (simp [*]; done)), H', ⟨by have := HJ4.out; have := HK2.out; first | omega | exact Nat.le_refl _⟩, ⟨by (with_reducible repeat (first | apply Kd.R_alloc | apply Kd.R_drewN | apply Kd.R_drew)); exact Kd.R_mono HO_5.out (fun _ hk => ⟨hk.1.1.1.1.1, ⟨hk.1.1.1.1.2.1, ⟨hk.1.1.1.1.2.2, ⟨hk.1.1.1.2, ⟨hk.1.1.2, ⟨hk.1.2, hk.2⟩⟩⟩⟩⟩⟩)⟩, ⟨by (with_reducible repeat (first | refine blk_drewN ?_ _ | refine blk_drew ?_ | refine blk_alloc ?_ _)); exact BK268.out⟩, ⟨by (with_reducible repeat (first | refine blk_drewN ?_ _ | refine blk_drew ?_ | refine blk_alloc ?_ _)); exact BK273.out⟩, ⟨by (with_reducible repeat (first | refine blk_drewN ?_ _ | refine blk_drew ?_ | refine blk_alloc ?_ _)); exact BK278.out⟩, ⟨by (with_reducible repeat (first | refine blk_drewN ?_ _ | refine blk_drew ?_ | refine blk_alloc ?_ _)); exact BK283.out⟩, ⟨by (with_reducible repeat (first | refine blk_drewN ?_ _ | refine blk_drew ?_ | refine blk_alloc ?_ _)); exact BK288.out⟩, ⟨by (with_reducible repeat (first | refine blk_drewN ?_ _ | refine blk_drew ?_ | refine blk_alloc ?_ _)); exact BK293.out⟩, ⟨by (with_reducible repeat (first | refine blk_drewN ?_ _ | refine blk_drew ?_ | refine blk_alloc ?_ _)); exact BK294.out⟩, ⟨by repeat (first | (with_reducible first | exact HB.out | apply below_alloc | apply pw_below_drewN | apply below_drew1 | refine below_set ?_ GE268.out | refine below_set ?_ GE273.out | refine below_set ?_ GE278.out | refine below_set ?_ GE283.out | refine below_set ?_ GE288.out | refine below_set ?_ GE293.out | refine below_set ?_ GE294.out) | exact HB.out)⟩⟩
                ·rw [if_neg c115] at H
                 have c115b0 : (x12_2 == 4) = false := beq_eq_false_iff_ne.mpr c115
                 have c115b1 : (x12_2 != 4) = true := bne_iff_ne.mpr c115
                 have H' := Aside0.mk H
                 clear H
                 have hnb129 := NB283_268.out
                 have hnc129 := NB268_283.out
                 have hnb130 := NB283_273.out
                 have hnc130 := NB273_283.out
                 have hnb131 := NB283_278.out
                 have hnc131 := NB278_283.out
                 have hnb132 := NB283_288.out
                 have hnc132 := NB288_283.out
                 have hnb133 := NB283_293.out
                 have hnc133 := NB293_283.out
                 have hnb134 := NB283_294.out
                 have hnc134 := NB294_283.out
                 have hcz135_0 : w77.cell? ⟨gb283, 0, none⟩ = some (.int .i64 t279) := (blk_cell BK283.out 0).trans rfl
                 have hcz135_1 : w77.cell? ⟨gb283, 1, none⟩ = some (.int .i64 t280) := (blk_cell BK283.out 1).trans rfl
                 have hcz135_2 : w77.cell? ⟨gb283, 2, none⟩ = some (.string t281) := (blk_cell BK283.out 2).trans rfl
                 have hfz135_0 := blk_frozen BK283.out 0
                 have hfz135_1 := blk_frozen BK283.out 1
                 have hfz135_2 := blk_frozen BK283.out 2
                 have hnb136 := NB288_268.out
                 have hnc136 := NB268_288.out
                 have hnb137 := NB288_273.out
                 have hnc137 := NB273_288.out
                 have hnb138 := NB288_278.out
                 have hnc138 := NB278_288.out
                 have hnb139 := NB288_293.out
                 have hnc139 := NB293_288.out
                 have hnb140 := NB288_294.out
                 have hnc140 := NB294_288.out
                 have hcz141_0 : w77.cell? ⟨gb288, 0, none⟩ = some (.int .i64 t284) := (blk_cell BK288.out 0).trans rfl
                 have hcz141_1 : w77.cell? ⟨gb288, 1, none⟩ = some (.int .i64 t285) := (blk_cell BK288.out 1).trans rfl
                 have hcz141_2 : w77.cell? ⟨gb288, 2, none⟩ = some (.string t286) := (blk_cell BK288.out 2).trans rfl
                 have hfz141_0 := blk_frozen BK288.out 0
                 have hfz141_1 := blk_frozen BK288.out 1
                 have hfz141_2 := blk_frozen BK288.out 2
                 go_wp2
                 go_meet
                 case rel => exact ⟨_, (false), (by first | rfl | (simp; done) | (simp [*]; done)), H', ⟨by have := HJ4.out; have := HK2.out; first | omega | exact Nat.le_refl _⟩, ⟨by (with_reducible repeat (first | apply Kd.R_alloc | apply Kd.R_drewN | apply Kd.R_drew)); exact Kd.R_mono HO_5.out (fun _ hk => ⟨hk.1.1.1.1.1, ⟨hk.1.1.1.1.2.1, ⟨hk.1.1.1.1.2.2, ⟨hk.1.1.1.2, ⟨hk.1.1.2, ⟨hk.1.2, hk.2⟩⟩⟩⟩⟩⟩)⟩, ⟨by (with_reducible repeat (first | refine blk_drewN ?_ _ | refine blk_drew ?_ | refine blk_alloc ?_ _)); exact BK268.out⟩, ⟨by (with_reducible repeat (first | refine blk_drewN ?_ _ | refine blk_drew ?_ | refine blk_alloc ?_ _)); exact BK273.out⟩, ⟨by (with_reducible repeat (first | refine blk_drewN ?_ _ | refine blk_drew ?_ | refine blk_alloc ?_ _)); exact BK278.out⟩, ⟨by (with_reducible repeat (first | refine blk_drewN ?_ _ | refine blk_drew ?_ | refine blk_alloc ?_ _)); exact BK283.out⟩, ⟨by (with_reducible repeat (first | refine blk_drewN ?_ _ | refine blk_drew ?_ | refine blk_alloc ?_ _)); exact BK288.out⟩, ⟨by (with_reducible repeat (first | refine blk_drewN ?_ _ | refine blk_drew ?_ | refine blk_alloc ?_ _)); exact BK293.out⟩, ⟨by (with_reducible repeat (first | refine blk_drewN ?_ _ | refine blk_drew ?_ | refine blk_alloc ?_ _)); exact BK294.out⟩, ⟨by repeat (first | (with_reducible first | exact HB.out | apply below_alloc | apply pw_below_drewN | apply below_drew1 | refine below_set ?_ GE268.out | refine below_set ?_ GE273.out | refine below_set ?_ GE278.out | refine below_set ?_ GE283.out | refine below_set ?_ GE288.out | refine below_set ?_ GE293.out | refine below_set ?_ GE294.out) | exact HB.out)⟩⟩
              ·rw [if_neg c100] at H
               have c100b0 : (x12_2 == 3) = false := beq_eq_false_iff_ne.mpr c100
               have c100b1 : (x12_2 != 3) = true := bne_iff_ne.mpr c100
               by_cases c142 : x12_2 = 4
               ·rw [if_pos c142] at H
                have c142b0 : (x12_2 == 4) = true := beq_iff_eq.mpr c142
                have c142b1 : (x12_2 != 4) = false := bne_eq_false_iff_eq.mpr c142
                clear c142
                have H' := Aside0.mk H
                clear H
                have hnb143 := NB283_268.out
                have hnc143 := NB268_283.out
                have hnb144 := NB283_273.out
                have hnc144 := NB273_283.out
                have hnb145 := NB283_278.out
                have hnc145 := NB278_283.out
                have hnb146 := NB283_288.out
                have hnc146 := NB288_283.out
                have hnb147 := NB283_293.out
                have hnc147 := NB293_283.out
                have hnb148 := NB283_294.out
                have hnc148 := NB294_283.out
                have hcz149_0 : w77.cell? ⟨gb283, 0, none⟩ = some (.int .i64 t279) := (blk_cell BK283.out 0).trans rfl
                have hcz149_1 : w77.cell? ⟨gb283, 1, none⟩ = some (.int .i64 t280) := (blk_cell BK283.out 1).trans rfl
                have hcz149_2 : w77.cell? ⟨gb283, 2, none⟩ = some (.string t281) := (blk_cell BK283.out 2).trans rfl
                have hfz149_0 := blk_frozen BK283.out 0
                have hfz149_1 := blk_frozen BK283.out 1
                have hfz149_2 := blk_frozen BK283.out 2
                have hnb150 := NB288_268.out
                have hnc150 := NB268_288.out
                have hnb151 := NB288_273.out
                have hnc151 := NB273_288.out
                have hnb152 := NB288_278.out
                have hnc152 := NB278_288.out
                have hnb153 := NB288_293.out
                have hnc153 := NB293_288.out
                have hnb154 := NB288_294.out
                have hnc154 := NB294_288.out
                have hcz155_0 : w77.cell? ⟨gb288, 0, none⟩ = some (.int .i64 t284) := (blk_cell BK288.out 0).trans rfl
                have hcz155_1 : w77.cell? ⟨gb288, 1, none⟩ = some (.int .i64 t285) := (blk_cell BK288.out 1).trans rfl
                have hcz155_2 : w77.cell? ⟨gb288, 2, none⟩ = some (.string t286) := (blk_cell BK288.out 2).trans rfl
                have hfz155_0 := blk_frozen BK288.out 0
                have hfz155_1 := blk_frozen BK288.out 1
                have hfz155_2 := blk_frozen BK288.out 2
                go_wp2
                go_meet
                case rel => exact ⟨_, (decide (t295 < 0)), (by first | rfl | (simp; done) | (simp [*]; done)), H', ⟨by have := HJ4.out; have := HK2.out; first | omega | exact Nat.le_refl _⟩, ⟨by (with_reducible repeat (first | apply Kd.R_alloc | apply Kd.R_drewN | apply Kd.R_drew)); exact Kd.R_mono HO_5.out (fun _ hk => ⟨hk.1.1.1.1.1, ⟨hk.1.1.1.1.2.1, ⟨hk.1.1.1.1.2.2, ⟨hk.1.1.1.2, ⟨hk.1.1.2, ⟨hk.1.2, hk.2⟩⟩⟩⟩⟩⟩)⟩, ⟨by (with_reducible repeat (first | refine blk_drewN ?_ _ | refine blk_drew ?_ | refine blk_alloc ?_ _)); exact BK268.out⟩, ⟨by (with_reducible repeat (first | refine blk_drewN ?_ _ | refine blk_drew ?_ | refine blk_alloc ?_ _)); exact BK273.out⟩, ⟨by (with_reducible repeat (first | refine blk_drewN ?_ _ | refine blk_drew ?_ | refine blk_alloc ?_ _)); exact BK278.out⟩, ⟨by (with_reducible repeat (first | refine blk_drewN ?_ _ | refine blk_drew ?_ | refine blk_alloc ?_ _)); exact BK283.out⟩, ⟨by (with_reducible repeat (first | refine blk_drewN ?_ _ | refine blk_drew ?_ | refine blk_alloc ?_ _)); exact BK288.out⟩, ⟨by (with_reducible repeat (first | refine blk_drewN ?_ _ | refine blk_drew ?_ | refine blk_alloc ?_ _)); exact BK293.out⟩, ⟨by (with_reducible repeat (first | refine blk_drewN ?_ _ | refine blk_drew ?_ | refine blk_alloc ?_ _)); exact BK294.out⟩, ⟨by repeat (first | (with_reducible first | exact HB.out | apply below_alloc | apply pw_below_drewN | apply below_drew1 | refine below_set ?_ GE268.out | refine below_set ?_ GE273.out | refine below_set ?_ GE278.out | refine below_set ?_ GE283.out | refine below_set ?_ GE288.out | refine below_set ?_ GE293.out | refine below_set ?_ GE294.out) | exact HB.out)⟩⟩
               ·rw [if_neg c142] at H
                have c142b0 : (x12_2 == 4) = false := beq_eq_false_iff_ne.mpr c142
                have c142b1 : (x12_2 != 4) = true := bne_iff_ne.mpr c142
                have H' := Aside0.mk H
                clear H
                have hnb156 := NB283_268.out
                have hnc156 := NB268_283.out
                have hnb157 := NB283_273.out
                have hnc157 := NB273_283.out
                have hnb158 := NB283_278.out
                have hnc158 := NB278_283.out
                have hnb159 := NB283_288.out
                have hnc159 := NB288_283.out
                have hnb160 := NB283_293.out
                have hnc160 := NB293_283.out
                have hnb161 := NB283_294.out
                have hnc161 := NB294_283.out
                have hcz162_0 : w77.cell? ⟨gb283, 0, none⟩ = some (.int .i64 t279) := (blk_cell BK283.out 0).trans rfl
                have hcz162_1 : w77.cell? ⟨gb283, 1, none⟩ = some (.int .i64 t280) := (blk_cell BK283.out 1).trans rfl
                have hcz162_2 : w77.cell? ⟨gb283, 2, none⟩ = some (.string t281) := (blk_cell BK283.out 2).trans rfl
                have hfz162_0 := blk_frozen BK283.out 0
                have hfz162_1 := blk_frozen BK283.out 1
                have hfz162_2 := blk_frozen BK283.out 2
                have hnb163 := NB288_268.out
                have hnc163 := NB268_288.out
                have hnb164 := NB288_273.out
                have hnc164 := NB273_288.out
                have hnb165 := NB288_278.out
                have hnc165 := NB278_288.out
                have hnb166 := NB288_293.out
                have hnc166 := NB293_288.out
                have hnb167 := NB288_294.out
                have hnc167 := NB294_288.out
                have hcz168_0 : w77.cell? ⟨gb288, 0, none⟩ = some (.int .i64 t284) := (blk_cell BK288.out 0).trans rfl
                have hcz168_1 : w77.cell? ⟨gb288, 1, none⟩ = some (.int .i64 t285) := (blk_cell BK288.out 1).trans rfl
                have hcz168_2 : w77.cell? ⟨gb288, 2, none⟩ = some (.string t286) := (blk_cell BK288.out 2).trans rfl
                have hfz168_0 := blk_frozen BK288.out 0
                have hfz168_1 := blk_frozen BK288.out 1
                have hfz168_2 := blk_frozen BK288.out 2
                go_wp2
                go_meet
                case rel => exact ⟨_, (false), (by first | rfl | (simp; done) | (simp [*]; done)), H', ⟨by have := HJ4.out; have := HK2.out; first | omega | exact Nat.le_refl _⟩, ⟨by (with_reducible repeat (first | apply Kd.R_alloc | apply Kd.R_drewN | apply Kd.R_drew)); exact Kd.R_mono HO_5.out (fun _ hk => ⟨hk.1.1.1.1.1, ⟨hk.1.1.1.1.2.1, ⟨hk.1.1.1.1.2.2, ⟨hk.1.1.1.2, ⟨hk.1.1.2, ⟨hk.1.2, hk.2⟩⟩⟩⟩⟩⟩)⟩, ⟨by (with_reducible repeat (first | refine blk_drewN ?_ _ | refine blk_drew ?_ | refine blk_alloc ?_ _)); exact BK268.out⟩, ⟨by (with_reducible repeat (first | refine blk_drewN ?_ _ | refine blk_drew ?_ | refine blk_alloc ?_ _)); exact BK273.out⟩, ⟨by (with_reducible repeat (first | refine blk_drewN ?_ _ | refine blk_drew ?_ | refine blk_alloc ?_ _)); exact BK278.out⟩, ⟨by (with_reducible repeat (first | refine blk_drewN ?_ _ | refine blk_drew ?_ | refine blk_alloc ?_ _)); exact BK283.out⟩, ⟨by (with_reducible repeat (first | refine blk_drewN ?_ _ | refine blk_drew ?_ | refine blk_alloc ?_ _)); exact BK288.out⟩, ⟨by (with_reducible repeat (first | refine blk_drewN ?_ _ | refine blk_drew ?_ | refine blk_alloc ?_ _)); exact BK293.out⟩, ⟨by (with_reducible repeat (first | refine blk_drewN ?_ _ | refine blk_drew ?_ | refine blk_alloc ?_ _)); exact BK294.out⟩, ⟨by repeat (first | (with_reducible first | exact HB.out | apply below_alloc | apply pw_below_drewN | apply below_drew1 | refine below_set ?_ GE268.out | refine below_set ?_ GE273.out | refine below_set ?_ GE278.out | refine below_set ?_ GE283.out | refine below_set ?_ GE288.out | refine below_set ?_ GE293.out | refine below_set ?_ GE294.out) | exact HB.out)⟩⟩
           case rest =>
            clear HC44
            try clear c1
            try clear c2
            try clear p2
            try clear c3
            try clear c4
            try clear c5
            try clear c6
            try clear p6
            try clear c7
            try clear c8
            try clear c9
            try clear c10
            try clear c11
            try clear c12
            try clear c13
            try clear c14
            try clear c15
            try clear c16
            try clear c17
            try clear c19
            try clear c19b0
            try clear c19b1
            try clear c29
            try clear c34
            try clear c35
            try clear c39
            try clear c39b0
            try clear c47
            try clear c48
            try clear c49
            try clear c53
            try clear c54
            try clear c55
            try clear c56
            try clear c60
            try clear c61
            try clear c62
            try clear c63
            try clear c64
            try clear p64
            try clear c68
            try clear c69
            try clear c70
            try clear c71
            try clear c72
            try clear c73
            try clear c78
            try clear c78b0
            try clear c78b1
            try clear c79
            try clear c80
            try clear c81
            try clear c82
            try clear c83
            try clear c84
            try clear c86
            try clear c86b0
            try clear c86b1
            try clear c87
            try clear c88
            try clear c89
            try clear c90
            try clear c91
            try clear c92
            try clear c94
            try clear c95
            try clear c96
            try clear c97
            try clear c98
            try clear c100
            try clear c100b0
            try clear c100b1
            try clear c101
            try clear c101b0
            try clear c102
            try clear c103
            try clear c104
            try clear c105
            try clear c106
            try clear c107
            try clear c109
            try clear c110
            try clear c111
            try clear c112
            try clear c113
            try clear c115
            try clear c115b0
            try clear c115b1
            try clear c116
            try clear c117
            try clear c118
            try clear c119
            try clear c120
            try clear c121
            try clear c123
            try clear c124
            try clear c125
            try clear c126
            try clear c127
            try clear c129
            try clear c130
            try clear c131
            try clear c132
            try clear c133
            try clear c134
            try clear c136
            try clear c137
            try clear c138
            try clear c139
            try clear c140
            try clear c142
            try clear c142b0
            try clear c142b1
            try clear c143
            try clear c144
            try clear c145
            try clear c146
            try clear c147
            try clear c148
            try clear c150
            try clear c151
            try clear c152
            try clear c153
            try clear c154
            try clear c156
            try clear c157
            try clear c158
            try clear c159
            try clear c160
            try clear c161
            try clear c163
            try clear c164
            try clear c165
            try clear c166
            try clear c167
            try clear hcz108_0
            try clear hcz108_1
            try clear hcz108_2
            try clear hcz114_0
            try clear hcz114_1
            try clear hcz114_2
            try clear hcz122_0
            try clear hcz122_1
            try clear hcz122_2
            try clear hcz128_0
            try clear hcz128_1
            try clear hcz128_2
            try clear hcz135_0
            try clear hcz135_1
            try clear hcz135_2
            try clear hcz141_0
            try clear hcz141_1
            try clear hcz141_2
            try clear hcz149_0
            try clear hcz149_1
            try clear hcz149_2
            try clear hcz155_0
            try clear hcz155_1
            try clear hcz155_2
            try clear hcz162_0
            try clear hcz162_1
            try clear hcz162_2
            try clear hcz168_0
            try clear hcz168_1
            try clear hcz168_2
            try clear hcz26_0
            try clear hcz26_1
            try clear hcz26_2
            try clear hcz30_0
            try clear hcz30_1
            try clear hcz30_2
            try clear hcz36_0
            try clear hcz36_1
            try clear hcz36_2
            try clear hcz37_0
            try clear hcz37_1
            try clear hcz37_2
            try clear hcz38_0
            try clear hcz38_1
            try clear hcz38_2
            try clear hcz50_0
            try clear hcz50_1
            try clear hcz50_2
            try clear hcz57_0
            try clear hcz57_1
            try clear hcz57_2
            try clear hcz65_0
            try clear hcz65_1
            try clear hcz65_2
            try clear hcz66_0
            try clear hcz66_1
            try clear hcz66_2
            try clear hcz74_0
            try clear hcz74_1
            try clear hcz74_2
            try clear hcz75_0
            try clear hcz75_1
            try clear hcz75_2
            try clear hcz76_0
            try clear hcz76_1
            try clear hcz76_2
            try clear hcz85_0
            try clear hcz85_1
            try clear hcz85_2
            try clear hcz93_0
            try clear hcz93_1
            try clear hcz93_2
            try clear hcz99_0
            try clear hcz99_1
            try clear hcz99_2
            try clear hfz108_0
            try clear hfz108_1
            try clear hfz108_2
            try clear hfz114_0
            try clear hfz114_1
            try clear hfz114_2
            try clear hfz122_0
            try clear hfz122_1
            try clear hfz122_2
            try clear hfz128_0
            try clear hfz128_1
            try clear hfz128_2
            try clear hfz135_0
            try clear hfz135_1
            try clear hfz135_2
            try clear hfz141_0
            try clear hfz141_1
            try clear hfz141_2
            try clear hfz149_0
            try clear hfz149_1
            try clear hfz149_2
            try clear hfz155_0
            try clear hfz155_1
            try clear hfz155_2
            try clear hfz162_0
            try clear hfz162_1
            try clear hfz162_2
            try clear hfz168_0
            try clear hfz168_1
            try clear hfz168_2
            try clear hfz26_0
            try clear hfz26_1
            try clear hfz26_2
            try clear hfz30_0
            try clear hfz30_1
            try clear hfz30_2
            try clear hfz36_0
            try clear hfz36_1
            try clear hfz36_2
            try clear hfz37_0
            try clear hfz37_1
            try clear hfz37_2
            try clear hfz38_0
            try clear hfz38_1
            try clear hfz38_2
            try clear hfz50_0
            try clear hfz50_1
            try clear hfz50_2
            try clear hfz57_0
            try clear hfz57_1
            try clear hfz57_2
            try clear hfz65_0
            try clear hfz65_1
            try clear hfz65_2
            try clear hfz66_0
            try clear hfz66_1
            try clear hfz66_2
            try clear hfz74_0
            try clear hfz74_1
            try clear hfz74_2
            try clear hfz75_0
            try clear hfz75_1
            try clear hfz75_2
            try clear hfz76_0
            try clear hfz76_1
            try clear hfz76_2
            try clear hfz85_0
            try clear hfz85_1
            try clear hfz85_2
            try clear hfz93_0
            try clear hfz93_1
            try clear hfz93_2
            try clear hfz99_0
            try clear hfz99_1
            try clear hfz99_2
            try clear p2
            try clear p6
            obtain ⟨kq, x108_43, rfl, HA, HJ43, HO_5, BK268, BK273, BK278, BK283, BK288, BK293, BK294, HB⟩ := hcut
            cases kq with
            | zero => exact absurd HA.out (by simp [quarrylaw17_AggParts.j2])
            | succ kj43 =>
             have H := HA.out
             clear HA
             simp only [quarrylaw17_AggParts.j2] at H
             by_cases c169 : x108_43 = true
             ·subst c169
              have H1 : (if (!(t289 == t284) || (!(t290 == t285) || (!(t291.toList == t286.toList)))) = true then (none) else (quarrylaw17_AggParts.l0 kj43 l0 l1 y261 (wrap64 (x12_2 + 1)))) = some r := by rw [if_pos rfl] at H; exact H
              clear H
              have H := H1
              clear H1
              by_cases c170 : (!(t289 == t284) || (!(t290 == t285) || (!(t291.toList == t286.toList)))) = true
              ·rw [if_pos c170] at H
               cases H
              ·rw [if_neg c170] at H
               have c170b0 : (!(t289 == t284) || (!(t290 == t285) || (!(t291.toList == t286.toList)))) = false := by simpa using c170
               clear c170
               have H' := Aside0.mk H
               clear H
               have hnb189 := NB288_268.out
               have hnc189 := NB268_288.out
               have hnb190 := NB288_273.out
               have hnc190 := NB273_288.out
               have hnb191 := NB288_278.out
               have hnc191 := NB278_288.out
               have hnb192 := NB288_283.out
               have hnc192 := NB283_288.out
               have hnb193 := NB288_293.out
               have hnc193 := NB293_288.out
               have hnb194 := NB288_294.out
               have hnc194 := NB294_288.out
               have hcz195_0 : wc.cell? ⟨gb288, 0, none⟩ = some (.int .i64 t284) := (blk_cell BK288.out 0).trans rfl
               have hcz195_1 : wc.cell? ⟨gb288, 1, none⟩ = some (.int .i64 t285) := (blk_cell BK288.out 1).trans rfl
               have hcz195_2 : wc.cell? ⟨gb288, 2, none⟩ = some (.string t286) := (blk_cell BK288.out 2).trans rfl
               have hfz195_0 := blk_frozen BK288.out 0
               have hfz195_1 := blk_frozen BK288.out 1
               have hfz195_2 := blk_frozen BK288.out 2
               have hnb196 := NB294_268.out
               have hnc196 := NB268_294.out
               have hnb197 := NB294_273.out
               have hnc197 := NB273_294.out
               have hnb198 := NB294_278.out
               have hnc198 := NB278_294.out
               have hnb199 := NB294_283.out
               have hnc199 := NB283_294.out
               have hnb200 := NB294_293.out
               have hnc200 := NB293_294.out
               have hcz201_0 : wc.cell? ⟨gb294, 0, none⟩ = some (.int .i64 t279) := (blk_cell BK294.out 0).trans rfl
               have hcz201_1 : wc.cell? ⟨gb294, 1, none⟩ = some (.int .i64 t280) := (blk_cell BK294.out 1).trans rfl
               have hcz201_2 : wc.cell? ⟨gb294, 2, none⟩ = some (.string t281) := (blk_cell BK294.out 2).trans rfl
               have hfz201_0 := blk_frozen BK294.out 0
               have hfz201_1 := blk_frozen BK294.out 1
               have hfz201_2 := blk_frozen BK294.out 2
               have hnb202 := NB293_268.out
               have hnc202 := NB268_293.out
               have hnb203 := NB293_273.out
               have hnc203 := NB273_293.out
               have hnb204 := NB293_278.out
               have hnc204 := NB278_293.out
               have hnb205 := NB293_283.out
               have hnc205 := NB283_293.out
               have hcz206_0 : wc.cell? ⟨gb293, 0, none⟩ = some (.int .i64 t289) := (blk_cell BK293.out 0).trans rfl
               have hcz206_1 : wc.cell? ⟨gb293, 1, none⟩ = some (.int .i64 t290) := (blk_cell BK293.out 1).trans rfl
               have hcz206_2 : wc.cell? ⟨gb293, 2, none⟩ = some (.string t291) := (blk_cell BK293.out 2).trans rfl
               have hfz206_0 := blk_frozen BK293.out 0
               have hfz206_1 := blk_frozen BK293.out 1
               have hfz206_2 := blk_frozen BK293.out 2
               go_wp2
               go_roundg kj43
               case measure => have := HJ4.out; have := HK2.out; have := HJ43.out; omega
               case rel => exact ⟨(wrap64 (x12_2 + 1)), (by first | rfl | (simp; done) | (simp [*]; done)), H', ⟨by have := HJ4.out; have := HK2.out; have := HJ43.out; omega⟩, ⟨by (with_reducible repeat (first | apply Kd.R_alloc | apply Kd.R_drewN | apply Kd.R_drew)); exact Kd.R_mono (Kd.R_far (p := ⟨gb294, 2, none⟩) (Kd.R_far (p := ⟨gb294, 1, none⟩) (Kd.R_far (p := ⟨gb294, 0, none⟩) (Kd.R_mono HO_5.out (fun k_ hk => (⟨hk, hk.2.2.2.2.2.2⟩ : _ ∧ k_ ≠ gb294))) (fun _ hk => hk.2) (.int .i64 t284)) (fun _ hk => hk.2) (.int .i64 t285)) (fun _ hk => hk.2) (.string t286)) (fun _ hk => ⟨hk.1.1, ⟨hk.1.2.1, hk.1.2.2.1⟩⟩)⟩, ⟨by (with_reducible repeat (first | refine blk_drewN ?_ _ | refine blk_drew ?_ | refine blk_alloc ?_ _)); refine blk_far ?_ NB268_294.out _; (with_reducible repeat (first | refine blk_drewN ?_ _ | refine blk_drew ?_ | refine blk_alloc ?_ _)); refine blk_far ?_ NB268_294.out _; (with_reducible repeat (first | refine blk_drewN ?_ _ | refine blk_drew ?_ | refine blk_alloc ?_ _)); refine blk_far ?_ NB268_294.out _; (with_reducible repeat (first | refine blk_drewN ?_ _ | refine blk_drew ?_ | refine blk_alloc ?_ _)); exact BK268.out⟩, ⟨by (with_reducible repeat (first | refine blk_drewN ?_ _ | refine blk_drew ?_ | refine blk_alloc ?_ _)); refine blk_far ?_ NB273_294.out _; (with_reducible repeat (first | refine blk_drewN ?_ _ | refine blk_drew ?_ | refine blk_alloc ?_ _)); refine blk_far ?_ NB273_294.out _; (with_reducible repeat (first | refine blk_drewN ?_ _ | refine blk_drew ?_ | refine blk_alloc ?_ _)); refine blk_far ?_ NB273_294.out _; (with_reducible repeat (first | refine blk_drewN ?_ _ | refine blk_drew ?_ | refine blk_alloc ?_ _)); exact BK273.out⟩, ⟨by (with_reducible repeat (first | refine blk_drewN ?_ _ | refine blk_drew ?_ | refine blk_alloc ?_ _)); refine blk_far ?_ NB278_294.out _; (with_reducible repeat (first | refine blk_drewN ?_ _ | refine blk_drew ?_ | refine blk_alloc ?_ _)); refine blk_far ?_ NB278_294.out _; (with_reducible repeat (first | refine blk_drewN ?_ _ | refine blk_drew ?_ | refine blk_alloc ?_ _)); refine blk_far ?_ NB278_294.out _; (with_reducible repeat (first | refine blk_drewN ?_ _ | refine blk_drew ?_ | refine blk_alloc ?_ _)); exact BK278.out⟩, ⟨by repeat (first | (with_reducible first | exact HB.out | apply below_alloc | apply pw_below_drewN | apply below_drew1 | refine below_set ?_ GE268.out | refine below_set ?_ GE273.out | refine below_set ?_ GE278.out | refine below_set ?_ GE283.out | refine below_set ?_ GE288.out | refine below_set ?_ GE293.out | refine below_set ?_ GE294.out) | exact HB.out)⟩⟩
             ·replace c169 := Bool.eq_false_iff.mpr c169
              subst c169
              have H1 : (if (!(t289 == t279) || (!(t290 == t280) || (!(t291.toList == t281.toList)))) = true then (none) else (quarrylaw17_AggParts.l0 kj43 l0 l1 y261 (wrap64 (x12_2 + 1)))) = some r := by rw [if_neg (show ¬ (false = true) by decide)] at H; exact H
              clear H
              have H := H1
              clear H1
              by_cases c207 : (!(t289 == t279) || (!(t290 == t280) || (!(t291.toList == t281.toList)))) = true
              ·rw [if_pos c207] at H
               cases H
              ·rw [if_neg c207] at H
               have c207b0 : (!(t289 == t279) || (!(t290 == t280) || (!(t291.toList == t281.toList)))) = false := by simpa using c207
               clear c207
               have H' := Aside0.mk H
               clear H
               have hnb221 := NB293_268.out
               have hnc221 := NB268_293.out
               have hnb222 := NB293_273.out
               have hnc222 := NB273_293.out
               have hnb223 := NB293_278.out
               have hnc223 := NB278_293.out
               have hnb224 := NB293_283.out
               have hnc224 := NB283_293.out
               have hnb225 := NB293_288.out
               have hnc225 := NB288_293.out
               have hnb226 := NB293_294.out
               have hnc226 := NB294_293.out
               have hcz227_0 : wc.cell? ⟨gb293, 0, none⟩ = some (.int .i64 t289) := (blk_cell BK293.out 0).trans rfl
               have hcz227_1 : wc.cell? ⟨gb293, 1, none⟩ = some (.int .i64 t290) := (blk_cell BK293.out 1).trans rfl
               have hcz227_2 : wc.cell? ⟨gb293, 2, none⟩ = some (.string t291) := (blk_cell BK293.out 2).trans rfl
               have hfz227_0 := blk_frozen BK293.out 0
               have hfz227_1 := blk_frozen BK293.out 1
               have hfz227_2 := blk_frozen BK293.out 2
               have hnb228 := NB294_268.out
               have hnc228 := NB268_294.out
               have hnb229 := NB294_273.out
               have hnc229 := NB273_294.out
               have hnb230 := NB294_278.out
               have hnc230 := NB278_294.out
               have hnb231 := NB294_283.out
               have hnc231 := NB283_294.out
               have hnb232 := NB294_288.out
               have hnc232 := NB288_294.out
               have hcz233_0 : wc.cell? ⟨gb294, 0, none⟩ = some (.int .i64 t279) := (blk_cell BK294.out 0).trans rfl
               have hcz233_1 : wc.cell? ⟨gb294, 1, none⟩ = some (.int .i64 t280) := (blk_cell BK294.out 1).trans rfl
               have hcz233_2 : wc.cell? ⟨gb294, 2, none⟩ = some (.string t281) := (blk_cell BK294.out 2).trans rfl
               have hfz233_0 := blk_frozen BK294.out 0
               have hfz233_1 := blk_frozen BK294.out 1
               have hfz233_2 := blk_frozen BK294.out 2
               go_wp2
               go_roundg kj43
               case measure => have := HJ4.out; have := HK2.out; have := HJ43.out; omega
               case rel => exact ⟨(wrap64 (x12_2 + 1)), (by first | rfl | (simp; done) | (simp [*]; done)), H', ⟨by have := HJ4.out; have := HK2.out; have := HJ43.out; omega⟩, ⟨by (with_reducible repeat (first | apply Kd.R_alloc | apply Kd.R_drewN | apply Kd.R_drew)); exact Kd.R_mono HO_5.out (fun _ hk => ⟨hk.1, ⟨hk.2.1, hk.2.2.1⟩⟩)⟩, ⟨by (with_reducible repeat (first | refine blk_drewN ?_ _ | refine blk_drew ?_ | refine blk_alloc ?_ _)); exact BK268.out⟩, ⟨by (with_reducible repeat (first | refine blk_drewN ?_ _ | refine blk_drew ?_ | refine blk_alloc ?_ _)); exact BK273.out⟩, ⟨by (with_reducible repeat (first | refine blk_drewN ?_ _ | refine blk_drew ?_ | refine blk_alloc ?_ _)); exact BK278.out⟩, ⟨by repeat (first | (with_reducible first | exact HB.out | apply below_alloc | apply pw_below_drewN | apply below_drew1 | refine below_set ?_ GE268.out | refine below_set ?_ GE273.out | refine below_set ?_ GE278.out | refine below_set ?_ GE283.out | refine below_set ?_ GE288.out | refine below_set ?_ GE293.out | refine below_set ?_ GE294.out) | exact HB.out)⟩⟩
          ·rw [if_neg c39] at H
           have c39b0 : decide (x12_2 ≤ 4) = false := decide_eq_false c39
           clear c39
           obtain rfl := Option.some.inj H
           go_wp2
           go_ret
           exact ⟨by first | rfl | (simp [errW_none, errW_some] <;> rfl) | (simp [*, errW_none, errW_some] <;> rfl), by repeat (first | (with_reducible first | exact HB.out | apply below_alloc | apply pw_below_drewN | apply below_drew1 | refine below_set ?_ GE268.out | refine below_set ?_ GE273.out | refine below_set ?_ GE278.out) | exact HB.out)⟩
       ·rw [if_neg c19] at H
        cases H
      ·rw [if_neg c15] at H
       cases H
     ·rw [if_neg c14] at H
      cases H
 ·rw [if_neg c4] at H
  cases H
end Go.Proofs.Ytgjfciohmgpohaa.P
end
section
namespace Go.Proofs.Ytgjfciohmgpohaa.Pure
set_option linter.unusedVariables false
set_option linter.unusedSimpArgs false
open Go.RowKit Go.Proofs.Ytgjfciohmgpohaa.P Go.Proofs.YtgjfciohmgpohaaW.PrintWords Go.Proofs.YtgjfciohmgpohaaW.PrintLast Go.Proofs.YtgjfciohmgpohaaW.PrintMore
def okV (x : S32) : Bool := chkR x.f0 x.f1 x.f2 == 0
theorem right_loop : ∀ (s p : List S32), (p ++ s).length < 140737488355328 → Ev (fun k => quarrylaw17_right.l0 k (p ++ s) (p.length : Int)) (s.all okV && decide (((p ++ s).length : Int) ≤ 300))
  | [], p, hl => by
    refine Ev.succ ?_
    simp only [quarrylaw17_right.l0, List.append_nil, Int.lt_irrefl, if_false]
    exact Ev.pure _
  | x :: s, p, hl => by
    refine Ev.succ ?_
    have h1 : (p.length : Int) < ((p ++ x :: s).length : Int) := by simp; omega
    have h2 : (0 : Int) ≤ (p.length : Int) := by omega
    simp only [quarrylaw17_right.l0, if_pos h1, if_pos h2, rd_at, quarryref01_Check.f, Option.bind_some]
    by_cases h : chkR x.f0 x.f1 x.f2 = 0
    · simp only [if_pos h]
      have ih := right_loop s (p ++ [x]) (by simpa using hl)
      have hw : wrap64 ((p.length : Int) + 1) = ((p ++ [x]).length : Int) := by
        simp at hl
        unfold wrap64
        simp
        omega
      rw [hw]
      have hb : (x :: s).all okV = s.all okV := by simp [okV, h]
      rw [hb]
      simpa using ih
    · simp only [if_neg h]
      have hb : (x :: s).all okV = false := by simp [okV, h]
      rw [hb]
      exact Ev.pure _
theorem right_ev (l : List S32) (hl : l.length < 140737488355328) : Ev (fun k => quarrylaw17_right.f k l) (l.all okV && decide ((l.length : Int) ≤ 300)) := by
  have := right_loop l [] (by simpa using hl)
  simpa [quarrylaw17_right.f] using this
end Go.Proofs.Ytgjfciohmgpohaa.Pure
end
section
namespace Go.Proofs.Ytgjfciohmgpohaa.Pure
set_option linter.unusedVariables false
set_option linter.unusedSimpArgs false
open Go.RowKit Go.Proofs.Ytgjfciohmgpohaa.P Go.Proofs.YtgjfciohmgpohaaW.PrintWords Go.Proofs.YtgjfciohmgpohaaW.PrintLast Go.Proofs.YtgjfciohmgpohaaW.PrintMore
theorem V0_list : V0.toList = [] := by rw [Go.ByteArray.toList_eq]; rfl
theorem cmpI_neg (a b : Int) : cmpI b a = -cmpI a b := by
  unfold cmpI
  by_cases h : a < b
  · rw [if_pos h, if_neg (by omega), if_pos h]; rfl
  · by_cases h' : b < a
    · rw [if_pos h', if_neg h, if_pos h']
    · rw [if_neg h', if_neg h, if_neg h, if_neg h']; rfl
theorem cmpI_zero {a b : Int} : cmpI a b = 0 ↔ a = b := by
  unfold cmpI
  by_cases h : a < b
  · rw [if_pos h]; omega
  · by_cases h' : b < a
    · rw [if_neg h, if_pos h']; omega
    · rw [if_neg h, if_neg h']; omega
theorem cmpB_neg : ∀ a b : List UInt8, Lib.compareBytes b a = -Lib.compareBytes a b
  | [], [] => rfl
  | [], _ :: _ => rfl
  | _ :: _, [] => rfl
  | a :: l, b :: m => by
    unfold Lib.compareBytes
    have ih := cmpB_neg l m
    by_cases h : a < b
    · have h' : ¬ b < a := fun h2 => by have := UInt8.lt_iff_toNat_lt.1 h; have := UInt8.lt_iff_toNat_lt.1 h2; omega
      rw [if_pos h, if_neg h', if_pos h]; rfl
    · by_cases h' : b < a
      · rw [if_pos h', if_neg h, if_pos h']
      · rw [if_neg h', if_neg h, if_neg h, if_neg h', ih]
theorem cmpB_zero : ∀ a b : List UInt8, Lib.compareBytes a b = 0 ↔ a = b
  | [], [] => by simp [Lib.compareBytes]
  | [], _ :: _ => by simp [Lib.compareBytes]
  | _ :: _, [] => by simp [Lib.compareBytes]
  | a :: l, b :: m => by
    unfold Lib.compareBytes
    have ih := cmpB_zero l m
    by_cases h : a < b
    · rw [if_pos h]
      refine ⟨fun h1 => by omega, fun h1 => ?_⟩
      injection h1 with h2 h3; subst h2
      have := UInt8.lt_iff_toNat_lt.1 h; omega
    · by_cases h' : b < a
      · rw [if_neg h, if_pos h']
        refine ⟨fun h1 => by omega, fun h1 => ?_⟩
        injection h1 with h2 h3; subst h2
        have := UInt8.lt_iff_toNat_lt.1 h'; omega
      · rw [if_neg h, if_neg h', ih]
        have e : a = b := by
          apply UInt8.toNat_inj.1
          have h1 : ¬ a.toNat < b.toNat := fun x => h (UInt8.lt_iff_toNat_lt.2 x)
          have h2 : ¬ b.toNat < a.toNat := fun x => h' (UInt8.lt_iff_toNat_lt.2 x)
          omega
        constructor
        · rintro rfl; rw [e]
        · intro h1; injection h1
theorem cmpT_neg (a b : ByteArray) : cmpT b a = -cmpT a b := cmpB_neg _ _
theorem cmpT_zero {a b : ByteArray} : cmpT a b = 0 ↔ a = b := by
  unfold cmpT
  rw [cmpB_zero]
  constructor
  · intro h
    cases a; cases b
    exact congrArg ByteArray.mk (Array.toList_inj.1 h)
  · rintro rfl; rfl
theorem cmpV_neg (x y : S32) : cmpV y x = -cmpV x y := by
  unfold cmpV
  by_cases h : x.f0 = y.f0
  · rw [if_pos h, if_pos h.symm]
    by_cases h1 : x.f0 = 1 ∨ x.f0 = 2
    · rw [if_pos h1, if_pos (by omega), cmpI_neg]
    · rw [if_neg h1, if_neg (by omega)]
      by_cases h2 : x.f0 = 3 ∨ x.f0 = 4
      · rw [if_pos h2, if_pos (by omega), cmpT_neg]
      · rw [if_neg h2, if_neg (by omega)]; rfl
  · rw [if_neg h, if_neg (fun e => h e.symm), cmpI_neg]
theorem okV_num {x : S32} (h : okV x = true) (h2 : x.f0 = 1 ∨ x.f0 = 2) : x.f2 = V0 := by
  have h' : chkR x.f0 x.f1 x.f2 = 0 := beq_iff_eq.1 h
  have hc : x.f2.toList = [] := by
    unfold chkR at h'
    rw [if_neg (by omega)] at h'
    by_cases h1 : x.f0 = 1
    · rw [if_pos h1] at h'
      by_cases hc : (x.f1 = 0 ∨ x.f1 = 1) ∧ x.f2.toList = []
      · exact hc.2
      · rw [if_neg hc] at h'; omega
    · rw [if_neg h1, if_pos (by omega)] at h'
      by_cases hc : x.f2.toList = []
      · exact hc
      · rw [if_neg hc] at h'; omega
  exact toList_inj (hc.trans V0_list.symm)
theorem okV_text {x : S32} (h : okV x = true) (h1 : x.f0 = 3 ∨ x.f0 = 4) : x.f1 = 0 := by
  have h' : chkR x.f0 x.f1 x.f2 = 0 := beq_iff_eq.1 h
  unfold chkR at h'
  rw [if_neg (by omega), if_neg (by omega), if_neg (by omega), if_pos h1] at h'
  by_cases hc : x.f1 = 0
  · exact hc
  · rw [if_neg hc] at h'; omega
theorem okV_kind {x : S32} (h : okV x = true) : 0 ≤ x.f0 ∧ x.f0 ≤ 4 := by
  have h' : chkR x.f0 x.f1 x.f2 = 0 := beq_iff_eq.1 h
  unfold chkR at h'
  by_cases h0 : x.f0 = 0
  · omega
  by_cases h1 : x.f0 = 1
  · omega
  by_cases h2 : x.f0 = 2
  · omega
  by_cases h3 : x.f0 = 3 ∨ x.f0 = 4
  · omega
  rw [if_neg h0, if_neg h1, if_neg h2, if_neg h3] at h'
  omega
theorem cmpV_zero {x y : S32} (hx : okV x = true) (hy : okV y = true) (hk : x.f0 = y.f0) (h0 : ¬ x.f0 = 0) : cmpV x y = 0 ↔ x = y := by
  have k := okV_kind hx
  unfold cmpV
  rw [if_pos hk]
  by_cases h1 : x.f0 = 1 ∨ x.f0 = 2
  · rw [if_pos h1, cmpI_zero]
    have tx := okV_num hx h1
    have ty := okV_num hy (by omega)
    constructor
    · intro h; cases x; cases y; simp only at hk h tx ty; subst hk; subst h; subst tx; subst ty; rfl
    · rintro rfl; rfl
  · have h3 : x.f0 = 3 ∨ x.f0 = 4 := by omega
    rw [if_neg h1, if_pos h3, cmpT_zero]
    have tx := okV_text hx h3
    have ty := okV_text hy (by omega)
    constructor
    · intro h; cases x; cases y; simp only at hk h tx ty; subst hk; subst h; subst tx; subst ty; rfl
    · rintro rfl; rfl
end Go.Proofs.Ytgjfciohmgpohaa.Pure
end
section
namespace Go.Proofs.Ytgjfciohmgpohaa.Pure
set_option linter.unusedVariables false
set_option linter.unusedSimpArgs false
open Go.RowKit Go.Proofs.Ytgjfciohmgpohaa.P Go.Proofs.YtgjfciohmgpohaaW.PrintWords Go.Proofs.YtgjfciohmgpohaaW.PrintLast Go.Proofs.YtgjfciohmgpohaaW.PrintMore
theorem cmpI_lt {a b : Int} : cmpI a b = -1 ↔ a < b := by
  unfold cmpI
  by_cases h : a < b
  · rw [if_pos h]; exact ⟨fun _ => h, fun _ => rfl⟩
  · by_cases h' : b < a
    · rw [if_neg h, if_pos h']; constructor <;> intro <;> omega
    · rw [if_neg h, if_neg h']; constructor <;> intro <;> omega
theorem cmpB_trans : ∀ a b c : List UInt8, Lib.compareBytes a b = -1 → Lib.compareBytes b c = -1 → Lib.compareBytes a c = -1
  | [], _, [], h1, h2 => by
    rename_i b
    cases b with
    | nil => exact absurd h1 (by simp [Lib.compareBytes])
    | cons x m => exact absurd h2 (by simp [Lib.compareBytes])
  | [], _, _ :: _, _, _ => by simp [Lib.compareBytes]
  | _ :: _, [], _, h1, _ => absurd h1 (by simp [Lib.compareBytes])
  | _ :: _, _ :: _, [], _, h2 => absurd h2 (by simp [Lib.compareBytes])
  | a :: l, b :: m, c :: n, h1, h2 => by
    unfold Lib.compareBytes at h1 h2 ⊢
    have e1 := @UInt8.lt_iff_toNat_lt a b
    have e2 := @UInt8.lt_iff_toNat_lt b a
    have e3 := @UInt8.lt_iff_toNat_lt b c
    have e4 := @UInt8.lt_iff_toNat_lt c b
    have e5 := @UInt8.lt_iff_toNat_lt a c
    have e6 := @UInt8.lt_iff_toNat_lt c a
    by_cases p1 : a.toNat < b.toNat
    · by_cases p3 : b.toNat < c.toNat
      · rw [if_pos (e5.2 (by omega))]
      · rw [if_neg (fun h => p3 (e3.1 h))] at h2
        by_cases p4 : c.toNat < b.toNat
        · rw [if_pos (e4.2 p4)] at h2; omega
        · rw [if_pos (e5.2 (by omega))]
    · rw [if_neg (fun h => p1 (e1.1 h))] at h1
      by_cases p2 : b.toNat < a.toNat
      · rw [if_pos (e2.2 p2)] at h1; omega
      · rw [if_neg (fun h => p2 (e2.1 h))] at h1
        by_cases p3 : b.toNat < c.toNat
        · rw [if_pos (e5.2 (by omega))]
        · rw [if_neg (fun h => p3 (e3.1 h))] at h2
          by_cases p4 : c.toNat < b.toNat
          · rw [if_pos (e4.2 p4)] at h2; omega
          · rw [if_neg (fun h => p4 (e4.1 h))] at h2
            rw [if_neg (fun h => by have := e5.1 h; omega), if_neg (fun h => by have := e6.1 h; omega)]
            exact cmpB_trans l m n h1 h2
theorem cmpV_lt {x y : S32} : cmpV x y = -1 ↔ x.f0 < y.f0 ∨ (x.f0 = y.f0 ∧ ((x.f0 = 1 ∨ x.f0 = 2) ∧ x.f1 < y.f1 ∨ (x.f0 = 3 ∨ x.f0 = 4) ∧ cmpT x.f2 y.f2 = -1)) := by
  unfold cmpV
  by_cases h : x.f0 = y.f0
  · rw [if_pos h]
    by_cases h1 : x.f0 = 1 ∨ x.f0 = 2
    · rw [if_pos h1, cmpI_lt]
      constructor
      · intro h2; exact .inr ⟨h, .inl ⟨h1, h2⟩⟩
      · rintro (h2 | ⟨_, ⟨_, h2⟩ | ⟨h2, _⟩⟩)
        · omega
        · exact h2
        · omega
    · rw [if_neg h1]
      by_cases h2 : x.f0 = 3 ∨ x.f0 = 4
      · rw [if_pos h2]
        constructor
        · intro h3; exact .inr ⟨h, .inr ⟨h2, h3⟩⟩
        · rintro (h3 | ⟨_, ⟨h3, _⟩ | ⟨_, h3⟩⟩)
          · omega
          · exact absurd h3 h1
          · exact h3
      · rw [if_neg h2]
        constructor
        · intro h3; omega
        · rintro (h3 | ⟨_, ⟨h3, _⟩ | ⟨h3, _⟩⟩)
          · omega
          · exact absurd h3 h1
          · exact absurd h3 h2
  · rw [if_neg h, cmpI_lt]
    constructor
    · intro h1; exact .inl h1
    · rintro (h1 | ⟨h1, _⟩)
      · exact h1
      · exact absurd h1 h
theorem cmpV_trans {x y z : S32} (h1 : cmpV x y = -1) (h2 : cmpV y z = -1) : cmpV x z = -1 := by
  rw [cmpV_lt] at *
  rcases h1 with h1 | ⟨e1, h1⟩
  · rcases h2 with h2 | ⟨e2, _⟩
    · exact .inl (by omega)
    · exact .inl (by omega)
  · rcases h2 with h2 | ⟨e2, h2⟩
    · exact .inl (by omega)
    · refine .inr ⟨by omega, ?_⟩
      rcases h1 with ⟨k1, h1⟩ | ⟨k1, h1⟩
      · rcases h2 with ⟨k2, h2⟩ | ⟨k2, h2⟩
        · exact .inl ⟨k1, by omega⟩
        · omega
      · rcases h2 with ⟨k2, h2⟩ | ⟨k2, h2⟩
        · omega
        · exact .inr ⟨k1, cmpB_trans _ _ _ h1 h2⟩
theorem cmpV_tr {x y z : S32} {sg : Int} (hs : sg = -1 ∨ sg = 1) (h1 : cmpV x y = sg) (h2 : cmpV y z = sg) : cmpV x z = sg := by
  rcases hs with rfl | rfl
  · exact cmpV_trans h1 h2
  · have a : cmpV y x = -1 := by rw [cmpV_neg x y, h1]
    have b : cmpV z y = -1 := by rw [cmpV_neg y z, h2]
    have c := cmpV_trans b a
    rw [cmpV_neg z x, c]; rfl
theorem cmpV_self (x : S32) : cmpV x x = 0 := by
  have h := cmpV_neg x x
  omega
theorem cmpV_kind {x y : S32} (h : cmpV x y = 0) : x.f0 = y.f0 := by
  unfold cmpV at h
  by_cases hk : x.f0 = y.f0
  · exact hk
  · rw [if_neg hk, cmpI_zero] at h; exact h
def cnt (l : List S32) : Nat := (l.filter fun v => decide (¬ v.f0 = 0)).length
theorem cnt_cons (v : S32) (l : List S32) : cnt (v :: l) = (if v.f0 = 0 then 0 else 1) + cnt l := by
  unfold cnt
  rw [List.filter_cons]
  by_cases h : v.f0 = 0
  · rw [if_neg (by simp [h]), if_pos h]; omega
  · rw [if_pos (by simp [h]), if_neg h, List.length_cons]; omega
theorem cnt_app (a b : List S32) : cnt (a ++ b) = cnt a + cnt b := by unfold cnt; rw [List.filter_append, List.length_append]
theorem cnt_le (l : List S32) : cnt l ≤ l.length := List.length_filter_le _ _
theorem go_count : ∀ (l : List S32) (n : Nat), n + l.length < 9223372036854775807 → goG false (.count n) l = some (.count ((n + cnt l : Nat) : Int))
  | [], n, h => by simp [goG, cnt]
  | v :: l, n, h => by
    rw [List.length_cons] at h
    unfold goG addP
    by_cases h0 : v.f0 = 0
    · rw [if_pos (show v.f0 = 0 ∧ false = false from ⟨h0, rfl⟩), if_pos rfl, go_count l n (by omega), cnt_cons, if_pos h0, Nat.zero_add]
    · rw [if_neg (show ¬ (v.f0 = 0 ∧ false = false) from fun h => h0 h.1)]
      simp only [if_true]
      have hw : wrap64 ((n : Int) + 1) = ((n + 1 : Nat) : Int) := by unfold wrap64; omega
      rw [hw, go_count l (n + 1) (by omega), cnt_cons, if_neg h0]
      congr 3
      omega
def bst (sg : Int) : S32 → List S32 → S32
  | u, [] => u
  | u, v :: t => bst sg (if v.f0 = 0 then u else if u.f0 = 0 ∨ cmpV v u = sg then v else u) t
theorem go_best (sg : Int) : ∀ (l : List S32) (u : S32), goG false (.best u sg) l = some (.best (bst sg u l) sg)
  | [], u => rfl
  | v :: l, u => by
    unfold goG addP bst
    by_cases h0 : v.f0 = 0
    · rw [if_pos (show v.f0 = 0 ∧ false = false from ⟨h0, rfl⟩), if_pos rfl, if_pos h0]; exact go_best sg l u
    · rw [if_neg (show ¬ (v.f0 = 0 ∧ false = false) from fun h => h0 h.1), if_neg h0]
      by_cases h1 : u.f0 = 0 ∨ cmpV v u = sg
      · simp only [if_pos h1, if_true]; exact go_best sg l v
      · simp only [if_neg h1, if_true]; exact go_best sg l u
theorem gath_count (l : List S32) (h : l.length < 9223372036854775807) : gathP 1 l = (numV (cnt l), true) := by
  have : gathP 1 l = match goG false (.count ((0 : Nat) : Int)) l with | none => (zeroV, false) | some s => (valP s, true) := rfl
  rw [this, go_count l 0 (by omega), Nat.zero_add]
  rfl
theorem gath_min (l : List S32) : gathP 3 l = (bst (-1) zeroV l, true) := by
  have : gathP 3 l = match goG false (.best zeroV (-1)) l with | none => (zeroV, false) | some s => (valP s, true) := rfl
  rw [this, go_best]
  rfl
theorem gath_max (l : List S32) : gathP 4 l = (bst 1 zeroV l, true) := by
  have : gathP 4 l = match goG false (.best zeroV 1) l with | none => (zeroV, false) | some s => (valP s, true) := rfl
  rw [this, go_best]
  rfl
def Best (sg : Int) (P : S32 → Prop) (r : S32) : Prop := (P r ∧ ¬ r.f0 = 0 ∧ ∀ x, P x → ¬ x.f0 = 0 → ¬ cmpV x r = sg) ∨ (r = zeroV ∧ ∀ x, P x → x.f0 = 0)
theorem best_of {sg : Int} (hs : sg = -1 ∨ sg = 1) : ∀ (l : List S32) (u : S32) (P : S32 → Prop), Best sg P u → Best sg (fun x => P x ∨ x ∈ l) (bst sg u l)
  | [], u, P, h => by
    have e : (fun x => P x ∨ x ∈ ([] : List S32)) = P := by funext x; simp
    rw [e]; exact h
  | v :: l, u, P, h => by
    unfold bst
    have e : (fun x => P x ∨ x ∈ v :: l) = (fun x => (P x ∨ x = v) ∨ x ∈ l) := by funext x; simp [or_assoc]
    rw [e]
    refine best_of hs l _ (fun x => P x ∨ x = v) ?_
    by_cases h0 : v.f0 = 0
    · rw [if_pos h0]
      rcases h with ⟨h1, h2, h3⟩ | ⟨h1, h2⟩
      · exact .inl ⟨.inl h1, h2, fun x hx hn => hx.elim (fun hx => h3 x hx hn) (fun hx => absurd (hx ▸ h0) hn)⟩
      · exact .inr ⟨h1, fun x hx => hx.elim (h2 x) (fun hx => hx ▸ h0)⟩
    · rw [if_neg h0]
      by_cases hu : u.f0 = 0
      · rw [if_pos (.inl hu)]
        refine .inl ⟨.inr rfl, h0, fun x hx hn => ?_⟩
        rcases hx with hx | rfl
        · rcases h with ⟨_, h2, _⟩ | ⟨_, h2⟩
          · exact absurd hu h2
          · exact absurd (h2 x hx) hn
        · rw [cmpV_self]; rcases hs with rfl | rfl <;> decide
      · have hh : P u ∧ ∀ x, P x → ¬ x.f0 = 0 → ¬ cmpV x u = sg := by
          rcases h with ⟨h1, _, h3⟩ | ⟨h1, _⟩
          · exact ⟨h1, h3⟩
          · exact absurd (by rw [h1]; rfl) hu
        by_cases hc : cmpV v u = sg
        · rw [if_pos (.inr hc)]
          refine .inl ⟨.inr rfl, h0, fun x hx hn => ?_⟩
          rcases hx with hx | rfl
          · exact fun hxv => hh.2 x hx hn (cmpV_tr hs hxv hc)
          · rw [cmpV_self]; rcases hs with rfl | rfl <;> decide
        · rw [if_neg (fun h => h.elim hu hc)]
          refine .inl ⟨.inl hh.1, hu, fun x hx hn => ?_⟩
          rcases hx with hx | rfl
          · exact hh.2 x hx hn
          · exact hc
theorem best_all {sg : Int} (hs : sg = -1 ∨ sg = 1) (l : List S32) : Best sg (fun x => x ∈ l) (bst sg zeroV l) := by
  have h := best_of hs l zeroV (fun _ => False) (.inr ⟨rfl, fun _ h => h.elim⟩)
  have e : (fun x => False ∨ x ∈ l) = (fun x => x ∈ l) := by funext x; simp
  rwa [e] at h
theorem best_one {sg : Int} (hs : sg = -1 ∨ sg = 1) {P : S32 → Prop} (hP : ∀ x, P x → okV x = true) {r s : S32} (h1 : Best sg P r) (h2 : Best sg P s) : r = s := by
  rcases h1 with ⟨a1, a2, a3⟩ | ⟨a1, a2⟩
  · rcases h2 with ⟨b1, b2, b3⟩ | ⟨b1, b2⟩
    · have c1 := a3 s b1 b2
      have c2 := b3 r a1 a2
      have c3 := cmpV_s3 r s
      have c4 := cmpV_neg r s
      have hz : cmpV r s = 0 := by
        unfold S3 at c3
        rcases hs with rfl | rfl <;> omega
      exact (cmpV_zero (hP r a1) (hP s b1) (cmpV_kind hz) a2).1 hz
    · exact absurd (b2 r a1) a2
  · rcases h2 with ⟨b1, b2, _⟩ | ⟨b1, _⟩
    · exact absurd (a2 s b1) b2
    · rw [a1, b1]
end Go.Proofs.Ytgjfciohmgpohaa.Pure
end
section
namespace Go.Proofs.Ytgjfciohmgpohaa.Pure
set_option linter.unusedVariables false
set_option linter.unusedSimpArgs false
open Go.RowKit Go.Proofs.Ytgjfciohmgpohaa.P Go.Proofs.YtgjfciohmgpohaaW.PrintWords Go.Proofs.YtgjfciohmgpohaaW.PrintLast Go.Proofs.YtgjfciohmgpohaaW.PrintMore
theorem num_f (n : Int) : quarrylaw17_number.f n = some (2, n, V0) := rfl
theorem works_f : quarrylaw17_works.f = some true := by
  have b1 : quarrylaw17_gathered.f 2 [⟨2, 1, V0⟩, ⟨0, 0, V0⟩, ⟨2, 2, V0⟩] = some (2, 3, V0, true) := by kernel_rfl
  have b2 : quarrylaw17_gathered.f 2 [] = some (0, 0, V0, true) := by kernel_rfl
  have b3 : quarrylaw17_gathered.f 4 [⟨3, 0, ⟨#[97]⟩⟩, ⟨3, 0, ⟨#[98]⟩⟩] = some (3, 0, ⟨#[98]⟩, true) := by kernel_rfl
  have b4 : quarrylaw17_gathered.f 2 [⟨2, 9223372036854775807, V0⟩, ⟨2, 1, V0⟩] = some (0, 0, V0, false) := by kernel_rfl
  have e : (⟨#[98]⟩ : ByteArray).toList = [98] := by rw [Go.ByteArray.toList_eq]
  have e0 : (⟨#[]⟩ : ByteArray) = V0 := rfl
  unfold quarrylaw17_works.f
  simp only [num_f, Option.bind_some, e0, b1, b2, b3, b4, e, V0_list]
  rfl
theorem fits_right {l : List S32} (hl : G22 l) : fitsB l = true := of_fits (fun v hv => ⟨wf64 (hl.1 v hv).2.1, (hl.1 v hv).2.2⟩)
theorem gath_f (op : Int) (l : List S32) (h : fitsB l = true) : quarrylaw17_gathered.f op l = some ((gathP op l).1.f0, (gathP op l).1.f1, (gathP op l).1.f2, (gathP op l).2) := if_pos h
end Go.Proofs.Ytgjfciohmgpohaa.Pure
end
section
namespace Go.Proofs.Ytgjfciohmgpohaa.Pure
open Go.RowKit Go.Proofs.Ytgjfciohmgpohaa.P Go.Proofs.YtgjfciohmgpohaaW.PrintWords Go.Proofs.YtgjfciohmgpohaaW.PrintLast
theorem cmpV_eqv {x v : S32} (h : cmpV x v = 0) (u : S32) : cmpV x u = cmpV v u := by
  have hk := cmpV_kind h
  unfold cmpV at h ⊢
  rw [if_pos hk] at h
  by_cases hu : x.f0 = u.f0
  · rw [if_pos hu, if_pos (hk.symm.trans hu)]
    by_cases h1 : x.f0 = 1 ∨ x.f0 = 2
    · rw [if_pos h1] at h
      rw [if_pos h1, if_pos (show v.f0 = 1 ∨ v.f0 = 2 by omega), cmpI_zero.1 h]
    · rw [if_neg h1] at h
      rw [if_neg h1, if_neg (show ¬ (v.f0 = 1 ∨ v.f0 = 2) by omega)]
      by_cases h2 : x.f0 = 3 ∨ x.f0 = 4
      · rw [if_pos h2] at h
        rw [if_pos h2, if_pos (show v.f0 = 3 ∨ v.f0 = 4 by omega), cmpT_zero.1 h]
      · rw [if_neg h2, if_neg (show ¬ (v.f0 = 3 ∨ v.f0 = 4) by omega)]
  · rw [if_neg hu, if_neg (fun e => hu (hk.trans e)), hk]
def pick (sg : Int) (u v : S32) : S32 := if u.f0 = 0 ∨ (¬ v.f0 = 0 ∧ cmpV v u = sg) then v else u
theorem pick_best {sg : Int} (hs : sg = -1 ∨ sg = 1) {P Q : S32 → Prop} {u v : S32} (h1 : Best sg P u) (h2 : Best sg Q v) : Best sg (fun x => P x ∨ Q x) (pick sg u v) := by
  unfold pick
  rcases h1 with ⟨a1, a2, a3⟩ | ⟨a1, a2⟩
  · rcases h2 with ⟨b1, b2, b3⟩ | ⟨b1, b2⟩
    · by_cases hc : cmpV v u = sg
      · rw [if_pos (.inr ⟨b2, hc⟩)]
        refine .inl ⟨.inr b1, b2, fun x hx hn => ?_⟩
        rcases hx with hx | hx
        · exact fun hxv => a3 x hx hn (cmpV_tr hs hxv hc)
        · exact b3 x hx hn
      · rw [if_neg (fun h => h.elim a2 (fun h => hc h.2))]
        refine .inl ⟨.inl a1, a2, fun x hx hn => ?_⟩
        rcases hx with hx | hx
        · exact a3 x hx hn
        · intro hxu
          have c1 := b3 x hx hn
          have s1 := cmpV_s3 x v
          have s2 := cmpV_s3 v u
          have n1 := cmpV_neg x v
          have n2 := cmpV_neg v u
          unfold S3 at s1 s2
          by_cases hz : cmpV x v = 0
          ·
            have hk := cmpV_kind hz
            have : cmpV v u = sg := by
              by_cases he : cmpV v u = 0
              · exfalso
                have e1 := cmpV_eqv hz u
                rw [e1, he] at hxu
                rcases hs with rfl | rfl <;> omega
              · rw [← cmpV_eqv hz u]; exact hxu
            exact hc this
          · have hvx : cmpV v x = sg := by rcases hs with rfl | rfl <;> omega
            exact hc (cmpV_tr hs hvx hxu)
    · rw [if_neg (fun h => h.elim a2 (fun h => h.1 (by rw [b1]; rfl)))]
      refine .inl ⟨.inl a1, a2, fun x hx hn => ?_⟩
      rcases hx with hx | hx
      · exact a3 x hx hn
      · exact absurd (b2 x hx) hn
  · have hu : u.f0 = 0 := by rw [a1]; rfl
    rw [if_pos (.inl hu)]
    rcases h2 with ⟨b1, b2, b3⟩ | ⟨b1, b2⟩
    · refine .inl ⟨.inr b1, b2, fun x hx hn => ?_⟩
      rcases hx with hx | hx
      · exact absurd (a2 x hx) hn
      · exact b3 x hx hn
    · exact .inr ⟨b1, fun x hx => hx.elim (a2 x) (b2 x)⟩
theorem same3 (u : S32) : (!(u.f0 == u.f0) || (!(u.f1 == u.f1) || (!(u.f2.toList == u.f2.toList)))) = false := by simp
theorem parts_j2 (a b c : List S32) (op : Int) (x : Bool) (u v r : S32) (hw : wrap64 (op + 1) = op + 1) (hr : r = (if x = true then v else u)) (hn : Ev (fun k => quarrylaw17_AggParts.l0 k a b c (op + 1)) true) :
    Ev (fun k => quarrylaw17_AggParts.j2 k a b c op x v.f0 v.f1 v.f2 r.f0 r.f1 r.f2 u.f0 u.f1 u.f2) true := by
  refine Ev.succ ?_
  subst hr
  cases x with
  | true => simp only [quarrylaw17_AggParts.j2, if_true, same3, Bool.false_eq_true, if_false, hw]; exact hn
  | false => simp only [quarrylaw17_AggParts.j2, if_false, same3, Bool.false_eq_true, hw]; exact hn
theorem parts_5 (a b c : List S32) : Ev (fun k => quarrylaw17_AggParts.l0 k a b c 5) true := by
  refine Ev.succ ?_
  have n5 : ¬ (5 : Int) ≤ 4 := by decide
  simp only [quarrylaw17_AggParts.l0, if_neg n5]
  exact Ev.pure _
theorem parts_4 (a b c : List S32) (fa : fitsB a = true) (fb : fitsB b = true) (fc : fitsB c = true) (u v : S32) (hu : bst 1 zeroV a = u) (hv : bst 1 zeroV b = v) (e : bst 1 zeroV c = pick 1 u v) (su : u.f2.size ≤ 140737488351232) :
    Ev (fun k => quarrylaw17_AggParts.l0 k a b c 4) true := by
  refine Ev.succ ?_
  have n4 : (4 : Int) ≤ 4 := by decide
  have n43 : ¬ (4 : Int) = 3 := by decide
  have w4 : wrap64 ((4 : Int) + 1) = 4 + 1 := by unfold wrap64; omega
  have l5 := parts_5 a b c
  simp only [quarrylaw17_AggParts.l0, if_pos n4, gath_f _ _ fa, gath_f _ _ fb, gath_f _ _ fc, gath_max, Option.bind_some, e, hu, hv]
  refine Ev.bind (ref_cmp_ev u v su) ?_
  by_cases u0 : u.f0 = 0
  · simp only [if_pos u0]
    exact parts_j2 a b c 4 true u v _ w4 (by unfold pick; rw [if_pos (.inl u0), if_pos rfl]) l5
  · simp only [if_neg u0]
    by_cases v0 : v.f0 = 0
    · simp only [if_pos v0]
      exact parts_j2 a b c 4 false u v _ w4 (by unfold pick; rw [if_neg (fun h => h.elim u0 (fun h => h.1 v0)), if_neg (by decide)]) l5
    · simp only [if_neg v0, if_neg n43, if_true]
      refine parts_j2 a b c 4 _ u v _ w4 ?_ l5
      have n := cmpV_neg u v
      have s3 := cmpV_s3 u v
      unfold S3 at s3
      unfold pick
      by_cases hc : cmpV u v < 0
      · rw [decide_eq_true hc, if_pos (.inr ⟨v0, by omega⟩), if_pos rfl]
      · rw [decide_eq_false hc, if_neg (fun h => h.elim u0 (fun h => by have := h.2; omega)), if_neg (by decide)]
theorem parts_3 (a b c : List S32) (fa : fitsB a = true) (fb : fitsB b = true) (fc : fitsB c = true) (u v : S32) (hu : bst (-1) zeroV a = u) (hv : bst (-1) zeroV b = v) (e : bst (-1) zeroV c = pick (-1) u v) (su : u.f2.size ≤ 140737488351232)
    (l4 : Ev (fun k => quarrylaw17_AggParts.l0 k a b c 4) true) : Ev (fun k => quarrylaw17_AggParts.l0 k a b c 3) true := by
  refine Ev.succ ?_
  have n3 : (3 : Int) ≤ 4 := by decide
  have n34 : ¬ (3 : Int) = 4 := by decide
  have w3 : wrap64 ((3 : Int) + 1) = 3 + 1 := by unfold wrap64; omega
  simp only [quarrylaw17_AggParts.l0, if_pos n3, gath_f _ _ fa, gath_f _ _ fb, gath_f _ _ fc, gath_min, Option.bind_some, e, hu, hv]
  refine Ev.bind (ref_cmp_ev u v su) ?_
  by_cases u0 : u.f0 = 0
  · simp only [if_pos u0]
    exact parts_j2 a b c 3 true u v _ w3 (by unfold pick; rw [if_pos (.inl u0), if_pos rfl]) l4
  · simp only [if_neg u0]
    by_cases v0 : v.f0 = 0
    · simp only [if_pos v0]
      exact parts_j2 a b c 3 false u v _ w3 (by unfold pick; rw [if_neg (fun h => h.elim u0 (fun h => h.1 v0)), if_neg (by decide)]) l4
    · simp only [if_neg v0, if_true]
      have n := cmpV_neg u v
      have s3 := cmpV_s3 u v
      unfold S3 at s3
      by_cases hc : cmpV u v > 0
      · simp only [if_pos hc]
        refine parts_j2 a b c 3 true u v _ w3 ?_ l4
        unfold pick
        rw [if_pos (.inr ⟨v0, by omega⟩), if_pos rfl]
      · simp only [if_neg hc, if_neg n34]
        refine parts_j2 a b c 3 false u v _ w3 ?_ l4
        unfold pick
        rw [if_neg (fun h => h.elim u0 (fun h => by have := h.2; omega)), if_neg (by decide)]
theorem parts_out (a b : List S32) : Ev (fun k => quarrylaw17_AggParts.j0 k a b true) true := by
  refine Ev.succ ?_
  simp only [quarrylaw17_AggParts.j0, if_true]
  exact Ev.pure _
theorem parts_in (a b : List S32) (la : a.length ≤ 300) (lb : b.length ≤ 300) (fa : fitsB a = true) (fb : fitsB b = true) (h : Ev (fun k => quarrylaw17_AggParts.l0 k a b (a ++ b) 3) true) : Ev (fun k => quarrylaw17_AggParts.j0 k a b false) true := by
  refine Ev.succ ?_
  have fab : fitsB (a ++ b) = true := by unfold fitsB; rw [List.all_append]; exact (Bool.and_eq_true _ _).mpr ⟨fa, fb⟩
  have n1 : ([] : List S32).length + a.length < 4398046511104 := by rw [List.length_nil]; omega
  have n2 : a.length + b.length < 4398046511104 := by omega
  have ca := cnt_le a
  have cb := cnt_le b
  have hsum : (cnt (a ++ b) : Int) = wrap64 ((cnt a : Int) + (cnt b : Int)) := by rw [cnt_app]; unfold wrap64; omega
  have g1 := gath_count a (by omega)
  have g2 := gath_count b (by omega)
  have g3 := gath_count (a ++ b) (by rw [List.length_append]; omega)
  have e : ∀ k, quarrylaw17_AggParts.j0 (k + 1) a b false = quarrylaw17_AggParts.l0 k a b (a ++ b) 3 := by
    intro k
    rw [quarrylaw17_AggParts.j0, if_neg (by decide), Option.bind_some, if_pos n1, Option.bind_some, List.nil_append, if_pos n2, Option.bind_some, gath_f 1 a fa, Option.bind_some, gath_f 1 b fb, Option.bind_some, gath_f 1 (a ++ b) fab, Option.bind_some, g1, g2, g3]
    exact if_pos hsum
  exact h.of_eq e
theorem parts_one (a b : List S32) (oa : ∀ x ∈ a, okV x = true) (ob : ∀ x ∈ b, okV x = true) (sg : Int) (hs : sg = -1 ∨ sg = 1) : bst sg zeroV (a ++ b) = pick sg (bst sg zeroV a) (bst sg zeroV b) := by
  have h1 := best_all hs (a ++ b)
  have h2 := pick_best hs (best_all hs a) (best_all hs b)
  have e : (fun x => x ∈ a ++ b) = (fun x => x ∈ a ∨ x ∈ b) := by funext x; simp
  rw [e] at h1
  exact best_one hs (fun x hx => hx.elim (oa x) (ob x)) h1 h2
theorem AggParts : ∀ (l0 : List (S32)) (l1 : List (S32)), G22 l0 → G22 l1 → ∃ k, quarrylaw17_AggParts.f k l0 l1 = some true := by
  intro a b ga gb
  refine Ev.get ?_
  have ma : a.length < 140737488355328 := by have := ga.2; omega
  have mb : b.length < 140737488355328 := by have := gb.2; omega
  have fa := fits_right ga
  have fb := fits_right gb
  unfold quarrylaw17_AggParts.f
  simp only [works_f, Option.bind_some, if_true]
  refine Ev.bind (right_ev a ma) ?_
  cases h : (a.all okV && decide ((a.length : Int) ≤ 300)) with
  | false =>
    simp only [Bool.false_eq_true, if_false]
    exact parts_out a b
  | true =>
    simp only [if_true]
    refine Ev.bind (right_ev b mb) ?_
    cases h' : (b.all okV && decide ((b.length : Int) ≤ 300)) with
    | false => simp only [Bool.not_false]; exact parts_out a b
    | true =>
      simp only [Bool.not_true]
      rw [Bool.and_eq_true, decide_eq_true_eq] at h h'
      have oa := List.all_eq_true.1 h.1
      have ob := List.all_eq_true.1 h'.1
      have fab : fitsB (a ++ b) = true := by unfold fitsB; rw [List.all_append]; exact (Bool.and_eq_true _ _).mpr ⟨fa, fb⟩
      have sz : ∀ (sg : Int), (sg = -1 ∨ sg = 1) → (bst sg zeroV a).f2.size ≤ 140737488351232 := by
        intro sg hs
        rcases best_all hs a with ⟨h1, _⟩ | ⟨h1, _⟩
        · exact (ga.1 _ h1).2.2
        · rw [h1]; exact Nat.zero_le _
      refine parts_in a b (by omega) (by omega) fa fb ?_
      refine parts_3 a b (a ++ b) fa fb fab _ _ rfl rfl (parts_one a b oa ob (-1) (.inl rfl)) (sz (-1) (.inl rfl)) ?_
      exact parts_4 a b (a ++ b) fa fb fab _ _ rfl rfl (parts_one a b oa ob 1 (.inr rfl)) (sz 1 (.inr rfl))
end Go.Proofs.Ytgjfciohmgpohaa.Pure
end

-- Laid by a program of this session (its own copy of a print, with functions proved by hand): checked by Lean.
import Derived.Test.YtbpnmmakodaakaaH2
import Derived.Test.YtbpnmmakodaakaaA6
import Derived.Test.YtbpnmmakodaakaaA7
import Derived.Test.YtbpnmmakodaakaaA8
import Derived.Test.YtbpnmmakodaakaaA4
namespace Go.Proofs.Ytbpnmmakodaakaa.P
open Go.RowKit Go.Proofs.YtbpnmmakodaakaaW.PrintWords Go.Proofs.YtbpnmmakodaakaaW.PrintLast Go.Proofs.YtbpnmmakodaakaaW.PrintMore
attribute [local go_sem] max2_int min2_int max_two min_two max_three min_three max_four min_four   -- for this text's walks alone
set_option linter.unusedVariables false
set_option linter.unusedSimpArgs false

/-! ### quarrylaw03_KeysReads: function 4 -/
mutual
def quarrylaw03_KeysReads.j0 : Nat → List Int → List Int → List Int → Bool → Option (Bool)
  | 0, _, _, _, _ => none
  | k + 1, x0, x5, x10, x60 => if x60 = true then (some false) else (quarrylaw03_KeysReads.l0 k x0 x5 x10 0)
def quarrylaw03_KeysReads.l0 : Nat → List Int → List Int → List Int → Int → Option (Bool)
  | 0, _, _, _, _ => none
  | k + 1, x0, x5, x10, x14 => if x14 < (x10.length : Int) then (if 0 ≤ x14 then (quarrylaw03_KeysReads.l0 k x0 x5 (x10.set (x14 : Int).toNat (((rd x10 x14) + 1) % 256)) (wrap64 (x14 + 1))) else (none)) else (some ((strOfNums x5).toList == (strOfNums x0).toList))
end
def quarrylaw03_KeysReads.f (k : Nat) (l0 : List Int) (l1 : List Bool) : Option (Bool) := (some (([] : List Int) : List Int)).bind fun y266 => (if y266.length + l0.length < 140737488355328 then ((some (y266 ++ l0 : List Int)).bind fun y269 => ((keys_Decode.f y269 l1).bind fun bt272 => ((quarryref03_Decode.f k l0 l1).bind fun bt276 => ((keys_Next.f k y269).bind fun bt280 => ((quarryref03_Next.f k l0).bind fun bt284 => (if bt272.2 = bt276.2 then ((quarryref01_SameRow.f k bt272.1 bt276.1).bind fun t288 => (if t288 = true then (if (bt280.2 != bt284.2) = true then (quarrylaw03_KeysReads.j0 k l0 y269 bt280.1 true) else (quarrylaw03_KeysReads.j0 k l0 y269 bt280.1 ((strOfNums bt280.1).toList != (strOfNums bt284.1).toList))) else (quarrylaw03_KeysReads.j0 k l0 y269 bt280.1 true))) else (quarrylaw03_KeysReads.j0 k l0 y269 bt280.1 true))))))) else (none))
theorem quarrylaw03_KeysReads.mono_l : ∀ k, (∀ y0 y1 y2 y3, LeO (quarrylaw03_KeysReads.j0 k y0 y1 y2 y3) (quarrylaw03_KeysReads.j0 (k + 1) y0 y1 y2 y3)) ∧ (∀ y0 y1 y2 y3, LeO (quarrylaw03_KeysReads.l0 k y0 y1 y2 y3) (quarrylaw03_KeysReads.l0 (k + 1) y0 y1 y2 y3))
  | 0 => ⟨fun _ _ _ _ r h => by simp [quarrylaw03_KeysReads.j0] at h, fun _ _ _ _ r h => by simp [quarrylaw03_KeysReads.l0] at h⟩
  | k + 1 => by
    obtain ⟨ih0, ih1⟩ := quarrylaw03_KeysReads.mono_l k
    refine ⟨?_, ?_⟩
    · intro y0 y1 y2 y3
      unfold quarrylaw03_KeysReads.j0
      repeat' first
      | (with_reducible exact ih0 _ _ _ _)
      | (with_reducible exact ih1 _ _ _ _)
      | (with_reducible exact keys_Next.mono _ _)
      | (with_reducible exact quarryref01_SameRow.mono _ _ _)
      | (with_reducible exact quarryref03_Decode.mono _ _ _)
      | (with_reducible exact quarryref03_Next.mono _ _)
      | (with_reducible exact LeO.refl _)
      | (with_reducible exact LeO.none _)
      | (with_reducible refine LeO.ite ?_ ?_)
      | (with_reducible refine LeO.bind ?_ (fun _ => ?_))
      | exact ih0 _ _ _ _
      | exact ih1 _ _ _ _
      | exact keys_Next.mono _ _
      | exact quarryref01_SameRow.mono _ _ _
      | exact quarryref03_Decode.mono _ _ _
      | exact quarryref03_Next.mono _ _
      | exact LeO.none _
      | refine LeO.ite ?_ ?_
      | refine LeO.bind ?_ (fun _ => ?_)
    · intro y0 y1 y2 y3
      unfold quarrylaw03_KeysReads.l0
      repeat' first
      | (with_reducible exact ih0 _ _ _ _)
      | (with_reducible exact ih1 _ _ _ _)
      | (with_reducible exact keys_Next.mono _ _)
      | (with_reducible exact quarryref01_SameRow.mono _ _ _)
      | (with_reducible exact quarryref03_Decode.mono _ _ _)
      | (with_reducible exact quarryref03_Next.mono _ _)
      | (with_reducible exact LeO.refl _)
      | (with_reducible exact LeO.none _)
      | (with_reducible refine LeO.ite ?_ ?_)
      | (with_reducible refine LeO.bind ?_ (fun _ => ?_))
      | exact ih0 _ _ _ _
      | exact ih1 _ _ _ _
      | exact keys_Next.mono _ _
      | exact quarryref01_SameRow.mono _ _ _
      | exact quarryref03_Decode.mono _ _ _
      | exact quarryref03_Next.mono _ _
      | exact LeO.none _
      | refine LeO.ite ?_ ?_
      | refine LeO.bind ?_ (fun _ => ?_)
theorem quarrylaw03_KeysReads.mono : ∀ a0 a1 k, LeO (quarrylaw03_KeysReads.f k a0 a1) (quarrylaw03_KeysReads.f (k + 1) a0 a1) := by
  intro a0 a1 k
  obtain ⟨ih0, ih1⟩ := quarrylaw03_KeysReads.mono_l k
  unfold quarrylaw03_KeysReads.f
  repeat' first
      | (with_reducible exact ih0 _ _ _ _)
      | (with_reducible exact ih1 _ _ _ _)
      | (with_reducible exact keys_Next.mono _ _)
      | (with_reducible exact quarryref01_SameRow.mono _ _ _)
      | (with_reducible exact quarryref03_Decode.mono _ _ _)
      | (with_reducible exact quarryref03_Next.mono _ _)
      | (with_reducible exact LeO.refl _)
      | (with_reducible exact LeO.none _)
      | (with_reducible refine LeO.ite ?_ ?_)
      | (with_reducible refine LeO.bind ?_ (fun _ => ?_))
      | exact ih0 _ _ _ _
      | exact ih1 _ _ _ _
      | exact keys_Next.mono _ _
      | exact quarryref01_SameRow.mono _ _ _
      | exact quarryref03_Decode.mono _ _ _
      | exact quarryref03_Next.mono _ _
      | exact LeO.none _
      | refine LeO.ite ?_ ?_
      | refine LeO.bind ?_ (fun _ => ?_)
set_option maxHeartbeats 8000000 in
set_option maxRecDepth 100000 in
theorem quarrylaw03_KeysReads.calls (k : Nat) (A0 : Option Addr) (c0 : Nat) (l0 : List Int) (A1 : Option Addr) (c1 : Nat) (l1 : List Bool) (r : Bool) (w : World) (hr0 : Kd.C (Kd.int .u8) w A0 l0.length l0) (hc0 : l0.length ≤ c0) (hr1 : Kd.C Kd.bool w A1 l1.length l1) (hc1 : l1.length ≤ c1) (h : quarrylaw03_KeysReads.f k l0 l1 = some r) :
    Calls Try.prog 4 #[.slice A0 l0.length c0, .slice A1 l1.length c1] w fun e w' => e = .returned (.bool r) ∧ Below w.heap.size w w' := by
  have HR0 := Aside0.mk hr0
  have HC0 := Aside0.mk hc0
  clear hr0 hc0
  have HR1 := Aside0.mk hr1
  have HC1 := Aside0.mk hc1
  clear hr1 hc1
  have HB := Aside0.mk (Below.refl w.heap.size w)
  have H : ((some (([] : List Int) : List Int)).bind fun y266 => (if y266.length + l0.length < 140737488355328 then ((some (y266 ++ l0 : List Int)).bind fun y269 => ((keys_Decode.f y269 l1).bind fun bt272 => ((quarryref03_Decode.f k l0 l1).bind fun bt276 => ((keys_Next.f k y269).bind fun bt280 => ((quarryref03_Next.f k l0).bind fun bt284 => (if bt272.2 = bt276.2 then ((quarryref01_SameRow.f k bt272.1 bt276.1).bind fun t288 => (if t288 = true then (if (bt280.2 != bt284.2) = true then (quarrylaw03_KeysReads.j0 k l0 y269 bt280.1 true) else (quarrylaw03_KeysReads.j0 k l0 y269 bt280.1 ((strOfNums bt280.1).toList != (strOfNums bt284.1).toList))) else (quarrylaw03_KeysReads.j0 k l0 y269 bt280.1 true))) else (quarrylaw03_KeysReads.j0 k l0 y269 bt280.1 true))))))) else (none))) = some r := h
  clear h
  obtain ⟨y266, hy266⟩ : ∃ y_ : List Int, y_ = (([] : List Int)) := ⟨_, rfl⟩
  replace H : (if y266.length + l0.length < 140737488355328 then ((some (y266 ++ l0 : List Int)).bind fun y269 => ((keys_Decode.f y269 l1).bind fun bt272 => ((quarryref03_Decode.f k l0 l1).bind fun bt276 => ((keys_Next.f k y269).bind fun bt280 => ((quarryref03_Next.f k l0).bind fun bt284 => (if bt272.2 = bt276.2 then ((quarryref01_SameRow.f k bt272.1 bt276.1).bind fun t288 => (if t288 = true then (if (bt280.2 != bt284.2) = true then (quarrylaw03_KeysReads.j0 k l0 y269 bt280.1 true) else (quarrylaw03_KeysReads.j0 k l0 y269 bt280.1 ((strOfNums bt280.1).toList != (strOfNums bt284.1).toList))) else (quarrylaw03_KeysReads.j0 k l0 y269 bt280.1 true))) else (quarrylaw03_KeysReads.j0 k l0 y269 bt280.1 true))))))) else (none)) = some r := by first | (rw [hy266]; with_reducible exact H) | (have H2_ := (Option.bind_some _ _).symm.trans H; rw [hy266]; with_reducible exact H2_) | (have H2_ := (Option.bind_some _ _).symm.trans H; with_reducible exact H2_) | with_reducible exact H | (rw [hy266]; exact H) | exact H
  have Ny266 := Aside0.mk hy266
  clear hy266
  by_cases c3 : y266.length + l0.length < 140737488355328
  · rw [if_pos c3] at H
    have LMc3 := Aside0.mk c3
    clear c3
    obtain ⟨y269, hy269⟩ : ∃ y_ : List Int, y_ = (y266 ++ l0) := ⟨_, rfl⟩
    replace H : ((keys_Decode.f y269 l1).bind fun bt272 => ((quarryref03_Decode.f k l0 l1).bind fun bt276 => ((keys_Next.f k y269).bind fun bt280 => ((quarryref03_Next.f k l0).bind fun bt284 => (if bt272.2 = bt276.2 then ((quarryref01_SameRow.f k bt272.1 bt276.1).bind fun t288 => (if t288 = true then (if (bt280.2 != bt284.2) = true then (quarrylaw03_KeysReads.j0 k l0 y269 bt280.1 true) else (quarrylaw03_KeysReads.j0 k l0 y269 bt280.1 ((strOfNums bt280.1).toList != (strOfNums bt284.1).toList))) else (quarrylaw03_KeysReads.j0 k l0 y269 bt280.1 true))) else (quarrylaw03_KeysReads.j0 k l0 y269 bt280.1 true)))))) = some r := by first | (rw [hy269]; with_reducible exact H) | (have H2_ := (Option.bind_some _ _).symm.trans H; rw [hy269]; with_reducible exact H2_) | (have H2_ := (Option.bind_some _ _).symm.trans H; with_reducible exact H2_) | with_reducible exact H | (rw [hy269]; exact H) | exact H
    have Ny269 := Aside0.mk hy269
    clear hy269
    replace H := Option.bind_eq_some_iff.mp H
    obtain ⟨⟨t272, t273⟩, A40, H⟩ := H
    replace H : ((quarryref03_Decode.f k l0 l1).bind fun bt276 => ((keys_Next.f k y269).bind fun bt280 => ((quarryref03_Next.f k l0).bind fun bt284 => (if t273 = bt276.2 then ((quarryref01_SameRow.f k t272 bt276.1).bind fun t288 => (if t288 = true then (if (bt280.2 != bt284.2) = true then (quarrylaw03_KeysReads.j0 k l0 y269 bt280.1 true) else (quarrylaw03_KeysReads.j0 k l0 y269 bt280.1 ((strOfNums bt280.1).toList != (strOfNums bt284.1).toList))) else (quarrylaw03_KeysReads.j0 k l0 y269 bt280.1 true))) else (quarrylaw03_KeysReads.j0 k l0 y269 bt280.1 true))))) = some r := H
    have A4 := Aside0.mk A40
    clear A40
    replace H := Option.bind_eq_some_iff.mp H
    obtain ⟨⟨t276, t279⟩, A50, H⟩ := H
    replace H : ((keys_Next.f k y269).bind fun bt280 => ((quarryref03_Next.f k l0).bind fun bt284 => (if t273 = t279 then ((quarryref01_SameRow.f k t272 t276).bind fun t288 => (if t288 = true then (if (bt280.2 != bt284.2) = true then (quarrylaw03_KeysReads.j0 k l0 y269 bt280.1 true) else (quarrylaw03_KeysReads.j0 k l0 y269 bt280.1 ((strOfNums bt280.1).toList != (strOfNums bt284.1).toList))) else (quarrylaw03_KeysReads.j0 k l0 y269 bt280.1 true))) else (quarrylaw03_KeysReads.j0 k l0 y269 bt280.1 true)))) = some r := H
    have A5 := Aside0.mk A50
    clear A50
    replace H := Option.bind_eq_some_iff.mp H
    obtain ⟨⟨t280, t281⟩, A60, H⟩ := H
    replace H : ((quarryref03_Next.f k l0).bind fun bt284 => (if t273 = t279 then ((quarryref01_SameRow.f k t272 t276).bind fun t288 => (if t288 = true then (if (t281 != bt284.2) = true then (quarrylaw03_KeysReads.j0 k l0 y269 t280 true) else (quarrylaw03_KeysReads.j0 k l0 y269 t280 ((strOfNums t280).toList != (strOfNums bt284.1).toList))) else (quarrylaw03_KeysReads.j0 k l0 y269 t280 true))) else (quarrylaw03_KeysReads.j0 k l0 y269 t280 true))) = some r := H
    have A6 := Aside0.mk A60
    clear A60
    replace H := Option.bind_eq_some_iff.mp H
    obtain ⟨⟨t284, t285⟩, A70, H⟩ := H
    replace H : (if t273 = t279 then ((quarryref01_SameRow.f k t272 t276).bind fun t288 => (if t288 = true then (if (t281 != t285) = true then (quarrylaw03_KeysReads.j0 k l0 y269 t280 true) else (quarrylaw03_KeysReads.j0 k l0 y269 t280 ((strOfNums t280).toList != (strOfNums t284).toList))) else (quarrylaw03_KeysReads.j0 k l0 y269 t280 true))) else (quarrylaw03_KeysReads.j0 k l0 y269 t280 true)) = some r := H
    have A7 := Aside0.mk A70
    clear A70
    have HC8 := Aside0.mk H
    clear H
    go_enter Try.func4, Try.ntmps4
    go_upto_region 6 with (first | ((with_reducible refine gate_dst (N := 15) rfl ?_); refine Kd.R_lit (Kd.int .u8) _ 5 ?hg (N := 15) ?hd (xs := ([] : List Int)) (inner := []) (ok := fun _ => True) (okp := fun _ => True) ?hr ?hp (fun _ hk => hk) trivial (Below.refl _ _) (Nat.le_refl _) (by simp) ?_; (case hd => rfl); (case hg => rfl); (case hr => first | (go_simp; done) | (go_simp; rfl)); (case hp => exact (Reps.none _ _)); intro v267 w9 ho10 hb hg_ hnew_; clear hg_ hnew_; (first | rw [← Ny266.out] at ho10 | (simp only [Int.reduceToNat] at ho10; rw [← Ny266.out] at ho10)); have n0_ := Aside0.mk (Kd.R_lower ho10 (below_size (by repeat (first | (with_reducible first | exact HB.out | apply below_alloc | apply pw_below_drewN | apply below_drew1) | exact HB.out)))); have n1_ := Aside0.mk (below_step (by repeat (first | (with_reducible first | exact HB.out | apply below_alloc | apply pw_below_drewN | apply below_drew1) | exact HB.out)) hb); clear HB; have HO268 := n0_; have HB := n1_; clear n0_ n1_; clear hb ho10) | ((with_reducible refine gate_builtin (b := .append) (xs := #[.tmp 15, .tmp 16]) rfl ?_); at_builtin; refine Kd.R_append_rows (Kd.int .u8) (w0 := w) w.heap.size rfl (.tmp 15) (.tmp 16) 24 5 (.int .u8 0) 1 rfl Try.underlying24 info5 rfl (by decide) (by omega) v267 y266 l0 _ _ _ (fun _ => True) (fun _ => False) rfl rfl ?aO ?aR (fun _ _ h => h) (fun _ h => h.elim) ?aF ?aB ?aS ?aL ?_; (case aR => repeat (first | exact (Kd.C_below HR0.out HB.out) | (with_reducible refine Kd.C_alloc ?_ _) | (with_reducible refine Kd.C_drewN ?_ _) | (with_reducible refine Kd.C_drew ?_))); (case aB => exact (by repeat (first | (with_reducible first | exact HB.out | apply below_alloc | apply pw_below_drewN | apply below_drew1) | exact HB.out))); (case aF => exact (fun _ _ => trivial)); (case aO => exact (by (with_reducible repeat (first | apply Kd.R_alloc | apply Kd.R_drewN | apply Kd.R_drew)); exact HO268.out)); (case aS => exact (below_size (by repeat (first | (with_reducible first | exact HB.out | apply below_alloc | apply pw_below_drewN | apply below_drew1) | exact HB.out)))); (case aL => have := LMc3.out; omega); intro v270 w11 ho hb hg hat; rw [← Ny269.out] at ho; have n0_ := Aside0.mk (hb); have n1_ := Aside0.mk (ho); clear HB; clear HO268; have HB := n0_; have HO271 := n1_; clear n0_ n1_; clear ho hb hg hat; obtain ⟨Ao12, co12, eo12⟩ := Kd.R_slice HO271.out; subst eo12) | ((with_reducible refine gate_callee (f := 13) rfl ?_); refine goesL_ (some 21) rfl rfl Try.func13 (by kernel_rfl) rfl #[.slice Ao12 y269.length co12, .slice A1 l1.length c1] rfl (by (try simp only [List.map_toArray, List.map_cons, List.map_nil]); first | done | rfl | (simp only [List.length_drop, List.length_take]; rfl)) ?_; (with_reducible refine (keys_Decode.calls _ _ y269 _ _ l1 t272 t273 _ ?side1 ?side2 ?side3 ?side4 A4.out).mono ?_); (case side1 => repeat (first | exact (Kd.R_reads' HO271.out).2.2 | (with_reducible refine Kd.C_alloc ?_ _) | (with_reducible refine Kd.C_drewN ?_ _) | (with_reducible refine Kd.C_drew ?_))); (case side2 => exact (Kd.R_reads' HO271.out).2.1); (case side3 => repeat (first | exact (Kd.C_below HR1.out HB.out) | (with_reducible refine Kd.C_alloc ?_ _) | (with_reducible refine Kd.C_drewN ?_ _) | (with_reducible refine Kd.C_drew ?_))); (case side4 => exact HC1.out); rintro e w13 ⟨v274, rfl, ho0, hb⟩; refine ⟨_, rfl, ?_⟩; have n0_ := Aside0.mk (Kd.R_below (by (with_reducible repeat (first | apply Kd.R_alloc | apply Kd.R_drewN | apply Kd.R_drew)); exact HO271.out) hb); have n1_ := Aside0.mk (Kd.R_lower ho0 (below_size (by repeat (first | (with_reducible first | exact HB.out | apply below_alloc | apply pw_below_drewN | apply below_drew1) | exact HB.out)))); have n2_ := Aside0.mk (below_step (by repeat (first | (with_reducible first | exact HB.out | apply below_alloc | apply pw_below_drewN | apply below_drew1) | exact HB.out)) hb); clear HO271; clear HB; have HO271 := n0_; have HO275 := n1_; have HB := n2_; clear n0_ n1_ n2_; (try clear hb); (try clear hb2); (try clear hk); (try clear hi); (try clear ho0)) | ((with_reducible refine gate_callee (f := 14) rfl ?_); refine goesL_ (some 27) rfl rfl Try.func14 (by kernel_rfl) rfl #[.slice A0 l0.length c0, .slice A1 l1.length c1] rfl (by (try simp only [List.map_toArray, List.map_cons, List.map_nil]); first | done | rfl | (simp only [List.length_drop, List.length_take]; rfl)) ?_; (with_reducible refine (quarryref03_Decode.calls k (fun k_ => k_ < w.heap.size) _ _ l0 _ _ l1 t276 t279 _ ?side1 ?side2 ?side3 A5.out).mono ?_); (case side1 => exact Kd.V_mk HC0.out (Kd.F_below (Kd.C_F (Kd.heap_int .u8) HR0.out) (by repeat (first | (with_reducible first | exact HB.out | apply below_alloc | apply pw_below_drewN | apply below_drew1) | exact HB.out)))); (case side2 => repeat (first | exact (Kd.C_below HR1.out HB.out) | (with_reducible refine Kd.C_alloc ?_ _) | (with_reducible refine Kd.C_drewN ?_ _) | (with_reducible refine Kd.C_drew ?_))); (case side3 => exact HC1.out); rintro e w14 ⟨v277, rfl, ho0, hb⟩; refine ⟨_, rfl, ?_⟩; have n0_ := Aside0.mk (Kd.R_below (by (with_reducible repeat (first | apply Kd.R_alloc | apply Kd.R_drewN | apply Kd.R_drew)); exact HO271.out) hb); have n1_ := Aside0.mk (Kd.R_elder' (by (with_reducible repeat (first | apply Kd.R_alloc | apply Kd.R_drewN | apply Kd.R_drew)); exact HO275.out) (Kd.R_base ho0) hb); have n2_ := Aside0.mk (Kd.R_lower (Kd.R_new' (Kd.R_mono (ok' := fun k_ => True) ho0 (fun _ hk_ => trivial)) (Kd.R_lt (by (with_reducible repeat (first | apply Kd.R_alloc | apply Kd.R_drewN | apply Kd.R_drew)); exact HO275.out))) (below_size (by repeat (first | (with_reducible first | exact HB.out | apply below_alloc | apply pw_below_drewN | apply below_drew1) | exact HB.out)))); have n3_ := Aside0.mk (below_step (by repeat (first | (with_reducible first | exact HB.out | apply below_alloc | apply pw_below_drewN | apply below_drew1) | exact HB.out)) hb); clear HO271; clear HO275; clear HB; have HO271 := n0_; have HO275 := n1_; have HO278 := n2_; have HB := n3_; clear n0_ n1_ n2_ n3_; (try clear hb); (try clear hb2); (try clear hk); (try clear hi); (try clear ho0)) | ((with_reducible refine gate_callee (f := 15) rfl ?_); refine goesL_ (some 32) rfl rfl Try.func15 (by kernel_rfl) rfl #[.slice Ao12 y269.length co12] rfl (by (try simp only [List.map_toArray, List.map_cons, List.map_nil]); first | done | rfl | (simp only [List.length_drop, List.length_take]; rfl)) ?_; (with_reducible refine (keys_Next.calls k _ _ y269 t280 t281 _ ?side1 ?side2 A6.out).mono ?_); (case side1 => repeat (first | exact (Kd.R_reads' HO271.out).2.2 | (with_reducible refine Kd.C_alloc ?_ _) | (with_reducible refine Kd.C_drewN ?_ _) | (with_reducible refine Kd.C_drew ?_))); (case side2 => exact (Kd.R_reads' HO271.out).2.1); rintro e w15 ⟨v282, rfl, ho0, hb⟩; refine ⟨_, rfl, ?_⟩; have n0_ := Aside0.mk (Kd.R_elder' (by (with_reducible repeat (first | apply Kd.R_alloc | apply Kd.R_drewN | apply Kd.R_drew)); exact HO271.out) (Kd.R_base ho0) hb); have n1_ := Aside0.mk (Kd.R_below (by (with_reducible repeat (first | apply Kd.R_alloc | apply Kd.R_drewN | apply Kd.R_drew)); exact HO275.out) hb); have n2_ := Aside0.mk (Kd.R_below (by (with_reducible repeat (first | apply Kd.R_alloc | apply Kd.R_drewN | apply Kd.R_drew)); exact HO278.out) hb); have n3_ := Aside0.mk (Kd.R_lower (Kd.R_new' ho0 (Kd.R_lt (by (with_reducible repeat (first | apply Kd.R_alloc | apply Kd.R_drewN | apply Kd.R_drew)); exact HO271.out))) (below_size (by repeat (first | (with_reducible first | exact HB.out | apply below_alloc | apply pw_below_drewN | apply below_drew1) | exact HB.out)))); have n4_ := Aside0.mk (below_step (by repeat (first | (with_reducible first | exact HB.out | apply below_alloc | apply pw_below_drewN | apply below_drew1) | exact HB.out)) hb); clear HO271; clear HO275; clear HO278; clear HB; have HO271 := n0_; have HO275 := n1_; have HO278 := n2_; have HO283 := n3_; have HB := n4_; clear n0_ n1_ n2_ n3_ n4_; (try clear hb); (try clear hb2); (try clear hk); (try clear hi); (try clear ho0)) | ((with_reducible refine gate_callee (f := 16) rfl ?_); refine goesL_ (some 37) rfl rfl Try.func16 (by kernel_rfl) rfl #[.slice A0 l0.length c0] rfl (by (try simp only [List.map_toArray, List.map_cons, List.map_nil]); first | done | rfl | (simp only [List.length_drop, List.length_take]; rfl)) ?_; (with_reducible refine (quarryref03_Next.calls k _ _ l0 t284 t285 _ ?side1 ?side2 A7.out).mono ?_); (case side1 => repeat (first | exact (Kd.C_below HR0.out HB.out) | (with_reducible refine Kd.C_alloc ?_ _) | (with_reducible refine Kd.C_drewN ?_ _) | (with_reducible refine Kd.C_drew ?_))); (case side2 => exact HC0.out); rintro e w16 ⟨v286, rfl, ho0, hb⟩; refine ⟨_, rfl, ?_⟩; have n0_ := Aside0.mk (Kd.R_elder' (by (with_reducible repeat (first | apply Kd.R_alloc | apply Kd.R_drewN | apply Kd.R_drew)); exact HO271.out) (Kd.R_base ho0) hb); have n1_ := Aside0.mk (Kd.R_below (by (with_reducible repeat (first | apply Kd.R_alloc | apply Kd.R_drewN | apply Kd.R_drew)); exact HO275.out) hb); have n2_ := Aside0.mk (Kd.R_below (by (with_reducible repeat (first | apply Kd.R_alloc | apply Kd.R_drewN | apply Kd.R_drew)); exact HO278.out) hb); have n3_ := Aside0.mk (Kd.R_elder' (by (with_reducible repeat (first | apply Kd.R_alloc | apply Kd.R_drewN | apply Kd.R_drew)); exact HO283.out) (Kd.R_base ho0) hb); have n4_ := Aside0.mk (Kd.R_lower (Kd.R_new' (Kd.R_new' ho0 (Kd.R_lt (by (with_reducible repeat (first | apply Kd.R_alloc | apply Kd.R_drewN | apply Kd.R_drew)); exact HO271.out))) (Kd.R_lt (by (with_reducible repeat (first | apply Kd.R_alloc | apply Kd.R_drewN | apply Kd.R_drew)); exact HO283.out))) (below_size (by repeat (first | (with_reducible first | exact HB.out | apply below_alloc | apply pw_below_drewN | apply below_drew1) | exact HB.out)))); have n5_ := Aside0.mk (below_step (by repeat (first | (with_reducible first | exact HB.out | apply below_alloc | apply pw_below_drewN | apply below_drew1) | exact HB.out)) hb); clear HO271; clear HO275; clear HO278; clear HO283; clear HB; have HO271 := n0_; have HO275 := n1_; have HO278 := n2_; have HO283 := n3_; have HO287 := n4_; have HB := n5_; clear n0_ n1_ n2_ n3_ n4_ n5_; (try clear hb); (try clear hb2); (try clear hk); (try clear hi); (try clear ho0)))
    (try simp only [Act.put, List.setIfInBounds_toArray, List.set_cons_zero, List.set_cons_succ])
    go_cut [60] (fun v60 wc => ∃ (kq : Nat) (x60_7 : Bool), v60 = .bool x60_7 ∧ Aside0 (quarrylaw03_KeysReads.j0 kq l0 y269 t280 x60_7 = some r) ∧ Aside0 (kq ≤ k) ∧ Aside0 (Kd.R (Kd.int .u8) 5 wc w.heap.size (fun k_ => some k_ ≠ (v282 : Value).ownBlock) (.slice Ao12 y269.length co12) y269) ∧ Aside0 (Kd.R (Kd.int .u8) 5 wc w.heap.size (fun k_ => some k_ ≠ ((.slice Ao12 y269.length co12) : Value).ownBlock) v282 t280) ∧ Aside0 (Below w.heap.size w wc))
    case first =>
      have H := HC8.out
      clear HC8
      by_cases c17 : t273 = t279
      · rw [if_pos c17] at H
        have c17b0 : (t273 == t279) = true := beq_iff_eq.mpr c17
        have c17b1 : (t273 != t279) = false := bne_eq_false_iff_eq.mpr c17
        clear c17
        (first | rw [c17b0] | (simp only [i64_w, i32_w]; rw [c17b0]) | skip)
        replace H := Option.bind_eq_some_iff.mp H
        obtain ⟨t288, A180, H⟩ := H
        replace H : (if t288 = true then (if (t281 != t285) = true then (quarrylaw03_KeysReads.j0 k l0 y269 t280 true) else (quarrylaw03_KeysReads.j0 k l0 y269 t280 ((strOfNums t280).toList != (strOfNums t284).toList))) else (quarrylaw03_KeysReads.j0 k l0 y269 t280 true)) = some r := H
        have A18 := Aside0.mk A180
        clear A180
        by_cases c19 : t288 = true
        · subst c19
          have H1 : (if (t281 != t285) = true then (quarrylaw03_KeysReads.j0 k l0 y269 t280 true) else (quarrylaw03_KeysReads.j0 k l0 y269 t280 ((strOfNums t280).toList != (strOfNums t284).toList))) = some r := by rw [if_pos rfl] at H; exact H
          clear H
          have H := H1
          clear H1
          by_cases c20 : (t281 != t285) = true
          · rw [if_pos c20] at H
            have c20b0 : (t281 != t285) = true := c20
            (try (have c20b1 : decide (t281 = t285) = false := by simpa using c20))
            (try (have c20b2 : (t281 == t285) = false := by simpa using c20))
            (try (have c20b3 : ¬ (t281 = t285) := by simpa using c20))
            clear c20
            have H' := Aside0.mk H
            clear H
            obtain ⟨Ao21, co21, eo21⟩ := Kd.R_slice HO275.out
            subst eo21
            obtain ⟨Ao22, co22, eo22⟩ := Kd.R_slice HO278.out
            subst eo22
            go_wp2_with (first | (go_at_call 12; (with_reducible refine (quarryref01_SameRow.calls k _ _ t272 _ _ t276 true _ ?side1 ?side2 ?side3 ?side4 A18.out).mono ?_); (case side1 => repeat (first | exact (Kd.R_reads' HO275.out).2.2 | (with_reducible refine Kd.C_alloc ?_ _) | (with_reducible refine Kd.C_drewN ?_ _) | (with_reducible refine Kd.C_drew ?_))); (case side2 => exact (Kd.R_reads' HO275.out).2.1); (case side3 => repeat (first | exact (Kd.R_reads' HO278.out).2.2 | (with_reducible refine Kd.C_alloc ?_ _) | (with_reducible refine Kd.C_drewN ?_ _) | (with_reducible refine Kd.C_drew ?_))); (case side4 => exact (Kd.R_reads' HO278.out).2.1); rintro e w' ⟨rfl, ⟨nd, rfl⟩⟩))
            go_meet
            case rel => exact ⟨_, (true), (by first | rfl | (simp; done) | (simp [*]; done)), H', ⟨by first | omega | exact Nat.le_refl _⟩, ⟨by (with_reducible repeat (first | apply Kd.R_alloc | apply Kd.R_drewN | apply Kd.R_drew)); exact Kd.R_mono HO271.out (fun _ hk => hk.1.2)⟩, ⟨by (with_reducible repeat (first | apply Kd.R_alloc | apply Kd.R_drewN | apply Kd.R_drew)); exact Kd.R_mono HO283.out (fun _ hk => hk.1.2)⟩, ⟨by repeat (first | (with_reducible first | exact HB.out | apply below_alloc | apply pw_below_drewN | apply below_drew1) | exact HB.out)⟩⟩
          · rw [if_neg c20] at H
            have c20b0 : (t281 != t285) = false := by simpa using c20
            (try (have c20b1 : decide (t281 = t285) = true := by simpa using c20))
            (try (have c20b2 : (t281 == t285) = true := by simpa using c20))
            clear c20
            have H' := Aside0.mk H
            clear H
            obtain ⟨Ao23, co23, eo23⟩ := Kd.R_slice HO275.out
            subst eo23
            obtain ⟨Ao24, co24, eo24⟩ := Kd.R_slice HO278.out
            subst eo24
            obtain ⟨Ao25, co25, eo25⟩ := Kd.R_slice HO283.out
            subst eo25
            obtain ⟨Ao26, co26, eo26⟩ := Kd.R_slice HO287.out
            subst eo26
            have hcvB := fun n => Kd.C_string (P := Try.prog) (c := co26) Try.underlying24 Try.underlying5 Try.underlying9 (Kd.C_drewN (Kd.R_reads' HO287.out).2.2 n)
            have hcvA := fun n => Kd.C_string (P := Try.prog) (c := co25) Try.underlying24 Try.underlying5 Try.underlying9 (Kd.C_drewN (Kd.R_reads' HO283.out).2.2 n)
            go_wp2_with (first | (go_at_call 12; (with_reducible refine (quarryref01_SameRow.calls k _ _ t272 _ _ t276 true _ ?side1 ?side2 ?side3 ?side4 A18.out).mono ?_); (case side1 => repeat (first | exact (Kd.R_reads' HO275.out).2.2 | (with_reducible refine Kd.C_alloc ?_ _) | (with_reducible refine Kd.C_drewN ?_ _) | (with_reducible refine Kd.C_drew ?_))); (case side2 => exact (Kd.R_reads' HO275.out).2.1); (case side3 => repeat (first | exact (Kd.R_reads' HO278.out).2.2 | (with_reducible refine Kd.C_alloc ?_ _) | (with_reducible refine Kd.C_drewN ?_ _) | (with_reducible refine Kd.C_drew ?_))); (case side4 => exact (Kd.R_reads' HO278.out).2.1); rintro e w' ⟨rfl, ⟨nd, rfl⟩⟩))
            go_meet
            case rel => exact ⟨_, (((strOfNums t280).toList != (strOfNums t284).toList)), (by first | rfl | (simp; done) | (simp [*]; done)), H', ⟨by first | omega | exact Nat.le_refl _⟩, ⟨by (with_reducible repeat (first | apply Kd.R_alloc | apply Kd.R_drewN | apply Kd.R_drew)); exact Kd.R_mono HO271.out (fun _ hk => hk.1.2)⟩, ⟨by (with_reducible repeat (first | apply Kd.R_alloc | apply Kd.R_drewN | apply Kd.R_drew)); exact Kd.R_mono HO283.out (fun _ hk => hk.1.2)⟩, ⟨by repeat (first | (with_reducible first | exact HB.out | apply below_alloc | apply pw_below_drewN | apply below_drew1) | exact HB.out)⟩⟩
        · replace c19 := Bool.eq_false_iff.mpr c19
          subst c19
          have H1 : (quarrylaw03_KeysReads.j0 k l0 y269 t280 true) = some r := by rw [if_neg (show ¬ (false = true) by decide)] at H; exact H
          clear H
          have H := H1
          clear H1
          have H' := Aside0.mk H
          clear H
          obtain ⟨Ao27, co27, eo27⟩ := Kd.R_slice HO275.out
          subst eo27
          obtain ⟨Ao28, co28, eo28⟩ := Kd.R_slice HO278.out
          subst eo28
          go_wp2_with (first | (go_at_call 12; (with_reducible refine (quarryref01_SameRow.calls k _ _ t272 _ _ t276 false _ ?side1 ?side2 ?side3 ?side4 A18.out).mono ?_); (case side1 => repeat (first | exact (Kd.R_reads' HO275.out).2.2 | (with_reducible refine Kd.C_alloc ?_ _) | (with_reducible refine Kd.C_drewN ?_ _) | (with_reducible refine Kd.C_drew ?_))); (case side2 => exact (Kd.R_reads' HO275.out).2.1); (case side3 => repeat (first | exact (Kd.R_reads' HO278.out).2.2 | (with_reducible refine Kd.C_alloc ?_ _) | (with_reducible refine Kd.C_drewN ?_ _) | (with_reducible refine Kd.C_drew ?_))); (case side4 => exact (Kd.R_reads' HO278.out).2.1); rintro e w' ⟨rfl, ⟨nd, rfl⟩⟩))
          go_meet
          case rel => exact ⟨_, (true), (by first | rfl | (simp; done) | (simp [*]; done)), H', ⟨by first | omega | exact Nat.le_refl _⟩, ⟨by (with_reducible repeat (first | apply Kd.R_alloc | apply Kd.R_drewN | apply Kd.R_drew)); exact Kd.R_mono HO271.out (fun _ hk => hk.1.2)⟩, ⟨by (with_reducible repeat (first | apply Kd.R_alloc | apply Kd.R_drewN | apply Kd.R_drew)); exact Kd.R_mono HO283.out (fun _ hk => hk.1.2)⟩, ⟨by repeat (first | (with_reducible first | exact HB.out | apply below_alloc | apply pw_below_drewN | apply below_drew1) | exact HB.out)⟩⟩
      · rw [if_neg c17] at H
        have c17b0 : (t273 == t279) = false := beq_eq_false_iff_ne.mpr c17
        have c17b1 : (t273 != t279) = true := bne_iff_ne.mpr c17
        (first | rw [c17b0] | (simp only [i64_w, i32_w]; rw [c17b0]) | skip)
        have H' := Aside0.mk H
        clear H
        go_wp2
        go_meet
        case rel => exact ⟨_, (true), (by first | rfl | (simp; done) | (simp [*]; done)), H', ⟨by first | omega | exact Nat.le_refl _⟩, ⟨by (with_reducible repeat (first | apply Kd.R_alloc | apply Kd.R_drewN | apply Kd.R_drew)); exact Kd.R_mono HO271.out (fun _ hk => hk.1.2)⟩, ⟨by (with_reducible repeat (first | apply Kd.R_alloc | apply Kd.R_drewN | apply Kd.R_drew)); exact Kd.R_mono HO283.out (fun _ hk => hk.1.2)⟩, ⟨by repeat (first | (with_reducible first | exact HB.out | apply below_alloc | apply pw_below_drewN | apply below_drew1) | exact HB.out)⟩⟩
    case rest =>
      clear HC8
      try clear c1
      try clear c2
      try clear p2
      try clear hcv2
      try clear c3
      try clear c4
      try clear c13
      try clear c14
      try clear c15
      try clear c16
      try clear c17
      try clear c17b0
      try clear c17b1
      try clear c19
      try clear c20
      try clear c20b0
      try clear c20b1
      try clear c20b2
      try clear hcv25
      try clear hcv26
      obtain ⟨kq, x60_7, rfl, HA, HJ7, HO_5, HO_10, HB⟩ := hcut
      cases kq with
      | zero => exact absurd HA.out (by simp [quarrylaw03_KeysReads.j0])
      | succ kj7 =>
        have H := HA.out
        clear HA
        simp only [quarrylaw03_KeysReads.j0] at H
        by_cases c29 : x60_7 = true
        · subst c29
          have H1 : (some false) = some r := by rw [if_pos rfl] at H; exact H
          clear H
          have H := H1
          clear H1
          obtain rfl := Option.some.inj H
          go_wp2
          go_ret
          exact ⟨by first | rfl | (simp [errW_none, errW_some] <;> rfl) | (simp [*, errW_none, errW_some] <;> rfl), by repeat (first | (with_reducible first | exact HB.out | apply below_alloc | apply pw_below_drewN | apply below_drew1) | exact HB.out)⟩
        · replace c29 := Bool.eq_false_iff.mpr c29
          subst c29
          have H1 : (quarrylaw03_KeysReads.l0 kj7 l0 y269 t280 0) = some r := by rw [if_neg (show ¬ (false = true) by decide)] at H; exact H
          clear H
          have H := H1
          clear H1
          have H' := Aside0.mk H
          clear H
          go_wp2
          go_loopg [14] kj7 (fun kq v14 w' => ∃ (x10_2 : List Int) (x14_2 : Int), v14 = .int .i64 x14_2 ∧ Aside0 (quarrylaw03_KeysReads.l0 kq l0 y269 x10_2 x14_2 = some r) ∧ Aside0 (kq ≤ kj7) ∧ Aside0 (Kd.R (Kd.int .u8) 5 w' w.heap.size (fun k_ => some k_ ≠ (v282 : Value).ownBlock) (.slice Ao12 y269.length co12) y269) ∧ Aside0 (Kd.R (Kd.int .u8) 5 w' w.heap.size (fun k_ => some k_ ≠ ((.slice Ao12 y269.length co12) : Value).ownBlock) v282 x10_2) ∧ Aside0 (Below w.heap.size w w'))
          case atStart => exact ⟨(t280), (0), (by first | rfl | (simp; done) | (simp [*]; done)), H', ⟨Nat.le_refl _⟩, ⟨by (with_reducible repeat (first | apply Kd.R_alloc | apply Kd.R_drewN | apply Kd.R_drew)); exact HO_5.out⟩, ⟨by (with_reducible repeat (first | apply Kd.R_alloc | apply Kd.R_drewN | apply Kd.R_drew)); exact HO_10.out⟩, ⟨by repeat (first | (with_reducible first | exact HB.out | apply below_alloc | apply pw_below_drewN | apply below_drew1) | exact HB.out)⟩⟩
          case round =>
            clear H'
            try clear c1
            try clear c2
            try clear p2
            try clear hcv2
            try clear c3
            try clear c4
            try clear c13
            try clear c14
            try clear c15
            try clear c16
            try clear c17
            try clear c17b0
            try clear c17b1
            try clear c19
            try clear c20
            try clear c20b0
            try clear c20b1
            try clear c20b2
            try clear hcv25
            try clear hcv26
            try clear c29
            try clear p2
            obtain ⟨x10_2, x14_2, rfl, HA, HK2, HO_5, HO_10, HB⟩ := hrel
            cases gk with
            | zero => exact absurd HA.out (by simp [quarrylaw03_KeysReads.l0])
            | succ k2 =>
              have H := HA.out
              clear HA
              simp only [quarrylaw03_KeysReads.l0] at H
              by_cases c30 : x14_2 < (x10_2.length : Int)
              · rw [if_pos c30] at H
                have c30b0 : decide (x14_2 < (x10_2.length : Int)) = true := decide_eq_true c30
                clear c30
                by_cases c31 : 0 ≤ x14_2
                · rw [if_pos c31] at H
                  have c31b0 : decide (0 ≤ x14_2) = true := decide_eq_true c31
                  clear c31
                  obtain ⟨y290, hy290⟩ : ∃ y_ : List Int, y_ = (x10_2.set (x14_2 : Int).toNat (((rd x10_2 x14_2) + 1) % 256)) := ⟨_, rfl⟩
                  replace H : (quarrylaw03_KeysReads.l0 k2 l0 y269 y290 (wrap64 (x14_2 + 1))) = some r := by first | (rw [hy290]; with_reducible exact H) | (have H2_ := (Option.bind_some _ _).symm.trans H; rw [hy290]; with_reducible exact H2_) | (have H2_ := (Option.bind_some _ _).symm.trans H; with_reducible exact H2_) | with_reducible exact H | (rw [hy290]; exact H) | exact H
                  have Ny290 := Aside0.mk hy290
                  clear hy290
                  have H' := Aside0.mk H
                  clear H
                  obtain ⟨Ao33, co33, eo33⟩ := Kd.R_slice HO_10.out
                  subst eo33
                  have p289 : 0 ≤ (x14_2 : Int) := of_decide_eq_true (by first | (with_reducible assumption) | assumption)
                  have q289 : x14_2 < (x10_2.length : Int) := of_decide_eq_true (by first | (with_reducible assumption) | assumption)
                  obtain ⟨ad289, e289, hx289_0⟩ := Kd.at_int (Kd.R_reads' HO_10.out).2.2 x14_2 p289 q289
                  cases e289
                  replace p289 := eq_true p289
                  replace q289 := eq_true q289
                  have p32 : 0 ≤ (x14_2 : Int) := of_decide_eq_true (by first | (with_reducible assumption) | assumption)
                  have q32 : (x14_2 : Int) < ((x10_2.length : Int) : Int) := of_decide_eq_true (by first | (with_reducible assumption) | assumption)
                  obtain ⟨go32, co32, eo32, gb32, gl32, cl32, HG32⟩ := Kd.R_form HO_10.out (by omega)
                  (first | cases eo32 | (injection eo32 with ea_ en_ ec_; (first | subst ea_ | (injection ea_ with ea_; subst ea_)); subst ec_; clear en_))
                  have GB32 := Aside0.mk gb32
                  have GG32 := Aside0.mk HG32
                  clear gb32 gl32 HG32
                  (first | simp only [add_plain] at hx289_0 | skip)
                  obtain ⟨hx32_0, hf32_0⟩ := Kd.R_celln 0 HO_10.out (x14_2 : Int) p32 q32
                  replace p32 := eq_true p32
                  replace q32 := eq_true q32
                  have HP34 := Kd.R_putg HO_10.out (x14_2 : Int) (((rd x10_2 x14_2) + 1) % 256)
                  go_wp2_with (first | ((with_reducible refine gate_store (t := 5) (p := 72) rfl ?_); refine store_event (t := 5) (p := 72) (v := ?vo_w35) (w1 := (wr.setCell ⟨go32, (x14_2 : Int).toNat, none⟩ (.int .u8 (((rd x10_2 x14_2) + 1) % 256)))) ?hg ?ho ?hn ?hr ?_; (case ho => rfl); (case hg => rfl); (case hn => rfl); (case hr => first | (go_simp; done) | (go_simp; rfl)); intro w35 hw; have hg : wr.grownBy w35 (some go32) := (by rw [hw]; exact HP34.2); have hp_ : Kd.R (Kd.int .u8) 5 w35 w.heap.size (fun k_ => some k_ ≠ (.slice Ao12 y269.length co12 : Value).ownBlock) (.slice (some ⟨go32, 0, none⟩) x10_2.length co33) y290 := (by rw [hw, Ny290.out]; exact HP34.1); clear HP34; have n0_ := Aside0.mk (Kd.R_after (v := (.slice (some ⟨go32, 0, none⟩) x10_2.length co33)) (v1 := (.slice (some ⟨go32, 0, none⟩) x10_2.length co33)) (ok := (fun _ => True)) (by (with_reducible repeat (first | apply Kd.R_alloc | apply Kd.R_drewN | apply Kd.R_drew)); exact Kd.R_mono HO_5.out (fun _ hk => ⟨trivial, hk⟩)) hg (.inl rfl)); have n1_ := Aside0.mk (hp_); have n2_ := Aside0.mk ((by rw [hw]; exact below_set (HB.out) GB32.out : Below w.heap.size w w35)); clear HO_5; clear HO_10; clear HB; have HO_5 := n0_; have HO_10 := n1_; have HB := n2_; clear n0_ n1_ n2_; clear hg hw hp_))
                  go_roundg k2
                  case measure => have := HJ7.out; have := HK2.out; omega
                  case rel => exact ⟨(y290), (wrap64 (x14_2 + 1)), (by first | rfl | (simp; done) | (simp [*]; done)), H', ⟨by have := HJ7.out; have := HK2.out; omega⟩, ⟨by (with_reducible repeat (first | apply Kd.R_alloc | apply Kd.R_drewN | apply Kd.R_drew)); exact Kd.R_mono HO_5.out (fun _ hk => hk.2)⟩, ⟨by (with_reducible repeat (first | apply Kd.R_alloc | apply Kd.R_drewN | apply Kd.R_drew)); exact HO_10.out⟩, ⟨by repeat (first | (with_reducible first | exact HB.out | apply below_alloc | apply pw_below_drewN | apply below_drew1) | exact HB.out)⟩⟩
                · rw [if_neg c31] at H
                  exact absurd H (by simp)
              · rw [if_neg c30] at H
                have c30b0 : decide (x14_2 < (x10_2.length : Int)) = false := decide_eq_false c30
                clear c30
                obtain rfl := Option.some.inj H
                obtain ⟨Ao36, co36, eo36⟩ := Kd.R_slice HO_10.out
                subst eo36
                have hcv37 := own_string (P := Try.prog) Try.underlying24 Try.underlying5 Try.underlying9 (Kd.own_of_R HO_5.out)
                have hcv38 := Kd.C_string (P := Try.prog) (A := A0) (c := c0) Try.underlying24 Try.underlying5 Try.underlying9 (Kd.C_below HR0.out HB.out)
                go_wp2
                go_ret
                exact ⟨by first | rfl | (simp [errW_none, errW_some] <;> rfl) | (simp [*, errW_none, errW_some] <;> rfl), by repeat (first | (with_reducible first | exact HB.out | apply below_alloc | apply pw_below_drewN | apply below_drew1) | exact HB.out)⟩
  · rw [if_neg c3] at H
    exact absurd H (by simp)

end Go.Proofs.Ytbpnmmakodaakaa.P

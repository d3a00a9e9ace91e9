/- Laid by a program of this session out of its texts for the law DiskPlays, part 3. -/
import Derived.Test.YtehgbikleiaagaaZDiskPlays2
section
namespace Go.Proofs.Ytehgbikleiaagaa.P
open Go.RowKit Go.Proofs.YtehgbikleiaagaaW.PrintWords Go.Proofs.YtehgbikleiaagaaW.PrintLast Go.Proofs.YtehgbikleiaagaaW.PrintMore
set_option linter.unusedVariables false
set_option linter.unusedSimpArgs false
set_option maxHeartbeats 4000000 in
set_option maxRecDepth 100000 in
theorem rmend_calls {B r : Nat} {s : Dk} (m : Nat) (hz : DZ s m) (A2 : Option Addr) (c3 : Nat) (keep : List Bool) (torn cut : Int) (w : World) (h : RS w B r (rOf s)) (hkr : Kd.C Kd.bool w A2 keep.length keep) (hlow : keep ≠ [] → ∀ a, A2 = some a → a.block < B) :
    Calls Try.prog 39 #[.pointer (some ⟨r, 0, none⟩), .slice A2 keep.length c3, .int .i64 torn, .int .i64 cut] w fun e w' => (∃ u, e = .returned u) ∧ RS w' B r (rOf (mendS s keep torn cut)) ∧ RF B w w' := by
  have HZ := Aside0.mk hz
  have HKR := Aside0.mk hkr
  have HLOW := Aside0.mk hlow
  have HS0 := Aside0.mk (show RS w B r (rOf { s with last := mendL s keep torn cut 0 }) from h)
  have HF0 : Aside0 (RF B w w) := ⟨RF.of_below (Below.refl _ _) (by obtain ⟨_, _, _, q⟩ := h; exact Nat.le_trans q.br (Nat.le_of_lt q.lt))⟩
  clear h hz hkr hlow
  go_enter Try.func39, Try.ntmps39
  go_wp2_with fail
  go_loopw [8] (fun v8 wr => ∃ k : Nat, v8 = .int .i64 (k : Int) ∧ k ≤ s.cache.length ∧ Aside0 (RS wr B r (rOf { s with last := mendL s keep torn cut k })) ∧ Aside0 (RF B w wr)) (fun v8 _ => s.cache.length - (intOf v8).toNat)
  case atStart => exact ⟨0, rfl, Nat.zero_le _, HS0, HF0⟩
  case round =>
    clear HS0 HF0
    obtain ⟨k, rfl, hk, HS, HF⟩ := hrel
    by_cases hlt : k < s.cache.length
    · have hBw : B ≤ wr.heap.size := by obtain ⟨_, _, _, q⟩ := HS.out; exact Nat.le_trans q.br (Nat.le_of_lt q.lt)
      have hdw : Below wr.heap.size wr wr.drew := below_drew1 (Below.refl _ _)
      obtain ⟨n, hn⟩ : ∃ n, n = mendN keep torn cut k := ⟨_, rfl⟩
      obtain ⟨gL, cL, gP, cP, gz, cz, w', j, hj, hjm, hcL, hcz, hn5, d0, d1, d2, d3, hrun, hrs, hrf⟩ := mend_copy m HZ.out k hlt n hn (HS.out.step hdw)
      have c1 : wr.cell? ⟨r, 1, none⟩ = some (.slice (some ⟨gP, 0, none⟩) s.cache.length cP) := d1
      have HD := Aside0.mk (And.intro d0 (And.intro d1 (And.intro d2 d3)))
      have HRN := Aside0.mk hrun
      have HRS := Aside0.mk hrs
      have HRF := Aside0.mk (HF.out.trans ((RF.of_below hdw hBw).trans hrf))
      have HK := Aside0.mk hlt
      have HNN := Aside0.mk (And.intro hn (And.intro hn5 hcz))
      have hm4 := HZ.out.h2
      have w1_ : wrap64 ((j : Int) * 512) = (j : Int) * 512 := by unfold wrap64; omega
      have g1 : (0 : Int) ≤ (j : Int) * 512 := by omega
      have g4 : ((j : Int) * 512).toNat = j * 512 := by omega
      have g3 : (j : Int) * 512 ≤ (m : Int) * 512 := by omega
      have g5 : j * 512 ≤ m * 512 := by omega
      have g7 : ¬ (cL = j * 512) := by omega
      have hki : (k : Int) < (s.cache.length : Int) := Int.ofNat_lt.2 hlt
      have w3_ := wrap_succ k (Nat.lt_of_lt_of_le hlt (Nat.le_trans HZ.out.hn (by decide)))
      have b5 : (0 : Int) ≤ (k : Int) := Int.natCast_nonneg k
      have hcz2 : (512 : Int) ≤ (cz : Int) := by omega
      have hnz : (n : Int) ≤ (cz : Int) := by omega
      have hn0 : (0 : Int) ≤ (n : Int) := by omega
      by_cases ht : (k : Int) = torn
      · have hv : mendN keep torn cut k = (max 0 (min cut 512)).toNat := if_pos ht
        have t0 : ((k : Int) == torn) = true := beq_iff_eq.mpr ht
        have t1 : decide ((k : Int) = torn) = true := decide_eq_true ht
        obtain ⟨mC, hmC⟩ : ∃ mC : Int, mC = if 512 < cut then 512 else cut := ⟨_, rfl⟩
        have hnv : (if (0 : Int) < mC then mC else 0) = (n : Int) := by rw [hn, hv, hmC]; split <;> split <;> omega
        have mmn : ∀ (a : Array TypeId) (t : TypeId), Builtin.min_ a t #[.int .i64 cut, .int .i64 512] = pure (.int .i64 mC) := fun a t => by rw [hmC, min_two, min2_int, pure_bind]
        have mmx : ∀ (a : Array TypeId) (t : TypeId), Builtin.max_ a t #[.int .i64 0, .int .i64 mC] = pure (.int .i64 (n : Int)) := fun a t => by rw [← hnv, max_two, max2_int, pure_bind]
        have g8 : (j ≤ m) = True := eq_true (Nat.le_of_lt hjm)
        have g7_ : (cL = j * 512) = False := eq_false g7
        have b1 : decide ((k : Int) < (s.cache.length : Int)) = true := decide_eq_true hki
        have b2 : ((k : Int) < (s.cache.length : Int)) = True := eq_true hki
        have b3 : (k < s.cache.length) = True := eq_true hlt
        clear hBw hdw hj hjm hcL d0 d1 d2 d3 hrun hrs hrf hm4 g7 hki hlt hk hv hn
        clear ht hnv hmC hcz2
        go_upto_region 4 with fail
        refine start_ (n := 27) (S := fun w' => w'.cell? ⟨r, 0, none⟩ = some (.slice (some ⟨gL, 0, none⟩) (m * 512) cL) ∧ w'.cell? ⟨r, 1, none⟩ = some (.slice (some ⟨gP, 0, none⟩) s.cache.length cP) ∧ w'.cell? ⟨gP, k * 2, none⟩ = some (.int .i64 (j : Int)) ∧ w'.cell? ⟨gP, k * 2 + 1, none⟩ = some (.slice (some ⟨gz, 0, none⟩) 512 cz)) (ds := [26]) #[false, false, false, false, false, false, false, false, false, false, false, false, false, false, false, false, false, false, false, false, false, false, false, false, false, false, false] (by kernel_rfl) rfl rfl ⟨HD.out.1, HD.out.2.1, HD.out.2.2.1, HD.out.2.2.2⟩ (fun hHeld => ?_)
        refine pure_ (i := 0) (N := some 22) (v := ?_) (a' := ?_) #[true, false, false, false, false, false, false, false, false, false, false, false, false, false, false, false, false, false, false, false, false, false, false, false, false, false, false] rfl rfl (by kernel_rfl) (fun _ _ _ h => h) (Or.inl ⟨by rfl, ?_⟩) ?_ ?_
        rotate_left
        · intro w'
          go_simp
          with_reducible rfl
        rotate_left
        · simp only [Act.put, List.setIfInBounds_toArray, List.set_cons_zero, List.set_cons_succ, i64_w, i32_w]
          rfl
        refine pure_ (i := 1) (N := some 23) (v := ?_) (a' := ?_) #[true, true, false, false, false, false, false, false, false, false, false, false, false, false, false, false, false, false, false, false, false, false, false, false, false, false, false] rfl rfl (by kernel_rfl) (fun _ _ _ h => h) (Or.inl ⟨by rfl, ?_⟩) ?_ ?_
        rotate_left
        · intro w'
          go_simp
          with_reducible rfl
        rotate_left
        · simp only [Act.put, List.setIfInBounds_toArray, List.set_cons_zero, List.set_cons_succ, i64_w, i32_w]
          rfl
        refine pure_ (i := 2) (N := some 24) (v := ?_) (a' := ?_) #[true, true, true, false, false, false, false, false, false, false, false, false, false, false, false, false, false, false, false, false, false, false, false, false, false, false, false] rfl rfl (by kernel_rfl) (fun _ _ _ h => h) (Or.inl ⟨by rfl, ?_⟩) ?_ ?_
        rotate_left
        · intro w'
          go_simp
          with_reducible rfl
        rotate_left
        · simp only [Act.put, List.setIfInBounds_toArray, List.set_cons_zero, List.set_cons_succ, i64_w, i32_w]
          rfl
        refine pure_ (i := 4) (N := some 26) (v := ?_) (a' := ?_) #[true, true, true, false, true, false, false, false, false, false, false, false, false, false, false, false, false, false, false, false, false, false, false, false, false, false, false] rfl rfl (by kernel_rfl) (fun _ _ _ h => h) (Or.inl ⟨by rfl, ?_⟩) ?_ ?_
        rotate_left
        · intro w'
          go_simp
          with_reducible rfl
        rotate_left
        · simp only [Act.put, List.setIfInBounds_toArray, List.set_cons_zero, List.set_cons_succ, i64_w, i32_w]
          rfl
        refine pure_ (i := 5) (N := some 27) (v := ?_) (a' := ?_) #[true, true, true, false, true, true, false, false, false, false, false, false, false, false, false, false, false, false, false, false, false, false, false, false, false, false, false] rfl rfl (by kernel_rfl) (fun _ _ _ h => h) (Or.inl ⟨by rfl, ?_⟩) ?_ ?_
        rotate_left
        · intro w'
          go_simp
          with_reducible rfl
        rotate_left
        · simp only [Act.put, List.setIfInBounds_toArray, List.set_cons_zero, List.set_cons_succ, i64_w, i32_w]
          rfl
        refine pure_ (i := 6) (N := some 28) (v := ?_) (a' := ?_) #[true, true, true, false, true, true, true, false, false, false, false, false, false, false, false, false, false, false, false, false, false, false, false, false, false, false, false] rfl rfl (by kernel_rfl) (fun _ _ _ h => h) (Or.inl ⟨by rfl, ?_⟩) ?_ ?_
        rotate_left
        · intro w'
          go_simp
          with_reducible rfl
        rotate_left
        · simp only [Act.put, List.setIfInBounds_toArray, List.set_cons_zero, List.set_cons_succ, i64_w, i32_w]
          rfl
        refine pure_ (i := 8) (N := some 30) (v := ?_) (a' := ?_) #[true, true, true, false, true, true, true, false, true, false, false, false, false, false, false, false, false, false, false, false, false, false, false, false, false, false, false] rfl rfl (by kernel_rfl) (fun _ _ _ h => h) (Or.inl ⟨by rfl, ?_⟩) ?_ ?_
        rotate_left
        · intro w'
          go_simp
          with_reducible rfl
        rotate_left
        · simp only [Act.put, List.setIfInBounds_toArray, List.set_cons_zero, List.set_cons_succ, i64_w, i32_w]
          rfl
        refine pure_ (i := 14) (N := some 36) (v := ?_) (a' := ?_) #[true, true, true, false, true, true, true, false, true, false, false, false, false, false, true, false, false, false, false, false, false, false, false, false, false, false, false] rfl rfl (by kernel_rfl) (fun _ _ _ h => h) (Or.inl ⟨by rfl, ?_⟩) ?_ ?_
        rotate_left
        · intro w'
          go_simp
          with_reducible rfl
        rotate_left
        · simp only [Act.put, List.setIfInBounds_toArray, List.set_cons_zero, List.set_cons_succ, i64_w, i32_w]
          rfl
        refine pure_ (i := 15) (N := some 37) (v := ?_) (a' := ?_) #[true, true, true, false, true, true, true, false, true, false, false, false, false, false, true, true, false, false, false, false, false, false, false, false, false, false, false] rfl rfl (by kernel_rfl) (fun _ _ _ h => h) (Or.inl ⟨by rfl, ?_⟩) ?_ ?_
        rotate_left
        · intro w'
          go_simp
          with_reducible rfl
        rotate_left
        · simp only [Act.put, List.setIfInBounds_toArray, List.set_cons_zero, List.set_cons_succ, i64_w, i32_w]
          rfl
        refine pure_ (i := 16) (N := some 38) (v := ?_) (a' := ?_) #[true, true, true, false, true, true, true, false, true, false, false, false, false, false, true, true, true, false, false, false, false, false, false, false, false, false, false] rfl rfl (by kernel_rfl) (fun _ _ _ h => h) (Or.inl ⟨by rfl, ?_⟩) ?_ ?_
        rotate_left
        · intro w'
          go_simp
          with_reducible rfl
        rotate_left
        · simp only [Act.put, List.setIfInBounds_toArray, List.set_cons_zero, List.set_cons_succ, i64_w, i32_w]
          rfl
        refine pure_ (i := 18) (N := some 40) (v := ?_) (a' := ?_) #[true, true, true, false, true, true, true, false, true, false, false, false, false, false, true, true, true, false, true, false, false, false, false, false, false, false, false] rfl rfl (by kernel_rfl) (fun _ _ _ h => h) (Or.inl ⟨by rfl, ?_⟩) ?_ ?_
        rotate_left
        · intro w'
          go_simp
          with_reducible rfl
        rotate_left
        · simp only [Act.put, List.setIfInBounds_toArray, List.set_cons_zero, List.set_cons_succ, i64_w, i32_w]
          rfl
        refine pure_ (i := 22) (N := some 44) (v := ?_) (a' := ?_) #[true, true, true, false, true, true, true, false, true, false, false, false, false, false, true, true, true, false, true, false, false, false, true, false, false, false, false] rfl rfl (by kernel_rfl) (fun _ _ _ h => h) (Or.inl ⟨by rfl, ?_⟩) ?_ ?_
        rotate_left
        · intro w'
          go_simp
          with_reducible rfl
        rotate_left
        · simp only [Act.put, List.setIfInBounds_toArray, List.set_cons_zero, List.set_cons_succ, i64_w, i32_w]
          rfl
        refine pure_ (i := 23) (N := some 45) (v := ?_) (a' := ?_) #[true, true, true, false, true, true, true, false, true, false, false, false, false, false, true, true, true, false, true, false, false, false, true, true, false, false, false] rfl rfl (by kernel_rfl) (fun _ _ _ h => h) (Or.inl ⟨by rfl, ?_⟩) ?_ ?_
        rotate_left
        · intro w'
          go_simp
          with_reducible rfl
        rotate_left
        · simp only [Act.put, List.setIfInBounds_toArray, List.set_cons_zero, List.set_cons_succ, i64_w, i32_w]
          rfl
        refine pure_ (i := 24) (N := some 46) (v := ?_) (a' := ?_) #[true, true, true, false, true, true, true, false, true, false, false, false, false, false, true, true, true, false, true, false, false, false, true, true, true, false, false] rfl rfl (by kernel_rfl) (fun _ _ _ h => h) (Or.inl ⟨by rfl, ?_⟩) ?_ ?_
        rotate_left
        · intro w'
          go_simp
          with_reducible rfl
        rotate_left
        · simp only [Act.put, List.setIfInBounds_toArray, List.set_cons_zero, List.set_cons_succ, i64_w, i32_w]
          rfl
        refine take_ (i := 3) (N := some 25) (v := ?_) (a' := ?_) #[true, true, true, true, true, true, true, false, true, false, false, false, false, false, true, true, true, false, true, false, false, false, true, true, true, false, false] rfl rfl (by kernel_rfl) (fun _ _ _ h => h) (Or.inl ⟨by rfl, ?_⟩) hHeld ?_ ?_
        rotate_left
        · rintro w' ⟨s0, s1, s2, s3⟩
          go_simp
          with_reducible rfl
        rotate_left
        · simp only [Act.put, List.setIfInBounds_toArray, List.set_cons_zero, List.set_cons_succ, i64_w, i32_w]
          rfl
        refine take_ (i := 7) (N := some 29) (v := ?_) (a' := ?_) #[true, true, true, true, true, true, true, true, true, false, false, false, false, false, true, true, true, false, true, false, false, false, true, true, true, false, false] rfl rfl (by kernel_rfl) (fun _ _ _ h => h) (Or.inl ⟨by rfl, ?_⟩) hHeld ?_ ?_
        rotate_left
        · rintro w' ⟨s0, s1, s2, s3⟩
          go_simp
          with_reducible rfl
        rotate_left
        · simp only [Act.put, List.setIfInBounds_toArray, List.set_cons_zero, List.set_cons_succ, i64_w, i32_w]
          rfl
        refine pure_ (i := 9) (N := some 31) (v := ?_) (a' := ?_) #[true, true, true, true, true, true, true, true, true, true, false, false, false, false, true, true, true, false, true, false, false, false, true, true, true, false, false] rfl rfl (by kernel_rfl) (fun _ _ _ h => h) (Or.inl ⟨by rfl, ?_⟩) ?_ ?_
        rotate_left
        · intro w'
          go_simp
          with_reducible rfl
        rotate_left
        · simp only [Act.put, List.setIfInBounds_toArray, List.set_cons_zero, List.set_cons_succ, i64_w, i32_w]
          rfl
        refine pure_ (i := 10) (N := some 32) (v := ?_) (a' := ?_) #[true, true, true, true, true, true, true, true, true, true, true, false, false, false, true, true, true, false, true, false, false, false, true, true, true, false, false] rfl rfl (by kernel_rfl) (fun _ _ _ h => h) (Or.inl ⟨by rfl, ?_⟩) ?_ ?_
        rotate_left
        · intro w'
          go_simp
          with_reducible rfl
        rotate_left
        · simp only [Act.put, List.setIfInBounds_toArray, List.set_cons_zero, List.set_cons_succ, i64_w, i32_w]
          rfl
        refine take_ (i := 11) (N := some 33) (v := ?_) (a' := ?_) #[true, true, true, true, true, true, true, true, true, true, true, true, false, false, true, true, true, false, true, false, false, false, true, true, true, false, false] rfl rfl (by kernel_rfl) (fun _ _ _ h => h) (Or.inl ⟨by rfl, ?_⟩) hHeld ?_ ?_
        rotate_left
        · rintro w' ⟨s0, s1, s2, s3⟩
          go_simp
          with_reducible rfl
        rotate_left
        · simp only [Act.put, List.setIfInBounds_toArray, List.set_cons_zero, List.set_cons_succ, i64_w, i32_w]
          rfl
        refine pure_ (i := 12) (N := some 34) (v := ?_) (a' := ?_) #[true, true, true, true, true, true, true, true, true, true, true, true, true, false, true, true, true, false, true, false, false, false, true, true, true, false, false] rfl rfl (by kernel_rfl) (fun _ _ _ h => h) (Or.inl ⟨by rfl, ?_⟩) ?_ ?_
        rotate_left
        · intro w'
          go_simp
          with_reducible rfl
        rotate_left
        · simp only [Act.put, List.setIfInBounds_toArray, List.set_cons_zero, List.set_cons_succ, i64_w, i32_w]
          rfl
        refine pure_ (i := 13) (N := some 35) (v := ?_) (a' := ?_) #[true, true, true, true, true, true, true, true, true, true, true, true, true, true, true, true, true, false, true, false, false, false, true, true, true, false, false] rfl rfl (by kernel_rfl) (fun _ _ _ h => h) (Or.inl ⟨by rfl, ?_⟩) ?_ ?_
        rotate_left
        · intro w'
          go_simp
          with_reducible rfl
        rotate_left
        · simp only [Act.put, List.setIfInBounds_toArray, List.set_cons_zero, List.set_cons_succ, i64_w, i32_w]
          rfl
        refine take_ (i := 17) (N := some 39) (v := ?_) (a' := ?_) #[true, true, true, true, true, true, true, true, true, true, true, true, true, true, true, true, true, true, true, false, false, false, true, true, true, false, false] rfl rfl (by kernel_rfl) (fun _ _ _ h => h) (Or.inl ⟨by rfl, ?_⟩) hHeld ?_ ?_
        rotate_left
        · rintro w' ⟨s0, s1, s2, s3⟩
          go_simp
          with_reducible rfl
        rotate_left
        · simp only [Act.put, List.setIfInBounds_toArray, List.set_cons_zero, List.set_cons_succ, i64_w, i32_w]
          rfl
        refine pure_ (i := 19) (N := some 41) (v := ?_) (a' := ?_) #[true, true, true, true, true, true, true, true, true, true, true, true, true, true, true, true, true, true, true, true, false, false, true, true, true, false, false] rfl rfl (by kernel_rfl) (fun _ _ _ h => h) (Or.inl ⟨by rfl, ?_⟩) ?_ ?_
        rotate_left
        · intro w'
          go_simp
          with_reducible rfl
        rotate_left
        · simp only [Act.put, List.setIfInBounds_toArray, List.set_cons_zero, List.set_cons_succ, i64_w, i32_w]
          rfl
        refine pure_ (i := 20) (N := some 42) (v := ?_) (a' := ?_) #[true, true, true, true, true, true, true, true, true, true, true, true, true, true, true, true, true, true, true, true, true, false, true, true, true, false, false] rfl rfl (by kernel_rfl) (fun _ _ _ h => h) (Or.inl ⟨by rfl, ?_⟩) ?_ ?_
        rotate_left
        · intro w'
          go_simp
          with_reducible rfl
        rotate_left
        · simp only [Act.put, List.setIfInBounds_toArray, List.set_cons_zero, List.set_cons_succ, i64_w, i32_w]
          rfl
        refine take_ (i := 21) (N := some 43) (v := ?_) (a' := ?_) #[true, true, true, true, true, true, true, true, true, true, true, true, true, true, true, true, true, true, true, true, true, true, true, true, true, false, false] rfl rfl (by kernel_rfl) (fun _ _ _ h => h) (Or.inl ⟨by rfl, ?_⟩) hHeld ?_ ?_
        rotate_left
        · rintro w' ⟨s0, s1, s2, s3⟩
          go_simp
          with_reducible rfl
        rotate_left
        · simp only [Act.put, List.setIfInBounds_toArray, List.set_cons_zero, List.set_cons_succ, i64_w, i32_w]
          rfl
        refine pure_ (i := 25) (N := some 47) (v := ?_) (a' := ?_) #[true, true, true, true, true, true, true, true, true, true, true, true, true, true, true, true, true, true, true, true, true, true, true, true, true, true, false] rfl rfl (by kernel_rfl) (fun _ _ _ h => h) (Or.inl ⟨by rfl, ?_⟩) ?_ ?_
        rotate_left
        · intro w'
          go_simp
          with_reducible rfl
        rotate_left
        · simp only [Act.put, List.setIfInBounds_toArray, List.set_cons_zero, List.set_cons_succ, i64_w, i32_w]
          rfl
        refine last_ (i := 26) (N := some 48) #[true, true, true, true, true, true, true, true, true, true, true, true, true, true, true, true, true, true, true, true, true, true, true, true, true, true, true] rfl rfl (by kernel_rfl) (by decide) (fun K hK => ?_)
        refine value_ (w1 := w') (v := .int .i64 ((n : Nat) : Int)) (by rfl) rfl (exec_copy (.tmp 35) (.tmp 47) 30 30 rfl (by rfl) (by rfl) HRN.out) ?_
        refine hK.out _ _ ?_
        clear hK K
        refine norm_ (a' := ?_) ?_ ?_
        rotate_left
        · show Act.put _ (some 48) _ = _
          simp only [Act.put, List.setIfInBounds_toArray, List.set_cons_zero, List.set_cons_succ, i64_w, i32_w]
          rfl
        refine done_ (by kernel_rfl) ?_
        go_wp2_with fail
        go_roundw
        case rel => exact ⟨k + 1, by first | exact congrArg (Value.int .i64) w3_ | rfl, HK.out, HRS, HRF⟩
        case measure => exact meas_lt HK.out (by first | exact congrArg (Value.int .i64) w3_ | rfl)
      · have hv : mendN keep torn cut k = if keep.getD k false = true then 512 else 0 := if_neg ht
        have t0 : ((k : Int) == torn) = false := beq_eq_false_iff_ne.mpr ht
        have t1 : decide ((k : Int) = torn) = false := decide_eq_false ht
        by_cases hkl : k < keep.length
        · obtain ⟨ad, ea, hca⟩ := Kd.at_bool HKR.out (k : Int) (Int.natCast_nonneg k) (Int.ofNat_lt.2 hkl)
          subst ea
          rw [Int.toNat_natCast] at hca
          have hrk : rdOf false keep (k : Int) = keep.getD k false := by simp [rdOf]
          rw [hrk] at hca
          have hcb : wr.cell? (ad.add k) = some (.bool (keep.getD k false)) := by
            refine (World.cell?_of_block (HF.out.1.block _ ?_)).trans hca
            have := HLOW.out (List.ne_nil_of_length_pos (Nat.lt_of_le_of_lt (Nat.zero_le _) hkl)) ad rfl
            unfold Addr.add
            split <;> exact this
          have lk : (k : Int) < (keep.length : Int) := Int.ofNat_lt.2 hkl
          have hlt' : k < s.cache.length := hlt
          have b1 : decide ((k : Int) < (s.cache.length : Int)) = true := decide_eq_true hki
          have b2 : ((k : Int) < (s.cache.length : Int)) = True := eq_true hki
          have b3 : (k < s.cache.length) = True := eq_true hlt
          have l1 : ((k : Int) < (keep.length : Int)) = True := eq_true lk
          have l2 : decide ((k : Int) < (keep.length : Int)) = true := decide_eq_true lk
          clear lk hlt'
          have l3 : (k < keep.length) = True := eq_true hkl
          have l4 : decide (k < keep.length) = true := decide_eq_true hkl
          cases hkb : keep.getD k false with
          | true =>
            rw [hkb] at hcb
            have hnv : n = 512 := by rw [hn, hv, hkb]; rfl
            subst hnv
            have g8 : (j ≤ m) = True := eq_true (Nat.le_of_lt hjm)
            have g7_ : (cL = j * 512) = False := eq_false g7
            clear hBw hdw hj hjm hcL hcz hn5 d0 d1 d2 d3 hrun hrs hrf hm4 g7 hki hlt hk hv hn hkl hca hrk hkb
            clear ht hnz hn0
            go_upto_region 6 with fail
            refine start_ (n := 23) (S := fun w' => w'.cell? ⟨r, 0, none⟩ = some (.slice (some ⟨gL, 0, none⟩) (m * 512) cL) ∧ w'.cell? ⟨r, 1, none⟩ = some (.slice (some ⟨gP, 0, none⟩) s.cache.length cP) ∧ w'.cell? ⟨gP, k * 2, none⟩ = some (.int .i64 (j : Int)) ∧ w'.cell? ⟨gP, k * 2 + 1, none⟩ = some (.slice (some ⟨gz, 0, none⟩) 512 cz)) (ds := [22]) #[false, false, false, false, false, false, false, false, false, false, false, false, false, false, false, false, false, false, false, false, false, false, false] (by kernel_rfl) rfl rfl ⟨HD.out.1, HD.out.2.1, HD.out.2.2.1, HD.out.2.2.2⟩ (fun hHeld => ?_)
            refine pure_ (i := 0) (N := some 60) (v := ?_) (a' := ?_) #[true, false, false, false, false, false, false, false, false, false, false, false, false, false, false, false, false, false, false, false, false, false, false] rfl rfl (by kernel_rfl) (fun _ _ _ h => h) (Or.inl ⟨by rfl, ?_⟩) ?_ ?_
            rotate_left
            · intro w'
              go_simp
              with_reducible rfl
            rotate_left
            · simp only [Act.put, List.setIfInBounds_toArray, List.set_cons_zero, List.set_cons_succ, i64_w, i32_w]
              rfl
            refine pure_ (i := 1) (N := some 61) (v := ?_) (a' := ?_) #[true, true, false, false, false, false, false, false, false, false, false, false, false, false, false, false, false, false, false, false, false, false, false] rfl rfl (by kernel_rfl) (fun _ _ _ h => h) (Or.inl ⟨by rfl, ?_⟩) ?_ ?_
            rotate_left
            · intro w'
              go_simp
              with_reducible rfl
            rotate_left
            · simp only [Act.put, List.setIfInBounds_toArray, List.set_cons_zero, List.set_cons_succ, i64_w, i32_w]
              rfl
            refine pure_ (i := 2) (N := some 62) (v := ?_) (a' := ?_) #[true, true, true, false, false, false, false, false, false, false, false, false, false, false, false, false, false, false, false, false, false, false, false] rfl rfl (by kernel_rfl) (fun _ _ _ h => h) (Or.inl ⟨by rfl, ?_⟩) ?_ ?_
            rotate_left
            · intro w'
              go_simp
              with_reducible rfl
            rotate_left
            · simp only [Act.put, List.setIfInBounds_toArray, List.set_cons_zero, List.set_cons_succ, i64_w, i32_w]
              rfl
            refine pure_ (i := 4) (N := some 64) (v := ?_) (a' := ?_) #[true, true, true, false, true, false, false, false, false, false, false, false, false, false, false, false, false, false, false, false, false, false, false] rfl rfl (by kernel_rfl) (fun _ _ _ h => h) (Or.inl ⟨by rfl, ?_⟩) ?_ ?_
            rotate_left
            · intro w'
              go_simp
              with_reducible rfl
            rotate_left
            · simp only [Act.put, List.setIfInBounds_toArray, List.set_cons_zero, List.set_cons_succ, i64_w, i32_w]
              rfl
            refine pure_ (i := 5) (N := some 65) (v := ?_) (a' := ?_) #[true, true, true, false, true, true, false, false, false, false, false, false, false, false, false, false, false, false, false, false, false, false, false] rfl rfl (by kernel_rfl) (fun _ _ _ h => h) (Or.inl ⟨by rfl, ?_⟩) ?_ ?_
            rotate_left
            · intro w'
              go_simp
              with_reducible rfl
            rotate_left
            · simp only [Act.put, List.setIfInBounds_toArray, List.set_cons_zero, List.set_cons_succ, i64_w, i32_w]
              rfl
            refine pure_ (i := 6) (N := some 66) (v := ?_) (a' := ?_) #[true, true, true, false, true, true, true, false, false, false, false, false, false, false, false, false, false, false, false, false, false, false, false] rfl rfl (by kernel_rfl) (fun _ _ _ h => h) (Or.inl ⟨by rfl, ?_⟩) ?_ ?_
            rotate_left
            · intro w'
              go_simp
              with_reducible rfl
            rotate_left
            · simp only [Act.put, List.setIfInBounds_toArray, List.set_cons_zero, List.set_cons_succ, i64_w, i32_w]
              rfl
            refine pure_ (i := 8) (N := some 68) (v := ?_) (a' := ?_) #[true, true, true, false, true, true, true, false, true, false, false, false, false, false, false, false, false, false, false, false, false, false, false] rfl rfl (by kernel_rfl) (fun _ _ _ h => h) (Or.inl ⟨by rfl, ?_⟩) ?_ ?_
            rotate_left
            · intro w'
              go_simp
              with_reducible rfl
            rotate_left
            · simp only [Act.put, List.setIfInBounds_toArray, List.set_cons_zero, List.set_cons_succ, i64_w, i32_w]
              rfl
            refine pure_ (i := 14) (N := some 74) (v := ?_) (a' := ?_) #[true, true, true, false, true, true, true, false, true, false, false, false, false, false, true, false, false, false, false, false, false, false, false] rfl rfl (by kernel_rfl) (fun _ _ _ h => h) (Or.inl ⟨by rfl, ?_⟩) ?_ ?_
            rotate_left
            · intro w'
              go_simp
              with_reducible rfl
            rotate_left
            · simp only [Act.put, List.setIfInBounds_toArray, List.set_cons_zero, List.set_cons_succ, i64_w, i32_w]
              rfl
            refine pure_ (i := 15) (N := some 75) (v := ?_) (a' := ?_) #[true, true, true, false, true, true, true, false, true, false, false, false, false, false, true, true, false, false, false, false, false, false, false] rfl rfl (by kernel_rfl) (fun _ _ _ h => h) (Or.inl ⟨by rfl, ?_⟩) ?_ ?_
            rotate_left
            · intro w'
              go_simp
              with_reducible rfl
            rotate_left
            · simp only [Act.put, List.setIfInBounds_toArray, List.set_cons_zero, List.set_cons_succ, i64_w, i32_w]
              rfl
            refine pure_ (i := 16) (N := some 76) (v := ?_) (a' := ?_) #[true, true, true, false, true, true, true, false, true, false, false, false, false, false, true, true, true, false, false, false, false, false, false] rfl rfl (by kernel_rfl) (fun _ _ _ h => h) (Or.inl ⟨by rfl, ?_⟩) ?_ ?_
            rotate_left
            · intro w'
              go_simp
              with_reducible rfl
            rotate_left
            · simp only [Act.put, List.setIfInBounds_toArray, List.set_cons_zero, List.set_cons_succ, i64_w, i32_w]
              rfl
            refine pure_ (i := 18) (N := some 78) (v := ?_) (a' := ?_) #[true, true, true, false, true, true, true, false, true, false, false, false, false, false, true, true, true, false, true, false, false, false, false] rfl rfl (by kernel_rfl) (fun _ _ _ h => h) (Or.inl ⟨by rfl, ?_⟩) ?_ ?_
            rotate_left
            · intro w'
              go_simp
              with_reducible rfl
            rotate_left
            · simp only [Act.put, List.setIfInBounds_toArray, List.set_cons_zero, List.set_cons_succ, i64_w, i32_w]
              rfl
            refine take_ (i := 3) (N := some 63) (v := ?_) (a' := ?_) #[true, true, true, true, true, true, true, false, true, false, false, false, false, false, true, true, true, false, true, false, false, false, false] rfl rfl (by kernel_rfl) (fun _ _ _ h => h) (Or.inl ⟨by rfl, ?_⟩) hHeld ?_ ?_
            rotate_left
            · rintro w' ⟨s0, s1, s2, s3⟩
              go_simp
              with_reducible rfl
            rotate_left
            · simp only [Act.put, List.setIfInBounds_toArray, List.set_cons_zero, List.set_cons_succ, i64_w, i32_w]
              rfl
            refine take_ (i := 7) (N := some 67) (v := ?_) (a' := ?_) #[true, true, true, true, true, true, true, true, true, false, false, false, false, false, true, true, true, false, true, false, false, false, false] rfl rfl (by kernel_rfl) (fun _ _ _ h => h) (Or.inl ⟨by rfl, ?_⟩) hHeld ?_ ?_
            rotate_left
            · rintro w' ⟨s0, s1, s2, s3⟩
              go_simp
              with_reducible rfl
            rotate_left
            · simp only [Act.put, List.setIfInBounds_toArray, List.set_cons_zero, List.set_cons_succ, i64_w, i32_w]
              rfl
            refine pure_ (i := 9) (N := some 69) (v := ?_) (a' := ?_) #[true, true, true, true, true, true, true, true, true, true, false, false, false, false, true, true, true, false, true, false, false, false, false] rfl rfl (by kernel_rfl) (fun _ _ _ h => h) (Or.inl ⟨by rfl, ?_⟩) ?_ ?_
            rotate_left
            · intro w'
              go_simp
              with_reducible rfl
            rotate_left
            · simp only [Act.put, List.setIfInBounds_toArray, List.set_cons_zero, List.set_cons_succ, i64_w, i32_w]
              rfl
            refine pure_ (i := 10) (N := some 70) (v := ?_) (a' := ?_) #[true, true, true, true, true, true, true, true, true, true, true, false, false, false, true, true, true, false, true, false, false, false, false] rfl rfl (by kernel_rfl) (fun _ _ _ h => h) (Or.inl ⟨by rfl, ?_⟩) ?_ ?_
            rotate_left
            · intro w'
              go_simp
              with_reducible rfl
            rotate_left
            · simp only [Act.put, List.setIfInBounds_toArray, List.set_cons_zero, List.set_cons_succ, i64_w, i32_w]
              rfl
            refine take_ (i := 11) (N := some 71) (v := ?_) (a' := ?_) #[true, true, true, true, true, true, true, true, true, true, true, true, false, false, true, true, true, false, true, false, false, false, false] rfl rfl (by kernel_rfl) (fun _ _ _ h => h) (Or.inl ⟨by rfl, ?_⟩) hHeld ?_ ?_
            rotate_left
            · rintro w' ⟨s0, s1, s2, s3⟩
              go_simp
              with_reducible rfl
            rotate_left
            · simp only [Act.put, List.setIfInBounds_toArray, List.set_cons_zero, List.set_cons_succ, i64_w, i32_w]
              rfl
            refine pure_ (i := 12) (N := some 72) (v := ?_) (a' := ?_) #[true, true, true, true, true, true, true, true, true, true, true, true, true, false, true, true, true, false, true, false, false, false, false] rfl rfl (by kernel_rfl) (fun _ _ _ h => h) (Or.inl ⟨by rfl, ?_⟩) ?_ ?_
            rotate_left
            · intro w'
              go_simp
              with_reducible rfl
            rotate_left
            · simp only [Act.put, List.setIfInBounds_toArray, List.set_cons_zero, List.set_cons_succ, i64_w, i32_w]
              rfl
            refine pure_ (i := 13) (N := some 73) (v := ?_) (a' := ?_) #[true, true, true, true, true, true, true, true, true, true, true, true, true, true, true, true, true, false, true, false, false, false, false] rfl rfl (by kernel_rfl) (fun _ _ _ h => h) (Or.inl ⟨by rfl, ?_⟩) ?_ ?_
            rotate_left
            · intro w'
              go_simp
              with_reducible rfl
            rotate_left
            · simp only [Act.put, List.setIfInBounds_toArray, List.set_cons_zero, List.set_cons_succ, i64_w, i32_w]
              rfl
            refine take_ (i := 17) (N := some 77) (v := ?_) (a' := ?_) #[true, true, true, true, true, true, true, true, true, true, true, true, true, true, true, true, true, true, true, false, false, false, false] rfl rfl (by kernel_rfl) (fun _ _ _ h => h) (Or.inl ⟨by rfl, ?_⟩) hHeld ?_ ?_
            rotate_left
            · rintro w' ⟨s0, s1, s2, s3⟩
              go_simp
              with_reducible rfl
            rotate_left
            · simp only [Act.put, List.setIfInBounds_toArray, List.set_cons_zero, List.set_cons_succ, i64_w, i32_w]
              rfl
            refine pure_ (i := 19) (N := some 79) (v := ?_) (a' := ?_) #[true, true, true, true, true, true, true, true, true, true, true, true, true, true, true, true, true, true, true, true, false, false, false] rfl rfl (by kernel_rfl) (fun _ _ _ h => h) (Or.inl ⟨by rfl, ?_⟩) ?_ ?_
            rotate_left
            · intro w'
              go_simp
              with_reducible rfl
            rotate_left
            · simp only [Act.put, List.setIfInBounds_toArray, List.set_cons_zero, List.set_cons_succ, i64_w, i32_w]
              rfl
            refine pure_ (i := 20) (N := some 80) (v := ?_) (a' := ?_) #[true, true, true, true, true, true, true, true, true, true, true, true, true, true, true, true, true, true, true, true, true, false, false] rfl rfl (by kernel_rfl) (fun _ _ _ h => h) (Or.inl ⟨by rfl, ?_⟩) ?_ ?_
            rotate_left
            · intro w'
              go_simp
              with_reducible rfl
            rotate_left
            · simp only [Act.put, List.setIfInBounds_toArray, List.set_cons_zero, List.set_cons_succ, i64_w, i32_w]
              rfl
            refine take_ (i := 21) (N := some 81) (v := ?_) (a' := ?_) #[true, true, true, true, true, true, true, true, true, true, true, true, true, true, true, true, true, true, true, true, true, true, false] rfl rfl (by kernel_rfl) (fun _ _ _ h => h) (Or.inl ⟨by rfl, ?_⟩) hHeld ?_ ?_
            rotate_left
            · rintro w' ⟨s0, s1, s2, s3⟩
              go_simp
              with_reducible rfl
            rotate_left
            · simp only [Act.put, List.setIfInBounds_toArray, List.set_cons_zero, List.set_cons_succ, i64_w, i32_w]
              rfl
            refine last_ (i := 22) (N := some 82) #[true, true, true, true, true, true, true, true, true, true, true, true, true, true, true, true, true, true, true, true, true, true, true] rfl rfl (by kernel_rfl) (by decide) (fun K hK => ?_)
            refine value_ (w1 := w') (v := .int .i64 ((512 : Nat) : Int)) (by rfl) rfl (exec_copy (.tmp 73) (.tmp 81) 30 30 rfl (by rfl) (by rfl) HRN.out) ?_
            refine hK.out _ _ ?_
            clear hK K
            refine norm_ (a' := ?_) ?_ ?_
            rotate_left
            · show Act.put _ (some 82) _ = _
              simp only [Act.put, List.setIfInBounds_toArray, List.set_cons_zero, List.set_cons_succ, i64_w, i32_w]
              rfl
            refine done_ (by kernel_rfl) ?_
            go_wp2_with fail
            go_roundw
            case rel => exact ⟨k + 1, by first | exact congrArg (Value.int .i64) w3_ | rfl, HK.out, HRS, HRF⟩
            case measure => exact meas_lt HK.out (by first | exact congrArg (Value.int .i64) w3_ | rfl)
          | false =>
            rw [hkb] at hcb
            have hnv : mendN keep torn cut k = 0 := by rw [hv, hkb]; rfl
            have HSN : Aside0 (RS wr B r (rOf { s with last := mendL s keep torn cut (k + 1) })) := ⟨by rw [mendL_none hlt hnv]; exact HS.out⟩
            clear hBw hdw hj hjm hcL hcz hn5 d0 d1 d2 d3 hrun hrs hrf hm4 g7 hki hlt hk hv hn hkl hca hrk hkb
            clear ht hnz hn0 w1_ g1 g4 g3 g5 hcz2 hnv
            go_wp2_with fail
            go_roundw
            case rel => exact ⟨k + 1, by first | exact congrArg (Value.int .i64) w3_ | rfl, HK.out, HSN, HF⟩
            case measure => exact meas_lt HK.out (by first | exact congrArg (Value.int .i64) w3_ | rfl)
        · have hnv : mendN keep torn cut k = 0 := by rw [hv, List.getD_eq_getElem?_getD, List.getElem?_eq_none (Nat.not_lt.1 hkl)]; rfl
          have HSN : Aside0 (RS wr B r (rOf { s with last := mendL s keep torn cut (k + 1) })) := ⟨by rw [mendL_none hlt hnv]; exact HS.out⟩
          have lk : ¬ (k : Int) < (keep.length : Int) := fun h => hkl (Int.ofNat_lt.1 h)
          have b1 : decide ((k : Int) < (s.cache.length : Int)) = true := decide_eq_true hki
          have b2 : ((k : Int) < (s.cache.length : Int)) = True := eq_true hki
          have b3 : (k < s.cache.length) = True := eq_true hlt
          have l1 : ((k : Int) < (keep.length : Int)) = False := eq_false lk
          have l2 : decide ((k : Int) < (keep.length : Int)) = false := decide_eq_false lk
          clear lk
          have l3 : (k < keep.length) = False := eq_false hkl
          have l4 : decide (k < keep.length) = false := decide_eq_false hkl
          clear hBw hdw hj hjm hcL hcz hn5 d0 d1 d2 d3 hrun hrs hrf hm4 g7 hki hlt hk hv hn hkl
          clear ht hnz hn0 w1_ g1 g4 g3 g5 hcz2 hnv
          go_wp2_with fail
          go_roundw
          case rel => exact ⟨k + 1, by first | exact congrArg (Value.int .i64) w3_ | rfl, HK.out, HSN, HF⟩
          case measure => exact meas_lt HK.out (by first | exact congrArg (Value.int .i64) w3_ | rfl)
    · obtain ⟨⟨o, c, c1⟩, f1⟩ := HS.out.c1
      have hk0 : k = s.cache.length := Nat.le_antisymm hk (Nat.not_lt.1 hlt)
      obtain ⟨gL, uL, uP, hr⟩ := HS.out
      have q1 := hr.clear
      have q2 := q1.1.put 2 (.int .i64 (-1)) (s' := { (rOf { s with last := mendL s keep torn cut k }) with pend := [], arm := -1 }) rfl rfl rfl (show -1 ≤ (-1 : Int) ∧ (-1 : Int) < 9223372036854775808 by decide)
      have q3 := q2.1.put 3 (.bool false) (s' := { (rOf { s with last := mendL s keep torn cut k }) with pend := [], arm := -1, down := false }) rfl rfl rfl (show -1 ≤ (-1 : Int) ∧ (-1 : Int) < 9223372036854775808 by decide)
      have HFI := Aside0.mk (And.intro q3.1 (HF.out.trans (q1.2.trans (q2.2.1.trans q3.2.1))))
      have c2 : wr.cell? ⟨r, 2, none⟩ = some (.int .i64 s.left) := (blk_cell hr.blk 2).trans rfl
      have f2 := blk_frozen hr.blk 2
      have c3' : wr.cell? ⟨r, 3, none⟩ = some (.bool s.down) := (blk_cell hr.blk 3).trans rfl
      have f3 := blk_frozen hr.blk 3
      have hki : ¬ (k : Int) < (s.cache.length : Int) := fun h => hlt (Int.ofNat_lt.1 h)
      have c1' : wr.cell? ⟨r, 1, none⟩ = some (.slice o s.cache.length c) := c1
      have HK := Aside0.mk hk0
      have b1 : decide ((k : Int) < (s.cache.length : Int)) = false := decide_eq_false hki
      have b2 : ((k : Int) < (s.cache.length : Int)) = False := eq_false hki
      have b3 : (k < s.cache.length) = False := eq_false hlt
      clear hlt hk hk0 hki c1 hr q1 q2 q3
      go_wp2
      go_end0
      refine ⟨⟨_, rfl⟩, ⟨gL, uL, .slice none 0 0, ?_⟩, HFI.out.2⟩
      have e : rOf (mendS s keep torn cut) = { (rOf { s with last := mendL s keep torn cut k }) with pend := [], arm := -1, down := false } := by
        rw [HK.out]
        rfl
      rw [e]
      exact HFI.out.1
end Go.Proofs.Ytehgbikleiaagaa.P
end
section
namespace Go.Proofs.Ytehgbikleiaagaa.P
open Go.RowKit Go.Proofs.YtehgbikleiaagaaW.PrintWords Go.Proofs.YtehgbikleiaagaaW.PrintLast Go.Proofs.YtehgbikleiaagaaW.PrintMore
set_option linter.unusedVariables false
set_option linter.unusedSimpArgs false
def DQ (W : World) (bd d : Nat) (sd : Dk) (Cd : Nat) (bc c : Nat) (sc : Dk) (Cc : Nat) : Prop := ∃ M N v M2 N2 v2, DD W bd d M N v sd ∧ N + sd.cache.length ≤ Cd ∧ DD W bc c M2 N2 v2 sc ∧ N2 + sc.cache.length ≤ Cc ∧ (∀ k, FD d M v k → ¬ FD c M2 v2 k)
section
variable {w w' : World} {bd d Cd bc c Cc M N M2 N2 : Nat} {sd sc sd' : Dk} {v v' v2 : Value}
theorem DQ.snd (h : DQ w bd d sd Cd bc c sc Cc) : DS w bc c sc Cc := by
  obtain ⟨M, N, v, M2, N2, v2, h1, h2, h3, h4, h5⟩ := h
  exact ⟨M2, N2, v2, h3, h4⟩
theorem DQ.step (h : DQ w bd d sd Cd bc c sc Cc) (hb : Below w.heap.size w w') : DQ w' bd d sd Cd bc c sc Cc := by
  obtain ⟨M, N, v, M2, N2, v2, h1, h2, h3, h4, h5⟩ := h
  exact ⟨M, N, v, M2, N2, v2, h1.step hb, h2, h3.step hb, h4, h5⟩
theorem DP.dq (h : DP w bd d sd Cd bc c sc Cc) : DQ w bd d sd Cd bc c sc Cc := by
  obtain ⟨M, N, v, M2, N2, v2, h1, h2, h3, h4, h5, h6⟩ := h
  exact ⟨M, N, v, M2, N2, v2, h1, h2, h3, h4, fun k hk hs => by have := h5 k hk; have := h3.fd_base hs; omega⟩
theorem dq_move (h3 : DD w bc c M2 N2 v2 sc) (h5 : ∀ k, FD d M v k → ¬ FD c M2 v2 k) (hm : MV d M v v' w w') : DD w' bc c M2 N2 v2 sc ∧ ∀ k, FD d M v' k → ¬ FD c M2 v2 k := by
  refine ⟨h3.keep hm.kp (fun k hk hs => h5 k hs hk), fun k hk hs => ?_⟩
  rcases hk with rfl | rfl | e
  · exact h5 _ (.inl rfl) hs
  · exact h5 _ (.inr (.inl rfl)) hs
  · rcases hm.row k e.symm with h | h
    · exact h5 k (.inr (.inr h.symm)) hs
    · have := h3.fd_lt hs
      omega
end
theorem dq_write {bd d Cd bc c Cc : Nat} {s sc : Dk} (n : Int) (own : Value) (b : List Int) {b2 : Nat} {ok : Nat → Prop} (w : World) (h : DQ w bd d s Cd bc c sc Cc) (hC : Cd < 1073741824) (ho : Kd.R (Kd.int .u8) 5 w b2 ok own b) :
    Calls Try.prog 12 #[.pointer (some ⟨d, 0, none⟩), .int .i64 n, own] w fun e w' => e = .returned (.int .i64 (writeE s n b)) ∧ DQ w' bd d (writeD s n b) (Cd + 1) bc c sc Cc ∧ TF bd w w' := by
  obtain ⟨M, N, v, M2, N2, v2, h, hc, h3, h4, h5⟩ := h
  have hbl : bd ≤ w.heap.size := Nat.le_trans h.bd (Nat.le_of_lt h.lt)
  unfold writeE writeD
  by_cases hl : lookP s n ≠ 0
  · rw [if_pos hl, if_pos hl]
    obtain ⟨A, c, e⟩ := Kd.R_slice ho
    subst e
    exact (write_look n A b.length c hl w h).mono fun e w' ⟨he, hb⟩ => ⟨he, ⟨M, N, v, M2, N2, v2, h.step hb, by omega, h3.step hb, h4, h5⟩, TF.of_below hb hbl⟩
  · rw [if_neg hl, if_neg hl]
    have hl0 : lookP s n = 0 := Decidable.not_not.1 hl
    by_cases h5' : b.length ≠ 512
    · rw [if_pos h5', if_pos h5']
      obtain ⟨A, c, e⟩ := Kd.R_slice ho
      subst e
      exact (write_len n A b.length c hl0 h5' w h).mono fun e w' ⟨he, hb⟩ => ⟨he, ⟨M, N, v, M2, N2, v2, h.step hb, by omega, h3.step hb, h4, h5⟩, TF.of_below hb hbl⟩
    · rw [if_neg h5', if_neg h5']
      have h50 : b.length = 512 := Decidable.not_not.1 h5'
      by_cases hs : s.left = 0
      · rw [if_pos hs, if_pos hs]
        obtain ⟨A, c, e⟩ := Kd.R_slice ho
        subst e
        rw [h50]
        refine (write_down n A c hl0 hs w h).mono ?_
        rintro e w' ⟨he, hd, hm⟩
        have hq := dq_move h3 h5 hm
        exact ⟨he, ⟨M, N, v, M2, N2, v2, hd, by rw [stepS_cache]; omega, hq.1, h4, hq.2⟩, h.tf hm⟩
      · rw [if_neg hs, if_neg hs]
        obtain ⟨g, cap, e, _, hg, cells, hcell⟩ := Kd.R_form ho (by omega)
        subst e
        have hr := row_range ho
        rw [h50]
        refine (write_ok n b g cap hl0 h50 hs w h (by omega) hg (h.fd_typed hcell (by decide) (by decide)) hr).mono ?_
        rintro e w' ⟨he, v', hd, hm⟩
        have hq := dq_move h3 h5 hm
        exact ⟨he, ⟨M, N, v', M2, N2, v2, hd, by simp [writeS]; omega, hq.1, h4, hq.2⟩, h.tf hm⟩
theorem dq_sync {bd d Cd bc c Cc : Nat} {s sc : Dk} (w : World) (h : DQ w bd d s Cd bc c sc Cc) :
    Calls Try.prog 13 #[.pointer (some ⟨d, 0, none⟩)] w fun e w' => e = .returned (.int .i64 (syncE s)) ∧ DQ w' bd d (syncD s) Cd bc c sc Cc ∧ TF bd w w' := by
  obtain ⟨M, N, v, M2, N2, v2, h, hc, h3, h4, h5⟩ := h
  have hbl : bd ≤ w.heap.size := Nat.le_trans h.bd (Nat.le_of_lt h.lt)
  unfold syncE syncD
  by_cases hd : s.down = true
  · rw [if_pos hd, if_pos hd]
    exact (sync_down hd w h).mono fun e w' ⟨he, hb⟩ => ⟨he, ⟨M, N, v, M2, N2, v2, h.step hb, hc, h3.step hb, h4, h5⟩, TF.of_below hb hbl⟩
  · rw [if_neg hd, if_neg hd]
    have hd0 : s.down = false := by simpa using hd
    by_cases hs : s.left = 0
    · rw [if_pos hs, if_pos hs]
      refine (sync_fail hd0 hs w h).mono ?_
      rintro e w' ⟨he, hx, hm⟩
      have hq := dq_move h3 h5 hm
      exact ⟨he, ⟨M, N, v, M2, N2, v2, hx, by rw [stepS_cache]; exact hc, hq.1, h4, hq.2⟩, h.tf hm⟩
    · rw [if_neg hs, if_neg hs]
      refine (sync_ok hd0 hs w h).mono ?_
      rintro e w' ⟨he, hx, hm⟩
      have hq := dq_move h3 h5 hm
      exact ⟨he, ⟨M, _, _, M2, N2, v2, hx, by simpa [syncS] using hc, hq.1, h4, hq.2⟩, h.tf hm⟩
theorem dq_mend_nil {bd d Cd bc c Cc : Nat} {s sc : Dk} (torn cut : Int) (w : World) (h : DQ w bd d s Cd bc c sc Cc) :
    Calls Try.prog 14 #[.pointer (some ⟨d, 0, none⟩), .slice none 0 0, .int .i64 torn, .int .i64 cut] w fun e w' => (∃ u, e = .returned u) ∧ DQ w' bd d (mendS s [] torn cut) Cd bc c sc Cc ∧ TF bd w w' := by
  obtain ⟨M, N, v, M2, N2, v2, h, hc, h3, h4, h5⟩ := h
  refine (mend_calls none 0 [] torn cut w h (Kd.C_nil _ _) (fun e => absurd rfl e)).mono ?_
  rintro e w' ⟨he, hx, hm⟩
  have hq := dq_move h3 h5 hm
  exact ⟨he, ⟨M, _, _, M2, N2, v2, hx, by simpa [mendS] using hc, hq.1, h4, hq.2⟩, h.tf hm⟩
end Go.Proofs.Ytehgbikleiaagaa.P
end
section
namespace Go.Proofs.Ytehgbikleiaagaa.P
open Go.RowKit Go.Proofs.YtehgbikleiaagaaW.PrintWords Go.Proofs.YtehgbikleiaagaaW.PrintLast Go.Proofs.YtehgbikleiaagaaW.PrintMore
set_option linter.unusedVariables false
set_option linter.unusedSimpArgs false
structure QS (Z W : World) (d r C m : Nat) (s t : Dk) : Prop where
  ex : ∃ base B, DS W base d s C ∧ RS W B r (rOf t) ∧ Z.heap.size ≤ base ∧ Z.heap.size ≤ B
  lo : Below Z.heap.size Z W
  ps : s.pages = (m : Int)
  zt : DZ t m
section
variable {Z w w' : World} {d r C m : Nat} {s t : Dk}
theorem QS.step (h : QS Z w d r C m s t) (hb : Below w.heap.size w w') : QS Z w' d r C m s t := by
  obtain ⟨⟨base, B, h1, h2, h3, h4⟩, h5, h6, h7⟩ := h
  exact ⟨⟨base, B, h1.step hb, h2.step hb, h3, h4⟩, below_step h5 hb, h6, h7⟩
theorem QS.more {C' : Nat} (h : QS Z w d r C m s t) (hc : C ≤ C') : QS Z w d r C' m s t := by
  obtain ⟨⟨base, B, h1, h2, h3, h4⟩, h5, h6, h7⟩ := h
  exact ⟨⟨base, B, h1.more hc, h2, h3, h4⟩, h5, h6, h7⟩
theorem QS.dz (h : QS Z w d r C m s t) (hC : C ≤ 1073741823) : DZ s m := by
  obtain ⟨⟨base, B, h1, h2, h3, h4⟩, h5, h6, h7⟩ := h
  exact ⟨h6, h7.h1, h7.h2, h1.l512, h1.c512, Nat.le_trans h1.cache_le hC⟩
end
theorem writeD_pages (s : Dk) (n : Int) (b : List Int) : (writeD s n b).pages = s.pages := write_pages s n b
section
variable {Z w : World} {d r C m : Nat} {s t : Dk}
theorem qs_dsync (h : QS Z w d r C m s t) :
    Calls Try.prog 13 #[.pointer (some ⟨d, 0, none⟩)] w fun e w' => e = .returned (.int .i64 (syncE s)) ∧ QS Z w' d r C m (syncD s) t := by
  obtain ⟨⟨base, B, h1, h2, h3, h4⟩, h5, h6, h7⟩ := h
  exact (ds_sync w h1).mono fun e w' ⟨he, hd, ht⟩ => ⟨he, ⟨⟨base, B, hd, h2.keep (keepT_tf ht), h3, h4⟩, h5.trans (ht.b.mono h3), by rw [sync_pages]; exact h6, h7⟩⟩
theorem qs_dread (n : Int) (h : QS Z w d r C m s t) :
    Calls Try.prog 15 #[.pointer (some ⟨d, 0, none⟩), .int .i64 n] w fun e w' => ∃ v, e = .returned (.tuple #[v, .int .i64 (lookP s n)]) ∧ Below w.heap.size w w' ∧
      ((lookP s n ≠ 0 ∧ v = .slice none 0 0) ∨ (lookP s n = 0 ∧ ∃ g, w.heap.size ≤ g ∧ v = .slice (some ⟨g, 0, none⟩) 512 512 ∧ w'.heap[g]? = some (.cells (bvs (hasP s n)).toArray 67 (0, 0)))) := by
  obtain ⟨⟨base, B, h1, h2, h3, h4⟩, h5, h6, h7⟩ := h
  exact ds_read n w h1
theorem qs_rread (n : Int) (h : QS Z w d r C m s t) :
    Calls Try.prog 35 #[.pointer (some ⟨r, 0, none⟩), .int .i64 n] w fun e w' => RQ (lookP t n) (hasP t n) w e w' := by
  obtain ⟨⟨base, B, h1, h2, h3, h4⟩, h5, h6, h7⟩ := h
  exact rread_calls m h7 n w h2
theorem qs_rsync (h : QS Z w d r C m s t) (hz : DZ (syncD t) m) :
    Calls Try.prog 37 #[.pointer (some ⟨r, 0, none⟩)] w fun e w' => e = .returned (.int .i64 (syncE t)) ∧ QS Z w' d r C m s (syncD t) := by
  obtain ⟨⟨base, B, h1, h2, h3, h4⟩, h5, h6, h7⟩ := h
  exact (rsync_calls m h7 w h2).mono fun e w' ⟨he, hd, ht⟩ => ⟨he, ⟨⟨base, B, ht.ds h1, hd, h3, h4⟩, h5.trans (ht.1.mono h4), h6, hz⟩⟩
theorem qs_rarm (n : Int) (hn : n < 9223372036854775808) (h : QS Z w d r C m s t) :
    Calls Try.prog 38 #[.pointer (some ⟨r, 0, none⟩), .int .i64 n] w fun e w' => (∃ u, e = .returned u) ∧ QS Z w' d r C m s { t with left := max (-1) n } := by
  obtain ⟨⟨base, B, h1, h2, h3, h4⟩, h5, h6, h7⟩ := h
  exact (rarms_disk n hn w h2).mono fun e w' ⟨he, hd, ht⟩ => ⟨he, ⟨⟨base, B, ht.ds h1, hd, h3, h4⟩, h5.trans (ht.1.mono h4), h6, ⟨h7.hm, h7.h1, h7.h2, h7.hl, h7.hc, h7.hn⟩⟩⟩
theorem qs_rmend (A2 : Option Addr) (c3 : Nat) (keep : List Bool) (torn cut : Int) (h : QS Z w d r C m s t) (hkr : Kd.C Kd.bool w A2 keep.length keep) (hlow : keep ≠ [] → ∀ a, A2 = some a → a.block < Z.heap.size) (hz : DZ (mendS t keep torn cut) m) :
    Calls Try.prog 39 #[.pointer (some ⟨r, 0, none⟩), .slice A2 keep.length c3, .int .i64 torn, .int .i64 cut] w fun e w' => (∃ u, e = .returned u) ∧ QS Z w' d r C m s (mendS t keep torn cut) := by
  obtain ⟨⟨base, B, h1, h2, h3, h4⟩, h5, h6, h7⟩ := h
  exact (rmend_calls m h7 A2 c3 keep torn cut w h2 hkr (fun hk a e => Nat.lt_of_lt_of_le (hlow hk a e) h4)).mono fun e w' ⟨he, hd, ht⟩ => ⟨he, ⟨⟨base, B, ht.ds h1, hd, h3, h4⟩, h5.trans (ht.1.mono h4), h6, hz⟩⟩
theorem qs_dpages (h : QS Z w d r C m s t) : Calls Try.prog 22 #[.pointer (some ⟨d, 0, none⟩)] w fun e w' => e = .returned (.int .i64 (m : Int)) ∧ Below w.heap.size w w' := by
  obtain ⟨⟨base, B, h1, h2, h3, h4⟩, h5, h6, h7⟩ := h
  rw [← h6]
  exact ds_pages w h1
theorem qs_rpages (h : QS Z w d r C m s t) : Calls Try.prog 26 #[.pointer (some ⟨r, 0, none⟩)] w fun e w' => e = .returned (.int .i64 (m : Int)) ∧ Below w.heap.size w w' := by
  obtain ⟨⟨base, B, h1, h2, h3, h4⟩, h5, h6, h7⟩ := h
  exact rpages_calls m h7.bytes w h2
theorem qs_ddown (h : QS Z w d r C m s t) : Calls Try.prog 17 #[.pointer (some ⟨d, 0, none⟩)] w fun e w' => e = .returned (.bool s.down) ∧ Below w.heap.size w w' := by
  obtain ⟨⟨base, B, h1, h2, h3, h4⟩, h5, h6, h7⟩ := h
  exact ds_down w h1
theorem QS.rdown (h : QS Z w d r C m s t) : w.cell? ⟨r, 3, none⟩ = some (.bool t.down) := by
  obtain ⟨⟨base, B, h1, h2, h3, h4⟩, h5, h6, h7⟩ := h
  exact h2.c3
theorem qs_dpending (h : QS Z w d r C m s t) : Calls Try.prog 18 #[.pointer (some ⟨d, 0, none⟩)] w fun e w' => ∃ v', e = .returned v' ∧ Kd.R (Kd.int .i64) 3 w' w.heap.size (fun _ => True) v' (s.cache.map (·.1)) ∧ Below w.heap.size w w' := by
  obtain ⟨⟨base, B, h1, h2, h3, h4⟩, h5, h6, h7⟩ := h
  exact ds_pending w h1
theorem qs_rpending (h : QS Z w d r C m s t) : Calls Try.prog 28 #[.pointer (some ⟨r, 0, none⟩)] w fun e w' => ∃ v', e = .returned v' ∧ Kd.R (Kd.int .i64) 3 w' w.heap.size (fun _ => True) v' (t.cache.map (·.1)) ∧ Below w.heap.size w w' := by
  obtain ⟨⟨base, B, h1, h2, h3, h4⟩, h5, h6, h7⟩ := h
  exact rpending_calls m h7 w h2
theorem qs_dimage (h : QS Z w d r C m s t) : Calls Try.prog 21 #[.pointer (some ⟨d, 0, none⟩)] w fun e w' => ∃ v', e = .returned v' ∧ Kd.R (Kd.int .u8) 5 w' w.heap.size (fun _ => True) v' (imageP s m) ∧ Below w.heap.size w w' := by
  obtain ⟨⟨base, B, h1, h2, h3, h4⟩, h5, h6, h7⟩ := h
  have := ds_image w h1
  rw [h6, Int.toNat_natCast] at this
  exact this
theorem qs_rimage (h : QS Z w d r C m s t) : Calls Try.prog 29 #[.pointer (some ⟨r, 0, none⟩)] w fun e w' => ∃ v', e = .returned v' ∧ Kd.R (Kd.int .u8) 5 w' w.heap.size (fun _ => True) v' (imageP t m) ∧ Below w.heap.size w w' := by
  obtain ⟨⟨base, B, h1, h2, h3, h4⟩, h5, h6, h7⟩ := h
  exact rimage_calls m h7 w h2
theorem qs_clone (h : QS Z w d r C m s t) :
    Calls Try.prog 23 #[.pointer (some ⟨d, 0, none⟩)] w fun e w' => ∃ d', e = .returned (.pointer (some ⟨d', 0, none⟩)) ∧ QS Z w' d' r C m s t ∧ ∃ bd bc, Z.heap.size ≤ bd ∧ Z.heap.size ≤ bc ∧ DQ w' bd d s C bc d' s C := by
  obtain ⟨⟨base, B, h1, h2, h3, h4⟩, h5, h6, h7⟩ := h
  have hbl := h1.base_le
  refine (dp_clone w h1).mono ?_
  rintro e w' ⟨d', he, hp, hb⟩
  exact ⟨d', he, ⟨⟨_, B, hp.dq.snd, h2.step hb, Nat.le_trans h3 hbl, h4⟩, below_step h5 hb, h6, h7⟩, base, _, h3, Nat.le_trans h3 hbl, hp.dq⟩
end
end Go.Proofs.Ytehgbikleiaagaa.P
end
section
namespace Go.Proofs.Ytehgbikleiaagaa.P
open Go.RowKit Go.Proofs.YtehgbikleiaagaaW.PrintWords Go.Proofs.YtehgbikleiaagaaW.PrintLast Go.Proofs.YtehgbikleiaagaaW.PrintMore
attribute [local go_sem] max2_int min2_int max_two min_two max_three min_three max_four min_four
set_option linter.unusedVariables false
set_option linter.unusedSimpArgs false
def RX (W : World) (B r x : Nat) (s : Rk) : Prop := ∃ gL uL uP, RD W B r gL uL uP s ∧ gL ≠ x ∧ PnV W B x uP s.pend
theorem RX.rs {W : World} {B r x : Nat} {s : Rk} (h : RX W B r x s) : RS W B r s := by
  obtain ⟨gL, uL, uP, h1, _⟩ := h
  exact ⟨gL, uL, uP, h1⟩
theorem RS.rx {W W' : World} {B r x : Nat} {s : Rk} (h : RS W B r s) (hb : Below W.heap.size W W') (hx : W.heap.size ≤ x) : RX W' B r x s := by
  obtain ⟨gL, uL, uP, h⟩ := h
  have hlt : ∀ {g : Nat} {u : Value} {b : List Int}, BvV W B g u b → g ≠ x := fun hbv e => by
    obtain ⟨_, _, _, _, _, hc, _⟩ := hbv
    have := blk_lt hc
    omega
  have hk := keepT_below hb
  refine ⟨gL, uL, uP, ⟨h.br, hk _ _ _ _ h.blk (by decide) (by decide), h.lb.keep hk, h.pb.keep hk, h.lz, h.az⟩, hlt h.lb, ?_⟩
  rcases h.pb with hp | ⟨g, c, cs, a0, a1, a2, a3, a4, a5⟩
  · exact .inl hp
  · refine .inr ⟨g, c, cs, a0, a1, a2, hk _ _ _ _ a3 (by decide) (by decide), a4, fun j p hj => ?_⟩
    obtain ⟨b1, b2, z, gz, b3, b4, b5⟩ := a5 j p hj
    exact ⟨b1, b2, z, gz, b3, hlt b5, b5.keep hk⟩
theorem RX.keep {W W' : World} {B r x : Nat} {s : Rk} (h : RX W B r x s) (hk : KeepT W W') : RX W' B r x s := by
  obtain ⟨gL, uL, uP, h1, h2, h3⟩ := h
  exact ⟨gL, uL, uP, ⟨h1.br, hk _ _ _ _ h1.blk (by decide) (by decide), h1.lb.keep hk, h1.pb.keep hk, h1.lz, h1.az⟩, h2, h3.keep hk⟩
theorem RX.step {W W' : World} {B r x : Nat} {s : Rk} (h : RX W B r x s) (hb : Below W.heap.size W W') : RX W' B r x s := h.keep (keepT_below hb)
theorem RX.byte {W : World} {B r x : Nat} {s : Rk} (h : RX W B r x s) {cs : Array Value} {t : TypeId} {fr : Nat × Nat} (hx : W.heap[x]? = some (.cells cs t fr)) (h1 : t ≠ 58) (h2 : t ≠ 74) (i : Nat) (u : Value) : RX (W.setCell ⟨x, i, none⟩ u) B r x s := by
  obtain ⟨gL, uL, uP, h, hg, hp⟩ := h
  have hk := keepX_set W ⟨x, i, none⟩ u
  have hrx : r ≠ x := fun e => by
    have := h.blk
    rw [e, hx] at this
    cases this
    exact h1 rfl
  have hpp : PnV (W.setCell ⟨x, i, none⟩ u) B x uP s.pend ∧ PnV (W.setCell ⟨x, i, none⟩ u) B gL uP s.pend := by
    rcases hp with hq | ⟨g, c, ds, a0, a1, a2, a3, a4, a5⟩
    · exact ⟨.inl hq, .inl hq⟩
    · have hgx : g ≠ x := fun e => by
        rw [e, hx] at a3
        cases a3
        exact h2 rfl
      have e3 := hk _ _ _ _ a3 hgx
      refine ⟨.inr ⟨g, c, ds, a0, a1, a2, e3, a4, fun j p hj => ?_⟩, .inr ⟨g, c, ds, a0, a1, a2, e3, a4, fun j p hj => ?_⟩⟩
      · obtain ⟨b1, b2, z, gz, b3, b4, b5⟩ := a5 j p hj
        exact ⟨b1, b2, z, gz, b3, b4, b5.keepX hk b4⟩
      · obtain ⟨b1, b2, z, gz, b3, b4, b5⟩ := a5 j p hj
        rcases h.pb with hq | ⟨g', c', ds', a0', a1', a2', a3', a4', a5'⟩
        · rw [hq.1] at hj; simp at hj
        · have e := a0.symm.trans a0'
          injection e with e1 _ _
          injection e1 with e1
          injection e1 with e1 _ _
          subst e1
          rw [a3'] at a3
          cases a3
          obtain ⟨_, _, z', gz', b3', b4', b5'⟩ := a5' j p hj
          rw [b3'] at b3
          cases b3
          have hgz : gz' = gz := by
            obtain ⟨_, _, q1, _⟩ := b5
            obtain ⟨_, _, q2, _⟩ := b5'
            have e := q2.symm.trans q1
            injection e with e1 _ _
            injection e1 with e1
            injection e1
          exact ⟨b1, b2, _, gz, b3', hgz ▸ b4', b5.keepX hk b4⟩
  exact ⟨gL, uL, uP, ⟨h.br, hk _ _ _ _ h.blk hrx, h.lb.keepX hk hg, hpp.2, h.lz, h.az⟩, hg, hpp.1⟩
set_option maxHeartbeats 1000000 in
set_option maxRecDepth 100000 in
theorem rfails_rx {B r x : Nat} {s : Rk} (w : World) (h : RX w B r x s) :
    Calls Try.prog 43 #[.pointer (some ⟨r, 0, none⟩)] w fun e w' => e = .returned (.bool (decide (s.arm = 0))) ∧ RX w' B r x (rstep s) ∧ RF B w w' ∧ KeepR w w' := by
  obtain ⟨gL, uL, uP, h, hgx, hpx⟩ := h
  have HGX := Aside0.mk hgx
  have HPX := Aside0.mk (And.intro hpx h.blk)
  clear hgx hpx
  have H := Aside0.mk h
  have c2 : w.cell? ⟨r, 2, none⟩ = some (.int .i64 s.arm) := (blk_cell h.blk 2).trans rfl
  have f2 := blk_frozen h.blk 2
  have c3 : w.cell? ⟨r, 3, none⟩ = some (.bool s.down) := (blk_cell h.blk 3).trans rfl
  have f3 := blk_frozen h.blk 3
  have hl := h.az
  clear h
  unfold rstep
  by_cases h0 : s.arm = 0
  · rw [if_pos h0, decide_eq_true h0]
    have b0 : (s.arm == 0) = true := by simp [h0]
    have b1 : decide (s.arm = 0) = true := by simp [h0]
    rw [h0] at c2
    have HP := Aside0.mk (H.out.put 3 (.bool true) (s' := { s with down := true }) rfl rfl rfl H.out.az)
    clear h0 hl
    go_enter Try.func43, Try.ntmps43
    go_wp2
    go_ret
    exact ⟨by simp, ⟨_, _, _, HP.out.1, HGX.out, HPX.out.1.keepR (keepX_set _ _ _) HPX.out.2⟩, HP.out.2.1, HP.out.2.2⟩
  · rw [if_neg h0, decide_eq_false h0]
    have b0 : (s.arm == 0) = false := by simp [h0]
    have b1 : decide (s.arm = 0) = false := by simp [h0]
    by_cases h1 : 0 < s.arm
    · rw [if_pos h1]
      have b2 : decide (0 < s.arm) = true := decide_eq_true h1
      have e1 : IntKind.i64.wrap (s.arm - 1) = s.arm - 1 := by rw [IntKind.wrap_i64]; omega
      have HP := Aside0.mk (H.out.put 2 (.int .i64 (s.arm - 1)) (s' := { s with arm := s.arm - 1 }) rfl rfl rfl (by dsimp only; omega))
      clear h0 h1 hl
      go_enter Try.func43, Try.ntmps43
      go_wp2
      go_ret
      exact ⟨by simp, ⟨_, _, _, HP.out.1, HGX.out, HPX.out.1.keepR (keepX_set _ _ _) HPX.out.2⟩, HP.out.2.1, HP.out.2.2⟩
    · rw [if_neg h1]
      have b2 : decide (0 < s.arm) = false := decide_eq_false h1
      have HB := Aside0.mk (Below.refl w.heap.size w)
      have HBr := Aside0.mk (Nat.le_trans H.out.br (Nat.le_of_lt H.out.lt))
      clear h0 h1 hl
      go_enter Try.func43, Try.ntmps43
      go_wp2
      go_ret
      exact ⟨by simp, ⟨_, _, _, H.out, HGX.out, HPX.out.1⟩, RF.of_below HB.out HBr.out, keepR_below HB.out⟩
set_option maxHeartbeats 4000000 in
set_option maxRecDepth 100000 in
theorem rwrite_ok_rx {B r x : Nat} {s : Dk} (m : Nat) (hz : DZ s m) (hn : s.cache.length ≤ 1073741822) (j : Nat) (hj : j < m) (hd : s.down = false) (hs : s.left ≠ 0) (A : Option Addr) (c : Nat) (b : List Int) (hb5 : b.length = 512) {b2 : Nat} {ok : Nat → Prop} (w : World) (h : RX w B r x (rOf s)) (hxw : x < w.heap.size) (hC : Kd.R (Kd.int .u8) 5 w b2 ok (.slice A 512 c) b) :
    Calls Try.prog 36 #[.pointer (some ⟨r, 0, none⟩), .int .i64 (j : Int), .slice A 512 c] w fun e w' => e = .returned (.int .i64 0) ∧ RX w' B r x (rOf (writeS s (j : Int) b)) ∧ RF B w w' ∧ KeepR w w' := by
  have HBW : Aside0 (B ≤ w.heap.size) := ⟨by obtain ⟨_, _, _, q, _⟩ := h; exact Nat.le_trans q.br (Nat.le_of_lt q.lt)⟩
  have HH := Aside0.mk h
  have HZ := Aside0.mk hz
  have HN := Aside0.mk hn
  have H5 := Aside0.mk hb5
  have HC := Aside0.mk hC
  have HXW := Aside0.mk hxw
  have c3 : w.cell? ⟨r, 3, none⟩ = some (.bool s.down) := h.rs.c3
  rw [hd] at c3
  have hpg := rpages_calls m hz.bytes w h.rs
  have hfl := fun W (hb : Below w.heap.size w W) => rfails_rx W (h.step hb)
  have hs0 : decide ((rOf s).arm = 0) = false := decide_eq_false hs
  rw [hs0] at hfl
  have b0 : decide ((j : Int) < 0) = false := decide_eq_false (by omega)
  have b1 : ((j : Int) < 0) = False := eq_false (by omega)
  have hji : ¬ (m : Int) ≤ (j : Int) := by omega
  have b2 : decide ((m : Int) ≤ (j : Int)) = false := decide_eq_false hji
  have b3 : ((m : Int) ≤ (j : Int)) = False := eq_false hji
  have b4 : (m ≤ j) = False := eq_false (Nat.not_le.2 hj)
  clear h hz hn hb5 hC hd hs hj hji hs0 hxw
  go_enter Try.func36, Try.ntmps36
  go_upto_region 9 with (first
    | (go_at_call 26; (with_reducible refine hpg.mono ?_); rintro e w1 ⟨rfl, hb⟩; have HB := Aside0.mk hb; have HC1 := Aside0.mk (Kd.R_below HC.out hb); clear hb hpg)
    | (go_at_call 43; (with_reducible refine (hfl _ HB.out).mono ?_); rintro e w2 ⟨rfl, hs2, hf2, hk2⟩; have HS2 := Aside0.mk hs2; have HF2 := Aside0.mk hf2; have HK2 := Aside0.mk hk2; have HC2 := Aside0.mk (R_keepR HC1.out hk2); clear hs2 hf2 hk2 hfl))
  obtain ⟨gL, uL, uP, hrd, hgx, hpx⟩ := HS2.out
  have HGX := Aside0.mk (And.intro hgx (Nat.lt_of_lt_of_le HXW.out (Nat.le_trans HB.out.size HF2.out.2.1)))
  have HPX := Aside0.mk hpx
  clear hgx hpx
  have HR := Aside0.mk hrd
  have hBz : B ≤ w2.heap.size := Nat.le_trans hrd.br (Nat.le_of_lt hrd.lt)
  have HBZ := Aside0.mk hBz
  have hgL : gL < w2.heap.size := by obtain ⟨_, _, _, _, _, hh, _⟩ := hrd.lb; exact blk_lt hh
  have HGL := Aside0.mk hgL
  have hpl : ((rstep (rOf s)).pend).length ≤ 1073741822 := by rw [rstep_pend]; exact HN.out
  have HPL := Aside0.mk hpl
  have c1 : w2.cell? ⟨r, 1, none⟩ = some uP := (blk_cell hrd.blk 1).trans rfl
  have HC1' := Aside0.mk c1
  have hrl := Aside0.mk hrd.lt
  clear hrd hBz hgL hpl c1
  refine start_ (n := 15) (S := fun w' => w'.cell? ⟨r, 1, none⟩ = some uP) (ds := [11, 14]) #[false, false, false, false, false, false, false, false, false, false, false, false, false, false, false] (by kernel_rfl) rfl rfl (HC1'.out) (fun hHeld => ?_)
  refine pure_ (i := 0) (N := some 24) (v := ?_) (a' := ?_) #[true, false, false, false, false, false, false, false, false, false, false, false, false, false, false] rfl rfl (by kernel_rfl) (fun _ _ _ h => h) (Or.inl ⟨by rfl, ?_⟩) ?_ ?_
  rotate_left
  · intro w'
    go_simp
    with_reducible rfl
  rotate_left
  · simp only [Act.put, List.setIfInBounds_toArray, List.set_cons_zero, List.set_cons_succ, i64_w, i32_w]
    rfl
  refine pure_ (i := 1) (N := some 25) (v := ?_) (a' := ?_) #[true, true, false, false, false, false, false, false, false, false, false, false, false, false, false] rfl rfl (by kernel_rfl) (fun _ _ _ h => h) (Or.inl ⟨by rfl, ?_⟩) ?_ ?_
  rotate_left
  · intro w'
    go_simp
    with_reducible rfl
  rotate_left
  · simp only [Act.put, List.setIfInBounds_toArray, List.set_cons_zero, List.set_cons_succ, i64_w, i32_w]
    rfl
  refine pure_ (i := 2) (N := some 26) (v := ?_) (a' := ?_) #[true, true, true, false, false, false, false, false, false, false, false, false, false, false, false] rfl rfl (by kernel_rfl) (fun _ _ _ h => h) (Or.inl ⟨by rfl, ?_⟩) ?_ ?_
  rotate_left
  · intro w'
    go_simp
    with_reducible rfl
  rotate_left
  · simp only [Act.put, List.setIfInBounds_toArray, List.set_cons_zero, List.set_cons_succ, i64_w, i32_w]
    rfl
  refine pure_ (i := 3) (N := some 27) (v := ?_) (a' := ?_) #[true, true, true, true, false, false, false, false, false, false, false, false, false, false, false] rfl rfl (by kernel_rfl) (fun _ _ _ h => h) (Or.inl ⟨by rfl, ?_⟩) ?_ ?_
  rotate_left
  · intro w'
    go_simp
    with_reducible rfl
  rotate_left
  · simp only [Act.put, List.setIfInBounds_toArray, List.set_cons_zero, List.set_cons_succ, i64_w, i32_w]
    rfl
  refine pure_ (i := 5) (N := some 29) (v := ?_) (a' := ?_) #[true, true, true, true, false, true, false, false, false, false, false, false, false, false, false] rfl rfl (by kernel_rfl) (fun _ _ _ h => h) (Or.inl ⟨by rfl, ?_⟩) ?_ ?_
  rotate_left
  · intro w'
    go_simp
    with_reducible rfl
  rotate_left
  · simp only [Act.put, List.setIfInBounds_toArray, List.set_cons_zero, List.set_cons_succ, i64_w, i32_w]
    rfl
  refine pure_ (i := 7) (N := some 31) (v := ?_) (a' := ?_) #[true, true, true, true, false, true, false, true, false, false, false, false, false, false, false] rfl rfl (by kernel_rfl) (fun _ _ _ h => h) (Or.inl ⟨by rfl, ?_⟩) ?_ ?_
  rotate_left
  · intro w'
    go_simp
    with_reducible rfl
  rotate_left
  · simp only [Act.put, List.setIfInBounds_toArray, List.set_cons_zero, List.set_cons_succ, i64_w, i32_w]
    rfl
  refine take_ (i := 4) (N := some 28) (v := ?_) (a' := ?_) #[true, true, true, true, true, true, false, true, false, false, false, false, false, false, false] rfl rfl (by kernel_rfl) (fun _ _ _ h => h) (Or.inl ⟨by rfl, ?_⟩) hHeld ?_ ?_
  rotate_left
  · intro w' s0
    go_simp
    with_reducible rfl
  rotate_left
  · simp only [Act.put, List.setIfInBounds_toArray, List.set_cons_zero, List.set_cons_succ, i64_w, i32_w]
    rfl
  refine one_ (i := 6) (N := some 30) #[true, true, true, true, true, true, true, true, false, false, false, false, false, false, false] rfl rfl (by kernel_rfl) (by decide) (fun K hK => ?_)
  refine Kd.R_lit_step (Kd.int .u8) (w0 := w2.drew) w2.drew.heap.size 5 (by rfl) (N := 30) rfl (xs := ([] : List Int)) (inner := []) (ok := fun _ => True) (okp := fun _ => False) (run_empty30 rfl _) ⟨rfl, fun j x hj => by simp at hj⟩ (fun _ h => h.elim) trivial (Below.refl _ _) (Nat.le_refl _) (by decide) ?_
  intro v1 w3 ho hb hg hn
  have HO := Aside0.mk ho
  have HB3 := Aside0.mk hb
  have hb3 : Below w2.heap.size w2 w3 := Below.of_drew w2 hb
  have HZ3 := Aside0.mk hb3
  have c3' := (hb3.cell hrl.out).trans HC1'.out
  clear ho hb hg hn hb3
  refine hK.out _ _ (c3') (fun hHeld => ?_)
  clear hK K
  refine norm_ (a' := ?_) ?_ ?_
  rotate_left
  · show Act.put _ (some 30) _ = _
    simp only [Act.put, List.setIfInBounds_toArray, List.set_cons_zero, List.set_cons_succ, i64_w, i32_w]
    rfl
  refine one_ (i := 8) (N := some 32) #[true, true, true, true, true, true, true, true, true, false, false, false, false, false, false] rfl rfl (by kernel_rfl) (by decide) (fun K hK => ?_)
  refine Kd.R_append_rows_step (Kd.int .u8) (w0 := w2.drew) w2.drew.heap.size (by rfl) (.tmp 30) (.tmp 31) 30 5 (.int .u8 0) 1 rfl Try.underlying30 info5 rfl (by decide) (by decide) v1 [] b A 512 c (fun _ => True) (fun _ => False) (by rfl) (by rfl) HO.out ?aR (fun _ _ h => h) (fun _ h => h.elim) (fun _ _ => trivial) HB3.out (below_size HB3.out) (by decide) ?_
  · have hx := (Kd.R_reads' (Kd.R_below HC2.out HZ3.out)).2.2
    rw [H5.out] at hx
    exact hx
  intro v2 w4 ho hb hg hat
  obtain ⟨A2, c2, e2⟩ := Kd.R_slice ho
  rw [List.nil_append, H5.out] at e2
  subst e2
  have HO4 := Aside0.mk (show Kd.R (Kd.int .u8) 5 w4 w2.drew.heap.size (fun _ => True) (.slice A2 512 c2) b from ho)
  have hb4 : Below w2.heap.size w2 w4 := Below.of_drew w2 hb
  have HZ4 := Aside0.mk hb4
  have c4' := (hb4.cell hrl.out).trans HC1'.out
  clear ho hb hg hat hb4 c3'
  refine hK.out _ _ (c4') (fun hHeld => ?_)
  clear hK K
  refine norm_ (a' := ?_) ?_ ?_
  rotate_left
  · show Act.put _ (some 32) _ = _
    simp only [Act.put, List.setIfInBounds_toArray, List.set_cons_zero, List.set_cons_succ, i64_w, i32_w]
    rfl
  refine pure_ (i := 9) (N := some 33) (v := ?_) (a' := ?_) #[true, true, true, true, true, true, true, true, true, true, false, false, false, false, false] rfl rfl (by kernel_rfl) (fun _ _ _ h => h) (Or.inl ⟨by rfl, ?_⟩) ?_ ?_
  rotate_left
  · intro w'
    go_simp
    with_reducible rfl
  rotate_left
  · simp only [Act.put, List.setIfInBounds_toArray, List.set_cons_zero, List.set_cons_succ, i64_w, i32_w]
    rfl
  refine one_ (i := 10) (N := some 34) #[true, true, true, true, true, true, true, true, true, true, true, false, false, false, false] rfl rfl (by kernel_rfl) (by decide) (fun K hK => ?_)
  refine value_ (w1 := w4.alloc (.cells #[.int .i64 (j : Int), .slice A2 512 c2] 74)) (v := .slice (some ⟨w4.heap.size, 0, none⟩) 1 1) (by rfl) rfl (exec_buildSlice1' 56 1 0 (.tmp 33) rfl (by rfl) (slice56 (j : Int) A2 512 c2 w4)) ?_
  have HZ5 := Aside0.mk (below_alloc HZ4.out (.cells #[.int .i64 (j : Int), .slice A2 512 c2] 74))
  have c5' := (HZ5.out.cell hrl.out).trans HC1'.out
  clear c4'
  refine hK.out _ _ (c5') (fun hHeld => ?_)
  clear hK K
  refine norm_ (a' := ?_) ?_ ?_
  rotate_left
  · show Act.put _ (some 34) _ = _
    simp only [Act.put, List.setIfInBounds_toArray, List.set_cons_zero, List.set_cons_succ, i64_w, i32_w]
    rfl
  refine last_ (i := 11) (N := some 35) #[true, true, true, true, true, true, true, true, true, true, true, true, false, false, false] rfl rfl (by kernel_rfl) (by decide) (fun K hK => ?_)
  obtain ⟨gz, hz0⟩ := bvV_of (by rw [H5.out]; decide) HO4.out
  have hz1 : BvV w4 B gz (.slice A2 512 c2) b := by obtain ⟨q1, q2, q3, q4, q5, q6⟩ := hz0; exact ⟨q1, q2, q3, q4, Nat.le_trans HBZ.out q5, q6⟩
  have hgz : gz ≠ gL := fun e => by obtain ⟨q1, q2, q3, q4, q5, q6⟩ := hz0; have hq : w2.heap.size ≤ gz := q5; rw [e] at hq; exact absurd HGL.out (Nat.not_lt.2 hq)
  obtain ⟨u6, W6, S6, hrun, ⟨o6, c6, e6⟩, hp6, hk6, hS6, hx6⟩ := PnV.append (HR.out.pb.keep (keepT_below HZ5.out)) HPL.out H5.out (hz1.keep (keepT_below (below_alloc (Below.refl _ _) _))) hgz rfl (Deep.blk_alloc_new w4 (.cells #[.int .i64 (j : Int), .slice A2 512 c2] 74)) (Nat.le_trans HBZ.out HZ5.out.size)
  have hgx : gz ≠ x := fun e => by obtain ⟨q1, q2, q3, q4, q5, q6⟩ := hz0; have hq : w2.heap.size ≤ gz := q5; rw [e] at hq; exact absurd HGX.out.2 (Nat.not_lt.2 hq)
  obtain ⟨u7, W7, S7, hrun7, _, hp7, _, _, _⟩ := PnV.append (HPX.out.keep (keepT_below HZ5.out)) HPL.out H5.out (hz1.keep (keepT_below (below_alloc (Below.refl _ _) _))) hgx rfl (Deep.blk_alloc_new w4 (.cells #[.int .i64 (j : Int), .slice A2 512 c2] 74)) (Nat.le_trans HBZ.out HZ5.out.size)
  obtain ⟨rfl, rfl⟩ : u7 = u6 ∧ W7 = W6 := by have e := (hrun7 0).symm.trans (hrun 0); injection e with e1 e2; exact ⟨e1, e2⟩
  refine value_ (w1 := W7) (v := u7) (by rfl) rfl (exec_append (.tmp 28) (.tmp 34) 56 56 rfl (by rfl) (by rfl) hrun) ?_
  have hr6 := hx6 r _ 58 (0, 0) (blk_below HR.out.blk HZ5.out) (by decide)
  have ca := (blk_cell hr6 1).trans rfl
  have cf := blk_frozen hr6 1
  have HFIN : Aside0 (RD (W7.setCell ⟨r, 1, none⟩ u7) B r gL uL u7 { rstep (rOf s) with pend := (rstep (rOf s)).pend ++ [((j : Int), b)] } ∧ RF B w (W7.setCell ⟨r, 1, none⟩ u7) ∧ KeepR w (W7.setCell ⟨r, 1, none⟩ u7)) := ⟨write_fin HBW.out HB.out HF2.out HK2.out HR.out HZ5.out hp6 hk6 hS6 hx6⟩
  have HPX6 := Aside0.mk (hp7.keepR (keepX_set W7 ⟨r, 1, none⟩ u7) hr6)
  subst e6
  clear hgx hrun7 hp7 hz0 hz1 hgz hrun hp6 hk6 hS6 hx6 hr6 c5' hHeld
  refine hK.out _ _ ?_
  clear hK K
  refine norm_ (a' := ?_) ?_ ?_
  rotate_left
  · show Act.put _ (some 35) _ = _
    simp only [Act.put, List.setIfInBounds_toArray, List.set_cons_zero, List.set_cons_succ, i64_w, i32_w]
    rfl
  refine pure_ (i := 12) (N := some 36) (v := ?_) (a' := ?_) #[true, true, true, true, true, true, true, true, true, true, true, true, true, false, false] rfl rfl (by kernel_rfl) (fun _ _ _ h => h) (Or.inl ⟨by rfl, ?_⟩) ?_ ?_
  rotate_left
  · intro w'
    go_simp
    with_reducible rfl
  rotate_left
  · simp only [Act.put, List.setIfInBounds_toArray, List.set_cons_zero, List.set_cons_succ, i64_w, i32_w]
    rfl
  refine pure_ (i := 13) (N := some 37) (v := ?_) (a' := ?_) #[true, true, true, true, true, true, true, true, true, true, true, true, true, true, false] rfl rfl (by kernel_rfl) (fun _ _ _ h => h) (Or.inl ⟨by rfl, ?_⟩) ?_ ?_
  rotate_left
  · intro w'
    go_simp
    with_reducible rfl
  rotate_left
  · simp only [Act.put, List.setIfInBounds_toArray, List.set_cons_zero, List.set_cons_succ, i64_w, i32_w]
    rfl
  refine last_ (i := 14) (N := none) #[true, true, true, true, true, true, true, true, true, true, true, true, true, true, true] rfl rfl (by kernel_rfl) (by decide) (fun K hK => ?_)
  refine skip_ (w1 := ?_) (by rfl) rfl ?_ ?_
  rotate_left
  · go_simp
    rfl
  clear ca cf
  refine hK.out _ _ ?_
  clear hK K
  refine done_ (by kernel_rfl) ?_
  go_wp2
  go_ret
  refine ⟨by simp, ?_, HFIN.out.2⟩
  rw [rOf_write, show s.cache = (rstep (rOf s)).pend from (rstep_pend (rOf s)).symm]
  exact ⟨_, _, _, HFIN.out.1, HGX.out.1, HPX6.out⟩
set_option maxHeartbeats 4000000 in
set_option maxRecDepth 100000 in
theorem rwrite_fail_rx {B r x : Nat} {s : Dk} (m : Nat) (hz : DZ s m) (j : Nat) (hj : j < m) (hd : s.down = false) (hs : s.left = 0) (A : Option Addr) (c : Nat) (w : World) (h : RX w B r x (rOf s)) :
    Calls Try.prog 36 #[.pointer (some ⟨r, 0, none⟩), .int .i64 (j : Int), .slice A 512 c] w fun e w' => e = .returned (.int .i64 9) ∧ RX w' B r x (rOf (stepS s)) ∧ RF B w w' ∧ KeepR w w' := by
  have HBW : Aside0 (B ≤ w.heap.size) := ⟨by obtain ⟨_, _, _, q, _⟩ := h; exact Nat.le_trans q.br (Nat.le_of_lt q.lt)⟩
  have c3 : w.cell? ⟨r, 3, none⟩ = some (.bool s.down) := h.rs.c3
  rw [hd] at c3
  have hpg := rpages_calls m hz.bytes w h.rs
  have hfl := fun W (hb : Below w.heap.size w W) => rfails_rx W (h.step hb)
  have hs0 : decide ((rOf s).arm = 0) = true := decide_eq_true hs
  rw [hs0] at hfl
  have hji : ¬ (m : Int) ≤ (j : Int) := by omega
  have b0 : decide ((j : Int) < 0) = false := decide_eq_false (by omega)
  have b1 : ((j : Int) < 0) = False := eq_false (by omega)
  have b2 : decide ((m : Int) ≤ (j : Int)) = false := decide_eq_false hji
  have b3 : ((m : Int) ≤ (j : Int)) = False := eq_false hji
  have b4 : (m ≤ j) = False := eq_false (Nat.not_le.2 hj)
  clear h hz hd hj hji hs hs0
  go_enter Try.func36, Try.ntmps36
  go_wp2_with (first
    | (go_at_call 26; (with_reducible refine hpg.mono ?_); rintro e w1 ⟨rfl, hb⟩; have HB := Aside0.mk hb; clear hb hpg)
    | (go_at_call 43; (with_reducible refine (hfl _ HB.out).mono ?_); rintro e w2 ⟨rfl, hs2, hf2, hk2⟩; have HS2 := Aside0.mk hs2; have HF2 := Aside0.mk ((RF.of_below HB.out HBW.out).trans hf2); have HK2 : Aside0 (KeepR w w2) := ⟨fun k cs t fr hk h1 h2 => hk2 k cs t fr (blk_below hk HB.out) h1 h2⟩; clear hs2 hf2 hk2 hfl))
  go_ret
  exact ⟨by simp, by rw [rOf_step]; exact HS2.out, HF2.out, HK2.out⟩
theorem rwrite_rx {B r x : Nat} {s : Dk} (m : Nat) (hz : DZ s m) (hn : s.cache.length ≤ 1073741822) (n : Int) (own : Value) (b : List Int) {b2 : Nat} {ok : Nat → Prop} (w : World) (h : RX w B r x (rOf s)) (hxw : x < w.heap.size) (ho : Kd.R (Kd.int .u8) 5 w b2 ok own b) :
    Calls Try.prog 36 #[.pointer (some ⟨r, 0, none⟩), .int .i64 n, own] w fun e w' => e = .returned (.int .i64 (writeE s n b)) ∧ RX w' B r x (rOf (writeD s n b)) ∧ RF B w w' ∧ KeepR w w' := by
  have hBW : B ≤ w.heap.size := by obtain ⟨_, _, _, q, _⟩ := h; exact Nat.le_trans q.br (Nat.le_of_lt q.lt)
  obtain ⟨A, c, e⟩ := Kd.R_slice ho
  subst e
  unfold writeE writeD
  by_cases hl : lookP s n ≠ 0
  · rw [if_pos hl, if_pos hl]
    exact (rwrite_look m hz n hl A b.length c w h.rs).mono fun e w' ⟨he, hb⟩ => ⟨he, h.step hb, RF.of_below hb hBW, keepR_below hb⟩
  · rw [if_neg hl, if_neg hl]
    have hl0 : lookP s n = 0 := Decidable.not_not.1 hl
    have hlk := lookP_ok hl0
    have hd : s.down = false := hlk.1
    obtain ⟨j, rfl⟩ : ∃ j : Nat, n = (j : Int) := ⟨n.toNat, by have := hlk.2.1; omega⟩
    have hj : j < m := by have h1 := hlk.2.2; have h2 := hz.hm; omega
    by_cases h5 : b.length ≠ 512
    · rw [if_pos h5, if_pos h5]
      exact (rwrite_len m hz j hj hd A b.length c h5 w h.rs).mono fun e w' ⟨he, hb⟩ => ⟨he, h.step hb, RF.of_below hb hBW, keepR_below hb⟩
    · rw [if_neg h5, if_neg h5]
      have h50 : b.length = 512 := Decidable.not_not.1 h5
      rw [h50] at ho ⊢
      by_cases hs : s.left = 0
      · rw [if_pos hs, if_pos hs]
        exact rwrite_fail_rx m hz j hj hd hs A c w h
      · rw [if_neg hs, if_neg hs]
        exact rwrite_ok_rx m hz hn j hj hd hs A c b h50 w h hxw ho
end Go.Proofs.Ytehgbikleiaagaa.P
end
section
namespace Go.Proofs.Ytehgbikleiaagaa.P
open Go.RowKit Go.Proofs.YtehgbikleiaagaaW.PrintWords Go.Proofs.YtehgbikleiaagaaW.PrintLast Go.Proofs.YtehgbikleiaagaaW.PrintMore
set_option linter.unusedVariables false
set_option linter.unusedSimpArgs false
structure OV (Z : World) (x : S32) (A3 A5 : Option Addr) : Prop where
  h3 : Kd.C (Kd.int .u8) Z A3 x.f3.length x.f3
  h5 : Kd.C Kd.bool Z A5 x.f5.length x.f5
  n5 : x.f5.length ≤ 140737488351232
  n1 : x.f1 < 9223372036854775808
theorem OV.low {Z : World} {x : S32} {A3 A5 : Option Addr} (h : OV Z x A3 A5) : x.f5 ≠ [] → ∀ a, A5 = some a → a.block < Z.heap.size := by
  rintro hne a rfl
  have hpos : 0 < x.f5.length := List.length_pos_iff.2 hne
  obtain ⟨ad, e1, hcell⟩ := Kd.at_bool h.h5 0 (by decide) (Int.ofNat_lt.2 hpos)
  injection e1 with e1
  subst e1
  have hb : (a.add (0 : Int).toNat).block = a.block := by unfold Addr.add; split <;> rfl
  have := World.block_lt_of_cell? Z _ hcell
  rwa [hb] at this
def bothPost (Z : World) (d r C m : Nat) (e : Ending) (w' : World) : Prop := e = .returned (.bool true) ∧ ∃ s', QS Z w' d r (C + 1) m s' s'
section
variable {Z w : World} {d r C m : Nat} {s : Dk}
set_option maxHeartbeats 2000000 in
set_option maxRecDepth 100000 in
theorem both_sync (x : S32) (A3 A5 : Option Addr) (c3 c5 : Nat) (h : QS Z w d r C m s s) (hC : C ≤ 1000) :
    Calls Try.prog 25 #[.pointer (some ⟨d, 0, none⟩), .pointer (some ⟨r, 0, none⟩), .agg #[.int .i64 2, .int .i64 x.f1, .int .u8 x.f2, .slice A3 x.f3.length c3, .bool x.f4, .slice A5 x.f5.length c5, .int .i64 x.f6, .int .i64 x.f7]] w fun e w' => bothPost Z d r C m e w' := by
  have HC := Aside0.mk hC
  have HQ := Aside0.mk h
  obtain ⟨E, hE⟩ : ∃ E, E = syncE s := ⟨_, rfl⟩
  have HE := Aside0.mk hE
  clear h hC hE
  go_enter Try.func25, Try.ntmps25
  go_upto_region 1 with fail
  have hbk := Deep.blk_alloc_new w (.cells #[.int .i64 2, .int .i64 x.f1, .int .u8 x.f2, .slice A3 x.f3.length c3, .bool x.f4, .slice A5 x.f5.length c5, .int .i64 x.f6, .int .i64 x.f7] 32)
  refine at_world (fun W => W.heap[w.heap.size]? = some (.cells #[.int .i64 2, .int .i64 x.f1, .int .u8 x.f2, .slice A3 x.f3.length c3, .bool x.f4, .slice A5 x.f5.length c5, .int .i64 x.f6, .int .i64 x.f7] 32 (0, 0)) ∧ Below w.heap.size w W) ⟨hbk, below_alloc (Below.refl _ _) _⟩ (fun W hW => ?_)
  have HQ0 := Aside0.mk (HQ.out.step hW.2)
  have y0 : W.cell? ⟨w.heap.size, 0, none⟩ = some (.int .i64 2) := (blk_cell hW.1 0).trans rfl
  clear hW hbk
  go_wp2_with (first
    | (go_at_call 13; (with_reducible refine (qs_dsync HQ0.out).mono ?_); rw [← HE.out]; rintro e w2 ⟨rfl, h2⟩; have HQ1 := Aside0.mk h2; clear h2)
    | (go_at_call 37; (with_reducible refine (qs_rsync HQ1.out (HQ1.out.dz (Nat.le_trans HC.out (by decide)))).mono ?_); rw [← HE.out]; rintro e w3 ⟨rfl, h3⟩; have HQ2 := Aside0.mk h3; clear h3))
  go_ret
  exact ⟨by simp, _, HQ2.out.more (Nat.le_succ C)⟩
theorem qs_darm' (n : Int) (hn : n < 9223372036854775808) (h : QS Z w d r C m s s) :
    Calls Try.prog 16 #[.pointer (some ⟨d, 0, none⟩), .int .i64 n] w fun e w' => (∃ u, e = .returned u) ∧ QS Z w' d r C m { s with left := max (-1) n } s ∧ ∀ {k : Nat} {cs : Array Value} {fr : Nat × Nat}, w.heap[k]? = some (Obj.cells cs 32 fr) → w'.heap[k]? = some (Obj.cells cs 32 fr) := by
  obtain ⟨⟨base, B, h1, h2, h3, h4⟩, h5, h6, h7⟩ := h
  exact (ds_arm n hn w h1).mono fun e w' ⟨he, hd, ht⟩ => ⟨he, ⟨⟨base, B, hd, h2.keep (keepT_tf ht), h3, h4⟩, h5.trans (ht.b.mono h3), h6, h7⟩, fun hk => ht.blk _ _ _ _ hk (by decide) (by decide)⟩
set_option maxHeartbeats 2000000 in
set_option maxRecDepth 100000 in
theorem both_arm (x : S32) (A3 A5 : Option Addr) (c3 c5 : Nat) (hn : x.f1 < 9223372036854775808) (h : QS Z w d r C m s s) (hC : C ≤ 1000) :
    Calls Try.prog 25 #[.pointer (some ⟨d, 0, none⟩), .pointer (some ⟨r, 0, none⟩), .agg #[.int .i64 3, .int .i64 x.f1, .int .u8 x.f2, .slice A3 x.f3.length c3, .bool x.f4, .slice A5 x.f5.length c5, .int .i64 x.f6, .int .i64 x.f7]] w fun e w' => bothPost Z d r C m e w' := by
  have HC := Aside0.mk hC
  have HQ := Aside0.mk h
  have HN := Aside0.mk hn
  clear h hC hn
  go_enter Try.func25, Try.ntmps25
  go_upto_region 1 with fail
  have hbk := Deep.blk_alloc_new w (.cells #[.int .i64 3, .int .i64 x.f1, .int .u8 x.f2, .slice A3 x.f3.length c3, .bool x.f4, .slice A5 x.f5.length c5, .int .i64 x.f6, .int .i64 x.f7] 32)
  refine at_world (fun W => W.heap[w.heap.size]? = some (.cells #[.int .i64 3, .int .i64 x.f1, .int .u8 x.f2, .slice A3 x.f3.length c3, .bool x.f4, .slice A5 x.f5.length c5, .int .i64 x.f6, .int .i64 x.f7] 32 (0, 0)) ∧ Below w.heap.size w W) ⟨hbk, below_alloc (Below.refl _ _) _⟩ (fun W hW => ?_)
  have HQ0 := Aside0.mk (HQ.out.step hW.2)
  have y0 : W.cell? ⟨w.heap.size, 0, none⟩ = some (.int .i64 3) := (blk_cell hW.1 0).trans rfl
  have HBK := Aside0.mk hW.1
  clear hW hbk
  have y1 : W.cell? ⟨w.heap.size, 1, none⟩ = some (.int .i64 x.f1) := (blk_cell HBK.out 1).trans rfl
  go_upto_region 23 with (go_at_call 16; (with_reducible refine (qs_darm' x.f1 HN.out HQ0.out).mono ?_); rintro e w2 ⟨⟨u, rfl⟩, h2⟩; have HQ1 := Aside0.mk h2.1; have y2 := (h2.2 HBK.out); clear h2)
  have y3 : w2.cell? ⟨w.heap.size, 1, none⟩ = some (.int .i64 x.f1) := (blk_cell y2 1).trans rfl
  clear y2
  go_wp2_with (go_at_call 38; (with_reducible refine (qs_rarm x.f1 HN.out HQ1.out).mono ?_); rintro e w3 ⟨⟨u, rfl⟩, h3⟩; have HQ2 := Aside0.mk h3; clear h3)
  go_ret
  exact ⟨by simp, _, HQ2.out.more (Nat.le_succ C)⟩
theorem size4 (w : World) : (sizeOf 4).run Try.prog w = .ok 1 w := by
  have h := info4
  cases hi : Try.prog.info? 4 with
  | none => rw [hi] at h; cases h
  | some it =>
    rw [hi] at h
    simp only [Option.map_some, Option.some.injEq, Prod.mk.injEq] at h
    simp [sizeOf, typeInfo, Sem.run_bind, hi, h.2.1]
theorem build23 (w : World) : (Instr.buildSlice 23 0 #[]).run Try.prog w = .ok (.slice (some ⟨w.heap.size, 0, none⟩) 0 0) (w.alloc (.cells #[] 4)) := by
  simp [Instr.buildSlice, Sem.run_bind, run_underlying Try.underlying23, size4, Instr.fill, newRow, Result.andThen]
  rw [show Array.range 0 = #[] by decide, List.map_toArray]
  rfl
theorem run_empty23 {ρ : Operand → Value} {op : Oper} (ho : op.op = .buildSlice 23 0 #[]) (w : World) : (execOp ρ op).run Try.prog w = .ok (.value (.slice (some ⟨w.heap.size, 0, none⟩) 0 0)) (w.alloc (.cells #[] 4)) := by
  unfold execOp
  simp only [ho, List.map_toArray, List.map_nil, Sem.run_bind, build23, Result.andThen_ok, Sem.run_pure]
theorem qs_dmend' (A2 : Option Addr) (c3 : Nat) (keep : List Bool) (torn cut : Int) (h : QS Z w d r C m s s) (hkr : Kd.C Kd.bool w A2 keep.length keep) :
    Calls Try.prog 14 #[.pointer (some ⟨d, 0, none⟩), .slice A2 keep.length c3, .int .i64 torn, .int .i64 cut] w fun e w' => (∃ u, e = .returned u) ∧ QS Z w' d r C m (mendS s keep torn cut) s ∧ ∀ {k : Nat} {cs : Array Value} {fr : Nat × Nat}, w.heap[k]? = some (Obj.cells cs 32 fr) → w'.heap[k]? = some (Obj.cells cs 32 fr) := by
  obtain ⟨⟨base, B, h1, h2, h3, h4⟩, h5, h6, h7⟩ := h
  exact (ds_mend A2 c3 keep torn cut w h1 hkr).mono fun e w' ⟨he, hd, ht⟩ => ⟨he, ⟨⟨base, B, hd, h2.keep (keepT_tf ht), h3, h4⟩, h5.trans (ht.b.mono h3), h6, h7⟩, fun hk => ht.blk _ _ _ _ hk (by decide) (by decide)⟩
set_option maxHeartbeats 4000000 in
set_option maxRecDepth 100000 in
theorem both_mend (x : S32) (A3 A5 : Option Addr) (c3 c5 : Nat) (hv : OV Z x A3 A5) (h : QS Z w d r C m s s) (hC : C ≤ 1000) :
    Calls Try.prog 25 #[.pointer (some ⟨d, 0, none⟩), .pointer (some ⟨r, 0, none⟩), .agg #[.int .i64 4, .int .i64 x.f1, .int .u8 x.f2, .slice A3 x.f3.length c3, .bool x.f4, .slice A5 x.f5.length c5, .int .i64 x.f6, .int .i64 x.f7]] w fun e w' => bothPost Z d r C m e w' := by
  have HV := Aside0.mk hv
  have HC := Aside0.mk hC
  have HQ := Aside0.mk h
  have HC5 := Aside0.mk hv.h5
  have HN5 := Aside0.mk hv.n5
  clear h hC hv
  go_enter Try.func25, Try.ntmps25
  go_upto_region 1 with fail
  have hbk := Deep.blk_alloc_new w (.cells #[.int .i64 4, .int .i64 x.f1, .int .u8 x.f2, .slice A3 x.f3.length c3, .bool x.f4, .slice A5 x.f5.length c5, .int .i64 x.f6, .int .i64 x.f7] 32)
  refine at_world (fun W => W.heap[w.heap.size]? = some (.cells #[.int .i64 4, .int .i64 x.f1, .int .u8 x.f2, .slice A3 x.f3.length c3, .bool x.f4, .slice A5 x.f5.length c5, .int .i64 x.f6, .int .i64 x.f7] 32 (0, 0)) ∧ Below w.heap.size w W) ⟨hbk, below_alloc (Below.refl _ _) _⟩ (fun W hW => ?_)
  have y0 : W.cell? ⟨w.heap.size, 0, none⟩ = some (.int .i64 4) := (blk_cell hW.1 0).trans rfl
  have HBW := Aside0.mk hW.1
  have HQW := Aside0.mk (HQ.out.step hW.2)
  clear hW hbk
  go_upto_region 25 with fail
  have HBK0 : Aside0 (W.drew.heap[w.heap.size]? = some (.cells #[.int .i64 4, .int .i64 x.f1, .int .u8 x.f2, .slice A3 x.f3.length c3, .bool x.f4, .slice A5 x.f5.length c5, .int .i64 x.f6, .int .i64 x.f7] 32 (0, 0))) := ⟨HBW.out⟩
  have HQ0 : Aside0 (QS Z W.drew d r C m s s) := ⟨HQW.out.step (below_drew1 (Below.refl _ _))⟩
  clear y0
  refine start_ (n := 10) (S := fun w' => w'.cell? ⟨w.heap.size, 5, none⟩ = some (.slice A5 x.f5.length c5) ∧ w'.cell? ⟨w.heap.size, 6, none⟩ = some (.int .i64 x.f6) ∧ w'.cell? ⟨w.heap.size, 7, none⟩ = some (.int .i64 x.f7)) (ds := [9]) #[false, false, false, false, false, false, false, false, false, false] (by kernel_rfl) rfl rfl ⟨(blk_cell HBK0.out 5).trans rfl, (blk_cell HBK0.out 6).trans rfl, (blk_cell HBK0.out 7).trans rfl⟩ (fun hHeld => ?_)
  refine pure_ (i := 0) (N := some 110) (v := ?_) (a' := ?_) #[true, false, false, false, false, false, false, false, false, false] rfl rfl (by kernel_rfl) (fun _ _ _ h => h) (Or.inl ⟨by rfl, ?_⟩) ?_ ?_
  rotate_left
  · intro w'
    go_simp
    with_reducible rfl
  rotate_left
  · simp only [Act.put, List.setIfInBounds_toArray, List.set_cons_zero, List.set_cons_succ, i64_w, i32_w]
    rfl
  refine pure_ (i := 2) (N := some 112) (v := ?_) (a' := ?_) #[true, false, true, false, false, false, false, false, false, false] rfl rfl (by kernel_rfl) (fun _ _ _ h => h) (Or.inl ⟨by rfl, ?_⟩) ?_ ?_
  rotate_left
  · intro w'
    go_simp
    with_reducible rfl
  rotate_left
  · simp only [Act.put, List.setIfInBounds_toArray, List.set_cons_zero, List.set_cons_succ, i64_w, i32_w]
    rfl
  refine pure_ (i := 5) (N := some 115) (v := ?_) (a' := ?_) #[true, false, true, false, false, true, false, false, false, false] rfl rfl (by kernel_rfl) (fun _ _ _ h => h) (Or.inl ⟨by rfl, ?_⟩) ?_ ?_
  rotate_left
  · intro w'
    go_simp
    with_reducible rfl
  rotate_left
  · simp only [Act.put, List.setIfInBounds_toArray, List.set_cons_zero, List.set_cons_succ, i64_w, i32_w]
    rfl
  refine pure_ (i := 7) (N := some 117) (v := ?_) (a' := ?_) #[true, false, true, false, false, true, false, true, false, false] rfl rfl (by kernel_rfl) (fun _ _ _ h => h) (Or.inl ⟨by rfl, ?_⟩) ?_ ?_
  rotate_left
  · intro w'
    go_simp
    with_reducible rfl
  rotate_left
  · simp only [Act.put, List.setIfInBounds_toArray, List.set_cons_zero, List.set_cons_succ, i64_w, i32_w]
    rfl
  refine take_ (i := 3) (N := some 113) (v := ?_) (a' := ?_) #[true, false, true, true, false, true, false, true, false, false] rfl rfl (by kernel_rfl) (fun _ _ _ h => h) (Or.inl ⟨by rfl, ?_⟩) hHeld ?_ ?_
  rotate_left
  · rintro w' ⟨s0, s1, s2⟩
    go_simp
    with_reducible rfl
  rotate_left
  · simp only [Act.put, List.setIfInBounds_toArray, List.set_cons_zero, List.set_cons_succ, i64_w, i32_w]
    rfl
  refine take_ (i := 6) (N := some 116) (v := ?_) (a' := ?_) #[true, false, true, true, false, true, true, true, false, false] rfl rfl (by kernel_rfl) (fun _ _ _ h => h) (Or.inl ⟨by rfl, ?_⟩) hHeld ?_ ?_
  rotate_left
  · rintro w' ⟨s0, s1, s2⟩
    go_simp
    with_reducible rfl
  rotate_left
  · simp only [Act.put, List.setIfInBounds_toArray, List.set_cons_zero, List.set_cons_succ, i64_w, i32_w]
    rfl
  refine take_ (i := 8) (N := some 118) (v := ?_) (a' := ?_) #[true, false, true, true, false, true, true, true, true, false] rfl rfl (by kernel_rfl) (fun _ _ _ h => h) (Or.inl ⟨by rfl, ?_⟩) hHeld ?_ ?_
  rotate_left
  · rintro w' ⟨s0, s1, s2⟩
    go_simp
    with_reducible rfl
  rotate_left
  · simp only [Act.put, List.setIfInBounds_toArray, List.set_cons_zero, List.set_cons_succ, i64_w, i32_w]
    rfl
  refine one_ (i := 1) (N := some 111) #[true, true, true, true, false, true, true, true, true, false] rfl rfl (by kernel_rfl) (by decide) (fun K hK => ?_)
  refine Kd.R_lit_step Kd.bool (w0 := W.drew) W.drew.heap.size 4 (by rfl) (N := 111) rfl (xs := ([] : List Bool)) (inner := []) (ok := fun _ => True) (okp := fun _ => False) (run_empty23 rfl _) ⟨rfl, fun j x hj => by simp at hj⟩ (fun _ h => h.elim) trivial (Below.refl _ _) (Nat.le_refl _) (by decide) ?_
  intro v1 w3 ho hb hg hn
  have HO := Aside0.mk ho
  have HB3 := Aside0.mk hb
  have HQ3 := Aside0.mk (HQ0.out.step hb)
  have HBK3 := Aside0.mk (blk_below HBK0.out hb)
  clear ho hb hg hn
  refine hK.out _ _ ⟨(blk_cell HBK3.out 5).trans rfl, (blk_cell HBK3.out 6).trans rfl, (blk_cell HBK3.out 7).trans rfl⟩ (fun hHeld => ?_)
  clear hK K
  refine norm_ (a' := ?_) ?_ ?_
  rotate_left
  · show Act.put _ (some 111) _ = _
    simp only [Act.put, List.setIfInBounds_toArray, List.set_cons_zero, List.set_cons_succ, i64_w, i32_w]
    rfl
  refine one_ (i := 4) (N := some 114) #[true, true, true, true, true, true, true, true, true, false] rfl rfl (by kernel_rfl) (by decide) (fun K hK => ?_)
  refine Kd.R_append_rows_step Kd.bool (w0 := W.drew) W.drew.heap.size (by rfl) (.tmp 111) (.tmp 113) 23 4 (.bool false) 1 rfl Try.underlying23 info4 rfl (by decide) (by decide) v1 [] x.f5 A5 x.f5.length c5 (fun _ => True) (fun _ => False) (by rfl) (by rfl) HO.out ?aR (fun _ _ h => h) (fun _ h => h.elim) (fun _ _ => trivial) HB3.out (below_size HB3.out) ?aL ?_
  · exact Kd.C_below HC5.out HQ3.out.lo
  · have hq := HN5.out; simp; omega
  intro v2 w4 ho hb hg hat
  obtain ⟨A2, c2, e2⟩ := Kd.R_slice ho
  rw [List.nil_append] at e2 ho
  subst e2
  have HC2 := Aside0.mk (Kd.R_reads' ho).2.2
  have HQ4 := Aside0.mk (HQ0.out.step hb)
  have HBK4 := Aside0.mk (blk_below HBK0.out hb)
  clear ho hb hg hat
  refine hK.out _ _ ⟨(blk_cell HBK4.out 5).trans rfl, (blk_cell HBK4.out 6).trans rfl, (blk_cell HBK4.out 7).trans rfl⟩ (fun hHeld => ?_)
  clear hK K
  refine norm_ (a' := ?_) ?_ ?_
  rotate_left
  · show Act.put _ (some 114) _ = _
    simp only [Act.put, List.setIfInBounds_toArray, List.set_cons_zero, List.set_cons_succ, i64_w, i32_w]
    rfl
  refine last_ (i := 9) (N := some 119) #[true, true, true, true, true, true, true, true, true, true] rfl rfl (by kernel_rfl) (by decide) (fun K hK => ?_)
  refine goes_ Try.func14 (by kernel_rfl) rfl #[.pointer (some ⟨d, 0, none⟩), .slice A2 x.f5.length c2, .int .i64 x.f6, .int .i64 x.f7] (by rfl) rfl rfl (by simp only [List.map_toArray, List.map_cons, List.map_nil]; rfl) ?_
  with_reducible refine (qs_dmend' A2 c2 x.f5 x.f6 x.f7 HQ4.out HC2.out).mono ?_
  rintro e w5 ⟨⟨u, rfl⟩, hq⟩
  refine ⟨_, rfl, ?_⟩
  have HQ5 := Aside0.mk hq.1
  have HBK5 := Aside0.mk (hq.2 HBK4.out)
  clear hq hHeld
  refine hK.out _ _ ?_
  clear hK K
  refine norm_ (a' := ?_) ?_ ?_
  rotate_left
  · show Act.put _ (some 119) _ = _
    simp only [Act.put, List.setIfInBounds_toArray, List.set_cons_zero, List.set_cons_succ, i64_w, i32_w]
    rfl
  refine done_ (by kernel_rfl) ?_
  have z5 : w5.cell? ⟨w.heap.size, 5, none⟩ = some (.slice A5 x.f5.length c5) := (blk_cell HBK5.out 5).trans rfl
  have z6 : w5.cell? ⟨w.heap.size, 6, none⟩ = some (.int .i64 x.f6) := (blk_cell HBK5.out 6).trans rfl
  have z7 : w5.cell? ⟨w.heap.size, 7, none⟩ = some (.int .i64 x.f7) := (blk_cell HBK5.out 7).trans rfl
  go_wp2_with (go_at_call 39; (with_reducible refine (qs_rmend A5 c5 x.f5 x.f6 x.f7 HQ5.out (Kd.C_below HC5.out HQ5.out.lo) HV.out.low (HQ5.out.dz (Nat.le_trans HC.out (by decide)))).mono ?_); rintro e w3 ⟨⟨u, rfl⟩, h3⟩; have HQ6 := Aside0.mk h3; clear h3)
  go_ret
  exact ⟨by simp, _, HQ6.out.more (Nat.le_succ C)⟩
set_option maxHeartbeats 4000000 in
set_option maxRecDepth 100000 in
theorem both_else (x : S32) (A3 A5 : Option Addr) (c3 c5 : Nat) (k : Int) (hk : k < 0 ∨ 4 < k) (hv : OV Z x A3 A5) (h : QS Z w d r C m s s) (hC : C ≤ 1000) :
    Calls Try.prog 25 #[.pointer (some ⟨d, 0, none⟩), .pointer (some ⟨r, 0, none⟩), .agg #[.int .i64 k, .int .i64 x.f1, .int .u8 x.f2, .slice A3 x.f3.length c3, .bool x.f4, .slice A5 x.f5.length c5, .int .i64 x.f6, .int .i64 x.f7]] w fun e w' => bothPost Z d r C m e w' := by
  have HQ := Aside0.mk h
  have t0 : decide (k = 0) = false := decide_eq_false (by omega)
  have t1 : decide (k = 1) = false := decide_eq_false (by omega)
  have t2 : decide (k = 2) = false := decide_eq_false (by omega)
  have t3 : decide (k = 3) = false := decide_eq_false (by omega)
  have t4 : decide (k = 4) = false := decide_eq_false (by omega)
  have e0 : (k == 0) = false := beq_eq_false_iff_ne.mpr (by omega)
  have e1 : (k == 1) = false := beq_eq_false_iff_ne.mpr (by omega)
  have e2 : (k == 2) = false := beq_eq_false_iff_ne.mpr (by omega)
  have e3 : (k == 3) = false := beq_eq_false_iff_ne.mpr (by omega)
  have e4 : (k == 4) = false := beq_eq_false_iff_ne.mpr (by omega)
  clear h hC hk hv
  go_enter Try.func25, Try.ntmps25
  go_upto_region 1 with fail
  have hbk := Deep.blk_alloc_new w (.cells #[.int .i64 k, .int .i64 x.f1, .int .u8 x.f2, .slice A3 x.f3.length c3, .bool x.f4, .slice A5 x.f5.length c5, .int .i64 x.f6, .int .i64 x.f7] 32)
  refine at_world (fun W => W.heap[w.heap.size]? = some (.cells #[.int .i64 k, .int .i64 x.f1, .int .u8 x.f2, .slice A3 x.f3.length c3, .bool x.f4, .slice A5 x.f5.length c5, .int .i64 x.f6, .int .i64 x.f7] 32 (0, 0)) ∧ Below w.heap.size w W) ⟨hbk, below_alloc (Below.refl _ _) _⟩ (fun W hW => ?_)
  have y0 : W.cell? ⟨w.heap.size, 0, none⟩ = some (.int .i64 k) := (blk_cell hW.1 0).trans rfl
  have HQW := Aside0.mk (HQ.out.step hW.2)
  clear hW hbk
  go_wp2
  go_ret
  exact ⟨by simp, _, HQW.out.more (Nat.le_succ C)⟩
theorem bvs_set (ys : List Int) (k : Nat) (y : Int) : (bvs ys).toArray.setIfInBounds k (.int .u8 y) = (bvs (ys.set k y)).toArray := by
  simp [bvs, List.map_set]
theorem nil_string (W : World) : (convert 30 9 (.slice none 0 0)).run Try.prog W = .ok (.string (strOfNums [])) W := Kd.C_string Try.underlying30 Try.underlying5 Try.underlying9 (Kd.C_nil (Kd.int .u8) W)
set_option maxHeartbeats 4000000 in
set_option maxRecDepth 100000 in
theorem both_read (x : S32) (A3 A5 : Option Addr) (c3 c5 : Nat) (hv : OV Z x A3 A5) (h : QS Z w d r C m s s) (hC : C ≤ 1000) :
    Calls Try.prog 25 #[.pointer (some ⟨d, 0, none⟩), .pointer (some ⟨r, 0, none⟩), .agg #[.int .i64 0, .int .i64 x.f1, .int .u8 x.f2, .slice A3 x.f3.length c3, .bool x.f4, .slice A5 x.f5.length c5, .int .i64 x.f6, .int .i64 x.f7]] w fun e w' => bothPost Z d r C m e w' := by
  have HQ := Aside0.mk h
  clear h hC hv
  go_enter Try.func25, Try.ntmps25
  go_upto_region 1 with fail
  have hbk := Deep.blk_alloc_new w (.cells #[.int .i64 0, .int .i64 x.f1, .int .u8 x.f2, .slice A3 x.f3.length c3, .bool x.f4, .slice A5 x.f5.length c5, .int .i64 x.f6, .int .i64 x.f7] 32)
  refine at_world (fun W => W.heap[w.heap.size]? = some (.cells #[.int .i64 0, .int .i64 x.f1, .int .u8 x.f2, .slice A3 x.f3.length c3, .bool x.f4, .slice A5 x.f5.length c5, .int .i64 x.f6, .int .i64 x.f7] 32 (0, 0)) ∧ Below w.heap.size w W) ⟨hbk, below_alloc (Below.refl _ _) _⟩ (fun W hW => ?_)
  have y0 : W.cell? ⟨w.heap.size, 0, none⟩ = some (.int .i64 0) := (blk_cell hW.1 0).trans rfl
  have y1 : W.cell? ⟨w.heap.size, 1, none⟩ = some (.int .i64 x.f1) := (blk_cell hW.1 1).trans rfl
  have HBW := Aside0.mk hW.1
  have HQW := Aside0.mk (HQ.out.step hW.2)
  clear hW hbk
  obtain ⟨E, hE⟩ : ∃ E, E = lookP s x.f1 := ⟨_, rfl⟩
  have HE := Aside0.mk hE
  by_cases h0 : E = 0
  · have h00 : lookP s x.f1 = 0 := by rw [← hE]; exact h0
    have H00 := Aside0.mk h00
    obtain ⟨st, hst⟩ : ∃ st, st = strOfNums (hasP s x.f1) := ⟨_, rfl⟩
    have HST := Aside0.mk hst
    have h5 : (hasP s x.f1).length = 512 := by obtain ⟨⟨_, _, q, _⟩, _⟩ := HQW.out; exact q.has_len x.f1
    have H5 := Aside0.mk h5
    clear h0 hE h00 hst h5
    go_upto_region 4 with (go_at_call 15; (with_reducible refine (qs_dread x.f1 HQW.out).mono ?_); rintro e w1 ⟨v, rfl, hb, ⟨hn, _⟩ | ⟨_, g, hg, rfl, hc⟩⟩; (first | exact absurd H00.out hn | skip); rw [H00.out]; have HQ1 := Aside0.mk (HQW.out.step hb); have HB1 := Aside0.mk hb; have HG := Aside0.mk hg; have HC1 := Aside0.mk hc; have HBK1 := Aside0.mk (blk_below HBW.out hb); clear hb hg hc)
    have z1 : w1.cell? ⟨w.heap.size, 1, none⟩ = some (.int .i64 x.f1) := (blk_cell HBK1.out 1).trans rfl
    go_upto_region 5 with (go_at_call 35; (with_reducible refine (qs_rread x.f1 HQ1.out).mono ?_); rintro e w2 ⟨v, rfl, hb, ⟨hn, _⟩ | ⟨_, ho⟩⟩; (first | exact absurd H00.out hn | skip); rw [H00.out]; obtain ⟨A2, c2, rfl⟩ := Kd.R_slice ho; have cB : (convert 30 9 (.slice A2 (hasP s x.f1).length c2)).run Try.prog w2 = .ok (.string st) w2 := (by rw [HST.out]; exact row_string ho); have cA : (convert 30 9 (.slice (some ⟨g, 0, none⟩) 512 512)).run Try.prog w2 = .ok (.string st) w2 := (by rw [HST.out]; exact page_string (blk_below HC1.out hb) H5.out 512); have HQ2 := Aside0.mk (below_step HB1.out hb); have HC2 := Aside0.mk (blk_below HC1.out hb); clear hb ho z1)
    go_wp2_with fail
    go_loopw [12] (fun v12 wr => ∃ (k : Nat) (ys : List Int), v12 = .int .i64 (k : Int) ∧ k ≤ 512 ∧ Aside0 (ys.length = 512 ∧ wr.heap[g]? = some (.cells (bvs ys).toArray 67 (0, 0))) ∧ Aside0 (Below W.heap.size W wr)) (fun v12 _ => 512 - (intOf v12).toNat)
    case atStart => exact ⟨0, _, rfl, Nat.zero_le _, ⟨H5.out, HC2.out⟩, HQ2⟩
    case round =>
      clear HC2 HQ2 cA cB
      obtain ⟨k, ys, rfl, hk, HY, HB⟩ := hrel
      by_cases hlt : k < 512
      · have b1 : decide ((k : Int) < 512) = true := decide_eq_true (by omega)
        have b2 : ((k : Int) < 512) = True := eq_true (by omega)
        have b3 : (k < 512) = True := eq_true hlt
        have g1 : (0 : Int) ≤ (k : Int) := by omega
        have w2_ : wrap64 ((k : Int) + 1) = (k : Int) + 1 := by unfold wrap64; omega
        have HK := Aside0.mk hlt
        have hy := HY.out.1
        have ca : wr.cell? ⟨g, k, none⟩ = some (.int .u8 (ys.getD k 0)) := by
          refine (blk_cell HY.out.2 k).trans ?_
          simp [bvs, List.getElem?_eq_getElem (show k < ys.length by omega)]
        have cf := blk_frozen HY.out.2 k
        have HE2 : Aside0 (∀ u : Int, (ys.set k u).length = 512 ∧ (wr.setCell ⟨g, k, none⟩ (.int .u8 u)).heap[g]? = some (.cells (bvs (ys.set k u)).toArray 67 (0, 0))) := ⟨fun u => ⟨by rw [List.length_set]; exact hy, blk_put HY.out.2 k (.int .u8 u) (bvs_set ys k u)⟩⟩
        have HBE : Aside0 (∀ u : Value, Below W.heap.size W (wr.setCell ⟨g, k, none⟩ u)) := ⟨fun u => below_set HB.out HG.out⟩
        clear hlt hk hy
        go_wp2
        go_roundw
        case rel => exact ⟨k + 1, _, by first | exact congrArg (Value.int .i64) w2_ | rfl, HK.out, ⟨HE2.out _⟩, ⟨HBE.out _⟩⟩
        case measure => exact meas_lt HK.out (by first | exact congrArg (Value.int .i64) w2_ | rfl)
      · have hk5 : k = 512 := by omega
        have b1 : decide ((k : Int) < 512) = false := decide_eq_false (by omega)
        have b2 : ((k : Int) < 512) = False := eq_false (by omega)
        have b3 : (k < 512) = False := eq_false hlt
        clear hlt hk hk5
        go_wp2
        go_ret
        exact ⟨by simp, _, (HQW.out.step HB.out).more (Nat.le_succ C)⟩
  · have h00 : lookP s x.f1 ≠ 0 := by rw [← hE]; exact h0
    have H00 := Aside0.mk h00
    have e0 : (E == 0) = false := beq_eq_false_iff_ne.mpr h0
    have cN := nil_string
    clear h0 hE h00
    go_upto_region 4 with (go_at_call 15; (with_reducible refine (qs_dread x.f1 HQW.out).mono ?_); rintro e w1 ⟨v, rfl, hb, hq⟩; obtain rfl : v = .slice none 0 0 := (by rcases hq with ⟨_, e⟩ | ⟨hn, _⟩; exact e; exact absurd hn H00.out); rw [← HE.out]; have HQ1 := Aside0.mk (HQW.out.step hb); have HBK1 := Aside0.mk (blk_below HBW.out hb); clear hb hq)
    have z1 : w1.cell? ⟨w.heap.size, 1, none⟩ = some (.int .i64 x.f1) := (blk_cell HBK1.out 1).trans rfl
    go_upto_region 5 with (go_at_call 35; (with_reducible refine (qs_rread x.f1 HQ1.out).mono ?_); rintro e w2 ⟨v, rfl, hb, hq⟩; obtain rfl : v = .slice none 0 0 := (by rcases hq with ⟨_, e⟩ | ⟨hn, _⟩; exact e; exact absurd hn H00.out); rw [← HE.out]; have HQ2 := Aside0.mk (HQ1.out.step hb); clear hb z1 hq)
    go_wp2_with fail
    go_loopw [12] (fun v12 wr => v12 = .int .i64 0 ∧ Aside0 (QS Z wr d r C m s s)) (fun v12 _ => 0)
    case atStart => exact ⟨rfl, HQ2⟩
    case round =>
      clear HQ2
      obtain ⟨rfl, HQ3⟩ := hrel
      go_wp2
      go_ret
      exact ⟨by simp, _, HQ3.out.more (Nat.le_succ C)⟩
theorem R_lt {W : World} {b g n c : Nat} {ok : Nat → Prop} {xs : List Int} (h : Kd.R (Kd.int .u8) 5 W b ok (.slice (some ⟨g, 0, none⟩) n c) xs) : g < W.heap.size := by
  obtain ⟨cs, hc⟩ := Kd.R_typed h g rfl
  exact blk_lt hc
set_option maxHeartbeats 4000000 in
set_option maxRecDepth 100000 in
theorem both_write (x : S32) (A3 A5 : Option Addr) (c3 c5 : Nat) (hv : OV Z x A3 A5) (h : QS Z w d r C m s s) (hC : C ≤ 1000) :
    Calls Try.prog 25 #[.pointer (some ⟨d, 0, none⟩), .pointer (some ⟨r, 0, none⟩), .agg #[.int .i64 1, .int .i64 x.f1, .int .u8 x.f2, .slice A3 x.f3.length c3, .bool x.f4, .slice A5 x.f5.length c5, .int .i64 x.f6, .int .i64 x.f7]] w fun e w' => bothPost Z d r C m e w' := by
  have HC3 := Aside0.mk hv.h3
  have HN : Aside0 (s.cache.length ≤ 1073741822) := ⟨by obtain ⟨⟨_, _, q, _⟩, _⟩ := h; exact Nat.le_trans q.cache_le (Nat.le_trans hC (by decide))⟩
  have HKC : Aside0 (C < 1073741824) := ⟨by omega⟩
  have HCC := Aside0.mk hC
  obtain ⟨⟨base, B, hd, hr, zb, zB⟩, lo, ps, zt⟩ := h
  have HPS := Aside0.mk ps
  have HZ := Aside0.mk zt
  have HZB := Aside0.mk (And.intro zb zB)
  have HD := Aside0.mk hd
  have HR := Aside0.mk hr
  have HLO := Aside0.mk lo
  obtain ⟨L, hL⟩ : ∃ L, L = (pageP x.f2 x.f3 x.f4).length := ⟨_, rfl⟩
  have hL3 : 0 < L ∧ L ≤ 513 := by rw [hL, pageP_len]; unfold pageN; split <;> decide
  have HL3 := Aside0.mk hL3
  have HLL := Aside0.mk hL
  have HPG : Aside0 (∀ W, Kd.C (Kd.int .u8) W A3 x.f3.length x.f3 → Calls Try.prog 11 #[.agg #[.int .i64 1, .int .i64 x.f1, .int .u8 x.f2, .slice A3 x.f3.length c3, .bool x.f4, .slice A5 x.f5.length c5, .int .i64 x.f6, .int .i64 x.f7]] W fun e w' => ∃ v', e = .returned v' ∧ Kd.R (Kd.int .u8) 5 w' W.heap.size (fun _ => True) v' (pageP x.f2 x.f3 x.f4) ∧ Below W.heap.size W w') := ⟨fun W hC => page_one x.f4 _ rfl 1 x.f1 x.f2 A3 c3 x.f3 A5 x.f5.length c5 x.f6 x.f7 W hC⟩
  obtain ⟨st, hst⟩ : ∃ st, st = strOfNums (pageP x.f2 x.f3 x.f4) := ⟨_, rfl⟩
  have HST := Aside0.mk hst
  obtain ⟨E, hE⟩ : ∃ E, E = writeE s x.f1 (pageP x.f2 x.f3 x.f4) := ⟨_, rfl⟩
  clear hC hv hd hr lo ps zt zb zB hL hL3 hst hE
  go_enter Try.func25, Try.ntmps25
  go_upto_region 1 with fail
  have hbk := Deep.blk_alloc_new w (.cells #[.int .i64 1, .int .i64 x.f1, .int .u8 x.f2, .slice A3 x.f3.length c3, .bool x.f4, .slice A5 x.f5.length c5, .int .i64 x.f6, .int .i64 x.f7] 32)
  refine at_world (fun W => W.heap[w.heap.size]? = some (.cells #[.int .i64 1, .int .i64 x.f1, .int .u8 x.f2, .slice A3 x.f3.length c3, .bool x.f4, .slice A5 x.f5.length c5, .int .i64 x.f6, .int .i64 x.f7] 32 (0, 0)) ∧ Below w.heap.size w W) ⟨hbk, below_alloc (Below.refl _ _) _⟩ (fun W hW => ?_)
  have y0 : W.cell? ⟨w.heap.size, 0, none⟩ = some (.int .i64 1) := (blk_cell hW.1 0).trans rfl
  have y1 : W.cell? ⟨w.heap.size, 1, none⟩ = some (.int .i64 x.f1) := (blk_cell hW.1 1).trans rfl
  have y2 : W.cell? ⟨w.heap.size, 2, none⟩ = some (.int .u8 x.f2) := (blk_cell hW.1 2).trans rfl
  have y3 : W.cell? ⟨w.heap.size, 3, none⟩ = some (.slice A3 x.f3.length c3) := (blk_cell hW.1 3).trans rfl
  have y4 : W.cell? ⟨w.heap.size, 4, none⟩ = some (.bool x.f4) := (blk_cell hW.1 4).trans rfl
  have y5 : W.cell? ⟨w.heap.size, 5, none⟩ = some (.slice A5 x.f5.length c5) := (blk_cell hW.1 5).trans rfl
  have y6 : W.cell? ⟨w.heap.size, 6, none⟩ = some (.int .i64 x.f6) := (blk_cell hW.1 6).trans rfl
  have y7 : W.cell? ⟨w.heap.size, 7, none⟩ = some (.int .i64 x.f7) := (blk_cell hW.1 7).trans rfl
  have HBW := Aside0.mk hW.1
  have HDW := Aside0.mk (HD.out.step hW.2)
  have HRW := Aside0.mk (HR.out.step hW.2)
  have HLW := Aside0.mk (below_step HLO.out hW.2)
  clear hW hbk
  go_upto_region 13 with (go_at_call 11; (with_reducible refine (HPG.out W (Kd.C_below HC3.out HLW.out)).mono ?_); rintro e w1 ⟨v1, rfl, ho, hb⟩; obtain ⟨g, c, e1, hgb, hgw, _⟩ := Kd.R_form ho (by rw [← HLL.out]; exact HL3.out.1); rw [← HLL.out] at e1; subst e1; have HO0 := Aside0.mk (Kd.R_drew ho); have HBK0 : Aside0 (w1.drew.heap[w.heap.size]? = some (.cells #[.int .i64 1, .int .i64 x.f1, .int .u8 x.f2, .slice A3 x.f3.length c3, .bool x.f4, .slice A5 x.f5.length c5, .int .i64 x.f6, .int .i64 x.f7] 32 (0, 0))) := ⟨blk_below HBW.out (below_step hb (below_drew1 (Below.refl _ _)))⟩; have HD0 := Aside0.mk ((HDW.out.step hb).step (below_drew1 (Below.refl _ _))); have HX0 := Aside0.mk ((HRW.out.rx hb hgb).step (below_drew1 (Below.refl _ _))); have HL0 := Aside0.mk (below_step (below_step HLW.out hb) (below_drew1 (Below.refl _ _))); clear ho hb hgb hgw)
  clear y0 y1 y2 y3 y4 y5 y6 y7
  refine start_ (n := 21) (S := fun w' => w'.cell? ⟨w.heap.size, 0, none⟩ = some (.int .i64 1) ∧ w'.cell? ⟨w.heap.size, 1, none⟩ = some (.int .i64 x.f1) ∧ w'.cell? ⟨w.heap.size, 2, none⟩ = some (.int .u8 x.f2) ∧ w'.cell? ⟨w.heap.size, 3, none⟩ = some (.slice A3 x.f3.length c3) ∧ w'.cell? ⟨w.heap.size, 4, none⟩ = some (.bool x.f4) ∧ w'.cell? ⟨w.heap.size, 5, none⟩ = some (.slice A5 x.f5.length c5) ∧ w'.cell? ⟨w.heap.size, 6, none⟩ = some (.int .i64 x.f6) ∧ w'.cell? ⟨w.heap.size, 7, none⟩ = some (.int .i64 x.f7) ∧ (convert 30 9 (.slice (some ⟨g, 0, none⟩) L c)).run Try.prog w' = .ok (.string st) w') (ds := []) #[false, false, false, false, false, false, false, false, false, false, false, false, false, false, false, false, false, false, false, false, false] (by kernel_rfl) rfl rfl ⟨(blk_cell HBK0.out 0).trans rfl, (blk_cell HBK0.out 1).trans rfl, (blk_cell HBK0.out 2).trans rfl, (blk_cell HBK0.out 3).trans rfl, (blk_cell HBK0.out 4).trans rfl, (blk_cell HBK0.out 5).trans rfl, (blk_cell HBK0.out 6).trans rfl, (blk_cell HBK0.out 7).trans rfl, (by rw [HST.out, HLL.out]; have hq := HO0.out; rw [HLL.out] at hq; exact row_string hq)⟩ (fun hHeld => ?_)
  refine pure_ (i := 0) (N := some 61) (v := ?_) (a' := ?_) #[true, false, false, false, false, false, false, false, false, false, false, false, false, false, false, false, false, false, false, false, false] rfl rfl (by kernel_rfl) (fun _ _ _ h => h) (Or.inl ⟨by rfl, ?_⟩) ?_ ?_
  rotate_left
  · intro w'
    go_simp
    with_reducible rfl
  rotate_left
  · simp only [Act.put, List.setIfInBounds_toArray, List.set_cons_zero, List.set_cons_succ, i64_w, i32_w]
    rfl
  refine pure_ (i := 1) (N := some 62) (v := ?_) (a' := ?_) #[true, true, false, false, false, false, false, false, false, false, false, false, false, false, false, false, false, false, false, false, false] rfl rfl (by kernel_rfl) (fun _ _ _ h => h) (Or.inl ⟨by rfl, ?_⟩) ?_ ?_
  rotate_left
  · intro w'
    go_simp
    with_reducible rfl
  rotate_left
  · simp only [Act.put, List.setIfInBounds_toArray, List.set_cons_zero, List.set_cons_succ, i64_w, i32_w]
    rfl
  refine pure_ (i := 3) (N := some 64) (v := ?_) (a' := ?_) #[true, true, false, true, false, false, false, false, false, false, false, false, false, false, false, false, false, false, false, false, false] rfl rfl (by kernel_rfl) (fun _ _ _ h => h) (Or.inl ⟨by rfl, ?_⟩) ?_ ?_
  rotate_left
  · intro w'
    go_simp
    with_reducible rfl
  rotate_left
  · simp only [Act.put, List.setIfInBounds_toArray, List.set_cons_zero, List.set_cons_succ, i64_w, i32_w]
    rfl
  refine pure_ (i := 5) (N := some 66) (v := ?_) (a' := ?_) #[true, true, false, true, false, true, false, false, false, false, false, false, false, false, false, false, false, false, false, false, false] rfl rfl (by kernel_rfl) (fun _ _ _ h => h) (Or.inl ⟨by rfl, ?_⟩) ?_ ?_
  rotate_left
  · intro w'
    go_simp
    with_reducible rfl
  rotate_left
  · simp only [Act.put, List.setIfInBounds_toArray, List.set_cons_zero, List.set_cons_succ, i64_w, i32_w]
    rfl
  refine pure_ (i := 6) (N := some 67) (v := ?_) (a' := ?_) #[true, true, false, true, false, true, true, false, false, false, false, false, false, false, false, false, false, false, false, false, false] rfl rfl (by kernel_rfl) (fun _ _ _ h => h) (Or.inl ⟨by rfl, ?_⟩) ?_ ?_
  rotate_left
  · intro w'
    go_simp
    with_reducible rfl
  rotate_left
  · simp only [Act.put, List.setIfInBounds_toArray, List.set_cons_zero, List.set_cons_succ, i64_w, i32_w]
    rfl
  refine take_ (i := 2) (N := some 63) (v := ?_) (a' := ?_) #[true, true, true, true, false, true, true, false, false, false, false, false, false, false, false, false, false, false, false, false, false] rfl rfl (by kernel_rfl) (fun _ _ _ h => h) (Or.inl ⟨by rfl, ?_⟩) hHeld ?_ ?_
  rotate_left
  · rintro w' ⟨s0, s1, s2, s3, s4, s5, s6, s7, s8⟩
    go_simp
    with_reducible rfl
  rotate_left
  · simp only [Act.put, List.setIfInBounds_toArray, List.set_cons_zero, List.set_cons_succ, i64_w, i32_w]
    rfl
  refine take_ (i := 7) (N := some 68) (v := ?_) (a' := ?_) #[true, true, true, true, false, true, true, true, false, false, false, false, false, false, false, false, false, false, false, false, false] rfl rfl (by kernel_rfl) (fun _ _ _ h => h) (Or.inl ⟨by rfl, ?_⟩) hHeld ?_ ?_
  rotate_left
  · rintro w' ⟨s0, s1, s2, s3, s4, s5, s6, s7, s8⟩
    go_simp
    with_reducible rfl
  rotate_left
  · simp only [Act.put, List.setIfInBounds_toArray, List.set_cons_zero, List.set_cons_succ, i64_w, i32_w]
    rfl
  refine take_ (i := 8) (N := some 69) (v := ?_) (a' := ?_) #[true, true, true, true, false, true, true, true, true, false, false, false, false, false, false, false, false, false, false, false, false] rfl rfl (by kernel_rfl) (fun _ _ _ h => h) (Or.inl ⟨by rfl, ?_⟩) hHeld ?_ ?_
  rotate_left
  · rintro w' ⟨s0, s1, s2, s3, s4, s5, s6, s7, s8⟩
    go_simp
    with_reducible rfl
  rotate_left
  · simp only [Act.put, List.setIfInBounds_toArray, List.set_cons_zero, List.set_cons_succ, i64_w, i32_w]
    rfl
  refine one_ (i := 4) (N := some 65) #[true, true, true, true, true, true, true, true, true, false, false, false, false, false, false, false, false, false, false, false, false] rfl rfl (by kernel_rfl) (by decide) (fun K hK => ?_)
  refine goes_ Try.func12 (by kernel_rfl) rfl #[.pointer (some ⟨d, 0, none⟩), .int .i64 x.f1, .slice (some ⟨g, 0, none⟩) L c] (by rfl) rfl rfl (by simp only [List.map_toArray, List.map_cons, List.map_nil]; rfl) ?_
  with_reducible refine (ds_write x.f1 _ (pageP x.f2 x.f3 x.f4) _ HD0.out HKC.out HO0.out).mono ?_
  rintro e w4 ⟨rfl, hs, ht⟩
  refine ⟨_, rfl, ?_⟩
  have HD4 := Aside0.mk hs
  have HX4 := Aside0.mk (HX0.out.keep (keepT_tf ht))
  have HO4 := Aside0.mk (R5_tf HO0.out ht)
  have HBK4 := Aside0.mk (ht.blk _ _ _ _ HBK0.out (by decide) (by decide))
  have HL4 := Aside0.mk (HL0.out.trans (ht.b.mono HZB.out.1))
  clear hs ht
  refine hK.out _ _ ⟨(blk_cell HBK4.out 0).trans rfl, (blk_cell HBK4.out 1).trans rfl, (blk_cell HBK4.out 2).trans rfl, (blk_cell HBK4.out 3).trans rfl, (blk_cell HBK4.out 4).trans rfl, (blk_cell HBK4.out 5).trans rfl, (blk_cell HBK4.out 6).trans rfl, (blk_cell HBK4.out 7).trans rfl, (by rw [HST.out, HLL.out]; have hq := HO4.out; rw [HLL.out] at hq; exact row_string hq)⟩ (fun hHeld => ?_)
  clear hK K
  refine norm_ (a' := ?_) ?_ ?_
  rotate_left
  · show Act.put _ (some 65) _ = _
    simp only [Act.put, List.setIfInBounds_toArray, List.set_cons_zero, List.set_cons_succ, i64_w, i32_w]
    rfl
  refine one_ (i := 9) (N := some 70) #[true, true, true, true, true, true, true, true, true, true, false, false, false, false, false, false, false, false, false, false, false] rfl rfl (by kernel_rfl) (by decide) (fun K hK => ?_)
  refine goes_ Try.func11 (by kernel_rfl) rfl #[.agg #[.int .i64 1, .int .i64 x.f1, .int .u8 x.f2, .slice A3 x.f3.length c3, .bool x.f4, .slice A5 x.f5.length c5, .int .i64 x.f6, .int .i64 x.f7]] (by rfl) rfl rfl (by simp only [List.map_toArray, List.map_cons, List.map_nil]; rfl) ?_
  with_reducible refine (HPG.out w4 (Kd.C_below HC3.out HL4.out)).mono ?_
  rintro e w5 ⟨v5, rfl, ho, hb⟩
  refine ⟨_, rfl, ?_⟩
  have HP5 := Aside0.mk ho
  have HD5 := Aside0.mk (HD4.out.step hb)
  have HX5 := Aside0.mk (HX4.out.step hb)
  have HO5 := Aside0.mk (Kd.R_below HO4.out hb)
  have HBK5 := Aside0.mk (blk_below HBK4.out hb)
  have HL5 := Aside0.mk (below_step HL4.out hb)
  clear ho hb
  refine hK.out _ _ ⟨(blk_cell HBK5.out 0).trans rfl, (blk_cell HBK5.out 1).trans rfl, (blk_cell HBK5.out 2).trans rfl, (blk_cell HBK5.out 3).trans rfl, (blk_cell HBK5.out 4).trans rfl, (blk_cell HBK5.out 5).trans rfl, (blk_cell HBK5.out 6).trans rfl, (blk_cell HBK5.out 7).trans rfl, (by rw [HST.out, HLL.out]; have hq := HO5.out; rw [HLL.out] at hq; exact row_string hq)⟩ (fun hHeld => ?_)
  clear hK K
  refine norm_ (a' := ?_) ?_ ?_
  rotate_left
  · show Act.put _ (some 70) _ = _
    simp only [Act.put, List.setIfInBounds_toArray, List.set_cons_zero, List.set_cons_succ, i64_w, i32_w]
    rfl
  refine one_ (i := 10) (N := some 71) #[true, true, true, true, true, true, true, true, true, true, true, false, false, false, false, false, false, false, false, false, false] rfl rfl (by kernel_rfl) (by decide) (fun K hK => ?_)
  refine goes_ Try.func36 (by kernel_rfl) rfl #[.pointer (some ⟨r, 0, none⟩), .int .i64 x.f1, v5] (by rfl) rfl rfl (by simp only [List.map_toArray, List.map_cons, List.map_nil]; rfl) ?_
  with_reducible refine (rwrite_rx m HZ.out HN.out x.f1 v5 (pageP x.f2 x.f3 x.f4) _ HX5.out (R_lt HO5.out) HP5.out).mono ?_
  rintro e w6 ⟨rfl, hx, hf, hk⟩
  refine ⟨_, rfl, ?_⟩
  have HX6 := Aside0.mk hx
  have HD6 := Aside0.mk (hf.ds HD5.out)
  have HO6 := Aside0.mk (R_keepR HO5.out hk)
  have HBK6 := Aside0.mk (hk _ _ _ _ HBK5.out (by decide) (by decide))
  have HL6 := Aside0.mk (HL5.out.trans (hf.1.mono HZB.out.2))
  clear hx hf hk
  refine hK.out _ _ ⟨(blk_cell HBK6.out 0).trans rfl, (blk_cell HBK6.out 1).trans rfl, (blk_cell HBK6.out 2).trans rfl, (blk_cell HBK6.out 3).trans rfl, (blk_cell HBK6.out 4).trans rfl, (blk_cell HBK6.out 5).trans rfl, (blk_cell HBK6.out 6).trans rfl, (blk_cell HBK6.out 7).trans rfl, (by rw [HST.out, HLL.out]; have hq := HO6.out; rw [HLL.out] at hq; exact row_string hq)⟩ (fun hHeld => ?_)
  clear hK K
  refine norm_ (a' := ?_) ?_ ?_
  rotate_left
  · show Act.put _ (some 71) _ = _
    simp only [Act.put, List.setIfInBounds_toArray, List.set_cons_zero, List.set_cons_succ, i64_w, i32_w]
    rfl
  refine pure_ (i := 11) (N := some 72) (v := ?_) (a' := ?_) #[true, true, true, true, true, true, true, true, true, true, true, true, false, false, false, false, false, false, false, false, false] rfl rfl (by kernel_rfl) (fun _ _ _ h => h) (Or.inl ⟨by rfl, ?_⟩) ?_ ?_
  rotate_left
  · intro w'
    go_simp
    with_reducible rfl
  rotate_left
  · simp only [Act.put, List.setIfInBounds_toArray, List.set_cons_zero, List.set_cons_succ, i64_w, i32_w]
    rfl
  refine pure_ (i := 12) (N := some 73) (v := ?_) (a' := ?_) #[true, true, true, true, true, true, true, true, true, true, true, true, true, false, false, false, false, false, false, false, false] rfl rfl (by kernel_rfl) (fun _ _ _ h => h) (Or.inl ⟨by rfl, ?_⟩) ?_ ?_
  rotate_left
  · intro w'
    go_simp
    with_reducible rfl
  rotate_left
  · simp only [Act.put, List.setIfInBounds_toArray, List.set_cons_zero, List.set_cons_succ, i64_w, i32_w]
    rfl
  refine pure_ (i := 13) (N := some 74) (v := ?_) (a' := ?_) #[true, true, true, true, true, true, true, true, true, true, true, true, true, true, false, false, false, false, false, false, false] rfl rfl (by kernel_rfl) (fun _ _ _ h => h) (Or.inl ⟨by rfl, ?_⟩) ?_ ?_
  rotate_left
  · intro w'
    go_simp
    with_reducible rfl
  rotate_left
  · simp only [Act.put, List.setIfInBounds_toArray, List.set_cons_zero, List.set_cons_succ, i64_w, i32_w]
    rfl
  refine take_ (i := 14) (N := some 75) (v := ?_) (a' := ?_) #[true, true, true, true, true, true, true, true, true, true, true, true, true, true, true, false, false, false, false, false, false] rfl rfl (by kernel_rfl) (fun _ _ _ h => h) (Or.inl ⟨by rfl, ?_⟩) hHeld ?_ ?_
  rotate_left
  · rintro w' ⟨s0, s1, s2, s3, s4, s5, s6, s7, s8⟩
    go_simp
    with_reducible rfl
  rotate_left
  · simp only [Act.put, List.setIfInBounds_toArray, List.set_cons_zero, List.set_cons_succ, i64_w, i32_w]
    rfl
  refine take_ (i := 15) (N := some 76) (v := ?_) (a' := ?_) #[true, true, true, true, true, true, true, true, true, true, true, true, true, true, true, true, false, false, false, false, false] rfl rfl (by kernel_rfl) (fun _ _ _ h => h) (Or.inl ⟨by rfl, ?_⟩) hHeld ?_ ?_
  rotate_left
  · rintro w' ⟨s0, s1, s2, s3, s4, s5, s6, s7, s8⟩
    go_simp
    with_reducible rfl
  rotate_left
  · simp only [Act.put, List.setIfInBounds_toArray, List.set_cons_zero, List.set_cons_succ, i64_w, i32_w]
    rfl
  refine one_ (i := 16) (N := some 77) #[true, true, true, true, true, true, true, true, true, true, true, true, true, true, true, true, true, false, false, false, false] rfl rfl (by kernel_rfl) (by decide) (fun K hK => ?_)
  refine goes_ Try.func11 (by kernel_rfl) rfl #[.agg #[.int .i64 1, .int .i64 x.f1, .int .u8 x.f2, .slice A3 x.f3.length c3, .bool x.f4, .slice A5 x.f5.length c5, .int .i64 x.f6, .int .i64 x.f7]] (by rfl) rfl rfl (by simp only [List.map_toArray, List.map_cons, List.map_nil]; rfl) ?_
  with_reducible refine (HPG.out w6 (Kd.C_below HC3.out HL6.out)).mono ?_
  rintro e w7 ⟨v7, rfl, ho, hb⟩
  refine ⟨_, rfl, ?_⟩
  have HD7 := Aside0.mk (HD6.out.step hb)
  have HX7 := Aside0.mk (HX6.out.step hb)
  have HO7 := Aside0.mk (Kd.R_below HO6.out hb)
  have HBK7 := Aside0.mk (blk_below HBK6.out hb)
  have HL7 := Aside0.mk (below_step HL6.out hb)
  obtain ⟨A7, c7, rfl⟩ := Kd.R_slice ho
  have cX : (convert 30 9 (.slice A7 (pageP x.f2 x.f3 x.f4).length c7)).run Try.prog w7 = .ok (.string st) w7 := by rw [HST.out]; exact row_string ho
  clear ho hb
  refine hK.out _ _ ⟨(blk_cell HBK7.out 0).trans rfl, (blk_cell HBK7.out 1).trans rfl, (blk_cell HBK7.out 2).trans rfl, (blk_cell HBK7.out 3).trans rfl, (blk_cell HBK7.out 4).trans rfl, (blk_cell HBK7.out 5).trans rfl, (blk_cell HBK7.out 6).trans rfl, (blk_cell HBK7.out 7).trans rfl, (by rw [HST.out, HLL.out]; have hq := HO7.out; rw [HLL.out] at hq; exact row_string hq)⟩ (fun hHeld => ?_)
  clear hK K
  refine norm_ (a' := ?_) ?_ ?_
  rotate_left
  · show Act.put _ (some 77) _ = _
    simp only [Act.put, List.setIfInBounds_toArray, List.set_cons_zero, List.set_cons_succ, i64_w, i32_w]
    rfl
  refine one_ (i := 17) (N := some 78) #[true, true, true, true, true, true, true, true, true, true, true, true, true, true, true, true, true, true, false, false, false] rfl rfl (by kernel_rfl) (by decide) (fun K hK => ?_)
  refine value_ (w1 := w7) (v := .string st) (by rfl) rfl (exec_convert 30 9 (.tmp 77) rfl (by rfl) cX) ?_
  refine hK.out _ _ ⟨(blk_cell HBK7.out 0).trans rfl, (blk_cell HBK7.out 1).trans rfl, (blk_cell HBK7.out 2).trans rfl, (blk_cell HBK7.out 3).trans rfl, (blk_cell HBK7.out 4).trans rfl, (blk_cell HBK7.out 5).trans rfl, (blk_cell HBK7.out 6).trans rfl, (blk_cell HBK7.out 7).trans rfl, (by rw [HST.out, HLL.out]; have hq := HO7.out; rw [HLL.out] at hq; exact row_string hq)⟩ (fun hHeld => ?_)
  clear hK K
  refine norm_ (a' := ?_) ?_ ?_
  rotate_left
  · show Act.put _ (some 78) _ = _
    simp only [Act.put, List.setIfInBounds_toArray, List.set_cons_zero, List.set_cons_succ, i64_w, i32_w]
    rfl
  refine pure_ (i := 18) (N := some 79) (v := ?_) (a' := ?_) #[true, true, true, true, true, true, true, true, true, true, true, true, true, true, true, true, true, true, true, false, false] rfl rfl (by kernel_rfl) (fun _ _ _ h => h) (Or.inl ⟨by rfl, ?_⟩) ?_ ?_
  rotate_left
  · intro w'
    go_simp
    with_reducible rfl
  rotate_left
  · simp only [Act.put, List.setIfInBounds_toArray, List.set_cons_zero, List.set_cons_succ, i64_w, i32_w]
    rfl
  refine pure_ (i := 19) (N := some 80) (v := ?_) (a' := ?_) #[true, true, true, true, true, true, true, true, true, true, true, true, true, true, true, true, true, true, true, true, false] rfl rfl (by kernel_rfl) (fun _ _ _ h => h) (Or.inl ⟨by rfl, ?_⟩) ?_ ?_
  rotate_left
  · intro w'
    go_simp
    with_reducible rfl
  rotate_left
  · simp only [Act.put, List.setIfInBounds_toArray, List.set_cons_zero, List.set_cons_succ, i64_w, i32_w]
    rfl
  refine pure_ (i := 20) (N := some 14) (v := ?_) (a' := ?_) #[true, true, true, true, true, true, true, true, true, true, true, true, true, true, true, true, true, true, true, true, true] rfl rfl (by kernel_rfl) (fun _ _ _ h => h) (Or.inl ⟨by rfl, ?_⟩) ?_ ?_
  rotate_left
  · intro w'
    go_simp
    with_reducible rfl
  rotate_left
  · simp only [Act.put, List.setIfInBounds_toArray, List.set_cons_zero, List.set_cons_succ, i64_w, i32_w]
    rfl
  refine done_ (by kernel_rfl) ?_
  clear cX
  go_wp2_with fail
  go_loopw [15] (fun v15 wr => ∃ (k : Nat) (ys : List Int), v15 = .int .i64 (k : Int) ∧ k ≤ L ∧ Aside0 (Kd.R (Kd.int .u8) 5 wr W.heap.size (fun _ => True) (.slice (some ⟨g, 0, none⟩) L c) ys) ∧ Aside0 (DS wr base d (writeD s x.f1 (pageP x.f2 x.f3 x.f4)) (C + 1)) ∧ Aside0 (RX wr B r g (rOf (writeD s x.f1 (pageP x.f2 x.f3 x.f4)))) ∧ Aside0 (Below Z.heap.size Z wr)) (fun v15 _ => L - (intOf v15).toNat)
  case atStart => exact ⟨0, _, rfl, Nat.zero_le _, HO7, HD7, HX7, HL7⟩
  case round =>
    clear HO7 HD7 HX7 HL7 HBK7
    obtain ⟨k, ys, rfl, hk, HO, HD, HX, HL⟩ := hrel
    have hL3 := HL3.out.2
    by_cases hlt : k < L
    · have HK := Aside0.mk hlt
      have b1 : decide ((k : Int) < (L : Int)) = true := decide_eq_true (by omega)
      have g1 : (0 : Int) ≤ (k : Int) := by omega
      have w2_ : wrap64 ((k : Int) + 1) = (k : Int) + 1 := by unfold wrap64; omega
      have b2' : (k : Int) < (L : Int) := by omega
      have b2 : ((k : Int) < (L : Int)) = True := eq_true b2'
      have b3 : (k < L) = True := eq_true hlt
      have ca := Kd.R_celln 0 HO.out (k : Int) g1 b2'
      rw [Int.toNat_natCast] at ca
      have ca1 := ca.1
      have ca2 := ca.2
      obtain ⟨ds, hds⟩ := Kd.R_typed HO.out g rfl
      have hp := Kd.R_putn HO.out (k : Int) 77
      rw [Int.toNat_natCast] at hp
      have HO2 := Aside0.mk hp
      have HD2 := Aside0.mk (HD.out.setb hds (by decide) (by decide) k (.int .u8 77))
      have HX2 := Aside0.mk (HX.out.byte hds (by decide) (by decide) k (.int .u8 77))
      have HL2 : Aside0 (Below Z.heap.size Z (wr.setCell ⟨g, k, none⟩ (.int .u8 77))) := ⟨below_set HL.out (Nat.le_trans (HLW.out.size) (Kd.R_base HO.out g rfl))⟩
      clear hlt hk hL3 ca hds hp b2'
      go_wp2
      go_roundw
      case rel => exact ⟨k + 1, _, by first | exact congrArg (Value.int .i64) w2_ | rfl, HK.out, HO2, HD2, HX2, HL2⟩
      case measure => exact meas_lt HK.out (by first | exact congrArg (Value.int .i64) w2_ | rfl)
    · have b1 : decide ((k : Int) < (L : Int)) = false := decide_eq_false (by omega)
      have b2 : ((k : Int) < (L : Int)) = False := eq_false (by omega)
      have b3 : (k < L) = False := eq_false hlt
      clear hlt hk hL3
      go_wp2
      go_ret
      have hp : (writeD s x.f1 (pageP x.f2 x.f3 x.f4)).pages = (m : Int) := by rw [writeD_pages]; exact HPS.out
      exact ⟨by simp, _, ⟨base, B, HD.out, HX.out.rs, HZB.out.1, HZB.out.2⟩, HL.out, hp, ⟨hp, HZ.out.h1, HZ.out.h2, HD.out.l512, HD.out.c512, Nat.le_trans HD.out.cache_le (by have := HCC.out; omega)⟩⟩
end
end Go.Proofs.Ytehgbikleiaagaa.P
end
section
namespace Go.Proofs.Ytehgbikleiaagaa.P
open Go.RowKit Go.Proofs.YtehgbikleiaagaaW.PrintWords Go.Proofs.YtehgbikleiaagaaW.PrintLast Go.Proofs.YtehgbikleiaagaaW.PrintMore
attribute [local go_sem] max2_int min2_int max_two min_two max_three min_three max_four min_four
set_option linter.unusedVariables false
set_option linter.unusedSimpArgs false
def quarryref05_SameInts.l0 : Nat → List Int → List Int → Int → Option (Bool)
 | 0, _, _, _ => none
 | k + 1, x0, x1, x5 => if x5 < (x0.length : Int) then (if 0 ≤ x5 then (if x5 < (x1.length : Int) then (if (rd x0 x5) = (rd x1 x5) then (quarryref05_SameInts.l0 k x0 x1 (wrap64 (x5 + 1))) else (some false)) else (none)) else (none)) else (some true)
def quarryref05_SameInts.f (k : Nat) (l0 : List Int) (l1 : List Int) : Option (Bool) := if (l0.length : Int) = (l1.length : Int) then (quarryref05_SameInts.l0 k l0 l1 0) else (some false)
set_option maxHeartbeats 8000000 in
set_option maxRecDepth 100000 in
theorem quarryref05_SameInts.calls (k : Nat) (A0 : Option Addr) (c0 : Nat) (l0 : List Int) (A1 : Option Addr) (c1 : Nat) (l1 : List Int) (r : Bool) (w : World) (hr0 : Kd.C (Kd.int .i64) w A0 l0.length l0) (hc0 : l0.length ≤ c0) (hr1 : Kd.C (Kd.int .i64) w A1 l1.length l1) (hc1 : l1.length ≤ c1) (h : quarryref05_SameInts.f k l0 l1 = some r) :
  Calls Try.prog 27 #[.slice A0 l0.length c0, .slice A1 l1.length c1] w fun e w' => e = .returned (.bool r) ∧ Drawn0 w w' := by
 have HR0 := Aside0.mk hr0
 have HC0 := Aside0.mk hc0
 clear hr0 hc0
 have HR1 := Aside0.mk hr1
 have HC1 := Aside0.mk hc1
 clear hr1 hc1
 have H : (if (l0.length : Int) = (l1.length : Int) then (quarryref05_SameInts.l0 k l0 l1 0) else (some false)) = some r := h
 clear h
 by_cases c3 : (l0.length : Int) = (l1.length : Int)
 ·rw [if_pos c3] at H
  have c3b0 : ((l0.length : Int) == (l1.length : Int)) = true := beq_iff_eq.mpr c3
  have c3b1 : ((l0.length : Int) != (l1.length : Int)) = false := bne_eq_false_iff_eq.mpr c3
  have c3b2 : (l0.length == l1.length) = true := by first | simpa using c3 | (simp at c3 ⊢; omega)
  clear c3
  have H' := Aside0.mk H
  clear H
  go_enter Try.func27, Try.ntmps27
  go_wp2
  repeat (go_quiet (fail); try go_wp2)
  go_loopg [5] k (fun kq v5 w' => ∃ (x5_1 : Int), v5 = .int .i64 x5_1 ∧ Aside0 (quarryref05_SameInts.l0 kq l0 l1 x5_1 = some r) ∧ Aside0 (kq ≤ k) ∧ Drawn0 w w')
  case atStart => exact ⟨(0), (by first | rfl | (simp; done) | (simp [*]; done)), H', ⟨Nat.le_refl _⟩, by repeat (first | exact Drawn0.refl _ | apply Drawn0.step)⟩
  case round =>
   clear H'
   try clear c1
   try clear c2
   try clear p2
   try clear c3
   try clear c3b0
   try clear c3b1
   try clear c3b2
   obtain ⟨x5_1, rfl, HA, HK1, ⟨m1, rfl⟩⟩ := hrel
   cases gk with
   | zero => exact absurd HA.out (by simp [quarryref05_SameInts.l0])
   | succ k1 =>
    have H := HA.out
    clear HA
    simp only [quarryref05_SameInts.l0] at H
    by_cases c4 : x5_1 < (l0.length : Int)
    ·rw [if_pos c4] at H
     have c4b0 : decide (x5_1 < (l0.length : Int)) = true := decide_eq_true c4
     clear c4
     by_cases c5 : 0 ≤ x5_1
     ·rw [if_pos c5] at H
      have c5b0 : decide (0 ≤ x5_1) = true := decide_eq_true c5
      clear c5
      by_cases c6 : x5_1 < (l1.length : Int)
      ·rw [if_pos c6] at H
       have c6b0 : decide (x5_1 < (l1.length : Int)) = true := decide_eq_true c6
       clear c6
       by_cases c7 : (rd l0 x5_1) = (rd l1 x5_1)
       ·rw [if_pos c7] at H
        have c7b0 : ((rd l0 x5_1) == (rd l1 x5_1)) = true := beq_iff_eq.mpr c7
        have c7b1 : ((rd l0 x5_1) != (rd l1 x5_1)) = false := bne_eq_false_iff_eq.mpr c7
        clear c7
        have H' := Aside0.mk H
        clear H
        have p101 : 0 ≤ (x5_1 : Int) := of_decide_eq_true (by first | (with_reducible assumption) | assumption)
        have q101 : x5_1 < (l0.length : Int) := of_decide_eq_true (by first | (with_reducible assumption) | assumption)
        obtain ⟨ad101, e101, hx101_0⟩ := Kd.at_int HR0.out x5_1 p101 q101
        cases e101
        replace p101 := eq_true p101
        replace q101 := eq_true q101
        have p102 : 0 ≤ (x5_1 : Int) := of_decide_eq_true (by first | (with_reducible assumption) | assumption)
        have q102 : x5_1 < (l1.length : Int) := of_decide_eq_true (by first | (with_reducible assumption) | assumption)
        obtain ⟨ad102, e102, hx102_0⟩ := Kd.at_int HR1.out x5_1 p102 q102
        cases e102
        replace p102 := eq_true p102
        replace q102 := eq_true q102
        go_wp2
        repeat (go_quiet (fail); try go_wp2)
        go_roundg k1
        case measure => have := HK1.out; omega
        case rel => exact ⟨(wrap64 (x5_1 + 1)), (by first | rfl | (simp; done) | (simp [*]; done)), H', ⟨by have := HK1.out; omega⟩, by repeat (first | exact Drawn0.refl _ | apply Drawn0.step)⟩
       ·rw [if_neg c7] at H
        have c7b0 : ((rd l0 x5_1) == (rd l1 x5_1)) = false := beq_eq_false_iff_ne.mpr c7
        have c7b1 : ((rd l0 x5_1) != (rd l1 x5_1)) = true := bne_iff_ne.mpr c7
        obtain rfl := Option.some.inj H
        have p101 : 0 ≤ (x5_1 : Int) := of_decide_eq_true (by first | (with_reducible assumption) | assumption)
        have q101 : x5_1 < (l0.length : Int) := of_decide_eq_true (by first | (with_reducible assumption) | assumption)
        obtain ⟨ad101, e101, hx101_0⟩ := Kd.at_int HR0.out x5_1 p101 q101
        cases e101
        replace p101 := eq_true p101
        replace q101 := eq_true q101
        have p102 : 0 ≤ (x5_1 : Int) := of_decide_eq_true (by first | (with_reducible assumption) | assumption)
        have q102 : x5_1 < (l1.length : Int) := of_decide_eq_true (by first | (with_reducible assumption) | assumption)
        obtain ⟨ad102, e102, hx102_0⟩ := Kd.at_int HR1.out x5_1 p102 q102
        cases e102
        replace p102 := eq_true p102
        replace q102 := eq_true q102
        go_wp2
        repeat (go_quiet (fail); try go_wp2)
        go_ret
        exact ⟨by first | rfl | (simp; done) | (simp [*]; done), by repeat (first | exact Drawn0.refl _ | apply Drawn0.step)⟩
      ·rw [if_neg c6] at H
       exact absurd H (by simp)
     ·rw [if_neg c5] at H
      exact absurd H (by simp)
    ·rw [if_neg c4] at H
     have c4b0 : decide (x5_1 < (l0.length : Int)) = false := decide_eq_false c4
     clear c4
     obtain rfl := Option.some.inj H
     go_wp2
     repeat (go_quiet (fail); try go_wp2)
     go_ret
     exact ⟨by first | rfl | (simp; done) | (simp [*]; done), by repeat (first | exact Drawn0.refl _ | apply Drawn0.step)⟩
 ·rw [if_neg c3] at H
  have c3b0 : ((l0.length : Int) == (l1.length : Int)) = false := beq_eq_false_iff_ne.mpr c3
  have c3b1 : ((l0.length : Int) != (l1.length : Int)) = true := bne_iff_ne.mpr c3
  have c3b2 : (l0.length == l1.length) = false := by first | simpa using c3 | (simp at c3 ⊢; omega)
  obtain rfl := Option.some.inj H
  go_enter Try.func27, Try.ntmps27
  go_wp2
  repeat (go_quiet (fail); try go_wp2)
  go_ret
  exact ⟨by first | rfl | (simp; done) | (simp [*]; done), by repeat (first | exact Drawn0.refl _ | apply Drawn0.step)⟩
end Go.Proofs.Ytehgbikleiaagaa.P
end
section
namespace Go.Proofs.Ytehgbikleiaagaa.P
open Go.RowKit Go.Proofs.YtehgbikleiaagaaW.PrintWords Go.Proofs.YtehgbikleiaagaaW.PrintLast Go.Proofs.YtehgbikleiaagaaW.PrintMore
theorem u45p : Try.prog.underlying 45 = some (.pointer (Try.prog.pointee 45)) := by kernel_rfl
theorem eql_ptr25 (p : Option Addr) (w : World) : (binOp .eql 25 (.pointer p) (.pointer none)).run Try.prog w = .ok (.bool p.isNone) w := run_eql_pointer_nil w 25 p u25p
theorem eql_ptr45 (p : Option Addr) (w : World) : (binOp .eql 45 (.pointer p) (.pointer none)).run Try.prog w = .ok (.bool p.isNone) w := run_eql_pointer_nil w 45 p u45p
attribute [local go_sem] guard_ptr eql_ptr25 eql_ptr45
set_option linter.unusedVariables false
set_option linter.unusedSimpArgs false
structure CQ (Z W : World) (d c r Cd C m : Nat) (sd s : Dk) : Prop where
  ex : ∃ bd bc B, DQ W bd d sd Cd bc c s C ∧ RS W B r (rOf s) ∧ Z.heap.size ≤ bd ∧ Z.heap.size ≤ bc ∧ Z.heap.size ≤ B
  lo : Below Z.heap.size Z W
  ps : s.pages = (m : Int)
  zt : DZ s m
section
variable {Z w w' : World} {d c r Cd C m : Nat} {sd s : Dk}
theorem CQ.step (h : CQ Z w d c r Cd C m sd s) (hb : Below w.heap.size w w') : CQ Z w' d c r Cd C m sd s := by
  obtain ⟨⟨bd, bc, B, h1, h2, h3, h4, h5⟩, h6, h7, h8⟩ := h
  exact ⟨⟨bd, bc, B, h1.step hb, h2.step hb, h3, h4, h5⟩, below_step h6 hb, h7, h8⟩
theorem CQ.qs (h : CQ Z w d c r Cd C m sd s) : QS Z w c r C m s s := by
  obtain ⟨⟨bd, bc, B, h1, h2, h3, h4, h5⟩, h6, h7, h8⟩ := h
  exact ⟨⟨bc, B, h1.snd, h2, h4, h5⟩, h6, h7, h8⟩
theorem cq_clone (h : QS Z w d r C m s s) :
    Calls Try.prog 23 #[.pointer (some ⟨d, 0, none⟩)] w fun e w' => ∃ c, e = .returned (.pointer (some ⟨c, 0, none⟩)) ∧ CQ Z w' d c r C C m s s := by
  refine (qs_clone h).mono ?_
  rintro e w' ⟨c, he, hq, bd, bc, h1, h2, h3⟩
  obtain ⟨⟨base, B, g1, g2, g3, g4⟩, g5, g6, g7⟩ := hq
  exact ⟨c, he, ⟨bd, bc, B, h3, g2, h1, h2, g4⟩, g5, g6, g7⟩
theorem cq_write (n : Int) (own : Value) (b : List Int) {b2 : Nat} {ok : Nat → Prop} (h : CQ Z w d c r Cd C m sd s) (hC : Cd < 1073741824) (ho : Kd.R (Kd.int .u8) 5 w b2 ok own b) :
    Calls Try.prog 12 #[.pointer (some ⟨d, 0, none⟩), .int .i64 n, own] w fun e w' => (∃ E, e = .returned (.int .i64 E)) ∧ CQ Z w' d c r (Cd + 1) C m (writeD sd n b) s := by
  obtain ⟨⟨bd, bc, B, h1, h2, h3, h4, h5⟩, h6, h7, h8⟩ := h
  exact (dq_write n own b w h1 hC ho).mono fun e w' ⟨he, hd, ht⟩ => ⟨⟨_, he⟩, ⟨bd, bc, B, hd, h2.keep (keepT_tf ht), h3, h4, h5⟩, h6.trans (ht.b.mono h3), h7, h8⟩
theorem cq_sync (h : CQ Z w d c r Cd C m sd s) :
    Calls Try.prog 13 #[.pointer (some ⟨d, 0, none⟩)] w fun e w' => (∃ E, e = .returned (.int .i64 E)) ∧ CQ Z w' d c r Cd C m (syncD sd) s := by
  obtain ⟨⟨bd, bc, B, h1, h2, h3, h4, h5⟩, h6, h7, h8⟩ := h
  exact (dq_sync w h1).mono fun e w' ⟨he, hd, ht⟩ => ⟨⟨_, he⟩, ⟨bd, bc, B, hd, h2.keep (keepT_tf ht), h3, h4, h5⟩, h6.trans (ht.b.mono h3), h7, h8⟩
theorem cq_mend (torn cut : Int) (h : CQ Z w d c r Cd C m sd s) :
    Calls Try.prog 14 #[.pointer (some ⟨d, 0, none⟩), .slice none 0 0, .int .i64 torn, .int .i64 cut] w fun e w' => (∃ u, e = .returned u) ∧ CQ Z w' d c r Cd C m (mendS sd [] torn cut) s := by
  obtain ⟨⟨bd, bc, B, h1, h2, h3, h4, h5⟩, h6, h7, h8⟩ := h
  exact (dq_mend_nil torn cut w h1).mono fun e w' ⟨he, hd, ht⟩ => ⟨he, ⟨bd, bc, B, hd, h2.keep (keepT_tf ht), h3, h4, h5⟩, h6.trans (ht.b.mono h3), h7, h8⟩
end
theorem both_calls {Z w : World} {d r C m : Nat} {s : Dk} (x : S32) (A3 A5 : Option Addr) (c3 c5 : Nat) (hv : OV Z x A3 A5) (h : QS Z w d r C m s s) (hC : C ≤ 1000) :
    Calls Try.prog 25 #[.pointer (some ⟨d, 0, none⟩), .pointer (some ⟨r, 0, none⟩), .agg #[.int .i64 x.f0, .int .i64 x.f1, .int .u8 x.f2, .slice A3 x.f3.length c3, .bool x.f4, .slice A5 x.f5.length c5, .int .i64 x.f6, .int .i64 x.f7]] w fun e w' => bothPost Z d r C m e w' := by
  obtain ⟨k, hk⟩ : ∃ k, k = x.f0 := ⟨_, rfl⟩
  rw [← hk]
  by_cases e : k < 0 ∨ 4 < k
  · exact both_else x A3 A5 c3 c5 k e hv h hC
  · rcases (show k = 0 ∨ k = 1 ∨ k = 2 ∨ k = 3 ∨ k = 4 by omega) with rfl | rfl | rfl | rfl | rfl
    · exact both_read x A3 A5 c3 c5 hv h hC
    · exact both_write x A3 A5 c3 c5 hv h hC
    · exact both_sync x A3 A5 c3 c5 h hC
    · exact both_arm x A3 A5 c3 c5 hv.n1 h hC
    · exact both_mend x A3 A5 c3 c5 hv h hC
theorem same_self (l : List Int) (hl : l.length ≤ 1000) : ∀ n k, k + n = l.length → quarryref05_SameInts.l0 (n + 1) l l (k : Int) = some true
  | 0, k, h => by
    unfold quarryref05_SameInts.l0
    rw [if_neg (by omega)]
  | n + 1, k, h => by
    unfold quarryref05_SameInts.l0
    have hw : wrap64 ((k : Int) + 1) = ((k + 1 : Nat) : Int) := by unfold wrap64; omega
    rw [if_pos (by omega), if_pos (by omega), if_pos (by omega), if_pos rfl, hw]
    exact same_self l hl n (k + 1) (by omega)
theorem same_calls {w : World} {b0 b1 : Nat} {ok0 ok1 : Nat → Prop} {A0 A1 : Option Addr} {n c0 c1 : Nat} (l : List Int) (hl : l.length ≤ 1000) (hn : n = l.length) (h0 : Kd.R (Kd.int .i64) 3 w b0 ok0 (.slice A0 n c0) l) (h1 : Kd.R (Kd.int .i64) 3 w b1 ok1 (.slice A1 n c1) l) :
    Calls Try.prog 27 #[.slice A0 n c0, .slice A1 n c1] w fun e w' => e = .returned (.bool true) ∧ Below w.heap.size w w' := by
  subst hn
  have g0 := Kd.R_reads' h0
  have g1 := Kd.R_reads' h1
  have hf : quarryref05_SameInts.f (l.length + 1) l l = some true := by
    unfold quarryref05_SameInts.f
    rw [if_pos rfl]
    exact same_self l hl l.length 0 (Nat.zero_add _)
  exact (quarryref05_SameInts.calls (l.length + 1) A0 c0 l A1 c1 l true w g0.2.2 g0.2.1 g1.2.2 g1.2.1 hf).mono fun e w' ⟨he, hb⟩ => ⟨he, hb.below⟩
def quarrylaw05_DiskPlays.f (a0 : Int) (l1 : List S32) : Option Bool := if (l1.all fun x => decide (x.f1 < 9223372036854775808 ∧ x.f5.length ≤ 140737488351232)) = true then some true else none
set_option maxHeartbeats 8000000 in
set_option maxRecDepth 100000 in
theorem quarrylaw05_DiskPlays.calls (a0 : Int) (A1 : Option Addr) (c1 : Nat) (l1 : List S32) (r0 : Bool) (w : World) (hr1 : Kd.C k32 w A1 l1.length l1) (hc1 : l1.length ≤ c1) (h : quarrylaw05_DiskPlays.f a0 l1 = some r0) :
    Calls Try.prog 7 #[.int .i64 a0, .slice A1 l1.length c1] w fun e w' => e = .returned (.bool r0) ∧ Below w.heap.size w w' := by
  unfold quarrylaw05_DiskPlays.f at h
  have hall : (l1.all fun x => decide (x.f1 < 9223372036854775808 ∧ x.f5.length ≤ 140737488351232)) = true := by
    by_cases hx : (l1.all fun x => decide (x.f1 < 9223372036854775808 ∧ x.f5.length ≤ 140737488351232)) = true
    · exact hx
    · rw [if_neg hx] at h
      cases h
  rw [if_pos hall] at h
  obtain rfl : true = r0 := Option.some.inj h
  have HR1 := Aside0.mk hr1
  have HALL := Aside0.mk hall
  clear hr1 hc1 h hall
  by_cases hp : a0 < 1 ∨ 4096 < a0
  · have hn1 := new_bad a0 hp w
    have hn2 := fun W => rnew_bad a0 hp W
    clear hp
    go_enter Try.func7, Try.ntmps7
    go_wp2_with (first
      | (go_at_call 10; (with_reducible refine hn1.mono ?_); rintro e w1 ⟨rfl, hb⟩; have HB1 := Aside0.mk hb; clear hb hn1)
      | (go_at_call 24; (with_reducible refine (hn2 _).mono ?_); rintro e w2 ⟨rfl, hb⟩; have HB2 := Aside0.mk (below_step HB1.out hb); clear hb hn2))
    go_ret
    exact ⟨by simp, HB2.out⟩
  · obtain ⟨q, rfl⟩ : ∃ q : Nat, a0 = (q : Int) := ⟨a0.toNat, by omega⟩
    have hq0 : 1 ≤ q := by omega
    have hq1 : q ≤ 4096 := by omega
    have HQQ := Aside0.mk (And.intro hq0 hq1)
    have hn1 := ds_new (q : Int) (by omega) (by omega) w
    have hn2 := fun W => rnew_calls q hq0 hq1 W
    clear hp hq0 hq1
    go_enter Try.func7, Try.ntmps7
    go_upto_region 7 with (first
      | (go_at_call 10; (with_reducible refine hn1.mono ?_); rintro e w1 ⟨d, rfl, hd, hb⟩; have HD1 := Aside0.mk hd; have HB1 := Aside0.mk hb; clear hb hd hn1)
      | (go_at_call 24; (with_reducible refine (hn2 _).mono ?_); rintro e w2 ⟨r, rfl, hr, hb⟩; have HQ0 : Aside0 (QS w w2 d r 0 q (newS (q : Int)) (newS (q : Int))) := ⟨⟨_, _, HD1.out.step hb, hr, Nat.le_refl _, HB1.out.size⟩, below_step HB1.out hb, rfl, ⟨rfl, HQQ.out.1, HQQ.out.2, HD1.out.l512, HD1.out.c512, by simp [newS]⟩⟩; clear hb hr hn2 HD1 HB1))
    go_wp2_with fail
    go_loopw [5, 9] (fun v5 v9 wr => ∃ (k d : Nat) (s : Dk), v5 = .pointer (some ⟨d, 0, none⟩) ∧ v9 = .int .i64 (k : Int) ∧ k ≤ 100 ∧ k ≤ l1.length ∧ Aside0 (QS w wr d r k q s s)) (fun _ v9 _ => 100 - (intOf v9).toNat)
    case atStart => exact ⟨0, d, _, rfl, rfl, Nat.zero_le _, Nat.zero_le _, HQ0⟩
    case round =>
      clear HQ0
      obtain ⟨k, d, s, rfl, rfl, hk, hkl, HQ⟩ := hrel
      by_cases hlt : k < l1.length ∧ k < 100
      · obtain ⟨x, hx⟩ : ∃ x, x = l1.getD k z32 := ⟨_, rfl⟩
        have hmem : x ∈ l1 := by rw [hx, List.getD_eq_getElem?_getD, List.getElem?_eq_getElem hlt.1]; exact List.getElem_mem hlt.1
        have hxp := of_decide_eq_true (List.all_eq_true.1 HALL.out x hmem)
        obtain ⟨ad, A3, c3, A5, c5, eA, z0, z1, z2, z3, z4, z5, z6, z7, _, hC3, _, hC5⟩ := at_T32 HR1.out k hlt.1 x hx
        subst eA
        have HV : Aside0 (OV w x A3 A5) := ⟨hC3, hC5, hxp.2, hxp.1⟩
        have hlo := HQ.out.lo
        have x0 := (hlo.cell (World.block_lt_of_cell? w _ z0)).trans z0
        have x1 := (hlo.cell (World.block_lt_of_cell? w _ z1)).trans z1
        have x2 := (hlo.cell (World.block_lt_of_cell? w _ z2)).trans z2
        have x3 := (hlo.cell (World.block_lt_of_cell? w _ z3)).trans z3
        have x4 := (hlo.cell (World.block_lt_of_cell? w _ z4)).trans z4
        have x5 := (hlo.cell (World.block_lt_of_cell? w _ z5)).trans z5
        have x6 := (hlo.cell (World.block_lt_of_cell? w _ z6)).trans z6
        have x7 := (hlo.cell (World.block_lt_of_cell? w _ z7)).trans z7
        have HK := Aside0.mk hlt
        have w2_ : wrap64 ((k : Int) + 1) = (k : Int) + 1 := by unfold wrap64; omega
        have g0 : (0 : Int) ≤ (k : Int) := Int.natCast_nonneg k
        have h1 : (k : Int) < (l1.length : Int) := Int.ofNat_lt.2 hlt.1
        have h2 : (k : Int) < 100 := by omega
        have b1 : decide ((k : Int) < (l1.length : Int)) = true := decide_eq_true h1
        have b2 : ((k : Int) < (l1.length : Int)) = True := eq_true h1
        have b3 : decide ((k : Int) < 100) = true := decide_eq_true h2
        have b4 : ((k : Int) < 100) = True := eq_true h2
        have b5 : (k < l1.length) = True := eq_true hlt.1
        have b6 : decide (k < l1.length) = true := decide_eq_true hlt.1
        have b7 : (k < 100) = True := eq_true hlt.2
        have HCK : Aside0 (k < 1073741824) := ⟨Nat.lt_trans hlt.2 (by decide)⟩
        clear hx hmem hxp hlo hlt hk hkl hC3 hC5 z0 z1 z2 z3 z4 z5 z6 z7 h1 h2
        by_cases hk5 : x.f0 = 5
        · have t0 : (x.f0 == 5) = true := beq_iff_eq.mpr hk5
          have t1 : decide (x.f0 = 5) = true := decide_eq_true hk5
          clear hk5
          go_upto_region 20 with (first
            | (go_at_call 23; (with_reducible refine (cq_clone HQ.out).mono ?_); rintro e w3 ⟨d2, rfl, hq⟩; have HC3 := Aside0.mk hq; clear hq x0 x1 x2 x3 x4 x5 x6 x7)
            | ((with_reducible refine gate_dst (N := 54) rfl ?_); refine Kd.R_make (Kd.int .u8) (w0 := w3) w3.heap.size 5 rfl (N := 54) rfl 30 _ _ rfl 512 rfl rfl Try.underlying30 (.int .u8 0) 1 info5 rfl (by decide) (by decide) 0 (ok := fun _ => True) (okp := fun _ => False) rfl (fun _ h => h.elim) trivial (by decide) (by decide) (Below.refl _ _) (Nat.le_refl _) ?_; intro v9 w4 ho hb hg hn; have HO := Aside0.mk ho; have HC4 := Aside0.mk (HC3.out.step hb); clear ho hb hg hn)
            | (go_at_call 12; (with_reducible refine (cq_write 0 _ _ HC4.out HCK.out HO.out).mono ?_); rintro e w5 ⟨⟨E, rfl⟩, hq⟩; have HC5 := Aside0.mk hq; clear hq)
            | (go_at_call 13; (with_reducible refine (cq_sync HC5.out).mono ?_); rintro e w6 ⟨⟨E2, rfl⟩, hq⟩; have HC6 := Aside0.mk hq; clear hq)
            | (go_at_call 14; (with_reducible refine (cq_mend (-1) 0 HC6.out).mono ?_); rintro e w7 ⟨⟨u, rfl⟩, hq⟩; have HC7 := Aside0.mk (hq.qs.more (Nat.le_succ k)); clear hq))
          obtain ⟨s2, hs2⟩ : ∃ s2, s2 = s := ⟨_, rfl⟩
          rw [← hs2] at HC7
          clear hs2
          refine at_world (fun W => QS w W d2 r (k + 1) q s2 s2) HC7.out (fun W hq => ?_)
          clear HC7 HC6 HC5 HC4 HC3 HO
          have HQd := Aside0.mk (hq.step (below_drew1 (Below.refl _ _)))
          obtain ⟨dn, hdn⟩ : ∃ dn, dn = s2.down := ⟨_, rfl⟩
          have HDN := Aside0.mk hdn
          have HL2 : Aside0 ((s2.cache.map (·.1)).length ≤ 1000) := ⟨by obtain ⟨⟨_, _, p, _⟩, _⟩ := hq; have h1 := p.cache_le; have h2 := HK.out.2; rw [List.length_map]; omega⟩
          clear hq hdn
          refine start_ (n := 22) (S := fun w' => w'.cell? ⟨r, 3, none⟩ = some (.bool dn)) (ds := [19]) #[false, false, false, false, false, false, false, false, false, false, false, false, false, false, false, false, false, false, false, false, false, false] (by kernel_rfl) rfl rfl ((by rw [HDN.out]; exact HQd.out.rdown)) (fun hHeld => ?_)
          refine pure_ (i := 0) (N := some 69) (v := ?_) (a' := ?_) #[true, false, false, false, false, false, false, false, false, false, false, false, false, false, false, false, false, false, false, false, false, false] rfl rfl (by kernel_rfl) (fun _ _ _ h => h) (Or.inl ⟨by rfl, ?_⟩) ?_ ?_
          rotate_left
          · intro w'
            go_simp
            with_reducible rfl
          rotate_left
          · simp only [Act.put, List.setIfInBounds_toArray, List.set_cons_zero, List.set_cons_succ, i64_w, i32_w]
            rfl
          refine pure_ (i := 2) (N := some 71) (v := ?_) (a' := ?_) #[true, false, true, false, false, false, false, false, false, false, false, false, false, false, false, false, false, false, false, false, false, false] rfl rfl (by kernel_rfl) (fun _ _ _ h => h) (Or.inl ⟨by rfl, ?_⟩) ?_ ?_
          rotate_left
          · intro w'
            go_simp
            with_reducible rfl
          rotate_left
          · simp only [Act.put, List.setIfInBounds_toArray, List.set_cons_zero, List.set_cons_succ, i64_w, i32_w]
            rfl
          refine one_ (i := 1) (N := some 70) #[true, true, true, false, false, false, false, false, false, false, false, false, false, false, false, false, false, false, false, false, false, false] rfl rfl (by kernel_rfl) (by decide) (fun K hK => ?_)
          refine goes_ Try.func22 (by kernel_rfl) rfl #[.pointer (some ⟨d2, 0, none⟩)] (by rfl) rfl rfl (by simp only [List.map_toArray, List.map_cons, List.map_nil]; rfl) ?_
          with_reducible refine (qs_dpages HQd.out).mono ?_
          rintro e w3 ⟨rfl, hb⟩
          refine ⟨_, rfl, ?_⟩
          have HQ3 := Aside0.mk (HQd.out.step hb)
          clear hb
          refine hK.out _ _ ((by rw [HDN.out]; exact HQ3.out.rdown)) (fun hHeld => ?_)
          clear hK K
          refine norm_ (a' := ?_) ?_ ?_
          rotate_left
          · show Act.put _ (some 70) _ = _
            simp only [Act.put, List.setIfInBounds_toArray, List.set_cons_zero, List.set_cons_succ, i64_w, i32_w]
            rfl
          refine one_ (i := 3) (N := some 72) #[true, true, true, true, false, false, false, false, false, false, false, false, false, false, false, false, false, false, false, false, false, false] rfl rfl (by kernel_rfl) (by decide) (fun K hK => ?_)
          refine goes_ Try.func26 (by kernel_rfl) rfl #[.pointer (some ⟨r, 0, none⟩)] (by rfl) rfl rfl (by simp only [List.map_toArray, List.map_cons, List.map_nil]; rfl) ?_
          with_reducible refine (qs_rpages HQ3.out).mono ?_
          rintro e w4 ⟨rfl, hb⟩
          refine ⟨_, rfl, ?_⟩
          have HQ4 := Aside0.mk (HQ3.out.step hb)
          clear hb
          refine hK.out _ _ ((by rw [HDN.out]; exact HQ4.out.rdown)) (fun hHeld => ?_)
          clear hK K
          refine norm_ (a' := ?_) ?_ ?_
          rotate_left
          · show Act.put _ (some 72) _ = _
            simp only [Act.put, List.setIfInBounds_toArray, List.set_cons_zero, List.set_cons_succ, i64_w, i32_w]
            rfl
          refine pure_ (i := 4) (N := some 73) (v := ?_) (a' := ?_) #[true, true, true, true, true, false, false, false, false, false, false, false, false, false, false, false, false, false, false, false, false, false] rfl rfl (by kernel_rfl) (fun _ _ _ h => h) (Or.inl ⟨by rfl, ?_⟩) ?_ ?_
          rotate_left
          · intro w'
            go_simp
            with_reducible rfl
          rotate_left
          · simp only [Act.put, List.setIfInBounds_toArray, List.set_cons_zero, List.set_cons_succ, i64_w, i32_w]
            rfl
          refine pure_ (i := 5) (N := some 74) (v := ?_) (a' := ?_) #[true, true, true, true, true, true, false, false, false, false, false, false, false, false, false, false, false, false, false, false, false, false] rfl rfl (by kernel_rfl) (fun _ _ _ h => h) (Or.inl ⟨by rfl, ?_⟩) ?_ ?_
          rotate_left
          · intro w'
            go_simp
            with_reducible rfl
          rotate_left
          · simp only [Act.put, List.setIfInBounds_toArray, List.set_cons_zero, List.set_cons_succ, i64_w, i32_w]
            rfl
          refine pure_ (i := 6) (N := some 75) (v := ?_) (a' := ?_) #[true, true, true, true, true, true, true, false, false, false, false, false, false, false, false, false, false, false, false, false, false, false] rfl rfl (by kernel_rfl) (fun _ _ _ h => h) (Or.inl ⟨by rfl, ?_⟩) ?_ ?_
          rotate_left
          · intro w'
            go_simp
            with_reducible rfl
          rotate_left
          · simp only [Act.put, List.setIfInBounds_toArray, List.set_cons_zero, List.set_cons_succ, i64_w, i32_w]
            rfl
          refine pure_ (i := 8) (N := some 77) (v := ?_) (a' := ?_) #[true, true, true, true, true, true, true, false, true, false, false, false, false, false, false, false, false, false, false, false, false, false] rfl rfl (by kernel_rfl) (fun _ _ _ h => h) (Or.inl ⟨by rfl, ?_⟩) ?_ ?_
          rotate_left
          · intro w'
            go_simp
            with_reducible rfl
          rotate_left
          · simp only [Act.put, List.setIfInBounds_toArray, List.set_cons_zero, List.set_cons_succ, i64_w, i32_w]
            rfl
          refine pure_ (i := 9) (N := some 78) (v := ?_) (a' := ?_) #[true, true, true, true, true, true, true, false, true, true, false, false, false, false, false, false, false, false, false, false, false, false] rfl rfl (by kernel_rfl) (fun _ _ _ h => h) (Or.inl ⟨by rfl, ?_⟩) ?_ ?_
          rotate_left
          · intro w'
            go_simp
            with_reducible rfl
          rotate_left
          · simp only [Act.put, List.setIfInBounds_toArray, List.set_cons_zero, List.set_cons_succ, i64_w, i32_w]
            rfl
          refine pure_ (i := 10) (N := some 79) (v := ?_) (a' := ?_) #[true, true, true, true, true, true, true, false, true, true, true, false, false, false, false, false, false, false, false, false, false, false] rfl rfl (by kernel_rfl) (fun _ _ _ h => h) (Or.inl ⟨by rfl, ?_⟩) ?_ ?_
          rotate_left
          · intro w'
            go_simp
            with_reducible rfl
          rotate_left
          · simp only [Act.put, List.setIfInBounds_toArray, List.set_cons_zero, List.set_cons_succ, i64_w, i32_w]
            rfl
          refine take_ (i := 11) (N := some 80) (v := ?_) (a' := ?_) #[true, true, true, true, true, true, true, false, true, true, true, true, false, false, false, false, false, false, false, false, false, false] rfl rfl (by kernel_rfl) (fun _ _ _ h => h) (Or.inl ⟨by rfl, ?_⟩) hHeld ?_ ?_
          rotate_left
          · intro w' s0
            go_simp
            with_reducible rfl
          rotate_left
          · simp only [Act.put, List.setIfInBounds_toArray, List.set_cons_zero, List.set_cons_succ, i64_w, i32_w]
            rfl
          refine one_ (i := 7) (N := some 76) #[true, true, true, true, true, true, true, true, true, true, true, true, false, false, false, false, false, false, false, false, false, false] rfl rfl (by kernel_rfl) (by decide) (fun K hK => ?_)
          refine goes_ Try.func17 (by kernel_rfl) rfl #[.pointer (some ⟨d2, 0, none⟩)] (by rfl) rfl rfl (by simp only [List.map_toArray, List.map_cons, List.map_nil]; rfl) ?_
          with_reducible refine (qs_ddown HQ4.out).mono ?_
          rintro e w5 ⟨rfl, hb⟩
          refine ⟨_, rfl, ?_⟩
          rw [← HDN.out]
          have HQ5 := Aside0.mk (HQ4.out.step hb)
          clear hb
          refine hK.out _ _ ((by rw [HDN.out]; exact HQ5.out.rdown)) (fun hHeld => ?_)
          clear hK K
          refine norm_ (a' := ?_) ?_ ?_
          rotate_left
          · show Act.put _ (some 76) _ = _
            simp only [Act.put, List.setIfInBounds_toArray, List.set_cons_zero, List.set_cons_succ, i64_w, i32_w]
            rfl
          refine pure_ (i := 12) (N := some 81) (v := ?_) (a' := ?_) #[true, true, true, true, true, true, true, true, true, true, true, true, true, false, false, false, false, false, false, false, false, false] rfl rfl (by kernel_rfl) (fun _ _ _ h => h) (Or.inl ⟨by rfl, ?_⟩) ?_ ?_
          rotate_left
          · intro w'
            go_simp
            with_reducible rfl
          rotate_left
          · simp only [Act.put, List.setIfInBounds_toArray, List.set_cons_zero, List.set_cons_succ, i64_w, i32_w]
            rfl
          refine pure_ (i := 13) (N := some 82) (v := ?_) (a' := ?_) #[true, true, true, true, true, true, true, true, true, true, true, true, true, true, false, false, false, false, false, false, false, false] rfl rfl (by kernel_rfl) (fun _ _ _ h => h) (Or.inl ⟨by rfl, ?_⟩) ?_ ?_
          rotate_left
          · intro w'
            go_simp
            with_reducible rfl
          rotate_left
          · simp only [Act.put, List.setIfInBounds_toArray, List.set_cons_zero, List.set_cons_succ, i64_w, i32_w]
            rfl
          refine pure_ (i := 14) (N := some 83) (v := ?_) (a' := ?_) #[true, true, true, true, true, true, true, true, true, true, true, true, true, true, true, false, false, false, false, false, false, false] rfl rfl (by kernel_rfl) (fun _ _ _ h => h) (Or.inl ⟨by rfl, ?_⟩) ?_ ?_
          rotate_left
          · intro w'
            go_simp
            with_reducible rfl
          rotate_left
          · simp only [Act.put, List.setIfInBounds_toArray, List.set_cons_zero, List.set_cons_succ, i64_w, i32_w]
            rfl
          refine pure_ (i := 15) (N := some 84) (v := ?_) (a' := ?_) #[true, true, true, true, true, true, true, true, true, true, true, true, true, true, true, true, false, false, false, false, false, false] rfl rfl (by kernel_rfl) (fun _ _ _ h => h) (Or.inl ⟨by rfl, ?_⟩) ?_ ?_
          rotate_left
          · intro w'
            go_simp
            with_reducible rfl
          rotate_left
          · simp only [Act.put, List.setIfInBounds_toArray, List.set_cons_zero, List.set_cons_succ, i64_w, i32_w]
            rfl
          refine pure_ (i := 17) (N := some 86) (v := ?_) (a' := ?_) #[true, true, true, true, true, true, true, true, true, true, true, true, true, true, true, true, false, true, false, false, false, false] rfl rfl (by kernel_rfl) (fun _ _ _ h => h) (Or.inl ⟨by rfl, ?_⟩) ?_ ?_
          rotate_left
          · intro w'
            go_simp
            with_reducible rfl
          rotate_left
          · simp only [Act.put, List.setIfInBounds_toArray, List.set_cons_zero, List.set_cons_succ, i64_w, i32_w]
            rfl
          refine one_ (i := 16) (N := some 85) #[true, true, true, true, true, true, true, true, true, true, true, true, true, true, true, true, true, true, false, false, false, false] rfl rfl (by kernel_rfl) (by decide) (fun K hK => ?_)
          refine goes_ Try.func18 (by kernel_rfl) rfl #[.pointer (some ⟨d2, 0, none⟩)] (by rfl) rfl rfl (by simp only [List.map_toArray, List.map_cons, List.map_nil]; rfl) ?_
          with_reducible refine (qs_dpending HQ5.out).mono ?_
          rintro e w6 ⟨v6, rfl, ho, hb⟩
          refine ⟨_, rfl, ?_⟩
          have HP6 := Aside0.mk ho
          have HQ6 := Aside0.mk (HQ5.out.step hb)
          obtain ⟨A6, c6, rfl⟩ := Kd.R_slice ho
          clear hb ho
          refine hK.out _ _ ((by rw [HDN.out]; exact HQ6.out.rdown)) (fun hHeld => ?_)
          clear hK K
          refine norm_ (a' := ?_) ?_ ?_
          rotate_left
          · show Act.put _ (some 85) _ = _
            simp only [Act.put, List.setIfInBounds_toArray, List.set_cons_zero, List.set_cons_succ, i64_w, i32_w]
            rfl
          refine one_ (i := 18) (N := some 87) #[true, true, true, true, true, true, true, true, true, true, true, true, true, true, true, true, true, true, true, false, false, false] rfl rfl (by kernel_rfl) (by decide) (fun K hK => ?_)
          refine goes_ Try.func28 (by kernel_rfl) rfl #[.pointer (some ⟨r, 0, none⟩)] (by rfl) rfl rfl (by simp only [List.map_toArray, List.map_cons, List.map_nil]; rfl) ?_
          with_reducible refine (qs_rpending HQ6.out).mono ?_
          rintro e w7 ⟨v7, rfl, ho, hb⟩
          refine ⟨_, rfl, ?_⟩
          have HP7 := Aside0.mk ho
          have HQ7 := Aside0.mk (HQ6.out.step hb)
          have HP6' := Aside0.mk (Kd.R_below HP6.out hb)
          obtain ⟨A7, c7, rfl⟩ := Kd.R_slice ho
          clear hb ho
          refine hK.out _ _ ((by rw [HDN.out]; exact HQ7.out.rdown)) (fun hHeld => ?_)
          clear hK K
          refine norm_ (a' := ?_) ?_ ?_
          rotate_left
          · show Act.put _ (some 87) _ = _
            simp only [Act.put, List.setIfInBounds_toArray, List.set_cons_zero, List.set_cons_succ, i64_w, i32_w]
            rfl
          refine last_ (i := 19) (N := some 88) #[true, true, true, true, true, true, true, true, true, true, true, true, true, true, true, true, true, true, true, true, false, false] rfl rfl (by kernel_rfl) (by decide) (fun K hK => ?_)
          refine goes_ Try.func27 (by kernel_rfl) rfl #[.slice A6 (s2.cache.map (·.1)).length c6, .slice A7 (s2.cache.map (·.1)).length c7] (by rfl) rfl rfl (by simp only [List.map_toArray, List.map_cons, List.map_nil]; rfl) ?_
          with_reducible refine (same_calls (s2.cache.map (·.1)) HL2.out rfl HP6'.out HP7.out).mono ?_
          rintro e w8 ⟨rfl, hb⟩
          refine ⟨_, rfl, ?_⟩
          have HQ8 := Aside0.mk (HQ7.out.step hb)
          clear hb hHeld
          refine hK.out _ _ ?_
          clear hK K
          refine norm_ (a' := ?_) ?_ ?_
          rotate_left
          · show Act.put _ (some 88) _ = _
            simp only [Act.put, List.setIfInBounds_toArray, List.set_cons_zero, List.set_cons_succ, i64_w, i32_w]
            rfl
          refine pure_ (i := 20) (N := some 89) (v := ?_) (a' := ?_) #[true, true, true, true, true, true, true, true, true, true, true, true, true, true, true, true, true, true, true, true, true, false] rfl rfl (by kernel_rfl) (fun _ _ _ h => h) (Or.inl ⟨by rfl, ?_⟩) ?_ ?_
          rotate_left
          · intro w'
            go_simp
            with_reducible rfl
          rotate_left
          · simp only [Act.put, List.setIfInBounds_toArray, List.set_cons_zero, List.set_cons_succ, i64_w, i32_w]
            rfl
          refine pure_ (i := 21) (N := some 90) (v := ?_) (a' := ?_) #[true, true, true, true, true, true, true, true, true, true, true, true, true, true, true, true, true, true, true, true, true, true] rfl rfl (by kernel_rfl) (fun _ _ _ h => h) (Or.inl ⟨by rfl, ?_⟩) ?_ ?_
          rotate_left
          · intro w'
            go_simp
            with_reducible rfl
          rotate_left
          · simp only [Act.put, List.setIfInBounds_toArray, List.set_cons_zero, List.set_cons_succ, i64_w, i32_w]
            rfl
          refine done_ (by kernel_rfl) ?_
          go_wp2_with fail
          go_roundw
          case rel => exact ⟨k + 1, _, _, by first | rfl | trivial, by first | exact congrArg (Value.int .i64) w2_ | rfl, HK.out.2, HK.out.1, HQ8⟩
          case measure => exact meas_lt HK.out.2 (by first | exact congrArg (Value.int .i64) w2_ | rfl)
        · have t0 : (x.f0 == 5) = false := beq_eq_false_iff_ne.mpr hk5
          have t1 : decide (x.f0 = 5) = false := decide_eq_false hk5
          clear hk5
          have HBO : Aside0 (k ≤ 1000) := ⟨Nat.le_trans (Nat.le_of_lt HK.out.2) (by decide)⟩
          go_upto_region 20 with (go_at_call 25; (with_reducible refine (both_calls x A3 A5 c3 c5 HV.out HQ.out HBO.out).mono ?_); rintro e w3 ⟨rfl, s2, hq⟩; have HC7 := Aside0.mk hq; clear hq x0 x1 x2 x3 x4 x5 x6 x7)
          obtain ⟨d2, hd2⟩ : ∃ d2, d2 = d := ⟨_, rfl⟩
          rw [← hd2] at HC7 ⊢
          clear hd2
          refine at_world (fun W => QS w W d2 r (k + 1) q s2 s2) HC7.out (fun W hq => ?_)
          clear HC7
          have HQd := Aside0.mk (hq.step (below_drew1 (Below.refl _ _)))
          obtain ⟨dn, hdn⟩ : ∃ dn, dn = s2.down := ⟨_, rfl⟩
          have HDN := Aside0.mk hdn
          have HL2 : Aside0 ((s2.cache.map (·.1)).length ≤ 1000) := ⟨by obtain ⟨⟨_, _, p, _⟩, _⟩ := hq; have h1 := p.cache_le; have h2 := HK.out.2; rw [List.length_map]; omega⟩
          clear hq hdn
          refine start_ (n := 22) (S := fun w' => w'.cell? ⟨r, 3, none⟩ = some (.bool dn)) (ds := [19]) #[false, false, false, false, false, false, false, false, false, false, false, false, false, false, false, false, false, false, false, false, false, false] (by kernel_rfl) rfl rfl ((by rw [HDN.out]; exact HQd.out.rdown)) (fun hHeld => ?_)
          refine pure_ (i := 0) (N := some 69) (v := ?_) (a' := ?_) #[true, false, false, false, false, false, false, false, false, false, false, false, false, false, false, false, false, false, false, false, false, false] rfl rfl (by kernel_rfl) (fun _ _ _ h => h) (Or.inl ⟨by rfl, ?_⟩) ?_ ?_
          rotate_left
          · intro w'
            go_simp
            with_reducible rfl
          rotate_left
          · simp only [Act.put, List.setIfInBounds_toArray, List.set_cons_zero, List.set_cons_succ, i64_w, i32_w]
            rfl
          refine pure_ (i := 2) (N := some 71) (v := ?_) (a' := ?_) #[true, false, true, false, false, false, false, false, false, false, false, false, false, false, false, false, false, false, false, false, false, false] rfl rfl (by kernel_rfl) (fun _ _ _ h => h) (Or.inl ⟨by rfl, ?_⟩) ?_ ?_
          rotate_left
          · intro w'
            go_simp
            with_reducible rfl
          rotate_left
          · simp only [Act.put, List.setIfInBounds_toArray, List.set_cons_zero, List.set_cons_succ, i64_w, i32_w]
            rfl
          refine one_ (i := 1) (N := some 70) #[true, true, true, false, false, false, false, false, false, false, false, false, false, false, false, false, false, false, false, false, false, false] rfl rfl (by kernel_rfl) (by decide) (fun K hK => ?_)
          refine goes_ Try.func22 (by kernel_rfl) rfl #[.pointer (some ⟨d2, 0, none⟩)] (by rfl) rfl rfl (by simp only [List.map_toArray, List.map_cons, List.map_nil]; rfl) ?_
          with_reducible refine (qs_dpages HQd.out).mono ?_
          rintro e w3 ⟨rfl, hb⟩
          refine ⟨_, rfl, ?_⟩
          have HQ3 := Aside0.mk (HQd.out.step hb)
          clear hb
          refine hK.out _ _ ((by rw [HDN.out]; exact HQ3.out.rdown)) (fun hHeld => ?_)
          clear hK K
          refine norm_ (a' := ?_) ?_ ?_
          rotate_left
          · show Act.put _ (some 70) _ = _
            simp only [Act.put, List.setIfInBounds_toArray, List.set_cons_zero, List.set_cons_succ, i64_w, i32_w]
            rfl
          refine one_ (i := 3) (N := some 72) #[true, true, true, true, false, false, false, false, false, false, false, false, false, false, false, false, false, false, false, false, false, false] rfl rfl (by kernel_rfl) (by decide) (fun K hK => ?_)
          refine goes_ Try.func26 (by kernel_rfl) rfl #[.pointer (some ⟨r, 0, none⟩)] (by rfl) rfl rfl (by simp only [List.map_toArray, List.map_cons, List.map_nil]; rfl) ?_
          with_reducible refine (qs_rpages HQ3.out).mono ?_
          rintro e w4 ⟨rfl, hb⟩
          refine ⟨_, rfl, ?_⟩
          have HQ4 := Aside0.mk (HQ3.out.step hb)
          clear hb
          refine hK.out _ _ ((by rw [HDN.out]; exact HQ4.out.rdown)) (fun hHeld => ?_)
          clear hK K
          refine norm_ (a' := ?_) ?_ ?_
          rotate_left
          · show Act.put _ (some 72) _ = _
            simp only [Act.put, List.setIfInBounds_toArray, List.set_cons_zero, List.set_cons_succ, i64_w, i32_w]
            rfl
          refine pure_ (i := 4) (N := some 73) (v := ?_) (a' := ?_) #[true, true, true, true, true, false, false, false, false, false, false, false, false, false, false, false, false, false, false, false, false, false] rfl rfl (by kernel_rfl) (fun _ _ _ h => h) (Or.inl ⟨by rfl, ?_⟩) ?_ ?_
          rotate_left
          · intro w'
            go_simp
            with_reducible rfl
          rotate_left
          · simp only [Act.put, List.setIfInBounds_toArray, List.set_cons_zero, List.set_cons_succ, i64_w, i32_w]
            rfl
          refine pure_ (i := 5) (N := some 74) (v := ?_) (a' := ?_) #[true, true, true, true, true, true, false, false, false, false, false, false, false, false, false, false, false, false, false, false, false, false] rfl rfl (by kernel_rfl) (fun _ _ _ h => h) (Or.inl ⟨by rfl, ?_⟩) ?_ ?_
          rotate_left
          · intro w'
            go_simp
            with_reducible rfl
          rotate_left
          · simp only [Act.put, List.setIfInBounds_toArray, List.set_cons_zero, List.set_cons_succ, i64_w, i32_w]
            rfl
          refine pure_ (i := 6) (N := some 75) (v := ?_) (a' := ?_) #[true, true, true, true, true, true, true, false, false, false, false, false, false, false, false, false, false, false, false, false, false, false] rfl rfl (by kernel_rfl) (fun _ _ _ h => h) (Or.inl ⟨by rfl, ?_⟩) ?_ ?_
          rotate_left
          · intro w'
            go_simp
            with_reducible rfl
          rotate_left
          · simp only [Act.put, List.setIfInBounds_toArray, List.set_cons_zero, List.set_cons_succ, i64_w, i32_w]
            rfl
          refine pure_ (i := 8) (N := some 77) (v := ?_) (a' := ?_) #[true, true, true, true, true, true, true, false, true, false, false, false, false, false, false, false, false, false, false, false, false, false] rfl rfl (by kernel_rfl) (fun _ _ _ h => h) (Or.inl ⟨by rfl, ?_⟩) ?_ ?_
          rotate_left
          · intro w'
            go_simp
            with_reducible rfl
          rotate_left
          · simp only [Act.put, List.setIfInBounds_toArray, List.set_cons_zero, List.set_cons_succ, i64_w, i32_w]
            rfl
          refine pure_ (i := 9) (N := some 78) (v := ?_) (a' := ?_) #[true, true, true, true, true, true, true, false, true, true, false, false, false, false, false, false, false, false, false, false, false, false] rfl rfl (by kernel_rfl) (fun _ _ _ h => h) (Or.inl ⟨by rfl, ?_⟩) ?_ ?_
          rotate_left
          · intro w'
            go_simp
            with_reducible rfl
          rotate_left
          · simp only [Act.put, List.setIfInBounds_toArray, List.set_cons_zero, List.set_cons_succ, i64_w, i32_w]
            rfl
          refine pure_ (i := 10) (N := some 79) (v := ?_) (a' := ?_) #[true, true, true, true, true, true, true, false, true, true, true, false, false, false, false, false, false, false, false, false, false, false] rfl rfl (by kernel_rfl) (fun _ _ _ h => h) (Or.inl ⟨by rfl, ?_⟩) ?_ ?_
          rotate_left
          · intro w'
            go_simp
            with_reducible rfl
          rotate_left
          · simp only [Act.put, List.setIfInBounds_toArray, List.set_cons_zero, List.set_cons_succ, i64_w, i32_w]
            rfl
          refine take_ (i := 11) (N := some 80) (v := ?_) (a' := ?_) #[true, true, true, true, true, true, true, false, true, true, true, true, false, false, false, false, false, false, false, false, false, false] rfl rfl (by kernel_rfl) (fun _ _ _ h => h) (Or.inl ⟨by rfl, ?_⟩) hHeld ?_ ?_
          rotate_left
          · intro w' s0
            go_simp
            with_reducible rfl
          rotate_left
          · simp only [Act.put, List.setIfInBounds_toArray, List.set_cons_zero, List.set_cons_succ, i64_w, i32_w]
            rfl
          refine one_ (i := 7) (N := some 76) #[true, true, true, true, true, true, true, true, true, true, true, true, false, false, false, false, false, false, false, false, false, false] rfl rfl (by kernel_rfl) (by decide) (fun K hK => ?_)
          refine goes_ Try.func17 (by kernel_rfl) rfl #[.pointer (some ⟨d2, 0, none⟩)] (by rfl) rfl rfl (by simp only [List.map_toArray, List.map_cons, List.map_nil]; rfl) ?_
          with_reducible refine (qs_ddown HQ4.out).mono ?_
          rintro e w5 ⟨rfl, hb⟩
          refine ⟨_, rfl, ?_⟩
          rw [← HDN.out]
          have HQ5 := Aside0.mk (HQ4.out.step hb)
          clear hb
          refine hK.out _ _ ((by rw [HDN.out]; exact HQ5.out.rdown)) (fun hHeld => ?_)
          clear hK K
          refine norm_ (a' := ?_) ?_ ?_
          rotate_left
          · show Act.put _ (some 76) _ = _
            simp only [Act.put, List.setIfInBounds_toArray, List.set_cons_zero, List.set_cons_succ, i64_w, i32_w]
            rfl
          refine pure_ (i := 12) (N := some 81) (v := ?_) (a' := ?_) #[true, true, true, true, true, true, true, true, true, true, true, true, true, false, false, false, false, false, false, false, false, false] rfl rfl (by kernel_rfl) (fun _ _ _ h => h) (Or.inl ⟨by rfl, ?_⟩) ?_ ?_
          rotate_left
          · intro w'
            go_simp
            with_reducible rfl
          rotate_left
          · simp only [Act.put, List.setIfInBounds_toArray, List.set_cons_zero, List.set_cons_succ, i64_w, i32_w]
            rfl
          refine pure_ (i := 13) (N := some 82) (v := ?_) (a' := ?_) #[true, true, true, true, true, true, true, true, true, true, true, true, true, true, false, false, false, false, false, false, false, false] rfl rfl (by kernel_rfl) (fun _ _ _ h => h) (Or.inl ⟨by rfl, ?_⟩) ?_ ?_
          rotate_left
          · intro w'
            go_simp
            with_reducible rfl
          rotate_left
          · simp only [Act.put, List.setIfInBounds_toArray, List.set_cons_zero, List.set_cons_succ, i64_w, i32_w]
            rfl
          refine pure_ (i := 14) (N := some 83) (v := ?_) (a' := ?_) #[true, true, true, true, true, true, true, true, true, true, true, true, true, true, true, false, false, false, false, false, false, false] rfl rfl (by kernel_rfl) (fun _ _ _ h => h) (Or.inl ⟨by rfl, ?_⟩) ?_ ?_
          rotate_left
          · intro w'
            go_simp
            with_reducible rfl
          rotate_left
          · simp only [Act.put, List.setIfInBounds_toArray, List.set_cons_zero, List.set_cons_succ, i64_w, i32_w]
            rfl
          refine pure_ (i := 15) (N := some 84) (v := ?_) (a' := ?_) #[true, true, true, true, true, true, true, true, true, true, true, true, true, true, true, true, false, false, false, false, false, false] rfl rfl (by kernel_rfl) (fun _ _ _ h => h) (Or.inl ⟨by rfl, ?_⟩) ?_ ?_
          rotate_left
          · intro w'
            go_simp
            with_reducible rfl
          rotate_left
          · simp only [Act.put, List.setIfInBounds_toArray, List.set_cons_zero, List.set_cons_succ, i64_w, i32_w]
            rfl
          refine pure_ (i := 17) (N := some 86) (v := ?_) (a' := ?_) #[true, true, true, true, true, true, true, true, true, true, true, true, true, true, true, true, false, true, false, false, false, false] rfl rfl (by kernel_rfl) (fun _ _ _ h => h) (Or.inl ⟨by rfl, ?_⟩) ?_ ?_
          rotate_left
          · intro w'
            go_simp
            with_reducible rfl
          rotate_left
          · simp only [Act.put, List.setIfInBounds_toArray, List.set_cons_zero, List.set_cons_succ, i64_w, i32_w]
            rfl
          refine one_ (i := 16) (N := some 85) #[true, true, true, true, true, true, true, true, true, true, true, true, true, true, true, true, true, true, false, false, false, false] rfl rfl (by kernel_rfl) (by decide) (fun K hK => ?_)
          refine goes_ Try.func18 (by kernel_rfl) rfl #[.pointer (some ⟨d2, 0, none⟩)] (by rfl) rfl rfl (by simp only [List.map_toArray, List.map_cons, List.map_nil]; rfl) ?_
          with_reducible refine (qs_dpending HQ5.out).mono ?_
          rintro e w6 ⟨v6, rfl, ho, hb⟩
          refine ⟨_, rfl, ?_⟩
          have HP6 := Aside0.mk ho
          have HQ6 := Aside0.mk (HQ5.out.step hb)
          obtain ⟨A6, c6, rfl⟩ := Kd.R_slice ho
          clear hb ho
          refine hK.out _ _ ((by rw [HDN.out]; exact HQ6.out.rdown)) (fun hHeld => ?_)
          clear hK K
          refine norm_ (a' := ?_) ?_ ?_
          rotate_left
          · show Act.put _ (some 85) _ = _
            simp only [Act.put, List.setIfInBounds_toArray, List.set_cons_zero, List.set_cons_succ, i64_w, i32_w]
            rfl
          refine one_ (i := 18) (N := some 87) #[true, true, true, true, true, true, true, true, true, true, true, true, true, true, true, true, true, true, true, false, false, false] rfl rfl (by kernel_rfl) (by decide) (fun K hK => ?_)
          refine goes_ Try.func28 (by kernel_rfl) rfl #[.pointer (some ⟨r, 0, none⟩)] (by rfl) rfl rfl (by simp only [List.map_toArray, List.map_cons, List.map_nil]; rfl) ?_
          with_reducible refine (qs_rpending HQ6.out).mono ?_
          rintro e w7 ⟨v7, rfl, ho, hb⟩
          refine ⟨_, rfl, ?_⟩
          have HP7 := Aside0.mk ho
          have HQ7 := Aside0.mk (HQ6.out.step hb)
          have HP6' := Aside0.mk (Kd.R_below HP6.out hb)
          obtain ⟨A7, c7, rfl⟩ := Kd.R_slice ho
          clear hb ho
          refine hK.out _ _ ((by rw [HDN.out]; exact HQ7.out.rdown)) (fun hHeld => ?_)
          clear hK K
          refine norm_ (a' := ?_) ?_ ?_
          rotate_left
          · show Act.put _ (some 87) _ = _
            simp only [Act.put, List.setIfInBounds_toArray, List.set_cons_zero, List.set_cons_succ, i64_w, i32_w]
            rfl
          refine last_ (i := 19) (N := some 88) #[true, true, true, true, true, true, true, true, true, true, true, true, true, true, true, true, true, true, true, true, false, false] rfl rfl (by kernel_rfl) (by decide) (fun K hK => ?_)
          refine goes_ Try.func27 (by kernel_rfl) rfl #[.slice A6 (s2.cache.map (·.1)).length c6, .slice A7 (s2.cache.map (·.1)).length c7] (by rfl) rfl rfl (by simp only [List.map_toArray, List.map_cons, List.map_nil]; rfl) ?_
          with_reducible refine (same_calls (s2.cache.map (·.1)) HL2.out rfl HP6'.out HP7.out).mono ?_
          rintro e w8 ⟨rfl, hb⟩
          refine ⟨_, rfl, ?_⟩
          have HQ8 := Aside0.mk (HQ7.out.step hb)
          clear hb hHeld
          refine hK.out _ _ ?_
          clear hK K
          refine norm_ (a' := ?_) ?_ ?_
          rotate_left
          · show Act.put _ (some 88) _ = _
            simp only [Act.put, List.setIfInBounds_toArray, List.set_cons_zero, List.set_cons_succ, i64_w, i32_w]
            rfl
          refine pure_ (i := 20) (N := some 89) (v := ?_) (a' := ?_) #[true, true, true, true, true, true, true, true, true, true, true, true, true, true, true, true, true, true, true, true, true, false] rfl rfl (by kernel_rfl) (fun _ _ _ h => h) (Or.inl ⟨by rfl, ?_⟩) ?_ ?_
          rotate_left
          · intro w'
            go_simp
            with_reducible rfl
          rotate_left
          · simp only [Act.put, List.setIfInBounds_toArray, List.set_cons_zero, List.set_cons_succ, i64_w, i32_w]
            rfl
          refine pure_ (i := 21) (N := some 90) (v := ?_) (a' := ?_) #[true, true, true, true, true, true, true, true, true, true, true, true, true, true, true, true, true, true, true, true, true, true] rfl rfl (by kernel_rfl) (fun _ _ _ h => h) (Or.inl ⟨by rfl, ?_⟩) ?_ ?_
          rotate_left
          · intro w'
            go_simp
            with_reducible rfl
          rotate_left
          · simp only [Act.put, List.setIfInBounds_toArray, List.set_cons_zero, List.set_cons_succ, i64_w, i32_w]
            rfl
          refine done_ (by kernel_rfl) ?_
          go_wp2_with fail
          go_roundw
          case rel => exact ⟨k + 1, _, _, by first | rfl | trivial, by first | exact congrArg (Value.int .i64) w2_ | rfl, HK.out.2, HK.out.1, HQ8⟩
          case measure => exact meas_lt HK.out.2 (by first | exact congrArg (Value.int .i64) w2_ | rfl)
      · have g0 : (0 : Int) ≤ (k : Int) := Int.natCast_nonneg k
        by_cases h2 : k < l1.length
        · have h3 : (k : Int) < (l1.length : Int) := Int.ofNat_lt.2 h2
          have h4 : ¬ (k : Int) < 100 := by omega
          have b1 : decide ((k : Int) < (l1.length : Int)) = true := decide_eq_true h3
          have b2 : ((k : Int) < (l1.length : Int)) = True := eq_true h3
          have b3 : decide ((k : Int) < 100) = false := decide_eq_false h4
          have b4 : ((k : Int) < 100) = False := eq_false h4
          have b5 : (k < l1.length) = True := eq_true h2
          have b7 : (k < 100) = False := eq_false (fun h => hlt ⟨h2, h⟩)
          clear hlt hk hkl h2 h3 h4
          go_upto_region 22 with fail
          by_cases h64 : (64 : Int) < (q : Int)
          · have t0 : decide ((64 : Int) < (q : Int)) = true := decide_eq_true h64
            have t1 : ((64 : Int) < (q : Int)) = True := eq_true h64
            have t2 : (64 < q) = True := eq_true (Int.ofNat_lt.1 h64)
            clear h64
            have HQd := Aside0.mk (HQ.out.step (below_drew1 (Below.refl _ _)))
            refine start_ (n := 12) (S := fun w' => True) (ds := []) #[false, false, false, false, false, false, false, false, false, false, false, false] (by kernel_rfl) rfl rfl trivial (fun hHeld => ?_)
            refine pure_ (i := 0) (N := some 91) (v := ?_) (a' := ?_) #[true, false, false, false, false, false, false, false, false, false, false, false] rfl rfl (by kernel_rfl) (fun _ _ _ h => h) (Or.inl ⟨by rfl, ?_⟩) ?_ ?_
            rotate_left
            · intro w'
              go_simp
              with_reducible rfl
            rotate_left
            · simp only [Act.put, List.setIfInBounds_toArray, List.set_cons_zero, List.set_cons_succ, i64_w, i32_w]
              rfl
            refine pure_ (i := 1) (N := some 92) (v := ?_) (a' := ?_) #[true, true, false, false, false, false, false, false, false, false, false, false] rfl rfl (by kernel_rfl) (fun _ _ _ h => h) (Or.inl ⟨by rfl, ?_⟩) ?_ ?_
            rotate_left
            · intro w'
              go_simp
              with_reducible rfl
            rotate_left
            · simp only [Act.put, List.setIfInBounds_toArray, List.set_cons_zero, List.set_cons_succ, i64_w, i32_w]
              rfl
            refine pure_ (i := 2) (N := some 93) (v := ?_) (a' := ?_) #[true, true, true, false, false, false, false, false, false, false, false, false] rfl rfl (by kernel_rfl) (fun _ _ _ h => h) (Or.inl ⟨by rfl, ?_⟩) ?_ ?_
            rotate_left
            · intro w'
              go_simp
              with_reducible rfl
            rotate_left
            · simp only [Act.put, List.setIfInBounds_toArray, List.set_cons_zero, List.set_cons_succ, i64_w, i32_w]
              rfl
            refine pure_ (i := 3) (N := some 94) (v := undef) (a' := ?_) #[true, true, true, true, false, false, false, false, false, false, false, false] rfl rfl (by kernel_rfl) (fun _ _ _ h => h) (Or.inr ⟨by rfl, rfl⟩) ?_ ?_
            rotate_left
            · simp only [Act.put, List.setIfInBounds_toArray, List.set_cons_zero, List.set_cons_succ, i64_w, i32_w]
              rfl
            refine pure_ (i := 4) (N := some 95) (v := undef) (a' := ?_) #[true, true, true, true, true, false, false, false, false, false, false, false] rfl rfl (by kernel_rfl) (fun _ _ _ h => h) (Or.inr ⟨by rfl, rfl⟩) ?_ ?_
            rotate_left
            · simp only [Act.put, List.setIfInBounds_toArray, List.set_cons_zero, List.set_cons_succ, i64_w, i32_w]
              rfl
            refine pure_ (i := 5) (N := some 96) (v := undef) (a' := ?_) #[true, true, true, true, true, true, false, false, false, false, false, false] rfl rfl (by kernel_rfl) (fun _ _ _ h => h) (Or.inr ⟨by rfl, rfl⟩) ?_ ?_
            rotate_left
            · simp only [Act.put, List.setIfInBounds_toArray, List.set_cons_zero, List.set_cons_succ, i64_w, i32_w]
              rfl
            refine pure_ (i := 6) (N := some 97) (v := undef) (a' := ?_) #[true, true, true, true, true, true, true, false, false, false, false, false] rfl rfl (by kernel_rfl) (fun _ _ _ h => h) (Or.inr ⟨by rfl, rfl⟩) ?_ ?_
            rotate_left
            · simp only [Act.put, List.setIfInBounds_toArray, List.set_cons_zero, List.set_cons_succ, i64_w, i32_w]
              rfl
            refine pure_ (i := 7) (N := some 98) (v := undef) (a' := ?_) #[true, true, true, true, true, true, true, true, false, false, false, false] rfl rfl (by kernel_rfl) (fun _ _ _ h => h) (Or.inr ⟨by rfl, rfl⟩) ?_ ?_
            rotate_left
            · simp only [Act.put, List.setIfInBounds_toArray, List.set_cons_zero, List.set_cons_succ, i64_w, i32_w]
              rfl
            refine pure_ (i := 8) (N := some 99) (v := undef) (a' := ?_) #[true, true, true, true, true, true, true, true, true, false, false, false] rfl rfl (by kernel_rfl) (fun _ _ _ h => h) (Or.inr ⟨by rfl, rfl⟩) ?_ ?_
            rotate_left
            · simp only [Act.put, List.setIfInBounds_toArray, List.set_cons_zero, List.set_cons_succ, i64_w, i32_w]
              rfl
            refine pure_ (i := 9) (N := some 100) (v := undef) (a' := ?_) #[true, true, true, true, true, true, true, true, true, true, false, false] rfl rfl (by kernel_rfl) (fun _ _ _ h => h) (Or.inr ⟨by rfl, rfl⟩) ?_ ?_
            rotate_left
            · simp only [Act.put, List.setIfInBounds_toArray, List.set_cons_zero, List.set_cons_succ, i64_w, i32_w]
              rfl
            refine pure_ (i := 10) (N := some 101) (v := ?_) (a' := ?_) #[true, true, true, true, true, true, true, true, true, true, true, false] rfl rfl (by kernel_rfl) (fun _ _ _ h => h) (Or.inl ⟨by rfl, ?_⟩) ?_ ?_
            rotate_left
            · intro w'
              go_simp
              with_reducible rfl
            rotate_left
            · simp only [Act.put, List.setIfInBounds_toArray, List.set_cons_zero, List.set_cons_succ, i64_w, i32_w]
              rfl
            refine pure_ (i := 11) (N := some 4) (v := ?_) (a' := ?_) #[true, true, true, true, true, true, true, true, true, true, true, true] rfl rfl (by kernel_rfl) (fun _ _ _ h => h) (Or.inl ⟨by rfl, ?_⟩) ?_ ?_
            rotate_left
            · intro w'
              go_simp
              with_reducible rfl
            rotate_left
            · simp only [Act.put, List.setIfInBounds_toArray, List.set_cons_zero, List.set_cons_succ, i64_w, i32_w]
              rfl
            refine done_ (by kernel_rfl) ?_
            go_wp2
            go_ret
            exact ⟨by simp, HQd.out.lo⟩
          · have t0 : decide ((64 : Int) < (q : Int)) = false := decide_eq_false h64
            have t1 : ((64 : Int) < (q : Int)) = False := eq_false h64
            have t2 : (64 < q) = False := eq_false (fun h => h64 (Int.ofNat_lt.2 h))
            clear h64
            have HQd := Aside0.mk (HQ.out.step (below_drew1 (Below.refl _ _)))
            obtain ⟨st, hst⟩ : ∃ st, st = strOfNums (imageP s q) := ⟨_, rfl⟩
            have HST := Aside0.mk hst
            clear hst
            refine start_ (n := 12) (S := fun w' => True) (ds := []) #[false, false, false, false, false, false, false, false, false, false, false, false] (by kernel_rfl) rfl rfl trivial (fun hHeld => ?_)
            refine pure_ (i := 0) (N := some 91) (v := ?_) (a' := ?_) #[true, false, false, false, false, false, false, false, false, false, false, false] rfl rfl (by kernel_rfl) (fun _ _ _ h => h) (Or.inl ⟨by rfl, ?_⟩) ?_ ?_
            rotate_left
            · intro w'
              go_simp
              with_reducible rfl
            rotate_left
            · simp only [Act.put, List.setIfInBounds_toArray, List.set_cons_zero, List.set_cons_succ, i64_w, i32_w]
              rfl
            refine pure_ (i := 1) (N := some 92) (v := ?_) (a' := ?_) #[true, true, false, false, false, false, false, false, false, false, false, false] rfl rfl (by kernel_rfl) (fun _ _ _ h => h) (Or.inl ⟨by rfl, ?_⟩) ?_ ?_
            rotate_left
            · intro w'
              go_simp
              with_reducible rfl
            rotate_left
            · simp only [Act.put, List.setIfInBounds_toArray, List.set_cons_zero, List.set_cons_succ, i64_w, i32_w]
              rfl
            refine pure_ (i := 2) (N := some 93) (v := ?_) (a' := ?_) #[true, true, true, false, false, false, false, false, false, false, false, false] rfl rfl (by kernel_rfl) (fun _ _ _ h => h) (Or.inl ⟨by rfl, ?_⟩) ?_ ?_
            rotate_left
            · intro w'
              go_simp
              with_reducible rfl
            rotate_left
            · simp only [Act.put, List.setIfInBounds_toArray, List.set_cons_zero, List.set_cons_succ, i64_w, i32_w]
              rfl
            refine pure_ (i := 3) (N := some 94) (v := ?_) (a' := ?_) #[true, true, true, true, false, false, false, false, false, false, false, false] rfl rfl (by kernel_rfl) (fun _ _ _ h => h) (Or.inl ⟨by rfl, ?_⟩) ?_ ?_
            rotate_left
            · intro w'
              go_simp
              with_reducible rfl
            rotate_left
            · simp only [Act.put, List.setIfInBounds_toArray, List.set_cons_zero, List.set_cons_succ, i64_w, i32_w]
              rfl
            refine pure_ (i := 6) (N := some 97) (v := ?_) (a' := ?_) #[true, true, true, true, false, false, true, false, false, false, false, false] rfl rfl (by kernel_rfl) (fun _ _ _ h => h) (Or.inl ⟨by rfl, ?_⟩) ?_ ?_
            rotate_left
            · intro w'
              go_simp
              with_reducible rfl
            rotate_left
            · simp only [Act.put, List.setIfInBounds_toArray, List.set_cons_zero, List.set_cons_succ, i64_w, i32_w]
              rfl
            refine one_ (i := 4) (N := some 95) #[true, true, true, true, true, false, true, false, false, false, false, false] rfl rfl (by kernel_rfl) (by decide) (fun K hK => ?_)
            refine goes_ Try.func21 (by kernel_rfl) rfl #[.pointer (some ⟨d, 0, none⟩)] (by rfl) rfl rfl (by simp only [List.map_toArray, List.map_cons, List.map_nil]; rfl) ?_
            with_reducible refine (qs_dimage HQd.out).mono ?_
            rintro e w4 ⟨v4, rfl, ho, hb⟩
            refine ⟨_, rfl, ?_⟩
            have HQ4 := Aside0.mk (HQd.out.step hb)
            have HA4 := Aside0.mk ho
            obtain ⟨A4, c4, rfl⟩ := Kd.R_slice ho
            clear hb ho
            refine hK.out _ _ trivial (fun hHeld => ?_)
            clear hK K
            refine norm_ (a' := ?_) ?_ ?_
            rotate_left
            · show Act.put _ (some 95) _ = _
              simp only [Act.put, List.setIfInBounds_toArray, List.set_cons_zero, List.set_cons_succ, i64_w, i32_w]
              rfl
            refine join_ (σ := Option Addr × Nat) 3 #[true, true, true, true, true, true, true, true, true, false, false, false] (fun x => [(96, .string st), (98, .slice x.1 (imageP s q).length x.2), (99, .string st)]) (fun _ w' => Below w.heap.size w w') ?_ ?_
            rotate_left
            · intro hCont
              refine two_ (i := 5) (j := 7) (Ni := some 96) (Nj := some 98) #[true, true, true, true, true, true, true, false, false, false, false, false] #[true, true, true, true, true, false, true, true, false, false, false, false] rfl rfl rfl rfl (by kernel_rfl) (by decide) (by decide) (fun K hK => ?_) (fun K hK => ?_)
              · skip
                refine value_ (w1 := w4) (v := .string st) (by rfl) rfl (exec_convert 30 9 (.tmp 95) rfl (by rfl) (by rw [HST.out]; exact row_string HA4.out)) ?_
                refine hK.out _ _ trivial (fun hHeld => ?_)
                clear hK K
                refine norm_ (a' := ?_) ?_ ?_
                rotate_left
                · show Act.put _ (some 96) _ = _
                  simp only [Act.put, List.setIfInBounds_toArray, List.set_cons_zero, List.set_cons_succ, i64_w, i32_w]
                  rfl
                refine one_ (i := 7) (N := some 98) #[true, true, true, true, true, true, true, true, false, false, false, false] rfl rfl (by kernel_rfl) (by decide) (fun K hK => ?_)
                refine goes_ Try.func29 (by kernel_rfl) rfl #[.pointer (some ⟨r, 0, none⟩)] (by rfl) rfl rfl (by simp only [List.map_toArray, List.map_cons, List.map_nil]; rfl) ?_
                with_reducible refine (qs_rimage HQ4.out).mono ?_
                rintro e w5 ⟨v5, rfl, ho, hb⟩
                refine ⟨_, rfl, ?_⟩
                have HQ5 := Aside0.mk (HQ4.out.step hb)
                have HA5 := Aside0.mk (Kd.R_below HA4.out hb)
                have HB5 := Aside0.mk ho
                obtain ⟨A5, c5, rfl⟩ := Kd.R_slice ho
                clear hb ho
                refine hK.out _ _ trivial (fun hHeld => ?_)
                clear hK K
                refine norm_ (a' := ?_) ?_ ?_
                rotate_left
                · show Act.put _ (some 98) _ = _
                  simp only [Act.put, List.setIfInBounds_toArray, List.set_cons_zero, List.set_cons_succ, i64_w, i32_w]
                  rfl
                refine one_ (i := 8) (N := some 99) #[true, true, true, true, true, true, true, true, true, false, false, false] rfl rfl (by kernel_rfl) (by decide) (fun K hK => ?_)
                refine value_ (w1 := w5) (v := .string st) (by rfl) rfl (exec_convert 30 9 (.tmp 98) rfl (by rfl) (by rw [HST.out]; exact row_string HB5.out)) ?_
                refine hK.out _ _ trivial (fun hHeld => ?_)
                clear hK K
                refine norm_ (a' := ?_) ?_ ?_
                rotate_left
                · show Act.put _ (some 99) _ = _
                  simp only [Act.put, List.setIfInBounds_toArray, List.set_cons_zero, List.set_cons_succ, i64_w, i32_w]
                  rfl
                exact norm_ (by first | (simp only [putAll, Act.put, List.setIfInBounds_toArray, List.set_cons_zero, List.set_cons_succ]; done) | (simp only [putAll, Act.put, List.setIfInBounds_toArray, List.set_cons_zero, List.set_cons_succ]; rfl)) (hCont (A5, c5) _ HQ5.out.lo)
              · skip
                refine goes_ Try.func29 (by kernel_rfl) rfl #[.pointer (some ⟨r, 0, none⟩)] (by rfl) rfl rfl (by simp only [List.map_toArray, List.map_cons, List.map_nil]; rfl) ?_
                with_reducible refine (qs_rimage HQ4.out).mono ?_
                rintro e w5 ⟨v5, rfl, ho, hb⟩
                refine ⟨_, rfl, ?_⟩
                have HQ5 := Aside0.mk (HQ4.out.step hb)
                have HA5 := Aside0.mk (Kd.R_below HA4.out hb)
                have HB5 := Aside0.mk ho
                obtain ⟨A5, c5, rfl⟩ := Kd.R_slice ho
                clear hb ho
                refine hK.out _ _ trivial (fun hHeld => ?_)
                clear hK K
                refine norm_ (a' := ?_) ?_ ?_
                rotate_left
                · show Act.put _ (some 98) _ = _
                  simp only [Act.put, List.setIfInBounds_toArray, List.set_cons_zero, List.set_cons_succ, i64_w, i32_w]
                  rfl
                refine two_ (i := 5) (j := 8) (Ni := some 96) (Nj := some 99) #[true, true, true, true, true, true, true, true, false, false, false, false] #[true, true, true, true, true, false, true, true, true, false, false, false] rfl rfl rfl rfl (by kernel_rfl) (by decide) (by decide) (fun K hK => ?_) (fun K hK => ?_)
                · skip
                  refine value_ (w1 := w5) (v := .string st) (by rfl) rfl (exec_convert 30 9 (.tmp 95) rfl (by rfl) (by rw [HST.out]; exact row_string HA5.out)) ?_
                  refine hK.out _ _ trivial (fun hHeld => ?_)
                  clear hK K
                  refine norm_ (a' := ?_) ?_ ?_
                  rotate_left
                  · show Act.put _ (some 96) _ = _
                    simp only [Act.put, List.setIfInBounds_toArray, List.set_cons_zero, List.set_cons_succ, i64_w, i32_w]
                    rfl
                  refine one_ (i := 8) (N := some 99) #[true, true, true, true, true, true, true, true, true, false, false, false] rfl rfl (by kernel_rfl) (by decide) (fun K hK => ?_)
                  refine value_ (w1 := w5) (v := .string st) (by rfl) rfl (exec_convert 30 9 (.tmp 98) rfl (by rfl) (by rw [HST.out]; exact row_string HB5.out)) ?_
                  refine hK.out _ _ trivial (fun hHeld => ?_)
                  clear hK K
                  refine norm_ (a' := ?_) ?_ ?_
                  rotate_left
                  · show Act.put _ (some 99) _ = _
                    simp only [Act.put, List.setIfInBounds_toArray, List.set_cons_zero, List.set_cons_succ, i64_w, i32_w]
                    rfl
                  exact norm_ (by first | (simp only [putAll, Act.put, List.setIfInBounds_toArray, List.set_cons_zero, List.set_cons_succ]; done) | (simp only [putAll, Act.put, List.setIfInBounds_toArray, List.set_cons_zero, List.set_cons_succ]; rfl)) (hCont (A5, c5) _ HQ5.out.lo)
                · skip
                  refine value_ (w1 := w5) (v := .string st) (by rfl) rfl (exec_convert 30 9 (.tmp 98) rfl (by rfl) (by rw [HST.out]; exact row_string HB5.out)) ?_
                  refine hK.out _ _ trivial (fun hHeld => ?_)
                  clear hK K
                  refine norm_ (a' := ?_) ?_ ?_
                  rotate_left
                  · show Act.put _ (some 99) _ = _
                    simp only [Act.put, List.setIfInBounds_toArray, List.set_cons_zero, List.set_cons_succ, i64_w, i32_w]
                    rfl
                  refine one_ (i := 5) (N := some 96) #[true, true, true, true, true, true, true, true, true, false, false, false] rfl rfl (by kernel_rfl) (by decide) (fun K hK => ?_)
                  refine value_ (w1 := w5) (v := .string st) (by rfl) rfl (exec_convert 30 9 (.tmp 95) rfl (by rfl) (by rw [HST.out]; exact row_string HA5.out)) ?_
                  refine hK.out _ _ trivial (fun hHeld => ?_)
                  clear hK K
                  refine norm_ (a' := ?_) ?_ ?_
                  rotate_left
                  · show Act.put _ (some 96) _ = _
                    simp only [Act.put, List.setIfInBounds_toArray, List.set_cons_zero, List.set_cons_succ, i64_w, i32_w]
                    rfl
                  exact norm_ (by first | (simp only [putAll, Act.put, List.setIfInBounds_toArray, List.set_cons_zero, List.set_cons_succ]; done) | (simp only [putAll, Act.put, List.setIfInBounds_toArray, List.set_cons_zero, List.set_cons_succ]; rfl)) (hCont (A5, c5) _ HQ5.out.lo)
            rintro ⟨A5, c5⟩ w6 hF
            have HFN := Aside0.mk hF
            clear hF
            have hHeld : True := trivial
            refine norm_ (a' := ?_) ?_ ?_
            rotate_left
            · simp only [putAll, Act.put, List.setIfInBounds_toArray, List.set_cons_zero, List.set_cons_succ]
              rfl
            refine pure_ (i := 9) (N := some 100) (v := ?_) (a' := ?_) #[true, true, true, true, true, true, true, true, true, true, false, false] rfl rfl (by kernel_rfl) (fun _ _ _ h => h) (Or.inl ⟨by rfl, ?_⟩) ?_ ?_
            rotate_left
            · intro w'
              go_simp
              with_reducible rfl
            rotate_left
            · simp only [Act.put, List.setIfInBounds_toArray, List.set_cons_zero, List.set_cons_succ, i64_w, i32_w]
              rfl
            refine pure_ (i := 10) (N := some 101) (v := ?_) (a' := ?_) #[true, true, true, true, true, true, true, true, true, true, true, false] rfl rfl (by kernel_rfl) (fun _ _ _ h => h) (Or.inl ⟨by rfl, ?_⟩) ?_ ?_
            rotate_left
            · intro w'
              go_simp
              with_reducible rfl
            rotate_left
            · simp only [Act.put, List.setIfInBounds_toArray, List.set_cons_zero, List.set_cons_succ, i64_w, i32_w]
              rfl
            refine pure_ (i := 11) (N := some 4) (v := ?_) (a' := ?_) #[true, true, true, true, true, true, true, true, true, true, true, true] rfl rfl (by kernel_rfl) (fun _ _ _ h => h) (Or.inl ⟨by rfl, ?_⟩) ?_ ?_
            rotate_left
            · intro w'
              go_simp
              with_reducible rfl
            rotate_left
            · simp only [Act.put, List.setIfInBounds_toArray, List.set_cons_zero, List.set_cons_succ, i64_w, i32_w]
              rfl
            refine done_ (by kernel_rfl) ?_
            go_wp2
            go_ret
            exact ⟨by simp, HFN.out⟩
        · have h3 : ¬ (k : Int) < (l1.length : Int) := fun h => h2 (Int.ofNat_lt.1 h)
          have b1 : decide ((k : Int) < (l1.length : Int)) = false := decide_eq_false h3
          have b2 : ((k : Int) < (l1.length : Int)) = False := eq_false h3
          have b5 : (k < l1.length) = False := eq_false h2
          clear hlt hk hkl h2 h3
          go_upto_region 22 with fail
          by_cases h64 : (64 : Int) < (q : Int)
          · have t0 : decide ((64 : Int) < (q : Int)) = true := decide_eq_true h64
            have t1 : ((64 : Int) < (q : Int)) = True := eq_true h64
            have t2 : (64 < q) = True := eq_true (Int.ofNat_lt.1 h64)
            clear h64
            have HQd := Aside0.mk (HQ.out.step (below_drew1 (Below.refl _ _)))
            refine start_ (n := 12) (S := fun w' => True) (ds := []) #[false, false, false, false, false, false, false, false, false, false, false, false] (by kernel_rfl) rfl rfl trivial (fun hHeld => ?_)
            refine pure_ (i := 0) (N := some 91) (v := ?_) (a' := ?_) #[true, false, false, false, false, false, false, false, false, false, false, false] rfl rfl (by kernel_rfl) (fun _ _ _ h => h) (Or.inl ⟨by rfl, ?_⟩) ?_ ?_
            rotate_left
            · intro w'
              go_simp
              with_reducible rfl
            rotate_left
            · simp only [Act.put, List.setIfInBounds_toArray, List.set_cons_zero, List.set_cons_succ, i64_w, i32_w]
              rfl
            refine pure_ (i := 1) (N := some 92) (v := ?_) (a' := ?_) #[true, true, false, false, false, false, false, false, false, false, false, false] rfl rfl (by kernel_rfl) (fun _ _ _ h => h) (Or.inl ⟨by rfl, ?_⟩) ?_ ?_
            rotate_left
            · intro w'
              go_simp
              with_reducible rfl
            rotate_left
            · simp only [Act.put, List.setIfInBounds_toArray, List.set_cons_zero, List.set_cons_succ, i64_w, i32_w]
              rfl
            refine pure_ (i := 2) (N := some 93) (v := ?_) (a' := ?_) #[true, true, true, false, false, false, false, false, false, false, false, false] rfl rfl (by kernel_rfl) (fun _ _ _ h => h) (Or.inl ⟨by rfl, ?_⟩) ?_ ?_
            rotate_left
            · intro w'
              go_simp
              with_reducible rfl
            rotate_left
            · simp only [Act.put, List.setIfInBounds_toArray, List.set_cons_zero, List.set_cons_succ, i64_w, i32_w]
              rfl
            refine pure_ (i := 3) (N := some 94) (v := undef) (a' := ?_) #[true, true, true, true, false, false, false, false, false, false, false, false] rfl rfl (by kernel_rfl) (fun _ _ _ h => h) (Or.inr ⟨by rfl, rfl⟩) ?_ ?_
            rotate_left
            · simp only [Act.put, List.setIfInBounds_toArray, List.set_cons_zero, List.set_cons_succ, i64_w, i32_w]
              rfl
            refine pure_ (i := 4) (N := some 95) (v := undef) (a' := ?_) #[true, true, true, true, true, false, false, false, false, false, false, false] rfl rfl (by kernel_rfl) (fun _ _ _ h => h) (Or.inr ⟨by rfl, rfl⟩) ?_ ?_
            rotate_left
            · simp only [Act.put, List.setIfInBounds_toArray, List.set_cons_zero, List.set_cons_succ, i64_w, i32_w]
              rfl
            refine pure_ (i := 5) (N := some 96) (v := undef) (a' := ?_) #[true, true, true, true, true, true, false, false, false, false, false, false] rfl rfl (by kernel_rfl) (fun _ _ _ h => h) (Or.inr ⟨by rfl, rfl⟩) ?_ ?_
            rotate_left
            · simp only [Act.put, List.setIfInBounds_toArray, List.set_cons_zero, List.set_cons_succ, i64_w, i32_w]
              rfl
            refine pure_ (i := 6) (N := some 97) (v := undef) (a' := ?_) #[true, true, true, true, true, true, true, false, false, false, false, false] rfl rfl (by kernel_rfl) (fun _ _ _ h => h) (Or.inr ⟨by rfl, rfl⟩) ?_ ?_
            rotate_left
            · simp only [Act.put, List.setIfInBounds_toArray, List.set_cons_zero, List.set_cons_succ, i64_w, i32_w]
              rfl
            refine pure_ (i := 7) (N := some 98) (v := undef) (a' := ?_) #[true, true, true, true, true, true, true, true, false, false, false, false] rfl rfl (by kernel_rfl) (fun _ _ _ h => h) (Or.inr ⟨by rfl, rfl⟩) ?_ ?_
            rotate_left
            · simp only [Act.put, List.setIfInBounds_toArray, List.set_cons_zero, List.set_cons_succ, i64_w, i32_w]
              rfl
            refine pure_ (i := 8) (N := some 99) (v := undef) (a' := ?_) #[true, true, true, true, true, true, true, true, true, false, false, false] rfl rfl (by kernel_rfl) (fun _ _ _ h => h) (Or.inr ⟨by rfl, rfl⟩) ?_ ?_
            rotate_left
            · simp only [Act.put, List.setIfInBounds_toArray, List.set_cons_zero, List.set_cons_succ, i64_w, i32_w]
              rfl
            refine pure_ (i := 9) (N := some 100) (v := undef) (a' := ?_) #[true, true, true, true, true, true, true, true, true, true, false, false] rfl rfl (by kernel_rfl) (fun _ _ _ h => h) (Or.inr ⟨by rfl, rfl⟩) ?_ ?_
            rotate_left
            · simp only [Act.put, List.setIfInBounds_toArray, List.set_cons_zero, List.set_cons_succ, i64_w, i32_w]
              rfl
            refine pure_ (i := 10) (N := some 101) (v := ?_) (a' := ?_) #[true, true, true, true, true, true, true, true, true, true, true, false] rfl rfl (by kernel_rfl) (fun _ _ _ h => h) (Or.inl ⟨by rfl, ?_⟩) ?_ ?_
            rotate_left
            · intro w'
              go_simp
              with_reducible rfl
            rotate_left
            · simp only [Act.put, List.setIfInBounds_toArray, List.set_cons_zero, List.set_cons_succ, i64_w, i32_w]
              rfl
            refine pure_ (i := 11) (N := some 4) (v := ?_) (a' := ?_) #[true, true, true, true, true, true, true, true, true, true, true, true] rfl rfl (by kernel_rfl) (fun _ _ _ h => h) (Or.inl ⟨by rfl, ?_⟩) ?_ ?_
            rotate_left
            · intro w'
              go_simp
              with_reducible rfl
            rotate_left
            · simp only [Act.put, List.setIfInBounds_toArray, List.set_cons_zero, List.set_cons_succ, i64_w, i32_w]
              rfl
            refine done_ (by kernel_rfl) ?_
            go_wp2
            go_ret
            exact ⟨by simp, HQd.out.lo⟩
          · have t0 : decide ((64 : Int) < (q : Int)) = false := decide_eq_false h64
            have t1 : ((64 : Int) < (q : Int)) = False := eq_false h64
            have t2 : (64 < q) = False := eq_false (fun h => h64 (Int.ofNat_lt.2 h))
            clear h64
            have HQd := Aside0.mk (HQ.out.step (below_drew1 (Below.refl _ _)))
            obtain ⟨st, hst⟩ : ∃ st, st = strOfNums (imageP s q) := ⟨_, rfl⟩
            have HST := Aside0.mk hst
            clear hst
            refine start_ (n := 12) (S := fun w' => True) (ds := []) #[false, false, false, false, false, false, false, false, false, false, false, false] (by kernel_rfl) rfl rfl trivial (fun hHeld => ?_)
            refine pure_ (i := 0) (N := some 91) (v := ?_) (a' := ?_) #[true, false, false, false, false, false, false, false, false, false, false, false] rfl rfl (by kernel_rfl) (fun _ _ _ h => h) (Or.inl ⟨by rfl, ?_⟩) ?_ ?_
            rotate_left
            · intro w'
              go_simp
              with_reducible rfl
            rotate_left
            · simp only [Act.put, List.setIfInBounds_toArray, List.set_cons_zero, List.set_cons_succ, i64_w, i32_w]
              rfl
            refine pure_ (i := 1) (N := some 92) (v := ?_) (a' := ?_) #[true, true, false, false, false, false, false, false, false, false, false, false] rfl rfl (by kernel_rfl) (fun _ _ _ h => h) (Or.inl ⟨by rfl, ?_⟩) ?_ ?_
            rotate_left
            · intro w'
              go_simp
              with_reducible rfl
            rotate_left
            · simp only [Act.put, List.setIfInBounds_toArray, List.set_cons_zero, List.set_cons_succ, i64_w, i32_w]
              rfl
            refine pure_ (i := 2) (N := some 93) (v := ?_) (a' := ?_) #[true, true, true, false, false, false, false, false, false, false, false, false] rfl rfl (by kernel_rfl) (fun _ _ _ h => h) (Or.inl ⟨by rfl, ?_⟩) ?_ ?_
            rotate_left
            · intro w'
              go_simp
              with_reducible rfl
            rotate_left
            · simp only [Act.put, List.setIfInBounds_toArray, List.set_cons_zero, List.set_cons_succ, i64_w, i32_w]
              rfl
            refine pure_ (i := 3) (N := some 94) (v := ?_) (a' := ?_) #[true, true, true, true, false, false, false, false, false, false, false, false] rfl rfl (by kernel_rfl) (fun _ _ _ h => h) (Or.inl ⟨by rfl, ?_⟩) ?_ ?_
            rotate_left
            · intro w'
              go_simp
              with_reducible rfl
            rotate_left
            · simp only [Act.put, List.setIfInBounds_toArray, List.set_cons_zero, List.set_cons_succ, i64_w, i32_w]
              rfl
            refine pure_ (i := 6) (N := some 97) (v := ?_) (a' := ?_) #[true, true, true, true, false, false, true, false, false, false, false, false] rfl rfl (by kernel_rfl) (fun _ _ _ h => h) (Or.inl ⟨by rfl, ?_⟩) ?_ ?_
            rotate_left
            · intro w'
              go_simp
              with_reducible rfl
            rotate_left
            · simp only [Act.put, List.setIfInBounds_toArray, List.set_cons_zero, List.set_cons_succ, i64_w, i32_w]
              rfl
            refine one_ (i := 4) (N := some 95) #[true, true, true, true, true, false, true, false, false, false, false, false] rfl rfl (by kernel_rfl) (by decide) (fun K hK => ?_)
            refine goes_ Try.func21 (by kernel_rfl) rfl #[.pointer (some ⟨d, 0, none⟩)] (by rfl) rfl rfl (by simp only [List.map_toArray, List.map_cons, List.map_nil]; rfl) ?_
            with_reducible refine (qs_dimage HQd.out).mono ?_
            rintro e w4 ⟨v4, rfl, ho, hb⟩
            refine ⟨_, rfl, ?_⟩
            have HQ4 := Aside0.mk (HQd.out.step hb)
            have HA4 := Aside0.mk ho
            obtain ⟨A4, c4, rfl⟩ := Kd.R_slice ho
            clear hb ho
            refine hK.out _ _ trivial (fun hHeld => ?_)
            clear hK K
            refine norm_ (a' := ?_) ?_ ?_
            rotate_left
            · show Act.put _ (some 95) _ = _
              simp only [Act.put, List.setIfInBounds_toArray, List.set_cons_zero, List.set_cons_succ, i64_w, i32_w]
              rfl
            refine join_ (σ := Option Addr × Nat) 3 #[true, true, true, true, true, true, true, true, true, false, false, false] (fun x => [(96, .string st), (98, .slice x.1 (imageP s q).length x.2), (99, .string st)]) (fun _ w' => Below w.heap.size w w') ?_ ?_
            rotate_left
            · intro hCont
              refine two_ (i := 5) (j := 7) (Ni := some 96) (Nj := some 98) #[true, true, true, true, true, true, true, false, false, false, false, false] #[true, true, true, true, true, false, true, true, false, false, false, false] rfl rfl rfl rfl (by kernel_rfl) (by decide) (by decide) (fun K hK => ?_) (fun K hK => ?_)
              · skip
                refine value_ (w1 := w4) (v := .string st) (by rfl) rfl (exec_convert 30 9 (.tmp 95) rfl (by rfl) (by rw [HST.out]; exact row_string HA4.out)) ?_
                refine hK.out _ _ trivial (fun hHeld => ?_)
                clear hK K
                refine norm_ (a' := ?_) ?_ ?_
                rotate_left
                · show Act.put _ (some 96) _ = _
                  simp only [Act.put, List.setIfInBounds_toArray, List.set_cons_zero, List.set_cons_succ, i64_w, i32_w]
                  rfl
                refine one_ (i := 7) (N := some 98) #[true, true, true, true, true, true, true, true, false, false, false, false] rfl rfl (by kernel_rfl) (by decide) (fun K hK => ?_)
                refine goes_ Try.func29 (by kernel_rfl) rfl #[.pointer (some ⟨r, 0, none⟩)] (by rfl) rfl rfl (by simp only [List.map_toArray, List.map_cons, List.map_nil]; rfl) ?_
                with_reducible refine (qs_rimage HQ4.out).mono ?_
                rintro e w5 ⟨v5, rfl, ho, hb⟩
                refine ⟨_, rfl, ?_⟩
                have HQ5 := Aside0.mk (HQ4.out.step hb)
                have HA5 := Aside0.mk (Kd.R_below HA4.out hb)
                have HB5 := Aside0.mk ho
                obtain ⟨A5, c5, rfl⟩ := Kd.R_slice ho
                clear hb ho
                refine hK.out _ _ trivial (fun hHeld => ?_)
                clear hK K
                refine norm_ (a' := ?_) ?_ ?_
                rotate_left
                · show Act.put _ (some 98) _ = _
                  simp only [Act.put, List.setIfInBounds_toArray, List.set_cons_zero, List.set_cons_succ, i64_w, i32_w]
                  rfl
                refine one_ (i := 8) (N := some 99) #[true, true, true, true, true, true, true, true, true, false, false, false] rfl rfl (by kernel_rfl) (by decide) (fun K hK => ?_)
                refine value_ (w1 := w5) (v := .string st) (by rfl) rfl (exec_convert 30 9 (.tmp 98) rfl (by rfl) (by rw [HST.out]; exact row_string HB5.out)) ?_
                refine hK.out _ _ trivial (fun hHeld => ?_)
                clear hK K
                refine norm_ (a' := ?_) ?_ ?_
                rotate_left
                · show Act.put _ (some 99) _ = _
                  simp only [Act.put, List.setIfInBounds_toArray, List.set_cons_zero, List.set_cons_succ, i64_w, i32_w]
                  rfl
                exact norm_ (by first | (simp only [putAll, Act.put, List.setIfInBounds_toArray, List.set_cons_zero, List.set_cons_succ]; done) | (simp only [putAll, Act.put, List.setIfInBounds_toArray, List.set_cons_zero, List.set_cons_succ]; rfl)) (hCont (A5, c5) _ HQ5.out.lo)
              · skip
                refine goes_ Try.func29 (by kernel_rfl) rfl #[.pointer (some ⟨r, 0, none⟩)] (by rfl) rfl rfl (by simp only [List.map_toArray, List.map_cons, List.map_nil]; rfl) ?_
                with_reducible refine (qs_rimage HQ4.out).mono ?_
                rintro e w5 ⟨v5, rfl, ho, hb⟩
                refine ⟨_, rfl, ?_⟩
                have HQ5 := Aside0.mk (HQ4.out.step hb)
                have HA5 := Aside0.mk (Kd.R_below HA4.out hb)
                have HB5 := Aside0.mk ho
                obtain ⟨A5, c5, rfl⟩ := Kd.R_slice ho
                clear hb ho
                refine hK.out _ _ trivial (fun hHeld => ?_)
                clear hK K
                refine norm_ (a' := ?_) ?_ ?_
                rotate_left
                · show Act.put _ (some 98) _ = _
                  simp only [Act.put, List.setIfInBounds_toArray, List.set_cons_zero, List.set_cons_succ, i64_w, i32_w]
                  rfl
                refine two_ (i := 5) (j := 8) (Ni := some 96) (Nj := some 99) #[true, true, true, true, true, true, true, true, false, false, false, false] #[true, true, true, true, true, false, true, true, true, false, false, false] rfl rfl rfl rfl (by kernel_rfl) (by decide) (by decide) (fun K hK => ?_) (fun K hK => ?_)
                · skip
                  refine value_ (w1 := w5) (v := .string st) (by rfl) rfl (exec_convert 30 9 (.tmp 95) rfl (by rfl) (by rw [HST.out]; exact row_string HA5.out)) ?_
                  refine hK.out _ _ trivial (fun hHeld => ?_)
                  clear hK K
                  refine norm_ (a' := ?_) ?_ ?_
                  rotate_left
                  · show Act.put _ (some 96) _ = _
                    simp only [Act.put, List.setIfInBounds_toArray, List.set_cons_zero, List.set_cons_succ, i64_w, i32_w]
                    rfl
                  refine one_ (i := 8) (N := some 99) #[true, true, true, true, true, true, true, true, true, false, false, false] rfl rfl (by kernel_rfl) (by decide) (fun K hK => ?_)
                  refine value_ (w1 := w5) (v := .string st) (by rfl) rfl (exec_convert 30 9 (.tmp 98) rfl (by rfl) (by rw [HST.out]; exact row_string HB5.out)) ?_
                  refine hK.out _ _ trivial (fun hHeld => ?_)
                  clear hK K
                  refine norm_ (a' := ?_) ?_ ?_
                  rotate_left
                  · show Act.put _ (some 99) _ = _
                    simp only [Act.put, List.setIfInBounds_toArray, List.set_cons_zero, List.set_cons_succ, i64_w, i32_w]
                    rfl
                  exact norm_ (by first | (simp only [putAll, Act.put, List.setIfInBounds_toArray, List.set_cons_zero, List.set_cons_succ]; done) | (simp only [putAll, Act.put, List.setIfInBounds_toArray, List.set_cons_zero, List.set_cons_succ]; rfl)) (hCont (A5, c5) _ HQ5.out.lo)
                · skip
                  refine value_ (w1 := w5) (v := .string st) (by rfl) rfl (exec_convert 30 9 (.tmp 98) rfl (by rfl) (by rw [HST.out]; exact row_string HB5.out)) ?_
                  refine hK.out _ _ trivial (fun hHeld => ?_)
                  clear hK K
                  refine norm_ (a' := ?_) ?_ ?_
                  rotate_left
                  · show Act.put _ (some 99) _ = _
                    simp only [Act.put, List.setIfInBounds_toArray, List.set_cons_zero, List.set_cons_succ, i64_w, i32_w]
                    rfl
                  refine one_ (i := 5) (N := some 96) #[true, true, true, true, true, true, true, true, true, false, false, false] rfl rfl (by kernel_rfl) (by decide) (fun K hK => ?_)
                  refine value_ (w1 := w5) (v := .string st) (by rfl) rfl (exec_convert 30 9 (.tmp 95) rfl (by rfl) (by rw [HST.out]; exact row_string HA5.out)) ?_
                  refine hK.out _ _ trivial (fun hHeld => ?_)
                  clear hK K
                  refine norm_ (a' := ?_) ?_ ?_
                  rotate_left
                  · show Act.put _ (some 96) _ = _
                    simp only [Act.put, List.setIfInBounds_toArray, List.set_cons_zero, List.set_cons_succ, i64_w, i32_w]
                    rfl
                  exact norm_ (by first | (simp only [putAll, Act.put, List.setIfInBounds_toArray, List.set_cons_zero, List.set_cons_succ]; done) | (simp only [putAll, Act.put, List.setIfInBounds_toArray, List.set_cons_zero, List.set_cons_succ]; rfl)) (hCont (A5, c5) _ HQ5.out.lo)
            rintro ⟨A5, c5⟩ w6 hF
            have HFN := Aside0.mk hF
            clear hF
            have hHeld : True := trivial
            refine norm_ (a' := ?_) ?_ ?_
            rotate_left
            · simp only [putAll, Act.put, List.setIfInBounds_toArray, List.set_cons_zero, List.set_cons_succ]
              rfl
            refine pure_ (i := 9) (N := some 100) (v := ?_) (a' := ?_) #[true, true, true, true, true, true, true, true, true, true, false, false] rfl rfl (by kernel_rfl) (fun _ _ _ h => h) (Or.inl ⟨by rfl, ?_⟩) ?_ ?_
            rotate_left
            · intro w'
              go_simp
              with_reducible rfl
            rotate_left
            · simp only [Act.put, List.setIfInBounds_toArray, List.set_cons_zero, List.set_cons_succ, i64_w, i32_w]
              rfl
            refine pure_ (i := 10) (N := some 101) (v := ?_) (a' := ?_) #[true, true, true, true, true, true, true, true, true, true, true, false] rfl rfl (by kernel_rfl) (fun _ _ _ h => h) (Or.inl ⟨by rfl, ?_⟩) ?_ ?_
            rotate_left
            · intro w'
              go_simp
              with_reducible rfl
            rotate_left
            · simp only [Act.put, List.setIfInBounds_toArray, List.set_cons_zero, List.set_cons_succ, i64_w, i32_w]
              rfl
            refine pure_ (i := 11) (N := some 4) (v := ?_) (a' := ?_) #[true, true, true, true, true, true, true, true, true, true, true, true] rfl rfl (by kernel_rfl) (fun _ _ _ h => h) (Or.inl ⟨by rfl, ?_⟩) ?_ ?_
            rotate_left
            · intro w'
              go_simp
              with_reducible rfl
            rotate_left
            · simp only [Act.put, List.setIfInBounds_toArray, List.set_cons_zero, List.set_cons_succ, i64_w, i32_w]
              rfl
            refine done_ (by kernel_rfl) ?_
            go_wp2
            go_ret
            exact ⟨by simp, HFN.out⟩
end Go.Proofs.Ytehgbikleiaagaa.P
end
section
namespace Go.Proofs.Ytehgbikleiaagaa.Pure
open Go.RowKit Go.Proofs.Ytehgbikleiaagaa.P Go.Proofs.YtehgbikleiaagaaW.PrintWords Go.Proofs.YtehgbikleiaagaaW.PrintLast
theorem lt_of_wf {n : Int} (h : (Lit.int .i64 n).wf = true) : n < 9223372036854775808 := by
  simp [Lit.wf, IntKind.min, IntKind.max, IntKind.signed, IntKind.bits] at h
  omega
theorem DiskPlays : ∀ (a0 : Int) (l1 : List (S32)), (Lit.int .i64 a0).wf = true → G22 l1 → quarrylaw05_DiskPlays.f a0 l1 = some true := by
  intro a0 l1 _ h
  unfold quarrylaw05_DiskPlays.f
  rw [if_pos]
  rw [List.all_eq_true]
  intro x hx
  have g := h.1 x hx
  exact decide_eq_true ⟨lt_of_wf g.2.1, by have := g.2.2.2.2.2.1.2; omega⟩
end Go.Proofs.Ytehgbikleiaagaa.Pure
end

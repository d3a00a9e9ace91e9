/- Laid by a program of this session out of its texts for the law PagerTells, part 3. -/
import Derived.Test.YtmjmichkkmmdcaaZPagerTells2
section
namespace Go.Proofs.Ytmjmichkkmmdcaa.P
open Go.RowKit Go.Proofs.Ytmjmichkkmmdcaa.Pure Go.Proofs.YtmjmichkkmmdcaaW.PrintWords Go.Proofs.YtmjmichkkmmdcaaW.PrintLast Go.Proofs.YtmjmichkkmmdcaaW.PrintMore
set_option linter.unusedVariables false
set_option linter.unusedSimpArgs false
theorem PG.step {W W' : World} {p d : Nat} {root gen : Int} {down : Bool} (h : PG W p d root gen down) (hb : Below W.heap.size W W') : PG W' p d root gen down := blk_below h hb
theorem PG.tf {W W' : World} {p d base : Nat} {root gen : Int} {down : Bool} (h : PG W p d root gen down) (ht : TF base W W') : PG W' p d root gen down := ht.blk _ _ _ _ h (by decide) (by decide)
structure TG (Z : Nat) (w w' : World) : Prop where
  b : Below Z w w'
  size : w.heap.size ≤ w'.heap.size
  blk : ∀ (g : Nat) (cs : Array Value) (t : TypeId) (fr : Nat × Nat), w.heap[g]? = some (Obj.cells cs t fr) → t ≠ 96 → t ≠ 98 → t ≠ 83 → w'.heap[g]? = some (Obj.cells cs t fr)
theorem TG.of_below {Z : Nat} {a b : World} (h : Below a.heap.size a b) (hb : Z ≤ a.heap.size) : TG Z a b := ⟨h.mono hb, h.size, fun g cs t fr hg _ _ _ => blk_below hg h⟩
theorem TG.of_tf {Z base : Nat} {a b : World} (h : TF base a b) (hb : Z ≤ base) : TG Z a b := ⟨h.b.mono hb, h.size, fun g cs t fr hg h1 h2 _ => h.blk g cs t fr hg h1 h2⟩
theorem TG.trans {Z : Nat} {a b c : World} (h : TG Z a b) (k : TG Z b c) : TG Z a c := ⟨h.b.trans k.b, Nat.le_trans h.size k.size, fun g cs t fr hb h1 h2 h3 => k.blk g cs t fr (h.blk g cs t fr hb h1 h2 h3) h1 h2 h3⟩
theorem TG.set {Z g : Nat} {W : World} {cs : Array Value} {fr : Nat × Nat} (hg : W.heap[g]? = some (.cells cs 83 fr)) (hZ : Z ≤ g) (i : Nat) (u : Value) : TG Z W (W.setCell ⟨g, i, none⟩ u) :=
  ⟨(Kp.set (S := fun k => k = g) W ⟨g, i, none⟩ u rfl).below (Nat.le_trans hZ (Nat.le_of_lt (blk_lt hg))) (fun k e => e ▸ hZ), (Kp.set (S := fun k => k = g) W ⟨g, i, none⟩ u rfl).size, fun k cs' t fr' hk _ _ h3 => keepX_set W ⟨g, i, none⟩ u k cs' t fr' hk (fun e => by
    rw [show k = g from e, hg] at hk
    cases hk
    exact h3 rfl)⟩
def hasN (n m : Int) : Bool := decide (2 ≤ n) && decide (n < m)
section
variable {base d : Nat} {Φ : Nat → World → Dk → Prop} {C : Nat} {s : Dk}
set_option maxRecDepth 100000 in
theorem ppages_calls (hA : DAct base d Φ) (p : Nat) {root gen : Int} {down : Bool} (w : World) (h : Φ C w s) (hp : PG w p d root gen down) :
    Calls Try.prog 38 #[.pointer (some ⟨p, 0, none⟩)] w fun e w' => e = .returned (.int .i64 s.pages) ∧ Below w.heap.size w w' := by
  have hc := hA.pages h
  have c0 : w.cell? ⟨p, 0, none⟩ = some (.pointer (some ⟨d, 0, none⟩)) := (blk_cell hp 0).trans rfl
  clear h hp hA
  go_enter Try.func38, Try.ntmps38
  go_wp2_with (go_at_call 43; (with_reducible refine hc.mono ?_); rintro e w1 ⟨rfl, hb⟩; have HB1 := Aside0.mk hb; clear hb)
  go_ret
  exact ⟨by simp, HB1.out⟩
set_option maxRecDepth 100000 in
theorem phas_calls (hA : DAct base d Φ) (p : Nat) (n : Int) {root gen : Int} {down : Bool} (w : World) (h : Φ C w s) (hp : PG w p d root gen down) :
    Calls Try.prog 39 #[.pointer (some ⟨p, 0, none⟩), .int .i64 n] w fun e w' => e = .returned (.bool (hasN n s.pages)) ∧ Below w.heap.size w w' := by
  have hc := ppages_calls hA p w h hp
  have HB := Aside0.mk (Below.refl w.heap.size w)
  obtain ⟨M, hM⟩ : ∃ M, M = s.pages := ⟨_, rfl⟩
  rw [← hM] at hc
  rw [← hM]
  unfold hasN
  clear h hp hA hM
  by_cases h2 : 2 ≤ n
  · have b0 : decide (2 ≤ n) = true := decide_eq_true h2
    have b1 : (2 ≤ n) = True := eq_true h2
    rw [b0]
    clear h2
    go_enter Try.func39, Try.ntmps39
    go_wp2_with (go_at_call 38; (with_reducible refine hc.mono ?_); rintro e w1 ⟨rfl, hb⟩; have HB1 := Aside0.mk hb; clear hb)
    go_ret
    exact ⟨by simp, HB1.out⟩
  · have b0 : decide (2 ≤ n) = false := decide_eq_false h2
    have b1 : (2 ≤ n) = False := eq_false h2
    rw [b0]
    clear h2
    go_enter Try.func39, Try.ntmps39
    go_wp2
    go_ret
    exact ⟨by simp, HB.out⟩
set_option maxHeartbeats 1000000 in
set_option maxRecDepth 100000 in
theorem clos_calls (hA : DAct base d Φ) (p q hb : Nat) (gen root : Int) (g0 : 0 ≤ gen) (g1 : gen < 9223372036854775808) (r0 : 0 ≤ root) (r1 : root < 9223372036854775808) {root0 gen0 : Int} {down0 : Bool} (w : World) (h : Φ C w s) (hC : C < 1073741824) (hp : PG w p d root0 gen0 down0)
    (hq : w.heap[q]? = some (.cells #[.pointer (some ⟨p, 0, none⟩)] 29 (0, 0))) (hh : w.heap[hb]? = some (.cells #[.int .i64 root, .int .i64 gen] 81 (0, 0))) :
    Calls Try.prog 41 #[.pointer (some ⟨q, 0, none⟩), .pointer (some ⟨hb, 0, none⟩)] w fun e w' => e = .returned (.int .i64 (layE s gen root)) ∧ Φ (C + 1) w' (layD s gen root) ∧ TF base w w' := by
  have HBD := Aside0.mk (hA.bd h)
  have hd0 : Below w.heap.size w w.drew := below_drew1 (Below.refl _ _)
  have HD := Aside0.mk hd0
  have hl := lay_calls hA gen root g0 g1 r0 r1 w.drew (hA.step h hd0) hC
  have HL := Aside0.mk hl
  have HP := Aside0.mk (hp.step hd0)
  have HQ' := Aside0.mk (blk_below hq hd0)
  have HH := Aside0.mk (blk_below hh hd0)
  clear hA h hC hp hq hh g0 g1 r0 r1 hl hd0
  go_enter Try.func41, Try.ntmps41
  go_upto_region 1 with fail
  refine start_ (n := 7) (S := fun w' => w'.cell? ⟨q, 0, none⟩ = some (.pointer (some ⟨p, 0, none⟩)) ∧ w'.cell? ⟨p, 0, none⟩ = some (.pointer (some ⟨d, 0, none⟩)) ∧ w'.cell? ⟨hb, 0, none⟩ = some (.int .i64 root) ∧ w'.cell? ⟨hb, 1, none⟩ = some (.int .i64 gen)) (ds := [5]) #[false, false, false, false, false, false, false] (by kernel_rfl) rfl rfl ⟨(blk_cell HQ'.out 0).trans rfl, (blk_cell HP.out 0).trans rfl, (blk_cell HH.out 0).trans rfl, (blk_cell HH.out 1).trans rfl⟩ (fun hHeld => ?_)
  refine take_ (i := 0) (N := some 3) (v := ?_) (a' := ?_) #[true, false, false, false, false, false, false] rfl rfl (by kernel_rfl) (fun _ _ _ h => h) (Or.inl ⟨by rfl, ?_⟩) hHeld ?_ ?_
  rotate_left
  · rintro w' ⟨s0, s1, s2, s3⟩
    go_simp
    with_reducible rfl
  rotate_left
  · simp only [Act.put, List.setIfInBounds_toArray, List.set_cons_zero, List.set_cons_succ, i64_w, i32_w]
    rfl
  refine pure_ (i := 1) (N := some 4) (v := ?_) (a' := ?_) #[true, true, false, false, false, false, false] rfl rfl (by kernel_rfl) (fun _ _ _ h => h) (Or.inl ⟨by rfl, ?_⟩) ?_ ?_
  rotate_left
  · intro w'
    go_simp
    with_reducible rfl
  rotate_left
  · simp only [Act.put, List.setIfInBounds_toArray, List.set_cons_zero, List.set_cons_succ, i64_w, i32_w]
    rfl
  refine pure_ (i := 2) (N := some 5) (v := ?_) (a' := ?_) #[true, true, true, false, false, false, false] rfl rfl (by kernel_rfl) (fun _ _ _ h => h) (Or.inl ⟨by rfl, ?_⟩) ?_ ?_
  rotate_left
  · intro w'
    go_simp
    with_reducible rfl
  rotate_left
  · simp only [Act.put, List.setIfInBounds_toArray, List.set_cons_zero, List.set_cons_succ, i64_w, i32_w]
    rfl
  refine take_ (i := 3) (N := some 6) (v := ?_) (a' := ?_) #[true, true, true, true, false, false, false] rfl rfl (by kernel_rfl) (fun _ _ _ h => h) (Or.inl ⟨by rfl, ?_⟩) hHeld ?_ ?_
  rotate_left
  · rintro w' ⟨s0, s1, s2, s3⟩
    go_simp
    with_reducible rfl
  rotate_left
  · simp only [Act.put, List.setIfInBounds_toArray, List.set_cons_zero, List.set_cons_succ, i64_w, i32_w]
    rfl
  refine take_ (i := 4) (N := some 7) (v := ?_) (a' := ?_) #[true, true, true, true, true, false, false] rfl rfl (by kernel_rfl) (fun _ _ _ h => h) (Or.inl ⟨by rfl, ?_⟩) hHeld ?_ ?_
  rotate_left
  · rintro w' ⟨s0, s1, s2, s3⟩
    go_simp
    with_reducible rfl
  rotate_left
  · simp only [Act.put, List.setIfInBounds_toArray, List.set_cons_zero, List.set_cons_succ, i64_w, i32_w]
    rfl
  refine last_ (i := 5) (N := some 8) #[true, true, true, true, true, true, false] rfl rfl (by kernel_rfl) (by decide) (fun K hK => ?_)
  refine goes_ Try.func42 (by kernel_rfl) rfl #[.pointer (some ⟨d, 0, none⟩), .agg #[.int .i64 root, .int .i64 gen]] (by rfl) rfl rfl (by simp only [List.map_toArray, List.map_cons, List.map_nil]; rfl) ?_
  with_reducible refine (HL.out).mono ?_
  rintro e w2 ⟨rfl, hs, ht⟩
  refine ⟨_, rfl, ?_⟩
  have HF := Aside0.mk (And.intro hs ht)
  clear hs ht hHeld
  refine hK.out _ _ ?_
  clear hK K
  refine norm_ (a' := ?_) ?_ ?_
  rotate_left
  · show Act.put _ (some 8) _ = _
    simp only [Act.put, List.setIfInBounds_toArray, List.set_cons_zero, List.set_cons_succ, i64_w, i32_w]
    rfl
  refine pure_ (i := 6) (N := some 2) (v := ?_) (a' := ?_) #[true, true, true, true, true, true, true] rfl rfl (by kernel_rfl) (fun _ _ _ h => h) (Or.inl ⟨by rfl, ?_⟩) ?_ ?_
  rotate_left
  · intro w'
    go_simp
    with_reducible rfl
  rotate_left
  · simp only [Act.put, List.setIfInBounds_toArray, List.set_cons_zero, List.set_cons_succ, i64_w, i32_w]
    rfl
  refine done_ (by kernel_rfl) ?_
  go_wp2
  go_ret
  exact ⟨by simp, HF.out.1, (TF.of_below HD.out HBD.out).trans HF.out.2⟩
end
theorem info85 : (Try.prog.info? 85).map (fun i => (i.zero, i.size, i.bytes)) = some (some .nilFunc, 1, 8) := by kernel_rfl
theorem build3 (w : World) (f0 f1 f2 : Fn) (x0 x1 x2 y0 y1 y2 : Array Value) : (Instr.buildSlice 87 3 #[(0, .func f0 x0 y0), (1, .func f1 x1 y1), (2, .func f2 x2 y2)]).run Try.prog w = .ok (.slice (some ⟨w.heap.size, 0, none⟩) 3 3) (w.alloc (.cells #[.func f0 x0 y0, .func f1 x1 y1, .func f2 x2 y2] 85)) := by
  have h := info85
  cases hi : Try.prog.info? 85 with
  | none => rw [hi] at h; cases h
  | some it =>
    rw [hi] at h
    simp only [Option.map_some, Option.some.injEq, Prod.mk.injEq] at h
    refine run_buildSlice w 87 85 3 _ _ it _ Try.underlying87 hi h.1 (by rw [h.2.1]; decide) (by rw [h.2.1]; decide) ?_
    rw [h.2.1]
    first | kernel_rfl | rfl | (simp [Instr.fill, Value.cells]; done)
theorem exec_build3 {ρ : Operand → Value} {op : Oper} (w : World) (a b c : Operand) {f0 f1 f2 : Fn} {x0 x1 x2 y0 y1 y2 : Array Value} (ho : op.op = .buildSlice 87 3 #[(0, a), (1, b), (2, c)]) (h0 : ρ a = .func f0 x0 y0) (h1 : ρ b = .func f1 x1 y1) (h2 : ρ c = .func f2 x2 y2) : (execOp ρ op).run Try.prog w = .ok (.value (.slice (some ⟨w.heap.size, 0, none⟩) 3 3)) (w.alloc (.cells #[.func f0 x0 y0, .func f1 x1 y1, .func f2 x2 y2] 85)) := by
  unfold execOp
  simp only [ho, List.map_toArray, List.map_cons, List.map_nil, h0, h1, h2, Sem.run_bind, build3, Result.andThen_ok, Sem.run_pure]
def stpE (s : Dk) (gen root : Int) : Int := if syncE s ≠ 0 then syncE s else if layE (syncD s) gen root ≠ 0 then layE (syncD s) gen root else syncE (layD (syncD s) gen root)
def stpD (s : Dk) (gen root : Int) : Dk := if syncE s ≠ 0 then syncD s else if layE (syncD s) gen root ≠ 0 then layD (syncD s) gen root else syncD (layD (syncD s) gen root)
def badR (s : Dk) (nr : Int) : Bool := decide (nr ≠ 0) && !(hasN nr s.pages)
def CI (Φ : Nat → World → Dk → Prop) (C : Nat) (s : Dk) (gen root : Int) (j : Nat) (W : World) : Prop :=
  (j = 0 ∧ Φ C W s) ∨ (j = 1 ∧ syncE s = 0 ∧ Φ C W (syncD s)) ∨ (j = 2 ∧ syncE s = 0 ∧ layE (syncD s) gen root = 0 ∧ Φ (C + 1) W (layD (syncD s) gen root)) ∨ (j = 3 ∧ syncE s = 0 ∧ layE (syncD s) gen root = 0 ∧ syncE (layD (syncD s) gen root) = 0 ∧ Φ (C + 1) W (syncD (layD (syncD s) gen root)))
section
variable {base d : Nat} {Φ : Nat → World → Dk → Prop} {C : Nat} {s : Dk}
set_option maxHeartbeats 1000000 in
set_option maxRecDepth 100000 in
theorem commit_down (hA : DAct base d Φ) (p : Nat) (nr : Int) {root gen : Int} (w : World) (h : Φ C w s) (hp : PG w p d root gen true) :
    Calls Try.prog 14 #[.pointer (some ⟨p, 0, none⟩), .int .i64 nr] w fun e w' => e = .returned (.int .i64 9) ∧ Below w.heap.size w w' := by
  have HP := Aside0.mk hp
  clear h hp
  go_enter Try.func14, Try.ntmps14
  go_upto_region 1 with fail
  have hbk := Deep.blk_alloc_new w (.cells #[.pointer (some ⟨p, 0, none⟩)] 29)
  refine at_world (fun W => W.heap[w.heap.size]? = some (.cells #[.pointer (some ⟨p, 0, none⟩)] 29 (0, 0)) ∧ Below w.heap.size w W) ⟨hbk, below_alloc (Below.refl _ _) _⟩ (fun W hW => ?_)
  have c0 : W.cell? ⟨w.heap.size, 0, none⟩ = some (.pointer (some ⟨p, 0, none⟩)) := (blk_cell hW.1 0).trans rfl
  have c3 : W.cell? ⟨p, 3, none⟩ = some (.bool true) := (blk_cell (HP.out.step hW.2) 3).trans rfl
  have HB := Aside0.mk hW.2
  clear hW hbk
  go_wp2
  go_ret
  exact ⟨by simp, HB.out⟩
set_option maxHeartbeats 1000000 in
set_option maxRecDepth 100000 in
theorem commit_bad (hA : DAct base d Φ) (p : Nat) (nr : Int) {root gen : Int} (hbad : badR s nr = true) (w : World) (h : Φ C w s) (hp : PG w p d root gen false) :
    Calls Try.prog 14 #[.pointer (some ⟨p, 0, none⟩), .int .i64 nr] w fun e w' => e = .returned (.int .i64 2) ∧ Below w.heap.size w w' := by
  have HP := Aside0.mk hp
  have hcs : ∀ W, Below w.heap.size w W → Calls Try.prog 39 #[.pointer (some ⟨p, 0, none⟩), .int .i64 nr] W fun e w' => e = .returned (.bool (hasN nr s.pages)) ∧ Below W.heap.size W w' := fun W hW => phas_calls hA p nr W (hA.step h hW) (hp.step hW)
  have HCS := Aside0.mk hcs
  unfold badR at hbad
  rw [Bool.and_eq_true] at hbad
  obtain ⟨n0, n1⟩ := hbad
  have n2 := of_decide_eq_true n0
  have n3 : (nr != 0) = true := bne_iff_ne.mpr n2
  have n4 : (nr == 0) = false := beq_eq_false_iff_ne.mpr n2
  have n6 : decide (nr = 0) = false := decide_eq_false n2
  have n5 : hasN nr s.pages = false := by simpa using n1
  rw [n5] at HCS
  clear h hp hcs n0 n1 n2 n5
  go_enter Try.func14, Try.ntmps14
  go_upto_region 1 with fail
  have hbk := Deep.blk_alloc_new w (.cells #[.pointer (some ⟨p, 0, none⟩)] 29)
  refine at_world (fun W => W.heap[w.heap.size]? = some (.cells #[.pointer (some ⟨p, 0, none⟩)] 29 (0, 0)) ∧ Below w.heap.size w W) ⟨hbk, below_alloc (Below.refl _ _) _⟩ (fun W hW => ?_)
  have c0 : W.cell? ⟨w.heap.size, 0, none⟩ = some (.pointer (some ⟨p, 0, none⟩)) := (blk_cell hW.1 0).trans rfl
  have c3 : W.cell? ⟨p, 3, none⟩ = some (.bool false) := (blk_cell (HP.out.step hW.2) 3).trans rfl
  have HB := Aside0.mk hW.2
  clear hW hbk
  go_wp2_with (go_at_call 39; (with_reducible refine (HCS.out _ HB.out).mono ?_); rintro e w1 ⟨rfl, hb⟩; have HB1 := Aside0.mk (below_step HB.out hb); clear hb)
  go_ret
  exact ⟨by simp, HB1.out⟩
set_option maxHeartbeats 8000000 in
set_option maxRecDepth 100000 in
theorem commit_go (hA : DAct base d Φ) (p : Nat) (nr : Int) {root gen : Int} (hbad : badR s nr = false) (hr0 : 0 ≤ nr) (hr1 : nr < 9223372036854775808) (g0 : 0 ≤ gen) (g1 : gen < 9223372036854775806) (Z : Nat) (hZb : Z ≤ base) (hZp : Z ≤ p) (w : World) (h : Φ C w s) (hC : C + 1 < 1073741824) (hp : PG w p d root gen false) :
    Calls Try.prog 14 #[.pointer (some ⟨p, 0, none⟩), .int .i64 nr] w fun e w' => e = .returned (.int .i64 (stpE s (gen + 1) nr)) ∧ Φ (C + 1) w' (stpD s (gen + 1) nr) ∧ TG Z w w' ∧ (stpE s (gen + 1) nr = 0 → PG w' p d nr (gen + 1) false) ∧ (stpE s (gen + 1) nr ≠ 0 → PG w' p d root gen true) := by
  have HA := Aside0.mk hA
  have HPH := Aside0.mk h
  have HP := Aside0.mk hp
  have HC := Aside0.mk hC
  have HG := Aside0.mk (And.intro (show 0 ≤ gen + 1 by omega) (show gen + 1 < 9223372036854775808 by omega))
  have HR := Aside0.mk (And.intro hr0 hr1)
  have HZ := Aside0.mk (And.intro hZb hZp)
  have HBD := Aside0.mk (hA.bd h)
  have hcs : ∀ W, Below w.heap.size w W → Calls Try.prog 39 #[.pointer (some ⟨p, 0, none⟩), .int .i64 nr] W fun e w' => e = .returned (.bool (hasN nr s.pages)) ∧ Below W.heap.size W w' := fun W hW => phas_calls hA p nr W (hA.step h hW) (hp.step hW)
  have HCS := Aside0.mk hcs
  have hw1 : IntKind.i64.wrap (gen + 1) = gen + 1 := by rw [IntKind.wrap_i64]; omega
  have hw2 : wrap64 (gen + 1) = gen + 1 := by unfold wrap64; omega
  obtain ⟨G, hG⟩ : ∃ G, G = gen + 1 := ⟨_, rfl⟩
  have HGG := Aside0.mk hG
  rw [← hG] at hw1 hw2 HG ⊢
  have hZw : Z ≤ w.heap.size := Nat.le_trans hZb (hA.bd h)
  have HZW := Aside0.mk hZw
  clear hA h hp hC hr0 hr1 g0 g1 hZb hZp hcs hG hZw
  go_enter Try.func14, Try.ntmps14
  go_upto_region 1 with fail
  have hbk := Deep.blk_alloc_new w (.cells #[.pointer (some ⟨p, 0, none⟩)] 29)
  refine at_world (fun W => W.heap[w.heap.size]? = some (.cells #[.pointer (some ⟨p, 0, none⟩)] 29 (0, 0)) ∧ Below w.heap.size w W) ⟨hbk, below_alloc (Below.refl _ _) _⟩ (fun W1 hW => ?_)
  have HQ1 := Aside0.mk hW.1
  have HB1 := Aside0.mk hW.2
  have c0 : W1.cell? ⟨w.heap.size, 0, none⟩ = some (.pointer (some ⟨p, 0, none⟩)) := (blk_cell hW.1 0).trans rfl
  have c3 : W1.cell? ⟨p, 3, none⟩ = some (.bool false) := (blk_cell (HP.out.step hW.2) 3).trans rfl
  clear hW hbk
  by_cases hn : nr = 0
  · have n3 : (nr != 0) = false := by simp [hn]
    have n4 : (nr == 0) = true := by simp [hn]
    have n6 : decide (nr = 0) = true := decide_eq_true hn
    clear hn hbad
    go_upto_region 5 with fail
    refine at_world (fun W => W.heap[w.heap.size]? = some (.cells #[.pointer (some ⟨p, 0, none⟩)] 29 (0, 0)) ∧ Below w.heap.size w W) ⟨HQ1.out, HB1.out⟩ (fun W2 hW => ?_)
    have HQ2 := Aside0.mk hW.1
    have HB2 := Aside0.mk hW.2
    clear hW HQ1 HB1 c0 c3 n3 n4 n6
    have hp2 := HP.out.step HB2.out
    have c0 : W2.cell? ⟨w.heap.size, 0, none⟩ = some (.pointer (some ⟨p, 0, none⟩)) := (blk_cell HQ2.out 0).trans rfl
    have c2 : W2.cell? ⟨p, 2, none⟩ = some (.int .i64 gen) := (blk_cell hp2 2).trans rfl
    have hgg : IntKind.i64.wrap (gen + 1) = G := by rw [← HGG.out]; exact hw1
    have hgg2 : wrap64 (gen + 1) = G := by rw [← HGG.out]; exact hw2
    clear hp2
    go_upto_region 6 with fail
    obtain ⟨hb, hhb⟩ : ∃ hb, hb = W2.heap.size := ⟨_, rfl⟩
    have hbh : (W2.alloc (.cells #[.int .i64 nr, .int .i64 G] 81)).heap[hb]? = some (.cells #[.int .i64 nr, .int .i64 G] 81 (0, 0)) := by rw [hhb]; exact Deep.blk_alloc_new W2 (.cells #[.int .i64 nr, .int .i64 G] 81)
    rw [← hhb]
    clear hhb c0 c2 hgg hgg2
    refine at_world (fun W => W.heap[hb]? = some (.cells #[.int .i64 nr, .int .i64 G] 81 (0, 0)) ∧ Below W2.heap.size W2 W) ⟨hbh, below_alloc (Below.refl _ _) _⟩ (fun W hW => ?_)
    have HW2 := Aside0.mk (below_step hW.2 (below_drew1 (Below.refl _ _)))
    have HH0 : Aside0 (W.drew.heap[hb]? = some (.cells #[.int .i64 nr, .int .i64 G] 81 (0, 0))) := ⟨hW.1⟩
    have HQ0 := Aside0.mk (blk_below HQ2.out HW2.out)
    have HB0 := Aside0.mk (below_step HB2.out HW2.out)
    have HP0 := Aside0.mk (HP.out.step HB0.out)
    clear hW hbh
    refine start_ (n := 14) (S := fun w' => w'.cell? ⟨w.heap.size, 0, none⟩ = some (.pointer (some ⟨p, 0, none⟩)) ∧ w'.cell? ⟨p, 0, none⟩ = some (.pointer (some ⟨d, 0, none⟩))) (ds := [11]) #[false, false, false, false, false, false, false, false, false, false, false, false, false, false] (by kernel_rfl) rfl rfl ⟨(blk_cell HQ0.out 0).trans rfl, (blk_cell HP0.out 0).trans rfl⟩ (fun hHeld => ?_)
    refine pure_ (i := 5) (N := some 34) (v := ?_) (a' := ?_) #[false, false, false, false, false, true, false, false, false, false, false, false, false, false] rfl rfl (by kernel_rfl) (fun _ _ _ h => h) (Or.inl ⟨by rfl, ?_⟩) ?_ ?_
    rotate_left
    · intro w'
      go_simp
      with_reducible rfl
    rotate_left
    · simp only [Act.put, List.setIfInBounds_toArray, List.set_cons_zero, List.set_cons_succ, i64_w, i32_w]
      rfl
    refine pure_ (i := 13) (N := some 42) (v := ?_) (a' := ?_) #[false, false, false, false, false, true, false, false, false, false, false, false, false, true] rfl rfl (by kernel_rfl) (fun _ _ _ h => h) (Or.inl ⟨by rfl, ?_⟩) ?_ ?_
    rotate_left
    · intro w'
      go_simp
      with_reducible rfl
    rotate_left
    · simp only [Act.put, List.setIfInBounds_toArray, List.set_cons_zero, List.set_cons_succ, i64_w, i32_w]
      rfl
    refine take_ (i := 0) (N := some 29) (v := ?_) (a' := ?_) #[true, false, false, false, false, true, false, false, false, false, false, false, false, true] rfl rfl (by kernel_rfl) (fun _ _ _ h => h) (Or.inl ⟨by rfl, ?_⟩) hHeld ?_ ?_
    rotate_left
    · rintro w' ⟨s0, s1⟩
      go_simp
      with_reducible rfl
    rotate_left
    · simp only [Act.put, List.setIfInBounds_toArray, List.set_cons_zero, List.set_cons_succ, i64_w, i32_w]
      rfl
    refine pure_ (i := 1) (N := some 30) (v := ?_) (a' := ?_) #[true, true, false, false, false, true, false, false, false, false, false, false, false, true] rfl rfl (by kernel_rfl) (fun _ _ _ h => h) (Or.inl ⟨by rfl, ?_⟩) ?_ ?_
    rotate_left
    · intro w'
      go_simp
      with_reducible rfl
    rotate_left
    · simp only [Act.put, List.setIfInBounds_toArray, List.set_cons_zero, List.set_cons_succ, i64_w, i32_w]
      rfl
    refine pure_ (i := 2) (N := some 31) (v := ?_) (a' := ?_) #[true, true, true, false, false, true, false, false, false, false, false, false, false, true] rfl rfl (by kernel_rfl) (fun _ _ _ h => h) (Or.inl ⟨by rfl, ?_⟩) ?_ ?_
    rotate_left
    · intro w'
      go_simp
      with_reducible rfl
    rotate_left
    · simp only [Act.put, List.setIfInBounds_toArray, List.set_cons_zero, List.set_cons_succ, i64_w, i32_w]
      rfl
    refine take_ (i := 3) (N := some 32) (v := ?_) (a' := ?_) #[true, true, true, true, false, true, false, false, false, false, false, false, false, true] rfl rfl (by kernel_rfl) (fun _ _ _ h => h) (Or.inl ⟨by rfl, ?_⟩) hHeld ?_ ?_
    rotate_left
    · rintro w' ⟨s0, s1⟩
      go_simp
      with_reducible rfl
    rotate_left
    · simp only [Act.put, List.setIfInBounds_toArray, List.set_cons_zero, List.set_cons_succ, i64_w, i32_w]
      rfl
    refine pure_ (i := 4) (N := some 33) (v := ?_) (a' := ?_) #[true, true, true, true, true, true, false, false, false, false, false, false, false, true] rfl rfl (by kernel_rfl) (fun _ _ _ h => h) (Or.inl ⟨by rfl, ?_⟩) ?_ ?_
    rotate_left
    · intro w'
      go_simp
      with_reducible rfl
    rotate_left
    · simp only [Act.put, List.setIfInBounds_toArray, List.set_cons_zero, List.set_cons_succ, i64_w, i32_w]
      rfl
    refine take_ (i := 6) (N := some 35) (v := ?_) (a' := ?_) #[true, true, true, true, true, true, true, false, false, false, false, false, false, true] rfl rfl (by kernel_rfl) (fun _ _ _ h => h) (Or.inl ⟨by rfl, ?_⟩) hHeld ?_ ?_
    rotate_left
    · rintro w' ⟨s0, s1⟩
      go_simp
      with_reducible rfl
    rotate_left
    · simp only [Act.put, List.setIfInBounds_toArray, List.set_cons_zero, List.set_cons_succ, i64_w, i32_w]
      rfl
    refine pure_ (i := 7) (N := some 36) (v := ?_) (a' := ?_) #[true, true, true, true, true, true, true, true, false, false, false, false, false, true] rfl rfl (by kernel_rfl) (fun _ _ _ h => h) (Or.inl ⟨by rfl, ?_⟩) ?_ ?_
    rotate_left
    · intro w'
      go_simp
      with_reducible rfl
    rotate_left
    · simp only [Act.put, List.setIfInBounds_toArray, List.set_cons_zero, List.set_cons_succ, i64_w, i32_w]
      rfl
    refine pure_ (i := 8) (N := some 37) (v := ?_) (a' := ?_) #[true, true, true, true, true, true, true, true, true, false, false, false, false, true] rfl rfl (by kernel_rfl) (fun _ _ _ h => h) (Or.inl ⟨by rfl, ?_⟩) ?_ ?_
    rotate_left
    · intro w'
      go_simp
      with_reducible rfl
    rotate_left
    · simp only [Act.put, List.setIfInBounds_toArray, List.set_cons_zero, List.set_cons_succ, i64_w, i32_w]
      rfl
    refine take_ (i := 9) (N := some 38) (v := ?_) (a' := ?_) #[true, true, true, true, true, true, true, true, true, true, false, false, false, true] rfl rfl (by kernel_rfl) (fun _ _ _ h => h) (Or.inl ⟨by rfl, ?_⟩) hHeld ?_ ?_
    rotate_left
    · rintro w' ⟨s0, s1⟩
      go_simp
      with_reducible rfl
    rotate_left
    · simp only [Act.put, List.setIfInBounds_toArray, List.set_cons_zero, List.set_cons_succ, i64_w, i32_w]
      rfl
    refine pure_ (i := 10) (N := some 39) (v := ?_) (a' := ?_) #[true, true, true, true, true, true, true, true, true, true, true, false, false, true] rfl rfl (by kernel_rfl) (fun _ _ _ h => h) (Or.inl ⟨by rfl, ?_⟩) ?_ ?_
    rotate_left
    · intro w'
      go_simp
      with_reducible rfl
    rotate_left
    · simp only [Act.put, List.setIfInBounds_toArray, List.set_cons_zero, List.set_cons_succ, i64_w, i32_w]
      rfl
    refine last_ (i := 11) (N := some 40) #[true, true, true, true, true, true, true, true, true, true, true, true, false, true] rfl rfl (by kernel_rfl) (by decide) (fun K hK => ?_)
    refine value_ (w1 := W.drew.alloc (.cells #[.func (.func 40) #[.pointer (some ⟨d, 0, none⟩)] #[], .func (.func 41) #[] #[.pointer (some ⟨w.heap.size, 0, none⟩), .pointer (some ⟨hb, 0, none⟩)], .func (.func 40) #[.pointer (some ⟨d, 0, none⟩)] #[]] 85)) (v := .slice (some ⟨W.drew.heap.size, 0, none⟩) 3 3) (by rfl) rfl (exec_build3 W.drew (.tmp 33) (.tmp 34) (.tmp 39) rfl (by rfl) (by rfl) (by rfl)) ?_
    clear hHeld
    refine hK.out _ _ ?_
    clear hK K
    refine norm_ (a' := ?_) ?_ ?_
    rotate_left
    · show Act.put _ (some 40) _ = _
      simp only [Act.put, List.setIfInBounds_toArray, List.set_cons_zero, List.set_cons_succ, i64_w, i32_w]
      rfl
    refine pure_ (i := 12) (N := some 41) (v := ?_) (a' := ?_) #[true, true, true, true, true, true, true, true, true, true, true, true, true, true] rfl rfl (by kernel_rfl) (fun _ _ _ h => h) (Or.inl ⟨by rfl, ?_⟩) ?_ ?_
    rotate_left
    · intro w'
      go_simp
      with_reducible rfl
    rotate_left
    · simp only [Act.put, List.setIfInBounds_toArray, List.set_cons_zero, List.set_cons_succ, i64_w, i32_w]
      rfl
    refine done_ (by kernel_rfl) ?_
    obtain ⟨rb, hrb⟩ : ∃ rb, rb = W.drew.heap.size := ⟨_, rfl⟩
    obtain ⟨W6, hW6⟩ : ∃ W6, W6 = W.drew.alloc (.cells #[.func (.func 40) #[.pointer (some ⟨d, 0, none⟩)] #[], .func (.func 41) #[] #[.pointer (some ⟨w.heap.size, 0, none⟩), .pointer (some ⟨hb, 0, none⟩)], .func (.func 40) #[.pointer (some ⟨d, 0, none⟩)] #[]] 85) := ⟨_, rfl⟩
    have hb6 : Below W.drew.heap.size W.drew W6 := by rw [hW6]; exact below_alloc (Below.refl _ _) _
    have hr6 : W6.heap[rb]? = some (.cells #[.func (.func 40) #[.pointer (some ⟨d, 0, none⟩)] #[], .func (.func 41) #[] #[.pointer (some ⟨w.heap.size, 0, none⟩), .pointer (some ⟨hb, 0, none⟩)], .func (.func 40) #[.pointer (some ⟨d, 0, none⟩)] #[]] 85 (0, 0)) := by rw [hW6, hrb]; exact Deep.blk_alloc_new W.drew _
    have HR6 := Aside0.mk hr6
    have HH6 := Aside0.mk (blk_below HH0.out hb6)
    have HQ6 := Aside0.mk (blk_below HQ0.out hb6)
    have HP6 := Aside0.mk (HP0.out.step hb6)
    have HB6 := Aside0.mk (below_step HB0.out hb6)
    have HF6 := Aside0.mk (HA.out.step HPH.out HB6.out)
    have hrb' : (W.drew.heap.size) = rb := hrb.symm
    have hrb2 : (W.heap.size) = rb := hrb.symm
    first | rw [← hW6] | skip
    first | rw [hrb'] | rw [hrb2] | skip
    clear hb6 hr6 hW6 hrb hrb' hrb2
    go_wp2_with fail
    go_loopw [42] (fun v42 wr => ∃ j : Nat, v42 = .int .i64 (j : Int) ∧ j ≤ 3 ∧ Aside0 (CI Φ C s G nr j wr) ∧ Aside0 (TF base W6 wr)) (fun v42 _ => 3 - (intOf v42).toNat)
    case atStart => exact ⟨0, rfl, Nat.zero_le _, ⟨.inl ⟨rfl, HF6.out⟩⟩, ⟨TF.refl _ _⟩⟩
    case round =>
      obtain ⟨j, rfl, hj, HI, HT⟩ := hrel
      have hq := HT.out.blk _ _ _ _ HQ6.out (by decide) (by decide)
      have hh := HT.out.blk _ _ _ _ HH6.out (by decide) (by decide)
      have hrr := HT.out.blk _ _ _ _ HR6.out (by decide) (by decide)
      have hpp := HP6.out.tf HT.out
      have HQR := Aside0.mk hq
      have HHR := Aside0.mk hh
      have HPR := Aside0.mk hpp
      have HT0 : Aside0 (TG Z w wr) := ⟨(TG.of_below HB6.out HZW.out).trans (TG.of_tf HT.out HZ.out.1)⟩
      by_cases hlt : j < 3
      · have hlti : (j : Int) < 3 := by omega
        have b1 : decide ((j : Int) < 3) = true := decide_eq_true hlti
        have b2 : ((j : Int) < 3) = True := eq_true hlti
        have b3 : (j < 3) = True := eq_true hlt
        have b5 : (0 : Int) ≤ (j : Int) := Int.natCast_nonneg j
        have w2_ : wrap64 ((j : Int) + 1) = (j : Int) + 1 := by unfold wrap64; omega
        have HJ := Aside0.mk hlt
        rcases HI.out with ⟨hj0, hF⟩ | ⟨hj0, hz1, hF⟩ | ⟨hj0, hz1, hz2, hF⟩ | ⟨hj0, _⟩
        · have cr : wr.cell? ⟨rb, j, none⟩ = some (.func (.func 40) #[.pointer (some ⟨d, 0, none⟩)] #[]) := by rw [hj0]; exact (blk_cell hrr 0).trans rfl
          have HF := Aside0.mk hF
          have HJ0 := Aside0.mk hj0
          obtain ⟨E, hE⟩ : ∃ E, E = syncE s := ⟨_, rfl⟩
          have HE := Aside0.mk hE
          clear hlt hlti hj hq hh hrr hpp hj0 hF hE
          by_cases hE0 : E = 0
          · have HE0 : Aside0 (syncE s = 0) := ⟨by rw [← HE.out]; exact hE0⟩
            clear hE0
            go_wp2_with (go_at_call 40; (with_reducible refine (HA.out.sync HF.out).mono ?_); rw [HE0.out]; rintro e w7 ⟨rfl, hs, ht⟩; have HS7 := Aside0.mk hs; have HT7 := Aside0.mk (HT.out.trans ht); clear hs ht cr)
            go_roundw
            case rel => exact ⟨j + 1, by first | exact congrArg (Value.int .i64) w2_ | rfl, HJ.out, ⟨.inr (.inl ⟨by rw [HJ0.out], HE0.out, HS7.out⟩)⟩, HT7⟩
            case measure => exact meas_lt HJ.out (by first | exact congrArg (Value.int .i64) w2_ | rfl)
          · have e0 : (E == 0) = false := beq_eq_false_iff_ne.mpr hE0
            have e1 : (E != 0) = true := bne_iff_ne.mpr hE0
            have e2 : decide (E = 0) = false := decide_eq_false hE0
            have HEN : Aside0 (syncE s ≠ 0) := ⟨by rw [← HE.out]; exact hE0⟩
            clear hE0
            go_upto_region 11 with (go_at_call 40; (with_reducible refine (HA.out.sync HF.out).mono ?_); rw [← HE.out]; rintro e w7 ⟨rfl, hs, ht⟩; have HS7 := Aside0.mk (HA.out.more hs); have HT7 := Aside0.mk ht; clear hs ht cr)
            have HT8 : Aside0 (TG Z w w7) := ⟨HT0.out.trans (TG.of_tf HT7.out HZ.out.1)⟩
            have hp7 := HPR.out.tf HT7.out
            have hq7 := HT7.out.blk _ _ _ _ HQR.out (by decide) (by decide)
            have c0 : w7.cell? ⟨w.heap.size, 0, none⟩ = some (.pointer (some ⟨p, 0, none⟩)) := (blk_cell hq7 0).trans rfl
            have cp3 : w7.cell? ⟨p, 3, none⟩ = some (.bool false) := (blk_cell hp7 3).trans rfl
            have cf3 := blk_frozen hp7 3
            have HFI : Aside0 (Φ (C + 1) (w7.setCell ⟨p, 3, none⟩ (.bool true)) (stpD s G nr) ∧ TG Z w (w7.setCell ⟨p, 3, none⟩ (.bool true)) ∧ PG (w7.setCell ⟨p, 3, none⟩ (.bool true)) p d root gen true) := by
              unfold stpD
              rw [if_pos HEN.out]
              exact ⟨HA.out.set HS7.out hp7 3 _, HT8.out.trans (TG.set hp7 HZ.out.2 3 _), blk_put hp7 3 _ rfl⟩
            have HZS : Aside0 (stpE s G nr = E ∧ stpE s G nr ≠ 0) := by
              have he : stpE s G nr = E := by unfold stpE; rw [if_pos HEN.out]; exact HE.out.symm
              exact ⟨he, by rw [he, HE.out]; exact HEN.out⟩
            clear hp7 hq7
            go_wp2
            go_ret
            rw [HZS.out.1]
            exact ⟨by simp, HFI.out.1, HFI.out.2.1, fun h => absurd (HZS.out.1.trans h) HZS.out.2, fun _ => HFI.out.2.2⟩
        · have cr : wr.cell? ⟨rb, j, none⟩ = some (.func (.func 41) #[] #[.pointer (some ⟨w.heap.size, 0, none⟩), .pointer (some ⟨hb, 0, none⟩)]) := by rw [hj0]; exact (blk_cell hrr 1).trans rfl
          have HF := Aside0.mk hF
          have HJ0 := Aside0.mk (And.intro hj0 hz1)
          obtain ⟨E, hE⟩ : ∃ E, E = layE (syncD s) G nr := ⟨_, rfl⟩
          have HE := Aside0.mk hE
          have hcl := clos_calls HA.out p w.heap.size hb G nr HG.out.1 HG.out.2 HR.out.1 HR.out.2 wr hF (Nat.lt_of_succ_lt HC.out) hpp hq hh
          have HCL := Aside0.mk hcl
          clear hlt hlti hj hq hh hrr hpp hj0 hF hE hz1 hcl
          by_cases hE0 : E = 0
          · have HE0 : Aside0 (layE (syncD s) G nr = 0) := ⟨by rw [← HE.out]; exact hE0⟩
            clear hE0
            go_wp2_with (go_at_call 41; (with_reducible refine HCL.out.mono ?_); rw [HE0.out]; rintro e w7 ⟨rfl, hs, ht⟩; have HS7 := Aside0.mk hs; have HT7 := Aside0.mk (HT.out.trans ht); clear hs ht cr)
            go_roundw
            case rel => exact ⟨j + 1, by first | exact congrArg (Value.int .i64) w2_ | rfl, HJ.out, ⟨.inr (.inr (.inl ⟨by rw [HJ0.out.1], HJ0.out.2, HE0.out, HS7.out⟩))⟩, HT7⟩
            case measure => exact meas_lt HJ.out (by first | exact congrArg (Value.int .i64) w2_ | rfl)
          · have e0 : (E == 0) = false := beq_eq_false_iff_ne.mpr hE0
            have e1 : (E != 0) = true := bne_iff_ne.mpr hE0
            have e2 : decide (E = 0) = false := decide_eq_false hE0
            have HEN : Aside0 (layE (syncD s) G nr ≠ 0) := ⟨by rw [← HE.out]; exact hE0⟩
            clear hE0
            go_upto_region 11 with (go_at_call 41; (with_reducible refine HCL.out.mono ?_); rw [← HE.out]; rintro e w7 ⟨rfl, hs, ht⟩; have HS7 := Aside0.mk hs; have HT7 := Aside0.mk ht; clear hs ht cr)
            have HT8 : Aside0 (TG Z w w7) := ⟨HT0.out.trans (TG.of_tf HT7.out HZ.out.1)⟩
            have hp7 := HPR.out.tf HT7.out
            have hq7 := HT7.out.blk _ _ _ _ HQR.out (by decide) (by decide)
            have c0 : w7.cell? ⟨w.heap.size, 0, none⟩ = some (.pointer (some ⟨p, 0, none⟩)) := (blk_cell hq7 0).trans rfl
            have cp3 : w7.cell? ⟨p, 3, none⟩ = some (.bool false) := (blk_cell hp7 3).trans rfl
            have cf3 := blk_frozen hp7 3
            have HFI : Aside0 (Φ (C + 1) (w7.setCell ⟨p, 3, none⟩ (.bool true)) (stpD s G nr) ∧ TG Z w (w7.setCell ⟨p, 3, none⟩ (.bool true)) ∧ PG (w7.setCell ⟨p, 3, none⟩ (.bool true)) p d root gen true) := by
              unfold stpD
              rw [if_neg (fun h => h HJ0.out.2), if_pos HEN.out]
              exact ⟨HA.out.set HS7.out hp7 3 _, HT8.out.trans (TG.set hp7 HZ.out.2 3 _), blk_put hp7 3 _ rfl⟩
            have HZS : Aside0 (stpE s G nr = E ∧ stpE s G nr ≠ 0) := by
              have he : stpE s G nr = E := by unfold stpE; rw [if_neg (fun h => h HJ0.out.2), if_pos HEN.out]; exact HE.out.symm
              exact ⟨he, by rw [he, HE.out]; exact HEN.out⟩
            clear hp7 hq7
            go_wp2
            go_ret
            rw [HZS.out.1]
            exact ⟨by simp, HFI.out.1, HFI.out.2.1, fun h => absurd (HZS.out.1.trans h) HZS.out.2, fun _ => HFI.out.2.2⟩
        · have cr : wr.cell? ⟨rb, j, none⟩ = some (.func (.func 40) #[.pointer (some ⟨d, 0, none⟩)] #[]) := by rw [hj0]; exact (blk_cell hrr 2).trans rfl
          have HF := Aside0.mk hF
          have HJ0 := Aside0.mk (And.intro hj0 (And.intro hz1 hz2))
          obtain ⟨E, hE⟩ : ∃ E, E = syncE (layD (syncD s) G nr) := ⟨_, rfl⟩
          have HE := Aside0.mk hE
          clear hlt hlti hj hq hh hrr hpp hj0 hF hE hz1 hz2
          by_cases hE0 : E = 0
          · have HE0 : Aside0 (syncE (layD (syncD s) G nr) = 0) := ⟨by rw [← HE.out]; exact hE0⟩
            clear hE0
            go_wp2_with (go_at_call 40; (with_reducible refine (HA.out.sync HF.out).mono ?_); rw [HE0.out]; rintro e w7 ⟨rfl, hs, ht⟩; have HS7 := Aside0.mk hs; have HT7 := Aside0.mk (HT.out.trans ht); clear hs ht cr)
            go_roundw
            case rel => exact ⟨j + 1, by first | exact congrArg (Value.int .i64) w2_ | rfl, HJ.out, ⟨.inr (.inr (.inr ⟨by rw [HJ0.out.1], HJ0.out.2.1, HJ0.out.2.2, HE0.out, HS7.out⟩))⟩, HT7⟩
            case measure => exact meas_lt HJ.out (by first | exact congrArg (Value.int .i64) w2_ | rfl)
          · have e0 : (E == 0) = false := beq_eq_false_iff_ne.mpr hE0
            have e1 : (E != 0) = true := bne_iff_ne.mpr hE0
            have e2 : decide (E = 0) = false := decide_eq_false hE0
            have HEN : Aside0 (syncE (layD (syncD s) G nr) ≠ 0) := ⟨by rw [← HE.out]; exact hE0⟩
            clear hE0
            go_upto_region 11 with (go_at_call 40; (with_reducible refine (HA.out.sync HF.out).mono ?_); rw [← HE.out]; rintro e w7 ⟨rfl, hs, ht⟩; have HS7 := Aside0.mk hs; have HT7 := Aside0.mk ht; clear hs ht cr)
            have HT8 : Aside0 (TG Z w w7) := ⟨HT0.out.trans (TG.of_tf HT7.out HZ.out.1)⟩
            have hp7 := HPR.out.tf HT7.out
            have hq7 := HT7.out.blk _ _ _ _ HQR.out (by decide) (by decide)
            have c0 : w7.cell? ⟨w.heap.size, 0, none⟩ = some (.pointer (some ⟨p, 0, none⟩)) := (blk_cell hq7 0).trans rfl
            have cp3 : w7.cell? ⟨p, 3, none⟩ = some (.bool false) := (blk_cell hp7 3).trans rfl
            have cf3 := blk_frozen hp7 3
            have HFI : Aside0 (Φ (C + 1) (w7.setCell ⟨p, 3, none⟩ (.bool true)) (stpD s G nr) ∧ TG Z w (w7.setCell ⟨p, 3, none⟩ (.bool true)) ∧ PG (w7.setCell ⟨p, 3, none⟩ (.bool true)) p d root gen true) := by
              unfold stpD
              rw [if_neg (fun h => h HJ0.out.2.1), if_neg (fun h => h HJ0.out.2.2)]
              exact ⟨HA.out.set HS7.out hp7 3 _, HT8.out.trans (TG.set hp7 HZ.out.2 3 _), blk_put hp7 3 _ rfl⟩
            have HZS : Aside0 (stpE s G nr = E ∧ stpE s G nr ≠ 0) := by
              have he : stpE s G nr = E := by unfold stpE; rw [if_neg (fun h => h HJ0.out.2.1), if_neg (fun h => h HJ0.out.2.2)]; exact HE.out.symm
              exact ⟨he, by rw [he, HE.out]; exact HEN.out⟩
            clear hp7 hq7
            go_wp2
            go_ret
            rw [HZS.out.1]
            exact ⟨by simp, HFI.out.1, HFI.out.2.1, fun h => absurd (HZS.out.1.trans h) HZS.out.2, fun _ => HFI.out.2.2⟩
        · exact absurd hlt (by rw [hj0]; decide)
      · have hj3 : j = 3 := by omega
        have b1 : decide ((j : Int) < 3) = false := decide_eq_false (by omega)
        have b2 : ((j : Int) < 3) = False := eq_false (by omega)
        have b3 : (j < 3) = False := eq_false hlt
        rcases HI.out with ⟨hj0, _⟩ | ⟨hj0, _⟩ | ⟨hj0, _⟩ | ⟨hj0, hz1, hz2, hz3, hF⟩
        · omega
        · omega
        · omega
        · have c0 : wr.cell? ⟨w.heap.size, 0, none⟩ = some (.pointer (some ⟨p, 0, none⟩)) := (blk_cell hq 0).trans rfl
          have ch0 : wr.cell? ⟨hb, 0, none⟩ = some (.int .i64 nr) := (blk_cell hh 0).trans rfl
          have ch1 : wr.cell? ⟨hb, 1, none⟩ = some (.int .i64 G) := (blk_cell hh 1).trans rfl
          have cp1 : wr.cell? ⟨p, 1, none⟩ = some (.int .i64 root) := (blk_cell hpp 1).trans rfl
          have cp2 : wr.cell? ⟨p, 2, none⟩ = some (.int .i64 gen) := (blk_cell hpp 2).trans rfl
          have cf1 := blk_frozen hpp 1
          have cf2 := blk_frozen hpp 2
          have HFI : Aside0 (Φ (C + 1) ((wr.setCell ⟨p, 1, none⟩ (.int .i64 nr)).setCell ⟨p, 2, none⟩ (.int .i64 G)) (syncD (layD (syncD s) G nr)) ∧ TG Z w ((wr.setCell ⟨p, 1, none⟩ (.int .i64 nr)).setCell ⟨p, 2, none⟩ (.int .i64 G)) ∧ PG ((wr.setCell ⟨p, 1, none⟩ (.int .i64 nr)).setCell ⟨p, 2, none⟩ (.int .i64 G)) p d nr G false) := by
            have hb1 := blk_put hpp 1 (.int .i64 nr) rfl
            exact ⟨HA.out.set (HA.out.set hF hpp 1 _) hb1 2 _, (HT0.out.trans (TG.set hpp HZ.out.2 1 _)).trans (TG.set hb1 HZ.out.2 2 _), blk_put hb1 2 _ rfl⟩
          have HZS : Aside0 (stpE s G nr = 0 ∧ stpD s G nr = syncD (layD (syncD s) G nr)) := ⟨by unfold stpE; rw [if_neg (fun h => h hz1), if_neg (fun h => h hz2)]; exact hz3, by unfold stpD; rw [if_neg (fun h => h hz1), if_neg (fun h => h hz2)]⟩
          clear hj3 hlt hj hj0 hz1 hz2 hz3 hF hq hh hrr hpp
          go_wp2
          go_ret
          rw [HZS.out.1, HZS.out.2]
          exact ⟨by simp, HFI.out.1, HFI.out.2.1, fun _ => HFI.out.2.2, fun h => absurd rfl h⟩
  · have n3 : (nr != 0) = true := bne_iff_ne.mpr hn
    have n4 : (nr == 0) = false := beq_eq_false_iff_ne.mpr hn
    have n6 : decide (nr = 0) = false := decide_eq_false hn
    have n5 : hasN nr s.pages = true := by
      unfold badR at hbad
      rw [decide_eq_true hn] at hbad
      simpa using hbad
    rw [n5] at HCS
    clear hn hbad n5
    go_upto_region 5 with (go_at_call 39; (with_reducible refine (HCS.out _ HB1.out).mono ?_); rintro e w1 ⟨rfl, hb⟩; have HB1' := Aside0.mk (below_step HB1.out hb); have HQ1' := Aside0.mk (blk_below HQ1.out hb); clear hb)
    refine at_world (fun W => W.heap[w.heap.size]? = some (.cells #[.pointer (some ⟨p, 0, none⟩)] 29 (0, 0)) ∧ Below w.heap.size w W) ⟨HQ1'.out, HB1'.out⟩ (fun W2 hW => ?_)
    have HQ2 := Aside0.mk hW.1
    have HB2 := Aside0.mk hW.2
    clear hW HQ1 HB1 HQ1' HB1' c0 c3 n3 n4 n6
    have hp2 := HP.out.step HB2.out
    have c0 : W2.cell? ⟨w.heap.size, 0, none⟩ = some (.pointer (some ⟨p, 0, none⟩)) := (blk_cell HQ2.out 0).trans rfl
    have c2 : W2.cell? ⟨p, 2, none⟩ = some (.int .i64 gen) := (blk_cell hp2 2).trans rfl
    have hgg : IntKind.i64.wrap (gen + 1) = G := by rw [← HGG.out]; exact hw1
    have hgg2 : wrap64 (gen + 1) = G := by rw [← HGG.out]; exact hw2
    clear hp2
    go_upto_region 6 with fail
    obtain ⟨hb, hhb⟩ : ∃ hb, hb = W2.heap.size := ⟨_, rfl⟩
    have hbh : (W2.alloc (.cells #[.int .i64 nr, .int .i64 G] 81)).heap[hb]? = some (.cells #[.int .i64 nr, .int .i64 G] 81 (0, 0)) := by rw [hhb]; exact Deep.blk_alloc_new W2 (.cells #[.int .i64 nr, .int .i64 G] 81)
    rw [← hhb]
    clear hhb c0 c2 hgg hgg2
    refine at_world (fun W => W.heap[hb]? = some (.cells #[.int .i64 nr, .int .i64 G] 81 (0, 0)) ∧ Below W2.heap.size W2 W) ⟨hbh, below_alloc (Below.refl _ _) _⟩ (fun W hW => ?_)
    have HW2 := Aside0.mk (below_step hW.2 (below_drew1 (Below.refl _ _)))
    have HH0 : Aside0 (W.drew.heap[hb]? = some (.cells #[.int .i64 nr, .int .i64 G] 81 (0, 0))) := ⟨hW.1⟩
    have HQ0 := Aside0.mk (blk_below HQ2.out HW2.out)
    have HB0 := Aside0.mk (below_step HB2.out HW2.out)
    have HP0 := Aside0.mk (HP.out.step HB0.out)
    clear hW hbh
    refine start_ (n := 14) (S := fun w' => w'.cell? ⟨w.heap.size, 0, none⟩ = some (.pointer (some ⟨p, 0, none⟩)) ∧ w'.cell? ⟨p, 0, none⟩ = some (.pointer (some ⟨d, 0, none⟩))) (ds := [11]) #[false, false, false, false, false, false, false, false, false, false, false, false, false, false] (by kernel_rfl) rfl rfl ⟨(blk_cell HQ0.out 0).trans rfl, (blk_cell HP0.out 0).trans rfl⟩ (fun hHeld => ?_)
    refine pure_ (i := 5) (N := some 34) (v := ?_) (a' := ?_) #[false, false, false, false, false, true, false, false, false, false, false, false, false, false] rfl rfl (by kernel_rfl) (fun _ _ _ h => h) (Or.inl ⟨by rfl, ?_⟩) ?_ ?_
    rotate_left
    · intro w'
      go_simp
      with_reducible rfl
    rotate_left
    · simp only [Act.put, List.setIfInBounds_toArray, List.set_cons_zero, List.set_cons_succ, i64_w, i32_w]
      rfl
    refine pure_ (i := 13) (N := some 42) (v := ?_) (a' := ?_) #[false, false, false, false, false, true, false, false, false, false, false, false, false, true] rfl rfl (by kernel_rfl) (fun _ _ _ h => h) (Or.inl ⟨by rfl, ?_⟩) ?_ ?_
    rotate_left
    · intro w'
      go_simp
      with_reducible rfl
    rotate_left
    · simp only [Act.put, List.setIfInBounds_toArray, List.set_cons_zero, List.set_cons_succ, i64_w, i32_w]
      rfl
    refine take_ (i := 0) (N := some 29) (v := ?_) (a' := ?_) #[true, false, false, false, false, true, false, false, false, false, false, false, false, true] rfl rfl (by kernel_rfl) (fun _ _ _ h => h) (Or.inl ⟨by rfl, ?_⟩) hHeld ?_ ?_
    rotate_left
    · rintro w' ⟨s0, s1⟩
      go_simp
      with_reducible rfl
    rotate_left
    · simp only [Act.put, List.setIfInBounds_toArray, List.set_cons_zero, List.set_cons_succ, i64_w, i32_w]
      rfl
    refine pure_ (i := 1) (N := some 30) (v := ?_) (a' := ?_) #[true, true, false, false, false, true, false, false, false, false, false, false, false, true] rfl rfl (by kernel_rfl) (fun _ _ _ h => h) (Or.inl ⟨by rfl, ?_⟩) ?_ ?_
    rotate_left
    · intro w'
      go_simp
      with_reducible rfl
    rotate_left
    · simp only [Act.put, List.setIfInBounds_toArray, List.set_cons_zero, List.set_cons_succ, i64_w, i32_w]
      rfl
    refine pure_ (i := 2) (N := some 31) (v := ?_) (a' := ?_) #[true, true, true, false, false, true, false, false, false, false, false, false, false, true] rfl rfl (by kernel_rfl) (fun _ _ _ h => h) (Or.inl ⟨by rfl, ?_⟩) ?_ ?_
    rotate_left
    · intro w'
      go_simp
      with_reducible rfl
    rotate_left
    · simp only [Act.put, List.setIfInBounds_toArray, List.set_cons_zero, List.set_cons_succ, i64_w, i32_w]
      rfl
    refine take_ (i := 3) (N := some 32) (v := ?_) (a' := ?_) #[true, true, true, true, false, true, false, false, false, false, false, false, false, true] rfl rfl (by kernel_rfl) (fun _ _ _ h => h) (Or.inl ⟨by rfl, ?_⟩) hHeld ?_ ?_
    rotate_left
    · rintro w' ⟨s0, s1⟩
      go_simp
      with_reducible rfl
    rotate_left
    · simp only [Act.put, List.setIfInBounds_toArray, List.set_cons_zero, List.set_cons_succ, i64_w, i32_w]
      rfl
    refine pure_ (i := 4) (N := some 33) (v := ?_) (a' := ?_) #[true, true, true, true, true, true, false, false, false, false, false, false, false, true] rfl rfl (by kernel_rfl) (fun _ _ _ h => h) (Or.inl ⟨by rfl, ?_⟩) ?_ ?_
    rotate_left
    · intro w'
      go_simp
      with_reducible rfl
    rotate_left
    · simp only [Act.put, List.setIfInBounds_toArray, List.set_cons_zero, List.set_cons_succ, i64_w, i32_w]
      rfl
    refine take_ (i := 6) (N := some 35) (v := ?_) (a' := ?_) #[true, true, true, true, true, true, true, false, false, false, false, false, false, true] rfl rfl (by kernel_rfl) (fun _ _ _ h => h) (Or.inl ⟨by rfl, ?_⟩) hHeld ?_ ?_
    rotate_left
    · rintro w' ⟨s0, s1⟩
      go_simp
      with_reducible rfl
    rotate_left
    · simp only [Act.put, List.setIfInBounds_toArray, List.set_cons_zero, List.set_cons_succ, i64_w, i32_w]
      rfl
    refine pure_ (i := 7) (N := some 36) (v := ?_) (a' := ?_) #[true, true, true, true, true, true, true, true, false, false, false, false, false, true] rfl rfl (by kernel_rfl) (fun _ _ _ h => h) (Or.inl ⟨by rfl, ?_⟩) ?_ ?_
    rotate_left
    · intro w'
      go_simp
      with_reducible rfl
    rotate_left
    · simp only [Act.put, List.setIfInBounds_toArray, List.set_cons_zero, List.set_cons_succ, i64_w, i32_w]
      rfl
    refine pure_ (i := 8) (N := some 37) (v := ?_) (a' := ?_) #[true, true, true, true, true, true, true, true, true, false, false, false, false, true] rfl rfl (by kernel_rfl) (fun _ _ _ h => h) (Or.inl ⟨by rfl, ?_⟩) ?_ ?_
    rotate_left
    · intro w'
      go_simp
      with_reducible rfl
    rotate_left
    · simp only [Act.put, List.setIfInBounds_toArray, List.set_cons_zero, List.set_cons_succ, i64_w, i32_w]
      rfl
    refine take_ (i := 9) (N := some 38) (v := ?_) (a' := ?_) #[true, true, true, true, true, true, true, true, true, true, false, false, false, true] rfl rfl (by kernel_rfl) (fun _ _ _ h => h) (Or.inl ⟨by rfl, ?_⟩) hHeld ?_ ?_
    rotate_left
    · rintro w' ⟨s0, s1⟩
      go_simp
      with_reducible rfl
    rotate_left
    · simp only [Act.put, List.setIfInBounds_toArray, List.set_cons_zero, List.set_cons_succ, i64_w, i32_w]
      rfl
    refine pure_ (i := 10) (N := some 39) (v := ?_) (a' := ?_) #[true, true, true, true, true, true, true, true, true, true, true, false, false, true] rfl rfl (by kernel_rfl) (fun _ _ _ h => h) (Or.inl ⟨by rfl, ?_⟩) ?_ ?_
    rotate_left
    · intro w'
      go_simp
      with_reducible rfl
    rotate_left
    · simp only [Act.put, List.setIfInBounds_toArray, List.set_cons_zero, List.set_cons_succ, i64_w, i32_w]
      rfl
    refine last_ (i := 11) (N := some 40) #[true, true, true, true, true, true, true, true, true, true, true, true, false, true] rfl rfl (by kernel_rfl) (by decide) (fun K hK => ?_)
    refine value_ (w1 := W.drew.alloc (.cells #[.func (.func 40) #[.pointer (some ⟨d, 0, none⟩)] #[], .func (.func 41) #[] #[.pointer (some ⟨w.heap.size, 0, none⟩), .pointer (some ⟨hb, 0, none⟩)], .func (.func 40) #[.pointer (some ⟨d, 0, none⟩)] #[]] 85)) (v := .slice (some ⟨W.drew.heap.size, 0, none⟩) 3 3) (by rfl) rfl (exec_build3 W.drew (.tmp 33) (.tmp 34) (.tmp 39) rfl (by rfl) (by rfl) (by rfl)) ?_
    clear hHeld
    refine hK.out _ _ ?_
    clear hK K
    refine norm_ (a' := ?_) ?_ ?_
    rotate_left
    · show Act.put _ (some 40) _ = _
      simp only [Act.put, List.setIfInBounds_toArray, List.set_cons_zero, List.set_cons_succ, i64_w, i32_w]
      rfl
    refine pure_ (i := 12) (N := some 41) (v := ?_) (a' := ?_) #[true, true, true, true, true, true, true, true, true, true, true, true, true, true] rfl rfl (by kernel_rfl) (fun _ _ _ h => h) (Or.inl ⟨by rfl, ?_⟩) ?_ ?_
    rotate_left
    · intro w'
      go_simp
      with_reducible rfl
    rotate_left
    · simp only [Act.put, List.setIfInBounds_toArray, List.set_cons_zero, List.set_cons_succ, i64_w, i32_w]
      rfl
    refine done_ (by kernel_rfl) ?_
    obtain ⟨rb, hrb⟩ : ∃ rb, rb = W.drew.heap.size := ⟨_, rfl⟩
    obtain ⟨W6, hW6⟩ : ∃ W6, W6 = W.drew.alloc (.cells #[.func (.func 40) #[.pointer (some ⟨d, 0, none⟩)] #[], .func (.func 41) #[] #[.pointer (some ⟨w.heap.size, 0, none⟩), .pointer (some ⟨hb, 0, none⟩)], .func (.func 40) #[.pointer (some ⟨d, 0, none⟩)] #[]] 85) := ⟨_, rfl⟩
    have hb6 : Below W.drew.heap.size W.drew W6 := by rw [hW6]; exact below_alloc (Below.refl _ _) _
    have hr6 : W6.heap[rb]? = some (.cells #[.func (.func 40) #[.pointer (some ⟨d, 0, none⟩)] #[], .func (.func 41) #[] #[.pointer (some ⟨w.heap.size, 0, none⟩), .pointer (some ⟨hb, 0, none⟩)], .func (.func 40) #[.pointer (some ⟨d, 0, none⟩)] #[]] 85 (0, 0)) := by rw [hW6, hrb]; exact Deep.blk_alloc_new W.drew _
    have HR6 := Aside0.mk hr6
    have HH6 := Aside0.mk (blk_below HH0.out hb6)
    have HQ6 := Aside0.mk (blk_below HQ0.out hb6)
    have HP6 := Aside0.mk (HP0.out.step hb6)
    have HB6 := Aside0.mk (below_step HB0.out hb6)
    have HF6 := Aside0.mk (HA.out.step HPH.out HB6.out)
    have hrb' : (W.drew.heap.size) = rb := hrb.symm
    have hrb2 : (W.heap.size) = rb := hrb.symm
    first | rw [← hW6] | skip
    first | rw [hrb'] | rw [hrb2] | skip
    clear hb6 hr6 hW6 hrb hrb' hrb2
    go_wp2_with fail
    go_loopw [42] (fun v42 wr => ∃ j : Nat, v42 = .int .i64 (j : Int) ∧ j ≤ 3 ∧ Aside0 (CI Φ C s G nr j wr) ∧ Aside0 (TF base W6 wr)) (fun v42 _ => 3 - (intOf v42).toNat)
    case atStart => exact ⟨0, rfl, Nat.zero_le _, ⟨.inl ⟨rfl, HF6.out⟩⟩, ⟨TF.refl _ _⟩⟩
    case round =>
      obtain ⟨j, rfl, hj, HI, HT⟩ := hrel
      have hq := HT.out.blk _ _ _ _ HQ6.out (by decide) (by decide)
      have hh := HT.out.blk _ _ _ _ HH6.out (by decide) (by decide)
      have hrr := HT.out.blk _ _ _ _ HR6.out (by decide) (by decide)
      have hpp := HP6.out.tf HT.out
      have HQR := Aside0.mk hq
      have HHR := Aside0.mk hh
      have HPR := Aside0.mk hpp
      have HT0 : Aside0 (TG Z w wr) := ⟨(TG.of_below HB6.out HZW.out).trans (TG.of_tf HT.out HZ.out.1)⟩
      by_cases hlt : j < 3
      · have hlti : (j : Int) < 3 := by omega
        have b1 : decide ((j : Int) < 3) = true := decide_eq_true hlti
        have b2 : ((j : Int) < 3) = True := eq_true hlti
        have b3 : (j < 3) = True := eq_true hlt
        have b5 : (0 : Int) ≤ (j : Int) := Int.natCast_nonneg j
        have w2_ : wrap64 ((j : Int) + 1) = (j : Int) + 1 := by unfold wrap64; omega
        have HJ := Aside0.mk hlt
        rcases HI.out with ⟨hj0, hF⟩ | ⟨hj0, hz1, hF⟩ | ⟨hj0, hz1, hz2, hF⟩ | ⟨hj0, _⟩
        · have cr : wr.cell? ⟨rb, j, none⟩ = some (.func (.func 40) #[.pointer (some ⟨d, 0, none⟩)] #[]) := by rw [hj0]; exact (blk_cell hrr 0).trans rfl
          have HF := Aside0.mk hF
          have HJ0 := Aside0.mk hj0
          obtain ⟨E, hE⟩ : ∃ E, E = syncE s := ⟨_, rfl⟩
          have HE := Aside0.mk hE
          clear hlt hlti hj hq hh hrr hpp hj0 hF hE
          by_cases hE0 : E = 0
          · have HE0 : Aside0 (syncE s = 0) := ⟨by rw [← HE.out]; exact hE0⟩
            clear hE0
            go_wp2_with (go_at_call 40; (with_reducible refine (HA.out.sync HF.out).mono ?_); rw [HE0.out]; rintro e w7 ⟨rfl, hs, ht⟩; have HS7 := Aside0.mk hs; have HT7 := Aside0.mk (HT.out.trans ht); clear hs ht cr)
            go_roundw
            case rel => exact ⟨j + 1, by first | exact congrArg (Value.int .i64) w2_ | rfl, HJ.out, ⟨.inr (.inl ⟨by rw [HJ0.out], HE0.out, HS7.out⟩)⟩, HT7⟩
            case measure => exact meas_lt HJ.out (by first | exact congrArg (Value.int .i64) w2_ | rfl)
          · have e0 : (E == 0) = false := beq_eq_false_iff_ne.mpr hE0
            have e1 : (E != 0) = true := bne_iff_ne.mpr hE0
            have e2 : decide (E = 0) = false := decide_eq_false hE0
            have HEN : Aside0 (syncE s ≠ 0) := ⟨by rw [← HE.out]; exact hE0⟩
            clear hE0
            go_upto_region 11 with (go_at_call 40; (with_reducible refine (HA.out.sync HF.out).mono ?_); rw [← HE.out]; rintro e w7 ⟨rfl, hs, ht⟩; have HS7 := Aside0.mk (HA.out.more hs); have HT7 := Aside0.mk ht; clear hs ht cr)
            have HT8 : Aside0 (TG Z w w7) := ⟨HT0.out.trans (TG.of_tf HT7.out HZ.out.1)⟩
            have hp7 := HPR.out.tf HT7.out
            have hq7 := HT7.out.blk _ _ _ _ HQR.out (by decide) (by decide)
            have c0 : w7.cell? ⟨w.heap.size, 0, none⟩ = some (.pointer (some ⟨p, 0, none⟩)) := (blk_cell hq7 0).trans rfl
            have cp3 : w7.cell? ⟨p, 3, none⟩ = some (.bool false) := (blk_cell hp7 3).trans rfl
            have cf3 := blk_frozen hp7 3
            have HFI : Aside0 (Φ (C + 1) (w7.setCell ⟨p, 3, none⟩ (.bool true)) (stpD s G nr) ∧ TG Z w (w7.setCell ⟨p, 3, none⟩ (.bool true)) ∧ PG (w7.setCell ⟨p, 3, none⟩ (.bool true)) p d root gen true) := by
              unfold stpD
              rw [if_pos HEN.out]
              exact ⟨HA.out.set HS7.out hp7 3 _, HT8.out.trans (TG.set hp7 HZ.out.2 3 _), blk_put hp7 3 _ rfl⟩
            have HZS : Aside0 (stpE s G nr = E ∧ stpE s G nr ≠ 0) := by
              have he : stpE s G nr = E := by unfold stpE; rw [if_pos HEN.out]; exact HE.out.symm
              exact ⟨he, by rw [he, HE.out]; exact HEN.out⟩
            clear hp7 hq7
            go_wp2
            go_ret
            rw [HZS.out.1]
            exact ⟨by simp, HFI.out.1, HFI.out.2.1, fun h => absurd (HZS.out.1.trans h) HZS.out.2, fun _ => HFI.out.2.2⟩
        · have cr : wr.cell? ⟨rb, j, none⟩ = some (.func (.func 41) #[] #[.pointer (some ⟨w.heap.size, 0, none⟩), .pointer (some ⟨hb, 0, none⟩)]) := by rw [hj0]; exact (blk_cell hrr 1).trans rfl
          have HF := Aside0.mk hF
          have HJ0 := Aside0.mk (And.intro hj0 hz1)
          obtain ⟨E, hE⟩ : ∃ E, E = layE (syncD s) G nr := ⟨_, rfl⟩
          have HE := Aside0.mk hE
          have hcl := clos_calls HA.out p w.heap.size hb G nr HG.out.1 HG.out.2 HR.out.1 HR.out.2 wr hF (Nat.lt_of_succ_lt HC.out) hpp hq hh
          have HCL := Aside0.mk hcl
          clear hlt hlti hj hq hh hrr hpp hj0 hF hE hz1 hcl
          by_cases hE0 : E = 0
          · have HE0 : Aside0 (layE (syncD s) G nr = 0) := ⟨by rw [← HE.out]; exact hE0⟩
            clear hE0
            go_wp2_with (go_at_call 41; (with_reducible refine HCL.out.mono ?_); rw [HE0.out]; rintro e w7 ⟨rfl, hs, ht⟩; have HS7 := Aside0.mk hs; have HT7 := Aside0.mk (HT.out.trans ht); clear hs ht cr)
            go_roundw
            case rel => exact ⟨j + 1, by first | exact congrArg (Value.int .i64) w2_ | rfl, HJ.out, ⟨.inr (.inr (.inl ⟨by rw [HJ0.out.1], HJ0.out.2, HE0.out, HS7.out⟩))⟩, HT7⟩
            case measure => exact meas_lt HJ.out (by first | exact congrArg (Value.int .i64) w2_ | rfl)
          · have e0 : (E == 0) = false := beq_eq_false_iff_ne.mpr hE0
            have e1 : (E != 0) = true := bne_iff_ne.mpr hE0
            have e2 : decide (E = 0) = false := decide_eq_false hE0
            have HEN : Aside0 (layE (syncD s) G nr ≠ 0) := ⟨by rw [← HE.out]; exact hE0⟩
            clear hE0
            go_upto_region 11 with (go_at_call 41; (with_reducible refine HCL.out.mono ?_); rw [← HE.out]; rintro e w7 ⟨rfl, hs, ht⟩; have HS7 := Aside0.mk hs; have HT7 := Aside0.mk ht; clear hs ht cr)
            have HT8 : Aside0 (TG Z w w7) := ⟨HT0.out.trans (TG.of_tf HT7.out HZ.out.1)⟩
            have hp7 := HPR.out.tf HT7.out
            have hq7 := HT7.out.blk _ _ _ _ HQR.out (by decide) (by decide)
            have c0 : w7.cell? ⟨w.heap.size, 0, none⟩ = some (.pointer (some ⟨p, 0, none⟩)) := (blk_cell hq7 0).trans rfl
            have cp3 : w7.cell? ⟨p, 3, none⟩ = some (.bool false) := (blk_cell hp7 3).trans rfl
            have cf3 := blk_frozen hp7 3
            have HFI : Aside0 (Φ (C + 1) (w7.setCell ⟨p, 3, none⟩ (.bool true)) (stpD s G nr) ∧ TG Z w (w7.setCell ⟨p, 3, none⟩ (.bool true)) ∧ PG (w7.setCell ⟨p, 3, none⟩ (.bool true)) p d root gen true) := by
              unfold stpD
              rw [if_neg (fun h => h HJ0.out.2), if_pos HEN.out]
              exact ⟨HA.out.set HS7.out hp7 3 _, HT8.out.trans (TG.set hp7 HZ.out.2 3 _), blk_put hp7 3 _ rfl⟩
            have HZS : Aside0 (stpE s G nr = E ∧ stpE s G nr ≠ 0) := by
              have he : stpE s G nr = E := by unfold stpE; rw [if_neg (fun h => h HJ0.out.2), if_pos HEN.out]; exact HE.out.symm
              exact ⟨he, by rw [he, HE.out]; exact HEN.out⟩
            clear hp7 hq7
            go_wp2
            go_ret
            rw [HZS.out.1]
            exact ⟨by simp, HFI.out.1, HFI.out.2.1, fun h => absurd (HZS.out.1.trans h) HZS.out.2, fun _ => HFI.out.2.2⟩
        · have cr : wr.cell? ⟨rb, j, none⟩ = some (.func (.func 40) #[.pointer (some ⟨d, 0, none⟩)] #[]) := by rw [hj0]; exact (blk_cell hrr 2).trans rfl
          have HF := Aside0.mk hF
          have HJ0 := Aside0.mk (And.intro hj0 (And.intro hz1 hz2))
          obtain ⟨E, hE⟩ : ∃ E, E = syncE (layD (syncD s) G nr) := ⟨_, rfl⟩
          have HE := Aside0.mk hE
          clear hlt hlti hj hq hh hrr hpp hj0 hF hE hz1 hz2
          by_cases hE0 : E = 0
          · have HE0 : Aside0 (syncE (layD (syncD s) G nr) = 0) := ⟨by rw [← HE.out]; exact hE0⟩
            clear hE0
            go_wp2_with (go_at_call 40; (with_reducible refine (HA.out.sync HF.out).mono ?_); rw [HE0.out]; rintro e w7 ⟨rfl, hs, ht⟩; have HS7 := Aside0.mk hs; have HT7 := Aside0.mk (HT.out.trans ht); clear hs ht cr)
            go_roundw
            case rel => exact ⟨j + 1, by first | exact congrArg (Value.int .i64) w2_ | rfl, HJ.out, ⟨.inr (.inr (.inr ⟨by rw [HJ0.out.1], HJ0.out.2.1, HJ0.out.2.2, HE0.out, HS7.out⟩))⟩, HT7⟩
            case measure => exact meas_lt HJ.out (by first | exact congrArg (Value.int .i64) w2_ | rfl)
          · have e0 : (E == 0) = false := beq_eq_false_iff_ne.mpr hE0
            have e1 : (E != 0) = true := bne_iff_ne.mpr hE0
            have e2 : decide (E = 0) = false := decide_eq_false hE0
            have HEN : Aside0 (syncE (layD (syncD s) G nr) ≠ 0) := ⟨by rw [← HE.out]; exact hE0⟩
            clear hE0
            go_upto_region 11 with (go_at_call 40; (with_reducible refine (HA.out.sync HF.out).mono ?_); rw [← HE.out]; rintro e w7 ⟨rfl, hs, ht⟩; have HS7 := Aside0.mk hs; have HT7 := Aside0.mk ht; clear hs ht cr)
            have HT8 : Aside0 (TG Z w w7) := ⟨HT0.out.trans (TG.of_tf HT7.out HZ.out.1)⟩
            have hp7 := HPR.out.tf HT7.out
            have hq7 := HT7.out.blk _ _ _ _ HQR.out (by decide) (by decide)
            have c0 : w7.cell? ⟨w.heap.size, 0, none⟩ = some (.pointer (some ⟨p, 0, none⟩)) := (blk_cell hq7 0).trans rfl
            have cp3 : w7.cell? ⟨p, 3, none⟩ = some (.bool false) := (blk_cell hp7 3).trans rfl
            have cf3 := blk_frozen hp7 3
            have HFI : Aside0 (Φ (C + 1) (w7.setCell ⟨p, 3, none⟩ (.bool true)) (stpD s G nr) ∧ TG Z w (w7.setCell ⟨p, 3, none⟩ (.bool true)) ∧ PG (w7.setCell ⟨p, 3, none⟩ (.bool true)) p d root gen true) := by
              unfold stpD
              rw [if_neg (fun h => h HJ0.out.2.1), if_neg (fun h => h HJ0.out.2.2)]
              exact ⟨HA.out.set HS7.out hp7 3 _, HT8.out.trans (TG.set hp7 HZ.out.2 3 _), blk_put hp7 3 _ rfl⟩
            have HZS : Aside0 (stpE s G nr = E ∧ stpE s G nr ≠ 0) := by
              have he : stpE s G nr = E := by unfold stpE; rw [if_neg (fun h => h HJ0.out.2.1), if_neg (fun h => h HJ0.out.2.2)]; exact HE.out.symm
              exact ⟨he, by rw [he, HE.out]; exact HEN.out⟩
            clear hp7 hq7
            go_wp2
            go_ret
            rw [HZS.out.1]
            exact ⟨by simp, HFI.out.1, HFI.out.2.1, fun h => absurd (HZS.out.1.trans h) HZS.out.2, fun _ => HFI.out.2.2⟩
        · exact absurd hlt (by rw [hj0]; decide)
      · have hj3 : j = 3 := by omega
        have b1 : decide ((j : Int) < 3) = false := decide_eq_false (by omega)
        have b2 : ((j : Int) < 3) = False := eq_false (by omega)
        have b3 : (j < 3) = False := eq_false hlt
        rcases HI.out with ⟨hj0, _⟩ | ⟨hj0, _⟩ | ⟨hj0, _⟩ | ⟨hj0, hz1, hz2, hz3, hF⟩
        · omega
        · omega
        · omega
        · have c0 : wr.cell? ⟨w.heap.size, 0, none⟩ = some (.pointer (some ⟨p, 0, none⟩)) := (blk_cell hq 0).trans rfl
          have ch0 : wr.cell? ⟨hb, 0, none⟩ = some (.int .i64 nr) := (blk_cell hh 0).trans rfl
          have ch1 : wr.cell? ⟨hb, 1, none⟩ = some (.int .i64 G) := (blk_cell hh 1).trans rfl
          have cp1 : wr.cell? ⟨p, 1, none⟩ = some (.int .i64 root) := (blk_cell hpp 1).trans rfl
          have cp2 : wr.cell? ⟨p, 2, none⟩ = some (.int .i64 gen) := (blk_cell hpp 2).trans rfl
          have cf1 := blk_frozen hpp 1
          have cf2 := blk_frozen hpp 2
          have HFI : Aside0 (Φ (C + 1) ((wr.setCell ⟨p, 1, none⟩ (.int .i64 nr)).setCell ⟨p, 2, none⟩ (.int .i64 G)) (syncD (layD (syncD s) G nr)) ∧ TG Z w ((wr.setCell ⟨p, 1, none⟩ (.int .i64 nr)).setCell ⟨p, 2, none⟩ (.int .i64 G)) ∧ PG ((wr.setCell ⟨p, 1, none⟩ (.int .i64 nr)).setCell ⟨p, 2, none⟩ (.int .i64 G)) p d nr G false) := by
            have hb1 := blk_put hpp 1 (.int .i64 nr) rfl
            exact ⟨HA.out.set (HA.out.set hF hpp 1 _) hb1 2 _, (HT0.out.trans (TG.set hpp HZ.out.2 1 _)).trans (TG.set hb1 HZ.out.2 2 _), blk_put hb1 2 _ rfl⟩
          have HZS : Aside0 (stpE s G nr = 0 ∧ stpD s G nr = syncD (layD (syncD s) G nr)) := ⟨by unfold stpE; rw [if_neg (fun h => h hz1), if_neg (fun h => h hz2)]; exact hz3, by unfold stpD; rw [if_neg (fun h => h hz1), if_neg (fun h => h hz2)]⟩
          clear hj3 hlt hj hj0 hz1 hz2 hz3 hF hq hh hrr hpp
          go_wp2
          go_ret
          rw [HZS.out.1, HZS.out.2]
          exact ⟨by simp, HFI.out.1, HFI.out.2.1, fun _ => HFI.out.2.2, fun h => absurd rfl h⟩
end
end Go.Proofs.Ytmjmichkkmmdcaa.P
end
section
namespace Go.Proofs.Ytmjmichkkmmdcaa.P
open Go.RowKit Go.Proofs.Ytmjmichkkmmdcaa.Pure Go.Proofs.YtmjmichkkmmdcaaW.PrintWords Go.Proofs.YtmjmichkkmmdcaaW.PrintLast Go.Proofs.YtmjmichkkmmdcaaW.PrintMore
set_option linter.unusedVariables false
set_option linter.unusedSimpArgs false
def comE (s : Dk) (gen : Int) (down : Bool) (nr : Int) : Int := if down = true then 9 else if badR s nr = true then 2 else stpE s (gen + 1) nr
def comD (s : Dk) (gen : Int) (down : Bool) (nr : Int) : Dk := if down = true then s else if badR s nr = true then s else stpD s (gen + 1) nr
def comG (s : Dk) (root gen : Int) (down : Bool) (nr : Int) : Int × Int × Bool := if down = true then (root, gen, true) else if badR s nr = true then (root, gen, false) else if stpE s (gen + 1) nr = 0 then (nr, gen + 1, false) else (root, gen, true)
section
variable {base d : Nat} {Φ : Nat → World → Dk → Prop} {C : Nat} {s : Dk}
theorem commit_calls (hA : DAct base d Φ) (p : Nat) (nr : Int) {root gen : Int} {down : Bool} (hm : s.pages ≤ 4096) (g0 : 0 ≤ gen) (g1 : gen < 9223372036854775806) (Z : Nat) (hZb : Z ≤ base) (hZp : Z ≤ p) (w : World) (h : Φ C w s) (hC : C + 1 < 1073741824) (hp : PG w p d root gen down) :
    Calls Try.prog 14 #[.pointer (some ⟨p, 0, none⟩), .int .i64 nr] w fun e w' => e = .returned (.int .i64 (comE s gen down nr)) ∧ Φ (C + 1) w' (comD s gen down nr) ∧ TG Z w w' ∧ PG w' p d (comG s root gen down nr).1 (comG s root gen down nr).2.1 (comG s root gen down nr).2.2 := by
  have hZw : Z ≤ w.heap.size := Nat.le_trans hZb (hA.bd h)
  unfold comE comD comG
  by_cases hd : down = true
  · subst hd
    simp only [if_true]
    exact (commit_down hA p nr w h hp).mono fun e w' ⟨he, hb⟩ => ⟨he, hA.more (hA.step h hb), TG.of_below hb hZw, hp.step hb⟩
  · have hd0 : down = false := by simpa using hd
    subst hd0
    simp only [Bool.false_eq_true, if_false]
    by_cases hbad : badR s nr = true
    · simp only [hbad, if_true]
      exact (commit_bad hA p nr hbad w h hp).mono fun e w' ⟨he, hb⟩ => ⟨he, hA.more (hA.step h hb), TG.of_below hb hZw, hp.step hb⟩
    · have hb0 : badR s nr = false := by simpa using hbad
      have hn : nr = 0 ∨ (2 ≤ nr ∧ nr < s.pages) := by
        by_cases e : nr = 0
        · exact .inl e
        · right
          unfold badR hasN at hb0
          rw [decide_eq_true e] at hb0
          simpa using hb0
      simp only [hb0, Bool.false_eq_true, if_false]
      refine (commit_go hA p nr hb0 (by omega) (by omega) g0 g1 Z hZb hZp w h hC hp).mono ?_
      rintro e w' ⟨he, h1, h2, h3, h4⟩
      refine ⟨he, h1, h2, ?_⟩
      by_cases hz : stpE s (gen + 1) nr = 0
      · simp only [hz, if_true]; exact h3 hz
      · simp only [hz, if_false]; exact h4 hz
set_option maxHeartbeats 1000000 in
set_option maxRecDepth 100000 in
theorem root_calls (p d : Nat) {root gen : Int} {down : Bool} (w : World) (hp : PG w p d root gen down) :
    Calls Try.prog 13 #[.pointer (some ⟨p, 0, none⟩)] w fun e w' => e = .returned (.tuple #[.int .i64 root, .int .i64 gen]) ∧ Below w.heap.size w w' := by
  have HP := Aside0.mk (hp.step (below_drew1 (Below.refl w.heap.size w)))
  have HB := Aside0.mk (below_drew1 (Below.refl w.heap.size w))
  clear hp
  go_enter Try.func13, Try.ntmps13
  go_upto_region 1 with fail
  refine start_ (n := 12) (S := fun w' => w'.cell? ⟨p, 1, none⟩ = some (.int .i64 root) ∧ w'.cell? ⟨p, 2, none⟩ = some (.int .i64 gen)) (ds := []) #[false, false, false, false, false, false, false, false, false, false, false, false] (by kernel_rfl) rfl rfl ⟨(blk_cell HP.out 1).trans rfl, (blk_cell HP.out 2).trans rfl⟩ (fun hHeld => ?_)
  refine pure_ (i := 0) (N := some 4) (v := ?_) (a' := ?_) #[true, false, false, false, false, false, false, false, false, false, false, false] rfl rfl (by kernel_rfl) (fun _ _ _ h => h) (Or.inl ⟨by rfl, ?_⟩) ?_ ?_
  rotate_left
  · intro w'
    go_simp
    with_reducible rfl
  rotate_left
  · simp only [Act.put, List.setIfInBounds_toArray, List.set_cons_zero, List.set_cons_succ, i64_w, i32_w]
    rfl
  refine pure_ (i := 1) (N := some 5) (v := ?_) (a' := ?_) #[true, true, false, false, false, false, false, false, false, false, false, false] rfl rfl (by kernel_rfl) (fun _ _ _ h => h) (Or.inl ⟨by rfl, ?_⟩) ?_ ?_
  rotate_left
  · intro w'
    go_simp
    with_reducible rfl
  rotate_left
  · simp only [Act.put, List.setIfInBounds_toArray, List.set_cons_zero, List.set_cons_succ, i64_w, i32_w]
    rfl
  refine pure_ (i := 2) (N := some 6) (v := ?_) (a' := ?_) #[true, true, true, false, false, false, false, false, false, false, false, false] rfl rfl (by kernel_rfl) (fun _ _ _ h => h) (Or.inl ⟨by rfl, ?_⟩) ?_ ?_
  rotate_left
  · intro w'
    go_simp
    with_reducible rfl
  rotate_left
  · simp only [Act.put, List.setIfInBounds_toArray, List.set_cons_zero, List.set_cons_succ, i64_w, i32_w]
    rfl
  refine pure_ (i := 3) (N := some 7) (v := ?_) (a' := ?_) #[true, true, true, true, false, false, false, false, false, false, false, false] rfl rfl (by kernel_rfl) (fun _ _ _ h => h) (Or.inl ⟨by rfl, ?_⟩) ?_ ?_
  rotate_left
  · intro w'
    go_simp
    with_reducible rfl
  rotate_left
  · simp only [Act.put, List.setIfInBounds_toArray, List.set_cons_zero, List.set_cons_succ, i64_w, i32_w]
    rfl
  refine pure_ (i := 5) (N := some 9) (v := ?_) (a' := ?_) #[true, true, true, true, false, true, false, false, false, false, false, false] rfl rfl (by kernel_rfl) (fun _ _ _ h => h) (Or.inl ⟨by rfl, ?_⟩) ?_ ?_
  rotate_left
  · intro w'
    go_simp
    with_reducible rfl
  rotate_left
  · simp only [Act.put, List.setIfInBounds_toArray, List.set_cons_zero, List.set_cons_succ, i64_w, i32_w]
    rfl
  refine pure_ (i := 6) (N := some 10) (v := ?_) (a' := ?_) #[true, true, true, true, false, true, true, false, false, false, false, false] rfl rfl (by kernel_rfl) (fun _ _ _ h => h) (Or.inl ⟨by rfl, ?_⟩) ?_ ?_
  rotate_left
  · intro w'
    go_simp
    with_reducible rfl
  rotate_left
  · simp only [Act.put, List.setIfInBounds_toArray, List.set_cons_zero, List.set_cons_succ, i64_w, i32_w]
    rfl
  refine pure_ (i := 7) (N := some 11) (v := ?_) (a' := ?_) #[true, true, true, true, false, true, true, true, false, false, false, false] rfl rfl (by kernel_rfl) (fun _ _ _ h => h) (Or.inl ⟨by rfl, ?_⟩) ?_ ?_
  rotate_left
  · intro w'
    go_simp
    with_reducible rfl
  rotate_left
  · simp only [Act.put, List.setIfInBounds_toArray, List.set_cons_zero, List.set_cons_succ, i64_w, i32_w]
    rfl
  refine pure_ (i := 8) (N := some 12) (v := ?_) (a' := ?_) #[true, true, true, true, false, true, true, true, true, false, false, false] rfl rfl (by kernel_rfl) (fun _ _ _ h => h) (Or.inl ⟨by rfl, ?_⟩) ?_ ?_
  rotate_left
  · intro w'
    go_simp
    with_reducible rfl
  rotate_left
  · simp only [Act.put, List.setIfInBounds_toArray, List.set_cons_zero, List.set_cons_succ, i64_w, i32_w]
    rfl
  refine take_ (i := 4) (N := some 8) (v := ?_) (a' := ?_) #[true, true, true, true, true, true, true, true, true, false, false, false] rfl rfl (by kernel_rfl) (fun _ _ _ h => h) (Or.inl ⟨by rfl, ?_⟩) hHeld ?_ ?_
  rotate_left
  · rintro w' ⟨s0, s1⟩
    go_simp
    with_reducible rfl
  rotate_left
  · simp only [Act.put, List.setIfInBounds_toArray, List.set_cons_zero, List.set_cons_succ, i64_w, i32_w]
    rfl
  refine pure_ (i := 10) (N := some 2) (v := ?_) (a' := ?_) #[true, true, true, true, true, true, true, true, true, false, true, false] rfl rfl (by kernel_rfl) (fun _ _ _ h => h) (Or.inl ⟨by rfl, ?_⟩) ?_ ?_
  rotate_left
  · intro w'
    go_simp
    with_reducible rfl
  rotate_left
  · simp only [Act.put, List.setIfInBounds_toArray, List.set_cons_zero, List.set_cons_succ, i64_w, i32_w]
    rfl
  refine take_ (i := 9) (N := some 13) (v := ?_) (a' := ?_) #[true, true, true, true, true, true, true, true, true, true, true, false] rfl rfl (by kernel_rfl) (fun _ _ _ h => h) (Or.inl ⟨by rfl, ?_⟩) hHeld ?_ ?_
  rotate_left
  · rintro w' ⟨s0, s1⟩
    go_simp
    with_reducible rfl
  rotate_left
  · simp only [Act.put, List.setIfInBounds_toArray, List.set_cons_zero, List.set_cons_succ, i64_w, i32_w]
    rfl
  refine pure_ (i := 11) (N := some 3) (v := ?_) (a' := ?_) #[true, true, true, true, true, true, true, true, true, true, true, true] rfl rfl (by kernel_rfl) (fun _ _ _ h => h) (Or.inl ⟨by rfl, ?_⟩) ?_ ?_
  rotate_left
  · intro w'
    go_simp
    with_reducible rfl
  rotate_left
  · simp only [Act.put, List.setIfInBounds_toArray, List.set_cons_zero, List.set_cons_succ, i64_w, i32_w]
    rfl
  refine done_ (by kernel_rfl) ?_
  go_wp2
  refine bodyPost_ret (results_tmp2 rfl _ _ _) rfl ?_
  exact ⟨by simp, HB.out⟩
def fmtE (s : Dk) : Int := if s.pages ≤ 2 then 2 else if layE s 0 0 ≠ 0 then layE s 0 0 else if layE (layD s 0 0) 1 0 ≠ 0 then layE (layD s 0 0) 1 0 else syncE (layD (layD s 0 0) 1 0)
def fmtD (s : Dk) : Dk := if s.pages ≤ 2 then s else if layE s 0 0 ≠ 0 then layD s 0 0 else if layE (layD s 0 0) 1 0 ≠ 0 then layD (layD s 0 0) 1 0 else syncD (layD (layD s 0 0) 1 0)
def FI (Φ : Nat → World → Dk → Prop) (C : Nat) (s : Dk) (j : Nat) (W : World) : Prop :=
  (j = 0 ∧ Φ C W s) ∨ (j = 1 ∧ layE s 0 0 = 0 ∧ Φ (C + 1) W (layD s 0 0)) ∨ (j = 2 ∧ layE s 0 0 = 0 ∧ layE (layD s 0 0) 1 0 = 0 ∧ Φ (C + 2) W (layD (layD s 0 0) 1 0))
set_option maxHeartbeats 4000000 in
set_option maxRecDepth 100000 in
theorem format_calls (hA : DAct base d Φ) (w : World) (h : Φ C w s) (hC : C + 2 < 1073741824) :
    Calls Try.prog 33 #[.pointer (some ⟨d, 0, none⟩)] w fun e w' => e = .returned (.int .i64 (fmtE s)) ∧ Φ (C + 2) w' (fmtD s) ∧ TF base w w' := by
  have HA := Aside0.mk hA
  have HF := Aside0.mk h
  have HC := Aside0.mk hC
  have HBD := Aside0.mk (hA.bd h)
  have hpg := hA.pages h
  obtain ⟨M, hM⟩ : ∃ M, M = s.pages := ⟨_, rfl⟩
  have HM := Aside0.mk hM
  rw [← hM] at hpg
  clear hA h hC hM
  by_cases h2 : M ≤ 2
  · have b0 : decide (M ≤ 2) = true := decide_eq_true h2
    have b1 : (M ≤ 2) = True := eq_true h2
    have HE : Aside0 (fmtE s = 2 ∧ fmtD s = s) := ⟨by unfold fmtE; rw [if_pos (by rw [← HM.out]; exact h2)], by unfold fmtD; rw [if_pos (by rw [← HM.out]; exact h2)]⟩
    clear h2
    go_enter Try.func33, Try.ntmps33
    go_wp2_with (go_at_call 43; (with_reducible refine hpg.mono ?_); rintro e w1 ⟨rfl, hb⟩; have HB1 := Aside0.mk hb; clear hb)
    go_ret
    rw [HE.out.1, HE.out.2]
    exact ⟨by simp, HA.out.more (HA.out.more (HA.out.step HF.out HB1.out)), TF.of_below HB1.out HBD.out⟩
  · have b0 : decide (M ≤ 2) = false := decide_eq_false h2
    have b1 : (M ≤ 2) = False := eq_false h2
    have HP2 : Aside0 (¬ s.pages ≤ 2) := ⟨by rw [← HM.out]; exact h2⟩
    clear h2
    go_enter Try.func33, Try.ntmps33
    go_upto_region 3 with (go_at_call 43; (with_reducible refine hpg.mono ?_); rintro e w1 ⟨rfl, hb⟩; have HF1 := Aside0.mk (HA.out.step HF.out hb); have HT1 := Aside0.mk (TF.of_below hb HBD.out); clear hb hpg)
    go_wp2_with fail
    go_loopw [8] (fun v8 wr => ∃ j : Nat, v8 = .int .i64 (j : Int) ∧ j ≤ 2 ∧ Aside0 (FI Φ C s j wr) ∧ Aside0 (TF base w wr)) (fun v8 _ => 2 - (intOf v8).toNat)
    case atStart => exact ⟨0, rfl, Nat.zero_le _, ⟨.inl ⟨rfl, HF1.out⟩⟩, HT1⟩
    case round =>
      clear HF1 HT1
      obtain ⟨j, rfl, hj, HI, HT⟩ := hrel
      by_cases hlt : j < 2
      · have hlti : (j : Int) < 2 := by omega
        have c1 : decide ((j : Int) < 2) = true := decide_eq_true hlti
        have c2 : ((j : Int) < 2) = True := eq_true hlti
        have c3 : (j < 2) = True := eq_true hlt
        have w2_ : wrap64 ((j : Int) + 1) = (j : Int) + 1 := by unfold wrap64; omega
        have HJ := Aside0.mk hlt
        rcases HI.out with ⟨hj0, hF⟩ | ⟨hj0, hz1, hF⟩ | ⟨hj0, _⟩
        · obtain ⟨E, hE⟩ : ∃ E, E = layE s 0 0 := ⟨_, rfl⟩
          have HE := Aside0.mk hE
          have hl : Calls Try.prog 42 #[.pointer (some ⟨d, 0, none⟩), .agg #[.int .i64 0, .int .i64 (j : Int)]] wr fun e w' => e = .returned (.int .i64 E) ∧ Φ (C + 1) w' (layD s 0 0) ∧ TF base wr w' := by
            rw [hj0, hE]
            exact lay_calls HA.out 0 0 (by decide) (by decide) (by decide) (by decide) wr hF (by have := HC.out; omega)
          have HJ0 := Aside0.mk hj0
          clear hlt hlti hj hj0 hF hE
          by_cases hE0 : E = 0
          · have HE0 : Aside0 (layE s 0 0 = 0) := ⟨by rw [← HE.out]; exact hE0⟩
            rw [hE0] at hl
            clear hE0
            go_wp2_with (go_at_call 42; (with_reducible refine hl.mono ?_); rintro e w7 ⟨rfl, hs, ht⟩; have HS7 := Aside0.mk hs; have HT7 := Aside0.mk (HT.out.trans ht); clear hs ht hl)
            go_roundw
            case rel => exact ⟨j + 1, by first | exact congrArg (Value.int .i64) w2_ | rfl, HJ.out, ⟨.inr (.inl ⟨by rw [HJ0.out], HE0.out, HS7.out⟩)⟩, HT7⟩
            case measure => exact meas_lt HJ.out (by first | exact congrArg (Value.int .i64) w2_ | rfl)
          · have e0 : (E == 0) = false := beq_eq_false_iff_ne.mpr hE0
            have e1 : (E != 0) = true := bne_iff_ne.mpr hE0
            have e2 : decide (E = 0) = false := decide_eq_false hE0
            have HZS : Aside0 (fmtE s = E ∧ fmtD s = layD s 0 0) := by
              have hE1 : layE s 0 0 ≠ 0 := by rw [← HE.out]; exact hE0
              exact ⟨by unfold fmtE; rw [if_neg (Int.not_le.2 HP2.out), if_pos hE1]; exact HE.out.symm, by unfold fmtD; rw [if_neg (Int.not_le.2 HP2.out), if_pos hE1]⟩
            clear hE0
            go_wp2_with (go_at_call 42; (with_reducible refine hl.mono ?_); rintro e w7 ⟨rfl, hs, ht⟩; have HS7 := Aside0.mk (HA.out.more hs); have HT7 := Aside0.mk (HT.out.trans ht); clear hs ht hl)
            go_ret
            rw [HZS.out.1, HZS.out.2]
            exact ⟨by simp, HS7.out, HT7.out⟩
        · obtain ⟨E, hE⟩ : ∃ E, E = layE (layD s 0 0) 1 0 := ⟨_, rfl⟩
          have HE := Aside0.mk hE
          have hl : Calls Try.prog 42 #[.pointer (some ⟨d, 0, none⟩), .agg #[.int .i64 0, .int .i64 (j : Int)]] wr fun e w' => e = .returned (.int .i64 E) ∧ Φ (C + 2) w' (layD (layD s 0 0) 1 0) ∧ TF base wr w' := by
            rw [hj0, hE]
            exact lay_calls HA.out 1 0 (by decide) (by decide) (by decide) (by decide) wr hF (by have := HC.out; omega)
          have HJ0 := Aside0.mk (And.intro hj0 hz1)
          clear hlt hlti hj hj0 hF hE hz1
          by_cases hE0 : E = 0
          · have HE0 : Aside0 (layE (layD s 0 0) 1 0 = 0) := ⟨by rw [← HE.out]; exact hE0⟩
            rw [hE0] at hl
            clear hE0
            go_wp2_with (go_at_call 42; (with_reducible refine hl.mono ?_); rintro e w7 ⟨rfl, hs, ht⟩; have HS7 := Aside0.mk hs; have HT7 := Aside0.mk (HT.out.trans ht); clear hs ht hl)
            go_roundw
            case rel => exact ⟨j + 1, by first | exact congrArg (Value.int .i64) w2_ | rfl, HJ.out, ⟨.inr (.inr ⟨by rw [HJ0.out.1], HJ0.out.2, HE0.out, HS7.out⟩)⟩, HT7⟩
            case measure => exact meas_lt HJ.out (by first | exact congrArg (Value.int .i64) w2_ | rfl)
          · have e0 : (E == 0) = false := beq_eq_false_iff_ne.mpr hE0
            have e1 : (E != 0) = true := bne_iff_ne.mpr hE0
            have e2 : decide (E = 0) = false := decide_eq_false hE0
            have HZS : Aside0 (fmtE s = E ∧ fmtD s = layD (layD s 0 0) 1 0) := by
              have hE1 : layE (layD s 0 0) 1 0 ≠ 0 := by rw [← HE.out]; exact hE0
              exact ⟨by unfold fmtE; rw [if_neg (Int.not_le.2 HP2.out), if_neg (fun h => h HJ0.out.2), if_pos hE1]; exact HE.out.symm, by unfold fmtD; rw [if_neg (Int.not_le.2 HP2.out), if_neg (fun h => h HJ0.out.2), if_pos hE1]⟩
            clear hE0
            go_wp2_with (go_at_call 42; (with_reducible refine hl.mono ?_); rintro e w7 ⟨rfl, hs, ht⟩; have HS7 := Aside0.mk hs; have HT7 := Aside0.mk (HT.out.trans ht); clear hs ht hl)
            go_ret
            rw [HZS.out.1, HZS.out.2]
            exact ⟨by simp, HS7.out, HT7.out⟩
        · exact absurd hlt (by rw [hj0]; decide)
      · have c1 : decide ((j : Int) < 2) = false := decide_eq_false (by omega)
        have c2 : ((j : Int) < 2) = False := eq_false (by omega)
        have c3 : (j < 2) = False := eq_false hlt
        rcases HI.out with ⟨hj0, _⟩ | ⟨hj0, _⟩ | ⟨hj0, hz1, hz2, hF⟩
        · omega
        · omega
        · have hl := HA.out.sync hF
          have HZS : Aside0 (fmtE s = syncE (layD (layD s 0 0) 1 0) ∧ fmtD s = syncD (layD (layD s 0 0) 1 0)) := ⟨by unfold fmtE; rw [if_neg (Int.not_le.2 HP2.out), if_neg (fun h => h hz1), if_neg (fun h => h hz2)], by unfold fmtD; rw [if_neg (Int.not_le.2 HP2.out), if_neg (fun h => h hz1), if_neg (fun h => h hz2)]⟩
          clear hlt hj hj0 hz1 hz2 hF
          go_wp2_with (go_at_call 40; (with_reducible refine hl.mono ?_); rintro e w7 ⟨rfl, hs, ht⟩; have HS7 := Aside0.mk hs; have HT7 := Aside0.mk (HT.out.trans ht); clear hs ht hl)
          go_ret
          rw [HZS.out.1, HZS.out.2]
          exact ⟨by simp, HS7.out, HT7.out⟩
end
end Go.Proofs.Ytmjmichkkmmdcaa.P
end
section
namespace Go.Proofs.Ytmjmichkkmmdcaa.P
open Go.RowKit Go.Proofs.Ytmjmichkkmmdcaa.Pure Go.Proofs.YtmjmichkkmmdcaaW.PrintWords Go.Proofs.YtmjmichkkmmdcaaW.PrintLast Go.Proofs.YtmjmichkkmmdcaaW.PrintMore
set_option linter.unusedVariables false
set_option linter.unusedSimpArgs false
def rdE (s : Dk) (n : Int) : Int := if hasN n s.pages = false then 2 else if lookP s n ≠ 0 then lookP s n else if rightB (hasP s n) = false then 10 else 0
def wrE (s : Dk) (n : Int) (b : List Int) : Int := if hasN n s.pages = false then 2 else if b.length ≠ 508 then 3 else writeE s n (pageB b)
def wrD (s : Dk) (n : Int) (b : List Int) : Dk := if hasN n s.pages = false then s else if b.length ≠ 508 then s else writeD s n (pageB b)
def RdQ (E : Int) (b : List Int) (w : World) (e : Ending) (w' : World) : Prop := Below w.heap.size w w' ∧ ∃ v, e = .returned (.tuple #[v, .int .i64 E]) ∧ ((E ≠ 0 ∧ v = .slice none 0 0) ∨ (E = 0 ∧ ∃ g c, w.heap.size ≤ g ∧ 508 ≤ c ∧ v = .slice (some ⟨g, 0, none⟩) 508 c ∧ Kd.C (Kd.int .u8) w' (some ⟨g, 0, none⟩) 508 (b.take 508)))
section
variable {base d : Nat} {C : Nat} {s : Dk}
set_option maxHeartbeats 2000000 in
set_option maxRecDepth 100000 in
theorem pread_calls (p : Nat) (n : Int) {root gen : Int} {down : Bool} (hdb : DB s) (w : World) (h : DS w base d s C) (hp : PG w p d root gen down) :
    Calls Try.prog 19 #[.pointer (some ⟨p, 0, none⟩), .int .i64 n] w fun e w' => RdQ (rdE s n) (hasP s n) w e w' := by
  have hh := phas_calls (dact_ds base d) p n w h hp
  have HS := Aside0.mk h
  have HP := Aside0.mk hp
  have h5 := h.has_len n
  have hby := hdb.has n
  have H5 := Aside0.mk (And.intro h5 hby)
  clear h hp h5 hby
  unfold rdE
  cases hn : hasN n s.pages with
  | false =>
    rw [hn] at hh
    clear hn
    go_enter Try.func19, Try.ntmps19
    go_wp2_with (go_at_call 39; (with_reducible refine hh.mono ?_); rintro e w1 ⟨rfl, hb⟩; have HB1 := Aside0.mk hb; clear hb hh)
    refine bodyPost_ret (results_tmp2 rfl _ _ _) rfl ?_
    exact ⟨HB1.out, _, by simp, .inl ⟨by simp, rfl⟩⟩
  | true =>
    rw [hn] at hh
    clear hn
    obtain ⟨E, hE⟩ : ∃ E, E = lookP s n := ⟨_, rfl⟩
    have HE := Aside0.mk hE
    obtain ⟨B, hB⟩ : ∃ B, B = hasP s n := ⟨_, rfl⟩
    have HBB := Aside0.mk hB
    rw [← hE, ← hB]
    by_cases hE0 : E = 0
    · have HL : Aside0 (lookP s n = 0) := ⟨by rw [← hE]; exact hE0⟩
      have HB5 : Aside0 (B.length = 512 ∧ BY B) := ⟨by rw [hB]; exact H5.out⟩
      subst hE0
      clear hE hB HE
      have hrg : ∀ W g, W.heap[g]? = some (.cells (bvs B).toArray 91 (0, 0)) → Calls Try.prog 49 #[.slice (some ⟨g, 0, none⟩) 512 512] W fun e w' => e = .returned (.bool (rightB B)) ∧ Below W.heap.size W w' := fun W g hg => by
        have hCb := c_bytes hg (by rw [HB5.out.1]; decide)
        rw [HB5.out.1] at hCb
        exact right_calls W hCb HB5.out.1 (Nat.le_refl _) HB5.out.2
      have HRG := Aside0.mk hrg
      clear hrg
      cases hr : rightB B with
      | false =>
        rw [hr] at HRG
        clear hr
        have HFN : Aside0 ((if true = false then (2 : Int) else if (0 : Int) ≠ 0 then 0 else if false = false then 10 else 0) = 10) := ⟨by decide⟩
        go_enter Try.func19, Try.ntmps19
        go_upto_region 3 with (go_at_call 39; (with_reducible refine hh.mono ?_); rintro e w1 ⟨rfl, hb⟩; have HB1 := Aside0.mk hb; have c0 : w1.cell? ⟨p, 0, none⟩ = some (.pointer (some ⟨d, 0, none⟩)) := (blk_cell (HP.out.step hb) 0).trans rfl; clear hb hh)
        go_wp2_with (first
          | (go_at_call 17; (with_reducible refine (ds_read n _ (HS.out.step HB1.out)).mono ?_); rw [HL.out, ← HBB.out]; rintro e w3 ⟨v, rfl, hb, ⟨hn, _⟩ | ⟨_, g, hg, rfl, hc⟩⟩; (first | exact absurd rfl hn | skip); have HC3 := Aside0.mk hc; have HB3 := Aside0.mk (below_step HB1.out hb); clear hb hg hc)
          | (go_at_call 49; (with_reducible refine (HRG.out _ _ HC3.out).mono ?_); rintro e w4 ⟨rfl, hb⟩; have HB4 := Aside0.mk (below_step HB3.out hb); clear hb))
        refine bodyPost_ret (results_tmp2 rfl _ _ _) rfl ?_
        exact ⟨HB4.out, _, by simp, .inl ⟨by simp, rfl⟩⟩
      | true =>
        rw [hr] at HRG
        clear hr
        go_enter Try.func19, Try.ntmps19
        go_upto_region 3 with (go_at_call 39; (with_reducible refine hh.mono ?_); rintro e w1 ⟨rfl, hb⟩; have HB1 := Aside0.mk hb; have c0 : w1.cell? ⟨p, 0, none⟩ = some (.pointer (some ⟨d, 0, none⟩)) := (blk_cell (HP.out.step hb) 0).trans rfl; clear hb hh)
        go_wp2_with (first
          | (go_at_call 17; (with_reducible refine (ds_read n _ (HS.out.step HB1.out)).mono ?_); rw [HL.out, ← HBB.out]; rintro e w3 ⟨v, rfl, hb, ⟨hn, _⟩ | ⟨_, g, hg, rfl, hc⟩⟩; (first | exact absurd rfl hn | skip); have HC3 := Aside0.mk hc; have HG3 := Aside0.mk hg; have HB3 := Aside0.mk (below_step HB1.out hb); clear hb hg hc)
          | (go_at_call 49; (with_reducible refine (HRG.out _ _ HC3.out).mono ?_); rintro e w4 ⟨rfl, hb⟩; have HC4 := Aside0.mk (blk_below HC3.out hb); have HB4 := Aside0.mk (below_step HB3.out hb); clear hb))
        refine bodyPost_ret (results_tmp2 rfl _ _ _) rfl ?_
        have hCb := c_bytes HC4.out (by rw [HB5.out.1]; decide)
        rw [HB5.out.1] at hCb
        exact ⟨HB4.out, _, by simp, .inr ⟨by simp, _, 512, Nat.le_trans (below_size HB1.out) HG3.out, by decide, rfl, C_take508 hCb HB5.out.1⟩⟩
    · have HL : Aside0 (lookP s n ≠ 0) := ⟨by rw [← hE]; exact hE0⟩
      have e0 : (E == 0) = false := beq_eq_false_iff_ne.mpr hE0
      have e1 : (E != 0) = true := bne_iff_ne.mpr hE0
      have e2 : decide (E = 0) = false := decide_eq_false hE0
      have e3 : (E = 0) = False := eq_false hE0
      have HE0 := Aside0.mk hE0
      clear hE hB hE0
      go_enter Try.func19, Try.ntmps19
      go_upto_region 3 with (go_at_call 39; (with_reducible refine hh.mono ?_); rintro e w1 ⟨rfl, hb⟩; have HB1 := Aside0.mk hb; have c0 : w1.cell? ⟨p, 0, none⟩ = some (.pointer (some ⟨d, 0, none⟩)) := (blk_cell (HP.out.step hb) 0).trans rfl; clear hb hh)
      go_wp2_with (go_at_call 17; (with_reducible refine (ds_read n _ (HS.out.step HB1.out)).mono ?_); rintro e w3 ⟨v, rfl, hb, hq⟩; obtain rfl : v = .slice none 0 0 := (by rcases hq with ⟨_, e⟩ | ⟨hn, _⟩; exact e; exact absurd hn HL.out); rw [← HE.out]; have HB3 := Aside0.mk (below_step HB1.out hb); clear hb hq)
      refine bodyPost_ret (results_tmp2 rfl _ _ _) rfl ?_
      exact ⟨HB3.out, _, by simp [e3], .inl ⟨by simp [e3], rfl⟩⟩
set_option maxHeartbeats 2000000 in
set_option maxRecDepth 100000 in
theorem pwrite_calls (p : Nat) (n : Int) (A : Option Addr) (c : Nat) (b : List Int) {root gen : Int} {down : Bool} (w : World) (h : DS w base d s C) (hC : C < 1073741824) (hp : PG w p d root gen down) (hR : Kd.C (Kd.int .u8) w A b.length b) (hc : b.length ≤ c) (hby : BY b) :
    Calls Try.prog 16 #[.pointer (some ⟨p, 0, none⟩), .int .i64 n, .slice A b.length c] w fun e w' => e = .returned (.int .i64 (wrE s n b)) ∧ DS w' base d (wrD s n b) (C + 1) ∧ TF base w w' := by
  have hh := phas_calls (dact_ds base d) p n w h hp
  have HS := Aside0.mk h
  have HC := Aside0.mk hC
  have HP := Aside0.mk hp
  have HR := Aside0.mk hR
  have HBY := Aside0.mk (And.intro hby hc)
  have HBD := Aside0.mk h.base_le
  obtain ⟨L, hL⟩ : ∃ L, L = b.length := ⟨_, rfl⟩
  have HLL := Aside0.mk hL
  unfold wrE wrD
  rw [← hL]
  clear h hp hC hR hc hby hL
  cases hn : hasN n s.pages with
  | false =>
    rw [hn] at hh
    clear hn
    go_enter Try.func16, Try.ntmps16
    go_wp2_with (go_at_call 39; (with_reducible refine hh.mono ?_); rintro e w1 ⟨rfl, hb⟩; have HB1 := Aside0.mk hb; clear hb hh)
    go_ret
    exact ⟨by simp, (HS.out.step HB1.out).more (Nat.le_succ C), TF.of_below HB1.out HBD.out⟩
  | true =>
    rw [hn] at hh
    clear hn
    by_cases h5 : L = 508
    · subst h5
      have hse : ∀ W, Below w.heap.size w W → Calls Try.prog 45 #[.slice A 508 c] W fun e w' => ∃ v', e = .returned v' ∧ Kd.R (Kd.int .u8) 5 w' W.heap.size (fun _ => True) v' (pageB b) ∧ Below W.heap.size W w' := fun W hW => by
        have := sealed_calls (c := c) W (Kd.C_below HR.out hW) HBY.out.2 HBY.out.1 (by rw [← HLL.out]; decide) (by rw [← HLL.out]; decide)
        rw [← HLL.out] at this
        exact this
      have HSE := Aside0.mk hse
      clear hse
      go_enter Try.func16, Try.ntmps16
      go_upto_region 5 with (go_at_call 39; (with_reducible refine hh.mono ?_); rintro e w1 ⟨rfl, hb⟩; have HB1 := Aside0.mk hb; have HP1 := Aside0.mk (HP.out.step hb); clear hb hh)
      have HPd := Aside0.mk (HP1.out.step (below_drew1 (Below.refl _ _)))
      have HBd := Aside0.mk (below_step HB1.out (below_drew1 (Below.refl _ _)))
      refine start_ (n := 9) (S := fun w' => w'.cell? ⟨p, 0, none⟩ = some (.pointer (some ⟨d, 0, none⟩))) (ds := [7]) #[false, false, false, false, false, false, false, false, false] (by kernel_rfl) rfl rfl ((blk_cell HPd.out 0).trans rfl) (fun hHeld => ?_)
      refine pure_ (i := 0) (N := some 14) (v := ?_) (a' := ?_) #[true, false, false, false, false, false, false, false, false] rfl rfl (by kernel_rfl) (fun _ _ _ h => h) (Or.inl ⟨by rfl, ?_⟩) ?_ ?_
      rotate_left
      · intro w'
        go_simp
        with_reducible rfl
      rotate_left
      · simp only [Act.put, List.setIfInBounds_toArray, List.set_cons_zero, List.set_cons_succ, i64_w, i32_w]
        rfl
      refine pure_ (i := 1) (N := some 15) (v := ?_) (a' := ?_) #[true, true, false, false, false, false, false, false, false] rfl rfl (by kernel_rfl) (fun _ _ _ h => h) (Or.inl ⟨by rfl, ?_⟩) ?_ ?_
      rotate_left
      · intro w'
        go_simp
        with_reducible rfl
      rotate_left
      · simp only [Act.put, List.setIfInBounds_toArray, List.set_cons_zero, List.set_cons_succ, i64_w, i32_w]
        rfl
      refine pure_ (i := 2) (N := some 16) (v := ?_) (a' := ?_) #[true, true, true, false, false, false, false, false, false] rfl rfl (by kernel_rfl) (fun _ _ _ h => h) (Or.inl ⟨by rfl, ?_⟩) ?_ ?_
      rotate_left
      · intro w'
        go_simp
        with_reducible rfl
      rotate_left
      · simp only [Act.put, List.setIfInBounds_toArray, List.set_cons_zero, List.set_cons_succ, i64_w, i32_w]
        rfl
      refine pure_ (i := 4) (N := some 18) (v := ?_) (a' := ?_) #[true, true, true, false, true, false, false, false, false] rfl rfl (by kernel_rfl) (fun _ _ _ h => h) (Or.inl ⟨by rfl, ?_⟩) ?_ ?_
      rotate_left
      · intro w'
        go_simp
        with_reducible rfl
      rotate_left
      · simp only [Act.put, List.setIfInBounds_toArray, List.set_cons_zero, List.set_cons_succ, i64_w, i32_w]
        rfl
      refine pure_ (i := 5) (N := some 19) (v := ?_) (a' := ?_) #[true, true, true, false, true, true, false, false, false] rfl rfl (by kernel_rfl) (fun _ _ _ h => h) (Or.inl ⟨by rfl, ?_⟩) ?_ ?_
      rotate_left
      · intro w'
        go_simp
        with_reducible rfl
      rotate_left
      · simp only [Act.put, List.setIfInBounds_toArray, List.set_cons_zero, List.set_cons_succ, i64_w, i32_w]
        rfl
      refine take_ (i := 3) (N := some 17) (v := ?_) (a' := ?_) #[true, true, true, true, true, true, false, false, false] rfl rfl (by kernel_rfl) (fun _ _ _ h => h) (Or.inl ⟨by rfl, ?_⟩) hHeld ?_ ?_
      rotate_left
      · intro w' s0
        go_simp
        with_reducible rfl
      rotate_left
      · simp only [Act.put, List.setIfInBounds_toArray, List.set_cons_zero, List.set_cons_succ, i64_w, i32_w]
        rfl
      refine one_ (i := 6) (N := some 20) #[true, true, true, true, true, true, true, false, false] rfl rfl (by kernel_rfl) (by decide) (fun K hK => ?_)
      refine goes_ Try.func45 (by kernel_rfl) rfl #[.slice A 508 c] (by rfl) rfl rfl (by simp only [List.map_toArray, List.map_cons, List.map_nil]; rfl) ?_
      with_reducible refine (HSE.out _ HBd.out).mono ?_
      rintro e w2 ⟨v2, rfl, ho, hb⟩
      refine ⟨_, rfl, ?_⟩
      have HO2 := Aside0.mk ho
      have HB2 := Aside0.mk (below_step HBd.out hb)
      have HP2 := Aside0.mk (HPd.out.step hb)
      clear hb ho
      refine hK.out _ _ ((blk_cell HP2.out 0).trans rfl) (fun hHeld => ?_)
      clear hK K
      refine norm_ (a' := ?_) ?_ ?_
      rotate_left
      · show Act.put _ (some 20) _ = _
        simp only [Act.put, List.setIfInBounds_toArray, List.set_cons_zero, List.set_cons_succ, i64_w, i32_w]
        rfl
      refine last_ (i := 7) (N := some 21) #[true, true, true, true, true, true, true, true, false] rfl rfl (by kernel_rfl) (by decide) (fun K hK => ?_)
      refine goes_ Try.func18 (by kernel_rfl) rfl #[.pointer (some ⟨d, 0, none⟩), .int .i64 n, v2] (by rfl) rfl rfl (by simp only [List.map_toArray, List.map_cons, List.map_nil]; rfl) ?_
      with_reducible refine (ds_write n v2 (pageB b) _ (HS.out.step HB2.out) HC.out HO2.out).mono ?_
      rintro e w3 ⟨rfl, hs, ht⟩
      refine ⟨_, rfl, ?_⟩
      have HF := Aside0.mk (And.intro hs ht)
      clear hs ht hHeld
      refine hK.out _ _ ?_
      clear hK K
      refine norm_ (a' := ?_) ?_ ?_
      rotate_left
      · show Act.put _ (some 21) _ = _
        simp only [Act.put, List.setIfInBounds_toArray, List.set_cons_zero, List.set_cons_succ, i64_w, i32_w]
        rfl
      refine pure_ (i := 8) (N := some 6) (v := ?_) (a' := ?_) #[true, true, true, true, true, true, true, true, true] rfl rfl (by kernel_rfl) (fun _ _ _ h => h) (Or.inl ⟨by rfl, ?_⟩) ?_ ?_
      rotate_left
      · intro w'
        go_simp
        with_reducible rfl
      rotate_left
      · simp only [Act.put, List.setIfInBounds_toArray, List.set_cons_zero, List.set_cons_succ, i64_w, i32_w]
        rfl
      refine done_ (by kernel_rfl) ?_
      go_wp2
      go_ret
      exact ⟨by simp, by simpa using HF.out.1, (TF.of_below HB2.out HBD.out).trans HF.out.2⟩
    · have h5i : ¬ (L : Int) = 508 := by omega
      have e0 : ((L : Int) == 508) = false := beq_eq_false_iff_ne.mpr h5i
      have e1 : ((L : Int) != 508) = true := bne_iff_ne.mpr h5i
      have e2 : decide ((L : Int) = 508) = false := decide_eq_false h5i
      have e3 : (L = 508) = False := eq_false h5
      have e4 : ((L : Int) = 508) = False := eq_false h5i
      have e5 : (L == 508) = false := beq_eq_false_iff_ne.mpr h5
      clear h5 h5i
      go_enter Try.func16, Try.ntmps16
      go_wp2_with (go_at_call 39; (with_reducible refine hh.mono ?_); rintro e w1 ⟨rfl, hb⟩; have HB1 := Aside0.mk hb; clear hb hh)
      go_ret
      exact ⟨by simp [e3], by simpa [e3] using (HS.out.step HB1.out).more (Nat.le_succ C), TF.of_below HB1.out HBD.out⟩
end
end Go.Proofs.Ytmjmichkkmmdcaa.P
end
section
namespace Go.Proofs.Ytmjmichkkmmdcaa.P
open Go.RowKit Go.Proofs.Ytmjmichkkmmdcaa.Pure Go.Proofs.YtmjmichkkmmdcaaW.PrintWords Go.Proofs.YtmjmichkkmmdcaaW.PrintLast Go.Proofs.YtmjmichkkmmdcaaW.PrintMore
set_option linter.unusedVariables false
set_option linter.unusedSimpArgs false
def Hy (s : Dk) : Prop := s.down = false ∧ s.left = -1
theorem hasP_cons {s t : Dk} {q : Int} {b : List Int} (h1 : t.last = s.last) (h2 : t.cache = s.cache ++ [(q, b)]) (n : Int) : hasP t n = if n = q then b else hasP s n := by
  unfold hasP
  rw [h1, h2, List.reverse_append]
  simp only [List.reverse_cons, List.reverse_nil, List.nil_append, List.singleton_append, List.find?_cons]
  by_cases e : n = q
  · rw [if_pos e, e]
    simp
  · rw [if_neg e]
    have : decide (q = n) = false := decide_eq_false (fun h => e h.symm)
    simp only [this]
theorem Hy.step {s : Dk} (h : Hy s) : stepS s = s := stepS_free h.2
theorem hy_write {s : Dk} (h : Hy s) {q : Int} {b : List Int} (h0 : 0 ≤ q) (h1 : q < s.pages) (hb : b.length = 512) : writeE s q b = 0 ∧ Hy (writeD s q b) ∧ ∀ n, hasP (writeD s q b) n = if n = q then b else hasP s n := by
  have hl : s.left ≠ 0 := by rw [h.2]; decide
  refine ⟨writeE_ok h.1 h0 h1 hb hl, ?_, ?_⟩
  · rw [writeD_ok h.1 h0 h1 hb hl]
    unfold writeS
    rw [h.step]
    exact h
  · rw [writeD_ok h.1 h0 h1 hb hl]
    refine hasP_cons ?_ rfl
    unfold writeS
    rw [h.step]
theorem hy_sync {s : Dk} (h : Hy s) : syncE s = 0 ∧ Hy (syncD s) ∧ ∀ n, hasP (syncD s) n = hasP s n := by
  have hd : ¬ s.down = true := by rw [h.1]; decide
  have hl : ¬ s.left = 0 := by rw [h.2]; decide
  have e : syncD s = syncS s := by unfold syncD; rw [if_neg hd, if_neg hl]
  refine ⟨by unfold syncE; rw [if_neg hd, if_neg hl], ?_, fun n => ?_⟩
  · rw [e]
    unfold syncS
    rw [h.step]
    exact h
  · rw [e, hasP_last (fun x hx => by simp [syncS] at hx), hasP_last_all s n]
    rfl
theorem layD_pages (s : Dk) (g r : Int) : (layD s g r).pages = s.pages := write_pages _ _ _
theorem gen_slot (g : Int) (h : 0 ≤ g) : 0 ≤ g % 2 ∧ g % 2 < 2 := ⟨Int.emod_nonneg _ (by decide), Int.emod_lt_of_pos _ (by decide)⟩
theorem hy_lay {s : Dk} (h : Hy s) (hp : 3 ≤ s.pages) {g r : Int} (hg : 0 ≤ g) : layE s g r = 0 ∧ Hy (layD s g r) ∧ ∀ n, hasP (layD s g r) n = if n = g % 2 then hpg g r else hasP s n := by
  have := gen_slot g hg
  exact hy_write h this.1 (by omega) (hpg_len g r)
theorem stpD_pages (s : Dk) (g r : Int) : (stpD s g r).pages = s.pages := by
  unfold stpD
  split
  · exact sync_pages s
  · split
    · rw [layD_pages, sync_pages]
    · rw [sync_pages, layD_pages, sync_pages]
theorem hy_stp {s : Dk} (h : Hy s) (hp : 3 ≤ s.pages) {g r : Int} (hg : 0 ≤ g) : stpE s g r = 0 ∧ Hy (stpD s g r) ∧ ∀ n, hasP (stpD s g r) n = if n = g % 2 then hpg g r else hasP s n := by
  have h1 := hy_sync h
  have h2 := hy_lay h1.2.1 (by rw [sync_pages]; exact hp) (r := r) hg
  have h3 := hy_sync h2.2.1
  refine ⟨?_, ?_, fun n => ?_⟩
  · unfold stpE
    rw [if_neg (fun x => x h1.1), if_neg (fun x => x h2.1)]
    exact h3.1
  · unfold stpD
    rw [if_neg (fun x => x h1.1), if_neg (fun x => x h2.1)]
    exact h3.2.1
  · unfold stpD
    rw [if_neg (fun x => x h1.1), if_neg (fun x => x h2.1), h3.2.2, h2.2.2, h1.2.2]
theorem fmtD_pages (s : Dk) : (fmtD s).pages = s.pages := by
  unfold fmtD
  split
  · rfl
  · split
    · exact layD_pages _ _ _
    · split
      · rw [layD_pages, layD_pages]
      · rw [sync_pages, layD_pages, layD_pages]
theorem hy_fmt {s : Dk} (h : Hy s) (hp : 3 ≤ s.pages) : fmtE s = 0 ∧ Hy (fmtD s) ∧ ∀ n, hasP (fmtD s) n = if n = 1 then hpg 1 0 else if n = 0 then hpg 0 0 else hasP s n := by
  have h1 := hy_lay h hp (g := 0) (r := 0) (by decide)
  have h2 := hy_lay h1.2.1 (by rw [layD_pages]; exact hp) (g := 1) (r := 0) (by decide)
  have h3 := hy_sync h2.2.1
  have hpp : ¬ s.pages ≤ 2 := by omega
  refine ⟨?_, ?_, fun n => ?_⟩
  · unfold fmtE
    rw [if_neg hpp, if_neg (fun x => x h1.1), if_neg (fun x => x h2.1)]
    exact h3.1
  · unfold fmtD
    rw [if_neg hpp, if_neg (fun x => x h1.1), if_neg (fun x => x h2.1)]
    exact h3.2.1
  · unfold fmtD
    rw [if_neg hpp, if_neg (fun x => x h1.1), if_neg (fun x => x h2.1), h3.2.2, h2.2.2, h1.2.2]
    rfl
theorem DB.write {s : Dk} (h : DB s) (q : Int) {b : List Int} (hb : BY b) : DB (writeD s q b) := by
  rcases write_way (s := s) (q := q) (b := b) with ⟨_, e1, e2⟩ | ⟨_, e1, e2⟩
  · refine ⟨by rw [e1]; exact h.1, fun x hx => ?_⟩
    rw [e2] at hx
    rcases List.mem_append.1 hx with hx | hx
    · exact h.2 x hx
    · rw [List.mem_singleton.1 hx]; exact hb
  · exact ⟨by rw [e1]; exact h.1, by rw [e2]; exact h.2⟩
theorem lastS_by {s : Dk} (h : DB s) : ∀ k i, BY (lastS s k i) := by
  intro k
  induction k with
  | zero => intro i; simpa [lastS] using h.1 i
  | succ k ih =>
    intro i
    by_cases hk : k < s.cache.length
    · rw [lastS_succ hk]
      unfold upd
      split
      · exact h.2 _ (List.getElem_mem hk)
      · exact ih i
    · have e : lastS s (k + 1) = lastS s k := by
        unfold lastS
        rw [List.take_of_length_le (by omega), List.take_of_length_le (by omega)]
      rw [e]
      exact ih i
theorem DB.sync {s : Dk} (h : DB s) : DB (syncD s) := by
  unfold syncD
  split
  · exact h
  · split
    · exact ⟨by rw [stepS_last]; exact h.1, by rw [stepS_cache]; exact h.2⟩
    · exact ⟨fun i => lastS_by h _ i, fun x hx => by simp [syncS] at hx⟩
theorem DB.lay {s : Dk} (h : DB s) (g r : Int) : DB (layD s g r) := h.write _ (hpg_by g r)
theorem DB.stp {s : Dk} (h : DB s) (g r : Int) : DB (stpD s g r) := by
  unfold stpD
  split
  · exact h.sync
  · split
    · exact h.sync.lay g r
    · exact (h.sync.lay g r).sync
theorem DB.fmt {s : Dk} (h : DB s) : DB (fmtD s) := by
  unfold fmtD
  split
  · exact h
  · split
    · exact h.lay 0 0
    · split
      · exact (h.lay 0 0).lay 1 0
      · exact ((h.lay 0 0).lay 1 0).sync
theorem pgZ_by : BY pgZ := BY.rep 512
theorem DB.new (p : Int) : DB (newS p) := ⟨fun _ => pgZ_by, fun x hx => by simp [newS] at hx⟩
theorem hpg_take (g r : Int) : (hpg g r).take 16 = recL g r := by
  unfold hpg pageB headL
  rw [List.append_assoc, List.append_assoc, List.take_append_of_le_length (by rw [recL_len]; decide), List.take_of_length_le (by rw [recL_len]; decide)]
theorem genP_hpg (g r : Int) (g0 : 0 ≤ g) (g1 : g < 18446744073709551616) : genP (hpg g r) = g := by
  unfold genP
  have e : (hpg g r).take 12 = (recL g r).take 12 := by rw [← hpg_take, List.take_take]; rfl
  have e2 : ((recL g r).take 12).drop 4 = le g 8 := by
    unfold recL
    rw [List.append_assoc, List.take_append, List.drop_append]
    have h4 : (([81, 82, 89, 49] : List Int)).length = 4 := rfl
    rw [List.take_of_length_le (by decide), h4, List.take_append_of_le_length (by rw [le_len]; decide), List.take_of_length_le (by rw [le_len]; decide)]
    simp
  rw [e, e2, val_le g g0, Int.emod_eq_of_lt g0 (by simpa using g1)]
theorem rootP_hpg (g r : Int) (r0 : 0 ≤ r) (r1 : r < 4294967296) : rootP (hpg g r) = r := by
  unfold rootP
  rw [hpg_take]
  have e2 : (recL g r).drop 12 = le r 4 := by
    unfold recL
    have h12 : ([81, 82, 89, 49] ++ le g 8 : List Int).length = 12 := by rw [List.length_append, le_len]; rfl
    rw [List.drop_append, h12, List.drop_of_length_le (by rw [h12]; decide)]
    rfl
  rw [e2, val_le r r0, Int.emod_eq_of_lt r0 (by simpa using r1)]
theorem headP_hpg (g r slot pages : Int) (g0 : 0 ≤ g) (g1 : g ≤ 4611686018427387904) (r0 : 0 ≤ r) (hr : r ≠ 1) (hp : r < pages) (hp4 : pages ≤ 4096) (hs : g % 2 = slot) : headP (hpg g r) slot pages = some (g, r) := by
  have e1 := genP_hpg g r g0 (by omega)
  have e2 := rootP_hpg g r r0 (by omega)
  unfold headP
  rw [if_pos, e1, e2]
  unfold headOK
  rw [e1, e2]
  exact ⟨g1, hr, hp, hs, rfl⟩
theorem opn_two {s : Dk} (hd : s.down = false) (hp3 : 3 ≤ s.pages) (hp4 : s.pages ≤ 4096) {g r g2 r2 : Int} (g0 : 0 ≤ g2) (hlt : g2 < g) (g1 : g ≤ 4611686018427387904) (hpar : g2 % 2 ≠ g % 2) (r0 : 0 ≤ r) (hr : r ≠ 1) (hrp : r < s.pages) (q0 : 0 ≤ r2) (hq : r2 ≠ 1) (hqp : r2 < s.pages)
    (h1 : hasP s (g % 2) = hpg g r) (h2 : hasP s (g2 % 2) = hpg g2 r2) : opnE s = 0 ∧ opnP s = some (g, r) := by
  have k1 := headP_hpg g r (g % 2) s.pages (by omega) g1 r0 hr hrp hp4 rfl
  have k2 := headP_hpg g2 r2 (g2 % 2) s.pages g0 (by omega) q0 hq hqp hp4 rfl
  have key : opnP s = some (g, r) := by
    show updB (updB none (headP (hasP s ((0 : Nat) : Int)) ((0 : Nat) : Int) s.pages)) (headP (hasP s ((1 : Nat) : Int)) ((1 : Nat) : Int) s.pages) = _
    rcases (show g % 2 = 0 ∨ g % 2 = 1 by omega) with e | e
    · have e2 : g2 % 2 = 1 := by omega
      rw [e] at h1 k1
      rw [e2] at h2 k2
      have a1 : hasP s ((0 : Nat) : Int) = hpg g r := h1
      have a2 : hasP s ((1 : Nat) : Int) = hpg g2 r2 := h2
      rw [a1, a2]
      have b1 : headP (hpg g r) ((0 : Nat) : Int) s.pages = some (g, r) := k1
      have b2 : headP (hpg g2 r2) ((1 : Nat) : Int) s.pages = some (g2, r2) := k2
      rw [b1, b2]
      show (if g < g2 then _ else _) = _
      rw [if_neg (by omega)]
    · have e2 : g2 % 2 = 0 := by omega
      rw [e] at h1 k1
      rw [e2] at h2 k2
      have a1 : hasP s ((1 : Nat) : Int) = hpg g r := h1
      have a2 : hasP s ((0 : Nat) : Int) = hpg g2 r2 := h2
      rw [a1, a2]
      have b1 : headP (hpg g r) ((1 : Nat) : Int) s.pages = some (g, r) := k1
      have b2 : headP (hpg g2 r2) ((0 : Nat) : Int) s.pages = some (g2, r2) := k2
      rw [b1, b2]
      show (if g2 < g then _ else _) = _
      rw [if_pos hlt]
  refine ⟨?_, key⟩
  unfold opnE
  rw [if_neg (by omega), if_neg (by rw [hd]; decide), key]
  rfl
end Go.Proofs.Ytmjmichkkmmdcaa.P
end
section
namespace Go.Proofs.Ytmjmichkkmmdcaa.P
open Go.RowKit Go.Proofs.Ytmjmichkkmmdcaa.Pure Go.Proofs.YtmjmichkkmmdcaaW.PrintWords Go.Proofs.YtmjmichkkmmdcaaW.PrintLast Go.Proofs.YtmjmichkkmmdcaaW.PrintMore
attribute [local go_sem] guard_ptr
set_option linter.unusedVariables false
set_option linter.unusedSimpArgs false
theorem u28p : Try.prog.underlying 28 = some (.pointer (Try.prog.pointee 28)) := by kernel_rfl
theorem u29p : Try.prog.underlying 29 = some (.pointer (Try.prog.pointee 29)) := by kernel_rfl
theorem eqp28 (p : Option Addr) (w : World) : (binOp .eql 28 (.pointer p) (.pointer none)).run Try.prog w = .ok (.bool p.isNone) w := run_eql_pointer_nil w 28 p u28p
theorem eqp29 (p : Option Addr) (w : World) : (binOp .eql 29 (.pointer p) (.pointer none)).run Try.prog w = .ok (.bool p.isNone) w := run_eql_pointer_nil w 29 p u29p
attribute [local go_sem] eqp28 eqp29
def frS (m : Nat) : Dk := fmtD (newS (m : Int))
theorem newS_hy (m : Int) : Hy (newS m) := ⟨rfl, rfl⟩
theorem frS_pages (m : Nat) : (frS m).pages = (m : Int) := fmtD_pages _
theorem frS_hy (m : Nat) (h3 : 3 ≤ m) : fmtE (newS (m : Int)) = 0 ∧ Hy (frS m) ∧ ∀ n, hasP (frS m) n = if n = 1 then hpg 1 0 else if n = 0 then hpg 0 0 else pgZ := hy_fmt (newS_hy _) (by show (3 : Int) ≤ (m : Int); omega)
theorem frS_opn (m : Nat) (h3 : 3 ≤ m) (h4 : m ≤ 4096) : opnE (frS m) = 0 ∧ opnP (frS m) = some (1, 0) := by
  have h := frS_hy m h3
  have hp := frS_pages m
  exact opn_two h.2.1.1 (by omega) (by omega) (g := 1) (r := 0) (g2 := 0) (r2 := 0) (by decide) (by decide) (by decide) (by decide) (by decide) (by decide) (by omega) (by decide) (by decide) (by omega) (by rw [h.2.2]; rfl) (by rw [h.2.2]; rfl)
set_option maxHeartbeats 2000000 in
set_option maxRecDepth 100000 in
theorem fresh_calls (m : Nat) (mz : Int) (hmz : mz = (m : Int)) (h3 : 3 ≤ m) (h4 : m ≤ 4096) (w : World) :
    Calls Try.prog 12 #[.int .i64 mz] w fun e w' => ∃ d p, e = .returned (.tuple #[.pointer (some ⟨d, 0, none⟩), .pointer (some ⟨p, 0, none⟩)]) ∧ DS w' w.heap.size d (frS m) 2 ∧ PG w' p d 0 1 false ∧ w.heap.size ≤ p ∧ Below w.heap.size w w' := by
  subst hmz
  have hn := ds_new (m : Int) (by omega) (by omega) w
  have hF := frS_hy m h3
  have hO := frS_opn m h3 h4
  have HOE := Aside0.mk hO
  have HFE := Aside0.mk hF.1
  have HM := Aside0.mk h4
  have HDB : Aside0 (DB (frS m)) := ⟨(DB.new _).fmt⟩
  clear hF hO h3 h4
  go_enter Try.func12, Try.ntmps12
  go_upto_region 2 with (go_at_call 30; (with_reducible refine hn.mono ?_); rintro e w1 ⟨d, rfl, hd, hb⟩; have HD1 := Aside0.mk hd; have HB1 := Aside0.mk hb; clear hd hb hn)
  go_upto_region 4 with (go_at_call 33; (with_reducible refine (format_calls (dact_ds w.heap.size d) _ HD1.out (by decide)).mono ?_); rw [HFE.out]; rintro e w2 ⟨rfl, hs, ht⟩; have HD2 : Aside0 (DS w2 w.heap.size d (frS m) 2) := ⟨hs⟩; have HB2 := Aside0.mk (HB1.out.trans ht.b); have HZ1 := Aside0.mk (below_size HB2.out); clear hs ht)
  have hop := open_calls m (frS_pages m) HM.out HDB.out w2 HD2.out
  clear HM
  go_wp2_with (go_at_call 15; (with_reducible refine hop.mono ?_); rintro e w3 ⟨hb, po, rfl, _, hpo⟩; rw [HOE.out.1]; obtain ⟨p, rfl, hp, hpg⟩ := hpo _ HOE.out.1 HOE.out.2; have HP3 := Aside0.mk hpg; have HD3 := Aside0.mk (HD2.out.step hb); have HPZ := Aside0.mk (Nat.le_trans HZ1.out hp); have HB3 := Aside0.mk (below_step HB2.out hb); clear hb hpo hp hpg hop)
  refine bodyPost_ret (results_tmp2 rfl _ _ _) rfl ?_
  exact ⟨d, p, by simp, HD3.out, HP3.out, HPZ.out, HB3.out⟩
end Go.Proofs.Ytmjmichkkmmdcaa.P
end
section
namespace Go.Proofs.Ytmjmichkkmmdcaa.P
open Go.RowKit Go.Proofs.Ytmjmichkkmmdcaa.Pure Go.Proofs.YtmjmichkkmmdcaaW.PrintWords Go.Proofs.YtmjmichkkmmdcaaW.PrintLast Go.Proofs.YtmjmichkkmmdcaaW.PrintMore
attribute [local go_sem] guard_ptr eqp28 eqp29
set_option linter.unusedVariables false
set_option linter.unusedSimpArgs false
def loadB (b : List Int) : List Int := b.take (min b.length 508) ++ (List.replicate 508 (0 : Int)).drop (min b.length 508)
theorem loadB_len (b : List Int) : (loadB b).length = 508 := by
  unfold loadB
  rw [List.length_append, List.length_take, List.length_drop, List.length_replicate]
  omega
theorem loadB_by {b : List Int} (h : BY b) : BY (loadB b) := (h.take _).append ((BY.rep 508).drop _)
set_option maxHeartbeats 2000000 in
set_option maxRecDepth 100000 in
theorem load_calls (kd n : Int) (A : Option Addr) (c : Nat) (b : List Int) (K : Option Addr) (kl kc : Nat) (torn cut : Int) (w : World) (hC : Kd.C (Kd.int .u8) w A b.length b) :
    Calls Try.prog 26 #[.agg #[.int .i64 kd, .int .i64 n, .slice A b.length c, .slice K kl kc, .int .i64 torn, .int .i64 cut]] w fun e w' => ∃ g c', e = .returned (.slice (some ⟨g, 0, none⟩) 508 c') ∧ w.heap.size ≤ g ∧ Kd.R (Kd.int .u8) 5 w' w.heap.size (fun _ => True) (.slice (some ⟨g, 0, none⟩) 508 c') (loadB b) ∧ Below w.heap.size w w' := by
  have HC := Aside0.mk hC
  have hB0 : Below w.heap.size w (w.alloc (.cells #[.int .i64 kd, .int .i64 n, .slice A b.length c, .slice K kl kc, .int .i64 torn, .int .i64 cut] 50)) := below_alloc (Below.refl _ _) _
  have HB0 := Aside0.mk hB0
  have hbk := Deep.blk_alloc_new w (.cells #[.int .i64 kd, .int .i64 n, .slice A b.length c, .slice K kl kc, .int .i64 torn, .int .i64 cut] 50)
  have HBK := Aside0.mk hbk
  obtain ⟨L, hL⟩ : ∃ L, L = b.length := ⟨_, rfl⟩
  have HLL := Aside0.mk hL
  rw [← hL]
  rw [← hL] at HBK HB0
  clear hC hB0 hbk hL
  go_enter Try.func26, Try.ntmps26
  go_upto_region 2 with ((with_reducible refine gate_dst (N := 4) rfl ?_); refine Kd.R_make (Kd.int .u8) (w0 := w) w.heap.size 5 rfl (N := 4) rfl 22 _ _ rfl 508 rfl rfl Try.underlying22 (.int .u8 0) 1 info5 rfl (by decide) (by decide) 0 (ok := fun _ => True) (okp := fun _ => False) rfl (fun _ h => h.elim) trivial (by decide) (by decide) HB0.out (below_size HB0.out) ?_; intro v6 w6 ho hb hg hn; obtain ⟨g6, c6, e6, hg6, _, _⟩ := Kd.R_form ho (by rw [List.length_replicate]; decide); rw [List.length_replicate] at e6; subst e6; have HO6 := Aside0.mk (show Kd.R (Kd.int .u8) 5 w6 w.heap.size (fun _ => True) (.slice (some ⟨g6, 0, none⟩) 508 c6) (List.replicate 508 0) from ho); have HB6 := Aside0.mk hb; have HG6 := Aside0.mk hg6; have HBK6 := Aside0.mk (blk_grown HBK.out hg (by simp)); clear ho hb hg hn hg6)
  have c2 : w6.cell? ⟨w.heap.size, 2, none⟩ = some (.slice A L c) := (blk_cell HBK6.out 2).trans rfl
  go_wp2_with ((with_reducible refine gate_builtin (b := .copy) (xs := #[.tmp 5, .tmp 7]) rfl ?_); (refine Kd.R_copy (enc := Value.int .u8) (h1 := fun _ => rfl) (0 : Int) (w0 := w) w.heap.size rfl (.tmp 5) (.tmp 7) 22 22 5 rfl Try.underlying22 (by kernel_rfl) (.slice (some ⟨g6, 0, none⟩) 508 c6) (List.replicate 508 0) b A L c (fun _ => True) rfl rfl HO6.out (by rw [HLL.out]; exact Kd.C_below HC.out HB6.out) HB6.out (below_size HB6.out) ?_); intro w7 ho hb hg; have HO7 := Aside0.mk ho; have HB7 := Aside0.mk hb; clear ho hb hg)
  go_ret
  refine ⟨_, _, rfl, HG6.out, ?_, HB7.out⟩
  have := HO7.out
  rw [List.length_replicate, HLL.out] at this
  exact this
theorem page_take {l : List Int} (h : l.length = 508) : (pageB l).take 508 = l := by
  unfold pageB
  rw [List.take_append_of_le_length (by omega), List.take_of_length_le (by omega)]
theorem right_page {l : List Int} (h : l.length = 508) : rightB (pageB l) = true := by
  unfold rightB
  rw [page_take h]
  simp
theorem crc_app (x : Int) (a b : List Int) : crc x (a ++ b) = crc (crc x a) b := List.foldl_append ..
theorem zc0 : crc 4294967295 (List.replicate 28 0) = 2140112918 := by decide +kernel
theorem zc1 : crc 2140112918 (List.replicate 32 0) = 4226643703 := by decide +kernel
theorem zc2 : crc 4226643703 (List.replicate 32 0) = 1028315416 := by decide +kernel
theorem zc3 : crc 1028315416 (List.replicate 32 0) = 3928551923 := by decide +kernel
theorem zc4 : crc 3928551923 (List.replicate 32 0) = 2066286931 := by decide +kernel
theorem zc5 : crc 2066286931 (List.replicate 32 0) = 276363249 := by decide +kernel
theorem zc6 : crc 276363249 (List.replicate 32 0) = 2931366198 := by decide +kernel
theorem zc7 : crc 2931366198 (List.replicate 32 0) = 1503438350 := by decide +kernel
theorem zc8 : crc 1503438350 (List.replicate 32 0) = 546296205 := by decide +kernel
theorem zc9 : crc 546296205 (List.replicate 32 0) = 302594043 := by decide +kernel
theorem zc10 : crc 302594043 (List.replicate 32 0) = 400198206 := by decide +kernel
theorem zc11 : crc 400198206 (List.replicate 32 0) = 2496072846 := by decide +kernel
theorem zc12 : crc 2496072846 (List.replicate 32 0) = 2895417462 := by decide +kernel
theorem zc13 : crc 2895417462 (List.replicate 32 0) = 2572384530 := by decide +kernel
theorem zc14 : crc 2572384530 (List.replicate 32 0) = 810772328 := by decide +kernel
theorem zc15 : crc 810772328 (List.replicate 32 0) = 4031025835 := by decide +kernel
theorem crc_step (x y z : Int) (n m k : Nat) (hk : k = n + m) (h1 : crc x (List.replicate n 0) = y) (h2 : crc y (List.replicate m 0) = z) : crc x (List.replicate k 0) = z := by
  rw [hk, ← List.replicate_append_replicate, crc_app, h1, h2]
theorem zd0 : crc 4294967295 (List.replicate 28 0) = 2140112918 := zc0
theorem zd1 : crc 4294967295 (List.replicate 60 0) = 4226643703 := crc_step _ 2140112918 _ 28 32 60 rfl zd0 zc1
theorem zd2 : crc 4294967295 (List.replicate 92 0) = 1028315416 := crc_step _ 4226643703 _ 60 32 92 rfl zd1 zc2
theorem zd3 : crc 4294967295 (List.replicate 124 0) = 3928551923 := crc_step _ 1028315416 _ 92 32 124 rfl zd2 zc3
theorem zd4 : crc 4294967295 (List.replicate 156 0) = 2066286931 := crc_step _ 3928551923 _ 124 32 156 rfl zd3 zc4
theorem zd5 : crc 4294967295 (List.replicate 188 0) = 276363249 := crc_step _ 2066286931 _ 156 32 188 rfl zd4 zc5
theorem zd6 : crc 4294967295 (List.replicate 220 0) = 2931366198 := crc_step _ 276363249 _ 188 32 220 rfl zd5 zc6
theorem zd7 : crc 4294967295 (List.replicate 252 0) = 1503438350 := crc_step _ 2931366198 _ 220 32 252 rfl zd6 zc7
theorem zd8 : crc 4294967295 (List.replicate 284 0) = 546296205 := crc_step _ 1503438350 _ 252 32 284 rfl zd7 zc8
theorem zd9 : crc 4294967295 (List.replicate 316 0) = 302594043 := crc_step _ 546296205 _ 284 32 316 rfl zd8 zc9
theorem zd10 : crc 4294967295 (List.replicate 348 0) = 400198206 := crc_step _ 302594043 _ 316 32 348 rfl zd9 zc10
theorem zd11 : crc 4294967295 (List.replicate 380 0) = 2496072846 := crc_step _ 400198206 _ 348 32 380 rfl zd10 zc11
theorem zd12 : crc 4294967295 (List.replicate 412 0) = 2895417462 := crc_step _ 2496072846 _ 380 32 412 rfl zd11 zc12
theorem zd13 : crc 4294967295 (List.replicate 444 0) = 2572384530 := crc_step _ 2895417462 _ 412 32 444 rfl zd12 zc13
theorem zd14 : crc 4294967295 (List.replicate 476 0) = 810772328 := crc_step _ 2572384530 _ 444 32 476 rfl zd13 zc14
theorem zd15 : crc 4294967295 (List.replicate 508 0) = 4031025835 := crc_step _ 810772328 _ 476 32 508 rfl zd14 zc15
theorem sum_zero : sumB (List.replicate 508 0) ≠ 0 := by
  unfold sumB
  rw [zd15]
  decide +kernel
theorem zero_bad : rightB pgZ = false := by
  have h1 : pgZ.take 508 = List.replicate 508 0 := by unfold pgZ; rw [List.take_replicate]; rfl
  have hz0 : pgZ = List.replicate 508 0 ++ List.replicate 4 0 := by unfold pgZ; rw [List.replicate_append_replicate]
  have h2 := sum_zero
  unfold rightB
  rw [h1]
  obtain ⟨z, hz⟩ : ∃ z, z = List.replicate 508 (0 : Int) := ⟨_, rfl⟩
  have hzl : z.length = 508 := by rw [hz, List.length_replicate]
  rw [← hz] at h2 hz0 ⊢
  rw [hz0]
  clear hz h1 hz0
  refine decide_eq_false (fun h => h2 ?_)
  unfold pageB at h
  have e := List.append_cancel_left h
  have h5 := congrArg val e
  have hr := sumB_range z
  have h4 : (256 : Int) ^ 4 = 4294967296 := by decide
  rw [val_le _ hr.1, h4, Int.emod_eq_of_lt hr.1 hr.2] at h5
  rw [← h5]
  decide
theorem lit1 (W : World) (fr : Nat × Nat) : Kd.C (Kd.int .u8) (W.alloc (.cells #[.int .u8 120] 5 fr)) (some ⟨W.heap.size, 0, none⟩) 1 ([120] : List Int) := by
  refine Kd.C_of_reads (enc := Value.int .u8) (d := (0 : Int)) (h1 := fun _ => rfl) ⟨rfl, by decide, fun _ => ⟨_, rfl, ?_⟩⟩
  intro j hj
  have h : ∀ i : Nat, (W.alloc (.cells #[.int .u8 120] 5 fr)).cell? ⟨W.heap.size, i, none⟩ = (#[.int .u8 120] : Array Value)[i]? := fun i => World.cell?_alloc_mark W _ 5 fr i
  have hj9 : j = 0 := by omega
  subst hj9
  exact (h _).trans rfl
def lx : List Int := loadB [120]
def ws2 : Dk := wrD (frS 5) 2 lx
def ws3 : Dk := stpD ws2 2 2
theorem ws2_ok : wrE (frS 5) 2 lx = 0 ∧ Hy ws2 ∧ ws2.pages = 5 ∧ (∀ n, hasP ws2 n = if n = 2 then pageB lx else hasP (frS 5) n) ∧ DB ws2 := by
  have h := frS_hy 5 (by decide)
  have hp : (frS 5).pages = 5 := frS_pages 5
  have hw := hy_write h.2.1 (q := 2) (b := pageB lx) (by decide) (by rw [hp]; decide) (by rw [pageB_len]; unfold lx; rw [loadB_len])
  have e1 : ¬ hasN 2 (frS 5).pages = false := by rw [hp]; decide
  have e2 : ¬ lx.length ≠ 508 := by unfold lx; rw [loadB_len]; simp
  have eD : ws2 = writeD (frS 5) 2 (pageB lx) := by unfold ws2 wrD; rw [if_neg e1, if_neg e2]
  have hdb : DB (frS 5) := (DB.new _).fmt
  refine ⟨?_, ?_, ?_, ?_, ?_⟩
  · unfold wrE
    rw [if_neg e1, if_neg e2]
    exact hw.1
  · rw [eD]; exact hw.2.1
  · rw [eD, write_pages, hp]
  · rw [eD]; exact hw.2.2
  · rw [eD]; exact hdb.write 2 (pageB_by (loadB_by (fun x hx => by simp at hx; omega)))
theorem ws3_ok : comE ws2 1 false 2 = 0 ∧ comD ws2 1 false 2 = ws3 ∧ comG ws2 0 1 false 2 = (2, 2, false) ∧ Hy ws3 ∧ ws3.pages = 5 ∧ (∀ n, hasP ws3 n = if n = 0 then hpg 2 2 else hasP ws2 n) ∧ DB ws3 := by
  obtain ⟨_, h1, h2, h3, h4⟩ := ws2_ok
  have hs := hy_stp h1 (by rw [h2]; decide) (g := 2) (r := 2) (by decide)
  have hb : ¬ badR ws2 2 = true := by unfold badR; rw [h2]; decide
  refine ⟨?_, ?_, ?_, hs.2.1, by unfold ws3; rw [stpD_pages, h2], fun n => ?_, h4.stp _ _⟩
  · unfold comE
    rw [if_neg (by decide), if_neg hb]
    exact hs.1
  · unfold comD
    rw [if_neg (by decide), if_neg hb]
    rfl
  · unfold comG
    rw [if_neg (by decide), if_neg hb, show (1 : Int) + 1 = 2 from rfl, if_pos hs.1]
  · exact hs.2.2 n
theorem ws3_bad : comE ws3 2 false 5 = 2 ∧ comD ws3 2 false 5 = ws3 ∧ comG ws3 2 2 false 5 = (2, 2, false) := by
  have hp := ws3_ok.2.2.2.2.1
  have hb : badR ws3 5 = true := by unfold badR; rw [hp]; decide
  refine ⟨?_, ?_, ?_⟩
  · unfold comE; rw [if_neg (by decide), if_pos hb]
  · unfold comD; rw [if_neg (by decide), if_pos hb]
  · unfold comG; rw [if_neg (by decide), if_pos hb]
theorem ws3_read3 : rdE ws3 3 = 10 := by
  obtain ⟨_, _, _, h1, h2, h3, _⟩ := ws3_ok
  have h4 := ws2_ok.2.2.2.1
  have h5 := (frS_hy 5 (by decide)).2.2
  have e : hasP ws3 3 = pgZ := by rw [h3, if_neg (by decide), h4, if_neg (by decide), h5, if_neg (by decide), if_neg (by decide)]
  unfold rdE
  rw [h2, e, zero_bad, if_neg (by decide), lookP_ok' h1.1 (by decide) (by rw [h2]; decide)]
  rfl
theorem ws3_read2 : rdE ws3 2 = 0 ∧ (hasP ws3 2).take 508 = lx := by
  obtain ⟨_, _, _, h1, h2, h3, _⟩ := ws3_ok
  have h4 := ws2_ok.2.2.2.1
  have e : hasP ws3 2 = pageB lx := by rw [h3, if_neg (by decide), h4, if_pos rfl]
  have hl : lx.length = 508 := loadB_len _
  refine ⟨?_, by rw [e, page_take hl]⟩
  unfold rdE
  rw [h2, e, right_page hl, if_neg (by decide), lookP_ok' h1.1 (by decide) (by rw [h2]; decide)]
  rfl
theorem ws3_opn : opnE ws3 = 0 ∧ opnP ws3 = some (2, 2) := by
  obtain ⟨_, _, _, h1, h2, h3, _⟩ := ws3_ok
  have h4 := ws2_ok.2.2.2.1
  have h5 := (frS_hy 5 (by decide)).2.2
  refine opn_two h1.1 (by rw [h2]; decide) (by rw [h2]; decide) (g := 2) (r := 2) (g2 := 1) (r2 := 0) (by decide) (by decide) (by decide) (by decide) (by decide) (by decide) (by rw [h2]; decide) (by decide) (by decide) (by rw [h2]; decide) ?_ ?_
  · rw [h3]; rfl
  · rw [h3, if_neg (by decide), h4, if_neg (by decide), h5]; rfl
end Go.Proofs.Ytmjmichkkmmdcaa.P
end
section
namespace Go.Proofs.Ytmjmichkkmmdcaa.P
open Go.RowKit Go.Proofs.Ytmjmichkkmmdcaa.Pure Go.Proofs.YtmjmichkkmmdcaaW.PrintWords Go.Proofs.YtmjmichkkmmdcaaW.PrintLast Go.Proofs.YtmjmichkkmmdcaaW.PrintMore
attribute [local go_sem] guard_ptr eqp28 eqp29
set_option linter.unusedVariables false
set_option linter.unusedSimpArgs false
theorem R5_tg {Z b : Nat} {ok : Nat → Prop} {w w' : World} {v : Value} {xs : List Int} (h : Kd.R (Kd.int .u8) 5 w b ok v xs) (ht : TG Z w w') : Kd.R (Kd.int .u8) 5 w' b ok v xs := by
  refine Kd.R_mono (Kd.R_move (Kd.R_bound h) (fun k hk => ?_)) (fun _ hk => hk.1)
  obtain ⟨_, _, _, q, hqm, cells, hc⟩ := hk
  have hq5 : q = 5 := by simpa [Kd.int, Kd.scalar] using hqm
  subst hq5
  rw [hc, ht.blk k cells 5 _ hc (by decide) (by decide) (by decide)]
set_option maxHeartbeats 8000000 in
set_option maxRecDepth 100000 in
theorem works_calls (w : World) : Calls Try.prog 11 #[] w fun e w' => e = .returned (.bool true) ∧ Below w.heap.size w w' := by
  have hfr := fresh_calls 5 5 rfl (by decide) (by decide) w
  have HW2 := Aside0.mk ws2_ok
  have HW3 := Aside0.mk ws3_ok
  have HWB := Aside0.mk ws3_bad
  have HWR := Aside0.mk (And.intro ws3_read3 ws3_read2)
  have HWO := Aside0.mk ws3_opn
  have hlb : BY lx := loadB_by (fun x hx => by simp at hx; omega)
  have hll : lx.length = 508 := loadB_len _
  have HLX := Aside0.mk (And.intro hll hlb)
  clear hlb hll
  go_enter Try.func11, Try.ntmps11
  go_upto_region 4 with (go_at_call 12; (with_reducible refine hfr.mono ?_); rintro e w1 ⟨d, p, rfl, hd, hp, hz, hb⟩; have HD1 := Aside0.mk hd; have HP1 := Aside0.mk hp; have HZ := Aside0.mk hz; have HB1 := Aside0.mk hb; clear hd hp hz hb hfr)
  have hcv : (convert 22 22 (.slice (some ⟨w1.heap.size, 0, none⟩) 1 1)).run Try.prog (w1.alloc (.cells #[.int .u8 120] 5)) = .ok (.slice (some ⟨w1.heap.size, 0, none⟩) 1 1) (w1.alloc (.cells #[.int .u8 120] 5 (1, 2))) := Lib.run_convert_bytes_const w1 22 5 _ 1 1 Try.underlying22 Try.underlying5
  have hbm := below_mark w1 (.cells #[.int .u8 120] 5 (1, 2))
  have HD2 := Aside0.mk (HD1.out.step hbm)
  have HP2 := Aside0.mk (HP1.out.step hbm)
  have HB2 := Aside0.mk (below_step HB1.out hbm)
  have hld : Calls Try.prog 26 #[.agg #[.int .i64 0, .int .i64 0, .slice (some ⟨w1.heap.size, 0, none⟩) 1 1, .slice none 0 0, .int .i64 0, .int .i64 0]] (w1.alloc (.cells #[.int .u8 120] 5 (1, 2))) fun e w' => ∃ g c', e = .returned (.slice (some ⟨g, 0, none⟩) 508 c') ∧ (w1.alloc (.cells #[.int .u8 120] 5 (1, 2))).heap.size ≤ g ∧ Kd.R (Kd.int .u8) 5 w' (w1.alloc (.cells #[.int .u8 120] 5 (1, 2))).heap.size (fun _ => True) (.slice (some ⟨g, 0, none⟩) 508 c') (loadB [120]) ∧ Below (w1.alloc (.cells #[.int .u8 120] 5 (1, 2))).heap.size (w1.alloc (.cells #[.int .u8 120] 5 (1, 2))) w' := load_calls 0 0 (some ⟨w1.heap.size, 0, none⟩) 1 [120] none 0 0 0 0 _ (lit1 w1 (1, 2))
  clear hbm HD1 HP1 HB1
  go_upto_region 5 with (go_at_call 26; (with_reducible refine hld.mono ?_); rintro e w3 ⟨g, c, rfl, hg, ho, hb⟩; have HO3 := Aside0.mk (show Kd.R (Kd.int .u8) 5 w3 _ (fun _ => True) (.slice (some ⟨g, 0, none⟩) 508 c) lx from ho); have HD3 := Aside0.mk (HD2.out.step hb); have HP3 := Aside0.mk (HP2.out.step hb); have HB3 := Aside0.mk (below_step HB2.out hb); clear hg ho hb hld hcv)
  have hwr := pwrite_calls p 2 (some ⟨g, 0, none⟩) c lx w3 HD3.out (by decide) HP3.out (Kd.R_reads' HO3.out).2.2 (by rw [HLX.out.1]; exact (Kd.R_reads' HO3.out).2.1) HLX.out.2
  rw [HLX.out.1, HW2.out.1] at hwr
  have HC4 := Aside0.mk hwr
  clear hwr
  go_upto_region 7 with (first
    | (go_at_call 16; (with_reducible refine HC4.out.mono ?_); rintro e w4 ⟨rfl, hd, ht⟩; have HD4 := Aside0.mk (show DS w4 w.heap.size d ws2 3 from hd); have HP4 := Aside0.mk (HP3.out.tf ht); have HO4 := Aside0.mk (R5_tf HO3.out ht); have HB4 := Aside0.mk (HB3.out.trans ht.b); clear hd ht)
    | (go_at_call 14; (with_reducible refine (commit_calls (dact_ds w.heap.size d) p 2 (by rw [HW2.out.2.2.1]; decide) (by decide) (by decide) w.heap.size (Nat.le_refl _) HZ.out w4 HD4.out (by decide) HP4.out).mono ?_); rw [HW3.out.1, HW3.out.2.1, HW3.out.2.2.1]; rintro e w5 ⟨rfl, hd, ht, hp⟩; have HD5 := Aside0.mk (show DS w5 w.heap.size d ws3 4 from hd); have HP5 := Aside0.mk (show PG w5 p d 2 2 false from hp); have HO5 := Aside0.mk (R5_tg HO4.out ht); have HB5 := Aside0.mk (HB4.out.trans ht.b); clear hd ht hp)
    | (go_at_call 14; (with_reducible refine (commit_calls (dact_ds w.heap.size d) p 5 (by rw [HW3.out.2.2.2.2.1]; decide) (by decide) (by decide) w.heap.size (Nat.le_refl _) HZ.out w5 HD5.out (by decide) HP5.out).mono ?_); rw [HWB.out.1, HWB.out.2.1, HWB.out.2.2]; rintro e w6 ⟨rfl, hd, ht, hp⟩; have HD6 := Aside0.mk (show DS w6 w.heap.size d ws3 5 from hd); have HP6 := Aside0.mk (show PG w6 p d 2 2 false from hp); have HO6 := Aside0.mk (R5_tg HO5.out ht); have HB6 := Aside0.mk (HB5.out.trans ht.b); clear hd ht hp))
  have HDB := Aside0.mk HW3.out.2.2.2.2.2.2
  go_upto_region 8 with (go_at_call 19; (with_reducible refine (pread_calls p 3 HDB.out w6 HD6.out HP6.out).mono ?_); rintro e w7 ⟨hb, v7, rfl, hv⟩; rw [HWR.out.1]; have HD7 := Aside0.mk (HD6.out.step hb); have HO7 := Aside0.mk (Kd.R_below HO6.out hb); have HB7 := Aside0.mk (below_step HB6.out hb); clear hb hv)
  have hop := open_calls 5 HW3.out.2.2.2.2.1 (by decide) HDB.out w7 HD7.out
  go_upto_region 11 with (go_at_call 15; (with_reducible refine hop.mono ?_); rintro e w8 ⟨hb, po, rfl, _, hpo⟩; rw [HWO.out.1]; obtain ⟨q, rfl, hq, hpg⟩ := hpo _ HWO.out.1 HWO.out.2; have HP8 := Aside0.mk (show PG w8 q d 2 2 false from hpg); have HD8 := Aside0.mk (HD7.out.step hb); have HO8 := Aside0.mk (Kd.R_below HO7.out hb); have HB8 := Aside0.mk (below_step HB7.out hb); clear hb hpo hq hpg hop)
  go_upto_region 13 with (first
    | (go_at_call 13; (with_reducible refine (root_calls q d w8 HP8.out).mono ?_); rintro e w9 ⟨rfl, hb⟩; have HP9 := Aside0.mk (HP8.out.step hb); have HD9 := Aside0.mk (HD8.out.step hb); have HO9 := Aside0.mk (Kd.R_below HO8.out hb); have HB9 := Aside0.mk (below_step HB8.out hb); clear hb)
    | (go_at_call 19; (with_reducible refine (pread_calls q 2 HDB.out w9 HD9.out HP9.out).mono ?_); rintro e w10 ⟨hb, v10, rfl, hv⟩; rw [HWR.out.2.1] at hv ⊢; obtain ⟨g10, c10, rfl, hC10⟩ : ∃ g10 c10, v10 = .slice (some ⟨g10, 0, none⟩) 508 c10 ∧ Kd.C (Kd.int .u8) w10 (some ⟨g10, 0, none⟩) 508 lx := (by rcases hv with ⟨hn, _⟩ | ⟨_, g10, c10, _, _, e, hc⟩; exact absurd rfl hn; exact ⟨g10, c10, e, by rw [HWR.out.2.2] at hc; exact hc⟩); have HC10 := Aside0.mk hC10; have HO10 := Aside0.mk (Kd.R_below HO9.out hb); have HB10 := Aside0.mk (below_step HB9.out hb); clear hb hv hC10))
  obtain ⟨st, hst⟩ : ∃ st, st = strOfNums lx := ⟨_, rfl⟩
  have cA : (convert 22 9 (.slice (some ⟨g10, 0, none⟩) 508 c10)).run Try.prog w10 = .ok (.string st) w10 := by
    have := Kd.C_string (c := c10) Try.underlying22 Try.underlying5 Try.underlying9 (show Kd.C (Kd.int .u8) w10 (some ⟨g10, 0, none⟩) lx.length lx by rw [HLX.out.1]; exact HC10.out)
    rw [HLX.out.1] at this
    rw [hst]
    exact this
  have cB : (convert 22 9 (.slice (some ⟨g, 0, none⟩) 508 c)).run Try.prog w10 = .ok (.string st) w10 := by rw [hst]; exact row_string HO10.out
  clear hst
  go_wp2
  go_ret
  exact ⟨by simp, HB10.out⟩
end Go.Proofs.Ytmjmichkkmmdcaa.P
end
section
namespace Go.Proofs.Ytmjmichkkmmdcaa.P
open Go.RowKit Go.Proofs.Ytmjmichkkmmdcaa.Pure Go.Proofs.YtmjmichkkmmdcaaW.PrintWords Go.Proofs.YtmjmichkkmmdcaaW.PrintLast Go.Proofs.YtmjmichkkmmdcaaW.PrintMore
set_option linter.unusedVariables false
set_option linter.unusedSimpArgs false
theorem xor32 (a b : Nat) (ha : a < 4294967296) (hb : b < 4294967296) : Go.bits .xor .u32 (a : Int) (b : Int) = ((a ^^^ b : Nat) : Int) := by
  have hx : a ^^^ b < 2 ^ 32 := Nat.xor_lt_two_pow (by omega) (by omega)
  have h1 : (BitVec.ofInt 32 (a : Int)).toNat = a := by
    rw [BitVec.ofInt_natCast, BitVec.toNat_ofNat]; exact Nat.mod_eq_of_lt (by omega)
  have h2 : (BitVec.ofInt 32 (b : Int)).toNat = b := by
    rw [BitVec.ofInt_natCast, BitVec.toNat_ofNat]; exact Nat.mod_eq_of_lt (by omega)
  show IntKind.u32.wrap ((BitVec.ofInt 32 (a : Int) ^^^ BitVec.ofInt 32 (b : Int)).toNat : Int) = _
  rw [BitVec.toNat_xor, h1, h2, IntKind.wrap_u32]
  omega
theorem xor8 (a b : Nat) (ha : a < 256) (hb : b < 256) : Go.bits .xor .u8 (a : Int) (b : Int) = ((a ^^^ b : Nat) : Int) := by
  have hx : a ^^^ b < 2 ^ 8 := Nat.xor_lt_two_pow (by omega) (by omega)
  have h1 : (BitVec.ofInt 8 (a : Int)).toNat = a := by
    rw [BitVec.ofInt_natCast, BitVec.toNat_ofNat]; exact Nat.mod_eq_of_lt (by omega)
  have h2 : (BitVec.ofInt 8 (b : Int)).toNat = b := by
    rw [BitVec.ofInt_natCast, BitVec.toNat_ofNat]; exact Nat.mod_eq_of_lt (by omega)
  show IntKind.u8.wrap ((BitVec.ofInt 8 (a : Int) ^^^ BitVec.ofInt 8 (b : Int)).toNat : Int) = _
  rw [BitVec.toNat_xor, h1, h2, IntKind.wrap_u8]
  omega
theorem xor_cancel (a b c : Nat) (h : a ^^^ c = b ^^^ c) : a = b := by
  have := congrArg (· ^^^ c) h
  simpa [Nat.xor_assoc] using this
theorem xor_cancel_left (a b c : Nat) (h : c ^^^ a = c ^^^ b) : a = b := by
  rw [Nat.xor_comm c a, Nat.xor_comm c b] at h
  exact xor_cancel a b c h
theorem xor32_inj {x y c : Int} (hx : U32 x) (hy : U32 y) (hc : U32 c) (h : Go.bits .xor .u32 x c = Go.bits .xor .u32 y c) : x = y := by
  obtain ⟨a, rfl⟩ := Int.eq_ofNat_of_zero_le hx.1
  obtain ⟨b, rfl⟩ := Int.eq_ofNat_of_zero_le hy.1
  obtain ⟨d, rfl⟩ := Int.eq_ofNat_of_zero_le hc.1
  have h1 := hx.2
  have h2 := hy.2
  have h3 := hc.2
  rw [xor32 a d (by omega) (by omega), xor32 b d (by omega) (by omega)] at h
  rw [xor_cancel a b d (by exact_mod_cast h)]
theorem xor32_inj' {x y c : Int} (hx : U32 x) (hy : U32 y) (hc : U32 c) (h : Go.bits .xor .u32 c x = Go.bits .xor .u32 c y) : x = y := by
  rw [Pure.xor_comm c x, Pure.xor_comm c y] at h
  exact xor32_inj hx hy hc h
theorem poly_high (a : Nat) (ha : a < 2147483648) : 2147483648 ≤ a ^^^ 3988292384 := by
  have h1 : (a ^^^ 3988292384).testBit 31 = true := by
    rw [Nat.testBit_xor, Nat.testBit_lt_two_pow (by omega)]
    decide
  exact Nat.ge_two_pow_of_testBit h1
theorem turn_inj {x y : Int} (hx : U32 x) (hy : U32 y) (h : turn x = turn y) : x = y := by
  have h1 := hx.1
  have h2 := hx.2
  have h3 := hy.1
  have h4 := hy.2
  have key : ∀ z : Int, 0 ≤ z → z < 4294967296 → 2147483648 ≤ Go.bits .xor .u32 (z / 2) 3988292384 := fun z z0 z1 => by
    obtain ⟨a, ha⟩ := Int.eq_ofNat_of_zero_le (show 0 ≤ z / 2 by omega)
    have e : Go.bits .xor .u32 (z / 2) 3988292384 = ((a ^^^ 3988292384 : Nat) : Int) := by
      rw [ha]
      exact xor32 a 3988292384 (by omega) (by decide)
    rw [e]
    have := poly_high a (by omega)
    omega
  unfold turn at h
  by_cases ex : x % 2 = 1
  · by_cases ey : y % 2 = 1
    · rw [if_pos ex, if_pos ey] at h
      have := xor32_inj (x := x / 2) (y := y / 2) ⟨by omega, by omega⟩ ⟨by omega, by omega⟩ ⟨by decide, by decide⟩ h
      omega
    · rw [if_pos ex, if_neg ey] at h
      have := key x h1 h2
      omega
  · by_cases ey : y % 2 = 1
    · rw [if_neg ex, if_pos ey] at h
      have := key y h3 h4
      omega
    · rw [if_neg ex, if_neg ey] at h
      omega
theorem turns_inj : ∀ (n : Nat) {x y : Int}, U32 x → U32 y → turns n x = turns n y → x = y
  | 0, _, _, _, _, h => h
  | n + 1, _, _, hx, hy, h => turn_inj hx hy (turns_inj n (turn_u32 hx) (turn_u32 hy) h)
theorem eat_inj {x y c : Int} (hx : U32 x) (hy : U32 y) (hc : 0 ≤ c ∧ c ≤ 255) (h : eat x c = eat y c) : x = y :=
  xor32_inj hx hy ⟨hc.1, by omega⟩ (turns_inj 8 (xor_u32 _ _) (xor_u32 _ _) h)
theorem eat_inj' {x c e : Int} (hx : U32 x) (hc : 0 ≤ c ∧ c ≤ 255) (he : 0 ≤ e ∧ e ≤ 255) (h : eat x c = eat x e) : c = e :=
  xor32_inj' ⟨hc.1, by omega⟩ ⟨he.1, by omega⟩ hx (turns_inj 8 (xor_u32 _ _) (xor_u32 _ _) h)
theorem crc_u32 : ∀ (l : List Int) {x : Int}, U32 x → U32 (crc x l)
  | [], _, h => h
  | c :: l, x, h => by rw [crc_cons]; exact crc_u32 l (eat_u32 x c)
theorem crc_inj : ∀ (l : List Int) {x y : Int}, BY l → U32 x → U32 y → crc x l = crc y l → x = y
  | [], _, _, _, _, _, h => h
  | c :: l, x, y, hb, hx, hy, h => by
    rw [crc_cons, crc_cons] at h
    exact eat_inj hx hy (hb c (by simp)) (crc_inj l (fun z hz => hb z (by simp [hz])) (eat_u32 _ _) (eat_u32 _ _) h)
theorem crc_set : ∀ (l : List Int) (k : Nat) (y : Int) {x : Int}, BY l → U32 x → (hk : k < l.length) → 0 ≤ y ∧ y ≤ 255 → y ≠ l[k] → crc x (l.set k y) ≠ crc x l
  | [], k, _, _, _, _, hk, _, _ => absurd hk (Nat.not_lt_zero k)
  | c :: l, 0, y, x, hb, hx, _, hy, hne => by
    rw [List.set_cons_zero, crc_cons, crc_cons]
    intro h
    have h1 := crc_inj l (fun z hz => hb z (by simp [hz])) (eat_u32 _ _) (eat_u32 _ _) h
    exact hne (eat_inj' hx hy (hb c (by simp)) h1)
  | c :: l, k + 1, y, x, hb, hx, hk, hy, hne => by
    rw [List.set_cons_succ, crc_cons, crc_cons]
    exact crc_set l k y (fun z hz => hb z (by simp [hz])) (eat_u32 _ _) (by simpa using hk) hy (by simpa using hne)
theorem sum_set (l : List Int) (k : Nat) (y : Int) (hb : BY l) (hk : k < l.length) (hy : 0 ≤ y ∧ y ≤ 255) (hne : y ≠ l[k]) : sumB (l.set k y) ≠ sumB l := by
  have hM : U32 4294967295 := ⟨by decide, by decide⟩
  intro h
  exact crc_set l k y hb hM hk hy hne (xor32_inj' (crc_u32 _ hM) (crc_u32 _ hM) hM h)
theorem BY.set {l : List Int} (h : BY l) (k : Nat) {y : Int} (hy : 0 ≤ y ∧ y ≤ 255) : BY (l.set k y) := fun x hx => by
  rcases List.mem_or_eq_of_mem_set hx with hx | rfl
  · exact h x hx
  · exact hy
theorem le4_inj {a b : Int} (ha : 0 ≤ a ∧ a < 4294967296) (hb : 0 ≤ b ∧ b < 4294967296) (h : le a 4 = le b 4) : a = b := by
  have := congrArg val h
  have h4 : (256 : Int) ^ 4 = 4294967296 := by decide
  rw [val_le _ ha.1, val_le _ hb.1, h4, Int.emod_eq_of_lt ha.1 ha.2, Int.emod_eq_of_lt hb.1 hb.2] at this
  exact this
theorem tell_set (l : List Int) (hl : l.length = 508) (hb : BY l) (k : Nat) (hk : k < 512) (y : Int) (hy : 0 ≤ y ∧ y ≤ 255) (hne : y ≠ (pageB l)[k]'(by rw [pageB_len, hl]; exact hk)) : rightB ((pageB l).set k y) = false := by
  unfold rightB
  refine decide_eq_false (fun h => ?_)
  by_cases h5 : k < 508
  · have e1 : (pageB l).set k y = l.set k y ++ le (sumB l) 4 := by
      unfold pageB
      rw [List.set_append_left _ _ (by omega)]
    have e2 : ((pageB l).set k y).take 508 = l.set k y := by
      rw [e1, List.take_append_of_le_length (by rw [List.length_set]; omega), List.take_of_length_le (by rw [List.length_set]; omega)]
    rw [e2, e1] at h
    unfold pageB at h
    have e3 := List.append_cancel_left h
    have e4 := le4_inj (sumB_range _) (sumB_range _) e3
    refine sum_set l k y hb (by omega) hy ?_ e4.symm
    intro e
    refine hne (e.trans ?_)
    unfold pageB
    rw [List.getElem_append_left (by omega)]
  · have e2 : ((pageB l).set k y).take 508 = l := by
      unfold pageB
      rw [List.set_append_right _ _ (by omega), List.take_append_of_le_length (by omega), List.take_of_length_le (by omega)]
    rw [e2] at h
    have := congrArg (fun m => m[k]?) h
    simp only [List.getElem?_set, if_true, pageB_len, hl] at this
    rw [if_pos (show k < 508 + 4 by omega), List.getElem?_eq_getElem (by rw [pageB_len, hl]; exact hk)] at this
    exact hne (Option.some.inj this)
theorem xor8_ne {x by_ : Int} (hx : 0 ≤ x ∧ x ≤ 255) (hb : 0 ≤ by_ ∧ by_ ≤ 255) (h0 : by_ ≠ 0) : (0 ≤ Go.bits .xor .u8 x by_ ∧ Go.bits .xor .u8 x by_ ≤ 255) ∧ Go.bits .xor .u8 x by_ ≠ x := by
  obtain ⟨a, rfl⟩ := Int.eq_ofNat_of_zero_le hx.1
  obtain ⟨b, rfl⟩ := Int.eq_ofNat_of_zero_le hb.1
  have h1 := hx.2
  have h2 := hb.2
  have hxl : a ^^^ b < 2 ^ 8 := Nat.xor_lt_two_pow (by omega) (by omega)
  rw [xor8 a b (by omega) (by omega)]
  refine ⟨⟨by omega, by omega⟩, fun h => h0 ?_⟩
  have h3 : a ^^^ b = a := by exact_mod_cast h
  have h4 : a ^^^ b = a ^^^ 0 := by rw [h3, Nat.xor_zero]
  have := xor_cancel_left b 0 a h4
  exact_mod_cast this
theorem ds_write_blk {base d C : Nat} {s : Dk} (n : Int) (g cap : Nat) (b : List Int) (t : TypeId) (ht1 : t ≠ 96) (ht2 : t ≠ 98) (hb : b.length = 512) (w : World) (h : DS w base d s C) (hC : C < 1073741824) (hg : w.heap[g]? = some (.cells (bvs b).toArray t (0, 0))) :
    Calls Try.prog 18 #[.pointer (some ⟨d, 0, none⟩), .int .i64 n, .slice (some ⟨g, 0, none⟩) 512 cap] w fun e w' => e = .returned (.int .i64 (writeE s n b)) ∧ DS w' base d (writeD s n b) (C + 1) ∧ TF base w w' := by
  obtain ⟨M, N, v, h, hc⟩ := h
  have hbl : base ≤ w.heap.size := Nat.le_trans h.bd (Nat.le_of_lt h.lt)
  unfold writeE writeD
  by_cases hl : lookP s n ≠ 0
  · rw [if_pos hl, if_pos hl]
    exact (write_look n (some ⟨g, 0, none⟩) 512 cap hl w h).mono fun e w' ⟨he, hb⟩ => ⟨he, ⟨M, N, v, h.step hb, by omega⟩, TF.of_below hb hbl⟩
  · rw [if_neg hl, if_neg hl]
    have hl0 : lookP s n = 0 := Decidable.not_not.1 hl
    rw [if_neg (show ¬ b.length ≠ 512 by omega), if_neg (show ¬ b.length ≠ 512 by omega)]
    by_cases hs : s.left = 0
    · rw [if_pos hs, if_pos hs]
      exact (write_down n (some ⟨g, 0, none⟩) cap hl0 hs w h).mono fun e w' ⟨he, hd, hm⟩ => ⟨he, ⟨M, N, v, hd, by rw [stepS_cache]; omega⟩, h.tf hm⟩
    · rw [if_neg hs, if_neg hs]
      have hr : w.rangeAt g 0 (bvs b) := fun j u hj => by
        rw [Nat.zero_add]
        refine (blk_cell hg j).trans ?_
        simpa using hj
      exact (write_ok n b g cap hl0 hb hs w h (by omega) (blk_lt hg) (h.fd_typed hg ht1 ht2) hr).mono fun e w' ⟨he, v', hd, hm⟩ => ⟨he, ⟨M, N, v', hd, by simp [writeS]; omega⟩, h.tf hm⟩
end Go.Proofs.Ytmjmichkkmmdcaa.P
end
section
namespace Go.Proofs.Ytmjmichkkmmdcaa.P
open Go.RowKit Go.Proofs.Ytmjmichkkmmdcaa.Pure Go.Proofs.YtmjmichkkmmdcaaW.PrintWords Go.Proofs.YtmjmichkkmmdcaaW.PrintLast Go.Proofs.YtmjmichkkmmdcaaW.PrintMore
attribute [local go_sem] guard_ptr eqp28 eqp29
set_option linter.unusedVariables false
set_option linter.unusedSimpArgs false
structure RI (s : Dk) (root gen : Int) : Prop where
  hy : Hy s
  db : DB s
  ps : s.pages = 9
  g0 : 1 ≤ gen
  g1 : gen ≤ 1000
  r : 0 ≤ root ∧ root ≠ 1 ∧ root < 9
  h1 : hasP s (gen % 2) = hpg gen root
  h2 : ∃ r2, 0 ≤ r2 ∧ r2 ≠ 1 ∧ r2 < 9 ∧ hasP s ((gen - 1) % 2) = hpg (gen - 1) r2
theorem RI.start : RI (frS 9) 0 1 := by
  have h := frS_hy 9 (by decide)
  exact ⟨h.2.1, (DB.new _).fmt, frS_pages 9, by decide, by decide, by decide, by rw [h.2.2]; rfl, 0, by decide, by decide, by decide, by rw [h.2.2]; rfl⟩
end Go.Proofs.Ytmjmichkkmmdcaa.P
end
section
namespace Go.Proofs.Ytmjmichkkmmdcaa.P
open Go.RowKit Go.Proofs.Ytmjmichkkmmdcaa.Pure Go.Proofs.YtmjmichkkmmdcaaW.PrintWords Go.Proofs.YtmjmichkkmmdcaaW.PrintLast Go.Proofs.YtmjmichkkmmdcaaW.PrintMore
set_option linter.unusedVariables false
set_option linter.unusedSimpArgs false
theorem neqp29 (p : Option Addr) (w : World) : (binOp .neq 29 (.pointer p) (.pointer none)).run Try.prog w = .ok (.bool (!p.isNone)) w := run_neq_pointer_nil w 29 p u29p
attribute [local go_sem] guard_ptr eqp28 eqp29 neqp29
theorem C_row {w : World} {A : Option Addr} {n : Nat} {xs : List (List Int)} (h : Kd.C (Kd.slice 5 (Kd.int .u8)) w A n xs) (k : Nat) (hk : k < n) (x : List Int) (hx : x = xs.getD k []) : ∃ ad A3 c3, A = some ad ∧ w.cell? (ad.add k) = some (.slice A3 x.length c3) ∧ x.length ≤ c3 ∧ Kd.C (Kd.int .u8) w A3 x.length x := by
  obtain ⟨ad, c, e, _, hK, hc0⟩ := Kd.C_get h [] (k : Int) (by omega) (by omega)
  rw [Int.toNat_natCast] at hK hc0
  rw [← hx] at hK
  obtain ⟨A3, c3, rfl, l3, g3⟩ := hK
  have h0 := hc0 0 _ rfl
  have e2 : k * 1 + 0 = k := by omega
  refine ⟨ad, A3, c3, e, ?_, l3, g3⟩
  simpa [Kd.slice, e2] using h0
structure TI (l0 : List (List Int)) (s : Dk) (k : Nat) : Prop where
  hy : Hy s
  db : DB s
  ps : s.pages = 9
  pg : ∀ j, j < k → hasP s ((2 + j : Nat) : Int) = pageB (loadB (l0.getD j []))
theorem TI.start (l0 : List (List Int)) : TI l0 (frS 9) 0 := ⟨(frS_hy 9 (by decide)).2.1, (DB.new _).fmt, frS_pages 9, fun j hj => absurd hj (Nat.not_lt_zero j)⟩
theorem TI.next {l0 : List (List Int)} (hby : ∀ b ∈ l0, BY b) {s : Dk} {k : Nat} (h : TI l0 s k) (hk : k < 7) : wrE s ((2 + k : Nat) : Int) (loadB (l0.getD k [])) = 0 ∧ TI l0 (wrD s ((2 + k : Nat) : Int) (loadB (l0.getD k []))) (k + 1) := by
  have hb : BY (l0.getD k []) := by
    rw [List.getD_eq_getElem?_getD]
    cases e : l0[k]? with
    | none => exact BY.nil
    | some b => exact hby b (List.mem_of_getElem? e)
  have hl := loadB_len (l0.getD k [])
  have e1 : ¬ hasN ((2 + k : Nat) : Int) s.pages = false := by
    rw [h.ps]
    unfold hasN
    simp
    omega
  have e2 : ¬ (loadB (l0.getD k [])).length ≠ 508 := by rw [hl]; simp
  have hw := hy_write h.hy (q := ((2 + k : Nat) : Int)) (b := pageB (loadB (l0.getD k []))) (by omega) (by rw [h.ps]; omega) (by rw [pageB_len, hl])
  unfold wrE wrD
  rw [if_neg e1, if_neg e1, if_neg e2, if_neg e2]
  refine ⟨hw.1, hw.2.1, h.db.write _ (pageB_by (loadB_by hb)), by rw [write_pages]; exact h.ps, fun j hj => ?_⟩
  rw [hw.2.2]
  by_cases e : j = k
  · rw [e, if_pos rfl]
  · rw [if_neg (by omega), h.pg j (by omega)]
theorem loadB_nil : loadB [] = List.replicate 508 0 := by
  unfold loadB
  generalize (508 : Nat) = m
  simp
theorem get_nat {xs : List Int} {k : Nat} (h : k < xs.length) : (bvs xs).toArray[k]? = some (Value.int .u8 xs[k]) := by simp [bvs, h]
theorem TI.told {l0 : List (List Int)} (hby : ∀ b ∈ l0, BY b) {s : Dk} (h : TI l0 s 7) {n : Int} (hn : 2 ≤ n ∧ n < 9) (kq : Nat) (hkq : kq < 512) (y : Int) (hy : 0 ≤ y ∧ y ≤ 255) (hne : ∀ hh : kq < (hasP s n).length, y ≠ (hasP s n)[kq]) :
    writeE s n ((hasP s n).set kq y) = 0 ∧ Hy (writeD s n ((hasP s n).set kq y)) ∧ DB (writeD s n ((hasP s n).set kq y)) ∧ ∀ i : Int, 2 ≤ i → i < 9 → rdE (writeD s n ((hasP s n).set kq y)) i = if i = n then 10 else 0 := by
  have page : ∀ i : Int, 2 ≤ i → i < 9 → ∃ l, l.length = 508 ∧ BY l ∧ hasP s i = pageB l := fun i i0 i1 => by
    obtain ⟨j, hj⟩ : ∃ j : Nat, i = ((2 + j : Nat) : Int) := ⟨(i - 2).toNat, by omega⟩
    refine ⟨loadB (l0.getD j []), loadB_len _, loadB_by ?_, by rw [hj]; exact h.pg j (by omega)⟩
    rw [List.getD_eq_getElem?_getD]
    cases e : l0[j]? with
    | none => exact BY.nil
    | some b => exact hby b (List.mem_of_getElem? e)
  obtain ⟨l, hl, hlb, hp⟩ := page n hn.1 hn.2
  have h512 : (hasP s n).length = 512 := by rw [hp, pageB_len, hl]
  have hw := hy_write h.hy (q := n) (b := (hasP s n).set kq y) (by omega) (by rw [h.ps]; omega) (by rw [List.length_set, h512])
  have hbyn : BY (hasP s n) := by rw [hp]; exact pageB_by hlb
  refine ⟨hw.1, hw.2.1, h.db.write n (hbyn.set kq hy), fun i i0 i1 => ?_⟩
  have hh : ¬ hasN i (writeD s n ((hasP s n).set kq y)).pages = false := by
    rw [write_pages, h.ps]
    unfold hasN
    simp
    omega
  have hlk : ¬ lookP (writeD s n ((hasP s n).set kq y)) i ≠ 0 := by
    rw [lookP_ok' hw.2.1.1 (by omega) (by rw [write_pages, h.ps]; omega)]
    simp
  unfold rdE
  rw [if_neg hh, if_neg hlk, hw.2.2]
  by_cases e : i = n
  · rw [if_pos e, if_pos e, if_pos]
    rw [hp]
    exact tell_set l hl hlb kq hkq y hy (fun e2 => hne (by rw [h512]; exact hkq) (by
      rw [e2]
      simp [hp]))
  · rw [if_neg e, if_neg e]
    obtain ⟨l2, hl2, _, hp2⟩ := page i i0 i1
    rw [hp2, right_page hl2]
    simp
def quarrylaw06_PagerTells.f (l0 : List (List Int)) (a1 a2 a3 : Int) : Option Bool := if (l0.all fun b => b.all fun x => decide (0 ≤ x ∧ x ≤ 255)) = true ∧ 0 ≤ a3 ∧ a3 ≤ 255 then some true else none
end Go.Proofs.Ytmjmichkkmmdcaa.P
end
section
namespace Go.Proofs.Ytmjmichkkmmdcaa.P
open Go.RowKit Go.Proofs.Ytmjmichkkmmdcaa.Pure Go.Proofs.YtmjmichkkmmdcaaW.PrintWords Go.Proofs.YtmjmichkkmmdcaaW.PrintLast Go.Proofs.YtmjmichkkmmdcaaW.PrintMore
attribute [local go_sem] guard_ptr eqp28 eqp29 neqp29
set_option linter.unusedVariables false
set_option linter.unusedSimpArgs false
theorem cells_ty {a b : Array Value} {t u : TypeId} {p q : Nat × Nat} (h : Obj.cells a t p = .cells b u q) : t = u := by injection h
set_option maxHeartbeats 8000000 in
set_option maxRecDepth 100000 in
theorem quarrylaw06_PagerTells.calls (A0 : Option Addr) (c0 : Nat) (l0 : List (List Int)) (a1 a2 a3 : Int) (r0 : Bool) (w : World) (hr0 : Kd.C (Kd.slice 5 (Kd.int .u8)) w A0 l0.length l0) (hc0 : l0.length ≤ c0) (h : quarrylaw06_PagerTells.f l0 a1 a2 a3 = some r0) :
    Calls Try.prog 5 #[.slice A0 l0.length c0, .int .i64 a1, .int .i64 a2, .int .u8 a3] w fun e w' => e = .returned (.bool r0) ∧ Below w.heap.size w w' := by
  unfold quarrylaw06_PagerTells.f at h
  have hall : (l0.all fun b => b.all fun x => decide (0 ≤ x ∧ x ≤ 255)) = true ∧ 0 ≤ a3 ∧ a3 ≤ 255 := by
    by_cases hx : (l0.all fun b => b.all fun x => decide (0 ≤ x ∧ x ≤ 255)) = true ∧ 0 ≤ a3 ∧ a3 ≤ 255
    · exact hx
    · rw [if_neg hx] at h
      cases h
  rw [if_pos hall] at h
  obtain rfl : true = r0 := Option.some.inj h
  have hby : ∀ b ∈ l0, BY b := fun b hb x hx => of_decide_eq_true (List.all_eq_true.1 (List.all_eq_true.1 hall.1 b hb) x hx)
  have HBY := Aside0.mk hby
  have HA3 := Aside0.mk hall.2
  have HR0 := Aside0.mk hr0
  have hwk := works_calls w
  clear hr0 hc0 h hall hby
  go_enter Try.func5, Try.ntmps5
  go_upto_region 3 with (go_at_call 11; (with_reducible refine hwk.mono ?_); rintro e w1 ⟨rfl, hb⟩; have HB1 := Aside0.mk hb; clear hb hwk)
  have hfr := fresh_calls 9 9 rfl (by decide) (by decide) w1
  go_upto_region 4 with (go_at_call 12; (with_reducible refine hfr.mono ?_); rintro e w2 ⟨d, p, rfl, hd, hp, hz, hb⟩; have HD2 := Aside0.mk hd; have HP2 := Aside0.mk hp; have HZ2 := Aside0.mk hz; have HB2 := Aside0.mk (below_step HB1.out hb); clear hd hp hz hb hfr)
  have HZ1 := Aside0.mk (below_size HB1.out)
  by_cases h0 : a3 = 0
  · have t0 : decide (a3 = 0) = true := decide_eq_true h0
    have t1 : (a3 == 0) = true := beq_iff_eq.mpr h0
    clear h0
    go_wp2
    go_ret
    exact ⟨by simp, HB2.out⟩
  · have t0 : decide (a3 = 0) = false := decide_eq_false h0
    have t1 : (a3 == 0) = false := beq_eq_false_iff_ne.mpr h0
    have H0 := Aside0.mk h0
    clear h0
    go_wp2_with fail
    go_loopw [11] (fun v11 wr => ∃ (k : Nat) (s : Dk), v11 = .int .i64 (k : Int) ∧ k ≤ 7 ∧ Aside0 (DS wr w1.heap.size d s (2 + k) ∧ PG wr p d 0 1 false) ∧ Aside0 (TI l0 s k) ∧ Aside0 (Below w.heap.size w wr)) (fun v11 _ => 7 - (intOf v11).toNat)
    case atStart => exact ⟨0, _, rfl, Nat.zero_le _, ⟨HD2.out, HP2.out⟩, ⟨TI.start l0⟩, HB2⟩
    case round =>
      clear HD2 HP2 HB2
      obtain ⟨k, s, rfl, hk, HS, HI, HB⟩ := hrel
      by_cases hlt : k < 7
      · have hlti : (k : Int) < 7 := by omega
        have c1 : decide ((k : Int) < 7) = true := decide_eq_true hlti
        have c2 : ((k : Int) < 7) = True := eq_true hlti
        have c3 : (k < 7) = True := eq_true hlt
        have HK := Aside0.mk hlt
        have g0 : (0 : Int) ≤ (k : Int) := Int.natCast_nonneg k
        have w2_ : wrap64 ((k : Int) + 1) = (k : Int) + 1 := by unfold wrap64; omega
        obtain ⟨n2, hn2⟩ : ∃ n2 : Int, n2 = ((2 + k : Nat) : Int) := ⟨_, rfl⟩
        have w3_ : wrap64 (2 + (k : Int)) = n2 := by rw [hn2]; unfold wrap64; omega
        have w4_ : IntKind.i64.wrap (2 + (k : Int)) = n2 := by rw [hn2, IntKind.wrap_i64]; omega
        have hnx := HI.out.next HBY.out hlt
        rw [← hn2] at hnx
        have HNX := Aside0.mk hnx
        obtain ⟨L, hL⟩ : ∃ L, L = loadB (l0.getD k []) := ⟨_, rfl⟩
        have HL : Aside0 (L = loadB (l0.getD k []) ∧ L.length = 508 ∧ BY L) := by
          have hbk : BY (l0.getD k []) := by
            rw [List.getD_eq_getElem?_getD]
            cases e : l0[k]? with
            | none => exact BY.nil
            | some b => exact HBY.out b (List.mem_of_getElem? e)
          exact ⟨hL, by rw [hL]; exact loadB_len _, by rw [hL]; exact loadB_by hbk⟩
        rw [← hL] at HNX
        clear hlt hlti hk hn2 hnx hL
        go_upto_region 10 with ((with_reducible refine gate_dst (N := 38) rfl ?_); refine Kd.R_make (Kd.int .u8) (w0 := wr) wr.heap.size 5 rfl (N := 38) rfl 22 _ _ rfl 508 rfl rfl Try.underlying22 (.int .u8 0) 1 info5 rfl (by decide) (by decide) 0 (ok := fun _ => True) (okp := fun _ => False) rfl (fun _ h => h.elim) trivial (by decide) (by decide) (Below.refl _ _) (Nat.le_refl _) ?_; intro v6 w6 ho hb hg hn; obtain ⟨g6, c6, e6, hg6, _, _⟩ := Kd.R_form ho (by rw [List.length_replicate]; decide); rw [List.length_replicate] at e6; subst e6; have HO6 := Aside0.mk (show Kd.R (Kd.int .u8) 5 w6 wr.heap.size (fun _ => True) (.slice (some ⟨g6, 0, none⟩) 508 c6) (List.replicate 508 0) from ho); have HB6 := Aside0.mk hb; have HD6 := Aside0.mk (HS.out.1.step hb); have HP6 := Aside0.mk (HS.out.2.step hb); clear ho hb hg hn hg6)
        by_cases hkl : k < l0.length
        · obtain ⟨x, hx⟩ : ∃ x, x = l0.getD k [] := ⟨_, rfl⟩
          obtain ⟨ad, A3, c3, eA, hcell, _, hC3⟩ := C_row HR0.out k hkl x hx
          subst eA
          have hb6 := below_step HB.out HB6.out
          have x0 := (hb6.cell (World.block_lt_of_cell? w _ hcell)).trans hcell
          have HC3 := Aside0.mk (Kd.C_below hC3 hb6)
          have HX := Aside0.mk hx
          have d1i : (k : Int) < (l0.length : Int) := Int.ofNat_lt.2 hkl
          have d1 : decide ((k : Int) < (l0.length : Int)) = true := decide_eq_true d1i
          have d2 : ((k : Int) < (l0.length : Int)) = True := eq_true d1i
          have d3 : (k < l0.length) = True := eq_true hkl
          clear hkl hx hcell hC3 hb6 d1i
          go_upto_region 12 with ((with_reducible refine gate_builtin (b := .copy) (xs := #[.tmp 43, .tmp 47]) rfl ?_); (refine Kd.R_copy (enc := Value.int .u8) (h1 := fun _ => rfl) (0 : Int) (w0 := wr) wr.heap.size rfl (.tmp 43) (.tmp 47) 22 22 5 rfl Try.underlying22 (by kernel_rfl) (.slice (some ⟨g6, 0, none⟩) 508 c6) (List.replicate 508 0) x A3 x.length c3 (fun _ => True) rfl rfl HO6.out HC3.out HB6.out (below_size HB6.out) ?_); intro w7 ho hb hg; have HO7 : Aside0 (Kd.R (Kd.int .u8) 5 w7 wr.heap.size (fun _ => True) (.slice (some ⟨g6, 0, none⟩) 508 c6) L) := (by have h := ho; rw [List.length_replicate] at h; rw [HL.out.1, ← HX.out]; exact ⟨h⟩); have HB7 := Aside0.mk hb; clear ho hb hg)
          have hwr := pwrite_calls p n2 (some ⟨g6, 0, none⟩) c6 L w7 (HS.out.1.step HB7.out) (by have := HK.out; omega) (HS.out.2.step HB7.out) (Kd.R_reads' HO7.out).2.2 (by rw [HL.out.2.1]; exact (Kd.R_reads' HO7.out).2.1) HL.out.2.2
          rw [HL.out.2.1, HNX.out.1] at hwr
          go_wp2_with (go_at_call 16; (with_reducible refine hwr.mono ?_); rintro e w8 ⟨rfl, hd, ht⟩; have HD8 := Aside0.mk (show DS w8 w1.heap.size d (wrD s n2 L) (2 + k + 1) from hd); have HP8 := Aside0.mk ((HS.out.2.step HB7.out).tf ht); have HB8 := Aside0.mk ((below_step HB.out HB7.out).trans (ht.b.mono HZ1.out)); clear hd ht hwr)
          go_roundw
          case rel => exact ⟨k + 1, _, by first | exact congrArg (Value.int .i64) w2_ | rfl, HK.out, ⟨HD8.out, HP8.out⟩, ⟨HNX.out.2⟩, HB8⟩
          case measure => exact meas_lt HK.out (by first | exact congrArg (Value.int .i64) w2_ | rfl)
        · have d1i : ¬ (k : Int) < (l0.length : Int) := fun h => hkl (Int.ofNat_lt.1 h)
          have d1 : decide ((k : Int) < (l0.length : Int)) = false := decide_eq_false d1i
          have d2 : ((k : Int) < (l0.length : Int)) = False := eq_false d1i
          have d3 : (k < l0.length) = False := eq_false hkl
          have HO7 : Aside0 (Kd.R (Kd.int .u8) 5 w6 wr.heap.size (fun _ => True) (.slice (some ⟨g6, 0, none⟩) 508 c6) L) := by
            have e : l0.getD k [] = [] := by rw [List.getD_eq_getElem?_getD, List.getElem?_eq_none (Nat.not_lt.1 hkl)]; rfl
            have e2 : L = List.replicate 508 0 := by rw [HL.out.1, e, loadB_nil]
            rw [e2]
            exact HO6
          clear hkl d1i
          have hwr := pwrite_calls p n2 (some ⟨g6, 0, none⟩) c6 L w6 HD6.out (by have := HK.out; omega) HP6.out (Kd.R_reads' HO7.out).2.2 (by rw [HL.out.2.1]; exact (Kd.R_reads' HO7.out).2.1) HL.out.2.2
          rw [HL.out.2.1, HNX.out.1] at hwr
          go_wp2_with (go_at_call 16; (with_reducible refine hwr.mono ?_); rintro e w8 ⟨rfl, hd, ht⟩; have HD8 := Aside0.mk (show DS w8 w1.heap.size d (wrD s n2 L) (2 + k + 1) from hd); have HP8 := Aside0.mk (HP6.out.tf ht); have HB8 := Aside0.mk ((below_step HB.out HB6.out).trans (ht.b.mono HZ1.out)); clear hd ht hwr)
          go_roundw
          case rel => exact ⟨k + 1, _, by first | exact congrArg (Value.int .i64) w2_ | rfl, HK.out, ⟨HD8.out, HP8.out⟩, ⟨HNX.out.2⟩, HB8⟩
          case measure => exact meas_lt HK.out (by first | exact congrArg (Value.int .i64) w2_ | rfl)
      · have hk7 : k = 7 := by omega
        have c1 : decide ((k : Int) < 7) = false := decide_eq_false (by omega)
        have c2 : ((k : Int) < 7) = False := eq_false (by omega)
        have c3 : (k < 7) = False := eq_false hlt
        have HI7 : Aside0 (TI l0 s 7) := ⟨hk7 ▸ HI.out⟩
        have HD9 : Aside0 (DS wr w1.heap.size d s 9) := ⟨HS.out.1.more (by omega)⟩
        have HP9 := Aside0.mk HS.out.2
        have hq7 := modU_range 7 (by decide) (by decide) a1
        obtain ⟨n, hn⟩ : ∃ n, n = 2 + modU 7 a1 := ⟨_, rfl⟩
        have HN : Aside0 (2 ≤ n ∧ n < 9) := ⟨by omega⟩
        have hn2 : wrap64 (2 + wrap64 ((IntKind.u64.wrap a1).tmod 7)) = n := by
          show wrap64 (2 + modU 7 a1) = _
          rw [hn]
          unfold wrap64
          omega
        have hq5 := modU_range 512 (by decide) (by decide) a2
        obtain ⟨kq, hkq⟩ : ∃ kq : Nat, (kq : Int) = modU 512 a2 := ⟨(modU 512 a2).toNat, by omega⟩
        have HKQ : Aside0 (kq < 512) := ⟨by omega⟩
        have hkq2 : wrap64 ((IntKind.u64.wrap a2).tmod 512) = (kq : Int) := hkq.symm
        obtain ⟨P, hP⟩ : ∃ P, P = hasP s n := ⟨_, rfl⟩
        have hP5 : P.length = 512 := by rw [hP]; exact HD9.out.has_len n
        have hPB : BY P := by rw [hP]; exact HI7.out.db.has n
        have HPP := Aside0.mk (And.intro hP (And.intro hP5 hPB))
        have hlk : lookP s n = 0 := lookP_ok' HI7.out.hy.1 (by have := HN.out.1; omega) (by rw [HI7.out.ps]; exact HN.out.2)
        have HLK := Aside0.mk hlk
        clear hk7 hlt hk hq7 hn hq5 hkq hP hPB hlk HI HS
        go_upto_region 15 with fail
        rw [hn2]
        clear hn2
        go_upto_region 18 with (go_at_call 17; (with_reducible refine (ds_read n _ HD9.out).mono ?_); rw [HLK.out, ← HPP.out.1]; rintro e w3 ⟨v, rfl, hb, ⟨hn, _⟩ | ⟨_, g, hg, rfl, hc⟩⟩; (first | exact absurd rfl hn | skip); have HC3 := Aside0.mk hc; have HG3 := Aside0.mk hg; have HD10 := Aside0.mk (HD9.out.step hb); have HP10 := Aside0.mk (HP9.out.step hb); have HB3 := Aside0.mk (below_step HB.out hb); clear hb hg hc)
        go_upto_region 19 with fail
        rw [hkq2]
        clear hkq2
        obtain ⟨y0, hy0⟩ : ∃ y0, y0 = P[kq]'(by rw [hP5]; exact HKQ.out) := ⟨_, rfl⟩
        have hyr : 0 ≤ y0 ∧ y0 ≤ 255 := by rw [hy0]; exact HPP.out.2.2 _ (List.getElem_mem _)
        have hx8 := xor8_ne hyr HA3.out H0.out
        obtain ⟨y, hy⟩ : ∃ y, y = Go.bits .xor .u8 y0 a3 := ⟨_, rfl⟩
        have ca : w3.cell? ⟨g, kq, none⟩ = some (.int .u8 y0) := by
          refine (blk_cell HC3.out kq).trans ?_
          rw [get_nat (by rw [hP5]; exact HKQ.out), hy0]
        have cf := blk_frozen HC3.out kq
        have hy' : Go.bits .xor .u8 y0 a3 = y := hy.symm
        rw [← hy] at hx8
        have htold := HI7.out.told HBY.out HN.out kq HKQ.out y hx8.1 (fun hh => by
          intro e
          refine hx8.2 ?_
          rw [e, hy0]
          simp [HPP.out.1])
        rw [← HPP.out.1] at htold
        have HT := Aside0.mk htold
        have hblk : (w3.setCell ⟨g, kq, none⟩ (.int .u8 y)).heap[g]? = some (.cells (bvs (P.set kq y)).toArray 91 (0, 0)) := blk_put HC3.out kq (.int .u8 y) (bvs_set P kq y)
        have HBL := Aside0.mk hblk
        have hdset := HD10.out.setb HC3.out (by decide) (by decide) kq (.int .u8 y)
        have HDS := Aside0.mk hdset
        have HPS : Aside0 (PG (w3.setCell ⟨g, kq, none⟩ (.int .u8 y)) p d 0 1 false) := ⟨keepX_set w3 ⟨g, kq, none⟩ (.int .u8 y) p _ _ _ HP10.out (fun e => by
          have h1 := HP10.out
          unfold PG at h1
          rw [show p = g from e, HC3.out] at h1
          exact absurd (cells_ty (Option.some.inj h1)) (by decide))⟩
        have HBS : Aside0 (Below w.heap.size w (w3.setCell ⟨g, kq, none⟩ (.int .u8 y))) := ⟨below_set HB3.out (Nat.le_trans (below_size HB.out) HG3.out)⟩
        have hkc : ((kq : Int) < 512) = True := eq_true (by have := HKQ.out; omega)
        have hkc2 : decide ((kq : Int) < 512) = true := decide_eq_true (by have := HKQ.out; omega)
        have hkc3 : (kq < 512) = True := eq_true HKQ.out
        have hk0 : (0 : Int) ≤ (kq : Int) := Int.natCast_nonneg kq
        clear hP5 hy0 hyr hx8 hy htold hblk hdset
        go_upto_region 20 with fail
        have hw := ds_write_blk n g 512 (P.set kq y) 91 (by decide) (by decide) (by rw [List.length_set]; exact HPP.out.2.1) _ HDS.out (by decide) HBL.out
        rw [HT.out.1] at hw
        obtain ⟨s2, hs2⟩ : ∃ s2, s2 = writeD s n (P.set kq y) := ⟨_, rfl⟩
        rw [← hs2] at hw HT
        clear hs2
        go_upto_region 22 with (go_at_call 18; (with_reducible refine hw.mono ?_); rintro e w5 ⟨rfl, hd, ht⟩; have HD5 := Aside0.mk hd; have HP5 := Aside0.mk (HPS.out.tf ht); have HB5 := Aside0.mk (HBS.out.trans (ht.b.mono HZ1.out)); clear hd ht hw ca cf)
        go_wp2_with fail
        go_loopw [17] (fun v17 wz => ∃ i : Nat, v17 = .int .i64 (i : Int) ∧ 2 ≤ i ∧ i ≤ 9 ∧ Aside0 (DS wz w1.heap.size d s2 10 ∧ PG wz p d 0 1 false) ∧ Aside0 (Below w.heap.size w wz)) (fun v17 _ => 9 - (intOf v17).toNat)
        case atStart => exact ⟨2, rfl, Nat.le_refl _, by decide, ⟨HD5.out, HP5.out⟩, HB5⟩
        case round =>
          clear HD5 HP5 HB5
          obtain ⟨i, rfl, hi2, hi9, HS5, HB5⟩ := hrel
          by_cases hi : i < 9
          · have hii : (i : Int) < 9 := by omega
            have f1 : decide ((i : Int) < 9) = true := decide_eq_true hii
            have f2 : ((i : Int) < 9) = True := eq_true hii
            have f3 : (i < 9) = True := eq_true hi
            have w5_ : wrap64 ((i : Int) + 1) = (i : Int) + 1 := by unfold wrap64; omega
            have HII := Aside0.mk (And.intro hi hi2)
            have hrd := HT.out.2.2.2 (i : Int) (by omega) hii
            have hpr := pread_calls p (i : Int) HT.out.2.2.1 wr HS5.out.1 HS5.out.2
            clear hi hi2 hi9 hii
            by_cases hin : (i : Int) = n
            · have e1 : ((i : Int) == n) = true := beq_iff_eq.mpr hin
              have e2 : decide ((i : Int) = n) = true := decide_eq_true hin
              have w6_ : wrap64 (n + 1) = (i : Int) + 1 := by rw [← hin]; exact w5_
              rw [if_pos hin] at hrd
              rw [hrd] at hpr
              clear hin hrd
              go_wp2_with (go_at_call 19; (with_reducible refine hpr.mono ?_); rintro e w7 ⟨hb, v7, rfl, _⟩; have HD7 := Aside0.mk (HS5.out.1.step hb); have HP7 := Aside0.mk (HS5.out.2.step hb); have HB7 := Aside0.mk (below_step HB5.out hb); clear hb hpr)
              go_roundw
              case rel => exact ⟨i + 1, by first | exact congrArg (Value.int .i64) w5_ | exact congrArg (Value.int .i64) w6_ | rfl, Nat.le_succ_of_le HII.out.2, HII.out.1, ⟨HD7.out, HP7.out⟩, HB7⟩
              case measure => exact meas_lt HII.out.1 (by first | exact congrArg (Value.int .i64) w5_ | exact congrArg (Value.int .i64) w6_ | rfl)
            · have e1 : ((i : Int) == n) = false := beq_eq_false_iff_ne.mpr hin
              have e2 : decide ((i : Int) = n) = false := decide_eq_false hin
              have e3 : ((i : Int) != n) = true := bne_iff_ne.mpr hin
              rw [if_neg hin] at hrd
              rw [hrd] at hpr
              clear hin hrd
              go_wp2_with (go_at_call 19; (with_reducible refine hpr.mono ?_); rintro e w7 ⟨hb, v7, rfl, _⟩; have HD7 := Aside0.mk (HS5.out.1.step hb); have HP7 := Aside0.mk (HS5.out.2.step hb); have HB7 := Aside0.mk (below_step HB5.out hb); clear hb hpr)
              go_roundw
              case rel => exact ⟨i + 1, by first | exact congrArg (Value.int .i64) w5_ | rfl, Nat.le_succ_of_le HII.out.2, HII.out.1, ⟨HD7.out, HP7.out⟩, HB7⟩
              case measure => exact meas_lt HII.out.1 (by first | exact congrArg (Value.int .i64) w5_ | rfl)
          · have f1 : decide ((i : Int) < 9) = false := decide_eq_false (by omega)
            have f2 : ((i : Int) < 9) = False := eq_false (by omega)
            have f3 : (i < 9) = False := eq_false hi
            clear hi hi2 hi9
            go_wp2
            go_ret
            exact ⟨by simp, HB5.out⟩
end Go.Proofs.Ytmjmichkkmmdcaa.P
end
section
namespace Go.Proofs.Ytmjmichkkmmdcaa.Pure
open Go.RowKit Go.Proofs.Ytmjmichkkmmdcaa.P Go.Proofs.YtmjmichkkmmdcaaW.PrintWords Go.Proofs.YtmjmichkkmmdcaaW.PrintLast
theorem byte_wf {x : Int} (h : (Lit.int .u8 x).wf = true) : 0 ≤ x ∧ x ≤ 255 := by
  simp [Lit.wf, IntKind.min, IntKind.max, IntKind.signed, IntKind.bits] at h
  omega
theorem PagerTells : ∀ (l0 : List (List Int)) (a1 a2 a3 : Int), G40 l0 → (Lit.int .i64 a1).wf = true → (Lit.int .i64 a2).wf = true → (Lit.int .u8 a3).wf = true → quarrylaw06_PagerTells.f l0 a1 a2 a3 = some true := fun l0 a1 a2 a3 hg _ _ h3 => by
  have h1 : (l0.all fun b => b.all fun x => decide (0 ≤ x ∧ x ≤ 255)) = true := List.all_eq_true.2 fun b hb => List.all_eq_true.2 fun x hx => decide_eq_true (byte_wf ((hg.1 b hb).1 x hx))
  unfold quarrylaw06_PagerTells.f
  rw [if_pos ⟨h1, byte_wf h3⟩]
end Go.Proofs.Ytmjmichkkmmdcaa.Pure
end

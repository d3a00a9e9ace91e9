/- Laid by a program of this session out of its texts for the law PagerWhole, part 3. -/
import Derived.Test.YtmjmichkkmmdcaaZPagerWhole2
section
namespace Go.Proofs.Ytmjmichkkmmdcaa.P
open Go.RowKit Go.Proofs.Ytmjmichkkmmdcaa.Pure Go.Proofs.YtmjmichkkmmdcaaW.PrintWords Go.Proofs.YtmjmichkkmmdcaaW.PrintLast Go.Proofs.YtmjmichkkmmdcaaW.PrintMore
set_option linter.unusedVariables false
set_option linter.unusedSimpArgs false
theorem PG.step {W W' : World} {p d : Nat} {root gen : Int} {down : Bool} (h : PG W p d root gen down) (hb : Below W.heap.size W W') : PG W' p d root gen down := blk_below h hb
theorem PG.tf {W W' : World} {p d base : Nat} {root gen : Int} {down : Bool} (h : PG W p d root gen down) (ht : TF base W W') : PG W' p d root gen down := ht.blk _ _ _ _ h (by decide) (by decide)
structure TG (Z : Nat) (w w' : World) : Prop where
  b : Below Z w w'
  size : w.heap.size ≤ w'.heap.size
  blk : ∀ (g : Nat) (cs : Array Value) (t : TypeId) (fr : Nat × Nat), w.heap[g]? = some (Obj.cells cs t fr) → t ≠ 96 → t ≠ 98 → t ≠ 83 → w'.heap[g]? = some (Obj.cells cs t fr)
theorem TG.of_below {Z : Nat} {a b : World} (h : Below a.heap.size a b) (hb : Z ≤ a.heap.size) : TG Z a b := ⟨h.mono hb, h.size, fun g cs t fr hg _ _ _ => blk_below hg h⟩
theorem TG.of_tf {Z base : Nat} {a b : World} (h : TF base a b) (hb : Z ≤ base) : TG Z a b := ⟨h.b.mono hb, h.size, fun g cs t fr hg h1 h2 _ => h.blk g cs t fr hg h1 h2⟩
theorem TG.trans {Z : Nat} {a b c : World} (h : TG Z a b) (k : TG Z b c) : TG Z a c := ⟨h.b.trans k.b, Nat.le_trans h.size k.size, fun g cs t fr hb h1 h2 h3 => k.blk g cs t fr (h.blk g cs t fr hb h1 h2 h3) h1 h2 h3⟩
theorem TG.set {Z g : Nat} {W : World} {cs : Array Value} {fr : Nat × Nat} (hg : W.heap[g]? = some (.cells cs 83 fr)) (hZ : Z ≤ g) (i : Nat) (u : Value) : TG Z W (W.setCell ⟨g, i, none⟩ u) :=
  ⟨(Kp.set (S := fun k => k = g) W ⟨g, i, none⟩ u rfl).below (Nat.le_trans hZ (Nat.le_of_lt (blk_lt hg))) (fun k e => e ▸ hZ), (Kp.set (S := fun k => k = g) W ⟨g, i, none⟩ u rfl).size, fun k cs' t fr' hk _ _ h3 => keepX_set W ⟨g, i, none⟩ u k cs' t fr' hk (fun e => by
    rw [show k = g from e, hg] at hk
    cases hk
    exact h3 rfl)⟩
def hasN (n m : Int) : Bool := decide (2 ≤ n) && decide (n < m)
section
variable {base d : Nat} {Φ : Nat → World → Dk → Prop} {C : Nat} {s : Dk}
set_option maxRecDepth 100000 in
theorem ppages_calls (hA : DAct base d Φ) (p : Nat) {root gen : Int} {down : Bool} (w : World) (h : Φ C w s) (hp : PG w p d root gen down) :
    Calls Try.prog 38 #[.pointer (some ⟨p, 0, none⟩)] w fun e w' => e = .returned (.int .i64 s.pages) ∧ Below w.heap.size w w' := by
  have hc := hA.pages h
  have c0 : w.cell? ⟨p, 0, none⟩ = some (.pointer (some ⟨d, 0, none⟩)) := (blk_cell hp 0).trans rfl
  clear h hp hA
  go_enter Try.func38, Try.ntmps38
  go_wp2_with (go_at_call 43; (with_reducible refine hc.mono ?_); rintro e w1 ⟨rfl, hb⟩; have HB1 := Aside0.mk hb; clear hb)
  go_ret
  exact ⟨by simp, HB1.out⟩
set_option maxRecDepth 100000 in
theorem phas_calls (hA : DAct base d Φ) (p : Nat) (n : Int) {root gen : Int} {down : Bool} (w : World) (h : Φ C w s) (hp : PG w p d root gen down) :
    Calls Try.prog 39 #[.pointer (some ⟨p, 0, none⟩), .int .i64 n] w fun e w' => e = .returned (.bool (hasN n s.pages)) ∧ Below w.heap.size w w' := by
  have hc := ppages_calls hA p w h hp
  have HB := Aside0.mk (Below.refl w.heap.size w)
  obtain ⟨M, hM⟩ : ∃ M, M = s.pages := ⟨_, rfl⟩
  rw [← hM] at hc
  rw [← hM]
  unfold hasN
  clear h hp hA hM
  by_cases h2 : 2 ≤ n
  · have b0 : decide (2 ≤ n) = true := decide_eq_true h2
    have b1 : (2 ≤ n) = True := eq_true h2
    rw [b0]
    clear h2
    go_enter Try.func39, Try.ntmps39
    go_wp2_with (go_at_call 38; (with_reducible refine hc.mono ?_); rintro e w1 ⟨rfl, hb⟩; have HB1 := Aside0.mk hb; clear hb)
    go_ret
    exact ⟨by simp, HB1.out⟩
  · have b0 : decide (2 ≤ n) = false := decide_eq_false h2
    have b1 : (2 ≤ n) = False := eq_false h2
    rw [b0]
    clear h2
    go_enter Try.func39, Try.ntmps39
    go_wp2
    go_ret
    exact ⟨by simp, HB.out⟩
set_option maxHeartbeats 1000000 in
set_option maxRecDepth 100000 in
theorem clos_calls (hA : DAct base d Φ) (p q hb : Nat) (gen root : Int) (g0 : 0 ≤ gen) (g1 : gen < 9223372036854775808) (r0 : 0 ≤ root) (r1 : root < 9223372036854775808) {root0 gen0 : Int} {down0 : Bool} (w : World) (h : Φ C w s) (hC : C < 1073741824) (hp : PG w p d root0 gen0 down0)
    (hq : w.heap[q]? = some (.cells #[.pointer (some ⟨p, 0, none⟩)] 29 (0, 0))) (hh : w.heap[hb]? = some (.cells #[.int .i64 root, .int .i64 gen] 81 (0, 0))) :
    Calls Try.prog 41 #[.pointer (some ⟨q, 0, none⟩), .pointer (some ⟨hb, 0, none⟩)] w fun e w' => e = .returned (.int .i64 (layE s gen root)) ∧ Φ (C + 1) w' (layD s gen root) ∧ TF base w w' := by
  have HBD := Aside0.mk (hA.bd h)
  have hd0 : Below w.heap.size w w.drew := below_drew1 (Below.refl _ _)
  have HD := Aside0.mk hd0
  have hl := lay_calls hA gen root g0 g1 r0 r1 w.drew (hA.step h hd0) hC
  have HL := Aside0.mk hl
  have HP := Aside0.mk (hp.step hd0)
  have HQ' := Aside0.mk (blk_below hq hd0)
  have HH := Aside0.mk (blk_below hh hd0)
  clear hA h hC hp hq hh g0 g1 r0 r1 hl hd0
  go_enter Try.func41, Try.ntmps41
  go_upto_region 1 with fail
  refine start_ (n := 7) (S := fun w' => w'.cell? ⟨q, 0, none⟩ = some (.pointer (some ⟨p, 0, none⟩)) ∧ w'.cell? ⟨p, 0, none⟩ = some (.pointer (some ⟨d, 0, none⟩)) ∧ w'.cell? ⟨hb, 0, none⟩ = some (.int .i64 root) ∧ w'.cell? ⟨hb, 1, none⟩ = some (.int .i64 gen)) (ds := [5]) #[false, false, false, false, false, false, false] (by kernel_rfl) rfl rfl ⟨(blk_cell HQ'.out 0).trans rfl, (blk_cell HP.out 0).trans rfl, (blk_cell HH.out 0).trans rfl, (blk_cell HH.out 1).trans rfl⟩ (fun hHeld => ?_)
  refine take_ (i := 0) (N := some 3) (v := ?_) (a' := ?_) #[true, false, false, false, false, false, false] rfl rfl (by kernel_rfl) (fun _ _ _ h => h) (Or.inl ⟨by rfl, ?_⟩) hHeld ?_ ?_
  rotate_left
  · rintro w' ⟨s0, s1, s2, s3⟩
    go_simp
    with_reducible rfl
  rotate_left
  · simp only [Act.put, List.setIfInBounds_toArray, List.set_cons_zero, List.set_cons_succ, i64_w, i32_w]
    rfl
  refine pure_ (i := 1) (N := some 4) (v := ?_) (a' := ?_) #[true, true, false, false, false, false, false] rfl rfl (by kernel_rfl) (fun _ _ _ h => h) (Or.inl ⟨by rfl, ?_⟩) ?_ ?_
  rotate_left
  · intro w'
    go_simp
    with_reducible rfl
  rotate_left
  · simp only [Act.put, List.setIfInBounds_toArray, List.set_cons_zero, List.set_cons_succ, i64_w, i32_w]
    rfl
  refine pure_ (i := 2) (N := some 5) (v := ?_) (a' := ?_) #[true, true, true, false, false, false, false] rfl rfl (by kernel_rfl) (fun _ _ _ h => h) (Or.inl ⟨by rfl, ?_⟩) ?_ ?_
  rotate_left
  · intro w'
    go_simp
    with_reducible rfl
  rotate_left
  · simp only [Act.put, List.setIfInBounds_toArray, List.set_cons_zero, List.set_cons_succ, i64_w, i32_w]
    rfl
  refine take_ (i := 3) (N := some 6) (v := ?_) (a' := ?_) #[true, true, true, true, false, false, false] rfl rfl (by kernel_rfl) (fun _ _ _ h => h) (Or.inl ⟨by rfl, ?_⟩) hHeld ?_ ?_
  rotate_left
  · rintro w' ⟨s0, s1, s2, s3⟩
    go_simp
    with_reducible rfl
  rotate_left
  · simp only [Act.put, List.setIfInBounds_toArray, List.set_cons_zero, List.set_cons_succ, i64_w, i32_w]
    rfl
  refine take_ (i := 4) (N := some 7) (v := ?_) (a' := ?_) #[true, true, true, true, true, false, false] rfl rfl (by kernel_rfl) (fun _ _ _ h => h) (Or.inl ⟨by rfl, ?_⟩) hHeld ?_ ?_
  rotate_left
  · rintro w' ⟨s0, s1, s2, s3⟩
    go_simp
    with_reducible rfl
  rotate_left
  · simp only [Act.put, List.setIfInBounds_toArray, List.set_cons_zero, List.set_cons_succ, i64_w, i32_w]
    rfl
  refine last_ (i := 5) (N := some 8) #[true, true, true, true, true, true, false] rfl rfl (by kernel_rfl) (by decide) (fun K hK => ?_)
  refine goes_ Try.func42 (by kernel_rfl) rfl #[.pointer (some ⟨d, 0, none⟩), .agg #[.int .i64 root, .int .i64 gen]] (by rfl) rfl rfl (by simp only [List.map_toArray, List.map_cons, List.map_nil]; rfl) ?_
  with_reducible refine (HL.out).mono ?_
  rintro e w2 ⟨rfl, hs, ht⟩
  refine ⟨_, rfl, ?_⟩
  have HF := Aside0.mk (And.intro hs ht)
  clear hs ht hHeld
  refine hK.out _ _ ?_
  clear hK K
  refine norm_ (a' := ?_) ?_ ?_
  rotate_left
  · show Act.put _ (some 8) _ = _
    simp only [Act.put, List.setIfInBounds_toArray, List.set_cons_zero, List.set_cons_succ, i64_w, i32_w]
    rfl
  refine pure_ (i := 6) (N := some 2) (v := ?_) (a' := ?_) #[true, true, true, true, true, true, true] rfl rfl (by kernel_rfl) (fun _ _ _ h => h) (Or.inl ⟨by rfl, ?_⟩) ?_ ?_
  rotate_left
  · intro w'
    go_simp
    with_reducible rfl
  rotate_left
  · simp only [Act.put, List.setIfInBounds_toArray, List.set_cons_zero, List.set_cons_succ, i64_w, i32_w]
    rfl
  refine done_ (by kernel_rfl) ?_
  go_wp2
  go_ret
  exact ⟨by simp, HF.out.1, (TF.of_below HD.out HBD.out).trans HF.out.2⟩
end
theorem info85 : (Try.prog.info? 85).map (fun i => (i.zero, i.size, i.bytes)) = some (some .nilFunc, 1, 8) := by kernel_rfl
theorem build3 (w : World) (f0 f1 f2 : Fn) (x0 x1 x2 y0 y1 y2 : Array Value) : (Instr.buildSlice 87 3 #[(0, .func f0 x0 y0), (1, .func f1 x1 y1), (2, .func f2 x2 y2)]).run Try.prog w = .ok (.slice (some ⟨w.heap.size, 0, none⟩) 3 3) (w.alloc (.cells #[.func f0 x0 y0, .func f1 x1 y1, .func f2 x2 y2] 85)) := by
  have h := info85
  cases hi : Try.prog.info? 85 with
  | none => rw [hi] at h; cases h
  | some it =>
    rw [hi] at h
    simp only [Option.map_some, Option.some.injEq, Prod.mk.injEq] at h
    refine run_buildSlice w 87 85 3 _ _ it _ Try.underlying87 hi h.1 (by rw [h.2.1]; decide) (by rw [h.2.1]; decide) ?_
    rw [h.2.1]
    first | kernel_rfl | rfl | (simp [Instr.fill, Value.cells]; done)
theorem exec_build3 {ρ : Operand → Value} {op : Oper} (w : World) (a b c : Operand) {f0 f1 f2 : Fn} {x0 x1 x2 y0 y1 y2 : Array Value} (ho : op.op = .buildSlice 87 3 #[(0, a), (1, b), (2, c)]) (h0 : ρ a = .func f0 x0 y0) (h1 : ρ b = .func f1 x1 y1) (h2 : ρ c = .func f2 x2 y2) : (execOp ρ op).run Try.prog w = .ok (.value (.slice (some ⟨w.heap.size, 0, none⟩) 3 3)) (w.alloc (.cells #[.func f0 x0 y0, .func f1 x1 y1, .func f2 x2 y2] 85)) := by
  unfold execOp
  simp only [ho, List.map_toArray, List.map_cons, List.map_nil, h0, h1, h2, Sem.run_bind, build3, Result.andThen_ok, Sem.run_pure]
def stpE (s : Dk) (gen root : Int) : Int := if syncE s ≠ 0 then syncE s else if layE (syncD s) gen root ≠ 0 then layE (syncD s) gen root else syncE (layD (syncD s) gen root)
def stpD (s : Dk) (gen root : Int) : Dk := if syncE s ≠ 0 then syncD s else if layE (syncD s) gen root ≠ 0 then layD (syncD s) gen root else syncD (layD (syncD s) gen root)
def badR (s : Dk) (nr : Int) : Bool := decide (nr ≠ 0) && !(hasN nr s.pages)
def CI (Φ : Nat → World → Dk → Prop) (C : Nat) (s : Dk) (gen root : Int) (j : Nat) (W : World) : Prop :=
  (j = 0 ∧ Φ C W s) ∨ (j = 1 ∧ syncE s = 0 ∧ Φ C W (syncD s)) ∨ (j = 2 ∧ syncE s = 0 ∧ layE (syncD s) gen root = 0 ∧ Φ (C + 1) W (layD (syncD s) gen root)) ∨ (j = 3 ∧ syncE s = 0 ∧ layE (syncD s) gen root = 0 ∧ syncE (layD (syncD s) gen root) = 0 ∧ Φ (C + 1) W (syncD (layD (syncD s) gen root)))
section
variable {base d : Nat} {Φ : Nat → World → Dk → Prop} {C : Nat} {s : Dk}
set_option maxHeartbeats 1000000 in
set_option maxRecDepth 100000 in
theorem commit_down (hA : DAct base d Φ) (p : Nat) (nr : Int) {root gen : Int} (w : World) (h : Φ C w s) (hp : PG w p d root gen true) :
    Calls Try.prog 14 #[.pointer (some ⟨p, 0, none⟩), .int .i64 nr] w fun e w' => e = .returned (.int .i64 9) ∧ Below w.heap.size w w' := by
  have HP := Aside0.mk hp
  clear h hp
  go_enter Try.func14, Try.ntmps14
  go_upto_region 1 with fail
  have hbk := Deep.blk_alloc_new w (.cells #[.pointer (some ⟨p, 0, none⟩)] 29)
  refine at_world (fun W => W.heap[w.heap.size]? = some (.cells #[.pointer (some ⟨p, 0, none⟩)] 29 (0, 0)) ∧ Below w.heap.size w W) ⟨hbk, below_alloc (Below.refl _ _) _⟩ (fun W hW => ?_)
  have c0 : W.cell? ⟨w.heap.size, 0, none⟩ = some (.pointer (some ⟨p, 0, none⟩)) := (blk_cell hW.1 0).trans rfl
  have c3 : W.cell? ⟨p, 3, none⟩ = some (.bool true) := (blk_cell (HP.out.step hW.2) 3).trans rfl
  have HB := Aside0.mk hW.2
  clear hW hbk
  go_wp2
  go_ret
  exact ⟨by simp, HB.out⟩
set_option maxHeartbeats 1000000 in
set_option maxRecDepth 100000 in
theorem commit_bad (hA : DAct base d Φ) (p : Nat) (nr : Int) {root gen : Int} (hbad : badR s nr = true) (w : World) (h : Φ C w s) (hp : PG w p d root gen false) :
    Calls Try.prog 14 #[.pointer (some ⟨p, 0, none⟩), .int .i64 nr] w fun e w' => e = .returned (.int .i64 2) ∧ Below w.heap.size w w' := by
  have HP := Aside0.mk hp
  have hcs : ∀ W, Below w.heap.size w W → Calls Try.prog 39 #[.pointer (some ⟨p, 0, none⟩), .int .i64 nr] W fun e w' => e = .returned (.bool (hasN nr s.pages)) ∧ Below W.heap.size W w' := fun W hW => phas_calls hA p nr W (hA.step h hW) (hp.step hW)
  have HCS := Aside0.mk hcs
  unfold badR at hbad
  rw [Bool.and_eq_true] at hbad
  obtain ⟨n0, n1⟩ := hbad
  have n2 := of_decide_eq_true n0
  have n3 : (nr != 0) = true := bne_iff_ne.mpr n2
  have n4 : (nr == 0) = false := beq_eq_false_iff_ne.mpr n2
  have n6 : decide (nr = 0) = false := decide_eq_false n2
  have n5 : hasN nr s.pages = false := by simpa using n1
  rw [n5] at HCS
  clear h hp hcs n0 n1 n2 n5
  go_enter Try.func14, Try.ntmps14
  go_upto_region 1 with fail
  have hbk := Deep.blk_alloc_new w (.cells #[.pointer (some ⟨p, 0, none⟩)] 29)
  refine at_world (fun W => W.heap[w.heap.size]? = some (.cells #[.pointer (some ⟨p, 0, none⟩)] 29 (0, 0)) ∧ Below w.heap.size w W) ⟨hbk, below_alloc (Below.refl _ _) _⟩ (fun W hW => ?_)
  have c0 : W.cell? ⟨w.heap.size, 0, none⟩ = some (.pointer (some ⟨p, 0, none⟩)) := (blk_cell hW.1 0).trans rfl
  have c3 : W.cell? ⟨p, 3, none⟩ = some (.bool false) := (blk_cell (HP.out.step hW.2) 3).trans rfl
  have HB := Aside0.mk hW.2
  clear hW hbk
  go_wp2_with (go_at_call 39; (with_reducible refine (HCS.out _ HB.out).mono ?_); rintro e w1 ⟨rfl, hb⟩; have HB1 := Aside0.mk (below_step HB.out hb); clear hb)
  go_ret
  exact ⟨by simp, HB1.out⟩
set_option maxHeartbeats 8000000 in
set_option maxRecDepth 100000 in
theorem commit_go (hA : DAct base d Φ) (p : Nat) (nr : Int) {root gen : Int} (hbad : badR s nr = false) (hr0 : 0 ≤ nr) (hr1 : nr < 9223372036854775808) (g0 : 0 ≤ gen) (g1 : gen < 9223372036854775806) (Z : Nat) (hZb : Z ≤ base) (hZp : Z ≤ p) (w : World) (h : Φ C w s) (hC : C + 1 < 1073741824) (hp : PG w p d root gen false) :
    Calls Try.prog 14 #[.pointer (some ⟨p, 0, none⟩), .int .i64 nr] w fun e w' => e = .returned (.int .i64 (stpE s (gen + 1) nr)) ∧ Φ (C + 1) w' (stpD s (gen + 1) nr) ∧ TG Z w w' ∧ (stpE s (gen + 1) nr = 0 → PG w' p d nr (gen + 1) false) ∧ (stpE s (gen + 1) nr ≠ 0 → PG w' p d root gen true) := by
  have HA := Aside0.mk hA
  have HPH := Aside0.mk h
  have HP := Aside0.mk hp
  have HC := Aside0.mk hC
  have HG := Aside0.mk (And.intro (show 0 ≤ gen + 1 by omega) (show gen + 1 < 9223372036854775808 by omega))
  have HR := Aside0.mk (And.intro hr0 hr1)
  have HZ := Aside0.mk (And.intro hZb hZp)
  have HBD := Aside0.mk (hA.bd h)
  have hcs : ∀ W, Below w.heap.size w W → Calls Try.prog 39 #[.pointer (some ⟨p, 0, none⟩), .int .i64 nr] W fun e w' => e = .returned (.bool (hasN nr s.pages)) ∧ Below W.heap.size W w' := fun W hW => phas_calls hA p nr W (hA.step h hW) (hp.step hW)
  have HCS := Aside0.mk hcs
  have hw1 : IntKind.i64.wrap (gen + 1) = gen + 1 := by rw [IntKind.wrap_i64]; omega
  have hw2 : wrap64 (gen + 1) = gen + 1 := by unfold wrap64; omega
  obtain ⟨G, hG⟩ : ∃ G, G = gen + 1 := ⟨_, rfl⟩
  have HGG := Aside0.mk hG
  rw [← hG] at hw1 hw2 HG ⊢
  have hZw : Z ≤ w.heap.size := Nat.le_trans hZb (hA.bd h)
  have HZW := Aside0.mk hZw
  clear hA h hp hC hr0 hr1 g0 g1 hZb hZp hcs hG hZw
  go_enter Try.func14, Try.ntmps14
  go_upto_region 1 with fail
  have hbk := Deep.blk_alloc_new w (.cells #[.pointer (some ⟨p, 0, none⟩)] 29)
  refine at_world (fun W => W.heap[w.heap.size]? = some (.cells #[.pointer (some ⟨p, 0, none⟩)] 29 (0, 0)) ∧ Below w.heap.size w W) ⟨hbk, below_alloc (Below.refl _ _) _⟩ (fun W1 hW => ?_)
  have HQ1 := Aside0.mk hW.1
  have HB1 := Aside0.mk hW.2
  have c0 : W1.cell? ⟨w.heap.size, 0, none⟩ = some (.pointer (some ⟨p, 0, none⟩)) := (blk_cell hW.1 0).trans rfl
  have c3 : W1.cell? ⟨p, 3, none⟩ = some (.bool false) := (blk_cell (HP.out.step hW.2) 3).trans rfl
  clear hW hbk
  by_cases hn : nr = 0
  · have n3 : (nr != 0) = false := by simp [hn]
    have n4 : (nr == 0) = true := by simp [hn]
    have n6 : decide (nr = 0) = true := decide_eq_true hn
    clear hn hbad
    go_upto_region 5 with fail
    refine at_world (fun W => W.heap[w.heap.size]? = some (.cells #[.pointer (some ⟨p, 0, none⟩)] 29 (0, 0)) ∧ Below w.heap.size w W) ⟨HQ1.out, HB1.out⟩ (fun W2 hW => ?_)
    have HQ2 := Aside0.mk hW.1
    have HB2 := Aside0.mk hW.2
    clear hW HQ1 HB1 c0 c3 n3 n4 n6
    have hp2 := HP.out.step HB2.out
    have c0 : W2.cell? ⟨w.heap.size, 0, none⟩ = some (.pointer (some ⟨p, 0, none⟩)) := (blk_cell HQ2.out 0).trans rfl
    have c2 : W2.cell? ⟨p, 2, none⟩ = some (.int .i64 gen) := (blk_cell hp2 2).trans rfl
    have hgg : IntKind.i64.wrap (gen + 1) = G := by rw [← HGG.out]; exact hw1
    have hgg2 : wrap64 (gen + 1) = G := by rw [← HGG.out]; exact hw2
    clear hp2
    go_upto_region 6 with fail
    obtain ⟨hb, hhb⟩ : ∃ hb, hb = W2.heap.size := ⟨_, rfl⟩
    have hbh : (W2.alloc (.cells #[.int .i64 nr, .int .i64 G] 81)).heap[hb]? = some (.cells #[.int .i64 nr, .int .i64 G] 81 (0, 0)) := by rw [hhb]; exact Deep.blk_alloc_new W2 (.cells #[.int .i64 nr, .int .i64 G] 81)
    rw [← hhb]
    clear hhb c0 c2 hgg hgg2
    refine at_world (fun W => W.heap[hb]? = some (.cells #[.int .i64 nr, .int .i64 G] 81 (0, 0)) ∧ Below W2.heap.size W2 W) ⟨hbh, below_alloc (Below.refl _ _) _⟩ (fun W hW => ?_)
    have HW2 := Aside0.mk (below_step hW.2 (below_drew1 (Below.refl _ _)))
    have HH0 : Aside0 (W.drew.heap[hb]? = some (.cells #[.int .i64 nr, .int .i64 G] 81 (0, 0))) := ⟨hW.1⟩
    have HQ0 := Aside0.mk (blk_below HQ2.out HW2.out)
    have HB0 := Aside0.mk (below_step HB2.out HW2.out)
    have HP0 := Aside0.mk (HP.out.step HB0.out)
    clear hW hbh
    refine start_ (n := 14) (S := fun w' => w'.cell? ⟨w.heap.size, 0, none⟩ = some (.pointer (some ⟨p, 0, none⟩)) ∧ w'.cell? ⟨p, 0, none⟩ = some (.pointer (some ⟨d, 0, none⟩))) (ds := [11]) #[false, false, false, false, false, false, false, false, false, false, false, false, false, false] (by kernel_rfl) rfl rfl ⟨(blk_cell HQ0.out 0).trans rfl, (blk_cell HP0.out 0).trans rfl⟩ (fun hHeld => ?_)
    refine pure_ (i := 5) (N := some 34) (v := ?_) (a' := ?_) #[false, false, false, false, false, true, false, false, false, false, false, false, false, false] rfl rfl (by kernel_rfl) (fun _ _ _ h => h) (Or.inl ⟨by rfl, ?_⟩) ?_ ?_
    rotate_left
    · intro w'
      go_simp
      with_reducible rfl
    rotate_left
    · simp only [Act.put, List.setIfInBounds_toArray, List.set_cons_zero, List.set_cons_succ, i64_w, i32_w]
      rfl
    refine pure_ (i := 13) (N := some 42) (v := ?_) (a' := ?_) #[false, false, false, false, false, true, false, false, false, false, false, false, false, true] rfl rfl (by kernel_rfl) (fun _ _ _ h => h) (Or.inl ⟨by rfl, ?_⟩) ?_ ?_
    rotate_left
    · intro w'
      go_simp
      with_reducible rfl
    rotate_left
    · simp only [Act.put, List.setIfInBounds_toArray, List.set_cons_zero, List.set_cons_succ, i64_w, i32_w]
      rfl
    refine take_ (i := 0) (N := some 29) (v := ?_) (a' := ?_) #[true, false, false, false, false, true, false, false, false, false, false, false, false, true] rfl rfl (by kernel_rfl) (fun _ _ _ h => h) (Or.inl ⟨by rfl, ?_⟩) hHeld ?_ ?_
    rotate_left
    · rintro w' ⟨s0, s1⟩
      go_simp
      with_reducible rfl
    rotate_left
    · simp only [Act.put, List.setIfInBounds_toArray, List.set_cons_zero, List.set_cons_succ, i64_w, i32_w]
      rfl
    refine pure_ (i := 1) (N := some 30) (v := ?_) (a' := ?_) #[true, true, false, false, false, true, false, false, false, false, false, false, false, true] rfl rfl (by kernel_rfl) (fun _ _ _ h => h) (Or.inl ⟨by rfl, ?_⟩) ?_ ?_
    rotate_left
    · intro w'
      go_simp
      with_reducible rfl
    rotate_left
    · simp only [Act.put, List.setIfInBounds_toArray, List.set_cons_zero, List.set_cons_succ, i64_w, i32_w]
      rfl
    refine pure_ (i := 2) (N := some 31) (v := ?_) (a' := ?_) #[true, true, true, false, false, true, false, false, false, false, false, false, false, true] rfl rfl (by kernel_rfl) (fun _ _ _ h => h) (Or.inl ⟨by rfl, ?_⟩) ?_ ?_
    rotate_left
    · intro w'
      go_simp
      with_reducible rfl
    rotate_left
    · simp only [Act.put, List.setIfInBounds_toArray, List.set_cons_zero, List.set_cons_succ, i64_w, i32_w]
      rfl
    refine take_ (i := 3) (N := some 32) (v := ?_) (a' := ?_) #[true, true, true, true, false, true, false, false, false, false, false, false, false, true] rfl rfl (by kernel_rfl) (fun _ _ _ h => h) (Or.inl ⟨by rfl, ?_⟩) hHeld ?_ ?_
    rotate_left
    · rintro w' ⟨s0, s1⟩
      go_simp
      with_reducible rfl
    rotate_left
    · simp only [Act.put, List.setIfInBounds_toArray, List.set_cons_zero, List.set_cons_succ, i64_w, i32_w]
      rfl
    refine pure_ (i := 4) (N := some 33) (v := ?_) (a' := ?_) #[true, true, true, true, true, true, false, false, false, false, false, false, false, true] rfl rfl (by kernel_rfl) (fun _ _ _ h => h) (Or.inl ⟨by rfl, ?_⟩) ?_ ?_
    rotate_left
    · intro w'
      go_simp
      with_reducible rfl
    rotate_left
    · simp only [Act.put, List.setIfInBounds_toArray, List.set_cons_zero, List.set_cons_succ, i64_w, i32_w]
      rfl
    refine take_ (i := 6) (N := some 35) (v := ?_) (a' := ?_) #[true, true, true, true, true, true, true, false, false, false, false, false, false, true] rfl rfl (by kernel_rfl) (fun _ _ _ h => h) (Or.inl ⟨by rfl, ?_⟩) hHeld ?_ ?_
    rotate_left
    · rintro w' ⟨s0, s1⟩
      go_simp
      with_reducible rfl
    rotate_left
    · simp only [Act.put, List.setIfInBounds_toArray, List.set_cons_zero, List.set_cons_succ, i64_w, i32_w]
      rfl
    refine pure_ (i := 7) (N := some 36) (v := ?_) (a' := ?_) #[true, true, true, true, true, true, true, true, false, false, false, false, false, true] rfl rfl (by kernel_rfl) (fun _ _ _ h => h) (Or.inl ⟨by rfl, ?_⟩) ?_ ?_
    rotate_left
    · intro w'
      go_simp
      with_reducible rfl
    rotate_left
    · simp only [Act.put, List.setIfInBounds_toArray, List.set_cons_zero, List.set_cons_succ, i64_w, i32_w]
      rfl
    refine pure_ (i := 8) (N := some 37) (v := ?_) (a' := ?_) #[true, true, true, true, true, true, true, true, true, false, false, false, false, true] rfl rfl (by kernel_rfl) (fun _ _ _ h => h) (Or.inl ⟨by rfl, ?_⟩) ?_ ?_
    rotate_left
    · intro w'
      go_simp
      with_reducible rfl
    rotate_left
    · simp only [Act.put, List.setIfInBounds_toArray, List.set_cons_zero, List.set_cons_succ, i64_w, i32_w]
      rfl
    refine take_ (i := 9) (N := some 38) (v := ?_) (a' := ?_) #[true, true, true, true, true, true, true, true, true, true, false, false, false, true] rfl rfl (by kernel_rfl) (fun _ _ _ h => h) (Or.inl ⟨by rfl, ?_⟩) hHeld ?_ ?_
    rotate_left
    · rintro w' ⟨s0, s1⟩
      go_simp
      with_reducible rfl
    rotate_left
    · simp only [Act.put, List.setIfInBounds_toArray, List.set_cons_zero, List.set_cons_succ, i64_w, i32_w]
      rfl
    refine pure_ (i := 10) (N := some 39) (v := ?_) (a' := ?_) #[true, true, true, true, true, true, true, true, true, true, true, false, false, true] rfl rfl (by kernel_rfl) (fun _ _ _ h => h) (Or.inl ⟨by rfl, ?_⟩) ?_ ?_
    rotate_left
    · intro w'
      go_simp
      with_reducible rfl
    rotate_left
    · simp only [Act.put, List.setIfInBounds_toArray, List.set_cons_zero, List.set_cons_succ, i64_w, i32_w]
      rfl
    refine last_ (i := 11) (N := some 40) #[true, true, true, true, true, true, true, true, true, true, true, true, false, true] rfl rfl (by kernel_rfl) (by decide) (fun K hK => ?_)
    refine value_ (w1 := W.drew.alloc (.cells #[.func (.func 40) #[.pointer (some ⟨d, 0, none⟩)] #[], .func (.func 41) #[] #[.pointer (some ⟨w.heap.size, 0, none⟩), .pointer (some ⟨hb, 0, none⟩)], .func (.func 40) #[.pointer (some ⟨d, 0, none⟩)] #[]] 85)) (v := .slice (some ⟨W.drew.heap.size, 0, none⟩) 3 3) (by rfl) rfl (exec_build3 W.drew (.tmp 33) (.tmp 34) (.tmp 39) rfl (by rfl) (by rfl) (by rfl)) ?_
    clear hHeld
    refine hK.out _ _ ?_
    clear hK K
    refine norm_ (a' := ?_) ?_ ?_
    rotate_left
    · show Act.put _ (some 40) _ = _
      simp only [Act.put, List.setIfInBounds_toArray, List.set_cons_zero, List.set_cons_succ, i64_w, i32_w]
      rfl
    refine pure_ (i := 12) (N := some 41) (v := ?_) (a' := ?_) #[true, true, true, true, true, true, true, true, true, true, true, true, true, true] rfl rfl (by kernel_rfl) (fun _ _ _ h => h) (Or.inl ⟨by rfl, ?_⟩) ?_ ?_
    rotate_left
    · intro w'
      go_simp
      with_reducible rfl
    rotate_left
    · simp only [Act.put, List.setIfInBounds_toArray, List.set_cons_zero, List.set_cons_succ, i64_w, i32_w]
      rfl
    refine done_ (by kernel_rfl) ?_
    obtain ⟨rb, hrb⟩ : ∃ rb, rb = W.drew.heap.size := ⟨_, rfl⟩
    obtain ⟨W6, hW6⟩ : ∃ W6, W6 = W.drew.alloc (.cells #[.func (.func 40) #[.pointer (some ⟨d, 0, none⟩)] #[], .func (.func 41) #[] #[.pointer (some ⟨w.heap.size, 0, none⟩), .pointer (some ⟨hb, 0, none⟩)], .func (.func 40) #[.pointer (some ⟨d, 0, none⟩)] #[]] 85) := ⟨_, rfl⟩
    have hb6 : Below W.drew.heap.size W.drew W6 := by rw [hW6]; exact below_alloc (Below.refl _ _) _
    have hr6 : W6.heap[rb]? = some (.cells #[.func (.func 40) #[.pointer (some ⟨d, 0, none⟩)] #[], .func (.func 41) #[] #[.pointer (some ⟨w.heap.size, 0, none⟩), .pointer (some ⟨hb, 0, none⟩)], .func (.func 40) #[.pointer (some ⟨d, 0, none⟩)] #[]] 85 (0, 0)) := by rw [hW6, hrb]; exact Deep.blk_alloc_new W.drew _
    have HR6 := Aside0.mk hr6
    have HH6 := Aside0.mk (blk_below HH0.out hb6)
    have HQ6 := Aside0.mk (blk_below HQ0.out hb6)
    have HP6 := Aside0.mk (HP0.out.step hb6)
    have HB6 := Aside0.mk (below_step HB0.out hb6)
    have HF6 := Aside0.mk (HA.out.step HPH.out HB6.out)
    have hrb' : (W.drew.heap.size) = rb := hrb.symm
    have hrb2 : (W.heap.size) = rb := hrb.symm
    first | rw [← hW6] | skip
    first | rw [hrb'] | rw [hrb2] | skip
    clear hb6 hr6 hW6 hrb hrb' hrb2
    go_wp2_with fail
    go_loopw [42] (fun v42 wr => ∃ j : Nat, v42 = .int .i64 (j : Int) ∧ j ≤ 3 ∧ Aside0 (CI Φ C s G nr j wr) ∧ Aside0 (TF base W6 wr)) (fun v42 _ => 3 - (intOf v42).toNat)
    case atStart => exact ⟨0, rfl, Nat.zero_le _, ⟨.inl ⟨rfl, HF6.out⟩⟩, ⟨TF.refl _ _⟩⟩
    case round =>
      obtain ⟨j, rfl, hj, HI, HT⟩ := hrel
      have hq := HT.out.blk _ _ _ _ HQ6.out (by decide) (by decide)
      have hh := HT.out.blk _ _ _ _ HH6.out (by decide) (by decide)
      have hrr := HT.out.blk _ _ _ _ HR6.out (by decide) (by decide)
      have hpp := HP6.out.tf HT.out
      have HQR := Aside0.mk hq
      have HHR := Aside0.mk hh
      have HPR := Aside0.mk hpp
      have HT0 : Aside0 (TG Z w wr) := ⟨(TG.of_below HB6.out HZW.out).trans (TG.of_tf HT.out HZ.out.1)⟩
      by_cases hlt : j < 3
      · have hlti : (j : Int) < 3 := by omega
        have b1 : decide ((j : Int) < 3) = true := decide_eq_true hlti
        have b2 : ((j : Int) < 3) = True := eq_true hlti
        have b3 : (j < 3) = True := eq_true hlt
        have b5 : (0 : Int) ≤ (j : Int) := Int.natCast_nonneg j
        have w2_ : wrap64 ((j : Int) + 1) = (j : Int) + 1 := by unfold wrap64; omega
        have HJ := Aside0.mk hlt
        rcases HI.out with ⟨hj0, hF⟩ | ⟨hj0, hz1, hF⟩ | ⟨hj0, hz1, hz2, hF⟩ | ⟨hj0, _⟩
        · have cr : wr.cell? ⟨rb, j, none⟩ = some (.func (.func 40) #[.pointer (some ⟨d, 0, none⟩)] #[]) := by rw [hj0]; exact (blk_cell hrr 0).trans rfl
          have HF := Aside0.mk hF
          have HJ0 := Aside0.mk hj0
          obtain ⟨E, hE⟩ : ∃ E, E = syncE s := ⟨_, rfl⟩
          have HE := Aside0.mk hE
          clear hlt hlti hj hq hh hrr hpp hj0 hF hE
          by_cases hE0 : E = 0
          · have HE0 : Aside0 (syncE s = 0) := ⟨by rw [← HE.out]; exact hE0⟩
            clear hE0
            go_wp2_with (go_at_call 40; (with_reducible refine (HA.out.sync HF.out).mono ?_); rw [HE0.out]; rintro e w7 ⟨rfl, hs, ht⟩; have HS7 := Aside0.mk hs; have HT7 := Aside0.mk (HT.out.trans ht); clear hs ht cr)
            go_roundw
            case rel => exact ⟨j + 1, by first | exact congrArg (Value.int .i64) w2_ | rfl, HJ.out, ⟨.inr (.inl ⟨by rw [HJ0.out], HE0.out, HS7.out⟩)⟩, HT7⟩
            case measure => exact meas_lt HJ.out (by first | exact congrArg (Value.int .i64) w2_ | rfl)
          · have e0 : (E == 0) = false := beq_eq_false_iff_ne.mpr hE0
            have e1 : (E != 0) = true := bne_iff_ne.mpr hE0
            have e2 : decide (E = 0) = false := decide_eq_false hE0
            have HEN : Aside0 (syncE s ≠ 0) := ⟨by rw [← HE.out]; exact hE0⟩
            clear hE0
            go_upto_region 11 with (go_at_call 40; (with_reducible refine (HA.out.sync HF.out).mono ?_); rw [← HE.out]; rintro e w7 ⟨rfl, hs, ht⟩; have HS7 := Aside0.mk (HA.out.more hs); have HT7 := Aside0.mk ht; clear hs ht cr)
            have HT8 : Aside0 (TG Z w w7) := ⟨HT0.out.trans (TG.of_tf HT7.out HZ.out.1)⟩
            have hp7 := HPR.out.tf HT7.out
            have hq7 := HT7.out.blk _ _ _ _ HQR.out (by decide) (by decide)
            have c0 : w7.cell? ⟨w.heap.size, 0, none⟩ = some (.pointer (some ⟨p, 0, none⟩)) := (blk_cell hq7 0).trans rfl
            have cp3 : w7.cell? ⟨p, 3, none⟩ = some (.bool false) := (blk_cell hp7 3).trans rfl
            have cf3 := blk_frozen hp7 3
            have HFI : Aside0 (Φ (C + 1) (w7.setCell ⟨p, 3, none⟩ (.bool true)) (stpD s G nr) ∧ TG Z w (w7.setCell ⟨p, 3, none⟩ (.bool true)) ∧ PG (w7.setCell ⟨p, 3, none⟩ (.bool true)) p d root gen true) := by
              unfold stpD
              rw [if_pos HEN.out]
              exact ⟨HA.out.set HS7.out hp7 3 _, HT8.out.trans (TG.set hp7 HZ.out.2 3 _), blk_put hp7 3 _ rfl⟩
            have HZS : Aside0 (stpE s G nr = E ∧ stpE s G nr ≠ 0) := by
              have he : stpE s G nr = E := by unfold stpE; rw [if_pos HEN.out]; exact HE.out.symm
              exact ⟨he, by rw [he, HE.out]; exact HEN.out⟩
            clear hp7 hq7
            go_wp2
            go_ret
            rw [HZS.out.1]
            exact ⟨by simp, HFI.out.1, HFI.out.2.1, fun h => absurd (HZS.out.1.trans h) HZS.out.2, fun _ => HFI.out.2.2⟩
        · have cr : wr.cell? ⟨rb, j, none⟩ = some (.func (.func 41) #[] #[.pointer (some ⟨w.heap.size, 0, none⟩), .pointer (some ⟨hb, 0, none⟩)]) := by rw [hj0]; exact (blk_cell hrr 1).trans rfl
          have HF := Aside0.mk hF
          have HJ0 := Aside0.mk (And.intro hj0 hz1)
          obtain ⟨E, hE⟩ : ∃ E, E = layE (syncD s) G nr := ⟨_, rfl⟩
          have HE := Aside0.mk hE
          have hcl := clos_calls HA.out p w.heap.size hb G nr HG.out.1 HG.out.2 HR.out.1 HR.out.2 wr hF (Nat.lt_of_succ_lt HC.out) hpp hq hh
          have HCL := Aside0.mk hcl
          clear hlt hlti hj hq hh hrr hpp hj0 hF hE hz1 hcl
          by_cases hE0 : E = 0
          · have HE0 : Aside0 (layE (syncD s) G nr = 0) := ⟨by rw [← HE.out]; exact hE0⟩
            clear hE0
            go_wp2_with (go_at_call 41; (with_reducible refine HCL.out.mono ?_); rw [HE0.out]; rintro e w7 ⟨rfl, hs, ht⟩; have HS7 := Aside0.mk hs; have HT7 := Aside0.mk (HT.out.trans ht); clear hs ht cr)
            go_roundw
            case rel => exact ⟨j + 1, by first | exact congrArg (Value.int .i64) w2_ | rfl, HJ.out, ⟨.inr (.inr (.inl ⟨by rw [HJ0.out.1], HJ0.out.2, HE0.out, HS7.out⟩))⟩, HT7⟩
            case measure => exact meas_lt HJ.out (by first | exact congrArg (Value.int .i64) w2_ | rfl)
          · have e0 : (E == 0) = false := beq_eq_false_iff_ne.mpr hE0
            have e1 : (E != 0) = true := bne_iff_ne.mpr hE0
            have e2 : decide (E = 0) = false := decide_eq_false hE0
            have HEN : Aside0 (layE (syncD s) G nr ≠ 0) := ⟨by rw [← HE.out]; exact hE0⟩
            clear hE0
            go_upto_region 11 with (go_at_call 41; (with_reducible refine HCL.out.mono ?_); rw [← HE.out]; rintro e w7 ⟨rfl, hs, ht⟩; have HS7 := Aside0.mk hs; have HT7 := Aside0.mk ht; clear hs ht cr)
            have HT8 : Aside0 (TG Z w w7) := ⟨HT0.out.trans (TG.of_tf HT7.out HZ.out.1)⟩
            have hp7 := HPR.out.tf HT7.out
            have hq7 := HT7.out.blk _ _ _ _ HQR.out (by decide) (by decide)
            have c0 : w7.cell? ⟨w.heap.size, 0, none⟩ = some (.pointer (some ⟨p, 0, none⟩)) := (blk_cell hq7 0).trans rfl
            have cp3 : w7.cell? ⟨p, 3, none⟩ = some (.bool false) := (blk_cell hp7 3).trans rfl
            have cf3 := blk_frozen hp7 3
            have HFI : Aside0 (Φ (C + 1) (w7.setCell ⟨p, 3, none⟩ (.bool true)) (stpD s G nr) ∧ TG Z w (w7.setCell ⟨p, 3, none⟩ (.bool true)) ∧ PG (w7.setCell ⟨p, 3, none⟩ (.bool true)) p d root gen true) := by
              unfold stpD
              rw [if_neg (fun h => h HJ0.out.2), if_pos HEN.out]
              exact ⟨HA.out.set HS7.out hp7 3 _, HT8.out.trans (TG.set hp7 HZ.out.2 3 _), blk_put hp7 3 _ rfl⟩
            have HZS : Aside0 (stpE s G nr = E ∧ stpE s G nr ≠ 0) := by
              have he : stpE s G nr = E := by unfold stpE; rw [if_neg (fun h => h HJ0.out.2), if_pos HEN.out]; exact HE.out.symm
              exact ⟨he, by rw [he, HE.out]; exact HEN.out⟩
            clear hp7 hq7
            go_wp2
            go_ret
            rw [HZS.out.1]
            exact ⟨by simp, HFI.out.1, HFI.out.2.1, fun h => absurd (HZS.out.1.trans h) HZS.out.2, fun _ => HFI.out.2.2⟩
        · have cr : wr.cell? ⟨rb, j, none⟩ = some (.func (.func 40) #[.pointer (some ⟨d, 0, none⟩)] #[]) := by rw [hj0]; exact (blk_cell hrr 2).trans rfl
          have HF := Aside0.mk hF
          have HJ0 := Aside0.mk (And.intro hj0 (And.intro hz1 hz2))
          obtain ⟨E, hE⟩ : ∃ E, E = syncE (layD (syncD s) G nr) := ⟨_, rfl⟩
          have HE := Aside0.mk hE
          clear hlt hlti hj hq hh hrr hpp hj0 hF hE hz1 hz2
          by_cases hE0 : E = 0
          · have HE0 : Aside0 (syncE (layD (syncD s) G nr) = 0) := ⟨by rw [← HE.out]; exact hE0⟩
            clear hE0
            go_wp2_with (go_at_call 40; (with_reducible refine (HA.out.sync HF.out).mono ?_); rw [HE0.out]; rintro e w7 ⟨rfl, hs, ht⟩; have HS7 := Aside0.mk hs; have HT7 := Aside0.mk (HT.out.trans ht); clear hs ht cr)
            go_roundw
            case rel => exact ⟨j + 1, by first | exact congrArg (Value.int .i64) w2_ | rfl, HJ.out, ⟨.inr (.inr (.inr ⟨by rw [HJ0.out.1], HJ0.out.2.1, HJ0.out.2.2, HE0.out, HS7.out⟩))⟩, HT7⟩
            case measure => exact meas_lt HJ.out (by first | exact congrArg (Value.int .i64) w2_ | rfl)
          · have e0 : (E == 0) = false := beq_eq_false_iff_ne.mpr hE0
            have e1 : (E != 0) = true := bne_iff_ne.mpr hE0
            have e2 : decide (E = 0) = false := decide_eq_false hE0
            have HEN : Aside0 (syncE (layD (syncD s) G nr) ≠ 0) := ⟨by rw [← HE.out]; exact hE0⟩
            clear hE0
            go_upto_region 11 with (go_at_call 40; (with_reducible refine (HA.out.sync HF.out).mono ?_); rw [← HE.out]; rintro e w7 ⟨rfl, hs, ht⟩; have HS7 := Aside0.mk hs; have HT7 := Aside0.mk ht; clear hs ht cr)
            have HT8 : Aside0 (TG Z w w7) := ⟨HT0.out.trans (TG.of_tf HT7.out HZ.out.1)⟩
            have hp7 := HPR.out.tf HT7.out
            have hq7 := HT7.out.blk _ _ _ _ HQR.out (by decide) (by decide)
            have c0 : w7.cell? ⟨w.heap.size, 0, none⟩ = some (.pointer (some ⟨p, 0, none⟩)) := (blk_cell hq7 0).trans rfl
            have cp3 : w7.cell? ⟨p, 3, none⟩ = some (.bool false) := (blk_cell hp7 3).trans rfl
            have cf3 := blk_frozen hp7 3
            have HFI : Aside0 (Φ (C + 1) (w7.setCell ⟨p, 3, none⟩ (.bool true)) (stpD s G nr) ∧ TG Z w (w7.setCell ⟨p, 3, none⟩ (.bool true)) ∧ PG (w7.setCell ⟨p, 3, none⟩ (.bool true)) p d root gen true) := by
              unfold stpD
              rw [if_neg (fun h => h HJ0.out.2.1), if_neg (fun h => h HJ0.out.2.2)]
              exact ⟨HA.out.set HS7.out hp7 3 _, HT8.out.trans (TG.set hp7 HZ.out.2 3 _), blk_put hp7 3 _ rfl⟩
            have HZS : Aside0 (stpE s G nr = E ∧ stpE s G nr ≠ 0) := by
              have he : stpE s G nr = E := by unfold stpE; rw [if_neg (fun h => h HJ0.out.2.1), if_neg (fun h => h HJ0.out.2.2)]; exact HE.out.symm
              exact ⟨he, by rw [he, HE.out]; exact HEN.out⟩
            clear hp7 hq7
            go_wp2
            go_ret
            rw [HZS.out.1]
            exact ⟨by simp, HFI.out.1, HFI.out.2.1, fun h => absurd (HZS.out.1.trans h) HZS.out.2, fun _ => HFI.out.2.2⟩
        · exact absurd hlt (by rw [hj0]; decide)
      · have hj3 : j = 3 := by omega
        have b1 : decide ((j : Int) < 3) = false := decide_eq_false (by omega)
        have b2 : ((j : Int) < 3) = False := eq_false (by omega)
        have b3 : (j < 3) = False := eq_false hlt
        rcases HI.out with ⟨hj0, _⟩ | ⟨hj0, _⟩ | ⟨hj0, _⟩ | ⟨hj0, hz1, hz2, hz3, hF⟩
        · omega
        · omega
        · omega
        · have c0 : wr.cell? ⟨w.heap.size, 0, none⟩ = some (.pointer (some ⟨p, 0, none⟩)) := (blk_cell hq 0).trans rfl
          have ch0 : wr.cell? ⟨hb, 0, none⟩ = some (.int .i64 nr) := (blk_cell hh 0).trans rfl
          have ch1 : wr.cell? ⟨hb, 1, none⟩ = some (.int .i64 G) := (blk_cell hh 1).trans rfl
          have cp1 : wr.cell? ⟨p, 1, none⟩ = some (.int .i64 root) := (blk_cell hpp 1).trans rfl
          have cp2 : wr.cell? ⟨p, 2, none⟩ = some (.int .i64 gen) := (blk_cell hpp 2).trans rfl
          have cf1 := blk_frozen hpp 1
          have cf2 := blk_frozen hpp 2
          have HFI : Aside0 (Φ (C + 1) ((wr.setCell ⟨p, 1, none⟩ (.int .i64 nr)).setCell ⟨p, 2, none⟩ (.int .i64 G)) (syncD (layD (syncD s) G nr)) ∧ TG Z w ((wr.setCell ⟨p, 1, none⟩ (.int .i64 nr)).setCell ⟨p, 2, none⟩ (.int .i64 G)) ∧ PG ((wr.setCell ⟨p, 1, none⟩ (.int .i64 nr)).setCell ⟨p, 2, none⟩ (.int .i64 G)) p d nr G false) := by
            have hb1 := blk_put hpp 1 (.int .i64 nr) rfl
            exact ⟨HA.out.set (HA.out.set hF hpp 1 _) hb1 2 _, (HT0.out.trans (TG.set hpp HZ.out.2 1 _)).trans (TG.set hb1 HZ.out.2 2 _), blk_put hb1 2 _ rfl⟩
          have HZS : Aside0 (stpE s G nr = 0 ∧ stpD s G nr = syncD (layD (syncD s) G nr)) := ⟨by unfold stpE; rw [if_neg (fun h => h hz1), if_neg (fun h => h hz2)]; exact hz3, by unfold stpD; rw [if_neg (fun h => h hz1), if_neg (fun h => h hz2)]⟩
          clear hj3 hlt hj hj0 hz1 hz2 hz3 hF hq hh hrr hpp
          go_wp2
          go_ret
          rw [HZS.out.1, HZS.out.2]
          exact ⟨by simp, HFI.out.1, HFI.out.2.1, fun _ => HFI.out.2.2, fun h => absurd rfl h⟩
  · have n3 : (nr != 0) = true := bne_iff_ne.mpr hn
    have n4 : (nr == 0) = false := beq_eq_false_iff_ne.mpr hn
    have n6 : decide (nr = 0) = false := decide_eq_false hn
    have n5 : hasN nr s.pages = true := by
      unfold badR at hbad
      rw [decide_eq_true hn] at hbad
      simpa using hbad
    rw [n5] at HCS
    clear hn hbad n5
    go_upto_region 5 with (go_at_call 39; (with_reducible refine (HCS.out _ HB1.out).mono ?_); rintro e w1 ⟨rfl, hb⟩; have HB1' := Aside0.mk (below_step HB1.out hb); have HQ1' := Aside0.mk (blk_below HQ1.out hb); clear hb)
    refine at_world (fun W => W.heap[w.heap.size]? = some (.cells #[.pointer (some ⟨p, 0, none⟩)] 29 (0, 0)) ∧ Below w.heap.size w W) ⟨HQ1'.out, HB1'.out⟩ (fun W2 hW => ?_)
    have HQ2 := Aside0.mk hW.1
    have HB2 := Aside0.mk hW.2
    clear hW HQ1 HB1 HQ1' HB1' c0 c3 n3 n4 n6
    have hp2 := HP.out.step HB2.out
    have c0 : W2.cell? ⟨w.heap.size, 0, none⟩ = some (.pointer (some ⟨p, 0, none⟩)) := (blk_cell HQ2.out 0).trans rfl
    have c2 : W2.cell? ⟨p, 2, none⟩ = some (.int .i64 gen) := (blk_cell hp2 2).trans rfl
    have hgg : IntKind.i64.wrap (gen + 1) = G := by rw [← HGG.out]; exact hw1
    have hgg2 : wrap64 (gen + 1) = G := by rw [← HGG.out]; exact hw2
    clear hp2
    go_upto_region 6 with fail
    obtain ⟨hb, hhb⟩ : ∃ hb, hb = W2.heap.size := ⟨_, rfl⟩
    have hbh : (W2.alloc (.cells #[.int .i64 nr, .int .i64 G] 81)).heap[hb]? = some (.cells #[.int .i64 nr, .int .i64 G] 81 (0, 0)) := by rw [hhb]; exact Deep.blk_alloc_new W2 (.cells #[.int .i64 nr, .int .i64 G] 81)
    rw [← hhb]
    clear hhb c0 c2 hgg hgg2
    refine at_world (fun W => W.heap[hb]? = some (.cells #[.int .i64 nr, .int .i64 G] 81 (0, 0)) ∧ Below W2.heap.size W2 W) ⟨hbh, below_alloc (Below.refl _ _) _⟩ (fun W hW => ?_)
    have HW2 := Aside0.mk (below_step hW.2 (below_drew1 (Below.refl _ _)))
    have HH0 : Aside0 (W.drew.heap[hb]? = some (.cells #[.int .i64 nr, .int .i64 G] 81 (0, 0))) := ⟨hW.1⟩
    have HQ0 := Aside0.mk (blk_below HQ2.out HW2.out)
    have HB0 := Aside0.mk (below_step HB2.out HW2.out)
    have HP0 := Aside0.mk (HP.out.step HB0.out)
    clear hW hbh
    refine start_ (n := 14) (S := fun w' => w'.cell? ⟨w.heap.size, 0, none⟩ = some (.pointer (some ⟨p, 0, none⟩)) ∧ w'.cell? ⟨p, 0, none⟩ = some (.pointer (some ⟨d, 0, none⟩))) (ds := [11]) #[false, false, false, false, false, false, false, false, false, false, false, false, false, false] (by kernel_rfl) rfl rfl ⟨(blk_cell HQ0.out 0).trans rfl, (blk_cell HP0.out 0).trans rfl⟩ (fun hHeld => ?_)
    refine pure_ (i := 5) (N := some 34) (v := ?_) (a' := ?_) #[false, false, false, false, false, true, false, false, false, false, false, false, false, false] rfl rfl (by kernel_rfl) (fun _ _ _ h => h) (Or.inl ⟨by rfl, ?_⟩) ?_ ?_
    rotate_left
    · intro w'
      go_simp
      with_reducible rfl
    rotate_left
    · simp only [Act.put, List.setIfInBounds_toArray, List.set_cons_zero, List.set_cons_succ, i64_w, i32_w]
      rfl
    refine pure_ (i := 13) (N := some 42) (v := ?_) (a' := ?_) #[false, false, false, false, false, true, false, false, false, false, false, false, false, true] rfl rfl (by kernel_rfl) (fun _ _ _ h => h) (Or.inl ⟨by rfl, ?_⟩) ?_ ?_
    rotate_left
    · intro w'
      go_simp
      with_reducible rfl
    rotate_left
    · simp only [Act.put, List.setIfInBounds_toArray, List.set_cons_zero, List.set_cons_succ, i64_w, i32_w]
      rfl
    refine take_ (i := 0) (N := some 29) (v := ?_) (a' := ?_) #[true, false, false, false, false, true, false, false, false, false, false, false, false, true] rfl rfl (by kernel_rfl) (fun _ _ _ h => h) (Or.inl ⟨by rfl, ?_⟩) hHeld ?_ ?_
    rotate_left
    · rintro w' ⟨s0, s1⟩
      go_simp
      with_reducible rfl
    rotate_left
    · simp only [Act.put, List.setIfInBounds_toArray, List.set_cons_zero, List.set_cons_succ, i64_w, i32_w]
      rfl
    refine pure_ (i := 1) (N := some 30) (v := ?_) (a' := ?_) #[true, true, false, false, false, true, false, false, false, false, false, false, false, true] rfl rfl (by kernel_rfl) (fun _ _ _ h => h) (Or.inl ⟨by rfl, ?_⟩) ?_ ?_
    rotate_left
    · intro w'
      go_simp
      with_reducible rfl
    rotate_left
    · simp only [Act.put, List.setIfInBounds_toArray, List.set_cons_zero, List.set_cons_succ, i64_w, i32_w]
      rfl
    refine pure_ (i := 2) (N := some 31) (v := ?_) (a' := ?_) #[true, true, true, false, false, true, false, false, false, false, false, false, false, true] rfl rfl (by kernel_rfl) (fun _ _ _ h => h) (Or.inl ⟨by rfl, ?_⟩) ?_ ?_
    rotate_left
    · intro w'
      go_simp
      with_reducible rfl
    rotate_left
    · simp only [Act.put, List.setIfInBounds_toArray, List.set_cons_zero, List.set_cons_succ, i64_w, i32_w]
      rfl
    refine take_ (i := 3) (N := some 32) (v := ?_) (a' := ?_) #[true, true, true, true, false, true, false, false, false, false, false, false, false, true] rfl rfl (by kernel_rfl) (fun _ _ _ h => h) (Or.inl ⟨by rfl, ?_⟩) hHeld ?_ ?_
    rotate_left
    · rintro w' ⟨s0, s1⟩
      go_simp
      with_reducible rfl
    rotate_left
    · simp only [Act.put, List.setIfInBounds_toArray, List.set_cons_zero, List.set_cons_succ, i64_w, i32_w]
      rfl
    refine pure_ (i := 4) (N := some 33) (v := ?_) (a' := ?_) #[true, true, true, true, true, true, false, false, false, false, false, false, false, true] rfl rfl (by kernel_rfl) (fun _ _ _ h => h) (Or.inl ⟨by rfl, ?_⟩) ?_ ?_
    rotate_left
    · intro w'
      go_simp
      with_reducible rfl
    rotate_left
    · simp only [Act.put, List.setIfInBounds_toArray, List.set_cons_zero, List.set_cons_succ, i64_w, i32_w]
      rfl
    refine take_ (i := 6) (N := some 35) (v := ?_) (a' := ?_) #[true, true, true, true, true, true, true, false, false, false, false, false, false, true] rfl rfl (by kernel_rfl) (fun _ _ _ h => h) (Or.inl ⟨by rfl, ?_⟩) hHeld ?_ ?_
    rotate_left
    · rintro w' ⟨s0, s1⟩
      go_simp
      with_reducible rfl
    rotate_left
    · simp only [Act.put, List.setIfInBounds_toArray, List.set_cons_zero, List.set_cons_succ, i64_w, i32_w]
      rfl
    refine pure_ (i := 7) (N := some 36) (v := ?_) (a' := ?_) #[true, true, true, true, true, true, true, true, false, false, false, false, false, true] rfl rfl (by kernel_rfl) (fun _ _ _ h => h) (Or.inl ⟨by rfl, ?_⟩) ?_ ?_
    rotate_left
    · intro w'
      go_simp
      with_reducible rfl
    rotate_left
    · simp only [Act.put, List.setIfInBounds_toArray, List.set_cons_zero, List.set_cons_succ, i64_w, i32_w]
      rfl
    refine pure_ (i := 8) (N := some 37) (v := ?_) (a' := ?_) #[true, true, true, true, true, true, true, true, true, false, false, false, false, true] rfl rfl (by kernel_rfl) (fun _ _ _ h => h) (Or.inl ⟨by rfl, ?_⟩) ?_ ?_
    rotate_left
    · intro w'
      go_simp
      with_reducible rfl
    rotate_left
    · simp only [Act.put, List.setIfInBounds_toArray, List.set_cons_zero, List.set_cons_succ, i64_w, i32_w]
      rfl
    refine take_ (i := 9) (N := some 38) (v := ?_) (a' := ?_) #[true, true, true, true, true, true, true, true, true, true, false, false, false, true] rfl rfl (by kernel_rfl) (fun _ _ _ h => h) (Or.inl ⟨by rfl, ?_⟩) hHeld ?_ ?_
    rotate_left
    · rintro w' ⟨s0, s1⟩
      go_simp
      with_reducible rfl
    rotate_left
    · simp only [Act.put, List.setIfInBounds_toArray, List.set_cons_zero, List.set_cons_succ, i64_w, i32_w]
      rfl
    refine pure_ (i := 10) (N := some 39) (v := ?_) (a' := ?_) #[true, true, true, true, true, true, true, true, true, true, true, false, false, true] rfl rfl (by kernel_rfl) (fun _ _ _ h => h) (Or.inl ⟨by rfl, ?_⟩) ?_ ?_
    rotate_left
    · intro w'
      go_simp
      with_reducible rfl
    rotate_left
    · simp only [Act.put, List.setIfInBounds_toArray, List.set_cons_zero, List.set_cons_succ, i64_w, i32_w]
      rfl
    refine last_ (i := 11) (N := some 40) #[true, true, true, true, true, true, true, true, true, true, true, true, false, true] rfl rfl (by kernel_rfl) (by decide) (fun K hK => ?_)
    refine value_ (w1 := W.drew.alloc (.cells #[.func (.func 40) #[.pointer (some ⟨d, 0, none⟩)] #[], .func (.func 41) #[] #[.pointer (some ⟨w.heap.size, 0, none⟩), .pointer (some ⟨hb, 0, none⟩)], .func (.func 40) #[.pointer (some ⟨d, 0, none⟩)] #[]] 85)) (v := .slice (some ⟨W.drew.heap.size, 0, none⟩) 3 3) (by rfl) rfl (exec_build3 W.drew (.tmp 33) (.tmp 34) (.tmp 39) rfl (by rfl) (by rfl) (by rfl)) ?_
    clear hHeld
    refine hK.out _ _ ?_
    clear hK K
    refine norm_ (a' := ?_) ?_ ?_
    rotate_left
    · show Act.put _ (some 40) _ = _
      simp only [Act.put, List.setIfInBounds_toArray, List.set_cons_zero, List.set_cons_succ, i64_w, i32_w]
      rfl
    refine pure_ (i := 12) (N := some 41) (v := ?_) (a' := ?_) #[true, true, true, true, true, true, true, true, true, true, true, true, true, true] rfl rfl (by kernel_rfl) (fun _ _ _ h => h) (Or.inl ⟨by rfl, ?_⟩) ?_ ?_
    rotate_left
    · intro w'
      go_simp
      with_reducible rfl
    rotate_left
    · simp only [Act.put, List.setIfInBounds_toArray, List.set_cons_zero, List.set_cons_succ, i64_w, i32_w]
      rfl
    refine done_ (by kernel_rfl) ?_
    obtain ⟨rb, hrb⟩ : ∃ rb, rb = W.drew.heap.size := ⟨_, rfl⟩
    obtain ⟨W6, hW6⟩ : ∃ W6, W6 = W.drew.alloc (.cells #[.func (.func 40) #[.pointer (some ⟨d, 0, none⟩)] #[], .func (.func 41) #[] #[.pointer (some ⟨w.heap.size, 0, none⟩), .pointer (some ⟨hb, 0, none⟩)], .func (.func 40) #[.pointer (some ⟨d, 0, none⟩)] #[]] 85) := ⟨_, rfl⟩
    have hb6 : Below W.drew.heap.size W.drew W6 := by rw [hW6]; exact below_alloc (Below.refl _ _) _
    have hr6 : W6.heap[rb]? = some (.cells #[.func (.func 40) #[.pointer (some ⟨d, 0, none⟩)] #[], .func (.func 41) #[] #[.pointer (some ⟨w.heap.size, 0, none⟩), .pointer (some ⟨hb, 0, none⟩)], .func (.func 40) #[.pointer (some ⟨d, 0, none⟩)] #[]] 85 (0, 0)) := by rw [hW6, hrb]; exact Deep.blk_alloc_new W.drew _
    have HR6 := Aside0.mk hr6
    have HH6 := Aside0.mk (blk_below HH0.out hb6)
    have HQ6 := Aside0.mk (blk_below HQ0.out hb6)
    have HP6 := Aside0.mk (HP0.out.step hb6)
    have HB6 := Aside0.mk (below_step HB0.out hb6)
    have HF6 := Aside0.mk (HA.out.step HPH.out HB6.out)
    have hrb' : (W.drew.heap.size) = rb := hrb.symm
    have hrb2 : (W.heap.size) = rb := hrb.symm
    first | rw [← hW6] | skip
    first | rw [hrb'] | rw [hrb2] | skip
    clear hb6 hr6 hW6 hrb hrb' hrb2
    go_wp2_with fail
    go_loopw [42] (fun v42 wr => ∃ j : Nat, v42 = .int .i64 (j : Int) ∧ j ≤ 3 ∧ Aside0 (CI Φ C s G nr j wr) ∧ Aside0 (TF base W6 wr)) (fun v42 _ => 3 - (intOf v42).toNat)
    case atStart => exact ⟨0, rfl, Nat.zero_le _, ⟨.inl ⟨rfl, HF6.out⟩⟩, ⟨TF.refl _ _⟩⟩
    case round =>
      obtain ⟨j, rfl, hj, HI, HT⟩ := hrel
      have hq := HT.out.blk _ _ _ _ HQ6.out (by decide) (by decide)
      have hh := HT.out.blk _ _ _ _ HH6.out (by decide) (by decide)
      have hrr := HT.out.blk _ _ _ _ HR6.out (by decide) (by decide)
      have hpp := HP6.out.tf HT.out
      have HQR := Aside0.mk hq
      have HHR := Aside0.mk hh
      have HPR := Aside0.mk hpp
      have HT0 : Aside0 (TG Z w wr) := ⟨(TG.of_below HB6.out HZW.out).trans (TG.of_tf HT.out HZ.out.1)⟩
      by_cases hlt : j < 3
      · have hlti : (j : Int) < 3 := by omega
        have b1 : decide ((j : Int) < 3) = true := decide_eq_true hlti
        have b2 : ((j : Int) < 3) = True := eq_true hlti
        have b3 : (j < 3) = True := eq_true hlt
        have b5 : (0 : Int) ≤ (j : Int) := Int.natCast_nonneg j
        have w2_ : wrap64 ((j : Int) + 1) = (j : Int) + 1 := by unfold wrap64; omega
        have HJ := Aside0.mk hlt
        rcases HI.out with ⟨hj0, hF⟩ | ⟨hj0, hz1, hF⟩ | ⟨hj0, hz1, hz2, hF⟩ | ⟨hj0, _⟩
        · have cr : wr.cell? ⟨rb, j, none⟩ = some (.func (.func 40) #[.pointer (some ⟨d, 0, none⟩)] #[]) := by rw [hj0]; exact (blk_cell hrr 0).trans rfl
          have HF := Aside0.mk hF
          have HJ0 := Aside0.mk hj0
          obtain ⟨E, hE⟩ : ∃ E, E = syncE s := ⟨_, rfl⟩
          have HE := Aside0.mk hE
          clear hlt hlti hj hq hh hrr hpp hj0 hF hE
          by_cases hE0 : E = 0
          · have HE0 : Aside0 (syncE s = 0) := ⟨by rw [← HE.out]; exact hE0⟩
            clear hE0
            go_wp2_with (go_at_call 40; (with_reducible refine (HA.out.sync HF.out).mono ?_); rw [HE0.out]; rintro e w7 ⟨rfl, hs, ht⟩; have HS7 := Aside0.mk hs; have HT7 := Aside0.mk (HT.out.trans ht); clear hs ht cr)
            go_roundw
            case rel => exact ⟨j + 1, by first | exact congrArg (Value.int .i64) w2_ | rfl, HJ.out, ⟨.inr (.inl ⟨by rw [HJ0.out], HE0.out, HS7.out⟩)⟩, HT7⟩
            case measure => exact meas_lt HJ.out (by first | exact congrArg (Value.int .i64) w2_ | rfl)
          · have e0 : (E == 0) = false := beq_eq_false_iff_ne.mpr hE0
            have e1 : (E != 0) = true := bne_iff_ne.mpr hE0
            have e2 : decide (E = 0) = false := decide_eq_false hE0
            have HEN : Aside0 (syncE s ≠ 0) := ⟨by rw [← HE.out]; exact hE0⟩
            clear hE0
            go_upto_region 11 with (go_at_call 40; (with_reducible refine (HA.out.sync HF.out).mono ?_); rw [← HE.out]; rintro e w7 ⟨rfl, hs, ht⟩; have HS7 := Aside0.mk (HA.out.more hs); have HT7 := Aside0.mk ht; clear hs ht cr)
            have HT8 : Aside0 (TG Z w w7) := ⟨HT0.out.trans (TG.of_tf HT7.out HZ.out.1)⟩
            have hp7 := HPR.out.tf HT7.out
            have hq7 := HT7.out.blk _ _ _ _ HQR.out (by decide) (by decide)
            have c0 : w7.cell? ⟨w.heap.size, 0, none⟩ = some (.pointer (some ⟨p, 0, none⟩)) := (blk_cell hq7 0).trans rfl
            have cp3 : w7.cell? ⟨p, 3, none⟩ = some (.bool false) := (blk_cell hp7 3).trans rfl
            have cf3 := blk_frozen hp7 3
            have HFI : Aside0 (Φ (C + 1) (w7.setCell ⟨p, 3, none⟩ (.bool true)) (stpD s G nr) ∧ TG Z w (w7.setCell ⟨p, 3, none⟩ (.bool true)) ∧ PG (w7.setCell ⟨p, 3, none⟩ (.bool true)) p d root gen true) := by
              unfold stpD
              rw [if_pos HEN.out]
              exact ⟨HA.out.set HS7.out hp7 3 _, HT8.out.trans (TG.set hp7 HZ.out.2 3 _), blk_put hp7 3 _ rfl⟩
            have HZS : Aside0 (stpE s G nr = E ∧ stpE s G nr ≠ 0) := by
              have he : stpE s G nr = E := by unfold stpE; rw [if_pos HEN.out]; exact HE.out.symm
              exact ⟨he, by rw [he, HE.out]; exact HEN.out⟩
            clear hp7 hq7
            go_wp2
            go_ret
            rw [HZS.out.1]
            exact ⟨by simp, HFI.out.1, HFI.out.2.1, fun h => absurd (HZS.out.1.trans h) HZS.out.2, fun _ => HFI.out.2.2⟩
        · have cr : wr.cell? ⟨rb, j, none⟩ = some (.func (.func 41) #[] #[.pointer (some ⟨w.heap.size, 0, none⟩), .pointer (some ⟨hb, 0, none⟩)]) := by rw [hj0]; exact (blk_cell hrr 1).trans rfl
          have HF := Aside0.mk hF
          have HJ0 := Aside0.mk (And.intro hj0 hz1)
          obtain ⟨E, hE⟩ : ∃ E, E = layE (syncD s) G nr := ⟨_, rfl⟩
          have HE := Aside0.mk hE
          have hcl := clos_calls HA.out p w.heap.size hb G nr HG.out.1 HG.out.2 HR.out.1 HR.out.2 wr hF (Nat.lt_of_succ_lt HC.out) hpp hq hh
          have HCL := Aside0.mk hcl
          clear hlt hlti hj hq hh hrr hpp hj0 hF hE hz1 hcl
          by_cases hE0 : E = 0
          · have HE0 : Aside0 (layE (syncD s) G nr = 0) := ⟨by rw [← HE.out]; exact hE0⟩
            clear hE0
            go_wp2_with (go_at_call 41; (with_reducible refine HCL.out.mono ?_); rw [HE0.out]; rintro e w7 ⟨rfl, hs, ht⟩; have HS7 := Aside0.mk hs; have HT7 := Aside0.mk (HT.out.trans ht); clear hs ht cr)
            go_roundw
            case rel => exact ⟨j + 1, by first | exact congrArg (Value.int .i64) w2_ | rfl, HJ.out, ⟨.inr (.inr (.inl ⟨by rw [HJ0.out.1], HJ0.out.2, HE0.out, HS7.out⟩))⟩, HT7⟩
            case measure => exact meas_lt HJ.out (by first | exact congrArg (Value.int .i64) w2_ | rfl)
          · have e0 : (E == 0) = false := beq_eq_false_iff_ne.mpr hE0
            have e1 : (E != 0) = true := bne_iff_ne.mpr hE0
            have e2 : decide (E = 0) = false := decide_eq_false hE0
            have HEN : Aside0 (layE (syncD s) G nr ≠ 0) := ⟨by rw [← HE.out]; exact hE0⟩
            clear hE0
            go_upto_region 11 with (go_at_call 41; (with_reducible refine HCL.out.mono ?_); rw [← HE.out]; rintro e w7 ⟨rfl, hs, ht⟩; have HS7 := Aside0.mk hs; have HT7 := Aside0.mk ht; clear hs ht cr)
            have HT8 : Aside0 (TG Z w w7) := ⟨HT0.out.trans (TG.of_tf HT7.out HZ.out.1)⟩
            have hp7 := HPR.out.tf HT7.out
            have hq7 := HT7.out.blk _ _ _ _ HQR.out (by decide) (by decide)
            have c0 : w7.cell? ⟨w.heap.size, 0, none⟩ = some (.pointer (some ⟨p, 0, none⟩)) := (blk_cell hq7 0).trans rfl
            have cp3 : w7.cell? ⟨p, 3, none⟩ = some (.bool false) := (blk_cell hp7 3).trans rfl
            have cf3 := blk_frozen hp7 3
            have HFI : Aside0 (Φ (C + 1) (w7.setCell ⟨p, 3, none⟩ (.bool true)) (stpD s G nr) ∧ TG Z w (w7.setCell ⟨p, 3, none⟩ (.bool true)) ∧ PG (w7.setCell ⟨p, 3, none⟩ (.bool true)) p d root gen true) := by
              unfold stpD
              rw [if_neg (fun h => h HJ0.out.2), if_pos HEN.out]
              exact ⟨HA.out.set HS7.out hp7 3 _, HT8.out.trans (TG.set hp7 HZ.out.2 3 _), blk_put hp7 3 _ rfl⟩
            have HZS : Aside0 (stpE s G nr = E ∧ stpE s G nr ≠ 0) := by
              have he : stpE s G nr = E := by unfold stpE; rw [if_neg (fun h => h HJ0.out.2), if_pos HEN.out]; exact HE.out.symm
              exact ⟨he, by rw [he, HE.out]; exact HEN.out⟩
            clear hp7 hq7
            go_wp2
            go_ret
            rw [HZS.out.1]
            exact ⟨by simp, HFI.out.1, HFI.out.2.1, fun h => absurd (HZS.out.1.trans h) HZS.out.2, fun _ => HFI.out.2.2⟩
        · have cr : wr.cell? ⟨rb, j, none⟩ = some (.func (.func 40) #[.pointer (some ⟨d, 0, none⟩)] #[]) := by rw [hj0]; exact (blk_cell hrr 2).trans rfl
          have HF := Aside0.mk hF
          have HJ0 := Aside0.mk (And.intro hj0 (And.intro hz1 hz2))
          obtain ⟨E, hE⟩ : ∃ E, E = syncE (layD (syncD s) G nr) := ⟨_, rfl⟩
          have HE := Aside0.mk hE
          clear hlt hlti hj hq hh hrr hpp hj0 hF hE hz1 hz2
          by_cases hE0 : E = 0
          · have HE0 : Aside0 (syncE (layD (syncD s) G nr) = 0) := ⟨by rw [← HE.out]; exact hE0⟩
            clear hE0
            go_wp2_with (go_at_call 40; (with_reducible refine (HA.out.sync HF.out).mono ?_); rw [HE0.out]; rintro e w7 ⟨rfl, hs, ht⟩; have HS7 := Aside0.mk hs; have HT7 := Aside0.mk (HT.out.trans ht); clear hs ht cr)
            go_roundw
            case rel => exact ⟨j + 1, by first | exact congrArg (Value.int .i64) w2_ | rfl, HJ.out, ⟨.inr (.inr (.inr ⟨by rw [HJ0.out.1], HJ0.out.2.1, HJ0.out.2.2, HE0.out, HS7.out⟩))⟩, HT7⟩
            case measure => exact meas_lt HJ.out (by first | exact congrArg (Value.int .i64) w2_ | rfl)
          · have e0 : (E == 0) = false := beq_eq_false_iff_ne.mpr hE0
            have e1 : (E != 0) = true := bne_iff_ne.mpr hE0
            have e2 : decide (E = 0) = false := decide_eq_false hE0
            have HEN : Aside0 (syncE (layD (syncD s) G nr) ≠ 0) := ⟨by rw [← HE.out]; exact hE0⟩
            clear hE0
            go_upto_region 11 with (go_at_call 40; (with_reducible refine (HA.out.sync HF.out).mono ?_); rw [← HE.out]; rintro e w7 ⟨rfl, hs, ht⟩; have HS7 := Aside0.mk hs; have HT7 := Aside0.mk ht; clear hs ht cr)
            have HT8 : Aside0 (TG Z w w7) := ⟨HT0.out.trans (TG.of_tf HT7.out HZ.out.1)⟩
            have hp7 := HPR.out.tf HT7.out
            have hq7 := HT7.out.blk _ _ _ _ HQR.out (by decide) (by decide)
            have c0 : w7.cell? ⟨w.heap.size, 0, none⟩ = some (.pointer (some ⟨p, 0, none⟩)) := (blk_cell hq7 0).trans rfl
            have cp3 : w7.cell? ⟨p, 3, none⟩ = some (.bool false) := (blk_cell hp7 3).trans rfl
            have cf3 := blk_frozen hp7 3
            have HFI : Aside0 (Φ (C + 1) (w7.setCell ⟨p, 3, none⟩ (.bool true)) (stpD s G nr) ∧ TG Z w (w7.setCell ⟨p, 3, none⟩ (.bool true)) ∧ PG (w7.setCell ⟨p, 3, none⟩ (.bool true)) p d root gen true) := by
              unfold stpD
              rw [if_neg (fun h => h HJ0.out.2.1), if_neg (fun h => h HJ0.out.2.2)]
              exact ⟨HA.out.set HS7.out hp7 3 _, HT8.out.trans (TG.set hp7 HZ.out.2 3 _), blk_put hp7 3 _ rfl⟩
            have HZS : Aside0 (stpE s G nr = E ∧ stpE s G nr ≠ 0) := by
              have he : stpE s G nr = E := by unfold stpE; rw [if_neg (fun h => h HJ0.out.2.1), if_neg (fun h => h HJ0.out.2.2)]; exact HE.out.symm
              exact ⟨he, by rw [he, HE.out]; exact HEN.out⟩
            clear hp7 hq7
            go_wp2
            go_ret
            rw [HZS.out.1]
            exact ⟨by simp, HFI.out.1, HFI.out.2.1, fun h => absurd (HZS.out.1.trans h) HZS.out.2, fun _ => HFI.out.2.2⟩
        · exact absurd hlt (by rw [hj0]; decide)
      · have hj3 : j = 3 := by omega
        have b1 : decide ((j : Int) < 3) = false := decide_eq_false (by omega)
        have b2 : ((j : Int) < 3) = False := eq_false (by omega)
        have b3 : (j < 3) = False := eq_false hlt
        rcases HI.out with ⟨hj0, _⟩ | ⟨hj0, _⟩ | ⟨hj0, _⟩ | ⟨hj0, hz1, hz2, hz3, hF⟩
        · omega
        · omega
        · omega
        · have c0 : wr.cell? ⟨w.heap.size, 0, none⟩ = some (.pointer (some ⟨p, 0, none⟩)) := (blk_cell hq 0).trans rfl
          have ch0 : wr.cell? ⟨hb, 0, none⟩ = some (.int .i64 nr) := (blk_cell hh 0).trans rfl
          have ch1 : wr.cell? ⟨hb, 1, none⟩ = some (.int .i64 G) := (blk_cell hh 1).trans rfl
          have cp1 : wr.cell? ⟨p, 1, none⟩ = some (.int .i64 root) := (blk_cell hpp 1).trans rfl
          have cp2 : wr.cell? ⟨p, 2, none⟩ = some (.int .i64 gen) := (blk_cell hpp 2).trans rfl
          have cf1 := blk_frozen hpp 1
          have cf2 := blk_frozen hpp 2
          have HFI : Aside0 (Φ (C + 1) ((wr.setCell ⟨p, 1, none⟩ (.int .i64 nr)).setCell ⟨p, 2, none⟩ (.int .i64 G)) (syncD (layD (syncD s) G nr)) ∧ TG Z w ((wr.setCell ⟨p, 1, none⟩ (.int .i64 nr)).setCell ⟨p, 2, none⟩ (.int .i64 G)) ∧ PG ((wr.setCell ⟨p, 1, none⟩ (.int .i64 nr)).setCell ⟨p, 2, none⟩ (.int .i64 G)) p d nr G false) := by
            have hb1 := blk_put hpp 1 (.int .i64 nr) rfl
            exact ⟨HA.out.set (HA.out.set hF hpp 1 _) hb1 2 _, (HT0.out.trans (TG.set hpp HZ.out.2 1 _)).trans (TG.set hb1 HZ.out.2 2 _), blk_put hb1 2 _ rfl⟩
          have HZS : Aside0 (stpE s G nr = 0 ∧ stpD s G nr = syncD (layD (syncD s) G nr)) := ⟨by unfold stpE; rw [if_neg (fun h => h hz1), if_neg (fun h => h hz2)]; exact hz3, by unfold stpD; rw [if_neg (fun h => h hz1), if_neg (fun h => h hz2)]⟩
          clear hj3 hlt hj hj0 hz1 hz2 hz3 hF hq hh hrr hpp
          go_wp2
          go_ret
          rw [HZS.out.1, HZS.out.2]
          exact ⟨by simp, HFI.out.1, HFI.out.2.1, fun _ => HFI.out.2.2, fun h => absurd rfl h⟩
end
end Go.Proofs.Ytmjmichkkmmdcaa.P
end
section
namespace Go.Proofs.Ytmjmichkkmmdcaa.P
open Go.RowKit Go.Proofs.Ytmjmichkkmmdcaa.Pure Go.Proofs.YtmjmichkkmmdcaaW.PrintWords Go.Proofs.YtmjmichkkmmdcaaW.PrintLast Go.Proofs.YtmjmichkkmmdcaaW.PrintMore
set_option linter.unusedVariables false
set_option linter.unusedSimpArgs false
def comE (s : Dk) (gen : Int) (down : Bool) (nr : Int) : Int := if down = true then 9 else if badR s nr = true then 2 else stpE s (gen + 1) nr
def comD (s : Dk) (gen : Int) (down : Bool) (nr : Int) : Dk := if down = true then s else if badR s nr = true then s else stpD s (gen + 1) nr
def comG (s : Dk) (root gen : Int) (down : Bool) (nr : Int) : Int × Int × Bool := if down = true then (root, gen, true) else if badR s nr = true then (root, gen, false) else if stpE s (gen + 1) nr = 0 then (nr, gen + 1, false) else (root, gen, true)
section
variable {base d : Nat} {Φ : Nat → World → Dk → Prop} {C : Nat} {s : Dk}
theorem commit_calls (hA : DAct base d Φ) (p : Nat) (nr : Int) {root gen : Int} {down : Bool} (hm : s.pages ≤ 4096) (g0 : 0 ≤ gen) (g1 : gen < 9223372036854775806) (Z : Nat) (hZb : Z ≤ base) (hZp : Z ≤ p) (w : World) (h : Φ C w s) (hC : C + 1 < 1073741824) (hp : PG w p d root gen down) :
    Calls Try.prog 14 #[.pointer (some ⟨p, 0, none⟩), .int .i64 nr] w fun e w' => e = .returned (.int .i64 (comE s gen down nr)) ∧ Φ (C + 1) w' (comD s gen down nr) ∧ TG Z w w' ∧ PG w' p d (comG s root gen down nr).1 (comG s root gen down nr).2.1 (comG s root gen down nr).2.2 := by
  have hZw : Z ≤ w.heap.size := Nat.le_trans hZb (hA.bd h)
  unfold comE comD comG
  by_cases hd : down = true
  · subst hd
    simp only [if_true]
    exact (commit_down hA p nr w h hp).mono fun e w' ⟨he, hb⟩ => ⟨he, hA.more (hA.step h hb), TG.of_below hb hZw, hp.step hb⟩
  · have hd0 : down = false := by simpa using hd
    subst hd0
    simp only [Bool.false_eq_true, if_false]
    by_cases hbad : badR s nr = true
    · simp only [hbad, if_true]
      exact (commit_bad hA p nr hbad w h hp).mono fun e w' ⟨he, hb⟩ => ⟨he, hA.more (hA.step h hb), TG.of_below hb hZw, hp.step hb⟩
    · have hb0 : badR s nr = false := by simpa using hbad
      have hn : nr = 0 ∨ (2 ≤ nr ∧ nr < s.pages) := by
        by_cases e : nr = 0
        · exact .inl e
        · right
          unfold badR hasN at hb0
          rw [decide_eq_true e] at hb0
          simpa using hb0
      simp only [hb0, Bool.false_eq_true, if_false]
      refine (commit_go hA p nr hb0 (by omega) (by omega) g0 g1 Z hZb hZp w h hC hp).mono ?_
      rintro e w' ⟨he, h1, h2, h3, h4⟩
      refine ⟨he, h1, h2, ?_⟩
      by_cases hz : stpE s (gen + 1) nr = 0
      · simp only [hz, if_true]; exact h3 hz
      · simp only [hz, if_false]; exact h4 hz
set_option maxHeartbeats 1000000 in
set_option maxRecDepth 100000 in
theorem root_calls (p d : Nat) {root gen : Int} {down : Bool} (w : World) (hp : PG w p d root gen down) :
    Calls Try.prog 13 #[.pointer (some ⟨p, 0, none⟩)] w fun e w' => e = .returned (.tuple #[.int .i64 root, .int .i64 gen]) ∧ Below w.heap.size w w' := by
  have HP := Aside0.mk (hp.step (below_drew1 (Below.refl w.heap.size w)))
  have HB := Aside0.mk (below_drew1 (Below.refl w.heap.size w))
  clear hp
  go_enter Try.func13, Try.ntmps13
  go_upto_region 1 with fail
  refine start_ (n := 12) (S := fun w' => w'.cell? ⟨p, 1, none⟩ = some (.int .i64 root) ∧ w'.cell? ⟨p, 2, none⟩ = some (.int .i64 gen)) (ds := []) #[false, false, false, false, false, false, false, false, false, false, false, false] (by kernel_rfl) rfl rfl ⟨(blk_cell HP.out 1).trans rfl, (blk_cell HP.out 2).trans rfl⟩ (fun hHeld => ?_)
  refine pure_ (i := 0) (N := some 4) (v := ?_) (a' := ?_) #[true, false, false, false, false, false, false, false, false, false, false, false] rfl rfl (by kernel_rfl) (fun _ _ _ h => h) (Or.inl ⟨by rfl, ?_⟩) ?_ ?_
  rotate_left
  · intro w'
    go_simp
    with_reducible rfl
  rotate_left
  · simp only [Act.put, List.setIfInBounds_toArray, List.set_cons_zero, List.set_cons_succ, i64_w, i32_w]
    rfl
  refine pure_ (i := 1) (N := some 5) (v := ?_) (a' := ?_) #[true, true, false, false, false, false, false, false, false, false, false, false] rfl rfl (by kernel_rfl) (fun _ _ _ h => h) (Or.inl ⟨by rfl, ?_⟩) ?_ ?_
  rotate_left
  · intro w'
    go_simp
    with_reducible rfl
  rotate_left
  · simp only [Act.put, List.setIfInBounds_toArray, List.set_cons_zero, List.set_cons_succ, i64_w, i32_w]
    rfl
  refine pure_ (i := 2) (N := some 6) (v := ?_) (a' := ?_) #[true, true, true, false, false, false, false, false, false, false, false, false] rfl rfl (by kernel_rfl) (fun _ _ _ h => h) (Or.inl ⟨by rfl, ?_⟩) ?_ ?_
  rotate_left
  · intro w'
    go_simp
    with_reducible rfl
  rotate_left
  · simp only [Act.put, List.setIfInBounds_toArray, List.set_cons_zero, List.set_cons_succ, i64_w, i32_w]
    rfl
  refine pure_ (i := 3) (N := some 7) (v := ?_) (a' := ?_) #[true, true, true, true, false, false, false, false, false, false, false, false] rfl rfl (by kernel_rfl) (fun _ _ _ h => h) (Or.inl ⟨by rfl, ?_⟩) ?_ ?_
  rotate_left
  · intro w'
    go_simp
    with_reducible rfl
  rotate_left
  · simp only [Act.put, List.setIfInBounds_toArray, List.set_cons_zero, List.set_cons_succ, i64_w, i32_w]
    rfl
  refine pure_ (i := 5) (N := some 9) (v := ?_) (a' := ?_) #[true, true, true, true, false, true, false, false, false, false, false, false] rfl rfl (by kernel_rfl) (fun _ _ _ h => h) (Or.inl ⟨by rfl, ?_⟩) ?_ ?_
  rotate_left
  · intro w'
    go_simp
    with_reducible rfl
  rotate_left
  · simp only [Act.put, List.setIfInBounds_toArray, List.set_cons_zero, List.set_cons_succ, i64_w, i32_w]
    rfl
  refine pure_ (i := 6) (N := some 10) (v := ?_) (a' := ?_) #[true, true, true, true, false, true, true, false, false, false, false, false] rfl rfl (by kernel_rfl) (fun _ _ _ h => h) (Or.inl ⟨by rfl, ?_⟩) ?_ ?_
  rotate_left
  · intro w'
    go_simp
    with_reducible rfl
  rotate_left
  · simp only [Act.put, List.setIfInBounds_toArray, List.set_cons_zero, List.set_cons_succ, i64_w, i32_w]
    rfl
  refine pure_ (i := 7) (N := some 11) (v := ?_) (a' := ?_) #[true, true, true, true, false, true, true, true, false, false, false, false] rfl rfl (by kernel_rfl) (fun _ _ _ h => h) (Or.inl ⟨by rfl, ?_⟩) ?_ ?_
  rotate_left
  · intro w'
    go_simp
    with_reducible rfl
  rotate_left
  · simp only [Act.put, List.setIfInBounds_toArray, List.set_cons_zero, List.set_cons_succ, i64_w, i32_w]
    rfl
  refine pure_ (i := 8) (N := some 12) (v := ?_) (a' := ?_) #[true, true, true, true, false, true, true, true, true, false, false, false] rfl rfl (by kernel_rfl) (fun _ _ _ h => h) (Or.inl ⟨by rfl, ?_⟩) ?_ ?_
  rotate_left
  · intro w'
    go_simp
    with_reducible rfl
  rotate_left
  · simp only [Act.put, List.setIfInBounds_toArray, List.set_cons_zero, List.set_cons_succ, i64_w, i32_w]
    rfl
  refine take_ (i := 4) (N := some 8) (v := ?_) (a' := ?_) #[true, true, true, true, true, true, true, true, true, false, false, false] rfl rfl (by kernel_rfl) (fun _ _ _ h => h) (Or.inl ⟨by rfl, ?_⟩) hHeld ?_ ?_
  rotate_left
  · rintro w' ⟨s0, s1⟩
    go_simp
    with_reducible rfl
  rotate_left
  · simp only [Act.put, List.setIfInBounds_toArray, List.set_cons_zero, List.set_cons_succ, i64_w, i32_w]
    rfl
  refine pure_ (i := 10) (N := some 2) (v := ?_) (a' := ?_) #[true, true, true, true, true, true, true, true, true, false, true, false] rfl rfl (by kernel_rfl) (fun _ _ _ h => h) (Or.inl ⟨by rfl, ?_⟩) ?_ ?_
  rotate_left
  · intro w'
    go_simp
    with_reducible rfl
  rotate_left
  · simp only [Act.put, List.setIfInBounds_toArray, List.set_cons_zero, List.set_cons_succ, i64_w, i32_w]
    rfl
  refine take_ (i := 9) (N := some 13) (v := ?_) (a' := ?_) #[true, true, true, true, true, true, true, true, true, true, true, false] rfl rfl (by kernel_rfl) (fun _ _ _ h => h) (Or.inl ⟨by rfl, ?_⟩) hHeld ?_ ?_
  rotate_left
  · rintro w' ⟨s0, s1⟩
    go_simp
    with_reducible rfl
  rotate_left
  · simp only [Act.put, List.setIfInBounds_toArray, List.set_cons_zero, List.set_cons_succ, i64_w, i32_w]
    rfl
  refine pure_ (i := 11) (N := some 3) (v := ?_) (a' := ?_) #[true, true, true, true, true, true, true, true, true, true, true, true] rfl rfl (by kernel_rfl) (fun _ _ _ h => h) (Or.inl ⟨by rfl, ?_⟩) ?_ ?_
  rotate_left
  · intro w'
    go_simp
    with_reducible rfl
  rotate_left
  · simp only [Act.put, List.setIfInBounds_toArray, List.set_cons_zero, List.set_cons_succ, i64_w, i32_w]
    rfl
  refine done_ (by kernel_rfl) ?_
  go_wp2
  refine bodyPost_ret (results_tmp2 rfl _ _ _) rfl ?_
  exact ⟨by simp, HB.out⟩
def fmtE (s : Dk) : Int := if s.pages ≤ 2 then 2 else if layE s 0 0 ≠ 0 then layE s 0 0 else if layE (layD s 0 0) 1 0 ≠ 0 then layE (layD s 0 0) 1 0 else syncE (layD (layD s 0 0) 1 0)
def fmtD (s : Dk) : Dk := if s.pages ≤ 2 then s else if layE s 0 0 ≠ 0 then layD s 0 0 else if layE (layD s 0 0) 1 0 ≠ 0 then layD (layD s 0 0) 1 0 else syncD (layD (layD s 0 0) 1 0)
def FI (Φ : Nat → World → Dk → Prop) (C : Nat) (s : Dk) (j : Nat) (W : World) : Prop :=
  (j = 0 ∧ Φ C W s) ∨ (j = 1 ∧ layE s 0 0 = 0 ∧ Φ (C + 1) W (layD s 0 0)) ∨ (j = 2 ∧ layE s 0 0 = 0 ∧ layE (layD s 0 0) 1 0 = 0 ∧ Φ (C + 2) W (layD (layD s 0 0) 1 0))
set_option maxHeartbeats 4000000 in
set_option maxRecDepth 100000 in
theorem format_calls (hA : DAct base d Φ) (w : World) (h : Φ C w s) (hC : C + 2 < 1073741824) :
    Calls Try.prog 33 #[.pointer (some ⟨d, 0, none⟩)] w fun e w' => e = .returned (.int .i64 (fmtE s)) ∧ Φ (C + 2) w' (fmtD s) ∧ TF base w w' := by
  have HA := Aside0.mk hA
  have HF := Aside0.mk h
  have HC := Aside0.mk hC
  have HBD := Aside0.mk (hA.bd h)
  have hpg := hA.pages h
  obtain ⟨M, hM⟩ : ∃ M, M = s.pages := ⟨_, rfl⟩
  have HM := Aside0.mk hM
  rw [← hM] at hpg
  clear hA h hC hM
  by_cases h2 : M ≤ 2
  · have b0 : decide (M ≤ 2) = true := decide_eq_true h2
    have b1 : (M ≤ 2) = True := eq_true h2
    have HE : Aside0 (fmtE s = 2 ∧ fmtD s = s) := ⟨by unfold fmtE; rw [if_pos (by rw [← HM.out]; exact h2)], by unfold fmtD; rw [if_pos (by rw [← HM.out]; exact h2)]⟩
    clear h2
    go_enter Try.func33, Try.ntmps33
    go_wp2_with (go_at_call 43; (with_reducible refine hpg.mono ?_); rintro e w1 ⟨rfl, hb⟩; have HB1 := Aside0.mk hb; clear hb)
    go_ret
    rw [HE.out.1, HE.out.2]
    exact ⟨by simp, HA.out.more (HA.out.more (HA.out.step HF.out HB1.out)), TF.of_below HB1.out HBD.out⟩
  · have b0 : decide (M ≤ 2) = false := decide_eq_false h2
    have b1 : (M ≤ 2) = False := eq_false h2
    have HP2 : Aside0 (¬ s.pages ≤ 2) := ⟨by rw [← HM.out]; exact h2⟩
    clear h2
    go_enter Try.func33, Try.ntmps33
    go_upto_region 3 with (go_at_call 43; (with_reducible refine hpg.mono ?_); rintro e w1 ⟨rfl, hb⟩; have HF1 := Aside0.mk (HA.out.step HF.out hb); have HT1 := Aside0.mk (TF.of_below hb HBD.out); clear hb hpg)
    go_wp2_with fail
    go_loopw [8] (fun v8 wr => ∃ j : Nat, v8 = .int .i64 (j : Int) ∧ j ≤ 2 ∧ Aside0 (FI Φ C s j wr) ∧ Aside0 (TF base w wr)) (fun v8 _ => 2 - (intOf v8).toNat)
    case atStart => exact ⟨0, rfl, Nat.zero_le _, ⟨.inl ⟨rfl, HF1.out⟩⟩, HT1⟩
    case round =>
      clear HF1 HT1
      obtain ⟨j, rfl, hj, HI, HT⟩ := hrel
      by_cases hlt : j < 2
      · have hlti : (j : Int) < 2 := by omega
        have c1 : decide ((j : Int) < 2) = true := decide_eq_true hlti
        have c2 : ((j : Int) < 2) = True := eq_true hlti
        have c3 : (j < 2) = True := eq_true hlt
        have w2_ : wrap64 ((j : Int) + 1) = (j : Int) + 1 := by unfold wrap64; omega
        have HJ := Aside0.mk hlt
        rcases HI.out with ⟨hj0, hF⟩ | ⟨hj0, hz1, hF⟩ | ⟨hj0, _⟩
        · obtain ⟨E, hE⟩ : ∃ E, E = layE s 0 0 := ⟨_, rfl⟩
          have HE := Aside0.mk hE
          have hl : Calls Try.prog 42 #[.pointer (some ⟨d, 0, none⟩), .agg #[.int .i64 0, .int .i64 (j : Int)]] wr fun e w' => e = .returned (.int .i64 E) ∧ Φ (C + 1) w' (layD s 0 0) ∧ TF base wr w' := by
            rw [hj0, hE]
            exact lay_calls HA.out 0 0 (by decide) (by decide) (by decide) (by decide) wr hF (by have := HC.out; omega)
          have HJ0 := Aside0.mk hj0
          clear hlt hlti hj hj0 hF hE
          by_cases hE0 : E = 0
          · have HE0 : Aside0 (layE s 0 0 = 0) := ⟨by rw [← HE.out]; exact hE0⟩
            rw [hE0] at hl
            clear hE0
            go_wp2_with (go_at_call 42; (with_reducible refine hl.mono ?_); rintro e w7 ⟨rfl, hs, ht⟩; have HS7 := Aside0.mk hs; have HT7 := Aside0.mk (HT.out.trans ht); clear hs ht hl)
            go_roundw
            case rel => exact ⟨j + 1, by first | exact congrArg (Value.int .i64) w2_ | rfl, HJ.out, ⟨.inr (.inl ⟨by rw [HJ0.out], HE0.out, HS7.out⟩)⟩, HT7⟩
            case measure => exact meas_lt HJ.out (by first | exact congrArg (Value.int .i64) w2_ | rfl)
          · have e0 : (E == 0) = false := beq_eq_false_iff_ne.mpr hE0
            have e1 : (E != 0) = true := bne_iff_ne.mpr hE0
            have e2 : decide (E = 0) = false := decide_eq_false hE0
            have HZS : Aside0 (fmtE s = E ∧ fmtD s = layD s 0 0) := by
              have hE1 : layE s 0 0 ≠ 0 := by rw [← HE.out]; exact hE0
              exact ⟨by unfold fmtE; rw [if_neg (Int.not_le.2 HP2.out), if_pos hE1]; exact HE.out.symm, by unfold fmtD; rw [if_neg (Int.not_le.2 HP2.out), if_pos hE1]⟩
            clear hE0
            go_wp2_with (go_at_call 42; (with_reducible refine hl.mono ?_); rintro e w7 ⟨rfl, hs, ht⟩; have HS7 := Aside0.mk (HA.out.more hs); have HT7 := Aside0.mk (HT.out.trans ht); clear hs ht hl)
            go_ret
            rw [HZS.out.1, HZS.out.2]
            exact ⟨by simp, HS7.out, HT7.out⟩
        · obtain ⟨E, hE⟩ : ∃ E, E = layE (layD s 0 0) 1 0 := ⟨_, rfl⟩
          have HE := Aside0.mk hE
          have hl : Calls Try.prog 42 #[.pointer (some ⟨d, 0, none⟩), .agg #[.int .i64 0, .int .i64 (j : Int)]] wr fun e w' => e = .returned (.int .i64 E) ∧ Φ (C + 2) w' (layD (layD s 0 0) 1 0) ∧ TF base wr w' := by
            rw [hj0, hE]
            exact lay_calls HA.out 1 0 (by decide) (by decide) (by decide) (by decide) wr hF (by have := HC.out; omega)
          have HJ0 := Aside0.mk (And.intro hj0 hz1)
          clear hlt hlti hj hj0 hF hE hz1
          by_cases hE0 : E = 0
          · have HE0 : Aside0 (layE (layD s 0 0) 1 0 = 0) := ⟨by rw [← HE.out]; exact hE0⟩
            rw [hE0] at hl
            clear hE0
            go_wp2_with (go_at_call 42; (with_reducible refine hl.mono ?_); rintro e w7 ⟨rfl, hs, ht⟩; have HS7 := Aside0.mk hs; have HT7 := Aside0.mk (HT.out.trans ht); clear hs ht hl)
            go_roundw
            case rel => exact ⟨j + 1, by first | exact congrArg (Value.int .i64) w2_ | rfl, HJ.out, ⟨.inr (.inr ⟨by rw [HJ0.out.1], HJ0.out.2, HE0.out, HS7.out⟩)⟩, HT7⟩
            case measure => exact meas_lt HJ.out (by first | exact congrArg (Value.int .i64) w2_ | rfl)
          · have e0 : (E == 0) = false := beq_eq_false_iff_ne.mpr hE0
            have e1 : (E != 0) = true := bne_iff_ne.mpr hE0
            have e2 : decide (E = 0) = false := decide_eq_false hE0
            have HZS : Aside0 (fmtE s = E ∧ fmtD s = layD (layD s 0 0) 1 0) := by
              have hE1 : layE (layD s 0 0) 1 0 ≠ 0 := by rw [← HE.out]; exact hE0
              exact ⟨by unfold fmtE; rw [if_neg (Int.not_le.2 HP2.out), if_neg (fun h => h HJ0.out.2), if_pos hE1]; exact HE.out.symm, by unfold fmtD; rw [if_neg (Int.not_le.2 HP2.out), if_neg (fun h => h HJ0.out.2), if_pos hE1]⟩
            clear hE0
            go_wp2_with (go_at_call 42; (with_reducible refine hl.mono ?_); rintro e w7 ⟨rfl, hs, ht⟩; have HS7 := Aside0.mk hs; have HT7 := Aside0.mk (HT.out.trans ht); clear hs ht hl)
            go_ret
            rw [HZS.out.1, HZS.out.2]
            exact ⟨by simp, HS7.out, HT7.out⟩
        · exact absurd hlt (by rw [hj0]; decide)
      · have c1 : decide ((j : Int) < 2) = false := decide_eq_false (by omega)
        have c2 : ((j : Int) < 2) = False := eq_false (by omega)
        have c3 : (j < 2) = False := eq_false hlt
        rcases HI.out with ⟨hj0, _⟩ | ⟨hj0, _⟩ | ⟨hj0, hz1, hz2, hF⟩
        · omega
        · omega
        · have hl := HA.out.sync hF
          have HZS : Aside0 (fmtE s = syncE (layD (layD s 0 0) 1 0) ∧ fmtD s = syncD (layD (layD s 0 0) 1 0)) := ⟨by unfold fmtE; rw [if_neg (Int.not_le.2 HP2.out), if_neg (fun h => h hz1), if_neg (fun h => h hz2)], by unfold fmtD; rw [if_neg (Int.not_le.2 HP2.out), if_neg (fun h => h hz1), if_neg (fun h => h hz2)]⟩
          clear hlt hj hj0 hz1 hz2 hF
          go_wp2_with (go_at_call 40; (with_reducible refine hl.mono ?_); rintro e w7 ⟨rfl, hs, ht⟩; have HS7 := Aside0.mk hs; have HT7 := Aside0.mk (HT.out.trans ht); clear hs ht hl)
          go_ret
          rw [HZS.out.1, HZS.out.2]
          exact ⟨by simp, HS7.out, HT7.out⟩
end
end Go.Proofs.Ytmjmichkkmmdcaa.P
end
section
namespace Go.Proofs.Ytmjmichkkmmdcaa.P
open Go.RowKit Go.Proofs.Ytmjmichkkmmdcaa.Pure Go.Proofs.YtmjmichkkmmdcaaW.PrintWords Go.Proofs.YtmjmichkkmmdcaaW.PrintLast Go.Proofs.YtmjmichkkmmdcaaW.PrintMore
set_option linter.unusedVariables false
set_option linter.unusedSimpArgs false
def rdE (s : Dk) (n : Int) : Int := if hasN n s.pages = false then 2 else if lookP s n ≠ 0 then lookP s n else if rightB (hasP s n) = false then 10 else 0
def wrE (s : Dk) (n : Int) (b : List Int) : Int := if hasN n s.pages = false then 2 else if b.length ≠ 508 then 3 else writeE s n (pageB b)
def wrD (s : Dk) (n : Int) (b : List Int) : Dk := if hasN n s.pages = false then s else if b.length ≠ 508 then s else writeD s n (pageB b)
def RdQ (E : Int) (b : List Int) (w : World) (e : Ending) (w' : World) : Prop := Below w.heap.size w w' ∧ ∃ v, e = .returned (.tuple #[v, .int .i64 E]) ∧ ((E ≠ 0 ∧ v = .slice none 0 0) ∨ (E = 0 ∧ ∃ g c, w.heap.size ≤ g ∧ 508 ≤ c ∧ v = .slice (some ⟨g, 0, none⟩) 508 c ∧ Kd.C (Kd.int .u8) w' (some ⟨g, 0, none⟩) 508 (b.take 508)))
section
variable {base d : Nat} {C : Nat} {s : Dk}
set_option maxHeartbeats 2000000 in
set_option maxRecDepth 100000 in
theorem pread_calls (p : Nat) (n : Int) {root gen : Int} {down : Bool} (hdb : DB s) (w : World) (h : DS w base d s C) (hp : PG w p d root gen down) :
    Calls Try.prog 19 #[.pointer (some ⟨p, 0, none⟩), .int .i64 n] w fun e w' => RdQ (rdE s n) (hasP s n) w e w' := by
  have hh := phas_calls (dact_ds base d) p n w h hp
  have HS := Aside0.mk h
  have HP := Aside0.mk hp
  have h5 := h.has_len n
  have hby := hdb.has n
  have H5 := Aside0.mk (And.intro h5 hby)
  clear h hp h5 hby
  unfold rdE
  cases hn : hasN n s.pages with
  | false =>
    rw [hn] at hh
    clear hn
    go_enter Try.func19, Try.ntmps19
    go_wp2_with (go_at_call 39; (with_reducible refine hh.mono ?_); rintro e w1 ⟨rfl, hb⟩; have HB1 := Aside0.mk hb; clear hb hh)
    refine bodyPost_ret (results_tmp2 rfl _ _ _) rfl ?_
    exact ⟨HB1.out, _, by simp, .inl ⟨by simp, rfl⟩⟩
  | true =>
    rw [hn] at hh
    clear hn
    obtain ⟨E, hE⟩ : ∃ E, E = lookP s n := ⟨_, rfl⟩
    have HE := Aside0.mk hE
    obtain ⟨B, hB⟩ : ∃ B, B = hasP s n := ⟨_, rfl⟩
    have HBB := Aside0.mk hB
    rw [← hE, ← hB]
    by_cases hE0 : E = 0
    · have HL : Aside0 (lookP s n = 0) := ⟨by rw [← hE]; exact hE0⟩
      have HB5 : Aside0 (B.length = 512 ∧ BY B) := ⟨by rw [hB]; exact H5.out⟩
      subst hE0
      clear hE hB HE
      have hrg : ∀ W g, W.heap[g]? = some (.cells (bvs B).toArray 91 (0, 0)) → Calls Try.prog 49 #[.slice (some ⟨g, 0, none⟩) 512 512] W fun e w' => e = .returned (.bool (rightB B)) ∧ Below W.heap.size W w' := fun W g hg => by
        have hCb := c_bytes hg (by rw [HB5.out.1]; decide)
        rw [HB5.out.1] at hCb
        exact right_calls W hCb HB5.out.1 (Nat.le_refl _) HB5.out.2
      have HRG := Aside0.mk hrg
      clear hrg
      cases hr : rightB B with
      | false =>
        rw [hr] at HRG
        clear hr
        have HFN : Aside0 ((if true = false then (2 : Int) else if (0 : Int) ≠ 0 then 0 else if false = false then 10 else 0) = 10) := ⟨by decide⟩
        go_enter Try.func19, Try.ntmps19
        go_upto_region 3 with (go_at_call 39; (with_reducible refine hh.mono ?_); rintro e w1 ⟨rfl, hb⟩; have HB1 := Aside0.mk hb; have c0 : w1.cell? ⟨p, 0, none⟩ = some (.pointer (some ⟨d, 0, none⟩)) := (blk_cell (HP.out.step hb) 0).trans rfl; clear hb hh)
        go_wp2_with (first
          | (go_at_call 17; (with_reducible refine (ds_read n _ (HS.out.step HB1.out)).mono ?_); rw [HL.out, ← HBB.out]; rintro e w3 ⟨v, rfl, hb, ⟨hn, _⟩ | ⟨_, g, hg, rfl, hc⟩⟩; (first | exact absurd rfl hn | skip); have HC3 := Aside0.mk hc; have HB3 := Aside0.mk (below_step HB1.out hb); clear hb hg hc)
          | (go_at_call 49; (with_reducible refine (HRG.out _ _ HC3.out).mono ?_); rintro e w4 ⟨rfl, hb⟩; have HB4 := Aside0.mk (below_step HB3.out hb); clear hb))
        refine bodyPost_ret (results_tmp2 rfl _ _ _) rfl ?_
        exact ⟨HB4.out, _, by simp, .inl ⟨by simp, rfl⟩⟩
      | true =>
        rw [hr] at HRG
        clear hr
        go_enter Try.func19, Try.ntmps19
        go_upto_region 3 with (go_at_call 39; (with_reducible refine hh.mono ?_); rintro e w1 ⟨rfl, hb⟩; have HB1 := Aside0.mk hb; have c0 : w1.cell? ⟨p, 0, none⟩ = some (.pointer (some ⟨d, 0, none⟩)) := (blk_cell (HP.out.step hb) 0).trans rfl; clear hb hh)
        go_wp2_with (first
          | (go_at_call 17; (with_reducible refine (ds_read n _ (HS.out.step HB1.out)).mono ?_); rw [HL.out, ← HBB.out]; rintro e w3 ⟨v, rfl, hb, ⟨hn, _⟩ | ⟨_, g, hg, rfl, hc⟩⟩; (first | exact absurd rfl hn | skip); have HC3 := Aside0.mk hc; have HG3 := Aside0.mk hg; have HB3 := Aside0.mk (below_step HB1.out hb); clear hb hg hc)
          | (go_at_call 49; (with_reducible refine (HRG.out _ _ HC3.out).mono ?_); rintro e w4 ⟨rfl, hb⟩; have HC4 := Aside0.mk (blk_below HC3.out hb); have HB4 := Aside0.mk (below_step HB3.out hb); clear hb))
        refine bodyPost_ret (results_tmp2 rfl _ _ _) rfl ?_
        have hCb := c_bytes HC4.out (by rw [HB5.out.1]; decide)
        rw [HB5.out.1] at hCb
        exact ⟨HB4.out, _, by simp, .inr ⟨by simp, _, 512, Nat.le_trans (below_size HB1.out) HG3.out, by decide, rfl, C_take508 hCb HB5.out.1⟩⟩
    · have HL : Aside0 (lookP s n ≠ 0) := ⟨by rw [← hE]; exact hE0⟩
      have e0 : (E == 0) = false := beq_eq_false_iff_ne.mpr hE0
      have e1 : (E != 0) = true := bne_iff_ne.mpr hE0
      have e2 : decide (E = 0) = false := decide_eq_false hE0
      have e3 : (E = 0) = False := eq_false hE0
      have HE0 := Aside0.mk hE0
      clear hE hB hE0
      go_enter Try.func19, Try.ntmps19
      go_upto_region 3 with (go_at_call 39; (with_reducible refine hh.mono ?_); rintro e w1 ⟨rfl, hb⟩; have HB1 := Aside0.mk hb; have c0 : w1.cell? ⟨p, 0, none⟩ = some (.pointer (some ⟨d, 0, none⟩)) := (blk_cell (HP.out.step hb) 0).trans rfl; clear hb hh)
      go_wp2_with (go_at_call 17; (with_reducible refine (ds_read n _ (HS.out.step HB1.out)).mono ?_); rintro e w3 ⟨v, rfl, hb, hq⟩; obtain rfl : v = .slice none 0 0 := (by rcases hq with ⟨_, e⟩ | ⟨hn, _⟩; exact e; exact absurd hn HL.out); rw [← HE.out]; have HB3 := Aside0.mk (below_step HB1.out hb); clear hb hq)
      refine bodyPost_ret (results_tmp2 rfl _ _ _) rfl ?_
      exact ⟨HB3.out, _, by simp [e3], .inl ⟨by simp [e3], rfl⟩⟩
set_option maxHeartbeats 2000000 in
set_option maxRecDepth 100000 in
theorem pwrite_calls (p : Nat) (n : Int) (A : Option Addr) (c : Nat) (b : List Int) {root gen : Int} {down : Bool} (w : World) (h : DS w base d s C) (hC : C < 1073741824) (hp : PG w p d root gen down) (hR : Kd.C (Kd.int .u8) w A b.length b) (hc : b.length ≤ c) (hby : BY b) :
    Calls Try.prog 16 #[.pointer (some ⟨p, 0, none⟩), .int .i64 n, .slice A b.length c] w fun e w' => e = .returned (.int .i64 (wrE s n b)) ∧ DS w' base d (wrD s n b) (C + 1) ∧ TF base w w' := by
  have hh := phas_calls (dact_ds base d) p n w h hp
  have HS := Aside0.mk h
  have HC := Aside0.mk hC
  have HP := Aside0.mk hp
  have HR := Aside0.mk hR
  have HBY := Aside0.mk (And.intro hby hc)
  have HBD := Aside0.mk h.base_le
  obtain ⟨L, hL⟩ : ∃ L, L = b.length := ⟨_, rfl⟩
  have HLL := Aside0.mk hL
  unfold wrE wrD
  rw [← hL]
  clear h hp hC hR hc hby hL
  cases hn : hasN n s.pages with
  | false =>
    rw [hn] at hh
    clear hn
    go_enter Try.func16, Try.ntmps16
    go_wp2_with (go_at_call 39; (with_reducible refine hh.mono ?_); rintro e w1 ⟨rfl, hb⟩; have HB1 := Aside0.mk hb; clear hb hh)
    go_ret
    exact ⟨by simp, (HS.out.step HB1.out).more (Nat.le_succ C), TF.of_below HB1.out HBD.out⟩
  | true =>
    rw [hn] at hh
    clear hn
    by_cases h5 : L = 508
    · subst h5
      have hse : ∀ W, Below w.heap.size w W → Calls Try.prog 45 #[.slice A 508 c] W fun e w' => ∃ v', e = .returned v' ∧ Kd.R (Kd.int .u8) 5 w' W.heap.size (fun _ => True) v' (pageB b) ∧ Below W.heap.size W w' := fun W hW => by
        have := sealed_calls (c := c) W (Kd.C_below HR.out hW) HBY.out.2 HBY.out.1 (by rw [← HLL.out]; decide) (by rw [← HLL.out]; decide)
        rw [← HLL.out] at this
        exact this
      have HSE := Aside0.mk hse
      clear hse
      go_enter Try.func16, Try.ntmps16
      go_upto_region 5 with (go_at_call 39; (with_reducible refine hh.mono ?_); rintro e w1 ⟨rfl, hb⟩; have HB1 := Aside0.mk hb; have HP1 := Aside0.mk (HP.out.step hb); clear hb hh)
      have HPd := Aside0.mk (HP1.out.step (below_drew1 (Below.refl _ _)))
      have HBd := Aside0.mk (below_step HB1.out (below_drew1 (Below.refl _ _)))
      refine start_ (n := 9) (S := fun w' => w'.cell? ⟨p, 0, none⟩ = some (.pointer (some ⟨d, 0, none⟩))) (ds := [7]) #[false, false, false, false, false, false, false, false, false] (by kernel_rfl) rfl rfl ((blk_cell HPd.out 0).trans rfl) (fun hHeld => ?_)
      refine pure_ (i := 0) (N := some 14) (v := ?_) (a' := ?_) #[true, false, false, false, false, false, false, false, false] rfl rfl (by kernel_rfl) (fun _ _ _ h => h) (Or.inl ⟨by rfl, ?_⟩) ?_ ?_
      rotate_left
      · intro w'
        go_simp
        with_reducible rfl
      rotate_left
      · simp only [Act.put, List.setIfInBounds_toArray, List.set_cons_zero, List.set_cons_succ, i64_w, i32_w]
        rfl
      refine pure_ (i := 1) (N := some 15) (v := ?_) (a' := ?_) #[true, true, false, false, false, false, false, false, false] rfl rfl (by kernel_rfl) (fun _ _ _ h => h) (Or.inl ⟨by rfl, ?_⟩) ?_ ?_
      rotate_left
      · intro w'
        go_simp
        with_reducible rfl
      rotate_left
      · simp only [Act.put, List.setIfInBounds_toArray, List.set_cons_zero, List.set_cons_succ, i64_w, i32_w]
        rfl
      refine pure_ (i := 2) (N := some 16) (v := ?_) (a' := ?_) #[true, true, true, false, false, false, false, false, false] rfl rfl (by kernel_rfl) (fun _ _ _ h => h) (Or.inl ⟨by rfl, ?_⟩) ?_ ?_
      rotate_left
      · intro w'
        go_simp
        with_reducible rfl
      rotate_left
      · simp only [Act.put, List.setIfInBounds_toArray, List.set_cons_zero, List.set_cons_succ, i64_w, i32_w]
        rfl
      refine pure_ (i := 4) (N := some 18) (v := ?_) (a' := ?_) #[true, true, true, false, true, false, false, false, false] rfl rfl (by kernel_rfl) (fun _ _ _ h => h) (Or.inl ⟨by rfl, ?_⟩) ?_ ?_
      rotate_left
      · intro w'
        go_simp
        with_reducible rfl
      rotate_left
      · simp only [Act.put, List.setIfInBounds_toArray, List.set_cons_zero, List.set_cons_succ, i64_w, i32_w]
        rfl
      refine pure_ (i := 5) (N := some 19) (v := ?_) (a' := ?_) #[true, true, true, false, true, true, false, false, false] rfl rfl (by kernel_rfl) (fun _ _ _ h => h) (Or.inl ⟨by rfl, ?_⟩) ?_ ?_
      rotate_left
      · intro w'
        go_simp
        with_reducible rfl
      rotate_left
      · simp only [Act.put, List.setIfInBounds_toArray, List.set_cons_zero, List.set_cons_succ, i64_w, i32_w]
        rfl
      refine take_ (i := 3) (N := some 17) (v := ?_) (a' := ?_) #[true, true, true, true, true, true, false, false, false] rfl rfl (by kernel_rfl) (fun _ _ _ h => h) (Or.inl ⟨by rfl, ?_⟩) hHeld ?_ ?_
      rotate_left
      · intro w' s0
        go_simp
        with_reducible rfl
      rotate_left
      · simp only [Act.put, List.setIfInBounds_toArray, List.set_cons_zero, List.set_cons_succ, i64_w, i32_w]
        rfl
      refine one_ (i := 6) (N := some 20) #[true, true, true, true, true, true, true, false, false] rfl rfl (by kernel_rfl) (by decide) (fun K hK => ?_)
      refine goes_ Try.func45 (by kernel_rfl) rfl #[.slice A 508 c] (by rfl) rfl rfl (by simp only [List.map_toArray, List.map_cons, List.map_nil]; rfl) ?_
      with_reducible refine (HSE.out _ HBd.out).mono ?_
      rintro e w2 ⟨v2, rfl, ho, hb⟩
      refine ⟨_, rfl, ?_⟩
      have HO2 := Aside0.mk ho
      have HB2 := Aside0.mk (below_step HBd.out hb)
      have HP2 := Aside0.mk (HPd.out.step hb)
      clear hb ho
      refine hK.out _ _ ((blk_cell HP2.out 0).trans rfl) (fun hHeld => ?_)
      clear hK K
      refine norm_ (a' := ?_) ?_ ?_
      rotate_left
      · show Act.put _ (some 20) _ = _
        simp only [Act.put, List.setIfInBounds_toArray, List.set_cons_zero, List.set_cons_succ, i64_w, i32_w]
        rfl
      refine last_ (i := 7) (N := some 21) #[true, true, true, true, true, true, true, true, false] rfl rfl (by kernel_rfl) (by decide) (fun K hK => ?_)
      refine goes_ Try.func18 (by kernel_rfl) rfl #[.pointer (some ⟨d, 0, none⟩), .int .i64 n, v2] (by rfl) rfl rfl (by simp only [List.map_toArray, List.map_cons, List.map_nil]; rfl) ?_
      with_reducible refine (ds_write n v2 (pageB b) _ (HS.out.step HB2.out) HC.out HO2.out).mono ?_
      rintro e w3 ⟨rfl, hs, ht⟩
      refine ⟨_, rfl, ?_⟩
      have HF := Aside0.mk (And.intro hs ht)
      clear hs ht hHeld
      refine hK.out _ _ ?_
      clear hK K
      refine norm_ (a' := ?_) ?_ ?_
      rotate_left
      · show Act.put _ (some 21) _ = _
        simp only [Act.put, List.setIfInBounds_toArray, List.set_cons_zero, List.set_cons_succ, i64_w, i32_w]
        rfl
      refine pure_ (i := 8) (N := some 6) (v := ?_) (a' := ?_) #[true, true, true, true, true, true, true, true, true] rfl rfl (by kernel_rfl) (fun _ _ _ h => h) (Or.inl ⟨by rfl, ?_⟩) ?_ ?_
      rotate_left
      · intro w'
        go_simp
        with_reducible rfl
      rotate_left
      · simp only [Act.put, List.setIfInBounds_toArray, List.set_cons_zero, List.set_cons_succ, i64_w, i32_w]
        rfl
      refine done_ (by kernel_rfl) ?_
      go_wp2
      go_ret
      exact ⟨by simp, by simpa using HF.out.1, (TF.of_below HB2.out HBD.out).trans HF.out.2⟩
    · have h5i : ¬ (L : Int) = 508 := by omega
      have e0 : ((L : Int) == 508) = false := beq_eq_false_iff_ne.mpr h5i
      have e1 : ((L : Int) != 508) = true := bne_iff_ne.mpr h5i
      have e2 : decide ((L : Int) = 508) = false := decide_eq_false h5i
      have e3 : (L = 508) = False := eq_false h5
      have e4 : ((L : Int) = 508) = False := eq_false h5i
      have e5 : (L == 508) = false := beq_eq_false_iff_ne.mpr h5
      clear h5 h5i
      go_enter Try.func16, Try.ntmps16
      go_wp2_with (go_at_call 39; (with_reducible refine hh.mono ?_); rintro e w1 ⟨rfl, hb⟩; have HB1 := Aside0.mk hb; clear hb hh)
      go_ret
      exact ⟨by simp [e3], by simpa [e3] using (HS.out.step HB1.out).more (Nat.le_succ C), TF.of_below HB1.out HBD.out⟩
end
end Go.Proofs.Ytmjmichkkmmdcaa.P
end
section
namespace Go.Proofs.Ytmjmichkkmmdcaa.P
open Go.RowKit Go.Proofs.Ytmjmichkkmmdcaa.Pure Go.Proofs.YtmjmichkkmmdcaaW.PrintWords Go.Proofs.YtmjmichkkmmdcaaW.PrintLast Go.Proofs.YtmjmichkkmmdcaaW.PrintMore
set_option linter.unusedVariables false
set_option linter.unusedSimpArgs false
def Hy (s : Dk) : Prop := s.down = false ∧ s.left = -1
theorem hasP_cons {s t : Dk} {q : Int} {b : List Int} (h1 : t.last = s.last) (h2 : t.cache = s.cache ++ [(q, b)]) (n : Int) : hasP t n = if n = q then b else hasP s n := by
  unfold hasP
  rw [h1, h2, List.reverse_append]
  simp only [List.reverse_cons, List.reverse_nil, List.nil_append, List.singleton_append, List.find?_cons]
  by_cases e : n = q
  · rw [if_pos e, e]
    simp
  · rw [if_neg e]
    have : decide (q = n) = false := decide_eq_false (fun h => e h.symm)
    simp only [this]
theorem Hy.step {s : Dk} (h : Hy s) : stepS s = s := stepS_free h.2
theorem hy_write {s : Dk} (h : Hy s) {q : Int} {b : List Int} (h0 : 0 ≤ q) (h1 : q < s.pages) (hb : b.length = 512) : writeE s q b = 0 ∧ Hy (writeD s q b) ∧ ∀ n, hasP (writeD s q b) n = if n = q then b else hasP s n := by
  have hl : s.left ≠ 0 := by rw [h.2]; decide
  refine ⟨writeE_ok h.1 h0 h1 hb hl, ?_, ?_⟩
  · rw [writeD_ok h.1 h0 h1 hb hl]
    unfold writeS
    rw [h.step]
    exact h
  · rw [writeD_ok h.1 h0 h1 hb hl]
    refine hasP_cons ?_ rfl
    unfold writeS
    rw [h.step]
theorem hy_sync {s : Dk} (h : Hy s) : syncE s = 0 ∧ Hy (syncD s) ∧ ∀ n, hasP (syncD s) n = hasP s n := by
  have hd : ¬ s.down = true := by rw [h.1]; decide
  have hl : ¬ s.left = 0 := by rw [h.2]; decide
  have e : syncD s = syncS s := by unfold syncD; rw [if_neg hd, if_neg hl]
  refine ⟨by unfold syncE; rw [if_neg hd, if_neg hl], ?_, fun n => ?_⟩
  · rw [e]
    unfold syncS
    rw [h.step]
    exact h
  · rw [e, hasP_last (fun x hx => by simp [syncS] at hx), hasP_last_all s n]
    rfl
theorem layD_pages (s : Dk) (g r : Int) : (layD s g r).pages = s.pages := write_pages _ _ _
theorem gen_slot (g : Int) (h : 0 ≤ g) : 0 ≤ g % 2 ∧ g % 2 < 2 := ⟨Int.emod_nonneg _ (by decide), Int.emod_lt_of_pos _ (by decide)⟩
theorem hy_lay {s : Dk} (h : Hy s) (hp : 3 ≤ s.pages) {g r : Int} (hg : 0 ≤ g) : layE s g r = 0 ∧ Hy (layD s g r) ∧ ∀ n, hasP (layD s g r) n = if n = g % 2 then hpg g r else hasP s n := by
  have := gen_slot g hg
  exact hy_write h this.1 (by omega) (hpg_len g r)
theorem stpD_pages (s : Dk) (g r : Int) : (stpD s g r).pages = s.pages := by
  unfold stpD
  split
  · exact sync_pages s
  · split
    · rw [layD_pages, sync_pages]
    · rw [sync_pages, layD_pages, sync_pages]
theorem hy_stp {s : Dk} (h : Hy s) (hp : 3 ≤ s.pages) {g r : Int} (hg : 0 ≤ g) : stpE s g r = 0 ∧ Hy (stpD s g r) ∧ ∀ n, hasP (stpD s g r) n = if n = g % 2 then hpg g r else hasP s n := by
  have h1 := hy_sync h
  have h2 := hy_lay h1.2.1 (by rw [sync_pages]; exact hp) (r := r) hg
  have h3 := hy_sync h2.2.1
  refine ⟨?_, ?_, fun n => ?_⟩
  · unfold stpE
    rw [if_neg (fun x => x h1.1), if_neg (fun x => x h2.1)]
    exact h3.1
  · unfold stpD
    rw [if_neg (fun x => x h1.1), if_neg (fun x => x h2.1)]
    exact h3.2.1
  · unfold stpD
    rw [if_neg (fun x => x h1.1), if_neg (fun x => x h2.1), h3.2.2, h2.2.2, h1.2.2]
theorem fmtD_pages (s : Dk) : (fmtD s).pages = s.pages := by
  unfold fmtD
  split
  · rfl
  · split
    · exact layD_pages _ _ _
    · split
      · rw [layD_pages, layD_pages]
      · rw [sync_pages, layD_pages, layD_pages]
theorem hy_fmt {s : Dk} (h : Hy s) (hp : 3 ≤ s.pages) : fmtE s = 0 ∧ Hy (fmtD s) ∧ ∀ n, hasP (fmtD s) n = if n = 1 then hpg 1 0 else if n = 0 then hpg 0 0 else hasP s n := by
  have h1 := hy_lay h hp (g := 0) (r := 0) (by decide)
  have h2 := hy_lay h1.2.1 (by rw [layD_pages]; exact hp) (g := 1) (r := 0) (by decide)
  have h3 := hy_sync h2.2.1
  have hpp : ¬ s.pages ≤ 2 := by omega
  refine ⟨?_, ?_, fun n => ?_⟩
  · unfold fmtE
    rw [if_neg hpp, if_neg (fun x => x h1.1), if_neg (fun x => x h2.1)]
    exact h3.1
  · unfold fmtD
    rw [if_neg hpp, if_neg (fun x => x h1.1), if_neg (fun x => x h2.1)]
    exact h3.2.1
  · unfold fmtD
    rw [if_neg hpp, if_neg (fun x => x h1.1), if_neg (fun x => x h2.1), h3.2.2, h2.2.2, h1.2.2]
    rfl
theorem DB.write {s : Dk} (h : DB s) (q : Int) {b : List Int} (hb : BY b) : DB (writeD s q b) := by
  rcases write_way (s := s) (q := q) (b := b) with ⟨_, e1, e2⟩ | ⟨_, e1, e2⟩
  · refine ⟨by rw [e1]; exact h.1, fun x hx => ?_⟩
    rw [e2] at hx
    rcases List.mem_append.1 hx with hx | hx
    · exact h.2 x hx
    · rw [List.mem_singleton.1 hx]; exact hb
  · exact ⟨by rw [e1]; exact h.1, by rw [e2]; exact h.2⟩
theorem lastS_by {s : Dk} (h : DB s) : ∀ k i, BY (lastS s k i) := by
  intro k
  induction k with
  | zero => intro i; simpa [lastS] using h.1 i
  | succ k ih =>
    intro i
    by_cases hk : k < s.cache.length
    · rw [lastS_succ hk]
      unfold upd
      split
      · exact h.2 _ (List.getElem_mem hk)
      · exact ih i
    · have e : lastS s (k + 1) = lastS s k := by
        unfold lastS
        rw [List.take_of_length_le (by omega), List.take_of_length_le (by omega)]
      rw [e]
      exact ih i
theorem DB.sync {s : Dk} (h : DB s) : DB (syncD s) := by
  unfold syncD
  split
  · exact h
  · split
    · exact ⟨by rw [stepS_last]; exact h.1, by rw [stepS_cache]; exact h.2⟩
    · exact ⟨fun i => lastS_by h _ i, fun x hx => by simp [syncS] at hx⟩
theorem DB.lay {s : Dk} (h : DB s) (g r : Int) : DB (layD s g r) := h.write _ (hpg_by g r)
theorem DB.stp {s : Dk} (h : DB s) (g r : Int) : DB (stpD s g r) := by
  unfold stpD
  split
  · exact h.sync
  · split
    · exact h.sync.lay g r
    · exact (h.sync.lay g r).sync
theorem DB.fmt {s : Dk} (h : DB s) : DB (fmtD s) := by
  unfold fmtD
  split
  · exact h
  · split
    · exact h.lay 0 0
    · split
      · exact (h.lay 0 0).lay 1 0
      · exact ((h.lay 0 0).lay 1 0).sync
theorem pgZ_by : BY pgZ := BY.rep 512
theorem DB.new (p : Int) : DB (newS p) := ⟨fun _ => pgZ_by, fun x hx => by simp [newS] at hx⟩
theorem hpg_take (g r : Int) : (hpg g r).take 16 = recL g r := by
  unfold hpg pageB headL
  rw [List.append_assoc, List.append_assoc, List.take_append_of_le_length (by rw [recL_len]; decide), List.take_of_length_le (by rw [recL_len]; decide)]
theorem genP_hpg (g r : Int) (g0 : 0 ≤ g) (g1 : g < 18446744073709551616) : genP (hpg g r) = g := by
  unfold genP
  have e : (hpg g r).take 12 = (recL g r).take 12 := by rw [← hpg_take, List.take_take]; rfl
  have e2 : ((recL g r).take 12).drop 4 = le g 8 := by
    unfold recL
    rw [List.append_assoc, List.take_append, List.drop_append]
    have h4 : (([81, 82, 89, 49] : List Int)).length = 4 := rfl
    rw [List.take_of_length_le (by decide), h4, List.take_append_of_le_length (by rw [le_len]; decide), List.take_of_length_le (by rw [le_len]; decide)]
    simp
  rw [e, e2, val_le g g0, Int.emod_eq_of_lt g0 (by simpa using g1)]
theorem rootP_hpg (g r : Int) (r0 : 0 ≤ r) (r1 : r < 4294967296) : rootP (hpg g r) = r := by
  unfold rootP
  rw [hpg_take]
  have e2 : (recL g r).drop 12 = le r 4 := by
    unfold recL
    have h12 : ([81, 82, 89, 49] ++ le g 8 : List Int).length = 12 := by rw [List.length_append, le_len]; rfl
    rw [List.drop_append, h12, List.drop_of_length_le (by rw [h12]; decide)]
    rfl
  rw [e2, val_le r r0, Int.emod_eq_of_lt r0 (by simpa using r1)]
theorem headP_hpg (g r slot pages : Int) (g0 : 0 ≤ g) (g1 : g ≤ 4611686018427387904) (r0 : 0 ≤ r) (hr : r ≠ 1) (hp : r < pages) (hp4 : pages ≤ 4096) (hs : g % 2 = slot) : headP (hpg g r) slot pages = some (g, r) := by
  have e1 := genP_hpg g r g0 (by omega)
  have e2 := rootP_hpg g r r0 (by omega)
  unfold headP
  rw [if_pos, e1, e2]
  unfold headOK
  rw [e1, e2]
  exact ⟨g1, hr, hp, hs, rfl⟩
theorem opn_two {s : Dk} (hd : s.down = false) (hp3 : 3 ≤ s.pages) (hp4 : s.pages ≤ 4096) {g r g2 r2 : Int} (g0 : 0 ≤ g2) (hlt : g2 < g) (g1 : g ≤ 4611686018427387904) (hpar : g2 % 2 ≠ g % 2) (r0 : 0 ≤ r) (hr : r ≠ 1) (hrp : r < s.pages) (q0 : 0 ≤ r2) (hq : r2 ≠ 1) (hqp : r2 < s.pages)
    (h1 : hasP s (g % 2) = hpg g r) (h2 : hasP s (g2 % 2) = hpg g2 r2) : opnE s = 0 ∧ opnP s = some (g, r) := by
  have k1 := headP_hpg g r (g % 2) s.pages (by omega) g1 r0 hr hrp hp4 rfl
  have k2 := headP_hpg g2 r2 (g2 % 2) s.pages g0 (by omega) q0 hq hqp hp4 rfl
  have key : opnP s = some (g, r) := by
    show updB (updB none (headP (hasP s ((0 : Nat) : Int)) ((0 : Nat) : Int) s.pages)) (headP (hasP s ((1 : Nat) : Int)) ((1 : Nat) : Int) s.pages) = _
    rcases (show g % 2 = 0 ∨ g % 2 = 1 by omega) with e | e
    · have e2 : g2 % 2 = 1 := by omega
      rw [e] at h1 k1
      rw [e2] at h2 k2
      have a1 : hasP s ((0 : Nat) : Int) = hpg g r := h1
      have a2 : hasP s ((1 : Nat) : Int) = hpg g2 r2 := h2
      rw [a1, a2]
      have b1 : headP (hpg g r) ((0 : Nat) : Int) s.pages = some (g, r) := k1
      have b2 : headP (hpg g2 r2) ((1 : Nat) : Int) s.pages = some (g2, r2) := k2
      rw [b1, b2]
      show (if g < g2 then _ else _) = _
      rw [if_neg (by omega)]
    · have e2 : g2 % 2 = 0 := by omega
      rw [e] at h1 k1
      rw [e2] at h2 k2
      have a1 : hasP s ((1 : Nat) : Int) = hpg g r := h1
      have a2 : hasP s ((0 : Nat) : Int) = hpg g2 r2 := h2
      rw [a1, a2]
      have b1 : headP (hpg g r) ((1 : Nat) : Int) s.pages = some (g, r) := k1
      have b2 : headP (hpg g2 r2) ((0 : Nat) : Int) s.pages = some (g2, r2) := k2
      rw [b1, b2]
      show (if g2 < g then _ else _) = _
      rw [if_pos hlt]
  refine ⟨?_, key⟩
  unfold opnE
  rw [if_neg (by omega), if_neg (by rw [hd]; decide), key]
  rfl
end Go.Proofs.Ytmjmichkkmmdcaa.P
end
section
namespace Go.Proofs.Ytmjmichkkmmdcaa.P
open Go.RowKit Go.Proofs.Ytmjmichkkmmdcaa.Pure Go.Proofs.YtmjmichkkmmdcaaW.PrintWords Go.Proofs.YtmjmichkkmmdcaaW.PrintLast Go.Proofs.YtmjmichkkmmdcaaW.PrintMore
attribute [local go_sem] guard_ptr
set_option linter.unusedVariables false
set_option linter.unusedSimpArgs false
theorem u28p : Try.prog.underlying 28 = some (.pointer (Try.prog.pointee 28)) := by kernel_rfl
theorem u29p : Try.prog.underlying 29 = some (.pointer (Try.prog.pointee 29)) := by kernel_rfl
theorem eqp28 (p : Option Addr) (w : World) : (binOp .eql 28 (.pointer p) (.pointer none)).run Try.prog w = .ok (.bool p.isNone) w := run_eql_pointer_nil w 28 p u28p
theorem eqp29 (p : Option Addr) (w : World) : (binOp .eql 29 (.pointer p) (.pointer none)).run Try.prog w = .ok (.bool p.isNone) w := run_eql_pointer_nil w 29 p u29p
attribute [local go_sem] eqp28 eqp29
def frS (m : Nat) : Dk := fmtD (newS (m : Int))
theorem newS_hy (m : Int) : Hy (newS m) := ⟨rfl, rfl⟩
theorem frS_pages (m : Nat) : (frS m).pages = (m : Int) := fmtD_pages _
theorem frS_hy (m : Nat) (h3 : 3 ≤ m) : fmtE (newS (m : Int)) = 0 ∧ Hy (frS m) ∧ ∀ n, hasP (frS m) n = if n = 1 then hpg 1 0 else if n = 0 then hpg 0 0 else pgZ := hy_fmt (newS_hy _) (by show (3 : Int) ≤ (m : Int); omega)
theorem frS_opn (m : Nat) (h3 : 3 ≤ m) (h4 : m ≤ 4096) : opnE (frS m) = 0 ∧ opnP (frS m) = some (1, 0) := by
  have h := frS_hy m h3
  have hp := frS_pages m
  exact opn_two h.2.1.1 (by omega) (by omega) (g := 1) (r := 0) (g2 := 0) (r2 := 0) (by decide) (by decide) (by decide) (by decide) (by decide) (by decide) (by omega) (by decide) (by decide) (by omega) (by rw [h.2.2]; rfl) (by rw [h.2.2]; rfl)
set_option maxHeartbeats 2000000 in
set_option maxRecDepth 100000 in
theorem fresh_calls (m : Nat) (mz : Int) (hmz : mz = (m : Int)) (h3 : 3 ≤ m) (h4 : m ≤ 4096) (w : World) :
    Calls Try.prog 12 #[.int .i64 mz] w fun e w' => ∃ d p, e = .returned (.tuple #[.pointer (some ⟨d, 0, none⟩), .pointer (some ⟨p, 0, none⟩)]) ∧ DS w' w.heap.size d (frS m) 2 ∧ PG w' p d 0 1 false ∧ w.heap.size ≤ p ∧ Below w.heap.size w w' := by
  subst hmz
  have hn := ds_new (m : Int) (by omega) (by omega) w
  have hF := frS_hy m h3
  have hO := frS_opn m h3 h4
  have HOE := Aside0.mk hO
  have HFE := Aside0.mk hF.1
  have HM := Aside0.mk h4
  have HDB : Aside0 (DB (frS m)) := ⟨(DB.new _).fmt⟩
  clear hF hO h3 h4
  go_enter Try.func12, Try.ntmps12
  go_upto_region 2 with (go_at_call 30; (with_reducible refine hn.mono ?_); rintro e w1 ⟨d, rfl, hd, hb⟩; have HD1 := Aside0.mk hd; have HB1 := Aside0.mk hb; clear hd hb hn)
  go_upto_region 4 with (go_at_call 33; (with_reducible refine (format_calls (dact_ds w.heap.size d) _ HD1.out (by decide)).mono ?_); rw [HFE.out]; rintro e w2 ⟨rfl, hs, ht⟩; have HD2 : Aside0 (DS w2 w.heap.size d (frS m) 2) := ⟨hs⟩; have HB2 := Aside0.mk (HB1.out.trans ht.b); have HZ1 := Aside0.mk (below_size HB2.out); clear hs ht)
  have hop := open_calls m (frS_pages m) HM.out HDB.out w2 HD2.out
  clear HM
  go_wp2_with (go_at_call 15; (with_reducible refine hop.mono ?_); rintro e w3 ⟨hb, po, rfl, _, hpo⟩; rw [HOE.out.1]; obtain ⟨p, rfl, hp, hpg⟩ := hpo _ HOE.out.1 HOE.out.2; have HP3 := Aside0.mk hpg; have HD3 := Aside0.mk (HD2.out.step hb); have HPZ := Aside0.mk (Nat.le_trans HZ1.out hp); have HB3 := Aside0.mk (below_step HB2.out hb); clear hb hpo hp hpg hop)
  refine bodyPost_ret (results_tmp2 rfl _ _ _) rfl ?_
  exact ⟨d, p, by simp, HD3.out, HP3.out, HPZ.out, HB3.out⟩
end Go.Proofs.Ytmjmichkkmmdcaa.P
end
section
namespace Go.Proofs.Ytmjmichkkmmdcaa.P
open Go.RowKit Go.Proofs.Ytmjmichkkmmdcaa.Pure Go.Proofs.YtmjmichkkmmdcaaW.PrintWords Go.Proofs.YtmjmichkkmmdcaaW.PrintLast Go.Proofs.YtmjmichkkmmdcaaW.PrintMore
attribute [local go_sem] guard_ptr eqp28 eqp29
set_option linter.unusedVariables false
set_option linter.unusedSimpArgs false
def loadB (b : List Int) : List Int := b.take (min b.length 508) ++ (List.replicate 508 (0 : Int)).drop (min b.length 508)
theorem loadB_len (b : List Int) : (loadB b).length = 508 := by
  unfold loadB
  rw [List.length_append, List.length_take, List.length_drop, List.length_replicate]
  omega
theorem loadB_by {b : List Int} (h : BY b) : BY (loadB b) := (h.take _).append ((BY.rep 508).drop _)
set_option maxHeartbeats 2000000 in
set_option maxRecDepth 100000 in
theorem load_calls (kd n : Int) (A : Option Addr) (c : Nat) (b : List Int) (K : Option Addr) (kl kc : Nat) (torn cut : Int) (w : World) (hC : Kd.C (Kd.int .u8) w A b.length b) :
    Calls Try.prog 26 #[.agg #[.int .i64 kd, .int .i64 n, .slice A b.length c, .slice K kl kc, .int .i64 torn, .int .i64 cut]] w fun e w' => ∃ g c', e = .returned (.slice (some ⟨g, 0, none⟩) 508 c') ∧ w.heap.size ≤ g ∧ Kd.R (Kd.int .u8) 5 w' w.heap.size (fun _ => True) (.slice (some ⟨g, 0, none⟩) 508 c') (loadB b) ∧ Below w.heap.size w w' := by
  have HC := Aside0.mk hC
  have hB0 : Below w.heap.size w (w.alloc (.cells #[.int .i64 kd, .int .i64 n, .slice A b.length c, .slice K kl kc, .int .i64 torn, .int .i64 cut] 50)) := below_alloc (Below.refl _ _) _
  have HB0 := Aside0.mk hB0
  have hbk := Deep.blk_alloc_new w (.cells #[.int .i64 kd, .int .i64 n, .slice A b.length c, .slice K kl kc, .int .i64 torn, .int .i64 cut] 50)
  have HBK := Aside0.mk hbk
  obtain ⟨L, hL⟩ : ∃ L, L = b.length := ⟨_, rfl⟩
  have HLL := Aside0.mk hL
  rw [← hL]
  rw [← hL] at HBK HB0
  clear hC hB0 hbk hL
  go_enter Try.func26, Try.ntmps26
  go_upto_region 2 with ((with_reducible refine gate_dst (N := 4) rfl ?_); refine Kd.R_make (Kd.int .u8) (w0 := w) w.heap.size 5 rfl (N := 4) rfl 22 _ _ rfl 508 rfl rfl Try.underlying22 (.int .u8 0) 1 info5 rfl (by decide) (by decide) 0 (ok := fun _ => True) (okp := fun _ => False) rfl (fun _ h => h.elim) trivial (by decide) (by decide) HB0.out (below_size HB0.out) ?_; intro v6 w6 ho hb hg hn; obtain ⟨g6, c6, e6, hg6, _, _⟩ := Kd.R_form ho (by rw [List.length_replicate]; decide); rw [List.length_replicate] at e6; subst e6; have HO6 := Aside0.mk (show Kd.R (Kd.int .u8) 5 w6 w.heap.size (fun _ => True) (.slice (some ⟨g6, 0, none⟩) 508 c6) (List.replicate 508 0) from ho); have HB6 := Aside0.mk hb; have HG6 := Aside0.mk hg6; have HBK6 := Aside0.mk (blk_grown HBK.out hg (by simp)); clear ho hb hg hn hg6)
  have c2 : w6.cell? ⟨w.heap.size, 2, none⟩ = some (.slice A L c) := (blk_cell HBK6.out 2).trans rfl
  go_wp2_with ((with_reducible refine gate_builtin (b := .copy) (xs := #[.tmp 5, .tmp 7]) rfl ?_); (refine Kd.R_copy (enc := Value.int .u8) (h1 := fun _ => rfl) (0 : Int) (w0 := w) w.heap.size rfl (.tmp 5) (.tmp 7) 22 22 5 rfl Try.underlying22 (by kernel_rfl) (.slice (some ⟨g6, 0, none⟩) 508 c6) (List.replicate 508 0) b A L c (fun _ => True) rfl rfl HO6.out (by rw [HLL.out]; exact Kd.C_below HC.out HB6.out) HB6.out (below_size HB6.out) ?_); intro w7 ho hb hg; have HO7 := Aside0.mk ho; have HB7 := Aside0.mk hb; clear ho hb hg)
  go_ret
  refine ⟨_, _, rfl, HG6.out, ?_, HB7.out⟩
  have := HO7.out
  rw [List.length_replicate, HLL.out] at this
  exact this
theorem page_take {l : List Int} (h : l.length = 508) : (pageB l).take 508 = l := by
  unfold pageB
  rw [List.take_append_of_le_length (by omega), List.take_of_length_le (by omega)]
theorem right_page {l : List Int} (h : l.length = 508) : rightB (pageB l) = true := by
  unfold rightB
  rw [page_take h]
  simp
theorem crc_app (x : Int) (a b : List Int) : crc x (a ++ b) = crc (crc x a) b := List.foldl_append ..
theorem zc0 : crc 4294967295 (List.replicate 28 0) = 2140112918 := by decide +kernel
theorem zc1 : crc 2140112918 (List.replicate 32 0) = 4226643703 := by decide +kernel
theorem zc2 : crc 4226643703 (List.replicate 32 0) = 1028315416 := by decide +kernel
theorem zc3 : crc 1028315416 (List.replicate 32 0) = 3928551923 := by decide +kernel
theorem zc4 : crc 3928551923 (List.replicate 32 0) = 2066286931 := by decide +kernel
theorem zc5 : crc 2066286931 (List.replicate 32 0) = 276363249 := by decide +kernel
theorem zc6 : crc 276363249 (List.replicate 32 0) = 2931366198 := by decide +kernel
theorem zc7 : crc 2931366198 (List.replicate 32 0) = 1503438350 := by decide +kernel
theorem zc8 : crc 1503438350 (List.replicate 32 0) = 546296205 := by decide +kernel
theorem zc9 : crc 546296205 (List.replicate 32 0) = 302594043 := by decide +kernel
theorem zc10 : crc 302594043 (List.replicate 32 0) = 400198206 := by decide +kernel
theorem zc11 : crc 400198206 (List.replicate 32 0) = 2496072846 := by decide +kernel
theorem zc12 : crc 2496072846 (List.replicate 32 0) = 2895417462 := by decide +kernel
theorem zc13 : crc 2895417462 (List.replicate 32 0) = 2572384530 := by decide +kernel
theorem zc14 : crc 2572384530 (List.replicate 32 0) = 810772328 := by decide +kernel
theorem zc15 : crc 810772328 (List.replicate 32 0) = 4031025835 := by decide +kernel
theorem crc_step (x y z : Int) (n m k : Nat) (hk : k = n + m) (h1 : crc x (List.replicate n 0) = y) (h2 : crc y (List.replicate m 0) = z) : crc x (List.replicate k 0) = z := by
  rw [hk, ← List.replicate_append_replicate, crc_app, h1, h2]
theorem zd0 : crc 4294967295 (List.replicate 28 0) = 2140112918 := zc0
theorem zd1 : crc 4294967295 (List.replicate 60 0) = 4226643703 := crc_step _ 2140112918 _ 28 32 60 rfl zd0 zc1
theorem zd2 : crc 4294967295 (List.replicate 92 0) = 1028315416 := crc_step _ 4226643703 _ 60 32 92 rfl zd1 zc2
theorem zd3 : crc 4294967295 (List.replicate 124 0) = 3928551923 := crc_step _ 1028315416 _ 92 32 124 rfl zd2 zc3
theorem zd4 : crc 4294967295 (List.replicate 156 0) = 2066286931 := crc_step _ 3928551923 _ 124 32 156 rfl zd3 zc4
theorem zd5 : crc 4294967295 (List.replicate 188 0) = 276363249 := crc_step _ 2066286931 _ 156 32 188 rfl zd4 zc5
theorem zd6 : crc 4294967295 (List.replicate 220 0) = 2931366198 := crc_step _ 276363249 _ 188 32 220 rfl zd5 zc6
theorem zd7 : crc 4294967295 (List.replicate 252 0) = 1503438350 := crc_step _ 2931366198 _ 220 32 252 rfl zd6 zc7
theorem zd8 : crc 4294967295 (List.replicate 284 0) = 546296205 := crc_step _ 1503438350 _ 252 32 284 rfl zd7 zc8
theorem zd9 : crc 4294967295 (List.replicate 316 0) = 302594043 := crc_step _ 546296205 _ 284 32 316 rfl zd8 zc9
theorem zd10 : crc 4294967295 (List.replicate 348 0) = 400198206 := crc_step _ 302594043 _ 316 32 348 rfl zd9 zc10
theorem zd11 : crc 4294967295 (List.replicate 380 0) = 2496072846 := crc_step _ 400198206 _ 348 32 380 rfl zd10 zc11
theorem zd12 : crc 4294967295 (List.replicate 412 0) = 2895417462 := crc_step _ 2496072846 _ 380 32 412 rfl zd11 zc12
theorem zd13 : crc 4294967295 (List.replicate 444 0) = 2572384530 := crc_step _ 2895417462 _ 412 32 444 rfl zd12 zc13
theorem zd14 : crc 4294967295 (List.replicate 476 0) = 810772328 := crc_step _ 2572384530 _ 444 32 476 rfl zd13 zc14
theorem zd15 : crc 4294967295 (List.replicate 508 0) = 4031025835 := crc_step _ 810772328 _ 476 32 508 rfl zd14 zc15
theorem sum_zero : sumB (List.replicate 508 0) ≠ 0 := by
  unfold sumB
  rw [zd15]
  decide +kernel
theorem zero_bad : rightB pgZ = false := by
  have h1 : pgZ.take 508 = List.replicate 508 0 := by unfold pgZ; rw [List.take_replicate]; rfl
  have hz0 : pgZ = List.replicate 508 0 ++ List.replicate 4 0 := by unfold pgZ; rw [List.replicate_append_replicate]
  have h2 := sum_zero
  unfold rightB
  rw [h1]
  obtain ⟨z, hz⟩ : ∃ z, z = List.replicate 508 (0 : Int) := ⟨_, rfl⟩
  have hzl : z.length = 508 := by rw [hz, List.length_replicate]
  rw [← hz] at h2 hz0 ⊢
  rw [hz0]
  clear hz h1 hz0
  refine decide_eq_false (fun h => h2 ?_)
  unfold pageB at h
  have e := List.append_cancel_left h
  have h5 := congrArg val e
  have hr := sumB_range z
  have h4 : (256 : Int) ^ 4 = 4294967296 := by decide
  rw [val_le _ hr.1, h4, Int.emod_eq_of_lt hr.1 hr.2] at h5
  rw [← h5]
  decide
theorem lit1 (W : World) (fr : Nat × Nat) : Kd.C (Kd.int .u8) (W.alloc (.cells #[.int .u8 120] 5 fr)) (some ⟨W.heap.size, 0, none⟩) 1 ([120] : List Int) := by
  refine Kd.C_of_reads (enc := Value.int .u8) (d := (0 : Int)) (h1 := fun _ => rfl) ⟨rfl, by decide, fun _ => ⟨_, rfl, ?_⟩⟩
  intro j hj
  have h : ∀ i : Nat, (W.alloc (.cells #[.int .u8 120] 5 fr)).cell? ⟨W.heap.size, i, none⟩ = (#[.int .u8 120] : Array Value)[i]? := fun i => World.cell?_alloc_mark W _ 5 fr i
  have hj9 : j = 0 := by omega
  subst hj9
  exact (h _).trans rfl
def lx : List Int := loadB [120]
def ws2 : Dk := wrD (frS 5) 2 lx
def ws3 : Dk := stpD ws2 2 2
theorem ws2_ok : wrE (frS 5) 2 lx = 0 ∧ Hy ws2 ∧ ws2.pages = 5 ∧ (∀ n, hasP ws2 n = if n = 2 then pageB lx else hasP (frS 5) n) ∧ DB ws2 := by
  have h := frS_hy 5 (by decide)
  have hp : (frS 5).pages = 5 := frS_pages 5
  have hw := hy_write h.2.1 (q := 2) (b := pageB lx) (by decide) (by rw [hp]; decide) (by rw [pageB_len]; unfold lx; rw [loadB_len])
  have e1 : ¬ hasN 2 (frS 5).pages = false := by rw [hp]; decide
  have e2 : ¬ lx.length ≠ 508 := by unfold lx; rw [loadB_len]; simp
  have eD : ws2 = writeD (frS 5) 2 (pageB lx) := by unfold ws2 wrD; rw [if_neg e1, if_neg e2]
  have hdb : DB (frS 5) := (DB.new _).fmt
  refine ⟨?_, ?_, ?_, ?_, ?_⟩
  · unfold wrE
    rw [if_neg e1, if_neg e2]
    exact hw.1
  · rw [eD]; exact hw.2.1
  · rw [eD, write_pages, hp]
  · rw [eD]; exact hw.2.2
  · rw [eD]; exact hdb.write 2 (pageB_by (loadB_by (fun x hx => by simp at hx; omega)))
theorem ws3_ok : comE ws2 1 false 2 = 0 ∧ comD ws2 1 false 2 = ws3 ∧ comG ws2 0 1 false 2 = (2, 2, false) ∧ Hy ws3 ∧ ws3.pages = 5 ∧ (∀ n, hasP ws3 n = if n = 0 then hpg 2 2 else hasP ws2 n) ∧ DB ws3 := by
  obtain ⟨_, h1, h2, h3, h4⟩ := ws2_ok
  have hs := hy_stp h1 (by rw [h2]; decide) (g := 2) (r := 2) (by decide)
  have hb : ¬ badR ws2 2 = true := by unfold badR; rw [h2]; decide
  refine ⟨?_, ?_, ?_, hs.2.1, by unfold ws3; rw [stpD_pages, h2], fun n => ?_, h4.stp _ _⟩
  · unfold comE
    rw [if_neg (by decide), if_neg hb]
    exact hs.1
  · unfold comD
    rw [if_neg (by decide), if_neg hb]
    rfl
  · unfold comG
    rw [if_neg (by decide), if_neg hb, show (1 : Int) + 1 = 2 from rfl, if_pos hs.1]
  · exact hs.2.2 n
theorem ws3_bad : comE ws3 2 false 5 = 2 ∧ comD ws3 2 false 5 = ws3 ∧ comG ws3 2 2 false 5 = (2, 2, false) := by
  have hp := ws3_ok.2.2.2.2.1
  have hb : badR ws3 5 = true := by unfold badR; rw [hp]; decide
  refine ⟨?_, ?_, ?_⟩
  · unfold comE; rw [if_neg (by decide), if_pos hb]
  · unfold comD; rw [if_neg (by decide), if_pos hb]
  · unfold comG; rw [if_neg (by decide), if_pos hb]
theorem ws3_read3 : rdE ws3 3 = 10 := by
  obtain ⟨_, _, _, h1, h2, h3, _⟩ := ws3_ok
  have h4 := ws2_ok.2.2.2.1
  have h5 := (frS_hy 5 (by decide)).2.2
  have e : hasP ws3 3 = pgZ := by rw [h3, if_neg (by decide), h4, if_neg (by decide), h5, if_neg (by decide), if_neg (by decide)]
  unfold rdE
  rw [h2, e, zero_bad, if_neg (by decide), lookP_ok' h1.1 (by decide) (by rw [h2]; decide)]
  rfl
theorem ws3_read2 : rdE ws3 2 = 0 ∧ (hasP ws3 2).take 508 = lx := by
  obtain ⟨_, _, _, h1, h2, h3, _⟩ := ws3_ok
  have h4 := ws2_ok.2.2.2.1
  have e : hasP ws3 2 = pageB lx := by rw [h3, if_neg (by decide), h4, if_pos rfl]
  have hl : lx.length = 508 := loadB_len _
  refine ⟨?_, by rw [e, page_take hl]⟩
  unfold rdE
  rw [h2, e, right_page hl, if_neg (by decide), lookP_ok' h1.1 (by decide) (by rw [h2]; decide)]
  rfl
theorem ws3_opn : opnE ws3 = 0 ∧ opnP ws3 = some (2, 2) := by
  obtain ⟨_, _, _, h1, h2, h3, _⟩ := ws3_ok
  have h4 := ws2_ok.2.2.2.1
  have h5 := (frS_hy 5 (by decide)).2.2
  refine opn_two h1.1 (by rw [h2]; decide) (by rw [h2]; decide) (g := 2) (r := 2) (g2 := 1) (r2 := 0) (by decide) (by decide) (by decide) (by decide) (by decide) (by decide) (by rw [h2]; decide) (by decide) (by decide) (by rw [h2]; decide) ?_ ?_
  · rw [h3]; rfl
  · rw [h3, if_neg (by decide), h4, if_neg (by decide), h5]; rfl
end Go.Proofs.Ytmjmichkkmmdcaa.P
end
section
namespace Go.Proofs.Ytmjmichkkmmdcaa.P
open Go.RowKit Go.Proofs.Ytmjmichkkmmdcaa.Pure Go.Proofs.YtmjmichkkmmdcaaW.PrintWords Go.Proofs.YtmjmichkkmmdcaaW.PrintLast Go.Proofs.YtmjmichkkmmdcaaW.PrintMore
attribute [local go_sem] guard_ptr eqp28 eqp29
set_option linter.unusedVariables false
set_option linter.unusedSimpArgs false
theorem R5_tg {Z b : Nat} {ok : Nat → Prop} {w w' : World} {v : Value} {xs : List Int} (h : Kd.R (Kd.int .u8) 5 w b ok v xs) (ht : TG Z w w') : Kd.R (Kd.int .u8) 5 w' b ok v xs := by
  refine Kd.R_mono (Kd.R_move (Kd.R_bound h) (fun k hk => ?_)) (fun _ hk => hk.1)
  obtain ⟨_, _, _, q, hqm, cells, hc⟩ := hk
  have hq5 : q = 5 := by simpa [Kd.int, Kd.scalar] using hqm
  subst hq5
  rw [hc, ht.blk k cells 5 _ hc (by decide) (by decide) (by decide)]
set_option maxHeartbeats 8000000 in
set_option maxRecDepth 100000 in
theorem works_calls (w : World) : Calls Try.prog 11 #[] w fun e w' => e = .returned (.bool true) ∧ Below w.heap.size w w' := by
  have hfr := fresh_calls 5 5 rfl (by decide) (by decide) w
  have HW2 := Aside0.mk ws2_ok
  have HW3 := Aside0.mk ws3_ok
  have HWB := Aside0.mk ws3_bad
  have HWR := Aside0.mk (And.intro ws3_read3 ws3_read2)
  have HWO := Aside0.mk ws3_opn
  have hlb : BY lx := loadB_by (fun x hx => by simp at hx; omega)
  have hll : lx.length = 508 := loadB_len _
  have HLX := Aside0.mk (And.intro hll hlb)
  clear hlb hll
  go_enter Try.func11, Try.ntmps11
  go_upto_region 4 with (go_at_call 12; (with_reducible refine hfr.mono ?_); rintro e w1 ⟨d, p, rfl, hd, hp, hz, hb⟩; have HD1 := Aside0.mk hd; have HP1 := Aside0.mk hp; have HZ := Aside0.mk hz; have HB1 := Aside0.mk hb; clear hd hp hz hb hfr)
  have hcv : (convert 22 22 (.slice (some ⟨w1.heap.size, 0, none⟩) 1 1)).run Try.prog (w1.alloc (.cells #[.int .u8 120] 5)) = .ok (.slice (some ⟨w1.heap.size, 0, none⟩) 1 1) (w1.alloc (.cells #[.int .u8 120] 5 (1, 2))) := Lib.run_convert_bytes_const w1 22 5 _ 1 1 Try.underlying22 Try.underlying5
  have hbm := below_mark w1 (.cells #[.int .u8 120] 5 (1, 2))
  have HD2 := Aside0.mk (HD1.out.step hbm)
  have HP2 := Aside0.mk (HP1.out.step hbm)
  have HB2 := Aside0.mk (below_step HB1.out hbm)
  have hld : Calls Try.prog 26 #[.agg #[.int .i64 0, .int .i64 0, .slice (some ⟨w1.heap.size, 0, none⟩) 1 1, .slice none 0 0, .int .i64 0, .int .i64 0]] (w1.alloc (.cells #[.int .u8 120] 5 (1, 2))) fun e w' => ∃ g c', e = .returned (.slice (some ⟨g, 0, none⟩) 508 c') ∧ (w1.alloc (.cells #[.int .u8 120] 5 (1, 2))).heap.size ≤ g ∧ Kd.R (Kd.int .u8) 5 w' (w1.alloc (.cells #[.int .u8 120] 5 (1, 2))).heap.size (fun _ => True) (.slice (some ⟨g, 0, none⟩) 508 c') (loadB [120]) ∧ Below (w1.alloc (.cells #[.int .u8 120] 5 (1, 2))).heap.size (w1.alloc (.cells #[.int .u8 120] 5 (1, 2))) w' := load_calls 0 0 (some ⟨w1.heap.size, 0, none⟩) 1 [120] none 0 0 0 0 _ (lit1 w1 (1, 2))
  clear hbm HD1 HP1 HB1
  go_upto_region 5 with (go_at_call 26; (with_reducible refine hld.mono ?_); rintro e w3 ⟨g, c, rfl, hg, ho, hb⟩; have HO3 := Aside0.mk (show Kd.R (Kd.int .u8) 5 w3 _ (fun _ => True) (.slice (some ⟨g, 0, none⟩) 508 c) lx from ho); have HD3 := Aside0.mk (HD2.out.step hb); have HP3 := Aside0.mk (HP2.out.step hb); have HB3 := Aside0.mk (below_step HB2.out hb); clear hg ho hb hld hcv)
  have hwr := pwrite_calls p 2 (some ⟨g, 0, none⟩) c lx w3 HD3.out (by decide) HP3.out (Kd.R_reads' HO3.out).2.2 (by rw [HLX.out.1]; exact (Kd.R_reads' HO3.out).2.1) HLX.out.2
  rw [HLX.out.1, HW2.out.1] at hwr
  have HC4 := Aside0.mk hwr
  clear hwr
  go_upto_region 7 with (first
    | (go_at_call 16; (with_reducible refine HC4.out.mono ?_); rintro e w4 ⟨rfl, hd, ht⟩; have HD4 := Aside0.mk (show DS w4 w.heap.size d ws2 3 from hd); have HP4 := Aside0.mk (HP3.out.tf ht); have HO4 := Aside0.mk (R5_tf HO3.out ht); have HB4 := Aside0.mk (HB3.out.trans ht.b); clear hd ht)
    | (go_at_call 14; (with_reducible refine (commit_calls (dact_ds w.heap.size d) p 2 (by rw [HW2.out.2.2.1]; decide) (by decide) (by decide) w.heap.size (Nat.le_refl _) HZ.out w4 HD4.out (by decide) HP4.out).mono ?_); rw [HW3.out.1, HW3.out.2.1, HW3.out.2.2.1]; rintro e w5 ⟨rfl, hd, ht, hp⟩; have HD5 := Aside0.mk (show DS w5 w.heap.size d ws3 4 from hd); have HP5 := Aside0.mk (show PG w5 p d 2 2 false from hp); have HO5 := Aside0.mk (R5_tg HO4.out ht); have HB5 := Aside0.mk (HB4.out.trans ht.b); clear hd ht hp)
    | (go_at_call 14; (with_reducible refine (commit_calls (dact_ds w.heap.size d) p 5 (by rw [HW3.out.2.2.2.2.1]; decide) (by decide) (by decide) w.heap.size (Nat.le_refl _) HZ.out w5 HD5.out (by decide) HP5.out).mono ?_); rw [HWB.out.1, HWB.out.2.1, HWB.out.2.2]; rintro e w6 ⟨rfl, hd, ht, hp⟩; have HD6 := Aside0.mk (show DS w6 w.heap.size d ws3 5 from hd); have HP6 := Aside0.mk (show PG w6 p d 2 2 false from hp); have HO6 := Aside0.mk (R5_tg HO5.out ht); have HB6 := Aside0.mk (HB5.out.trans ht.b); clear hd ht hp))
  have HDB := Aside0.mk HW3.out.2.2.2.2.2.2
  go_upto_region 8 with (go_at_call 19; (with_reducible refine (pread_calls p 3 HDB.out w6 HD6.out HP6.out).mono ?_); rintro e w7 ⟨hb, v7, rfl, hv⟩; rw [HWR.out.1]; have HD7 := Aside0.mk (HD6.out.step hb); have HO7 := Aside0.mk (Kd.R_below HO6.out hb); have HB7 := Aside0.mk (below_step HB6.out hb); clear hb hv)
  have hop := open_calls 5 HW3.out.2.2.2.2.1 (by decide) HDB.out w7 HD7.out
  go_upto_region 11 with (go_at_call 15; (with_reducible refine hop.mono ?_); rintro e w8 ⟨hb, po, rfl, _, hpo⟩; rw [HWO.out.1]; obtain ⟨q, rfl, hq, hpg⟩ := hpo _ HWO.out.1 HWO.out.2; have HP8 := Aside0.mk (show PG w8 q d 2 2 false from hpg); have HD8 := Aside0.mk (HD7.out.step hb); have HO8 := Aside0.mk (Kd.R_below HO7.out hb); have HB8 := Aside0.mk (below_step HB7.out hb); clear hb hpo hq hpg hop)
  go_upto_region 13 with (first
    | (go_at_call 13; (with_reducible refine (root_calls q d w8 HP8.out).mono ?_); rintro e w9 ⟨rfl, hb⟩; have HP9 := Aside0.mk (HP8.out.step hb); have HD9 := Aside0.mk (HD8.out.step hb); have HO9 := Aside0.mk (Kd.R_below HO8.out hb); have HB9 := Aside0.mk (below_step HB8.out hb); clear hb)
    | (go_at_call 19; (with_reducible refine (pread_calls q 2 HDB.out w9 HD9.out HP9.out).mono ?_); rintro e w10 ⟨hb, v10, rfl, hv⟩; rw [HWR.out.2.1] at hv ⊢; obtain ⟨g10, c10, rfl, hC10⟩ : ∃ g10 c10, v10 = .slice (some ⟨g10, 0, none⟩) 508 c10 ∧ Kd.C (Kd.int .u8) w10 (some ⟨g10, 0, none⟩) 508 lx := (by rcases hv with ⟨hn, _⟩ | ⟨_, g10, c10, _, _, e, hc⟩; exact absurd rfl hn; exact ⟨g10, c10, e, by rw [HWR.out.2.2] at hc; exact hc⟩); have HC10 := Aside0.mk hC10; have HO10 := Aside0.mk (Kd.R_below HO9.out hb); have HB10 := Aside0.mk (below_step HB9.out hb); clear hb hv hC10))
  obtain ⟨st, hst⟩ : ∃ st, st = strOfNums lx := ⟨_, rfl⟩
  have cA : (convert 22 9 (.slice (some ⟨g10, 0, none⟩) 508 c10)).run Try.prog w10 = .ok (.string st) w10 := by
    have := Kd.C_string (c := c10) Try.underlying22 Try.underlying5 Try.underlying9 (show Kd.C (Kd.int .u8) w10 (some ⟨g10, 0, none⟩) lx.length lx by rw [HLX.out.1]; exact HC10.out)
    rw [HLX.out.1] at this
    rw [hst]
    exact this
  have cB : (convert 22 9 (.slice (some ⟨g, 0, none⟩) 508 c)).run Try.prog w10 = .ok (.string st) w10 := by rw [hst]; exact row_string HO10.out
  clear hst
  go_wp2
  go_ret
  exact ⟨by simp, HB10.out⟩
end Go.Proofs.Ytmjmichkkmmdcaa.P
end
section
namespace Go.Proofs.Ytmjmichkkmmdcaa.P
open Go.RowKit Go.Proofs.Ytmjmichkkmmdcaa.Pure Go.Proofs.YtmjmichkkmmdcaaW.PrintWords Go.Proofs.YtmjmichkkmmdcaaW.PrintLast Go.Proofs.YtmjmichkkmmdcaaW.PrintMore
set_option linter.unusedVariables false
set_option linter.unusedSimpArgs false
theorem BY.set {l : List Int} (h : BY l) (k : Nat) {y : Int} (hy : 0 ≤ y ∧ y ≤ 255) : BY (l.set k y) := fun x hx => by
  rcases List.mem_or_eq_of_mem_set hx with hx | rfl
  · exact h x hx
  · exact hy
end Go.Proofs.Ytmjmichkkmmdcaa.P
end
section
namespace Go.Proofs.Ytmjmichkkmmdcaa.P
open Go.RowKit Go.Proofs.Ytmjmichkkmmdcaa.Pure Go.Proofs.YtmjmichkkmmdcaaW.PrintWords Go.Proofs.YtmjmichkkmmdcaaW.PrintLast Go.Proofs.YtmjmichkkmmdcaaW.PrintMore
set_option linter.unusedVariables false
set_option linter.unusedSimpArgs false
theorem le_get (n : Int) {k i : Nat} (h : i < k) : (le n k)[i]? = some (n / 256 ^ i % 256) := by
  unfold le
  rw [List.getElem?_map, List.getElem?_range h]
  rfl
theorem recL_get4 (g r : Int) {i : Nat} (h : i < 8) : (recL g r)[4 + i]? = some (g / 256 ^ i % 256) := by
  unfold recL
  have h1 : ([81, 82, 89, 49] : List Int).length = 4 := rfl
  rw [List.getElem?_append_left (by rw [List.length_append, le_len, h1]; omega), List.getElem?_append_right (by rw [h1]; omega), h1, show 4 + i - 4 = i by omega, le_get g h]
theorem recL_get12 (g r : Int) : (recL g r)[12]? = some (r % 256) := by
  unfold recL
  have h1 : ([81, 82, 89, 49] ++ le g 8 : List Int).length = 12 := by rw [List.length_append, le_len]; rfl
  rw [List.getElem?_append_right (by rw [h1]; decide), h1, le_get r (by decide)]
  simp
theorem hpg_get (g r : Int) {i : Nat} (h : i < 16) : (hpg g r)[i]? = (recL g r)[i]? := by
  rw [← hpg_take, List.getElem?_take_of_lt h]
theorem hpg_get2 (g r : Int) {i : Nat} (h : i < 16) : (hpg g r)[492 + i]? = (recL g r)[i]? := by
  have h1 := headL_len g r
  unfold hpg pageB
  rw [List.getElem?_append_left (by rw [h1]; omega)]
  unfold headL
  have h2 : (recL g r ++ List.replicate 476 0).length = 492 := by rw [List.length_append, recL_len, List.length_replicate]
  rw [List.getElem?_append_right (by rw [h2]; omega), h2, show 492 + i - 492 = i by omega]
theorem hpg_gen0 (g r : Int) : (hpg g r)[496]? = some (g % 256) := by
  have := (hpg_get2 g r (i := 4 + 0) (by decide)).trans (recL_get4 g r (by decide))
  simpa using this
theorem hpg_gen (g r : Int) {i : Nat} (h : i < 8) : (hpg g r)[496 + i]? = some (g / 256 ^ i % 256) := by
  have := (hpg_get2 g r (i := 4 + i) (by omega)).trans (recL_get4 g r h)
  rwa [show 492 + (4 + i) = 496 + i by omega] at this
theorem hpg_gen1 (g r : Int) (g0 : 0 ≤ g) (g1 : g < 256) {i : Nat} (h1 : 1 ≤ i) (h : i < 8) : (hpg g r)[496 + i]? = some 0 := by
  rw [hpg_gen g r h]
  obtain ⟨j, rfl⟩ : ∃ j, i = j + 1 := ⟨i - 1, by omega⟩
  rw [Int.pow_succ, Int.mul_comm, ← Int.ediv_ediv_of_nonneg (by decide), Int.ediv_eq_zero_of_lt g0 g1]
  simp
theorem hpg_root (g r : Int) : (hpg g r)[12]? = some (r % 256) := (hpg_get g r (by decide)).trans (recL_get12 g r)
theorem over_get {n : Nat} {b p : List Int} (hb : n ≤ b.length) (i : Nat) : (over n b p)[i]? = if i < n then b[i]? else p[i]? := by
  unfold over
  have hl : (b.take n).length = n := by rw [List.length_take]; omega
  by_cases h : i < n
  · rw [if_pos h, List.getElem?_append_left (by omega), List.getElem?_take_of_lt h]
  · rw [if_neg h, List.getElem?_append_right (by omega), hl, List.getElem?_drop, show n + (i - n) = i by omega]
structure Torn (gen : Int) (X : List Int) : Prop where
  len : X.length = 512
  by_ : BY X
  no : ∀ r2 : Int, 0 ≤ r2 → r2 < 9 → ∃ i : Nat, 12 ≤ i ∧ X[i]? ≠ (hpg (gen + 1) r2)[i]?
  tl : ∃ t : Int, 0 ≤ t ∧ (t < gen ∨ t = gen + 1) ∧ X[496]? = some t ∧ ∀ i : Nat, 1 ≤ i → i < 8 → X[496 + i]? = some 0
theorem Torn.head {gen : Int} {X : List Int} (h : Torn gen X) (hg : gen < 200) {slot : Int} {x : Int × Int} (hx : headP X slot 9 = some x) : x.1 < gen := by
  unfold headP at hx
  by_cases ok : headOK X slot 9
  · rw [if_pos ok] at hx
    obtain rfl := Option.some.inj hx
    show genP X < gen
    obtain ⟨a1, a2, a3, a4, a5⟩ := ok
    have hgr : 0 ≤ genP X := (val_range (BY.drop (BY.take h.by_ 12) 4)).1
    have hrr : 0 ≤ rootP X := (val_range (BY.drop (BY.take h.by_ 16) 12)).1
    generalize genP X = g at *
    generalize rootP X = r at *
    have e : X = hpg g r := a5
    obtain ⟨t, t0, t1, t2, t3⟩ := h.tl
    have k0 := hpg_gen0 g r
    rw [← e, t2] at k0
    have k1 := hpg_gen g r (i := 1) (by decide)
    have k2 := hpg_gen g r (i := 2) (by decide)
    have k3 := hpg_gen g r (i := 3) (by decide)
    have k4 := hpg_gen g r (i := 4) (by decide)
    have k5 := hpg_gen g r (i := 5) (by decide)
    have k6 := hpg_gen g r (i := 6) (by decide)
    have k7 := hpg_gen g r (i := 7) (by decide)
    rw [← e, t3 _ (by decide) (by decide)] at k1 k2 k3 k4 k5 k6 k7
    have l0 := Option.some.inj k0
    have l1 : 0 = g / 256 % 256 := Option.some.inj k1
    have l2 : 0 = g / 65536 % 256 := Option.some.inj k2
    have l3 : 0 = g / 16777216 % 256 := Option.some.inj k3
    have l4 : 0 = g / 4294967296 % 256 := Option.some.inj k4
    have l5 : 0 = g / 1099511627776 % 256 := Option.some.inj k5
    have l6 : 0 = g / 281474976710656 % 256 := Option.some.inj k6
    have l7 : 0 = g / 72057594037927936 % 256 := Option.some.inj k7
    have hgt : g = t := by omega
    rcases t1 with t1 | t1
    · omega
    · obtain ⟨i, _, hi⟩ := h.no r hrr a3
      exact absurd (by rw [e, hgt, t1]) hi
  · rw [if_neg ok] at hx
    cases hx
theorem Torn.mix {gen : Int} {X : List Int} (h : Torn gen X) (g0 : 0 ≤ gen) (hg : gen < 200) (N : Int) (n0 : 0 ≤ N) (n9 : N < 9) (n : Nat) (hn : n ≤ 512) : over n (hpg (gen + 1) N) X = hpg (gen + 1) N ∨ Torn gen (over n (hpg (gen + 1) N) X) := by
  have hH := hpg_len (gen + 1) N
  have og : ∀ i, (over n (hpg (gen + 1) N) X)[i]? = if i < n then (hpg (gen + 1) N)[i]? else X[i]? := over_get (by omega)
  by_cases hno : ∃ r2 : Int, 0 ≤ r2 ∧ r2 < 9 ∧ ∀ i : Nat, 12 ≤ i → (over n (hpg (gen + 1) N) X)[i]? = (hpg (gen + 1) r2)[i]?
  · obtain ⟨r2, r0, r9, hr⟩ := hno
    by_cases h12 : 12 < n
    · left
      have e1 := hr 12 (Nat.le_refl _)
      rw [og, if_pos h12, hpg_root, hpg_root] at e1
      have e2 : N % 256 = r2 % 256 := Option.some.inj e1
      have e3 : r2 = N := by omega
      rw [e3] at hr
      refine List.ext_getElem? fun i => ?_
      by_cases hi : i < 12
      · rw [og, if_pos (by omega)]
      · exact hr i (by omega)
    · exfalso
      obtain ⟨i, hi, hne⟩ := h.no r2 r0 r9
      have := hr i hi
      rw [og, if_neg (by omega)] at this
      exact hne this
  · right
    refine ⟨over_len hH h.len hn, (BY.take (hpg_by _ _) _).append (BY.drop h.by_ _), fun r2 r0 r9 => ?_, ?_⟩
    · refine Classical.byContradiction fun hc => hno ⟨r2, r0, r9, fun i hi => ?_⟩
      exact Classical.byContradiction fun hd => hc ⟨i, hi, hd⟩
    · by_cases h4 : 496 < n
      · refine ⟨gen + 1, by omega, .inr rfl, ?_, fun i i1 i8 => ?_⟩
        · rw [og, if_pos h4, hpg_gen0, Int.emod_eq_of_lt (by omega) (by omega)]
        · rw [og]
          split
          · exact hpg_gen1 _ _ (by omega) (by omega) i1 i8
          · obtain ⟨_, _, _, _, t3⟩ := h.tl
            exact t3 i i1 i8
      · obtain ⟨t, t0, t1, t2, t3⟩ := h.tl
        refine ⟨t, t0, t1, by rw [og, if_neg h4]; exact t2, fun i i1 i8 => ?_⟩
        rw [og, if_neg (by omega)]
        exact t3 i i1 i8
theorem Torn.next {gen root : Int} (g0 : 0 ≤ gen) (hg : gen < 200) : Torn (gen + 1) (hpg gen root) := by
  refine ⟨hpg_len _ _, hpg_by _ _, fun r2 _ _ => ⟨496, by decide, fun e => ?_⟩, gen, g0, .inl (by omega), ?_, fun i i1 i8 => hpg_gen1 _ _ g0 (by omega) i1 i8⟩
  · rw [hpg_gen0, hpg_gen0] at e
    have := Option.some.inj e
    omega
  · rw [hpg_gen0, Int.emod_eq_of_lt g0 (by omega)]
theorem opn_one {s : Dk} (hd : s.down = false) (hp : s.pages = 9) {g r : Int} (g0 : 0 ≤ g) (g1 : g < 200) (r0 : 0 ≤ r) (hr : r ≠ 1) (hrp : r < 9)
    (h1 : hasP s (g % 2) = hpg g r) (h2 : ∀ x, headP (hasP s ((g + 1) % 2)) ((g + 1) % 2) 9 = some x → x.1 < g) : opnE s = 0 ∧ opnP s = some (g, r) := by
  have k1 := headP_hpg g r (g % 2) 9 g0 (by omega) r0 hr hrp (by decide) rfl
  have key : opnP s = some (g, r) := by
    show updB (updB none (headP (hasP s ((0 : Nat) : Int)) ((0 : Nat) : Int) s.pages)) (headP (hasP s ((1 : Nat) : Int)) ((1 : Nat) : Int) s.pages) = _
    rw [hp]
    rcases (show g % 2 = 0 ∨ g % 2 = 1 by omega) with e | e
    · have e2 : (g + 1) % 2 = 1 := by omega
      rw [e] at h1 k1
      rw [e2] at h2
      have a1 : hasP s ((0 : Nat) : Int) = hpg g r := h1
      have b1 : headP (hpg g r) ((0 : Nat) : Int) 9 = some (g, r) := k1
      have c2 : ∀ x, headP (hasP s ((1 : Nat) : Int)) ((1 : Nat) : Int) 9 = some x → x.1 < g := h2
      rw [a1, b1]
      cases hx : headP (hasP s ((1 : Nat) : Int)) ((1 : Nat) : Int) 9 with
      | none => rfl
      | some x =>
        have := c2 x hx
        show (if g < x.1 then _ else _) = _
        rw [if_neg (by omega)]
    · have e2 : (g + 1) % 2 = 0 := by omega
      rw [e] at h1 k1
      rw [e2] at h2
      have a1 : hasP s ((1 : Nat) : Int) = hpg g r := h1
      have b1 : headP (hpg g r) ((1 : Nat) : Int) 9 = some (g, r) := k1
      have c2 : ∀ x, headP (hasP s ((0 : Nat) : Int)) ((0 : Nat) : Int) 9 = some x → x.1 < g := h2
      rw [a1, b1]
      cases hx : headP (hasP s ((0 : Nat) : Int)) ((0 : Nat) : Int) 9 with
      | none => rfl
      | some x =>
        have := c2 x hx
        show (if x.1 < g then _ else _) = _
        rw [if_pos this]
  refine ⟨?_, key⟩
  unfold opnE
  rw [if_neg (by omega), if_neg (by rw [hd]; decide), key]
  rfl
theorem wr_cases {s : Dk} (hd : s.down = false) {q : Int} (h0 : 0 ≤ q) (h1 : q < s.pages) {b : List Int} (hb : b.length = 512) :
    (writeE s q b = 9 ∧ (writeD s q b).down = true ∧ (writeD s q b).last = s.last ∧ (writeD s q b).cache = s.cache) ∨ (writeE s q b = 0 ∧ (writeD s q b).down = false ∧ (writeD s q b).last = s.last ∧ (writeD s q b).cache = s.cache ++ [(q, b)]) := by
  have hl : ¬ lookP s q ≠ 0 := by rw [lookP_ok' hd h0 h1]; simp
  have hb' : ¬ b.length ≠ 512 := by omega
  unfold writeE writeD
  rw [if_neg hl, if_neg hl, if_neg hb', if_neg hb']
  by_cases hs : s.left = 0
  · rw [if_pos hs, if_pos hs]
    refine .inl ⟨rfl, ?_, stepS_last s, stepS_cache s⟩
    unfold stepS
    rw [if_pos hs]
  · rw [if_neg hs, if_neg hs]
    refine .inr ⟨rfl, ?_, stepS_last s, rfl⟩
    show (stepS s).down = false
    unfold stepS
    rw [if_neg hs]
    split
    · exact hd
    · exact hd
theorem sy_cases {s : Dk} (hd : s.down = false) :
    (syncE s = 9 ∧ (syncD s).down = true ∧ (syncD s).last = s.last ∧ (syncD s).cache = s.cache) ∨ (syncE s = 0 ∧ (syncD s).down = false ∧ (syncD s).cache = [] ∧ ∀ n, (syncD s).last n = hasP s n) := by
  have hd' : ¬ s.down = true := by rw [hd]; decide
  unfold syncE syncD
  rw [if_neg hd', if_neg hd']
  by_cases hs : s.left = 0
  · rw [if_pos hs, if_pos hs]
    refine .inl ⟨rfl, ?_, stepS_last s, stepS_cache s⟩
    unfold stepS
    rw [if_pos hs]
  · rw [if_neg hs, if_neg hs]
    refine .inr ⟨rfl, ?_, rfl, fun n => (hasP_last_all s n).symm⟩
    show (stepS s).down = false
    unfold stepS
    rw [if_neg hs]
    split
    · exact hd
    · exact hd
theorem mend_none {s : Dk} (hc : s.cache = []) (keep : List Bool) (torn cut : Int) : (mendS s keep torn cut).last = s.last := by
  show mendL s keep torn cut s.cache.length = s.last
  rw [hc]
  rfl
theorem mend_one {s : Dk} {q : Int} {b : List Int} (hc : s.cache = [(q, b)]) (keep : List Bool) (torn cut : Int) : ∃ k, k ≤ 512 ∧ ∀ n, (mendS s keep torn cut).last n = if n = q then over k b (s.last q) else s.last n := by
  have hl : s.cache.length = 0 + 1 := by rw [hc]; rfl
  refine ⟨mendN keep torn cut 0, ?_, fun n => ?_⟩
  · unfold mendN
    split
    · omega
    · split <;> omega
  · show mendL s keep torn cut s.cache.length n = _
    rw [hl, mendL_succ (by omega)]
    have e : s.cache[0]'(by omega) = (q, b) := by simp [hc]
    rw [e]
    rfl
end Go.Proofs.Ytmjmichkkmmdcaa.P
end
section
namespace Go.Proofs.Ytmjmichkkmmdcaa.P
open Go.RowKit Go.Proofs.Ytmjmichkkmmdcaa.Pure Go.Proofs.YtmjmichkkmmdcaaW.PrintWords Go.Proofs.YtmjmichkkmmdcaaW.PrintLast Go.Proofs.YtmjmichkkmmdcaaW.PrintMore
set_option linter.unusedVariables false
set_option linter.unusedSimpArgs false
structure WL (f : List Int) (L : Int → List Int) (root gen : Int) : Prop where
  g : 0 ≤ gen ∧ gen < 199
  r : 0 ≤ root ∧ root ≠ 1 ∧ root < 9
  h1 : L (gen % 2) = hpg gen root
  h2 : Torn gen (L ((gen + 1) % 2))
  p3 : L 3 = pageB f
  by_ : ∀ i, BY (L i)
structure WI (f : List Int) (s : Dk) (root gen : Int) : Prop where
  dn : s.down = false
  ca : s.cache = []
  ps : s.pages = 9
  wl : WL f s.last root gen
theorem WI.has {f : List Int} {s : Dk} {root gen : Int} (h : WI f s root gen) (n : Int) : hasP s n = s.last n := hasP_last (fun x hx => by simp [h.ca] at hx)
theorem WI.db {f : List Int} {s : Dk} {root gen : Int} (h : WI f s root gen) : DB s := ⟨h.wl.by_, fun x hx => by simp [h.ca] at hx⟩
theorem WI.opn {f : List Int} {s : Dk} {root gen : Int} (h : WI f s root gen) : opnE s = 0 ∧ opnP s = some (gen, root) := by
  have g1 := h.wl.g.2
  exact opn_one h.dn h.ps h.wl.g.1 (by omega) h.wl.r.1 h.wl.r.2.1 h.wl.r.2.2 (by rw [h.has]; exact h.wl.h1) (fun x hx => by
    rw [h.has] at hx
    exact h.wl.h2.head (by omega) hx)
theorem WI.rd {f : List Int} {s : Dk} {root gen : Int} (h : WI f s root gen) {n : Int} (n0 : 2 ≤ n) (n9 : n < 9) {l : List Int} (hl : l.length = 508) (e : s.last n = pageB l) : rdE s n = 0 ∧ hasP s n = pageB l := by
  have hh : ¬ hasN n s.pages = false := by
    rw [h.ps]
    unfold hasN
    simp
    omega
  have hlk : ¬ lookP s n ≠ 0 := by
    rw [lookP_ok' h.dn (by omega) (by rw [h.ps]; omega)]
    simp
  have e2 : hasP s n = pageB l := (h.has n).trans e
  refine ⟨?_, e2⟩
  unfold rdE
  rw [if_neg hh, if_neg hlk, e2, right_page hl]
  simp
theorem WL.keep {f : List Int} {L L' : Int → List Int} {root gen : Int} (h : WL f L root gen) (hk : ∀ n, n < 2 ∨ n = 3 → L' n = L n) (hb : ∀ i, BY (L' i)) : WL f L' root gen := by
  have a1 := h.g
  refine ⟨h.g, h.r, ?_, ?_, ?_, hb⟩
  · rw [hk _ (by omega)]; exact h.h1
  · rw [hk _ (by omega)]; exact h.h2
  · rw [hk _ (by omega)]; exact h.p3
theorem over_by {n : Nat} {b p : List Int} (hb : BY b) (hp : BY p) : BY (over n b p) := (BY.take hb _).append (BY.drop hp _)
theorem WL.head {f : List Int} {L L' : Int → List Int} {root gen : Int} (h : WL f L root gen) (hg : gen < 198) {N : Int} (n0 : 0 ≤ N) (n1 : N ≠ 1) (n9 : N < 9) {k : Nat} (hk : k ≤ 512) (e : ∀ n, L' n = if n = (gen + 1) % 2 then over k (hpg (gen + 1) N) (L ((gen + 1) % 2)) else L n) : WL f L' root gen ∨ WL f L' N (gen + 1) := by
  have g0 := h.g
  have hby : ∀ i, BY (L' i) := fun i => by
    rw [e]
    split
    · exact over_by (hpg_by _ _) (h.by_ _)
    · exact h.by_ _
  have e0 : L' (gen % 2) = hpg gen root := by rw [e, if_neg (by omega)]; exact h.h1
  have e1 : L' ((gen + 1) % 2) = over k (hpg (gen + 1) N) (L ((gen + 1) % 2)) := by rw [e, if_pos rfl]
  have e3 : L' 3 = pageB f := by rw [e, if_neg (by omega)]; exact h.p3
  rcases h.h2.mix g0.1 (by omega) N n0 n9 k hk with hm | hm
  · right
    refine ⟨⟨by omega, by omega⟩, ⟨n0, n1, n9⟩, e1.trans hm, ?_, e3, hby⟩
    rw [show (gen + 1 + 1) % 2 = gen % 2 by omega, e0]
    exact Torn.next g0.1 (by omega)
  · left
    exact ⟨g0, h.r, e0, by rw [e1]; exact hm, e3, hby⟩
structure MID (f : List Int) (s : Dk) (root gen N : Int) (b : List Int) : Prop where
  dn : s.down = false
  ps : s.pages = 9
  wl : WL f s.last root gen
  bl : b.length = 508
  bb : BY b
  n : N = 0 ∨ 2 ≤ N ∧ N < 9 ∧ N ≠ 3
  ca : (N = 0 ∧ s.cache = []) ∨ (2 ≤ N ∧ s.cache = [(N, pageB b)])
theorem w_mend {f : List Int} {s : Dk} {root gen : Int} (ps : s.pages = 9) (wl : WL f s.last root gen) (ca : s.cache = []) (keep : List Bool) (torn cut : Int) : WI f (mendS s keep torn cut) root gen := by
  refine ⟨rfl, rfl, ps, ?_⟩
  rw [mend_none ca]
  exact wl
theorem w_mend1 {f : List Int} {s : Dk} {root gen N : Int} {b : List Int} (ps : s.pages = 9) (wl : WL f s.last root gen) (hb : BY b) (n0 : 2 ≤ N) (n3 : N ≠ 3) (ca : s.cache = [(N, b)]) (keep : List Bool) (torn cut : Int) : WI f (mendS s keep torn cut) root gen := by
  refine ⟨rfl, rfl, ps, ?_⟩
  obtain ⟨k, _, hm⟩ := mend_one ca keep torn cut
  refine wl.keep (fun n hn => ?_) (fun i => ?_)
  · rw [hm, if_neg (by omega)]
  · rw [hm]
    split
    · exact over_by hb (wl.by_ _)
    · exact wl.by_ _
theorem w_start {f : List Int} {s : Dk} {root gen : Int} (h : WI f s root gen) {b : List Int} (bl : b.length = 508) (bb : BY b) (K : Int) : MID f { s with left := K } root gen 0 b := ⟨h.dn, h.ps, h.wl, bl, bb, .inl rfl, .inl ⟨rfl, h.ca⟩⟩
theorem w_write {f : List Int} {s : Dk} {root gen : Int} (h : WI f s root gen) {b : List Int} (bl : b.length = 508) (bb : BY b) (K : Int) {N : Int} (n0 : 2 ≤ N) (n9 : N < 9) (n3 : N ≠ 3) :
    (wrE { s with left := K } N b = 9 ∧ (wrD { s with left := K } N b).down = true ∧ ∀ keep torn cut, WI f (mendS (wrD { s with left := K } N b) keep torn cut) root gen) ∨ (wrE { s with left := K } N b = 0 ∧ MID f (wrD { s with left := K } N b) root gen N b) := by
  have hps := h.ps
  obtain ⟨s0, hs0⟩ : ∃ s0, s0 = { s with left := K } := ⟨_, rfl⟩
  rw [← hs0]
  have q1 : s0.down = false := by rw [hs0]; exact h.dn
  have q2 : s0.pages = 9 := by rw [hs0]; exact h.ps
  have q3 : s0.last = s.last := by rw [hs0]
  have q4 : s0.cache = [] := by rw [hs0]; exact h.ca
  have e1 : ¬ hasN N s0.pages = false := by
    rw [q2]
    unfold hasN
    simp
    omega
  have e2 : ¬ b.length ≠ 508 := by omega
  unfold wrE wrD
  rw [if_neg e1, if_neg e1, if_neg e2, if_neg e2]
  rcases wr_cases q1 (q := N) (by omega) (by rw [q2]; exact n9) (b := pageB b) (by rw [pageB_len, bl]) with ⟨c1, c2, c3, c4⟩ | ⟨c1, c2, c3, c4⟩
  · exact .inl ⟨c1, c2, fun keep torn cut => w_mend (by rw [write_pages, q2]) (by rw [c3, q3]; exact h.wl) (by rw [c4, q4]) keep torn cut⟩
  · exact .inr ⟨c1, c2, by rw [write_pages, q2], by rw [c3, q3]; exact h.wl, bl, bb, .inr ⟨n0, n9, n3⟩, .inr ⟨n0, by rw [c4, q4]; rfl⟩⟩
theorem w_commit {f : List Int} {s : Dk} {root gen N : Int} {b : List Int} (m : MID f s root gen N b) (hg : gen < 198) :
    ((comE s gen false N = 9 ∧ (comD s gen false N).down = true) ∨ comE s gen false N = 0) ∧ ∀ keep torn cut, (comE s gen false N ≠ 0 ∧ WI f (mendS (comD s gen false N) keep torn cut) root gen) ∨ (WI f (mendS (comD s gen false N) keep torn cut) N (gen + 1) ∧ (0 < N → (mendS (comD s gen false N) keep torn cut).last N = pageB b)) := by
  have hbad : ¬ badR s N = true := by
    unfold badR hasN
    rw [m.ps]
    have := m.n
    simp
    omega
  have hn := m.n
  have g0 := m.wl.g
  have eE : comE s gen false N = stpE s (gen + 1) N := by unfold comE; rw [if_neg (by decide), if_neg hbad]
  have eD : comD s gen false N = stpD s (gen + 1) N := by unfold comD; rw [if_neg (by decide), if_neg hbad]
  rw [eE, eD]
  unfold stpE stpD
  have hbb := pageB_by m.bb
  rcases sy_cases m.dn with ⟨c1, c2, c3, c4⟩ | ⟨c1, c2, c3, c4⟩
  · have k : syncE s ≠ 0 := by rw [c1]; decide
    rw [if_pos k, if_pos k]
    refine ⟨.inl ⟨c1, c2⟩, fun keep torn cut => .inl ⟨by rw [c1]; decide, ?_⟩⟩
    rcases m.ca with ⟨n0, ca⟩ | ⟨n2, ca⟩
    · exact w_mend (by rw [sync_pages, m.ps]) (by rw [c3]; exact m.wl) (by rw [c4, ca]) keep torn cut
    · exact w_mend1 (by rw [sync_pages, m.ps]) (by rw [c3]; exact m.wl) hbb n2 (by omega) (by rw [c4, ca]) keep torn cut
  · have k : ¬ syncE s ≠ 0 := fun x => x c1
    rw [if_neg k, if_neg k]
    have hps : (syncD s).pages = 9 := by rw [sync_pages, m.ps]
    obtain ⟨t, ht⟩ : ∃ t, t = syncD s := ⟨_, rfl⟩
    rw [← ht] at c2 c3 c4 hps ⊢
    have hlast : ∀ n, n ≠ N → t.last n = s.last n := fun n hne => by
      rw [c4]
      refine hasP_last (fun x hx => ?_)
      rcases m.ca with ⟨_, ca⟩ | ⟨_, ca⟩
      · simp [ca] at hx
      · rw [ca] at hx
        rw [List.mem_singleton.1 hx]
        exact fun e => hne e.symm
    have hN : 0 < N → t.last N = pageB b := fun hp => by
      rw [c4]
      rcases m.ca with ⟨z, _⟩ | ⟨_, ca⟩
      · omega
      · have := hasP_cons (s := { s with cache := [] }) (t := s) (q := N) (b := pageB b) rfl (by rw [ca]; rfl) N
        rw [this, if_pos rfl]
    have hwl : WL f t.last root gen := by
      refine m.wl.keep (fun n hn2 => ?_) (fun i => ?_)
      · by_cases e : n = N
        · rcases m.ca with ⟨z, ca⟩ | ⟨_, ca⟩
          · rw [c4]
            exact hasP_last (fun x hx => by simp [ca] at hx)
          · omega
        · exact hlast n e
      · by_cases e : i = N
        · by_cases hp : 0 < N
          · rw [e, hN hp]; exact hbb
          · rcases m.ca with ⟨z, ca⟩ | ⟨_, ca⟩
            · rw [c4, hasP_last (fun x hx => by simp [ca] at hx)]
              exact m.wl.by_ i
            · omega
        · rw [hlast i e]; exact m.wl.by_ i
    have hsl := gen_slot (gen + 1) (by omega)
    unfold layE layD
    rcases wr_cases c2 (q := (gen + 1) % 2) hsl.1 (by rw [hps]; omega) (b := hpg (gen + 1) N) (hpg_len _ _) with ⟨d1, d2, d3, d4⟩ | ⟨d1, d2, d3, d4⟩
    · have k2 : writeE t ((gen + 1) % 2) (hpg (gen + 1) N) ≠ 0 := by rw [d1]; decide
      rw [if_pos k2, if_pos k2]
      exact ⟨.inl ⟨d1, d2⟩, fun keep torn cut => .inl ⟨by rw [d1]; decide, w_mend (by rw [write_pages, hps]) (by rw [d3]; exact hwl) (by rw [d4, c3]) keep torn cut⟩⟩
    · have k2 : ¬ writeE t ((gen + 1) % 2) (hpg (gen + 1) N) ≠ 0 := fun x => x d1
      rw [if_neg k2, if_neg k2]
      have hpu : (writeD t ((gen + 1) % 2) (hpg (gen + 1) N)).pages = 9 := by rw [write_pages, hps]
      obtain ⟨u, hu⟩ : ∃ u, u = writeD t ((gen + 1) % 2) (hpg (gen + 1) N) := ⟨_, rfl⟩
      rw [← hu] at d2 d3 d4 hpu ⊢
      rw [c3] at d4
      have d4' : u.cache = [((gen + 1) % 2, hpg (gen + 1) N)] := d4
      rcases sy_cases d2 with ⟨e1, e2, e3, e4⟩ | ⟨e1, e2, e3, e4⟩
      · refine ⟨.inl ⟨e1, e2⟩, fun keep torn cut => ?_⟩
        obtain ⟨k, hk, hm⟩ := mend_one (s := syncD u) (by rw [e4]; exact d4') keep torn cut
        rw [e3, d3] at hm
        have hps3 : (mendS (syncD u) keep torn cut).pages = 9 := by
          show (syncD u).pages = 9
          rw [sync_pages, hpu]
        rcases hwl.head (L' := (mendS (syncD u) keep torn cut).last) hg (by omega) (by omega) (by omega) hk hm with hw | hw
        · exact .inl ⟨by rw [e1]; decide, rfl, rfl, hps3, hw⟩
        · exact .inr ⟨⟨rfl, rfl, hps3, hw⟩, fun hp => by rw [hm, if_neg (by omega)]; exact hN hp⟩
      · refine ⟨.inr e1, fun keep torn cut => .inr ?_⟩
        have hm : ∀ n, (mendS (syncD u) keep torn cut).last n = if n = (gen + 1) % 2 then hpg (gen + 1) N else t.last n := fun n => by
          rw [mend_none e3, e4, hasP_cons (s := t) d3 (by rw [d4', c3]; rfl) n]
          split
          · rfl
          · exact hasP_last (fun x hx => by simp [c3] at hx)
        have hps3 : (mendS (syncD u) keep torn cut).pages = 9 := by
          show (syncD u).pages = 9
          rw [sync_pages, hpu]
        refine ⟨⟨rfl, rfl, hps3, ⟨by omega, by omega⟩, ⟨by omega, by omega, by omega⟩, by rw [hm, if_pos rfl], ?_, by rw [hm, if_neg (by omega)]; exact hwl.p3, fun i => ?_⟩, fun hp => by rw [hm, if_neg (by omega)]; exact hN hp⟩
        · rw [hm, if_neg (by omega), show (gen + 1 + 1) % 2 = gen % 2 by omega, hwl.h1]
          exact Torn.next g0.1 (by omega)
        · rw [hm]
          split
          · exact hpg_by _ _
          · exact hwl.by_ i
theorem w_first {f : List Int} (fl : f.length = 508) (fb : BY f) : wrE (frS 9) 3 f = 0 ∧ comE (wrD (frS 9) 3 f) 1 false 3 = 0 ∧ comG (wrD (frS 9) 3 f) 0 1 false 3 = (3, 2, false) ∧ WI f (comD (wrD (frS 9) 3 f) 1 false 3) 3 2 := by
  have hF := frS_hy 9 (by decide)
  have hps := frS_pages 9
  have hdb : DB (frS 9) := (DB.new _).fmt
  have e1 : ¬ hasN 3 (frS 9).pages = false := by rw [hps]; decide
  have e2 : ¬ f.length ≠ 508 := by omega
  have eE : wrE (frS 9) 3 f = writeE (frS 9) 3 (pageB f) := by unfold wrE; rw [if_neg e1, if_neg e2]
  have eD : wrD (frS 9) 3 f = writeD (frS 9) 3 (pageB f) := by unfold wrD; rw [if_neg e1, if_neg e2]
  have hw := hy_write hF.2.1 (q := 3) (b := pageB f) (by decide) (by rw [hps]; decide) (by rw [pageB_len, fl])
  rw [eE, eD]
  obtain ⟨s1, hs1⟩ : ∃ s1, s1 = writeD (frS 9) 3 (pageB f) := ⟨_, rfl⟩
  have hp1 : s1.pages = 9 := by rw [hs1, write_pages, hps]; rfl
  have hd1 : DB s1 := by rw [hs1]; exact hdb.write 3 (pageB_by fb)
  rw [← hs1] at hw ⊢
  have hbad : ¬ badR s1 3 = true := by unfold badR hasN; rw [hp1]; decide
  have hst := hy_stp hw.2.1 (by rw [hp1]; decide) (g := 1 + 1) (r := 3) (by decide)
  have hcE : comE s1 1 false 3 = stpE s1 (1 + 1) 3 := by unfold comE; rw [if_neg (by decide), if_neg hbad]
  have hcD : comD s1 1 false 3 = stpD s1 (1 + 1) 3 := by unfold comD; rw [if_neg (by decide), if_neg hbad]
  have hca : (stpD s1 (1 + 1) 3).cache = [] := by
    have h1 := hy_sync hw.2.1
    have h2 := hy_lay h1.2.1 (by rw [sync_pages, hp1]; decide) (g := 1 + 1) (r := 3) (by decide)
    have h3 := hy_sync h2.2.1
    unfold stpD
    rw [if_neg (fun x => x h1.1), if_neg (fun x => x h2.1)]
    have a1 : ¬ (layD (syncD s1) (1 + 1) 3).down = true := by rw [h2.2.1.1]; decide
    have a2 : ¬ (layD (syncD s1) (1 + 1) 3).left = 0 := by rw [h2.2.1.2]; decide
    show (syncD (layD (syncD s1) (1 + 1) 3)).cache = []
    generalize layD (syncD s1) (1 + 1) 3 = u at a1 a2
    unfold syncD
    rw [if_neg a1, if_neg a2]
    rfl
  have hlast : ∀ n, (stpD s1 (1 + 1) 3).last n = hasP (stpD s1 (1 + 1) 3) n := fun n => (hasP_last (fun x hx => by rw [hca] at hx; cases hx)).symm
  refine ⟨hw.1, hcE.trans hst.1, by unfold comG; rw [if_neg (by decide), if_neg hbad, if_pos hst.1]; rfl, ?_⟩
  rw [hcD]
  refine ⟨hst.2.1.1, hca, by rw [stpD_pages, hp1], by decide, by decide, ?_, ?_, ?_, (hd1.stp _ _).1⟩
  · rw [hlast, hst.2.2, if_pos (by decide)]; rfl
  · rw [hlast, hst.2.2, if_neg (by decide), hw.2.2, if_neg (by decide), hF.2.2, if_pos (by decide)]
    exact Torn.next (gen := 1) (by decide) (by decide)
  · rw [hlast, hst.2.2, if_neg (by decide), hw.2.2, if_pos rfl]
end Go.Proofs.Ytmjmichkkmmdcaa.P
end
section
namespace Go.Proofs.Ytmjmichkkmmdcaa.P
open Go.RowKit Go.Proofs.Ytmjmichkkmmdcaa.Pure Go.Proofs.YtmjmichkkmmdcaaW.PrintWords Go.Proofs.YtmjmichkkmmdcaaW.PrintLast Go.Proofs.YtmjmichkkmmdcaaW.PrintMore
attribute [local go_sem] guard_ptr eqp28 eqp29
set_option linter.unusedVariables false
set_option linter.unusedSimpArgs false
structure RI (s : Dk) (root gen : Int) : Prop where
  hy : Hy s
  db : DB s
  ps : s.pages = 9
  g0 : 1 ≤ gen
  g1 : gen ≤ 1000
  r : 0 ≤ root ∧ root ≠ 1 ∧ root < 9
  h1 : hasP s (gen % 2) = hpg gen root
  h2 : ∃ r2, 0 ≤ r2 ∧ r2 ≠ 1 ∧ r2 < 9 ∧ hasP s ((gen - 1) % 2) = hpg (gen - 1) r2
theorem RI.opn {s : Dk} {root gen : Int} (h : RI s root gen) : opnE s = 0 ∧ opnP s = some (gen, root) := by
  obtain ⟨r2, q0, q1, q2, hh⟩ := h.h2
  have g0 := h.g0
  have g1 := h.g1
  have hp := h.ps
  exact opn_two h.hy.1 (by omega) (by omega) (g2 := gen - 1) (r2 := r2) (by omega) (by omega) (by omega) (by omega) h.r.1 h.r.2.1 (by have := h.r.2.2; omega) q0 q1 (by omega) h.h1 hh
theorem C_int {W : World} {A : Option Addr} {n : Nat} {xs : List Int} (h : Kd.C (Kd.int .i64) W A n xs) (k : Nat) (hk : k < n) : ∃ ad, A = some ad ∧ W.cell? (ad.add k) = some (.int .i64 (xs.getD k 0)) := by
  obtain ⟨_, _, h3⟩ := h
  have hxl : xs.length = n := by assumption
  obtain ⟨ad, e, hc⟩ := h3 (by omega)
  refine ⟨ad, e, ?_⟩
  have hkl : k < xs.length := by omega
  obtain ⟨cs, hl, hK, hcell⟩ := hc k xs[k] (List.getElem?_eq_getElem hkl)
  have e1 : cs = [.int .i64 xs[k]] := hK
  subst e1
  have h0 := hcell 0 (.int .i64 xs[k]) rfl
  have e2 : k * 1 + 0 = k := by omega
  rw [List.getD_eq_getElem?_getD, List.getElem?_eq_getElem hkl]
  simpa [Kd.int, Kd.scalar, e2] using h0
end Go.Proofs.Ytmjmichkkmmdcaa.P
end
section
namespace Go.Proofs.Ytmjmichkkmmdcaa.P
open Go.RowKit Go.Proofs.Ytmjmichkkmmdcaa.Pure Go.Proofs.YtmjmichkkmmdcaaW.PrintWords Go.Proofs.YtmjmichkkmmdcaaW.PrintLast Go.Proofs.YtmjmichkkmmdcaaW.PrintMore
attribute [local go_sem] guard_ptr eqp28 eqp29
set_option linter.unusedVariables false
set_option linter.unusedSimpArgs false
theorem build2 (w : World) (x : Int) : (Instr.buildSlice 22 2 #[(0, .int .u8 x), (1, .int .u8 7)]).run Try.prog w = .ok (.slice (some ⟨w.heap.size, 0, none⟩) 2 2) (w.alloc (.cells #[.int .u8 x, .int .u8 7] 5)) := by
  have h := info5
  cases hi : Try.prog.info? 5 with
  | none => rw [hi] at h; cases h
  | some it =>
    rw [hi] at h
    simp only [Option.map_some, Option.some.injEq, Prod.mk.injEq] at h
    refine run_buildSlice w 22 5 2 _ _ it _ Try.underlying22 hi h.1 (by rw [h.2.1]; decide) (by rw [h.2.1]; decide) ?_
    rw [h.2.1]
    first | kernel_rfl | rfl | (simp [Instr.fill, Value.cells]; done)
attribute [local go_sem] build2
theorem lit2 (W : World) (x : Int) (fr : Nat × Nat) : Kd.C (Kd.int .u8) (W.alloc (.cells #[.int .u8 x, .int .u8 7] 5 fr)) (some ⟨W.heap.size, 0, none⟩) 2 ([x, 7] : List Int) := by
  refine Kd.C_of_reads (enc := Value.int .u8) (d := (0 : Int)) (h1 := fun _ => rfl) ⟨rfl, by decide, fun _ => ⟨_, rfl, ?_⟩⟩
  intro j hj
  have h : ∀ i : Nat, (W.alloc (.cells #[.int .u8 x, .int .u8 7] 5 fr)).cell? ⟨W.heap.size, i, none⟩ = (#[.int .u8 x, .int .u8 7] : Array Value)[i]? := fun i => World.cell?_alloc_mark W _ 5 fr i
  have hj9 : j = 0 ∨ j = 1 := by omega
  rcases hj9 with rfl | rfl <;> exact (h _).trans rfl
theorem wrap64_lt (z : Int) : wrap64 z < 9223372036854775808 := by unfold wrap64; omega
def quarrylaw06_PagerWhole.f (l0 l1 : List Int) (a2 : Int) (l3 : List Bool) (a4 a5 : Int) : Option Bool := if (l1.all fun x => decide (0 ≤ x ∧ x ≤ 255)) = true then some true else none
set_option maxHeartbeats 64000000 in
set_option maxRecDepth 100000 in
theorem quarrylaw06_PagerWhole.calls (A0 : Option Addr) (c0 : Nat) (l0 : List Int) (A1 : Option Addr) (c1 : Nat) (l1 : List Int) (a2 : Int) (A3 : Option Addr) (c3 : Nat) (l3 : List Bool) (a4 a5 : Int) (r0 : Bool) (w : World)
    (hr0 : Kd.C (Kd.int .i64) w A0 l0.length l0) (hc0 : l0.length ≤ c0) (hr1 : Kd.C (Kd.int .u8) w A1 l1.length l1) (hc1 : l1.length ≤ c1) (hr3 : Kd.C Kd.bool w A3 l3.length l3) (hc3 : l3.length ≤ c3) (h : quarrylaw06_PagerWhole.f l0 l1 a2 l3 a4 a5 = some r0) :
    Calls Try.prog 7 #[.slice A0 l0.length c0, .slice A1 l1.length c1, .int .i64 a2, .slice A3 l3.length c3, .int .i64 a4, .int .i64 a5] w fun e w' => e = .returned (.bool r0) ∧ Below w.heap.size w w' := by
  unfold quarrylaw06_PagerWhole.f at h
  have hall : (l1.all fun x => decide (0 ≤ x ∧ x ≤ 255)) = true := by
    by_cases hx : (l1.all fun x => decide (0 ≤ x ∧ x ≤ 255)) = true
    · exact hx
    · rw [if_neg hx] at h
      cases h
  rw [if_pos hall] at h
  obtain rfl : true = r0 := Option.some.inj h
  have hby : BY l1 := fun x hx => of_decide_eq_true (List.all_eq_true.1 hall x hx)
  have HR0 := Aside0.mk hr0
  have HR1 := Aside0.mk hr1
  have HR3 := Aside0.mk hr3
  obtain ⟨f, hf⟩ : ∃ f, f = loadB l1 := ⟨_, rfl⟩
  have HF : Aside0 (f.length = 508 ∧ BY f) := ⟨by rw [hf]; exact loadB_len _, by rw [hf]; exact loadB_by hby⟩
  have HW := Aside0.mk (w_first HF.out.1 HF.out.2)
  have hwk := works_calls w
  clear hr0 hc0 hr1 hc1 hr3 hc3 h hall hby
  go_enter Try.func7, Try.ntmps7
  go_upto_region 3 with (go_at_call 11; (with_reducible refine hwk.mono ?_); rintro e w1 ⟨rfl, hb⟩; have HB1 := Aside0.mk hb; clear hb hwk)
  have hfr := fresh_calls 9 9 rfl (by decide) (by decide) w1
  go_upto_region 6 with (go_at_call 12; (with_reducible refine hfr.mono ?_); rintro e w2 ⟨d, p, rfl, hd, hp, hz, hb⟩; have HD2 := Aside0.mk hd; have HP2 := Aside0.mk hp; have HZ2 := Aside0.mk hz; have HB2 := Aside0.mk (below_step HB1.out hb); clear hd hp hz hb hfr)
  have HZ1 := Aside0.mk (below_size HB1.out)
  have hld := load_calls 0 0 A1 c1 l1 none 0 0 0 0 w2 (Kd.C_below HR1.out HB2.out)
  rw [← hf] at hld
  clear hf
  obtain ⟨B0, hB0⟩ : ∃ B0, B0 = w2.heap.size := ⟨_, rfl⟩
  go_upto_region 7 with (go_at_call 26; (with_reducible refine hld.mono ?_); rintro e w3 ⟨g1, cc1, rfl, hg, ho, hb⟩; have HO3 := Aside0.mk (show Kd.R (Kd.int .u8) 5 w3 B0 (fun _ => True) (.slice (some ⟨g1, 0, none⟩) 508 cc1) f by rw [hB0]; exact ho); have HD3 := Aside0.mk (HD2.out.step hb); have HP3 := Aside0.mk (HP2.out.step hb); have HB3 := Aside0.mk (below_step HB2.out hb); clear hg ho hb hld hB0)
  have hwr := pwrite_calls p 3 (some ⟨g1, 0, none⟩) cc1 f w3 HD3.out (by decide) HP3.out (Kd.R_reads' HO3.out).2.2 (by rw [HF.out.1]; exact (Kd.R_reads' HO3.out).2.1) HF.out.2
  rw [HF.out.1, HW.out.1] at hwr
  obtain ⟨s1, hs1⟩ : ∃ s1, s1 = wrD (frS 9) 3 f := ⟨_, rfl⟩
  rw [← hs1] at hwr HW
  have HP1 : Aside0 (s1.pages ≤ 4096) := ⟨by
    have e : s1.pages = 9 := by
      rw [hs1]
      unfold wrD
      split
      · exact frS_pages 9
      · split
        · exact frS_pages 9
        · rw [write_pages]; exact frS_pages 9
    rw [e]; decide⟩
  have HC4 := Aside0.mk hwr
  clear hwr hs1
  go_upto_region 9 with (first
    | (go_at_call 16; (with_reducible refine HC4.out.mono ?_); rintro e w4 ⟨rfl, hd, ht⟩; have HD4 := Aside0.mk hd; have HP4 := Aside0.mk (HP3.out.tf ht); have HO4 := Aside0.mk (R5_tf HO3.out ht); have HB4 := Aside0.mk (HB3.out.trans (ht.b.mono HZ1.out)); clear hd ht)
    | (go_at_call 14; (with_reducible refine (commit_calls (dact_ds w1.heap.size d) p 3 HP1.out (by decide) (by decide) w1.heap.size (Nat.le_refl _) HZ2.out w4 HD4.out (by decide) HP4.out).mono ?_); rw [HW.out.2.1, HW.out.2.2.1]; rintro e w5 ⟨rfl, hd, ht, hp⟩; have HD5 := Aside0.mk hd; have HP5 := Aside0.mk (show PG w5 p d 3 2 false from hp); have HO5 := Aside0.mk (R5_tg HO4.out ht); have HB5 := Aside0.mk (HB4.out.trans (ht.b.mono HZ1.out)); clear hd ht hp))
  go_upto_region 10 with (go_at_call 13; (with_reducible refine (root_calls p d w5 HP5.out).mono ?_); rintro e w6 ⟨rfl, hb⟩; have HP6 := Aside0.mk (HP5.out.step hb); have HD6 := Aside0.mk (HD5.out.step hb); have HO6 := Aside0.mk (Kd.R_below HO5.out hb); have HB6 := Aside0.mk (below_step HB5.out hb); clear hb)
  clear HC4 HO3 HO4 HO5 HD2 HD3 HD4 HD5 HP2 HP3 HP4 HP5 HB1 HB2 HB3 HB4 HB5
  go_wp2_with fail
  go_loopw [14, 16, 17, 18] (fun v14 v16 v17 v18 wr => ∃ (k p : Nat) (s : Dk) (root gen : Int), v14 = .pointer (some ⟨p, 0, none⟩) ∧ v16 = .int .i64 root ∧ v17 = .int .i64 gen ∧ v18 = .int .i64 (k : Int) ∧ k ≤ 8 ∧ gen ≤ 2 + k ∧ Aside0 (DS wr w1.heap.size d s (4 + 2 * k) ∧ PG wr p d root gen false ∧ w1.heap.size ≤ p) ∧ Aside0 (WI f s root gen) ∧ Aside0 (Kd.R (Kd.int .u8) 5 wr B0 (fun _ => True) (.slice (some ⟨g1, 0, none⟩) 508 cc1) f) ∧ Aside0 (Below w.heap.size w wr)) (fun _ _ _ v18 _ => 8 - (intOf v18).toNat)
  case atStart => exact ⟨0, p, _, 3, 2, rfl, rfl, rfl, rfl, by decide, by decide, ⟨HD6.out, HP6.out, HZ2.out⟩, ⟨HW.out.2.2.2⟩, HO6, HB6⟩
  case round =>
    clear HD6 HP6 HZ2 HO6 HB6 HW HP1
    obtain ⟨k, p, s, root, gen, rfl, rfl, rfl, rfl, hk, hgk, HS, HI, HO, HB⟩ := hrel
    by_cases hlt : k < l0.length ∧ k < 8
    · obtain ⟨ad, eA, hcell⟩ := C_int HR0.out k hlt.1
      subst eA
      have x0 := (HB.out.cell (World.block_lt_of_cell? w _ hcell)).trans hcell
      obtain ⟨x, hx⟩ : ∃ x, x = l0.getD k 0 := ⟨_, rfl⟩
      rw [← hx] at x0
      have hq7 := modU_range 7 (by decide) (by decide) x
      obtain ⟨q, hq⟩ : ∃ q, q = 2 + modU 7 x := ⟨_, rfl⟩
      have HQ : Aside0 (2 ≤ q ∧ q < 9) := ⟨by omega⟩
      have hq2 : wrap64 (2 + wrap64 ((IntKind.u64.wrap x).tmod 7)) = q := by
        show wrap64 (2 + modU 7 x) = _
        rw [hq]
        unfold wrap64
        omega
      have HK := Aside0.mk hlt
      have h1i : (k : Int) < (l0.length : Int) := Int.ofNat_lt.2 hlt.1
      have h2i : (k : Int) < 8 := by omega
      have b1 : decide ((k : Int) < (l0.length : Int)) = true := decide_eq_true h1i
      have b2 : ((k : Int) < (l0.length : Int)) = True := eq_true h1i
      have b3 : decide ((k : Int) < 8) = true := decide_eq_true h2i
      have b4 : ((k : Int) < 8) = True := eq_true h2i
      have b5 : (k < l0.length) = True := eq_true hlt.1
      have b7 : (k < 8) = True := eq_true hlt.2
      have g0 : (0 : Int) ≤ (k : Int) := Int.natCast_nonneg k
      have w2_ : wrap64 ((k : Int) + 1) = (k : Int) + 1 := by unfold wrap64; omega
      have u1 : IntKind.u8.wrap (k : Int) = (k : Int) := by rw [IntKind.wrap_u8]; omega
      have u2 : (k : Int) % 256 = (k : Int) := by omega
      have hgr := HI.out.wl.g
      have HG : Aside0 (0 ≤ gen ∧ gen < 198 ∧ gen ≤ 2 + k) := ⟨hgr.1, by omega, hgk⟩
      have hw1 : wrap64 (gen + 1) = gen + 1 := by unfold wrap64; omega
      have hw2 : IntKind.i64.wrap (gen + 1) = gen + 1 := by rw [IntKind.wrap_i64]; omega
      have gA : decide (gen = gen + 1) = false := decide_eq_false (by omega)
      have gB : decide (gen + 1 = gen) = false := decide_eq_false (by omega)
      have gC : (gen == gen + 1) = false := beq_eq_false_iff_ne.mpr (by omega)
      have gD : (gen + 1 == gen) = false := beq_eq_false_iff_ne.mpr (by omega)
      have hbb : BY ([(k : Int), 7] : List Int) := fun y hy => by
        simp at hy
        omega
      obtain ⟨b, hb_⟩ : ∃ b, b = loadB [(k : Int), 7] := ⟨_, rfl⟩
      have HBB : Aside0 (b.length = 508 ∧ BY b) := ⟨by rw [hb_]; exact loadB_len _, by rw [hb_]; exact loadB_by hbb⟩
      clear hlt hk hgk hcell hx hq hq7 h1i h2i hbb hgr
      go_upto_region 14 with fail
      rw [hq2]
      clear hq2
      have hbm := below_mark wr (.cells #[.int .u8 (k : Int), .int .u8 7] 5)
      have HDa := Aside0.mk (HS.out.1.step hbm)
      have HPa := Aside0.mk (HS.out.2.1.step hbm)
      have HOa := Aside0.mk (Kd.R_below HO.out hbm)
      have HBa := Aside0.mk (below_step HB.out hbm)
      have hld : Calls Try.prog 26 #[.agg #[.int .i64 0, .int .i64 0, .slice (some ⟨wr.heap.size, 0, none⟩) 2 2, .slice none 0 0, .int .i64 0, .int .i64 0]] (wr.alloc (.cells #[.int .u8 (k : Int), .int .u8 7] 5)) fun e w' => ∃ g c', e = .returned (.slice (some ⟨g, 0, none⟩) 508 c') ∧ (wr.alloc (.cells #[.int .u8 (k : Int), .int .u8 7] 5)).heap.size ≤ g ∧ Kd.R (Kd.int .u8) 5 w' (wr.alloc (.cells #[.int .u8 (k : Int), .int .u8 7] 5)).heap.size (fun _ => True) (.slice (some ⟨g, 0, none⟩) 508 c') (loadB [(k : Int), 7]) ∧ Below (wr.alloc (.cells #[.int .u8 (k : Int), .int .u8 7] 5)).heap.size (wr.alloc (.cells #[.int .u8 (k : Int), .int .u8 7] 5)) w' := load_calls 0 0 (some ⟨wr.heap.size, 0, none⟩) 2 [(k : Int), 7] none 0 0 0 0 _ (lit2 wr (k : Int) (0, 0))
      rw [← hb_] at hld
      clear hbm hb_
      go_upto_region 15 with (go_at_call 26; (with_reducible refine hld.mono ?_); rintro e w3 ⟨g2, cc2, rfl, hg, ho, hb⟩; have HR_ := Aside0.mk ho; have HDb := Aside0.mk (HDa.out.step hb); have HPb := Aside0.mk (HPa.out.step hb); have HOb := Aside0.mk (Kd.R_below HOa.out hb); have HBb := Aside0.mk (below_step HBa.out hb); clear hg ho hb hld x0)
      obtain ⟨B2, hB2⟩ : ∃ B2, B2 = (wr.alloc (.cells #[.int .u8 (k : Int), .int .u8 7] 5)).heap.size := ⟨_, rfl⟩
      rw [← hB2] at HR_
      have HZp := Aside0.mk HS.out.2.2
      clear hB2 HDa HPa HOa HBa HS HB HO
      by_cases h3 : q = 3
      · subst h3
        go_upto_region 18 with (go_at_call 27; (with_reducible refine (ds_arm _ (wrap64_lt _) _ HDb.out).mono ?_); rintro e w5 ⟨⟨u, rfl⟩, hd, ht⟩; have HDK : ∃ K : Int, DS w5 w1.heap.size d { s with left := K } (4 + 2 * k) := ⟨_, hd⟩; obtain ⟨K, hK⟩ := HDK; have HDc := Aside0.mk hK; have HPc := Aside0.mk (HPb.out.tf ht); have HOc := Aside0.mk (R5_tf HOb.out ht); have HRc := Aside0.mk (R5_tf HR_.out ht); have HBc := Aside0.mk (HBb.out.trans (ht.b.mono HZ1.out)); clear hd ht hK HDb HPb HOb HR_ HBb)
        have HM := Aside0.mk (w_start HI.out HBB.out.1 HBB.out.2 K)
        clear HI
        have hwc := w_commit HM.out HG.out.2.1
        have hcmt := commit_calls (dact_ds w1.heap.size d) p 0 (by rw [HM.out.ps]; decide) HG.out.1 (by have := HG.out.2.1; omega) w1.heap.size (Nat.le_refl _) HZp.out w5 HDc.out (by have := HK.out.2; omega) HPc.out
        have HWC := Aside0.mk (hwc.2 l3 a4 a5)
        have hwc1 := hwc.1
        clear hwc
        rcases hwc1 with ⟨e9, dn⟩ | e0
        · skip
          have HDN0 := Aside0.mk dn
          clear dn
          rw [e9] at hcmt HWC
          clear e9
          go_upto_region 23 with (go_at_call 14; (with_reducible refine hcmt.mono ?_); rintro e w6 ⟨rfl, hd, ht, _⟩; have HD6 := Aside0.mk hd; have HO6 := Aside0.mk (R5_tg HOc.out ht); have HR6 := Aside0.mk (R5_tg HRc.out ht); have HB6 := Aside0.mk (HBc.out.trans (ht.b.mono HZ1.out)); clear hd ht hcmt HDc HPc HOc HRc HBc)
          obtain ⟨s2, hs2⟩ : ∃ s2, s2 = comD { s with left := K } gen false 0 := ⟨_, rfl⟩
          rw [← hs2] at HD6 HWC HDN0
          clear hs2 HM
          have HDN := HDN0
          clear HDN0
          rcases HWC.out with ⟨_, hI⟩ | ⟨hI, hN⟩
          · have HI3 := Aside0.mk hI
            clear hI HWC
            go_upto_region 25 with (go_at_call 28; (with_reducible refine (ds_down _ HD6.out).mono ?_); rw [HDN.out]; rintro e w7 ⟨rfl, hb⟩; have HD7 := Aside0.mk (HD6.out.step hb); have HO7 := Aside0.mk (Kd.R_below HO6.out hb); have HR7 := Aside0.mk (Kd.R_below HR6.out hb); have HB7 := Aside0.mk (below_step HB6.out hb); clear hb HD6 HO6 HR6 HB6 HDN)
            have hmd := ds_mend A3 c3 l3 a4 a5 w7 HD7.out (Kd.C_below HR3.out HB7.out)
            obtain ⟨s3, hs3⟩ : ∃ s3, s3 = mendS s2 l3 a4 a5 := ⟨_, rfl⟩
            rw [← hs3] at hmd HI3
            clear hs3
            go_upto_region 26 with (go_at_call 29; (with_reducible refine hmd.mono ?_); rintro e w8 ⟨⟨u, rfl⟩, hd, ht⟩; have HD8 := Aside0.mk hd; have HO8 := Aside0.mk (R5_tf HO7.out ht); have HR8 := Aside0.mk (R5_tf HR7.out ht); have HB8 := Aside0.mk (HB7.out.trans (ht.b.mono HZ1.out)); clear hd ht hmd HD7 HO7 HR7 HB7)
            have hop := open_calls 9 HI3.out.ps (by decide) HI3.out.db w8 HD8.out
            have HOP := Aside0.mk HI3.out.opn
            go_upto_region 29 with (go_at_call 15; (with_reducible refine hop.mono ?_); rintro e w9 ⟨hb, po, rfl, _, hpo⟩; rw [HOP.out.1]; obtain ⟨q2, rfl, hq, hpg⟩ := hpo _ HOP.out.1 HOP.out.2; have HP9 := Aside0.mk (show PG w9 q2 d root gen false from hpg); have HQZ := Aside0.mk (Nat.le_trans HD8.out.base_le hq); have HD9 := Aside0.mk (HD8.out.step hb); have HO9 := Aside0.mk (Kd.R_below HO8.out hb); have HR9 := Aside0.mk (Kd.R_below HR8.out hb); have HB9 := Aside0.mk (below_step HB8.out hb); clear hb hpo hq hpg hop HD8 HO8 HR8 HB8)
            go_upto_region 30 with (go_at_call 13; (with_reducible refine (root_calls q2 d w9 HP9.out).mono ?_); rintro e w10 ⟨rfl, hb⟩; have HP10 := Aside0.mk (HP9.out.step hb); have HD10 := Aside0.mk (HD9.out.step hb); have HO10 := Aside0.mk (Kd.R_below HO9.out hb); have HR10 := Aside0.mk (Kd.R_below HR9.out hb); have HB10 := Aside0.mk (below_step HB9.out hb); clear hb HP9 HD9 HO9 HR9 HB9)
            have HRD := Aside0.mk (HI3.out.rd (n := 3) (by decide) (by decide) HF.out.1 HI3.out.wl.p3)
            have hrd := pread_calls q2 3 HI3.out.db w10 HD10.out HP10.out
            rw [HRD.out.1, HRD.out.2] at hrd
            by_cases hr : root = 0
            · as_aux_lemma =>
                have hr2 := hr.symm
                clear hr
                subst hr2
                go_upto_region 34 with fail
                go_upto_region 35 with (go_at_call 19; (with_reducible refine hrd.mono ?_); rintro e w11 ⟨hb, v11, rfl, hv⟩; obtain ⟨g11, c11, rfl, hC11⟩ : ∃ g11 c11, v11 = .slice (some ⟨g11, 0, none⟩) 508 c11 ∧ Kd.C (Kd.int .u8) w11 (some ⟨g11, 0, none⟩) 508 f := (by rcases hv with ⟨hn, _⟩ | ⟨_, g11, c11, _, _, e, hc⟩; exact absurd rfl hn; exact ⟨g11, c11, e, by rw [page_take HF.out.1] at hc; exact hc⟩); have HC11 := Aside0.mk hC11; have HP11 := Aside0.mk (HP10.out.step hb); have HD11 := Aside0.mk (HD10.out.step hb); have HO11 := Aside0.mk (Kd.R_below HO10.out hb); have HR11 := Aside0.mk (Kd.R_below HR10.out hb); have HB11 := Aside0.mk (below_step HB10.out hb); clear hb hv hC11 hrd HP10 HD10 HO10 HR10 HB10)
                obtain ⟨st, hst⟩ : ∃ st, st = strOfNums f := ⟨_, rfl⟩
                have cA : (convert 22 9 (.slice (some ⟨g11, 0, none⟩) 508 c11)).run Try.prog w11 = .ok (.string st) w11 := by
                  have := Kd.C_string (c := c11) Try.underlying22 Try.underlying5 Try.underlying9 (show Kd.C (Kd.int .u8) w11 (some ⟨g11, 0, none⟩) f.length f by rw [HF.out.1]; exact HC11.out)
                  rw [HF.out.1] at this
                  rw [hst]
                  exact this
                have cB : (convert 22 9 (.slice (some ⟨g1, 0, none⟩) 508 cc1)).run Try.prog w11 = .ok (.string st) w11 := by rw [hst]; exact row_string HO11.out
                clear hst
                go_wp2_with fail
                go_roundw
                case rel => exact ⟨k + 1, q2, s3, 0, gen, rfl, rfl, by first | rfl | exact congrArg (Value.int .i64) hw1, by first | exact congrArg (Value.int .i64) w2_ | rfl, HK.out.2, by have := HG.out.2.2; omega, ⟨HD11.out.more (by omega), HP11.out, HQZ.out⟩, HI3, HO11, HB11⟩
                case measure => exact meas_lt HK.out.2 (by first | exact congrArg (Value.int .i64) w2_ | rfl)
            · as_aux_lemma =>
                have e1 : decide (root = 0) = false := decide_eq_false hr
                have e2 : decide ((0 : Int) = root) = false := decide_eq_false (fun h => hr h.symm)
                have e3 : (root == 0) = false := beq_eq_false_iff_ne.mpr hr
                have e4 : ((0 : Int) == root) = false := beq_eq_false_iff_ne.mpr (fun h => hr h.symm)
                clear hr
                go_upto_region 34 with fail
                go_upto_region 35 with (go_at_call 19; (with_reducible refine hrd.mono ?_); rintro e w11 ⟨hb, v11, rfl, hv⟩; obtain ⟨g11, c11, rfl, hC11⟩ : ∃ g11 c11, v11 = .slice (some ⟨g11, 0, none⟩) 508 c11 ∧ Kd.C (Kd.int .u8) w11 (some ⟨g11, 0, none⟩) 508 f := (by rcases hv with ⟨hn, _⟩ | ⟨_, g11, c11, _, _, e, hc⟩; exact absurd rfl hn; exact ⟨g11, c11, e, by rw [page_take HF.out.1] at hc; exact hc⟩); have HC11 := Aside0.mk hC11; have HP11 := Aside0.mk (HP10.out.step hb); have HD11 := Aside0.mk (HD10.out.step hb); have HO11 := Aside0.mk (Kd.R_below HO10.out hb); have HR11 := Aside0.mk (Kd.R_below HR10.out hb); have HB11 := Aside0.mk (below_step HB10.out hb); clear hb hv hC11 hrd HP10 HD10 HO10 HR10 HB10)
                obtain ⟨st, hst⟩ : ∃ st, st = strOfNums f := ⟨_, rfl⟩
                have cA : (convert 22 9 (.slice (some ⟨g11, 0, none⟩) 508 c11)).run Try.prog w11 = .ok (.string st) w11 := by
                  have := Kd.C_string (c := c11) Try.underlying22 Try.underlying5 Try.underlying9 (show Kd.C (Kd.int .u8) w11 (some ⟨g11, 0, none⟩) f.length f by rw [HF.out.1]; exact HC11.out)
                  rw [HF.out.1] at this
                  rw [hst]
                  exact this
                have cB : (convert 22 9 (.slice (some ⟨g1, 0, none⟩) 508 cc1)).run Try.prog w11 = .ok (.string st) w11 := by rw [hst]; exact row_string HO11.out
                clear hst
                go_wp2_with fail
                go_roundw
                case rel => exact ⟨k + 1, q2, s3, root, gen, rfl, rfl, by first | rfl | exact congrArg (Value.int .i64) hw1, by first | exact congrArg (Value.int .i64) w2_ | rfl, HK.out.2, by have := HG.out.2.2; omega, ⟨HD11.out.more (by omega), HP11.out, HQZ.out⟩, HI3, HO11, HB11⟩
                case measure => exact meas_lt HK.out.2 (by first | exact congrArg (Value.int .i64) w2_ | rfl)
          · have HI3 := Aside0.mk hI
            have HN3 := Aside0.mk hN
            clear hI hN HWC
            go_upto_region 25 with (go_at_call 28; (with_reducible refine (ds_down _ HD6.out).mono ?_); rw [HDN.out]; rintro e w7 ⟨rfl, hb⟩; have HD7 := Aside0.mk (HD6.out.step hb); have HO7 := Aside0.mk (Kd.R_below HO6.out hb); have HR7 := Aside0.mk (Kd.R_below HR6.out hb); have HB7 := Aside0.mk (below_step HB6.out hb); clear hb HD6 HO6 HR6 HB6 HDN)
            have hmd := ds_mend A3 c3 l3 a4 a5 w7 HD7.out (Kd.C_below HR3.out HB7.out)
            obtain ⟨s3, hs3⟩ : ∃ s3, s3 = mendS s2 l3 a4 a5 := ⟨_, rfl⟩
            rw [← hs3] at hmd HI3 HN3
            clear hs3
            go_upto_region 26 with (go_at_call 29; (with_reducible refine hmd.mono ?_); rintro e w8 ⟨⟨u, rfl⟩, hd, ht⟩; have HD8 := Aside0.mk hd; have HO8 := Aside0.mk (R5_tf HO7.out ht); have HR8 := Aside0.mk (R5_tf HR7.out ht); have HB8 := Aside0.mk (HB7.out.trans (ht.b.mono HZ1.out)); clear hd ht hmd HD7 HO7 HR7 HB7)
            have hop := open_calls 9 HI3.out.ps (by decide) HI3.out.db w8 HD8.out
            have HOP := Aside0.mk HI3.out.opn
            go_upto_region 29 with (go_at_call 15; (with_reducible refine hop.mono ?_); rintro e w9 ⟨hb, po, rfl, _, hpo⟩; rw [HOP.out.1]; obtain ⟨q2, rfl, hq, hpg⟩ := hpo _ HOP.out.1 HOP.out.2; have HP9 := Aside0.mk (show PG w9 q2 d 0 (gen + 1) false from hpg); have HQZ := Aside0.mk (Nat.le_trans HD8.out.base_le hq); have HD9 := Aside0.mk (HD8.out.step hb); have HO9 := Aside0.mk (Kd.R_below HO8.out hb); have HR9 := Aside0.mk (Kd.R_below HR8.out hb); have HB9 := Aside0.mk (below_step HB8.out hb); clear hb hpo hq hpg hop HD8 HO8 HR8 HB8)
            go_upto_region 30 with (go_at_call 13; (with_reducible refine (root_calls q2 d w9 HP9.out).mono ?_); rintro e w10 ⟨rfl, hb⟩; have HP10 := Aside0.mk (HP9.out.step hb); have HD10 := Aside0.mk (HD9.out.step hb); have HO10 := Aside0.mk (Kd.R_below HO9.out hb); have HR10 := Aside0.mk (Kd.R_below HR9.out hb); have HB10 := Aside0.mk (below_step HB9.out hb); clear hb HP9 HD9 HO9 HR9 HB9)
            have HRD := Aside0.mk (HI3.out.rd (n := 3) (by decide) (by decide) HF.out.1 HI3.out.wl.p3)
            have hrd := pread_calls q2 3 HI3.out.db w10 HD10.out HP10.out
            rw [HRD.out.1, HRD.out.2] at hrd
            by_cases hr : root = 0
            · as_aux_lemma =>
                have hr2 := hr.symm
                clear hr
                subst hr2
                go_upto_region 34 with fail
                go_upto_region 35 with (go_at_call 19; (with_reducible refine hrd.mono ?_); rintro e w11 ⟨hb, v11, rfl, hv⟩; obtain ⟨g11, c11, rfl, hC11⟩ : ∃ g11 c11, v11 = .slice (some ⟨g11, 0, none⟩) 508 c11 ∧ Kd.C (Kd.int .u8) w11 (some ⟨g11, 0, none⟩) 508 f := (by rcases hv with ⟨hn, _⟩ | ⟨_, g11, c11, _, _, e, hc⟩; exact absurd rfl hn; exact ⟨g11, c11, e, by rw [page_take HF.out.1] at hc; exact hc⟩); have HC11 := Aside0.mk hC11; have HP11 := Aside0.mk (HP10.out.step hb); have HD11 := Aside0.mk (HD10.out.step hb); have HO11 := Aside0.mk (Kd.R_below HO10.out hb); have HR11 := Aside0.mk (Kd.R_below HR10.out hb); have HB11 := Aside0.mk (below_step HB10.out hb); clear hb hv hC11 hrd HP10 HD10 HO10 HR10 HB10)
                obtain ⟨st, hst⟩ : ∃ st, st = strOfNums f := ⟨_, rfl⟩
                have cA : (convert 22 9 (.slice (some ⟨g11, 0, none⟩) 508 c11)).run Try.prog w11 = .ok (.string st) w11 := by
                  have := Kd.C_string (c := c11) Try.underlying22 Try.underlying5 Try.underlying9 (show Kd.C (Kd.int .u8) w11 (some ⟨g11, 0, none⟩) f.length f by rw [HF.out.1]; exact HC11.out)
                  rw [HF.out.1] at this
                  rw [hst]
                  exact this
                have cB : (convert 22 9 (.slice (some ⟨g1, 0, none⟩) 508 cc1)).run Try.prog w11 = .ok (.string st) w11 := by rw [hst]; exact row_string HO11.out
                clear hst
                go_wp2_with fail
                go_roundw
                case rel => exact ⟨k + 1, q2, s3, 0, (gen + 1), rfl, rfl, by first | rfl | exact congrArg (Value.int .i64) hw1, by first | exact congrArg (Value.int .i64) w2_ | rfl, HK.out.2, by have := HG.out.2.2; omega, ⟨HD11.out.more (by omega), HP11.out, HQZ.out⟩, HI3, HO11, HB11⟩
                case measure => exact meas_lt HK.out.2 (by first | exact congrArg (Value.int .i64) w2_ | rfl)
            · as_aux_lemma =>
                have e1 : decide (root = 0) = false := decide_eq_false hr
                have e2 : decide ((0 : Int) = root) = false := decide_eq_false (fun h => hr h.symm)
                have e3 : (root == 0) = false := beq_eq_false_iff_ne.mpr hr
                have e4 : ((0 : Int) == root) = false := beq_eq_false_iff_ne.mpr (fun h => hr h.symm)
                clear hr
                go_upto_region 34 with fail
                go_upto_region 35 with (go_at_call 19; (with_reducible refine hrd.mono ?_); rintro e w11 ⟨hb, v11, rfl, hv⟩; obtain ⟨g11, c11, rfl, hC11⟩ : ∃ g11 c11, v11 = .slice (some ⟨g11, 0, none⟩) 508 c11 ∧ Kd.C (Kd.int .u8) w11 (some ⟨g11, 0, none⟩) 508 f := (by rcases hv with ⟨hn, _⟩ | ⟨_, g11, c11, _, _, e, hc⟩; exact absurd rfl hn; exact ⟨g11, c11, e, by rw [page_take HF.out.1] at hc; exact hc⟩); have HC11 := Aside0.mk hC11; have HP11 := Aside0.mk (HP10.out.step hb); have HD11 := Aside0.mk (HD10.out.step hb); have HO11 := Aside0.mk (Kd.R_below HO10.out hb); have HR11 := Aside0.mk (Kd.R_below HR10.out hb); have HB11 := Aside0.mk (below_step HB10.out hb); clear hb hv hC11 hrd HP10 HD10 HO10 HR10 HB10)
                obtain ⟨st, hst⟩ : ∃ st, st = strOfNums f := ⟨_, rfl⟩
                have cA : (convert 22 9 (.slice (some ⟨g11, 0, none⟩) 508 c11)).run Try.prog w11 = .ok (.string st) w11 := by
                  have := Kd.C_string (c := c11) Try.underlying22 Try.underlying5 Try.underlying9 (show Kd.C (Kd.int .u8) w11 (some ⟨g11, 0, none⟩) f.length f by rw [HF.out.1]; exact HC11.out)
                  rw [HF.out.1] at this
                  rw [hst]
                  exact this
                have cB : (convert 22 9 (.slice (some ⟨g1, 0, none⟩) 508 cc1)).run Try.prog w11 = .ok (.string st) w11 := by rw [hst]; exact row_string HO11.out
                clear hst
                go_wp2_with fail
                go_roundw
                case rel => exact ⟨k + 1, q2, s3, 0, (gen + 1), rfl, rfl, by first | rfl | exact congrArg (Value.int .i64) hw1, by first | exact congrArg (Value.int .i64) w2_ | rfl, HK.out.2, by have := HG.out.2.2; omega, ⟨HD11.out.more (by omega), HP11.out, HQZ.out⟩, HI3, HO11, HB11⟩
                case measure => exact meas_lt HK.out.2 (by first | exact congrArg (Value.int .i64) w2_ | rfl)
        · skip
          rw [e0] at hcmt HWC
          clear e0
          go_upto_region 23 with (go_at_call 14; (with_reducible refine hcmt.mono ?_); rintro e w6 ⟨rfl, hd, ht, _⟩; have HD6 := Aside0.mk hd; have HO6 := Aside0.mk (R5_tg HOc.out ht); have HR6 := Aside0.mk (R5_tg HRc.out ht); have HB6 := Aside0.mk (HBc.out.trans (ht.b.mono HZ1.out)); clear hd ht hcmt HDc HPc HOc HRc HBc)
          obtain ⟨s2, hs2⟩ : ∃ s2, s2 = comD { s with left := K } gen false 0 := ⟨_, rfl⟩
          rw [← hs2] at HD6 HWC
          clear hs2 HM
          rcases HWC.out with ⟨hx, _⟩ | ⟨hI, hN⟩
          · exact absurd rfl hx
          · have HI3 := Aside0.mk hI
            have HN3 := Aside0.mk hN
            clear hI hN HWC
            go_upto_region 25 with fail
            have hmd := ds_mend A3 c3 l3 a4 a5 w6 HD6.out (Kd.C_below HR3.out HB6.out)
            obtain ⟨s3, hs3⟩ : ∃ s3, s3 = mendS s2 l3 a4 a5 := ⟨_, rfl⟩
            rw [← hs3] at hmd HI3 HN3
            clear hs3
            go_upto_region 26 with (go_at_call 29; (with_reducible refine hmd.mono ?_); rintro e w8 ⟨⟨u, rfl⟩, hd, ht⟩; have HD8 := Aside0.mk hd; have HO8 := Aside0.mk (R5_tf HO6.out ht); have HR8 := Aside0.mk (R5_tf HR6.out ht); have HB8 := Aside0.mk (HB6.out.trans (ht.b.mono HZ1.out)); clear hd ht hmd HD6 HO6 HR6 HB6)
            have hop := open_calls 9 HI3.out.ps (by decide) HI3.out.db w8 HD8.out
            have HOP := Aside0.mk HI3.out.opn
            go_upto_region 29 with (go_at_call 15; (with_reducible refine hop.mono ?_); rintro e w9 ⟨hb, po, rfl, _, hpo⟩; rw [HOP.out.1]; obtain ⟨q2, rfl, hq, hpg⟩ := hpo _ HOP.out.1 HOP.out.2; have HP9 := Aside0.mk (show PG w9 q2 d 0 (gen + 1) false from hpg); have HQZ := Aside0.mk (Nat.le_trans HD8.out.base_le hq); have HD9 := Aside0.mk (HD8.out.step hb); have HO9 := Aside0.mk (Kd.R_below HO8.out hb); have HR9 := Aside0.mk (Kd.R_below HR8.out hb); have HB9 := Aside0.mk (below_step HB8.out hb); clear hb hpo hq hpg hop HD8 HO8 HR8 HB8)
            go_upto_region 30 with (go_at_call 13; (with_reducible refine (root_calls q2 d w9 HP9.out).mono ?_); rintro e w10 ⟨rfl, hb⟩; have HP10 := Aside0.mk (HP9.out.step hb); have HD10 := Aside0.mk (HD9.out.step hb); have HO10 := Aside0.mk (Kd.R_below HO9.out hb); have HR10 := Aside0.mk (Kd.R_below HR9.out hb); have HB10 := Aside0.mk (below_step HB9.out hb); clear hb HP9 HD9 HO9 HR9 HB9)
            have HRD := Aside0.mk (HI3.out.rd (n := 3) (by decide) (by decide) HF.out.1 HI3.out.wl.p3)
            have hrd := pread_calls q2 3 HI3.out.db w10 HD10.out HP10.out
            rw [HRD.out.1, HRD.out.2] at hrd
            by_cases hr : root = 0
            · as_aux_lemma =>
                have hr2 := hr.symm
                clear hr
                subst hr2
                go_upto_region 34 with fail
                go_upto_region 35 with (go_at_call 19; (with_reducible refine hrd.mono ?_); rintro e w11 ⟨hb, v11, rfl, hv⟩; obtain ⟨g11, c11, rfl, hC11⟩ : ∃ g11 c11, v11 = .slice (some ⟨g11, 0, none⟩) 508 c11 ∧ Kd.C (Kd.int .u8) w11 (some ⟨g11, 0, none⟩) 508 f := (by rcases hv with ⟨hn, _⟩ | ⟨_, g11, c11, _, _, e, hc⟩; exact absurd rfl hn; exact ⟨g11, c11, e, by rw [page_take HF.out.1] at hc; exact hc⟩); have HC11 := Aside0.mk hC11; have HP11 := Aside0.mk (HP10.out.step hb); have HD11 := Aside0.mk (HD10.out.step hb); have HO11 := Aside0.mk (Kd.R_below HO10.out hb); have HR11 := Aside0.mk (Kd.R_below HR10.out hb); have HB11 := Aside0.mk (below_step HB10.out hb); clear hb hv hC11 hrd HP10 HD10 HO10 HR10 HB10)
                obtain ⟨st, hst⟩ : ∃ st, st = strOfNums f := ⟨_, rfl⟩
                have cA : (convert 22 9 (.slice (some ⟨g11, 0, none⟩) 508 c11)).run Try.prog w11 = .ok (.string st) w11 := by
                  have := Kd.C_string (c := c11) Try.underlying22 Try.underlying5 Try.underlying9 (show Kd.C (Kd.int .u8) w11 (some ⟨g11, 0, none⟩) f.length f by rw [HF.out.1]; exact HC11.out)
                  rw [HF.out.1] at this
                  rw [hst]
                  exact this
                have cB : (convert 22 9 (.slice (some ⟨g1, 0, none⟩) 508 cc1)).run Try.prog w11 = .ok (.string st) w11 := by rw [hst]; exact row_string HO11.out
                clear hst
                go_wp2_with fail
                go_roundw
                case rel => exact ⟨k + 1, q2, s3, 0, (gen + 1), rfl, rfl, by first | rfl | exact congrArg (Value.int .i64) hw1, by first | exact congrArg (Value.int .i64) w2_ | rfl, HK.out.2, by have := HG.out.2.2; omega, ⟨HD11.out.more (by omega), HP11.out, HQZ.out⟩, HI3, HO11, HB11⟩
                case measure => exact meas_lt HK.out.2 (by first | exact congrArg (Value.int .i64) w2_ | rfl)
            · as_aux_lemma =>
                have e1 : decide (root = 0) = false := decide_eq_false hr
                have e2 : decide ((0 : Int) = root) = false := decide_eq_false (fun h => hr h.symm)
                have e3 : (root == 0) = false := beq_eq_false_iff_ne.mpr hr
                have e4 : ((0 : Int) == root) = false := beq_eq_false_iff_ne.mpr (fun h => hr h.symm)
                clear hr
                go_upto_region 34 with fail
                go_upto_region 35 with (go_at_call 19; (with_reducible refine hrd.mono ?_); rintro e w11 ⟨hb, v11, rfl, hv⟩; obtain ⟨g11, c11, rfl, hC11⟩ : ∃ g11 c11, v11 = .slice (some ⟨g11, 0, none⟩) 508 c11 ∧ Kd.C (Kd.int .u8) w11 (some ⟨g11, 0, none⟩) 508 f := (by rcases hv with ⟨hn, _⟩ | ⟨_, g11, c11, _, _, e, hc⟩; exact absurd rfl hn; exact ⟨g11, c11, e, by rw [page_take HF.out.1] at hc; exact hc⟩); have HC11 := Aside0.mk hC11; have HP11 := Aside0.mk (HP10.out.step hb); have HD11 := Aside0.mk (HD10.out.step hb); have HO11 := Aside0.mk (Kd.R_below HO10.out hb); have HR11 := Aside0.mk (Kd.R_below HR10.out hb); have HB11 := Aside0.mk (below_step HB10.out hb); clear hb hv hC11 hrd HP10 HD10 HO10 HR10 HB10)
                obtain ⟨st, hst⟩ : ∃ st, st = strOfNums f := ⟨_, rfl⟩
                have cA : (convert 22 9 (.slice (some ⟨g11, 0, none⟩) 508 c11)).run Try.prog w11 = .ok (.string st) w11 := by
                  have := Kd.C_string (c := c11) Try.underlying22 Try.underlying5 Try.underlying9 (show Kd.C (Kd.int .u8) w11 (some ⟨g11, 0, none⟩) f.length f by rw [HF.out.1]; exact HC11.out)
                  rw [HF.out.1] at this
                  rw [hst]
                  exact this
                have cB : (convert 22 9 (.slice (some ⟨g1, 0, none⟩) 508 cc1)).run Try.prog w11 = .ok (.string st) w11 := by rw [hst]; exact row_string HO11.out
                clear hst
                go_wp2_with fail
                go_roundw
                case rel => exact ⟨k + 1, q2, s3, 0, (gen + 1), rfl, rfl, by first | rfl | exact congrArg (Value.int .i64) hw1, by first | exact congrArg (Value.int .i64) w2_ | rfl, HK.out.2, by have := HG.out.2.2; omega, ⟨HD11.out.more (by omega), HP11.out, HQZ.out⟩, HI3, HO11, HB11⟩
                case measure => exact meas_lt HK.out.2 (by first | exact congrArg (Value.int .i64) w2_ | rfl)
      · have H3 := Aside0.mk h3
        have t0 : decide (q = 3) = false := decide_eq_false h3
        have t1 : (q == 3) = false := beq_eq_false_iff_ne.mpr h3
        have y1 : decide ((0 : Int) < q) = true := decide_eq_true (by have := HQ.out.1; omega)
        have y2 : ((0 : Int) < q) = True := eq_true (by have := HQ.out.1; omega)
        clear h3
        go_upto_region 18 with (go_at_call 27; (with_reducible refine (ds_arm _ (wrap64_lt _) _ HDb.out).mono ?_); rintro e w5 ⟨⟨u, rfl⟩, hd, ht⟩; have HDK : ∃ K : Int, DS w5 w1.heap.size d { s with left := K } (4 + 2 * k) := ⟨_, hd⟩; obtain ⟨K, hK⟩ := HDK; have HDc := Aside0.mk hK; have HPc := Aside0.mk (HPb.out.tf ht); have HOc := Aside0.mk (R5_tf HOb.out ht); have HRc := Aside0.mk (R5_tf HR_.out ht); have HBc := Aside0.mk (HBb.out.trans (ht.b.mono HZ1.out)); clear hd ht hK HDb HPb HOb HR_ HBb)
        have hww := w_write HI.out HBB.out.1 HBB.out.2 K HQ.out.1 HQ.out.2 H3.out
        have hwr := pwrite_calls p q (some ⟨g2, 0, none⟩) cc2 b w5 HDc.out (by have := HK.out.2; omega) HPc.out (Kd.R_reads' HRc.out).2.2 (by rw [HBB.out.1]; exact (Kd.R_reads' HRc.out).2.1) HBB.out.2
        rw [HBB.out.1] at hwr
        clear HI
        rcases hww with ⟨e9, dn, hm⟩ | ⟨e0, hm⟩
        · have HDN := Aside0.mk dn
          have HI3 := Aside0.mk (hm l3 a4 a5)
          rw [e9] at hwr
          clear e9 dn hm
          go_upto_region 23 with (go_at_call 16; (with_reducible refine hwr.mono ?_); rintro e w6 ⟨rfl, hd, ht⟩; have HD6 := Aside0.mk hd; have HO6 := Aside0.mk (R5_tf HOc.out ht); have HR6 := Aside0.mk (R5_tf HRc.out ht); have HB6 := Aside0.mk (HBc.out.trans (ht.b.mono HZ1.out)); clear hd ht hwr HDc HPc HOc HRc HBc)
          obtain ⟨s2, hs2⟩ : ∃ s2, s2 = wrD { s with left := K } q b := ⟨_, rfl⟩
          rw [← hs2] at HD6 HI3 HDN
          clear hs2
          go_upto_region 25 with (go_at_call 28; (with_reducible refine (ds_down _ HD6.out).mono ?_); rw [HDN.out]; rintro e w7 ⟨rfl, hb⟩; have HD7 := Aside0.mk (HD6.out.step hb); have HO7 := Aside0.mk (Kd.R_below HO6.out hb); have HR7 := Aside0.mk (Kd.R_below HR6.out hb); have HB7 := Aside0.mk (below_step HB6.out hb); clear hb HD6 HO6 HR6 HB6 HDN)
          have hmd := ds_mend A3 c3 l3 a4 a5 w7 HD7.out (Kd.C_below HR3.out HB7.out)
          obtain ⟨s3, hs3⟩ : ∃ s3, s3 = mendS s2 l3 a4 a5 := ⟨_, rfl⟩
          rw [← hs3] at hmd HI3
          clear hs3
          go_upto_region 26 with (go_at_call 29; (with_reducible refine hmd.mono ?_); rintro e w8 ⟨⟨u, rfl⟩, hd, ht⟩; have HD8 := Aside0.mk hd; have HO8 := Aside0.mk (R5_tf HO7.out ht); have HR8 := Aside0.mk (R5_tf HR7.out ht); have HB8 := Aside0.mk (HB7.out.trans (ht.b.mono HZ1.out)); clear hd ht hmd HD7 HO7 HR7 HB7)
          have hop := open_calls 9 HI3.out.ps (by decide) HI3.out.db w8 HD8.out
          have HOP := Aside0.mk HI3.out.opn
          go_upto_region 29 with (go_at_call 15; (with_reducible refine hop.mono ?_); rintro e w9 ⟨hb, po, rfl, _, hpo⟩; rw [HOP.out.1]; obtain ⟨q2, rfl, hq, hpg⟩ := hpo _ HOP.out.1 HOP.out.2; have HP9 := Aside0.mk (show PG w9 q2 d root gen false from hpg); have HQZ := Aside0.mk (Nat.le_trans HD8.out.base_le hq); have HD9 := Aside0.mk (HD8.out.step hb); have HO9 := Aside0.mk (Kd.R_below HO8.out hb); have HR9 := Aside0.mk (Kd.R_below HR8.out hb); have HB9 := Aside0.mk (below_step HB8.out hb); clear hb hpo hq hpg hop HD8 HO8 HR8 HB8)
          go_upto_region 30 with (go_at_call 13; (with_reducible refine (root_calls q2 d w9 HP9.out).mono ?_); rintro e w10 ⟨rfl, hb⟩; have HP10 := Aside0.mk (HP9.out.step hb); have HD10 := Aside0.mk (HD9.out.step hb); have HO10 := Aside0.mk (Kd.R_below HO9.out hb); have HR10 := Aside0.mk (Kd.R_below HR9.out hb); have HB10 := Aside0.mk (below_step HB9.out hb); clear hb HP9 HD9 HO9 HR9 HB9)
          have HRD := Aside0.mk (HI3.out.rd (n := 3) (by decide) (by decide) HF.out.1 HI3.out.wl.p3)
          have hrd := pread_calls q2 3 HI3.out.db w10 HD10.out HP10.out
          rw [HRD.out.1, HRD.out.2] at hrd
          by_cases hr : root = q
          · as_aux_lemma =>
              have hr2 := hr.symm
              clear hr
              subst hr2
              go_upto_region 34 with fail
              go_upto_region 35 with (go_at_call 19; (with_reducible refine hrd.mono ?_); rintro e w11 ⟨hb, v11, rfl, hv⟩; obtain ⟨g11, c11, rfl, hC11⟩ : ∃ g11 c11, v11 = .slice (some ⟨g11, 0, none⟩) 508 c11 ∧ Kd.C (Kd.int .u8) w11 (some ⟨g11, 0, none⟩) 508 f := (by rcases hv with ⟨hn, _⟩ | ⟨_, g11, c11, _, _, e, hc⟩; exact absurd rfl hn; exact ⟨g11, c11, e, by rw [page_take HF.out.1] at hc; exact hc⟩); have HC11 := Aside0.mk hC11; have HP11 := Aside0.mk (HP10.out.step hb); have HD11 := Aside0.mk (HD10.out.step hb); have HO11 := Aside0.mk (Kd.R_below HO10.out hb); have HR11 := Aside0.mk (Kd.R_below HR10.out hb); have HB11 := Aside0.mk (below_step HB10.out hb); clear hb hv hC11 hrd HP10 HD10 HO10 HR10 HB10)
              obtain ⟨st, hst⟩ : ∃ st, st = strOfNums f := ⟨_, rfl⟩
              have cA : (convert 22 9 (.slice (some ⟨g11, 0, none⟩) 508 c11)).run Try.prog w11 = .ok (.string st) w11 := by
                have := Kd.C_string (c := c11) Try.underlying22 Try.underlying5 Try.underlying9 (show Kd.C (Kd.int .u8) w11 (some ⟨g11, 0, none⟩) f.length f by rw [HF.out.1]; exact HC11.out)
                rw [HF.out.1] at this
                rw [hst]
                exact this
              have cB : (convert 22 9 (.slice (some ⟨g1, 0, none⟩) 508 cc1)).run Try.prog w11 = .ok (.string st) w11 := by rw [hst]; exact row_string HO11.out
              clear hst
              go_wp2_with fail
              go_roundw
              case rel => exact ⟨k + 1, q2, s3, q, gen, rfl, rfl, by first | rfl | exact congrArg (Value.int .i64) hw1, by first | exact congrArg (Value.int .i64) w2_ | rfl, HK.out.2, by have := HG.out.2.2; omega, ⟨HD11.out.more (by omega), HP11.out, HQZ.out⟩, HI3, HO11, HB11⟩
              case measure => exact meas_lt HK.out.2 (by first | exact congrArg (Value.int .i64) w2_ | rfl)
          · as_aux_lemma =>
              have e1 : decide (root = q) = false := decide_eq_false hr
              have e2 : decide ((q : Int) = root) = false := decide_eq_false (fun h => hr h.symm)
              have e3 : (root == q) = false := beq_eq_false_iff_ne.mpr hr
              have e4 : ((q : Int) == root) = false := beq_eq_false_iff_ne.mpr (fun h => hr h.symm)
              clear hr
              go_upto_region 34 with fail
              go_upto_region 35 with (go_at_call 19; (with_reducible refine hrd.mono ?_); rintro e w11 ⟨hb, v11, rfl, hv⟩; obtain ⟨g11, c11, rfl, hC11⟩ : ∃ g11 c11, v11 = .slice (some ⟨g11, 0, none⟩) 508 c11 ∧ Kd.C (Kd.int .u8) w11 (some ⟨g11, 0, none⟩) 508 f := (by rcases hv with ⟨hn, _⟩ | ⟨_, g11, c11, _, _, e, hc⟩; exact absurd rfl hn; exact ⟨g11, c11, e, by rw [page_take HF.out.1] at hc; exact hc⟩); have HC11 := Aside0.mk hC11; have HP11 := Aside0.mk (HP10.out.step hb); have HD11 := Aside0.mk (HD10.out.step hb); have HO11 := Aside0.mk (Kd.R_below HO10.out hb); have HR11 := Aside0.mk (Kd.R_below HR10.out hb); have HB11 := Aside0.mk (below_step HB10.out hb); clear hb hv hC11 hrd HP10 HD10 HO10 HR10 HB10)
              obtain ⟨st, hst⟩ : ∃ st, st = strOfNums f := ⟨_, rfl⟩
              have cA : (convert 22 9 (.slice (some ⟨g11, 0, none⟩) 508 c11)).run Try.prog w11 = .ok (.string st) w11 := by
                have := Kd.C_string (c := c11) Try.underlying22 Try.underlying5 Try.underlying9 (show Kd.C (Kd.int .u8) w11 (some ⟨g11, 0, none⟩) f.length f by rw [HF.out.1]; exact HC11.out)
                rw [HF.out.1] at this
                rw [hst]
                exact this
              have cB : (convert 22 9 (.slice (some ⟨g1, 0, none⟩) 508 cc1)).run Try.prog w11 = .ok (.string st) w11 := by rw [hst]; exact row_string HO11.out
              clear hst
              go_wp2_with fail
              go_roundw
              case rel => exact ⟨k + 1, q2, s3, root, gen, rfl, rfl, by first | rfl | exact congrArg (Value.int .i64) hw1, by first | exact congrArg (Value.int .i64) w2_ | rfl, HK.out.2, by have := HG.out.2.2; omega, ⟨HD11.out.more (by omega), HP11.out, HQZ.out⟩, HI3, HO11, HB11⟩
              case measure => exact meas_lt HK.out.2 (by first | exact congrArg (Value.int .i64) w2_ | rfl)
        · have HM := Aside0.mk hm
          rw [e0] at hwr
          clear e0 hm
          obtain ⟨sw, hsw⟩ : ∃ sw, sw = wrD { s with left := K } q b := ⟨_, rfl⟩
          rw [← hsw] at hwr HM
          clear hsw
          go_upto_region 21 with (go_at_call 16; (with_reducible refine hwr.mono ?_); rintro e w4 ⟨rfl, hd, ht⟩; have HDd := Aside0.mk hd; have HPd := Aside0.mk (HPc.out.tf ht); have HOd := Aside0.mk (R5_tf HOc.out ht); have HRd := Aside0.mk (R5_tf HRc.out ht); have HBd := Aside0.mk (HBc.out.trans (ht.b.mono HZ1.out)); clear hd ht hwr HDc HPc HOc HRc HBc)
          have hwc := w_commit HM.out HG.out.2.1
          have hcmt := commit_calls (dact_ds w1.heap.size d) p q (by rw [HM.out.ps]; decide) HG.out.1 (by have := HG.out.2.1; omega) w1.heap.size (Nat.le_refl _) HZp.out w4 HDd.out (by have := HK.out.2; omega) HPd.out
          have HWC := Aside0.mk (hwc.2 l3 a4 a5)
          have hwc1 := hwc.1
          clear hwc
          rcases hwc1 with ⟨e9, dn⟩ | e0
          · skip
            have HDN0 := Aside0.mk dn
            clear dn
            rw [e9] at hcmt HWC
            clear e9
            go_upto_region 23 with (go_at_call 14; (with_reducible refine hcmt.mono ?_); rintro e w6 ⟨rfl, hd, ht, _⟩; have HD6 := Aside0.mk hd; have HO6 := Aside0.mk (R5_tg HOd.out ht); have HR6 := Aside0.mk (R5_tg HRd.out ht); have HB6 := Aside0.mk (HBd.out.trans (ht.b.mono HZ1.out)); clear hd ht hcmt HDd HPd HOd HRd HBd)
            obtain ⟨s2, hs2⟩ : ∃ s2, s2 = comD sw gen false q := ⟨_, rfl⟩
            rw [← hs2] at HD6 HWC HDN0
            clear hs2 HM
            have HDN := HDN0
            clear HDN0
            rcases HWC.out with ⟨_, hI⟩ | ⟨hI, hN⟩
            · have HI3 := Aside0.mk hI
              clear hI HWC
              go_upto_region 25 with (go_at_call 28; (with_reducible refine (ds_down _ HD6.out).mono ?_); rw [HDN.out]; rintro e w7 ⟨rfl, hb⟩; have HD7 := Aside0.mk (HD6.out.step hb); have HO7 := Aside0.mk (Kd.R_below HO6.out hb); have HR7 := Aside0.mk (Kd.R_below HR6.out hb); have HB7 := Aside0.mk (below_step HB6.out hb); clear hb HD6 HO6 HR6 HB6 HDN)
              have hmd := ds_mend A3 c3 l3 a4 a5 w7 HD7.out (Kd.C_below HR3.out HB7.out)
              obtain ⟨s3, hs3⟩ : ∃ s3, s3 = mendS s2 l3 a4 a5 := ⟨_, rfl⟩
              rw [← hs3] at hmd HI3
              clear hs3
              go_upto_region 26 with (go_at_call 29; (with_reducible refine hmd.mono ?_); rintro e w8 ⟨⟨u, rfl⟩, hd, ht⟩; have HD8 := Aside0.mk hd; have HO8 := Aside0.mk (R5_tf HO7.out ht); have HR8 := Aside0.mk (R5_tf HR7.out ht); have HB8 := Aside0.mk (HB7.out.trans (ht.b.mono HZ1.out)); clear hd ht hmd HD7 HO7 HR7 HB7)
              have hop := open_calls 9 HI3.out.ps (by decide) HI3.out.db w8 HD8.out
              have HOP := Aside0.mk HI3.out.opn
              go_upto_region 29 with (go_at_call 15; (with_reducible refine hop.mono ?_); rintro e w9 ⟨hb, po, rfl, _, hpo⟩; rw [HOP.out.1]; obtain ⟨q2, rfl, hq, hpg⟩ := hpo _ HOP.out.1 HOP.out.2; have HP9 := Aside0.mk (show PG w9 q2 d root gen false from hpg); have HQZ := Aside0.mk (Nat.le_trans HD8.out.base_le hq); have HD9 := Aside0.mk (HD8.out.step hb); have HO9 := Aside0.mk (Kd.R_below HO8.out hb); have HR9 := Aside0.mk (Kd.R_below HR8.out hb); have HB9 := Aside0.mk (below_step HB8.out hb); clear hb hpo hq hpg hop HD8 HO8 HR8 HB8)
              go_upto_region 30 with (go_at_call 13; (with_reducible refine (root_calls q2 d w9 HP9.out).mono ?_); rintro e w10 ⟨rfl, hb⟩; have HP10 := Aside0.mk (HP9.out.step hb); have HD10 := Aside0.mk (HD9.out.step hb); have HO10 := Aside0.mk (Kd.R_below HO9.out hb); have HR10 := Aside0.mk (Kd.R_below HR9.out hb); have HB10 := Aside0.mk (below_step HB9.out hb); clear hb HP9 HD9 HO9 HR9 HB9)
              have HRD := Aside0.mk (HI3.out.rd (n := 3) (by decide) (by decide) HF.out.1 HI3.out.wl.p3)
              have hrd := pread_calls q2 3 HI3.out.db w10 HD10.out HP10.out
              rw [HRD.out.1, HRD.out.2] at hrd
              by_cases hr : root = q
              · as_aux_lemma =>
                  have hr2 := hr.symm
                  clear hr
                  subst hr2
                  go_upto_region 34 with fail
                  go_upto_region 35 with (go_at_call 19; (with_reducible refine hrd.mono ?_); rintro e w11 ⟨hb, v11, rfl, hv⟩; obtain ⟨g11, c11, rfl, hC11⟩ : ∃ g11 c11, v11 = .slice (some ⟨g11, 0, none⟩) 508 c11 ∧ Kd.C (Kd.int .u8) w11 (some ⟨g11, 0, none⟩) 508 f := (by rcases hv with ⟨hn, _⟩ | ⟨_, g11, c11, _, _, e, hc⟩; exact absurd rfl hn; exact ⟨g11, c11, e, by rw [page_take HF.out.1] at hc; exact hc⟩); have HC11 := Aside0.mk hC11; have HP11 := Aside0.mk (HP10.out.step hb); have HD11 := Aside0.mk (HD10.out.step hb); have HO11 := Aside0.mk (Kd.R_below HO10.out hb); have HR11 := Aside0.mk (Kd.R_below HR10.out hb); have HB11 := Aside0.mk (below_step HB10.out hb); clear hb hv hC11 hrd HP10 HD10 HO10 HR10 HB10)
                  obtain ⟨st, hst⟩ : ∃ st, st = strOfNums f := ⟨_, rfl⟩
                  have cA : (convert 22 9 (.slice (some ⟨g11, 0, none⟩) 508 c11)).run Try.prog w11 = .ok (.string st) w11 := by
                    have := Kd.C_string (c := c11) Try.underlying22 Try.underlying5 Try.underlying9 (show Kd.C (Kd.int .u8) w11 (some ⟨g11, 0, none⟩) f.length f by rw [HF.out.1]; exact HC11.out)
                    rw [HF.out.1] at this
                    rw [hst]
                    exact this
                  have cB : (convert 22 9 (.slice (some ⟨g1, 0, none⟩) 508 cc1)).run Try.prog w11 = .ok (.string st) w11 := by rw [hst]; exact row_string HO11.out
                  clear hst
                  go_wp2_with fail
                  go_roundw
                  case rel => exact ⟨k + 1, q2, s3, q, gen, rfl, rfl, by first | rfl | exact congrArg (Value.int .i64) hw1, by first | exact congrArg (Value.int .i64) w2_ | rfl, HK.out.2, by have := HG.out.2.2; omega, ⟨HD11.out.more (by omega), HP11.out, HQZ.out⟩, HI3, HO11, HB11⟩
                  case measure => exact meas_lt HK.out.2 (by first | exact congrArg (Value.int .i64) w2_ | rfl)
              · as_aux_lemma =>
                  have e1 : decide (root = q) = false := decide_eq_false hr
                  have e2 : decide ((q : Int) = root) = false := decide_eq_false (fun h => hr h.symm)
                  have e3 : (root == q) = false := beq_eq_false_iff_ne.mpr hr
                  have e4 : ((q : Int) == root) = false := beq_eq_false_iff_ne.mpr (fun h => hr h.symm)
                  clear hr
                  go_upto_region 34 with fail
                  go_upto_region 35 with (go_at_call 19; (with_reducible refine hrd.mono ?_); rintro e w11 ⟨hb, v11, rfl, hv⟩; obtain ⟨g11, c11, rfl, hC11⟩ : ∃ g11 c11, v11 = .slice (some ⟨g11, 0, none⟩) 508 c11 ∧ Kd.C (Kd.int .u8) w11 (some ⟨g11, 0, none⟩) 508 f := (by rcases hv with ⟨hn, _⟩ | ⟨_, g11, c11, _, _, e, hc⟩; exact absurd rfl hn; exact ⟨g11, c11, e, by rw [page_take HF.out.1] at hc; exact hc⟩); have HC11 := Aside0.mk hC11; have HP11 := Aside0.mk (HP10.out.step hb); have HD11 := Aside0.mk (HD10.out.step hb); have HO11 := Aside0.mk (Kd.R_below HO10.out hb); have HR11 := Aside0.mk (Kd.R_below HR10.out hb); have HB11 := Aside0.mk (below_step HB10.out hb); clear hb hv hC11 hrd HP10 HD10 HO10 HR10 HB10)
                  obtain ⟨st, hst⟩ : ∃ st, st = strOfNums f := ⟨_, rfl⟩
                  have cA : (convert 22 9 (.slice (some ⟨g11, 0, none⟩) 508 c11)).run Try.prog w11 = .ok (.string st) w11 := by
                    have := Kd.C_string (c := c11) Try.underlying22 Try.underlying5 Try.underlying9 (show Kd.C (Kd.int .u8) w11 (some ⟨g11, 0, none⟩) f.length f by rw [HF.out.1]; exact HC11.out)
                    rw [HF.out.1] at this
                    rw [hst]
                    exact this
                  have cB : (convert 22 9 (.slice (some ⟨g1, 0, none⟩) 508 cc1)).run Try.prog w11 = .ok (.string st) w11 := by rw [hst]; exact row_string HO11.out
                  clear hst
                  go_wp2_with fail
                  go_roundw
                  case rel => exact ⟨k + 1, q2, s3, root, gen, rfl, rfl, by first | rfl | exact congrArg (Value.int .i64) hw1, by first | exact congrArg (Value.int .i64) w2_ | rfl, HK.out.2, by have := HG.out.2.2; omega, ⟨HD11.out.more (by omega), HP11.out, HQZ.out⟩, HI3, HO11, HB11⟩
                  case measure => exact meas_lt HK.out.2 (by first | exact congrArg (Value.int .i64) w2_ | rfl)
            · have HI3 := Aside0.mk hI
              have HN3 := Aside0.mk (hN (by have := HQ.out.1; omega))
              clear hI hN HWC
              go_upto_region 25 with (go_at_call 28; (with_reducible refine (ds_down _ HD6.out).mono ?_); rw [HDN.out]; rintro e w7 ⟨rfl, hb⟩; have HD7 := Aside0.mk (HD6.out.step hb); have HO7 := Aside0.mk (Kd.R_below HO6.out hb); have HR7 := Aside0.mk (Kd.R_below HR6.out hb); have HB7 := Aside0.mk (below_step HB6.out hb); clear hb HD6 HO6 HR6 HB6 HDN)
              have hmd := ds_mend A3 c3 l3 a4 a5 w7 HD7.out (Kd.C_below HR3.out HB7.out)
              obtain ⟨s3, hs3⟩ : ∃ s3, s3 = mendS s2 l3 a4 a5 := ⟨_, rfl⟩
              rw [← hs3] at hmd HI3 HN3
              clear hs3
              go_upto_region 26 with (go_at_call 29; (with_reducible refine hmd.mono ?_); rintro e w8 ⟨⟨u, rfl⟩, hd, ht⟩; have HD8 := Aside0.mk hd; have HO8 := Aside0.mk (R5_tf HO7.out ht); have HR8 := Aside0.mk (R5_tf HR7.out ht); have HB8 := Aside0.mk (HB7.out.trans (ht.b.mono HZ1.out)); clear hd ht hmd HD7 HO7 HR7 HB7)
              have hop := open_calls 9 HI3.out.ps (by decide) HI3.out.db w8 HD8.out
              have HOP := Aside0.mk HI3.out.opn
              go_upto_region 29 with (go_at_call 15; (with_reducible refine hop.mono ?_); rintro e w9 ⟨hb, po, rfl, _, hpo⟩; rw [HOP.out.1]; obtain ⟨q2, rfl, hq, hpg⟩ := hpo _ HOP.out.1 HOP.out.2; have HP9 := Aside0.mk (show PG w9 q2 d q (gen + 1) false from hpg); have HQZ := Aside0.mk (Nat.le_trans HD8.out.base_le hq); have HD9 := Aside0.mk (HD8.out.step hb); have HO9 := Aside0.mk (Kd.R_below HO8.out hb); have HR9 := Aside0.mk (Kd.R_below HR8.out hb); have HB9 := Aside0.mk (below_step HB8.out hb); clear hb hpo hq hpg hop HD8 HO8 HR8 HB8)
              go_upto_region 30 with (go_at_call 13; (with_reducible refine (root_calls q2 d w9 HP9.out).mono ?_); rintro e w10 ⟨rfl, hb⟩; have HP10 := Aside0.mk (HP9.out.step hb); have HD10 := Aside0.mk (HD9.out.step hb); have HO10 := Aside0.mk (Kd.R_below HO9.out hb); have HR10 := Aside0.mk (Kd.R_below HR9.out hb); have HB10 := Aside0.mk (below_step HB9.out hb); clear hb HP9 HD9 HO9 HR9 HB9)
              have HRD := Aside0.mk (HI3.out.rd (n := 3) (by decide) (by decide) HF.out.1 HI3.out.wl.p3)
              have hrd := pread_calls q2 3 HI3.out.db w10 HD10.out HP10.out
              rw [HRD.out.1, HRD.out.2] at hrd
              by_cases hr : root = q
              · as_aux_lemma =>
                  have hr2 := hr.symm
                  clear hr
                  subst hr2
                  go_upto_region 34 with fail
                  go_upto_region 35 with (go_at_call 19; (with_reducible refine hrd.mono ?_); rintro e w11 ⟨hb, v11, rfl, hv⟩; obtain ⟨g11, c11, rfl, hC11⟩ : ∃ g11 c11, v11 = .slice (some ⟨g11, 0, none⟩) 508 c11 ∧ Kd.C (Kd.int .u8) w11 (some ⟨g11, 0, none⟩) 508 f := (by rcases hv with ⟨hn, _⟩ | ⟨_, g11, c11, _, _, e, hc⟩; exact absurd rfl hn; exact ⟨g11, c11, e, by rw [page_take HF.out.1] at hc; exact hc⟩); have HC11 := Aside0.mk hC11; have HP11 := Aside0.mk (HP10.out.step hb); have HD11 := Aside0.mk (HD10.out.step hb); have HO11 := Aside0.mk (Kd.R_below HO10.out hb); have HR11 := Aside0.mk (Kd.R_below HR10.out hb); have HB11 := Aside0.mk (below_step HB10.out hb); clear hb hv hC11 hrd HP10 HD10 HO10 HR10 HB10)
                  obtain ⟨st, hst⟩ : ∃ st, st = strOfNums f := ⟨_, rfl⟩
                  have cA : (convert 22 9 (.slice (some ⟨g11, 0, none⟩) 508 c11)).run Try.prog w11 = .ok (.string st) w11 := by
                    have := Kd.C_string (c := c11) Try.underlying22 Try.underlying5 Try.underlying9 (show Kd.C (Kd.int .u8) w11 (some ⟨g11, 0, none⟩) f.length f by rw [HF.out.1]; exact HC11.out)
                    rw [HF.out.1] at this
                    rw [hst]
                    exact this
                  have cB : (convert 22 9 (.slice (some ⟨g1, 0, none⟩) 508 cc1)).run Try.prog w11 = .ok (.string st) w11 := by rw [hst]; exact row_string HO11.out
                  clear hst
                  have z1 : decide ((0 : Int) < q) = true := decide_eq_true (by have := HQ.out.1; omega)
                  have z2 : ((0 : Int) < q) = True := eq_true (by have := HQ.out.1; omega)
                  go_upto_region 38 with fail
                  have HRD2 := Aside0.mk (HI3.out.rd (n := q) HQ.out.1 HQ.out.2 HBB.out.1 HN3.out)
                  have hrd2 := pread_calls q2 q HI3.out.db w11 HD11.out HP11.out
                  rw [HRD2.out.1, HRD2.out.2] at hrd2
                  go_upto_region 39 with (go_at_call 19; (with_reducible refine hrd2.mono ?_); rintro e w12 ⟨hb, v12, rfl, hv⟩; obtain ⟨g12, c12, rfl, hC12⟩ : ∃ g12 c12, v12 = .slice (some ⟨g12, 0, none⟩) 508 c12 ∧ Kd.C (Kd.int .u8) w12 (some ⟨g12, 0, none⟩) 508 b := (by rcases hv with ⟨hn, _⟩ | ⟨_, g12, c12, _, _, e, hc⟩; exact absurd rfl hn; exact ⟨g12, c12, e, by rw [page_take HBB.out.1] at hc; exact hc⟩); have HC12 := Aside0.mk hC12; have HP12 := Aside0.mk (HP11.out.step hb); have HD12 := Aside0.mk (HD11.out.step hb); have HO12 := Aside0.mk (Kd.R_below HO11.out hb); have HR12 := Aside0.mk (Kd.R_below HR11.out hb); have HB12 := Aside0.mk (below_step HB11.out hb); clear hb hv hC12 hrd2 HP11 HD11 HO11 HR11 HB11 cA cB HC11)
                  obtain ⟨st2, hst2⟩ : ∃ st2, st2 = strOfNums b := ⟨_, rfl⟩
                  have cC : (convert 22 9 (.slice (some ⟨g12, 0, none⟩) 508 c12)).run Try.prog w12 = .ok (.string st2) w12 := by
                    have := Kd.C_string (c := c12) Try.underlying22 Try.underlying5 Try.underlying9 (show Kd.C (Kd.int .u8) w12 (some ⟨g12, 0, none⟩) b.length b by rw [HBB.out.1]; exact HC12.out)
                    rw [HBB.out.1] at this
                    rw [hst2]
                    exact this
                  have cD : (convert 22 9 (.slice (some ⟨g2, 0, none⟩) 508 cc2)).run Try.prog w12 = .ok (.string st2) w12 := by rw [hst2]; exact row_string HR12.out
                  clear hst2
                  go_wp2_with fail
                  go_roundw
                  case rel => exact ⟨k + 1, q2, s3, q, (gen + 1), rfl, rfl, by first | rfl | exact congrArg (Value.int .i64) hw1, by first | exact congrArg (Value.int .i64) w2_ | rfl, HK.out.2, by have := HG.out.2.2; omega, ⟨HD12.out.more (by omega), HP12.out, HQZ.out⟩, HI3, HO12, HB12⟩
                  case measure => exact meas_lt HK.out.2 (by first | exact congrArg (Value.int .i64) w2_ | rfl)
              · as_aux_lemma =>
                  have e1 : decide (root = q) = false := decide_eq_false hr
                  have e2 : decide ((q : Int) = root) = false := decide_eq_false (fun h => hr h.symm)
                  have e3 : (root == q) = false := beq_eq_false_iff_ne.mpr hr
                  have e4 : ((q : Int) == root) = false := beq_eq_false_iff_ne.mpr (fun h => hr h.symm)
                  clear hr
                  go_upto_region 34 with fail
                  go_upto_region 35 with (go_at_call 19; (with_reducible refine hrd.mono ?_); rintro e w11 ⟨hb, v11, rfl, hv⟩; obtain ⟨g11, c11, rfl, hC11⟩ : ∃ g11 c11, v11 = .slice (some ⟨g11, 0, none⟩) 508 c11 ∧ Kd.C (Kd.int .u8) w11 (some ⟨g11, 0, none⟩) 508 f := (by rcases hv with ⟨hn, _⟩ | ⟨_, g11, c11, _, _, e, hc⟩; exact absurd rfl hn; exact ⟨g11, c11, e, by rw [page_take HF.out.1] at hc; exact hc⟩); have HC11 := Aside0.mk hC11; have HP11 := Aside0.mk (HP10.out.step hb); have HD11 := Aside0.mk (HD10.out.step hb); have HO11 := Aside0.mk (Kd.R_below HO10.out hb); have HR11 := Aside0.mk (Kd.R_below HR10.out hb); have HB11 := Aside0.mk (below_step HB10.out hb); clear hb hv hC11 hrd HP10 HD10 HO10 HR10 HB10)
                  obtain ⟨st, hst⟩ : ∃ st, st = strOfNums f := ⟨_, rfl⟩
                  have cA : (convert 22 9 (.slice (some ⟨g11, 0, none⟩) 508 c11)).run Try.prog w11 = .ok (.string st) w11 := by
                    have := Kd.C_string (c := c11) Try.underlying22 Try.underlying5 Try.underlying9 (show Kd.C (Kd.int .u8) w11 (some ⟨g11, 0, none⟩) f.length f by rw [HF.out.1]; exact HC11.out)
                    rw [HF.out.1] at this
                    rw [hst]
                    exact this
                  have cB : (convert 22 9 (.slice (some ⟨g1, 0, none⟩) 508 cc1)).run Try.prog w11 = .ok (.string st) w11 := by rw [hst]; exact row_string HO11.out
                  clear hst
                  have z1 : decide ((0 : Int) < q) = true := decide_eq_true (by have := HQ.out.1; omega)
                  have z2 : ((0 : Int) < q) = True := eq_true (by have := HQ.out.1; omega)
                  go_upto_region 38 with fail
                  have HRD2 := Aside0.mk (HI3.out.rd (n := q) HQ.out.1 HQ.out.2 HBB.out.1 HN3.out)
                  have hrd2 := pread_calls q2 q HI3.out.db w11 HD11.out HP11.out
                  rw [HRD2.out.1, HRD2.out.2] at hrd2
                  go_upto_region 39 with (go_at_call 19; (with_reducible refine hrd2.mono ?_); rintro e w12 ⟨hb, v12, rfl, hv⟩; obtain ⟨g12, c12, rfl, hC12⟩ : ∃ g12 c12, v12 = .slice (some ⟨g12, 0, none⟩) 508 c12 ∧ Kd.C (Kd.int .u8) w12 (some ⟨g12, 0, none⟩) 508 b := (by rcases hv with ⟨hn, _⟩ | ⟨_, g12, c12, _, _, e, hc⟩; exact absurd rfl hn; exact ⟨g12, c12, e, by rw [page_take HBB.out.1] at hc; exact hc⟩); have HC12 := Aside0.mk hC12; have HP12 := Aside0.mk (HP11.out.step hb); have HD12 := Aside0.mk (HD11.out.step hb); have HO12 := Aside0.mk (Kd.R_below HO11.out hb); have HR12 := Aside0.mk (Kd.R_below HR11.out hb); have HB12 := Aside0.mk (below_step HB11.out hb); clear hb hv hC12 hrd2 HP11 HD11 HO11 HR11 HB11 cA cB HC11)
                  obtain ⟨st2, hst2⟩ : ∃ st2, st2 = strOfNums b := ⟨_, rfl⟩
                  have cC : (convert 22 9 (.slice (some ⟨g12, 0, none⟩) 508 c12)).run Try.prog w12 = .ok (.string st2) w12 := by
                    have := Kd.C_string (c := c12) Try.underlying22 Try.underlying5 Try.underlying9 (show Kd.C (Kd.int .u8) w12 (some ⟨g12, 0, none⟩) b.length b by rw [HBB.out.1]; exact HC12.out)
                    rw [HBB.out.1] at this
                    rw [hst2]
                    exact this
                  have cD : (convert 22 9 (.slice (some ⟨g2, 0, none⟩) 508 cc2)).run Try.prog w12 = .ok (.string st2) w12 := by rw [hst2]; exact row_string HR12.out
                  clear hst2
                  go_wp2_with fail
                  go_roundw
                  case rel => exact ⟨k + 1, q2, s3, q, (gen + 1), rfl, rfl, by first | rfl | exact congrArg (Value.int .i64) hw1, by first | exact congrArg (Value.int .i64) w2_ | rfl, HK.out.2, by have := HG.out.2.2; omega, ⟨HD12.out.more (by omega), HP12.out, HQZ.out⟩, HI3, HO12, HB12⟩
                  case measure => exact meas_lt HK.out.2 (by first | exact congrArg (Value.int .i64) w2_ | rfl)
          · skip
            rw [e0] at hcmt HWC
            clear e0
            go_upto_region 23 with (go_at_call 14; (with_reducible refine hcmt.mono ?_); rintro e w6 ⟨rfl, hd, ht, _⟩; have HD6 := Aside0.mk hd; have HO6 := Aside0.mk (R5_tg HOd.out ht); have HR6 := Aside0.mk (R5_tg HRd.out ht); have HB6 := Aside0.mk (HBd.out.trans (ht.b.mono HZ1.out)); clear hd ht hcmt HDd HPd HOd HRd HBd)
            obtain ⟨s2, hs2⟩ : ∃ s2, s2 = comD sw gen false q := ⟨_, rfl⟩
            rw [← hs2] at HD6 HWC
            clear hs2 HM
            rcases HWC.out with ⟨hx, _⟩ | ⟨hI, hN⟩
            · exact absurd rfl hx
            · have HI3 := Aside0.mk hI
              have HN3 := Aside0.mk (hN (by have := HQ.out.1; omega))
              clear hI hN HWC
              go_upto_region 25 with fail
              have hmd := ds_mend A3 c3 l3 a4 a5 w6 HD6.out (Kd.C_below HR3.out HB6.out)
              obtain ⟨s3, hs3⟩ : ∃ s3, s3 = mendS s2 l3 a4 a5 := ⟨_, rfl⟩
              rw [← hs3] at hmd HI3 HN3
              clear hs3
              go_upto_region 26 with (go_at_call 29; (with_reducible refine hmd.mono ?_); rintro e w8 ⟨⟨u, rfl⟩, hd, ht⟩; have HD8 := Aside0.mk hd; have HO8 := Aside0.mk (R5_tf HO6.out ht); have HR8 := Aside0.mk (R5_tf HR6.out ht); have HB8 := Aside0.mk (HB6.out.trans (ht.b.mono HZ1.out)); clear hd ht hmd HD6 HO6 HR6 HB6)
              have hop := open_calls 9 HI3.out.ps (by decide) HI3.out.db w8 HD8.out
              have HOP := Aside0.mk HI3.out.opn
              go_upto_region 29 with (go_at_call 15; (with_reducible refine hop.mono ?_); rintro e w9 ⟨hb, po, rfl, _, hpo⟩; rw [HOP.out.1]; obtain ⟨q2, rfl, hq, hpg⟩ := hpo _ HOP.out.1 HOP.out.2; have HP9 := Aside0.mk (show PG w9 q2 d q (gen + 1) false from hpg); have HQZ := Aside0.mk (Nat.le_trans HD8.out.base_le hq); have HD9 := Aside0.mk (HD8.out.step hb); have HO9 := Aside0.mk (Kd.R_below HO8.out hb); have HR9 := Aside0.mk (Kd.R_below HR8.out hb); have HB9 := Aside0.mk (below_step HB8.out hb); clear hb hpo hq hpg hop HD8 HO8 HR8 HB8)
              go_upto_region 30 with (go_at_call 13; (with_reducible refine (root_calls q2 d w9 HP9.out).mono ?_); rintro e w10 ⟨rfl, hb⟩; have HP10 := Aside0.mk (HP9.out.step hb); have HD10 := Aside0.mk (HD9.out.step hb); have HO10 := Aside0.mk (Kd.R_below HO9.out hb); have HR10 := Aside0.mk (Kd.R_below HR9.out hb); have HB10 := Aside0.mk (below_step HB9.out hb); clear hb HP9 HD9 HO9 HR9 HB9)
              have HRD := Aside0.mk (HI3.out.rd (n := 3) (by decide) (by decide) HF.out.1 HI3.out.wl.p3)
              have hrd := pread_calls q2 3 HI3.out.db w10 HD10.out HP10.out
              rw [HRD.out.1, HRD.out.2] at hrd
              by_cases hr : root = q
              · as_aux_lemma =>
                  have hr2 := hr.symm
                  clear hr
                  subst hr2
                  go_upto_region 34 with fail
                  go_upto_region 35 with (go_at_call 19; (with_reducible refine hrd.mono ?_); rintro e w11 ⟨hb, v11, rfl, hv⟩; obtain ⟨g11, c11, rfl, hC11⟩ : ∃ g11 c11, v11 = .slice (some ⟨g11, 0, none⟩) 508 c11 ∧ Kd.C (Kd.int .u8) w11 (some ⟨g11, 0, none⟩) 508 f := (by rcases hv with ⟨hn, _⟩ | ⟨_, g11, c11, _, _, e, hc⟩; exact absurd rfl hn; exact ⟨g11, c11, e, by rw [page_take HF.out.1] at hc; exact hc⟩); have HC11 := Aside0.mk hC11; have HP11 := Aside0.mk (HP10.out.step hb); have HD11 := Aside0.mk (HD10.out.step hb); have HO11 := Aside0.mk (Kd.R_below HO10.out hb); have HR11 := Aside0.mk (Kd.R_below HR10.out hb); have HB11 := Aside0.mk (below_step HB10.out hb); clear hb hv hC11 hrd HP10 HD10 HO10 HR10 HB10)
                  obtain ⟨st, hst⟩ : ∃ st, st = strOfNums f := ⟨_, rfl⟩
                  have cA : (convert 22 9 (.slice (some ⟨g11, 0, none⟩) 508 c11)).run Try.prog w11 = .ok (.string st) w11 := by
                    have := Kd.C_string (c := c11) Try.underlying22 Try.underlying5 Try.underlying9 (show Kd.C (Kd.int .u8) w11 (some ⟨g11, 0, none⟩) f.length f by rw [HF.out.1]; exact HC11.out)
                    rw [HF.out.1] at this
                    rw [hst]
                    exact this
                  have cB : (convert 22 9 (.slice (some ⟨g1, 0, none⟩) 508 cc1)).run Try.prog w11 = .ok (.string st) w11 := by rw [hst]; exact row_string HO11.out
                  clear hst
                  have z1 : decide ((0 : Int) < q) = true := decide_eq_true (by have := HQ.out.1; omega)
                  have z2 : ((0 : Int) < q) = True := eq_true (by have := HQ.out.1; omega)
                  go_upto_region 38 with fail
                  have HRD2 := Aside0.mk (HI3.out.rd (n := q) HQ.out.1 HQ.out.2 HBB.out.1 HN3.out)
                  have hrd2 := pread_calls q2 q HI3.out.db w11 HD11.out HP11.out
                  rw [HRD2.out.1, HRD2.out.2] at hrd2
                  go_upto_region 39 with (go_at_call 19; (with_reducible refine hrd2.mono ?_); rintro e w12 ⟨hb, v12, rfl, hv⟩; obtain ⟨g12, c12, rfl, hC12⟩ : ∃ g12 c12, v12 = .slice (some ⟨g12, 0, none⟩) 508 c12 ∧ Kd.C (Kd.int .u8) w12 (some ⟨g12, 0, none⟩) 508 b := (by rcases hv with ⟨hn, _⟩ | ⟨_, g12, c12, _, _, e, hc⟩; exact absurd rfl hn; exact ⟨g12, c12, e, by rw [page_take HBB.out.1] at hc; exact hc⟩); have HC12 := Aside0.mk hC12; have HP12 := Aside0.mk (HP11.out.step hb); have HD12 := Aside0.mk (HD11.out.step hb); have HO12 := Aside0.mk (Kd.R_below HO11.out hb); have HR12 := Aside0.mk (Kd.R_below HR11.out hb); have HB12 := Aside0.mk (below_step HB11.out hb); clear hb hv hC12 hrd2 HP11 HD11 HO11 HR11 HB11 cA cB HC11)
                  obtain ⟨st2, hst2⟩ : ∃ st2, st2 = strOfNums b := ⟨_, rfl⟩
                  have cC : (convert 22 9 (.slice (some ⟨g12, 0, none⟩) 508 c12)).run Try.prog w12 = .ok (.string st2) w12 := by
                    have := Kd.C_string (c := c12) Try.underlying22 Try.underlying5 Try.underlying9 (show Kd.C (Kd.int .u8) w12 (some ⟨g12, 0, none⟩) b.length b by rw [HBB.out.1]; exact HC12.out)
                    rw [HBB.out.1] at this
                    rw [hst2]
                    exact this
                  have cD : (convert 22 9 (.slice (some ⟨g2, 0, none⟩) 508 cc2)).run Try.prog w12 = .ok (.string st2) w12 := by rw [hst2]; exact row_string HR12.out
                  clear hst2
                  go_wp2_with fail
                  go_roundw
                  case rel => exact ⟨k + 1, q2, s3, q, (gen + 1), rfl, rfl, by first | rfl | exact congrArg (Value.int .i64) hw1, by first | exact congrArg (Value.int .i64) w2_ | rfl, HK.out.2, by have := HG.out.2.2; omega, ⟨HD12.out.more (by omega), HP12.out, HQZ.out⟩, HI3, HO12, HB12⟩
                  case measure => exact meas_lt HK.out.2 (by first | exact congrArg (Value.int .i64) w2_ | rfl)
              · as_aux_lemma =>
                  have e1 : decide (root = q) = false := decide_eq_false hr
                  have e2 : decide ((q : Int) = root) = false := decide_eq_false (fun h => hr h.symm)
                  have e3 : (root == q) = false := beq_eq_false_iff_ne.mpr hr
                  have e4 : ((q : Int) == root) = false := beq_eq_false_iff_ne.mpr (fun h => hr h.symm)
                  clear hr
                  go_upto_region 34 with fail
                  go_upto_region 35 with (go_at_call 19; (with_reducible refine hrd.mono ?_); rintro e w11 ⟨hb, v11, rfl, hv⟩; obtain ⟨g11, c11, rfl, hC11⟩ : ∃ g11 c11, v11 = .slice (some ⟨g11, 0, none⟩) 508 c11 ∧ Kd.C (Kd.int .u8) w11 (some ⟨g11, 0, none⟩) 508 f := (by rcases hv with ⟨hn, _⟩ | ⟨_, g11, c11, _, _, e, hc⟩; exact absurd rfl hn; exact ⟨g11, c11, e, by rw [page_take HF.out.1] at hc; exact hc⟩); have HC11 := Aside0.mk hC11; have HP11 := Aside0.mk (HP10.out.step hb); have HD11 := Aside0.mk (HD10.out.step hb); have HO11 := Aside0.mk (Kd.R_below HO10.out hb); have HR11 := Aside0.mk (Kd.R_below HR10.out hb); have HB11 := Aside0.mk (below_step HB10.out hb); clear hb hv hC11 hrd HP10 HD10 HO10 HR10 HB10)
                  obtain ⟨st, hst⟩ : ∃ st, st = strOfNums f := ⟨_, rfl⟩
                  have cA : (convert 22 9 (.slice (some ⟨g11, 0, none⟩) 508 c11)).run Try.prog w11 = .ok (.string st) w11 := by
                    have := Kd.C_string (c := c11) Try.underlying22 Try.underlying5 Try.underlying9 (show Kd.C (Kd.int .u8) w11 (some ⟨g11, 0, none⟩) f.length f by rw [HF.out.1]; exact HC11.out)
                    rw [HF.out.1] at this
                    rw [hst]
                    exact this
                  have cB : (convert 22 9 (.slice (some ⟨g1, 0, none⟩) 508 cc1)).run Try.prog w11 = .ok (.string st) w11 := by rw [hst]; exact row_string HO11.out
                  clear hst
                  have z1 : decide ((0 : Int) < q) = true := decide_eq_true (by have := HQ.out.1; omega)
                  have z2 : ((0 : Int) < q) = True := eq_true (by have := HQ.out.1; omega)
                  go_upto_region 38 with fail
                  have HRD2 := Aside0.mk (HI3.out.rd (n := q) HQ.out.1 HQ.out.2 HBB.out.1 HN3.out)
                  have hrd2 := pread_calls q2 q HI3.out.db w11 HD11.out HP11.out
                  rw [HRD2.out.1, HRD2.out.2] at hrd2
                  go_upto_region 39 with (go_at_call 19; (with_reducible refine hrd2.mono ?_); rintro e w12 ⟨hb, v12, rfl, hv⟩; obtain ⟨g12, c12, rfl, hC12⟩ : ∃ g12 c12, v12 = .slice (some ⟨g12, 0, none⟩) 508 c12 ∧ Kd.C (Kd.int .u8) w12 (some ⟨g12, 0, none⟩) 508 b := (by rcases hv with ⟨hn, _⟩ | ⟨_, g12, c12, _, _, e, hc⟩; exact absurd rfl hn; exact ⟨g12, c12, e, by rw [page_take HBB.out.1] at hc; exact hc⟩); have HC12 := Aside0.mk hC12; have HP12 := Aside0.mk (HP11.out.step hb); have HD12 := Aside0.mk (HD11.out.step hb); have HO12 := Aside0.mk (Kd.R_below HO11.out hb); have HR12 := Aside0.mk (Kd.R_below HR11.out hb); have HB12 := Aside0.mk (below_step HB11.out hb); clear hb hv hC12 hrd2 HP11 HD11 HO11 HR11 HB11 cA cB HC11)
                  obtain ⟨st2, hst2⟩ : ∃ st2, st2 = strOfNums b := ⟨_, rfl⟩
                  have cC : (convert 22 9 (.slice (some ⟨g12, 0, none⟩) 508 c12)).run Try.prog w12 = .ok (.string st2) w12 := by
                    have := Kd.C_string (c := c12) Try.underlying22 Try.underlying5 Try.underlying9 (show Kd.C (Kd.int .u8) w12 (some ⟨g12, 0, none⟩) b.length b by rw [HBB.out.1]; exact HC12.out)
                    rw [HBB.out.1] at this
                    rw [hst2]
                    exact this
                  have cD : (convert 22 9 (.slice (some ⟨g2, 0, none⟩) 508 cc2)).run Try.prog w12 = .ok (.string st2) w12 := by rw [hst2]; exact row_string HR12.out
                  clear hst2
                  go_wp2_with fail
                  go_roundw
                  case rel => exact ⟨k + 1, q2, s3, q, (gen + 1), rfl, rfl, by first | rfl | exact congrArg (Value.int .i64) hw1, by first | exact congrArg (Value.int .i64) w2_ | rfl, HK.out.2, by have := HG.out.2.2; omega, ⟨HD12.out.more (by omega), HP12.out, HQZ.out⟩, HI3, HO12, HB12⟩
                  case measure => exact meas_lt HK.out.2 (by first | exact congrArg (Value.int .i64) w2_ | rfl)
    · by_cases h2 : k < l0.length
      · have h3 : (k : Int) < (l0.length : Int) := Int.ofNat_lt.2 h2
        have h4 : ¬ (k : Int) < 8 := by omega
        have b1 : decide ((k : Int) < (l0.length : Int)) = true := decide_eq_true h3
        have b2 : ((k : Int) < (l0.length : Int)) = True := eq_true h3
        have b3 : decide ((k : Int) < 8) = false := decide_eq_false h4
        have b4 : ((k : Int) < 8) = False := eq_false h4
        have b5 : (k < l0.length) = True := eq_true h2
        have b7 : (k < 8) = False := eq_false (fun h => hlt ⟨h2, h⟩)
        clear hlt hk hgk h2 h3 h4
        go_wp2
        go_ret
        exact ⟨by simp, HB.out⟩
      · have h3 : ¬ (k : Int) < (l0.length : Int) := fun h => h2 (Int.ofNat_lt.1 h)
        have b1 : decide ((k : Int) < (l0.length : Int)) = false := decide_eq_false h3
        have b2 : ((k : Int) < (l0.length : Int)) = False := eq_false h3
        have b5 : (k < l0.length) = False := eq_false h2
        clear hlt hk hgk h2 h3
        go_wp2
        go_ret
        exact ⟨by simp, HB.out⟩
end Go.Proofs.Ytmjmichkkmmdcaa.P
end
section
namespace Go.Proofs.Ytmjmichkkmmdcaa.Pure
open Go.RowKit Go.Proofs.Ytmjmichkkmmdcaa.P Go.Proofs.YtmjmichkkmmdcaaW.PrintWords Go.Proofs.YtmjmichkkmmdcaaW.PrintLast
theorem PagerWhole : ∀ (l0 l1 : List Int) (a2 : Int) (l3 : List Bool) (a4 a5 : Int), G26 l0 → G22 l1 → (Lit.int .i64 a2).wf = true → G48 l3 → (Lit.int .i64 a4).wf = true → (Lit.int .i64 a5).wf = true → quarrylaw06_PagerWhole.f l0 l1 a2 l3 a4 a5 = some true := fun l0 l1 a2 l3 a4 a5 _ hg _ _ _ _ => by
  have h1 : (l1.all fun x => decide (0 ≤ x ∧ x ≤ 255)) = true := List.all_eq_true.2 fun x hx => decide_eq_true (by
    have h := hg.1 x hx
    simp [Lit.wf, IntKind.min, IntKind.max, IntKind.signed, IntKind.bits] at h
    omega)
  unfold quarrylaw06_PagerWhole.f
  rw [if_pos h1]
end Go.Proofs.Ytmjmichkkmmdcaa.Pure
end

/- Laid by a program of this session out of its texts for the law CalcTexts, part 3. -/
import Derived.BigGuardPart
import Derived.RegionDies
import Derived.WalkLawsBesides
import Derived.WalkSpells
import Derived.Outline
import Derived.Test.YtfbeklbjlkgbnaaZCalcTexts2
section
namespace Go.Proofs.Ytfbeklbjlkgbnaa.P
open Go.RowKit Go.Proofs.Ytfbeklbjlkgbnaa.Pure Go.Proofs.YtfbeklbjlkgbnaaW.PrintWords Go.Proofs.YtfbeklbjlkgbnaaW.PrintLast Go.Proofs.YtfbeklbjlkgbnaaW.PrintMore
attribute [local go_sem] max2_int min2_int max_two min_two max_three min_three max_four min_four
set_option linter.unusedVariables false
set_option linter.unusedSimpArgs false
theorem at_world {P : Program} {c : Code} {Q : Exit → Act → World → Prop} {a : Act} {W : World} (R : World → Prop) (h : R W) (k : ∀ W', R W' → Code.wp P c Q a W') : Code.wp P c Q a W := k W h
def BI (op : Int) (u v : S25) (b0 b1 b2 : Nat) (W w : World) : Prop :=
  w.heap[b0]? = some (.cells #[.int .i64 op] 3 (0, 0)) ∧ w.heap[b1]? = some (.cells #[.int .i64 u.f0, .int .i64 u.f1, .string u.f2] 25 (0, 0)) ∧ w.heap[b2]? = some (.cells #[.int .i64 v.f0, .int .i64 v.f1, .string v.f2] 25 (0, 0)) ∧
  w.heap[W.heap.size]? = some (.cells #[.int .i64 0, .int .i64 0, .string (⟨#[]⟩ : ByteArray)] 25 (0, 0)) ∧ Below W.heap.size W w
section
variable {op : Int} {u v : S25} {b0 b1 b2 : Nat} {W w w' : World}
theorem below_set3 {B : Nat} {a w : World} (h : Below B a w) {b : Nat} (hb : B ≤ b) (o1 o2 o3 : Nat) (v1 v2 v3 : Value) : Below B a (((w.setCell ⟨b, o1, none⟩ v1).setCell ⟨b, o2, none⟩ v2).setCell ⟨b, o3, none⟩ v3) :=
  Below.setCell (Below.setCell (Below.setCell h (p := ⟨b, o1, none⟩) hb v1) (p := ⟨b, o2, none⟩) hb v2) (p := ⟨b, o3, none⟩) hb v3
theorem BI.start (h0 : W.heap[b0]? = some (.cells #[.int .i64 op] 3 (0, 0))) (h1 : W.heap[b1]? = some (.cells #[.int .i64 u.f0, .int .i64 u.f1, .string u.f2] 25 (0, 0))) (h2 : W.heap[b2]? = some (.cells #[.int .i64 v.f0, .int .i64 v.f1, .string v.f2] 25 (0, 0))) :
    BI op u v b0 b1 b2 W (W.alloc (.cells #[.int .i64 0, .int .i64 0, .string (⟨#[]⟩ : ByteArray)] 25)) :=
  ⟨blk_alloc h0 _, blk_alloc h1 _, blk_alloc h2 _, Deep.blk_alloc_new W _, below_alloc (Below.refl _ _) _⟩
theorem BI.drew (h : BI op u v b0 b1 b2 W w) : BI op u v b0 b1 b2 W w.drew := ⟨blk_drew h.1, blk_drew h.2.1, blk_drew h.2.2.1, blk_drew h.2.2.2.1, below_drew1 h.2.2.2.2⟩
theorem BI.drewN (h : BI op u v b0 b1 b2 W w) (n : Nat) : BI op u v b0 b1 b2 W (w.drewN n) := ⟨blk_drewN h.1 n, blk_drewN h.2.1 n, blk_drewN h.2.2.1 n, blk_drewN h.2.2.2.1 n, pw_below_drewN h.2.2.2.2 n⟩
theorem BI.below (h : BI op u v b0 b1 b2 W w) (hb : Below w.heap.size w w') : BI op u v b0 b1 b2 W w' :=
  ⟨(hb.block _ (blk_lt h.1)).trans h.1, (hb.block _ (blk_lt h.2.1)).trans h.2.1, (hb.block _ (blk_lt h.2.2.1)).trans h.2.2.1, (hb.block _ (blk_lt h.2.2.2.1)).trans h.2.2.2.1, below_step h.2.2.2.2 hb⟩
theorem BI.bel (h : BI op u v b0 b1 b2 W w) : Below W.heap.size W w := h.2.2.2.2
theorem BI.o (h : BI op u v b0 b1 b2 W w) : w.cell? ⟨b0, 0, none⟩ = some (.int .i64 op) := (blk_cell h.1 0).trans rfl
theorem BI.a0 (h : BI op u v b0 b1 b2 W w) : w.cell? ⟨b1, 0, none⟩ = some (.int .i64 u.f0) := (blk_cell h.2.1 0).trans rfl
theorem BI.a1 (h : BI op u v b0 b1 b2 W w) : w.cell? ⟨b1, 1, none⟩ = some (.int .i64 u.f1) := (blk_cell h.2.1 1).trans rfl
theorem BI.a2 (h : BI op u v b0 b1 b2 W w) : w.cell? ⟨b1, 2, none⟩ = some (.string u.f2) := (blk_cell h.2.1 2).trans rfl
theorem BI.v0 (h : BI op u v b0 b1 b2 W w) : w.cell? ⟨b2, 0, none⟩ = some (.int .i64 v.f0) := (blk_cell h.2.2.1 0).trans rfl
theorem BI.v1 (h : BI op u v b0 b1 b2 W w) : w.cell? ⟨b2, 1, none⟩ = some (.int .i64 v.f1) := (blk_cell h.2.2.1 1).trans rfl
theorem BI.v2 (h : BI op u v b0 b1 b2 W w) : w.cell? ⟨b2, 2, none⟩ = some (.string v.f2) := (blk_cell h.2.2.1 2).trans rfl
end
set_option maxHeartbeats 2000000 in
set_option maxRecDepth 100000 in
theorem calc_Binary1.low (op : Int) (u v : S25) (k : Int) (HK : Aside0 (calc_wants.f op = some k)) (b0 b1 b2 : Nat) (W : World) (h0 : W.heap[b0]? = some (.cells #[.int .i64 op] 3 (0, 0))) (h1 : W.heap[b1]? = some (.cells #[.int .i64 u.f0, .int .i64 u.f1, .string u.f2] 25 (0, 0))) (h2 : W.heap[b2]? = some (.cells #[.int .i64 v.f0, .int .i64 v.f1, .string v.f2] 25 (0, 0))) (l3 : ¬ 3 ≤ op) :
    Calls Try.prog 38 #[.pointer (some ⟨b0, 0, none⟩), .pointer (some ⟨b1, 0, none⟩), .pointer (some ⟨b2, 0, none⟩)] W (fun e w' => RE (.error 5) e ∧ Below W.heap.size W w') := by
  have hu25 := Try.underlying25
  have n0 : ¬ b0 = W.heap.size := by have := blk_lt h0; omega
  have n1 : ¬ b1 = W.heap.size := by have := blk_lt h1; omega
  have n2 : ¬ b2 = W.heap.size := by have := blk_lt h2; omega
  have HS := Aside0.mk (BI.start h0 h1 h2)
  clear h0 h1 h2
  have hc0 := HS.out.o
  have ha0 := HS.out.a0
  have ha1 := HS.out.a1
  have ha2 := HS.out.a2
  have hb0 := HS.out.v0
  have hb1 := HS.out.v1
  have hb2 := HS.out.v2
  have q0 : decide (3 ≤ op) = false := decide_eq_false l3
  have l3' := Aside0.mk l3
  clear l3
  go_enter Try.func38, Try.ntmps38
  go_wp2_with (first | (go_at_call 39; (with_reducible refine (calc_wants.calls op k _ HK.out).mono ?_); rintro e w' ⟨rfl, ⟨nd, rfl⟩⟩) | (go_at_call 30; (with_reducible refine (calc_check.yes _ _).mono ?_); rintro e w' ⟨rfl, rfl⟩) | (go_at_call 30; (with_reducible refine (calc_check.no _ _).mono ?_); rintro e w' ⟨rfl, rfl⟩))
  exact ⟨rfl, rfl, by repeat (first | exact HS.out.bel | apply pw_below_drewN | apply below_drew1)⟩
set_option maxHeartbeats 2000000 in
set_option maxRecDepth 100000 in
theorem calc_Binary1.high (op : Int) (u v : S25) (k : Int) (HK : Aside0 (calc_wants.f op = some k)) (b0 b1 b2 : Nat) (W : World) (h0 : W.heap[b0]? = some (.cells #[.int .i64 op] 3 (0, 0))) (h1 : W.heap[b1]? = some (.cells #[.int .i64 u.f0, .int .i64 u.f1, .string u.f2] 25 (0, 0))) (h2 : W.heap[b2]? = some (.cells #[.int .i64 v.f0, .int .i64 v.f1, .string v.f2] 25 (0, 0))) (l3 : 3 ≤ op) (l16 : ¬ op ≤ 16) :
    Calls Try.prog 38 #[.pointer (some ⟨b0, 0, none⟩), .pointer (some ⟨b1, 0, none⟩), .pointer (some ⟨b2, 0, none⟩)] W (fun e w' => RE (.error 5) e ∧ Below W.heap.size W w') := by
  have hu25 := Try.underlying25
  have n0 : ¬ b0 = W.heap.size := by have := blk_lt h0; omega
  have n1 : ¬ b1 = W.heap.size := by have := blk_lt h1; omega
  have n2 : ¬ b2 = W.heap.size := by have := blk_lt h2; omega
  have HS := Aside0.mk (BI.start h0 h1 h2)
  clear h0 h1 h2
  have hc0 := HS.out.o
  have ha0 := HS.out.a0
  have ha1 := HS.out.a1
  have ha2 := HS.out.a2
  have hb0 := HS.out.v0
  have hb1 := HS.out.v1
  have hb2 := HS.out.v2
  have q0 : decide (3 ≤ op) = true := decide_eq_true l3
  have q1 : decide (op ≤ 16) = false := decide_eq_false l16
  have l3' := Aside0.mk l3
  have l16' := Aside0.mk l16
  clear l3 l16
  go_enter Try.func38, Try.ntmps38
  go_wp2_with (first | (go_at_call 39; (with_reducible refine (calc_wants.calls op k _ HK.out).mono ?_); rintro e w' ⟨rfl, ⟨nd, rfl⟩⟩) | (go_at_call 30; (with_reducible refine (calc_check.yes _ _).mono ?_); rintro e w' ⟨rfl, rfl⟩) | (go_at_call 30; (with_reducible refine (calc_check.no _ _).mono ?_); rintro e w' ⟨rfl, rfl⟩))
  exact ⟨rfl, rfl, by repeat (first | exact HS.out.bel | apply pw_below_drewN | apply below_drew1)⟩
set_option maxHeartbeats 2000000 in
set_option maxRecDepth 100000 in
theorem calc_Binary1.kindA1 (op : Int) (u v : S25) (k : Int) (HK : Aside0 (calc_wants.f op = some k)) (b0 b1 b2 : Nat) (W : World) (h0 : W.heap[b0]? = some (.cells #[.int .i64 op] 3 (0, 0))) (h1 : W.heap[b1]? = some (.cells #[.int .i64 u.f0, .int .i64 u.f1, .string u.f2] 25 (0, 0))) (h2 : W.heap[b2]? = some (.cells #[.int .i64 v.f0, .int .i64 v.f1, .string v.f2] 25 (0, 0))) (l3 : 3 ≤ op) (l16 : op ≤ 16) (kn : ¬ k = 0) (a0 : ¬ u.f0 = 0) (ak : ¬ u.f0 = k) (z0 : v.f0 = 0) :
    Calls Try.prog 38 #[.pointer (some ⟨b0, 0, none⟩), .pointer (some ⟨b1, 0, none⟩), .pointer (some ⟨b2, 0, none⟩)] W (fun e w' => RE (.error 35) e ∧ Below W.heap.size W w') := by
  have hu25 := Try.underlying25
  have n0 : ¬ b0 = W.heap.size := by have := blk_lt h0; omega
  have n1 : ¬ b1 = W.heap.size := by have := blk_lt h1; omega
  have n2 : ¬ b2 = W.heap.size := by have := blk_lt h2; omega
  have HS := Aside0.mk (BI.start h0 h1 h2)
  clear h0 h1 h2
  have hc0 := HS.out.o
  have ha0 := HS.out.a0
  have ha1 := HS.out.a1
  have ha2 := HS.out.a2
  have hb0 := HS.out.v0
  have hb1 := HS.out.v1
  have hb2 := HS.out.v2
  have q0 : decide (3 ≤ op) = true := decide_eq_true l3
  have q1 : decide (op ≤ 16) = true := decide_eq_true l16
  have q2 : (k != 0) = true := bne_iff_ne.mpr kn
  have q3 : (u.f0 == 0) = false := beq_eq_false_iff_ne.mpr a0
  have q4 : (v.f0 == 0) = true := beq_iff_eq.mpr z0
  have q5 : (u.f0 == k) = false := beq_eq_false_iff_ne.mpr ak
  have l3' := Aside0.mk l3
  have l16' := Aside0.mk l16
  have kn' := Aside0.mk kn
  have a0' := Aside0.mk a0
  have ak' := Aside0.mk ak
  have z0' := Aside0.mk z0
  clear l3 l16 kn a0 ak z0
  go_enter Try.func38, Try.ntmps38
  go_wp2_with (first | (go_at_call 39; (with_reducible refine (calc_wants.calls op k _ HK.out).mono ?_); rintro e w' ⟨rfl, ⟨nd, rfl⟩⟩) | (go_at_call 30; (with_reducible refine (calc_check.yes _ _).mono ?_); rintro e w' ⟨rfl, rfl⟩) | (go_at_call 30; (with_reducible refine (calc_check.no _ _).mono ?_); rintro e w' ⟨rfl, rfl⟩))
  exact ⟨rfl, rfl, by repeat (first | exact HS.out.bel | apply pw_below_drewN | apply below_drew1)⟩
set_option maxHeartbeats 2000000 in
set_option maxRecDepth 100000 in
theorem calc_Binary1.kindA0 (op : Int) (u v : S25) (k : Int) (HK : Aside0 (calc_wants.f op = some k)) (b0 b1 b2 : Nat) (W : World) (h0 : W.heap[b0]? = some (.cells #[.int .i64 op] 3 (0, 0))) (h1 : W.heap[b1]? = some (.cells #[.int .i64 u.f0, .int .i64 u.f1, .string u.f2] 25 (0, 0))) (h2 : W.heap[b2]? = some (.cells #[.int .i64 v.f0, .int .i64 v.f1, .string v.f2] 25 (0, 0))) (l3 : 3 ≤ op) (l16 : op ≤ 16) (kn : ¬ k = 0) (a0 : ¬ u.f0 = 0) (ak : ¬ u.f0 = k) (z0 : ¬ v.f0 = 0) :
    Calls Try.prog 38 #[.pointer (some ⟨b0, 0, none⟩), .pointer (some ⟨b1, 0, none⟩), .pointer (some ⟨b2, 0, none⟩)] W (fun e w' => RE (.error 35) e ∧ Below W.heap.size W w') := by
  have hu25 := Try.underlying25
  have n0 : ¬ b0 = W.heap.size := by have := blk_lt h0; omega
  have n1 : ¬ b1 = W.heap.size := by have := blk_lt h1; omega
  have n2 : ¬ b2 = W.heap.size := by have := blk_lt h2; omega
  have HS := Aside0.mk (BI.start h0 h1 h2)
  clear h0 h1 h2
  have hc0 := HS.out.o
  have ha0 := HS.out.a0
  have ha1 := HS.out.a1
  have ha2 := HS.out.a2
  have hb0 := HS.out.v0
  have hb1 := HS.out.v1
  have hb2 := HS.out.v2
  have q0 : decide (3 ≤ op) = true := decide_eq_true l3
  have q1 : decide (op ≤ 16) = true := decide_eq_true l16
  have q2 : (k != 0) = true := bne_iff_ne.mpr kn
  have q3 : (u.f0 == 0) = false := beq_eq_false_iff_ne.mpr a0
  have q4 : (v.f0 == 0) = false := beq_eq_false_iff_ne.mpr z0
  have q5 : (u.f0 == k) = false := beq_eq_false_iff_ne.mpr ak
  have l3' := Aside0.mk l3
  have l16' := Aside0.mk l16
  have kn' := Aside0.mk kn
  have a0' := Aside0.mk a0
  have ak' := Aside0.mk ak
  have z0' := Aside0.mk z0
  clear l3 l16 kn a0 ak z0
  go_enter Try.func38, Try.ntmps38
  go_wp2_with (first | (go_at_call 39; (with_reducible refine (calc_wants.calls op k _ HK.out).mono ?_); rintro e w' ⟨rfl, ⟨nd, rfl⟩⟩) | (go_at_call 30; (with_reducible refine (calc_check.yes _ _).mono ?_); rintro e w' ⟨rfl, rfl⟩) | (go_at_call 30; (with_reducible refine (calc_check.no _ _).mono ?_); rintro e w' ⟨rfl, rfl⟩))
  exact ⟨rfl, rfl, by repeat (first | exact HS.out.bel | apply pw_below_drewN | apply below_drew1)⟩
set_option maxHeartbeats 2000000 in
set_option maxRecDepth 100000 in
theorem calc_Binary1.kindB1 (op : Int) (u v : S25) (k : Int) (HK : Aside0 (calc_wants.f op = some k)) (b0 b1 b2 : Nat) (W : World) (h0 : W.heap[b0]? = some (.cells #[.int .i64 op] 3 (0, 0))) (h1 : W.heap[b1]? = some (.cells #[.int .i64 u.f0, .int .i64 u.f1, .string u.f2] 25 (0, 0))) (h2 : W.heap[b2]? = some (.cells #[.int .i64 v.f0, .int .i64 v.f1, .string v.f2] 25 (0, 0))) (l3 : 3 ≤ op) (l16 : op ≤ 16) (kn : ¬ k = 0) (a0 : u.f0 = 0) (z0 : ¬ v.f0 = 0) (zk : ¬ v.f0 = k) :
    Calls Try.prog 38 #[.pointer (some ⟨b0, 0, none⟩), .pointer (some ⟨b1, 0, none⟩), .pointer (some ⟨b2, 0, none⟩)] W (fun e w' => RE (.error 35) e ∧ Below W.heap.size W w') := by
  have hu25 := Try.underlying25
  have n0 : ¬ b0 = W.heap.size := by have := blk_lt h0; omega
  have n1 : ¬ b1 = W.heap.size := by have := blk_lt h1; omega
  have n2 : ¬ b2 = W.heap.size := by have := blk_lt h2; omega
  have HS := Aside0.mk (BI.start h0 h1 h2)
  clear h0 h1 h2
  have hc0 := HS.out.o
  have ha0 := HS.out.a0
  have ha1 := HS.out.a1
  have ha2 := HS.out.a2
  have hb0 := HS.out.v0
  have hb1 := HS.out.v1
  have hb2 := HS.out.v2
  have q0 : decide (3 ≤ op) = true := decide_eq_true l3
  have q1 : decide (op ≤ 16) = true := decide_eq_true l16
  have q2 : (k != 0) = true := bne_iff_ne.mpr kn
  have q3 : (u.f0 == 0) = true := beq_iff_eq.mpr a0
  have q4 : (v.f0 == 0) = false := beq_eq_false_iff_ne.mpr z0
  have q5 : (u.f0 == k) = false := beq_eq_false_iff_ne.mpr (fun h => kn (h.symm.trans a0))
  have q6 : (v.f0 == k) = false := beq_eq_false_iff_ne.mpr zk
  have l3' := Aside0.mk l3
  have l16' := Aside0.mk l16
  have kn' := Aside0.mk kn
  have a0' := Aside0.mk a0
  have z0' := Aside0.mk z0
  have zk' := Aside0.mk zk
  clear l3 l16 kn a0 z0 zk
  go_enter Try.func38, Try.ntmps38
  go_wp2_with (first | (go_at_call 39; (with_reducible refine (calc_wants.calls op k _ HK.out).mono ?_); rintro e w' ⟨rfl, ⟨nd, rfl⟩⟩) | (go_at_call 30; (with_reducible refine (calc_check.yes _ _).mono ?_); rintro e w' ⟨rfl, rfl⟩) | (go_at_call 30; (with_reducible refine (calc_check.no _ _).mono ?_); rintro e w' ⟨rfl, rfl⟩))
  exact ⟨rfl, rfl, by repeat (first | exact HS.out.bel | apply pw_below_drewN | apply below_drew1)⟩
set_option maxHeartbeats 2000000 in
set_option maxRecDepth 100000 in
theorem calc_Binary1.kindB0 (op : Int) (u v : S25) (k : Int) (HK : Aside0 (calc_wants.f op = some k)) (b0 b1 b2 : Nat) (W : World) (h0 : W.heap[b0]? = some (.cells #[.int .i64 op] 3 (0, 0))) (h1 : W.heap[b1]? = some (.cells #[.int .i64 u.f0, .int .i64 u.f1, .string u.f2] 25 (0, 0))) (h2 : W.heap[b2]? = some (.cells #[.int .i64 v.f0, .int .i64 v.f1, .string v.f2] 25 (0, 0))) (l3 : 3 ≤ op) (l16 : op ≤ 16) (kn : ¬ k = 0) (a0 : ¬ u.f0 = 0) (z0 : ¬ v.f0 = 0) (ak : u.f0 = k) (zk : ¬ v.f0 = k) :
    Calls Try.prog 38 #[.pointer (some ⟨b0, 0, none⟩), .pointer (some ⟨b1, 0, none⟩), .pointer (some ⟨b2, 0, none⟩)] W (fun e w' => RE (.error 35) e ∧ Below W.heap.size W w') := by
  have hu25 := Try.underlying25
  have n0 : ¬ b0 = W.heap.size := by have := blk_lt h0; omega
  have n1 : ¬ b1 = W.heap.size := by have := blk_lt h1; omega
  have n2 : ¬ b2 = W.heap.size := by have := blk_lt h2; omega
  have HS := Aside0.mk (BI.start h0 h1 h2)
  clear h0 h1 h2
  have hc0 := HS.out.o
  have ha0 := HS.out.a0
  have ha1 := HS.out.a1
  have ha2 := HS.out.a2
  have hb0 := HS.out.v0
  have hb1 := HS.out.v1
  have hb2 := HS.out.v2
  have q0 : decide (3 ≤ op) = true := decide_eq_true l3
  have q1 : decide (op ≤ 16) = true := decide_eq_true l16
  have q2 : (k != 0) = true := bne_iff_ne.mpr kn
  have q3 : (u.f0 == 0) = false := beq_eq_false_iff_ne.mpr a0
  have q4 : (v.f0 == 0) = false := beq_eq_false_iff_ne.mpr z0
  have q5 : (u.f0 == k) = true := beq_iff_eq.mpr ak
  have q6 : (v.f0 == k) = false := beq_eq_false_iff_ne.mpr zk
  have l3' := Aside0.mk l3
  have l16' := Aside0.mk l16
  have kn' := Aside0.mk kn
  have a0' := Aside0.mk a0
  have z0' := Aside0.mk z0
  have ak' := Aside0.mk ak
  have zk' := Aside0.mk zk
  clear l3 l16 kn a0 z0 ak zk
  go_enter Try.func38, Try.ntmps38
  go_wp2_with (first | (go_at_call 39; (with_reducible refine (calc_wants.calls op k _ HK.out).mono ?_); rintro e w' ⟨rfl, ⟨nd, rfl⟩⟩) | (go_at_call 30; (with_reducible refine (calc_check.yes _ _).mono ?_); rintro e w' ⟨rfl, rfl⟩) | (go_at_call 30; (with_reducible refine (calc_check.no _ _).mono ?_); rintro e w' ⟨rfl, rfl⟩))
  exact ⟨rfl, rfl, by repeat (first | exact HS.out.bel | apply pw_below_drewN | apply below_drew1)⟩
set_option maxHeartbeats 2000000 in
set_option maxRecDepth 100000 in
theorem calc_Binary1.kindC (op : Int) (u v : S25) (k : Int) (HK : Aside0 (calc_wants.f op = some k)) (b0 b1 b2 : Nat) (W : World) (h0 : W.heap[b0]? = some (.cells #[.int .i64 op] 3 (0, 0))) (h1 : W.heap[b1]? = some (.cells #[.int .i64 u.f0, .int .i64 u.f1, .string u.f2] 25 (0, 0))) (h2 : W.heap[b2]? = some (.cells #[.int .i64 v.f0, .int .i64 v.f1, .string v.f2] 25 (0, 0))) (l3 : 3 ≤ op) (l16 : op ≤ 16) (kz : k = 0) (a0 : ¬ u.f0 = 0) (z0 : ¬ v.f0 = 0) (uv : ¬ u.f0 = v.f0) :
    Calls Try.prog 38 #[.pointer (some ⟨b0, 0, none⟩), .pointer (some ⟨b1, 0, none⟩), .pointer (some ⟨b2, 0, none⟩)] W (fun e w' => RE (.error 35) e ∧ Below W.heap.size W w') := by
  have hu25 := Try.underlying25
  have n0 : ¬ b0 = W.heap.size := by have := blk_lt h0; omega
  have n1 : ¬ b1 = W.heap.size := by have := blk_lt h1; omega
  have n2 : ¬ b2 = W.heap.size := by have := blk_lt h2; omega
  have HS := Aside0.mk (BI.start h0 h1 h2)
  clear h0 h1 h2
  have hc0 := HS.out.o
  have ha0 := HS.out.a0
  have ha1 := HS.out.a1
  have ha2 := HS.out.a2
  have hb0 := HS.out.v0
  have hb1 := HS.out.v1
  have hb2 := HS.out.v2
  have q0 : decide (3 ≤ op) = true := decide_eq_true l3
  have q1 : decide (op ≤ 16) = true := decide_eq_true l16
  have q2 : (k != 0) = false := bne_eq_false_iff_eq.mpr kz
  have q3 : (u.f0 == 0) = false := beq_eq_false_iff_ne.mpr a0
  have q4 : (v.f0 == 0) = false := beq_eq_false_iff_ne.mpr z0
  have q5 : (u.f0 == v.f0) = false := beq_eq_false_iff_ne.mpr uv
  have l3' := Aside0.mk l3
  have l16' := Aside0.mk l16
  have kz' := Aside0.mk kz
  have a0' := Aside0.mk a0
  have z0' := Aside0.mk z0
  have uv' := Aside0.mk uv
  clear l3 l16 kz a0 z0 uv
  go_enter Try.func38, Try.ntmps38
  go_wp2_with (first | (go_at_call 39; (with_reducible refine (calc_wants.calls op k _ HK.out).mono ?_); rintro e w' ⟨rfl, ⟨nd, rfl⟩⟩) | (go_at_call 30; (with_reducible refine (calc_check.yes _ _).mono ?_); rintro e w' ⟨rfl, rfl⟩) | (go_at_call 30; (with_reducible refine (calc_check.no _ _).mono ?_); rintro e w' ⟨rfl, rfl⟩))
  exact ⟨rfl, rfl, by repeat (first | exact HS.out.bel | apply pw_below_drewN | apply below_drew1)⟩
set_option maxHeartbeats 2000000 in
set_option maxRecDepth 100000 in
theorem calc_Binary1.nullK11 (op : Int) (u v : S25) (k : Int) (HK : Aside0 (calc_wants.f op = some k)) (b0 b1 b2 : Nat) (W : World) (h0 : W.heap[b0]? = some (.cells #[.int .i64 op] 3 (0, 0))) (h1 : W.heap[b1]? = some (.cells #[.int .i64 u.f0, .int .i64 u.f1, .string u.f2] 25 (0, 0))) (h2 : W.heap[b2]? = some (.cells #[.int .i64 v.f0, .int .i64 v.f1, .string v.f2] 25 (0, 0))) (l3 : 3 ≤ op) (l16 : op ≤ 16) (kn : ¬ k = 0) (l4 : ¬ op ≤ 4) (a0 : u.f0 = 0) (z0 : v.f0 = 0) :
    Calls Try.prog 38 #[.pointer (some ⟨b0, 0, none⟩), .pointer (some ⟨b1, 0, none⟩), .pointer (some ⟨b2, 0, none⟩)] W (fun e w' => RE (.ok zeroV) e ∧ Below W.heap.size W w') := by
  have hu25 := Try.underlying25
  have n0 : ¬ b0 = W.heap.size := by have := blk_lt h0; omega
  have n1 : ¬ b1 = W.heap.size := by have := blk_lt h1; omega
  have n2 : ¬ b2 = W.heap.size := by have := blk_lt h2; omega
  have HS := Aside0.mk (BI.start h0 h1 h2)
  clear h0 h1 h2
  have hc0 := HS.out.o
  have ha0 := HS.out.a0
  have ha1 := HS.out.a1
  have ha2 := HS.out.a2
  have hb0 := HS.out.v0
  have hb1 := HS.out.v1
  have hb2 := HS.out.v2
  have q0 : decide (3 ≤ op) = true := decide_eq_true l3
  have q1 : decide (op ≤ 16) = true := decide_eq_true l16
  have q2 : (k != 0) = true := bne_iff_ne.mpr kn
  have q3 : decide (op ≤ 4) = false := decide_eq_false l4
  have q4 : (u.f0 == 0) = true := beq_iff_eq.mpr a0
  have q5 : (v.f0 == 0) = true := beq_iff_eq.mpr z0
  have q6 : (u.f0 == k) = false := beq_eq_false_iff_ne.mpr (fun h => kn (h.symm.trans a0))
  have q7 : (v.f0 == k) = false := beq_eq_false_iff_ne.mpr (fun h => kn (h.symm.trans z0))
  have l3' := Aside0.mk l3
  have l16' := Aside0.mk l16
  have kn' := Aside0.mk kn
  have l4' := Aside0.mk l4
  have a0' := Aside0.mk a0
  have z0' := Aside0.mk z0
  clear l3 l16 kn l4 a0 z0
  go_enter Try.func38, Try.ntmps38
  go_wp2_with (first | (go_at_call 39; (with_reducible refine (calc_wants.calls op k _ HK.out).mono ?_); rintro e w' ⟨rfl, ⟨nd, rfl⟩⟩) | (go_at_call 30; (with_reducible refine (calc_check.yes _ _).mono ?_); rintro e w' ⟨rfl, rfl⟩) | (go_at_call 30; (with_reducible refine (calc_check.no _ _).mono ?_); rintro e w' ⟨rfl, rfl⟩))
  refine bodyPost_ret (v := .agg #[.int .i64 0, .int .i64 0, .string V0]) (by simp [results, Try.results38, go_sem, V0]) rfl ⟨rfl, ?_⟩
  refine below_set3 ?_ (Nat.le_refl W.heap.size) _ _ _ _ _ _
  repeat (first | (with_reducible exact HS.out.bel) | apply pw_below_drewN | apply below_drew1)
set_option maxHeartbeats 2000000 in
set_option maxRecDepth 100000 in
theorem calc_Binary1.nullK10 (op : Int) (u v : S25) (k : Int) (HK : Aside0 (calc_wants.f op = some k)) (b0 b1 b2 : Nat) (W : World) (h0 : W.heap[b0]? = some (.cells #[.int .i64 op] 3 (0, 0))) (h1 : W.heap[b1]? = some (.cells #[.int .i64 u.f0, .int .i64 u.f1, .string u.f2] 25 (0, 0))) (h2 : W.heap[b2]? = some (.cells #[.int .i64 v.f0, .int .i64 v.f1, .string v.f2] 25 (0, 0))) (l3 : 3 ≤ op) (l16 : op ≤ 16) (kn : ¬ k = 0) (l4 : ¬ op ≤ 4) (a0 : u.f0 = 0) (z0 : ¬ v.f0 = 0) (zk : v.f0 = k) :
    Calls Try.prog 38 #[.pointer (some ⟨b0, 0, none⟩), .pointer (some ⟨b1, 0, none⟩), .pointer (some ⟨b2, 0, none⟩)] W (fun e w' => RE (.ok zeroV) e ∧ Below W.heap.size W w') := by
  have hu25 := Try.underlying25
  have n0 : ¬ b0 = W.heap.size := by have := blk_lt h0; omega
  have n1 : ¬ b1 = W.heap.size := by have := blk_lt h1; omega
  have n2 : ¬ b2 = W.heap.size := by have := blk_lt h2; omega
  have HS := Aside0.mk (BI.start h0 h1 h2)
  clear h0 h1 h2
  have hc0 := HS.out.o
  have ha0 := HS.out.a0
  have ha1 := HS.out.a1
  have ha2 := HS.out.a2
  have hb0 := HS.out.v0
  have hb1 := HS.out.v1
  have hb2 := HS.out.v2
  have q0 : decide (3 ≤ op) = true := decide_eq_true l3
  have q1 : decide (op ≤ 16) = true := decide_eq_true l16
  have q2 : (k != 0) = true := bne_iff_ne.mpr kn
  have q3 : decide (op ≤ 4) = false := decide_eq_false l4
  have q4 : (u.f0 == 0) = true := beq_iff_eq.mpr a0
  have q5 : (v.f0 == 0) = false := beq_eq_false_iff_ne.mpr z0
  have q6 : (u.f0 == k) = false := beq_eq_false_iff_ne.mpr (fun h => kn (h.symm.trans a0))
  have q7 : (v.f0 == k) = true := beq_iff_eq.mpr zk
  have l3' := Aside0.mk l3
  have l16' := Aside0.mk l16
  have kn' := Aside0.mk kn
  have l4' := Aside0.mk l4
  have a0' := Aside0.mk a0
  have z0' := Aside0.mk z0
  have zk' := Aside0.mk zk
  clear l3 l16 kn l4 a0 z0 zk
  go_enter Try.func38, Try.ntmps38
  go_wp2_with (first | (go_at_call 39; (with_reducible refine (calc_wants.calls op k _ HK.out).mono ?_); rintro e w' ⟨rfl, ⟨nd, rfl⟩⟩) | (go_at_call 30; (with_reducible refine (calc_check.yes _ _).mono ?_); rintro e w' ⟨rfl, rfl⟩) | (go_at_call 30; (with_reducible refine (calc_check.no _ _).mono ?_); rintro e w' ⟨rfl, rfl⟩))
  refine bodyPost_ret (v := .agg #[.int .i64 0, .int .i64 0, .string V0]) (by simp [results, Try.results38, go_sem, V0]) rfl ⟨rfl, ?_⟩
  refine below_set3 ?_ (Nat.le_refl W.heap.size) _ _ _ _ _ _
  repeat (first | (with_reducible exact HS.out.bel) | apply pw_below_drewN | apply below_drew1)
set_option maxHeartbeats 2000000 in
set_option maxRecDepth 100000 in
theorem calc_Binary1.nullK01 (op : Int) (u v : S25) (k : Int) (HK : Aside0 (calc_wants.f op = some k)) (b0 b1 b2 : Nat) (W : World) (h0 : W.heap[b0]? = some (.cells #[.int .i64 op] 3 (0, 0))) (h1 : W.heap[b1]? = some (.cells #[.int .i64 u.f0, .int .i64 u.f1, .string u.f2] 25 (0, 0))) (h2 : W.heap[b2]? = some (.cells #[.int .i64 v.f0, .int .i64 v.f1, .string v.f2] 25 (0, 0))) (l3 : 3 ≤ op) (l16 : op ≤ 16) (kn : ¬ k = 0) (l4 : ¬ op ≤ 4) (a0 : ¬ u.f0 = 0) (z0 : v.f0 = 0) (ak : u.f0 = k) :
    Calls Try.prog 38 #[.pointer (some ⟨b0, 0, none⟩), .pointer (some ⟨b1, 0, none⟩), .pointer (some ⟨b2, 0, none⟩)] W (fun e w' => RE (.ok zeroV) e ∧ Below W.heap.size W w') := by
  have hu25 := Try.underlying25
  have n0 : ¬ b0 = W.heap.size := by have := blk_lt h0; omega
  have n1 : ¬ b1 = W.heap.size := by have := blk_lt h1; omega
  have n2 : ¬ b2 = W.heap.size := by have := blk_lt h2; omega
  have HS := Aside0.mk (BI.start h0 h1 h2)
  clear h0 h1 h2
  have hc0 := HS.out.o
  have ha0 := HS.out.a0
  have ha1 := HS.out.a1
  have ha2 := HS.out.a2
  have hb0 := HS.out.v0
  have hb1 := HS.out.v1
  have hb2 := HS.out.v2
  have q0 : decide (3 ≤ op) = true := decide_eq_true l3
  have q1 : decide (op ≤ 16) = true := decide_eq_true l16
  have q2 : (k != 0) = true := bne_iff_ne.mpr kn
  have q3 : decide (op ≤ 4) = false := decide_eq_false l4
  have q4 : (u.f0 == 0) = false := beq_eq_false_iff_ne.mpr a0
  have q5 : (v.f0 == 0) = true := beq_iff_eq.mpr z0
  have q6 : (u.f0 == k) = true := beq_iff_eq.mpr ak
  have q7 : (v.f0 == k) = false := beq_eq_false_iff_ne.mpr (fun h => kn (h.symm.trans z0))
  have l3' := Aside0.mk l3
  have l16' := Aside0.mk l16
  have kn' := Aside0.mk kn
  have l4' := Aside0.mk l4
  have a0' := Aside0.mk a0
  have z0' := Aside0.mk z0
  have ak' := Aside0.mk ak
  clear l3 l16 kn l4 a0 z0 ak
  go_enter Try.func38, Try.ntmps38
  go_wp2_with (first | (go_at_call 39; (with_reducible refine (calc_wants.calls op k _ HK.out).mono ?_); rintro e w' ⟨rfl, ⟨nd, rfl⟩⟩) | (go_at_call 30; (with_reducible refine (calc_check.yes _ _).mono ?_); rintro e w' ⟨rfl, rfl⟩) | (go_at_call 30; (with_reducible refine (calc_check.no _ _).mono ?_); rintro e w' ⟨rfl, rfl⟩))
  refine bodyPost_ret (v := .agg #[.int .i64 0, .int .i64 0, .string V0]) (by simp [results, Try.results38, go_sem, V0]) rfl ⟨rfl, ?_⟩
  refine below_set3 ?_ (Nat.le_refl W.heap.size) _ _ _ _ _ _
  repeat (first | (with_reducible exact HS.out.bel) | apply pw_below_drewN | apply below_drew1)
set_option maxHeartbeats 2000000 in
set_option maxRecDepth 100000 in
theorem calc_Binary1.nullA (op : Int) (u v : S25) (k : Int) (HK : Aside0 (calc_wants.f op = some k)) (b0 b1 b2 : Nat) (W : World) (h0 : W.heap[b0]? = some (.cells #[.int .i64 op] 3 (0, 0))) (h1 : W.heap[b1]? = some (.cells #[.int .i64 u.f0, .int .i64 u.f1, .string u.f2] 25 (0, 0))) (h2 : W.heap[b2]? = some (.cells #[.int .i64 v.f0, .int .i64 v.f1, .string v.f2] 25 (0, 0))) (l3 : 3 ≤ op) (l16 : op ≤ 16) (kz : k = 0) (l4 : ¬ op ≤ 4) (a0 : u.f0 = 0) :
    Calls Try.prog 38 #[.pointer (some ⟨b0, 0, none⟩), .pointer (some ⟨b1, 0, none⟩), .pointer (some ⟨b2, 0, none⟩)] W (fun e w' => RE (.ok zeroV) e ∧ Below W.heap.size W w') := by
  have hu25 := Try.underlying25
  have n0 : ¬ b0 = W.heap.size := by have := blk_lt h0; omega
  have n1 : ¬ b1 = W.heap.size := by have := blk_lt h1; omega
  have n2 : ¬ b2 = W.heap.size := by have := blk_lt h2; omega
  have HS := Aside0.mk (BI.start h0 h1 h2)
  clear h0 h1 h2
  have hc0 := HS.out.o
  have ha0 := HS.out.a0
  have ha1 := HS.out.a1
  have ha2 := HS.out.a2
  have hb0 := HS.out.v0
  have hb1 := HS.out.v1
  have hb2 := HS.out.v2
  have q0 : decide (3 ≤ op) = true := decide_eq_true l3
  have q1 : decide (op ≤ 16) = true := decide_eq_true l16
  have q2 : (k != 0) = false := bne_eq_false_iff_eq.mpr kz
  have q3 : decide (op ≤ 4) = false := decide_eq_false l4
  have q4 : (u.f0 == 0) = true := beq_iff_eq.mpr a0
  have l3' := Aside0.mk l3
  have l16' := Aside0.mk l16
  have kz' := Aside0.mk kz
  have l4' := Aside0.mk l4
  have a0' := Aside0.mk a0
  clear l3 l16 kz l4 a0
  go_enter Try.func38, Try.ntmps38
  go_wp2_with (first | (go_at_call 39; (with_reducible refine (calc_wants.calls op k _ HK.out).mono ?_); rintro e w' ⟨rfl, ⟨nd, rfl⟩⟩) | (go_at_call 30; (with_reducible refine (calc_check.yes _ _).mono ?_); rintro e w' ⟨rfl, rfl⟩) | (go_at_call 30; (with_reducible refine (calc_check.no _ _).mono ?_); rintro e w' ⟨rfl, rfl⟩))
  refine bodyPost_ret (v := .agg #[.int .i64 0, .int .i64 0, .string V0]) (by simp [results, Try.results38, go_sem, V0]) rfl ⟨rfl, ?_⟩
  refine below_set3 ?_ (Nat.le_refl W.heap.size) _ _ _ _ _ _
  repeat (first | (with_reducible exact HS.out.bel) | apply pw_below_drewN | apply below_drew1)
set_option maxHeartbeats 2000000 in
set_option maxRecDepth 100000 in
theorem calc_Binary1.nullB (op : Int) (u v : S25) (k : Int) (HK : Aside0 (calc_wants.f op = some k)) (b0 b1 b2 : Nat) (W : World) (h0 : W.heap[b0]? = some (.cells #[.int .i64 op] 3 (0, 0))) (h1 : W.heap[b1]? = some (.cells #[.int .i64 u.f0, .int .i64 u.f1, .string u.f2] 25 (0, 0))) (h2 : W.heap[b2]? = some (.cells #[.int .i64 v.f0, .int .i64 v.f1, .string v.f2] 25 (0, 0))) (l3 : 3 ≤ op) (l16 : op ≤ 16) (kz : k = 0) (l4 : ¬ op ≤ 4) (a0 : ¬ u.f0 = 0) (z0 : v.f0 = 0) :
    Calls Try.prog 38 #[.pointer (some ⟨b0, 0, none⟩), .pointer (some ⟨b1, 0, none⟩), .pointer (some ⟨b2, 0, none⟩)] W (fun e w' => RE (.ok zeroV) e ∧ Below W.heap.size W w') := by
  have hu25 := Try.underlying25
  have n0 : ¬ b0 = W.heap.size := by have := blk_lt h0; omega
  have n1 : ¬ b1 = W.heap.size := by have := blk_lt h1; omega
  have n2 : ¬ b2 = W.heap.size := by have := blk_lt h2; omega
  have HS := Aside0.mk (BI.start h0 h1 h2)
  clear h0 h1 h2
  have hc0 := HS.out.o
  have ha0 := HS.out.a0
  have ha1 := HS.out.a1
  have ha2 := HS.out.a2
  have hb0 := HS.out.v0
  have hb1 := HS.out.v1
  have hb2 := HS.out.v2
  have q0 : decide (3 ≤ op) = true := decide_eq_true l3
  have q1 : decide (op ≤ 16) = true := decide_eq_true l16
  have q2 : (k != 0) = false := bne_eq_false_iff_eq.mpr kz
  have q3 : decide (op ≤ 4) = false := decide_eq_false l4
  have q4 : (u.f0 == 0) = false := beq_eq_false_iff_ne.mpr a0
  have q5 : (v.f0 == 0) = true := beq_iff_eq.mpr z0
  have l3' := Aside0.mk l3
  have l16' := Aside0.mk l16
  have kz' := Aside0.mk kz
  have l4' := Aside0.mk l4
  have a0' := Aside0.mk a0
  have z0' := Aside0.mk z0
  clear l3 l16 kz l4 a0 z0
  go_enter Try.func38, Try.ntmps38
  go_wp2_with (first | (go_at_call 39; (with_reducible refine (calc_wants.calls op k _ HK.out).mono ?_); rintro e w' ⟨rfl, ⟨nd, rfl⟩⟩) | (go_at_call 30; (with_reducible refine (calc_check.yes _ _).mono ?_); rintro e w' ⟨rfl, rfl⟩) | (go_at_call 30; (with_reducible refine (calc_check.no _ _).mono ?_); rintro e w' ⟨rfl, rfl⟩))
  refine bodyPost_ret (v := .agg #[.int .i64 0, .int .i64 0, .string V0]) (by simp [results, Try.results38, go_sem, V0]) rfl ⟨rfl, ?_⟩
  refine below_set3 ?_ (Nat.le_refl W.heap.size) _ _ _ _ _ _
  repeat (first | (with_reducible exact HS.out.bel) | apply pw_below_drewN | apply below_drew1)
set_option maxHeartbeats 2000000 in
set_option maxRecDepth 100000 in
theorem calc_Binary1.catLong (op : Int) (u v : S25) (k : Int) (HK : Aside0 (calc_wants.f op = some k)) (b0 b1 b2 : Nat) (W : World) (h0 : W.heap[b0]? = some (.cells #[.int .i64 op] 3 (0, 0))) (h1 : W.heap[b1]? = some (.cells #[.int .i64 u.f0, .int .i64 u.f1, .string u.f2] 25 (0, 0))) (h2 : W.heap[b2]? = some (.cells #[.int .i64 v.f0, .int .i64 v.f1, .string v.f2] 25 (0, 0))) (l3 : 3 ≤ op) (l16 : op ≤ 16) (kn : ¬ k = 0) (l4 : ¬ op ≤ 4) (l10 : ¬ op ≤ 10) (o16 : op = 16) (a0 : ¬ u.f0 = 0) (z0 : ¬ v.f0 = 0) (ak : u.f0 = k) (zk : v.f0 = k) (hz : u.f2.size + v.f2.size < 9223372036854775808) (hl : ¬ u.f2.size + v.f2.size ≤ 2048) :
    Calls Try.prog 38 #[.pointer (some ⟨b0, 0, none⟩), .pointer (some ⟨b1, 0, none⟩), .pointer (some ⟨b2, 0, none⟩)] W (fun e w' => RE (.error 8) e ∧ Below W.heap.size W w') := by
  have hu25 := Try.underlying25
  have n0 : ¬ b0 = W.heap.size := by have := blk_lt h0; omega
  have n1 : ¬ b1 = W.heap.size := by have := blk_lt h1; omega
  have n2 : ¬ b2 = W.heap.size := by have := blk_lt h2; omega
  have HS := Aside0.mk (BI.start h0 h1 h2)
  clear h0 h1 h2
  have hc0 := HS.out.o
  have ha0 := HS.out.a0
  have ha1 := HS.out.a1
  have ha2 := HS.out.a2
  have hb0 := HS.out.v0
  have hb1 := HS.out.v1
  have hb2 := HS.out.v2
  have q0 : decide (3 ≤ op) = true := decide_eq_true l3
  have q1 : decide (op ≤ 16) = true := decide_eq_true l16
  have q2 : (k != 0) = true := bne_iff_ne.mpr kn
  have q3 : decide (op ≤ 4) = false := decide_eq_false l4
  have q4 : decide (op ≤ 10) = false := decide_eq_false l10
  have q5 : (op == 16) = true := beq_iff_eq.mpr o16
  have q6 : (u.f0 == 0) = false := beq_eq_false_iff_ne.mpr a0
  have q7 : (v.f0 == 0) = false := beq_eq_false_iff_ne.mpr z0
  have q8 : (u.f0 == k) = true := beq_iff_eq.mpr ak
  have q9 : (v.f0 == k) = true := beq_iff_eq.mpr zk
  have q10 : decide ((u.f2.size : Int) + (v.f2.size : Int) ≤ 2048) = false := decide_eq_false (by omega)
  have q11 : decide (wrap64 ((u.f2.size : Int) + (v.f2.size : Int)) ≤ 2048) = false := decide_eq_false (by unfold wrap64; omega)
  have l3' := Aside0.mk l3
  have l16' := Aside0.mk l16
  have kn' := Aside0.mk kn
  have l4' := Aside0.mk l4
  have l10' := Aside0.mk l10
  have o16' := Aside0.mk o16
  have a0' := Aside0.mk a0
  have z0' := Aside0.mk z0
  have ak' := Aside0.mk ak
  have zk' := Aside0.mk zk
  have hz' := Aside0.mk hz
  have hl' := Aside0.mk hl
  clear l3 l16 kn l4 l10 o16 a0 z0 ak zk hz hl
  go_enter Try.func38, Try.ntmps38
  go_wp2_with (first | (go_at_call 39; (with_reducible refine (calc_wants.calls op k _ HK.out).mono ?_); rintro e w' ⟨rfl, ⟨nd, rfl⟩⟩) | (go_at_call 30; (with_reducible refine (calc_check.yes _ _).mono ?_); rintro e w' ⟨rfl, rfl⟩) | (go_at_call 30; (with_reducible refine (calc_check.no _ _).mono ?_); rintro e w' ⟨rfl, rfl⟩))
  exact ⟨rfl, rfl, by repeat (first | exact HS.out.bel | apply pw_below_drewN | apply below_drew1)⟩
set_option maxHeartbeats 2000000 in
set_option maxRecDepth 100000 in
theorem calc_Binary1.cat (op : Int) (u v : S25) (k : Int) (HK : Aside0 (calc_wants.f op = some k)) (b0 b1 b2 : Nat) (W : World) (h0 : W.heap[b0]? = some (.cells #[.int .i64 op] 3 (0, 0))) (h1 : W.heap[b1]? = some (.cells #[.int .i64 u.f0, .int .i64 u.f1, .string u.f2] 25 (0, 0))) (h2 : W.heap[b2]? = some (.cells #[.int .i64 v.f0, .int .i64 v.f1, .string v.f2] 25 (0, 0))) (l3 : 3 ≤ op) (l16 : op ≤ 16) (kn : ¬ k = 0) (l4 : ¬ op ≤ 4) (l10 : ¬ op ≤ 10) (o16 : op = 16) (a0 : ¬ u.f0 = 0) (z0 : ¬ v.f0 = 0) (ak : u.f0 = k) (zk : v.f0 = k) (hz : u.f2.size + v.f2.size < 9223372036854775808) (hl : u.f2.size + v.f2.size ≤ 2048) :
    Calls Try.prog 38 #[.pointer (some ⟨b0, 0, none⟩), .pointer (some ⟨b1, 0, none⟩), .pointer (some ⟨b2, 0, none⟩)] W (fun e w' => RE (.ok ⟨3, 0, u.f2 ++ v.f2⟩) e ∧ Below W.heap.size W w') := by
  have hu25 := Try.underlying25
  have n0 : ¬ b0 = W.heap.size := by have := blk_lt h0; omega
  have n1 : ¬ b1 = W.heap.size := by have := blk_lt h1; omega
  have n2 : ¬ b2 = W.heap.size := by have := blk_lt h2; omega
  have HS := Aside0.mk (BI.start h0 h1 h2)
  clear h0 h1 h2
  have hc0 := HS.out.o
  have ha0 := HS.out.a0
  have ha1 := HS.out.a1
  have ha2 := HS.out.a2
  have hb0 := HS.out.v0
  have hb1 := HS.out.v1
  have hb2 := HS.out.v2
  have q0 : decide (3 ≤ op) = true := decide_eq_true l3
  have q1 : decide (op ≤ 16) = true := decide_eq_true l16
  have q2 : (k != 0) = true := bne_iff_ne.mpr kn
  have q3 : decide (op ≤ 4) = false := decide_eq_false l4
  have q4 : decide (op ≤ 10) = false := decide_eq_false l10
  have q5 : (op == 16) = true := beq_iff_eq.mpr o16
  have q6 : (u.f0 == 0) = false := beq_eq_false_iff_ne.mpr a0
  have q7 : (v.f0 == 0) = false := beq_eq_false_iff_ne.mpr z0
  have q8 : (u.f0 == k) = true := beq_iff_eq.mpr ak
  have q9 : (v.f0 == k) = true := beq_iff_eq.mpr zk
  have q10 : decide ((u.f2.size : Int) + (v.f2.size : Int) ≤ 2048) = true := decide_eq_true (by omega)
  have q11 : decide (wrap64 ((u.f2.size : Int) + (v.f2.size : Int)) ≤ 2048) = true := decide_eq_true (by unfold wrap64; omega)
  have hcat : ¬ (9223372036854775807 < u.f2.size + v.f2.size) := by omega
  have l3' := Aside0.mk l3
  have l16' := Aside0.mk l16
  have kn' := Aside0.mk kn
  have l4' := Aside0.mk l4
  have l10' := Aside0.mk l10
  have o16' := Aside0.mk o16
  have a0' := Aside0.mk a0
  have z0' := Aside0.mk z0
  have ak' := Aside0.mk ak
  have zk' := Aside0.mk zk
  have hz' := Aside0.mk hz
  have hl' := Aside0.mk hl
  clear l3 l16 kn l4 l10 o16 a0 z0 ak zk hz hl
  go_enter Try.func38, Try.ntmps38
  go_wp2_with (first | (go_at_call 39; (with_reducible refine (calc_wants.calls op k _ HK.out).mono ?_); rintro e w' ⟨rfl, ⟨nd, rfl⟩⟩) | (go_at_call 30; (with_reducible refine (calc_check.yes _ _).mono ?_); rintro e w' ⟨rfl, rfl⟩) | (go_at_call 30; (with_reducible refine (calc_check.no _ _).mono ?_); rintro e w' ⟨rfl, rfl⟩))
  refine (calc_text.calls (u.f2 ++ v.f2) _ _ _ _ (show calc_text.f (u.f2 ++ v.f2) = some (3, 0, u.f2 ++ v.f2) from rfl)).mono ?_
  rintro e w1 ⟨rfl, hb⟩
  have HI : Aside0 (BI op u v b0 b1 b2 W w1) := ⟨BI.below (by repeat (first | exact HS.out | refine BI.drewN ?_ _ | refine BI.drew ?_)) hb⟩
  clear hb hc0 ha0 ha1 ha2 hb0 hb1 hb2
  have gc0 : w1.cell? ⟨W.heap.size, 0, none⟩ = some (.int .i64 0) := (blk_cell HI.out.2.2.2.1 0).trans rfl
  have gc1 : w1.cell? ⟨W.heap.size, 1, none⟩ = some (.int .i64 0) := (blk_cell HI.out.2.2.2.1 1).trans rfl
  have gc2 : w1.cell? ⟨W.heap.size, 2, none⟩ = some (.string (⟨#[]⟩ : ByteArray)) := (blk_cell HI.out.2.2.2.1 2).trans rfl
  have gf0 := blk_frozen HI.out.2.2.2.1 0
  have gf1 := blk_frozen HI.out.2.2.2.1 1
  have gf2 := blk_frozen HI.out.2.2.2.1 2
  go_wp2_with fail
  exact bodyPost_ret (v := .agg #[.int .i64 3, .int .i64 0, .string (u.f2 ++ v.f2)]) (by simp [results, Try.results38, go_sem, gc0, gc1, gc2]) rfl ⟨rfl, below_set3 HI.out.bel (Nat.le_refl W.heap.size) _ _ _ _ _ _⟩
set_option maxHeartbeats 2000000 in
set_option maxRecDepth 100000 in
theorem calc_Binary1.num (op : Int) (u v : S25) (k : Int) (HK : Aside0 (calc_wants.f op = some k)) (b0 b1 b2 : Nat) (W : World) (h0 : W.heap[b0]? = some (.cells #[.int .i64 op] 3 (0, 0))) (h1 : W.heap[b1]? = some (.cells #[.int .i64 u.f0, .int .i64 u.f1, .string u.f2] 25 (0, 0))) (h2 : W.heap[b2]? = some (.cells #[.int .i64 v.f0, .int .i64 v.f1, .string v.f2] 25 (0, 0))) (l3 : 3 ≤ op) (l16 : op ≤ 16) (kn : ¬ k = 0) (l4 : ¬ op ≤ 4) (l10 : ¬ op ≤ 10) (o16 : ¬ op = 16) (a0 : ¬ u.f0 = 0) (z0 : ¬ v.f0 = 0) (ak : u.f0 = k) (zk : v.f0 = k) (n : Int) (HN : Aside0 (sumP op u.f1 v.f1 = .ok n)) (HU : Aside0 (In64 u.f1)) (HV : Aside0 (In64 v.f1)) :
    Calls Try.prog 38 #[.pointer (some ⟨b0, 0, none⟩), .pointer (some ⟨b1, 0, none⟩), .pointer (some ⟨b2, 0, none⟩)] W (fun e w' => RE (.ok ⟨2, n, V0⟩) e ∧ Below W.heap.size W w') := by
  have hu25 := Try.underlying25
  have n0 : ¬ b0 = W.heap.size := by have := blk_lt h0; omega
  have n1 : ¬ b1 = W.heap.size := by have := blk_lt h1; omega
  have n2 : ¬ b2 = W.heap.size := by have := blk_lt h2; omega
  have HS := Aside0.mk (BI.start h0 h1 h2)
  clear h0 h1 h2
  have hc0 := HS.out.o
  have ha0 := HS.out.a0
  have ha1 := HS.out.a1
  have ha2 := HS.out.a2
  have hb0 := HS.out.v0
  have hb1 := HS.out.v1
  have hb2 := HS.out.v2
  have q0 : decide (3 ≤ op) = true := decide_eq_true l3
  have q1 : decide (op ≤ 16) = true := decide_eq_true l16
  have q2 : (k != 0) = true := bne_iff_ne.mpr kn
  have q3 : decide (op ≤ 4) = false := decide_eq_false l4
  have q4 : decide (op ≤ 10) = false := decide_eq_false l10
  have q5 : (op == 16) = false := beq_eq_false_iff_ne.mpr o16
  have q6 : (u.f0 == 0) = false := beq_eq_false_iff_ne.mpr a0
  have q7 : (v.f0 == 0) = false := beq_eq_false_iff_ne.mpr z0
  have q8 : (u.f0 == k) = true := beq_iff_eq.mpr ak
  have q9 : (v.f0 == k) = true := beq_iff_eq.mpr zk
  have l3' := Aside0.mk l3
  have l16' := Aside0.mk l16
  have kn' := Aside0.mk kn
  have l4' := Aside0.mk l4
  have l10' := Aside0.mk l10
  have o16' := Aside0.mk o16
  have a0' := Aside0.mk a0
  have z0' := Aside0.mk z0
  have ak' := Aside0.mk ak
  have zk' := Aside0.mk zk
  clear l3 l16 kn l4 l10 o16 a0 z0 ak zk
  go_enter Try.func38, Try.ntmps38
  go_wp2_with (first | (go_at_call 39; (with_reducible refine (calc_wants.calls op k _ HK.out).mono ?_); rintro e w' ⟨rfl, ⟨nd, rfl⟩⟩) | (go_at_call 30; (with_reducible refine (calc_check.yes _ _).mono ?_); rintro e w' ⟨rfl, rfl⟩) | (go_at_call 30; (with_reducible refine (calc_check.no _ _).mono ?_); rintro e w' ⟨rfl, rfl⟩))
  refine (calc_sum.calls op u.f1 v.f1 HU.out HV.out _).mono ?_
  rintro e w' ⟨he, ⟨nd2, rfl⟩⟩
  rw [HN.out] at he
  obtain rfl : e = .returned (.int .i64 n) := he
  go_wp2_with fail
  refine (calc_number.calls n _ _ _ _ (show calc_number.f n = some (2, n, V0) from rfl)).mono ?_
  rintro e w1 ⟨rfl, hb⟩
  have HI : Aside0 (BI op u v b0 b1 b2 W w1) := ⟨BI.below (by repeat (first | exact HS.out | refine BI.drewN ?_ _ | refine BI.drew ?_)) hb⟩
  clear hb hc0 ha0 ha1 ha2 hb0 hb1 hb2
  have gc0 : w1.cell? ⟨W.heap.size, 0, none⟩ = some (.int .i64 0) := (blk_cell HI.out.2.2.2.1 0).trans rfl
  have gc1 : w1.cell? ⟨W.heap.size, 1, none⟩ = some (.int .i64 0) := (blk_cell HI.out.2.2.2.1 1).trans rfl
  have gc2 : w1.cell? ⟨W.heap.size, 2, none⟩ = some (.string (⟨#[]⟩ : ByteArray)) := (blk_cell HI.out.2.2.2.1 2).trans rfl
  have gf0 := blk_frozen HI.out.2.2.2.1 0
  have gf1 := blk_frozen HI.out.2.2.2.1 1
  have gf2 := blk_frozen HI.out.2.2.2.1 2
  go_wp2_with fail
  exact bodyPost_ret (v := .agg #[.int .i64 2, .int .i64 n, .string V0]) (by simp [results, Try.results38, go_sem, gc0, gc1, gc2]) rfl ⟨rfl, below_set3 HI.out.bel (Nat.le_refl W.heap.size) _ _ _ _ _ _⟩
set_option maxHeartbeats 2000000 in
set_option maxRecDepth 100000 in
theorem calc_Binary1.numE (op : Int) (u v : S25) (k : Int) (HK : Aside0 (calc_wants.f op = some k)) (b0 b1 b2 : Nat) (W : World) (h0 : W.heap[b0]? = some (.cells #[.int .i64 op] 3 (0, 0))) (h1 : W.heap[b1]? = some (.cells #[.int .i64 u.f0, .int .i64 u.f1, .string u.f2] 25 (0, 0))) (h2 : W.heap[b2]? = some (.cells #[.int .i64 v.f0, .int .i64 v.f1, .string v.f2] 25 (0, 0))) (l3 : 3 ≤ op) (l16 : op ≤ 16) (kn : ¬ k = 0) (l4 : ¬ op ≤ 4) (l10 : ¬ op ≤ 10) (o16 : ¬ op = 16) (a0 : ¬ u.f0 = 0) (z0 : ¬ v.f0 = 0) (ak : u.f0 = k) (zk : v.f0 = k) (c : Int) (HN : Aside0 (sumP op u.f1 v.f1 = .error c)) (HU : Aside0 (In64 u.f1)) (HV : Aside0 (In64 v.f1)) :
    Calls Try.prog 38 #[.pointer (some ⟨b0, 0, none⟩), .pointer (some ⟨b1, 0, none⟩), .pointer (some ⟨b2, 0, none⟩)] W (fun e w' => RE (.error c) e ∧ Below W.heap.size W w') := by
  have hu25 := Try.underlying25
  have n0 : ¬ b0 = W.heap.size := by have := blk_lt h0; omega
  have n1 : ¬ b1 = W.heap.size := by have := blk_lt h1; omega
  have n2 : ¬ b2 = W.heap.size := by have := blk_lt h2; omega
  have HS := Aside0.mk (BI.start h0 h1 h2)
  clear h0 h1 h2
  have hc0 := HS.out.o
  have ha0 := HS.out.a0
  have ha1 := HS.out.a1
  have ha2 := HS.out.a2
  have hb0 := HS.out.v0
  have hb1 := HS.out.v1
  have hb2 := HS.out.v2
  have q0 : decide (3 ≤ op) = true := decide_eq_true l3
  have q1 : decide (op ≤ 16) = true := decide_eq_true l16
  have q2 : (k != 0) = true := bne_iff_ne.mpr kn
  have q3 : decide (op ≤ 4) = false := decide_eq_false l4
  have q4 : decide (op ≤ 10) = false := decide_eq_false l10
  have q5 : (op == 16) = false := beq_eq_false_iff_ne.mpr o16
  have q6 : (u.f0 == 0) = false := beq_eq_false_iff_ne.mpr a0
  have q7 : (v.f0 == 0) = false := beq_eq_false_iff_ne.mpr z0
  have q8 : (u.f0 == k) = true := beq_iff_eq.mpr ak
  have q9 : (v.f0 == k) = true := beq_iff_eq.mpr zk
  have l3' := Aside0.mk l3
  have l16' := Aside0.mk l16
  have kn' := Aside0.mk kn
  have l4' := Aside0.mk l4
  have l10' := Aside0.mk l10
  have o16' := Aside0.mk o16
  have a0' := Aside0.mk a0
  have z0' := Aside0.mk z0
  have ak' := Aside0.mk ak
  have zk' := Aside0.mk zk
  clear l3 l16 kn l4 l10 o16 a0 z0 ak zk
  go_enter Try.func38, Try.ntmps38
  go_wp2_with (first | (go_at_call 39; (with_reducible refine (calc_wants.calls op k _ HK.out).mono ?_); rintro e w' ⟨rfl, ⟨nd, rfl⟩⟩) | (go_at_call 30; (with_reducible refine (calc_check.yes _ _).mono ?_); rintro e w' ⟨rfl, rfl⟩) | (go_at_call 30; (with_reducible refine (calc_check.no _ _).mono ?_); rintro e w' ⟨rfl, rfl⟩))
  refine (calc_sum.calls op u.f1 v.f1 HU.out HV.out _).mono ?_
  rintro e w' ⟨he, ⟨nd2, rfl⟩⟩
  rw [HN.out] at he
  obtain rfl : e = .panicked [{ v := .iface 26 (.int .i64 c), recovered := false }] := he
  go_wp2_with fail
  exact ⟨rfl, rfl, by repeat (first | exact HS.out.bel | apply pw_below_drewN | apply below_drew1)⟩
end Go.Proofs.Ytfbeklbjlkgbnaa.P
end
section
namespace Go.Proofs.Ytfbeklbjlkgbnaa.P
open Go.RowKit Go.Proofs.Ytfbeklbjlkgbnaa.Pure Go.Proofs.YtfbeklbjlkgbnaaW.PrintWords Go.Proofs.YtfbeklbjlkgbnaaW.PrintLast Go.Proofs.YtfbeklbjlkgbnaaW.PrintMore
set_option linter.unusedVariables false
set_option linter.unusedSimpArgs false
def argsN (f : Int) : Int := if f = 1 ∨ f = 2 ∨ f = 3 ∨ f = 4 then 1 else if f = 6 then 2 else if f = 5 then 3 else 0
theorem args_f (f : Int) : calc_Args.f 1 f = some (argsN f) := by
  unfold calc_Args.f argsN calc_Args.j0
  by_cases h1 : f = 1
  · simp [h1]
  by_cases h2 : f = 2
  · simp [h2]
  by_cases h3 : f = 3
  · simp [h3]
  by_cases h4 : f = 4
  · simp [h4]
  simp only [if_neg h1, if_neg h2, if_neg h3]
  rw [if_neg (c := (f == 4) = true) (by simpa using h4), if_neg (c := f = 1 ∨ f = 2 ∨ f = 3 ∨ f = 4) (by omega)]
  by_cases h6 : f = 6
  · simp [h6]
  by_cases h5 : f = 5
  · simp [h5]
  simp [h6, h5]
def takesP (f p k : Int) : Bool := (calc_takes.f f p k).getD false
theorem takes_f (f p k : Int) : calc_takes.f f p k = some (takesP f p k) := by
  unfold takesP calc_takes.f
  repeat (first | rfl | split)
def goArgs (f : Int) : Nat → List S25 → Bool → Except Int Bool
  | _, [], b => .ok b
  | i, v :: t, b => if takesP f i v.f0 = true then goArgs f (i + 1) t (b || v.f0 == 0) else .error 35
def calledP (f : Int) (l : List S25) : Except Int S25 :=
  if f = 1 then .ok ⟨2, ((rd_T25 l 0).f2.size : Int), V0⟩
  else if f = 2 then (if (rd_T25 l 0).f1 = -9223372036854775808 then .error 40 else .ok ⟨2, mx (rd_T25 l 0).f1 (-(rd_T25 l 0).f1), V0⟩)
  else if f = 3 then .ok ⟨3, 0, mapS upC (rd_T25 l 0).f2⟩
  else if f = 4 then .ok ⟨3, 0, mapS lowC (rd_T25 l 0).f2⟩
  else .ok ⟨3, 0, cutP (rd_T25 l 0).f2 (rd_T25 l 1).f1 (rd_T25 l 2).f1⟩
def restP (f : Int) (l : List S25) : Except Int S25 :=
  match goArgs f 0 l false with | .error c => .error c | .ok true => .ok zeroV | .ok false => calledP f l
def firstP (u v : S25) : Except Int S25 :=
  if u.f0 = v.f0 ∨ u.f0 = 0 ∨ v.f0 = 0 then (if u.f0 = 0 then .ok v else .ok u) else .error 35
def call (f : Int) (l : List S25) : Except Int S25 :=
  if argsN f ≤ 0 then .error 5 else if (l.length : Int) ≠ argsN f then .error 37
  else if f = 6 then firstP (rd_T25 l 0) (rd_T25 l 1) else restP f l
def FitsV (v : S25) : Prop := In64 v.f1 ∧ v.f2.size ≤ 140737488351232
theorem rd_fits {l : List S25} (h : ∀ v ∈ l, FitsV v) (i : Int) : FitsV (rd_T25 l i) := by
  unfold rd_T25
  by_cases hi : i.toNat < l.length
  · rw [List.getD_eq_getElem?_getD, List.getElem?_eq_getElem hi]; exact h _ (List.getElem_mem hi)
  · rw [List.getD_eq_getElem?_getD, List.getElem?_eq_none (by omega)]; exact ⟨by unfold In64; simp [z25], by show (0 : Nat) ≤ 140737488351232; omega⟩
theorem called_f {f : Int} {l : List S25} {r : S25} (h : calledP f l = .ok r) (hf : ∀ v ∈ l, FitsV v) (hl : (l.length : Int) = argsN f) (h0 : 0 < argsN f) (h6 : ¬ f = 6) : calc_called.f f l = some (r.f0, r.f1, r.f2) := by
  have F0 := rd_fits hf 0
  have F1 := rd_fits hf 1
  have F2 := rd_fits hf 2
  unfold calledP at h
  unfold calc_called.f
  rw [if_pos (show 0 < (l.length : Int) by omega)]
  by_cases h1 : f = 1
  · rw [if_pos h1] at h ⊢; cases h; rfl
  rw [if_neg h1] at h ⊢
  by_cases h2 : f = 2
  · rw [if_pos h2] at h ⊢
    by_cases hm : (rd_T25 l 0).f1 = -9223372036854775808
    · rw [if_pos hm] at h; cases h
    · rw [if_neg hm] at h
      cases h
      have hw : wrap64 (-(rd_T25 l 0).f1) = -(rd_T25 l 0).f1 := by have := F0.1; unfold In64 at this; unfold wrap64; omega
      rw [hw, show ((rd_T25 l 0).f1 != -9223372036854775808) = true from bne_iff_ne.mpr hm]
      rfl
  rw [if_neg h2] at h ⊢
  have hs : (rd_T25 l 0).f2.size ≤ 140737488351232 := F0.2
  by_cases h3 : f = 3
  · rw [if_pos h3] at h ⊢; cases h; unfold calc_mapped.f; rw [if_pos hs]; rfl
  rw [if_neg h3] at h ⊢
  by_cases h4 : f = 4
  · rw [if_pos h4] at h ⊢; cases h; unfold calc_mapped.f; rw [if_pos hs]; rfl
  rw [if_neg h4] at h ⊢
  have h5 : f = 5 := by unfold argsN at h0; split at h0 <;> (try split at h0) <;> (try split at h0) <;> omega
  have hl3 : (l.length : Int) = 3 := by rw [hl, h5]; rfl
  rw [if_pos (by omega), if_pos (by omega)]
  cases h
  unfold calc_cut.f
  rw [if_pos ⟨hs, F1.1, F2.1⟩]
  rfl
theorem called_E {f : Int} {l : List S25} {c : Int} (h : calledP f l = .error c) : f = 2 ∧ (rd_T25 l 0).f1 = -9223372036854775808 ∧ c = 40 := by
  unfold calledP at h
  by_cases h1 : f = 1
  · rw [if_pos h1] at h; cases h
  rw [if_neg h1] at h
  by_cases h2 : f = 2
  · rw [if_pos h2] at h
    by_cases hm : (rd_T25 l 0).f1 = -9223372036854775808
    · rw [if_pos hm] at h; cases h; exact ⟨h2, hm, rfl⟩
    · rw [if_neg hm] at h; cases h
  rw [if_neg h2] at h
  by_cases h3 : f = 3
  · rw [if_pos h3] at h; cases h
  rw [if_neg h3] at h
  by_cases h4 : f = 4
  · rw [if_pos h4] at h; cases h
  rw [if_neg h4] at h; cases h
theorem goArgs_step {f : Int} {l : List S25} {k : Nat} {b : Bool} (hk : k < l.length) : goArgs f k (l.drop k) b = if takesP f k (rd_T25 l k).f0 = true then goArgs f (k + 1) (l.drop (k + 1)) (b || (rd_T25 l k).f0 == 0) else .error 35 := by
  have : rd_T25 l k = l[k] := by unfold rd_T25; simp [hk]
  rw [List.drop_eq_getElem_cons hk, this]
  rfl
def AI (f : Int) (l : List S25) (A : Option Addr) (c : Nat) (b0 b1 : Nat) (W w : World) : Prop :=
  W.heap[b0]? = some (.cells #[.int .i64 f] 3 (0, 0)) ∧ W.heap[b1]? = some (.cells #[.slice A l.length c] 22 (0, 0)) ∧ Kd.C k25 W A l.length l ∧
  w.heap[W.heap.size]? = some (.cells #[.int .i64 0, .int .i64 0, .string (⟨#[]⟩ : ByteArray)] 25 (0, 0)) ∧ Below W.heap.size W w
section
variable {f : Int} {l : List S25} {A : Option Addr} {c b0 b1 : Nat} {W w w' : World}
theorem AI.start (h0 : W.heap[b0]? = some (.cells #[.int .i64 f] 3 (0, 0))) (h1 : W.heap[b1]? = some (.cells #[.slice A l.length c] 22 (0, 0))) (hr : Kd.C k25 W A l.length l) :
    AI f l A c b0 b1 W (W.alloc (.cells #[.int .i64 0, .int .i64 0, .string (⟨#[]⟩ : ByteArray)] 25)) :=
  ⟨h0, h1, hr, Deep.blk_alloc_new W _, below_alloc (Below.refl _ _) _⟩
theorem AI.below (h : AI f l A c b0 b1 W w) (hb : Below w.heap.size w w') : AI f l A c b0 b1 W w' :=
  ⟨h.1, h.2.1, h.2.2.1, (hb.block _ (blk_lt h.2.2.2.1)).trans h.2.2.2.1, below_step h.2.2.2.2 hb⟩
theorem AI.drew (h : AI f l A c b0 b1 W w) : AI f l A c b0 b1 W w.drew := h.below (below_drew1 (Below.refl _ _))
theorem AI.drewN (h : AI f l A c b0 b1 W w) (n : Nat) : AI f l A c b0 b1 W (w.drewN n) := h.below (pw_below_drewN (Below.refl _ _) n)
theorem AI.alloc (h : AI f l A c b0 b1 W w) (o : Obj) : AI f l A c b0 b1 W (w.alloc o) := h.below (below_alloc (Below.refl _ _) o)
theorem AI.set (h : AI f l A c b0 b1 W w) {b : Nat} (hb : W.heap.size < b) (i : Nat) (v : Value) : AI f l A c b0 b1 W (w.setCell ⟨b, i, none⟩ v) :=
  ⟨h.1, h.2.1, h.2.2.1, blk_far h.2.2.2.1 (p := ⟨b, i, none⟩) (by show W.heap.size ≠ b; omega) v, Below.setCell h.2.2.2.2 (p := ⟨b, i, none⟩) (Nat.le_of_lt hb) v⟩
theorem AI.set3 (h : AI f l A c b0 b1 W w) {b : Nat} (hb : W.heap.size < b) (v0 v1 v2 : Value) : AI f l A c b0 b1 W (((w.setCell ⟨b, 0, none⟩ v0).setCell ⟨b, 1, none⟩ v1).setCell ⟨b, 2, none⟩ v2) :=
  ((h.set hb _ _).set hb _ _).set hb _ _
theorem AI.bel (h : AI f l A c b0 b1 W w) : Below W.heap.size W w := h.2.2.2.2
theorem AI.z (h : AI f l A c b0 b1 W w) : w.heap[W.heap.size]? = some (.cells #[.int .i64 0, .int .i64 0, .string (⟨#[]⟩ : ByteArray)] 25 (0, 0)) := h.2.2.2.1
theorem AI.o (h : AI f l A c b0 b1 W w) : w.cell? ⟨b0, 0, none⟩ = some (.int .i64 f) := (blk_cell (blk_below h.1 h.bel) 0).trans rfl
theorem AI.s (h : AI f l A c b0 b1 W w) : w.cell? ⟨b1, 0, none⟩ = some (.slice A l.length c) := (blk_cell (blk_below h.2.1 h.bel) 0).trans rfl
theorem AI.C (h : AI f l A c b0 b1 W w) : Kd.C k25 w A l.length l := Kd.C_below h.2.2.1 h.bel
theorem AI.at (h : AI f l A c b0 b1 W w) (k : Nat) (hk : k < l.length) : ∃ ad, A = some ad ∧ w.cell? (ad.add (k * 3)) = some (.int .i64 (rd_T25 l k).f0) ∧ w.cell? ⟨(ad.add (k * 3)).block, (ad.add (k * 3)).off + 1, none⟩ = some (.int .i64 (rd_T25 l k).f1) ∧ w.cell? ⟨(ad.add (k * 3)).block, (ad.add (k * 3)).off + 2, none⟩ = some (.string (rd_T25 l k).f2) :=
  at_T25 h.C k (by omega) (by omega)
end
section
variable {f : Int} {l : List S25} {ad : Addr} {c b0 b1 : Nat} {W w w' : World}
theorem AI.atk (h : AI f l (some ad) c b0 b1 W w) (k : Nat) (hk : k < l.length) : w.cell? (ad.add (k * 3)) = some (.int .i64 (rd_T25 l k).f0) ∧ w.cell? ⟨(ad.add (k * 3)).block, (ad.add (k * 3)).off + 1, none⟩ = some (.int .i64 (rd_T25 l k).f1) ∧ w.cell? ⟨(ad.add (k * 3)).block, (ad.add (k * 3)).off + 2, none⟩ = some (.string (rd_T25 l k).f2) := by
  obtain ⟨ad', he, hh⟩ := h.at k hk
  cases he
  exact hh
theorem AI.at0 (h : AI f l (some ad) c b0 b1 W w) (hk : 0 < l.length) : w.cell? ad = some (.int .i64 (rd_T25 l 0).f0) ∧ w.cell? ⟨ad.block, ad.off + 1, none⟩ = some (.int .i64 (rd_T25 l 0).f1) ∧ w.cell? ⟨ad.block, ad.off + 2, none⟩ = some (.string (rd_T25 l 0).f2) := h.atk 0 hk
theorem AI.at1 (h : AI f l (some ad) c b0 b1 W w) (hk : 1 < l.length) : w.cell? ⟨ad.block, ad.off + 3, none⟩ = some (.int .i64 (rd_T25 l 1).f0) ∧ w.cell? ⟨ad.block, ad.off + 3 + 1, none⟩ = some (.int .i64 (rd_T25 l 1).f1) ∧ w.cell? ⟨ad.block, ad.off + 3 + 2, none⟩ = some (.string (rd_T25 l 1).f2) := h.atk 1 hk
end
def AJ (f : Int) (l : List S25) (A : Option Addr) (c : Nat) (b0 b1 : Nat) (W : World) (u v : S25) (b3 b4 : Nat) (w : World) : Prop :=
  AI f l A c b0 b1 W w ∧ W.heap.size < b3 ∧ W.heap.size < b4 ∧ b3 ≠ b4 ∧ w.heap[b3]? = some (.cells #[.int .i64 u.f0, .int .i64 u.f1, .string u.f2] 25 (0, 0)) ∧ w.heap[b4]? = some (.cells #[.int .i64 v.f0, .int .i64 v.f1, .string v.f2] 25 (0, 0))
section
variable {f : Int} {l : List S25} {A : Option Addr} {c b0 b1 b3 b4 : Nat} {W w w' : World} {u v u' v' : S25}
theorem AJ.swap (h : AJ f l A c b0 b1 W u v b3 b4 w) : AJ f l A c b0 b1 W v u b4 b3 w := ⟨h.1, h.2.2.1, h.2.1, fun e => h.2.2.2.1 e.symm, h.2.2.2.2.2, h.2.2.2.2.1⟩
theorem AJ.two (h : AI f l A c b0 b1 W w) : AJ f l A c b0 b1 W zeroV zeroV w.heap.size (w.heap.size + 1) ((w.alloc (.cells #[.int .i64 0, .int .i64 0, .string (⟨#[]⟩ : ByteArray)] 25)).alloc (.cells #[.int .i64 0, .int .i64 0, .string (⟨#[]⟩ : ByteArray)] 25)) :=
  ⟨(h.alloc _).alloc _, blk_lt h.z, Nat.lt_succ_of_lt (blk_lt h.z), by omega, blk_alloc (Deep.blk_alloc_new w _) _, by
    have := Deep.blk_alloc_new (w.alloc (.cells #[.int .i64 0, .int .i64 0, .string (⟨#[]⟩ : ByteArray)] 25)) (.cells #[.int .i64 0, .int .i64 0, .string (⟨#[]⟩ : ByteArray)] 25)
    simpa [zeroV, V0] using this⟩
theorem AJ.first (h : AJ f l A c b0 b1 W u v b3 b4 w) : AJ f l A c b0 b1 W u' v b3 b4 (((w.setCell ⟨b3, 0, none⟩ (.int .i64 u'.f0)).setCell ⟨b3, 1, none⟩ (.int .i64 u'.f1)).setCell ⟨b3, 2, none⟩ (.string u'.f2)) := by
  obtain ⟨h1, h2, h3, h4, h5, h6⟩ := h
  have k4 : b4 ≠ b3 := fun e => h4 e.symm
  exact ⟨h1.set3 h2 _ _ _, h2, h3, h4, blk_put (blk_put (blk_put h5 0 (.int .i64 u'.f0) rfl) 1 (.int .i64 u'.f1) rfl) 2 (.string u'.f2) rfl, blk_far (blk_far (blk_far h6 (p := ⟨b3, 0, none⟩) k4 _) (p := ⟨b3, 1, none⟩) k4 _) (p := ⟨b3, 2, none⟩) k4 _⟩
theorem AJ.second (h : AJ f l A c b0 b1 W u v b3 b4 w) : AJ f l A c b0 b1 W u v' b3 b4 (((w.setCell ⟨b4, 0, none⟩ (.int .i64 v'.f0)).setCell ⟨b4, 1, none⟩ (.int .i64 v'.f1)).setCell ⟨b4, 2, none⟩ (.string v'.f2)) := h.swap.first.swap
end
end Go.Proofs.Ytfbeklbjlkgbnaa.P
end
section
namespace Go.Proofs.Ytfbeklbjlkgbnaa.P
open Go.RowKit Go.Proofs.Ytfbeklbjlkgbnaa.Pure Go.Proofs.YtfbeklbjlkgbnaaW.PrintWords Go.Proofs.YtfbeklbjlkgbnaaW.PrintLast Go.Proofs.YtfbeklbjlkgbnaaW.PrintMore
attribute [local go_sem] max2_int min2_int max_two min_two max_three min_three max_four min_four
set_option linter.unusedVariables false
set_option linter.unusedSimpArgs false
theorem at_exit {T : Exit → Act → World → Prop} {e : Exit} {a : Act} {W : World} (R : World → Prop) (h : R W) (k : ∀ W', R W' → T e a W') : T e a W := k W h
theorem dies_ {P : Program} {ops : Array Oper} {Q : Exit → Act → World → Prop} {oi : Oper} {N : Option Tmp} {a : Act} {w : World} {K : Act → World → Prop} {f : FuncId} {fn : Func} {xs : Array Operand} {ts : Array TypeId} (hf : P.funcs[f]? = some fn) (hname : (fn.name == "runtime.NumGoroutine") = false) (hb : fn.body.isSome = true) (args : Array Value)
    (hw : Region.wanted oi (yielded ops a.tmps) = true) (hN : oi.dst = N) (hop : oi.op = .call { callee := .value (.func f), args := xs, argTypes := ts }) (hargs : xs.map a.eval = args)
    (h : Calls P f args w fun e w' => ∃ ch, e = .panicked ch ∧ Q (.panic ch) a w') : if Region.wanted oi (yielded ops a.tmps) = true then Oper.wp P oi a w K Q else K (a.put N undef) w := by
  rw [if_pos hw]
  have he := enters_ hf hname hb args w
  have hrun : (execOp a.eval oi).run P w = .ok (.enter f args) w := by
    unfold execOp
    simp [hop, resolve, Deferred.ofValue, invoke, Act.eval, hargs, he]
  unfold Oper.wp
  rw [hrun, Oper.upon_enter]
  refine h.mono fun e w'' hh => ?_
  obtain ⟨v, rfl, hk⟩ := hh
  exact hk
set_option maxHeartbeats 2000000 in
set_option maxRecDepth 100000 in
theorem calc_Call1.refused (f : Int) (l : List S25) (A : Option Addr) (c b0 b1 : Nat) (W : World) (h0 : W.heap[b0]? = some (.cells #[.int .i64 f] 3 (0, 0))) (h1 : W.heap[b1]? = some (.cells #[.slice A l.length c] 22 (0, 0))) (hr : Kd.C k25 W A l.length l) (l0 : ¬ 0 < argsN f) :
    Calls Try.prog 29 #[.pointer (some ⟨b0, 0, none⟩), .pointer (some ⟨b1, 0, none⟩)] W (fun e w' => RE (.error 5) e ∧ Below W.heap.size W w') := by
  have hu25 := Try.underlying25
  have n0 : ¬ b0 = W.heap.size := by have := blk_lt h0; omega
  have n1 : ¬ b1 = W.heap.size := by have := blk_lt h1; omega
  have HS := Aside0.mk (AI.start h0 h1 hr)
  clear h0 h1 hr
  have hcF := HS.out.o
  have hcA := HS.out.s
  have q0 : decide (0 < argsN f) = false := decide_eq_false l0
  have l0' := Aside0.mk l0
  clear l0
  go_enter Try.func29, Try.ntmps29
  go_wp2_with (first | (go_at_call 14; (with_reducible refine (calc_Args.calls 1 f _ _ (args_f f)).mono ?_); rintro e w' ⟨rfl, ⟨nd, rfl⟩⟩) | (go_at_call 30; (with_reducible refine (calc_check.yes _ _).mono ?_); rintro e w' ⟨rfl, rfl⟩) | (go_at_call 30; (with_reducible refine (calc_check.no _ _).mono ?_); rintro e w' ⟨rfl, rfl⟩))
  exact ⟨rfl, rfl, by repeat (first | exact HS.out.bel | apply pw_below_drewN | apply below_drew1)⟩
set_option maxHeartbeats 2000000 in
set_option maxRecDepth 100000 in
theorem calc_Call1.count (f : Int) (l : List S25) (A : Option Addr) (c b0 b1 : Nat) (W : World) (h0 : W.heap[b0]? = some (.cells #[.int .i64 f] 3 (0, 0))) (h1 : W.heap[b1]? = some (.cells #[.slice A l.length c] 22 (0, 0))) (hr : Kd.C k25 W A l.length l) (l0 : 0 < argsN f) (lc : ¬ (l.length : Int) = argsN f) :
    Calls Try.prog 29 #[.pointer (some ⟨b0, 0, none⟩), .pointer (some ⟨b1, 0, none⟩)] W (fun e w' => RE (.error 37) e ∧ Below W.heap.size W w') := by
  have hu25 := Try.underlying25
  have n0 : ¬ b0 = W.heap.size := by have := blk_lt h0; omega
  have n1 : ¬ b1 = W.heap.size := by have := blk_lt h1; omega
  have HS := Aside0.mk (AI.start h0 h1 hr)
  clear h0 h1 hr
  have hcF := HS.out.o
  have hcA := HS.out.s
  have q0 : decide (0 < argsN f) = true := decide_eq_true l0
  have q1 : ((l.length : Int) == argsN f) = false := beq_eq_false_iff_ne.mpr lc
  have l0' := Aside0.mk l0
  have lc' := Aside0.mk lc
  clear l0 lc
  go_enter Try.func29, Try.ntmps29
  go_wp2_with (first | (go_at_call 14; (with_reducible refine (calc_Args.calls 1 f _ _ (args_f f)).mono ?_); rintro e w' ⟨rfl, ⟨nd, rfl⟩⟩) | (go_at_call 30; (with_reducible refine (calc_check.yes _ _).mono ?_); rintro e w' ⟨rfl, rfl⟩) | (go_at_call 30; (with_reducible refine (calc_check.no _ _).mono ?_); rintro e w' ⟨rfl, rfl⟩))
  refine at_world (fun w' => AI f l A c b0 b1 W w') (by repeat (first | exact HS.out | refine AI.drewN ?_ _ | refine AI.drew ?_)) (fun w1 hI => ?_)
  have HI := Aside0.mk hI
  clear hI hcF hcA
  refine start_ (n := 6) (S := fun w' => w'.cell? ⟨b0, 0, none⟩ = some (.int .i64 f) ∧ w'.cell? ⟨b1, 0, none⟩ = some (.slice A l.length c)) (ds := []) #[false, false, false, false, false, false] (by kernel_rfl) rfl rfl ⟨HI.out.drew.o, HI.out.drew.s⟩ (fun hHeld => ?_)
  refine take_ (i := 0) (N := some 12) (v := ?_) (a' := ?_) #[true, false, false, false, false, false] rfl rfl (by kernel_rfl) (fun _ _ _ h => h) (Or.inl ⟨by rfl, ?_⟩) hHeld ?_ ?_
  rotate_left
  · rintro w' ⟨s0, s1⟩
    go_simp
    with_reducible rfl
  rotate_left
  · simp only [Act.put, List.setIfInBounds_toArray, List.set_cons_zero, List.set_cons_succ, i64_w, i32_w]
    rfl
  refine pure_ (i := 1) (N := some 13) (v := ?_) (a' := ?_) #[true, true, false, false, false, false] rfl rfl (by kernel_rfl) (fun _ _ _ h => h) (Or.inl ⟨by rfl, ?_⟩) ?_ ?_
  rotate_left
  · intro w'
    go_simp
    with_reducible rfl
  rotate_left
  · simp only [Act.put, List.setIfInBounds_toArray, List.set_cons_zero, List.set_cons_succ, i64_w, i32_w]
    rfl
  refine take_ (i := 2) (N := some 14) (v := ?_) (a' := ?_) #[true, true, true, false, false, false] rfl rfl (by kernel_rfl) (fun _ _ _ h => h) (Or.inl ⟨by rfl, ?_⟩) hHeld ?_ ?_
  rotate_left
  · rintro w' ⟨s0, s1⟩
    go_simp
    with_reducible rfl
  rotate_left
  · simp only [Act.put, List.setIfInBounds_toArray, List.set_cons_zero, List.set_cons_succ, i64_w, i32_w]
    rfl
  refine one_ (i := 3) (N := some 15) #[true, true, true, true, false, false] rfl rfl (by kernel_rfl) (by decide) (fun K hK => ?_)
  refine goes_ Try.func14 (by kernel_rfl) rfl #[.int .i64 f] (by rfl) rfl rfl (by simp only [List.map_toArray, List.map_cons, List.map_nil]; rfl) ?_
  with_reducible refine (calc_Args.calls 1 f _ _ (args_f f)).mono ?_
  rintro e w2 ⟨rfl, ⟨nd3, rfl⟩⟩
  refine ⟨_, rfl, ?_⟩
  have n0_ := Aside0.mk (AI.drewN HI.out.drew nd3)
  clear HI
  have HI := n0_
  clear n0_
  refine hK.out _ _ ⟨HI.out.o, HI.out.s⟩ (fun hHeld => ?_)
  clear hK K
  refine norm_ (a' := ?_) ?_ ?_
  rotate_left
  · show Act.put _ (some 15) _ = _
    simp only [Act.put, List.setIfInBounds_toArray, List.set_cons_zero, List.set_cons_succ, i64_w, i32_w]
    rfl
  refine pure_ (i := 4) (N := some 16) (v := ?_) (a' := ?_) #[true, true, true, true, true, false] rfl rfl (by kernel_rfl) (fun _ _ _ h => h) (Or.inl ⟨by rfl, ?_⟩) ?_ ?_
  rotate_left
  · intro w'
    go_simp
    with_reducible rfl
  rotate_left
  · simp only [Act.put, List.setIfInBounds_toArray, List.set_cons_zero, List.set_cons_succ, i64_w, i32_w]
    rfl
  refine one_ (i := 5) (N := some 17) #[true, true, true, true, true, true] rfl rfl (by kernel_rfl) (by decide) (fun K hK => ?_)
  refine dies_ Try.func30 (by kernel_rfl) rfl #[.bool false, .int .i64 37] (by rfl) rfl rfl (by simp only [List.map_toArray, List.map_cons, List.map_nil]; rfl) ?_
  with_reducible refine (calc_check.no _ _).mono ?_
  rintro e w2 ⟨rfl, rfl⟩
  exact ⟨_, rfl, rfl, rfl, HI.out.bel⟩
set_option maxHeartbeats 2000000 in
set_option maxRecDepth 100000 in
theorem calc_Call1.one1 (f : Int) (l : List S25) (ad : Addr) (c b0 b1 : Nat) (W : World) (h0 : W.heap[b0]? = some (.cells #[.int .i64 f] 3 (0, 0))) (h1 : W.heap[b1]? = some (.cells #[.slice (some ad) l.length c] 22 (0, 0))) (hr : Kd.C k25 W (some ad) l.length l) (l0 : 0 < argsN f) (lc : (l.length : Int) = argsN f) (l2 : l.length = 2) (f6 : f = 6) (eq : (rd_T25 l 0).f0 = (rd_T25 l 1).f0) (a0 : (rd_T25 l 0).f0 = 0) :
    Calls Try.prog 29 #[.pointer (some ⟨b0, 0, none⟩), .pointer (some ⟨b1, 0, none⟩)] W (fun e w' => RE (.ok (rd_T25 l 1)) e ∧ Below W.heap.size W w') := by
  have hu25 := Try.underlying25
  have n0 : ¬ b0 = W.heap.size := by have := blk_lt h0; omega
  have n1 : ¬ b1 = W.heap.size := by have := blk_lt h1; omega
  have HS := Aside0.mk (AI.start h0 h1 hr)
  clear h0 h1 hr
  have hcF := HS.out.o
  have hcA := HS.out.s
  have HL := Aside0.mk (show 0 < l.length ∧ 1 < l.length by omega)
  have hL0 : (0 < l.length) = True := eq_true HL.out.1
  have hL1 : (1 < l.length) = True := eq_true HL.out.2
  have hD0 : decide (0 < l.length) = true := decide_eq_true HL.out.1
  have hD1 : decide (1 < l.length) = true := decide_eq_true HL.out.2
  have hI0 : (0 < (l.length : Int)) = True := eq_true (by have := HL.out.1; omega)
  have hI1 : (1 < (l.length : Int)) = True := eq_true (by have := HL.out.2; omega)
  have hE0 : decide (0 < (l.length : Int)) = true := decide_eq_true (by have := HL.out.1; omega)
  have hE1 : decide (1 < (l.length : Int)) = true := decide_eq_true (by have := HL.out.2; omega)
  have q0 : decide (0 < argsN f) = true := decide_eq_true l0
  have q1 : ((l.length : Int) == argsN f) = true := beq_iff_eq.mpr lc
  have q2 : (f == 6) = true := beq_iff_eq.mpr f6
  have q3 : ((rd_T25 l 0).f0 == (rd_T25 l 1).f0) = true := beq_iff_eq.mpr eq
  have q4 : ((rd_T25 l 0).f0 == 0) = true := beq_iff_eq.mpr a0
  have l0' := Aside0.mk l0
  have lc' := Aside0.mk lc
  have l2' := Aside0.mk l2
  have f6' := Aside0.mk f6
  have eq' := Aside0.mk eq
  have a0' := Aside0.mk a0
  clear l0 lc l2 f6 eq a0
  go_enter Try.func29, Try.ntmps29
  go_wp2_with (first | (go_at_call 14; (with_reducible refine (calc_Args.calls 1 f _ _ (args_f f)).mono ?_); rintro e w' ⟨rfl, ⟨nd, rfl⟩⟩) | (go_at_call 30; (with_reducible refine (calc_check.yes _ _).mono ?_); rintro e w' ⟨rfl, rfl⟩) | (go_at_call 30; (with_reducible refine (calc_check.no _ _).mono ?_); rintro e w' ⟨rfl, rfl⟩))
  refine at_world (fun w' => AI f l (some ad) c b0 b1 W w') (by repeat (first | exact HS.out | refine AI.drewN ?_ _ | refine AI.drew ?_)) (fun w1 hI => ?_)
  have HI := Aside0.mk hI
  clear hI hcF hcA
  refine start_ (n := 6) (S := fun w' => w'.cell? ⟨b0, 0, none⟩ = some (.int .i64 f) ∧ w'.cell? ⟨b1, 0, none⟩ = some (.slice (some ad) l.length c)) (ds := []) #[false, false, false, false, false, false] (by kernel_rfl) rfl rfl ⟨HI.out.drew.o, HI.out.drew.s⟩ (fun hHeld => ?_)
  refine take_ (i := 0) (N := some 12) (v := ?_) (a' := ?_) #[true, false, false, false, false, false] rfl rfl (by kernel_rfl) (fun _ _ _ h => h) (Or.inl ⟨by rfl, ?_⟩) hHeld ?_ ?_
  rotate_left
  · rintro w' ⟨s0, s1⟩
    go_simp
    with_reducible rfl
  rotate_left
  · simp only [Act.put, List.setIfInBounds_toArray, List.set_cons_zero, List.set_cons_succ, i64_w, i32_w]
    rfl
  refine pure_ (i := 1) (N := some 13) (v := ?_) (a' := ?_) #[true, true, false, false, false, false] rfl rfl (by kernel_rfl) (fun _ _ _ h => h) (Or.inl ⟨by rfl, ?_⟩) ?_ ?_
  rotate_left
  · intro w'
    go_simp
    with_reducible rfl
  rotate_left
  · simp only [Act.put, List.setIfInBounds_toArray, List.set_cons_zero, List.set_cons_succ, i64_w, i32_w]
    rfl
  refine take_ (i := 2) (N := some 14) (v := ?_) (a' := ?_) #[true, true, true, false, false, false] rfl rfl (by kernel_rfl) (fun _ _ _ h => h) (Or.inl ⟨by rfl, ?_⟩) hHeld ?_ ?_
  rotate_left
  · rintro w' ⟨s0, s1⟩
    go_simp
    with_reducible rfl
  rotate_left
  · simp only [Act.put, List.setIfInBounds_toArray, List.set_cons_zero, List.set_cons_succ, i64_w, i32_w]
    rfl
  refine one_ (i := 3) (N := some 15) #[true, true, true, true, false, false] rfl rfl (by kernel_rfl) (by decide) (fun K hK => ?_)
  refine goes_ Try.func14 (by kernel_rfl) rfl #[.int .i64 f] (by rfl) rfl rfl (by simp only [List.map_toArray, List.map_cons, List.map_nil]; rfl) ?_
  with_reducible refine (calc_Args.calls 1 f _ _ (args_f f)).mono ?_
  rintro e w2 ⟨rfl, ⟨nd3, rfl⟩⟩
  refine ⟨_, rfl, ?_⟩
  have n0_ := Aside0.mk (AI.drewN HI.out.drew nd3)
  clear HI
  have HI := n0_
  clear n0_
  refine hK.out _ _ ⟨HI.out.o, HI.out.s⟩ (fun hHeld => ?_)
  clear hK K
  refine norm_ (a' := ?_) ?_ ?_
  rotate_left
  · show Act.put _ (some 15) _ = _
    simp only [Act.put, List.setIfInBounds_toArray, List.set_cons_zero, List.set_cons_succ, i64_w, i32_w]
    rfl
  refine pure_ (i := 4) (N := some 16) (v := ?_) (a' := ?_) #[true, true, true, true, true, false] rfl rfl (by kernel_rfl) (fun _ _ _ h => h) (Or.inl ⟨by rfl, ?_⟩) ?_ ?_
  rotate_left
  · intro w'
    go_simp
    with_reducible rfl
  rotate_left
  · simp only [Act.put, List.setIfInBounds_toArray, List.set_cons_zero, List.set_cons_succ, i64_w, i32_w]
    rfl
  refine one_ (i := 5) (N := some 17) #[true, true, true, true, true, true] rfl rfl (by kernel_rfl) (by decide) (fun K hK => ?_)
  refine goes_ Try.func30 (by kernel_rfl) rfl #[.bool true, .int .i64 37] (by rfl) rfl rfl (by simp only [List.map_toArray, List.map_cons, List.map_nil]; rfl) ?_
  with_reducible refine (calc_check.yes _ _).mono ?_
  rintro e w2 ⟨rfl, rfl⟩
  refine ⟨_, rfl, ?_⟩
  refine hK.out _ _ ⟨HI.out.o, HI.out.s⟩ (fun hHeld => ?_)
  clear hK K
  refine norm_ (a' := ?_) ?_ ?_
  rotate_left
  · show Act.put _ (some 17) _ = _
    simp only [Act.put, List.setIfInBounds_toArray, List.set_cons_zero, List.set_cons_succ, i64_w, i32_w]
    rfl
  refine done_ (by kernel_rfl) ?_
  refine at_exit (fun w' => AI f l (some ad) c b0 b1 W w') HI.out (fun w3 hI => ?_)
  clear HI
  have HI := Aside0.mk hI
  clear hI
  have hcF := HI.out.o
  go_wp2_with fail
  refine at_world (fun w' => AI f l (some ad) c b0 b1 W w') (by repeat (first | exact HI.out | refine AI.drewN ?_ _ | refine AI.drew ?_)) (fun w4 hI => ?_)
  clear HI hcF
  have HI := Aside0.mk hI
  clear hI
  have HB := Aside0.mk HI.out.drew
  clear HI
  have HI := HB
  refine start_ (n := 10) (S := fun w' => w'.cell? ⟨b1, 0, none⟩ = some (.slice (some ad) l.length c) ∧ w'.cell? ad = some (.int .i64 (rd_T25 l 0).f0) ∧ w'.cell? ⟨ad.block, ad.off + 1, none⟩ = some (.int .i64 (rd_T25 l 0).f1) ∧ w'.cell? ⟨ad.block, ad.off + 2, none⟩ = some (.string (rd_T25 l 0).f2) ∧ w'.cell? ⟨ad.block, ad.off + 3, none⟩ = some (.int .i64 (rd_T25 l 1).f0) ∧ w'.cell? ⟨ad.block, ad.off + 3 + 1, none⟩ = some (.int .i64 (rd_T25 l 1).f1) ∧ w'.cell? ⟨ad.block, ad.off + 3 + 2, none⟩ = some (.string (rd_T25 l 1).f2)) (ds := [9]) #[false, false, false, false, false, false, false, false, false, false] (by kernel_rfl) rfl rfl ⟨(HB.out).s, ((HB.out).at0 HL.out.1).1, ((HB.out).at0 HL.out.1).2.1, ((HB.out).at0 HL.out.1).2.2, ((HB.out).at1 HL.out.2).1, ((HB.out).at1 HL.out.2).2.1, ((HB.out).at1 HL.out.2).2.2⟩ (fun hHeld => ?_)
  refine take_ (i := 0) (N := some 20) (v := ?_) (a' := ?_) #[true, false, false, false, false, false, false, false, false, false] rfl rfl (by kernel_rfl) (fun _ _ _ h => h) (Or.inl ⟨by rfl, ?_⟩) hHeld ?_ ?_
  rotate_left
  · rintro w' ⟨s0, s1, s2, s3, s4, s5, s6⟩
    go_simp
    with_reducible rfl
  rotate_left
  · simp only [Act.put, List.setIfInBounds_toArray, List.set_cons_zero, List.set_cons_succ, i64_w, i32_w]
    rfl
  refine pure_ (i := 1) (N := some 21) (v := ?_) (a' := ?_) #[true, true, false, false, false, false, false, false, false, false] rfl rfl (by kernel_rfl) (fun _ _ _ h => h) (Or.inl ⟨by rfl, ?_⟩) ?_ ?_
  rotate_left
  · intro w'
    go_simp
    with_reducible rfl
  rotate_left
  · simp only [Act.put, List.setIfInBounds_toArray, List.set_cons_zero, List.set_cons_succ, i64_w, i32_w]
    rfl
  refine take_ (i := 2) (N := some 22) (v := ?_) (a' := ?_) #[true, true, true, false, false, false, false, false, false, false] rfl rfl (by kernel_rfl) (fun _ _ _ h => h) (Or.inl ⟨by rfl, ?_⟩) hHeld ?_ ?_
  rotate_left
  · rintro w' ⟨s0, s1, s2, s3, s4, s5, s6⟩
    go_simp
    with_reducible rfl
  rotate_left
  · simp only [Act.put, List.setIfInBounds_toArray, List.set_cons_zero, List.set_cons_succ, i64_w, i32_w]
    rfl
  refine take_ (i := 3) (N := some 23) (v := ?_) (a' := ?_) #[true, true, true, true, false, false, false, false, false, false] rfl rfl (by kernel_rfl) (fun _ _ _ h => h) (Or.inl ⟨by rfl, ?_⟩) hHeld ?_ ?_
  rotate_left
  · rintro w' ⟨s0, s1, s2, s3, s4, s5, s6⟩
    go_simp
    with_reducible rfl
  rotate_left
  · simp only [Act.put, List.setIfInBounds_toArray, List.set_cons_zero, List.set_cons_succ, i64_w, i32_w]
    rfl
  refine pure_ (i := 4) (N := some 24) (v := ?_) (a' := ?_) #[true, true, true, true, true, false, false, false, false, false] rfl rfl (by kernel_rfl) (fun _ _ _ h => h) (Or.inl ⟨by rfl, ?_⟩) ?_ ?_
  rotate_left
  · intro w'
    go_simp
    with_reducible rfl
  rotate_left
  · simp only [Act.put, List.setIfInBounds_toArray, List.set_cons_zero, List.set_cons_succ, i64_w, i32_w]
    rfl
  refine take_ (i := 5) (N := some 25) (v := ?_) (a' := ?_) #[true, true, true, true, true, true, false, false, false, false] rfl rfl (by kernel_rfl) (fun _ _ _ h => h) (Or.inl ⟨by rfl, ?_⟩) hHeld ?_ ?_
  rotate_left
  · rintro w' ⟨s0, s1, s2, s3, s4, s5, s6⟩
    go_simp
    with_reducible rfl
  rotate_left
  · simp only [Act.put, List.setIfInBounds_toArray, List.set_cons_zero, List.set_cons_succ, i64_w, i32_w]
    rfl
  refine join_ (σ := Nat × Nat) 2 #[true, true, true, true, true, true, true, true, false, false] (fun s => [(3, .pointer (some ⟨s.1, 0, none⟩)), (4, .pointer (some ⟨s.2, 0, none⟩))]) (fun s w' => AJ f l (some ad) c b0 b1 W zeroV zeroV s.1 s.2 w') ?_ ?_
  rotate_left
  · intro hCont
    refine two_ (i := 6) (j := 7) (Ni := some 3) (Nj := some 4) #[true, true, true, true, true, true, true, false, false, false] #[true, true, true, true, true, true, false, true, false, false] rfl rfl rfl rfl (by kernel_rfl) (by decide) (by decide) (fun K hK => ?_) (fun K hK => ?_)
    · skip
      refine value_ (w1 := ?_) (v := ?_) (by rfl) rfl ?_ ?_
      rotate_left 2
      · go_simp
        constructor
        · rfl
        · rfl
      have n0_ := Aside0.mk (AI.alloc HI.out (.cells #[.int .i64 0, .int .i64 0, .string (⟨#[]⟩ : ByteArray)] 25))
      clear HI
      have HI := n0_
      clear n0_
      refine hK.out _ _ ⟨(HI.out).s, ((HI.out).at0 HL.out.1).1, ((HI.out).at0 HL.out.1).2.1, ((HI.out).at0 HL.out.1).2.2, ((HI.out).at1 HL.out.2).1, ((HI.out).at1 HL.out.2).2.1, ((HI.out).at1 HL.out.2).2.2⟩ (fun hHeld => ?_)
      clear hK K
      refine norm_ (a' := ?_) ?_ ?_
      rotate_left
      · show Act.put _ (some 3) _ = _
        simp only [Act.put, List.setIfInBounds_toArray, List.set_cons_zero, List.set_cons_succ, i64_w, i32_w]
        rfl
      refine one_ (i := 7) (N := some 4) #[true, true, true, true, true, true, true, true, false, false] rfl rfl (by kernel_rfl) (by decide) (fun K hK => ?_)
      refine value_ (w1 := ?_) (v := ?_) (by rfl) rfl ?_ ?_
      rotate_left 2
      · go_simp
        constructor
        · rfl
        · rfl
      have n0_ := Aside0.mk (AI.alloc HI.out (.cells #[.int .i64 0, .int .i64 0, .string (⟨#[]⟩ : ByteArray)] 25))
      clear HI
      have HI := n0_
      clear n0_
      refine hK.out _ _ ⟨(HI.out).s, ((HI.out).at0 HL.out.1).1, ((HI.out).at0 HL.out.1).2.1, ((HI.out).at0 HL.out.1).2.2, ((HI.out).at1 HL.out.2).1, ((HI.out).at1 HL.out.2).2.1, ((HI.out).at1 HL.out.2).2.2⟩ (fun hHeld => ?_)
      clear hK K
      refine norm_ (a' := ?_) ?_ ?_
      rotate_left
      · show Act.put _ (some 4) _ = _
        simp only [Act.put, List.setIfInBounds_toArray, List.set_cons_zero, List.set_cons_succ, i64_w, i32_w]
        rfl
      exact norm_ (by first | (simp only [putAll, Act.put, List.setIfInBounds_toArray, List.set_cons_zero, List.set_cons_succ]; done) | (simp only [putAll, Act.put, List.setIfInBounds_toArray, List.set_cons_zero, List.set_cons_succ]; rfl)) (hCont (_, _) _ (AJ.two HB.out))
    · skip
      refine value_ (w1 := ?_) (v := ?_) (by rfl) rfl ?_ ?_
      rotate_left 2
      · go_simp
        constructor
        · rfl
        · rfl
      have n0_ := Aside0.mk (AI.alloc HI.out (.cells #[.int .i64 0, .int .i64 0, .string (⟨#[]⟩ : ByteArray)] 25))
      clear HI
      have HI := n0_
      clear n0_
      refine hK.out _ _ ⟨(HI.out).s, ((HI.out).at0 HL.out.1).1, ((HI.out).at0 HL.out.1).2.1, ((HI.out).at0 HL.out.1).2.2, ((HI.out).at1 HL.out.2).1, ((HI.out).at1 HL.out.2).2.1, ((HI.out).at1 HL.out.2).2.2⟩ (fun hHeld => ?_)
      clear hK K
      refine norm_ (a' := ?_) ?_ ?_
      rotate_left
      · show Act.put _ (some 4) _ = _
        simp only [Act.put, List.setIfInBounds_toArray, List.set_cons_zero, List.set_cons_succ, i64_w, i32_w]
        rfl
      refine one_ (i := 6) (N := some 3) #[true, true, true, true, true, true, true, true, false, false] rfl rfl (by kernel_rfl) (by decide) (fun K hK => ?_)
      refine value_ (w1 := ?_) (v := ?_) (by rfl) rfl ?_ ?_
      rotate_left 2
      · go_simp
        constructor
        · rfl
        · rfl
      have n0_ := Aside0.mk (AI.alloc HI.out (.cells #[.int .i64 0, .int .i64 0, .string (⟨#[]⟩ : ByteArray)] 25))
      clear HI
      have HI := n0_
      clear n0_
      refine hK.out _ _ ⟨(HI.out).s, ((HI.out).at0 HL.out.1).1, ((HI.out).at0 HL.out.1).2.1, ((HI.out).at0 HL.out.1).2.2, ((HI.out).at1 HL.out.2).1, ((HI.out).at1 HL.out.2).2.1, ((HI.out).at1 HL.out.2).2.2⟩ (fun hHeld => ?_)
      clear hK K
      refine norm_ (a' := ?_) ?_ ?_
      rotate_left
      · show Act.put _ (some 3) _ = _
        simp only [Act.put, List.setIfInBounds_toArray, List.set_cons_zero, List.set_cons_succ, i64_w, i32_w]
        rfl
      exact norm_ (by first | (simp only [putAll, Act.put, List.setIfInBounds_toArray, List.set_cons_zero, List.set_cons_succ]; done) | (simp only [putAll, Act.put, List.setIfInBounds_toArray, List.set_cons_zero, List.set_cons_succ]; rfl)) (hCont (_, _) _ (AJ.swap (AJ.two HB.out)))
  rintro ⟨b3, b4⟩ w5 hJ
  have HJ := Aside0.mk hJ
  clear hJ
  have HI := Aside0.mk HJ.out.1
  have hHeld := HI.out
  replace hHeld := (⟨(HI.out).s, ((HI.out).at0 HL.out.1).1, ((HI.out).at0 HL.out.1).2.1, ((HI.out).at0 HL.out.1).2.2, ((HI.out).at1 HL.out.2).1, ((HI.out).at1 HL.out.2).2.1, ((HI.out).at1 HL.out.2).2.2⟩ : (w5.cell? ⟨b1, 0, none⟩ = some (.slice (some ad) l.length c) ∧ w5.cell? ad = some (.int .i64 (rd_T25 l 0).f0) ∧ w5.cell? ⟨ad.block, ad.off + 1, none⟩ = some (.int .i64 (rd_T25 l 0).f1) ∧ w5.cell? ⟨ad.block, ad.off + 2, none⟩ = some (.string (rd_T25 l 0).f2) ∧ w5.cell? ⟨ad.block, ad.off + 3, none⟩ = some (.int .i64 (rd_T25 l 1).f0) ∧ w5.cell? ⟨ad.block, ad.off + 3 + 1, none⟩ = some (.int .i64 (rd_T25 l 1).f1) ∧ w5.cell? ⟨ad.block, ad.off + 3 + 2, none⟩ = some (.string (rd_T25 l 1).f2)))
  have hne : ¬ b3 = b4 := HJ.out.2.2.2.1
  have hne' : ¬ b4 = b3 := fun e => hne e.symm
  have ga0 : World.cell? _ ⟨b3, 0, none⟩ = some (.int .i64 0) := (blk_cell HJ.out.2.2.2.2.1 0).trans rfl
  have ga1 : World.cell? _ ⟨b3, 1, none⟩ = some (.int .i64 0) := (blk_cell HJ.out.2.2.2.2.1 1).trans rfl
  have ga2 : World.cell? _ ⟨b3, 2, none⟩ = some (.string (⟨#[]⟩ : ByteArray)) := (blk_cell HJ.out.2.2.2.2.1 2).trans rfl
  have gaf0 := blk_frozen HJ.out.2.2.2.2.1 0
  have gaf1 := blk_frozen HJ.out.2.2.2.2.1 1
  have gaf2 := blk_frozen HJ.out.2.2.2.2.1 2
  refine norm_ (a' := ?_) ?_ ?_
  rotate_left
  · simp only [putAll, Act.put, List.setIfInBounds_toArray, List.set_cons_zero, List.set_cons_succ]
    rfl
  refine one_ (i := 8) (N := none) #[true, true, true, true, true, true, true, true, true, false] rfl rfl (by kernel_rfl) (by decide) (fun K hK => ?_)
  refine skip_ (w1 := ?_) (by rfl) rfl ?_ ?_
  rotate_left
  · go_simp
    rfl
  have J2 := Aside0.mk (AJ.first (u' := (rd_T25 l 0)) HJ.out)
  clear HJ HI ga0 ga1 ga2 gaf0 gaf1 gaf2
  have HJ := J2
  clear J2
  have HI := Aside0.mk HJ.out.1
  have gb0 : World.cell? _ ⟨b4, 0, none⟩ = some (.int .i64 0) := (blk_cell HJ.out.2.2.2.2.2 0).trans rfl
  have gb1 : World.cell? _ ⟨b4, 1, none⟩ = some (.int .i64 0) := (blk_cell HJ.out.2.2.2.2.2 1).trans rfl
  have gb2 : World.cell? _ ⟨b4, 2, none⟩ = some (.string (⟨#[]⟩ : ByteArray)) := (blk_cell HJ.out.2.2.2.2.2 2).trans rfl
  have gbf0 := blk_frozen HJ.out.2.2.2.2.2 0
  have gbf1 := blk_frozen HJ.out.2.2.2.2.2 1
  have gbf2 := blk_frozen HJ.out.2.2.2.2.2 2
  refine hK.out _ _ ⟨(HI.out).s, ((HI.out).at0 HL.out.1).1, ((HI.out).at0 HL.out.1).2.1, ((HI.out).at0 HL.out.1).2.2, ((HI.out).at1 HL.out.2).1, ((HI.out).at1 HL.out.2).2.1, ((HI.out).at1 HL.out.2).2.2⟩ (fun hHeld => ?_)
  clear hK K
  refine last_ (i := 9) (N := none) #[true, true, true, true, true, true, true, true, true, true] rfl rfl (by kernel_rfl) (by decide) (fun K hK => ?_)
  refine skip_ (w1 := ?_) (by rfl) rfl ?_ ?_
  rotate_left
  · go_simp
    rfl
  have J2 := Aside0.mk (AJ.second (v' := (rd_T25 l 1)) HJ.out)
  clear HJ HI gb0 gb1 gb2 gbf0 gbf1 gbf2 hne hne'
  have HJ := J2
  clear J2
  refine hK.out _ _ ?_
  clear hK K
  refine done_ (by kernel_rfl) ?_
  refine at_exit (fun w' => AJ f l (some ad) c b0 b1 W (rd_T25 l 0) (rd_T25 l 1) b3 b4 w') HJ.out (fun w6 hJ => ?_)
  clear HJ
  have HJ := Aside0.mk hJ
  clear hJ
  have ga0 : World.cell? _ ⟨b3, 0, none⟩ = some (.int .i64 (rd_T25 l 0).f0) := (blk_cell HJ.out.2.2.2.2.1 0).trans rfl
  have ga1 : World.cell? _ ⟨b3, 1, none⟩ = some (.int .i64 (rd_T25 l 0).f1) := (blk_cell HJ.out.2.2.2.2.1 1).trans rfl
  have ga2 : World.cell? _ ⟨b3, 2, none⟩ = some (.string (rd_T25 l 0).f2) := (blk_cell HJ.out.2.2.2.2.1 2).trans rfl
  have gaf0 := blk_frozen HJ.out.2.2.2.2.1 0
  have gaf1 := blk_frozen HJ.out.2.2.2.2.1 1
  have gaf2 := blk_frozen HJ.out.2.2.2.2.1 2
  have gb0 : World.cell? _ ⟨b4, 0, none⟩ = some (.int .i64 (rd_T25 l 1).f0) := (blk_cell HJ.out.2.2.2.2.2 0).trans rfl
  have gb1 : World.cell? _ ⟨b4, 1, none⟩ = some (.int .i64 (rd_T25 l 1).f1) := (blk_cell HJ.out.2.2.2.2.2 1).trans rfl
  have gb2 : World.cell? _ ⟨b4, 2, none⟩ = some (.string (rd_T25 l 1).f2) := (blk_cell HJ.out.2.2.2.2.2 2).trans rfl
  have gbf0 := blk_frozen HJ.out.2.2.2.2.2 0
  have gbf1 := blk_frozen HJ.out.2.2.2.2.2 1
  have gbf2 := blk_frozen HJ.out.2.2.2.2.2 2
  have gz0 : World.cell? _ ⟨W.heap.size, 0, none⟩ = some (.int .i64 0) := (blk_cell HJ.out.1.z 0).trans rfl
  have gz1 : World.cell? _ ⟨W.heap.size, 1, none⟩ = some (.int .i64 0) := (blk_cell HJ.out.1.z 1).trans rfl
  have gz2 : World.cell? _ ⟨W.heap.size, 2, none⟩ = some (.string (⟨#[]⟩ : ByteArray)) := (blk_cell HJ.out.1.z 2).trans rfl
  have gzf0 := blk_frozen HJ.out.1.z 0
  have gzf1 := blk_frozen HJ.out.1.z 1
  have gzf2 := blk_frozen HJ.out.1.z 2
  go_wp2_with (first | (go_at_call 14; (with_reducible refine (calc_Args.calls 1 f _ _ (args_f f)).mono ?_); rintro e w' ⟨rfl, ⟨nd, rfl⟩⟩) | (go_at_call 30; (with_reducible refine (calc_check.yes _ _).mono ?_); rintro e w' ⟨rfl, rfl⟩) | (go_at_call 30; (with_reducible refine (calc_check.no _ _).mono ?_); rintro e w' ⟨rfl, rfl⟩))
  refine bodyPost_ret (v := encV (rd_T25 l 1)) (by simp [results, Try.results29, go_sem, encV, gz0, gz1, gz2]) rfl ⟨rfl, ?_⟩
  exact below_set3 HJ.out.1.bel (Nat.le_refl W.heap.size) _ _ _ _ _ _
set_option maxHeartbeats 2000000 in
set_option maxRecDepth 100000 in
theorem calc_Call1.one2 (f : Int) (l : List S25) (ad : Addr) (c b0 b1 : Nat) (W : World) (h0 : W.heap[b0]? = some (.cells #[.int .i64 f] 3 (0, 0))) (h1 : W.heap[b1]? = some (.cells #[.slice (some ad) l.length c] 22 (0, 0))) (hr : Kd.C k25 W (some ad) l.length l) (l0 : 0 < argsN f) (lc : (l.length : Int) = argsN f) (l2 : l.length = 2) (f6 : f = 6) (eq : (rd_T25 l 0).f0 = (rd_T25 l 1).f0) (a0 : ¬ (rd_T25 l 0).f0 = 0) :
    Calls Try.prog 29 #[.pointer (some ⟨b0, 0, none⟩), .pointer (some ⟨b1, 0, none⟩)] W (fun e w' => RE (.ok (rd_T25 l 0)) e ∧ Below W.heap.size W w') := by
  have hu25 := Try.underlying25
  have n0 : ¬ b0 = W.heap.size := by have := blk_lt h0; omega
  have n1 : ¬ b1 = W.heap.size := by have := blk_lt h1; omega
  have HS := Aside0.mk (AI.start h0 h1 hr)
  clear h0 h1 hr
  have hcF := HS.out.o
  have hcA := HS.out.s
  have HL := Aside0.mk (show 0 < l.length ∧ 1 < l.length by omega)
  have hL0 : (0 < l.length) = True := eq_true HL.out.1
  have hL1 : (1 < l.length) = True := eq_true HL.out.2
  have hD0 : decide (0 < l.length) = true := decide_eq_true HL.out.1
  have hD1 : decide (1 < l.length) = true := decide_eq_true HL.out.2
  have hI0 : (0 < (l.length : Int)) = True := eq_true (by have := HL.out.1; omega)
  have hI1 : (1 < (l.length : Int)) = True := eq_true (by have := HL.out.2; omega)
  have hE0 : decide (0 < (l.length : Int)) = true := decide_eq_true (by have := HL.out.1; omega)
  have hE1 : decide (1 < (l.length : Int)) = true := decide_eq_true (by have := HL.out.2; omega)
  have q0 : decide (0 < argsN f) = true := decide_eq_true l0
  have q1 : ((l.length : Int) == argsN f) = true := beq_iff_eq.mpr lc
  have q2 : (f == 6) = true := beq_iff_eq.mpr f6
  have q3 : ((rd_T25 l 0).f0 == (rd_T25 l 1).f0) = true := beq_iff_eq.mpr eq
  have q4 : ((rd_T25 l 0).f0 == 0) = false := beq_eq_false_iff_ne.mpr a0
  have l0' := Aside0.mk l0
  have lc' := Aside0.mk lc
  have l2' := Aside0.mk l2
  have f6' := Aside0.mk f6
  have eq' := Aside0.mk eq
  have a0' := Aside0.mk a0
  clear l0 lc l2 f6 eq a0
  go_enter Try.func29, Try.ntmps29
  go_wp2_with (first | (go_at_call 14; (with_reducible refine (calc_Args.calls 1 f _ _ (args_f f)).mono ?_); rintro e w' ⟨rfl, ⟨nd, rfl⟩⟩) | (go_at_call 30; (with_reducible refine (calc_check.yes _ _).mono ?_); rintro e w' ⟨rfl, rfl⟩) | (go_at_call 30; (with_reducible refine (calc_check.no _ _).mono ?_); rintro e w' ⟨rfl, rfl⟩))
  refine at_world (fun w' => AI f l (some ad) c b0 b1 W w') (by repeat (first | exact HS.out | refine AI.drewN ?_ _ | refine AI.drew ?_)) (fun w1 hI => ?_)
  have HI := Aside0.mk hI
  clear hI hcF hcA
  refine start_ (n := 6) (S := fun w' => w'.cell? ⟨b0, 0, none⟩ = some (.int .i64 f) ∧ w'.cell? ⟨b1, 0, none⟩ = some (.slice (some ad) l.length c)) (ds := []) #[false, false, false, false, false, false] (by kernel_rfl) rfl rfl ⟨HI.out.drew.o, HI.out.drew.s⟩ (fun hHeld => ?_)
  refine take_ (i := 0) (N := some 12) (v := ?_) (a' := ?_) #[true, false, false, false, false, false] rfl rfl (by kernel_rfl) (fun _ _ _ h => h) (Or.inl ⟨by rfl, ?_⟩) hHeld ?_ ?_
  rotate_left
  · rintro w' ⟨s0, s1⟩
    go_simp
    with_reducible rfl
  rotate_left
  · simp only [Act.put, List.setIfInBounds_toArray, List.set_cons_zero, List.set_cons_succ, i64_w, i32_w]
    rfl
  refine pure_ (i := 1) (N := some 13) (v := ?_) (a' := ?_) #[true, true, false, false, false, false] rfl rfl (by kernel_rfl) (fun _ _ _ h => h) (Or.inl ⟨by rfl, ?_⟩) ?_ ?_
  rotate_left
  · intro w'
    go_simp
    with_reducible rfl
  rotate_left
  · simp only [Act.put, List.setIfInBounds_toArray, List.set_cons_zero, List.set_cons_succ, i64_w, i32_w]
    rfl
  refine take_ (i := 2) (N := some 14) (v := ?_) (a' := ?_) #[true, true, true, false, false, false] rfl rfl (by kernel_rfl) (fun _ _ _ h => h) (Or.inl ⟨by rfl, ?_⟩) hHeld ?_ ?_
  rotate_left
  · rintro w' ⟨s0, s1⟩
    go_simp
    with_reducible rfl
  rotate_left
  · simp only [Act.put, List.setIfInBounds_toArray, List.set_cons_zero, List.set_cons_succ, i64_w, i32_w]
    rfl
  refine one_ (i := 3) (N := some 15) #[true, true, true, true, false, false] rfl rfl (by kernel_rfl) (by decide) (fun K hK => ?_)
  refine goes_ Try.func14 (by kernel_rfl) rfl #[.int .i64 f] (by rfl) rfl rfl (by simp only [List.map_toArray, List.map_cons, List.map_nil]; rfl) ?_
  with_reducible refine (calc_Args.calls 1 f _ _ (args_f f)).mono ?_
  rintro e w2 ⟨rfl, ⟨nd3, rfl⟩⟩
  refine ⟨_, rfl, ?_⟩
  have n0_ := Aside0.mk (AI.drewN HI.out.drew nd3)
  clear HI
  have HI := n0_
  clear n0_
  refine hK.out _ _ ⟨HI.out.o, HI.out.s⟩ (fun hHeld => ?_)
  clear hK K
  refine norm_ (a' := ?_) ?_ ?_
  rotate_left
  · show Act.put _ (some 15) _ = _
    simp only [Act.put, List.setIfInBounds_toArray, List.set_cons_zero, List.set_cons_succ, i64_w, i32_w]
    rfl
  refine pure_ (i := 4) (N := some 16) (v := ?_) (a' := ?_) #[true, true, true, true, true, false] rfl rfl (by kernel_rfl) (fun _ _ _ h => h) (Or.inl ⟨by rfl, ?_⟩) ?_ ?_
  rotate_left
  · intro w'
    go_simp
    with_reducible rfl
  rotate_left
  · simp only [Act.put, List.setIfInBounds_toArray, List.set_cons_zero, List.set_cons_succ, i64_w, i32_w]
    rfl
  refine one_ (i := 5) (N := some 17) #[true, true, true, true, true, true] rfl rfl (by kernel_rfl) (by decide) (fun K hK => ?_)
  refine goes_ Try.func30 (by kernel_rfl) rfl #[.bool true, .int .i64 37] (by rfl) rfl rfl (by simp only [List.map_toArray, List.map_cons, List.map_nil]; rfl) ?_
  with_reducible refine (calc_check.yes _ _).mono ?_
  rintro e w2 ⟨rfl, rfl⟩
  refine ⟨_, rfl, ?_⟩
  refine hK.out _ _ ⟨HI.out.o, HI.out.s⟩ (fun hHeld => ?_)
  clear hK K
  refine norm_ (a' := ?_) ?_ ?_
  rotate_left
  · show Act.put _ (some 17) _ = _
    simp only [Act.put, List.setIfInBounds_toArray, List.set_cons_zero, List.set_cons_succ, i64_w, i32_w]
    rfl
  refine done_ (by kernel_rfl) ?_
  refine at_exit (fun w' => AI f l (some ad) c b0 b1 W w') HI.out (fun w3 hI => ?_)
  clear HI
  have HI := Aside0.mk hI
  clear hI
  have hcF := HI.out.o
  go_wp2_with fail
  refine at_world (fun w' => AI f l (some ad) c b0 b1 W w') (by repeat (first | exact HI.out | refine AI.drewN ?_ _ | refine AI.drew ?_)) (fun w4 hI => ?_)
  clear HI hcF
  have HI := Aside0.mk hI
  clear hI
  have HB := Aside0.mk HI.out.drew
  clear HI
  have HI := HB
  refine start_ (n := 10) (S := fun w' => w'.cell? ⟨b1, 0, none⟩ = some (.slice (some ad) l.length c) ∧ w'.cell? ad = some (.int .i64 (rd_T25 l 0).f0) ∧ w'.cell? ⟨ad.block, ad.off + 1, none⟩ = some (.int .i64 (rd_T25 l 0).f1) ∧ w'.cell? ⟨ad.block, ad.off + 2, none⟩ = some (.string (rd_T25 l 0).f2) ∧ w'.cell? ⟨ad.block, ad.off + 3, none⟩ = some (.int .i64 (rd_T25 l 1).f0) ∧ w'.cell? ⟨ad.block, ad.off + 3 + 1, none⟩ = some (.int .i64 (rd_T25 l 1).f1) ∧ w'.cell? ⟨ad.block, ad.off + 3 + 2, none⟩ = some (.string (rd_T25 l 1).f2)) (ds := [9]) #[false, false, false, false, false, false, false, false, false, false] (by kernel_rfl) rfl rfl ⟨(HB.out).s, ((HB.out).at0 HL.out.1).1, ((HB.out).at0 HL.out.1).2.1, ((HB.out).at0 HL.out.1).2.2, ((HB.out).at1 HL.out.2).1, ((HB.out).at1 HL.out.2).2.1, ((HB.out).at1 HL.out.2).2.2⟩ (fun hHeld => ?_)
  refine take_ (i := 0) (N := some 20) (v := ?_) (a' := ?_) #[true, false, false, false, false, false, false, false, false, false] rfl rfl (by kernel_rfl) (fun _ _ _ h => h) (Or.inl ⟨by rfl, ?_⟩) hHeld ?_ ?_
  rotate_left
  · rintro w' ⟨s0, s1, s2, s3, s4, s5, s6⟩
    go_simp
    with_reducible rfl
  rotate_left
  · simp only [Act.put, List.setIfInBounds_toArray, List.set_cons_zero, List.set_cons_succ, i64_w, i32_w]
    rfl
  refine pure_ (i := 1) (N := some 21) (v := ?_) (a' := ?_) #[true, true, false, false, false, false, false, false, false, false] rfl rfl (by kernel_rfl) (fun _ _ _ h => h) (Or.inl ⟨by rfl, ?_⟩) ?_ ?_
  rotate_left
  · intro w'
    go_simp
    with_reducible rfl
  rotate_left
  · simp only [Act.put, List.setIfInBounds_toArray, List.set_cons_zero, List.set_cons_succ, i64_w, i32_w]
    rfl
  refine take_ (i := 2) (N := some 22) (v := ?_) (a' := ?_) #[true, true, true, false, false, false, false, false, false, false] rfl rfl (by kernel_rfl) (fun _ _ _ h => h) (Or.inl ⟨by rfl, ?_⟩) hHeld ?_ ?_
  rotate_left
  · rintro w' ⟨s0, s1, s2, s3, s4, s5, s6⟩
    go_simp
    with_reducible rfl
  rotate_left
  · simp only [Act.put, List.setIfInBounds_toArray, List.set_cons_zero, List.set_cons_succ, i64_w, i32_w]
    rfl
  refine take_ (i := 3) (N := some 23) (v := ?_) (a' := ?_) #[true, true, true, true, false, false, false, false, false, false] rfl rfl (by kernel_rfl) (fun _ _ _ h => h) (Or.inl ⟨by rfl, ?_⟩) hHeld ?_ ?_
  rotate_left
  · rintro w' ⟨s0, s1, s2, s3, s4, s5, s6⟩
    go_simp
    with_reducible rfl
  rotate_left
  · simp only [Act.put, List.setIfInBounds_toArray, List.set_cons_zero, List.set_cons_succ, i64_w, i32_w]
    rfl
  refine pure_ (i := 4) (N := some 24) (v := ?_) (a' := ?_) #[true, true, true, true, true, false, false, false, false, false] rfl rfl (by kernel_rfl) (fun _ _ _ h => h) (Or.inl ⟨by rfl, ?_⟩) ?_ ?_
  rotate_left
  · intro w'
    go_simp
    with_reducible rfl
  rotate_left
  · simp only [Act.put, List.setIfInBounds_toArray, List.set_cons_zero, List.set_cons_succ, i64_w, i32_w]
    rfl
  refine take_ (i := 5) (N := some 25) (v := ?_) (a' := ?_) #[true, true, true, true, true, true, false, false, false, false] rfl rfl (by kernel_rfl) (fun _ _ _ h => h) (Or.inl ⟨by rfl, ?_⟩) hHeld ?_ ?_
  rotate_left
  · rintro w' ⟨s0, s1, s2, s3, s4, s5, s6⟩
    go_simp
    with_reducible rfl
  rotate_left
  · simp only [Act.put, List.setIfInBounds_toArray, List.set_cons_zero, List.set_cons_succ, i64_w, i32_w]
    rfl
  refine join_ (σ := Nat × Nat) 2 #[true, true, true, true, true, true, true, true, false, false] (fun s => [(3, .pointer (some ⟨s.1, 0, none⟩)), (4, .pointer (some ⟨s.2, 0, none⟩))]) (fun s w' => AJ f l (some ad) c b0 b1 W zeroV zeroV s.1 s.2 w') ?_ ?_
  rotate_left
  · intro hCont
    refine two_ (i := 6) (j := 7) (Ni := some 3) (Nj := some 4) #[true, true, true, true, true, true, true, false, false, false] #[true, true, true, true, true, true, false, true, false, false] rfl rfl rfl rfl (by kernel_rfl) (by decide) (by decide) (fun K hK => ?_) (fun K hK => ?_)
    · skip
      refine value_ (w1 := ?_) (v := ?_) (by rfl) rfl ?_ ?_
      rotate_left 2
      · go_simp
        constructor
        · rfl
        · rfl
      have n0_ := Aside0.mk (AI.alloc HI.out (.cells #[.int .i64 0, .int .i64 0, .string (⟨#[]⟩ : ByteArray)] 25))
      clear HI
      have HI := n0_
      clear n0_
      refine hK.out _ _ ⟨(HI.out).s, ((HI.out).at0 HL.out.1).1, ((HI.out).at0 HL.out.1).2.1, ((HI.out).at0 HL.out.1).2.2, ((HI.out).at1 HL.out.2).1, ((HI.out).at1 HL.out.2).2.1, ((HI.out).at1 HL.out.2).2.2⟩ (fun hHeld => ?_)
      clear hK K
      refine norm_ (a' := ?_) ?_ ?_
      rotate_left
      · show Act.put _ (some 3) _ = _
        simp only [Act.put, List.setIfInBounds_toArray, List.set_cons_zero, List.set_cons_succ, i64_w, i32_w]
        rfl
      refine one_ (i := 7) (N := some 4) #[true, true, true, true, true, true, true, true, false, false] rfl rfl (by kernel_rfl) (by decide) (fun K hK => ?_)
      refine value_ (w1 := ?_) (v := ?_) (by rfl) rfl ?_ ?_
      rotate_left 2
      · go_simp
        constructor
        · rfl
        · rfl
      have n0_ := Aside0.mk (AI.alloc HI.out (.cells #[.int .i64 0, .int .i64 0, .string (⟨#[]⟩ : ByteArray)] 25))
      clear HI
      have HI := n0_
      clear n0_
      refine hK.out _ _ ⟨(HI.out).s, ((HI.out).at0 HL.out.1).1, ((HI.out).at0 HL.out.1).2.1, ((HI.out).at0 HL.out.1).2.2, ((HI.out).at1 HL.out.2).1, ((HI.out).at1 HL.out.2).2.1, ((HI.out).at1 HL.out.2).2.2⟩ (fun hHeld => ?_)
      clear hK K
      refine norm_ (a' := ?_) ?_ ?_
      rotate_left
      · show Act.put _ (some 4) _ = _
        simp only [Act.put, List.setIfInBounds_toArray, List.set_cons_zero, List.set_cons_succ, i64_w, i32_w]
        rfl
      exact norm_ (by first | (simp only [putAll, Act.put, List.setIfInBounds_toArray, List.set_cons_zero, List.set_cons_succ]; done) | (simp only [putAll, Act.put, List.setIfInBounds_toArray, List.set_cons_zero, List.set_cons_succ]; rfl)) (hCont (_, _) _ (AJ.two HB.out))
    · skip
      refine value_ (w1 := ?_) (v := ?_) (by rfl) rfl ?_ ?_
      rotate_left 2
      · go_simp
        constructor
        · rfl
        · rfl
      have n0_ := Aside0.mk (AI.alloc HI.out (.cells #[.int .i64 0, .int .i64 0, .string (⟨#[]⟩ : ByteArray)] 25))
      clear HI
      have HI := n0_
      clear n0_
      refine hK.out _ _ ⟨(HI.out).s, ((HI.out).at0 HL.out.1).1, ((HI.out).at0 HL.out.1).2.1, ((HI.out).at0 HL.out.1).2.2, ((HI.out).at1 HL.out.2).1, ((HI.out).at1 HL.out.2).2.1, ((HI.out).at1 HL.out.2).2.2⟩ (fun hHeld => ?_)
      clear hK K
      refine norm_ (a' := ?_) ?_ ?_
      rotate_left
      · show Act.put _ (some 4) _ = _
        simp only [Act.put, List.setIfInBounds_toArray, List.set_cons_zero, List.set_cons_succ, i64_w, i32_w]
        rfl
      refine one_ (i := 6) (N := some 3) #[true, true, true, true, true, true, true, true, false, false] rfl rfl (by kernel_rfl) (by decide) (fun K hK => ?_)
      refine value_ (w1 := ?_) (v := ?_) (by rfl) rfl ?_ ?_
      rotate_left 2
      · go_simp
        constructor
        · rfl
        · rfl
      have n0_ := Aside0.mk (AI.alloc HI.out (.cells #[.int .i64 0, .int .i64 0, .string (⟨#[]⟩ : ByteArray)] 25))
      clear HI
      have HI := n0_
      clear n0_
      refine hK.out _ _ ⟨(HI.out).s, ((HI.out).at0 HL.out.1).1, ((HI.out).at0 HL.out.1).2.1, ((HI.out).at0 HL.out.1).2.2, ((HI.out).at1 HL.out.2).1, ((HI.out).at1 HL.out.2).2.1, ((HI.out).at1 HL.out.2).2.2⟩ (fun hHeld => ?_)
      clear hK K
      refine norm_ (a' := ?_) ?_ ?_
      rotate_left
      · show Act.put _ (some 3) _ = _
        simp only [Act.put, List.setIfInBounds_toArray, List.set_cons_zero, List.set_cons_succ, i64_w, i32_w]
        rfl
      exact norm_ (by first | (simp only [putAll, Act.put, List.setIfInBounds_toArray, List.set_cons_zero, List.set_cons_succ]; done) | (simp only [putAll, Act.put, List.setIfInBounds_toArray, List.set_cons_zero, List.set_cons_succ]; rfl)) (hCont (_, _) _ (AJ.swap (AJ.two HB.out)))
  rintro ⟨b3, b4⟩ w5 hJ
  have HJ := Aside0.mk hJ
  clear hJ
  have HI := Aside0.mk HJ.out.1
  have hHeld := HI.out
  replace hHeld := (⟨(HI.out).s, ((HI.out).at0 HL.out.1).1, ((HI.out).at0 HL.out.1).2.1, ((HI.out).at0 HL.out.1).2.2, ((HI.out).at1 HL.out.2).1, ((HI.out).at1 HL.out.2).2.1, ((HI.out).at1 HL.out.2).2.2⟩ : (w5.cell? ⟨b1, 0, none⟩ = some (.slice (some ad) l.length c) ∧ w5.cell? ad = some (.int .i64 (rd_T25 l 0).f0) ∧ w5.cell? ⟨ad.block, ad.off + 1, none⟩ = some (.int .i64 (rd_T25 l 0).f1) ∧ w5.cell? ⟨ad.block, ad.off + 2, none⟩ = some (.string (rd_T25 l 0).f2) ∧ w5.cell? ⟨ad.block, ad.off + 3, none⟩ = some (.int .i64 (rd_T25 l 1).f0) ∧ w5.cell? ⟨ad.block, ad.off + 3 + 1, none⟩ = some (.int .i64 (rd_T25 l 1).f1) ∧ w5.cell? ⟨ad.block, ad.off + 3 + 2, none⟩ = some (.string (rd_T25 l 1).f2)))
  have hne : ¬ b3 = b4 := HJ.out.2.2.2.1
  have hne' : ¬ b4 = b3 := fun e => hne e.symm
  have ga0 : World.cell? _ ⟨b3, 0, none⟩ = some (.int .i64 0) := (blk_cell HJ.out.2.2.2.2.1 0).trans rfl
  have ga1 : World.cell? _ ⟨b3, 1, none⟩ = some (.int .i64 0) := (blk_cell HJ.out.2.2.2.2.1 1).trans rfl
  have ga2 : World.cell? _ ⟨b3, 2, none⟩ = some (.string (⟨#[]⟩ : ByteArray)) := (blk_cell HJ.out.2.2.2.2.1 2).trans rfl
  have gaf0 := blk_frozen HJ.out.2.2.2.2.1 0
  have gaf1 := blk_frozen HJ.out.2.2.2.2.1 1
  have gaf2 := blk_frozen HJ.out.2.2.2.2.1 2
  refine norm_ (a' := ?_) ?_ ?_
  rotate_left
  · simp only [putAll, Act.put, List.setIfInBounds_toArray, List.set_cons_zero, List.set_cons_succ]
    rfl
  refine one_ (i := 8) (N := none) #[true, true, true, true, true, true, true, true, true, false] rfl rfl (by kernel_rfl) (by decide) (fun K hK => ?_)
  refine skip_ (w1 := ?_) (by rfl) rfl ?_ ?_
  rotate_left
  · go_simp
    rfl
  have J2 := Aside0.mk (AJ.first (u' := (rd_T25 l 0)) HJ.out)
  clear HJ HI ga0 ga1 ga2 gaf0 gaf1 gaf2
  have HJ := J2
  clear J2
  have HI := Aside0.mk HJ.out.1
  have gb0 : World.cell? _ ⟨b4, 0, none⟩ = some (.int .i64 0) := (blk_cell HJ.out.2.2.2.2.2 0).trans rfl
  have gb1 : World.cell? _ ⟨b4, 1, none⟩ = some (.int .i64 0) := (blk_cell HJ.out.2.2.2.2.2 1).trans rfl
  have gb2 : World.cell? _ ⟨b4, 2, none⟩ = some (.string (⟨#[]⟩ : ByteArray)) := (blk_cell HJ.out.2.2.2.2.2 2).trans rfl
  have gbf0 := blk_frozen HJ.out.2.2.2.2.2 0
  have gbf1 := blk_frozen HJ.out.2.2.2.2.2 1
  have gbf2 := blk_frozen HJ.out.2.2.2.2.2 2
  refine hK.out _ _ ⟨(HI.out).s, ((HI.out).at0 HL.out.1).1, ((HI.out).at0 HL.out.1).2.1, ((HI.out).at0 HL.out.1).2.2, ((HI.out).at1 HL.out.2).1, ((HI.out).at1 HL.out.2).2.1, ((HI.out).at1 HL.out.2).2.2⟩ (fun hHeld => ?_)
  clear hK K
  refine last_ (i := 9) (N := none) #[true, true, true, true, true, true, true, true, true, true] rfl rfl (by kernel_rfl) (by decide) (fun K hK => ?_)
  refine skip_ (w1 := ?_) (by rfl) rfl ?_ ?_
  rotate_left
  · go_simp
    rfl
  have J2 := Aside0.mk (AJ.second (v' := (rd_T25 l 1)) HJ.out)
  clear HJ HI gb0 gb1 gb2 gbf0 gbf1 gbf2 hne hne'
  have HJ := J2
  clear J2
  refine hK.out _ _ ?_
  clear hK K
  refine done_ (by kernel_rfl) ?_
  refine at_exit (fun w' => AJ f l (some ad) c b0 b1 W (rd_T25 l 0) (rd_T25 l 1) b3 b4 w') HJ.out (fun w6 hJ => ?_)
  clear HJ
  have HJ := Aside0.mk hJ
  clear hJ
  have ga0 : World.cell? _ ⟨b3, 0, none⟩ = some (.int .i64 (rd_T25 l 0).f0) := (blk_cell HJ.out.2.2.2.2.1 0).trans rfl
  have ga1 : World.cell? _ ⟨b3, 1, none⟩ = some (.int .i64 (rd_T25 l 0).f1) := (blk_cell HJ.out.2.2.2.2.1 1).trans rfl
  have ga2 : World.cell? _ ⟨b3, 2, none⟩ = some (.string (rd_T25 l 0).f2) := (blk_cell HJ.out.2.2.2.2.1 2).trans rfl
  have gaf0 := blk_frozen HJ.out.2.2.2.2.1 0
  have gaf1 := blk_frozen HJ.out.2.2.2.2.1 1
  have gaf2 := blk_frozen HJ.out.2.2.2.2.1 2
  have gb0 : World.cell? _ ⟨b4, 0, none⟩ = some (.int .i64 (rd_T25 l 1).f0) := (blk_cell HJ.out.2.2.2.2.2 0).trans rfl
  have gb1 : World.cell? _ ⟨b4, 1, none⟩ = some (.int .i64 (rd_T25 l 1).f1) := (blk_cell HJ.out.2.2.2.2.2 1).trans rfl
  have gb2 : World.cell? _ ⟨b4, 2, none⟩ = some (.string (rd_T25 l 1).f2) := (blk_cell HJ.out.2.2.2.2.2 2).trans rfl
  have gbf0 := blk_frozen HJ.out.2.2.2.2.2 0
  have gbf1 := blk_frozen HJ.out.2.2.2.2.2 1
  have gbf2 := blk_frozen HJ.out.2.2.2.2.2 2
  have gz0 : World.cell? _ ⟨W.heap.size, 0, none⟩ = some (.int .i64 0) := (blk_cell HJ.out.1.z 0).trans rfl
  have gz1 : World.cell? _ ⟨W.heap.size, 1, none⟩ = some (.int .i64 0) := (blk_cell HJ.out.1.z 1).trans rfl
  have gz2 : World.cell? _ ⟨W.heap.size, 2, none⟩ = some (.string (⟨#[]⟩ : ByteArray)) := (blk_cell HJ.out.1.z 2).trans rfl
  have gzf0 := blk_frozen HJ.out.1.z 0
  have gzf1 := blk_frozen HJ.out.1.z 1
  have gzf2 := blk_frozen HJ.out.1.z 2
  go_wp2_with (first | (go_at_call 14; (with_reducible refine (calc_Args.calls 1 f _ _ (args_f f)).mono ?_); rintro e w' ⟨rfl, ⟨nd, rfl⟩⟩) | (go_at_call 30; (with_reducible refine (calc_check.yes _ _).mono ?_); rintro e w' ⟨rfl, rfl⟩) | (go_at_call 30; (with_reducible refine (calc_check.no _ _).mono ?_); rintro e w' ⟨rfl, rfl⟩))
  refine bodyPost_ret (v := encV (rd_T25 l 0)) (by simp [results, Try.results29, go_sem, encV, gz0, gz1, gz2]) rfl ⟨rfl, ?_⟩
  exact below_set3 HJ.out.1.bel (Nat.le_refl W.heap.size) _ _ _ _ _ _
set_option maxHeartbeats 2000000 in
set_option maxRecDepth 100000 in
theorem calc_Call1.one3 (f : Int) (l : List S25) (ad : Addr) (c b0 b1 : Nat) (W : World) (h0 : W.heap[b0]? = some (.cells #[.int .i64 f] 3 (0, 0))) (h1 : W.heap[b1]? = some (.cells #[.slice (some ad) l.length c] 22 (0, 0))) (hr : Kd.C k25 W (some ad) l.length l) (l0 : 0 < argsN f) (lc : (l.length : Int) = argsN f) (l2 : l.length = 2) (f6 : f = 6) (eq : ¬ (rd_T25 l 0).f0 = (rd_T25 l 1).f0) (a0 : (rd_T25 l 0).f0 = 0) :
    Calls Try.prog 29 #[.pointer (some ⟨b0, 0, none⟩), .pointer (some ⟨b1, 0, none⟩)] W (fun e w' => RE (.ok (rd_T25 l 1)) e ∧ Below W.heap.size W w') := by
  have hu25 := Try.underlying25
  have n0 : ¬ b0 = W.heap.size := by have := blk_lt h0; omega
  have n1 : ¬ b1 = W.heap.size := by have := blk_lt h1; omega
  have HS := Aside0.mk (AI.start h0 h1 hr)
  clear h0 h1 hr
  have hcF := HS.out.o
  have hcA := HS.out.s
  have HL := Aside0.mk (show 0 < l.length ∧ 1 < l.length by omega)
  have hL0 : (0 < l.length) = True := eq_true HL.out.1
  have hL1 : (1 < l.length) = True := eq_true HL.out.2
  have hD0 : decide (0 < l.length) = true := decide_eq_true HL.out.1
  have hD1 : decide (1 < l.length) = true := decide_eq_true HL.out.2
  have hI0 : (0 < (l.length : Int)) = True := eq_true (by have := HL.out.1; omega)
  have hI1 : (1 < (l.length : Int)) = True := eq_true (by have := HL.out.2; omega)
  have hE0 : decide (0 < (l.length : Int)) = true := decide_eq_true (by have := HL.out.1; omega)
  have hE1 : decide (1 < (l.length : Int)) = true := decide_eq_true (by have := HL.out.2; omega)
  have q0 : decide (0 < argsN f) = true := decide_eq_true l0
  have q1 : ((l.length : Int) == argsN f) = true := beq_iff_eq.mpr lc
  have q2 : (f == 6) = true := beq_iff_eq.mpr f6
  have q3 : ((rd_T25 l 0).f0 == (rd_T25 l 1).f0) = false := beq_eq_false_iff_ne.mpr eq
  have q4 : ((rd_T25 l 0).f0 == 0) = true := beq_iff_eq.mpr a0
  have l0' := Aside0.mk l0
  have lc' := Aside0.mk lc
  have l2' := Aside0.mk l2
  have f6' := Aside0.mk f6
  have eq' := Aside0.mk eq
  have a0' := Aside0.mk a0
  clear l0 lc l2 f6 eq a0
  go_enter Try.func29, Try.ntmps29
  go_wp2_with (first | (go_at_call 14; (with_reducible refine (calc_Args.calls 1 f _ _ (args_f f)).mono ?_); rintro e w' ⟨rfl, ⟨nd, rfl⟩⟩) | (go_at_call 30; (with_reducible refine (calc_check.yes _ _).mono ?_); rintro e w' ⟨rfl, rfl⟩) | (go_at_call 30; (with_reducible refine (calc_check.no _ _).mono ?_); rintro e w' ⟨rfl, rfl⟩))
  refine at_world (fun w' => AI f l (some ad) c b0 b1 W w') (by repeat (first | exact HS.out | refine AI.drewN ?_ _ | refine AI.drew ?_)) (fun w1 hI => ?_)
  have HI := Aside0.mk hI
  clear hI hcF hcA
  refine start_ (n := 6) (S := fun w' => w'.cell? ⟨b0, 0, none⟩ = some (.int .i64 f) ∧ w'.cell? ⟨b1, 0, none⟩ = some (.slice (some ad) l.length c)) (ds := []) #[false, false, false, false, false, false] (by kernel_rfl) rfl rfl ⟨HI.out.drew.o, HI.out.drew.s⟩ (fun hHeld => ?_)
  refine take_ (i := 0) (N := some 12) (v := ?_) (a' := ?_) #[true, false, false, false, false, false] rfl rfl (by kernel_rfl) (fun _ _ _ h => h) (Or.inl ⟨by rfl, ?_⟩) hHeld ?_ ?_
  rotate_left
  · rintro w' ⟨s0, s1⟩
    go_simp
    with_reducible rfl
  rotate_left
  · simp only [Act.put, List.setIfInBounds_toArray, List.set_cons_zero, List.set_cons_succ, i64_w, i32_w]
    rfl
  refine pure_ (i := 1) (N := some 13) (v := ?_) (a' := ?_) #[true, true, false, false, false, false] rfl rfl (by kernel_rfl) (fun _ _ _ h => h) (Or.inl ⟨by rfl, ?_⟩) ?_ ?_
  rotate_left
  · intro w'
    go_simp
    with_reducible rfl
  rotate_left
  · simp only [Act.put, List.setIfInBounds_toArray, List.set_cons_zero, List.set_cons_succ, i64_w, i32_w]
    rfl
  refine take_ (i := 2) (N := some 14) (v := ?_) (a' := ?_) #[true, true, true, false, false, false] rfl rfl (by kernel_rfl) (fun _ _ _ h => h) (Or.inl ⟨by rfl, ?_⟩) hHeld ?_ ?_
  rotate_left
  · rintro w' ⟨s0, s1⟩
    go_simp
    with_reducible rfl
  rotate_left
  · simp only [Act.put, List.setIfInBounds_toArray, List.set_cons_zero, List.set_cons_succ, i64_w, i32_w]
    rfl
  refine one_ (i := 3) (N := some 15) #[true, true, true, true, false, false] rfl rfl (by kernel_rfl) (by decide) (fun K hK => ?_)
  refine goes_ Try.func14 (by kernel_rfl) rfl #[.int .i64 f] (by rfl) rfl rfl (by simp only [List.map_toArray, List.map_cons, List.map_nil]; rfl) ?_
  with_reducible refine (calc_Args.calls 1 f _ _ (args_f f)).mono ?_
  rintro e w2 ⟨rfl, ⟨nd3, rfl⟩⟩
  refine ⟨_, rfl, ?_⟩
  have n0_ := Aside0.mk (AI.drewN HI.out.drew nd3)
  clear HI
  have HI := n0_
  clear n0_
  refine hK.out _ _ ⟨HI.out.o, HI.out.s⟩ (fun hHeld => ?_)
  clear hK K
  refine norm_ (a' := ?_) ?_ ?_
  rotate_left
  · show Act.put _ (some 15) _ = _
    simp only [Act.put, List.setIfInBounds_toArray, List.set_cons_zero, List.set_cons_succ, i64_w, i32_w]
    rfl
  refine pure_ (i := 4) (N := some 16) (v := ?_) (a' := ?_) #[true, true, true, true, true, false] rfl rfl (by kernel_rfl) (fun _ _ _ h => h) (Or.inl ⟨by rfl, ?_⟩) ?_ ?_
  rotate_left
  · intro w'
    go_simp
    with_reducible rfl
  rotate_left
  · simp only [Act.put, List.setIfInBounds_toArray, List.set_cons_zero, List.set_cons_succ, i64_w, i32_w]
    rfl
  refine one_ (i := 5) (N := some 17) #[true, true, true, true, true, true] rfl rfl (by kernel_rfl) (by decide) (fun K hK => ?_)
  refine goes_ Try.func30 (by kernel_rfl) rfl #[.bool true, .int .i64 37] (by rfl) rfl rfl (by simp only [List.map_toArray, List.map_cons, List.map_nil]; rfl) ?_
  with_reducible refine (calc_check.yes _ _).mono ?_
  rintro e w2 ⟨rfl, rfl⟩
  refine ⟨_, rfl, ?_⟩
  refine hK.out _ _ ⟨HI.out.o, HI.out.s⟩ (fun hHeld => ?_)
  clear hK K
  refine norm_ (a' := ?_) ?_ ?_
  rotate_left
  · show Act.put _ (some 17) _ = _
    simp only [Act.put, List.setIfInBounds_toArray, List.set_cons_zero, List.set_cons_succ, i64_w, i32_w]
    rfl
  refine done_ (by kernel_rfl) ?_
  refine at_exit (fun w' => AI f l (some ad) c b0 b1 W w') HI.out (fun w3 hI => ?_)
  clear HI
  have HI := Aside0.mk hI
  clear hI
  have hcF := HI.out.o
  go_wp2_with fail
  refine at_world (fun w' => AI f l (some ad) c b0 b1 W w') (by repeat (first | exact HI.out | refine AI.drewN ?_ _ | refine AI.drew ?_)) (fun w4 hI => ?_)
  clear HI hcF
  have HI := Aside0.mk hI
  clear hI
  have HB := Aside0.mk HI.out.drew
  clear HI
  have HI := HB
  refine start_ (n := 10) (S := fun w' => w'.cell? ⟨b1, 0, none⟩ = some (.slice (some ad) l.length c) ∧ w'.cell? ad = some (.int .i64 (rd_T25 l 0).f0) ∧ w'.cell? ⟨ad.block, ad.off + 1, none⟩ = some (.int .i64 (rd_T25 l 0).f1) ∧ w'.cell? ⟨ad.block, ad.off + 2, none⟩ = some (.string (rd_T25 l 0).f2) ∧ w'.cell? ⟨ad.block, ad.off + 3, none⟩ = some (.int .i64 (rd_T25 l 1).f0) ∧ w'.cell? ⟨ad.block, ad.off + 3 + 1, none⟩ = some (.int .i64 (rd_T25 l 1).f1) ∧ w'.cell? ⟨ad.block, ad.off + 3 + 2, none⟩ = some (.string (rd_T25 l 1).f2)) (ds := [9]) #[false, false, false, false, false, false, false, false, false, false] (by kernel_rfl) rfl rfl ⟨(HB.out).s, ((HB.out).at0 HL.out.1).1, ((HB.out).at0 HL.out.1).2.1, ((HB.out).at0 HL.out.1).2.2, ((HB.out).at1 HL.out.2).1, ((HB.out).at1 HL.out.2).2.1, ((HB.out).at1 HL.out.2).2.2⟩ (fun hHeld => ?_)
  refine take_ (i := 0) (N := some 20) (v := ?_) (a' := ?_) #[true, false, false, false, false, false, false, false, false, false] rfl rfl (by kernel_rfl) (fun _ _ _ h => h) (Or.inl ⟨by rfl, ?_⟩) hHeld ?_ ?_
  rotate_left
  · rintro w' ⟨s0, s1, s2, s3, s4, s5, s6⟩
    go_simp
    with_reducible rfl
  rotate_left
  · simp only [Act.put, List.setIfInBounds_toArray, List.set_cons_zero, List.set_cons_succ, i64_w, i32_w]
    rfl
  refine pure_ (i := 1) (N := some 21) (v := ?_) (a' := ?_) #[true, true, false, false, false, false, false, false, false, false] rfl rfl (by kernel_rfl) (fun _ _ _ h => h) (Or.inl ⟨by rfl, ?_⟩) ?_ ?_
  rotate_left
  · intro w'
    go_simp
    with_reducible rfl
  rotate_left
  · simp only [Act.put, List.setIfInBounds_toArray, List.set_cons_zero, List.set_cons_succ, i64_w, i32_w]
    rfl
  refine take_ (i := 2) (N := some 22) (v := ?_) (a' := ?_) #[true, true, true, false, false, false, false, false, false, false] rfl rfl (by kernel_rfl) (fun _ _ _ h => h) (Or.inl ⟨by rfl, ?_⟩) hHeld ?_ ?_
  rotate_left
  · rintro w' ⟨s0, s1, s2, s3, s4, s5, s6⟩
    go_simp
    with_reducible rfl
  rotate_left
  · simp only [Act.put, List.setIfInBounds_toArray, List.set_cons_zero, List.set_cons_succ, i64_w, i32_w]
    rfl
  refine take_ (i := 3) (N := some 23) (v := ?_) (a' := ?_) #[true, true, true, true, false, false, false, false, false, false] rfl rfl (by kernel_rfl) (fun _ _ _ h => h) (Or.inl ⟨by rfl, ?_⟩) hHeld ?_ ?_
  rotate_left
  · rintro w' ⟨s0, s1, s2, s3, s4, s5, s6⟩
    go_simp
    with_reducible rfl
  rotate_left
  · simp only [Act.put, List.setIfInBounds_toArray, List.set_cons_zero, List.set_cons_succ, i64_w, i32_w]
    rfl
  refine pure_ (i := 4) (N := some 24) (v := ?_) (a' := ?_) #[true, true, true, true, true, false, false, false, false, false] rfl rfl (by kernel_rfl) (fun _ _ _ h => h) (Or.inl ⟨by rfl, ?_⟩) ?_ ?_
  rotate_left
  · intro w'
    go_simp
    with_reducible rfl
  rotate_left
  · simp only [Act.put, List.setIfInBounds_toArray, List.set_cons_zero, List.set_cons_succ, i64_w, i32_w]
    rfl
  refine take_ (i := 5) (N := some 25) (v := ?_) (a' := ?_) #[true, true, true, true, true, true, false, false, false, false] rfl rfl (by kernel_rfl) (fun _ _ _ h => h) (Or.inl ⟨by rfl, ?_⟩) hHeld ?_ ?_
  rotate_left
  · rintro w' ⟨s0, s1, s2, s3, s4, s5, s6⟩
    go_simp
    with_reducible rfl
  rotate_left
  · simp only [Act.put, List.setIfInBounds_toArray, List.set_cons_zero, List.set_cons_succ, i64_w, i32_w]
    rfl
  refine join_ (σ := Nat × Nat) 2 #[true, true, true, true, true, true, true, true, false, false] (fun s => [(3, .pointer (some ⟨s.1, 0, none⟩)), (4, .pointer (some ⟨s.2, 0, none⟩))]) (fun s w' => AJ f l (some ad) c b0 b1 W zeroV zeroV s.1 s.2 w') ?_ ?_
  rotate_left
  · intro hCont
    refine two_ (i := 6) (j := 7) (Ni := some 3) (Nj := some 4) #[true, true, true, true, true, true, true, false, false, false] #[true, true, true, true, true, true, false, true, false, false] rfl rfl rfl rfl (by kernel_rfl) (by decide) (by decide) (fun K hK => ?_) (fun K hK => ?_)
    · skip
      refine value_ (w1 := ?_) (v := ?_) (by rfl) rfl ?_ ?_
      rotate_left 2
      · go_simp
        constructor
        · rfl
        · rfl
      have n0_ := Aside0.mk (AI.alloc HI.out (.cells #[.int .i64 0, .int .i64 0, .string (⟨#[]⟩ : ByteArray)] 25))
      clear HI
      have HI := n0_
      clear n0_
      refine hK.out _ _ ⟨(HI.out).s, ((HI.out).at0 HL.out.1).1, ((HI.out).at0 HL.out.1).2.1, ((HI.out).at0 HL.out.1).2.2, ((HI.out).at1 HL.out.2).1, ((HI.out).at1 HL.out.2).2.1, ((HI.out).at1 HL.out.2).2.2⟩ (fun hHeld => ?_)
      clear hK K
      refine norm_ (a' := ?_) ?_ ?_
      rotate_left
      · show Act.put _ (some 3) _ = _
        simp only [Act.put, List.setIfInBounds_toArray, List.set_cons_zero, List.set_cons_succ, i64_w, i32_w]
        rfl
      refine one_ (i := 7) (N := some 4) #[true, true, true, true, true, true, true, true, false, false] rfl rfl (by kernel_rfl) (by decide) (fun K hK => ?_)
      refine value_ (w1 := ?_) (v := ?_) (by rfl) rfl ?_ ?_
      rotate_left 2
      · go_simp
        constructor
        · rfl
        · rfl
      have n0_ := Aside0.mk (AI.alloc HI.out (.cells #[.int .i64 0, .int .i64 0, .string (⟨#[]⟩ : ByteArray)] 25))
      clear HI
      have HI := n0_
      clear n0_
      refine hK.out _ _ ⟨(HI.out).s, ((HI.out).at0 HL.out.1).1, ((HI.out).at0 HL.out.1).2.1, ((HI.out).at0 HL.out.1).2.2, ((HI.out).at1 HL.out.2).1, ((HI.out).at1 HL.out.2).2.1, ((HI.out).at1 HL.out.2).2.2⟩ (fun hHeld => ?_)
      clear hK K
      refine norm_ (a' := ?_) ?_ ?_
      rotate_left
      · show Act.put _ (some 4) _ = _
        simp only [Act.put, List.setIfInBounds_toArray, List.set_cons_zero, List.set_cons_succ, i64_w, i32_w]
        rfl
      exact norm_ (by first | (simp only [putAll, Act.put, List.setIfInBounds_toArray, List.set_cons_zero, List.set_cons_succ]; done) | (simp only [putAll, Act.put, List.setIfInBounds_toArray, List.set_cons_zero, List.set_cons_succ]; rfl)) (hCont (_, _) _ (AJ.two HB.out))
    · skip
      refine value_ (w1 := ?_) (v := ?_) (by rfl) rfl ?_ ?_
      rotate_left 2
      · go_simp
        constructor
        · rfl
        · rfl
      have n0_ := Aside0.mk (AI.alloc HI.out (.cells #[.int .i64 0, .int .i64 0, .string (⟨#[]⟩ : ByteArray)] 25))
      clear HI
      have HI := n0_
      clear n0_
      refine hK.out _ _ ⟨(HI.out).s, ((HI.out).at0 HL.out.1).1, ((HI.out).at0 HL.out.1).2.1, ((HI.out).at0 HL.out.1).2.2, ((HI.out).at1 HL.out.2).1, ((HI.out).at1 HL.out.2).2.1, ((HI.out).at1 HL.out.2).2.2⟩ (fun hHeld => ?_)
      clear hK K
      refine norm_ (a' := ?_) ?_ ?_
      rotate_left
      · show Act.put _ (some 4) _ = _
        simp only [Act.put, List.setIfInBounds_toArray, List.set_cons_zero, List.set_cons_succ, i64_w, i32_w]
        rfl
      refine one_ (i := 6) (N := some 3) #[true, true, true, true, true, true, true, true, false, false] rfl rfl (by kernel_rfl) (by decide) (fun K hK => ?_)
      refine value_ (w1 := ?_) (v := ?_) (by rfl) rfl ?_ ?_
      rotate_left 2
      · go_simp
        constructor
        · rfl
        · rfl
      have n0_ := Aside0.mk (AI.alloc HI.out (.cells #[.int .i64 0, .int .i64 0, .string (⟨#[]⟩ : ByteArray)] 25))
      clear HI
      have HI := n0_
      clear n0_
      refine hK.out _ _ ⟨(HI.out).s, ((HI.out).at0 HL.out.1).1, ((HI.out).at0 HL.out.1).2.1, ((HI.out).at0 HL.out.1).2.2, ((HI.out).at1 HL.out.2).1, ((HI.out).at1 HL.out.2).2.1, ((HI.out).at1 HL.out.2).2.2⟩ (fun hHeld => ?_)
      clear hK K
      refine norm_ (a' := ?_) ?_ ?_
      rotate_left
      · show Act.put _ (some 3) _ = _
        simp only [Act.put, List.setIfInBounds_toArray, List.set_cons_zero, List.set_cons_succ, i64_w, i32_w]
        rfl
      exact norm_ (by first | (simp only [putAll, Act.put, List.setIfInBounds_toArray, List.set_cons_zero, List.set_cons_succ]; done) | (simp only [putAll, Act.put, List.setIfInBounds_toArray, List.set_cons_zero, List.set_cons_succ]; rfl)) (hCont (_, _) _ (AJ.swap (AJ.two HB.out)))
  rintro ⟨b3, b4⟩ w5 hJ
  have HJ := Aside0.mk hJ
  clear hJ
  have HI := Aside0.mk HJ.out.1
  have hHeld := HI.out
  replace hHeld := (⟨(HI.out).s, ((HI.out).at0 HL.out.1).1, ((HI.out).at0 HL.out.1).2.1, ((HI.out).at0 HL.out.1).2.2, ((HI.out).at1 HL.out.2).1, ((HI.out).at1 HL.out.2).2.1, ((HI.out).at1 HL.out.2).2.2⟩ : (w5.cell? ⟨b1, 0, none⟩ = some (.slice (some ad) l.length c) ∧ w5.cell? ad = some (.int .i64 (rd_T25 l 0).f0) ∧ w5.cell? ⟨ad.block, ad.off + 1, none⟩ = some (.int .i64 (rd_T25 l 0).f1) ∧ w5.cell? ⟨ad.block, ad.off + 2, none⟩ = some (.string (rd_T25 l 0).f2) ∧ w5.cell? ⟨ad.block, ad.off + 3, none⟩ = some (.int .i64 (rd_T25 l 1).f0) ∧ w5.cell? ⟨ad.block, ad.off + 3 + 1, none⟩ = some (.int .i64 (rd_T25 l 1).f1) ∧ w5.cell? ⟨ad.block, ad.off + 3 + 2, none⟩ = some (.string (rd_T25 l 1).f2)))
  have hne : ¬ b3 = b4 := HJ.out.2.2.2.1
  have hne' : ¬ b4 = b3 := fun e => hne e.symm
  have ga0 : World.cell? _ ⟨b3, 0, none⟩ = some (.int .i64 0) := (blk_cell HJ.out.2.2.2.2.1 0).trans rfl
  have ga1 : World.cell? _ ⟨b3, 1, none⟩ = some (.int .i64 0) := (blk_cell HJ.out.2.2.2.2.1 1).trans rfl
  have ga2 : World.cell? _ ⟨b3, 2, none⟩ = some (.string (⟨#[]⟩ : ByteArray)) := (blk_cell HJ.out.2.2.2.2.1 2).trans rfl
  have gaf0 := blk_frozen HJ.out.2.2.2.2.1 0
  have gaf1 := blk_frozen HJ.out.2.2.2.2.1 1
  have gaf2 := blk_frozen HJ.out.2.2.2.2.1 2
  refine norm_ (a' := ?_) ?_ ?_
  rotate_left
  · simp only [putAll, Act.put, List.setIfInBounds_toArray, List.set_cons_zero, List.set_cons_succ]
    rfl
  refine one_ (i := 8) (N := none) #[true, true, true, true, true, true, true, true, true, false] rfl rfl (by kernel_rfl) (by decide) (fun K hK => ?_)
  refine skip_ (w1 := ?_) (by rfl) rfl ?_ ?_
  rotate_left
  · go_simp
    rfl
  have J2 := Aside0.mk (AJ.first (u' := (rd_T25 l 0)) HJ.out)
  clear HJ HI ga0 ga1 ga2 gaf0 gaf1 gaf2
  have HJ := J2
  clear J2
  have HI := Aside0.mk HJ.out.1
  have gb0 : World.cell? _ ⟨b4, 0, none⟩ = some (.int .i64 0) := (blk_cell HJ.out.2.2.2.2.2 0).trans rfl
  have gb1 : World.cell? _ ⟨b4, 1, none⟩ = some (.int .i64 0) := (blk_cell HJ.out.2.2.2.2.2 1).trans rfl
  have gb2 : World.cell? _ ⟨b4, 2, none⟩ = some (.string (⟨#[]⟩ : ByteArray)) := (blk_cell HJ.out.2.2.2.2.2 2).trans rfl
  have gbf0 := blk_frozen HJ.out.2.2.2.2.2 0
  have gbf1 := blk_frozen HJ.out.2.2.2.2.2 1
  have gbf2 := blk_frozen HJ.out.2.2.2.2.2 2
  refine hK.out _ _ ⟨(HI.out).s, ((HI.out).at0 HL.out.1).1, ((HI.out).at0 HL.out.1).2.1, ((HI.out).at0 HL.out.1).2.2, ((HI.out).at1 HL.out.2).1, ((HI.out).at1 HL.out.2).2.1, ((HI.out).at1 HL.out.2).2.2⟩ (fun hHeld => ?_)
  clear hK K
  refine last_ (i := 9) (N := none) #[true, true, true, true, true, true, true, true, true, true] rfl rfl (by kernel_rfl) (by decide) (fun K hK => ?_)
  refine skip_ (w1 := ?_) (by rfl) rfl ?_ ?_
  rotate_left
  · go_simp
    rfl
  have J2 := Aside0.mk (AJ.second (v' := (rd_T25 l 1)) HJ.out)
  clear HJ HI gb0 gb1 gb2 gbf0 gbf1 gbf2 hne hne'
  have HJ := J2
  clear J2
  refine hK.out _ _ ?_
  clear hK K
  refine done_ (by kernel_rfl) ?_
  refine at_exit (fun w' => AJ f l (some ad) c b0 b1 W (rd_T25 l 0) (rd_T25 l 1) b3 b4 w') HJ.out (fun w6 hJ => ?_)
  clear HJ
  have HJ := Aside0.mk hJ
  clear hJ
  have ga0 : World.cell? _ ⟨b3, 0, none⟩ = some (.int .i64 (rd_T25 l 0).f0) := (blk_cell HJ.out.2.2.2.2.1 0).trans rfl
  have ga1 : World.cell? _ ⟨b3, 1, none⟩ = some (.int .i64 (rd_T25 l 0).f1) := (blk_cell HJ.out.2.2.2.2.1 1).trans rfl
  have ga2 : World.cell? _ ⟨b3, 2, none⟩ = some (.string (rd_T25 l 0).f2) := (blk_cell HJ.out.2.2.2.2.1 2).trans rfl
  have gaf0 := blk_frozen HJ.out.2.2.2.2.1 0
  have gaf1 := blk_frozen HJ.out.2.2.2.2.1 1
  have gaf2 := blk_frozen HJ.out.2.2.2.2.1 2
  have gb0 : World.cell? _ ⟨b4, 0, none⟩ = some (.int .i64 (rd_T25 l 1).f0) := (blk_cell HJ.out.2.2.2.2.2 0).trans rfl
  have gb1 : World.cell? _ ⟨b4, 1, none⟩ = some (.int .i64 (rd_T25 l 1).f1) := (blk_cell HJ.out.2.2.2.2.2 1).trans rfl
  have gb2 : World.cell? _ ⟨b4, 2, none⟩ = some (.string (rd_T25 l 1).f2) := (blk_cell HJ.out.2.2.2.2.2 2).trans rfl
  have gbf0 := blk_frozen HJ.out.2.2.2.2.2 0
  have gbf1 := blk_frozen HJ.out.2.2.2.2.2 1
  have gbf2 := blk_frozen HJ.out.2.2.2.2.2 2
  have gz0 : World.cell? _ ⟨W.heap.size, 0, none⟩ = some (.int .i64 0) := (blk_cell HJ.out.1.z 0).trans rfl
  have gz1 : World.cell? _ ⟨W.heap.size, 1, none⟩ = some (.int .i64 0) := (blk_cell HJ.out.1.z 1).trans rfl
  have gz2 : World.cell? _ ⟨W.heap.size, 2, none⟩ = some (.string (⟨#[]⟩ : ByteArray)) := (blk_cell HJ.out.1.z 2).trans rfl
  have gzf0 := blk_frozen HJ.out.1.z 0
  have gzf1 := blk_frozen HJ.out.1.z 1
  have gzf2 := blk_frozen HJ.out.1.z 2
  go_wp2_with (first | (go_at_call 14; (with_reducible refine (calc_Args.calls 1 f _ _ (args_f f)).mono ?_); rintro e w' ⟨rfl, ⟨nd, rfl⟩⟩) | (go_at_call 30; (with_reducible refine (calc_check.yes _ _).mono ?_); rintro e w' ⟨rfl, rfl⟩) | (go_at_call 30; (with_reducible refine (calc_check.no _ _).mono ?_); rintro e w' ⟨rfl, rfl⟩))
  refine bodyPost_ret (v := encV (rd_T25 l 1)) (by simp [results, Try.results29, go_sem, encV, gz0, gz1, gz2]) rfl ⟨rfl, ?_⟩
  exact below_set3 HJ.out.1.bel (Nat.le_refl W.heap.size) _ _ _ _ _ _
set_option maxHeartbeats 2000000 in
set_option maxRecDepth 100000 in
theorem calc_Call1.one4 (f : Int) (l : List S25) (ad : Addr) (c b0 b1 : Nat) (W : World) (h0 : W.heap[b0]? = some (.cells #[.int .i64 f] 3 (0, 0))) (h1 : W.heap[b1]? = some (.cells #[.slice (some ad) l.length c] 22 (0, 0))) (hr : Kd.C k25 W (some ad) l.length l) (l0 : 0 < argsN f) (lc : (l.length : Int) = argsN f) (l2 : l.length = 2) (f6 : f = 6) (eq : ¬ (rd_T25 l 0).f0 = (rd_T25 l 1).f0) (a0 : ¬ (rd_T25 l 0).f0 = 0) (z0 : (rd_T25 l 1).f0 = 0) :
    Calls Try.prog 29 #[.pointer (some ⟨b0, 0, none⟩), .pointer (some ⟨b1, 0, none⟩)] W (fun e w' => RE (.ok (rd_T25 l 0)) e ∧ Below W.heap.size W w') := by
  have hu25 := Try.underlying25
  have n0 : ¬ b0 = W.heap.size := by have := blk_lt h0; omega
  have n1 : ¬ b1 = W.heap.size := by have := blk_lt h1; omega
  have HS := Aside0.mk (AI.start h0 h1 hr)
  clear h0 h1 hr
  have hcF := HS.out.o
  have hcA := HS.out.s
  have HL := Aside0.mk (show 0 < l.length ∧ 1 < l.length by omega)
  have hL0 : (0 < l.length) = True := eq_true HL.out.1
  have hL1 : (1 < l.length) = True := eq_true HL.out.2
  have hD0 : decide (0 < l.length) = true := decide_eq_true HL.out.1
  have hD1 : decide (1 < l.length) = true := decide_eq_true HL.out.2
  have hI0 : (0 < (l.length : Int)) = True := eq_true (by have := HL.out.1; omega)
  have hI1 : (1 < (l.length : Int)) = True := eq_true (by have := HL.out.2; omega)
  have hE0 : decide (0 < (l.length : Int)) = true := decide_eq_true (by have := HL.out.1; omega)
  have hE1 : decide (1 < (l.length : Int)) = true := decide_eq_true (by have := HL.out.2; omega)
  have q0 : decide (0 < argsN f) = true := decide_eq_true l0
  have q1 : ((l.length : Int) == argsN f) = true := beq_iff_eq.mpr lc
  have q2 : (f == 6) = true := beq_iff_eq.mpr f6
  have q3 : ((rd_T25 l 0).f0 == (rd_T25 l 1).f0) = false := beq_eq_false_iff_ne.mpr eq
  have q4 : ((rd_T25 l 0).f0 == 0) = false := beq_eq_false_iff_ne.mpr a0
  have q5 : ((rd_T25 l 1).f0 == 0) = true := beq_iff_eq.mpr z0
  have l0' := Aside0.mk l0
  have lc' := Aside0.mk lc
  have l2' := Aside0.mk l2
  have f6' := Aside0.mk f6
  have eq' := Aside0.mk eq
  have a0' := Aside0.mk a0
  have z0' := Aside0.mk z0
  clear l0 lc l2 f6 eq a0 z0
  go_enter Try.func29, Try.ntmps29
  go_wp2_with (first | (go_at_call 14; (with_reducible refine (calc_Args.calls 1 f _ _ (args_f f)).mono ?_); rintro e w' ⟨rfl, ⟨nd, rfl⟩⟩) | (go_at_call 30; (with_reducible refine (calc_check.yes _ _).mono ?_); rintro e w' ⟨rfl, rfl⟩) | (go_at_call 30; (with_reducible refine (calc_check.no _ _).mono ?_); rintro e w' ⟨rfl, rfl⟩))
  refine at_world (fun w' => AI f l (some ad) c b0 b1 W w') (by repeat (first | exact HS.out | refine AI.drewN ?_ _ | refine AI.drew ?_)) (fun w1 hI => ?_)
  have HI := Aside0.mk hI
  clear hI hcF hcA
  refine start_ (n := 6) (S := fun w' => w'.cell? ⟨b0, 0, none⟩ = some (.int .i64 f) ∧ w'.cell? ⟨b1, 0, none⟩ = some (.slice (some ad) l.length c)) (ds := []) #[false, false, false, false, false, false] (by kernel_rfl) rfl rfl ⟨HI.out.drew.o, HI.out.drew.s⟩ (fun hHeld => ?_)
  refine take_ (i := 0) (N := some 12) (v := ?_) (a' := ?_) #[true, false, false, false, false, false] rfl rfl (by kernel_rfl) (fun _ _ _ h => h) (Or.inl ⟨by rfl, ?_⟩) hHeld ?_ ?_
  rotate_left
  · rintro w' ⟨s0, s1⟩
    go_simp
    with_reducible rfl
  rotate_left
  · simp only [Act.put, List.setIfInBounds_toArray, List.set_cons_zero, List.set_cons_succ, i64_w, i32_w]
    rfl
  refine pure_ (i := 1) (N := some 13) (v := ?_) (a' := ?_) #[true, true, false, false, false, false] rfl rfl (by kernel_rfl) (fun _ _ _ h => h) (Or.inl ⟨by rfl, ?_⟩) ?_ ?_
  rotate_left
  · intro w'
    go_simp
    with_reducible rfl
  rotate_left
  · simp only [Act.put, List.setIfInBounds_toArray, List.set_cons_zero, List.set_cons_succ, i64_w, i32_w]
    rfl
  refine take_ (i := 2) (N := some 14) (v := ?_) (a' := ?_) #[true, true, true, false, false, false] rfl rfl (by kernel_rfl) (fun _ _ _ h => h) (Or.inl ⟨by rfl, ?_⟩) hHeld ?_ ?_
  rotate_left
  · rintro w' ⟨s0, s1⟩
    go_simp
    with_reducible rfl
  rotate_left
  · simp only [Act.put, List.setIfInBounds_toArray, List.set_cons_zero, List.set_cons_succ, i64_w, i32_w]
    rfl
  refine one_ (i := 3) (N := some 15) #[true, true, true, true, false, false] rfl rfl (by kernel_rfl) (by decide) (fun K hK => ?_)
  refine goes_ Try.func14 (by kernel_rfl) rfl #[.int .i64 f] (by rfl) rfl rfl (by simp only [List.map_toArray, List.map_cons, List.map_nil]; rfl) ?_
  with_reducible refine (calc_Args.calls 1 f _ _ (args_f f)).mono ?_
  rintro e w2 ⟨rfl, ⟨nd3, rfl⟩⟩
  refine ⟨_, rfl, ?_⟩
  have n0_ := Aside0.mk (AI.drewN HI.out.drew nd3)
  clear HI
  have HI := n0_
  clear n0_
  refine hK.out _ _ ⟨HI.out.o, HI.out.s⟩ (fun hHeld => ?_)
  clear hK K
  refine norm_ (a' := ?_) ?_ ?_
  rotate_left
  · show Act.put _ (some 15) _ = _
    simp only [Act.put, List.setIfInBounds_toArray, List.set_cons_zero, List.set_cons_succ, i64_w, i32_w]
    rfl
  refine pure_ (i := 4) (N := some 16) (v := ?_) (a' := ?_) #[true, true, true, true, true, false] rfl rfl (by kernel_rfl) (fun _ _ _ h => h) (Or.inl ⟨by rfl, ?_⟩) ?_ ?_
  rotate_left
  · intro w'
    go_simp
    with_reducible rfl
  rotate_left
  · simp only [Act.put, List.setIfInBounds_toArray, List.set_cons_zero, List.set_cons_succ, i64_w, i32_w]
    rfl
  refine one_ (i := 5) (N := some 17) #[true, true, true, true, true, true] rfl rfl (by kernel_rfl) (by decide) (fun K hK => ?_)
  refine goes_ Try.func30 (by kernel_rfl) rfl #[.bool true, .int .i64 37] (by rfl) rfl rfl (by simp only [List.map_toArray, List.map_cons, List.map_nil]; rfl) ?_
  with_reducible refine (calc_check.yes _ _).mono ?_
  rintro e w2 ⟨rfl, rfl⟩
  refine ⟨_, rfl, ?_⟩
  refine hK.out _ _ ⟨HI.out.o, HI.out.s⟩ (fun hHeld => ?_)
  clear hK K
  refine norm_ (a' := ?_) ?_ ?_
  rotate_left
  · show Act.put _ (some 17) _ = _
    simp only [Act.put, List.setIfInBounds_toArray, List.set_cons_zero, List.set_cons_succ, i64_w, i32_w]
    rfl
  refine done_ (by kernel_rfl) ?_
  refine at_exit (fun w' => AI f l (some ad) c b0 b1 W w') HI.out (fun w3 hI => ?_)
  clear HI
  have HI := Aside0.mk hI
  clear hI
  have hcF := HI.out.o
  go_wp2_with fail
  refine at_world (fun w' => AI f l (some ad) c b0 b1 W w') (by repeat (first | exact HI.out | refine AI.drewN ?_ _ | refine AI.drew ?_)) (fun w4 hI => ?_)
  clear HI hcF
  have HI := Aside0.mk hI
  clear hI
  have HB := Aside0.mk HI.out.drew
  clear HI
  have HI := HB
  refine start_ (n := 10) (S := fun w' => w'.cell? ⟨b1, 0, none⟩ = some (.slice (some ad) l.length c) ∧ w'.cell? ad = some (.int .i64 (rd_T25 l 0).f0) ∧ w'.cell? ⟨ad.block, ad.off + 1, none⟩ = some (.int .i64 (rd_T25 l 0).f1) ∧ w'.cell? ⟨ad.block, ad.off + 2, none⟩ = some (.string (rd_T25 l 0).f2) ∧ w'.cell? ⟨ad.block, ad.off + 3, none⟩ = some (.int .i64 (rd_T25 l 1).f0) ∧ w'.cell? ⟨ad.block, ad.off + 3 + 1, none⟩ = some (.int .i64 (rd_T25 l 1).f1) ∧ w'.cell? ⟨ad.block, ad.off + 3 + 2, none⟩ = some (.string (rd_T25 l 1).f2)) (ds := [9]) #[false, false, false, false, false, false, false, false, false, false] (by kernel_rfl) rfl rfl ⟨(HB.out).s, ((HB.out).at0 HL.out.1).1, ((HB.out).at0 HL.out.1).2.1, ((HB.out).at0 HL.out.1).2.2, ((HB.out).at1 HL.out.2).1, ((HB.out).at1 HL.out.2).2.1, ((HB.out).at1 HL.out.2).2.2⟩ (fun hHeld => ?_)
  refine take_ (i := 0) (N := some 20) (v := ?_) (a' := ?_) #[true, false, false, false, false, false, false, false, false, false] rfl rfl (by kernel_rfl) (fun _ _ _ h => h) (Or.inl ⟨by rfl, ?_⟩) hHeld ?_ ?_
  rotate_left
  · rintro w' ⟨s0, s1, s2, s3, s4, s5, s6⟩
    go_simp
    with_reducible rfl
  rotate_left
  · simp only [Act.put, List.setIfInBounds_toArray, List.set_cons_zero, List.set_cons_succ, i64_w, i32_w]
    rfl
  refine pure_ (i := 1) (N := some 21) (v := ?_) (a' := ?_) #[true, true, false, false, false, false, false, false, false, false] rfl rfl (by kernel_rfl) (fun _ _ _ h => h) (Or.inl ⟨by rfl, ?_⟩) ?_ ?_
  rotate_left
  · intro w'
    go_simp
    with_reducible rfl
  rotate_left
  · simp only [Act.put, List.setIfInBounds_toArray, List.set_cons_zero, List.set_cons_succ, i64_w, i32_w]
    rfl
  refine take_ (i := 2) (N := some 22) (v := ?_) (a' := ?_) #[true, true, true, false, false, false, false, false, false, false] rfl rfl (by kernel_rfl) (fun _ _ _ h => h) (Or.inl ⟨by rfl, ?_⟩) hHeld ?_ ?_
  rotate_left
  · rintro w' ⟨s0, s1, s2, s3, s4, s5, s6⟩
    go_simp
    with_reducible rfl
  rotate_left
  · simp only [Act.put, List.setIfInBounds_toArray, List.set_cons_zero, List.set_cons_succ, i64_w, i32_w]
    rfl
  refine take_ (i := 3) (N := some 23) (v := ?_) (a' := ?_) #[true, true, true, true, false, false, false, false, false, false] rfl rfl (by kernel_rfl) (fun _ _ _ h => h) (Or.inl ⟨by rfl, ?_⟩) hHeld ?_ ?_
  rotate_left
  · rintro w' ⟨s0, s1, s2, s3, s4, s5, s6⟩
    go_simp
    with_reducible rfl
  rotate_left
  · simp only [Act.put, List.setIfInBounds_toArray, List.set_cons_zero, List.set_cons_succ, i64_w, i32_w]
    rfl
  refine pure_ (i := 4) (N := some 24) (v := ?_) (a' := ?_) #[true, true, true, true, true, false, false, false, false, false] rfl rfl (by kernel_rfl) (fun _ _ _ h => h) (Or.inl ⟨by rfl, ?_⟩) ?_ ?_
  rotate_left
  · intro w'
    go_simp
    with_reducible rfl
  rotate_left
  · simp only [Act.put, List.setIfInBounds_toArray, List.set_cons_zero, List.set_cons_succ, i64_w, i32_w]
    rfl
  refine take_ (i := 5) (N := some 25) (v := ?_) (a' := ?_) #[true, true, true, true, true, true, false, false, false, false] rfl rfl (by kernel_rfl) (fun _ _ _ h => h) (Or.inl ⟨by rfl, ?_⟩) hHeld ?_ ?_
  rotate_left
  · rintro w' ⟨s0, s1, s2, s3, s4, s5, s6⟩
    go_simp
    with_reducible rfl
  rotate_left
  · simp only [Act.put, List.setIfInBounds_toArray, List.set_cons_zero, List.set_cons_succ, i64_w, i32_w]
    rfl
  refine join_ (σ := Nat × Nat) 2 #[true, true, true, true, true, true, true, true, false, false] (fun s => [(3, .pointer (some ⟨s.1, 0, none⟩)), (4, .pointer (some ⟨s.2, 0, none⟩))]) (fun s w' => AJ f l (some ad) c b0 b1 W zeroV zeroV s.1 s.2 w') ?_ ?_
  rotate_left
  · intro hCont
    refine two_ (i := 6) (j := 7) (Ni := some 3) (Nj := some 4) #[true, true, true, true, true, true, true, false, false, false] #[true, true, true, true, true, true, false, true, false, false] rfl rfl rfl rfl (by kernel_rfl) (by decide) (by decide) (fun K hK => ?_) (fun K hK => ?_)
    · skip
      refine value_ (w1 := ?_) (v := ?_) (by rfl) rfl ?_ ?_
      rotate_left 2
      · go_simp
        constructor
        · rfl
        · rfl
      have n0_ := Aside0.mk (AI.alloc HI.out (.cells #[.int .i64 0, .int .i64 0, .string (⟨#[]⟩ : ByteArray)] 25))
      clear HI
      have HI := n0_
      clear n0_
      refine hK.out _ _ ⟨(HI.out).s, ((HI.out).at0 HL.out.1).1, ((HI.out).at0 HL.out.1).2.1, ((HI.out).at0 HL.out.1).2.2, ((HI.out).at1 HL.out.2).1, ((HI.out).at1 HL.out.2).2.1, ((HI.out).at1 HL.out.2).2.2⟩ (fun hHeld => ?_)
      clear hK K
      refine norm_ (a' := ?_) ?_ ?_
      rotate_left
      · show Act.put _ (some 3) _ = _
        simp only [Act.put, List.setIfInBounds_toArray, List.set_cons_zero, List.set_cons_succ, i64_w, i32_w]
        rfl
      refine one_ (i := 7) (N := some 4) #[true, true, true, true, true, true, true, true, false, false] rfl rfl (by kernel_rfl) (by decide) (fun K hK => ?_)
      refine value_ (w1 := ?_) (v := ?_) (by rfl) rfl ?_ ?_
      rotate_left 2
      · go_simp
        constructor
        · rfl
        · rfl
      have n0_ := Aside0.mk (AI.alloc HI.out (.cells #[.int .i64 0, .int .i64 0, .string (⟨#[]⟩ : ByteArray)] 25))
      clear HI
      have HI := n0_
      clear n0_
      refine hK.out _ _ ⟨(HI.out).s, ((HI.out).at0 HL.out.1).1, ((HI.out).at0 HL.out.1).2.1, ((HI.out).at0 HL.out.1).2.2, ((HI.out).at1 HL.out.2).1, ((HI.out).at1 HL.out.2).2.1, ((HI.out).at1 HL.out.2).2.2⟩ (fun hHeld => ?_)
      clear hK K
      refine norm_ (a' := ?_) ?_ ?_
      rotate_left
      · show Act.put _ (some 4) _ = _
        simp only [Act.put, List.setIfInBounds_toArray, List.set_cons_zero, List.set_cons_succ, i64_w, i32_w]
        rfl
      exact norm_ (by first | (simp only [putAll, Act.put, List.setIfInBounds_toArray, List.set_cons_zero, List.set_cons_succ]; done) | (simp only [putAll, Act.put, List.setIfInBounds_toArray, List.set_cons_zero, List.set_cons_succ]; rfl)) (hCont (_, _) _ (AJ.two HB.out))
    · skip
      refine value_ (w1 := ?_) (v := ?_) (by rfl) rfl ?_ ?_
      rotate_left 2
      · go_simp
        constructor
        · rfl
        · rfl
      have n0_ := Aside0.mk (AI.alloc HI.out (.cells #[.int .i64 0, .int .i64 0, .string (⟨#[]⟩ : ByteArray)] 25))
      clear HI
      have HI := n0_
      clear n0_
      refine hK.out _ _ ⟨(HI.out).s, ((HI.out).at0 HL.out.1).1, ((HI.out).at0 HL.out.1).2.1, ((HI.out).at0 HL.out.1).2.2, ((HI.out).at1 HL.out.2).1, ((HI.out).at1 HL.out.2).2.1, ((HI.out).at1 HL.out.2).2.2⟩ (fun hHeld => ?_)
      clear hK K
      refine norm_ (a' := ?_) ?_ ?_
      rotate_left
      · show Act.put _ (some 4) _ = _
        simp only [Act.put, List.setIfInBounds_toArray, List.set_cons_zero, List.set_cons_succ, i64_w, i32_w]
        rfl
      refine one_ (i := 6) (N := some 3) #[true, true, true, true, true, true, true, true, false, false] rfl rfl (by kernel_rfl) (by decide) (fun K hK => ?_)
      refine value_ (w1 := ?_) (v := ?_) (by rfl) rfl ?_ ?_
      rotate_left 2
      · go_simp
        constructor
        · rfl
        · rfl
      have n0_ := Aside0.mk (AI.alloc HI.out (.cells #[.int .i64 0, .int .i64 0, .string (⟨#[]⟩ : ByteArray)] 25))
      clear HI
      have HI := n0_
      clear n0_
      refine hK.out _ _ ⟨(HI.out).s, ((HI.out).at0 HL.out.1).1, ((HI.out).at0 HL.out.1).2.1, ((HI.out).at0 HL.out.1).2.2, ((HI.out).at1 HL.out.2).1, ((HI.out).at1 HL.out.2).2.1, ((HI.out).at1 HL.out.2).2.2⟩ (fun hHeld => ?_)
      clear hK K
      refine norm_ (a' := ?_) ?_ ?_
      rotate_left
      · show Act.put _ (some 3) _ = _
        simp only [Act.put, List.setIfInBounds_toArray, List.set_cons_zero, List.set_cons_succ, i64_w, i32_w]
        rfl
      exact norm_ (by first | (simp only [putAll, Act.put, List.setIfInBounds_toArray, List.set_cons_zero, List.set_cons_succ]; done) | (simp only [putAll, Act.put, List.setIfInBounds_toArray, List.set_cons_zero, List.set_cons_succ]; rfl)) (hCont (_, _) _ (AJ.swap (AJ.two HB.out)))
  rintro ⟨b3, b4⟩ w5 hJ
  have HJ := Aside0.mk hJ
  clear hJ
  have HI := Aside0.mk HJ.out.1
  have hHeld := HI.out
  replace hHeld := (⟨(HI.out).s, ((HI.out).at0 HL.out.1).1, ((HI.out).at0 HL.out.1).2.1, ((HI.out).at0 HL.out.1).2.2, ((HI.out).at1 HL.out.2).1, ((HI.out).at1 HL.out.2).2.1, ((HI.out).at1 HL.out.2).2.2⟩ : (w5.cell? ⟨b1, 0, none⟩ = some (.slice (some ad) l.length c) ∧ w5.cell? ad = some (.int .i64 (rd_T25 l 0).f0) ∧ w5.cell? ⟨ad.block, ad.off + 1, none⟩ = some (.int .i64 (rd_T25 l 0).f1) ∧ w5.cell? ⟨ad.block, ad.off + 2, none⟩ = some (.string (rd_T25 l 0).f2) ∧ w5.cell? ⟨ad.block, ad.off + 3, none⟩ = some (.int .i64 (rd_T25 l 1).f0) ∧ w5.cell? ⟨ad.block, ad.off + 3 + 1, none⟩ = some (.int .i64 (rd_T25 l 1).f1) ∧ w5.cell? ⟨ad.block, ad.off + 3 + 2, none⟩ = some (.string (rd_T25 l 1).f2)))
  have hne : ¬ b3 = b4 := HJ.out.2.2.2.1
  have hne' : ¬ b4 = b3 := fun e => hne e.symm
  have ga0 : World.cell? _ ⟨b3, 0, none⟩ = some (.int .i64 0) := (blk_cell HJ.out.2.2.2.2.1 0).trans rfl
  have ga1 : World.cell? _ ⟨b3, 1, none⟩ = some (.int .i64 0) := (blk_cell HJ.out.2.2.2.2.1 1).trans rfl
  have ga2 : World.cell? _ ⟨b3, 2, none⟩ = some (.string (⟨#[]⟩ : ByteArray)) := (blk_cell HJ.out.2.2.2.2.1 2).trans rfl
  have gaf0 := blk_frozen HJ.out.2.2.2.2.1 0
  have gaf1 := blk_frozen HJ.out.2.2.2.2.1 1
  have gaf2 := blk_frozen HJ.out.2.2.2.2.1 2
  refine norm_ (a' := ?_) ?_ ?_
  rotate_left
  · simp only [putAll, Act.put, List.setIfInBounds_toArray, List.set_cons_zero, List.set_cons_succ]
    rfl
  refine one_ (i := 8) (N := none) #[true, true, true, true, true, true, true, true, true, false] rfl rfl (by kernel_rfl) (by decide) (fun K hK => ?_)
  refine skip_ (w1 := ?_) (by rfl) rfl ?_ ?_
  rotate_left
  · go_simp
    rfl
  have J2 := Aside0.mk (AJ.first (u' := (rd_T25 l 0)) HJ.out)
  clear HJ HI ga0 ga1 ga2 gaf0 gaf1 gaf2
  have HJ := J2
  clear J2
  have HI := Aside0.mk HJ.out.1
  have gb0 : World.cell? _ ⟨b4, 0, none⟩ = some (.int .i64 0) := (blk_cell HJ.out.2.2.2.2.2 0).trans rfl
  have gb1 : World.cell? _ ⟨b4, 1, none⟩ = some (.int .i64 0) := (blk_cell HJ.out.2.2.2.2.2 1).trans rfl
  have gb2 : World.cell? _ ⟨b4, 2, none⟩ = some (.string (⟨#[]⟩ : ByteArray)) := (blk_cell HJ.out.2.2.2.2.2 2).trans rfl
  have gbf0 := blk_frozen HJ.out.2.2.2.2.2 0
  have gbf1 := blk_frozen HJ.out.2.2.2.2.2 1
  have gbf2 := blk_frozen HJ.out.2.2.2.2.2 2
  refine hK.out _ _ ⟨(HI.out).s, ((HI.out).at0 HL.out.1).1, ((HI.out).at0 HL.out.1).2.1, ((HI.out).at0 HL.out.1).2.2, ((HI.out).at1 HL.out.2).1, ((HI.out).at1 HL.out.2).2.1, ((HI.out).at1 HL.out.2).2.2⟩ (fun hHeld => ?_)
  clear hK K
  refine last_ (i := 9) (N := none) #[true, true, true, true, true, true, true, true, true, true] rfl rfl (by kernel_rfl) (by decide) (fun K hK => ?_)
  refine skip_ (w1 := ?_) (by rfl) rfl ?_ ?_
  rotate_left
  · go_simp
    rfl
  have J2 := Aside0.mk (AJ.second (v' := (rd_T25 l 1)) HJ.out)
  clear HJ HI gb0 gb1 gb2 gbf0 gbf1 gbf2 hne hne'
  have HJ := J2
  clear J2
  refine hK.out _ _ ?_
  clear hK K
  refine done_ (by kernel_rfl) ?_
  refine at_exit (fun w' => AJ f l (some ad) c b0 b1 W (rd_T25 l 0) (rd_T25 l 1) b3 b4 w') HJ.out (fun w6 hJ => ?_)
  clear HJ
  have HJ := Aside0.mk hJ
  clear hJ
  have ga0 : World.cell? _ ⟨b3, 0, none⟩ = some (.int .i64 (rd_T25 l 0).f0) := (blk_cell HJ.out.2.2.2.2.1 0).trans rfl
  have ga1 : World.cell? _ ⟨b3, 1, none⟩ = some (.int .i64 (rd_T25 l 0).f1) := (blk_cell HJ.out.2.2.2.2.1 1).trans rfl
  have ga2 : World.cell? _ ⟨b3, 2, none⟩ = some (.string (rd_T25 l 0).f2) := (blk_cell HJ.out.2.2.2.2.1 2).trans rfl
  have gaf0 := blk_frozen HJ.out.2.2.2.2.1 0
  have gaf1 := blk_frozen HJ.out.2.2.2.2.1 1
  have gaf2 := blk_frozen HJ.out.2.2.2.2.1 2
  have gb0 : World.cell? _ ⟨b4, 0, none⟩ = some (.int .i64 (rd_T25 l 1).f0) := (blk_cell HJ.out.2.2.2.2.2 0).trans rfl
  have gb1 : World.cell? _ ⟨b4, 1, none⟩ = some (.int .i64 (rd_T25 l 1).f1) := (blk_cell HJ.out.2.2.2.2.2 1).trans rfl
  have gb2 : World.cell? _ ⟨b4, 2, none⟩ = some (.string (rd_T25 l 1).f2) := (blk_cell HJ.out.2.2.2.2.2 2).trans rfl
  have gbf0 := blk_frozen HJ.out.2.2.2.2.2 0
  have gbf1 := blk_frozen HJ.out.2.2.2.2.2 1
  have gbf2 := blk_frozen HJ.out.2.2.2.2.2 2
  have gz0 : World.cell? _ ⟨W.heap.size, 0, none⟩ = some (.int .i64 0) := (blk_cell HJ.out.1.z 0).trans rfl
  have gz1 : World.cell? _ ⟨W.heap.size, 1, none⟩ = some (.int .i64 0) := (blk_cell HJ.out.1.z 1).trans rfl
  have gz2 : World.cell? _ ⟨W.heap.size, 2, none⟩ = some (.string (⟨#[]⟩ : ByteArray)) := (blk_cell HJ.out.1.z 2).trans rfl
  have gzf0 := blk_frozen HJ.out.1.z 0
  have gzf1 := blk_frozen HJ.out.1.z 1
  have gzf2 := blk_frozen HJ.out.1.z 2
  go_wp2_with (first | (go_at_call 14; (with_reducible refine (calc_Args.calls 1 f _ _ (args_f f)).mono ?_); rintro e w' ⟨rfl, ⟨nd, rfl⟩⟩) | (go_at_call 30; (with_reducible refine (calc_check.yes _ _).mono ?_); rintro e w' ⟨rfl, rfl⟩) | (go_at_call 30; (with_reducible refine (calc_check.no _ _).mono ?_); rintro e w' ⟨rfl, rfl⟩))
  refine bodyPost_ret (v := encV (rd_T25 l 0)) (by simp [results, Try.results29, go_sem, encV, gz0, gz1, gz2]) rfl ⟨rfl, ?_⟩
  exact below_set3 HJ.out.1.bel (Nat.le_refl W.heap.size) _ _ _ _ _ _
set_option maxHeartbeats 2000000 in
set_option maxRecDepth 100000 in
theorem calc_Call1.one5 (f : Int) (l : List S25) (ad : Addr) (c b0 b1 : Nat) (W : World) (h0 : W.heap[b0]? = some (.cells #[.int .i64 f] 3 (0, 0))) (h1 : W.heap[b1]? = some (.cells #[.slice (some ad) l.length c] 22 (0, 0))) (hr : Kd.C k25 W (some ad) l.length l) (l0 : 0 < argsN f) (lc : (l.length : Int) = argsN f) (l2 : l.length = 2) (f6 : f = 6) (eq : ¬ (rd_T25 l 0).f0 = (rd_T25 l 1).f0) (a0 : ¬ (rd_T25 l 0).f0 = 0) (z0 : ¬ (rd_T25 l 1).f0 = 0) :
    Calls Try.prog 29 #[.pointer (some ⟨b0, 0, none⟩), .pointer (some ⟨b1, 0, none⟩)] W (fun e w' => RE (.error 35) e ∧ Below W.heap.size W w') := by
  have hu25 := Try.underlying25
  have n0 : ¬ b0 = W.heap.size := by have := blk_lt h0; omega
  have n1 : ¬ b1 = W.heap.size := by have := blk_lt h1; omega
  have HS := Aside0.mk (AI.start h0 h1 hr)
  clear h0 h1 hr
  have hcF := HS.out.o
  have hcA := HS.out.s
  have HL := Aside0.mk (show 0 < l.length ∧ 1 < l.length by omega)
  have hL0 : (0 < l.length) = True := eq_true HL.out.1
  have hL1 : (1 < l.length) = True := eq_true HL.out.2
  have hD0 : decide (0 < l.length) = true := decide_eq_true HL.out.1
  have hD1 : decide (1 < l.length) = true := decide_eq_true HL.out.2
  have hI0 : (0 < (l.length : Int)) = True := eq_true (by have := HL.out.1; omega)
  have hI1 : (1 < (l.length : Int)) = True := eq_true (by have := HL.out.2; omega)
  have hE0 : decide (0 < (l.length : Int)) = true := decide_eq_true (by have := HL.out.1; omega)
  have hE1 : decide (1 < (l.length : Int)) = true := decide_eq_true (by have := HL.out.2; omega)
  have q0 : decide (0 < argsN f) = true := decide_eq_true l0
  have q1 : ((l.length : Int) == argsN f) = true := beq_iff_eq.mpr lc
  have q2 : (f == 6) = true := beq_iff_eq.mpr f6
  have q3 : ((rd_T25 l 0).f0 == (rd_T25 l 1).f0) = false := beq_eq_false_iff_ne.mpr eq
  have q4 : ((rd_T25 l 0).f0 == 0) = false := beq_eq_false_iff_ne.mpr a0
  have q5 : ((rd_T25 l 1).f0 == 0) = false := beq_eq_false_iff_ne.mpr z0
  have l0' := Aside0.mk l0
  have lc' := Aside0.mk lc
  have l2' := Aside0.mk l2
  have f6' := Aside0.mk f6
  have eq' := Aside0.mk eq
  have a0' := Aside0.mk a0
  have z0' := Aside0.mk z0
  clear l0 lc l2 f6 eq a0 z0
  go_enter Try.func29, Try.ntmps29
  go_wp2_with (first | (go_at_call 14; (with_reducible refine (calc_Args.calls 1 f _ _ (args_f f)).mono ?_); rintro e w' ⟨rfl, ⟨nd, rfl⟩⟩) | (go_at_call 30; (with_reducible refine (calc_check.yes _ _).mono ?_); rintro e w' ⟨rfl, rfl⟩) | (go_at_call 30; (with_reducible refine (calc_check.no _ _).mono ?_); rintro e w' ⟨rfl, rfl⟩))
  refine at_world (fun w' => AI f l (some ad) c b0 b1 W w') (by repeat (first | exact HS.out | refine AI.drewN ?_ _ | refine AI.drew ?_)) (fun w1 hI => ?_)
  have HI := Aside0.mk hI
  clear hI hcF hcA
  refine start_ (n := 6) (S := fun w' => w'.cell? ⟨b0, 0, none⟩ = some (.int .i64 f) ∧ w'.cell? ⟨b1, 0, none⟩ = some (.slice (some ad) l.length c)) (ds := []) #[false, false, false, false, false, false] (by kernel_rfl) rfl rfl ⟨HI.out.drew.o, HI.out.drew.s⟩ (fun hHeld => ?_)
  refine take_ (i := 0) (N := some 12) (v := ?_) (a' := ?_) #[true, false, false, false, false, false] rfl rfl (by kernel_rfl) (fun _ _ _ h => h) (Or.inl ⟨by rfl, ?_⟩) hHeld ?_ ?_
  rotate_left
  · rintro w' ⟨s0, s1⟩
    go_simp
    with_reducible rfl
  rotate_left
  · simp only [Act.put, List.setIfInBounds_toArray, List.set_cons_zero, List.set_cons_succ, i64_w, i32_w]
    rfl
  refine pure_ (i := 1) (N := some 13) (v := ?_) (a' := ?_) #[true, true, false, false, false, false] rfl rfl (by kernel_rfl) (fun _ _ _ h => h) (Or.inl ⟨by rfl, ?_⟩) ?_ ?_
  rotate_left
  · intro w'
    go_simp
    with_reducible rfl
  rotate_left
  · simp only [Act.put, List.setIfInBounds_toArray, List.set_cons_zero, List.set_cons_succ, i64_w, i32_w]
    rfl
  refine take_ (i := 2) (N := some 14) (v := ?_) (a' := ?_) #[true, true, true, false, false, false] rfl rfl (by kernel_rfl) (fun _ _ _ h => h) (Or.inl ⟨by rfl, ?_⟩) hHeld ?_ ?_
  rotate_left
  · rintro w' ⟨s0, s1⟩
    go_simp
    with_reducible rfl
  rotate_left
  · simp only [Act.put, List.setIfInBounds_toArray, List.set_cons_zero, List.set_cons_succ, i64_w, i32_w]
    rfl
  refine one_ (i := 3) (N := some 15) #[true, true, true, true, false, false] rfl rfl (by kernel_rfl) (by decide) (fun K hK => ?_)
  refine goes_ Try.func14 (by kernel_rfl) rfl #[.int .i64 f] (by rfl) rfl rfl (by simp only [List.map_toArray, List.map_cons, List.map_nil]; rfl) ?_
  with_reducible refine (calc_Args.calls 1 f _ _ (args_f f)).mono ?_
  rintro e w2 ⟨rfl, ⟨nd3, rfl⟩⟩
  refine ⟨_, rfl, ?_⟩
  have n0_ := Aside0.mk (AI.drewN HI.out.drew nd3)
  clear HI
  have HI := n0_
  clear n0_
  refine hK.out _ _ ⟨HI.out.o, HI.out.s⟩ (fun hHeld => ?_)
  clear hK K
  refine norm_ (a' := ?_) ?_ ?_
  rotate_left
  · show Act.put _ (some 15) _ = _
    simp only [Act.put, List.setIfInBounds_toArray, List.set_cons_zero, List.set_cons_succ, i64_w, i32_w]
    rfl
  refine pure_ (i := 4) (N := some 16) (v := ?_) (a' := ?_) #[true, true, true, true, true, false] rfl rfl (by kernel_rfl) (fun _ _ _ h => h) (Or.inl ⟨by rfl, ?_⟩) ?_ ?_
  rotate_left
  · intro w'
    go_simp
    with_reducible rfl
  rotate_left
  · simp only [Act.put, List.setIfInBounds_toArray, List.set_cons_zero, List.set_cons_succ, i64_w, i32_w]
    rfl
  refine one_ (i := 5) (N := some 17) #[true, true, true, true, true, true] rfl rfl (by kernel_rfl) (by decide) (fun K hK => ?_)
  refine goes_ Try.func30 (by kernel_rfl) rfl #[.bool true, .int .i64 37] (by rfl) rfl rfl (by simp only [List.map_toArray, List.map_cons, List.map_nil]; rfl) ?_
  with_reducible refine (calc_check.yes _ _).mono ?_
  rintro e w2 ⟨rfl, rfl⟩
  refine ⟨_, rfl, ?_⟩
  refine hK.out _ _ ⟨HI.out.o, HI.out.s⟩ (fun hHeld => ?_)
  clear hK K
  refine norm_ (a' := ?_) ?_ ?_
  rotate_left
  · show Act.put _ (some 17) _ = _
    simp only [Act.put, List.setIfInBounds_toArray, List.set_cons_zero, List.set_cons_succ, i64_w, i32_w]
    rfl
  refine done_ (by kernel_rfl) ?_
  refine at_exit (fun w' => AI f l (some ad) c b0 b1 W w') HI.out (fun w3 hI => ?_)
  clear HI
  have HI := Aside0.mk hI
  clear hI
  have hcF := HI.out.o
  go_wp2_with fail
  refine at_world (fun w' => AI f l (some ad) c b0 b1 W w') (by repeat (first | exact HI.out | refine AI.drewN ?_ _ | refine AI.drew ?_)) (fun w4 hI => ?_)
  clear HI hcF
  have HI := Aside0.mk hI
  clear hI
  have HB := Aside0.mk HI.out.drew
  clear HI
  have HI := HB
  refine start_ (n := 10) (S := fun w' => w'.cell? ⟨b1, 0, none⟩ = some (.slice (some ad) l.length c) ∧ w'.cell? ad = some (.int .i64 (rd_T25 l 0).f0) ∧ w'.cell? ⟨ad.block, ad.off + 1, none⟩ = some (.int .i64 (rd_T25 l 0).f1) ∧ w'.cell? ⟨ad.block, ad.off + 2, none⟩ = some (.string (rd_T25 l 0).f2) ∧ w'.cell? ⟨ad.block, ad.off + 3, none⟩ = some (.int .i64 (rd_T25 l 1).f0) ∧ w'.cell? ⟨ad.block, ad.off + 3 + 1, none⟩ = some (.int .i64 (rd_T25 l 1).f1) ∧ w'.cell? ⟨ad.block, ad.off + 3 + 2, none⟩ = some (.string (rd_T25 l 1).f2)) (ds := [9]) #[false, false, false, false, false, false, false, false, false, false] (by kernel_rfl) rfl rfl ⟨(HB.out).s, ((HB.out).at0 HL.out.1).1, ((HB.out).at0 HL.out.1).2.1, ((HB.out).at0 HL.out.1).2.2, ((HB.out).at1 HL.out.2).1, ((HB.out).at1 HL.out.2).2.1, ((HB.out).at1 HL.out.2).2.2⟩ (fun hHeld => ?_)
  refine take_ (i := 0) (N := some 20) (v := ?_) (a' := ?_) #[true, false, false, false, false, false, false, false, false, false] rfl rfl (by kernel_rfl) (fun _ _ _ h => h) (Or.inl ⟨by rfl, ?_⟩) hHeld ?_ ?_
  rotate_left
  · rintro w' ⟨s0, s1, s2, s3, s4, s5, s6⟩
    go_simp
    with_reducible rfl
  rotate_left
  · simp only [Act.put, List.setIfInBounds_toArray, List.set_cons_zero, List.set_cons_succ, i64_w, i32_w]
    rfl
  refine pure_ (i := 1) (N := some 21) (v := ?_) (a' := ?_) #[true, true, false, false, false, false, false, false, false, false] rfl rfl (by kernel_rfl) (fun _ _ _ h => h) (Or.inl ⟨by rfl, ?_⟩) ?_ ?_
  rotate_left
  · intro w'
    go_simp
    with_reducible rfl
  rotate_left
  · simp only [Act.put, List.setIfInBounds_toArray, List.set_cons_zero, List.set_cons_succ, i64_w, i32_w]
    rfl
  refine take_ (i := 2) (N := some 22) (v := ?_) (a' := ?_) #[true, true, true, false, false, false, false, false, false, false] rfl rfl (by kernel_rfl) (fun _ _ _ h => h) (Or.inl ⟨by rfl, ?_⟩) hHeld ?_ ?_
  rotate_left
  · rintro w' ⟨s0, s1, s2, s3, s4, s5, s6⟩
    go_simp
    with_reducible rfl
  rotate_left
  · simp only [Act.put, List.setIfInBounds_toArray, List.set_cons_zero, List.set_cons_succ, i64_w, i32_w]
    rfl
  refine take_ (i := 3) (N := some 23) (v := ?_) (a' := ?_) #[true, true, true, true, false, false, false, false, false, false] rfl rfl (by kernel_rfl) (fun _ _ _ h => h) (Or.inl ⟨by rfl, ?_⟩) hHeld ?_ ?_
  rotate_left
  · rintro w' ⟨s0, s1, s2, s3, s4, s5, s6⟩
    go_simp
    with_reducible rfl
  rotate_left
  · simp only [Act.put, List.setIfInBounds_toArray, List.set_cons_zero, List.set_cons_succ, i64_w, i32_w]
    rfl
  refine pure_ (i := 4) (N := some 24) (v := ?_) (a' := ?_) #[true, true, true, true, true, false, false, false, false, false] rfl rfl (by kernel_rfl) (fun _ _ _ h => h) (Or.inl ⟨by rfl, ?_⟩) ?_ ?_
  rotate_left
  · intro w'
    go_simp
    with_reducible rfl
  rotate_left
  · simp only [Act.put, List.setIfInBounds_toArray, List.set_cons_zero, List.set_cons_succ, i64_w, i32_w]
    rfl
  refine take_ (i := 5) (N := some 25) (v := ?_) (a' := ?_) #[true, true, true, true, true, true, false, false, false, false] rfl rfl (by kernel_rfl) (fun _ _ _ h => h) (Or.inl ⟨by rfl, ?_⟩) hHeld ?_ ?_
  rotate_left
  · rintro w' ⟨s0, s1, s2, s3, s4, s5, s6⟩
    go_simp
    with_reducible rfl
  rotate_left
  · simp only [Act.put, List.setIfInBounds_toArray, List.set_cons_zero, List.set_cons_succ, i64_w, i32_w]
    rfl
  refine join_ (σ := Nat × Nat) 2 #[true, true, true, true, true, true, true, true, false, false] (fun s => [(3, .pointer (some ⟨s.1, 0, none⟩)), (4, .pointer (some ⟨s.2, 0, none⟩))]) (fun s w' => AJ f l (some ad) c b0 b1 W zeroV zeroV s.1 s.2 w') ?_ ?_
  rotate_left
  · intro hCont
    refine two_ (i := 6) (j := 7) (Ni := some 3) (Nj := some 4) #[true, true, true, true, true, true, true, false, false, false] #[true, true, true, true, true, true, false, true, false, false] rfl rfl rfl rfl (by kernel_rfl) (by decide) (by decide) (fun K hK => ?_) (fun K hK => ?_)
    · skip
      refine value_ (w1 := ?_) (v := ?_) (by rfl) rfl ?_ ?_
      rotate_left 2
      · go_simp
        constructor
        · rfl
        · rfl
      have n0_ := Aside0.mk (AI.alloc HI.out (.cells #[.int .i64 0, .int .i64 0, .string (⟨#[]⟩ : ByteArray)] 25))
      clear HI
      have HI := n0_
      clear n0_
      refine hK.out _ _ ⟨(HI.out).s, ((HI.out).at0 HL.out.1).1, ((HI.out).at0 HL.out.1).2.1, ((HI.out).at0 HL.out.1).2.2, ((HI.out).at1 HL.out.2).1, ((HI.out).at1 HL.out.2).2.1, ((HI.out).at1 HL.out.2).2.2⟩ (fun hHeld => ?_)
      clear hK K
      refine norm_ (a' := ?_) ?_ ?_
      rotate_left
      · show Act.put _ (some 3) _ = _
        simp only [Act.put, List.setIfInBounds_toArray, List.set_cons_zero, List.set_cons_succ, i64_w, i32_w]
        rfl
      refine one_ (i := 7) (N := some 4) #[true, true, true, true, true, true, true, true, false, false] rfl rfl (by kernel_rfl) (by decide) (fun K hK => ?_)
      refine value_ (w1 := ?_) (v := ?_) (by rfl) rfl ?_ ?_
      rotate_left 2
      · go_simp
        constructor
        · rfl
        · rfl
      have n0_ := Aside0.mk (AI.alloc HI.out (.cells #[.int .i64 0, .int .i64 0, .string (⟨#[]⟩ : ByteArray)] 25))
      clear HI
      have HI := n0_
      clear n0_
      refine hK.out _ _ ⟨(HI.out).s, ((HI.out).at0 HL.out.1).1, ((HI.out).at0 HL.out.1).2.1, ((HI.out).at0 HL.out.1).2.2, ((HI.out).at1 HL.out.2).1, ((HI.out).at1 HL.out.2).2.1, ((HI.out).at1 HL.out.2).2.2⟩ (fun hHeld => ?_)
      clear hK K
      refine norm_ (a' := ?_) ?_ ?_
      rotate_left
      · show Act.put _ (some 4) _ = _
        simp only [Act.put, List.setIfInBounds_toArray, List.set_cons_zero, List.set_cons_succ, i64_w, i32_w]
        rfl
      exact norm_ (by first | (simp only [putAll, Act.put, List.setIfInBounds_toArray, List.set_cons_zero, List.set_cons_succ]; done) | (simp only [putAll, Act.put, List.setIfInBounds_toArray, List.set_cons_zero, List.set_cons_succ]; rfl)) (hCont (_, _) _ (AJ.two HB.out))
    · skip
      refine value_ (w1 := ?_) (v := ?_) (by rfl) rfl ?_ ?_
      rotate_left 2
      · go_simp
        constructor
        · rfl
        · rfl
      have n0_ := Aside0.mk (AI.alloc HI.out (.cells #[.int .i64 0, .int .i64 0, .string (⟨#[]⟩ : ByteArray)] 25))
      clear HI
      have HI := n0_
      clear n0_
      refine hK.out _ _ ⟨(HI.out).s, ((HI.out).at0 HL.out.1).1, ((HI.out).at0 HL.out.1).2.1, ((HI.out).at0 HL.out.1).2.2, ((HI.out).at1 HL.out.2).1, ((HI.out).at1 HL.out.2).2.1, ((HI.out).at1 HL.out.2).2.2⟩ (fun hHeld => ?_)
      clear hK K
      refine norm_ (a' := ?_) ?_ ?_
      rotate_left
      · show Act.put _ (some 4) _ = _
        simp only [Act.put, List.setIfInBounds_toArray, List.set_cons_zero, List.set_cons_succ, i64_w, i32_w]
        rfl
      refine one_ (i := 6) (N := some 3) #[true, true, true, true, true, true, true, true, false, false] rfl rfl (by kernel_rfl) (by decide) (fun K hK => ?_)
      refine value_ (w1 := ?_) (v := ?_) (by rfl) rfl ?_ ?_
      rotate_left 2
      · go_simp
        constructor
        · rfl
        · rfl
      have n0_ := Aside0.mk (AI.alloc HI.out (.cells #[.int .i64 0, .int .i64 0, .string (⟨#[]⟩ : ByteArray)] 25))
      clear HI
      have HI := n0_
      clear n0_
      refine hK.out _ _ ⟨(HI.out).s, ((HI.out).at0 HL.out.1).1, ((HI.out).at0 HL.out.1).2.1, ((HI.out).at0 HL.out.1).2.2, ((HI.out).at1 HL.out.2).1, ((HI.out).at1 HL.out.2).2.1, ((HI.out).at1 HL.out.2).2.2⟩ (fun hHeld => ?_)
      clear hK K
      refine norm_ (a' := ?_) ?_ ?_
      rotate_left
      · show Act.put _ (some 3) _ = _
        simp only [Act.put, List.setIfInBounds_toArray, List.set_cons_zero, List.set_cons_succ, i64_w, i32_w]
        rfl
      exact norm_ (by first | (simp only [putAll, Act.put, List.setIfInBounds_toArray, List.set_cons_zero, List.set_cons_succ]; done) | (simp only [putAll, Act.put, List.setIfInBounds_toArray, List.set_cons_zero, List.set_cons_succ]; rfl)) (hCont (_, _) _ (AJ.swap (AJ.two HB.out)))
  rintro ⟨b3, b4⟩ w5 hJ
  have HJ := Aside0.mk hJ
  clear hJ
  have HI := Aside0.mk HJ.out.1
  have hHeld := HI.out
  replace hHeld := (⟨(HI.out).s, ((HI.out).at0 HL.out.1).1, ((HI.out).at0 HL.out.1).2.1, ((HI.out).at0 HL.out.1).2.2, ((HI.out).at1 HL.out.2).1, ((HI.out).at1 HL.out.2).2.1, ((HI.out).at1 HL.out.2).2.2⟩ : (w5.cell? ⟨b1, 0, none⟩ = some (.slice (some ad) l.length c) ∧ w5.cell? ad = some (.int .i64 (rd_T25 l 0).f0) ∧ w5.cell? ⟨ad.block, ad.off + 1, none⟩ = some (.int .i64 (rd_T25 l 0).f1) ∧ w5.cell? ⟨ad.block, ad.off + 2, none⟩ = some (.string (rd_T25 l 0).f2) ∧ w5.cell? ⟨ad.block, ad.off + 3, none⟩ = some (.int .i64 (rd_T25 l 1).f0) ∧ w5.cell? ⟨ad.block, ad.off + 3 + 1, none⟩ = some (.int .i64 (rd_T25 l 1).f1) ∧ w5.cell? ⟨ad.block, ad.off + 3 + 2, none⟩ = some (.string (rd_T25 l 1).f2)))
  have hne : ¬ b3 = b4 := HJ.out.2.2.2.1
  have hne' : ¬ b4 = b3 := fun e => hne e.symm
  have ga0 : World.cell? _ ⟨b3, 0, none⟩ = some (.int .i64 0) := (blk_cell HJ.out.2.2.2.2.1 0).trans rfl
  have ga1 : World.cell? _ ⟨b3, 1, none⟩ = some (.int .i64 0) := (blk_cell HJ.out.2.2.2.2.1 1).trans rfl
  have ga2 : World.cell? _ ⟨b3, 2, none⟩ = some (.string (⟨#[]⟩ : ByteArray)) := (blk_cell HJ.out.2.2.2.2.1 2).trans rfl
  have gaf0 := blk_frozen HJ.out.2.2.2.2.1 0
  have gaf1 := blk_frozen HJ.out.2.2.2.2.1 1
  have gaf2 := blk_frozen HJ.out.2.2.2.2.1 2
  refine norm_ (a' := ?_) ?_ ?_
  rotate_left
  · simp only [putAll, Act.put, List.setIfInBounds_toArray, List.set_cons_zero, List.set_cons_succ]
    rfl
  refine one_ (i := 8) (N := none) #[true, true, true, true, true, true, true, true, true, false] rfl rfl (by kernel_rfl) (by decide) (fun K hK => ?_)
  refine skip_ (w1 := ?_) (by rfl) rfl ?_ ?_
  rotate_left
  · go_simp
    rfl
  have J2 := Aside0.mk (AJ.first (u' := (rd_T25 l 0)) HJ.out)
  clear HJ HI ga0 ga1 ga2 gaf0 gaf1 gaf2
  have HJ := J2
  clear J2
  have HI := Aside0.mk HJ.out.1
  have gb0 : World.cell? _ ⟨b4, 0, none⟩ = some (.int .i64 0) := (blk_cell HJ.out.2.2.2.2.2 0).trans rfl
  have gb1 : World.cell? _ ⟨b4, 1, none⟩ = some (.int .i64 0) := (blk_cell HJ.out.2.2.2.2.2 1).trans rfl
  have gb2 : World.cell? _ ⟨b4, 2, none⟩ = some (.string (⟨#[]⟩ : ByteArray)) := (blk_cell HJ.out.2.2.2.2.2 2).trans rfl
  have gbf0 := blk_frozen HJ.out.2.2.2.2.2 0
  have gbf1 := blk_frozen HJ.out.2.2.2.2.2 1
  have gbf2 := blk_frozen HJ.out.2.2.2.2.2 2
  refine hK.out _ _ ⟨(HI.out).s, ((HI.out).at0 HL.out.1).1, ((HI.out).at0 HL.out.1).2.1, ((HI.out).at0 HL.out.1).2.2, ((HI.out).at1 HL.out.2).1, ((HI.out).at1 HL.out.2).2.1, ((HI.out).at1 HL.out.2).2.2⟩ (fun hHeld => ?_)
  clear hK K
  refine last_ (i := 9) (N := none) #[true, true, true, true, true, true, true, true, true, true] rfl rfl (by kernel_rfl) (by decide) (fun K hK => ?_)
  refine skip_ (w1 := ?_) (by rfl) rfl ?_ ?_
  rotate_left
  · go_simp
    rfl
  have J2 := Aside0.mk (AJ.second (v' := (rd_T25 l 1)) HJ.out)
  clear HJ HI gb0 gb1 gb2 gbf0 gbf1 gbf2 hne hne'
  have HJ := J2
  clear J2
  refine hK.out _ _ ?_
  clear hK K
  refine done_ (by kernel_rfl) ?_
  refine at_exit (fun w' => AJ f l (some ad) c b0 b1 W (rd_T25 l 0) (rd_T25 l 1) b3 b4 w') HJ.out (fun w6 hJ => ?_)
  clear HJ
  have HJ := Aside0.mk hJ
  clear hJ
  have ga0 : World.cell? _ ⟨b3, 0, none⟩ = some (.int .i64 (rd_T25 l 0).f0) := (blk_cell HJ.out.2.2.2.2.1 0).trans rfl
  have ga1 : World.cell? _ ⟨b3, 1, none⟩ = some (.int .i64 (rd_T25 l 0).f1) := (blk_cell HJ.out.2.2.2.2.1 1).trans rfl
  have ga2 : World.cell? _ ⟨b3, 2, none⟩ = some (.string (rd_T25 l 0).f2) := (blk_cell HJ.out.2.2.2.2.1 2).trans rfl
  have gaf0 := blk_frozen HJ.out.2.2.2.2.1 0
  have gaf1 := blk_frozen HJ.out.2.2.2.2.1 1
  have gaf2 := blk_frozen HJ.out.2.2.2.2.1 2
  have gb0 : World.cell? _ ⟨b4, 0, none⟩ = some (.int .i64 (rd_T25 l 1).f0) := (blk_cell HJ.out.2.2.2.2.2 0).trans rfl
  have gb1 : World.cell? _ ⟨b4, 1, none⟩ = some (.int .i64 (rd_T25 l 1).f1) := (blk_cell HJ.out.2.2.2.2.2 1).trans rfl
  have gb2 : World.cell? _ ⟨b4, 2, none⟩ = some (.string (rd_T25 l 1).f2) := (blk_cell HJ.out.2.2.2.2.2 2).trans rfl
  have gbf0 := blk_frozen HJ.out.2.2.2.2.2 0
  have gbf1 := blk_frozen HJ.out.2.2.2.2.2 1
  have gbf2 := blk_frozen HJ.out.2.2.2.2.2 2
  have gz0 : World.cell? _ ⟨W.heap.size, 0, none⟩ = some (.int .i64 0) := (blk_cell HJ.out.1.z 0).trans rfl
  have gz1 : World.cell? _ ⟨W.heap.size, 1, none⟩ = some (.int .i64 0) := (blk_cell HJ.out.1.z 1).trans rfl
  have gz2 : World.cell? _ ⟨W.heap.size, 2, none⟩ = some (.string (⟨#[]⟩ : ByteArray)) := (blk_cell HJ.out.1.z 2).trans rfl
  have gzf0 := blk_frozen HJ.out.1.z 0
  have gzf1 := blk_frozen HJ.out.1.z 1
  have gzf2 := blk_frozen HJ.out.1.z 2
  go_wp2_with (first | (go_at_call 14; (with_reducible refine (calc_Args.calls 1 f _ _ (args_f f)).mono ?_); rintro e w' ⟨rfl, ⟨nd, rfl⟩⟩) | (go_at_call 30; (with_reducible refine (calc_check.yes _ _).mono ?_); rintro e w' ⟨rfl, rfl⟩) | (go_at_call 30; (with_reducible refine (calc_check.no _ _).mono ?_); rintro e w' ⟨rfl, rfl⟩))
  exact ⟨rfl, rfl, HJ.out.1.bel⟩
end Go.Proofs.Ytfbeklbjlkgbnaa.P
end
section
namespace Go.Proofs.Ytfbeklbjlkgbnaa.P
open Go.RowKit Go.Proofs.Ytfbeklbjlkgbnaa.Pure Go.Proofs.YtfbeklbjlkgbnaaW.PrintWords Go.Proofs.YtfbeklbjlkgbnaaW.PrintLast Go.Proofs.YtfbeklbjlkgbnaaW.PrintMore
attribute [local go_sem] max2_int min2_int max_two min_two max_three min_three max_four min_four
set_option linter.unusedVariables false
set_option linter.unusedSimpArgs false
set_option maxHeartbeats 2000000 in
set_option maxRecDepth 100000 in
theorem calc_Call1.rest (f : Int) (l : List S25) (ad : Addr) (c b0 b1 : Nat) (W : World) (h0 : W.heap[b0]? = some (.cells #[.int .i64 f] 3 (0, 0))) (h1 : W.heap[b1]? = some (.cells #[.slice (some ad) l.length c] 22 (0, 0))) (hr : Kd.C k25 W (some ad) l.length l) (l0 : 0 < argsN f) (lc : (l.length : Int) = argsN f) (f6 : ¬ f = 6) (hf : ∀ v ∈ l, FitsV v) (hc : l.length ≤ c) :
    Calls Try.prog 29 #[.pointer (some ⟨b0, 0, none⟩), .pointer (some ⟨b1, 0, none⟩)] W (fun e w' => RE (restP f l) e ∧ Below W.heap.size W w') := by
  have hu25 := Try.underlying25
  have n0 : ¬ b0 = W.heap.size := by have := blk_lt h0; omega
  have n1 : ¬ b1 = W.heap.size := by have := blk_lt h1; omega
  have HS := Aside0.mk (AI.start h0 h1 hr)
  clear h0 h1 hr
  have hcF := HS.out.o
  have hcA := HS.out.s
  have HF := Aside0.mk hf
  have HC := Aside0.mk hc
  clear hf hc
  have q0 : decide (0 < argsN f) = true := decide_eq_true l0
  have q1 : ((l.length : Int) == argsN f) = true := beq_iff_eq.mpr lc
  have q2 : (f == 6) = false := beq_eq_false_iff_ne.mpr f6
  have l0' := Aside0.mk l0
  have lc' := Aside0.mk lc
  have f6' := Aside0.mk f6
  have hlen : 0 < l.length := by omega
  have HL := Aside0.mk hlen
  clear hlen
  clear l0 lc f6
  go_enter Try.func29, Try.ntmps29
  go_wp2_with (first | (go_at_call 14; (with_reducible refine (calc_Args.calls 1 f _ _ (args_f f)).mono ?_); rintro e w' ⟨rfl, ⟨nd, rfl⟩⟩) | (go_at_call 30; (with_reducible refine (calc_check.yes _ _).mono ?_); rintro e w' ⟨rfl, rfl⟩) | (go_at_call 30; (with_reducible refine (calc_check.no _ _).mono ?_); rintro e w' ⟨rfl, rfl⟩))
  refine at_world (fun w' => AI f l (some ad) c b0 b1 W w') (by repeat (first | exact HS.out | refine AI.drewN ?_ _ | refine AI.drew ?_)) (fun w1 hI => ?_)
  have HI := Aside0.mk hI
  clear hI hcF hcA
  refine start_ (n := 6) (S := fun w' => w'.cell? ⟨b0, 0, none⟩ = some (.int .i64 f) ∧ w'.cell? ⟨b1, 0, none⟩ = some (.slice (some ad) l.length c)) (ds := []) #[false, false, false, false, false, false] (by kernel_rfl) rfl rfl ⟨HI.out.drew.o, HI.out.drew.s⟩ (fun hHeld => ?_)
  refine take_ (i := 0) (N := some 12) (v := ?_) (a' := ?_) #[true, false, false, false, false, false] rfl rfl (by kernel_rfl) (fun _ _ _ h => h) (Or.inl ⟨by rfl, ?_⟩) hHeld ?_ ?_
  rotate_left
  · rintro w' ⟨s0, s1⟩
    go_simp
    with_reducible rfl
  rotate_left
  · simp only [Act.put, List.setIfInBounds_toArray, List.set_cons_zero, List.set_cons_succ, i64_w, i32_w]
    rfl
  refine pure_ (i := 1) (N := some 13) (v := ?_) (a' := ?_) #[true, true, false, false, false, false] rfl rfl (by kernel_rfl) (fun _ _ _ h => h) (Or.inl ⟨by rfl, ?_⟩) ?_ ?_
  rotate_left
  · intro w'
    go_simp
    with_reducible rfl
  rotate_left
  · simp only [Act.put, List.setIfInBounds_toArray, List.set_cons_zero, List.set_cons_succ, i64_w, i32_w]
    rfl
  refine take_ (i := 2) (N := some 14) (v := ?_) (a' := ?_) #[true, true, true, false, false, false] rfl rfl (by kernel_rfl) (fun _ _ _ h => h) (Or.inl ⟨by rfl, ?_⟩) hHeld ?_ ?_
  rotate_left
  · rintro w' ⟨s0, s1⟩
    go_simp
    with_reducible rfl
  rotate_left
  · simp only [Act.put, List.setIfInBounds_toArray, List.set_cons_zero, List.set_cons_succ, i64_w, i32_w]
    rfl
  refine one_ (i := 3) (N := some 15) #[true, true, true, true, false, false] rfl rfl (by kernel_rfl) (by decide) (fun K hK => ?_)
  refine goes_ Try.func14 (by kernel_rfl) rfl #[.int .i64 f] (by rfl) rfl rfl (by simp only [List.map_toArray, List.map_cons, List.map_nil]; rfl) ?_
  with_reducible refine (calc_Args.calls 1 f _ _ (args_f f)).mono ?_
  rintro e w2 ⟨rfl, ⟨nd3, rfl⟩⟩
  refine ⟨_, rfl, ?_⟩
  have n0_ := Aside0.mk (AI.drewN HI.out.drew nd3)
  clear HI
  have HI := n0_
  clear n0_
  refine hK.out _ _ ⟨HI.out.o, HI.out.s⟩ (fun hHeld => ?_)
  clear hK K
  refine norm_ (a' := ?_) ?_ ?_
  rotate_left
  · show Act.put _ (some 15) _ = _
    simp only [Act.put, List.setIfInBounds_toArray, List.set_cons_zero, List.set_cons_succ, i64_w, i32_w]
    rfl
  refine pure_ (i := 4) (N := some 16) (v := ?_) (a' := ?_) #[true, true, true, true, true, false] rfl rfl (by kernel_rfl) (fun _ _ _ h => h) (Or.inl ⟨by rfl, ?_⟩) ?_ ?_
  rotate_left
  · intro w'
    go_simp
    with_reducible rfl
  rotate_left
  · simp only [Act.put, List.setIfInBounds_toArray, List.set_cons_zero, List.set_cons_succ, i64_w, i32_w]
    rfl
  refine one_ (i := 5) (N := some 17) #[true, true, true, true, true, true] rfl rfl (by kernel_rfl) (by decide) (fun K hK => ?_)
  refine goes_ Try.func30 (by kernel_rfl) rfl #[.bool true, .int .i64 37] (by rfl) rfl rfl (by simp only [List.map_toArray, List.map_cons, List.map_nil]; rfl) ?_
  with_reducible refine (calc_check.yes _ _).mono ?_
  rintro e w2 ⟨rfl, rfl⟩
  refine ⟨_, rfl, ?_⟩
  refine hK.out _ _ ⟨HI.out.o, HI.out.s⟩ (fun hHeld => ?_)
  clear hK K
  refine norm_ (a' := ?_) ?_ ?_
  rotate_left
  · show Act.put _ (some 17) _ = _
    simp only [Act.put, List.setIfInBounds_toArray, List.set_cons_zero, List.set_cons_succ, i64_w, i32_w]
    rfl
  refine done_ (by kernel_rfl) ?_
  refine at_exit (fun w' => AI f l (some ad) c b0 b1 W w') HI.out (fun w3 hI => ?_)
  clear HI
  have HI := Aside0.mk hI
  clear hI
  have hcF := HI.out.o
  have hcA := HI.out.s
  go_wp2_with fail
  go_loopw [5, 49] (fun v5 v49 wr => ∃ (k : Nat) (b : Bool), v5 = .bool b ∧ v49 = .int .i64 k ∧ k ≤ l.length ∧ Aside0 (goArgs f k (l.drop k) b = goArgs f 0 l false) ∧ Aside0 (AI f l (some ad) c b0 b1 W wr)) (fun _ v49 _ => l.length - (intOf v49).toNat)
  case atStart => exact ⟨0, false, rfl, rfl, Nat.zero_le _, ⟨by simp⟩, HI⟩
  case round =>
    obtain ⟨k, b, rfl, rfl, hk, HG, HI⟩ := hrel
    have hcF := HI.out.o
    have hcA := HI.out.s
    by_cases hlt : k < l.length
    · skip
      have q_a : decide (k < l.length) = true := decide_eq_true hlt
      have q_b : decide ((k : Int) < (l.length : Int)) = true := decide_eq_true (by omega)
      have q_c : (k < l.length) = True := eq_true hlt
      have q_e : ((k : Int) < (l.length : Int)) = True := eq_true (by omega)
      have q_d : (0 ≤ (k : Int)) = True := eq_true (by omega)
      obtain ⟨hx0, hx1, hx2⟩ := HI.out.atk k hlt
      have HK : Aside0 (k < l.length) := ⟨hlt⟩
      have nr0 : ¬ b0 = wr.heap.size := by have := blk_lt (blk_below HI.out.1 HI.out.bel); omega
      have nr1 : ¬ b1 = wr.heap.size := by have := blk_lt (blk_below HI.out.2.1 HI.out.bel); omega
      have hcF2 : World.cell? (wr.alloc (.cells #[.int .i64 (rd_T25 l k).f0, .int .i64 (rd_T25 l k).f1, .string (rd_T25 l k).f2] 25)) ⟨b0, 0, none⟩ = some (.int .i64 f) := (AI.alloc HI.out _).o
      have hw : wrap64 ((k : Int) + 1) = ((k + 1 : Nat) : Int) := by have := Kd.C_max HI.out.C; unfold wrap64; omega
      have HS1 := Aside0.mk (goArgs_step (f := f) (b := b) hlt)
      have hkm : k < 9223372036854775807 := by have := Kd.C_max HI.out.C; omega
      cases ht : takesP f k (rd_T25 l k).f0 with
      | false =>
        have HT : Aside0 (calc_takes.f f (k : Int) (rd_T25 l k).f0 = some false) := ⟨by rw [takes_f, ht]⟩
        have HE : Aside0 (restP f l = .error 35) := ⟨by unfold restP; rw [← HG.out, HS1.out, ht]; rfl⟩
        clear ht hlt hk HS1 hw
        go_wp2_with (first | (go_at_call 31; (with_reducible refine (calc_takes.calls f (k : Int) (rd_T25 l k).f0 _ _ HT.out).mono ?_); rintro e w' ⟨rfl, ⟨nd, rfl⟩⟩) | (go_at_call 30; (with_reducible refine (calc_check.yes _ _).mono ?_); rintro e w' ⟨rfl, rfl⟩) | (go_at_call 30; (with_reducible refine (calc_check.no _ _).mono ?_); rintro e w' ⟨rfl, rfl⟩))
        refine ⟨rfl, ?_, ?_⟩
        · rw [HE.out]; rfl
        · exact AI.bel (f := f) (l := l) (A := some ad) (c := c) (b0 := b0) (b1 := b1) (by repeat (first | exact HI.out | refine AI.drewN ?_ _ | refine AI.drew ?_ | refine AI.alloc ?_ _ | refine AI.set ?_ (blk_lt HI.out.z) _ _))
      | true =>
        have HT : Aside0 (calc_takes.f f (k : Int) (rd_T25 l k).f0 = some true) := ⟨by rw [takes_f, ht]⟩
        cases b with
        | true =>
          have HN : Aside0 (goArgs f (k + 1) (l.drop (k + 1)) true = goArgs f 0 l false) := ⟨by have h1 := HS1.out; rw [if_pos ht, Bool.true_or] at h1; rw [← h1]; exact HG.out⟩
          clear ht hlt hk HS1 hw
          go_wp2_with (first | (go_at_call 31; (with_reducible refine (calc_takes.calls f (k : Int) (rd_T25 l k).f0 _ _ HT.out).mono ?_); rintro e w' ⟨rfl, ⟨nd, rfl⟩⟩) | (go_at_call 30; (with_reducible refine (calc_check.yes _ _).mono ?_); rintro e w' ⟨rfl, rfl⟩) | (go_at_call 30; (with_reducible refine (calc_check.no _ _).mono ?_); rintro e w' ⟨rfl, rfl⟩))
          go_roundw
          case rel => exact ⟨k + 1, true, rfl, by go_num, HK.out, HN, ⟨(by repeat (first | exact HI.out | refine AI.drewN ?_ _ | refine AI.drew ?_ | refine AI.alloc ?_ _ | refine AI.set ?_ (blk_lt HI.out.z) _ _))⟩⟩
          case measure => have := HK.out; simp [intOf]; omega
        | false =>
          by_cases hz : (rd_T25 l k).f0 = 0
          · have HN : Aside0 (goArgs f (k + 1) (l.drop (k + 1)) true = goArgs f 0 l false) := ⟨by have h1 := HS1.out; rw [if_pos ht, Bool.false_or, beq_iff_eq.mpr hz] at h1; rw [← h1]; exact HG.out⟩
            have q_z : ((rd_T25 l k).f0 == 0) = true := beq_iff_eq.mpr hz
            clear ht hlt hk HS1 hw hz
            go_wp2_with (first | (go_at_call 31; (with_reducible refine (calc_takes.calls f (k : Int) (rd_T25 l k).f0 _ _ HT.out).mono ?_); rintro e w' ⟨rfl, ⟨nd, rfl⟩⟩) | (go_at_call 30; (with_reducible refine (calc_check.yes _ _).mono ?_); rintro e w' ⟨rfl, rfl⟩) | (go_at_call 30; (with_reducible refine (calc_check.no _ _).mono ?_); rintro e w' ⟨rfl, rfl⟩))
            go_roundw
            case rel => exact ⟨k + 1, true, rfl, by go_num, HK.out, HN, ⟨(by repeat (first | exact HI.out | refine AI.drewN ?_ _ | refine AI.drew ?_ | refine AI.alloc ?_ _ | refine AI.set ?_ (blk_lt HI.out.z) _ _))⟩⟩
            case measure => have := HK.out; simp [intOf]; omega
          · have HN : Aside0 (goArgs f (k + 1) (l.drop (k + 1)) false = goArgs f 0 l false) := ⟨by have h1 := HS1.out; rw [if_pos ht, Bool.false_or, beq_eq_false_iff_ne.mpr hz] at h1; rw [← h1]; exact HG.out⟩
            have q_z : ((rd_T25 l k).f0 == 0) = false := beq_eq_false_iff_ne.mpr hz
            clear ht hlt hk HS1 hw hz
            go_wp2_with (first | (go_at_call 31; (with_reducible refine (calc_takes.calls f (k : Int) (rd_T25 l k).f0 _ _ HT.out).mono ?_); rintro e w' ⟨rfl, ⟨nd, rfl⟩⟩) | (go_at_call 30; (with_reducible refine (calc_check.yes _ _).mono ?_); rintro e w' ⟨rfl, rfl⟩) | (go_at_call 30; (with_reducible refine (calc_check.no _ _).mono ?_); rintro e w' ⟨rfl, rfl⟩))
            go_roundw
            case rel => exact ⟨k + 1, false, rfl, by go_num, HK.out, HN, ⟨(by repeat (first | exact HI.out | refine AI.drewN ?_ _ | refine AI.drew ?_ | refine AI.alloc ?_ _ | refine AI.set ?_ (blk_lt HI.out.z) _ _))⟩⟩
            case measure => have := HK.out; simp [intOf]; omega
    · have q_a : decide (k < l.length) = false := decide_eq_false hlt
      have q_b : decide ((k : Int) < (l.length : Int)) = false := decide_eq_false (by omega)
      have gz0 : World.cell? wr ⟨W.heap.size, 0, none⟩ = some (.int .i64 0) := (blk_cell HI.out.z 0).trans rfl
      have gz1 : World.cell? wr ⟨W.heap.size, 1, none⟩ = some (.int .i64 0) := (blk_cell HI.out.z 1).trans rfl
      have gz2 : World.cell? wr ⟨W.heap.size, 2, none⟩ = some (.string (⟨#[]⟩ : ByteArray)) := (blk_cell HI.out.z 2).trans rfl
      have HE : Aside0 (goArgs f 0 l false = .ok b) := ⟨by rw [← HG.out, List.drop_eq_nil_of_le (by omega)]; rfl⟩
      clear hlt hk
      cases b with
      | true =>
        have HR : Aside0 (restP f l = .ok zeroV) := ⟨by unfold restP; rw [HE.out]⟩
        have gf0 := blk_frozen HI.out.z 0
        have gf1 := blk_frozen HI.out.z 1
        have gf2 := blk_frozen HI.out.z 2
        go_wp2_with fail
        refine bodyPost_ret (v := .agg #[.int .i64 0, .int .i64 0, .string V0]) (by simp [results, Try.results29, go_sem, V0, gz0, gz1, gz2]) rfl ⟨?_, ?_⟩
        · rw [HR.out]; rfl
        · exact below_set3 HI.out.bel (Nat.le_refl W.heap.size) _ _ _ _ _ _
      | false =>
        have HR : Aside0 (restP f l = calledP f l) := ⟨by unfold restP; rw [HE.out]⟩
        clear gz0 gz1 gz2
        go_wp2_with fail
        cases hcp : calledP f l with
        | error e0 =>
          obtain ⟨hf2, hm, rfl⟩ := called_E hcp
          refine (calc_called.over f (some ad) c l wr HI.out.C HL.out hf2 hm).mono ?_
          rintro e w' ⟨rfl, hb⟩
          have HR' : Aside0 (restP f l = .error 40) := ⟨HR.out.trans hcp⟩
          have HB := Aside0.mk (below_step HI.out.bel hb)
          clear hcp hf2 hm hb
          unfold PErr
          go_wp2_with fail
          refine ⟨rfl, ?_, HB.out⟩
          rw [HR'.out]; rfl
        | ok r =>
          have HR' : Aside0 (restP f l = .ok r) := ⟨HR.out.trans hcp⟩
          refine (calc_called.calls f (some ad) c l r.f0 r.f1 r.f2 wr HI.out.C HC.out (called_f hcp HF.out lc'.out l0'.out f6'.out)).mono ?_
          rintro e w' ⟨rfl, hb⟩
          have HJ := Aside0.mk (HI.out.below hb)
          clear hcp hb hcF hcA
          have gz0 : World.cell? w' ⟨W.heap.size, 0, none⟩ = some (.int .i64 0) := (blk_cell HJ.out.z 0).trans rfl
          have gz1 : World.cell? w' ⟨W.heap.size, 1, none⟩ = some (.int .i64 0) := (blk_cell HJ.out.z 1).trans rfl
          have gz2 : World.cell? w' ⟨W.heap.size, 2, none⟩ = some (.string (⟨#[]⟩ : ByteArray)) := (blk_cell HJ.out.z 2).trans rfl
          have gf0 := blk_frozen HJ.out.z 0
          have gf1 := blk_frozen HJ.out.z 1
          have gf2 := blk_frozen HJ.out.z 2
          go_wp2_with fail
          refine bodyPost_ret (v := encV r) (by simp [results, Try.results29, go_sem, encV, gz0, gz1, gz2]) rfl ⟨?_, ?_⟩
          · rw [HR'.out]; rfl
          · exact below_set3 HJ.out.bel (Nat.le_refl W.heap.size) _ _ _ _ _ _
end Go.Proofs.Ytfbeklbjlkgbnaa.P
end
section
namespace Go.Proofs.Ytfbeklbjlkgbnaa.P
open Go.RowKit Go.Proofs.Ytfbeklbjlkgbnaa.Pure Go.Proofs.YtfbeklbjlkgbnaaW.PrintWords Go.Proofs.YtfbeklbjlkgbnaaW.PrintLast Go.Proofs.YtfbeklbjlkgbnaaW.PrintMore
attribute [local go_sem] max2_int min2_int max_two min_two max_three min_three max_four min_four
set_option linter.unusedVariables false
set_option linter.unusedSimpArgs false
theorem calc_Call1.calls (f : Int) (l : List S25) (A : Option Addr) (c b0 b1 : Nat) (W : World) (h0 : W.heap[b0]? = some (.cells #[.int .i64 f] 3 (0, 0))) (h1 : W.heap[b1]? = some (.cells #[.slice A l.length c] 22 (0, 0))) (hr : Kd.C k25 W A l.length l) (hf : ∀ v ∈ l, FitsV v) (hc : l.length ≤ c) :
    Calls Try.prog 29 #[.pointer (some ⟨b0, 0, none⟩), .pointer (some ⟨b1, 0, none⟩)] W (fun e w' => RE (call f l) e ∧ Below W.heap.size W w') := by
  unfold call
  by_cases l0 : argsN f ≤ 0
  · rw [if_pos l0]; exact calc_Call1.refused f l A c b0 b1 W h0 h1 hr (by omega)
  rw [if_neg l0]
  by_cases lc : (l.length : Int) = argsN f
  · rw [if_neg (fun h => h lc)]
    obtain ⟨ad, rfl, -⟩ := at_T25 hr 0 (by omega) (by omega)
    by_cases f6 : f = 6
    · rw [if_pos f6]
      have l2 : l.length = 2 := by
        have h6 : argsN f = 2 := by rw [f6]; rfl
        omega
      unfold firstP
      by_cases a0 : (rd_T25 l 0).f0 = 0
      · rw [if_pos (.inr (.inl a0)), if_pos a0]
        by_cases eq : (rd_T25 l 0).f0 = (rd_T25 l 1).f0
        · exact calc_Call1.one1 f l ad c b0 b1 W h0 h1 hr (by omega) lc l2 f6 eq a0
        · exact calc_Call1.one3 f l ad c b0 b1 W h0 h1 hr (by omega) lc l2 f6 eq a0
      · rw [if_neg a0]
        by_cases eq : (rd_T25 l 0).f0 = (rd_T25 l 1).f0
        · rw [if_pos (.inl eq)]; exact calc_Call1.one2 f l ad c b0 b1 W h0 h1 hr (by omega) lc l2 f6 eq a0
        · by_cases z0 : (rd_T25 l 1).f0 = 0
          · rw [if_pos (.inr (.inr z0))]; exact calc_Call1.one4 f l ad c b0 b1 W h0 h1 hr (by omega) lc l2 f6 eq a0 z0
          · rw [if_neg (fun h => h.elim eq (fun h => h.elim a0 z0))]; exact calc_Call1.one5 f l ad c b0 b1 W h0 h1 hr (by omega) lc l2 f6 eq a0 z0
    · rw [if_neg f6]
      exact calc_Call1.rest f l ad c b0 b1 W h0 h1 hr (by omega) lc f6 hf hc
  · rw [if_pos lc]; exact calc_Call1.count f l A c b0 b1 W h0 h1 hr (by omega) lc
set_option maxHeartbeats 1000000 in
set_option maxRecDepth 100000 in
theorem calc_Call.plain (f : Int) (l : List S25) (A : Option Addr) (c : Nat) (w : World) (hr : Kd.C k25 w A l.length l) (hc : l.length ≤ c) (hf : ∀ v ∈ l, FitsV v) :
    Calls Try.prog 12 #[.int .i64 f, .slice A l.length c] w fun e w' => e = .returned (.tuple #[encV (outE (call f l)).1, .int .i64 (outE (call f l)).2]) ∧ Below w.heap.size w w' := by
  have hu25 := Try.underlying25
  have hmf : ∀ (fn : Fn) (first cap : Array Value) (w : World), (Instr.makeFunc fn first cap).run Try.prog w = .ok (.func fn first cap) w := fun _ _ _ _ => rfl
  have HF := Aside0.mk hf
  have HC := Aside0.mk hc
  have HR := Aside0.mk hr
  clear hf hc hr
  obtain ⟨r, hr⟩ : ∃ r, outE (call f l) = r := ⟨_, rfl⟩
  rw [hr]
  go_enter Try.func12, Try.ntmps12
  go_wp2_with fail
  obtain ⟨W, hW⟩ : ∃ W, ((w.alloc (.cells #[.int .i64 f] 3)).alloc (.cells #[.slice A l.length c] 22)).alloc (.cells #[.int .i64 0, .int .i64 0, .string (⟨#[]⟩ : ByteArray)] 25) = W := ⟨_, rfl⟩
  have F0 : W.heap[w.heap.size]? = some (.cells #[.int .i64 f] 3 (0, 0)) := by rw [← hW]; exact blk_alloc (blk_alloc (Deep.blk_alloc_new w _) _) _
  have F1 : W.heap[w.heap.size + 1]? = some (.cells #[.slice A l.length c] 22 (0, 0)) := by
    have := Deep.blk_alloc_new (w.alloc (.cells #[.int .i64 f] 3)) (.cells #[.slice A l.length c] 22)
    rw [← hW]
    exact blk_alloc (by simpa using this) _
  have F3 : W.heap[w.heap.size + 1 + 1]? = some (.cells #[.int .i64 0, .int .i64 0, .string (⟨#[]⟩ : ByteArray)] 25 (0, 0)) := by
    have := Deep.blk_alloc_new ((w.alloc (.cells #[.int .i64 f] 3)).alloc (.cells #[.slice A l.length c] 22)) (.cells #[.int .i64 0, .int .i64 0, .string (⟨#[]⟩ : ByteArray)] 25)
    rw [← hW]
    simpa using this
  have FB : Below w.heap.size w W := by rw [← hW]; exact below_alloc (below_alloc (below_alloc (Below.refl _ _) _) _) _
  have FR : Kd.C k25 W A l.length l := Kd.C_below HR.out FB
  rw [hW]
  refine (calc_caught.c _ _ W (call f l) (fun W1 hb => calc_Call1.calls f l A c _ _ W1 ((hb.block _ (blk_lt F0)).trans F0) ((hb.block _ (blk_lt F1)).trans F1) (Kd.C_below FR hb) HF.out HC.out)).mono ?_
  rintro e w1 ⟨rfl, hb⟩
  have F4 := (hb.block _ (blk_lt F3)).trans F3
  have GB := Aside0.mk (below_step FB hb)
  rw [hr]
  obtain ⟨⟨x0, x1, x2⟩, cc⟩ := r
  have g0 : w1.cell? ⟨w.heap.size + 1 + 1, 0, none⟩ = some (.int .i64 0) := (blk_cell F4 0).trans rfl
  have g1 : w1.cell? ⟨w.heap.size + 1 + 1, 1, none⟩ = some (.int .i64 0) := (blk_cell F4 1).trans rfl
  have g2 : w1.cell? ⟨w.heap.size + 1 + 1, 2, none⟩ = some (.string (⟨#[]⟩ : ByteArray)) := (blk_cell F4 2).trans rfl
  have gf0 := blk_frozen F4 0
  have gf1 := blk_frozen F4 1
  have gf2 := blk_frozen F4 2
  clear F0 F1 F3 F4 FB FR hb hW
  simp only [encV]
  go_wp2_with fail
  exact bodyPost_ret (v := .tuple #[.agg #[.int .i64 x0, .int .i64 x1, .string x2], .int .i64 cc]) (by simp [results, Try.results12, go_sem, g0, g1, g2]) rfl ⟨rfl, below_set3 GB.out (by omega) _ _ _ _ _ _⟩
def fitsB (l : List S25) : Bool := l.all fun v => decide (-9223372036854775808 ≤ v.f1) && decide (v.f1 ≤ 9223372036854775807) && decide (v.f2.size ≤ 140737488351232)
theorem fits_of {l : List S25} (h : fitsB l = true) : ∀ v ∈ l, FitsV v := by
  intro v hv
  have := List.all_eq_true.1 h v hv
  simp only [Bool.and_eq_true, decide_eq_true_eq] at this
  exact ⟨⟨this.1.1, this.1.2⟩, this.2⟩
theorem of_fits {l : List S25} (h : ∀ v ∈ l, FitsV v) : fitsB l = true := by
  refine List.all_eq_true.2 fun v hv => ?_
  obtain ⟨⟨h1, h2⟩, h3⟩ := h v hv
  simp only [Bool.and_eq_true, decide_eq_true_eq]
  exact ⟨⟨h1, h2⟩, h3⟩
def calc_Call.f (f : Int) (l : List S25) : Option (Int × Int × ByteArray × Int) := if fitsB l = true then some ((outE (call f l)).1.f0, (outE (call f l)).1.f1, (outE (call f l)).1.f2, (outE (call f l)).2) else none
end Go.Proofs.Ytfbeklbjlkgbnaa.P
end
section
namespace Go.Proofs.Ytfbeklbjlkgbnaa.P
open Go.RowKit Go.Proofs.YtfbeklbjlkgbnaaW.PrintWords Go.Proofs.YtfbeklbjlkgbnaaW.PrintLast Go.Proofs.YtfbeklbjlkgbnaaW.PrintMore
attribute [local go_sem] max2_int min2_int max_two min_two max_three min_three max_four min_four
set_option linter.unusedVariables false
set_option linter.unusedSimpArgs false
def quarryref02_Number.f (a0 : Int) : Option (Int × Int × ByteArray) := some (2, a0, (⟨#[]⟩ : ByteArray))
set_option maxHeartbeats 8000000 in
set_option maxRecDepth 100000 in
theorem quarryref02_Number.calls (a0 : Int) (r1 : Int) (r2 : Int) (r3 : ByteArray) (w : World) (h : quarryref02_Number.f a0 = some (r1, r2, r3)) :
  Calls Try.prog 34 #[.int .i64 a0] w fun e w' => e = .returned (.agg #[.int .i64 r1, .int .i64 r2, .string r3]) ∧ Below w.heap.size w w' := by
 have hu25 := Try.underlying25
 have HB := Aside0.mk (Below.refl w.heap.size w)
 have H : (some (2, a0, (⟨#[]⟩ : ByteArray))) = some (r1, r2, r3) := h
 clear h
 simp only [Option.some.injEq, Prod.mk.injEq] at H
 obtain ⟨rfl, rfl, rfl⟩ := H
 go_enter Try.func34, Try.ntmps34
 go_wp2_with (first | ((with_reducible refine gate_dst (N := 2) rfl ?_); refine box_event ?hg (N := 2) ?hd (cs := #[.int .i64 0, .int .i64 0, .string (⟨#[]⟩ : ByteArray)]) (t := 25) ?hr ?_; (case hd => rfl); (case hg => rfl); (case hr => first | (go_simp; done) | (go_simp; rfl)); intro gb125 hg w2 hbox hb; have n0_ := Aside0.mk (below_step (by repeat (first | (with_reducible first | exact HB.out | apply below_alloc | apply pw_below_drewN | apply below_drew1) | exact HB.out)) hb); have n1_ := Aside0.mk (hbox); have n2_ := Aside0.mk ((by rw [hg]; exact (below_size (by repeat (first | (with_reducible first | exact HB.out | apply below_alloc | apply pw_below_drewN | apply below_drew1) | exact HB.out))) : w.heap.size ≤ gb125)); have n3_ := Aside0.mk ((by rw [hg]; exact (below_size (by repeat (first | (with_reducible first | exact HB.out | apply below_alloc | apply pw_below_drewN | apply below_drew1) | exact HB.out))) : w.heap.size ≤ gb125)); clear HB; have HB := n0_; have BK125 := n1_; have GW125 := n2_; have GE125 := n3_; clear n0_ n1_ n2_ n3_; clear hb hbox hg; have hcz3_0 : w2.cell? ⟨gb125, 0, none⟩ = some (.int .i64 0) := (blk_cell BK125.out 0).trans rfl; have hcz3_1 : w2.cell? ⟨gb125, 1, none⟩ = some (.int .i64 0) := (blk_cell BK125.out 1).trans rfl; have hcz3_2 : w2.cell? ⟨gb125, 2, none⟩ = some (.string (⟨#[]⟩ : ByteArray)) := (blk_cell BK125.out 2).trans rfl; have hfz3_0 := blk_frozen BK125.out 0; have hfz3_1 := blk_frozen BK125.out 1; have hfz3_2 := blk_frozen BK125.out 2))
 refine bodyPost_ret (results_cell_row rfl _ _ gb125 25 #[.int .i64 2, .int .i64 a0, .string (⟨#[]⟩ : ByteArray)] (0, 0) _ rfl (by (with_reducible repeat (first | refine blk_drewN ?_ _ | refine blk_drew ?_ | refine blk_alloc ?_ _)); refine blk_put (cs := #[.int .i64 2, .int .i64 a0, .string (⟨#[]⟩ : ByteArray)]) ?_ 2 _ rfl; (with_reducible repeat (first | refine blk_drewN ?_ _ | refine blk_drew ?_ | refine blk_alloc ?_ _)); refine blk_put (cs := #[.int .i64 2, .int .i64 0, .string (⟨#[]⟩ : ByteArray)]) ?_ 1 _ rfl; (with_reducible repeat (first | refine blk_drewN ?_ _ | refine blk_drew ?_ | refine blk_alloc ?_ _)); refine blk_put (cs := #[.int .i64 0, .int .i64 0, .string (⟨#[]⟩ : ByteArray)]) ?_ 0 _ rfl; (with_reducible repeat (first | refine blk_drewN ?_ _ | refine blk_drew ?_ | refine blk_alloc ?_ _)); exact BK125.out) Try.underlying25 rfl (by kernel_rfl)) rfl ?_
 exact ⟨by first | rfl | (simp [errW_none, errW_some] <;> rfl) | (simp [*, errW_none, errW_some] <;> rfl), by repeat (first | (with_reducible first | exact HB.out | apply below_alloc | apply pw_below_drewN | apply below_drew1 | refine below_set ?_ GE125.out) | exact HB.out)⟩
def quarryref02_Truth.f (a0 : Bool) : Option (Int × Int × ByteArray) := if a0 = true then (some (1, 1, (⟨#[]⟩ : ByteArray))) else (some (1, 0, (⟨#[]⟩ : ByteArray)))
set_option maxHeartbeats 8000000 in
set_option maxRecDepth 100000 in
theorem quarryref02_Truth.calls (a0 : Bool) (r1 : Int) (r2 : Int) (r3 : ByteArray) (w : World) (h : quarryref02_Truth.f a0 = some (r1, r2, r3)) :
  Calls Try.prog 49 #[.bool a0] w fun e w' => e = .returned (.agg #[.int .i64 r1, .int .i64 r2, .string r3]) ∧ Below w.heap.size w w' := by
 have hu25 := Try.underlying25
 have HB := Aside0.mk (Below.refl w.heap.size w)
 have H : (if a0 = true then (some (1, 1, (⟨#[]⟩ : ByteArray))) else (some (1, 0, (⟨#[]⟩ : ByteArray)))) = some (r1, r2, r3) := h
 clear h
 by_cases c2 : a0 = true
 ·subst c2
  have H1 : (some (1, 1, (⟨#[]⟩ : ByteArray))) = some (r1, r2, r3) := by rw [if_pos rfl] at H; exact H
  clear H
  have H := H1
  clear H1
  simp only [Option.some.injEq, Prod.mk.injEq] at H
  obtain ⟨rfl, rfl, rfl⟩ := H
  go_enter Try.func49, Try.ntmps49
  go_wp2_with (first | ((with_reducible refine gate_dst (N := 2) rfl ?_); refine box_event ?hg (N := 2) ?hd (cs := #[.int .i64 0, .int .i64 0, .string (⟨#[]⟩ : ByteArray)]) (t := 25) ?hr ?_; (case hd => rfl); (case hg => rfl); (case hr => first | (go_simp; done) | (go_simp; rfl)); intro gb126 hg w3 hbox hb; have n0_ := Aside0.mk (below_step (by repeat (first | (with_reducible first | exact HB.out | apply below_alloc | apply pw_below_drewN | apply below_drew1) | exact HB.out)) hb); have n1_ := Aside0.mk (hbox); have n2_ := Aside0.mk ((by rw [hg]; exact (below_size (by repeat (first | (with_reducible first | exact HB.out | apply below_alloc | apply pw_below_drewN | apply below_drew1) | exact HB.out))) : w.heap.size ≤ gb126)); have n3_ := Aside0.mk ((by rw [hg]; exact (below_size (by repeat (first | (with_reducible first | exact HB.out | apply below_alloc | apply pw_below_drewN | apply below_drew1) | exact HB.out))) : w.heap.size ≤ gb126)); clear HB; have HB := n0_; have BK126 := n1_; have GW126 := n2_; have GE126 := n3_; clear n0_ n1_ n2_ n3_; clear hb hbox hg; have hcz4_0 : w3.cell? ⟨gb126, 0, none⟩ = some (.int .i64 0) := (blk_cell BK126.out 0).trans rfl; have hcz4_1 : w3.cell? ⟨gb126, 1, none⟩ = some (.int .i64 0) := (blk_cell BK126.out 1).trans rfl; have hcz4_2 : w3.cell? ⟨gb126, 2, none⟩ = some (.string (⟨#[]⟩ : ByteArray)) := (blk_cell BK126.out 2).trans rfl; have hfz4_0 := blk_frozen BK126.out 0; have hfz4_1 := blk_frozen BK126.out 1; have hfz4_2 := blk_frozen BK126.out 2))
  refine bodyPost_ret (results_cell_row rfl _ _ gb126 25 #[.int .i64 1, .int .i64 1, .string (⟨#[]⟩ : ByteArray)] (0, 0) _ rfl (by (with_reducible repeat (first | refine blk_drewN ?_ _ | refine blk_drew ?_ | refine blk_alloc ?_ _)); refine blk_put (cs := #[.int .i64 1, .int .i64 1, .string (⟨#[]⟩ : ByteArray)]) ?_ 2 _ rfl; (with_reducible repeat (first | refine blk_drewN ?_ _ | refine blk_drew ?_ | refine blk_alloc ?_ _)); refine blk_put (cs := #[.int .i64 1, .int .i64 0, .string (⟨#[]⟩ : ByteArray)]) ?_ 1 _ rfl; (with_reducible repeat (first | refine blk_drewN ?_ _ | refine blk_drew ?_ | refine blk_alloc ?_ _)); refine blk_put (cs := #[.int .i64 0, .int .i64 0, .string (⟨#[]⟩ : ByteArray)]) ?_ 0 _ rfl; (with_reducible repeat (first | refine blk_drewN ?_ _ | refine blk_drew ?_ | refine blk_alloc ?_ _)); exact BK126.out) Try.underlying25 rfl (by kernel_rfl)) rfl ?_
  exact ⟨by first | rfl | (simp [errW_none, errW_some] <;> rfl) | (simp [*, errW_none, errW_some] <;> rfl), by repeat (first | (with_reducible first | exact HB.out | apply below_alloc | apply pw_below_drewN | apply below_drew1 | refine below_set ?_ GE126.out) | exact HB.out)⟩
 ·replace c2 := Bool.eq_false_iff.mpr c2
  subst c2
  have H1 : (some (1, 0, (⟨#[]⟩ : ByteArray))) = some (r1, r2, r3) := by rw [if_neg (show ¬ (false = true) by decide)] at H; exact H
  clear H
  have H := H1
  clear H1
  simp only [Option.some.injEq, Prod.mk.injEq] at H
  obtain ⟨rfl, rfl, rfl⟩ := H
  go_enter Try.func49, Try.ntmps49
  go_wp2_with (first | ((with_reducible refine gate_dst (N := 2) rfl ?_); refine box_event ?hg (N := 2) ?hd (cs := #[.int .i64 0, .int .i64 0, .string (⟨#[]⟩ : ByteArray)]) (t := 25) ?hr ?_; (case hd => rfl); (case hg => rfl); (case hr => first | (go_simp; done) | (go_simp; rfl)); intro gb126 hg w5 hbox hb; have n0_ := Aside0.mk (below_step (by repeat (first | (with_reducible first | exact HB.out | apply below_alloc | apply pw_below_drewN | apply below_drew1) | exact HB.out)) hb); have n1_ := Aside0.mk (hbox); have n2_ := Aside0.mk ((by rw [hg]; exact (below_size (by repeat (first | (with_reducible first | exact HB.out | apply below_alloc | apply pw_below_drewN | apply below_drew1) | exact HB.out))) : w.heap.size ≤ gb126)); have n3_ := Aside0.mk ((by rw [hg]; exact (below_size (by repeat (first | (with_reducible first | exact HB.out | apply below_alloc | apply pw_below_drewN | apply below_drew1) | exact HB.out))) : w.heap.size ≤ gb126)); clear HB; have HB := n0_; have BK126 := n1_; have GW126 := n2_; have GE126 := n3_; clear n0_ n1_ n2_ n3_; clear hb hbox hg; have hcz6_0 : w5.cell? ⟨gb126, 0, none⟩ = some (.int .i64 0) := (blk_cell BK126.out 0).trans rfl; have hcz6_1 : w5.cell? ⟨gb126, 1, none⟩ = some (.int .i64 0) := (blk_cell BK126.out 1).trans rfl; have hcz6_2 : w5.cell? ⟨gb126, 2, none⟩ = some (.string (⟨#[]⟩ : ByteArray)) := (blk_cell BK126.out 2).trans rfl; have hfz6_0 := blk_frozen BK126.out 0; have hfz6_1 := blk_frozen BK126.out 1; have hfz6_2 := blk_frozen BK126.out 2))
  refine bodyPost_ret (results_cell_row rfl _ _ gb126 25 #[.int .i64 1, .int .i64 0, .string (⟨#[]⟩ : ByteArray)] (0, 0) _ rfl (by (with_reducible repeat (first | refine blk_drewN ?_ _ | refine blk_drew ?_ | refine blk_alloc ?_ _)); refine blk_put (cs := #[.int .i64 1, .int .i64 0, .string (⟨#[]⟩ : ByteArray)]) ?_ 2 _ rfl; (with_reducible repeat (first | refine blk_drewN ?_ _ | refine blk_drew ?_ | refine blk_alloc ?_ _)); refine blk_put (cs := #[.int .i64 1, .int .i64 0, .string (⟨#[]⟩ : ByteArray)]) ?_ 1 _ rfl; (with_reducible repeat (first | refine blk_drewN ?_ _ | refine blk_drew ?_ | refine blk_alloc ?_ _)); refine blk_put (cs := #[.int .i64 0, .int .i64 0, .string (⟨#[]⟩ : ByteArray)]) ?_ 0 _ rfl; (with_reducible repeat (first | refine blk_drewN ?_ _ | refine blk_drew ?_ | refine blk_alloc ?_ _)); exact BK126.out) Try.underlying25 rfl (by kernel_rfl)) rfl ?_
  exact ⟨by first | rfl | (simp [errW_none, errW_some] <;> rfl) | (simp [*, errW_none, errW_some] <;> rfl), by repeat (first | (with_reducible first | exact HB.out | apply below_alloc | apply pw_below_drewN | apply below_drew1 | refine below_set ?_ GE126.out) | exact HB.out)⟩
mutual
def quarryref02_Unary.j0 : Nat → Int → Bool → Int → Int → ByteArray → Option (Int × Int × ByteArray × Int)
 | 0, _, _, _, _, _ => none
 | k + 1, x0, x6, x128000, x128001, x128002 => if x6 = true then (some (0, 0, (⟨#[]⟩ : ByteArray), 5)) else (if x128000 = 0 then (some (0, 0, (⟨#[]⟩ : ByteArray), 0)) else (if x0 = 1 then (quarryref02_Unary.j1 k x0 (x128000 != 2) x128000 x128001 x128002) else (quarryref02_Unary.j1 k x0 false x128000 x128001 x128002)))
def quarryref02_Unary.j1 : Nat → Int → Bool → Int → Int → ByteArray → Option (Int × Int × ByteArray × Int)
 | 0, _, _, _, _, _ => none
 | k + 1, x0, x19, x128000, x128001, x128002 => if x19 = true then (quarryref02_Unary.j2 k x0 x19 x128000 x128001 x128002) else (if x0 = 2 then (quarryref02_Unary.j2 k x0 (x128000 != 1) x128000 x128001 x128002) else (quarryref02_Unary.j2 k x0 false x128000 x128001 x128002))
def quarryref02_Unary.j2 : Nat → Int → Bool → Int → Int → ByteArray → Option (Int × Int × ByteArray × Int)
 | 0, _, _, _, _, _ => none
 | k + 1, x0, x19, x128000, x128001, x128002 => if x19 = true then (some (0, 0, (⟨#[]⟩ : ByteArray), 35)) else (if x0 = 2 then ((quarryref02_Truth.f (x128001 == 0)).bind fun bt129 => (some (bt129.1, bt129.2.1, bt129.2.2, 0))) else (if x128001 = (-9223372036854775808) then (some (0, 0, (⟨#[]⟩ : ByteArray), 40)) else ((quarryref02_Number.f (wrap64 (-x128001))).bind fun bt132 => (some (bt132.1, bt132.2.1, bt132.2.2, 0)))))
end
def quarryref02_Unary.f (k : Nat) (a0 : Int) (a1_0 : Int) (a1_1 : Int) (a1_2 : ByteArray) : Option (Int × Int × ByteArray × Int) := if a0 = 1 then (quarryref02_Unary.j0 k a0 false a1_0 a1_1 a1_2) else (quarryref02_Unary.j0 k a0 (a0 != 2) a1_0 a1_1 a1_2)
set_option maxHeartbeats 8000000 in
set_option maxRecDepth 100000 in
theorem quarryref02_Unary.calls (k : Nat) (a0 : Int) (a1_0 : Int) (a1_1 : Int) (a1_2 : ByteArray) (r1 : Int) (r2 : Int) (r3 : ByteArray) (r4 : Int) (w : World) (h : quarryref02_Unary.f k a0 a1_0 a1_1 a1_2 = some (r1, r2, r3, r4)) :
  Calls Try.prog 20 #[.int .i64 a0, .agg #[.int .i64 a1_0, .int .i64 a1_1, .string a1_2]] w fun e w' => e = .returned (.tuple #[.agg #[.int .i64 r1, .int .i64 r2, .string r3], .int .i64 r4]) ∧ Below w.heap.size w w' := by
 have hu25 := Try.underlying25
 have HB := Aside0.mk (Below.refl w.heap.size w)
 have H : (if a0 = 1 then (quarryref02_Unary.j0 k a0 false a1_0 a1_1 a1_2) else (quarryref02_Unary.j0 k a0 (a0 != 2) a1_0 a1_1 a1_2)) = some (r1, r2, r3, r4) := h
 clear h
 have HC3 := Aside0.mk H
 clear H
 go_enter Try.func20, Try.ntmps20
 go_upto_region 1 with (first | ((with_reducible refine gate_dst (N := 3) rfl ?_); refine box_event ?hg (N := 3) ?hd (cs := #[.int .i64 a1_0, .int .i64 a1_1, .string a1_2]) (t := 25) ?hr ?_; (case hd => rfl); (case hg => rfl); (case hr => first | (go_simp; done) | (go_simp; rfl)); intro gb127 hg w4 hbox hb; have n0_ := Aside0.mk (below_step (by repeat (first | (with_reducible first | exact HB.out | apply below_alloc | apply pw_below_drewN | apply below_drew1) | exact HB.out)) hb); have n1_ := Aside0.mk (hbox); have n2_ := Aside0.mk ((by rw [hg]; exact (below_size (by repeat (first | (with_reducible first | exact HB.out | apply below_alloc | apply pw_below_drewN | apply below_drew1) | exact HB.out))) : w.heap.size ≤ gb127)); have n3_ := Aside0.mk ((by rw [hg]; exact (below_size (by repeat (first | (with_reducible first | exact HB.out | apply below_alloc | apply pw_below_drewN | apply below_drew1) | exact HB.out))) : w.heap.size ≤ gb127)); clear HB; have HB := n0_; have BK127 := n1_; have GW127 := n2_; have GE127 := n3_; clear n0_ n1_ n2_ n3_; clear hb hbox hg) | ((with_reducible refine gate_dst (N := 4) rfl ?_); refine box_event ?hg (N := 4) ?hd (cs := #[.int .i64 0, .int .i64 0, .string (⟨#[]⟩ : ByteArray)]) (t := 25) ?hr ?_; (case hd => rfl); (case hg => rfl); (case hr => first | (go_simp; done) | (go_simp; rfl)); intro gb128 hg w5 hbox hb; have n0_ := Aside0.mk (blk_below (g := gb127) (o := .cells #[.int .i64 a1_0, .int .i64 a1_1, .string a1_2] 25 (0, 0)) (bk_ BK127) hb); have n1_ := Aside0.mk (below_step (by repeat (first | (with_reducible first | exact HB.out | apply below_alloc | apply pw_below_drewN | apply below_drew1 | refine below_set ?_ GE127.out) | exact HB.out)) hb); have n2_ := Aside0.mk (hbox); have n3_ := Aside0.mk ((by rw [hg]; exact (below_size (by repeat (first | (with_reducible first | exact HB.out | apply below_alloc | apply pw_below_drewN | apply below_drew1 | refine below_set ?_ GE127.out) | exact HB.out))) : w.heap.size ≤ gb128)); have n4_ := Aside0.mk ((by rw [hg]; exact (below_size (by repeat (first | (with_reducible first | exact HB.out | apply below_alloc | apply pw_below_drewN | apply below_drew1 | refine below_set ?_ GE127.out) | exact HB.out))) : w.heap.size ≤ gb128)); have n5_ := Aside0.mk ((by rw [hg]; exact Nat.ne_of_lt (blk_lt (g := gb127) (o := .cells #[.int .i64 a1_0, .int .i64 a1_1, .string a1_2] 25 (0, 0)) (bk_ BK127)) : gb127 ≠ gb128)); have n6_ := Aside0.mk ((by rw [hg]; exact Nat.ne_of_gt (blk_lt (g := gb127) (o := .cells #[.int .i64 a1_0, .int .i64 a1_1, .string a1_2] 25 (0, 0)) (bk_ BK127)) : gb128 ≠ gb127)); clear BK127; clear HB; have BK127 := n0_; have HB := n1_; have BK128 := n2_; have GW128 := n3_; have GE128 := n4_; have NB127_128 := n5_; have NB128_127 := n6_; clear n0_ n1_ n2_ n3_ n4_ n5_ n6_; clear hb hbox hg))
 (try simp only [Act.put, List.setIfInBounds_toArray, List.set_cons_zero, List.set_cons_succ])
 go_cut [6] (fun v6 wc => ∃ (kq : Nat) (x6_2 : Bool), v6 = .bool x6_2 ∧ Aside0 (quarryref02_Unary.j0 kq a0 x6_2 a1_0 a1_1 a1_2 = some (r1, r2, r3, r4)) ∧ Aside0 (kq ≤ k) ∧ Aside0 (wc.heap[gb127]? = some (.cells #[.int .i64 a1_0, .int .i64 a1_1, .string a1_2] 25 (0, 0))) ∧ Aside0 (wc.heap[gb128]? = some (.cells #[.int .i64 0, .int .i64 0, .string (⟨#[]⟩ : ByteArray)] 25 (0, 0))) ∧ Aside0 (Below w.heap.size w wc))
 case first =>
  have H := HC3.out
  clear HC3
  by_cases c6 : a0 = 1
  ·rw [if_pos c6] at H
   have c6b0 : (a0 == 1) = true := beq_iff_eq.mpr c6
   have c6b1 : (a0 != 1) = false := bne_eq_false_iff_eq.mpr c6
   clear c6
   (first | rw [c6b0] | (simp only [i64_w, i32_w]; rw [c6b0]) | skip)
   have H' := Aside0.mk H
   clear H
   go_wp2
   go_meet
   case rel => exact ⟨_, (false), (by first | rfl | (simp; done) | (simp [*]; done)), H', ⟨by first | omega | exact Nat.le_refl _⟩, ⟨by (with_reducible repeat (first | refine blk_drewN ?_ _ | refine blk_drew ?_ | refine blk_alloc ?_ _)); exact BK127.out⟩, ⟨by (with_reducible repeat (first | refine blk_drewN ?_ _ | refine blk_drew ?_ | refine blk_alloc ?_ _)); exact BK128.out⟩, ⟨by repeat (first | (with_reducible first | exact HB.out | apply below_alloc | apply pw_below_drewN | apply below_drew1 | refine below_set ?_ GE127.out | refine below_set ?_ GE128.out) | exact HB.out)⟩⟩
  ·rw [if_neg c6] at H
   have c6b0 : (a0 == 1) = false := beq_eq_false_iff_ne.mpr c6
   have c6b1 : (a0 != 1) = true := bne_iff_ne.mpr c6
   (first | rw [c6b0] | (simp only [i64_w, i32_w]; rw [c6b0]) | skip)
   have H' := Aside0.mk H
   clear H
   go_wp2
   go_meet
   case rel => exact ⟨_, ((a0 != 2)), (by first | rfl | (simp; done) | (simp [*]; done)), H', ⟨by first | omega | exact Nat.le_refl _⟩, ⟨by (with_reducible repeat (first | refine blk_drewN ?_ _ | refine blk_drew ?_ | refine blk_alloc ?_ _)); exact BK127.out⟩, ⟨by (with_reducible repeat (first | refine blk_drewN ?_ _ | refine blk_drew ?_ | refine blk_alloc ?_ _)); exact BK128.out⟩, ⟨by repeat (first | (with_reducible first | exact HB.out | apply below_alloc | apply pw_below_drewN | apply below_drew1 | refine below_set ?_ GE127.out | refine below_set ?_ GE128.out) | exact HB.out)⟩⟩
 case rest =>
  clear HC3
  try clear c2
  try clear p2
  try clear c6
  try clear c6b0
  try clear c6b1
  obtain ⟨kq, x6_2, rfl, HA, HJ2, BK127, BK128, HB⟩ := hcut
  cases kq with
  | zero => exact absurd HA.out (by simp [quarryref02_Unary.j0])
  | succ kj2 =>
   have H := HA.out
   clear HA
   simp only [quarryref02_Unary.j0] at H
   by_cases c7 : x6_2 = true
   ·subst c7
    have H1 : (some (0, 0, (⟨#[]⟩ : ByteArray), 5)) = some (r1, r2, r3, r4) := by rw [if_pos rfl] at H; exact H
    clear H
    have H := H1
    clear H1
    simp only [Option.some.injEq, Prod.mk.injEq] at H
    obtain ⟨rfl, rfl, rfl, rfl⟩ := H
    have hnb8 := NB128_127.out
    have hnc8 := NB127_128.out
    have hcz9_0 : wc.cell? ⟨gb128, 0, none⟩ = some (.int .i64 0) := (blk_cell BK128.out 0).trans rfl
    have hcz9_1 : wc.cell? ⟨gb128, 1, none⟩ = some (.int .i64 0) := (blk_cell BK128.out 1).trans rfl
    have hcz9_2 : wc.cell? ⟨gb128, 2, none⟩ = some (.string (⟨#[]⟩ : ByteArray)) := (blk_cell BK128.out 2).trans rfl
    have hfz9_0 := blk_frozen BK128.out 0
    have hfz9_1 := blk_frozen BK128.out 1
    have hfz9_2 := blk_frozen BK128.out 2
    go_wp2
    refine bodyPost_ret (results_ct rfl _ _ gb128 25 #[.int .i64 0, .int .i64 0, .string (⟨#[]⟩ : ByteArray)] (0, 0) _ rfl (by (with_reducible repeat (first | refine blk_drewN ?_ _ | refine blk_drew ?_ | refine blk_alloc ?_ _)); refine blk_put (cs := #[.int .i64 0, .int .i64 0, .string (⟨#[]⟩ : ByteArray)]) ?_ 2 _ rfl; (with_reducible repeat (first | refine blk_drewN ?_ _ | refine blk_drew ?_ | refine blk_alloc ?_ _)); refine blk_put (cs := #[.int .i64 0, .int .i64 0, .string (⟨#[]⟩ : ByteArray)]) ?_ 1 _ rfl; (with_reducible repeat (first | refine blk_drewN ?_ _ | refine blk_drew ?_ | refine blk_alloc ?_ _)); refine blk_put (cs := #[.int .i64 0, .int .i64 0, .string (⟨#[]⟩ : ByteArray)]) ?_ 0 _ rfl; (with_reducible repeat (first | refine blk_drewN ?_ _ | refine blk_drew ?_ | refine blk_alloc ?_ _)); exact BK128.out) Try.underlying25 rfl (by kernel_rfl)) rfl ?_
    exact ⟨by first | rfl | (simp [errW_none, errW_some] <;> rfl) | (simp [*, errW_none, errW_some] <;> rfl), by repeat (first | (with_reducible first | exact HB.out | apply below_alloc | apply pw_below_drewN | apply below_drew1 | refine below_set ?_ GE127.out | refine below_set ?_ GE128.out) | exact HB.out)⟩
   ·replace c7 := Bool.eq_false_iff.mpr c7
    subst c7
    have H1 : (if a1_0 = 0 then (some (0, 0, (⟨#[]⟩ : ByteArray), 0)) else (if a0 = 1 then (quarryref02_Unary.j1 kj2 a0 (a1_0 != 2) a1_0 a1_1 a1_2) else (quarryref02_Unary.j1 kj2 a0 false a1_0 a1_1 a1_2))) = some (r1, r2, r3, r4) := by rw [if_neg (show ¬ (false = true) by decide)] at H; exact H
    clear H
    have H := H1
    clear H1
    by_cases c10 : a1_0 = 0
    ·rw [if_pos c10] at H
     have c10b0 : (a1_0 == 0) = true := beq_iff_eq.mpr c10
     have c10b1 : (a1_0 != 0) = false := bne_eq_false_iff_eq.mpr c10
     clear c10
     simp only [Option.some.injEq, Prod.mk.injEq] at H
     obtain ⟨rfl, rfl, rfl, rfl⟩ := H
     have hnb11 := NB127_128.out
     have hnc11 := NB128_127.out
     have hcz12_0 : wc.cell? ⟨gb127, 0, none⟩ = some (.int .i64 a1_0) := (blk_cell BK127.out 0).trans rfl
     have hcz12_1 : wc.cell? ⟨gb127, 1, none⟩ = some (.int .i64 a1_1) := (blk_cell BK127.out 1).trans rfl
     have hcz12_2 : wc.cell? ⟨gb127, 2, none⟩ = some (.string a1_2) := (blk_cell BK127.out 2).trans rfl
     have hfz12_0 := blk_frozen BK127.out 0
     have hfz12_1 := blk_frozen BK127.out 1
     have hfz12_2 := blk_frozen BK127.out 2
     have hcz13_0 : wc.cell? ⟨gb128, 0, none⟩ = some (.int .i64 0) := (blk_cell BK128.out 0).trans rfl
     have hcz13_1 : wc.cell? ⟨gb128, 1, none⟩ = some (.int .i64 0) := (blk_cell BK128.out 1).trans rfl
     have hcz13_2 : wc.cell? ⟨gb128, 2, none⟩ = some (.string (⟨#[]⟩ : ByteArray)) := (blk_cell BK128.out 2).trans rfl
     have hfz13_0 := blk_frozen BK128.out 0
     have hfz13_1 := blk_frozen BK128.out 1
     have hfz13_2 := blk_frozen BK128.out 2
     go_wp2
     refine bodyPost_ret (results_ct rfl _ _ gb128 25 #[.int .i64 0, .int .i64 0, .string (⟨#[]⟩ : ByteArray)] (0, 0) _ rfl (by (with_reducible repeat (first | refine blk_drewN ?_ _ | refine blk_drew ?_ | refine blk_alloc ?_ _)); refine blk_put (cs := #[.int .i64 0, .int .i64 0, .string (⟨#[]⟩ : ByteArray)]) ?_ 2 _ rfl; (with_reducible repeat (first | refine blk_drewN ?_ _ | refine blk_drew ?_ | refine blk_alloc ?_ _)); refine blk_put (cs := #[.int .i64 0, .int .i64 0, .string (⟨#[]⟩ : ByteArray)]) ?_ 1 _ rfl; (with_reducible repeat (first | refine blk_drewN ?_ _ | refine blk_drew ?_ | refine blk_alloc ?_ _)); refine blk_put (cs := #[.int .i64 0, .int .i64 0, .string (⟨#[]⟩ : ByteArray)]) ?_ 0 _ rfl; (with_reducible repeat (first | refine blk_drewN ?_ _ | refine blk_drew ?_ | refine blk_alloc ?_ _)); exact BK128.out) Try.underlying25 rfl (by kernel_rfl)) rfl ?_
     exact ⟨by first | rfl | (simp [errW_none, errW_some] <;> rfl) | (simp [*, errW_none, errW_some] <;> rfl), by repeat (first | (with_reducible first | exact HB.out | apply below_alloc | apply pw_below_drewN | apply below_drew1 | refine below_set ?_ GE127.out | refine below_set ?_ GE128.out) | exact HB.out)⟩
    ·rw [if_neg c10] at H
     have c10b0 : (a1_0 == 0) = false := beq_eq_false_iff_ne.mpr c10
     have c10b1 : (a1_0 != 0) = true := bne_iff_ne.mpr c10
     have HC14 := Aside0.mk H
     clear H
     have hnb15 := NB127_128.out
     have hnc15 := NB128_127.out
     have hcz16_0 : wc.cell? ⟨gb127, 0, none⟩ = some (.int .i64 a1_0) := (blk_cell BK127.out 0).trans rfl
     have hcz16_1 : wc.cell? ⟨gb127, 1, none⟩ = some (.int .i64 a1_1) := (blk_cell BK127.out 1).trans rfl
     have hcz16_2 : wc.cell? ⟨gb127, 2, none⟩ = some (.string a1_2) := (blk_cell BK127.out 2).trans rfl
     have hfz16_0 := blk_frozen BK127.out 0
     have hfz16_1 := blk_frozen BK127.out 1
     have hfz16_2 := blk_frozen BK127.out 2
     go_upto_region 5 with (fail)
     go_cut [19] (fun v19 wc => ∃ (kq : Nat) (x19_13 : Bool), v19 = .bool x19_13 ∧ Aside0 (quarryref02_Unary.j1 kq a0 x19_13 a1_0 a1_1 a1_2 = some (r1, r2, r3, r4)) ∧ Aside0 (kq ≤ kj2) ∧ Aside0 (wc.heap[gb127]? = some (.cells #[.int .i64 a1_0, .int .i64 a1_1, .string a1_2] 25 (0, 0))) ∧ Aside0 (wc.heap[gb128]? = some (.cells #[.int .i64 0, .int .i64 0, .string (⟨#[]⟩ : ByteArray)] 25 (0, 0))) ∧ Aside0 (Below w.heap.size w wc))
     case first =>
      have H := HC14.out
      clear HC14
      by_cases c17 : a0 = 1
      ·rw [if_pos c17] at H
       have c17b0 : (a0 == 1) = true := beq_iff_eq.mpr c17
       have c17b1 : (a0 != 1) = false := bne_eq_false_iff_eq.mpr c17
       clear c17
       (first | rw [c17b0] | (simp only [i64_w, i32_w]; rw [c17b0]) | skip)
       have H' := Aside0.mk H
       clear H
       have hnb18 := NB127_128.out
       have hnc18 := NB128_127.out
       have hcz19_0 : wc.cell? ⟨gb127, 0, none⟩ = some (.int .i64 a1_0) := (blk_cell BK127.out 0).trans rfl
       have hcz19_1 : wc.cell? ⟨gb127, 1, none⟩ = some (.int .i64 a1_1) := (blk_cell BK127.out 1).trans rfl
       have hcz19_2 : wc.cell? ⟨gb127, 2, none⟩ = some (.string a1_2) := (blk_cell BK127.out 2).trans rfl
       have hfz19_0 := blk_frozen BK127.out 0
       have hfz19_1 := blk_frozen BK127.out 1
       have hfz19_2 := blk_frozen BK127.out 2
       go_wp2
       go_meet
       case rel => exact ⟨_, ((a1_0 != 2)), (by first | rfl | (simp; done) | (simp [*]; done)), H', ⟨by have := HJ2.out; first | omega | exact Nat.le_refl _⟩, ⟨by (with_reducible repeat (first | refine blk_drewN ?_ _ | refine blk_drew ?_ | refine blk_alloc ?_ _)); exact BK127.out⟩, ⟨by (with_reducible repeat (first | refine blk_drewN ?_ _ | refine blk_drew ?_ | refine blk_alloc ?_ _)); exact BK128.out⟩, ⟨by repeat (first | (with_reducible first | exact HB.out | apply below_alloc | apply pw_below_drewN | apply below_drew1 | refine below_set ?_ GE127.out | refine below_set ?_ GE128.out) | exact HB.out)⟩⟩
      ·rw [if_neg c17] at H
       have c17b0 : (a0 == 1) = false := beq_eq_false_iff_ne.mpr c17
       have c17b1 : (a0 != 1) = true := bne_iff_ne.mpr c17
       (first | rw [c17b0] | (simp only [i64_w, i32_w]; rw [c17b0]) | skip)
       have H' := Aside0.mk H
       clear H
       go_wp2
       go_meet
       case rel => exact ⟨_, (false), (by first | rfl | (simp; done) | (simp [*]; done)), H', ⟨by have := HJ2.out; first | omega | exact Nat.le_refl _⟩, ⟨by (with_reducible repeat (first | refine blk_drewN ?_ _ | refine blk_drew ?_ | refine blk_alloc ?_ _)); exact BK127.out⟩, ⟨by (with_reducible repeat (first | refine blk_drewN ?_ _ | refine blk_drew ?_ | refine blk_alloc ?_ _)); exact BK128.out⟩, ⟨by repeat (first | (with_reducible first | exact HB.out | apply below_alloc | apply pw_below_drewN | apply below_drew1 | refine below_set ?_ GE127.out | refine below_set ?_ GE128.out) | exact HB.out)⟩⟩
     case rest =>
      clear HC14
      try clear c1
      try clear c2
      try clear p2
      try clear c6
      try clear c6b0
      try clear c6b1
      try clear c7
      try clear c8
      try clear c10
      try clear c10b0
      try clear c10b1
      try clear c11
      try clear c15
      try clear c17
      try clear c17b0
      try clear c17b1
      try clear c18
      try clear hcz12_0
      try clear hcz12_1
      try clear hcz12_2
      try clear hcz13_0
      try clear hcz13_1
      try clear hcz13_2
      try clear hcz16_0
      try clear hcz16_1
      try clear hcz16_2
      try clear hcz19_0
      try clear hcz19_1
      try clear hcz19_2
      try clear hcz9_0
      try clear hcz9_1
      try clear hcz9_2
      try clear hfz12_0
      try clear hfz12_1
      try clear hfz12_2
      try clear hfz13_0
      try clear hfz13_1
      try clear hfz13_2
      try clear hfz16_0
      try clear hfz16_1
      try clear hfz16_2
      try clear hfz19_0
      try clear hfz19_1
      try clear hfz19_2
      try clear hfz9_0
      try clear hfz9_1
      try clear hfz9_2
      try clear p2
      obtain ⟨kq, x19_13, rfl, HA, HJ13, BK127, BK128, HB⟩ := hcut
      cases kq with
      | zero => exact absurd HA.out (by simp [quarryref02_Unary.j1])
      | succ kj13 =>
       have H := HA.out
       clear HA
       simp only [quarryref02_Unary.j1] at H
       have HC20 := Aside0.mk H
       clear H
       go_upto_if 19 with (fail)
       go_cut [19] (fun v19 wc => ∃ (kq : Nat) (x19_19 : Bool), v19 = .bool x19_19 ∧ Aside0 (quarryref02_Unary.j2 kq a0 x19_19 a1_0 a1_1 a1_2 = some (r1, r2, r3, r4)) ∧ Aside0 (kq ≤ kj13) ∧ Aside0 (wc.heap[gb127]? = some (.cells #[.int .i64 a1_0, .int .i64 a1_1, .string a1_2] 25 (0, 0))) ∧ Aside0 (wc.heap[gb128]? = some (.cells #[.int .i64 0, .int .i64 0, .string (⟨#[]⟩ : ByteArray)] 25 (0, 0))) ∧ Aside0 (Below w.heap.size w wc))
       case first =>
        have H := HC20.out
        clear HC20
        by_cases c21 : x19_13 = true
        ·subst c21
         have H1 : (quarryref02_Unary.j2 kj13 a0 true a1_0 a1_1 a1_2) = some (r1, r2, r3, r4) := by rw [if_pos rfl] at H; exact H
         clear H
         have H := H1
         clear H1
         have H' := Aside0.mk H
         clear H
         go_wp2
         go_meet
         case rel => exact ⟨_, (true), (by first | rfl | (simp; done) | (simp [*]; done)), H', ⟨by have := HJ2.out; have := HJ13.out; first | omega | exact Nat.le_refl _⟩, ⟨by (with_reducible repeat (first | refine blk_drewN ?_ _ | refine blk_drew ?_ | refine blk_alloc ?_ _)); exact BK127.out⟩, ⟨by (with_reducible repeat (first | refine blk_drewN ?_ _ | refine blk_drew ?_ | refine blk_alloc ?_ _)); exact BK128.out⟩, ⟨by repeat (first | (with_reducible first | exact HB.out | apply below_alloc | apply pw_below_drewN | apply below_drew1 | refine below_set ?_ GE127.out | refine below_set ?_ GE128.out) | exact HB.out)⟩⟩
        ·replace c21 := Bool.eq_false_iff.mpr c21
         subst c21
         have H1 : (if a0 = 2 then (quarryref02_Unary.j2 kj13 a0 (a1_0 != 1) a1_0 a1_1 a1_2) else (quarryref02_Unary.j2 kj13 a0 false a1_0 a1_1 a1_2)) = some (r1, r2, r3, r4) := by rw [if_neg (show ¬ (false = true) by decide)] at H; exact H
         clear H
         have H := H1
         clear H1
         by_cases c22 : a0 = 2
         ·rw [if_pos c22] at H
          have c22b0 : (a0 == 2) = true := beq_iff_eq.mpr c22
          have c22b1 : (a0 != 2) = false := bne_eq_false_iff_eq.mpr c22
          clear c22
          (first | rw [c22b0] | (simp only [i64_w, i32_w]; rw [c22b0]) | skip)
          have H' := Aside0.mk H
          clear H
          have hnb23 := NB127_128.out
          have hnc23 := NB128_127.out
          have hcz24_0 : wc.cell? ⟨gb127, 0, none⟩ = some (.int .i64 a1_0) := (blk_cell BK127.out 0).trans rfl
          have hcz24_1 : wc.cell? ⟨gb127, 1, none⟩ = some (.int .i64 a1_1) := (blk_cell BK127.out 1).trans rfl
          have hcz24_2 : wc.cell? ⟨gb127, 2, none⟩ = some (.string a1_2) := (blk_cell BK127.out 2).trans rfl
          have hfz24_0 := blk_frozen BK127.out 0
          have hfz24_1 := blk_frozen BK127.out 1
          have hfz24_2 := blk_frozen BK127.out 2
          go_wp2
          go_meet
          case rel => exact ⟨_, ((a1_0 != 1)), (by first | rfl | (simp; done) | (simp [*]; done)), H', ⟨by have := HJ2.out; have := HJ13.out; first | omega | exact Nat.le_refl _⟩, ⟨by (with_reducible repeat (first | refine blk_drewN ?_ _ | refine blk_drew ?_ | refine blk_alloc ?_ _)); exact BK127.out⟩, ⟨by (with_reducible repeat (first | refine blk_drewN ?_ _ | refine blk_drew ?_ | refine blk_alloc ?_ _)); exact BK128.out⟩, ⟨by repeat (first | (with_reducible first | exact HB.out | apply below_alloc | apply pw_below_drewN | apply below_drew1 | refine below_set ?_ GE127.out | refine below_set ?_ GE128.out) | exact HB.out)⟩⟩
         ·rw [if_neg c22] at H
          have c22b0 : (a0 == 2) = false := beq_eq_false_iff_ne.mpr c22
          have c22b1 : (a0 != 2) = true := bne_iff_ne.mpr c22
          (first | rw [c22b0] | (simp only [i64_w, i32_w]; rw [c22b0]) | skip)
          have H' := Aside0.mk H
          clear H
          go_wp2
          go_meet
          case rel => exact ⟨_, (false), (by first | rfl | (simp; done) | (simp [*]; done)), H', ⟨by have := HJ2.out; have := HJ13.out; first | omega | exact Nat.le_refl _⟩, ⟨by (with_reducible repeat (first | refine blk_drewN ?_ _ | refine blk_drew ?_ | refine blk_alloc ?_ _)); exact BK127.out⟩, ⟨by (with_reducible repeat (first | refine blk_drewN ?_ _ | refine blk_drew ?_ | refine blk_alloc ?_ _)); exact BK128.out⟩, ⟨by repeat (first | (with_reducible first | exact HB.out | apply below_alloc | apply pw_below_drewN | apply below_drew1 | refine below_set ?_ GE127.out | refine below_set ?_ GE128.out) | exact HB.out)⟩⟩
       case rest =>
        clear HC20
        try clear c1
        try clear c2
        try clear p2
        try clear c6
        try clear c6b0
        try clear c6b1
        try clear c7
        try clear c8
        try clear c10
        try clear c10b0
        try clear c10b1
        try clear c11
        try clear c15
        try clear c17
        try clear c17b0
        try clear c17b1
        try clear c18
        try clear c20
        try clear c21
        try clear c22
        try clear c22b0
        try clear c22b1
        try clear c23
        try clear hcz12_0
        try clear hcz12_1
        try clear hcz12_2
        try clear hcz13_0
        try clear hcz13_1
        try clear hcz13_2
        try clear hcz16_0
        try clear hcz16_1
        try clear hcz16_2
        try clear hcz19_0
        try clear hcz19_1
        try clear hcz19_2
        try clear hcz24_0
        try clear hcz24_1
        try clear hcz24_2
        try clear hcz9_0
        try clear hcz9_1
        try clear hcz9_2
        try clear hfz12_0
        try clear hfz12_1
        try clear hfz12_2
        try clear hfz13_0
        try clear hfz13_1
        try clear hfz13_2
        try clear hfz16_0
        try clear hfz16_1
        try clear hfz16_2
        try clear hfz19_0
        try clear hfz19_1
        try clear hfz19_2
        try clear hfz24_0
        try clear hfz24_1
        try clear hfz24_2
        try clear hfz9_0
        try clear hfz9_1
        try clear hfz9_2
        try clear p2
        obtain ⟨kq, x19_19, rfl, HA, HJ19, BK127, BK128, HB⟩ := hcut
        cases kq with
        | zero => exact absurd HA.out (by simp [quarryref02_Unary.j2])
        | succ kj19 =>
         have H := HA.out
         clear HA
         simp only [quarryref02_Unary.j2] at H
         by_cases c25 : x19_19 = true
         ·subst c25
          have H1 : (some (0, 0, (⟨#[]⟩ : ByteArray), 35)) = some (r1, r2, r3, r4) := by rw [if_pos rfl] at H; exact H
          clear H
          have H := H1
          clear H1
          simp only [Option.some.injEq, Prod.mk.injEq] at H
          obtain ⟨rfl, rfl, rfl, rfl⟩ := H
          have hnb26 := NB128_127.out
          have hnc26 := NB127_128.out
          have hcz27_0 : wc.cell? ⟨gb128, 0, none⟩ = some (.int .i64 0) := (blk_cell BK128.out 0).trans rfl
          have hcz27_1 : wc.cell? ⟨gb128, 1, none⟩ = some (.int .i64 0) := (blk_cell BK128.out 1).trans rfl
          have hcz27_2 : wc.cell? ⟨gb128, 2, none⟩ = some (.string (⟨#[]⟩ : ByteArray)) := (blk_cell BK128.out 2).trans rfl
          have hfz27_0 := blk_frozen BK128.out 0
          have hfz27_1 := blk_frozen BK128.out 1
          have hfz27_2 := blk_frozen BK128.out 2
          go_wp2
          refine bodyPost_ret (results_ct rfl _ _ gb128 25 #[.int .i64 0, .int .i64 0, .string (⟨#[]⟩ : ByteArray)] (0, 0) _ rfl (by (with_reducible repeat (first | refine blk_drewN ?_ _ | refine blk_drew ?_ | refine blk_alloc ?_ _)); refine blk_put (cs := #[.int .i64 0, .int .i64 0, .string (⟨#[]⟩ : ByteArray)]) ?_ 2 _ rfl; (with_reducible repeat (first | refine blk_drewN ?_ _ | refine blk_drew ?_ | refine blk_alloc ?_ _)); refine blk_put (cs := #[.int .i64 0, .int .i64 0, .string (⟨#[]⟩ : ByteArray)]) ?_ 1 _ rfl; (with_reducible repeat (first | refine blk_drewN ?_ _ | refine blk_drew ?_ | refine blk_alloc ?_ _)); refine blk_put (cs := #[.int .i64 0, .int .i64 0, .string (⟨#[]⟩ : ByteArray)]) ?_ 0 _ rfl; (with_reducible repeat (first | refine blk_drewN ?_ _ | refine blk_drew ?_ | refine blk_alloc ?_ _)); exact BK128.out) Try.underlying25 rfl (by kernel_rfl)) rfl ?_
          exact ⟨by first | rfl | (simp [errW_none, errW_some] <;> rfl) | (simp [*, errW_none, errW_some] <;> rfl), by repeat (first | (with_reducible first | exact HB.out | apply below_alloc | apply pw_below_drewN | apply below_drew1 | refine below_set ?_ GE127.out | refine below_set ?_ GE128.out) | exact HB.out)⟩
         ·replace c25 := Bool.eq_false_iff.mpr c25
          subst c25
          have H1 : (if a0 = 2 then ((quarryref02_Truth.f (a1_1 == 0)).bind fun bt129 => (some (bt129.1, bt129.2.1, bt129.2.2, 0))) else (if a1_1 = (-9223372036854775808) then (some (0, 0, (⟨#[]⟩ : ByteArray), 40)) else ((quarryref02_Number.f (wrap64 (-a1_1))).bind fun bt132 => (some (bt132.1, bt132.2.1, bt132.2.2, 0))))) = some (r1, r2, r3, r4) := by rw [if_neg (show ¬ (false = true) by decide)] at H; exact H
          clear H
          have H := H1
          clear H1
          by_cases c28 : a0 = 2
          ·rw [if_pos c28] at H
           have c28b0 : (a0 == 2) = true := beq_iff_eq.mpr c28
           have c28b1 : (a0 != 2) = false := bne_eq_false_iff_eq.mpr c28
           clear c28
           replace H := Option.bind_eq_some_iff.mp H
           obtain ⟨⟨t129, t130, t131⟩, A290, H⟩ := H
           replace H : (some (t129, t130, t131, 0)) = some (r1, r2, r3, r4) := H
           have A29 := Aside0.mk A290
           clear A290
           simp only [Option.some.injEq, Prod.mk.injEq] at H
           obtain ⟨rfl, rfl, rfl, rfl⟩ := H
           have hnb30 := NB127_128.out
           have hnc30 := NB128_127.out
           have hcz31_0 : wc.cell? ⟨gb127, 0, none⟩ = some (.int .i64 a1_0) := (blk_cell BK127.out 0).trans rfl
           have hcz31_1 : wc.cell? ⟨gb127, 1, none⟩ = some (.int .i64 a1_1) := (blk_cell BK127.out 1).trans rfl
           have hcz31_2 : wc.cell? ⟨gb127, 2, none⟩ = some (.string a1_2) := (blk_cell BK127.out 2).trans rfl
           have hfz31_0 := blk_frozen BK127.out 0
           have hfz31_1 := blk_frozen BK127.out 1
           have hfz31_2 := blk_frozen BK127.out 2
           go_wp2_with (first | ((with_reducible refine gate_callee (f := 49) rfl ?_); refine goesL_ (some 41) rfl rfl Try.func49 (by kernel_rfl) rfl #[.bool (a1_1 == 0)] rfl (by (try simp only [List.map_toArray, List.map_cons, List.map_nil]); first | done | rfl | (simp only [List.length_drop, List.length_take]; rfl)) ?_; (with_reducible refine (quarryref02_Truth.calls (a1_1 == 0) t129 t130 t131 _ A29.out).mono ?_); rintro e w32 ⟨rfl, hb⟩; refine ⟨_, rfl, ?_⟩; have n0_ := Aside0.mk (blk_below (g := gb127) (o := .cells #[.int .i64 a1_0, .int .i64 a1_1, .string a1_2] 25 (0, 0)) (bk_ BK127) hb); have n1_ := Aside0.mk (blk_below (g := gb128) (o := .cells #[.int .i64 0, .int .i64 0, .string (⟨#[]⟩ : ByteArray)] 25 (0, 0)) (bk_ BK128) hb); have n2_ := Aside0.mk (below_step (by repeat (first | (with_reducible first | exact HB.out | apply below_alloc | apply pw_below_drewN | apply below_drew1 | refine below_set ?_ GE127.out | refine below_set ?_ GE128.out) | exact HB.out)) hb); clear BK127; clear BK128; clear HB; have BK127 := n0_; have BK128 := n1_; have HB := n2_; clear n0_ n1_ n2_; (try clear hb); (try clear hb2); (try clear hk); (try clear hi); have hcz33_0 : w32.cell? ⟨gb128, 0, none⟩ = some (.int .i64 0) := (blk_cell BK128.out 0).trans rfl; have hcz33_1 : w32.cell? ⟨gb128, 1, none⟩ = some (.int .i64 0) := (blk_cell BK128.out 1).trans rfl; have hcz33_2 : w32.cell? ⟨gb128, 2, none⟩ = some (.string (⟨#[]⟩ : ByteArray)) := (blk_cell BK128.out 2).trans rfl; have hfz33_0 := blk_frozen BK128.out 0; have hfz33_1 := blk_frozen BK128.out 1; have hfz33_2 := blk_frozen BK128.out 2))
           refine bodyPost_ret (results_ct rfl _ _ gb128 25 #[.int .i64 t129, .int .i64 t130, .string t131] (0, 0) _ rfl (by (with_reducible repeat (first | refine blk_drewN ?_ _ | refine blk_drew ?_ | refine blk_alloc ?_ _)); refine blk_put (cs := #[.int .i64 t129, .int .i64 t130, .string (⟨#[]⟩ : ByteArray)]) ?_ 2 _ rfl; (with_reducible repeat (first | refine blk_drewN ?_ _ | refine blk_drew ?_ | refine blk_alloc ?_ _)); refine blk_put (cs := #[.int .i64 t129, .int .i64 0, .string (⟨#[]⟩ : ByteArray)]) ?_ 1 _ rfl; (with_reducible repeat (first | refine blk_drewN ?_ _ | refine blk_drew ?_ | refine blk_alloc ?_ _)); refine blk_put (cs := #[.int .i64 0, .int .i64 0, .string (⟨#[]⟩ : ByteArray)]) ?_ 0 _ rfl; (with_reducible repeat (first | refine blk_drewN ?_ _ | refine blk_drew ?_ | refine blk_alloc ?_ _)); exact BK128.out) Try.underlying25 rfl (by kernel_rfl)) rfl ?_
           exact ⟨by first | rfl | (simp [errW_none, errW_some] <;> rfl) | (simp [*, errW_none, errW_some] <;> rfl), by repeat (first | (with_reducible first | exact HB.out | apply below_alloc | apply pw_below_drewN | apply below_drew1 | refine below_set ?_ GE127.out | refine below_set ?_ GE128.out) | exact HB.out)⟩
          ·rw [if_neg c28] at H
           have c28b0 : (a0 == 2) = false := beq_eq_false_iff_ne.mpr c28
           have c28b1 : (a0 != 2) = true := bne_iff_ne.mpr c28
           by_cases c34 : a1_1 = (-9223372036854775808)
           ·rw [if_pos c34] at H
            have c34b0 : (a1_1 == (-9223372036854775808)) = true := beq_iff_eq.mpr c34
            have c34b1 : (a1_1 != (-9223372036854775808)) = false := bne_eq_false_iff_eq.mpr c34
            clear c34
            simp only [Option.some.injEq, Prod.mk.injEq] at H
            obtain ⟨rfl, rfl, rfl, rfl⟩ := H
            have hnb35 := NB127_128.out
            have hnc35 := NB128_127.out
            have hcz36_0 : wc.cell? ⟨gb127, 0, none⟩ = some (.int .i64 a1_0) := (blk_cell BK127.out 0).trans rfl
            have hcz36_1 : wc.cell? ⟨gb127, 1, none⟩ = some (.int .i64 a1_1) := (blk_cell BK127.out 1).trans rfl
            have hcz36_2 : wc.cell? ⟨gb127, 2, none⟩ = some (.string a1_2) := (blk_cell BK127.out 2).trans rfl
            have hfz36_0 := blk_frozen BK127.out 0
            have hfz36_1 := blk_frozen BK127.out 1
            have hfz36_2 := blk_frozen BK127.out 2
            have hcz37_0 : wc.cell? ⟨gb128, 0, none⟩ = some (.int .i64 0) := (blk_cell BK128.out 0).trans rfl
            have hcz37_1 : wc.cell? ⟨gb128, 1, none⟩ = some (.int .i64 0) := (blk_cell BK128.out 1).trans rfl
            have hcz37_2 : wc.cell? ⟨gb128, 2, none⟩ = some (.string (⟨#[]⟩ : ByteArray)) := (blk_cell BK128.out 2).trans rfl
            have hfz37_0 := blk_frozen BK128.out 0
            have hfz37_1 := blk_frozen BK128.out 1
            have hfz37_2 := blk_frozen BK128.out 2
            go_wp2
            refine bodyPost_ret (results_ct rfl _ _ gb128 25 #[.int .i64 0, .int .i64 0, .string (⟨#[]⟩ : ByteArray)] (0, 0) _ rfl (by (with_reducible repeat (first | refine blk_drewN ?_ _ | refine blk_drew ?_ | refine blk_alloc ?_ _)); refine blk_put (cs := #[.int .i64 0, .int .i64 0, .string (⟨#[]⟩ : ByteArray)]) ?_ 2 _ rfl; (with_reducible repeat (first | refine blk_drewN ?_ _ | refine blk_drew ?_ | refine blk_alloc ?_ _)); refine blk_put (cs := #[.int .i64 0, .int .i64 0, .string (⟨#[]⟩ : ByteArray)]) ?_ 1 _ rfl; (with_reducible repeat (first | refine blk_drewN ?_ _ | refine blk_drew ?_ | refine blk_alloc ?_ _)); refine blk_put (cs := #[.int .i64 0, .int .i64 0, .string (⟨#[]⟩ : ByteArray)]) ?_ 0 _ rfl; (with_reducible repeat (first | refine blk_drewN ?_ _ | refine blk_drew ?_ | refine blk_alloc ?_ _)); exact BK128.out) Try.underlying25 rfl (by kernel_rfl)) rfl ?_
            exact ⟨by first | rfl | (simp [errW_none, errW_some] <;> rfl) | (simp [*, errW_none, errW_some] <;> rfl), by repeat (first | (with_reducible first | exact HB.out | apply below_alloc | apply pw_below_drewN | apply below_drew1 | refine below_set ?_ GE127.out | refine below_set ?_ GE128.out) | exact HB.out)⟩
           ·rw [if_neg c34] at H
            have c34b0 : (a1_1 == (-9223372036854775808)) = false := beq_eq_false_iff_ne.mpr c34
            have c34b1 : (a1_1 != (-9223372036854775808)) = true := bne_iff_ne.mpr c34
            replace H := Option.bind_eq_some_iff.mp H
            obtain ⟨⟨t132, t133, t134⟩, A380, H⟩ := H
            replace H : (some (t132, t133, t134, 0)) = some (r1, r2, r3, r4) := H
            have A38 := Aside0.mk A380
            clear A380
            simp only [Option.some.injEq, Prod.mk.injEq] at H
            obtain ⟨rfl, rfl, rfl, rfl⟩ := H
            have hnb39 := NB127_128.out
            have hnc39 := NB128_127.out
            have hcz40_0 : wc.cell? ⟨gb127, 0, none⟩ = some (.int .i64 a1_0) := (blk_cell BK127.out 0).trans rfl
            have hcz40_1 : wc.cell? ⟨gb127, 1, none⟩ = some (.int .i64 a1_1) := (blk_cell BK127.out 1).trans rfl
            have hcz40_2 : wc.cell? ⟨gb127, 2, none⟩ = some (.string a1_2) := (blk_cell BK127.out 2).trans rfl
            have hfz40_0 := blk_frozen BK127.out 0
            have hfz40_1 := blk_frozen BK127.out 1
            have hfz40_2 := blk_frozen BK127.out 2
            go_wp2_with (first | ((with_reducible refine gate_callee (f := 34) rfl ?_); refine goesL_ (some 50) rfl rfl Try.func34 (by kernel_rfl) rfl #[.int .i64 (wrap64 (-a1_1))] rfl (by (try simp only [List.map_toArray, List.map_cons, List.map_nil]); first | done | rfl | (simp only [List.length_drop, List.length_take]; rfl)) ?_; (with_reducible refine (quarryref02_Number.calls (wrap64 (-a1_1)) t132 t133 t134 _ A38.out).mono ?_); rintro e w41 ⟨rfl, hb⟩; refine ⟨_, rfl, ?_⟩; have n0_ := Aside0.mk (blk_below (g := gb127) (o := .cells #[.int .i64 a1_0, .int .i64 a1_1, .string a1_2] 25 (0, 0)) (bk_ BK127) hb); have n1_ := Aside0.mk (blk_below (g := gb128) (o := .cells #[.int .i64 0, .int .i64 0, .string (⟨#[]⟩ : ByteArray)] 25 (0, 0)) (bk_ BK128) hb); have n2_ := Aside0.mk (below_step (by repeat (first | (with_reducible first | exact HB.out | apply below_alloc | apply pw_below_drewN | apply below_drew1 | refine below_set ?_ GE127.out | refine below_set ?_ GE128.out) | exact HB.out)) hb); clear BK127; clear BK128; clear HB; have BK127 := n0_; have BK128 := n1_; have HB := n2_; clear n0_ n1_ n2_; (try clear hb); (try clear hb2); (try clear hk); (try clear hi); have hcz42_0 : w41.cell? ⟨gb128, 0, none⟩ = some (.int .i64 0) := (blk_cell BK128.out 0).trans rfl; have hcz42_1 : w41.cell? ⟨gb128, 1, none⟩ = some (.int .i64 0) := (blk_cell BK128.out 1).trans rfl; have hcz42_2 : w41.cell? ⟨gb128, 2, none⟩ = some (.string (⟨#[]⟩ : ByteArray)) := (blk_cell BK128.out 2).trans rfl; have hfz42_0 := blk_frozen BK128.out 0; have hfz42_1 := blk_frozen BK128.out 1; have hfz42_2 := blk_frozen BK128.out 2))
            refine bodyPost_ret (results_ct rfl _ _ gb128 25 #[.int .i64 t132, .int .i64 t133, .string t134] (0, 0) _ rfl (by (with_reducible repeat (first | refine blk_drewN ?_ _ | refine blk_drew ?_ | refine blk_alloc ?_ _)); refine blk_put (cs := #[.int .i64 t132, .int .i64 t133, .string (⟨#[]⟩ : ByteArray)]) ?_ 2 _ rfl; (with_reducible repeat (first | refine blk_drewN ?_ _ | refine blk_drew ?_ | refine blk_alloc ?_ _)); refine blk_put (cs := #[.int .i64 t132, .int .i64 0, .string (⟨#[]⟩ : ByteArray)]) ?_ 1 _ rfl; (with_reducible repeat (first | refine blk_drewN ?_ _ | refine blk_drew ?_ | refine blk_alloc ?_ _)); refine blk_put (cs := #[.int .i64 0, .int .i64 0, .string (⟨#[]⟩ : ByteArray)]) ?_ 0 _ rfl; (with_reducible repeat (first | refine blk_drewN ?_ _ | refine blk_drew ?_ | refine blk_alloc ?_ _)); exact BK128.out) Try.underlying25 rfl (by kernel_rfl)) rfl ?_
            exact ⟨by first | rfl | (simp [errW_none, errW_some] <;> rfl) | (simp [*, errW_none, errW_some] <;> rfl), by repeat (first | (with_reducible first | exact HB.out | apply below_alloc | apply pw_below_drewN | apply below_drew1 | refine below_set ?_ GE127.out | refine below_set ?_ GE128.out) | exact HB.out)⟩
def quarryref02_text.f (a0 : ByteArray) : Option (Int × Int × ByteArray) := some (3, 0, a0)
set_option maxHeartbeats 8000000 in
set_option maxRecDepth 100000 in
theorem quarryref02_text.calls (a0 : ByteArray) (r1 : Int) (r2 : Int) (r3 : ByteArray) (w : World) (h : quarryref02_text.f a0 = some (r1, r2, r3)) :
  Calls Try.prog 35 #[.string a0] w fun e w' => e = .returned (.agg #[.int .i64 r1, .int .i64 r2, .string r3]) ∧ Below w.heap.size w w' := by
 have hu25 := Try.underlying25
 have HB := Aside0.mk (Below.refl w.heap.size w)
 have H : (some (3, 0, a0)) = some (r1, r2, r3) := h
 clear h
 simp only [Option.some.injEq, Prod.mk.injEq] at H
 obtain ⟨rfl, rfl, rfl⟩ := H
 go_enter Try.func35, Try.ntmps35
 go_wp2_with (first | ((with_reducible refine gate_dst (N := 2) rfl ?_); refine box_event ?hg (N := 2) ?hd (cs := #[.int .i64 0, .int .i64 0, .string (⟨#[]⟩ : ByteArray)]) (t := 25) ?hr ?_; (case hd => rfl); (case hg => rfl); (case hr => first | (go_simp; done) | (go_simp; rfl)); intro gb135 hg w2 hbox hb; have n0_ := Aside0.mk (below_step (by repeat (first | (with_reducible first | exact HB.out | apply below_alloc | apply pw_below_drewN | apply below_drew1) | exact HB.out)) hb); have n1_ := Aside0.mk (hbox); have n2_ := Aside0.mk ((by rw [hg]; exact (below_size (by repeat (first | (with_reducible first | exact HB.out | apply below_alloc | apply pw_below_drewN | apply below_drew1) | exact HB.out))) : w.heap.size ≤ gb135)); have n3_ := Aside0.mk ((by rw [hg]; exact (below_size (by repeat (first | (with_reducible first | exact HB.out | apply below_alloc | apply pw_below_drewN | apply below_drew1) | exact HB.out))) : w.heap.size ≤ gb135)); clear HB; have HB := n0_; have BK135 := n1_; have GW135 := n2_; have GE135 := n3_; clear n0_ n1_ n2_ n3_; clear hb hbox hg; have hcz3_0 : w2.cell? ⟨gb135, 0, none⟩ = some (.int .i64 0) := (blk_cell BK135.out 0).trans rfl; have hcz3_1 : w2.cell? ⟨gb135, 1, none⟩ = some (.int .i64 0) := (blk_cell BK135.out 1).trans rfl; have hcz3_2 : w2.cell? ⟨gb135, 2, none⟩ = some (.string (⟨#[]⟩ : ByteArray)) := (blk_cell BK135.out 2).trans rfl; have hfz3_0 := blk_frozen BK135.out 0; have hfz3_1 := blk_frozen BK135.out 1; have hfz3_2 := blk_frozen BK135.out 2))
 refine bodyPost_ret (results_cell_row rfl _ _ gb135 25 #[.int .i64 3, .int .i64 0, .string a0] (0, 0) _ rfl (by (with_reducible repeat (first | refine blk_drewN ?_ _ | refine blk_drew ?_ | refine blk_alloc ?_ _)); refine blk_put (cs := #[.int .i64 3, .int .i64 0, .string (⟨#[]⟩ : ByteArray)]) ?_ 2 _ rfl; (with_reducible repeat (first | refine blk_drewN ?_ _ | refine blk_drew ?_ | refine blk_alloc ?_ _)); refine blk_put (cs := #[.int .i64 3, .int .i64 0, .string (⟨#[]⟩ : ByteArray)]) ?_ 1 _ rfl; (with_reducible repeat (first | refine blk_drewN ?_ _ | refine blk_drew ?_ | refine blk_alloc ?_ _)); refine blk_put (cs := #[.int .i64 0, .int .i64 0, .string (⟨#[]⟩ : ByteArray)]) ?_ 0 _ rfl; (with_reducible repeat (first | refine blk_drewN ?_ _ | refine blk_drew ?_ | refine blk_alloc ?_ _)); exact BK135.out) Try.underlying25 rfl (by kernel_rfl)) rfl ?_
 exact ⟨by first | rfl | (simp [errW_none, errW_some] <;> rfl) | (simp [*, errW_none, errW_some] <;> rfl), by repeat (first | (with_reducible first | exact HB.out | apply below_alloc | apply pw_below_drewN | apply below_drew1 | refine below_set ?_ GE135.out) | exact HB.out)⟩
end Go.Proofs.Ytfbeklbjlkgbnaa.P
end

/- Written in this session: the walk of calc.Binary's function value, way by way. No condition but the kinds of numbers and sizes. -/
import Derived.Test.YtfbeklbjlkgbnaaC4
import Derived.Test.YtfbeklbjlkgbnaaC6
import Derived.BigGuardPart
import Derived.RegionDies
import Derived.WalkLawsBesides
import Derived.WalkSpells
import Derived.Outline
namespace Go.Proofs.Ytfbeklbjlkgbnaa.P
open Go.RowKit Go.Proofs.Ytfbeklbjlkgbnaa.Pure Go.Proofs.YtfbeklbjlkgbnaaW.PrintWords Go.Proofs.YtfbeklbjlkgbnaaW.PrintLast Go.Proofs.YtfbeklbjlkgbnaaW.PrintMore
attribute [local go_sem] max2_int min2_int max_two min_two max_three min_three max_four min_four   -- for this text's walks alone
set_option linter.unusedVariables false
set_option linter.unusedSimpArgs false

theorem at_world {P : Program} {c : Code} {Q : Exit → Act → World → Prop} {a : Act} {W : World} (R : World → Prop) (h : R W) (k : ∀ W', R W' → Code.wp P c Q a W') : Code.wp P c Q a W := k W h
def BI (op : Int) (u v : S25) (b0 b1 b2 : Nat) (W w : World) : Prop :=
  w.heap[b0]? = some (.cells #[.int .i64 op] 3 (0, 0)) ∧ w.heap[b1]? = some (.cells #[.int .i64 u.f0, .int .i64 u.f1, .string u.f2] 25 (0, 0)) ∧ w.heap[b2]? = some (.cells #[.int .i64 v.f0, .int .i64 v.f1, .string v.f2] 25 (0, 0)) ∧
  w.heap[W.heap.size]? = some (.cells #[.int .i64 0, .int .i64 0, .string (⟨#[]⟩ : ByteArray)] 25 (0, 0)) ∧ Below W.heap.size W w
section
variable {op : Int} {u v : S25} {b0 b1 b2 : Nat} {W w w' : World}
theorem below_set3 {B : Nat} {a w : World} (h : Below B a w) {b : Nat} (hb : B ≤ b) (o1 o2 o3 : Nat) (v1 v2 v3 : Value) : Below B a (((w.setCell ⟨b, o1, none⟩ v1).setCell ⟨b, o2, none⟩ v2).setCell ⟨b, o3, none⟩ v3) :=
  Below.setCell (Below.setCell (Below.setCell h (p := ⟨b, o1, none⟩) hb v1) (p := ⟨b, o2, none⟩) hb v2) (p := ⟨b, o3, none⟩) hb v3
theorem BI.start (h0 : W.heap[b0]? = some (.cells #[.int .i64 op] 3 (0, 0))) (h1 : W.heap[b1]? = some (.cells #[.int .i64 u.f0, .int .i64 u.f1, .string u.f2] 25 (0, 0))) (h2 : W.heap[b2]? = some (.cells #[.int .i64 v.f0, .int .i64 v.f1, .string v.f2] 25 (0, 0))) :
    BI op u v b0 b1 b2 W (W.alloc (.cells #[.int .i64 0, .int .i64 0, .string (⟨#[]⟩ : ByteArray)] 25)) :=
  ⟨blk_alloc h0 _, blk_alloc h1 _, blk_alloc h2 _, Deep.blk_alloc_new W _, below_alloc (Below.refl _ _) _⟩
theorem BI.drew (h : BI op u v b0 b1 b2 W w) : BI op u v b0 b1 b2 W w.drew := ⟨blk_drew h.1, blk_drew h.2.1, blk_drew h.2.2.1, blk_drew h.2.2.2.1, below_drew1 h.2.2.2.2⟩
theorem BI.drewN (h : BI op u v b0 b1 b2 W w) (n : Nat) : BI op u v b0 b1 b2 W (w.drewN n) := ⟨blk_drewN h.1 n, blk_drewN h.2.1 n, blk_drewN h.2.2.1 n, blk_drewN h.2.2.2.1 n, pw_below_drewN h.2.2.2.2 n⟩
theorem BI.below (h : BI op u v b0 b1 b2 W w) (hb : Below w.heap.size w w') : BI op u v b0 b1 b2 W w' :=
  ⟨(hb.block _ (blk_lt h.1)).trans h.1, (hb.block _ (blk_lt h.2.1)).trans h.2.1, (hb.block _ (blk_lt h.2.2.1)).trans h.2.2.1, (hb.block _ (blk_lt h.2.2.2.1)).trans h.2.2.2.1, below_step h.2.2.2.2 hb⟩
theorem BI.bel (h : BI op u v b0 b1 b2 W w) : Below W.heap.size W w := h.2.2.2.2
theorem BI.o (h : BI op u v b0 b1 b2 W w) : w.cell? ⟨b0, 0, none⟩ = some (.int .i64 op) := (blk_cell h.1 0).trans rfl
theorem BI.a0 (h : BI op u v b0 b1 b2 W w) : w.cell? ⟨b1, 0, none⟩ = some (.int .i64 u.f0) := (blk_cell h.2.1 0).trans rfl
theorem BI.a1 (h : BI op u v b0 b1 b2 W w) : w.cell? ⟨b1, 1, none⟩ = some (.int .i64 u.f1) := (blk_cell h.2.1 1).trans rfl
theorem BI.a2 (h : BI op u v b0 b1 b2 W w) : w.cell? ⟨b1, 2, none⟩ = some (.string u.f2) := (blk_cell h.2.1 2).trans rfl
theorem BI.v0 (h : BI op u v b0 b1 b2 W w) : w.cell? ⟨b2, 0, none⟩ = some (.int .i64 v.f0) := (blk_cell h.2.2.1 0).trans rfl
theorem BI.v1 (h : BI op u v b0 b1 b2 W w) : w.cell? ⟨b2, 1, none⟩ = some (.int .i64 v.f1) := (blk_cell h.2.2.1 1).trans rfl
theorem BI.v2 (h : BI op u v b0 b1 b2 W w) : w.cell? ⟨b2, 2, none⟩ = some (.string v.f2) := (blk_cell h.2.2.1 2).trans rfl
end
set_option maxHeartbeats 2000000 in
set_option maxRecDepth 100000 in
theorem calc_Binary1.low (op : Int) (u v : S25) (k : Int) (HK : Aside0 (calc_wants.f op = some k)) (b0 b1 b2 : Nat) (W : World) (h0 : W.heap[b0]? = some (.cells #[.int .i64 op] 3 (0, 0))) (h1 : W.heap[b1]? = some (.cells #[.int .i64 u.f0, .int .i64 u.f1, .string u.f2] 25 (0, 0))) (h2 : W.heap[b2]? = some (.cells #[.int .i64 v.f0, .int .i64 v.f1, .string v.f2] 25 (0, 0))) (l3 : ¬ 3 ≤ op) :
    Calls Try.prog 38 #[.pointer (some ⟨b0, 0, none⟩), .pointer (some ⟨b1, 0, none⟩), .pointer (some ⟨b2, 0, none⟩)] W (fun e w' => RE (.error 5) e ∧ Below W.heap.size W w') := by
  have hu25 := Try.underlying25
  have n0 : ¬ b0 = W.heap.size := by have := blk_lt h0; omega
  have n1 : ¬ b1 = W.heap.size := by have := blk_lt h1; omega
  have n2 : ¬ b2 = W.heap.size := by have := blk_lt h2; omega
  have HS := Aside0.mk (BI.start h0 h1 h2)
  clear h0 h1 h2
  have hc0 := HS.out.o
  have ha0 := HS.out.a0
  have ha1 := HS.out.a1
  have ha2 := HS.out.a2
  have hb0 := HS.out.v0
  have hb1 := HS.out.v1
  have hb2 := HS.out.v2
  have q0 : decide (3 ≤ op) = false := decide_eq_false l3
  have l3' := Aside0.mk l3
  clear l3
  go_enter Try.func38, Try.ntmps38
  go_wp2_with (first | (go_at_call 39; (with_reducible refine (calc_wants.calls op k _ HK.out).mono ?_); rintro e w' ⟨rfl, ⟨nd, rfl⟩⟩) | (go_at_call 30; (with_reducible refine (calc_check.yes _ _).mono ?_); rintro e w' ⟨rfl, rfl⟩) | (go_at_call 30; (with_reducible refine (calc_check.no _ _).mono ?_); rintro e w' ⟨rfl, rfl⟩))
  exact ⟨rfl, rfl, by repeat (first | exact HS.out.bel | apply pw_below_drewN | apply below_drew1)⟩
set_option maxHeartbeats 2000000 in
set_option maxRecDepth 100000 in
theorem calc_Binary1.high (op : Int) (u v : S25) (k : Int) (HK : Aside0 (calc_wants.f op = some k)) (b0 b1 b2 : Nat) (W : World) (h0 : W.heap[b0]? = some (.cells #[.int .i64 op] 3 (0, 0))) (h1 : W.heap[b1]? = some (.cells #[.int .i64 u.f0, .int .i64 u.f1, .string u.f2] 25 (0, 0))) (h2 : W.heap[b2]? = some (.cells #[.int .i64 v.f0, .int .i64 v.f1, .string v.f2] 25 (0, 0))) (l3 : 3 ≤ op) (l16 : ¬ op ≤ 16) :
    Calls Try.prog 38 #[.pointer (some ⟨b0, 0, none⟩), .pointer (some ⟨b1, 0, none⟩), .pointer (some ⟨b2, 0, none⟩)] W (fun e w' => RE (.error 5) e ∧ Below W.heap.size W w') := by
  have hu25 := Try.underlying25
  have n0 : ¬ b0 = W.heap.size := by have := blk_lt h0; omega
  have n1 : ¬ b1 = W.heap.size := by have := blk_lt h1; omega
  have n2 : ¬ b2 = W.heap.size := by have := blk_lt h2; omega
  have HS := Aside0.mk (BI.start h0 h1 h2)
  clear h0 h1 h2
  have hc0 := HS.out.o
  have ha0 := HS.out.a0
  have ha1 := HS.out.a1
  have ha2 := HS.out.a2
  have hb0 := HS.out.v0
  have hb1 := HS.out.v1
  have hb2 := HS.out.v2
  have q0 : decide (3 ≤ op) = true := decide_eq_true l3
  have q1 : decide (op ≤ 16) = false := decide_eq_false l16
  have l3' := Aside0.mk l3
  have l16' := Aside0.mk l16
  clear l3 l16
  go_enter Try.func38, Try.ntmps38
  go_wp2_with (first | (go_at_call 39; (with_reducible refine (calc_wants.calls op k _ HK.out).mono ?_); rintro e w' ⟨rfl, ⟨nd, rfl⟩⟩) | (go_at_call 30; (with_reducible refine (calc_check.yes _ _).mono ?_); rintro e w' ⟨rfl, rfl⟩) | (go_at_call 30; (with_reducible refine (calc_check.no _ _).mono ?_); rintro e w' ⟨rfl, rfl⟩))
  exact ⟨rfl, rfl, by repeat (first | exact HS.out.bel | apply pw_below_drewN | apply below_drew1)⟩
set_option maxHeartbeats 2000000 in
set_option maxRecDepth 100000 in
theorem calc_Binary1.kindA1 (op : Int) (u v : S25) (k : Int) (HK : Aside0 (calc_wants.f op = some k)) (b0 b1 b2 : Nat) (W : World) (h0 : W.heap[b0]? = some (.cells #[.int .i64 op] 3 (0, 0))) (h1 : W.heap[b1]? = some (.cells #[.int .i64 u.f0, .int .i64 u.f1, .string u.f2] 25 (0, 0))) (h2 : W.heap[b2]? = some (.cells #[.int .i64 v.f0, .int .i64 v.f1, .string v.f2] 25 (0, 0))) (l3 : 3 ≤ op) (l16 : op ≤ 16) (kn : ¬ k = 0) (a0 : ¬ u.f0 = 0) (ak : ¬ u.f0 = k) (z0 : v.f0 = 0) :
    Calls Try.prog 38 #[.pointer (some ⟨b0, 0, none⟩), .pointer (some ⟨b1, 0, none⟩), .pointer (some ⟨b2, 0, none⟩)] W (fun e w' => RE (.error 35) e ∧ Below W.heap.size W w') := by
  have hu25 := Try.underlying25
  have n0 : ¬ b0 = W.heap.size := by have := blk_lt h0; omega
  have n1 : ¬ b1 = W.heap.size := by have := blk_lt h1; omega
  have n2 : ¬ b2 = W.heap.size := by have := blk_lt h2; omega
  have HS := Aside0.mk (BI.start h0 h1 h2)
  clear h0 h1 h2
  have hc0 := HS.out.o
  have ha0 := HS.out.a0
  have ha1 := HS.out.a1
  have ha2 := HS.out.a2
  have hb0 := HS.out.v0
  have hb1 := HS.out.v1
  have hb2 := HS.out.v2
  have q0 : decide (3 ≤ op) = true := decide_eq_true l3
  have q1 : decide (op ≤ 16) = true := decide_eq_true l16
  have q2 : (k != 0) = true := bne_iff_ne.mpr kn
  have q3 : (u.f0 == 0) = false := beq_eq_false_iff_ne.mpr a0
  have q4 : (v.f0 == 0) = true := beq_iff_eq.mpr z0
  have q5 : (u.f0 == k) = false := beq_eq_false_iff_ne.mpr ak
  have l3' := Aside0.mk l3
  have l16' := Aside0.mk l16
  have kn' := Aside0.mk kn
  have a0' := Aside0.mk a0
  have ak' := Aside0.mk ak
  have z0' := Aside0.mk z0
  clear l3 l16 kn a0 ak z0
  go_enter Try.func38, Try.ntmps38
  go_wp2_with (first | (go_at_call 39; (with_reducible refine (calc_wants.calls op k _ HK.out).mono ?_); rintro e w' ⟨rfl, ⟨nd, rfl⟩⟩) | (go_at_call 30; (with_reducible refine (calc_check.yes _ _).mono ?_); rintro e w' ⟨rfl, rfl⟩) | (go_at_call 30; (with_reducible refine (calc_check.no _ _).mono ?_); rintro e w' ⟨rfl, rfl⟩))
  exact ⟨rfl, rfl, by repeat (first | exact HS.out.bel | apply pw_below_drewN | apply below_drew1)⟩
set_option maxHeartbeats 2000000 in
set_option maxRecDepth 100000 in
theorem calc_Binary1.kindA0 (op : Int) (u v : S25) (k : Int) (HK : Aside0 (calc_wants.f op = some k)) (b0 b1 b2 : Nat) (W : World) (h0 : W.heap[b0]? = some (.cells #[.int .i64 op] 3 (0, 0))) (h1 : W.heap[b1]? = some (.cells #[.int .i64 u.f0, .int .i64 u.f1, .string u.f2] 25 (0, 0))) (h2 : W.heap[b2]? = some (.cells #[.int .i64 v.f0, .int .i64 v.f1, .string v.f2] 25 (0, 0))) (l3 : 3 ≤ op) (l16 : op ≤ 16) (kn : ¬ k = 0) (a0 : ¬ u.f0 = 0) (ak : ¬ u.f0 = k) (z0 : ¬ v.f0 = 0) :
    Calls Try.prog 38 #[.pointer (some ⟨b0, 0, none⟩), .pointer (some ⟨b1, 0, none⟩), .pointer (some ⟨b2, 0, none⟩)] W (fun e w' => RE (.error 35) e ∧ Below W.heap.size W w') := by
  have hu25 := Try.underlying25
  have n0 : ¬ b0 = W.heap.size := by have := blk_lt h0; omega
  have n1 : ¬ b1 = W.heap.size := by have := blk_lt h1; omega
  have n2 : ¬ b2 = W.heap.size := by have := blk_lt h2; omega
  have HS := Aside0.mk (BI.start h0 h1 h2)
  clear h0 h1 h2
  have hc0 := HS.out.o
  have ha0 := HS.out.a0
  have ha1 := HS.out.a1
  have ha2 := HS.out.a2
  have hb0 := HS.out.v0
  have hb1 := HS.out.v1
  have hb2 := HS.out.v2
  have q0 : decide (3 ≤ op) = true := decide_eq_true l3
  have q1 : decide (op ≤ 16) = true := decide_eq_true l16
  have q2 : (k != 0) = true := bne_iff_ne.mpr kn
  have q3 : (u.f0 == 0) = false := beq_eq_false_iff_ne.mpr a0
  have q4 : (v.f0 == 0) = false := beq_eq_false_iff_ne.mpr z0
  have q5 : (u.f0 == k) = false := beq_eq_false_iff_ne.mpr ak
  have l3' := Aside0.mk l3
  have l16' := Aside0.mk l16
  have kn' := Aside0.mk kn
  have a0' := Aside0.mk a0
  have ak' := Aside0.mk ak
  have z0' := Aside0.mk z0
  clear l3 l16 kn a0 ak z0
  go_enter Try.func38, Try.ntmps38
  go_wp2_with (first | (go_at_call 39; (with_reducible refine (calc_wants.calls op k _ HK.out).mono ?_); rintro e w' ⟨rfl, ⟨nd, rfl⟩⟩) | (go_at_call 30; (with_reducible refine (calc_check.yes _ _).mono ?_); rintro e w' ⟨rfl, rfl⟩) | (go_at_call 30; (with_reducible refine (calc_check.no _ _).mono ?_); rintro e w' ⟨rfl, rfl⟩))
  exact ⟨rfl, rfl, by repeat (first | exact HS.out.bel | apply pw_below_drewN | apply below_drew1)⟩
set_option maxHeartbeats 2000000 in
set_option maxRecDepth 100000 in
theorem calc_Binary1.kindB1 (op : Int) (u v : S25) (k : Int) (HK : Aside0 (calc_wants.f op = some k)) (b0 b1 b2 : Nat) (W : World) (h0 : W.heap[b0]? = some (.cells #[.int .i64 op] 3 (0, 0))) (h1 : W.heap[b1]? = some (.cells #[.int .i64 u.f0, .int .i64 u.f1, .string u.f2] 25 (0, 0))) (h2 : W.heap[b2]? = some (.cells #[.int .i64 v.f0, .int .i64 v.f1, .string v.f2] 25 (0, 0))) (l3 : 3 ≤ op) (l16 : op ≤ 16) (kn : ¬ k = 0) (a0 : u.f0 = 0) (z0 : ¬ v.f0 = 0) (zk : ¬ v.f0 = k) :
    Calls Try.prog 38 #[.pointer (some ⟨b0, 0, none⟩), .pointer (some ⟨b1, 0, none⟩), .pointer (some ⟨b2, 0, none⟩)] W (fun e w' => RE (.error 35) e ∧ Below W.heap.size W w') := by
  have hu25 := Try.underlying25
  have n0 : ¬ b0 = W.heap.size := by have := blk_lt h0; omega
  have n1 : ¬ b1 = W.heap.size := by have := blk_lt h1; omega
  have n2 : ¬ b2 = W.heap.size := by have := blk_lt h2; omega
  have HS := Aside0.mk (BI.start h0 h1 h2)
  clear h0 h1 h2
  have hc0 := HS.out.o
  have ha0 := HS.out.a0
  have ha1 := HS.out.a1
  have ha2 := HS.out.a2
  have hb0 := HS.out.v0
  have hb1 := HS.out.v1
  have hb2 := HS.out.v2
  have q0 : decide (3 ≤ op) = true := decide_eq_true l3
  have q1 : decide (op ≤ 16) = true := decide_eq_true l16
  have q2 : (k != 0) = true := bne_iff_ne.mpr kn
  have q3 : (u.f0 == 0) = true := beq_iff_eq.mpr a0
  have q4 : (v.f0 == 0) = false := beq_eq_false_iff_ne.mpr z0
  have q5 : (u.f0 == k) = false := beq_eq_false_iff_ne.mpr (fun h => kn (h.symm.trans a0))
  have q6 : (v.f0 == k) = false := beq_eq_false_iff_ne.mpr zk
  have l3' := Aside0.mk l3
  have l16' := Aside0.mk l16
  have kn' := Aside0.mk kn
  have a0' := Aside0.mk a0
  have z0' := Aside0.mk z0
  have zk' := Aside0.mk zk
  clear l3 l16 kn a0 z0 zk
  go_enter Try.func38, Try.ntmps38
  go_wp2_with (first | (go_at_call 39; (with_reducible refine (calc_wants.calls op k _ HK.out).mono ?_); rintro e w' ⟨rfl, ⟨nd, rfl⟩⟩) | (go_at_call 30; (with_reducible refine (calc_check.yes _ _).mono ?_); rintro e w' ⟨rfl, rfl⟩) | (go_at_call 30; (with_reducible refine (calc_check.no _ _).mono ?_); rintro e w' ⟨rfl, rfl⟩))
  exact ⟨rfl, rfl, by repeat (first | exact HS.out.bel | apply pw_below_drewN | apply below_drew1)⟩
set_option maxHeartbeats 2000000 in
set_option maxRecDepth 100000 in
theorem calc_Binary1.kindB0 (op : Int) (u v : S25) (k : Int) (HK : Aside0 (calc_wants.f op = some k)) (b0 b1 b2 : Nat) (W : World) (h0 : W.heap[b0]? = some (.cells #[.int .i64 op] 3 (0, 0))) (h1 : W.heap[b1]? = some (.cells #[.int .i64 u.f0, .int .i64 u.f1, .string u.f2] 25 (0, 0))) (h2 : W.heap[b2]? = some (.cells #[.int .i64 v.f0, .int .i64 v.f1, .string v.f2] 25 (0, 0))) (l3 : 3 ≤ op) (l16 : op ≤ 16) (kn : ¬ k = 0) (a0 : ¬ u.f0 = 0) (z0 : ¬ v.f0 = 0) (ak : u.f0 = k) (zk : ¬ v.f0 = k) :
    Calls Try.prog 38 #[.pointer (some ⟨b0, 0, none⟩), .pointer (some ⟨b1, 0, none⟩), .pointer (some ⟨b2, 0, none⟩)] W (fun e w' => RE (.error 35) e ∧ Below W.heap.size W w') := by
  have hu25 := Try.underlying25
  have n0 : ¬ b0 = W.heap.size := by have := blk_lt h0; omega
  have n1 : ¬ b1 = W.heap.size := by have := blk_lt h1; omega
  have n2 : ¬ b2 = W.heap.size := by have := blk_lt h2; omega
  have HS := Aside0.mk (BI.start h0 h1 h2)
  clear h0 h1 h2
  have hc0 := HS.out.o
  have ha0 := HS.out.a0
  have ha1 := HS.out.a1
  have ha2 := HS.out.a2
  have hb0 := HS.out.v0
  have hb1 := HS.out.v1
  have hb2 := HS.out.v2
  have q0 : decide (3 ≤ op) = true := decide_eq_true l3
  have q1 : decide (op ≤ 16) = true := decide_eq_true l16
  have q2 : (k != 0) = true := bne_iff_ne.mpr kn
  have q3 : (u.f0 == 0) = false := beq_eq_false_iff_ne.mpr a0
  have q4 : (v.f0 == 0) = false := beq_eq_false_iff_ne.mpr z0
  have q5 : (u.f0 == k) = true := beq_iff_eq.mpr ak
  have q6 : (v.f0 == k) = false := beq_eq_false_iff_ne.mpr zk
  have l3' := Aside0.mk l3
  have l16' := Aside0.mk l16
  have kn' := Aside0.mk kn
  have a0' := Aside0.mk a0
  have z0' := Aside0.mk z0
  have ak' := Aside0.mk ak
  have zk' := Aside0.mk zk
  clear l3 l16 kn a0 z0 ak zk
  go_enter Try.func38, Try.ntmps38
  go_wp2_with (first | (go_at_call 39; (with_reducible refine (calc_wants.calls op k _ HK.out).mono ?_); rintro e w' ⟨rfl, ⟨nd, rfl⟩⟩) | (go_at_call 30; (with_reducible refine (calc_check.yes _ _).mono ?_); rintro e w' ⟨rfl, rfl⟩) | (go_at_call 30; (with_reducible refine (calc_check.no _ _).mono ?_); rintro e w' ⟨rfl, rfl⟩))
  exact ⟨rfl, rfl, by repeat (first | exact HS.out.bel | apply pw_below_drewN | apply below_drew1)⟩
set_option maxHeartbeats 2000000 in
set_option maxRecDepth 100000 in
theorem calc_Binary1.kindC (op : Int) (u v : S25) (k : Int) (HK : Aside0 (calc_wants.f op = some k)) (b0 b1 b2 : Nat) (W : World) (h0 : W.heap[b0]? = some (.cells #[.int .i64 op] 3 (0, 0))) (h1 : W.heap[b1]? = some (.cells #[.int .i64 u.f0, .int .i64 u.f1, .string u.f2] 25 (0, 0))) (h2 : W.heap[b2]? = some (.cells #[.int .i64 v.f0, .int .i64 v.f1, .string v.f2] 25 (0, 0))) (l3 : 3 ≤ op) (l16 : op ≤ 16) (kz : k = 0) (a0 : ¬ u.f0 = 0) (z0 : ¬ v.f0 = 0) (uv : ¬ u.f0 = v.f0) :
    Calls Try.prog 38 #[.pointer (some ⟨b0, 0, none⟩), .pointer (some ⟨b1, 0, none⟩), .pointer (some ⟨b2, 0, none⟩)] W (fun e w' => RE (.error 35) e ∧ Below W.heap.size W w') := by
  have hu25 := Try.underlying25
  have n0 : ¬ b0 = W.heap.size := by have := blk_lt h0; omega
  have n1 : ¬ b1 = W.heap.size := by have := blk_lt h1; omega
  have n2 : ¬ b2 = W.heap.size := by have := blk_lt h2; omega
  have HS := Aside0.mk (BI.start h0 h1 h2)
  clear h0 h1 h2
  have hc0 := HS.out.o
  have ha0 := HS.out.a0
  have ha1 := HS.out.a1
  have ha2 := HS.out.a2
  have hb0 := HS.out.v0
  have hb1 := HS.out.v1
  have hb2 := HS.out.v2
  have q0 : decide (3 ≤ op) = true := decide_eq_true l3
  have q1 : decide (op ≤ 16) = true := decide_eq_true l16
  have q2 : (k != 0) = false := bne_eq_false_iff_eq.mpr kz
  have q3 : (u.f0 == 0) = false := beq_eq_false_iff_ne.mpr a0
  have q4 : (v.f0 == 0) = false := beq_eq_false_iff_ne.mpr z0
  have q5 : (u.f0 == v.f0) = false := beq_eq_false_iff_ne.mpr uv
  have l3' := Aside0.mk l3
  have l16' := Aside0.mk l16
  have kz' := Aside0.mk kz
  have a0' := Aside0.mk a0
  have z0' := Aside0.mk z0
  have uv' := Aside0.mk uv
  clear l3 l16 kz a0 z0 uv
  go_enter Try.func38, Try.ntmps38
  go_wp2_with (first | (go_at_call 39; (with_reducible refine (calc_wants.calls op k _ HK.out).mono ?_); rintro e w' ⟨rfl, ⟨nd, rfl⟩⟩) | (go_at_call 30; (with_reducible refine (calc_check.yes _ _).mono ?_); rintro e w' ⟨rfl, rfl⟩) | (go_at_call 30; (with_reducible refine (calc_check.no _ _).mono ?_); rintro e w' ⟨rfl, rfl⟩))
  exact ⟨rfl, rfl, by repeat (first | exact HS.out.bel | apply pw_below_drewN | apply below_drew1)⟩
set_option maxHeartbeats 2000000 in
set_option maxRecDepth 100000 in
theorem calc_Binary1.nullK11 (op : Int) (u v : S25) (k : Int) (HK : Aside0 (calc_wants.f op = some k)) (b0 b1 b2 : Nat) (W : World) (h0 : W.heap[b0]? = some (.cells #[.int .i64 op] 3 (0, 0))) (h1 : W.heap[b1]? = some (.cells #[.int .i64 u.f0, .int .i64 u.f1, .string u.f2] 25 (0, 0))) (h2 : W.heap[b2]? = some (.cells #[.int .i64 v.f0, .int .i64 v.f1, .string v.f2] 25 (0, 0))) (l3 : 3 ≤ op) (l16 : op ≤ 16) (kn : ¬ k = 0) (l4 : ¬ op ≤ 4) (a0 : u.f0 = 0) (z0 : v.f0 = 0) :
    Calls Try.prog 38 #[.pointer (some ⟨b0, 0, none⟩), .pointer (some ⟨b1, 0, none⟩), .pointer (some ⟨b2, 0, none⟩)] W (fun e w' => RE (.ok zeroV) e ∧ Below W.heap.size W w') := by
  have hu25 := Try.underlying25
  have n0 : ¬ b0 = W.heap.size := by have := blk_lt h0; omega
  have n1 : ¬ b1 = W.heap.size := by have := blk_lt h1; omega
  have n2 : ¬ b2 = W.heap.size := by have := blk_lt h2; omega
  have HS := Aside0.mk (BI.start h0 h1 h2)
  clear h0 h1 h2
  have hc0 := HS.out.o
  have ha0 := HS.out.a0
  have ha1 := HS.out.a1
  have ha2 := HS.out.a2
  have hb0 := HS.out.v0
  have hb1 := HS.out.v1
  have hb2 := HS.out.v2
  have q0 : decide (3 ≤ op) = true := decide_eq_true l3
  have q1 : decide (op ≤ 16) = true := decide_eq_true l16
  have q2 : (k != 0) = true := bne_iff_ne.mpr kn
  have q3 : decide (op ≤ 4) = false := decide_eq_false l4
  have q4 : (u.f0 == 0) = true := beq_iff_eq.mpr a0
  have q5 : (v.f0 == 0) = true := beq_iff_eq.mpr z0
  have q6 : (u.f0 == k) = false := beq_eq_false_iff_ne.mpr (fun h => kn (h.symm.trans a0))
  have q7 : (v.f0 == k) = false := beq_eq_false_iff_ne.mpr (fun h => kn (h.symm.trans z0))
  have l3' := Aside0.mk l3
  have l16' := Aside0.mk l16
  have kn' := Aside0.mk kn
  have l4' := Aside0.mk l4
  have a0' := Aside0.mk a0
  have z0' := Aside0.mk z0
  clear l3 l16 kn l4 a0 z0
  go_enter Try.func38, Try.ntmps38
  go_wp2_with (first | (go_at_call 39; (with_reducible refine (calc_wants.calls op k _ HK.out).mono ?_); rintro e w' ⟨rfl, ⟨nd, rfl⟩⟩) | (go_at_call 30; (with_reducible refine (calc_check.yes _ _).mono ?_); rintro e w' ⟨rfl, rfl⟩) | (go_at_call 30; (with_reducible refine (calc_check.no _ _).mono ?_); rintro e w' ⟨rfl, rfl⟩))
  refine bodyPost_ret (v := .agg #[.int .i64 0, .int .i64 0, .string V0]) (by simp [results, Try.results38, go_sem, V0]) rfl ⟨rfl, ?_⟩
  refine below_set3 ?_ (Nat.le_refl W.heap.size) _ _ _ _ _ _
  repeat (first | (with_reducible exact HS.out.bel) | apply pw_below_drewN | apply below_drew1)
set_option maxHeartbeats 2000000 in
set_option maxRecDepth 100000 in
theorem calc_Binary1.nullK10 (op : Int) (u v : S25) (k : Int) (HK : Aside0 (calc_wants.f op = some k)) (b0 b1 b2 : Nat) (W : World) (h0 : W.heap[b0]? = some (.cells #[.int .i64 op] 3 (0, 0))) (h1 : W.heap[b1]? = some (.cells #[.int .i64 u.f0, .int .i64 u.f1, .string u.f2] 25 (0, 0))) (h2 : W.heap[b2]? = some (.cells #[.int .i64 v.f0, .int .i64 v.f1, .string v.f2] 25 (0, 0))) (l3 : 3 ≤ op) (l16 : op ≤ 16) (kn : ¬ k = 0) (l4 : ¬ op ≤ 4) (a0 : u.f0 = 0) (z0 : ¬ v.f0 = 0) (zk : v.f0 = k) :
    Calls Try.prog 38 #[.pointer (some ⟨b0, 0, none⟩), .pointer (some ⟨b1, 0, none⟩), .pointer (some ⟨b2, 0, none⟩)] W (fun e w' => RE (.ok zeroV) e ∧ Below W.heap.size W w') := by
  have hu25 := Try.underlying25
  have n0 : ¬ b0 = W.heap.size := by have := blk_lt h0; omega
  have n1 : ¬ b1 = W.heap.size := by have := blk_lt h1; omega
  have n2 : ¬ b2 = W.heap.size := by have := blk_lt h2; omega
  have HS := Aside0.mk (BI.start h0 h1 h2)
  clear h0 h1 h2
  have hc0 := HS.out.o
  have ha0 := HS.out.a0
  have ha1 := HS.out.a1
  have ha2 := HS.out.a2
  have hb0 := HS.out.v0
  have hb1 := HS.out.v1
  have hb2 := HS.out.v2
  have q0 : decide (3 ≤ op) = true := decide_eq_true l3
  have q1 : decide (op ≤ 16) = true := decide_eq_true l16
  have q2 : (k != 0) = true := bne_iff_ne.mpr kn
  have q3 : decide (op ≤ 4) = false := decide_eq_false l4
  have q4 : (u.f0 == 0) = true := beq_iff_eq.mpr a0
  have q5 : (v.f0 == 0) = false := beq_eq_false_iff_ne.mpr z0
  have q6 : (u.f0 == k) = false := beq_eq_false_iff_ne.mpr (fun h => kn (h.symm.trans a0))
  have q7 : (v.f0 == k) = true := beq_iff_eq.mpr zk
  have l3' := Aside0.mk l3
  have l16' := Aside0.mk l16
  have kn' := Aside0.mk kn
  have l4' := Aside0.mk l4
  have a0' := Aside0.mk a0
  have z0' := Aside0.mk z0
  have zk' := Aside0.mk zk
  clear l3 l16 kn l4 a0 z0 zk
  go_enter Try.func38, Try.ntmps38
  go_wp2_with (first | (go_at_call 39; (with_reducible refine (calc_wants.calls op k _ HK.out).mono ?_); rintro e w' ⟨rfl, ⟨nd, rfl⟩⟩) | (go_at_call 30; (with_reducible refine (calc_check.yes _ _).mono ?_); rintro e w' ⟨rfl, rfl⟩) | (go_at_call 30; (with_reducible refine (calc_check.no _ _).mono ?_); rintro e w' ⟨rfl, rfl⟩))
  refine bodyPost_ret (v := .agg #[.int .i64 0, .int .i64 0, .string V0]) (by simp [results, Try.results38, go_sem, V0]) rfl ⟨rfl, ?_⟩
  refine below_set3 ?_ (Nat.le_refl W.heap.size) _ _ _ _ _ _
  repeat (first | (with_reducible exact HS.out.bel) | apply pw_below_drewN | apply below_drew1)
set_option maxHeartbeats 2000000 in
set_option maxRecDepth 100000 in
theorem calc_Binary1.nullK01 (op : Int) (u v : S25) (k : Int) (HK : Aside0 (calc_wants.f op = some k)) (b0 b1 b2 : Nat) (W : World) (h0 : W.heap[b0]? = some (.cells #[.int .i64 op] 3 (0, 0))) (h1 : W.heap[b1]? = some (.cells #[.int .i64 u.f0, .int .i64 u.f1, .string u.f2] 25 (0, 0))) (h2 : W.heap[b2]? = some (.cells #[.int .i64 v.f0, .int .i64 v.f1, .string v.f2] 25 (0, 0))) (l3 : 3 ≤ op) (l16 : op ≤ 16) (kn : ¬ k = 0) (l4 : ¬ op ≤ 4) (a0 : ¬ u.f0 = 0) (z0 : v.f0 = 0) (ak : u.f0 = k) :
    Calls Try.prog 38 #[.pointer (some ⟨b0, 0, none⟩), .pointer (some ⟨b1, 0, none⟩), .pointer (some ⟨b2, 0, none⟩)] W (fun e w' => RE (.ok zeroV) e ∧ Below W.heap.size W w') := by
  have hu25 := Try.underlying25
  have n0 : ¬ b0 = W.heap.size := by have := blk_lt h0; omega
  have n1 : ¬ b1 = W.heap.size := by have := blk_lt h1; omega
  have n2 : ¬ b2 = W.heap.size := by have := blk_lt h2; omega
  have HS := Aside0.mk (BI.start h0 h1 h2)
  clear h0 h1 h2
  have hc0 := HS.out.o
  have ha0 := HS.out.a0
  have ha1 := HS.out.a1
  have ha2 := HS.out.a2
  have hb0 := HS.out.v0
  have hb1 := HS.out.v1
  have hb2 := HS.out.v2
  have q0 : decide (3 ≤ op) = true := decide_eq_true l3
  have q1 : decide (op ≤ 16) = true := decide_eq_true l16
  have q2 : (k != 0) = true := bne_iff_ne.mpr kn
  have q3 : decide (op ≤ 4) = false := decide_eq_false l4
  have q4 : (u.f0 == 0) = false := beq_eq_false_iff_ne.mpr a0
  have q5 : (v.f0 == 0) = true := beq_iff_eq.mpr z0
  have q6 : (u.f0 == k) = true := beq_iff_eq.mpr ak
  have q7 : (v.f0 == k) = false := beq_eq_false_iff_ne.mpr (fun h => kn (h.symm.trans z0))
  have l3' := Aside0.mk l3
  have l16' := Aside0.mk l16
  have kn' := Aside0.mk kn
  have l4' := Aside0.mk l4
  have a0' := Aside0.mk a0
  have z0' := Aside0.mk z0
  have ak' := Aside0.mk ak
  clear l3 l16 kn l4 a0 z0 ak
  go_enter Try.func38, Try.ntmps38
  go_wp2_with (first | (go_at_call 39; (with_reducible refine (calc_wants.calls op k _ HK.out).mono ?_); rintro e w' ⟨rfl, ⟨nd, rfl⟩⟩) | (go_at_call 30; (with_reducible refine (calc_check.yes _ _).mono ?_); rintro e w' ⟨rfl, rfl⟩) | (go_at_call 30; (with_reducible refine (calc_check.no _ _).mono ?_); rintro e w' ⟨rfl, rfl⟩))
  refine bodyPost_ret (v := .agg #[.int .i64 0, .int .i64 0, .string V0]) (by simp [results, Try.results38, go_sem, V0]) rfl ⟨rfl, ?_⟩
  refine below_set3 ?_ (Nat.le_refl W.heap.size) _ _ _ _ _ _
  repeat (first | (with_reducible exact HS.out.bel) | apply pw_below_drewN | apply below_drew1)
set_option maxHeartbeats 2000000 in
set_option maxRecDepth 100000 in
theorem calc_Binary1.nullA (op : Int) (u v : S25) (k : Int) (HK : Aside0 (calc_wants.f op = some k)) (b0 b1 b2 : Nat) (W : World) (h0 : W.heap[b0]? = some (.cells #[.int .i64 op] 3 (0, 0))) (h1 : W.heap[b1]? = some (.cells #[.int .i64 u.f0, .int .i64 u.f1, .string u.f2] 25 (0, 0))) (h2 : W.heap[b2]? = some (.cells #[.int .i64 v.f0, .int .i64 v.f1, .string v.f2] 25 (0, 0))) (l3 : 3 ≤ op) (l16 : op ≤ 16) (kz : k = 0) (l4 : ¬ op ≤ 4) (a0 : u.f0 = 0) :
    Calls Try.prog 38 #[.pointer (some ⟨b0, 0, none⟩), .pointer (some ⟨b1, 0, none⟩), .pointer (some ⟨b2, 0, none⟩)] W (fun e w' => RE (.ok zeroV) e ∧ Below W.heap.size W w') := by
  have hu25 := Try.underlying25
  have n0 : ¬ b0 = W.heap.size := by have := blk_lt h0; omega
  have n1 : ¬ b1 = W.heap.size := by have := blk_lt h1; omega
  have n2 : ¬ b2 = W.heap.size := by have := blk_lt h2; omega
  have HS := Aside0.mk (BI.start h0 h1 h2)
  clear h0 h1 h2
  have hc0 := HS.out.o
  have ha0 := HS.out.a0
  have ha1 := HS.out.a1
  have ha2 := HS.out.a2
  have hb0 := HS.out.v0
  have hb1 := HS.out.v1
  have hb2 := HS.out.v2
  have q0 : decide (3 ≤ op) = true := decide_eq_true l3
  have q1 : decide (op ≤ 16) = true := decide_eq_true l16
  have q2 : (k != 0) = false := bne_eq_false_iff_eq.mpr kz
  have q3 : decide (op ≤ 4) = false := decide_eq_false l4
  have q4 : (u.f0 == 0) = true := beq_iff_eq.mpr a0
  have l3' := Aside0.mk l3
  have l16' := Aside0.mk l16
  have kz' := Aside0.mk kz
  have l4' := Aside0.mk l4
  have a0' := Aside0.mk a0
  clear l3 l16 kz l4 a0
  go_enter Try.func38, Try.ntmps38
  go_wp2_with (first | (go_at_call 39; (with_reducible refine (calc_wants.calls op k _ HK.out).mono ?_); rintro e w' ⟨rfl, ⟨nd, rfl⟩⟩) | (go_at_call 30; (with_reducible refine (calc_check.yes _ _).mono ?_); rintro e w' ⟨rfl, rfl⟩) | (go_at_call 30; (with_reducible refine (calc_check.no _ _).mono ?_); rintro e w' ⟨rfl, rfl⟩))
  refine bodyPost_ret (v := .agg #[.int .i64 0, .int .i64 0, .string V0]) (by simp [results, Try.results38, go_sem, V0]) rfl ⟨rfl, ?_⟩
  refine below_set3 ?_ (Nat.le_refl W.heap.size) _ _ _ _ _ _
  repeat (first | (with_reducible exact HS.out.bel) | apply pw_below_drewN | apply below_drew1)
set_option maxHeartbeats 2000000 in
set_option maxRecDepth 100000 in
theorem calc_Binary1.nullB (op : Int) (u v : S25) (k : Int) (HK : Aside0 (calc_wants.f op = some k)) (b0 b1 b2 : Nat) (W : World) (h0 : W.heap[b0]? = some (.cells #[.int .i64 op] 3 (0, 0))) (h1 : W.heap[b1]? = some (.cells #[.int .i64 u.f0, .int .i64 u.f1, .string u.f2] 25 (0, 0))) (h2 : W.heap[b2]? = some (.cells #[.int .i64 v.f0, .int .i64 v.f1, .string v.f2] 25 (0, 0))) (l3 : 3 ≤ op) (l16 : op ≤ 16) (kz : k = 0) (l4 : ¬ op ≤ 4) (a0 : ¬ u.f0 = 0) (z0 : v.f0 = 0) :
    Calls Try.prog 38 #[.pointer (some ⟨b0, 0, none⟩), .pointer (some ⟨b1, 0, none⟩), .pointer (some ⟨b2, 0, none⟩)] W (fun e w' => RE (.ok zeroV) e ∧ Below W.heap.size W w') := by
  have hu25 := Try.underlying25
  have n0 : ¬ b0 = W.heap.size := by have := blk_lt h0; omega
  have n1 : ¬ b1 = W.heap.size := by have := blk_lt h1; omega
  have n2 : ¬ b2 = W.heap.size := by have := blk_lt h2; omega
  have HS := Aside0.mk (BI.start h0 h1 h2)
  clear h0 h1 h2
  have hc0 := HS.out.o
  have ha0 := HS.out.a0
  have ha1 := HS.out.a1
  have ha2 := HS.out.a2
  have hb0 := HS.out.v0
  have hb1 := HS.out.v1
  have hb2 := HS.out.v2
  have q0 : decide (3 ≤ op) = true := decide_eq_true l3
  have q1 : decide (op ≤ 16) = true := decide_eq_true l16
  have q2 : (k != 0) = false := bne_eq_false_iff_eq.mpr kz
  have q3 : decide (op ≤ 4) = false := decide_eq_false l4
  have q4 : (u.f0 == 0) = false := beq_eq_false_iff_ne.mpr a0
  have q5 : (v.f0 == 0) = true := beq_iff_eq.mpr z0
  have l3' := Aside0.mk l3
  have l16' := Aside0.mk l16
  have kz' := Aside0.mk kz
  have l4' := Aside0.mk l4
  have a0' := Aside0.mk a0
  have z0' := Aside0.mk z0
  clear l3 l16 kz l4 a0 z0
  go_enter Try.func38, Try.ntmps38
  go_wp2_with (first | (go_at_call 39; (with_reducible refine (calc_wants.calls op k _ HK.out).mono ?_); rintro e w' ⟨rfl, ⟨nd, rfl⟩⟩) | (go_at_call 30; (with_reducible refine (calc_check.yes _ _).mono ?_); rintro e w' ⟨rfl, rfl⟩) | (go_at_call 30; (with_reducible refine (calc_check.no _ _).mono ?_); rintro e w' ⟨rfl, rfl⟩))
  refine bodyPost_ret (v := .agg #[.int .i64 0, .int .i64 0, .string V0]) (by simp [results, Try.results38, go_sem, V0]) rfl ⟨rfl, ?_⟩
  refine below_set3 ?_ (Nat.le_refl W.heap.size) _ _ _ _ _ _
  repeat (first | (with_reducible exact HS.out.bel) | apply pw_below_drewN | apply below_drew1)
set_option maxHeartbeats 2000000 in
set_option maxRecDepth 100000 in
theorem calc_Binary1.catLong (op : Int) (u v : S25) (k : Int) (HK : Aside0 (calc_wants.f op = some k)) (b0 b1 b2 : Nat) (W : World) (h0 : W.heap[b0]? = some (.cells #[.int .i64 op] 3 (0, 0))) (h1 : W.heap[b1]? = some (.cells #[.int .i64 u.f0, .int .i64 u.f1, .string u.f2] 25 (0, 0))) (h2 : W.heap[b2]? = some (.cells #[.int .i64 v.f0, .int .i64 v.f1, .string v.f2] 25 (0, 0))) (l3 : 3 ≤ op) (l16 : op ≤ 16) (kn : ¬ k = 0) (l4 : ¬ op ≤ 4) (l10 : ¬ op ≤ 10) (o16 : op = 16) (a0 : ¬ u.f0 = 0) (z0 : ¬ v.f0 = 0) (ak : u.f0 = k) (zk : v.f0 = k) (hz : u.f2.size + v.f2.size < 9223372036854775808) (hl : ¬ u.f2.size + v.f2.size ≤ 2048) :
    Calls Try.prog 38 #[.pointer (some ⟨b0, 0, none⟩), .pointer (some ⟨b1, 0, none⟩), .pointer (some ⟨b2, 0, none⟩)] W (fun e w' => RE (.error 8) e ∧ Below W.heap.size W w') := by
  have hu25 := Try.underlying25
  have n0 : ¬ b0 = W.heap.size := by have := blk_lt h0; omega
  have n1 : ¬ b1 = W.heap.size := by have := blk_lt h1; omega
  have n2 : ¬ b2 = W.heap.size := by have := blk_lt h2; omega
  have HS := Aside0.mk (BI.start h0 h1 h2)
  clear h0 h1 h2
  have hc0 := HS.out.o
  have ha0 := HS.out.a0
  have ha1 := HS.out.a1
  have ha2 := HS.out.a2
  have hb0 := HS.out.v0
  have hb1 := HS.out.v1
  have hb2 := HS.out.v2
  have q0 : decide (3 ≤ op) = true := decide_eq_true l3
  have q1 : decide (op ≤ 16) = true := decide_eq_true l16
  have q2 : (k != 0) = true := bne_iff_ne.mpr kn
  have q3 : decide (op ≤ 4) = false := decide_eq_false l4
  have q4 : decide (op ≤ 10) = false := decide_eq_false l10
  have q5 : (op == 16) = true := beq_iff_eq.mpr o16
  have q6 : (u.f0 == 0) = false := beq_eq_false_iff_ne.mpr a0
  have q7 : (v.f0 == 0) = false := beq_eq_false_iff_ne.mpr z0
  have q8 : (u.f0 == k) = true := beq_iff_eq.mpr ak
  have q9 : (v.f0 == k) = true := beq_iff_eq.mpr zk
  have q10 : decide ((u.f2.size : Int) + (v.f2.size : Int) ≤ 2048) = false := decide_eq_false (by omega)
  have q11 : decide (wrap64 ((u.f2.size : Int) + (v.f2.size : Int)) ≤ 2048) = false := decide_eq_false (by unfold wrap64; omega)
  have l3' := Aside0.mk l3
  have l16' := Aside0.mk l16
  have kn' := Aside0.mk kn
  have l4' := Aside0.mk l4
  have l10' := Aside0.mk l10
  have o16' := Aside0.mk o16
  have a0' := Aside0.mk a0
  have z0' := Aside0.mk z0
  have ak' := Aside0.mk ak
  have zk' := Aside0.mk zk
  have hz' := Aside0.mk hz
  have hl' := Aside0.mk hl
  clear l3 l16 kn l4 l10 o16 a0 z0 ak zk hz hl
  go_enter Try.func38, Try.ntmps38
  go_wp2_with (first | (go_at_call 39; (with_reducible refine (calc_wants.calls op k _ HK.out).mono ?_); rintro e w' ⟨rfl, ⟨nd, rfl⟩⟩) | (go_at_call 30; (with_reducible refine (calc_check.yes _ _).mono ?_); rintro e w' ⟨rfl, rfl⟩) | (go_at_call 30; (with_reducible refine (calc_check.no _ _).mono ?_); rintro e w' ⟨rfl, rfl⟩))
  exact ⟨rfl, rfl, by repeat (first | exact HS.out.bel | apply pw_below_drewN | apply below_drew1)⟩
set_option maxHeartbeats 2000000 in
set_option maxRecDepth 100000 in
theorem calc_Binary1.cat (op : Int) (u v : S25) (k : Int) (HK : Aside0 (calc_wants.f op = some k)) (b0 b1 b2 : Nat) (W : World) (h0 : W.heap[b0]? = some (.cells #[.int .i64 op] 3 (0, 0))) (h1 : W.heap[b1]? = some (.cells #[.int .i64 u.f0, .int .i64 u.f1, .string u.f2] 25 (0, 0))) (h2 : W.heap[b2]? = some (.cells #[.int .i64 v.f0, .int .i64 v.f1, .string v.f2] 25 (0, 0))) (l3 : 3 ≤ op) (l16 : op ≤ 16) (kn : ¬ k = 0) (l4 : ¬ op ≤ 4) (l10 : ¬ op ≤ 10) (o16 : op = 16) (a0 : ¬ u.f0 = 0) (z0 : ¬ v.f0 = 0) (ak : u.f0 = k) (zk : v.f0 = k) (hz : u.f2.size + v.f2.size < 9223372036854775808) (hl : u.f2.size + v.f2.size ≤ 2048) :
    Calls Try.prog 38 #[.pointer (some ⟨b0, 0, none⟩), .pointer (some ⟨b1, 0, none⟩), .pointer (some ⟨b2, 0, none⟩)] W (fun e w' => RE (.ok ⟨3, 0, u.f2 ++ v.f2⟩) e ∧ Below W.heap.size W w') := by
  have hu25 := Try.underlying25
  have n0 : ¬ b0 = W.heap.size := by have := blk_lt h0; omega
  have n1 : ¬ b1 = W.heap.size := by have := blk_lt h1; omega
  have n2 : ¬ b2 = W.heap.size := by have := blk_lt h2; omega
  have HS := Aside0.mk (BI.start h0 h1 h2)
  clear h0 h1 h2
  have hc0 := HS.out.o
  have ha0 := HS.out.a0
  have ha1 := HS.out.a1
  have ha2 := HS.out.a2
  have hb0 := HS.out.v0
  have hb1 := HS.out.v1
  have hb2 := HS.out.v2
  have q0 : decide (3 ≤ op) = true := decide_eq_true l3
  have q1 : decide (op ≤ 16) = true := decide_eq_true l16
  have q2 : (k != 0) = true := bne_iff_ne.mpr kn
  have q3 : decide (op ≤ 4) = false := decide_eq_false l4
  have q4 : decide (op ≤ 10) = false := decide_eq_false l10
  have q5 : (op == 16) = true := beq_iff_eq.mpr o16
  have q6 : (u.f0 == 0) = false := beq_eq_false_iff_ne.mpr a0
  have q7 : (v.f0 == 0) = false := beq_eq_false_iff_ne.mpr z0
  have q8 : (u.f0 == k) = true := beq_iff_eq.mpr ak
  have q9 : (v.f0 == k) = true := beq_iff_eq.mpr zk
  have q10 : decide ((u.f2.size : Int) + (v.f2.size : Int) ≤ 2048) = true := decide_eq_true (by omega)
  have q11 : decide (wrap64 ((u.f2.size : Int) + (v.f2.size : Int)) ≤ 2048) = true := decide_eq_true (by unfold wrap64; omega)
  have hcat : ¬ (9223372036854775807 < u.f2.size + v.f2.size) := by omega
  have l3' := Aside0.mk l3
  have l16' := Aside0.mk l16
  have kn' := Aside0.mk kn
  have l4' := Aside0.mk l4
  have l10' := Aside0.mk l10
  have o16' := Aside0.mk o16
  have a0' := Aside0.mk a0
  have z0' := Aside0.mk z0
  have ak' := Aside0.mk ak
  have zk' := Aside0.mk zk
  have hz' := Aside0.mk hz
  have hl' := Aside0.mk hl
  clear l3 l16 kn l4 l10 o16 a0 z0 ak zk hz hl
  go_enter Try.func38, Try.ntmps38
  go_wp2_with (first | (go_at_call 39; (with_reducible refine (calc_wants.calls op k _ HK.out).mono ?_); rintro e w' ⟨rfl, ⟨nd, rfl⟩⟩) | (go_at_call 30; (with_reducible refine (calc_check.yes _ _).mono ?_); rintro e w' ⟨rfl, rfl⟩) | (go_at_call 30; (with_reducible refine (calc_check.no _ _).mono ?_); rintro e w' ⟨rfl, rfl⟩))
  refine (calc_text.calls (u.f2 ++ v.f2) _ _ _ _ (show calc_text.f (u.f2 ++ v.f2) = some (3, 0, u.f2 ++ v.f2) from rfl)).mono ?_
  rintro e w1 ⟨rfl, hb⟩
  have HI : Aside0 (BI op u v b0 b1 b2 W w1) := ⟨BI.below (by repeat (first | exact HS.out | refine BI.drewN ?_ _ | refine BI.drew ?_)) hb⟩
  clear hb hc0 ha0 ha1 ha2 hb0 hb1 hb2
  have gc0 : w1.cell? ⟨W.heap.size, 0, none⟩ = some (.int .i64 0) := (blk_cell HI.out.2.2.2.1 0).trans rfl
  have gc1 : w1.cell? ⟨W.heap.size, 1, none⟩ = some (.int .i64 0) := (blk_cell HI.out.2.2.2.1 1).trans rfl
  have gc2 : w1.cell? ⟨W.heap.size, 2, none⟩ = some (.string (⟨#[]⟩ : ByteArray)) := (blk_cell HI.out.2.2.2.1 2).trans rfl
  have gf0 := blk_frozen HI.out.2.2.2.1 0
  have gf1 := blk_frozen HI.out.2.2.2.1 1
  have gf2 := blk_frozen HI.out.2.2.2.1 2
  go_wp2_with fail
  exact bodyPost_ret (v := .agg #[.int .i64 3, .int .i64 0, .string (u.f2 ++ v.f2)]) (by simp [results, Try.results38, go_sem, gc0, gc1, gc2]) rfl ⟨rfl, below_set3 HI.out.bel (Nat.le_refl W.heap.size) _ _ _ _ _ _⟩
set_option maxHeartbeats 2000000 in
set_option maxRecDepth 100000 in
theorem calc_Binary1.num (op : Int) (u v : S25) (k : Int) (HK : Aside0 (calc_wants.f op = some k)) (b0 b1 b2 : Nat) (W : World) (h0 : W.heap[b0]? = some (.cells #[.int .i64 op] 3 (0, 0))) (h1 : W.heap[b1]? = some (.cells #[.int .i64 u.f0, .int .i64 u.f1, .string u.f2] 25 (0, 0))) (h2 : W.heap[b2]? = some (.cells #[.int .i64 v.f0, .int .i64 v.f1, .string v.f2] 25 (0, 0))) (l3 : 3 ≤ op) (l16 : op ≤ 16) (kn : ¬ k = 0) (l4 : ¬ op ≤ 4) (l10 : ¬ op ≤ 10) (o16 : ¬ op = 16) (a0 : ¬ u.f0 = 0) (z0 : ¬ v.f0 = 0) (ak : u.f0 = k) (zk : v.f0 = k) (n : Int) (HN : Aside0 (sumP op u.f1 v.f1 = .ok n)) (HU : Aside0 (In64 u.f1)) (HV : Aside0 (In64 v.f1)) :
    Calls Try.prog 38 #[.pointer (some ⟨b0, 0, none⟩), .pointer (some ⟨b1, 0, none⟩), .pointer (some ⟨b2, 0, none⟩)] W (fun e w' => RE (.ok ⟨2, n, V0⟩) e ∧ Below W.heap.size W w') := by
  have hu25 := Try.underlying25
  have n0 : ¬ b0 = W.heap.size := by have := blk_lt h0; omega
  have n1 : ¬ b1 = W.heap.size := by have := blk_lt h1; omega
  have n2 : ¬ b2 = W.heap.size := by have := blk_lt h2; omega
  have HS := Aside0.mk (BI.start h0 h1 h2)
  clear h0 h1 h2
  have hc0 := HS.out.o
  have ha0 := HS.out.a0
  have ha1 := HS.out.a1
  have ha2 := HS.out.a2
  have hb0 := HS.out.v0
  have hb1 := HS.out.v1
  have hb2 := HS.out.v2
  have q0 : decide (3 ≤ op) = true := decide_eq_true l3
  have q1 : decide (op ≤ 16) = true := decide_eq_true l16
  have q2 : (k != 0) = true := bne_iff_ne.mpr kn
  have q3 : decide (op ≤ 4) = false := decide_eq_false l4
  have q4 : decide (op ≤ 10) = false := decide_eq_false l10
  have q5 : (op == 16) = false := beq_eq_false_iff_ne.mpr o16
  have q6 : (u.f0 == 0) = false := beq_eq_false_iff_ne.mpr a0
  have q7 : (v.f0 == 0) = false := beq_eq_false_iff_ne.mpr z0
  have q8 : (u.f0 == k) = true := beq_iff_eq.mpr ak
  have q9 : (v.f0 == k) = true := beq_iff_eq.mpr zk
  have l3' := Aside0.mk l3
  have l16' := Aside0.mk l16
  have kn' := Aside0.mk kn
  have l4' := Aside0.mk l4
  have l10' := Aside0.mk l10
  have o16' := Aside0.mk o16
  have a0' := Aside0.mk a0
  have z0' := Aside0.mk z0
  have ak' := Aside0.mk ak
  have zk' := Aside0.mk zk
  clear l3 l16 kn l4 l10 o16 a0 z0 ak zk
  go_enter Try.func38, Try.ntmps38
  go_wp2_with (first | (go_at_call 39; (with_reducible refine (calc_wants.calls op k _ HK.out).mono ?_); rintro e w' ⟨rfl, ⟨nd, rfl⟩⟩) | (go_at_call 30; (with_reducible refine (calc_check.yes _ _).mono ?_); rintro e w' ⟨rfl, rfl⟩) | (go_at_call 30; (with_reducible refine (calc_check.no _ _).mono ?_); rintro e w' ⟨rfl, rfl⟩))
  refine (calc_sum.calls op u.f1 v.f1 HU.out HV.out _).mono ?_
  rintro e w' ⟨he, ⟨nd2, rfl⟩⟩
  rw [HN.out] at he
  obtain rfl : e = .returned (.int .i64 n) := he
  go_wp2_with fail
  refine (calc_number.calls n _ _ _ _ (show calc_number.f n = some (2, n, V0) from rfl)).mono ?_
  rintro e w1 ⟨rfl, hb⟩
  have HI : Aside0 (BI op u v b0 b1 b2 W w1) := ⟨BI.below (by repeat (first | exact HS.out | refine BI.drewN ?_ _ | refine BI.drew ?_)) hb⟩
  clear hb hc0 ha0 ha1 ha2 hb0 hb1 hb2
  have gc0 : w1.cell? ⟨W.heap.size, 0, none⟩ = some (.int .i64 0) := (blk_cell HI.out.2.2.2.1 0).trans rfl
  have gc1 : w1.cell? ⟨W.heap.size, 1, none⟩ = some (.int .i64 0) := (blk_cell HI.out.2.2.2.1 1).trans rfl
  have gc2 : w1.cell? ⟨W.heap.size, 2, none⟩ = some (.string (⟨#[]⟩ : ByteArray)) := (blk_cell HI.out.2.2.2.1 2).trans rfl
  have gf0 := blk_frozen HI.out.2.2.2.1 0
  have gf1 := blk_frozen HI.out.2.2.2.1 1
  have gf2 := blk_frozen HI.out.2.2.2.1 2
  go_wp2_with fail
  exact bodyPost_ret (v := .agg #[.int .i64 2, .int .i64 n, .string V0]) (by simp [results, Try.results38, go_sem, gc0, gc1, gc2]) rfl ⟨rfl, below_set3 HI.out.bel (Nat.le_refl W.heap.size) _ _ _ _ _ _⟩
set_option maxHeartbeats 2000000 in
set_option maxRecDepth 100000 in
theorem calc_Binary1.numE (op : Int) (u v : S25) (k : Int) (HK : Aside0 (calc_wants.f op = some k)) (b0 b1 b2 : Nat) (W : World) (h0 : W.heap[b0]? = some (.cells #[.int .i64 op] 3 (0, 0))) (h1 : W.heap[b1]? = some (.cells #[.int .i64 u.f0, .int .i64 u.f1, .string u.f2] 25 (0, 0))) (h2 : W.heap[b2]? = some (.cells #[.int .i64 v.f0, .int .i64 v.f1, .string v.f2] 25 (0, 0))) (l3 : 3 ≤ op) (l16 : op ≤ 16) (kn : ¬ k = 0) (l4 : ¬ op ≤ 4) (l10 : ¬ op ≤ 10) (o16 : ¬ op = 16) (a0 : ¬ u.f0 = 0) (z0 : ¬ v.f0 = 0) (ak : u.f0 = k) (zk : v.f0 = k) (c : Int) (HN : Aside0 (sumP op u.f1 v.f1 = .error c)) (HU : Aside0 (In64 u.f1)) (HV : Aside0 (In64 v.f1)) :
    Calls Try.prog 38 #[.pointer (some ⟨b0, 0, none⟩), .pointer (some ⟨b1, 0, none⟩), .pointer (some ⟨b2, 0, none⟩)] W (fun e w' => RE (.error c) e ∧ Below W.heap.size W w') := by
  have hu25 := Try.underlying25
  have n0 : ¬ b0 = W.heap.size := by have := blk_lt h0; omega
  have n1 : ¬ b1 = W.heap.size := by have := blk_lt h1; omega
  have n2 : ¬ b2 = W.heap.size := by have := blk_lt h2; omega
  have HS := Aside0.mk (BI.start h0 h1 h2)
  clear h0 h1 h2
  have hc0 := HS.out.o
  have ha0 := HS.out.a0
  have ha1 := HS.out.a1
  have ha2 := HS.out.a2
  have hb0 := HS.out.v0
  have hb1 := HS.out.v1
  have hb2 := HS.out.v2
  have q0 : decide (3 ≤ op) = true := decide_eq_true l3
  have q1 : decide (op ≤ 16) = true := decide_eq_true l16
  have q2 : (k != 0) = true := bne_iff_ne.mpr kn
  have q3 : decide (op ≤ 4) = false := decide_eq_false l4
  have q4 : decide (op ≤ 10) = false := decide_eq_false l10
  have q5 : (op == 16) = false := beq_eq_false_iff_ne.mpr o16
  have q6 : (u.f0 == 0) = false := beq_eq_false_iff_ne.mpr a0
  have q7 : (v.f0 == 0) = false := beq_eq_false_iff_ne.mpr z0
  have q8 : (u.f0 == k) = true := beq_iff_eq.mpr ak
  have q9 : (v.f0 == k) = true := beq_iff_eq.mpr zk
  have l3' := Aside0.mk l3
  have l16' := Aside0.mk l16
  have kn' := Aside0.mk kn
  have l4' := Aside0.mk l4
  have l10' := Aside0.mk l10
  have o16' := Aside0.mk o16
  have a0' := Aside0.mk a0
  have z0' := Aside0.mk z0
  have ak' := Aside0.mk ak
  have zk' := Aside0.mk zk
  clear l3 l16 kn l4 l10 o16 a0 z0 ak zk
  go_enter Try.func38, Try.ntmps38
  go_wp2_with (first | (go_at_call 39; (with_reducible refine (calc_wants.calls op k _ HK.out).mono ?_); rintro e w' ⟨rfl, ⟨nd, rfl⟩⟩) | (go_at_call 30; (with_reducible refine (calc_check.yes _ _).mono ?_); rintro e w' ⟨rfl, rfl⟩) | (go_at_call 30; (with_reducible refine (calc_check.no _ _).mono ?_); rintro e w' ⟨rfl, rfl⟩))
  refine (calc_sum.calls op u.f1 v.f1 HU.out HV.out _).mono ?_
  rintro e w' ⟨he, ⟨nd2, rfl⟩⟩
  rw [HN.out] at he
  obtain rfl : e = .panicked [{ v := .iface 26 (.int .i64 c), recovered := false }] := he
  go_wp2_with fail
  exact ⟨rfl, rfl, by repeat (first | exact HS.out.bel | apply pw_below_drewN | apply below_drew1)⟩
end Go.Proofs.Ytfbeklbjlkgbnaa.P

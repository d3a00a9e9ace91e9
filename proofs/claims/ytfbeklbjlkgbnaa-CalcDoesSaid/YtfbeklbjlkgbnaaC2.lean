/- Written in this session: calc.caught, for each sum that it is handed. No condition. -/
import Derived.Test.YtfbeklbjlkgbnaaC1
namespace Go.Proofs.Ytfbeklbjlkgbnaa.P
open Go.RowKit Go.Proofs.YtfbeklbjlkgbnaaW.PrintWords Go.Proofs.YtfbeklbjlkgbnaaW.PrintLast Go.Proofs.YtfbeklbjlkgbnaaW.PrintMore
attribute [local go_sem] max2_int min2_int max_two min_two max_three min_three max_four min_four   -- for this text's walks alone
set_option linter.unusedVariables false
set_option linter.unusedSimpArgs false

set_option maxHeartbeats 2000000 in
set_option maxRecDepth 100000 in
theorem calc_caught.u (b0 b1 : Nat) (w : World) (res : Except Int S25) (H : ∀ W, Below w.heap.size w W → Calls Try.prog 53 #[.pointer (some ⟨b0, 0, none⟩), .pointer (some ⟨b1, 0, none⟩)] W (fun e w' => RE res e ∧ Below W.heap.size W w')) :
    Calls Try.prog 28 #[.func (.func 53) #[] #[.pointer (some ⟨b0, 0, none⟩), .pointer (some ⟨b1, 0, none⟩)]] w fun e w' => e = .returned (.tuple #[encV (outE res).1, .int .i64 (outE res).2]) ∧ Below w.heap.size w w' := by
  have hu25 := Try.underlying25
  have hmf : ∀ (fn : Fn) (first cap : Array Value) (w : World), (Instr.makeFunc fn first cap).run Try.prog w = .ok (.func fn first cap) w := fun _ _ _ _ => rfl
  have HH := Aside0.mk H
  clear H
  go_enter_defers Try.func28, Try.ntmps28
  go_wp2_with fail
  have hB0 : Below w.heap.size w ((w.alloc (.cells #[.int .i64 0, .int .i64 0, .string (⟨#[]⟩ : ByteArray)] 25)).alloc (.cells #[.int .i64 0] 26)) := below_alloc (below_alloc (Below.refl _ _) _) _
  have hF0 : ((w.alloc (.cells #[.int .i64 0, .int .i64 0, .string (⟨#[]⟩ : ByteArray)] 25)).alloc (.cells #[.int .i64 0] 26)).heap[w.heap.size]? = some (.cells #[.int .i64 0, .int .i64 0, .string (⟨#[]⟩ : ByteArray)] 25 (0, 0)) := blk_alloc (Deep.blk_alloc_new w _) _
  have hF1 : ((w.alloc (.cells #[.int .i64 0, .int .i64 0, .string (⟨#[]⟩ : ByteArray)] 25)).alloc (.cells #[.int .i64 0] 26)).heap[w.heap.size + 1]? = some (.cells #[.int .i64 0] 26 (0, 0)) := by
    have := Deep.blk_alloc_new (w.alloc (.cells #[.int .i64 0, .int .i64 0, .string (⟨#[]⟩ : ByteArray)] 25)) (.cells #[.int .i64 0] 26)
    simpa using this
  refine (HH.out _ hB0).mono ?_
  rintro e w1 ⟨he, hb⟩
  have F0 := (hb.block _ (blk_lt hF0)).trans hF0
  have F1 := (hb.block _ (blk_lt hF1)).trans hF1
  have FB : Below w.heap.size w w1 := below_step hB0 hb
  clear hB0 hF0 hF1 hb HH
  have hne : ¬ w.heap.size = w.heap.size + 1 := by omega
  have hne' : ¬ w.heap.size + 1 = w.heap.size := by omega
  cases res with
  | error c =>
    obtain rfl : e = .panicked [{ v := .iface 26 (.int .i64 c), recovered := false }] := he
    have G0 := Aside0.mk F0
    have G1 := Aside0.mk F1
    have GB := Aside0.mk FB
    clear F0 F1 FB
    go_wp2_with fail
    refine leaves_cons (f := 54) (args := #[.pointer (some ⟨w.heap.size, 0, none⟩), .pointer (some ⟨w.heap.size + 1, 0, none⟩)]) (by simp) (by simp [go_sem]) ?_
    refine (calc_caught.caught _ _ c _ _ _ _ _ hne G0.out G1.out).mono ?_
    rintro e u' w'' ⟨rfl, rfl, rfl⟩
    have hc0 : w1.cell? ⟨w.heap.size, 0, none⟩ = some (.int .i64 0) := (blk_cell G0.out 0).trans rfl
    have hc1 : w1.cell? ⟨w.heap.size, 1, none⟩ = some (.int .i64 0) := (blk_cell G0.out 1).trans rfl
    have hc2 : w1.cell? ⟨w.heap.size, 2, none⟩ = some (.string (⟨#[]⟩ : ByteArray)) := (blk_cell G0.out 2).trans rfl
    have hd0 : w1.cell? ⟨w.heap.size + 1, 0, none⟩ = some (.int .i64 0) := (blk_cell G1.out 0).trans rfl
    refine ⟨.tuple #[.agg #[.int .i64 0, .int .i64 0, .string V0], .int .i64 c], by simp [results, Try.results28, go_sem, hc0, hc1, hc2, hd0, hne, hne', V0], rfl, ?_⟩
    exact Below.setCell (Below.setCell (Below.setCell (Below.setCell GB.out (Nat.le_refl _) _) (Nat.le_refl _) _) (Nat.le_refl _) _) (by show w.heap.size ≤ w.heap.size + 1; omega) _
  | ok v =>
    obtain rfl : e = .returned (.agg #[.int .i64 v.f0, .int .i64 v.f1, .string v.f2]) := he
    have hc0 : w1.cell? ⟨w.heap.size, 0, none⟩ = some (.int .i64 0) := (blk_cell F0 0).trans rfl
    have hc1 : w1.cell? ⟨w.heap.size, 1, none⟩ = some (.int .i64 0) := (blk_cell F0 1).trans rfl
    have hc2 : w1.cell? ⟨w.heap.size, 2, none⟩ = some (.string (⟨#[]⟩ : ByteArray)) := (blk_cell F0 2).trans rfl
    have hd0 : w1.cell? ⟨w.heap.size + 1, 0, none⟩ = some (.int .i64 0) := (blk_cell F1 0).trans rfl
    have hf0 := blk_frozen F0 0
    have hf1 := blk_frozen F0 1
    have hf2 := blk_frozen F0 2
    have hg0 := blk_frozen F1 0
    have GB := Aside0.mk FB
    clear F0 F1 FB
    go_wp2_with fail
    refine leaves_cons (f := 54) (args := #[.pointer (some ⟨w.heap.size, 0, none⟩), .pointer (some ⟨w.heap.size + 1, 0, none⟩)]) (by simp) (by simp [go_sem]) ?_
    refine (calc_caught.idle _ _ _).mono ?_
    rintro e u' w'' ⟨rfl, rfl, rfl⟩
    refine ⟨.tuple #[.agg #[.int .i64 v.f0, .int .i64 v.f1, .string v.f2], .int .i64 0], by simp [results, Try.results28, go_sem, hc0, hc1, hc2, hd0, hne, hne'], rfl, ?_⟩
    exact Below.setCell (Below.setCell (Below.setCell (Below.setCell GB.out (Nat.le_refl _) _) (Nat.le_refl _) _) (Nat.le_refl _) _) (by show w.heap.size ≤ w.heap.size + 1; omega) _
set_option maxHeartbeats 2000000 in
set_option maxRecDepth 100000 in
theorem calc_caught.b (b0 b1 b2 : Nat) (w : World) (res : Except Int S25) (H : ∀ W, Below w.heap.size w W → Calls Try.prog 38 #[.pointer (some ⟨b0, 0, none⟩), .pointer (some ⟨b1, 0, none⟩), .pointer (some ⟨b2, 0, none⟩)] W (fun e w' => RE res e ∧ Below W.heap.size W w')) :
    Calls Try.prog 28 #[.func (.func 38) #[] #[.pointer (some ⟨b0, 0, none⟩), .pointer (some ⟨b1, 0, none⟩), .pointer (some ⟨b2, 0, none⟩)]] w fun e w' => e = .returned (.tuple #[encV (outE res).1, .int .i64 (outE res).2]) ∧ Below w.heap.size w w' := by
  have hu25 := Try.underlying25
  have hmf : ∀ (fn : Fn) (first cap : Array Value) (w : World), (Instr.makeFunc fn first cap).run Try.prog w = .ok (.func fn first cap) w := fun _ _ _ _ => rfl
  have HH := Aside0.mk H
  clear H
  go_enter_defers Try.func28, Try.ntmps28
  go_wp2_with fail
  have hB0 : Below w.heap.size w ((w.alloc (.cells #[.int .i64 0, .int .i64 0, .string (⟨#[]⟩ : ByteArray)] 25)).alloc (.cells #[.int .i64 0] 26)) := below_alloc (below_alloc (Below.refl _ _) _) _
  have hF0 : ((w.alloc (.cells #[.int .i64 0, .int .i64 0, .string (⟨#[]⟩ : ByteArray)] 25)).alloc (.cells #[.int .i64 0] 26)).heap[w.heap.size]? = some (.cells #[.int .i64 0, .int .i64 0, .string (⟨#[]⟩ : ByteArray)] 25 (0, 0)) := blk_alloc (Deep.blk_alloc_new w _) _
  have hF1 : ((w.alloc (.cells #[.int .i64 0, .int .i64 0, .string (⟨#[]⟩ : ByteArray)] 25)).alloc (.cells #[.int .i64 0] 26)).heap[w.heap.size + 1]? = some (.cells #[.int .i64 0] 26 (0, 0)) := by
    have := Deep.blk_alloc_new (w.alloc (.cells #[.int .i64 0, .int .i64 0, .string (⟨#[]⟩ : ByteArray)] 25)) (.cells #[.int .i64 0] 26)
    simpa using this
  refine (HH.out _ hB0).mono ?_
  rintro e w1 ⟨he, hb⟩
  have F0 := (hb.block _ (blk_lt hF0)).trans hF0
  have F1 := (hb.block _ (blk_lt hF1)).trans hF1
  have FB : Below w.heap.size w w1 := below_step hB0 hb
  clear hB0 hF0 hF1 hb HH
  have hne : ¬ w.heap.size = w.heap.size + 1 := by omega
  have hne' : ¬ w.heap.size + 1 = w.heap.size := by omega
  cases res with
  | error c =>
    obtain rfl : e = .panicked [{ v := .iface 26 (.int .i64 c), recovered := false }] := he
    have G0 := Aside0.mk F0
    have G1 := Aside0.mk F1
    have GB := Aside0.mk FB
    clear F0 F1 FB
    go_wp2_with fail
    refine leaves_cons (f := 54) (args := #[.pointer (some ⟨w.heap.size, 0, none⟩), .pointer (some ⟨w.heap.size + 1, 0, none⟩)]) (by simp) (by simp [go_sem]) ?_
    refine (calc_caught.caught _ _ c _ _ _ _ _ hne G0.out G1.out).mono ?_
    rintro e u' w'' ⟨rfl, rfl, rfl⟩
    have hc0 : w1.cell? ⟨w.heap.size, 0, none⟩ = some (.int .i64 0) := (blk_cell G0.out 0).trans rfl
    have hc1 : w1.cell? ⟨w.heap.size, 1, none⟩ = some (.int .i64 0) := (blk_cell G0.out 1).trans rfl
    have hc2 : w1.cell? ⟨w.heap.size, 2, none⟩ = some (.string (⟨#[]⟩ : ByteArray)) := (blk_cell G0.out 2).trans rfl
    have hd0 : w1.cell? ⟨w.heap.size + 1, 0, none⟩ = some (.int .i64 0) := (blk_cell G1.out 0).trans rfl
    refine ⟨.tuple #[.agg #[.int .i64 0, .int .i64 0, .string V0], .int .i64 c], by simp [results, Try.results28, go_sem, hc0, hc1, hc2, hd0, hne, hne', V0], rfl, ?_⟩
    exact Below.setCell (Below.setCell (Below.setCell (Below.setCell GB.out (Nat.le_refl _) _) (Nat.le_refl _) _) (Nat.le_refl _) _) (by show w.heap.size ≤ w.heap.size + 1; omega) _
  | ok v =>
    obtain rfl : e = .returned (.agg #[.int .i64 v.f0, .int .i64 v.f1, .string v.f2]) := he
    have hc0 : w1.cell? ⟨w.heap.size, 0, none⟩ = some (.int .i64 0) := (blk_cell F0 0).trans rfl
    have hc1 : w1.cell? ⟨w.heap.size, 1, none⟩ = some (.int .i64 0) := (blk_cell F0 1).trans rfl
    have hc2 : w1.cell? ⟨w.heap.size, 2, none⟩ = some (.string (⟨#[]⟩ : ByteArray)) := (blk_cell F0 2).trans rfl
    have hd0 : w1.cell? ⟨w.heap.size + 1, 0, none⟩ = some (.int .i64 0) := (blk_cell F1 0).trans rfl
    have hf0 := blk_frozen F0 0
    have hf1 := blk_frozen F0 1
    have hf2 := blk_frozen F0 2
    have hg0 := blk_frozen F1 0
    have GB := Aside0.mk FB
    clear F0 F1 FB
    go_wp2_with fail
    refine leaves_cons (f := 54) (args := #[.pointer (some ⟨w.heap.size, 0, none⟩), .pointer (some ⟨w.heap.size + 1, 0, none⟩)]) (by simp) (by simp [go_sem]) ?_
    refine (calc_caught.idle _ _ _).mono ?_
    rintro e u' w'' ⟨rfl, rfl, rfl⟩
    refine ⟨.tuple #[.agg #[.int .i64 v.f0, .int .i64 v.f1, .string v.f2], .int .i64 0], by simp [results, Try.results28, go_sem, hc0, hc1, hc2, hd0, hne, hne'], rfl, ?_⟩
    exact Below.setCell (Below.setCell (Below.setCell (Below.setCell GB.out (Nat.le_refl _) _) (Nat.le_refl _) _) (Nat.le_refl _) _) (by show w.heap.size ≤ w.heap.size + 1; omega) _
set_option maxHeartbeats 2000000 in
set_option maxRecDepth 100000 in
theorem calc_caught.c (b0 b1 : Nat) (w : World) (res : Except Int S25) (H : ∀ W, Below w.heap.size w W → Calls Try.prog 29 #[.pointer (some ⟨b0, 0, none⟩), .pointer (some ⟨b1, 0, none⟩)] W (fun e w' => RE res e ∧ Below W.heap.size W w')) :
    Calls Try.prog 28 #[.func (.func 29) #[] #[.pointer (some ⟨b0, 0, none⟩), .pointer (some ⟨b1, 0, none⟩)]] w fun e w' => e = .returned (.tuple #[encV (outE res).1, .int .i64 (outE res).2]) ∧ Below w.heap.size w w' := by
  have hu25 := Try.underlying25
  have hmf : ∀ (fn : Fn) (first cap : Array Value) (w : World), (Instr.makeFunc fn first cap).run Try.prog w = .ok (.func fn first cap) w := fun _ _ _ _ => rfl
  have HH := Aside0.mk H
  clear H
  go_enter_defers Try.func28, Try.ntmps28
  go_wp2_with fail
  have hB0 : Below w.heap.size w ((w.alloc (.cells #[.int .i64 0, .int .i64 0, .string (⟨#[]⟩ : ByteArray)] 25)).alloc (.cells #[.int .i64 0] 26)) := below_alloc (below_alloc (Below.refl _ _) _) _
  have hF0 : ((w.alloc (.cells #[.int .i64 0, .int .i64 0, .string (⟨#[]⟩ : ByteArray)] 25)).alloc (.cells #[.int .i64 0] 26)).heap[w.heap.size]? = some (.cells #[.int .i64 0, .int .i64 0, .string (⟨#[]⟩ : ByteArray)] 25 (0, 0)) := blk_alloc (Deep.blk_alloc_new w _) _
  have hF1 : ((w.alloc (.cells #[.int .i64 0, .int .i64 0, .string (⟨#[]⟩ : ByteArray)] 25)).alloc (.cells #[.int .i64 0] 26)).heap[w.heap.size + 1]? = some (.cells #[.int .i64 0] 26 (0, 0)) := by
    have := Deep.blk_alloc_new (w.alloc (.cells #[.int .i64 0, .int .i64 0, .string (⟨#[]⟩ : ByteArray)] 25)) (.cells #[.int .i64 0] 26)
    simpa using this
  refine (HH.out _ hB0).mono ?_
  rintro e w1 ⟨he, hb⟩
  have F0 := (hb.block _ (blk_lt hF0)).trans hF0
  have F1 := (hb.block _ (blk_lt hF1)).trans hF1
  have FB : Below w.heap.size w w1 := below_step hB0 hb
  clear hB0 hF0 hF1 hb HH
  have hne : ¬ w.heap.size = w.heap.size + 1 := by omega
  have hne' : ¬ w.heap.size + 1 = w.heap.size := by omega
  cases res with
  | error c =>
    obtain rfl : e = .panicked [{ v := .iface 26 (.int .i64 c), recovered := false }] := he
    have G0 := Aside0.mk F0
    have G1 := Aside0.mk F1
    have GB := Aside0.mk FB
    clear F0 F1 FB
    go_wp2_with fail
    refine leaves_cons (f := 54) (args := #[.pointer (some ⟨w.heap.size, 0, none⟩), .pointer (some ⟨w.heap.size + 1, 0, none⟩)]) (by simp) (by simp [go_sem]) ?_
    refine (calc_caught.caught _ _ c _ _ _ _ _ hne G0.out G1.out).mono ?_
    rintro e u' w'' ⟨rfl, rfl, rfl⟩
    have hc0 : w1.cell? ⟨w.heap.size, 0, none⟩ = some (.int .i64 0) := (blk_cell G0.out 0).trans rfl
    have hc1 : w1.cell? ⟨w.heap.size, 1, none⟩ = some (.int .i64 0) := (blk_cell G0.out 1).trans rfl
    have hc2 : w1.cell? ⟨w.heap.size, 2, none⟩ = some (.string (⟨#[]⟩ : ByteArray)) := (blk_cell G0.out 2).trans rfl
    have hd0 : w1.cell? ⟨w.heap.size + 1, 0, none⟩ = some (.int .i64 0) := (blk_cell G1.out 0).trans rfl
    refine ⟨.tuple #[.agg #[.int .i64 0, .int .i64 0, .string V0], .int .i64 c], by simp [results, Try.results28, go_sem, hc0, hc1, hc2, hd0, hne, hne', V0], rfl, ?_⟩
    exact Below.setCell (Below.setCell (Below.setCell (Below.setCell GB.out (Nat.le_refl _) _) (Nat.le_refl _) _) (Nat.le_refl _) _) (by show w.heap.size ≤ w.heap.size + 1; omega) _
  | ok v =>
    obtain rfl : e = .returned (.agg #[.int .i64 v.f0, .int .i64 v.f1, .string v.f2]) := he
    have hc0 : w1.cell? ⟨w.heap.size, 0, none⟩ = some (.int .i64 0) := (blk_cell F0 0).trans rfl
    have hc1 : w1.cell? ⟨w.heap.size, 1, none⟩ = some (.int .i64 0) := (blk_cell F0 1).trans rfl
    have hc2 : w1.cell? ⟨w.heap.size, 2, none⟩ = some (.string (⟨#[]⟩ : ByteArray)) := (blk_cell F0 2).trans rfl
    have hd0 : w1.cell? ⟨w.heap.size + 1, 0, none⟩ = some (.int .i64 0) := (blk_cell F1 0).trans rfl
    have hf0 := blk_frozen F0 0
    have hf1 := blk_frozen F0 1
    have hf2 := blk_frozen F0 2
    have hg0 := blk_frozen F1 0
    have GB := Aside0.mk FB
    clear F0 F1 FB
    go_wp2_with fail
    refine leaves_cons (f := 54) (args := #[.pointer (some ⟨w.heap.size, 0, none⟩), .pointer (some ⟨w.heap.size + 1, 0, none⟩)]) (by simp) (by simp [go_sem]) ?_
    refine (calc_caught.idle _ _ _).mono ?_
    rintro e u' w'' ⟨rfl, rfl, rfl⟩
    refine ⟨.tuple #[.agg #[.int .i64 v.f0, .int .i64 v.f1, .string v.f2], .int .i64 0], by simp [results, Try.results28, go_sem, hc0, hc1, hc2, hd0, hne, hne'], rfl, ?_⟩
    exact Below.setCell (Below.setCell (Below.setCell (Below.setCell GB.out (Nat.le_refl _) _) (Nat.le_refl _) _) (Nat.le_refl _) _) (by show w.heap.size ≤ w.heap.size + 1; omega) _
end Go.Proofs.Ytfbeklbjlkgbnaa.P

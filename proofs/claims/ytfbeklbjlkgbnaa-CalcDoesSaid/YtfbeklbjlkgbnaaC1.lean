/- Written in this session: calc's check and caught by hand. No condition. -/
import Derived.Test.YtfbeklbjlkgbnaaP0
import Derived.Defers
import Derived.Recover
import Derived.WideLaws
import Derived.WalkLawsBesides
import Derived.WalkSpells
import Derived.Outline
namespace Go.Proofs.Ytfbeklbjlkgbnaa.P
open Go.RowKit Go.Proofs.YtfbeklbjlkgbnaaW.PrintWords Go.Proofs.YtfbeklbjlkgbnaaW.PrintLast Go.Proofs.YtfbeklbjlkgbnaaW.PrintMore
attribute [local go_sem] max2_int min2_int max_two min_two max_three min_three max_four min_four   -- for this text's walks alone
set_option linter.unusedVariables false
set_option linter.unusedSimpArgs false

def V0 : ByteArray := ⟨#[]⟩
def encV (v : S25) : Value := .agg #[.int .i64 v.f0, .int .i64 v.f1, .string v.f2]
def PErr (c : Int) : Ending := .panicked [{ v := .iface 26 (.int .i64 c), recovered := false }]
/-- How a sum ends: its value, or what it threw. -/
def RE (r : Except Int S25) (e : Ending) : Prop := match r with | .ok v => e = .returned (encV v) | .error c => e = PErr c
def outE (r : Except Int S25) : S25 × Int := match r with | .ok v => (v, 0) | .error c => (⟨0, 0, V0⟩, c)

theorem calc_check.yes (c : Int) (w : World) : Calls Try.prog 30 #[.bool true, .int .i64 c] w fun e w' => e = .returned (.tuple #[]) ∧ w = w' := by
  go_enter Try.func30, Try.ntmps30
  go_wp2
  first | go_end0 | ((try simp only [Exit.inBlock, Exit.then]); refine bodyPost_ret (results_none rfl _ _ _) rfl ?_)
  exact ⟨rfl, rfl⟩
theorem calc_check.no (c : Int) (w : World) : Calls Try.prog 30 #[.bool false, .int .i64 c] w fun e w' => e = .panicked [{ v := .iface 26 (.int .i64 c), recovered := false }] ∧ w = w' := by
  go_enter Try.func30, Try.ntmps30
  go_wp2
  exact ⟨rfl, rfl, rfl⟩

theorem calc_as_errno (v : Value) (w : World) : (Instr.typeAssert (.iface 26 v) 20 26 true).run Try.prog w = .ok (.tuple #[v, .bool true]) w := by kernel_rfl
theorem calc_caught.caught (b0 b1 : Nat) (c : Int) (v0 v1 v2 x : Value) (w : World) (hne : ¬ b0 = b1) (h0 : w.heap[b0]? = some (.cells #[v0, v1, v2] 25 (0, 0))) (h1 : w.heap[b1]? = some (.cells #[x] 26 (0, 0))) :
    CallsD Try.prog 54 #[.pointer (some ⟨b0, 0, none⟩), .pointer (some ⟨b1, 0, none⟩)] (.panicking [{ v := .iface 26 (.int .i64 c), recovered := false }]) w fun e u' w' =>
      e = .returned (.tuple #[]) ∧ u' = .panicking [{ v := .iface 26 (.int .i64 c), recovered := true }] ∧ w' = (((w.setCell ⟨b0, 0, none⟩ (.int .i64 0)).setCell ⟨b0, 1, none⟩ (.int .i64 0)).setCell ⟨b0, 2, none⟩ (.string V0)).setCell ⟨b1, 0, none⟩ (.int .i64 c) := by
  have hne' : ¬ b1 = b0 := fun h => hne h.symm
  have hta := calc_as_errno
  have hu25 := Try.underlying25
  have hc0 : w.cell? ⟨b0, 0, none⟩ = some v0 := (blk_cell h0 0).trans rfl
  have hc1 : w.cell? ⟨b0, 1, none⟩ = some v1 := (blk_cell h0 1).trans rfl
  have hc2 : w.cell? ⟨b0, 2, none⟩ = some v2 := (blk_cell h0 2).trans rfl
  have hf0 := blk_frozen h0 0
  have hf1 := blk_frozen h0 1
  have hf2 := blk_frozen h0 2
  have hd0 : w.cell? ⟨b1, 0, none⟩ = some x := (blk_cell h1 0).trans rfl
  have hg0 := blk_frozen h1 0
  clear h0 h1
  refine callsD_of_wpS Try.func54 rfl fun c₀ cs hu => ?_
  apply wpS_seq
  apply wpS_region
  have hrep : (Array.replicate 11 undef : Array Value) = #[undef, undef, undef, undef, undef, undef, undef, undef, undef, undef, undef] := rfl
  simp [wpOpsS, go_sem, recoverD, hu, Try.ntmps54, Exit.thenS, hrep]
  clear hrep
  refine wpS_of_wp ?_
  go_wp2
  exact ⟨rfl, .panicking [{ v := .iface 26 (.int .i64 c), recovered := true }], rfl, .tuple #[], results_none rfl _ _ _, rfl, rfl, rfl⟩
theorem calc_caught.idle (b0 b1 : Nat) (w : World) :
    CallsD Try.prog 54 #[.pointer (some ⟨b0, 0, none⟩), .pointer (some ⟨b1, 0, none⟩)] .returning w fun e u' w' => e = .returned (.tuple #[]) ∧ u' = .returning ∧ w' = w := by
  refine callsD_of_wpS Try.func54 rfl fun c₀ cs hu => ?_
  apply wpS_seq
  apply wpS_region
  have hrep : (Array.replicate 11 undef : Array Value) = #[undef, undef, undef, undef, undef, undef, undef, undef, undef, undef, undef] := rfl
  simp [wpOpsS, go_sem, recoverD, hu, Try.ntmps54, Exit.thenS, hrep]
  clear hrep
  refine wpS_of_wp ?_
  go_wp2
  refine ⟨rfl, .returning, ?_, .tuple #[], results_none rfl _ _ _, rfl, rfl, rfl⟩
  cases c₀
  simp_all
end Go.Proofs.Ytfbeklbjlkgbnaa.P

/- Written in this session: the law's works by hand. Condition: the library's tables as the program's text lays them. -/
import Derived.Test.YtkidihoaeicfdaaDoorT2
import Derived.Test.YtkidihoaeicfdaaDoorA2
namespace Go.Proofs.YtkidihoaeicfdaaDoor.P
open Go.RowKit Go.Shelf Go.Proofs.YtkidihoaeicfdaaDoorW.PrintWords Go.Proofs.YtkidihoaeicfdaaDoorW.PrintLast Go.Proofs.YtkidihoaeicfdaaDoorW.PrintMore
set_option linter.unusedVariables false
set_option linter.unusedSimpArgs false
def quarrylaw01_works.f : Option Bool := some true
theorem lit_its : value_Literal.f 3 0 ⟨#[105, 116, 39, 115]⟩ = some ⟨#[39, 105, 116, 39, 39, 115, 39]⟩ := by rfl
theorem lit_blob : value_Literal.f 4 0 ⟨#[10, 255]⟩ = some ⟨#[88, 39, 48, 65, 70, 70, 39]⟩ := by rfl
set_option maxHeartbeats 4000000 in
set_option maxRecDepth 100000 in
theorem quarrylaw01_works.calls (r : Bool) (w : World) (h : quarrylaw01_works.f = some r) (ht : Tabs w) :
    Calls Tryd.prog 14 #[] w fun e w' => e = .returned (.bool r) ∧ Below w.heap.size w w' := by
  obtain rfl : true = r := Option.some.inj h
  clear h
  have HT := Aside0.mk ht
  have hu := Tryd.underlying23
  clear ht
  go_enter Tryd.func14, Tryd.ntmps14
  go_wp2_with fail
  refine (value_Compare.calls 3 0 0 ⟨#[]⟩ 1 0 ⟨#[]⟩ (-1) _ rfl).mono ?_
  rintro e w1 ⟨rfl, hb⟩
  have HB := Aside0.mk hb
  clear hb
  go_wp2_with fail
  refine (value_Literal.calls 3 0 ⟨#[105, 116, 39, 115]⟩ _ _ lit_its (HT.out.below HB.out)).mono ?_
  rintro e w2 ⟨rfl, hb⟩
  have HB2 := Aside0.mk (below_step HB.out hb)
  clear hb
  go_wp2_with fail
  refine (value_Literal.calls 4 0 ⟨#[10, 255]⟩ _ _ lit_blob (HT.out.below HB2.out)).mono ?_
  rintro e w3 ⟨rfl, hb⟩
  have HB3 := Aside0.mk (below_step HB2.out hb)
  clear hb
  go_wp2_with fail
  refine (value_Check.calls 9 0 ⟨#[]⟩ 5 _ rfl).mono ?_
  rintro e w4 ⟨rfl, hb⟩
  have HB4 := Aside0.mk (below_step HB3.out hb)
  clear hb
  go_wp2_with fail
  go_ret
  exact ⟨rfl, HB4.out⟩
end Go.Proofs.YtkidihoaeicfdaaDoor.P

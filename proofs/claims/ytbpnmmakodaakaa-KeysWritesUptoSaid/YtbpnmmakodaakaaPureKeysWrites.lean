/- Any row, whose values and letters are together at most 1048576, is written by the program as by the document, or refused by both. No other condition. -/
import Derived.Test.YtbpnmmakodaakaaR1
import Derived.Test.YtbpnmmakodaakaaKB
import Derived.Test.YtbpnmmakodaakaaKF
import Derived.Test.YtbpnmmakodaakaaSame
namespace Go.Proofs.Ytbpnmmakodaakaa.Pure
set_option linter.unusedVariables false
set_option linter.unusedSimpArgs false
open Go.RowKit Go.Proofs.Ytbpnmmakodaakaa.P Go.Proofs.YtbpnmmakodaakaaW.PrintWords Go.Proofs.YtbpnmmakodaakaaW.PrintLast Go.Proofs.YtbpnmmakodaakaaW.PrintMore

theorem KeysWrites : ∀ (l0 : List (S43)) (l1 : List (Bool)), G22 l0 → G23 l1 → m22 l0 + m23 l1 ≤ 1048576 → ∃ k, quarrylaw03_KeysWrites.f k l0 l1 = some true := by
  intro l d hl hd hm
  obtain ⟨hx, hn, hr⟩ := known_row hl (by omega)
  have hd2 := hd.2
  refine Ev.get ?_
  have e1 : ([] : List S43).length + l.length < 4398046511104 := by simp; omega
  have e2 : ([] : List Bool).length + d.length < 140737488355328 := by simp; omega
  unfold quarrylaw03_KeysWrites.f
  simp only [Option.bind_some, e1, e2, if_true, List.nil_append]
  refine Ev.bind (encode_ev l d hx (by omega) (by omega)) (Ev.bind (ref_encode_ev l d hx (by omega) (by omega)) ?_)
  simp only [if_true]
  refine Ev.bind (same_ev l l (by omega)) ?_
  simp only [decide_true]
  exact Ev.pure _
end Go.Proofs.Ytbpnmmakodaakaa.Pure

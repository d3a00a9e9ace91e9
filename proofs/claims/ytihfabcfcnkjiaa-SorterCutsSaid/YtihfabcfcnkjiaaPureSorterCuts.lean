/- What a limit leaves of so many rows is told by the program as by the document, whatever the three numbers are. No condition beyond that each number is one of Go's int. -/
import Derived.Test.YtihfabcfcnkjiaaPSorterCutsx1
import Derived.OpenShut
namespace Go.Proofs.Ytihfabcfcnkjiaa.Pure
open Go.RowKit Go.Proofs.Ytihfabcfcnkjiaa.PSorterCuts Go.Proofs.YtihfabcfcnkjiaaW.PrintWords Go.Proofs.YtihfabcfcnkjiaaW.PrintLast

theorem cuts_same (n a o : Int) (h : 0 ≤ n ∧ n ≤ 9223372036854775807) (ha : a ≤ 9223372036854775807) (o0 : 0 ≤ o ∧ o ≤ n) :
    (if a ≥ 0 then some (o, wrap64 (o + mn a (wrap64 (n - o)))) else some (o, n)) =
      (if a < 0 then some (o, n) else if a > wrap64 (n - o) then some (o, n) else some (o, wrap64 (o + a))) := by
  have e : wrap64 (n - o) = n - o := by unfold wrap64; omega
  rw [e]
  by_cases c : a < 0
  · rw [if_neg (by omega), if_pos c]
  · rw [if_pos (by omega), if_neg c]
    by_cases d : a > n - o
    · rw [if_pos d]
      have : mn a (n - o) = n - o := by unfold mn; omega
      rw [this]
      have : wrap64 (o + (n - o)) = n := by unfold wrap64; omega
      rw [this]
    · rw [if_neg d]
      have : mn a (n - o) = a := by unfold mn; omega
      rw [this]

theorem SorterCuts : quarrylaw18_SorterCuts.Pure := by
  intro a0 a1 a2 w0 w1 w2
  have h0 := bounds_i64 w0
  have h1 := bounds_i64 w1
  have h : sorter_Cut.f a0 a1 a2 = quarryref18_Cut.f a0 a1 a2 := by
    unfold sorter_Cut.f quarryref18_Cut.f
    have b : 0 ≤ mx 0 a0 ∧ mx 0 a0 ≤ 9223372036854775807 := by unfold mx; omega
    have c : 0 ≤ mx 0 (mn a2 (mx 0 a0)) ∧ mx 0 (mn a2 (mx 0 a0)) ≤ mx 0 a0 := by
      generalize mx 0 a0 = n at b
      unfold mx mn; omega
    exact cuts_same _ _ _ b h1.2 c
  unfold quarrylaw18_SorterCuts.f
  rw [h]
  have hs : ∃ p, quarryref18_Cut.f a0 a1 a2 = some p := by
    unfold quarryref18_Cut.f
    split
    · exact ⟨_, rfl⟩
    · split <;> exact ⟨_, rfl⟩
  obtain ⟨⟨p, q⟩, hp⟩ := hs
  rw [hp]
  simp

end Go.Proofs.Ytihfabcfcnkjiaa.Pure

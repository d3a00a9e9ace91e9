/- Written in this session: keys.flip over a part of a row of the call's own. No condition. -/
import Derived.Test.YtbpnmmakodaakaaP0
import Derived.WalkLawsBesides
import Derived.Outline
namespace Go.Proofs.Ytbpnmmakodaakaa.P
open Go.RowKit Go.Proofs.YtbpnmmakodaakaaW.PrintWords Go.Proofs.YtbpnmmakodaakaaW.PrintLast Go.Proofs.YtbpnmmakodaakaaW.PrintMore
attribute [local go_sem] max2_int min2_int max_two min_two max_three min_three max_four min_four   -- for this text's walks alone
set_option linter.unusedVariables false
set_option linter.unusedSimpArgs false

def fx (c : Int) : Int := Go.bits .xor .u8 255 c
/-- From place o on, i bytes are turned. -/
def fl (L : List Int) (o i : Nat) : List Int := L.take o ++ (((L.drop o).take i).map fx ++ L.drop (o + i))
theorem fl_zero (L : List Int) (o : Nat) : fl L o 0 = L := by simp [fl]
theorem fl_length (L : List Int) (o i : Nat) (h : o + i ≤ L.length) : (fl L o i).length = L.length := by
  simp [fl]; omega
theorem fl_all (L : List Int) (o m : Nat) (h : o + m = L.length) : fl L o m = L.take o ++ (L.drop o).map fx := by
  unfold fl
  have e1 : (L.drop o).take m = L.drop o := List.take_of_length_le (by simp; omega)
  rw [e1, List.drop_of_length_le (Nat.le_of_eq h.symm), List.append_nil]
theorem fl_at (L : List Int) (o i : Nat) (h : o + i < L.length) : rd (fl L o i) ((o + i : Nat) : Int) = L[o + i] := by
  unfold rd fl
  rw [Int.toNat_natCast, List.getD_eq_getElem?_getD, List.getElem?_append_right (by simp; omega), List.getElem?_append_right (by simp; omega)]
  simp only [List.length_take, List.length_map, List.length_drop]
  rw [show o + i - min o L.length - min i (L.length - o) = 0 by omega, List.getElem?_drop, Nat.add_zero, List.getElem?_eq_getElem h]
  rfl
theorem fl_succ (L : List Int) (o i : Nat) (h : o + i < L.length) : (fl L o i).set (o + i) (fx (rd (fl L o i) ((o + i : Nat) : Int))) = fl L o (i + 1) := by
  rw [fl_at L o i h]
  unfold fl
  rw [List.set_append_right _ _ (by simp; omega), List.set_append_right _ _ (by simp; omega)]
  simp only [List.length_take, List.length_map, List.length_drop]
  rw [show o + i - min o L.length - min i (L.length - o) = 0 by omega, List.drop_eq_getElem_cons h, List.set_cons_zero, List.take_add_one, List.getElem?_drop, List.getElem?_eq_getElem h]
  simp [Nat.add_assoc]

set_option maxHeartbeats 4000000 in
set_option maxRecDepth 100000 in
theorem keys_flip.at_ (P0_ : Nat → Prop) (g n cap cap' o m : Nat) (L : List Int) (w0 w : World) (hB : Below w0.heap.size w0 w) (ho0 : Kd.R (Kd.int .u8) 5 w w0.heap.size P0_ (.slice (some ⟨g, 0, none⟩) n cap) L) (hm : o + m = n) :
    Calls Try.prog 24 #[.slice (some ⟨g, o, none⟩) m cap'] w fun e w' => e = .returned (.tuple #[]) ∧ Kd.R (Kd.int .u8) 5 w' w0.heap.size P0_ (.slice (some ⟨g, 0, none⟩) n cap) (L.take o ++ (L.drop o).map fx) ∧ Below w0.heap.size w0 w' ∧ Kept w w' P0_ := by
  have hn : n = L.length := (Kd.R_reads' ho0).1
  have hmx : n ≤ 9223372036854775807 := by
    have h1 := (Kd.R_reads' ho0).2.2
    have h2 : L.length ≤ 9223372036854775807 := (Kd.reads_of_C (enc := Value.int .u8) (d := (0 : Int)) (h1 := fun _ => rfl) h1).2.1
    omega
  have hg : w0.heap.size ≤ g := by
    obtain ⟨inner, ho⟩ := Kd.R_own ho0
    rcases ho.2 with ⟨h1, _⟩ | ⟨g', c, cur, h1, h2, _⟩
    · cases h1
    · injection h1 with h1 _ _
      injection h1 with h1
      injection h1 with h1 _ _
      omega
  have HN := Aside0.mk hn
  have HM := Aside0.mk hm
  have HMX : m ≤ 9223372036854775807 := by omega
  have HG := Aside0.mk hg
  have HO := Aside0.mk (show Kd.R (Kd.int .u8) 5 w w0.heap.size P0_ (.slice (some ⟨g, 0, none⟩) n cap) (fl L o 0) by rw [fl_zero]; exact ho0)
  have HK := Aside0.mk (Kept.refl w P0_)
  have HB := Aside0.mk hB
  clear hB ho0 hn hm hmx hg
  go_enter Try.func24, Try.ntmps24
  go_wp2
  go_loopg [5] (m + 1) (fun kq v5 w' => ∃ (i : Nat), v5 = .int .i64 (i : Int) ∧ Aside0 (i ≤ m ∧ m - i < kq) ∧ Aside0 (Kd.R (Kd.int .u8) 5 w' w0.heap.size P0_ (.slice (some ⟨g, 0, none⟩) n cap) (fl L o i)) ∧ Aside0 (Kept w w' P0_) ∧ Aside0 (Below w0.heap.size w0 w'))
  case atStart => exact ⟨0, rfl, ⟨by omega⟩, HO, HK, HB⟩
  case round =>
    clear HO HK HB
    obtain ⟨i, rfl, HI, HO, HK, HB⟩ := hrel
    have hi := HI.out.1
    by_cases hlt : i < m
    · have hL : o + i < L.length := by have := HN.out; have := HM.out; omega
      obtain ⟨hcell, hfz⟩ := Kd.R_celln (0 : Int) HO.out ((o + i : Nat) : Int) (by omega) (by have := HM.out; omega)
      have HP := Kd.R_putg HO.out ((o + i : Nat) : Int) (fx (rd (fl L o i) ((o + i : Nat) : Int)))
      rw [Int.toNat_natCast] at hcell hfz HP
      rw [fl_succ L o i hL] at HP
      obtain ⟨HP1, HP2⟩ := HP
      have HR1 := Aside0.mk HP1
      have HG1 := Aside0.mk HP2
      clear HP1 HP2
      have hc1 : wr.cell? ⟨g, o + i, none⟩ = some (.int .u8 (rd (fl L o i) ((o + i : Nat) : Int))) := hcell
      clear hcell
      generalize hv : rd (fl L o i) ((o + i : Nat) : Int) = v at hc1 HR1 HG1
      clear hv
      have b0 : decide (i < m) = true := decide_eq_true hlt
      have b1 : decide ((i : Int) < (m : Int)) = true := decide_eq_true (by omega)
      go_wp2
      obtain ⟨k1, rfl⟩ : ∃ k1, gk = k1 + 1 := ⟨gk - 1, by have := HI.out; omega⟩
      go_roundg k1
      case measure => omega
      case rel =>
        refine ⟨i + 1, by go_num, ⟨?_⟩, HR1, ⟨Kept.of_grown HG1.out HK.out (fun k e => .inl (HO.out.1 k (by simpa [Value.ownBlock] using e)))⟩, ⟨below_set HB.out HG.out⟩⟩
        have := HI.out
        omega
    · obtain rfl : i = m := by omega
      have b0 : decide (i < i) = false := decide_eq_false hlt
      clear hlt
      go_wp2
      first | go_end0 | ((try simp only [Exit.inBlock, Exit.then]); refine bodyPost_ret (results_none rfl _ _ _) rfl ?_)
      exact ⟨rfl, by rw [← fl_all L o i (by have := HN.out; have := HM.out; omega)]; exact HO.out, HB.out, HK.out⟩
end Go.Proofs.Ytbpnmmakodaakaa.P

/- The law CodeChecks without Go: the program's answer of which instructions are right is the document's. Condition: the numbers are of their kinds. -/
import Derived.Test.YtbdoennkalnkcaaP
import Derived.Test.YtbdoennkalnkcaaKinds
import Derived.Test.YtbdoennkalnkcaaEv
namespace Go.Proofs.Ytbdoennkalnkcaa.Pure
set_option linter.unusedVariables false
set_option linter.unusedSimpArgs false
open Go.RowKit Go.Proofs.Ytbdoennkalnkcaa.P Go.Proofs.YtbdoennkalnkcaaW.PrintWords Go.Proofs.YtbdoennkalnkcaaW.PrintLast

theorem reg_f (n : Int) : code_register.f n = some (regI n) := by
  unfold code_register.f regI
  by_cases h : n ≥ 0
  · rw [if_pos h]; simp [show 0 ≤ n from h]
  · rw [if_neg h]; simp [show ¬ 0 ≤ n from h]
theorem args_f (k : Nat) (n : Int) : calc_Args.f (k + 1) n = some (argsI n) := by
  unfold calc_Args.f argsI
  simp only [calc_Args.j0]
  by_cases h1 : n = 1
  · subst h1; rfl
  by_cases h2 : n = 2
  · subst h2; rfl
  by_cases h3 : n = 3
  · subst h3; rfl
  by_cases h4 : n = 4
  · subst h4; rfl
  have h4' : (n == 4) = false := beq_eq_false_iff_ne.mpr h4
  simp only [h1, h2, h3, h4, h4', or_self, if_false]
  by_cases h6 : n = 6
  · simp [h6]
  · by_cases h5 : n = 5 <;> simp [h5, h6]
theorem chk_eq (a b : Int) (c : ByteArray) : chkV a b c = chkR a b c := by
  unfold chkV chkR
  rfl
theorem neq_not (x0 x1 x2 x3 x4 x5 x6 : Int) (x7 : ByteArray) (y0 y1 y2 y3 y4 y5 y6 : Int) (y7 : ByteArray) :
    (!(x0 == y0) || (!(x1 == y1) || (!(x2 == y2) || (!(x3 == y3) || (!(x4 == y4) || ((!(x5 == y5) || (!(x6 == y6) || (!(x7.toList == y7.toList))))))))))
      = !(eqI x0 x1 x2 x3 x4 x5 x6 x7 y0 y1 y2 y3 y4 y5 y6 y7) := by
  unfold eqI
  simp only [Bool.not_and]
theorem dB (p : Prop) [Decidable p] (b : Bool) : (if p then some b else some false) = some (decide p && b) := by by_cases h : p <;> simp [h]
theorem tB (p : Prop) [Decidable p] (b : Bool) : (if p then some true else some b) = some (decide p || b) := by by_cases h : p <;> simp [h]
theorem gB (a b : Bool) : (if a = true then some b else some false) = some (a && b) := by cases a <;> simp
/-- What comes behind the test of the whole and of the register. -/
theorem back_f (k : Nat) (d o a b c v i : Int) (t : ByteArray) (at_ n : Int) (E : Bool) :
    (if (!E) = true then code_Instr_right.j0 (k + 3) at_ n true d o a b c v i t else code_Instr_right.j0 (k + 3) at_ n (!(regI a)) d o a b c v i t)
      = if (E && regI a) = true then code_Instr_right.j0 (k + 3) at_ n false d o a b c v i t else some false := by
  cases E
  · simp [code_Instr_right.j0]
  · cases h : regI a <;> simp [code_Instr_right.j0]
theorem right_f (k : Nat) (d o a b c v i : Int) (t : ByteArray) (at_ n : Int) : code_Instr_right.f (k + 3) d o a b c v i t at_ n = some (rightI d o a b c v i t at_ n) := by
  unfold code_Instr_right.f code_Instr_fields.f
  simp only [Option.bind_some, neq_not, reg_f]
  rw [back_f]
  by_cases k1 : d = 1
  · subst k1
    show (if (eqI 1 o a b c v i t 1 0 a 0 0 v i t && regI a) = true then _ else _) = some (regI a && decide (chkR v i t = 0) && eqI 1 o a b c v i t 1 0 a 0 0 v i t)
    have e : code_Instr_right.j0 (k + 3) at_ n false 1 o a b c v i t = some (chkV v i t == 0) := rfl
    rw [e, gB, chk_eq]
    cases eqI 1 o a b c v i t 1 0 a 0 0 v i t <;> cases regI a <;> by_cases h : chkR v i t = 0 <;> simp [h]
  by_cases k2 : d = 2
  · subst k2
    show (if (eqI 2 o a b c v i t 2 0 a b 0 0 0 (⟨#[]⟩ : ByteArray) && regI a) = true then _ else _) = some (regI a && decide (0 ≤ b) && eqI 2 o a b c v i t 2 0 a b 0 0 0 (⟨#[]⟩ : ByteArray))
    have e : code_Instr_right.j0 (k + 3) at_ n false 2 o a b c v i t = some (decide (b ≥ 0)) := rfl
    rw [e, gB]
    cases eqI 2 o a b c v i t 2 0 a b 0 0 0 (⟨#[]⟩ : ByteArray) <;> cases regI a <;> by_cases h : 0 ≤ b <;> simp [h]
  by_cases k3 : d = 3
  · subst k3
    show (if (eqI 3 o a b c v i t 3 0 a b 0 0 0 (⟨#[]⟩ : ByteArray) && regI a) = true then _ else _) = some (regI a && decide (0 ≤ b) && eqI 3 o a b c v i t 3 0 a b 0 0 0 (⟨#[]⟩ : ByteArray))
    have e : code_Instr_right.j0 (k + 3) at_ n false 3 o a b c v i t = some (decide (b ≥ 0)) := rfl
    rw [e, gB]
    cases eqI 3 o a b c v i t 3 0 a b 0 0 0 (⟨#[]⟩ : ByteArray) <;> cases regI a <;> by_cases h : 0 ≤ b <;> simp [h]
  by_cases k4 : d = 4
  · subst k4
    show (if (eqI 4 o a b c v i t 4 o a b 0 0 0 (⟨#[]⟩ : ByteArray) && regI a) = true then _ else _) = some (regI a && regI b && (o == 1 || o == 2) && eqI 4 o a b c v i t 4 o a b 0 0 0 (⟨#[]⟩ : ByteArray))
    have e : code_Instr_right.j0 (k + 3) at_ n false 4 o a b c v i t = (code_register.f b).bind fun t112 => (if t112 = true then (if o = 1 then (some true) else (some (o == 2))) else (some false)) := rfl
    rw [e, reg_f, Option.bind_some, tB, gB, gB]
    cases eqI 4 o a b c v i t 4 o a b 0 0 0 (⟨#[]⟩ : ByteArray) <;> cases regI a <;> cases regI b <;> by_cases h : o = 1 <;> simp [h]
  by_cases k5 : d = 5
  · subst k5
    show (if (eqI 5 o a b c v i t 5 o a b c 0 0 (⟨#[]⟩ : ByteArray) && regI a) = true then _ else _) = some (regI a && regI b && regI c && decide (3 ≤ o) && decide (o ≤ 16) && eqI 5 o a b c v i t 5 o a b c 0 0 (⟨#[]⟩ : ByteArray))
    have e : code_Instr_right.j0 (k + 3) at_ n false 5 o a b c v i t = ((code_register.f b).bind fun t113 => (if t113 = true then ((code_register.f c).bind fun t114 => (if t114 = true then (if o ≥ 3 then (some (decide (o ≤ 16))) else (some false)) else (some false))) else (some false))) := rfl
    rw [e, reg_f, reg_f, Option.bind_some, Option.bind_some, dB, gB, gB, gB]
    cases eqI 5 o a b c v i t 5 o a b c 0 0 (⟨#[]⟩ : ByteArray) <;> cases regI a <;> cases regI b <;> cases regI c <;> simp
  by_cases k6 : d = 6
  · subst k6
    show (if (eqI 6 o a b c v i t 6 o a b 0 0 0 (⟨#[]⟩ : ByteArray) && regI a) = true then _ else _) = some (regI a && regI b && decide (0 < argsI o) && decide (b ≤ 64 - argsI o) && eqI 6 o a b c v i t 6 o a b 0 0 0 (⟨#[]⟩ : ByteArray))
    have e : code_Instr_right.j0 (k + 3) at_ n false 6 o a b c v i t = ((calc_Args.f (k + 1) o).bind fun t115 => (if t115 > 0 then ((code_register.f b).bind fun t116 => (if t116 = true then ((code_register.f (wrap64 ((wrap64 (b + t115)) - 1))).bind fun t117 => (some t117)) else (some false))) else (some false))) := rfl
    rw [e, args_f, Option.bind_some, reg_f, reg_f, Option.bind_some, Option.bind_some, gB, dB, gB]
    have hl := argsI_le o
    have hh : (decide (argsI o > 0) && (regI b && regI (wrap64 (wrap64 (b + argsI o) - 1)))) = (regI b && decide (0 < argsI o) && decide (b ≤ 64 - argsI o)) := by
      by_cases h0 : 0 < argsI o
      · by_cases hb : 0 ≤ b ∧ b < 64
        · have w1 : wrap64 (b + argsI o) = b + argsI o := by unfold wrap64; omega
          have w2 : wrap64 (b + argsI o - 1) = b + argsI o - 1 := by unfold wrap64; omega
          rw [w1, w2]
          unfold regI
          rw [Bool.eq_iff_iff]
          simp only [Bool.and_eq_true, decide_eq_true_eq, gt_iff_lt]
          omega
        · have : regI b = false := by unfold regI; exact decide_eq_false hb
          simp [this]
      · simp [h0]
    rw [hh]
    cases eqI 6 o a b c v i t 6 o a b 0 0 0 (⟨#[]⟩ : ByteArray) <;> cases regI a <;> simp
  by_cases k7 : d = 7
  · subst k7
    show (if (eqI 7 o a b c v i t 7 o a b 0 0 0 (⟨#[]⟩ : ByteArray) && regI a) = true then _ else _) = some (regI a && regI b && (o == 0 || o == 1) && eqI 7 o a b c v i t 7 o a b 0 0 0 (⟨#[]⟩ : ByteArray))
    have e : code_Instr_right.j0 (k + 3) at_ n false 7 o a b c v i t = (code_register.f b).bind fun t112 => (if t112 = true then (if o = 0 then (some true) else (some (o == 1))) else (some false)) := rfl
    rw [e, reg_f, Option.bind_some, tB, gB, gB]
    cases eqI 7 o a b c v i t 7 o a b 0 0 0 (⟨#[]⟩ : ByteArray) <;> cases regI a <;> cases regI b <;> by_cases h : o = 0 <;> simp [h]
  by_cases k8 : d = 8
  · subst k8
    show (if (eqI 8 o a b c v i t 8 0 a b 0 0 0 (⟨#[]⟩ : ByteArray) && regI a) = true then _ else _) = some (regI a && regI b && eqI 8 o a b c v i t 8 0 a b 0 0 0 (⟨#[]⟩ : ByteArray))
    have e : code_Instr_right.j0 (k + 3) at_ n false 8 o a b c v i t = ((code_register.f b).bind fun t119 => (some t119)) := rfl
    rw [e, reg_f, Option.bind_some, gB]
    cases eqI 8 o a b c v i t 8 0 a b 0 0 0 (⟨#[]⟩ : ByteArray) <;> cases regI a <;> cases regI b <;> simp
  have jump : ∀ d', (d' = 9 ∨ d' = 10 ∨ d' = 11 ∨ d' = 12) → code_Instr_right.j0 (k + 3) at_ n false d' o a b c v i t = some (decide (at_ < b) && decide (b ≤ n)) := by
    intro d' h
    have e : (if b > at_ then (some (decide (b ≤ n))) else (some false)) = some (decide (at_ < b) && decide (b ≤ n)) := dB _ _
    rcases h with rfl | rfl | rfl | rfl <;> exact e
  by_cases k9 : d = 9
  · subst k9
    show (if (eqI 9 o a b c v i t 9 0 0 b 0 0 0 (⟨#[]⟩ : ByteArray) && regI a) = true then _ else _) = some (decide (at_ < b) && decide (b ≤ n) && eqI 9 o a b c v i t 9 0 0 b 0 0 0 (⟨#[]⟩ : ByteArray))
    rw [jump 9 (.inl rfl), gB]
    cases he : eqI 9 o a b c v i t 9 0 0 b 0 0 0 (⟨#[]⟩ : ByteArray)
    · simp
    · have : a = 0 := by
        unfold eqI at he
        simp only [Bool.and_eq_true, beq_iff_eq] at he
        exact he.2.2.1
      subst this
      simp [show regI 0 = true from rfl]
  by_cases k10 : d = 10
  · subst k10
    show (if (eqI 10 o a b c v i t 10 0 a b 0 0 0 (⟨#[]⟩ : ByteArray) && regI a) = true then _ else _) = some (regI a && decide (at_ < b) && decide (b ≤ n) && eqI 10 o a b c v i t 10 0 a b 0 0 0 (⟨#[]⟩ : ByteArray))
    rw [jump 10 (by omega), gB]
    cases eqI 10 o a b c v i t 10 0 a b 0 0 0 (⟨#[]⟩ : ByteArray) <;> cases regI a <;> simp
  by_cases k11 : d = 11
  · subst k11
    show (if (eqI 11 o a b c v i t 11 0 a b 0 0 0 (⟨#[]⟩ : ByteArray) && regI a) = true then _ else _) = some (regI a && decide (at_ < b) && decide (b ≤ n) && eqI 11 o a b c v i t 11 0 a b 0 0 0 (⟨#[]⟩ : ByteArray))
    rw [jump 11 (by omega), gB]
    cases eqI 11 o a b c v i t 11 0 a b 0 0 0 (⟨#[]⟩ : ByteArray) <;> cases regI a <;> simp
  by_cases k12 : d = 12
  · subst k12
    show (if (eqI 12 o a b c v i t 12 0 a b 0 0 0 (⟨#[]⟩ : ByteArray) && regI a) = true then _ else _) = some (regI a && decide (at_ < b) && decide (b ≤ n) && eqI 12 o a b c v i t 12 0 a b 0 0 0 (⟨#[]⟩ : ByteArray))
    rw [jump 12 (by omega), gB]
    cases eqI 12 o a b c v i t 12 0 a b 0 0 0 (⟨#[]⟩ : ByteArray) <;> cases regI a <;> simp
  have hj : code_Instr_right.j0 (k + 3) at_ n false d o a b c v i t = some (d == 13) := by
    have q3 : (d == 3) = false := beq_eq_false_iff_ne.mpr k3
    simp only [code_Instr_right.j0]
    rw [if_neg (by decide), if_neg k1, if_neg k2, q3]
    simp only [code_Instr_right.j1]
    rw [if_neg (by decide), if_neg k4, if_neg k5, if_neg k6, if_neg k7, if_neg k8, if_neg k9, if_neg k10, if_neg k11, if_neg k12]
  rw [hj, gB]
  by_cases k13 : d = 13
  · subst k13
    show some (eqI 13 o a b c v i t 13 0 a 0 0 0 0 (⟨#[]⟩ : ByteArray) && regI a && true) = some (regI a && eqI 13 o a b c v i t 13 0 a 0 0 0 0 (⟨#[]⟩ : ByteArray))
    cases eqI 13 o a b c v i t 13 0 a 0 0 0 0 (⟨#[]⟩ : ByteArray) <;> cases regI a <;> rfl
  · have q : (d == 13) = false := beq_eq_false_iff_ne.mpr k13
    have hr : rightI d o a b c v i t at_ n = false := by
      unfold rightI
      rw [if_neg k1, if_neg k2, if_neg k3, if_neg k4, if_neg k5, if_neg k6, if_neg k7, if_neg k8, if_neg k9, if_neg k10, if_neg k11, if_neg k12, if_neg k13]
    rw [hr, q, Bool.and_false]

def itI (x : S49) : S47 := ⟨x.f0, x.f1, x.f2, x.f3, x.f4, x.f5⟩
def rI (l : List S49) (i : Nat) : Bool := rightI (l.getD i z49).f0 (l.getD i z49).f1 (l.getD i z49).f2 (l.getD i z49).f3 (l.getD i z49).f4 (l.getD i z49).f5.f0 (l.getD i z49).f5.f1 (l.getD i z49).f5.f2 (i : Int) (l.length : Int)
/-- What Check answers from place i on. -/
def chkI (l : List S49) : Nat → Nat → Int
  | 0, _ => 0
  | m + 1, i => if rI l i = true then chkI l m (i + 1) else 3
theorem its_ev (l : List S49) (hz : l.length < 1954687338268) : ∀ (m i : Nat), i + m = l.length → ∀ acc : List S47, acc.length = i → Ev (fun k => quarrylaw20_Its.l0 k l acc (i : Int)) (acc ++ (l.drop i).map itI)
  | 0, i, hm, acc, ha => by
    refine Ev.succ ?_
    refine ⟨0, fun k _ => ?_⟩
    simp only [quarrylaw20_Its.l0]
    rw [if_neg (by omega), List.drop_eq_nil_of_le (by omega)]
    simp
  | m + 1, i, hm, acc, ha => by
    refine Ev.succ ?_
    have hi : i < l.length := by omega
    have hd : l.drop i = l[i] :: l.drop (i + 1) := List.drop_eq_getElem_cons hi
    have hr : rd_T49 l (i : Int) = l[i] := by
      show l.getD (i : Int).toNat z49 = l[i]
      rw [Int.toNat_natCast, List.getD_eq_getElem?_getD, List.getElem?_eq_getElem hi]; rfl
    have ih := its_ev l hz m (i + 1) (by omega) (acc ++ [itI l[i]]) (by simp [ha])
    have e : acc ++ (l.drop i).map itI = acc ++ [itI l[i]] ++ (l.drop (i + 1)).map itI := by rw [hd, List.map_cons, List.append_assoc]; rfl
    rw [e]
    refine ih.of_eq fun k => ?_
    simp only [quarrylaw20_Its.l0]
    rw [if_pos (by omega), if_pos (by omega), if_pos (by omega), hr]
    have hw : wrap64 ((i : Int) + 1) = ((i + 1 : Nat) : Int) := by rw [wrap64_in (by omega) (by omega)]; omega
    rw [hw]
    rfl
theorem its_all (l : List S49) (hz : l.length < 1954687338268) : Ev (fun k => quarrylaw20_Its.f k l) (l.map itI) := by
  have := its_ev l hz l.length 0 (by omega) [] rfl
  rw [List.nil_append, List.drop_zero] at this
  exact this
theorem rdI (l : List S49) (i : Nat) (hi : i < l.length) : rd_T47 (l.map itI) (i : Int) = itI (l.getD i z49) := by
  show (l.map itI).getD (i : Int).toNat z47 = _
  rw [Int.toNat_natCast, List.getD_eq_getElem?_getD, List.getElem?_map, List.getD_eq_getElem?_getD, List.getElem?_eq_getElem hi]; rfl
theorem rdR (l : List S49) (i : Nat) : rd_T49 l (i : Int) = l.getD i z49 := by
  show l.getD (i : Int).toNat z49 = _
  rw [Int.toNat_natCast]
theorem chk_ev (l : List S49) (hz : l.length ≤ 4096) : ∀ (m i : Nat), i + m = l.length → Ev (fun k => code_Check.l0 k (l.map itI) (l.map itI) (l.length : Int) (i : Int)) (chkI l m i)
  | 0, i, hm => by
    refine Ev.succ ⟨0, fun k _ => ?_⟩
    simp only [code_Check.l0]
    rw [if_neg (by omega)]; rfl
  | m + 1, i, hm => by
    have hi : i < l.length := by omega
    have hw : wrap64 ((i : Int) + 1) = ((i + 1 : Nat) : Int) := by rw [wrap64_in (by omega) (by omega)]; omega
    have ih := chk_ev l hz m (i + 1) (by omega)
    obtain ⟨k0, h0⟩ := ih
    refine ⟨k0 + 4, fun k hk => ?_⟩
    obtain ⟨k, rfl⟩ : ∃ j, k = j + 3 + 1 := ⟨k - 4, by omega⟩
    show code_Check.l0 (k + 3 + 1) (l.map itI) (l.map itI) (l.length : Int) (i : Int) = _
    have step : code_Check.l0 (k + 3 + 1) (l.map itI) (l.map itI) (l.length : Int) (i : Int) = (some (rI l i)).bind fun t125 => (if t125 = true then (code_Check.l0 (k + 3) (l.map itI) (l.map itI) (l.length : Int) (wrap64 ((i : Int) + 1))) else (some 3)) := by
      rw [code_Check.l0]
      rw [if_pos (by omega), if_pos (by omega), if_pos (by rw [List.length_map]; omega), rdI l i hi, List.length_map]
      have := right_f k (l.getD i z49).f0 (l.getD i z49).f1 (l.getD i z49).f2 (l.getD i z49).f3 (l.getD i z49).f4 (l.getD i z49).f5.f0 (l.getD i z49).f5.f1 (l.getD i z49).f5.f2 (i : Int) (l.length : Int)
      exact congrArg (fun z => Option.bind z _) this
    rw [step, Option.bind_some, hw]
    have h1 := h0 (k + 3) (by omega)
    simp only [chkI]
    by_cases hr : rI l i = true
    · rw [if_pos hr, if_pos hr]; exact h1
    · rw [if_neg hr, if_neg hr]
theorem ref_ev (l : List S49) (hz : l.length ≤ 4096) : ∀ (m i : Nat), i + m = l.length → Ev (fun k => quarryref20_Check.l0 k l (i : Int)) (chkI l m i)
  | 0, i, hm => by
    refine Ev.succ ⟨0, fun k _ => ?_⟩
    simp only [quarryref20_Check.l0]
    rw [if_neg (by omega)]; rfl
  | m + 1, i, hm => by
    have hi : i < l.length := by omega
    have hw : wrap64 ((i : Int) + 1) = ((i + 1 : Nat) : Int) := by rw [wrap64_in (by omega) (by omega)]; omega
    obtain ⟨k0, h0⟩ := ref_ev l hz m (i + 1) (by omega)
    refine ⟨k0 + 1, fun k hk => ?_⟩
    obtain ⟨k, rfl⟩ : ∃ j, k = j + 1 := ⟨k - 1, by omega⟩
    show quarryref20_Check.l0 (k + 1) l (i : Int) = _
    have step : quarryref20_Check.l0 (k + 1) l (i : Int) = (some (rI l i)).bind fun t133 => (if t133 = true then (quarryref20_Check.l0 k l (wrap64 ((i : Int) + 1))) else (some 3)) := by
      rw [quarryref20_Check.l0]
      rw [if_pos (by omega), if_pos (by omega), rdR]
      rfl
    rw [step, Option.bind_some, hw]
    have h1 := h0 k (by omega)
    simp only [chkI]
    by_cases hr : rI l i = true
    · rw [if_pos hr, if_pos hr]; exact h1
    · rw [if_neg hr, if_neg hr]
/-- The program's Check of the document's instructions. -/
def checkI (l : List S49) : Int := if l.length ≤ 4096 then chkI l l.length 0 else 8
theorem code_ev (l : List S49) : Ev (fun k => code_Check.f k (l.map itI)) (checkI l) := by
  unfold checkI
  by_cases h : l.length ≤ 4096
  · rw [if_pos h]
    refine (chk_ev l h l.length 0 (by omega)).of_eq fun k => ?_
    show code_Check.f k (l.map itI) = _
    unfold code_Check.f
    rw [if_neg (by rw [List.length_map]; omega), List.length_map]
    rfl
  · rw [if_neg h]
    refine ⟨0, fun k _ => ?_⟩
    show code_Check.f k (l.map itI) = _
    unfold code_Check.f
    rw [if_pos (by rw [List.length_map]; omega)]
theorem refchk_ev (l : List S49) : Ev (fun k => quarryref20_Check.f k l) (checkI l) := by
  unfold checkI
  by_cases h : l.length ≤ 4096
  · rw [if_pos h]
    refine (ref_ev l h l.length 0 (by omega)).of_eq fun k => ?_
    show quarryref20_Check.f k l = _
    unfold quarryref20_Check.f
    rw [if_neg (by omega)]
    rfl
  · rw [if_neg h]
    refine ⟨0, fun k _ => ?_⟩
    show quarryref20_Check.f k l = _
    unfold quarryref20_Check.f
    rw [if_pos (by omega)]

theorem CodeChecks : ∀ (l0 : List (S49)), G22 l0 → ∃ k, quarrylaw20_CodeChecks.f k l0 = some true := by
  intro l hg
  have hz : l.length < 1954687338268 := by have := hg.2; omega
  have : Ev (fun k => quarrylaw20_CodeChecks.f k l) true := by
    unfold quarrylaw20_CodeChecks.f
    refine Ev.bind (its_all l hz) (Ev.bind (code_ev l) (Ev.bind (refchk_ev l) ?_))
    exact ⟨0, fun k _ => by simp⟩
  exact this.get

end Go.Proofs.Ytbdoennkalnkcaa.Pure

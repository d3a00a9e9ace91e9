/- The law ValueTells without Go: right values, their texts and the types' names are the document's. Condition: the bulk's bound alone, as the given statement has it. -/
import Derived.Test.YtkidihoaeicfdaaDoorR4
import Derived.Test.YtkidihoaeicfdaaDoorKinds
import Derived.Test.YtkidihoaeicfdaaDoorLits
import Derived.Lib.ItoaLen
namespace Go.Proofs.YtkidihoaeicfdaaDoor.Pure
set_option linter.unusedVariables false
set_option linter.unusedSimpArgs false
open Go.RowKit Go.Proofs.YtkidihoaeicfdaaDoor.P Go.Proofs.YtkidihoaeicfdaaDoorW.PrintWords Go.Proofs.YtkidihoaeicfdaaDoorW.PrintLast

theorem u64w (n : Int) : IntKind.u64.wrap n = n % 18446744073709551616 := rfl
theorem dig_str (v : Nat) : strOfNums ([(IntKind.u64.wrap (48 + (Int.tmod (v : Int) 10))) % 256] : List Int) = ⟨#[UInt8.ofNat (48 + v % 10)]⟩ := by
  have e : (IntKind.u64.wrap (48 + (Int.tmod (v : Int) 10))) % 256 = ((48 + v % 10 : Nat) : Int) := by
    rw [u64w, Int.tmod_eq_emod_of_nonneg (by omega)]
    omega
  rw [e]
  rfl
theorem app_mk (a b : List UInt8) : (⟨a.toArray⟩ : ByteArray) ++ ⟨b.toArray⟩ = ⟨(a ++ b).toArray⟩ := by
  apply Go.WideShapes.bytes_inj
  simp
def decZ (v : Nat) : List UInt8 := if v = 0 then [] else Lib.decDigits v
theorem dec_split (v : Nat) : Lib.decDigits v = decZ (v / 10) ++ [UInt8.ofNat (48 + v % 10)] := by
  rw [Lib.decDigits]
  unfold decZ
  by_cases h : v < 10
  · rw [dif_pos h, if_pos (by omega), Nat.mod_eq_of_lt h]; rfl
  · rw [dif_neg h, if_neg (by omega)]
theorem digits_loop : ∀ (d v : Nat), v < 10 ^ d → v < 18446744073709551616 → ∀ s : List UInt8, (decZ v).length + s.length ≤ 1000 →
    Ev (fun k => quarryref01_digits.l0 k (v : Int) ⟨s.toArray⟩) ⟨(decZ v ++ s).toArray⟩
  | 0, v, hd, hv, s, hs => by
    have h0 : v = 0 := by simpa using hd
    subst h0
    refine Ev.succ ⟨0, fun k _ => ?_⟩
    simp only [quarryref01_digits.l0]
    rw [if_neg (by decide)]; rfl
  | d + 1, v, hd, hv, s, hs => by
    by_cases h0 : v = 0
    · subst h0
      refine Ev.succ ⟨0, fun k _ => ?_⟩
      simp only [quarryref01_digits.l0]
      rw [if_neg (by decide)]; rfl
    · have e1 : decZ v = decZ (v / 10) ++ [UInt8.ofNat (48 + v % 10)] := by rw [← dec_split]; unfold decZ; rw [if_neg h0]
      have hdv : IntKind.u64.wrap (Int.tdiv (v : Int) 10) = ((v / 10 : Nat) : Int) := by
        rw [u64w, Int.tdiv_eq_ediv_of_nonneg (by omega)]; omega
      have ih := digits_loop d (v / 10) (by rw [Nat.pow_succ] at hd; omega) (by omega) (UInt8.ofNat (48 + v % 10) :: s) (by rw [e1] at hs; simp at hs ⊢; omega)
      refine Ev.succ ?_
      simp only [quarryref01_digits.l0]
      refine Ev.pos (by omega) ?_
      simp only [Option.bind_some, dig_str, hdv]
      have hsz : ((⟨#[UInt8.ofNat (48 + v % 10)]⟩ : ByteArray).size + (⟨s.toArray⟩ : ByteArray).size) ≤ 9223372036854775807 := by
        show 1 + s.toArray.size ≤ _
        rw [List.size_toArray]; omega
      refine Ev.pos hsz ?_
      have ea : (⟨#[UInt8.ofNat (48 + v % 10)]⟩ : ByteArray) ++ ⟨s.toArray⟩ = ⟨(UInt8.ofNat (48 + v % 10) :: s).toArray⟩ := app_mk [UInt8.ofNat (48 + v % 10)] s
      rw [ea, e1, List.append_assoc]
      exact ih
theorem digits_ev (v : Nat) (hv : v < 18446744073709551616) (hl : (Lib.decDigits v).length ≤ 900) : Ev (fun k => quarryref01_digits.f k (v : Int)) ⟨(Lib.decDigits v).toArray⟩ := by
  have hdv : IntKind.u64.wrap (Int.tdiv (v : Int) 10) = ((v / 10 : Nat) : Int) := by
    rw [u64w, Int.tdiv_eq_ediv_of_nonneg (by omega)]; omega
  rw [dec_split] at hl ⊢
  have := digits_loop (v / 10) (v / 10) (Nat.lt_pow_self (by decide)) (by omega) [UInt8.ofNat (48 + v % 10)] (by simp at hl ⊢; omega)
  refine this.of_eq fun k => ?_
  show quarryref01_digits.f k (v : Int) = _
  unfold quarryref01_digits.f
  rw [hdv, dig_str]
theorem number_ev (n : Int) (h0 : -9223372036854775808 ≤ n) (h1 : n ≤ 9223372036854775807) : Ev (fun k => quarryref01_Number.f k n) ⟨(Lib.itoa n).toArray⟩ := by
  have hlen := Lib.itoa_length_le n h0 h1
  unfold Lib.itoa at hlen ⊢
  by_cases hn : n < 0
  · rw [if_pos hn] at hlen ⊢
    have e : IntKind.u64.wrap (-(IntKind.u64.wrap n)) = ((n.natAbs : Nat) : Int) := by rw [u64w, u64w]; omega
    have hd := digits_ev n.natAbs (by omega) (by rw [List.length_cons] at hlen; omega)
    have : Ev (fun k => (quarryref01_digits.f k (n.natAbs : Int)).bind fun t183 => (if 1 + t183.size ≤ 9223372036854775807 then (some ((⟨#[45]⟩ : ByteArray) ++ t183)) else (none))) ⟨(45 :: Lib.decDigits n.natAbs).toArray⟩ := by
      refine Ev.bind hd ?_
      refine Ev.pos ?_ ?_
      · show 1 + (Lib.decDigits n.natAbs).toArray.size ≤ _
        rw [List.size_toArray]; rw [List.length_cons] at hlen; omega
      · rw [show (⟨#[45]⟩ : ByteArray) ++ ⟨(Lib.decDigits n.natAbs).toArray⟩ = ⟨(45 :: Lib.decDigits n.natAbs).toArray⟩ from app_mk [45] _]
        exact Ev.pure _
    refine this.of_eq fun k => ?_
    show quarryref01_Number.f k n = _
    unfold quarryref01_Number.f
    rw [if_pos hn, e]
  · rw [if_neg hn] at hlen ⊢
    have e : IntKind.u64.wrap n = ((n.toNat : Nat) : Int) := by rw [u64w]; omega
    have hd := digits_ev n.toNat (by omega) (by omega)
    have : Ev (fun k => (quarryref01_digits.f k (n.toNat : Int)).bind fun t184 => some t184) ⟨(Lib.decDigits n.toNat).toArray⟩ := Ev.bind hd (Ev.pure _)
    refine this.of_eq fun k => ?_
    show quarryref01_Number.f k n = _
    unfold quarryref01_Number.f
    rw [if_neg hn, e]
def nums (l : List UInt8) : List Int := l.map fun c => (c.toNat : Int)
theorem nums_str (l : List UInt8) : strOfNums (nums l) = ⟨l.toArray⟩ := by
  unfold strOfNums nums
  congr 1
  rw [List.map_map]
  congr 1
  conv => rhs; rw [← List.map_id l]
  apply List.map_congr_left
  intro c _
  show UInt8.ofNat ((c.toNat : Int).toNat) = c
  rw [Int.toNat_natCast, UInt8.ofNat_toNat]
theorem nums_app (a b : List UInt8) : nums (a ++ b) = nums a ++ nums b := by unfold nums; simp
theorem nums_len (l : List UInt8) : (nums l).length = l.length := by unfold nums; simp
theorem hexBt (n : Nat) (h : n < 16) : bt (⟨#[48, 49, 50, 51, 52, 53, 54, 55, 56, 57, 65, 66, 67, 68, 69, 70]⟩ : ByteArray) (n : Int) = ((hexD n).toNat : Int) := by
  have : ∀ m : Fin 16, bt (⟨#[48, 49, 50, 51, 52, 53, 54, 55, 56, 57, 65, 66, 67, 68, 69, 70]⟩ : ByteArray) (m.1 : Int) = ((hexD m.1).toNat : Int) := by decide
  exact this ⟨n, h⟩
theorem blob_loop (s : ByteArray) (hs : s.size ≤ 1048576) (i : Int) : ∀ (suf pre : List UInt8), s.data.toList = pre ++ suf → Ev (fun k => quarryref01_Literal.l0 k (nums ([88, 39] ++ hexS pre)) (pre.length : Int) 4 i s) ⟨(blobL s.data.toList).toArray⟩
  | [], pre, hp => by
    have hl : s.size = pre.length := by have : s.size = s.data.toList.length := by rw [Array.length_toList]; rfl
                                        rw [this, hp]; simp
    have hx := hexS_length pre
    refine Ev.succ ?_
    simp only [quarryref01_Literal.l0]
    refine Ev.neg (by omega) (Ev.pos (by rw [nums_len]; simp [hx]; omega) ?_)
    have e : nums ([88, 39] ++ hexS pre) ++ [39] = nums (blobL s.data.toList) := by rw [hp, List.append_nil]; unfold blobL; rw [nums_app _ [39]]; rfl
    rw [e, nums_str]
    exact Ev.pure _
  | c :: suf, pre, hp => by
    have hl : s.size = pre.length + (suf.length + 1) := by have : s.size = s.data.toList.length := by rw [Array.length_toList]; rfl
                                                           rw [this, hp]; simp
    have hx := hexS_length pre
    have ih := blob_loop s hs i suf (pre ++ [c]) (by rw [hp]; simp)
    have hb := bt_at' s pre c suf hp
    have hc := c.toNat_lt
    have d1 : (Int.tdiv (c.toNat : Int) 16) % 256 = ((c.toNat / 16 : Nat) : Int) := by rw [Int.tdiv_eq_ediv_of_nonneg (by omega)]; omega
    have d2 : (Int.tmod (c.toNat : Int) 16) = ((c.toNat % 16 : Nat) : Int) := by rw [Int.tmod_eq_emod_of_nonneg (by omega)]; omega
    refine Ev.succ ?_
    simp only [quarryref01_Literal.l0, hb, d1, d2]
    refine Ev.pos (by omega) (Ev.pos (by omega) (Ev.pos trivial (Ev.pos (by omega) (Ev.pos (by omega) (Ev.pos (by omega) (Ev.pos (by omega) ?_))))))
    simp only [Option.bind_some]
    refine Ev.pos (by rw [nums_len]; simp [hx]; omega) ?_
    have hw : wrap64 ((pre.length : Int) + 1) = ((pre ++ [c]).length : Int) := by rw [wrap64_in (by omega) (by omega)]; simp
    have e : nums ([88, 39] ++ hexS pre) ++ [bt (⟨#[48, 49, 50, 51, 52, 53, 54, 55, 56, 57, 65, 66, 67, 68, 69, 70]⟩ : ByteArray) ((c.toNat / 16 : Nat) : Int), bt (⟨#[48, 49, 50, 51, 52, 53, 54, 55, 56, 57, 65, 66, 67, 68, 69, 70]⟩ : ByteArray) ((c.toNat % 16 : Nat) : Int)] = nums ([88, 39] ++ hexS (pre ++ [c])) := by
      rw [hexBt _ (by omega), hexBt _ (by omega), hexS_snoc, ← List.append_assoc, nums_app _ [_, _]]; rfl
    rw [hw, e]
    exact ih
theorem text_loop (s : ByteArray) (hs : s.size ≤ 1048576) (i : Int) : ∀ (suf pre : List UInt8), s.data.toList = pre ++ suf → Ev (fun k => quarryref01_Literal.l0 k (nums ([39] ++ pre.flatMap quoteC)) (pre.length : Int) 3 i s) ⟨(textL s.data.toList).toArray⟩
  | [], pre, hp => by
    have hl : s.size = pre.length := by have : s.size = s.data.toList.length := by rw [Array.length_toList]; rfl
                                        rw [this, hp]; simp
    have hx := quote_len pre
    refine Ev.succ ?_
    simp only [quarryref01_Literal.l0]
    refine Ev.neg (by omega) (Ev.pos (by rw [nums_len, List.length_append, List.length_singleton]; omega) ?_)
    have e : nums ([39] ++ pre.flatMap quoteC) ++ [39] = nums (textL s.data.toList) := by rw [hp, List.append_nil]; unfold textL; rw [repl_eq, nums_app _ [39]]; rfl
    rw [e, nums_str]
    exact Ev.pure _
  | c :: suf, pre, hp => by
    have hl : s.size = pre.length + (suf.length + 1) := by have : s.size = s.data.toList.length := by rw [Array.length_toList]; rfl
                                                           rw [this, hp]; simp
    have hx := quote_len pre
    have ih := text_loop s hs i suf (pre ++ [c]) (by rw [hp]; simp)
    have hb := bt_at' s pre c suf hp
    have hc := c.toNat_lt
    have hw : wrap64 ((pre.length : Int) + 1) = ((pre ++ [c]).length : Int) := by rw [wrap64_in (by omega) (by omega)]; simp
    have hlen : (nums ([39] ++ pre.flatMap quoteC)).length = 1 + (pre.flatMap quoteC).length := by rw [nums_len, List.length_append, List.length_singleton]
    have hsnoc : [39] ++ (pre ++ [c]).flatMap quoteC = [39] ++ pre.flatMap quoteC ++ quoteC c := by simp
    rw [hsnoc] at ih
    refine Ev.succ ?_
    simp only [quarryref01_Literal.l0, hb]
    refine Ev.pos (by omega) (Ev.pos (by omega) (Ev.neg (by decide) ?_))
    refine Ev.ite (fun h39 => ?_) (fun h39 => ?_)
    · simp only [Option.bind_some]
      refine Ev.pos (by rw [hlen]; show 1 + (pre.flatMap quoteC).length + 2 < _; omega) ?_
      have hcc : c = 39 := UInt8.toNat_inj.1 (by have : ((39 : UInt8).toNat : Int) = 39 := rfl; omega)
      have e : nums ([39] ++ pre.flatMap quoteC) ++ [39, 39] = nums ([39] ++ pre.flatMap quoteC ++ quoteC c) := by rw [hcc, nums_app _ (quoteC 39)]; rfl
      rw [hw, e]
      exact ih
    · refine Ev.pos (by rw [hlen]; omega) ?_
      have hcc : ¬ c = 39 := fun e => h39 (by rw [e]; rfl)
      have e : nums ([39] ++ pre.flatMap quoteC) ++ [(c.toNat : Int)] = nums ([39] ++ pre.flatMap quoteC ++ quoteC c) := by
        rw [nums_app _ (quoteC c)]; unfold quoteC; rw [if_neg hcc]; rfl
      rw [hw, e]
      exact ih
theorem ref_lit (k0 i : Int) (s : ByteArray) (hs : s.size ≤ 1048576) (h0 : -9223372036854775808 ≤ i) (h1 : i ≤ 9223372036854775807) : Ev (fun k => quarryref01_Literal.f k k0 i s) (litV k0 i s) := by
  unfold quarryref01_Literal.f
  simp only [quarryref01_Check.f, Option.bind_some]
  by_cases hk : chkR k0 i s = 0
  · refine Ev.pos hk ?_
    have hk' : chkV k0 i s = 0 := hk
    rcases chk_kind hk' with rfl | rfl | rfl | rfl | rfl
    · rw [lit_null hk']
      exact Ev.pos rfl (Ev.pure _)
    · rw [lit_bool hk']
      refine Ev.neg (by decide) (Ev.pos rfl ?_)
      by_cases hi : i = 1
      · simp only [if_pos hi]; exact Ev.pure _
      · simp only [if_neg hi]; exact Ev.pure _
    · rw [lit_int hk']
      exact Ev.neg (by decide) (Ev.neg (by decide) (Ev.pos rfl (Ev.bind (number_ev i h0 h1) (Ev.pure _))))
    · rw [lit_text hk']
      refine Ev.neg (by decide) (Ev.neg (by decide) (Ev.neg (by decide) (Ev.neg (by decide) ?_)))
      refine Ev.succ ?_
      simp only [quarryref01_Literal.j0]
      exact text_loop s hs i s.data.toList [] rfl
    · rw [lit_bytes hk']
      refine Ev.neg (by decide) (Ev.neg (by decide) (Ev.neg (by decide) (Ev.pos rfl ?_)))
      refine Ev.succ ?_
      simp only [quarryref01_Literal.j0]
      exact blob_loop s hs i s.data.toList [] rfl
  · have e : litV k0 i s = ⟨#[]⟩ := by unfold litV; exact if_pos hk
    rw [e]
    exact Ev.neg hk (Ev.pure _)

theorem ValueTells : ∀ (x0 : S23) (a1 : Int), G23 x0 → (Lit.int .i64 a1).wf = true → m23 x0 + 1 ≤ 1048576 → ∃ k, quarrylaw01_ValueTells.f k (x0.f0) (x0.f1) (x0.f2) a1 = some true := by
  intro x t hx ht hb
  refine Ev.get (g := fun k => quarrylaw01_ValueTells.f k (x.f0) (x.f1) (x.f2) t) ?_
  have sx : x.f2.size ≤ 1048576 := by unfold m23 at hb; omega
  have ix := wf64 hx.2.1
  unfold I64 at ix
  have lx : value_Literal.f x.f0 x.f1 x.f2 = some (litV x.f0 x.f1 x.f2) := by unfold value_Literal.f; rw [if_pos ⟨by omega, ix.1, ix.2⟩]
  unfold quarrylaw01_ValueTells.f
  simp only [value_Check.f, quarryref01_Check.f, Option.bind_some, lx]
  refine Ev.pos rfl ?_
  refine Ev.bind (ref_lit x.f0 x.f1 x.f2 sx ix.1 ix.2) ?_
  refine Ev.pos rfl ?_
  have e : quarryref01_Type.f t = value_Type.f t := rfl
  rw [e]
  have : ∃ s, value_Type.f t = some s := by
    unfold value_Type.f
    repeat (first | exact ⟨_, rfl⟩ | split)
  obtain ⟨s, hs⟩ := this
  rw [hs]
  refine ⟨0, fun k _ => ?_⟩
  simp

end Go.Proofs.YtkidihoaeicfdaaDoor.Pure

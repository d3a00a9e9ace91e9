/- Written in this session: value.Literal by hand, kind by kind. Condition: the text's size; the library's tables as the program's text lays them. -/
import Derived.Test.YtkidihoaeicfdaaDoorA1
import Derived.Test.YtkidihoaeicfdaaDoorT1
import Derived.Test.YtkidihoaeicfdaaDoorShelf
import Derived.Lib.AppendIntMem
import Derived.Lib.LaidTab
import Derived.WideShapes
namespace Go.Proofs.YtkidihoaeicfdaaDoor.P
open Go.RowKit Go.Shelf Go.Proofs.YtkidihoaeicfdaaDoorW.PrintWords Go.Proofs.YtkidihoaeicfdaaDoorW.PrintLast Go.Proofs.YtkidihoaeicfdaaDoorW.PrintMore
set_option linter.unusedVariables false
set_option linter.unusedSimpArgs false
theorem below_step' {B : Nat} {a w w' : World} (h : Below B a w) (k : Below B w w') : Below B a w' := h.trans k
def hexD (n : Nat) : UInt8 := if n < 10 then UInt8.ofNat (48 + n) else UInt8.ofNat (55 + n)
def hexS (l : List UInt8) : List UInt8 := l.flatMap fun c => [hexD (c.toNat / 16), hexD (c.toNat % 16)]
def blobL (l : List UInt8) : List UInt8 := [88, 39] ++ hexS l ++ [39]
theorem hexAt (n : Nat) (h : n < (⟨#[48, 49, 50, 51, 52, 53, 54, 55, 56, 57, 65, 66, 67, 68, 69, 70]⟩ : ByteArray).size) : (⟨#[48, 49, 50, 51, 52, 53, 54, 55, 56, 57, 65, 66, 67, 68, 69, 70]⟩ : ByteArray)[n].toNat = (hexD n).toNat := by
  have h16 : n < 16 := h
  have : ∀ m : Fin 16, (⟨#[48, 49, 50, 51, 52, 53, 54, 55, 56, 57, 65, 66, 67, 68, 69, 70]⟩ : ByteArray)[m.1]'m.2 = hexD m.1 := by decide
  exact congrArg UInt8.toNat (this ⟨n, h16⟩)
theorem hexS_length (l : List UInt8) : (hexS l).length = 2 * l.length := by
  unfold hexS
  induction l with
  | nil => rfl
  | cons a l ih => rw [List.flatMap_cons, List.length_append, ih]; simp; omega
theorem hexS_snoc (l : List UInt8) (c : UInt8) : hexS (l ++ [c]) = hexS l ++ [hexD (c.toNat / 16), hexD (c.toNat % 16)] := by unfold hexS; simp
set_option maxHeartbeats 4000000 in
set_option maxRecDepth 100000 in
theorem value_Literal.blob (i : Int) (s : ByteArray) (w : World) (hs : s.size ≤ 1073741824) (hk : chkV 4 i s = 0) :
    Calls Tryd.prog 10 #[.agg #[.int .i64 4, .int .i64 i, .string s]] w fun e w' => e = .returned (.string ⟨(blobL s.data.toList).toArray⟩) ∧ Below w.heap.size w w' := by
  have hu := Tryd.underlying23
  have HS := Aside0.mk hs
  have HK := Aside0.mk hk
  clear hs hk
  have HX := Aside0.mk (Deep.blk_alloc_new w (.cells #[.int .i64 4, .int .i64 i, .string s] 23))
  go_enter Tryd.func10, Tryd.ntmps10
  go_wp2_with fail
  refine (value_Check.calls 4 i s _ _ rfl).mono ?_
  rintro e w1 ⟨rfl, hb⟩
  have HX1 := Aside0.mk (blk_below HX.out hb)
  have HB := Aside0.mk (below_step (below_alloc (Below.refl w.heap.size w) _) hb)
  clear hb
  have c0 : w1.cell? ⟨w.heap.size, 0, none⟩ = some (.int .i64 4) := (blk_cell HX1.out 0).trans rfl
  have q0 : (chkV 4 i s != 0) = false := by rw [HK.out]; rfl
  have HF := Aside0.mk (Lib.fresh_isBuilder 43 5 w1)
  have HW1 := Aside0.mk (Below.refl w1.heap.size w1)
  go_wp2_with fail
  refine (builder_WriteString w1.heap.size w1.heap.size [] ⟨#[88, 39]⟩ _ HF.out (by decide) (by simp)).mono ?_
  rintro e w2 ⟨rfl, h1, hb⟩
  have HI : Aside0 (Lib.IsBuilder 43 5 w1.heap.size w1.heap.size (Lib.byteCells [88, 39]) w2) := ⟨Or.inr h1⟩
  have HB2 := Aside0.mk (below_step' (below_alloc (Below.refl w1.heap.size w1) _) hb)
  clear h1 hb c0 q0 HF HW1
  have c2 : w2.cell? ⟨w.heap.size, 2, none⟩ = some (.string s) := by
    rw [HB2.out.cell (p := ⟨w.heap.size, 2, none⟩) (blk_lt HX1.out)]; exact (blk_cell HX1.out 2).trans rfl
  go_wp2_with fail
  go_loopg [34] (s.data.toList.length + 1) (fun kq v34 w' => ∃ (pre suf : List UInt8), v34 = .int .i64 (pre.length : Int) ∧ Aside0 (s.data.toList = pre ++ suf ∧ suf.length < kq) ∧ Aside0 (Lib.IsBuilder 43 5 w1.heap.size w1.heap.size (Lib.byteCells ([88, 39] ++ hexS pre)) w') ∧ Aside0 (Below w1.heap.size w1 w'))
  case atStart => exact ⟨[], s.data.toList, rfl, ⟨rfl, by omega⟩, HI, HB2⟩
  case round =>
    clear HI HB2 c2
    obtain ⟨pre, suf, rfl, HP, HI, HB2⟩ := hrel
    have hsz : s.size = s.data.toList.length := by rw [Array.length_toList]; rfl
    cases suf with
    | nil =>
      have hl : (s.size : Int) = (pre.length : Int) := by have := congrArg List.length HP.out.1; simp at this; rw [hsz]; simp; omega
      have b0 : decide ((pre.length : Int) < (s.size : Int)) = false := decide_eq_false (by omega)
      have b0n : decide (pre.length < s.size) = false := decide_eq_false (by omega)
      have b0p : ¬ pre.length < s.size := by omega
      have HL := Aside0.mk hl
      clear hl hsz
      go_wp2_with fail
      have hlen : (Lib.byteCells ([88, 39] ++ hexS pre)).length + 1 ≤ 140737488355328 := by
        have := HS.out; have h2 := hexS_length pre; have h3 := HL.out; simp [Lib.byteCells, h2]; omega
      refine (builder_WriteByte w1.heap.size w1.heap.size _ 39 _ HI.out hlen HB2.out.size).mono ?_
      rintro e w3 ⟨rfl, h1, hb⟩
      have HJ : Aside0 (Lib.IsBuilder 43 5 w1.heap.size w1.heap.size (Lib.byteCells (blobL pre)) w3) := ⟨Or.inr (by unfold blobL; have h2 := h1; simp [Lib.byteCells] at h2 ⊢; exact h2)⟩
      have HB3 := Aside0.mk (below_step' HB2.out hb)
      clear h1 hb hlen
      go_wp2_with fail
      refine (Tryd.Builder_String_any w1.heap.size w1.heap.size _ _ HJ.out HB3.out.size).mono ?_
      rintro e w4 ⟨rfl, hb⟩
      have GB := Aside0.mk (below_step' HB3.out hb)
      clear hb
      go_wp2_with fail
      go_ret
      exact ⟨by have e1 : s.data.toList = pre := by simpa using HP.out.1
                have e2 : (blobL s.data.toList) = blobL pre := by rw [e1]
                simp [e2], HB.out.trans (GB.out.mono (by have := HB.out.size; omega))⟩
    | cons c suf =>
      have hlt : (pre.length : Int) < (s.size : Int) := by have := congrArg List.length HP.out.1; simp at this; rw [hsz]; simp; omega
      have hc : c.toNat < 256 := c.toNat_lt
      have hltn : pre.length < s.size := by omega
      have hx : s[pre.length] = c := by
        have h1 : s.data.toList[pre.length]? = some c := by rw [HP.out.1]; simp
        have h2 : s.data[pre.length]? = some c := by rw [← Array.getElem?_toList]; exact h1
        obtain ⟨_, h3⟩ := Array.getElem?_eq_some_iff.1 h2
        exact h3
      have b0 : decide ((pre.length : Int) < (s.size : Int)) = true := decide_eq_true hlt
      have b0n : decide (pre.length < s.size) = true := decide_eq_true hltn
      have hw : wrap64 ((pre.length : Int) + 1) = ((pre ++ [c]).length : Int) := by have := HS.out; unfold wrap64; simp; omega
      have HLT := Aside0.mk hlt
      have HW := Aside0.mk hw
      have HSZ := Aside0.mk hsz
      clear hlt hw hsz
      have c2 : wr.cell? ⟨w.heap.size, 2, none⟩ = some (.string s) := by
        rw [HB2.out.cell (p := ⟨w.heap.size, 2, none⟩) (blk_lt HX1.out)]; exact (blk_cell HX1.out 2).trans rfl
      go_wp2_with fail
      have hlen : (Lib.byteCells ([88, 39] ++ hexS pre)).length + 1 + 1 ≤ 140737488355328 := by
        have := HS.out; have h2 := hexS_length pre; have h3 := HLT.out; simp [Lib.byteCells, h2]; omega
      have HLEN := Aside0.mk hlen
      clear hlen
      refine (builder_WriteByte w1.heap.size w1.heap.size _ _ _ HI.out (by have := HLEN.out; omega) HB2.out.size).mono ?_
      rintro e w3 ⟨rfl, h1, hb⟩
      rw [hexAt] at h1
      have HJ : Aside0 (Lib.IsBuilder 43 5 w1.heap.size w1.heap.size (Lib.byteCells ([88, 39] ++ hexS pre) ++ [.int .u8 ((hexD (c.toNat / 16)).toNat : Int)]) w3) := ⟨Or.inr h1⟩
      have HB3 := Aside0.mk (below_step' HB2.out hb)
      clear h1 hb c2
      go_wp2_with fail
      refine (builder_WriteByte w1.heap.size w1.heap.size _ _ _ HJ.out (by have := HLEN.out; simp at this ⊢; omega) HB3.out.size).mono ?_
      rintro e w4 ⟨rfl, h1, hb⟩
      rw [hexAt] at h1
      have HI4 : Aside0 (Lib.IsBuilder 43 5 w1.heap.size w1.heap.size (Lib.byteCells ([88, 39] ++ hexS (pre ++ [c]))) w4) := ⟨Or.inr (by rw [hexS_snoc]; have h2 := h1; simp [Lib.byteCells] at h2 ⊢; exact h2)⟩
      have HB4 := Aside0.mk (below_step' HB3.out hb)
      clear h1 hb
      go_wp2_with fail
      go_roundg (suf.length + 1)
      case measure => have := HP.out.2; simp at this; omega
      case rel => exact ⟨pre ++ [c], suf, by first | (rw [HW.out]; done) | (simp only [HW.out]; done) | (have := HW.out; simp_all), ⟨by rw [HP.out.1]; simp, by omega⟩, HI4, HB4⟩

theorem cell_lt {w : World} {b o : Nat} {v : Value} (h : w.cell? ⟨b, o, none⟩ = some v) : b < w.heap.size := by
  unfold World.cell? at h
  rcases Nat.lt_or_ge b w.heap.size with h' | h'
  · exact h'
  · simp [Array.getElem?_eq_none h'] at h
theorem repK (c : UInt8) (new : List UInt8) : ∀ s : List UInt8, Lib.replaceK [c] new (Lib.count s [c]) s = s.flatMap (fun b => if b = c then new else [b])
  | [] => by rw [show Lib.count [] [c] = 0 from by rw [Lib.count_one]; rfl]; rfl
  | b :: l => by
    have ih := repK c new l
    by_cases h : b = c
    · subst h
      have hi : Lib.index (b :: l) [b] = ((0 : Nat) : Int) := by rw [Lib.index_one]; simp [Lib.indexByte]
      rw [Lib.count_cons_eq, Nat.add_comm, Lib.replaceK_hit _ _ _ _ 0 hi]
      simp only [List.take_zero, List.nil_append, Nat.zero_add, List.length_singleton, List.drop_succ_cons, List.drop_zero, List.flatMap_cons, if_true]
      rw [ih]
    · rw [Lib.count_cons_ne _ _ _ h]
      cases hk : Lib.count l [c] with
      | zero =>
        rw [hk] at ih
        rw [List.flatMap_cons, if_neg h, ← ih]
        rfl
      | succ k =>
        obtain ⟨i, hi⟩ := Lib.index_of_count (s := l) (old := [c]) (by omega)
        have hi' : Lib.index (b :: l) [c] = ((i + 1 : Nat) : Int) := by
          rw [Lib.index_one] at hi ⊢
          simp only [Lib.indexByte]
          simp [h, hi]
        rw [hk, Lib.replaceK_hit _ _ _ _ i hi] at ih
        rw [Lib.replaceK_hit _ _ _ _ (i + 1) hi', List.flatMap_cons, if_neg h, ← ih]
        simp only [List.take_succ_cons, List.length_singleton, List.drop_succ_cons, List.cons_append, List.nil_append]
def textL (l : List UInt8) : List UInt8 := [39] ++ Lib.replaceAll l [39] [39, 39] ++ [39]
def quoteC (c : UInt8) : List UInt8 := if c = 39 then [39, 39] else [c]
theorem repl_eq (l : List UInt8) : Lib.replaceAll l [39] [39, 39] = l.flatMap quoteC := by
  unfold Lib.replaceAll Lib.replace Lib.replaceNum
  rw [if_neg (by decide), if_pos (Or.inl (by decide)), repK]
  rfl
theorem quote_len (l : List UInt8) : (l.flatMap quoteC).length ≤ 2 * l.length := by
  induction l with
  | nil => simp
  | cons a l ih =>
    rw [List.flatMap_cons, List.length_append, List.length_cons]
    have : (quoteC a).length ≤ 2 := by unfold quoteC; split <;> simp
    omega
theorem countB_le (s : ByteArray) : Lib.countB s ⟨#[39]⟩ ≤ s.size := by
  show Lib.count s.data.toList [39] ≤ s.size
  rw [Lib.count_one]
  have := List.count_le_length (a := (39 : UInt8)) (l := s.data.toList)
  rw [Array.length_toList] at this
  exact this
theorem var?_below {P : Program} {B g : Nat} {W W' : World} {n : String} {cs : Array Value} (h : Below B W W') (hg : P.globalNamed n = some g) (hgB : g < B) (hv : W.var? P n = some cs) : W'.var? P n = some cs := by
  unfold World.var? at hv ⊢
  simp only [hg, Option.bind_some] at hv ⊢
  rw [h.block g hgB]
  exact hv
/-- What of the library's variables is read: bytealg's greatest length, and the powers of 10. -/
def Tabs (w : World) : Prop := (∃ m, w.cell? ⟨0, 0, none⟩ = some (.int .i64 m)) ∧ Lib.TabIs Tryd.prog w "internal/strconv.uint64pow10" .u64 Lib.pow10Tab ∧ 1 < w.heap.size
theorem Tabs.below {w w' : World} (h : Tabs w) (hb : Below w.heap.size w w') : Tabs w' := by
  obtain ⟨⟨m, hm⟩, ht, hs⟩ := h
  refine ⟨⟨m, by rw [hb.cell (p := ⟨0, 0, none⟩) (cell_lt hm)]; exact hm⟩, var?_below hb (show Tryd.prog.globalNamed "internal/strconv.uint64pow10" = some 1 by kernel_rfl) hs ht, ?_⟩
  have := hb.size
  omega
set_option maxHeartbeats 4000000 in
set_option maxRecDepth 100000 in
theorem value_Literal.bad (k i : Int) (s : ByteArray) (hk : ¬ chkV k i s = 0) (w : World) :
    Calls Tryd.prog 10 #[.agg #[.int .i64 k, .int .i64 i, .string s]] w fun e w' => e = .returned (.string (⟨#[]⟩ : ByteArray)) ∧ Below w.heap.size w w' := by
  have hu := Tryd.underlying23
  have q0 : (chkV k i s != 0) = true := bne_iff_ne.mpr hk
  clear hk
  have HX := Aside0.mk (Deep.blk_alloc_new w (.cells #[.int .i64 k, .int .i64 i, .string s] 23))
  go_enter Tryd.func10, Tryd.ntmps10
  go_wp2_with fail
  refine (value_Check.calls _ _ _ _ _ rfl).mono ?_
  rintro e w1 ⟨rfl, hb⟩
  have HX1 := Aside0.mk (blk_below HX.out hb)
  have HB := Aside0.mk (below_step (below_alloc (Below.refl w.heap.size w) _) hb)
  clear hb
  go_wp2_with fail
  go_ret
  exact ⟨rfl, HB.out⟩
set_option maxHeartbeats 4000000 in
set_option maxRecDepth 100000 in
theorem value_Literal.true_ (s : ByteArray) (hk : chkV 1 1 s = 0) (w : World) :
    Calls Tryd.prog 10 #[.agg #[.int .i64 1, .int .i64 1, .string s]] w fun e w' => e = .returned (.string (⟨#[84, 82, 85, 69]⟩ : ByteArray)) ∧ Below w.heap.size w w' := by
  have hu := Tryd.underlying23
  have q0 : (chkV 1 1 s != 0) = false := bne_eq_false_iff_eq.mpr hk
  clear hk
  have HX := Aside0.mk (Deep.blk_alloc_new w (.cells #[.int .i64 1, .int .i64 1, .string s] 23))
  go_enter Tryd.func10, Tryd.ntmps10
  go_wp2_with fail
  refine (value_Check.calls _ _ _ _ _ rfl).mono ?_
  rintro e w1 ⟨rfl, hb⟩
  have HX1 := Aside0.mk (blk_below HX.out hb)
  have HB := Aside0.mk (below_step (below_alloc (Below.refl w.heap.size w) _) hb)
  clear hb
  have c0 : w1.cell? ⟨w.heap.size, 0, none⟩ = some (.int .i64 1) := (blk_cell HX1.out 0).trans rfl
  have c1 : w1.cell? ⟨w.heap.size, 1, none⟩ = some (.int .i64 1) := (blk_cell HX1.out 1).trans rfl
  go_wp2_with fail
  go_ret
  exact ⟨rfl, HB.out⟩
set_option maxHeartbeats 4000000 in
set_option maxRecDepth 100000 in
theorem value_Literal.false_ (s : ByteArray) (hk : chkV 1 0 s = 0) (w : World) :
    Calls Tryd.prog 10 #[.agg #[.int .i64 1, .int .i64 0, .string s]] w fun e w' => e = .returned (.string (⟨#[70, 65, 76, 83, 69]⟩ : ByteArray)) ∧ Below w.heap.size w w' := by
  have hu := Tryd.underlying23
  have q0 : (chkV 1 0 s != 0) = false := bne_eq_false_iff_eq.mpr hk
  clear hk
  have HX := Aside0.mk (Deep.blk_alloc_new w (.cells #[.int .i64 1, .int .i64 0, .string s] 23))
  go_enter Tryd.func10, Tryd.ntmps10
  go_wp2_with fail
  refine (value_Check.calls _ _ _ _ _ rfl).mono ?_
  rintro e w1 ⟨rfl, hb⟩
  have HX1 := Aside0.mk (blk_below HX.out hb)
  have HB := Aside0.mk (below_step (below_alloc (Below.refl w.heap.size w) _) hb)
  clear hb
  have c0 : w1.cell? ⟨w.heap.size, 0, none⟩ = some (.int .i64 1) := (blk_cell HX1.out 0).trans rfl
  have c1 : w1.cell? ⟨w.heap.size, 1, none⟩ = some (.int .i64 0) := (blk_cell HX1.out 1).trans rfl
  go_wp2_with fail
  go_ret
  exact ⟨rfl, HB.out⟩
set_option maxHeartbeats 4000000 in
set_option maxRecDepth 100000 in
theorem value_Literal.null_ (i : Int) (s : ByteArray) (hk : chkV 0 i s = 0) (w : World) :
    Calls Tryd.prog 10 #[.agg #[.int .i64 0, .int .i64 i, .string s]] w fun e w' => e = .returned (.string (⟨#[78, 85, 76, 76]⟩ : ByteArray)) ∧ Below w.heap.size w w' := by
  have hu := Tryd.underlying23
  have q0 : (chkV 0 i s != 0) = false := bne_eq_false_iff_eq.mpr hk
  clear hk
  have HX := Aside0.mk (Deep.blk_alloc_new w (.cells #[.int .i64 0, .int .i64 i, .string s] 23))
  go_enter Tryd.func10, Tryd.ntmps10
  go_wp2_with fail
  refine (value_Check.calls _ _ _ _ _ rfl).mono ?_
  rintro e w1 ⟨rfl, hb⟩
  have HX1 := Aside0.mk (blk_below HX.out hb)
  have HB := Aside0.mk (below_step (below_alloc (Below.refl w.heap.size w) _) hb)
  clear hb
  have c0 : w1.cell? ⟨w.heap.size, 0, none⟩ = some (.int .i64 0) := (blk_cell HX1.out 0).trans rfl
  go_wp2_with fail
  go_ret
  exact ⟨rfl, HB.out⟩
set_option maxHeartbeats 4000000 in
set_option maxRecDepth 100000 in
theorem value_Literal.int_ (i : Int) (s : ByteArray) (h0 : -9223372036854775808 ≤ i) (h1 : i ≤ 9223372036854775807) (w : World) (ht : Tabs w) (hk : chkV 2 i s = 0) :
    Calls Tryd.prog 10 #[.agg #[.int .i64 2, .int .i64 i, .string s]] w fun e w' => e = .returned (.string (⟨(Lib.itoa i).toArray⟩ : ByteArray)) ∧ Below w.heap.size w w' := by
  have hu := Tryd.underlying23
  have q0 : (chkV 2 i s != 0) = false := bne_eq_false_iff_eq.mpr hk
  clear hk
  have HI0 := Aside0.mk h0
  have HI1 := Aside0.mk h1
  have HT := Aside0.mk ht
  clear h0 h1 ht
  have HX := Aside0.mk (Deep.blk_alloc_new w (.cells #[.int .i64 2, .int .i64 i, .string s] 23))
  go_enter Tryd.func10, Tryd.ntmps10
  go_wp2_with fail
  refine (value_Check.calls _ _ _ _ _ rfl).mono ?_
  rintro e w1 ⟨rfl, hb⟩
  have HX1 := Aside0.mk (blk_below HX.out hb)
  have HB := Aside0.mk (below_step (below_alloc (Below.refl w.heap.size w) _) hb)
  clear hb
  have c0 : w1.cell? ⟨w.heap.size, 0, none⟩ = some (.int .i64 2) := (blk_cell HX1.out 0).trans rfl
  have c1 : w1.cell? ⟨w.heap.size, 1, none⟩ = some (.int .i64 i) := (blk_cell HX1.out 1).trans rfl
  go_wp2_with fail
  refine (Tryd.strconv_FormatInt_10 i HI0.out HI1.out _ (HT.out.below HB.out).2.1).mono ?_
  rintro e w2 ⟨rfl, k, os, rfl⟩
  go_wp2_with fail
  go_ret
  exact ⟨rfl, HB.out.trans (Lib.below_grow _ _ (by have := HB.out.size; omega) _ _)⟩
set_option maxHeartbeats 4000000 in
set_option maxRecDepth 100000 in
theorem value_Literal.text_ (i : Int) (s : ByteArray) (hs : s.size ≤ 1073741824) (m : Int) (w : World) (hm : w.cell? ⟨0, 0, none⟩ = some (.int .i64 m)) (hk : chkV 3 i s = 0) :
    Calls Tryd.prog 10 #[.agg #[.int .i64 3, .int .i64 i, .string s]] w fun e w' => e = .returned (.string (⟨(textL s.data.toList).toArray⟩ : ByteArray)) ∧ Below w.heap.size w w' := by
  have hu := Tryd.underlying23
  have q0 : (chkV 3 i s != 0) = false := bne_eq_false_iff_eq.mpr hk
  clear hk
  have HS := Aside0.mk hs
  have HM := Aside0.mk hm
  clear hs hm
  have HX := Aside0.mk (Deep.blk_alloc_new w (.cells #[.int .i64 3, .int .i64 i, .string s] 23))
  go_enter Tryd.func10, Tryd.ntmps10
  go_wp2_with fail
  refine (value_Check.calls _ _ _ _ _ rfl).mono ?_
  rintro e w1 ⟨rfl, hb⟩
  have HX1 := Aside0.mk (blk_below HX.out hb)
  have HB := Aside0.mk (below_step (below_alloc (Below.refl w.heap.size w) _) hb)
  have HM1 : Aside0 (w1.cell? ⟨0, 0, none⟩ = some (.int .i64 m)) := ⟨by rw [HB.out.cell (p := ⟨0, 0, none⟩) (cell_lt HM.out)]; exact HM.out⟩
  clear hb
  have c0 : w1.cell? ⟨w.heap.size, 0, none⟩ = some (.int .i64 3) := (blk_cell HX1.out 0).trans rfl
  have c2 : w1.cell? ⟨w.heap.size, 2, none⟩ = some (.string s) := (blk_cell HX1.out 2).trans rfl
  go_wp2_with fail
  refine (Tryd.strings_ReplaceAll s ⟨#[39]⟩ ⟨#[39, 39]⟩ m _ (by have := HS.out; omega) HM1.out (by decide) (by have := HS.out; have h2 := countB_le s; simp only [show (⟨#[39, 39]⟩ : ByteArray).size = 2 from rfl]; omega)).mono ?_
  rintro e w2 ⟨rfl, hb2⟩
  have HB2 := Aside0.mk (below_step HB.out hb2)
  clear hb2
  have hl : (Lib.replaceAll s.data.toList [39] [39, 39]).length ≤ 2147483648 := by
    rw [repl_eq]
    have h1 := quote_len s.data.toList; have h2 := HS.out
    have h3 : s.data.toList.length = s.size := by rw [Array.length_toList]; rfl
    omega
  have l1 : ¬ 9223372036854775807 < 1 + (Lib.replaceAll s.data.toList [39] [39, 39]).length := by omega
  have l2 : ¬ 9223372036854775807 < 1 + (Lib.replaceAll s.data.toList [39] [39, 39]).length + 1 := by omega
  clear hl
  go_wp2_with fail
  go_ret
  exact ⟨by
    have e : (⟨#[39]⟩ ++ ⟨(Lib.replaceAll s.data.toList [39] [39, 39]).toArray⟩ ++ ⟨#[39]⟩ : ByteArray) = ⟨(textL s.data.toList).toArray⟩ := by
      apply Go.WideShapes.bytes_inj
      simp [textL]
    exact congrArg (fun b => Ending.returned (.string b)) e, HB2.out⟩
/-- A value as it stands in a statement. -/
def litV (k i : Int) (s : ByteArray) : ByteArray :=
  if ¬ chkV k i s = 0 then (⟨#[]⟩ : ByteArray)
  else if k = 0 then (⟨#[78, 85, 76, 76]⟩ : ByteArray)
  else if k = 1 then (if i = 1 then (⟨#[84, 82, 85, 69]⟩ : ByteArray) else (⟨#[70, 65, 76, 83, 69]⟩ : ByteArray))
  else if k = 2 then (⟨(Lib.itoa i).toArray⟩ : ByteArray)
  else if k = 3 then (⟨(textL s.data.toList).toArray⟩ : ByteArray)
  else (⟨(blobL s.data.toList).toArray⟩ : ByteArray)
def value_Literal.f (k i : Int) (s : ByteArray) : Option ByteArray := if s.size ≤ 1073741824 ∧ -9223372036854775808 ≤ i ∧ i ≤ 9223372036854775807 then some (litV k i s) else none
theorem value_Literal.calls (k i : Int) (s : ByteArray) (r : ByteArray) (w : World) (h : value_Literal.f k i s = some r) (ht : Tabs w) :
    Calls Tryd.prog 10 #[.agg #[.int .i64 k, .int .i64 i, .string s]] w fun e w' => e = .returned (.string r) ∧ Below w.heap.size w w' := by
  unfold value_Literal.f at h
  by_cases hg : s.size ≤ 1073741824 ∧ -9223372036854775808 ≤ i ∧ i ≤ 9223372036854775807
  · rw [if_pos hg] at h
    obtain rfl := Option.some.inj h
    unfold litV
    by_cases hk : chkV k i s = 0
    · rw [if_neg (fun h => h hk)]
      by_cases k0 : k = 0
      · subst k0; rw [if_pos rfl]; exact value_Literal.null_ i s hk w
      rw [if_neg k0]
      by_cases k1 : k = 1
      · subst k1
        rw [if_pos rfl]
        have hi : i = 0 ∨ i = 1 := by
          unfold chkV at hk
          rw [if_neg (by decide), if_pos rfl] at hk
          by_cases h2 : (i = 0 ∨ i = 1) ∧ s.toList = []
          · exact h2.1
          · rw [if_neg h2] at hk; cases hk
        rcases hi with rfl | rfl
        · rw [if_neg (by decide)]; exact value_Literal.false_ s hk w
        · rw [if_pos rfl]; exact value_Literal.true_ s hk w
      rw [if_neg k1]
      by_cases k2 : k = 2
      · subst k2; rw [if_pos rfl]; exact value_Literal.int_ i s hg.2.1 hg.2.2 w ht hk
      rw [if_neg k2]
      obtain ⟨⟨m, hm⟩, _, _⟩ := ht
      by_cases k3 : k = 3
      · subst k3; rw [if_pos rfl]; exact value_Literal.text_ i s hg.1 m w hm hk
      rw [if_neg k3]
      have k4 : k = 4 := by
        unfold chkV at hk
        rw [if_neg k0, if_neg k1, if_neg k2] at hk
        by_cases h4 : k = 3 ∨ k = 4
        · exact h4.elim (fun h => absurd h k3) id
        · rw [if_neg h4] at hk; cases hk
      subst k4
      exact value_Literal.blob i s w hg.1 hk
    · rw [if_pos hk]; exact value_Literal.bad k i s hk w
  · rw [if_neg hg] at h; cases h
end Go.Proofs.YtkidihoaeicfdaaDoor.P

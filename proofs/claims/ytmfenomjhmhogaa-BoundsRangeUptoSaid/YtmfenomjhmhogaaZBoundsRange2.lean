/- Laid by a program of this session out of its texts for the law BoundsRange, part 2. -/
import Derived.OpenShut
import Derived.Laws.BitsLemmas
import Derived.WideShapes
import Derived.WalkLawsBesides
import Derived.Outline
import Derived.Test.YtmfenomjhmhogaaZBoundsRange1
section
namespace Go.Proofs.Ytmfenomjhmhogaa.Pure
set_option linter.unusedVariables false
set_option linter.unusedSimpArgs false
open Go.RowKit Go.Proofs.Ytmfenomjhmhogaa.P Go.Proofs.YtmfenomjhmhogaaW.PrintWords Go.Proofs.YtmfenomjhmhogaaW.PrintLast Go.Proofs.YtmfenomjhmhogaaW.PrintMore
def Ev {α : Type} (g : Nat → Option α) (r : α) : Prop := ∃ k0, ∀ k, k0 ≤ k → g k = some r
theorem Ev.pure {α : Type} (r : α) : Ev (fun _ => some r) r := ⟨0, fun _ _ => rfl⟩
theorem Ev.bind {α β : Type} {g : Nat → Option α} {h : Nat → α → Option β} {a : α} {r : β} (hg : Ev g a) (hh : Ev (fun k => h k a) r) : Ev (fun k => (g k).bind (h k)) r := by
  obtain ⟨k1, h1⟩ := hg
  obtain ⟨k2, h2⟩ := hh
  refine ⟨max k1 k2, fun k hk => ?_⟩
  show (g k).bind (h k) = some r
  rw [h1 k (by omega)]
  exact h2 k (by omega)
theorem Ev.succ {α : Type} {g : Nat → Option α} {r : α} (h : Ev (fun k => g (k + 1)) r) : Ev g r := by
  obtain ⟨k1, h1⟩ := h
  refine ⟨k1 + 1, fun k hk => ?_⟩
  have h2 : g (k - 1 + 1) = some r := h1 (k - 1) (by omega)
  rwa [show k - 1 + 1 = k by omega] at h2
theorem Ev.get {α : Type} {g : Nat → Option α} {r : α} (h : Ev g r) : ∃ k, g k = some r := by
  obtain ⟨k, h⟩ := h
  exact ⟨k, h k (Nat.le_refl _)⟩
theorem Ev.of_eq {α : Type} {g g' : Nat → Option α} {r : α} (h : Ev g r) (e : ∀ k, g' k = g k) : Ev g' r := by
  obtain ⟨k1, h1⟩ := h
  exact ⟨k1, fun k hk => (e k).trans (h1 k hk)⟩
theorem Ev.ite {α : Type} {c : Prop} [Decidable c] {g h : Nat → Option α} {r : α} (h1 : c → Ev g r) (h2 : ¬ c → Ev h r) : Ev (fun k => if c then g k else h k) r := by
  by_cases e : c
  · exact (h1 e).of_eq fun k => if_pos e
  · exact (h2 e).of_eq fun k => if_neg e
theorem Ev.pos {α : Type} {c : Prop} [Decidable c] {g h : Nat → Option α} {r : α} (e : c) (h1 : Ev g r) : Ev (fun k => if c then g k else h k) r := h1.of_eq fun k => if_pos e
theorem Ev.neg {α : Type} {c : Prop} [Decidable c] {g h : Nat → Option α} {r : α} (e : ¬ c) (h1 : Ev h r) : Ev (fun k => if c then g k else h k) r := h1.of_eq fun k => if_neg e
theorem Ev.one {α : Type} {g : Nat → Option α} {r r' : α} (h : Ev g r) (h' : Ev g r') : r = r' := by
  obtain ⟨k1, h1⟩ := h
  obtain ⟨k2, h2⟩ := h'
  have a := h1 (max k1 k2) (by omega)
  rw [h2 _ (by omega)] at a
  exact (Option.some.inj a).symm
theorem wrap64_in {n : Int} (h0 : -9223372036854775808 ≤ n) (h1 : n ≤ 9223372036854775807) : wrap64 n = n := by unfold wrap64; omega
def I64 (n : Int) : Prop := -9223372036854775808 ≤ n ∧ n ≤ 9223372036854775807
theorem I64.wrap {n : Int} (h : I64 n) : wrap64 n = n := wrap64_in h.1 h.2
theorem wf64 {n : Int} (h : (Lit.int .i64 n).wf = true) : I64 n := by
  have := bounds_i64 h
  exact ⟨by omega, by omega⟩
end Go.Proofs.Ytmfenomjhmhogaa.Pure
end
section
namespace Go.Proofs.Ytmfenomjhmhogaa.Pure
open Go.RowKit Go.Proofs.Ytmfenomjhmhogaa.P Go.Proofs.YtmfenomjhmhogaaW.PrintWords Go.Proofs.YtmfenomjhmhogaaW.PrintLast Go.Proofs.YtmfenomjhmhogaaW.PrintMore
theorem rd_pre (pre suf : List Int) (x : Int) : rd (pre ++ x :: suf) (pre.length : Int) = x := by
  simp [rd, List.getD_eq_getElem?_getD]
theorem index_ev (a : Int) : ∀ (suf pre : List Int), (pre ++ suf).length ≤ 9223372036854775807 → ∃ r, Ev (fun k => slices_Index_int_int.l0 k (pre ++ suf) a ((pre ++ suf).length : Int) (pre.length : Int)) r ∧ decide (r ≥ 0) = suf.contains a := by
  intro suf
  induction suf with
  | nil =>
    intro pre hl
    refine ⟨-1, Ev.succ ?_, by simp⟩
    simp [slices_Index_int_int.l0]
    exact Ev.pure _
  | cons x suf ih =>
    intro pre hl
    have e1 : (pre.length : Int) < ((pre ++ x :: suf).length : Int) := by simp; omega
    have e2 : (0 : Int) ≤ (pre.length : Int) := by omega
    have e6 : wrap64 ((pre.length : Int) + 1) = (pre.length : Int) + 1 := wrap64_in (by omega) (by simp at hl; omega)
    by_cases hx : a = x
    · refine ⟨(pre.length : Int), Ev.succ ?_, by simp [hx]⟩
      simp only [slices_Index_int_int.l0, e1, e2, if_true, rd_pre, hx]
      exact Ev.pure _
    · obtain ⟨r, h1, h2⟩ := ih (pre ++ [x]) (by simpa using hl)
      refine ⟨r, Ev.succ ?_, ?_⟩
      · simp only [slices_Index_int_int.l0, e1, e2, if_true, rd_pre, hx, if_false, e6]
        simpa using h1
      · rw [h2]; simp [hx]
theorem contains_f (l : List Int) (a : Int) (hl : l.length ≤ 9223372036854775807) : ∃ k, slices_Contains_int_int.f k l a = some (l.contains a) := by
  obtain ⟨r, h1, h2⟩ := index_ev a l [] (by simpa using hl)
  obtain ⟨k, hk⟩ := h1.get
  refine ⟨k, ?_⟩
  unfold slices_Contains_int_int.f slices_Index_int_int.f
  have hk' : slices_Index_int_int.l0 k l a (l.length : Int) 0 = some r := hk
  rw [hk', Option.bind_some, h2]
end Go.Proofs.Ytmfenomjhmhogaa.Pure
namespace Go.Proofs.Ytmfenomjhmhogaa.P
open Go.RowKit Go.Proofs.Ytmfenomjhmhogaa.Pure Go.Proofs.YtmfenomjhmhogaaW.PrintWords Go.Proofs.YtmfenomjhmhogaaW.PrintLast Go.Proofs.YtmfenomjhmhogaaW.PrintMore
attribute [local go_sem] max2_int min2_int max_two min_two max_three min_three max_four min_four
set_option linter.unusedVariables false
set_option linter.unusedSimpArgs false
theorem at_world {P : Program} {c : Code} {Q : Exit → Act → World → Prop} {a : Act} {W : World} (R : World → Prop) (h : R W) (k : ∀ W', R W' → Code.wp P c Q a W') : Code.wp P c Q a W := k W h
@[reducible] def encT (x : S69) : Value := .agg #[.int .i64 x.f0, .int .i64 x.f1, .int .i64 x.f2.f0, .int .i64 x.f2.f1, .string x.f2.f2]
def isT (col : Int) (ops : List Int) (x : S69) : Bool := x.f0 == col && ops.contains x.f1
set_option maxHeartbeats 2000000 in
set_option maxRecDepth 100000 in
theorem bound1.no (x : S69) (col : Int) (b4 b5 : Nat) (w : World) (h4 : w.cell? ⟨b4, 0, none⟩ = some (.int .i64 col)) (hne : ¬ x.f0 = col) :
    Calls Try.prog 65 #[encT x, .pointer (some ⟨b4, 0, none⟩), .pointer (some ⟨b5, 0, none⟩)] w fun e w' => e = .returned (.bool false) ∧ Below w.heap.size w w' := by
  have hu69 := Try.underlying69
  have b0 : (x.f0 == col) = false := beq_eq_false_iff_ne.mpr hne
  have l4 := World.block_lt_of_cell? w _ h4
  have h4' : (w.alloc (.cells #[.int .i64 x.f0, .int .i64 x.f1, .int .i64 x.f2.f0, .int .i64 x.f2.f1, .string x.f2.f2] 69)).cell? ⟨b4, 0, none⟩ = some (.int .i64 col) := ((below_alloc (Below.refl w.heap.size w) _).cell l4).trans h4
  have HB := below_alloc (Below.refl w.heap.size w) (.cells #[.int .i64 x.f0, .int .i64 x.f1, .int .i64 x.f2.f0, .int .i64 x.f2.f1, .string x.f2.f2] 69)
  unfold encT
  clear hne h4
  go_enter Try.func65, Try.ntmps65
  go_wp2
  go_ret
  exact ⟨rfl, HB⟩
set_option maxHeartbeats 2000000 in
set_option maxRecDepth 100000 in
theorem bound1.yes (x : S69) (col : Int) (ops : List Int) (b4 b5 : Nat) (A : Option Addr) (c : Nat) (w : World) (h4 : w.cell? ⟨b4, 0, none⟩ = some (.int .i64 col)) (h5 : w.cell? ⟨b5, 0, none⟩ = some (.slice A ops.length c))
    (hr : Kd.C (Kd.int .i64) w A ops.length ops) (hc : ops.length ≤ c) (hl : ops.length ≤ 9223372036854775807) (hne : x.f0 = col) :
    Calls Try.prog 65 #[encT x, .pointer (some ⟨b4, 0, none⟩), .pointer (some ⟨b5, 0, none⟩)] w fun e w' => e = .returned (.bool (ops.contains x.f1)) ∧ Below w.heap.size w w' := by
  have hu69 := Try.underlying69
  have b0 : (x.f0 == col) = true := beq_iff_eq.mpr hne
  have l4 := World.block_lt_of_cell? w _ h4
  have l5 := World.block_lt_of_cell? w _ h5
  have HB := Aside0.mk (below_alloc (Below.refl w.heap.size w) (.cells #[.int .i64 x.f0, .int .i64 x.f1, .int .i64 x.f2.f0, .int .i64 x.f2.f1, .string x.f2.f2] 69))
  have h4' := (HB.out.cell l4).trans h4
  have h5' := (HB.out.cell l5).trans h5
  have HR := Aside0.mk (Kd.C_below hr HB.out)
  have HC := Aside0.mk hc
  obtain ⟨k, hk⟩ := contains_f ops x.f1 hl
  have HK := Aside0.mk hk
  unfold encT
  clear hne h4 h5 hk hr hc hl
  go_enter Try.func65, Try.ntmps65
  go_wp2_with (first | (go_at_call 66; (with_reducible refine (slices_Contains_int_int.calls k _ _ ops x.f1 _ _ ?s1 ?s2 HK.out).mono ?_); (case s1 => exact HR.out); (case s2 => exact HC.out); rintro e w' ⟨rfl, ⟨nd, rfl⟩⟩))
  go_ret
  exact ⟨by simp, pw_below_drewN HB.out _⟩
theorem bound1.calls (x : S69) (col : Int) (ops : List Int) (b4 b5 : Nat) (A : Option Addr) (c : Nat) (w : World) (h4 : w.cell? ⟨b4, 0, none⟩ = some (.int .i64 col)) (h5 : w.cell? ⟨b5, 0, none⟩ = some (.slice A ops.length c))
    (hr : Kd.C (Kd.int .i64) w A ops.length ops) (hc : ops.length ≤ c) (hl : ops.length ≤ 9223372036854775807) :
    Calls Try.prog 65 #[encT x, .pointer (some ⟨b4, 0, none⟩), .pointer (some ⟨b5, 0, none⟩)] w fun e w' => e = .returned (.bool (isT col ops x)) ∧ Below w.heap.size w w' := by
  by_cases hx : x.f0 = col
  · refine (bound1.yes x col ops b4 b5 A c w h4 h5 hr hc hl hx).mono ?_
    rintro e w' ⟨rfl, hb⟩
    exact ⟨by simp [isT, hx], hb⟩
  · refine (bound1.no x col b4 b5 w h4 hx).mono ?_
    rintro e w' ⟨rfl, hb⟩
    exact ⟨by simp [isT, hx], hb⟩
def idxP (p : S69 → Bool) : List S69 → Int
  | [] => -1
  | x :: l => if p x = true then 0 else (if idxP p l < 0 then -1 else idxP p l + 1)
theorem idxP_miss {p : S69 → Bool} : ∀ {l : List S69}, (∀ x ∈ l, p x = false) → idxP p l = -1
  | [], _ => rfl
  | x :: l, h => by
    unfold idxP
    rw [if_neg (by rw [h x (by simp)]; decide), idxP_miss (fun y hy => h y (by simp [hy]))]
    rfl
theorem idxP_hit {p : S69 → Bool} : ∀ (i : Nat) {l : List S69} {v : S69}, l[i]? = some v → (∀ x ∈ l.take i, p x = false) → p v = true → idxP p l = i
  | 0, x :: l, v, h, _, hp => by
    simp at h
    subst h
    unfold idxP
    rw [if_pos hp]
    rfl
  | i + 1, x :: l, v, h, hm, hp => by
    unfold idxP
    rw [if_neg (by rw [hm x (by simp)]; decide), idxP_hit i (by simpa using h) (fun y hy => hm y (by simp [hy])) hp, if_neg (by omega)]
    omega
theorem rdT_get {l : List S69} {i : Nat} (h : i < l.length) : l[i]? = some (rd_T69 l (i : Int)) := by
  unfold rd_T69
  rw [Int.toNat_natCast, List.getD_eq_getElem?_getD, List.getElem?_eq_getElem h]
  rfl
set_option maxHeartbeats 4000000 in
set_option maxRecDepth 100000 in
theorem indexF.calls (l : List S69) (A : Option Addr) (c : Nat) (col : Int) (ops : List Int) (b4 b5 : Nat) (A2 : Option Addr) (c2 : Nat) (w : World) (h4 : w.cell? ⟨b4, 0, none⟩ = some (.int .i64 col)) (h5 : w.cell? ⟨b5, 0, none⟩ = some (.slice A2 ops.length c2))
    (hr2 : Kd.C (Kd.int .i64) w A2 ops.length ops) (hc2 : ops.length ≤ c2) (hl2 : ops.length ≤ 9223372036854775807) (hr : Kd.C k69 w A l.length l) (hc : l.length ≤ c) (hl : l.length ≤ 9223372036854775807) :
    Calls Try.prog 64 #[.slice A l.length c, .func (.func 65) #[] #[.pointer (some ⟨b4, 0, none⟩), .pointer (some ⟨b5, 0, none⟩)]] w fun e w' => e = .returned (.int .i64 (idxP (isT col ops) l)) ∧ Below w.heap.size w w' := by
  have hu69 := Try.underlying69
  have l4 := World.block_lt_of_cell? w _ h4
  have l5 := World.block_lt_of_cell? w _ h5
  have HR := Aside0.mk hr
  have HR2 := Aside0.mk hr2
  have HF := Aside0.mk (And.intro h4 h5)
  have HC2 := Aside0.mk (And.intro hc2 hl2)
  have HC := Aside0.mk hc
  have HB := Aside0.mk (Below.refl w.heap.size w)
  clear hr hr2 h4 h5 hc2 hl2 hc
  go_enter Try.func64, Try.ntmps64
  go_wp2
  go_loopg [5, 8] (l.length + 1) (fun kq v5 v8 w' => ∃ i : Nat, v8 = .int .i64 (i : Int) ∧ Aside0 (i ≤ l.length ∧ l.length - i < kq ∧ ∀ x ∈ l.take i, isT col ops x = false) ∧ Aside0 (Below w.heap.size w w'))
  case atStart => exact ⟨0, rfl, ⟨by omega, by omega, by simp⟩, HB⟩
  case round =>
    clear HB
    obtain ⟨i, rfl, HI, HB⟩ := hrel
    have hi := HI.out.1
    by_cases hlt : i < l.length
    · have p0 : (0 : Int) ≤ (i : Int) := by omega
      have q0 : (i : Int) < (l.length : Int) := by omega
      obtain ⟨ad, e0, hx0, hx1, hx2, hx3, hx4⟩ := at_T69 HR.out (i : Int) p0 q0
      cases e0
      replace hx0 := (HB.out.cell (World.block_lt_of_cell? w _ hx0)).trans hx0
      replace hx1 := (HB.out.cell (World.block_lt_of_cell? w _ hx1)).trans hx1
      replace hx2 := (HB.out.cell (World.block_lt_of_cell? w _ hx2)).trans hx2
      replace hx3 := (HB.out.cell (World.block_lt_of_cell? w _ hx3)).trans hx3
      replace hx4 := (HB.out.cell (World.block_lt_of_cell? w _ hx4)).trans hx4
      simp only [Int.toNat_natCast] at hx0 hx1 hx2 hx3 hx4
      have hcall := bound1.calls (rd_T69 l (i : Int)) col ops b4 b5 A2 c2 wr ((HB.out.cell l4).trans HF.out.1) ((HB.out.cell l5).trans HF.out.2) (Kd.C_below HR2.out HB.out) HC2.out.1 HC2.out.2
      have hget := Aside0.mk (rdT_get hlt)
      have HL := Aside0.mk hlt
      have b0 : decide (i < l.length) = true := decide_eq_true hlt
      have b1 : decide ((i : Int) < (l.length : Int)) = true := decide_eq_true q0
      generalize hv : rd_T69 l (i : Int) = v at hx0 hx1 hx2 hx3 hx4 hcall hget
      clear hv hlt
      unfold encT at hcall
      cases hq : isT col ops v with
      | true =>
        rw [hq] at hcall
        have HQ := Aside0.mk hq
        clear hq
        go_wp2_with (go_at_call 65; refine hcall.mono ?_; rintro e w' ⟨rfl, hb'⟩)
        go_ret
        refine ⟨?_, below_step HB.out hb'⟩
        rw [idxP_hit i hget.out HI.out.2.2 HQ.out]
        rfl
      | false =>
        rw [hq] at hcall
        have HQ := Aside0.mk hq
        clear hq
        go_wp2_with (go_at_call 65; refine hcall.mono ?_; rintro e w' ⟨rfl, hb'⟩)
        obtain ⟨k1, rfl⟩ : ∃ k1, gk = k1 + 1 := ⟨gk - 1, by have := HI.out; omega⟩
        go_roundg k1
        case measure => omega
        case rel =>
          refine ⟨i + 1, by go_num, ⟨by have := HL.out; omega, by have := HI.out.2.1; omega, fun x hx => ?_⟩, ⟨below_step HB.out hb'⟩⟩
          rw [List.take_add_one, hget.out] at hx
          rcases List.mem_append.1 hx with h | h
          · exact HI.out.2.2 x h
          · simp at h
            rw [h]
            exact HQ.out
    · obtain rfl : i = l.length := by omega
      have b0 : decide (l.length < l.length) = false := decide_eq_false hlt
      have b1 : decide ((l.length : Int) < (l.length : Int)) = false := decide_eq_false (by omega)
      clear hlt
      go_wp2
      go_ret
      refine ⟨?_, HB.out⟩
      rw [idxP_miss (fun x hx => HI.out.2.2 x (by simpa using hx))]
      rfl
def firstT (col : Int) (ops : List Int) (l : List S69) : S69 × Bool := if idxP (isT col ops) l < 0 then (z69, false) else (rd_T69 l (idxP (isT col ops) l), true)
theorem idxP_lt (p : S69 → Bool) : ∀ l : List S69, -1 ≤ idxP p l ∧ idxP p l < l.length
  | [] => by simp [idxP]
  | x :: l => by
    have := idxP_lt p l
    unfold idxP
    simp only [List.length_cons]
    split
    · omega
    · split <;> omega
theorem three_blk (w : World) (c1 c2 c3 : Array Value) (t1 t2 t3 : TypeId) : (((w.alloc (.cells c1 t1)).alloc (.cells c2 t2)).alloc (.cells c3 t3)).heap[w.heap.size]? = some (.cells c1 t1 (0, 0)) ∧
    (((w.alloc (.cells c1 t1)).alloc (.cells c2 t2)).alloc (.cells c3 t3)).heap[w.heap.size + 1]? = some (.cells c2 t2 (0, 0)) ∧ (((w.alloc (.cells c1 t1)).alloc (.cells c2 t2)).alloc (.cells c3 t3)).heap[w.heap.size + 1 + 1]? = some (.cells c3 t3 (0, 0)) ∧
    Below w.heap.size w (((w.alloc (.cells c1 t1)).alloc (.cells c2 t2)).alloc (.cells c3 t3)) := by
  have h1 := Deep.blk_alloc_new w (.cells c1 t1)
  have h2 := Deep.blk_alloc_new (w.alloc (.cells c1 t1)) (.cells c2 t2)
  have h3 := Deep.blk_alloc_new ((w.alloc (.cells c1 t1)).alloc (.cells c2 t2)) (.cells c3 t3)
  have e1 : (w.alloc (.cells c1 t1)).heap.size = w.heap.size + 1 := by simp
  have e2 : ((w.alloc (.cells c1 t1)).alloc (.cells c2 t2)).heap.size = w.heap.size + 1 + 1 := by simp
  rw [e1] at h2
  rw [e2] at h3
  exact ⟨blk_alloc (blk_alloc h1 _) _, blk_alloc h2 _, h3, below_alloc (below_alloc (below_alloc (Below.refl _ _) _) _) _⟩
theorem below_set5 {w W : World} (h : Below w.heap.size w W) {g : Nat} (hg : w.heap.size ≤ g) (a b c d e : Nat) (v0 v1 v2 v3 v4 : Value) : Below w.heap.size w (((((W.setCell ⟨g, a, none⟩ v0).setCell ⟨g, b, none⟩ v1).setCell ⟨g, c, none⟩ v2).setCell ⟨g, d, none⟩ v3).setCell ⟨g, e, none⟩ v4) :=
  below_set (below_set (below_set (below_set (below_set h hg) hg) hg) hg) hg
set_option maxHeartbeats 4000000 in
set_option maxRecDepth 100000 in
theorem bound.at (l : List S69) (A : Option Addr) (c : Nat) (col : Int) (ops : List Int) (A2 : Option Addr) (c2 : Nat) (w : World)
    (hr : Kd.C k69 w A l.length l) (hc : l.length ≤ c) (hr2 : Kd.C (Kd.int .i64) w A2 ops.length ops) (hc2 : ops.length ≤ c2) :
    Calls Try.prog 51 #[.slice A l.length c, .int .i64 col, .slice A2 ops.length c2] w fun e w' => e = .returned (.tuple #[encT (firstT col ops l).1, .bool (firstT col ops l).2]) ∧ Below w.heap.size w w' := by
  have hu69 := Try.underlying69
  have HR := Aside0.mk hr
  have HR2 := Aside0.mk (And.intro hr2 hc2)
  have HC := Aside0.mk hc
  clear hr hr2 hc hc2
  have hX := idxP_lt (isT col ops) l
  by_cases hn : idxP (isT col ops) l < 0
  · have hft : firstT col ops l = (z69, false) := by unfold firstT; rw [if_pos hn]
    rw [hft]
    go_enter Try.func51, Try.ntmps51
    go_upto_region 1 with fail
    refine at_world (fun W => W.heap[w.heap.size]? = some (.cells #[.int .i64 col] 3 (0, 0)) ∧ W.heap[w.heap.size + 1]? = some (.cells #[.slice A2 ops.length c2] 38 (0, 0)) ∧ W.heap[w.heap.size + 1 + 1]? = some (.cells #[.int .i64 0, .int .i64 0, .int .i64 0, .int .i64 0, .string (⟨#[]⟩ : ByteArray)] 69 (0, 0)) ∧ Below w.heap.size w W) (three_blk w _ _ _ _ _ _) (fun W3 hI => ?_)
    have HW := Aside0.mk hI
    clear hI
    have hcall := indexF.calls l A c col ops w.heap.size (w.heap.size + 1) A2 c2 W3 ((blk_cell HW.out.1 0).trans rfl) ((blk_cell HW.out.2.1 0).trans rfl) (Kd.C_below HR2.out.1 HW.out.2.2.2) HR2.out.2 HR2.out.1.2.1 (Kd.C_below HR.out HW.out.2.2.2) HC.out HR.out.2.1
    have b0 : decide (idxP (isT col ops) l < 0) = true := decide_eq_true hn
    clear hft hX hn
    go_upto_region 2 with (go_at_call 64; (with_reducible refine hcall.mono ?_); rintro e w1 ⟨rfl, hb⟩)
    have HG := Aside0.mk ((hb.block _ (blk_lt HW.out.2.2.1)).trans HW.out.2.2.1)
    have HB := Aside0.mk (below_step HW.out.2.2.2 hb)
    clear hb hcall
    have gc0 : w1.cell? ⟨w.heap.size + 1 + 1, 0, none⟩ = some (.int .i64 0) := (blk_cell HG.out 0).trans rfl
    have gf0 := blk_frozen HG.out 0
    have gc1 : w1.cell? ⟨w.heap.size + 1 + 1, 1, none⟩ = some (.int .i64 0) := (blk_cell HG.out 1).trans rfl
    have gf1 := blk_frozen HG.out 1
    have gc2 : w1.cell? ⟨w.heap.size + 1 + 1, 2, none⟩ = some (.int .i64 0) := (blk_cell HG.out 2).trans rfl
    have gf2 := blk_frozen HG.out 2
    have gc3 : w1.cell? ⟨w.heap.size + 1 + 1, 3, none⟩ = some (.int .i64 0) := (blk_cell HG.out 3).trans rfl
    have gf3 := blk_frozen HG.out 3
    have gc4 : w1.cell? ⟨w.heap.size + 1 + 1, 4, none⟩ = some (.string (⟨#[]⟩ : ByteArray)) := (blk_cell HG.out 4).trans rfl
    have gf4 := blk_frozen HG.out 4
    go_wp2
    refine bodyPost_ret (v := .tuple #[encT z69, .bool false]) (by simp [results, Try.results51, go_sem, gc0, gc1, gc2, gc3, gc4, encT, z69, z25]) rfl ⟨rfl, ?_⟩
    exact below_set5 HB.out (by omega) _ _ _ _ _ _ _ _ _ _
  · have hft : firstT col ops l = (rd_T69 l (idxP (isT col ops) l), true) := by unfold firstT; rw [if_neg hn]
    rw [hft]
    have hk9 : ∃ n, n = idxP (isT col ops) l := ⟨_, rfl⟩
    obtain ⟨n, hn9⟩ := hk9
    rw [← hn9] at hX hn ⊢
    go_enter Try.func51, Try.ntmps51
    go_upto_region 1 with fail
    refine at_world (fun W => W.heap[w.heap.size]? = some (.cells #[.int .i64 col] 3 (0, 0)) ∧ W.heap[w.heap.size + 1]? = some (.cells #[.slice A2 ops.length c2] 38 (0, 0)) ∧ W.heap[w.heap.size + 1 + 1]? = some (.cells #[.int .i64 0, .int .i64 0, .int .i64 0, .int .i64 0, .string (⟨#[]⟩ : ByteArray)] 69 (0, 0)) ∧ Below w.heap.size w W) (three_blk w _ _ _ _ _ _) (fun W3 hI => ?_)
    have HW := Aside0.mk hI
    clear hI
    have hcall := indexF.calls l A c col ops w.heap.size (w.heap.size + 1) A2 c2 W3 ((blk_cell HW.out.1 0).trans rfl) ((blk_cell HW.out.2.1 0).trans rfl) (Kd.C_below HR2.out.1 HW.out.2.2.2) HR2.out.2 HR2.out.1.2.1 (Kd.C_below HR.out HW.out.2.2.2) HC.out HR.out.2.1
    rw [← hn9] at hcall
    clear hn9
    obtain ⟨ad, e0, hx0, hx1, hx2, hx3, hx4⟩ := at_T69 HR.out n (by omega) hX.2
    cases e0
    have b0 : decide (n < 0) = false := decide_eq_false hn
    have b1 : 0 ≤ n := by omega
    have b2 : n < (l.length : Int) := hX.2
    clear hft hX hn
    go_upto_region 2 with (go_at_call 64; (with_reducible refine hcall.mono ?_); rintro e w1 ⟨rfl, hb⟩)
    have HG := Aside0.mk ((hb.block _ (blk_lt HW.out.2.2.1)).trans HW.out.2.2.1)
    have HB := Aside0.mk (below_step HW.out.2.2.2 hb)
    clear hb hcall
    replace hx0 := (HB.out.cell (World.block_lt_of_cell? w _ hx0)).trans hx0
    replace hx1 := (HB.out.cell (World.block_lt_of_cell? w _ hx1)).trans hx1
    replace hx2 := (HB.out.cell (World.block_lt_of_cell? w _ hx2)).trans hx2
    replace hx3 := (HB.out.cell (World.block_lt_of_cell? w _ hx3)).trans hx3
    replace hx4 := (HB.out.cell (World.block_lt_of_cell? w _ hx4)).trans hx4
    generalize hv : rd_T69 l n = v at hx0 hx1 hx2 hx3 hx4
    have HV := Aside0.mk hv
    clear hv
    have gc0 : w1.cell? ⟨w.heap.size + 1 + 1, 0, none⟩ = some (.int .i64 0) := (blk_cell HG.out 0).trans rfl
    have gf0 := blk_frozen HG.out 0
    have gc1 : w1.cell? ⟨w.heap.size + 1 + 1, 1, none⟩ = some (.int .i64 0) := (blk_cell HG.out 1).trans rfl
    have gf1 := blk_frozen HG.out 1
    have gc2 : w1.cell? ⟨w.heap.size + 1 + 1, 2, none⟩ = some (.int .i64 0) := (blk_cell HG.out 2).trans rfl
    have gf2 := blk_frozen HG.out 2
    have gc3 : w1.cell? ⟨w.heap.size + 1 + 1, 3, none⟩ = some (.int .i64 0) := (blk_cell HG.out 3).trans rfl
    have gf3 := blk_frozen HG.out 3
    have gc4 : w1.cell? ⟨w.heap.size + 1 + 1, 4, none⟩ = some (.string (⟨#[]⟩ : ByteArray)) := (blk_cell HG.out 4).trans rfl
    have gf4 := blk_frozen HG.out 4
    replace b1 := eq_true b1
    replace b2 := eq_true b2
    go_wp2
    refine bodyPost_ret (v := .tuple #[encT v, .bool true]) (by simp [results, Try.results51, go_sem, gc0, gc1, gc2, gc3, gc4, encT]) rfl ⟨by rw [HV.out], ?_⟩
    exact below_set5 HB.out (by omega) _ _ _ _ _ _ _ _ _ _
end Go.Proofs.Ytmfenomjhmhogaa.P
end
section
namespace Go.Proofs.Ytmfenomjhmhogaa.P
open Go.RowKit Go.Proofs.Ytmfenomjhmhogaa.Pure Go.Proofs.YtmfenomjhmhogaaW.PrintWords Go.Proofs.YtmfenomjhmhogaaW.PrintLast Go.Proofs.YtmfenomjhmhogaaW.PrintMore
attribute [local go_sem] max2_int min2_int max_two min_two max_three min_three max_four min_four
set_option linter.unusedVariables false
set_option linter.unusedSimpArgs false
def useG (l : List S69) : List Int → List S25 → List S25 × List S69 × List S69
  | [], acc => (acc, [], [])
  | c :: cs, acc => if (firstT c [5] l).2 = true then useG l cs (acc ++ [(firstT c [5] l).1.f2]) else
      (acc, if (firstT c [9, 10] l).2 = true then [(firstT c [9, 10] l).1] else [], if (firstT c [7, 8] l).2 = true then [(firstT c [7, 8] l).1] else [])
def bounds_useOf.f (a0_0 : Int) (a0_1 a0_2 : ByteArray) (l0_3 : List Int) (l0_4 : List Bool) (a0_5 : Bool) (l1 : List S69) : Option (List S25 × List S69 × List S69) := if l0_3.length < 4398046511104 then some (useG l1 l0_3 []) else none
theorem R_setK {α : Type} {d : Kd α} {e : Nat} {w : World} {base : Nat} {ok : Nat → Prop} {v : Value} {xs : List α} (h : d.R e w base ok v xs) {g t : Nat} {cells : Array Value} (hb : w.heap[g]? = some (.cells cells t (0, 0))) (ht : ∀ q, q ∈ e :: d.E → q ≠ t) (i : Nat) (u : Value) :
    d.R e (w.setCell ⟨g, i, none⟩ u) base ok v xs := Kd.R_mono (Kd.R_far (Kd.R_types h hb ht) (fun _ hk => hk.2) u) (fun _ hk => hk.1)
def UI (w : World) (cx : Array Value) (W : World) (v0 : Value) (xs : List S25) (v1 : Value) (ys : List S69) (v2 : Value) (zs : List S69) : Prop :=
  W.heap[w.heap.size]? = some (.cells cx 41 (0, 0)) ∧ W.heap[w.heap.size + 1]? = some (.cells #[.slice none 0 0, .slice none 0 0, .slice none 0 0] 77 (0, 0)) ∧ W.heap[w.heap.size + 1 + 1]? = some (.cells #[v0, v1, v2] 77 (0, 0)) ∧
  Kd.R k25 25 W w.heap.size (fun _ => True) v0 xs ∧ Kd.R k69 69 W w.heap.size (fun k => some k ≠ v2.ownBlock) v1 ys ∧ Kd.R k69 69 W w.heap.size (fun k => some k ≠ v1.ownBlock) v2 zs ∧ Below w.heap.size w W
section
variable {w W W' : World} {cx : Array Value} {v0 v1 v2 : Value} {xs : List S25} {ys zs : List S69}
theorem UI.below (h : UI w cx W v0 xs v1 ys v2 zs) (hb : Below W.heap.size W W') : UI w cx W' v0 xs v1 ys v2 zs :=
  ⟨blk_below h.1 hb, blk_below h.2.1 hb, blk_below h.2.2.1 hb, Kd.R_below h.2.2.2.1 hb, Kd.R_below h.2.2.2.2.1 hb, Kd.R_below h.2.2.2.2.2.1 hb, below_step h.2.2.2.2.2.2 hb⟩
theorem UI.bel (h : UI w cx W v0 xs v1 ys v2 zs) : Below w.heap.size w W := h.2.2.2.2.2.2
theorem UI.start (w : World) (cx : Array Value) : UI w cx (((w.alloc (.cells cx 41)).alloc (.cells #[.slice none 0 0, .slice none 0 0, .slice none 0 0] 77)).alloc (.cells #[.slice none 0 0, .slice none 0 0, .slice none 0 0] 77)) (.slice none 0 0) [] (.slice none 0 0) [] (.slice none 0 0) [] := by
  have h := three_blk w cx #[.slice none 0 0, .slice none 0 0, .slice none 0 0] #[.slice none 0 0, .slice none 0 0, .slice none 0 0] 41 77 77
  exact ⟨h.1, h.2.1, h.2.2.1, Kd.R_nil _ _ _ _ _, Kd.R_nil _ _ _ _ _, Kd.R_nil _ _ _ _ _, h.2.2.2⟩
theorem UI.set1 (h : UI w cx W v0 xs (.slice none 0 0) [] (.slice none 0 0) []) {u : Value} {us : List S69} (hu : Kd.R k69 69 W w.heap.size (fun _ => True) u us) : UI w cx (W.setCell ⟨w.heap.size + 1 + 1, 1, none⟩ u) v0 xs u us (.slice none 0 0) [] := by
  have ne1 : w.heap.size ≠ w.heap.size + 1 + 1 := by omega
  have ne2 : w.heap.size + 1 ≠ w.heap.size + 1 + 1 := by omega
  exact ⟨blk_far h.1 ne1 _, blk_far h.2.1 ne2 _, blk_put h.2.2.1 1 u rfl, R_setK h.2.2.2.1 h.2.2.1 (by decide) 1 u, Kd.R_mono (R_setK hu h.2.2.1 (by decide) 1 u) (fun k _ => by simp [Value.ownBlock]), Kd.R_nil _ _ _ _ _, below_set h.2.2.2.2.2.2 (by omega)⟩
theorem UI.set2 (h : UI w cx W v0 xs v1 ys (.slice none 0 0) []) {u : Value} {us : List S69} (hu : Kd.R k69 69 W w.heap.size (fun k => some k ≠ v1.ownBlock) u us) (hlt : ∀ k, u.ownBlock = some k → some k ≠ v1.ownBlock)
    (hv : Kd.R k69 69 W w.heap.size (fun k => some k ≠ u.ownBlock) v1 ys) : UI w cx (W.setCell ⟨w.heap.size + 1 + 1, 2, none⟩ u) v0 xs v1 ys u us := by
  have ne1 : w.heap.size ≠ w.heap.size + 1 + 1 := by omega
  have ne2 : w.heap.size + 1 ≠ w.heap.size + 1 + 1 := by omega
  exact ⟨blk_far h.1 ne1 _, blk_far h.2.1 ne2 _, blk_put h.2.2.1 2 u rfl, R_setK h.2.2.2.1 h.2.2.1 (by decide) 2 u, R_setK hv h.2.2.1 (by decide) 2 u, R_setK hu h.2.2.1 (by decide) 2 u, below_set h.2.2.2.2.2.2 (by omega)⟩
end
theorem UI.fin {w W : World} {cx : Array Value} {v0 v1 v2 : Value} {xs : List S25} {ys zs : List S69} (h : UI w cx W v0 xs v1 ys v2 zs) {r : List S25 × List S69 × List S69} (hr : r = (xs, ys, zs)) :
    ∃ v0_ v1_ v2_ : Value, Ending.returned (.agg #[v0, v1, v2]) = .returned (.agg #[v0_, v1_, v2_]) ∧ Kd.R k25 25 (((W.setCell ⟨w.heap.size + 1, 0, none⟩ v0).setCell ⟨w.heap.size + 1, 1, none⟩ v1).setCell ⟨w.heap.size + 1, 2, none⟩ v2) w.heap.size (fun _ => True) v0_ r.1 ∧
      Kd.R k69 69 (((W.setCell ⟨w.heap.size + 1, 0, none⟩ v0).setCell ⟨w.heap.size + 1, 1, none⟩ v1).setCell ⟨w.heap.size + 1, 2, none⟩ v2) w.heap.size (fun k_ => some k_ ≠ (v2_ : Value).ownBlock) v1_ r.2.1 ∧ Kd.R k69 69 (((W.setCell ⟨w.heap.size + 1, 0, none⟩ v0).setCell ⟨w.heap.size + 1, 1, none⟩ v1).setCell ⟨w.heap.size + 1, 2, none⟩ v2) w.heap.size (fun k_ => some k_ ≠ (v1_ : Value).ownBlock) v2_ r.2.2 ∧
      Below w.heap.size w (((W.setCell ⟨w.heap.size + 1, 0, none⟩ v0).setCell ⟨w.heap.size + 1, 1, none⟩ v1).setCell ⟨w.heap.size + 1, 2, none⟩ v2) := by
  subst hr
  have b1 := blk_put h.2.1 0 v0 rfl
  have b2 := blk_put b1 1 v1 rfl
  exact ⟨v0, v1, v2, rfl, R_setK (R_setK (R_setK h.2.2.2.1 h.2.1 (by decide) _ _) b1 (by decide) _ _) b2 (by decide) _ _, R_setK (R_setK (R_setK h.2.2.2.2.1 h.2.1 (by decide) _ _) b1 (by decide) _ _) b2 (by decide) _ _,
    R_setK (R_setK (R_setK h.2.2.2.2.2.1 h.2.1 (by decide) _ _) b1 (by decide) _ _) b2 (by decide) _ _, below_set (below_set (below_set h.bel (by omega)) (by omega)) (by omega)⟩
theorem UI.young {w W W' : World} {cx : Array Value} {v0 v1 : Value} {xs : List S25} {ys us : List S69} {u : Value} (h : UI w cx W v0 xs v1 ys (.slice none 0 0) []) (hu : Kd.R k69 69 W' W.heap.size (fun _ => True) u us) (hn : ∃ b, u.ownBlock = some b ∧ W.heap.size ≤ b) (hb : Below W.heap.size W W') :
    Kd.R k69 69 W' w.heap.size (fun k => some k ≠ v1.ownBlock) u us ∧ (∀ k, u.ownBlock = some k → some k ≠ v1.ownBlock) ∧ Kd.R k69 69 W' w.heap.size (fun k => some k ≠ u.ownBlock) v1 ys := by
  have hlt := Kd.R_lt h.2.2.2.2.1
  obtain ⟨b, e, hbb⟩ := hn
  refine ⟨Kd.R_lower (Kd.R_mono (Kd.R_bound hu) (fun k hk he => ?_)) (below_size h.bel), fun k hk he => ?_, Kd.R_below (Kd.R_mono (Kd.R_bound h.2.2.2.2.1) (fun k hk he => ?_)) hb⟩
  · have := hlt k he.symm
    have := hk.2.1
    omega
  · have := hlt k he.symm
    rw [e] at hk
    injection hk with hk
    omega
  · rw [e] at he
    injection he with he
    have := hk.2.2.1
    omega
theorem UI.app {w W W' : World} {cx : Array Value} {v0 u : Value} {xs us : List S25} (h : UI w cx W v0 xs (.slice none 0 0) [] (.slice none 0 0) []) (hu : Kd.R k25 25 W' w.heap.size (fun _ => True) u us) (hb : Below w.heap.size w W') (hg : W.grownBy W' v0.ownBlock) :
    UI w cx (W'.setCell ⟨w.heap.size + 1 + 1, 0, none⟩ u) u us (.slice none 0 0) [] (.slice none 0 0) [] ∧ W'.heap[w.heap.size + 1 + 1]? = some (.cells #[v0, .slice none 0 0, .slice none 0 0] 77 (0, 0)) := by
  have ne1 : w.heap.size ≠ w.heap.size + 1 + 1 := by omega
  have ne2 : w.heap.size + 1 ≠ w.heap.size + 1 + 1 := by omega
  have g1 := blk_grown h.1 hg (Kd.R_ne h.2.2.2.1 h.1 (by decide))
  have g2 := blk_grown h.2.1 hg (Kd.R_ne h.2.2.2.1 h.2.1 (by decide))
  have g3 := blk_grown h.2.2.1 hg (Kd.R_ne h.2.2.2.1 h.2.2.1 (by decide))
  exact ⟨⟨blk_far g1 ne1 _, blk_far g2 ne2 _, blk_put g3 0 u rfl, R_setK hu g3 (by decide) 0 u, Kd.R_nil _ _ _ _ _, Kd.R_nil _ _ _ _ _, below_set hb (by omega)⟩, g3⟩
set_option maxHeartbeats 2000000 in
set_option maxRecDepth 100000 in
theorem bounds_useOf.calls (a0_0 : Int) (a0_1 : ByteArray) (a0_2 : ByteArray) (A0_3 : Option Addr) (c0_3 : Nat) (l0_3 : List Int) (A0_4 : Option Addr) (c0_4 : Nat) (l0_4 : List Bool) (a0_5 : Bool) (A1 : Option Addr) (c1 : Nat) (l1 : List (S69)) (r1 : List (S25)) (r2 : List (S69)) (r3 : List (S69)) (w : World) (hr0_3 : Kd.C (Kd.int .i64) w A0_3 l0_3.length l0_3) (hc0_3 : l0_3.length ≤ c0_3) (hr0_4 : Kd.C Kd.bool w A0_4 l0_4.length l0_4) (hc0_4 : l0_4.length ≤ c0_4) (hr1 : Kd.C k69 w A1 l1.length l1) (hc1 : l1.length ≤ c1) (h : bounds_useOf.f a0_0 a0_1 a0_2 l0_3 l0_4 a0_5 l1 = some (r1, r2, r3)) :
    Calls Try.prog 31 #[.agg #[.int .i64 a0_0, .string a0_1, .string a0_2, .slice A0_3 l0_3.length c0_3, .slice A0_4 l0_4.length c0_4, .bool a0_5], .slice A1 l1.length c1] w fun e w' => ∃ v0_ v1_ v2_ : Value, e = .returned (.agg #[v0_, v1_, v2_]) ∧ Kd.R k25 25 w' w.heap.size (fun _ => True) v0_ r1 ∧ Kd.R k69 69 w' w.heap.size (fun k_ => some k_ ≠ (v2_ : Value).ownBlock) v1_ r2 ∧ Kd.R k69 69 w' w.heap.size (fun k_ => some k_ ≠ (v1_ : Value).ownBlock) v2_ r3 ∧ Below w.heap.size w w' := by
  have hu41 := Try.underlying41
  have hu77 := Try.underlying77
  have hu69 := Try.underlying69
  have hu25 := Try.underlying25
  unfold bounds_useOf.f at h
  by_cases hlen : l0_3.length < 4398046511104
  case neg => rw [if_neg hlen] at h; cases h
  rw [if_pos hlen] at h
  have hU := Option.some.inj h
  clear h
  have HU0 := Aside0.mk hU
  clear hU
  have HLEN := Aside0.mk hlen
  have HR0 := Aside0.mk hr0_3
  have HR1 := Aside0.mk hr1
  have HC1 := Aside0.mk hc1
  have hnl := hr0_3.2.1
  clear hr0_3 hr0_4 hr1 hc1 hc0_4
  obtain ⟨cx, hcx⟩ : ∃ cx : Array Value, cx = #[.int .i64 a0_0, .string a0_1, .string a0_2, .slice A0_3 l0_3.length c0_3, .slice A0_4 l0_4.length c0_4, .bool a0_5] := ⟨_, rfl⟩
  go_enter Try.func31, Try.ntmps31
  go_upto_region 2 with fail
  refine at_world (fun W => UI w #[.int .i64 a0_0, .string a0_1, .string a0_2, .slice A0_3 l0_3.length c0_3, .slice A0_4 l0_4.length c0_4, .bool a0_5] W (.slice none 0 0) [] (.slice none 0 0) [] (.slice none 0 0) []) (UI.start w _) (fun W hI => ?_)
  rw [← hcx] at hI
  have HI := Aside0.mk hI
  clear hI
  have cx3 : W.cell? ⟨w.heap.size, 3, none⟩ = some (.slice A0_3 l0_3.length c0_3) := (blk_cell HI.out.1 3).trans (by rw [hcx]; rfl)
  clear hcx
  go_wp2
  go_loopg [17] (l0_3.length + 1) (fun kq v17 w' => ∃ (i : Nat) (acc : List S25) (v0 : Value), v17 = .int .i64 (i : Int) ∧ Aside0 (i ≤ l0_3.length ∧ l0_3.length - i < kq ∧ acc.length ≤ i ∧ useG l1 (l0_3.drop i) acc = (r1, r2, r3)) ∧ Aside0 (UI w cx w' v0 acc (.slice none 0 0) [] (.slice none 0 0) []))
  case atStart => exact ⟨0, [], .slice none 0 0, rfl, ⟨by omega, by omega, by simp, HU0.out⟩, HI⟩
  case round =>
    clear HI HU0 cx3
    obtain ⟨i, acc, v0, rfl, HA, HI0⟩ := hrel
    have HI := Aside0.mk (And.intro HI0.out trivial)
    clear HI0
    have hi := HA.out.1
    by_cases hlt : i < l0_3.length
    · have p0 : (0 : Int) ≤ (i : Int) := by omega
      have q0 : (i : Int) < (l0_3.length : Int) := by omega
      have HUG := Aside0.mk HA.out.2.2.2
      have hdrop : l0_3.drop i = rd l0_3 (i : Int) :: l0_3.drop (i + 1) := by
        rw [List.drop_eq_getElem_cons hlt]
        simp [rd, List.getD_eq_getElem?_getD, List.getElem?_eq_getElem hlt]
      obtain ⟨ad, e0, hx0⟩ := Kd.at_int HR0.out (i : Int) p0 q0
      cases e0
      replace hx0 := (HI.out.1.bel.cell (World.block_lt_of_cell? w _ hx0)).trans hx0
      simp only [Int.toNat_natCast] at hx0
      have HLT := Aside0.mk hlt
      have b1 : decide ((i : Int) < (l0_3.length : Int)) = true := decide_eq_true q0
      have b0 : decide (i < l0_3.length) = true := decide_eq_true hlt
      generalize hcl : rd l0_3 (i : Int) = col at hx0 hdrop
      have hU9 := HUG.out
      rw [hdrop] at hU9
      unfold useG at hU9
      clear hdrop hcl HUG hlt
      obtain ⟨ft0, hf0⟩ : ∃ x, x = firstT col [5] l1 := ⟨_, rfl⟩
      obtain ⟨ft1, hf1⟩ : ∃ x, x = firstT col [9, 10] l1 := ⟨_, rfl⟩
      obtain ⟨ft2, hf2⟩ : ∃ x, x = firstT col [7, 8] l1 := ⟨_, rfl⟩
      rw [← hf0, ← hf1, ← hf2] at hU9
      have hcall0 : ∀ A c W, Kd.C k69 W A1 l1.length l1 → Kd.C (Kd.int .i64) W A 1 [5] → 1 ≤ c → Calls Try.prog 51 #[.slice A1 l1.length c1, .int .i64 col, .slice A 1 c] W fun e w' => e = .returned (.tuple #[encT ft0.1, .bool ft0.2]) ∧ Below W.heap.size W w' := fun A c W h1 h2 h3 => by rw [hf0]; exact bound.at l1 A1 c1 col [5] A c W h1 HC1.out h2 h3
      have hcall1 : ∀ A c W, Kd.C k69 W A1 l1.length l1 → Kd.C (Kd.int .i64) W A 2 [9, 10] → 2 ≤ c → Calls Try.prog 51 #[.slice A1 l1.length c1, .int .i64 col, .slice A 2 c] W fun e w' => e = .returned (.tuple #[encT ft1.1, .bool ft1.2]) ∧ Below W.heap.size W w' := fun A c W h1 h2 h3 => by rw [hf1]; exact bound.at l1 A1 c1 col [9, 10] A c W h1 HC1.out h2 h3
      have hcall2 : ∀ A c W, Kd.C k69 W A1 l1.length l1 → Kd.C (Kd.int .i64) W A 2 [7, 8] → 2 ≤ c → Calls Try.prog 51 #[.slice A1 l1.length c1, .int .i64 col, .slice A 2 c] W fun e w' => e = .returned (.tuple #[encT ft2.1, .bool ft2.2]) ∧ Below W.heap.size W w' := fun A c W h1 h2 h3 => by rw [hf2]; exact bound.at l1 A1 c1 col [7, 8] A c W h1 HC1.out h2 h3
      clear hf0 hf1 hf2
      obtain ⟨t0, ok0⟩ := ft0
      obtain ⟨t1, ok1⟩ := ft1
      obtain ⟨t2, ok2⟩ := ft2
      simp only [encT] at hcall0 hcall1 hcall2
      simp only at hU9
      have HUG := Aside0.mk hU9
      clear hU9
      go_upto_region 6 with (first | ((with_reducible refine gate_dst (N := 24) rfl ?_); refine Kd.R_lit (Kd.int .i64) _ 3 ?hg (N := 24) ?hd (xs := ([5] : List Int)) (inner := [.int .i64 5]) (ok := fun _ => True) (okp := fun _ => True) ?hr ?hp (fun _ hk => hk) trivial (Below.refl _ _) (Nat.le_refl _) (by simp) ?_; (case hd => rfl); (case hg => rfl); (case hr => first | (go_simp; done) | (go_simp; rfl)); (case hp => exact (Reps.one (show Kd.M (Kd.int .i64) _ _ _ 5 [.int .i64 5] from rfl) (Reps.none _ _))); intro v9 w9 ho9 hb9 hg_ hnew_; clear hg_ hnew_; obtain ⟨A9, c9, e9⟩ := Kd.R_slice ho9; subst e9; have HL := Aside0.mk ho9; have HJ := Aside0.mk (HI.out.1.below hb9); clear ho9 hb9) | (go_at_call 51; (with_reducible refine (hcall0 _ _ _ (Kd.C_below HR1.out HJ.out.bel) (Kd.R_reads' HL.out).2.2 (Kd.R_reads' HL.out).2.1).mono ?_); rintro e w2 ⟨rfl, hb2⟩; have HK := Aside0.mk (HJ.out.below hb2); clear hb2 HJ HL))
      refine at_world (fun W => UI w cx W v0 acc (.slice none 0 0) [] (.slice none 0 0) [] ∧ W.heap[w2.heap.size]? = some (.cells #[Value.int .i64 t0.f0, Value.int .i64 t0.f1, Value.int .i64 t0.f2.f0, Value.int .i64 t0.f2.f1, Value.string t0.f2.f2] 69 (0, 0))) ⟨HK.out.below (below_alloc (Below.refl _ _) _), Deep.blk_alloc_new w2 _⟩ (fun W hI => ?_)
      clear HI HK
      have HI := Aside0.mk hI
      clear hI
      cases ok0 with
      | true =>
        clear hcall0 hcall1 hcall2
        have HUG' : Aside0 (useG l1 (l0_3.drop (i + 1)) (acc ++ [t0.f2]) = (r1, r2, r3)) := ⟨by have := HUG.out; simpa using this⟩
        clear HUG
        have cu0 : World.cell? _ ⟨w.heap.size + 1 + 1, 0, none⟩ = some (v0) := (blk_cell HI.out.1.2.2.1 0).trans rfl
        have fu0 := blk_frozen HI.out.1.2.2.1 0
        have cu1 : World.cell? _ ⟨w.heap.size + 1 + 1, 1, none⟩ = some (.slice none 0 0) := (blk_cell HI.out.1.2.2.1 1).trans rfl
        have fu1 := blk_frozen HI.out.1.2.2.1 1
        have cu2 : World.cell? _ ⟨w.heap.size + 1 + 1, 2, none⟩ = some (.slice none 0 0) := (blk_cell HI.out.1.2.2.1 2).trans rfl
        have fu2 := blk_frozen HI.out.1.2.2.1 2
        have ct0 : World.cell? _ ⟨w2.heap.size, 0, none⟩ = some (Value.int .i64 t0.f0) := (blk_cell HI.out.2 0).trans rfl
        have ct1 : World.cell? _ ⟨w2.heap.size, 1, none⟩ = some (Value.int .i64 t0.f1) := (blk_cell HI.out.2 1).trans rfl
        have ct2 : World.cell? _ ⟨w2.heap.size, 2, none⟩ = some (Value.int .i64 t0.f2.f0) := (blk_cell HI.out.2 2).trans rfl
        have ct3 : World.cell? _ ⟨w2.heap.size, 3, none⟩ = some (Value.int .i64 t0.f2.f1) := (blk_cell HI.out.2 3).trans rfl
        have ct4 : World.cell? _ ⟨w2.heap.size, 4, none⟩ = some (Value.string t0.f2.f2) := (blk_cell HI.out.2 4).trans rfl
        go_upto_region 14 with (first | ((with_reducible refine gate_builtin (b := .append) (xs := #[.tmp 53, .tmp 56]) rfl ?_); at_builtin; refine Kd.R_append k25 (w0 := w) w.heap.size rfl (.tmp 53) (.tmp 56) 52 25 (.agg #[(.int .i64 0), (.int .i64 0), (.string ⟨#[]⟩)]) 32 rfl Try.underlying52 info25 rfl (by decide) (by omega) v0 acc t0.f2 [.int .i64 t0.f2.f0, .int .i64 t0.f2.f1, .string t0.f2.f2] (fun _ => True) (fun _ => False) rfl (by first | (go_simp; done) | (go_simp; rfl)) ?aP (fun _ hk => hk.elim) ?aF ?aO ?aB ?aS ?aL ?_; (case aP => exact k25_mkM _ _ _ t0.f2); (case aB => exact HI.out.1.bel); (case aF => exact (fun _ _ => trivial)); (case aO => exact HI.out.1.2.2.2.1); (case aS => exact below_size HI.out.1.bel); (case aL => have h1 := HA.out.2.2.1; have h2 := HLT.out; have h3 := HLEN.out; omega); intro v9 w9 ho hb hg hat; obtain ⟨A8, c8, e8⟩ := Kd.R_slice ho; subst e8; simp only [List.length_append, List.length_cons, List.length_nil, Nat.zero_add] at ho; have HJ := Aside0.mk (UI.app HI.out.1 ho hb hg); clear ho hb hg hat HI cu0 cu1 cu2 fu0 fu1 fu2 ct0 ct1 ct2 ct3 ct4; have fv0 := blk_frozen HJ.out.2 0; have cv0 : w9.cell? ⟨w.heap.size + 1 + 1, 0, none⟩ = some v0 := (blk_cell HJ.out.2 0).trans rfl))
        go_wp2
        obtain ⟨k1, rfl⟩ : ∃ k1, gk = k1 + 1 := ⟨gk - 1, by have := HA.out; omega⟩
        go_roundg k1
        case measure => omega
        case rel =>
          refine ⟨i + 1, acc ++ [t0.f2], _, by go_num, ⟨by have := HLT.out; omega, by have := HA.out.2.1; omega, by have := HA.out.2.2.1; simp; omega, HUG'.out⟩, ⟨HJ.out.1⟩⟩
      | false =>
        have HU1 : Aside0 ((r1, r2, r3) = (acc, if ok1 = true then [t1] else [], if ok2 = true then [t2] else [])) := ⟨by have := HUG.out; simpa using this.symm⟩
        clear HUG hcall0
        go_upto_region 8 with (first | ((with_reducible refine gate_dst (N := 33) rfl ?_); refine Kd.R_lit (Kd.int .i64) _ 3 ?hg (N := 33) ?hd (xs := ([9, 10] : List Int)) (inner := [.int .i64 9, .int .i64 10]) (ok := fun _ => True) (okp := fun _ => True) ?hr ?hp (fun _ hk => hk) trivial (Below.refl _ _) (Nat.le_refl _) (by simp) ?_; (case hd => rfl); (case hg => rfl); (case hr => first | (go_simp; done) | (go_simp; rfl)); (case hp => exact (Reps.one (show Kd.M (Kd.int .i64) _ _ _ 9 [.int .i64 9] from rfl) (Reps.one (show Kd.M (Kd.int .i64) _ _ _ 10 [.int .i64 10] from rfl) (Reps.none _ _)))); intro v9 w9 ho9 hb9 hg_ hnew_; clear hg_ hnew_; obtain ⟨A9, c9, e9⟩ := Kd.R_slice ho9; subst e9; have HL := Aside0.mk ho9; have HJ := Aside0.mk (HI.out.1.below hb9); clear ho9 hb9) | (go_at_call 51; (with_reducible refine (hcall1 _ _ _ (Kd.C_below HR1.out HJ.out.bel) (Kd.R_reads' HL.out).2.2 (Kd.R_reads' HL.out).2.1).mono ?_); rintro e w2 ⟨rfl, hb2⟩; have HK := Aside0.mk (HJ.out.below hb2); clear hb2 HJ HL))
        refine at_world (fun W => UI w cx W v0 acc (.slice none 0 0) [] (.slice none 0 0) [] ∧ W.heap[w2.heap.size]? = some (.cells #[Value.int .i64 t1.f0, Value.int .i64 t1.f1, Value.int .i64 t1.f2.f0, Value.int .i64 t1.f2.f1, Value.string t1.f2.f2] 69 (0, 0))) ⟨HK.out.below (below_alloc (Below.refl _ _) _), Deep.blk_alloc_new w2 _⟩ (fun W hI => ?_)
        clear HI HK
        have HI := Aside0.mk hI
        clear hI
        cases ok1 with
        | true =>
          cases ok2 with
          | true =>
            have HU : Aside0 ((r1, r2, r3) = (acc, [t1], [t2])) := ⟨by simpa using HU1.out⟩
            clear HU1
            go_upto_region 9 with fail
            have cu0 : World.cell? _ ⟨w.heap.size + 1 + 1, 0, none⟩ = some (v0) := (blk_cell HI.out.1.2.2.1 0).trans rfl
            have fu0 := blk_frozen HI.out.1.2.2.1 0
            have cu1 : World.cell? _ ⟨w.heap.size + 1 + 1, 1, none⟩ = some (.slice none 0 0) := (blk_cell HI.out.1.2.2.1 1).trans rfl
            have fu1 := blk_frozen HI.out.1.2.2.1 1
            have cu2 : World.cell? _ ⟨w.heap.size + 1 + 1, 2, none⟩ = some (.slice none 0 0) := (blk_cell HI.out.1.2.2.1 2).trans rfl
            have fu2 := blk_frozen HI.out.1.2.2.1 2
            have ct0 : World.cell? _ ⟨w2.heap.size, 0, none⟩ = some (Value.int .i64 t1.f0) := (blk_cell HI.out.2 0).trans rfl
            have ct1 : World.cell? _ ⟨w2.heap.size, 1, none⟩ = some (Value.int .i64 t1.f1) := (blk_cell HI.out.2 1).trans rfl
            have ct2 : World.cell? _ ⟨w2.heap.size, 2, none⟩ = some (Value.int .i64 t1.f2.f0) := (blk_cell HI.out.2 2).trans rfl
            have ct3 : World.cell? _ ⟨w2.heap.size, 3, none⟩ = some (Value.int .i64 t1.f2.f1) := (blk_cell HI.out.2 3).trans rfl
            have ct4 : World.cell? _ ⟨w2.heap.size, 4, none⟩ = some (Value.string t1.f2.f2) := (blk_cell HI.out.2 4).trans rfl
            go_upto_region 10 with (first | ((with_reducible refine gate_dst (N := 39) rfl ?_); refine Kd.R_lit k69 _ 69 ?hg (N := 39) ?hd (xs := ([t1] : List (S69))) (inner := [Value.int .i64 t1.f0, Value.int .i64 t1.f1, Value.int .i64 t1.f2.f0, Value.int .i64 t1.f2.f1, Value.string t1.f2.f2]) (ok := fun _ => True) (okp := fun _ => True) ?hr ?hp (fun _ hk => hk) trivial (Below.refl _ _) (Nat.le_refl _) (by simp) ?_; (case hd => rfl); (case hg => rfl); (case hr => first | (go_simp; done) | (go_simp; rfl)); (case hp => exact (Reps.c5 (show Kd.M k69 _ _ _ t1 [Value.int .i64 t1.f0, Value.int .i64 t1.f1, Value.int .i64 t1.f2.f0, Value.int .i64 t1.f2.f1, Value.string t1.f2.f2] from (k69_mkM _ _ _ t1)) (Reps.none _ _))); intro v9 w9 ho9 hb9 hg_ hnew9; clear hg_; obtain ⟨A9, c9, e9⟩ := Kd.R_slice ho9; subst e9; have HL := Aside0.mk (Kd.R_lower ho9 (below_size HI.out.1.bel)); have HJ := Aside0.mk (HI.out.1.below hb9); clear ho9 hb9 hnew9; clear HI; have cv0 := (blk_cell HJ.out.2.2.1 0); have fv1 := blk_frozen HJ.out.2.2.1 1; have cv1 : w9.cell? ⟨w.heap.size + 1 + 1, 1, none⟩ = some (.slice none 0 0) := (blk_cell HJ.out.2.2.1 1).trans rfl; clear cv0 cu0 cu1 cu2 fu0 fu1 fu2 ct0 ct1 ct2 ct3 ct4))
            refine at_world (fun W => ∃ v1, UI w cx W v0 acc v1 [t1] (.slice none 0 0) []) ⟨_, HJ.out.set1 HL.out⟩ (fun W hI => ?_)
            obtain ⟨v1, hI⟩ := hI
            clear HJ HL cv1 fv1
            have HI := Aside0.mk (And.intro hI trivial)
            clear hI
            go_upto_region 11 with (first | ((with_reducible refine gate_dst (N := 44) rfl ?_); refine Kd.R_lit (Kd.int .i64) _ 3 ?hg (N := 44) ?hd (xs := ([7, 8] : List Int)) (inner := [.int .i64 7, .int .i64 8]) (ok := fun _ => True) (okp := fun _ => True) ?hr ?hp (fun _ hk => hk) trivial (Below.refl _ _) (Nat.le_refl _) (by simp) ?_; (case hd => rfl); (case hg => rfl); (case hr => first | (go_simp; done) | (go_simp; rfl)); (case hp => exact (Reps.one (show Kd.M (Kd.int .i64) _ _ _ 7 [.int .i64 7] from rfl) (Reps.one (show Kd.M (Kd.int .i64) _ _ _ 8 [.int .i64 8] from rfl) (Reps.none _ _)))); intro v9 w9 ho9 hb9 hg_ hnew_; clear hg_ hnew_; obtain ⟨A9, c9, e9⟩ := Kd.R_slice ho9; subst e9; have HL := Aside0.mk ho9; have HJ := Aside0.mk (HI.out.1.below hb9); clear ho9 hb9) | (go_at_call 51; (with_reducible refine (hcall2 _ _ _ (Kd.C_below HR1.out HJ.out.bel) (Kd.R_reads' HL.out).2.2 (Kd.R_reads' HL.out).2.1).mono ?_); rintro e w2 ⟨rfl, hb2⟩; have HK := Aside0.mk (HJ.out.below hb2); clear hb2 HJ HL))
            refine at_world (fun W => UI w cx W v0 acc v1 [t1] (.slice none 0 0) [] ∧ W.heap[w2.heap.size]? = some (.cells #[Value.int .i64 t2.f0, Value.int .i64 t2.f1, Value.int .i64 t2.f2.f0, Value.int .i64 t2.f2.f1, Value.string t2.f2.f2] 69 (0, 0))) ⟨HK.out.below (below_alloc (Below.refl _ _) _), Deep.blk_alloc_new w2 _⟩ (fun W hI => ?_)
            clear HI HK
            have HI := Aside0.mk hI
            clear hI
            go_upto_region 12 with fail
            have cu0 : World.cell? _ ⟨w.heap.size + 1 + 1, 0, none⟩ = some (v0) := (blk_cell HI.out.1.2.2.1 0).trans rfl
            have fu0 := blk_frozen HI.out.1.2.2.1 0
            have cu1 : World.cell? _ ⟨w.heap.size + 1 + 1, 1, none⟩ = some (v1) := (blk_cell HI.out.1.2.2.1 1).trans rfl
            have fu1 := blk_frozen HI.out.1.2.2.1 1
            have cu2 : World.cell? _ ⟨w.heap.size + 1 + 1, 2, none⟩ = some (.slice none 0 0) := (blk_cell HI.out.1.2.2.1 2).trans rfl
            have fu2 := blk_frozen HI.out.1.2.2.1 2
            have ct0 : World.cell? _ ⟨w2.heap.size, 0, none⟩ = some (Value.int .i64 t2.f0) := (blk_cell HI.out.2 0).trans rfl
            have ct1 : World.cell? _ ⟨w2.heap.size, 1, none⟩ = some (Value.int .i64 t2.f1) := (blk_cell HI.out.2 1).trans rfl
            have ct2 : World.cell? _ ⟨w2.heap.size, 2, none⟩ = some (Value.int .i64 t2.f2.f0) := (blk_cell HI.out.2 2).trans rfl
            have ct3 : World.cell? _ ⟨w2.heap.size, 3, none⟩ = some (Value.int .i64 t2.f2.f1) := (blk_cell HI.out.2 3).trans rfl
            have ct4 : World.cell? _ ⟨w2.heap.size, 4, none⟩ = some (Value.string t2.f2.f2) := (blk_cell HI.out.2 4).trans rfl
            go_upto_region 15 with (first | ((with_reducible refine gate_dst (N := 50) rfl ?_); refine Kd.R_lit k69 _ 69 ?hg (N := 50) ?hd (xs := ([t2] : List (S69))) (inner := [Value.int .i64 t2.f0, Value.int .i64 t2.f1, Value.int .i64 t2.f2.f0, Value.int .i64 t2.f2.f1, Value.string t2.f2.f2]) (ok := fun _ => True) (okp := fun _ => True) ?hr ?hp (fun _ hk => hk) trivial (Below.refl _ _) (Nat.le_refl _) (by simp) ?_; (case hd => rfl); (case hg => rfl); (case hr => first | (go_simp; done) | (go_simp; rfl)); (case hp => exact (Reps.c5 (show Kd.M k69 _ _ _ t2 [Value.int .i64 t2.f0, Value.int .i64 t2.f1, Value.int .i64 t2.f2.f0, Value.int .i64 t2.f2.f1, Value.string t2.f2.f2] from (k69_mkM _ _ _ t2)) (Reps.none _ _))); intro v9 w9 ho9 hb9 hg_ hnew9; clear hg_; obtain ⟨A9, c9, e9⟩ := Kd.R_slice ho9; subst e9; have HL := Aside0.mk (UI.young HI.out.1 ho9 hnew9 hb9); have HJ := Aside0.mk (HI.out.1.below hb9); clear ho9 hb9 hnew9; clear HI; have fv2 := blk_frozen HJ.out.2.2.1 2; have cv2 : w9.cell? ⟨w.heap.size + 1 + 1, 2, none⟩ = some (.slice none 0 0) := (blk_cell HJ.out.2.2.1 2).trans rfl; clear cu0 cu1 cu2 fu0 fu1 fu2 ct0 ct1 ct2 ct3 ct4))
            refine at_world (fun W => ∃ v2, UI w cx W v0 acc v1 [t1] v2 [t2]) ⟨_, HJ.out.set2 HL.out.1 HL.out.2.1 HL.out.2.2⟩ (fun W hI => ?_)
            obtain ⟨v2, hI⟩ := hI
            clear HJ HL cv2 fv2
            have HI := Aside0.mk (And.intro hI trivial)
            clear hI
            obtain ⟨Av0, cv0, ev0⟩ := Kd.R_slice HI.out.1.2.2.2.1
            subst ev0
            obtain ⟨Av1, cv1, ev1⟩ := Kd.R_slice HI.out.1.2.2.2.2.1
            subst ev1
            obtain ⟨Av2, cv2, ev2⟩ := Kd.R_slice HI.out.1.2.2.2.2.2.1
            subst ev2
            have cu0 : World.cell? _ ⟨w.heap.size + 1 + 1, 0, none⟩ = some ((.slice Av0 acc.length cv0)) := (blk_cell HI.out.1.2.2.1 0).trans rfl
            have fu0 := blk_frozen HI.out.1.2.2.1 0
            have cu1 : World.cell? _ ⟨w.heap.size + 1 + 1, 1, none⟩ = some ((.slice Av1 ([t1] : List S69).length cv1)) := (blk_cell HI.out.1.2.2.1 1).trans rfl
            have fu1 := blk_frozen HI.out.1.2.2.1 1
            have cu2 : World.cell? _ ⟨w.heap.size + 1 + 1, 2, none⟩ = some ((.slice Av2 ([t2] : List S69).length cv2)) := (blk_cell HI.out.1.2.2.1 2).trans rfl
            have fu2 := blk_frozen HI.out.1.2.2.1 2
            have cr0 := blk_frozen HI.out.1.2.1 0
            have cr1 := blk_frozen HI.out.1.2.1 1
            have cr2 := blk_frozen HI.out.1.2.1 2
            have cz0 : World.cell? _ ⟨w.heap.size + 1, 0, none⟩ = some (.slice none 0 0) := (blk_cell HI.out.1.2.1 0).trans rfl
            have cz1 : World.cell? _ ⟨w.heap.size + 1, 1, none⟩ = some (.slice none 0 0) := (blk_cell HI.out.1.2.1 1).trans rfl
            have cz2 : World.cell? _ ⟨w.heap.size + 1, 2, none⟩ = some (.slice none 0 0) := (blk_cell HI.out.1.2.1 2).trans rfl
            go_wp2
            have hput := blk_put (blk_put (blk_put HI.out.1.2.1 0 (.slice Av0 acc.length cv0) rfl) 1 ((.slice Av1 ([t1] : List S69).length cv1)) rfl) 2 ((.slice Av2 ([t2] : List S69).length cv2)) rfl
            refine bodyPost_ret (results_cell_row rfl _ _ (w.heap.size + 1) 77 #[(.slice Av0 acc.length cv0), (.slice Av1 ([t1] : List S69).length cv1), (.slice Av2 ([t2] : List S69).length cv2)] (0, 0) _ rfl hput Try.underlying77 rfl (by kernel_rfl)) rfl ?_
            exact UI.fin HI.out.1 HU.out
          | false =>
            have HU : Aside0 ((r1, r2, r3) = (acc, [t1], [])) := ⟨by simpa using HU1.out⟩
            clear HU1
            go_upto_region 9 with fail
            have cu0 : World.cell? _ ⟨w.heap.size + 1 + 1, 0, none⟩ = some (v0) := (blk_cell HI.out.1.2.2.1 0).trans rfl
            have fu0 := blk_frozen HI.out.1.2.2.1 0
            have cu1 : World.cell? _ ⟨w.heap.size + 1 + 1, 1, none⟩ = some (.slice none 0 0) := (blk_cell HI.out.1.2.2.1 1).trans rfl
            have fu1 := blk_frozen HI.out.1.2.2.1 1
            have cu2 : World.cell? _ ⟨w.heap.size + 1 + 1, 2, none⟩ = some (.slice none 0 0) := (blk_cell HI.out.1.2.2.1 2).trans rfl
            have fu2 := blk_frozen HI.out.1.2.2.1 2
            have ct0 : World.cell? _ ⟨w2.heap.size, 0, none⟩ = some (Value.int .i64 t1.f0) := (blk_cell HI.out.2 0).trans rfl
            have ct1 : World.cell? _ ⟨w2.heap.size, 1, none⟩ = some (Value.int .i64 t1.f1) := (blk_cell HI.out.2 1).trans rfl
            have ct2 : World.cell? _ ⟨w2.heap.size, 2, none⟩ = some (Value.int .i64 t1.f2.f0) := (blk_cell HI.out.2 2).trans rfl
            have ct3 : World.cell? _ ⟨w2.heap.size, 3, none⟩ = some (Value.int .i64 t1.f2.f1) := (blk_cell HI.out.2 3).trans rfl
            have ct4 : World.cell? _ ⟨w2.heap.size, 4, none⟩ = some (Value.string t1.f2.f2) := (blk_cell HI.out.2 4).trans rfl
            go_upto_region 10 with (first | ((with_reducible refine gate_dst (N := 39) rfl ?_); refine Kd.R_lit k69 _ 69 ?hg (N := 39) ?hd (xs := ([t1] : List (S69))) (inner := [Value.int .i64 t1.f0, Value.int .i64 t1.f1, Value.int .i64 t1.f2.f0, Value.int .i64 t1.f2.f1, Value.string t1.f2.f2]) (ok := fun _ => True) (okp := fun _ => True) ?hr ?hp (fun _ hk => hk) trivial (Below.refl _ _) (Nat.le_refl _) (by simp) ?_; (case hd => rfl); (case hg => rfl); (case hr => first | (go_simp; done) | (go_simp; rfl)); (case hp => exact (Reps.c5 (show Kd.M k69 _ _ _ t1 [Value.int .i64 t1.f0, Value.int .i64 t1.f1, Value.int .i64 t1.f2.f0, Value.int .i64 t1.f2.f1, Value.string t1.f2.f2] from (k69_mkM _ _ _ t1)) (Reps.none _ _))); intro v9 w9 ho9 hb9 hg_ hnew9; clear hg_; obtain ⟨A9, c9, e9⟩ := Kd.R_slice ho9; subst e9; have HL := Aside0.mk (Kd.R_lower ho9 (below_size HI.out.1.bel)); have HJ := Aside0.mk (HI.out.1.below hb9); clear ho9 hb9 hnew9; clear HI; have cv0 := (blk_cell HJ.out.2.2.1 0); have fv1 := blk_frozen HJ.out.2.2.1 1; have cv1 : w9.cell? ⟨w.heap.size + 1 + 1, 1, none⟩ = some (.slice none 0 0) := (blk_cell HJ.out.2.2.1 1).trans rfl; clear cv0 cu0 cu1 cu2 fu0 fu1 fu2 ct0 ct1 ct2 ct3 ct4))
            refine at_world (fun W => ∃ v1, UI w cx W v0 acc v1 [t1] (.slice none 0 0) []) ⟨_, HJ.out.set1 HL.out⟩ (fun W hI => ?_)
            obtain ⟨v1, hI⟩ := hI
            clear HJ HL cv1 fv1
            have HI := Aside0.mk (And.intro hI trivial)
            clear hI
            go_upto_region 11 with (first | ((with_reducible refine gate_dst (N := 44) rfl ?_); refine Kd.R_lit (Kd.int .i64) _ 3 ?hg (N := 44) ?hd (xs := ([7, 8] : List Int)) (inner := [.int .i64 7, .int .i64 8]) (ok := fun _ => True) (okp := fun _ => True) ?hr ?hp (fun _ hk => hk) trivial (Below.refl _ _) (Nat.le_refl _) (by simp) ?_; (case hd => rfl); (case hg => rfl); (case hr => first | (go_simp; done) | (go_simp; rfl)); (case hp => exact (Reps.one (show Kd.M (Kd.int .i64) _ _ _ 7 [.int .i64 7] from rfl) (Reps.one (show Kd.M (Kd.int .i64) _ _ _ 8 [.int .i64 8] from rfl) (Reps.none _ _)))); intro v9 w9 ho9 hb9 hg_ hnew_; clear hg_ hnew_; obtain ⟨A9, c9, e9⟩ := Kd.R_slice ho9; subst e9; have HL := Aside0.mk ho9; have HJ := Aside0.mk (HI.out.1.below hb9); clear ho9 hb9) | (go_at_call 51; (with_reducible refine (hcall2 _ _ _ (Kd.C_below HR1.out HJ.out.bel) (Kd.R_reads' HL.out).2.2 (Kd.R_reads' HL.out).2.1).mono ?_); rintro e w2 ⟨rfl, hb2⟩; have HK := Aside0.mk (HJ.out.below hb2); clear hb2 HJ HL))
            refine at_world (fun W => UI w cx W v0 acc v1 [t1] (.slice none 0 0) [] ∧ W.heap[w2.heap.size]? = some (.cells #[Value.int .i64 t2.f0, Value.int .i64 t2.f1, Value.int .i64 t2.f2.f0, Value.int .i64 t2.f2.f1, Value.string t2.f2.f2] 69 (0, 0))) ⟨HK.out.below (below_alloc (Below.refl _ _) _), Deep.blk_alloc_new w2 _⟩ (fun W hI => ?_)
            clear HI HK
            have HI := Aside0.mk hI
            clear hI
            go_upto_region 15 with fail
            obtain ⟨Av0, cv0, ev0⟩ := Kd.R_slice HI.out.1.2.2.2.1
            subst ev0
            obtain ⟨Av1, cv1, ev1⟩ := Kd.R_slice HI.out.1.2.2.2.2.1
            subst ev1
            have cu0 : World.cell? _ ⟨w.heap.size + 1 + 1, 0, none⟩ = some ((.slice Av0 acc.length cv0)) := (blk_cell HI.out.1.2.2.1 0).trans rfl
            have fu0 := blk_frozen HI.out.1.2.2.1 0
            have cu1 : World.cell? _ ⟨w.heap.size + 1 + 1, 1, none⟩ = some ((.slice Av1 ([t1] : List S69).length cv1)) := (blk_cell HI.out.1.2.2.1 1).trans rfl
            have fu1 := blk_frozen HI.out.1.2.2.1 1
            have cu2 : World.cell? _ ⟨w.heap.size + 1 + 1, 2, none⟩ = some ((.slice none 0 0)) := (blk_cell HI.out.1.2.2.1 2).trans rfl
            have fu2 := blk_frozen HI.out.1.2.2.1 2
            have cr0 := blk_frozen HI.out.1.2.1 0
            have cr1 := blk_frozen HI.out.1.2.1 1
            have cr2 := blk_frozen HI.out.1.2.1 2
            have cz0 : World.cell? _ ⟨w.heap.size + 1, 0, none⟩ = some (.slice none 0 0) := (blk_cell HI.out.1.2.1 0).trans rfl
            have cz1 : World.cell? _ ⟨w.heap.size + 1, 1, none⟩ = some (.slice none 0 0) := (blk_cell HI.out.1.2.1 1).trans rfl
            have cz2 : World.cell? _ ⟨w.heap.size + 1, 2, none⟩ = some (.slice none 0 0) := (blk_cell HI.out.1.2.1 2).trans rfl
            go_wp2
            have hput := blk_put (blk_put (blk_put HI.out.1.2.1 0 (.slice Av0 acc.length cv0) rfl) 1 ((.slice Av1 ([t1] : List S69).length cv1)) rfl) 2 ((.slice none 0 0)) rfl
            refine bodyPost_ret (results_cell_row rfl _ _ (w.heap.size + 1) 77 #[(.slice Av0 acc.length cv0), (.slice Av1 ([t1] : List S69).length cv1), (.slice none 0 0)] (0, 0) _ rfl hput Try.underlying77 rfl (by kernel_rfl)) rfl ?_
            exact UI.fin HI.out.1 HU.out
        | false =>
          cases ok2 with
          | true =>
            have HU : Aside0 ((r1, r2, r3) = (acc, [], [t2])) := ⟨by simpa using HU1.out⟩
            clear HU1
            go_upto_region 10 with fail
            go_upto_region 11 with (first | ((with_reducible refine gate_dst (N := 44) rfl ?_); refine Kd.R_lit (Kd.int .i64) _ 3 ?hg (N := 44) ?hd (xs := ([7, 8] : List Int)) (inner := [.int .i64 7, .int .i64 8]) (ok := fun _ => True) (okp := fun _ => True) ?hr ?hp (fun _ hk => hk) trivial (Below.refl _ _) (Nat.le_refl _) (by simp) ?_; (case hd => rfl); (case hg => rfl); (case hr => first | (go_simp; done) | (go_simp; rfl)); (case hp => exact (Reps.one (show Kd.M (Kd.int .i64) _ _ _ 7 [.int .i64 7] from rfl) (Reps.one (show Kd.M (Kd.int .i64) _ _ _ 8 [.int .i64 8] from rfl) (Reps.none _ _)))); intro v9 w9 ho9 hb9 hg_ hnew_; clear hg_ hnew_; obtain ⟨A9, c9, e9⟩ := Kd.R_slice ho9; subst e9; have HL := Aside0.mk ho9; have HJ := Aside0.mk (HI.out.1.below hb9); clear ho9 hb9) | (go_at_call 51; (with_reducible refine (hcall2 _ _ _ (Kd.C_below HR1.out HJ.out.bel) (Kd.R_reads' HL.out).2.2 (Kd.R_reads' HL.out).2.1).mono ?_); rintro e w2 ⟨rfl, hb2⟩; have HK := Aside0.mk (HJ.out.below hb2); clear hb2 HJ HL))
            refine at_world (fun W => UI w cx W v0 acc (.slice none 0 0) [] (.slice none 0 0) [] ∧ W.heap[w2.heap.size]? = some (.cells #[Value.int .i64 t2.f0, Value.int .i64 t2.f1, Value.int .i64 t2.f2.f0, Value.int .i64 t2.f2.f1, Value.string t2.f2.f2] 69 (0, 0))) ⟨HK.out.below (below_alloc (Below.refl _ _) _), Deep.blk_alloc_new w2 _⟩ (fun W hI => ?_)
            clear HI HK
            have HI := Aside0.mk hI
            clear hI
            go_upto_region 12 with fail
            have cu0 : World.cell? _ ⟨w.heap.size + 1 + 1, 0, none⟩ = some (v0) := (blk_cell HI.out.1.2.2.1 0).trans rfl
            have fu0 := blk_frozen HI.out.1.2.2.1 0
            have cu1 : World.cell? _ ⟨w.heap.size + 1 + 1, 1, none⟩ = some ((.slice none 0 0)) := (blk_cell HI.out.1.2.2.1 1).trans rfl
            have fu1 := blk_frozen HI.out.1.2.2.1 1
            have cu2 : World.cell? _ ⟨w.heap.size + 1 + 1, 2, none⟩ = some (.slice none 0 0) := (blk_cell HI.out.1.2.2.1 2).trans rfl
            have fu2 := blk_frozen HI.out.1.2.2.1 2
            have ct0 : World.cell? _ ⟨w2.heap.size, 0, none⟩ = some (Value.int .i64 t2.f0) := (blk_cell HI.out.2 0).trans rfl
            have ct1 : World.cell? _ ⟨w2.heap.size, 1, none⟩ = some (Value.int .i64 t2.f1) := (blk_cell HI.out.2 1).trans rfl
            have ct2 : World.cell? _ ⟨w2.heap.size, 2, none⟩ = some (Value.int .i64 t2.f2.f0) := (blk_cell HI.out.2 2).trans rfl
            have ct3 : World.cell? _ ⟨w2.heap.size, 3, none⟩ = some (Value.int .i64 t2.f2.f1) := (blk_cell HI.out.2 3).trans rfl
            have ct4 : World.cell? _ ⟨w2.heap.size, 4, none⟩ = some (Value.string t2.f2.f2) := (blk_cell HI.out.2 4).trans rfl
            go_upto_region 15 with (first | ((with_reducible refine gate_dst (N := 50) rfl ?_); refine Kd.R_lit k69 _ 69 ?hg (N := 50) ?hd (xs := ([t2] : List (S69))) (inner := [Value.int .i64 t2.f0, Value.int .i64 t2.f1, Value.int .i64 t2.f2.f0, Value.int .i64 t2.f2.f1, Value.string t2.f2.f2]) (ok := fun _ => True) (okp := fun _ => True) ?hr ?hp (fun _ hk => hk) trivial (Below.refl _ _) (Nat.le_refl _) (by simp) ?_; (case hd => rfl); (case hg => rfl); (case hr => first | (go_simp; done) | (go_simp; rfl)); (case hp => exact (Reps.c5 (show Kd.M k69 _ _ _ t2 [Value.int .i64 t2.f0, Value.int .i64 t2.f1, Value.int .i64 t2.f2.f0, Value.int .i64 t2.f2.f1, Value.string t2.f2.f2] from (k69_mkM _ _ _ t2)) (Reps.none _ _))); intro v9 w9 ho9 hb9 hg_ hnew9; clear hg_; obtain ⟨A9, c9, e9⟩ := Kd.R_slice ho9; subst e9; have HL := Aside0.mk (UI.young HI.out.1 ho9 hnew9 hb9); have HJ := Aside0.mk (HI.out.1.below hb9); clear ho9 hb9 hnew9; clear HI; have fv2 := blk_frozen HJ.out.2.2.1 2; have cv2 : w9.cell? ⟨w.heap.size + 1 + 1, 2, none⟩ = some (.slice none 0 0) := (blk_cell HJ.out.2.2.1 2).trans rfl; clear cu0 cu1 cu2 fu0 fu1 fu2 ct0 ct1 ct2 ct3 ct4))
            refine at_world (fun W => ∃ v2, UI w cx W v0 acc (.slice none 0 0) [] v2 [t2]) ⟨_, HJ.out.set2 HL.out.1 HL.out.2.1 HL.out.2.2⟩ (fun W hI => ?_)
            obtain ⟨v2, hI⟩ := hI
            clear HJ HL cv2 fv2
            have HI := Aside0.mk (And.intro hI trivial)
            clear hI
            obtain ⟨Av0, cv0, ev0⟩ := Kd.R_slice HI.out.1.2.2.2.1
            subst ev0
            obtain ⟨Av2, cv2, ev2⟩ := Kd.R_slice HI.out.1.2.2.2.2.2.1
            subst ev2
            have cu0 : World.cell? _ ⟨w.heap.size + 1 + 1, 0, none⟩ = some ((.slice Av0 acc.length cv0)) := (blk_cell HI.out.1.2.2.1 0).trans rfl
            have fu0 := blk_frozen HI.out.1.2.2.1 0
            have cu1 : World.cell? _ ⟨w.heap.size + 1 + 1, 1, none⟩ = some ((.slice none 0 0)) := (blk_cell HI.out.1.2.2.1 1).trans rfl
            have fu1 := blk_frozen HI.out.1.2.2.1 1
            have cu2 : World.cell? _ ⟨w.heap.size + 1 + 1, 2, none⟩ = some ((.slice Av2 ([t2] : List S69).length cv2)) := (blk_cell HI.out.1.2.2.1 2).trans rfl
            have fu2 := blk_frozen HI.out.1.2.2.1 2
            have cr0 := blk_frozen HI.out.1.2.1 0
            have cr1 := blk_frozen HI.out.1.2.1 1
            have cr2 := blk_frozen HI.out.1.2.1 2
            have cz0 : World.cell? _ ⟨w.heap.size + 1, 0, none⟩ = some (.slice none 0 0) := (blk_cell HI.out.1.2.1 0).trans rfl
            have cz1 : World.cell? _ ⟨w.heap.size + 1, 1, none⟩ = some (.slice none 0 0) := (blk_cell HI.out.1.2.1 1).trans rfl
            have cz2 : World.cell? _ ⟨w.heap.size + 1, 2, none⟩ = some (.slice none 0 0) := (blk_cell HI.out.1.2.1 2).trans rfl
            go_wp2
            have hput := blk_put (blk_put (blk_put HI.out.1.2.1 0 (.slice Av0 acc.length cv0) rfl) 1 ((.slice none 0 0)) rfl) 2 ((.slice Av2 ([t2] : List S69).length cv2)) rfl
            refine bodyPost_ret (results_cell_row rfl _ _ (w.heap.size + 1) 77 #[(.slice Av0 acc.length cv0), (.slice none 0 0), (.slice Av2 ([t2] : List S69).length cv2)] (0, 0) _ rfl hput Try.underlying77 rfl (by kernel_rfl)) rfl ?_
            exact UI.fin HI.out.1 HU.out
          | false =>
            have HU : Aside0 ((r1, r2, r3) = (acc, [], [])) := ⟨by simpa using HU1.out⟩
            clear HU1
            go_upto_region 10 with fail
            go_upto_region 11 with (first | ((with_reducible refine gate_dst (N := 44) rfl ?_); refine Kd.R_lit (Kd.int .i64) _ 3 ?hg (N := 44) ?hd (xs := ([7, 8] : List Int)) (inner := [.int .i64 7, .int .i64 8]) (ok := fun _ => True) (okp := fun _ => True) ?hr ?hp (fun _ hk => hk) trivial (Below.refl _ _) (Nat.le_refl _) (by simp) ?_; (case hd => rfl); (case hg => rfl); (case hr => first | (go_simp; done) | (go_simp; rfl)); (case hp => exact (Reps.one (show Kd.M (Kd.int .i64) _ _ _ 7 [.int .i64 7] from rfl) (Reps.one (show Kd.M (Kd.int .i64) _ _ _ 8 [.int .i64 8] from rfl) (Reps.none _ _)))); intro v9 w9 ho9 hb9 hg_ hnew_; clear hg_ hnew_; obtain ⟨A9, c9, e9⟩ := Kd.R_slice ho9; subst e9; have HL := Aside0.mk ho9; have HJ := Aside0.mk (HI.out.1.below hb9); clear ho9 hb9) | (go_at_call 51; (with_reducible refine (hcall2 _ _ _ (Kd.C_below HR1.out HJ.out.bel) (Kd.R_reads' HL.out).2.2 (Kd.R_reads' HL.out).2.1).mono ?_); rintro e w2 ⟨rfl, hb2⟩; have HK := Aside0.mk (HJ.out.below hb2); clear hb2 HJ HL))
            refine at_world (fun W => UI w cx W v0 acc (.slice none 0 0) [] (.slice none 0 0) [] ∧ W.heap[w2.heap.size]? = some (.cells #[Value.int .i64 t2.f0, Value.int .i64 t2.f1, Value.int .i64 t2.f2.f0, Value.int .i64 t2.f2.f1, Value.string t2.f2.f2] 69 (0, 0))) ⟨HK.out.below (below_alloc (Below.refl _ _) _), Deep.blk_alloc_new w2 _⟩ (fun W hI => ?_)
            clear HI HK
            have HI := Aside0.mk hI
            clear hI
            go_upto_region 15 with fail
            obtain ⟨Av0, cv0, ev0⟩ := Kd.R_slice HI.out.1.2.2.2.1
            subst ev0
            have cu0 : World.cell? _ ⟨w.heap.size + 1 + 1, 0, none⟩ = some ((.slice Av0 acc.length cv0)) := (blk_cell HI.out.1.2.2.1 0).trans rfl
            have fu0 := blk_frozen HI.out.1.2.2.1 0
            have cu1 : World.cell? _ ⟨w.heap.size + 1 + 1, 1, none⟩ = some ((.slice none 0 0)) := (blk_cell HI.out.1.2.2.1 1).trans rfl
            have fu1 := blk_frozen HI.out.1.2.2.1 1
            have cu2 : World.cell? _ ⟨w.heap.size + 1 + 1, 2, none⟩ = some ((.slice none 0 0)) := (blk_cell HI.out.1.2.2.1 2).trans rfl
            have fu2 := blk_frozen HI.out.1.2.2.1 2
            have cr0 := blk_frozen HI.out.1.2.1 0
            have cr1 := blk_frozen HI.out.1.2.1 1
            have cr2 := blk_frozen HI.out.1.2.1 2
            have cz0 : World.cell? _ ⟨w.heap.size + 1, 0, none⟩ = some (.slice none 0 0) := (blk_cell HI.out.1.2.1 0).trans rfl
            have cz1 : World.cell? _ ⟨w.heap.size + 1, 1, none⟩ = some (.slice none 0 0) := (blk_cell HI.out.1.2.1 1).trans rfl
            have cz2 : World.cell? _ ⟨w.heap.size + 1, 2, none⟩ = some (.slice none 0 0) := (blk_cell HI.out.1.2.1 2).trans rfl
            go_wp2
            have hput := blk_put (blk_put (blk_put HI.out.1.2.1 0 (.slice Av0 acc.length cv0) rfl) 1 ((.slice none 0 0)) rfl) 2 ((.slice none 0 0)) rfl
            refine bodyPost_ret (results_cell_row rfl _ _ (w.heap.size + 1) 77 #[(.slice Av0 acc.length cv0), (.slice none 0 0), (.slice none 0 0)] (0, 0) _ rfl hput Try.underlying77 rfl (by kernel_rfl)) rfl ?_
            exact UI.fin HI.out.1 HU.out
    · obtain rfl : i = l0_3.length := by omega
      have b0 : decide (l0_3.length < l0_3.length) = false := decide_eq_false hlt
      have b1 : decide ((l0_3.length : Int) < (l0_3.length : Int)) = false := decide_eq_false (by omega)
      have HU : Aside0 ((r1, r2, r3) = (acc, [], [])) := ⟨by have := HA.out.2.2.2; rw [List.drop_length] at this; exact this.symm⟩
      clear hlt
      go_upto_region 15 with fail
      obtain ⟨Av0, cv0, ev0⟩ := Kd.R_slice HI.out.1.2.2.2.1
      subst ev0
      have cu0 : World.cell? _ ⟨w.heap.size + 1 + 1, 0, none⟩ = some ((.slice Av0 acc.length cv0)) := (blk_cell HI.out.1.2.2.1 0).trans rfl
      have fu0 := blk_frozen HI.out.1.2.2.1 0
      have cu1 : World.cell? _ ⟨w.heap.size + 1 + 1, 1, none⟩ = some ((.slice none 0 0)) := (blk_cell HI.out.1.2.2.1 1).trans rfl
      have fu1 := blk_frozen HI.out.1.2.2.1 1
      have cu2 : World.cell? _ ⟨w.heap.size + 1 + 1, 2, none⟩ = some ((.slice none 0 0)) := (blk_cell HI.out.1.2.2.1 2).trans rfl
      have fu2 := blk_frozen HI.out.1.2.2.1 2
      have cr0 := blk_frozen HI.out.1.2.1 0
      have cr1 := blk_frozen HI.out.1.2.1 1
      have cr2 := blk_frozen HI.out.1.2.1 2
      have cz0 : World.cell? _ ⟨w.heap.size + 1, 0, none⟩ = some (.slice none 0 0) := (blk_cell HI.out.1.2.1 0).trans rfl
      have cz1 : World.cell? _ ⟨w.heap.size + 1, 1, none⟩ = some (.slice none 0 0) := (blk_cell HI.out.1.2.1 1).trans rfl
      have cz2 : World.cell? _ ⟨w.heap.size + 1, 2, none⟩ = some (.slice none 0 0) := (blk_cell HI.out.1.2.1 2).trans rfl
      go_wp2
      have hput := blk_put (blk_put (blk_put HI.out.1.2.1 0 (.slice Av0 acc.length cv0) rfl) 1 ((.slice none 0 0)) rfl) 2 ((.slice none 0 0)) rfl
      refine bodyPost_ret (results_cell_row rfl _ _ (w.heap.size + 1) 77 #[(.slice Av0 acc.length cv0), (.slice none 0 0), (.slice none 0 0)] (0, 0) _ rfl hput Try.underlying77 rfl (by kernel_rfl)) rfl ?_
      exact UI.fin HI.out.1 HU.out
end Go.Proofs.Ytmfenomjhmhogaa.P
end
section
namespace Go.Proofs.Ytmfenomjhmhogaa.P
open Go.RowKit Go.Proofs.YtmfenomjhmhogaaW.PrintWords Go.Proofs.YtmfenomjhmhogaaW.PrintLast Go.Proofs.YtmfenomjhmhogaaW.PrintMore
attribute [local go_sem] max2_int min2_int max_two min_two max_three min_three max_four min_four
set_option linter.unusedVariables false
set_option linter.unusedSimpArgs false
def bounds_use_count.f (l0_0 : List (S25)) (l0_1 : List (S69)) (l0_2 : List (S69)) : Option (Int) := some (wrap64 ((wrap64 ((l0_0.length : Int) + (l0_1.length : Int))) + (l0_2.length : Int)))
set_option maxHeartbeats 8000000 in
set_option maxRecDepth 100000 in
theorem bounds_use_count.calls (A0_0 : Option Addr) (c0_0 : Nat) (l0_0 : List (S25)) (A0_1 : Option Addr) (c0_1 : Nat) (l0_1 : List (S69)) (A0_2 : Option Addr) (c0_2 : Nat) (l0_2 : List (S69)) (r : Int) (w : World) (hr0_0 : Kd.C k25 w A0_0 l0_0.length l0_0) (hc0_0 : l0_0.length ≤ c0_0) (hr0_1 : Kd.C k69 w A0_1 l0_1.length l0_1) (hc0_1 : l0_1.length ≤ c0_1) (hr0_2 : Kd.C k69 w A0_2 l0_2.length l0_2) (hc0_2 : l0_2.length ≤ c0_2) (h : bounds_use_count.f l0_0 l0_1 l0_2 = some r) :
  Calls Try.prog 39 #[.agg #[.slice A0_0 l0_0.length c0_0, .slice A0_1 l0_1.length c0_1, .slice A0_2 l0_2.length c0_2]] w fun e w' => e = .returned (.int .i64 r) ∧ Below w.heap.size w w' := by
 have hu77 := Try.underlying77
 have HR0_0 := Aside0.mk hr0_0
 have HC0_0 := Aside0.mk hc0_0
 clear hr0_0 hc0_0
 have HR0_1 := Aside0.mk hr0_1
 have HC0_1 := Aside0.mk hc0_1
 clear hr0_1 hc0_1
 have HR0_2 := Aside0.mk hr0_2
 have HC0_2 := Aside0.mk hc0_2
 clear hr0_2 hc0_2
 have HB := Aside0.mk (Below.refl w.heap.size w)
 have H : (some (wrap64 ((wrap64 ((l0_0.length : Int) + (l0_1.length : Int))) + (l0_2.length : Int)))) = some r := h
 clear h
 obtain rfl := Option.some.inj H
 go_enter Try.func39, Try.ntmps39
 go_wp2_with (first | ((with_reducible refine gate_dst (N := 1) rfl ?_); refine box_event ?hg (N := 1) ?hd (cs := #[.slice A0_0 l0_0.length c0_0, .slice A0_1 l0_1.length c0_1, .slice A0_2 l0_2.length c0_2]) (t := 77) ?hr ?_; (case hd => rfl); (case hg => rfl); (case hr => first | (go_simp; done) | (go_simp; rfl)); intro gb101 hg w2 hbox hb; have n0_ := Aside0.mk (below_step (by repeat (first | (with_reducible first | exact HB.out | apply below_alloc | apply pw_below_drewN | apply below_drew1) | exact HB.out)) hb); have n1_ := Aside0.mk (hbox); have n2_ := Aside0.mk ((by rw [hg]; exact (below_size (by repeat (first | (with_reducible first | exact HB.out | apply below_alloc | apply pw_below_drewN | apply below_drew1) | exact HB.out))) : w.heap.size ≤ gb101)); have n3_ := Aside0.mk ((by rw [hg]; exact (below_size (by repeat (first | (with_reducible first | exact HB.out | apply below_alloc | apply pw_below_drewN | apply below_drew1) | exact HB.out))) : w.heap.size ≤ gb101)); clear HB; have HB := n0_; have BK101 := n1_; have GW101 := n2_; have GE101 := n3_; clear n0_ n1_ n2_ n3_; clear hb hbox hg; have hcz3_0 : w2.cell? ⟨gb101, 0, none⟩ = some (.slice A0_0 l0_0.length c0_0) := (blk_cell BK101.out 0).trans rfl; have hcz3_1 : w2.cell? ⟨gb101, 1, none⟩ = some (.slice A0_1 l0_1.length c0_1) := (blk_cell BK101.out 1).trans rfl; have hcz3_2 : w2.cell? ⟨gb101, 2, none⟩ = some (.slice A0_2 l0_2.length c0_2) := (blk_cell BK101.out 2).trans rfl; have hfz3_0 := blk_frozen BK101.out 0; have hfz3_1 := blk_frozen BK101.out 1; have hfz3_2 := blk_frozen BK101.out 2))
 go_ret
 exact ⟨by first | rfl | (simp [errW_none, errW_some] <;> rfl) | (simp [*, errW_none, errW_some] <;> rfl), by repeat (first | (with_reducible first | exact HB.out | apply below_alloc | apply pw_below_drewN | apply below_drew1 | refine below_set ?_ GE101.out) | exact HB.out)⟩
def bounds_Best.l0 : Nat → List (S69) → Int → Int → List (S41) → Int → Int → Option (Int)
 | 0, _, _, _, _, _, _ => none
 | k + 1, x1, x5, x6, x10, x11, x12 => if x12 < x11 then (if 0 ≤ x12 then (if x12 < (x10.length : Int) then ((bounds_useOf.f ((rd_T41 x10 x12).f0) ((rd_T41 x10 x12).f1) ((rd_T41 x10 x12).f2) ((rd_T41 x10 x12).f3) ((rd_T41 x10 x12).f4) ((rd_T41 x10 x12).f5) x1).bind fun bt104 => ((bounds_use_count.f bt104.1 bt104.2.1 bt104.2.2).bind fun t113 => (if t113 > x6 then (bounds_Best.l0 k x1 x12 t113 x10 x11 (wrap64 (x12 + 1))) else (bounds_Best.l0 k x1 x5 x6 x10 x11 (wrap64 (x12 + 1)))))) else (none)) else (none)) else (some x5)
def bounds_Best.f (k : Nat) (l0 : List (S41)) (l1 : List (S69)) : Option (Int) := bounds_Best.l0 k l1 (-1) 0 l0 (l0.length : Int) 0
set_option maxHeartbeats 8000000 in
set_option maxRecDepth 100000 in
theorem bounds_Best.calls (k : Nat) (A0 : Option Addr) (c0 : Nat) (l0 : List (S41)) (A1 : Option Addr) (c1 : Nat) (l1 : List (S69)) (r : Int) (w : World) (hr0 : Kd.C k41 w A0 l0.length l0) (hc0 : l0.length ≤ c0) (hr1 : Kd.C k69 w A1 l1.length l1) (hc1 : l1.length ≤ c1) (h : bounds_Best.f k l0 l1 = some r) :
  Calls Try.prog 18 #[.slice A0 l0.length c0, .slice A1 l1.length c1] w fun e w' => e = .returned (.int .i64 r) ∧ Below w.heap.size w w' := by
 have hu41 := Try.underlying41
 have HR0 := Aside0.mk hr0
 have HC0 := Aside0.mk hc0
 clear hr0 hc0
 have HR1 := Aside0.mk hr1
 have HC1 := Aside0.mk hc1
 clear hr1 hc1
 have HB := Aside0.mk (Below.refl w.heap.size w)
 have H : (bounds_Best.l0 k l1 (-1) 0 l0 (l0.length : Int) 0) = some r := h
 clear h
 have H' := Aside0.mk H
 clear H
 go_enter Try.func18, Try.ntmps18
 go_wp2
 go_loopg [5, 6, 12] k (fun kq v5 v6 v12 w' => ∃ (x5_1 : Int) (x6_1 : Int) (x12_1 : Int), v5 = .int .i64 x5_1 ∧ v6 = .int .i64 x6_1 ∧ v12 = .int .i64 x12_1 ∧ Aside0 (bounds_Best.l0 kq l1 x5_1 x6_1 l0 (l0.length : Int) x12_1 = some r) ∧ Aside0 (kq ≤ k) ∧ Aside0 (Below w.heap.size w w'))
 case atStart => exact ⟨((-1)), (0), (0), (by first | rfl | (simp; done) | (simp [*]; done)), (by first | rfl | (simp; done) | (simp [*]; done)), (by first | rfl | (simp; done) | (simp [*]; done)), H', ⟨Nat.le_refl _⟩, ⟨by repeat (first | (with_reducible first | exact HB.out | apply below_alloc | apply pw_below_drewN | apply below_drew1) | exact HB.out)⟩⟩
 case round =>
  clear H'
  try clear c1
  try clear p2
  obtain ⟨x5_1, x6_1, x12_1, rfl, rfl, rfl, HA, HK1, HB⟩ := hrel
  cases gk with
  | zero => exact absurd HA.out (by simp [bounds_Best.l0])
  | succ k1 =>
   have H := HA.out
   clear HA
   simp only [bounds_Best.l0] at H
   by_cases c3 : x12_1 < (l0.length : Int)
   ·rw [if_pos c3] at H
    have c3b0 : decide (x12_1 < (l0.length : Int)) = true := decide_eq_true c3
    clear c3
    by_cases c4 : 0 ≤ x12_1
    ·rw [if_pos c4] at H
     have c4b0 : decide (0 ≤ x12_1) = true := decide_eq_true c4
     clear c4
     by_cases c5 : x12_1 < (l0.length : Int)
     ·rw [if_pos c5] at H
      have c5b0 : decide (x12_1 < (l0.length : Int)) = true := decide_eq_true c5
      clear c5
      replace H := Option.bind_eq_some_iff.mp H
      obtain ⟨⟨t104, t107, t110⟩, A60, H⟩ := H
      replace H : ((bounds_use_count.f t104 t107 t110).bind fun t113 => (if t113 > x6_1 then (bounds_Best.l0 k1 l1 x12_1 t113 l0 (l0.length : Int) (wrap64 (x12_1 + 1))) else (bounds_Best.l0 k1 l1 x5_1 x6_1 l0 (l0.length : Int) (wrap64 (x12_1 + 1))))) = some r := H
      have A6 := Aside0.mk A60
      clear A60
      replace H := Option.bind_eq_some_iff.mp H
      obtain ⟨t113, A70, H⟩ := H
      replace H : (if t113 > x6_1 then (bounds_Best.l0 k1 l1 x12_1 t113 l0 (l0.length : Int) (wrap64 (x12_1 + 1))) else (bounds_Best.l0 k1 l1 x5_1 x6_1 l0 (l0.length : Int) (wrap64 (x12_1 + 1)))) = some r := H
      have A7 := Aside0.mk A70
      clear A70
      by_cases c8 : t113 > x6_1
      ·rw [if_pos c8] at H
       have c8b0 : decide (x6_1 < t113) = true := decide_eq_true c8
       clear c8
       have H' := Aside0.mk H
       clear H
       have p102 : 0 ≤ (x12_1 : Int) := of_decide_eq_true (by first | (with_reducible assumption) | assumption)
       have q102 : x12_1 < (l0.length : Int) := of_decide_eq_true (by first | (with_reducible assumption) | assumption)
       obtain ⟨ad102, A102_3, c102_3, A102_4, c102_4, e102, hx102_0, hx102_1, hx102_2, hx102_3, hx102_4, hx102_5, hl102_3, hi102_3, hl102_4, hi102_4⟩ := at_T41 HR0.out x12_1 p102 q102
       cases e102
       replace hx102_0 := (HB.out.cell (World.block_lt_of_cell? w _ hx102_0)).trans hx102_0
       replace hx102_1 := (HB.out.cell (World.block_lt_of_cell? w _ hx102_1)).trans hx102_1
       replace hx102_2 := (HB.out.cell (World.block_lt_of_cell? w _ hx102_2)).trans hx102_2
       replace hx102_3 := (HB.out.cell (World.block_lt_of_cell? w _ hx102_3)).trans hx102_3
       replace hx102_4 := (HB.out.cell (World.block_lt_of_cell? w _ hx102_4)).trans hx102_4
       replace hx102_5 := (HB.out.cell (World.block_lt_of_cell? w _ hx102_5)).trans hx102_5
       have HR102_3 := Aside0.mk hi102_3
       have HC102_3 := Aside0.mk hl102_3
       clear hi102_3 hl102_3
       have HR102_4 := Aside0.mk hi102_4
       have HC102_4 := Aside0.mk hl102_4
       clear hi102_4 hl102_4
       replace p102 := eq_true p102
       replace q102 := eq_true q102
       go_wp2_with (first | ((with_reducible refine gate_dst (N := 8) rfl ?_); refine box_event ?hg (N := 8) ?hd (cs := #[.int .i64 0, .string (⟨#[]⟩ : ByteArray), .string (⟨#[]⟩ : ByteArray), .slice none 0 0, .slice none 0 0, .bool false]) (t := 41) ?hr ?_; (case hd => rfl); (case hg => rfl); (case hr => first | (go_simp; done) | (go_simp; rfl)); intro gb103 hg w9 hbox hb; have n0_ := Aside0.mk (below_step (by repeat (first | (with_reducible first | exact HB.out | apply below_alloc | apply pw_below_drewN | apply below_drew1) | exact HB.out)) hb); have n1_ := Aside0.mk (hbox); have n2_ := Aside0.mk ((by rw [hg]; exact (below_size (by repeat (first | (with_reducible first | exact HB.out | apply below_alloc | apply pw_below_drewN | apply below_drew1) | exact HB.out))) : w.heap.size ≤ gb103)); have n3_ := Aside0.mk ((by rw [hg]; exact (below_size (by repeat (first | (with_reducible first | exact HB.out | apply below_alloc | apply pw_below_drewN | apply below_drew1) | exact HB.out))) : w.heap.size ≤ gb103)); clear HB; have HB := n0_; have BK103 := n1_; have GW103 := n2_; have GE103 := n3_; clear n0_ n1_ n2_ n3_; clear hb hbox hg; have hcz10_0 : w9.cell? ⟨gb103, 0, none⟩ = some (.int .i64 0) := (blk_cell BK103.out 0).trans rfl; have hcz10_1 : w9.cell? ⟨gb103, 1, none⟩ = some (.string (⟨#[]⟩ : ByteArray)) := (blk_cell BK103.out 1).trans rfl; have hcz10_2 : w9.cell? ⟨gb103, 2, none⟩ = some (.string (⟨#[]⟩ : ByteArray)) := (blk_cell BK103.out 2).trans rfl; have hcz10_3 : w9.cell? ⟨gb103, 3, none⟩ = some (.slice none 0 0) := (blk_cell BK103.out 3).trans rfl; have hcz10_4 : w9.cell? ⟨gb103, 4, none⟩ = some (.slice none 0 0) := (blk_cell BK103.out 4).trans rfl; have hcz10_5 : w9.cell? ⟨gb103, 5, none⟩ = some (.bool false) := (blk_cell BK103.out 5).trans rfl; have hfz10_0 := blk_frozen BK103.out 0; have hfz10_1 := blk_frozen BK103.out 1; have hfz10_2 := blk_frozen BK103.out 2; have hfz10_3 := blk_frozen BK103.out 3; have hfz10_4 := blk_frozen BK103.out 4; have hfz10_5 := blk_frozen BK103.out 5) | ((with_reducible refine gate_callee (f := 31) rfl ?_); refine goesL_ (some 19) rfl rfl Try.func31 (by kernel_rfl) rfl #[.agg #[.int .i64 ((rd_T41 l0 x12_1).f0), .string ((rd_T41 l0 x12_1).f1), .string ((rd_T41 l0 x12_1).f2), .slice A102_3 ((rd_T41 l0 x12_1).f3).length c102_3, .slice A102_4 ((rd_T41 l0 x12_1).f4).length c102_4, .bool ((rd_T41 l0 x12_1).f5)], .slice A1 l1.length c1] rfl (by (try simp only [List.map_toArray, List.map_cons, List.map_nil]); first | done | rfl | (simp only [List.length_drop, List.length_take]; rfl)) ?_; (with_reducible refine (bounds_useOf.calls ((rd_T41 l0 x12_1).f0) ((rd_T41 l0 x12_1).f1) ((rd_T41 l0 x12_1).f2) _ _ ((rd_T41 l0 x12_1).f3) _ _ ((rd_T41 l0 x12_1).f4) ((rd_T41 l0 x12_1).f5) _ _ l1 t104 t107 t110 _ ?side1 ?side2 ?side3 ?side4 ?side5 ?side6 A6.out).mono ?_); (case side1 => exact Kd.C_below HR102_3.out (by repeat (first | (with_reducible first | exact HB.out | apply below_alloc | apply pw_below_drewN | apply below_drew1 | refine below_set ?_ GE103.out) | exact HB.out))); (case side2 => exact HC102_3.out); (case side3 => exact Kd.C_below HR102_4.out (by repeat (first | (with_reducible first | exact HB.out | apply below_alloc | apply pw_below_drewN | apply below_drew1 | refine below_set ?_ GE103.out) | exact HB.out))); (case side4 => exact HC102_4.out); (case side5 => exact Kd.C_below HR1.out (by repeat (first | (with_reducible first | exact HB.out | apply below_alloc | apply pw_below_drewN | apply below_drew1 | refine below_set ?_ GE103.out) | exact HB.out))); (case side6 => exact HC1.out); rintro e w11 ⟨v105, v108, v111, rfl, ho0, ho1, ho2, hb⟩; refine ⟨_, rfl, ?_⟩; have n0_ := Aside0.mk (Kd.R_lower ho0 (below_size (by repeat (first | (with_reducible first | exact HB.out | apply below_alloc | apply pw_below_drewN | apply below_drew1 | refine below_set ?_ GE103.out) | exact HB.out)))); have n1_ := Aside0.mk (Kd.R_lower ho1 (below_size (by repeat (first | (with_reducible first | exact HB.out | apply below_alloc | apply pw_below_drewN | apply below_drew1 | refine below_set ?_ GE103.out) | exact HB.out)))); have n2_ := Aside0.mk (Kd.R_lower ho2 (below_size (by repeat (first | (with_reducible first | exact HB.out | apply below_alloc | apply pw_below_drewN | apply below_drew1 | refine below_set ?_ GE103.out) | exact HB.out)))); have n3_ := Aside0.mk (blk_below (g := gb103) (o := .cells #[.int .i64 ((rd_T41 l0 x12_1).f0), .string ((rd_T41 l0 x12_1).f1), .string ((rd_T41 l0 x12_1).f2), .slice A102_3 ((rd_T41 l0 x12_1).f3).length c102_3, .slice A102_4 ((rd_T41 l0 x12_1).f4).length c102_4, .bool ((rd_T41 l0 x12_1).f5)] 41 (0, 0)) (by (with_reducible repeat (first | refine blk_drewN ?_ _ | refine blk_drew ?_ | refine blk_alloc ?_ _)); refine blk_put (cs := #[.int .i64 ((rd_T41 l0 x12_1).f0), .string ((rd_T41 l0 x12_1).f1), .string ((rd_T41 l0 x12_1).f2), .slice A102_3 ((rd_T41 l0 x12_1).f3).length c102_3, .slice A102_4 ((rd_T41 l0 x12_1).f4).length c102_4, .bool false]) ?_ 5 _ rfl; (with_reducible repeat (first | refine blk_drewN ?_ _ | refine blk_drew ?_ | refine blk_alloc ?_ _)); refine blk_put (cs := #[.int .i64 ((rd_T41 l0 x12_1).f0), .string ((rd_T41 l0 x12_1).f1), .string ((rd_T41 l0 x12_1).f2), .slice A102_3 ((rd_T41 l0 x12_1).f3).length c102_3, .slice none 0 0, .bool false]) ?_ 4 _ rfl; (with_reducible repeat (first | refine blk_drewN ?_ _ | refine blk_drew ?_ | refine blk_alloc ?_ _)); refine blk_put (cs := #[.int .i64 ((rd_T41 l0 x12_1).f0), .string ((rd_T41 l0 x12_1).f1), .string ((rd_T41 l0 x12_1).f2), .slice none 0 0, .slice none 0 0, .bool false]) ?_ 3 _ rfl; (with_reducible repeat (first | refine blk_drewN ?_ _ | refine blk_drew ?_ | refine blk_alloc ?_ _)); refine blk_put (cs := #[.int .i64 ((rd_T41 l0 x12_1).f0), .string ((rd_T41 l0 x12_1).f1), .string (⟨#[]⟩ : ByteArray), .slice none 0 0, .slice none 0 0, .bool false]) ?_ 2 _ rfl; (with_reducible repeat (first | refine blk_drewN ?_ _ | refine blk_drew ?_ | refine blk_alloc ?_ _)); refine blk_put (cs := #[.int .i64 ((rd_T41 l0 x12_1).f0), .string (⟨#[]⟩ : ByteArray), .string (⟨#[]⟩ : ByteArray), .slice none 0 0, .slice none 0 0, .bool false]) ?_ 1 _ rfl; (with_reducible repeat (first | refine blk_drewN ?_ _ | refine blk_drew ?_ | refine blk_alloc ?_ _)); refine blk_put (cs := #[.int .i64 0, .string (⟨#[]⟩ : ByteArray), .string (⟨#[]⟩ : ByteArray), .slice none 0 0, .slice none 0 0, .bool false]) ?_ 0 _ rfl; (with_reducible repeat (first | refine blk_drewN ?_ _ | refine blk_drew ?_ | refine blk_alloc ?_ _)); exact BK103.out) hb); have n4_ := Aside0.mk (below_step (by repeat (first | (with_reducible first | exact HB.out | apply below_alloc | apply pw_below_drewN | apply below_drew1 | refine below_set ?_ GE103.out) | exact HB.out)) hb); clear BK103; clear HB; have HO106 := n0_; have HO109 := n1_; have HO112 := n2_; have BK103 := n3_; have HB := n4_; clear n0_ n1_ n2_ n3_ n4_; (try clear hb); (try clear hb2); (try clear hk); (try clear hi); (try clear ho0); (try clear ho1); (try clear ho2); obtain ⟨Ao12, co12, eo12⟩ := Kd.R_slice HO106.out; subst eo12; obtain ⟨Ao13, co13, eo13⟩ := Kd.R_slice HO109.out; subst eo13; obtain ⟨Ao14, co14, eo14⟩ := Kd.R_slice HO112.out; subst eo14) | ((with_reducible refine gate_callee (f := 39) rfl ?_); refine goesL_ (some 20) rfl rfl Try.func39 (by kernel_rfl) rfl #[.agg #[.slice Ao12 t104.length co12, .slice Ao13 t107.length co13, .slice Ao14 t110.length co14]] rfl (by (try simp only [List.map_toArray, List.map_cons, List.map_nil]); first | done | rfl | (simp only [List.length_drop, List.length_take]; rfl)) ?_; (with_reducible refine (bounds_use_count.calls _ _ t104 _ _ t107 _ _ t110 t113 _ ?side1 ?side2 ?side3 ?side4 ?side5 ?side6 A7.out).mono ?_); (case side1 => repeat (first | exact (Kd.R_reads' HO106.out).2.2 | (with_reducible refine Kd.C_alloc ?_ _) | (with_reducible refine Kd.C_drewN ?_ _) | (with_reducible refine Kd.C_drew ?_))); (case side2 => exact (Kd.R_reads' HO106.out).2.1); (case side3 => repeat (first | exact (Kd.R_reads' HO109.out).2.2 | (with_reducible refine Kd.C_alloc ?_ _) | (with_reducible refine Kd.C_drewN ?_ _) | (with_reducible refine Kd.C_drew ?_))); (case side4 => exact (Kd.R_reads' HO109.out).2.1); (case side5 => repeat (first | exact (Kd.R_reads' HO112.out).2.2 | (with_reducible refine Kd.C_alloc ?_ _) | (with_reducible refine Kd.C_drewN ?_ _) | (with_reducible refine Kd.C_drew ?_))); (case side6 => exact (Kd.R_reads' HO112.out).2.1); rintro e w15 ⟨rfl, hb⟩; refine ⟨_, rfl, ?_⟩; have n0_ := Aside0.mk (Kd.R_below (by (with_reducible repeat (first | apply Kd.R_alloc | apply Kd.R_drewN | apply Kd.R_drew)); exact HO106.out) hb); have n1_ := Aside0.mk (Kd.R_below (by (with_reducible repeat (first | apply Kd.R_alloc | apply Kd.R_drewN | apply Kd.R_drew)); exact HO109.out) hb); have n2_ := Aside0.mk (Kd.R_below (by (with_reducible repeat (first | apply Kd.R_alloc | apply Kd.R_drewN | apply Kd.R_drew)); exact HO112.out) hb); have n3_ := Aside0.mk (blk_below (g := gb103) (o := .cells #[.int .i64 ((rd_T41 l0 x12_1).f0), .string ((rd_T41 l0 x12_1).f1), .string ((rd_T41 l0 x12_1).f2), .slice A102_3 ((rd_T41 l0 x12_1).f3).length c102_3, .slice A102_4 ((rd_T41 l0 x12_1).f4).length c102_4, .bool ((rd_T41 l0 x12_1).f5)] 41 (0, 0)) (bk_ BK103) hb); have n4_ := Aside0.mk (below_step (by repeat (first | (with_reducible first | exact HB.out | apply below_alloc | apply pw_below_drewN | apply below_drew1 | refine below_set ?_ GE103.out) | exact HB.out)) hb); clear HO106; clear HO109; clear HO112; clear BK103; clear HB; have HO106 := n0_; have HO109 := n1_; have HO112 := n2_; have BK103 := n3_; have HB := n4_; clear n0_ n1_ n2_ n3_ n4_; (try clear hb); (try clear hb2); (try clear hk); (try clear hi)))
       go_roundg k1
       case measure => have := HK1.out; omega
       case rel => exact ⟨(x12_1), (t113), (wrap64 (x12_1 + 1)), (by first | rfl | (simp; done) | (simp [*]; done)), (by first | rfl | (simp; done) | (simp [*]; done)), (by first | rfl | (simp; done) | (simp [*]; done)), H', ⟨by have := HK1.out; omega⟩, ⟨by repeat (first | (with_reducible first | exact HB.out | apply below_alloc | apply pw_below_drewN | apply below_drew1 | refine below_set ?_ GE103.out) | exact HB.out)⟩⟩
      ·rw [if_neg c8] at H
       have c8b0 : decide (x6_1 < t113) = false := decide_eq_false c8
       clear c8
       have H' := Aside0.mk H
       clear H
       have p102 : 0 ≤ (x12_1 : Int) := of_decide_eq_true (by first | (with_reducible assumption) | assumption)
       have q102 : x12_1 < (l0.length : Int) := of_decide_eq_true (by first | (with_reducible assumption) | assumption)
       obtain ⟨ad102, A102_3, c102_3, A102_4, c102_4, e102, hx102_0, hx102_1, hx102_2, hx102_3, hx102_4, hx102_5, hl102_3, hi102_3, hl102_4, hi102_4⟩ := at_T41 HR0.out x12_1 p102 q102
       cases e102
       replace hx102_0 := (HB.out.cell (World.block_lt_of_cell? w _ hx102_0)).trans hx102_0
       replace hx102_1 := (HB.out.cell (World.block_lt_of_cell? w _ hx102_1)).trans hx102_1
       replace hx102_2 := (HB.out.cell (World.block_lt_of_cell? w _ hx102_2)).trans hx102_2
       replace hx102_3 := (HB.out.cell (World.block_lt_of_cell? w _ hx102_3)).trans hx102_3
       replace hx102_4 := (HB.out.cell (World.block_lt_of_cell? w _ hx102_4)).trans hx102_4
       replace hx102_5 := (HB.out.cell (World.block_lt_of_cell? w _ hx102_5)).trans hx102_5
       have HR102_3 := Aside0.mk hi102_3
       have HC102_3 := Aside0.mk hl102_3
       clear hi102_3 hl102_3
       have HR102_4 := Aside0.mk hi102_4
       have HC102_4 := Aside0.mk hl102_4
       clear hi102_4 hl102_4
       replace p102 := eq_true p102
       replace q102 := eq_true q102
       go_wp2_with (first | ((with_reducible refine gate_dst (N := 8) rfl ?_); refine box_event ?hg (N := 8) ?hd (cs := #[.int .i64 0, .string (⟨#[]⟩ : ByteArray), .string (⟨#[]⟩ : ByteArray), .slice none 0 0, .slice none 0 0, .bool false]) (t := 41) ?hr ?_; (case hd => rfl); (case hg => rfl); (case hr => first | (go_simp; done) | (go_simp; rfl)); intro gb103 hg w16 hbox hb; have n0_ := Aside0.mk (below_step (by repeat (first | (with_reducible first | exact HB.out | apply below_alloc | apply pw_below_drewN | apply below_drew1) | exact HB.out)) hb); have n1_ := Aside0.mk (hbox); have n2_ := Aside0.mk ((by rw [hg]; exact (below_size (by repeat (first | (with_reducible first | exact HB.out | apply below_alloc | apply pw_below_drewN | apply below_drew1) | exact HB.out))) : w.heap.size ≤ gb103)); have n3_ := Aside0.mk ((by rw [hg]; exact (below_size (by repeat (first | (with_reducible first | exact HB.out | apply below_alloc | apply pw_below_drewN | apply below_drew1) | exact HB.out))) : w.heap.size ≤ gb103)); clear HB; have HB := n0_; have BK103 := n1_; have GW103 := n2_; have GE103 := n3_; clear n0_ n1_ n2_ n3_; clear hb hbox hg; have hcz17_0 : w16.cell? ⟨gb103, 0, none⟩ = some (.int .i64 0) := (blk_cell BK103.out 0).trans rfl; have hcz17_1 : w16.cell? ⟨gb103, 1, none⟩ = some (.string (⟨#[]⟩ : ByteArray)) := (blk_cell BK103.out 1).trans rfl; have hcz17_2 : w16.cell? ⟨gb103, 2, none⟩ = some (.string (⟨#[]⟩ : ByteArray)) := (blk_cell BK103.out 2).trans rfl; have hcz17_3 : w16.cell? ⟨gb103, 3, none⟩ = some (.slice none 0 0) := (blk_cell BK103.out 3).trans rfl; have hcz17_4 : w16.cell? ⟨gb103, 4, none⟩ = some (.slice none 0 0) := (blk_cell BK103.out 4).trans rfl; have hcz17_5 : w16.cell? ⟨gb103, 5, none⟩ = some (.bool false) := (blk_cell BK103.out 5).trans rfl; have hfz17_0 := blk_frozen BK103.out 0; have hfz17_1 := blk_frozen BK103.out 1; have hfz17_2 := blk_frozen BK103.out 2; have hfz17_3 := blk_frozen BK103.out 3; have hfz17_4 := blk_frozen BK103.out 4; have hfz17_5 := blk_frozen BK103.out 5) | ((with_reducible refine gate_callee (f := 31) rfl ?_); refine goesL_ (some 19) rfl rfl Try.func31 (by kernel_rfl) rfl #[.agg #[.int .i64 ((rd_T41 l0 x12_1).f0), .string ((rd_T41 l0 x12_1).f1), .string ((rd_T41 l0 x12_1).f2), .slice A102_3 ((rd_T41 l0 x12_1).f3).length c102_3, .slice A102_4 ((rd_T41 l0 x12_1).f4).length c102_4, .bool ((rd_T41 l0 x12_1).f5)], .slice A1 l1.length c1] rfl (by (try simp only [List.map_toArray, List.map_cons, List.map_nil]); first | done | rfl | (simp only [List.length_drop, List.length_take]; rfl)) ?_; (with_reducible refine (bounds_useOf.calls ((rd_T41 l0 x12_1).f0) ((rd_T41 l0 x12_1).f1) ((rd_T41 l0 x12_1).f2) _ _ ((rd_T41 l0 x12_1).f3) _ _ ((rd_T41 l0 x12_1).f4) ((rd_T41 l0 x12_1).f5) _ _ l1 t104 t107 t110 _ ?side1 ?side2 ?side3 ?side4 ?side5 ?side6 A6.out).mono ?_); (case side1 => exact Kd.C_below HR102_3.out (by repeat (first | (with_reducible first | exact HB.out | apply below_alloc | apply pw_below_drewN | apply below_drew1 | refine below_set ?_ GE103.out) | exact HB.out))); (case side2 => exact HC102_3.out); (case side3 => exact Kd.C_below HR102_4.out (by repeat (first | (with_reducible first | exact HB.out | apply below_alloc | apply pw_below_drewN | apply below_drew1 | refine below_set ?_ GE103.out) | exact HB.out))); (case side4 => exact HC102_4.out); (case side5 => exact Kd.C_below HR1.out (by repeat (first | (with_reducible first | exact HB.out | apply below_alloc | apply pw_below_drewN | apply below_drew1 | refine below_set ?_ GE103.out) | exact HB.out))); (case side6 => exact HC1.out); rintro e w18 ⟨v105, v108, v111, rfl, ho0, ho1, ho2, hb⟩; refine ⟨_, rfl, ?_⟩; have n0_ := Aside0.mk (Kd.R_lower ho0 (below_size (by repeat (first | (with_reducible first | exact HB.out | apply below_alloc | apply pw_below_drewN | apply below_drew1 | refine below_set ?_ GE103.out) | exact HB.out)))); have n1_ := Aside0.mk (Kd.R_lower ho1 (below_size (by repeat (first | (with_reducible first | exact HB.out | apply below_alloc | apply pw_below_drewN | apply below_drew1 | refine below_set ?_ GE103.out) | exact HB.out)))); have n2_ := Aside0.mk (Kd.R_lower ho2 (below_size (by repeat (first | (with_reducible first | exact HB.out | apply below_alloc | apply pw_below_drewN | apply below_drew1 | refine below_set ?_ GE103.out) | exact HB.out)))); have n3_ := Aside0.mk (blk_below (g := gb103) (o := .cells #[.int .i64 ((rd_T41 l0 x12_1).f0), .string ((rd_T41 l0 x12_1).f1), .string ((rd_T41 l0 x12_1).f2), .slice A102_3 ((rd_T41 l0 x12_1).f3).length c102_3, .slice A102_4 ((rd_T41 l0 x12_1).f4).length c102_4, .bool ((rd_T41 l0 x12_1).f5)] 41 (0, 0)) (by (with_reducible repeat (first | refine blk_drewN ?_ _ | refine blk_drew ?_ | refine blk_alloc ?_ _)); refine blk_put (cs := #[.int .i64 ((rd_T41 l0 x12_1).f0), .string ((rd_T41 l0 x12_1).f1), .string ((rd_T41 l0 x12_1).f2), .slice A102_3 ((rd_T41 l0 x12_1).f3).length c102_3, .slice A102_4 ((rd_T41 l0 x12_1).f4).length c102_4, .bool false]) ?_ 5 _ rfl; (with_reducible repeat (first | refine blk_drewN ?_ _ | refine blk_drew ?_ | refine blk_alloc ?_ _)); refine blk_put (cs := #[.int .i64 ((rd_T41 l0 x12_1).f0), .string ((rd_T41 l0 x12_1).f1), .string ((rd_T41 l0 x12_1).f2), .slice A102_3 ((rd_T41 l0 x12_1).f3).length c102_3, .slice none 0 0, .bool false]) ?_ 4 _ rfl; (with_reducible repeat (first | refine blk_drewN ?_ _ | refine blk_drew ?_ | refine blk_alloc ?_ _)); refine blk_put (cs := #[.int .i64 ((rd_T41 l0 x12_1).f0), .string ((rd_T41 l0 x12_1).f1), .string ((rd_T41 l0 x12_1).f2), .slice none 0 0, .slice none 0 0, .bool false]) ?_ 3 _ rfl; (with_reducible repeat (first | refine blk_drewN ?_ _ | refine blk_drew ?_ | refine blk_alloc ?_ _)); refine blk_put (cs := #[.int .i64 ((rd_T41 l0 x12_1).f0), .string ((rd_T41 l0 x12_1).f1), .string (⟨#[]⟩ : ByteArray), .slice none 0 0, .slice none 0 0, .bool false]) ?_ 2 _ rfl; (with_reducible repeat (first | refine blk_drewN ?_ _ | refine blk_drew ?_ | refine blk_alloc ?_ _)); refine blk_put (cs := #[.int .i64 ((rd_T41 l0 x12_1).f0), .string (⟨#[]⟩ : ByteArray), .string (⟨#[]⟩ : ByteArray), .slice none 0 0, .slice none 0 0, .bool false]) ?_ 1 _ rfl; (with_reducible repeat (first | refine blk_drewN ?_ _ | refine blk_drew ?_ | refine blk_alloc ?_ _)); refine blk_put (cs := #[.int .i64 0, .string (⟨#[]⟩ : ByteArray), .string (⟨#[]⟩ : ByteArray), .slice none 0 0, .slice none 0 0, .bool false]) ?_ 0 _ rfl; (with_reducible repeat (first | refine blk_drewN ?_ _ | refine blk_drew ?_ | refine blk_alloc ?_ _)); exact BK103.out) hb); have n4_ := Aside0.mk (below_step (by repeat (first | (with_reducible first | exact HB.out | apply below_alloc | apply pw_below_drewN | apply below_drew1 | refine below_set ?_ GE103.out) | exact HB.out)) hb); clear BK103; clear HB; have HO106 := n0_; have HO109 := n1_; have HO112 := n2_; have BK103 := n3_; have HB := n4_; clear n0_ n1_ n2_ n3_ n4_; (try clear hb); (try clear hb2); (try clear hk); (try clear hi); (try clear ho0); (try clear ho1); (try clear ho2); obtain ⟨Ao19, co19, eo19⟩ := Kd.R_slice HO106.out; subst eo19; obtain ⟨Ao20, co20, eo20⟩ := Kd.R_slice HO109.out; subst eo20; obtain ⟨Ao21, co21, eo21⟩ := Kd.R_slice HO112.out; subst eo21) | ((with_reducible refine gate_callee (f := 39) rfl ?_); refine goesL_ (some 20) rfl rfl Try.func39 (by kernel_rfl) rfl #[.agg #[.slice Ao19 t104.length co19, .slice Ao20 t107.length co20, .slice Ao21 t110.length co21]] rfl (by (try simp only [List.map_toArray, List.map_cons, List.map_nil]); first | done | rfl | (simp only [List.length_drop, List.length_take]; rfl)) ?_; (with_reducible refine (bounds_use_count.calls _ _ t104 _ _ t107 _ _ t110 t113 _ ?side1 ?side2 ?side3 ?side4 ?side5 ?side6 A7.out).mono ?_); (case side1 => repeat (first | exact (Kd.R_reads' HO106.out).2.2 | (with_reducible refine Kd.C_alloc ?_ _) | (with_reducible refine Kd.C_drewN ?_ _) | (with_reducible refine Kd.C_drew ?_))); (case side2 => exact (Kd.R_reads' HO106.out).2.1); (case side3 => repeat (first | exact (Kd.R_reads' HO109.out).2.2 | (with_reducible refine Kd.C_alloc ?_ _) | (with_reducible refine Kd.C_drewN ?_ _) | (with_reducible refine Kd.C_drew ?_))); (case side4 => exact (Kd.R_reads' HO109.out).2.1); (case side5 => repeat (first | exact (Kd.R_reads' HO112.out).2.2 | (with_reducible refine Kd.C_alloc ?_ _) | (with_reducible refine Kd.C_drewN ?_ _) | (with_reducible refine Kd.C_drew ?_))); (case side6 => exact (Kd.R_reads' HO112.out).2.1); rintro e w22 ⟨rfl, hb⟩; refine ⟨_, rfl, ?_⟩; have n0_ := Aside0.mk (Kd.R_below (by (with_reducible repeat (first | apply Kd.R_alloc | apply Kd.R_drewN | apply Kd.R_drew)); exact HO106.out) hb); have n1_ := Aside0.mk (Kd.R_below (by (with_reducible repeat (first | apply Kd.R_alloc | apply Kd.R_drewN | apply Kd.R_drew)); exact HO109.out) hb); have n2_ := Aside0.mk (Kd.R_below (by (with_reducible repeat (first | apply Kd.R_alloc | apply Kd.R_drewN | apply Kd.R_drew)); exact HO112.out) hb); have n3_ := Aside0.mk (blk_below (g := gb103) (o := .cells #[.int .i64 ((rd_T41 l0 x12_1).f0), .string ((rd_T41 l0 x12_1).f1), .string ((rd_T41 l0 x12_1).f2), .slice A102_3 ((rd_T41 l0 x12_1).f3).length c102_3, .slice A102_4 ((rd_T41 l0 x12_1).f4).length c102_4, .bool ((rd_T41 l0 x12_1).f5)] 41 (0, 0)) (bk_ BK103) hb); have n4_ := Aside0.mk (below_step (by repeat (first | (with_reducible first | exact HB.out | apply below_alloc | apply pw_below_drewN | apply below_drew1 | refine below_set ?_ GE103.out) | exact HB.out)) hb); clear HO106; clear HO109; clear HO112; clear BK103; clear HB; have HO106 := n0_; have HO109 := n1_; have HO112 := n2_; have BK103 := n3_; have HB := n4_; clear n0_ n1_ n2_ n3_ n4_; (try clear hb); (try clear hb2); (try clear hk); (try clear hi)))
       go_roundg k1
       case measure => have := HK1.out; omega
       case rel => exact ⟨(x5_1), (x6_1), (wrap64 (x12_1 + 1)), (by first | rfl | (simp; done) | (simp [*]; done)), (by first | rfl | (simp; done) | (simp [*]; done)), (by first | rfl | (simp; done) | (simp [*]; done)), H', ⟨by have := HK1.out; omega⟩, ⟨by repeat (first | (with_reducible first | exact HB.out | apply below_alloc | apply pw_below_drewN | apply below_drew1 | refine below_set ?_ GE103.out) | exact HB.out)⟩⟩
     ·rw [if_neg c5] at H
      exact absurd H (by simp)
    ·rw [if_neg c4] at H
     exact absurd H (by simp)
   ·rw [if_neg c3] at H
    have c3b0 : decide (x12_1 < (l0.length : Int)) = false := decide_eq_false c3
    clear c3
    obtain rfl := Option.some.inj H
    go_wp2
    go_ret
    exact ⟨by first | rfl | (simp [errW_none, errW_some] <;> rfl) | (simp [*, errW_none, errW_some] <;> rfl), by repeat (first | (with_reducible first | exact HB.out | apply below_alloc | apply pw_below_drewN | apply below_drew1) | exact HB.out)⟩
end Go.Proofs.Ytmfenomjhmhogaa.P
end
section
namespace Go.Proofs.Ytmfenomjhmhogaa.P
open Go.RowKit Go.Proofs.YtmfenomjhmhogaaW.PrintWords Go.Proofs.YtmfenomjhmhogaaW.PrintLast Go.Proofs.YtmfenomjhmhogaaW.PrintMore
attribute [local go_sem] max2_int min2_int max_two min_two max_three min_three max_four min_four
set_option linter.unusedVariables false
set_option linter.unusedSimpArgs false
def chkV (a b : Int) (c : ByteArray) : Int :=
 if a = 0 then (if b = 0 ∧ c.toList = [] then 0 else 3)
 else if a = 1 then (if (b = 0 ∨ b = 1) ∧ c.toList = [] then 0 else 3)
 else if a = 2 then (if c.toList = [] then 0 else 3)
 else if a = 3 ∨ a = 4 then (if b = 0 then 0 else 3)
 else 5
def value_Check.f (a0_0 : Int) (a0_1 : Int) (a0_2 : ByteArray) : Option (Int) := some (chkV a0_0 a0_1 a0_2)
theorem eqV (d : Nat) (w : World) (x0 y0 : Int) (x1 y1 : Int) (x2 y2 : ByteArray) :
  (Op.equalIn (d + 2) 25 (.agg #[.int .i64 x0, .int .i64 x1, .string x2]) (.agg #[.int .i64 y0, .int .i64 y1, .string y2])).run Try.prog w = .ok (x0 == y0 && (x1 == y1 && (x2.toList == y2.toList))) w := by
 refine eqA_of Try.underlying25 (by kernel_rfl) ?_
 refine eqf_cons (by rfl) (by go_simp; rfl) (by go_simp; rfl) (by go_simp) ?_
 refine eqf_cons (by rfl) (by go_simp; rfl) (by go_simp; rfl) (by go_simp) ?_
 exact eqf_last (by rfl) (by go_simp; rfl) (by go_simp; rfl) (by go_simp)
attribute [local go_sem high] eqV
set_option maxHeartbeats 2000000 in
set_option maxRecDepth 100000 in
theorem value_Check.z1 (a b : Int) (c : ByteArray) (w : World) (ha : a = 0) (hb : b = 0) (he : c.toList = []) :
  Calls Try.prog 49 #[.agg #[.int .i64 a, .int .i64 b, .string c]] w fun e w' => e = .returned (.int .i64 0) ∧ Below w.heap.size w w' := by
 have hu38 := Try.underlying25
 have k0 : (a == 0) = true := beq_iff_eq.mpr ha
 have b0 : (b == 0) = true := beq_iff_eq.mpr hb
 have b1 : (b == 1) = false := beq_eq_false_iff_ne.mpr (by omega)
 have e0 : c.toList.isEmpty = true := List.isEmpty_iff.2 he
 have e1 : (c.toList == ([] : List UInt8)) = true := beq_iff_eq.mpr he
 have n0 : (b != 0) = false := by rw [bne, b0]; rfl
 have n1 : (b != 1) = true := by rw [bne, b1]; rfl
 have e2 : (c.toList != ([] : List UInt8)) = false := by rw [bne, e1]; rfl
 clear ha hb he
 go_enter Try.func49, Try.ntmps49
 go_wp2
 go_ret
 exact ⟨rfl, by repeat (first | exact Below.refl _ _ | refine Below.setCell ?_ (Nat.le_refl _) _ | refine Below.setCell ?_ (Nat.le_succ _) _ | apply below_alloc)⟩
set_option maxHeartbeats 2000000 in
set_option maxRecDepth 100000 in
theorem value_Check.z2 (a b : Int) (c : ByteArray) (w : World) (ha : a = 0) (hb : b = 0) (he : ¬ c.toList = []) :
  Calls Try.prog 49 #[.agg #[.int .i64 a, .int .i64 b, .string c]] w fun e w' => e = .returned (.int .i64 3) ∧ Below w.heap.size w w' := by
 have hu38 := Try.underlying25
 have k0 : (a == 0) = true := beq_iff_eq.mpr ha
 have b0 : (b == 0) = true := beq_iff_eq.mpr hb
 have b1 : (b == 1) = false := beq_eq_false_iff_ne.mpr (by omega)
 have e0 : c.toList.isEmpty = false := by cases h : c.toList with | nil => exact absurd h he | cons => rfl
 have e1 : (c.toList == ([] : List UInt8)) = false := beq_eq_false_iff_ne.mpr he
 have n0 : (b != 0) = false := by rw [bne, b0]; rfl
 have n1 : (b != 1) = true := by rw [bne, b1]; rfl
 have e2 : (c.toList != ([] : List UInt8)) = true := by rw [bne, e1]; rfl
 clear ha hb he
 go_enter Try.func49, Try.ntmps49
 go_wp2
 go_ret
 exact ⟨rfl, by repeat (first | exact Below.refl _ _ | refine Below.setCell ?_ (Nat.le_refl _) _ | refine Below.setCell ?_ (Nat.le_succ _) _ | apply below_alloc)⟩
set_option maxHeartbeats 2000000 in
set_option maxRecDepth 100000 in
theorem value_Check.z3 (a b : Int) (c : ByteArray) (w : World) (ha : a = 0) (hb : ¬ b = 0) :
  Calls Try.prog 49 #[.agg #[.int .i64 a, .int .i64 b, .string c]] w fun e w' => e = .returned (.int .i64 3) ∧ Below w.heap.size w w' := by
 have hu38 := Try.underlying25
 have k0 : (a == 0) = true := beq_iff_eq.mpr ha
 have b0 : (b == 0) = false := beq_eq_false_iff_ne.mpr hb
 have n0 : (b != 0) = true := by rw [bne, b0]; rfl
 clear ha hb
 go_enter Try.func49, Try.ntmps49
 go_wp2
 go_ret
 exact ⟨rfl, by repeat (first | exact Below.refl _ _ | refine Below.setCell ?_ (Nat.le_refl _) _ | refine Below.setCell ?_ (Nat.le_succ _) _ | apply below_alloc)⟩
set_option maxHeartbeats 2000000 in
set_option maxRecDepth 100000 in
theorem value_Check.t1 (a b : Int) (c : ByteArray) (w : World) (ha : a = 1) (hb : b = 1) (he : c.toList = []) :
  Calls Try.prog 49 #[.agg #[.int .i64 a, .int .i64 b, .string c]] w fun e w' => e = .returned (.int .i64 0) ∧ Below w.heap.size w w' := by
 have hu38 := Try.underlying25
 have k0 : (a == 0) = false := beq_eq_false_iff_ne.mpr (by omega)
 have k1 : (a == 1) = true := beq_iff_eq.mpr ha
 have b0 : (b == 0) = false := beq_eq_false_iff_ne.mpr (by omega)
 have b1 : (b == 1) = true := beq_iff_eq.mpr hb
 have e0 : c.toList.isEmpty = true := List.isEmpty_iff.2 he
 have e1 : (c.toList == ([] : List UInt8)) = true := beq_iff_eq.mpr he
 have n0 : (b != 0) = true := by rw [bne, b0]; rfl
 have n1 : (b != 1) = false := by rw [bne, b1]; rfl
 have e2 : (c.toList != ([] : List UInt8)) = false := by rw [bne, e1]; rfl
 clear ha hb he
 go_enter Try.func49, Try.ntmps49
 go_wp2
 go_ret
 exact ⟨rfl, by repeat (first | exact Below.refl _ _ | refine Below.setCell ?_ (Nat.le_refl _) _ | refine Below.setCell ?_ (Nat.le_succ _) _ | apply below_alloc)⟩
set_option maxHeartbeats 2000000 in
set_option maxRecDepth 100000 in
theorem value_Check.t2 (a b : Int) (c : ByteArray) (w : World) (ha : a = 1) (hb : b = 1) (he : ¬ c.toList = []) :
  Calls Try.prog 49 #[.agg #[.int .i64 a, .int .i64 b, .string c]] w fun e w' => e = .returned (.int .i64 3) ∧ Below w.heap.size w w' := by
 have hu38 := Try.underlying25
 have k0 : (a == 0) = false := beq_eq_false_iff_ne.mpr (by omega)
 have k1 : (a == 1) = true := beq_iff_eq.mpr ha
 have b0 : (b == 0) = false := beq_eq_false_iff_ne.mpr (by omega)
 have b1 : (b == 1) = true := beq_iff_eq.mpr hb
 have e0 : c.toList.isEmpty = false := by cases h : c.toList with | nil => exact absurd h he | cons => rfl
 have e1 : (c.toList == ([] : List UInt8)) = false := beq_eq_false_iff_ne.mpr he
 have n0 : (b != 0) = true := by rw [bne, b0]; rfl
 have n1 : (b != 1) = false := by rw [bne, b1]; rfl
 have e2 : (c.toList != ([] : List UInt8)) = true := by rw [bne, e1]; rfl
 clear ha hb he
 go_enter Try.func49, Try.ntmps49
 go_wp2
 go_ret
 exact ⟨rfl, by repeat (first | exact Below.refl _ _ | refine Below.setCell ?_ (Nat.le_refl _) _ | refine Below.setCell ?_ (Nat.le_succ _) _ | apply below_alloc)⟩
set_option maxHeartbeats 2000000 in
set_option maxRecDepth 100000 in
theorem value_Check.t3 (a b : Int) (c : ByteArray) (w : World) (ha : a = 1) (hb : b = 0) (he : c.toList = []) :
  Calls Try.prog 49 #[.agg #[.int .i64 a, .int .i64 b, .string c]] w fun e w' => e = .returned (.int .i64 0) ∧ Below w.heap.size w w' := by
 have hu38 := Try.underlying25
 have k0 : (a == 0) = false := beq_eq_false_iff_ne.mpr (by omega)
 have k1 : (a == 1) = true := beq_iff_eq.mpr ha
 have b0 : (b == 0) = true := beq_iff_eq.mpr hb
 have b1 : (b == 1) = false := beq_eq_false_iff_ne.mpr (by omega)
 have e0 : c.toList.isEmpty = true := List.isEmpty_iff.2 he
 have e1 : (c.toList == ([] : List UInt8)) = true := beq_iff_eq.mpr he
 have n0 : (b != 0) = false := by rw [bne, b0]; rfl
 have n1 : (b != 1) = true := by rw [bne, b1]; rfl
 have e2 : (c.toList != ([] : List UInt8)) = false := by rw [bne, e1]; rfl
 clear ha hb he
 go_enter Try.func49, Try.ntmps49
 go_wp2
 go_ret
 exact ⟨rfl, by repeat (first | exact Below.refl _ _ | refine Below.setCell ?_ (Nat.le_refl _) _ | refine Below.setCell ?_ (Nat.le_succ _) _ | apply below_alloc)⟩
set_option maxHeartbeats 2000000 in
set_option maxRecDepth 100000 in
theorem value_Check.t4 (a b : Int) (c : ByteArray) (w : World) (ha : a = 1) (hb : b = 0) (he : ¬ c.toList = []) :
  Calls Try.prog 49 #[.agg #[.int .i64 a, .int .i64 b, .string c]] w fun e w' => e = .returned (.int .i64 3) ∧ Below w.heap.size w w' := by
 have hu38 := Try.underlying25
 have k0 : (a == 0) = false := beq_eq_false_iff_ne.mpr (by omega)
 have k1 : (a == 1) = true := beq_iff_eq.mpr ha
 have b0 : (b == 0) = true := beq_iff_eq.mpr hb
 have b1 : (b == 1) = false := beq_eq_false_iff_ne.mpr (by omega)
 have e0 : c.toList.isEmpty = false := by cases h : c.toList with | nil => exact absurd h he | cons => rfl
 have e1 : (c.toList == ([] : List UInt8)) = false := beq_eq_false_iff_ne.mpr he
 have n0 : (b != 0) = false := by rw [bne, b0]; rfl
 have n1 : (b != 1) = true := by rw [bne, b1]; rfl
 have e2 : (c.toList != ([] : List UInt8)) = true := by rw [bne, e1]; rfl
 clear ha hb he
 go_enter Try.func49, Try.ntmps49
 go_wp2
 go_ret
 exact ⟨rfl, by repeat (first | exact Below.refl _ _ | refine Below.setCell ?_ (Nat.le_refl _) _ | refine Below.setCell ?_ (Nat.le_succ _) _ | apply below_alloc)⟩
set_option maxHeartbeats 2000000 in
set_option maxRecDepth 100000 in
theorem value_Check.t5 (a b : Int) (c : ByteArray) (w : World) (ha : a = 1) (hb : ¬ b = 0) (hb1 : ¬ b = 1) (he : c.toList = []) :
  Calls Try.prog 49 #[.agg #[.int .i64 a, .int .i64 b, .string c]] w fun e w' => e = .returned (.int .i64 3) ∧ Below w.heap.size w w' := by
 have hu38 := Try.underlying25
 have k0 : (a == 0) = false := beq_eq_false_iff_ne.mpr (by omega)
 have k1 : (a == 1) = true := beq_iff_eq.mpr ha
 have b0 : (b == 0) = false := beq_eq_false_iff_ne.mpr hb
 have b1 : (b == 1) = false := beq_eq_false_iff_ne.mpr hb1
 have e0 : c.toList.isEmpty = true := List.isEmpty_iff.2 he
 have e1 : (c.toList == ([] : List UInt8)) = true := beq_iff_eq.mpr he
 have n0 : (b != 0) = true := by rw [bne, b0]; rfl
 have n1 : (b != 1) = true := by rw [bne, b1]; rfl
 have e2 : (c.toList != ([] : List UInt8)) = false := by rw [bne, e1]; rfl
 clear ha hb hb1 he
 go_enter Try.func49, Try.ntmps49
 go_wp2
 go_ret
 exact ⟨rfl, by repeat (first | exact Below.refl _ _ | refine Below.setCell ?_ (Nat.le_refl _) _ | refine Below.setCell ?_ (Nat.le_succ _) _ | apply below_alloc)⟩
set_option maxHeartbeats 2000000 in
set_option maxRecDepth 100000 in
theorem value_Check.t6 (a b : Int) (c : ByteArray) (w : World) (ha : a = 1) (hb : ¬ b = 0) (hb1 : ¬ b = 1) (he : ¬ c.toList = []) :
  Calls Try.prog 49 #[.agg #[.int .i64 a, .int .i64 b, .string c]] w fun e w' => e = .returned (.int .i64 3) ∧ Below w.heap.size w w' := by
 have hu38 := Try.underlying25
 have k0 : (a == 0) = false := beq_eq_false_iff_ne.mpr (by omega)
 have k1 : (a == 1) = true := beq_iff_eq.mpr ha
 have b0 : (b == 0) = false := beq_eq_false_iff_ne.mpr hb
 have b1 : (b == 1) = false := beq_eq_false_iff_ne.mpr hb1
 have e0 : c.toList.isEmpty = false := by cases h : c.toList with | nil => exact absurd h he | cons => rfl
 have e1 : (c.toList == ([] : List UInt8)) = false := beq_eq_false_iff_ne.mpr he
 have n0 : (b != 0) = true := by rw [bne, b0]; rfl
 have n1 : (b != 1) = true := by rw [bne, b1]; rfl
 have e2 : (c.toList != ([] : List UInt8)) = true := by rw [bne, e1]; rfl
 clear ha hb hb1 he
 go_enter Try.func49, Try.ntmps49
 go_wp2
 go_ret
 exact ⟨rfl, by repeat (first | exact Below.refl _ _ | refine Below.setCell ?_ (Nat.le_refl _) _ | refine Below.setCell ?_ (Nat.le_succ _) _ | apply below_alloc)⟩
set_option maxHeartbeats 2000000 in
set_option maxRecDepth 100000 in
theorem value_Check.n1 (a b : Int) (c : ByteArray) (w : World) (ha : a = 2) (he : c.toList = []) :
  Calls Try.prog 49 #[.agg #[.int .i64 a, .int .i64 b, .string c]] w fun e w' => e = .returned (.int .i64 0) ∧ Below w.heap.size w w' := by
 have hu38 := Try.underlying25
 have k0 : (a == 0) = false := beq_eq_false_iff_ne.mpr (by omega)
 have k1 : (a == 1) = false := beq_eq_false_iff_ne.mpr (by omega)
 have k2 : (a == 2) = true := beq_iff_eq.mpr ha
 have e0 : c.toList.isEmpty = true := List.isEmpty_iff.2 he
 have e1 : (c.toList == ([] : List UInt8)) = true := beq_iff_eq.mpr he
 have e2 : (c.toList != ([] : List UInt8)) = false := by rw [bne, e1]; rfl
 clear ha he
 go_enter Try.func49, Try.ntmps49
 go_wp2
 go_ret
 exact ⟨rfl, by repeat (first | exact Below.refl _ _ | refine Below.setCell ?_ (Nat.le_refl _) _ | refine Below.setCell ?_ (Nat.le_succ _) _ | apply below_alloc)⟩
set_option maxHeartbeats 2000000 in
set_option maxRecDepth 100000 in
theorem value_Check.n2 (a b : Int) (c : ByteArray) (w : World) (ha : a = 2) (he : ¬ c.toList = []) :
  Calls Try.prog 49 #[.agg #[.int .i64 a, .int .i64 b, .string c]] w fun e w' => e = .returned (.int .i64 3) ∧ Below w.heap.size w w' := by
 have hu38 := Try.underlying25
 have k0 : (a == 0) = false := beq_eq_false_iff_ne.mpr (by omega)
 have k1 : (a == 1) = false := beq_eq_false_iff_ne.mpr (by omega)
 have k2 : (a == 2) = true := beq_iff_eq.mpr ha
 have e0 : c.toList.isEmpty = false := by cases h : c.toList with | nil => exact absurd h he | cons => rfl
 have e1 : (c.toList == ([] : List UInt8)) = false := beq_eq_false_iff_ne.mpr he
 have e2 : (c.toList != ([] : List UInt8)) = true := by rw [bne, e1]; rfl
 clear ha he
 go_enter Try.func49, Try.ntmps49
 go_wp2
 go_ret
 exact ⟨rfl, by repeat (first | exact Below.refl _ _ | refine Below.setCell ?_ (Nat.le_refl _) _ | refine Below.setCell ?_ (Nat.le_succ _) _ | apply below_alloc)⟩
set_option maxHeartbeats 2000000 in
set_option maxRecDepth 100000 in
theorem value_Check.x1 (a b : Int) (c : ByteArray) (w : World) (ha : a = 3) (hb : b = 0) :
  Calls Try.prog 49 #[.agg #[.int .i64 a, .int .i64 b, .string c]] w fun e w' => e = .returned (.int .i64 0) ∧ Below w.heap.size w w' := by
 have hu38 := Try.underlying25
 have k0 : (a == 0) = false := beq_eq_false_iff_ne.mpr (by omega)
 have k1 : (a == 1) = false := beq_eq_false_iff_ne.mpr (by omega)
 have k2 : (a == 2) = false := beq_eq_false_iff_ne.mpr (by omega)
 have k3 : (a == 3) = true := beq_iff_eq.mpr ha
 have b0 : (b == 0) = true := beq_iff_eq.mpr hb
 have b1 : (b == 1) = false := beq_eq_false_iff_ne.mpr (by omega)
 have n0 : (b != 0) = false := by rw [bne, b0]; rfl
 have n1 : (b != 1) = true := by rw [bne, b1]; rfl
 clear ha hb
 go_enter Try.func49, Try.ntmps49
 go_wp2
 go_ret
 exact ⟨rfl, by repeat (first | exact Below.refl _ _ | refine Below.setCell ?_ (Nat.le_refl _) _ | refine Below.setCell ?_ (Nat.le_succ _) _ | apply below_alloc)⟩
set_option maxHeartbeats 2000000 in
set_option maxRecDepth 100000 in
theorem value_Check.x2 (a b : Int) (c : ByteArray) (w : World) (ha : a = 3) (hb : ¬ b = 0) :
  Calls Try.prog 49 #[.agg #[.int .i64 a, .int .i64 b, .string c]] w fun e w' => e = .returned (.int .i64 3) ∧ Below w.heap.size w w' := by
 have hu38 := Try.underlying25
 have k0 : (a == 0) = false := beq_eq_false_iff_ne.mpr (by omega)
 have k1 : (a == 1) = false := beq_eq_false_iff_ne.mpr (by omega)
 have k2 : (a == 2) = false := beq_eq_false_iff_ne.mpr (by omega)
 have k3 : (a == 3) = true := beq_iff_eq.mpr ha
 have b0 : (b == 0) = false := beq_eq_false_iff_ne.mpr hb
 have n0 : (b != 0) = true := by rw [bne, b0]; rfl
 clear ha hb
 go_enter Try.func49, Try.ntmps49
 go_wp2
 go_ret
 exact ⟨rfl, by repeat (first | exact Below.refl _ _ | refine Below.setCell ?_ (Nat.le_refl _) _ | refine Below.setCell ?_ (Nat.le_succ _) _ | apply below_alloc)⟩
set_option maxHeartbeats 2000000 in
set_option maxRecDepth 100000 in
theorem value_Check.y1 (a b : Int) (c : ByteArray) (w : World) (ha : a = 4) (hb : b = 0) :
  Calls Try.prog 49 #[.agg #[.int .i64 a, .int .i64 b, .string c]] w fun e w' => e = .returned (.int .i64 0) ∧ Below w.heap.size w w' := by
 have hu38 := Try.underlying25
 have k0 : (a == 0) = false := beq_eq_false_iff_ne.mpr (by omega)
 have k1 : (a == 1) = false := beq_eq_false_iff_ne.mpr (by omega)
 have k2 : (a == 2) = false := beq_eq_false_iff_ne.mpr (by omega)
 have k3 : (a == 3) = false := beq_eq_false_iff_ne.mpr (by omega)
 have k4 : (a == 4) = true := beq_iff_eq.mpr ha
 have b0 : (b == 0) = true := beq_iff_eq.mpr hb
 have b1 : (b == 1) = false := beq_eq_false_iff_ne.mpr (by omega)
 have n0 : (b != 0) = false := by rw [bne, b0]; rfl
 have n1 : (b != 1) = true := by rw [bne, b1]; rfl
 clear ha hb
 go_enter Try.func49, Try.ntmps49
 go_wp2
 go_ret
 exact ⟨rfl, by repeat (first | exact Below.refl _ _ | refine Below.setCell ?_ (Nat.le_refl _) _ | refine Below.setCell ?_ (Nat.le_succ _) _ | apply below_alloc)⟩
set_option maxHeartbeats 2000000 in
set_option maxRecDepth 100000 in
theorem value_Check.y2 (a b : Int) (c : ByteArray) (w : World) (ha : a = 4) (hb : ¬ b = 0) :
  Calls Try.prog 49 #[.agg #[.int .i64 a, .int .i64 b, .string c]] w fun e w' => e = .returned (.int .i64 3) ∧ Below w.heap.size w w' := by
 have hu38 := Try.underlying25
 have k0 : (a == 0) = false := beq_eq_false_iff_ne.mpr (by omega)
 have k1 : (a == 1) = false := beq_eq_false_iff_ne.mpr (by omega)
 have k2 : (a == 2) = false := beq_eq_false_iff_ne.mpr (by omega)
 have k3 : (a == 3) = false := beq_eq_false_iff_ne.mpr (by omega)
 have k4 : (a == 4) = true := beq_iff_eq.mpr ha
 have b0 : (b == 0) = false := beq_eq_false_iff_ne.mpr hb
 have n0 : (b != 0) = true := by rw [bne, b0]; rfl
 clear ha hb
 go_enter Try.func49, Try.ntmps49
 go_wp2
 go_ret
 exact ⟨rfl, by repeat (first | exact Below.refl _ _ | refine Below.setCell ?_ (Nat.le_refl _) _ | refine Below.setCell ?_ (Nat.le_succ _) _ | apply below_alloc)⟩
set_option maxHeartbeats 2000000 in
set_option maxRecDepth 100000 in
theorem value_Check.o (a b : Int) (c : ByteArray) (w : World) (h0 : ¬ a = 0) (h1 : ¬ a = 1) (h2 : ¬ a = 2) (h3 : ¬ a = 3) (h4 : ¬ a = 4) :
  Calls Try.prog 49 #[.agg #[.int .i64 a, .int .i64 b, .string c]] w fun e w' => e = .returned (.int .i64 5) ∧ Below w.heap.size w w' := by
 have hu38 := Try.underlying25
 have k0 : (a == 0) = false := beq_eq_false_iff_ne.mpr h0
 have k1 : (a == 1) = false := beq_eq_false_iff_ne.mpr h1
 have k2 : (a == 2) = false := beq_eq_false_iff_ne.mpr h2
 have k3 : (a == 3) = false := beq_eq_false_iff_ne.mpr h3
 have k4 : (a == 4) = false := beq_eq_false_iff_ne.mpr h4
 clear h0 h1 h2 h3 h4
 go_enter Try.func49, Try.ntmps49
 go_wp2
 go_ret
 exact ⟨rfl, by repeat (first | exact Below.refl _ _ | refine Below.setCell ?_ (Nat.le_refl _) _ | refine Below.setCell ?_ (Nat.le_succ _) _ | apply below_alloc)⟩
theorem value_Check.calls (a0_0 : Int) (a0_1 : Int) (a0_2 : ByteArray) (r : Int) (w : World) (h : value_Check.f a0_0 a0_1 a0_2 = some r) :
  Calls Try.prog 49 #[.agg #[.int .i64 a0_0, .int .i64 a0_1, .string a0_2]] w fun e w' => e = .returned (.int .i64 r) ∧ Below w.heap.size w w' := by
 obtain rfl : chkV a0_0 a0_1 a0_2 = r := Option.some.inj h
 clear h
 unfold chkV
 by_cases h0 : a0_0 = 0
 ·rw [if_pos h0]
  by_cases hb : a0_1 = 0
  ·by_cases he : a0_2.toList = []
   ·rw [if_pos ⟨hb, he⟩]; exact value_Check.z1 _ _ _ w h0 hb he
   ·rw [if_neg (fun h => he h.2)]; exact value_Check.z2 _ _ _ w h0 hb he
  ·rw [if_neg (fun h => hb h.1)]; exact value_Check.z3 _ _ _ w h0 hb
 rw [if_neg h0]
 by_cases h1 : a0_0 = 1
 ·rw [if_pos h1]
  by_cases he : a0_2.toList = []
  ·by_cases hb : a0_1 = 1
   ·rw [if_pos ⟨.inr hb, he⟩]; exact value_Check.t1 _ _ _ w h1 hb he
   ·by_cases hb0 : a0_1 = 0
    ·rw [if_pos ⟨.inl hb0, he⟩]; exact value_Check.t3 _ _ _ w h1 hb0 he
    ·rw [if_neg (fun h => h.1.elim hb0 hb)]; exact value_Check.t5 _ _ _ w h1 hb0 hb he
  ·rw [if_neg (fun h => he h.2)]
   by_cases hb : a0_1 = 1
   ·exact value_Check.t2 _ _ _ w h1 hb he
   ·by_cases hb0 : a0_1 = 0
    ·exact value_Check.t4 _ _ _ w h1 hb0 he
    ·exact value_Check.t6 _ _ _ w h1 hb0 hb he
 rw [if_neg h1]
 by_cases h2 : a0_0 = 2
 ·rw [if_pos h2]
  by_cases he : a0_2.toList = []
  ·rw [if_pos he]; exact value_Check.n1 _ _ _ w h2 he
  ·rw [if_neg he]; exact value_Check.n2 _ _ _ w h2 he
 rw [if_neg h2]
 by_cases h3 : a0_0 = 3
 ·rw [if_pos (.inl h3)]
  by_cases hb : a0_1 = 0
  ·rw [if_pos hb]; exact value_Check.x1 _ _ _ w h3 hb
  ·rw [if_neg hb]; exact value_Check.x2 _ _ _ w h3 hb
 by_cases h4 : a0_0 = 4
 ·rw [if_pos (.inr h4)]
  by_cases hb : a0_1 = 0
  ·rw [if_pos hb]; exact value_Check.y1 _ _ _ w h4 hb
  ·rw [if_neg hb]; exact value_Check.y2 _ _ _ w h4 hb
 rw [if_neg (by omega)]
 exact value_Check.o _ _ _ w h0 h1 h2 h3 h4
mutual
def keys_put.l0 : Nat → List Int → Int → Int → Option (List Int)
 | 0, _, _, _ => none
 | k + 1, x0, x5, x24 => if x24 < 8 then (if 0 ≤ (wrap64 (56 - (wrap64 (8 * x24)))) then (if x0.length < 140737488355328 then (keys_put.l0 k (x0 ++ [(shr .u64 x5 (wrap64 (56 - (wrap64 (8 * x24))))) % 256]) x5 (wrap64 (x24 + 1))) else (none)) else (none)) else (some x0)
def keys_put.j1 : Nat → List Int → Bool → Int → Int → ByteArray → Option (List Int)
 | 0, _, _, _, _, _ => none
 | k + 1, x0, x38, x200000, x200001, x200002 => if x38 = true then (keys_put.l1 k x0 (x200002.size : Int) 0 x200000 x200001 x200002) else (some x0)
def keys_put.l1 : Nat → List Int → Int → Int → Int → Int → ByteArray → Option (List Int)
 | 0, _, _, _, _, _, _ => none
 | k + 1, x0, x43, x44, x200000, x200001, x200002 => if x44 < x43 then (if 0 ≤ x44 then (if x44 < (x200002.size : Int) then (if x0.length < 140737488355328 then ((some (x0 ++ [bt x200002 x44] : List Int)).bind fun y206 => (if (bt x200002 x44) = 0 then (if y206.length < 140737488355328 then (keys_put.l1 k (y206 ++ [255]) x43 (wrap64 (x44 + 1)) x200000 x200001 x200002) else (none)) else (keys_put.l1 k y206 x43 (wrap64 (x44 + 1)) x200000 x200001 x200002))) else (none)) else (none)) else (none)) else ((some (([0, 1] : List Int) : List Int)).bind fun y212 => (if x0.length + y212.length < 140737488355328 then (some (x0 ++ y212)) else (none)))
end
def keys_put.f (k : Nat) (l0 : List Int) (a1_0 : Int) (a1_1 : Int) (a1_2 : ByteArray) : Option (List Int) := if a1_0 = 1 then (if l0.length < 140737488355328 then (some (l0 ++ [(a1_1) % 256])) else (none)) else (if a1_0 = 2 then (keys_put.l0 k l0 (Go.bits .xor .u64 (IntKind.u64.wrap (a1_1)) 9223372036854775808) 0) else (if a1_0 = 3 then (keys_put.j1 k l0 (a1_0 == 3) a1_0 a1_1 a1_2) else (keys_put.j1 k l0 (a1_0 == 4) a1_0 a1_1 a1_2)))
theorem keys_put.mono_l : ∀ k, (∀ y0 y1 y2, LeO (keys_put.l0 k y0 y1 y2) (keys_put.l0 (k + 1) y0 y1 y2)) ∧ (∀ y0 y1 y2 y3 y4, LeO (keys_put.j1 k y0 y1 y2 y3 y4) (keys_put.j1 (k + 1) y0 y1 y2 y3 y4)) ∧ (∀ y0 y1 y2 y3 y4 y5, LeO (keys_put.l1 k y0 y1 y2 y3 y4 y5) (keys_put.l1 (k + 1) y0 y1 y2 y3 y4 y5))
 | 0 => ⟨fun _ _ _ r h => by simp [keys_put.l0] at h, fun _ _ _ _ _ r h => by simp [keys_put.j1] at h, fun _ _ _ _ _ _ r h => by simp [keys_put.l1] at h⟩
 | k + 1 => by
  obtain ⟨ih0, ih1, ih2⟩ := keys_put.mono_l k
  refine ⟨?_, ?_, ?_⟩
  ·intro y0 y1 y2
   unfold keys_put.l0
   repeat' first
   | (with_reducible exact ih0 _ _ _)
   | (with_reducible exact ih1 _ _ _ _ _)
   | (with_reducible exact ih2 _ _ _ _ _ _)
   | (with_reducible exact LeO.refl _)
   | (with_reducible exact LeO.none _)
   | (with_reducible refine LeO.ite ?_ ?_)
   | (with_reducible refine LeO.bind ?_ (fun _ => ?_))
   | exact ih0 _ _ _
   | exact ih1 _ _ _ _ _
   | exact ih2 _ _ _ _ _ _
   | exact LeO.none _
   | refine LeO.ite ?_ ?_
   | refine LeO.bind ?_ (fun _ => ?_)
  ·intro y0 y1 y2 y3 y4
   unfold keys_put.j1
   repeat' first
   | (with_reducible exact ih0 _ _ _)
   | (with_reducible exact ih1 _ _ _ _ _)
   | (with_reducible exact ih2 _ _ _ _ _ _)
   | (with_reducible exact LeO.refl _)
   | (with_reducible exact LeO.none _)
   | (with_reducible refine LeO.ite ?_ ?_)
   | (with_reducible refine LeO.bind ?_ (fun _ => ?_))
   | exact ih0 _ _ _
   | exact ih1 _ _ _ _ _
   | exact ih2 _ _ _ _ _ _
   | exact LeO.none _
   | refine LeO.ite ?_ ?_
   | refine LeO.bind ?_ (fun _ => ?_)
  ·intro y0 y1 y2 y3 y4 y5
   unfold keys_put.l1
   repeat' first
   | (with_reducible exact ih0 _ _ _)
   | (with_reducible exact ih1 _ _ _ _ _)
   | (with_reducible exact ih2 _ _ _ _ _ _)
   | (with_reducible exact LeO.refl _)
   | (with_reducible exact LeO.none _)
   | (with_reducible refine LeO.ite ?_ ?_)
   | (with_reducible refine LeO.bind ?_ (fun _ => ?_))
   | exact ih0 _ _ _
   | exact ih1 _ _ _ _ _
   | exact ih2 _ _ _ _ _ _
   | exact LeO.none _
   | refine LeO.ite ?_ ?_
   | refine LeO.bind ?_ (fun _ => ?_)
theorem keys_put.mono : ∀ a0 a1 a2 a3 k, LeO (keys_put.f k a0 a1 a2 a3) (keys_put.f (k + 1) a0 a1 a2 a3) := by
 intro a0 a1 a2 a3 k
 obtain ⟨ih0, ih1, ih2⟩ := keys_put.mono_l k
 unfold keys_put.f
 repeat' first
   | (with_reducible exact ih0 _ _ _)
   | (with_reducible exact ih1 _ _ _ _ _)
   | (with_reducible exact ih2 _ _ _ _ _ _)
   | (with_reducible exact LeO.refl _)
   | (with_reducible exact LeO.none _)
   | (with_reducible refine LeO.ite ?_ ?_)
   | (with_reducible refine LeO.bind ?_ (fun _ => ?_))
   | exact ih0 _ _ _
   | exact ih1 _ _ _ _ _
   | exact ih2 _ _ _ _ _ _
   | exact LeO.none _
   | refine LeO.ite ?_ ?_
   | refine LeO.bind ?_ (fun _ => ?_)
set_option maxHeartbeats 8000000 in
set_option maxRecDepth 100000 in
theorem keys_put.calls (k : Nat) (P0_ : Nat → Prop) (u9000_ : Value) (l0 : List Int) (a1_0 : Int) (a1_1 : Int) (a1_2 : ByteArray) (r : List Int) (w0 w : World) (hB : Below w0.heap.size w0 w) (ho0 : Kd.R (Kd.int .u8) 5 w w0.heap.size P0_ u9000_ l0) (h : keys_put.f k l0 a1_0 a1_1 a1_2 = some r) :
  Calls Try.prog 52 #[u9000_, .agg #[.int .i64 a1_0, .int .i64 a1_1, .string a1_2]] w fun e w' => ∃ v0_ : Value, e = .returned (v0_) ∧ Kd.R (Kd.int .u8) 5 w' w0.heap.size (fun k_ => (P0_ k_ ∨ w.heap.size ≤ k_)) v0_ r ∧ Below w0.heap.size w0 w' ∧ Kept w w' (fun k_ => P0_ k_) := by
 have hu25 := Try.underlying25
 have HO0 := Aside0.mk (show Kd.R (Kd.int .u8) 5 w w0.heap.size (fun k_ => (P0_ k_ ∨ w.heap.size ≤ k_)) u9000_ l0 from Kd.R_mono ho0 (fun k_ hk => (.inl hk)))
 have HK := Aside0.mk (Kept.refl w (fun k_ => P0_ k_))
 have HW0 := Aside0.mk hB.size
 have HB := Aside0.mk hB
 clear hB
 have H : (if a1_0 = 1 then (if l0.length < 140737488355328 then (some (l0 ++ [(a1_1) % 256])) else (none)) else (if a1_0 = 2 then (keys_put.l0 k l0 (Go.bits .xor .u64 (IntKind.u64.wrap (a1_1)) 9223372036854775808) 0) else (if a1_0 = 3 then (keys_put.j1 k l0 (a1_0 == 3) a1_0 a1_1 a1_2) else (keys_put.j1 k l0 (a1_0 == 4) a1_0 a1_1 a1_2)))) = some r := h
 clear h
 by_cases c3 : a1_0 = 1
 ·rw [if_pos c3] at H
  have c3b0 : (a1_0 == 1) = true := beq_iff_eq.mpr c3
  have c3b1 : (a1_0 != 1) = false := bne_eq_false_iff_eq.mpr c3
  clear c3
  by_cases c4 : l0.length < 140737488355328
  ·rw [if_pos c4] at H
   have LMc4 := Aside0.mk c4
   clear c4
   obtain ⟨y200, hy200⟩ : ∃ y_ : List Int, y_ = (l0 ++ [(a1_1) % 256]) := ⟨_, rfl⟩
   replace H : (some y200) = some r := by first | (rw [hy200]; with_reducible exact H) | (have H2_ := (Option.bind_some _ _).symm.trans H; rw [hy200]; with_reducible exact H2_) | (have H2_ := (Option.bind_some _ _).symm.trans H; with_reducible exact H2_) | with_reducible exact H | (rw [hy200]; exact H) | exact H
   have Ny200 := Aside0.mk hy200
   clear hy200
   obtain rfl := Option.some.inj H
   go_enter Try.func52, Try.ntmps52
   go_wp2_with (first | ((with_reducible refine gate_dst (N := 3) rfl ?_); refine box_event ?hg (N := 3) ?hd (cs := #[.int .i64 a1_0, .int .i64 a1_1, .string a1_2]) (t := 25) ?hr ?_; (case hd => rfl); (case hg => rfl); (case hr => first | (go_simp; done) | (go_simp; rfl)); intro gb199 hg w5 hbox hb; have n0_ := Aside0.mk (Kd.R_below (by (with_reducible repeat (first | apply Kd.R_alloc | apply Kd.R_drewN | apply Kd.R_drew)); exact HO0.out) hb); have n1_ := Aside0.mk (Kept.below (S := (fun k_ => P0_ k_)) (by repeat (first | (with_reducible first | exact HK.out | apply Kept.alloc | apply Kept.drewN | apply Kept.drew) | exact HK.out)) hb); have n2_ := Aside0.mk (below_step (by repeat (first | (with_reducible first | exact HB.out | apply below_alloc | apply pw_below_drewN | apply below_drew1) | exact HB.out)) hb); have n3_ := Aside0.mk (hbox); have n4_ := Aside0.mk ((by rw [hg]; exact (by first | exact HK.out.1 | exact (show Kept w _ (fun k_ => P0_ k_) from by repeat (first | (with_reducible first | exact HK.out | apply Kept.alloc | apply Kept.drewN | apply Kept.drew) | exact HK.out)).1) : w.heap.size ≤ gb199)); have n5_ := Aside0.mk ((by rw [hg]; exact (below_size (by repeat (first | (with_reducible first | exact HB.out | apply below_alloc | apply pw_below_drewN | apply below_drew1) | exact HB.out))) : w0.heap.size ≤ gb199)); clear HO0; clear HK; clear HB; have HO0 := n0_; have HK := n1_; have HB := n2_; have BK199 := n3_; have GW199 := n4_; have GE199 := n5_; clear n0_ n1_ n2_ n3_ n4_ n5_; clear hb hbox hg; have hcz6_0 : w5.cell? ⟨gb199, 0, none⟩ = some (.int .i64 a1_0) := (blk_cell BK199.out 0).trans rfl; have hcz6_1 : w5.cell? ⟨gb199, 1, none⟩ = some (.int .i64 a1_1) := (blk_cell BK199.out 1).trans rfl; have hcz6_2 : w5.cell? ⟨gb199, 2, none⟩ = some (.string a1_2) := (blk_cell BK199.out 2).trans rfl; have hfz6_0 := blk_frozen BK199.out 0; have hfz6_1 := blk_frozen BK199.out 1; have hfz6_2 := blk_frozen BK199.out 2) | ((with_reducible refine gate_builtin (b := .append) (xs := #[.tmp 12, .tmp 16]) rfl ?_); at_builtin; refine Kd.R_append (Kd.int .u8) (w0 := w0) w0.heap.size rfl (.tmp 12) (.tmp 16) 44 5 (.int .u8 0) 1 rfl Try.underlying44 info5 rfl (by decide) (by omega) u9000_ l0 ((a1_1) % 256) [.int .u8 ((a1_1) % 256)] (fun k_ => (P0_ k_ ∨ w.heap.size ≤ k_)) (fun _ => False) rfl rfl ?aP (fun _ hk => hk.elim) ?aF ?aO ?aB ?aS ?aL ?_; (case aP => exact rfl); (case aB => exact (by repeat (first | (with_reducible first | exact HB.out | apply below_alloc | apply pw_below_drewN | apply below_drew1 | refine below_set ?_ GE199.out) | exact HB.out))); (case aF => exact (fun k_ hk => (.inr (Nat.le_trans (by first | exact HK.out.1 | exact (show Kept w _ (fun k_ => P0_ k_) from by repeat (first | (with_reducible first | exact HK.out | apply Kept.alloc | apply Kept.drewN | apply Kept.drew | refine Kept.setCell ?_ (.inr GW199.out) _) | exact HK.out)).1) hk)))); (case aO => exact (by (with_reducible repeat (first | apply Kd.R_alloc | apply Kd.R_drewN | apply Kd.R_drew)); exact HO0.out)); (case aS => exact (below_size (by repeat (first | (with_reducible first | exact HB.out | apply below_alloc | apply pw_below_drewN | apply below_drew1 | refine below_set ?_ GE199.out) | exact HB.out)))); (case aL => have := LMc4.out; omega); intro v201 w7 ho hb hg hat; rw [← Ny200.out] at ho; have n0_ := Aside0.mk (blk_grown (g := gb199) (o := .cells #[.int .i64 a1_0, .int .i64 a1_1, .string a1_2] 25 (0, 0)) (bk_ BK199) hg (Kd.R_ne HO0.out BK199.out (by decide))); have n1_ := Aside0.mk (hb); have n2_ := Aside0.mk (Kept.of_grown (S := (fun k_ => P0_ k_)) hg (by repeat (first | (with_reducible first | exact HK.out | apply Kept.alloc | apply Kept.drewN | apply Kept.drew | refine Kept.setCell ?_ (.inr GW199.out) _) | exact HK.out)) (fun k_ e_ => (HO0.out.1 k_ e_))); have n3_ := Aside0.mk (ho); clear BK199; clear HB; clear HK; clear HO0; have BK199 := n0_; have HB := n1_; have HK := n2_; have HO202 := n3_; clear n0_ n1_ n2_ n3_; clear ho hb hg hat))
   go_ret
   exact ⟨_, by first | rfl | (simp [errW_none, errW_some] <;> rfl) | (simp [*, errW_none, errW_some] <;> rfl), by (with_reducible repeat (first | apply Kd.R_alloc | apply Kd.R_drewN | apply Kd.R_drew)); exact HO202.out, by repeat (first | (with_reducible first | exact HB.out | apply below_alloc | apply pw_below_drewN | apply below_drew1 | refine below_set ?_ GE199.out) | exact HB.out), by repeat (first | (with_reducible first | exact HK.out | apply Kept.alloc | apply Kept.drewN | apply Kept.drew | refine Kept.setCell ?_ (.inr GW199.out) _) | exact HK.out)⟩
  ·rw [if_neg c4] at H
   exact absurd H (by simp)
 ·rw [if_neg c3] at H
  have c3b0 : (a1_0 == 1) = false := beq_eq_false_iff_ne.mpr c3
  have c3b1 : (a1_0 != 1) = true := bne_iff_ne.mpr c3
  by_cases c8 : a1_0 = 2
  ·rw [if_pos c8] at H
   have c8b0 : (a1_0 == 2) = true := beq_iff_eq.mpr c8
   have c8b1 : (a1_0 != 2) = false := bne_eq_false_iff_eq.mpr c8
   clear c8
   have H' := Aside0.mk H
   clear H
   go_enter Try.func52, Try.ntmps52
   go_wp2_with (first | ((with_reducible refine gate_dst (N := 3) rfl ?_); refine box_event ?hg (N := 3) ?hd (cs := #[.int .i64 a1_0, .int .i64 a1_1, .string a1_2]) (t := 25) ?hr ?_; (case hd => rfl); (case hg => rfl); (case hr => first | (go_simp; done) | (go_simp; rfl)); intro gb199 hg w9 hbox hb; have n0_ := Aside0.mk (Kd.R_below (by (with_reducible repeat (first | apply Kd.R_alloc | apply Kd.R_drewN | apply Kd.R_drew)); exact HO0.out) hb); have n1_ := Aside0.mk (Kept.below (S := (fun k_ => P0_ k_)) (by repeat (first | (with_reducible first | exact HK.out | apply Kept.alloc | apply Kept.drewN | apply Kept.drew) | exact HK.out)) hb); have n2_ := Aside0.mk (below_step (by repeat (first | (with_reducible first | exact HB.out | apply below_alloc | apply pw_below_drewN | apply below_drew1) | exact HB.out)) hb); have n3_ := Aside0.mk (hbox); have n4_ := Aside0.mk ((by rw [hg]; exact (by first | exact HK.out.1 | exact (show Kept w _ (fun k_ => P0_ k_) from by repeat (first | (with_reducible first | exact HK.out | apply Kept.alloc | apply Kept.drewN | apply Kept.drew) | exact HK.out)).1) : w.heap.size ≤ gb199)); have n5_ := Aside0.mk ((by rw [hg]; exact (below_size (by repeat (first | (with_reducible first | exact HB.out | apply below_alloc | apply pw_below_drewN | apply below_drew1) | exact HB.out))) : w0.heap.size ≤ gb199)); clear HO0; clear HK; clear HB; have HO0 := n0_; have HK := n1_; have HB := n2_; have BK199 := n3_; have GW199 := n4_; have GE199 := n5_; clear n0_ n1_ n2_ n3_ n4_ n5_; clear hb hbox hg; have hcz10_0 : w9.cell? ⟨gb199, 0, none⟩ = some (.int .i64 a1_0) := (blk_cell BK199.out 0).trans rfl; have hcz10_1 : w9.cell? ⟨gb199, 1, none⟩ = some (.int .i64 a1_1) := (blk_cell BK199.out 1).trans rfl; have hcz10_2 : w9.cell? ⟨gb199, 2, none⟩ = some (.string a1_2) := (blk_cell BK199.out 2).trans rfl; have hfz10_0 := blk_frozen BK199.out 0; have hfz10_1 := blk_frozen BK199.out 1; have hfz10_2 := blk_frozen BK199.out 2))
   go_loopg [0, 24] k (fun kq v0 v24 w' => ∃ (x0_1 : List Int) (x24_1 : Int), v24 = .int .i64 x24_1 ∧ Aside0 (keys_put.l0 kq x0_1 (Go.bits .xor .u64 (IntKind.u64.wrap (a1_1)) 9223372036854775808) x24_1 = some r) ∧ Aside0 (kq ≤ k) ∧ Aside0 (Kd.R (Kd.int .u8) 5 w' w0.heap.size (fun k_ => (P0_ k_ ∨ w.heap.size ≤ k_)) v0 x0_1) ∧ Aside0 (w'.heap[gb199]? = some (.cells #[.int .i64 a1_0, .int .i64 a1_1, .string a1_2] 25 (0, 0))) ∧ Aside0 (Kept w w' (fun k_ => P0_ k_)) ∧ Aside0 (Below w0.heap.size w0 w'))
   case atStart => exact ⟨(l0), (0), (by first | rfl | (simp; done) | (simp [*]; done)), H', ⟨Nat.le_refl _⟩, ⟨by (with_reducible repeat (first | apply Kd.R_alloc | apply Kd.R_drewN | apply Kd.R_drew)); exact HO0.out⟩, ⟨by (with_reducible repeat (first | refine blk_drewN ?_ _ | refine blk_drew ?_ | refine blk_alloc ?_ _)); exact BK199.out⟩, ⟨by repeat (first | (with_reducible first | exact HK.out | apply Kept.alloc | apply Kept.drewN | apply Kept.drew | refine Kept.setCell ?_ (.inr GW199.out) _) | exact HK.out)⟩, ⟨by repeat (first | (with_reducible first | exact HB.out | apply below_alloc | apply pw_below_drewN | apply below_drew1 | refine below_set ?_ GE199.out) | exact HB.out)⟩⟩
   case round =>
    clear H'
    try clear p2
    try clear c3
    try clear c3b0
    try clear c3b1
    try clear c4
    try clear c5
    try clear c8
    try clear c8b0
    try clear c8b1
    try clear hcz10_0
    try clear hcz10_1
    try clear hcz10_2
    try clear hcz6_0
    try clear hcz6_1
    try clear hcz6_2
    try clear hfz10_0
    try clear hfz10_1
    try clear hfz10_2
    try clear hfz6_0
    try clear hfz6_1
    try clear hfz6_2
    obtain ⟨x0_1, x24_1, rfl, HA, HK1, HO_0, BK199, HK, HB⟩ := hrel
    cases gk with
    | zero => exact absurd HA.out (by simp [keys_put.l0])
    | succ k1 =>
     have H := HA.out
     clear HA
     simp only [keys_put.l0] at H
     by_cases c11 : x24_1 < 8
     ·rw [if_pos c11] at H
      have c11b0 : decide (x24_1 < 8) = true := decide_eq_true c11
      clear c11
      obtain ⟨ji12, hji12⟩ : ∃ j_ : Int, (wrap64 (56 - (wrap64 (8 * x24_1)))) = j_ := ⟨_, rfl⟩
      replace H : (if 0 ≤ (ji12) then (if x0_1.length < 140737488355328 then (keys_put.l0 k1 (x0_1 ++ [(shr .u64 (Go.bits .xor .u64 (IntKind.u64.wrap (a1_1)) 9223372036854775808) (ji12)) % 256]) (Go.bits .xor .u64 (IntKind.u64.wrap (a1_1)) 9223372036854775808) (wrap64 (x24_1 + 1))) else (none)) else (none)) = some r := by first | (rw [hji12] at H; exact H) | (simp only [hji12] at H ⊢; exact H)
      have hji12w : (IntKind.i64.wrap (56 - (wrap64 (8 * x24_1)))) = ji12 := (i64_w _).trans hji12
      by_cases c13 : 0 ≤ (ji12)
      ·rw [if_pos c13] at H
       have c13b0 := eq_true c13
       have c13b1 : decide (0 ≤ (ji12)) = true := decide_eq_true c13
       clear c13
       obtain ⟨ji14, hji14⟩ : ∃ j_ : Int, (shr .u64 (Go.bits .xor .u64 (IntKind.u64.wrap (a1_1)) 9223372036854775808) (ji12)) = j_ := ⟨_, rfl⟩
       replace H : (if x0_1.length < 140737488355328 then (keys_put.l0 k1 (x0_1 ++ [(ji14) % 256]) (Go.bits .xor .u64 (IntKind.u64.wrap (a1_1)) 9223372036854775808) (wrap64 (x24_1 + 1))) else (none)) = some r := by first | (rw [hji14] at H; exact H) | (simp only [hji14] at H ⊢; exact H)
       have hji14_ : ((Go.bits .xor .u64 (IntKind.u64.wrap (a1_1)) 9223372036854775808) / 2 ^ min (ji12).toNat 64) = ji14 := hji14
       have hji14z : (ji12) ≤ 64 → ((Go.bits .xor .u64 (IntKind.u64.wrap (a1_1)) 9223372036854775808) / 2 ^ (ji12).toNat) = ji14 := shr_small hji14
       by_cases c15 : x0_1.length < 140737488355328
       ·rw [if_pos c15] at H
        have LMc15 := Aside0.mk c15
        clear c15
        obtain ⟨y203, hy203⟩ : ∃ y_ : List Int, y_ = (x0_1 ++ [(ji14) % 256]) := ⟨_, rfl⟩
        replace H : (keys_put.l0 k1 y203 (Go.bits .xor .u64 (IntKind.u64.wrap (a1_1)) 9223372036854775808) (wrap64 (x24_1 + 1))) = some r := by first | (rw [hy203]; with_reducible exact H) | (have H2_ := (Option.bind_some _ _).symm.trans H; rw [hy203]; with_reducible exact H2_) | (have H2_ := (Option.bind_some _ _).symm.trans H; with_reducible exact H2_) | with_reducible exact H | (rw [hy203]; exact H) | exact H
        have Ny203 := Aside0.mk hy203
        clear hy203
        have H' := Aside0.mk H
        clear H
        go_wp2_with (first | ((with_reducible refine gate_builtin (b := .append) (xs := #[.tmp 27, .tmp 34]) rfl ?_); at_builtin; refine Kd.R_append (Kd.int .u8) (w0 := w0) w0.heap.size rfl (.tmp 27) (.tmp 34) 44 5 (.int .u8 0) 1 rfl Try.underlying44 info5 rfl (by decide) (by omega) u0 x0_1 ((ji14) % 256) [.int .u8 ((ji14) % 256)] (fun k_ => (P0_ k_ ∨ w.heap.size ≤ k_)) (fun _ => False) rfl rfl ?aP (fun _ hk => hk.elim) ?aF ?aO ?aB ?aS ?aL ?_; (case aP => exact rfl); (case aB => exact (by repeat (first | (with_reducible first | exact HB.out | apply below_alloc | apply pw_below_drewN | apply below_drew1 | refine below_set ?_ GE199.out) | exact HB.out))); (case aF => exact (fun k_ hk => (.inr (Nat.le_trans (by first | exact HK.out.1 | exact (show Kept w _ (fun k_ => P0_ k_) from by repeat (first | (with_reducible first | exact HK.out | apply Kept.alloc | apply Kept.drewN | apply Kept.drew | refine Kept.setCell ?_ (.inr GW199.out) _) | exact HK.out)).1) hk)))); (case aO => exact (by (with_reducible repeat (first | apply Kd.R_alloc | apply Kd.R_drewN | apply Kd.R_drew)); exact HO_0.out)); (case aS => exact (below_size (by repeat (first | (with_reducible first | exact HB.out | apply below_alloc | apply pw_below_drewN | apply below_drew1 | refine below_set ?_ GE199.out) | exact HB.out)))); (case aL => have := LMc15.out; omega); intro v204 w16 ho hb hg hat; rw [← Ny203.out] at ho; have n0_ := Aside0.mk (blk_grown (g := gb199) (o := .cells #[.int .i64 a1_0, .int .i64 a1_1, .string a1_2] 25 (0, 0)) (bk_ BK199) hg (Kd.R_ne HO_0.out BK199.out (by decide))); have n1_ := Aside0.mk (hb); have n2_ := Aside0.mk (Kept.of_grown (S := (fun k_ => P0_ k_)) hg (by repeat (first | (with_reducible first | exact HK.out | apply Kept.alloc | apply Kept.drewN | apply Kept.drew | refine Kept.setCell ?_ (.inr GW199.out) _) | exact HK.out)) (fun k_ e_ => (HO_0.out.1 k_ e_))); have n3_ := Aside0.mk (ho); clear BK199; clear HB; clear HK; clear HO_0; have BK199 := n0_; have HB := n1_; have HK := n2_; have HO205 := n3_; clear n0_ n1_ n2_ n3_; clear ho hb hg hat))
        go_roundg k1
        case measure => have := HK1.out; omega
        case rel => exact ⟨(y203), (wrap64 (x24_1 + 1)), (by first | rfl | (simp; done) | (simp [*]; done)), H', ⟨by have := HK1.out; omega⟩, ⟨by (with_reducible repeat (first | apply Kd.R_alloc | apply Kd.R_drewN | apply Kd.R_drew)); exact HO205.out⟩, ⟨by (with_reducible repeat (first | refine blk_drewN ?_ _ | refine blk_drew ?_ | refine blk_alloc ?_ _)); exact BK199.out⟩, ⟨by repeat (first | (with_reducible first | exact HK.out | apply Kept.alloc | apply Kept.drewN | apply Kept.drew | refine Kept.setCell ?_ (.inr GW199.out) _) | exact HK.out)⟩, ⟨by repeat (first | (with_reducible first | exact HB.out | apply below_alloc | apply pw_below_drewN | apply below_drew1 | refine below_set ?_ GE199.out) | exact HB.out)⟩⟩
       ·rw [if_neg c15] at H
        exact absurd H (by simp)
      ·rw [if_neg c13] at H
       exact absurd H (by simp)
     ·rw [if_neg c11] at H
      have c11b0 : decide (x24_1 < 8) = false := decide_eq_false c11
      clear c11
      obtain rfl := Option.some.inj H
      go_wp2
      go_ret
      exact ⟨_, by first | rfl | (simp [errW_none, errW_some] <;> rfl) | (simp [*, errW_none, errW_some] <;> rfl), by (with_reducible repeat (first | apply Kd.R_alloc | apply Kd.R_drewN | apply Kd.R_drew)); exact HO_0.out, by repeat (first | (with_reducible first | exact HB.out | apply below_alloc | apply pw_below_drewN | apply below_drew1 | refine below_set ?_ GE199.out) | exact HB.out), by repeat (first | (with_reducible first | exact HK.out | apply Kept.alloc | apply Kept.drewN | apply Kept.drew | refine Kept.setCell ?_ (.inr GW199.out) _) | exact HK.out)⟩
  ·rw [if_neg c8] at H
   have c8b0 : (a1_0 == 2) = false := beq_eq_false_iff_ne.mpr c8
   have c8b1 : (a1_0 != 2) = true := bne_iff_ne.mpr c8
   have HC17 := Aside0.mk H
   clear H
   go_enter Try.func52, Try.ntmps52
   go_upto_if 38 with (first | ((with_reducible refine gate_dst (N := 3) rfl ?_); refine box_event ?hg (N := 3) ?hd (cs := #[.int .i64 a1_0, .int .i64 a1_1, .string a1_2]) (t := 25) ?hr ?_; (case hd => rfl); (case hg => rfl); (case hr => first | (go_simp; done) | (go_simp; rfl)); intro gb199 hg w18 hbox hb; have n0_ := Aside0.mk (Kd.R_below (by (with_reducible repeat (first | apply Kd.R_alloc | apply Kd.R_drewN | apply Kd.R_drew)); exact HO0.out) hb); have n1_ := Aside0.mk (Kept.below (S := (fun k_ => P0_ k_)) (by repeat (first | (with_reducible first | exact HK.out | apply Kept.alloc | apply Kept.drewN | apply Kept.drew) | exact HK.out)) hb); have n2_ := Aside0.mk (below_step (by repeat (first | (with_reducible first | exact HB.out | apply below_alloc | apply pw_below_drewN | apply below_drew1) | exact HB.out)) hb); have n3_ := Aside0.mk (hbox); have n4_ := Aside0.mk ((by rw [hg]; exact (by first | exact HK.out.1 | exact (show Kept w _ (fun k_ => P0_ k_) from by repeat (first | (with_reducible first | exact HK.out | apply Kept.alloc | apply Kept.drewN | apply Kept.drew) | exact HK.out)).1) : w.heap.size ≤ gb199)); have n5_ := Aside0.mk ((by rw [hg]; exact (below_size (by repeat (first | (with_reducible first | exact HB.out | apply below_alloc | apply pw_below_drewN | apply below_drew1) | exact HB.out))) : w0.heap.size ≤ gb199)); clear HO0; clear HK; clear HB; have HO0 := n0_; have HK := n1_; have HB := n2_; have BK199 := n3_; have GW199 := n4_; have GE199 := n5_; clear n0_ n1_ n2_ n3_ n4_ n5_; clear hb hbox hg; have hcz19_0 : w18.cell? ⟨gb199, 0, none⟩ = some (.int .i64 a1_0) := (blk_cell BK199.out 0).trans rfl; have hcz19_1 : w18.cell? ⟨gb199, 1, none⟩ = some (.int .i64 a1_1) := (blk_cell BK199.out 1).trans rfl; have hcz19_2 : w18.cell? ⟨gb199, 2, none⟩ = some (.string a1_2) := (blk_cell BK199.out 2).trans rfl; have hfz19_0 := blk_frozen BK199.out 0; have hfz19_1 := blk_frozen BK199.out 1; have hfz19_2 := blk_frozen BK199.out 2))
   (try simp only [Act.put, List.setIfInBounds_toArray, List.set_cons_zero, List.set_cons_succ])
   go_cut [38] (fun v38 wc => ∃ (kq : Nat) (x38_16 : Bool), v38 = .bool x38_16 ∧ Aside0 (keys_put.j1 kq l0 x38_16 a1_0 a1_1 a1_2 = some r) ∧ Aside0 (kq ≤ k) ∧ Aside0 (Kd.R (Kd.int .u8) 5 wc w0.heap.size (fun k_ => (P0_ k_ ∨ w.heap.size ≤ k_)) u9000_ l0) ∧ Aside0 (wc.heap[gb199]? = some (.cells #[.int .i64 a1_0, .int .i64 a1_1, .string a1_2] 25 (0, 0))) ∧ Aside0 (Kept w wc (fun k_ => P0_ k_)) ∧ Aside0 (Below w0.heap.size w0 wc))
   case first =>
    have H := HC17.out
    clear HC17
    by_cases c20 : a1_0 = 3
    ·rw [if_pos c20] at H
     have c20b0 : (a1_0 == 3) = true := beq_iff_eq.mpr c20
     have c20b1 : (a1_0 != 3) = false := bne_eq_false_iff_eq.mpr c20
     clear c20
     (first | rw [c20b0] | (simp only [i64_w, i32_w]; rw [c20b0]) | skip)
     have H' := Aside0.mk H
     clear H
     go_wp2
     go_meet
     case rel => exact ⟨_, ((a1_0 == 3)), (by first | rfl | (simp; done) | (simp [*]; done)), H', ⟨by first | omega | exact Nat.le_refl _⟩, ⟨by (with_reducible repeat (first | apply Kd.R_alloc | apply Kd.R_drewN | apply Kd.R_drew)); exact HO0.out⟩, ⟨by (with_reducible repeat (first | refine blk_drewN ?_ _ | refine blk_drew ?_ | refine blk_alloc ?_ _)); exact BK199.out⟩, ⟨by repeat (first | (with_reducible first | exact HK.out | apply Kept.alloc | apply Kept.drewN | apply Kept.drew | refine Kept.setCell ?_ (.inr GW199.out) _) | exact HK.out)⟩, ⟨by repeat (first | (with_reducible first | exact HB.out | apply below_alloc | apply pw_below_drewN | apply below_drew1 | refine below_set ?_ GE199.out) | exact HB.out)⟩⟩
    ·rw [if_neg c20] at H
     have c20b0 : (a1_0 == 3) = false := beq_eq_false_iff_ne.mpr c20
     have c20b1 : (a1_0 != 3) = true := bne_iff_ne.mpr c20
     (first | rw [c20b0] | (simp only [i64_w, i32_w]; rw [c20b0]) | skip)
     have H' := Aside0.mk H
     clear H
     go_wp2
     go_meet
     case rel => exact ⟨_, ((a1_0 == 4)), (by first | rfl | (simp; done) | (simp [*]; done)), H', ⟨by first | omega | exact Nat.le_refl _⟩, ⟨by (with_reducible repeat (first | apply Kd.R_alloc | apply Kd.R_drewN | apply Kd.R_drew)); exact HO0.out⟩, ⟨by (with_reducible repeat (first | refine blk_drewN ?_ _ | refine blk_drew ?_ | refine blk_alloc ?_ _)); exact BK199.out⟩, ⟨by repeat (first | (with_reducible first | exact HK.out | apply Kept.alloc | apply Kept.drewN | apply Kept.drew | refine Kept.setCell ?_ (.inr GW199.out) _) | exact HK.out)⟩, ⟨by repeat (first | (with_reducible first | exact HB.out | apply below_alloc | apply pw_below_drewN | apply below_drew1 | refine below_set ?_ GE199.out) | exact HB.out)⟩⟩
   case rest =>
    clear HC17
    try clear c1
    try clear c2
    try clear p2
    try clear c3
    try clear c3b0
    try clear c3b1
    try clear c4
    try clear c5
    try clear p6
    try clear c8
    try clear c8b0
    try clear c8b1
    try clear c11
    try clear c11b0
    try clear c13
    try clear c13b0
    try clear c13b1
    try clear c15
    try clear c20
    try clear c20b0
    try clear c20b1
    try clear hcz10_0
    try clear hcz10_1
    try clear hcz10_2
    try clear hcz19_0
    try clear hcz19_1
    try clear hcz19_2
    try clear hcz6_0
    try clear hcz6_1
    try clear hcz6_2
    try clear hfz10_0
    try clear hfz10_1
    try clear hfz10_2
    try clear hfz19_0
    try clear hfz19_1
    try clear hfz19_2
    try clear hfz6_0
    try clear hfz6_1
    try clear hfz6_2
    try clear p2
    obtain ⟨kq, x38_16, rfl, HA, HJ16, HO_0, BK199, HK, HB⟩ := hcut
    cases kq with
    | zero => exact absurd HA.out (by simp [keys_put.j1])
    | succ kj16 =>
     have H := HA.out
     clear HA
     simp only [keys_put.j1] at H
     by_cases c21 : x38_16 = true
     ·subst c21
      have H1 : (keys_put.l1 kj16 l0 (a1_2.size : Int) 0 a1_0 a1_1 a1_2) = some r := by rw [if_pos rfl] at H; exact H
      clear H
      have H := H1
      clear H1
      have H' := Aside0.mk H
      clear H
      have hcz22_0 : wc.cell? ⟨gb199, 0, none⟩ = some (.int .i64 a1_0) := (blk_cell BK199.out 0).trans rfl
      have hcz22_1 : wc.cell? ⟨gb199, 1, none⟩ = some (.int .i64 a1_1) := (blk_cell BK199.out 1).trans rfl
      have hcz22_2 : wc.cell? ⟨gb199, 2, none⟩ = some (.string a1_2) := (blk_cell BK199.out 2).trans rfl
      have hfz22_0 := blk_frozen BK199.out 0
      have hfz22_1 := blk_frozen BK199.out 1
      have hfz22_2 := blk_frozen BK199.out 2
      go_wp2
      go_loopg [0, 44] kj16 (fun kq v0 v44 w' => ∃ (x0_2 : List Int) (x44_2 : Int), v44 = .int .i64 x44_2 ∧ Aside0 (keys_put.l1 kq x0_2 (a1_2.size : Int) x44_2 a1_0 a1_1 a1_2 = some r) ∧ Aside0 (kq ≤ kj16) ∧ Aside0 (Kd.R (Kd.int .u8) 5 w' w0.heap.size (fun k_ => (P0_ k_ ∨ w.heap.size ≤ k_)) v0 x0_2) ∧ Aside0 (w'.heap[gb199]? = some (.cells #[.int .i64 a1_0, .int .i64 a1_1, .string a1_2] 25 (0, 0))) ∧ Aside0 (Kept w w' (fun k_ => P0_ k_)) ∧ Aside0 (Below w0.heap.size w0 w'))
      case atStart => exact ⟨(l0), (0), (by first | rfl | (simp; done) | (simp [*]; done)), H', ⟨Nat.le_refl _⟩, ⟨by (with_reducible repeat (first | apply Kd.R_alloc | apply Kd.R_drewN | apply Kd.R_drew)); exact HO_0.out⟩, ⟨by (with_reducible repeat (first | refine blk_drewN ?_ _ | refine blk_drew ?_ | refine blk_alloc ?_ _)); exact BK199.out⟩, ⟨by repeat (first | (with_reducible first | exact HK.out | apply Kept.alloc | apply Kept.drewN | apply Kept.drew | refine Kept.setCell ?_ (.inr GW199.out) _) | exact HK.out)⟩, ⟨by repeat (first | (with_reducible first | exact HB.out | apply below_alloc | apply pw_below_drewN | apply below_drew1 | refine below_set ?_ GE199.out) | exact HB.out)⟩⟩
      case round =>
       clear H'
       try clear c1
       try clear c2
       try clear p2
       try clear c3
       try clear c3b0
       try clear c3b1
       try clear c4
       try clear c5
       try clear p6
       try clear c8
       try clear c8b0
       try clear c8b1
       try clear c11
       try clear c11b0
       try clear c13
       try clear c13b0
       try clear c13b1
       try clear c15
       try clear c20
       try clear c20b0
       try clear c20b1
       try clear c21
       try clear hcz10_0
       try clear hcz10_1
       try clear hcz10_2
       try clear hcz19_0
       try clear hcz19_1
       try clear hcz19_2
       try clear hcz22_0
       try clear hcz22_1
       try clear hcz22_2
       try clear hcz6_0
       try clear hcz6_1
       try clear hcz6_2
       try clear hfz10_0
       try clear hfz10_1
       try clear hfz10_2
       try clear hfz19_0
       try clear hfz19_1
       try clear hfz19_2
       try clear hfz22_0
       try clear hfz22_1
       try clear hfz22_2
       try clear hfz6_0
       try clear hfz6_1
       try clear hfz6_2
       try clear p2
       try clear p6
       obtain ⟨x0_2, x44_2, rfl, HA, HK2, HO_0, BK199, HK, HB⟩ := hrel
       cases gk with
       | zero => exact absurd HA.out (by simp [keys_put.l1])
       | succ k2 =>
        have H := HA.out
        clear HA
        simp only [keys_put.l1] at H
        by_cases c23 : x44_2 < (a1_2.size : Int)
        ·rw [if_pos c23] at H
         have c23b0 : decide (x44_2 < (a1_2.size : Int)) = true := decide_eq_true c23
         clear c23
         by_cases c24 : 0 ≤ x44_2
         ·rw [if_pos c24] at H
          have c24b0 : decide (0 ≤ x44_2) = true := decide_eq_true c24
          clear c24
          by_cases c25 : x44_2 < (a1_2.size : Int)
          ·rw [if_pos c25] at H
           have c25b0 : decide (x44_2 < (a1_2.size : Int)) = true := decide_eq_true c25
           clear c25
           by_cases c27 : x0_2.length < 140737488355328
           ·rw [if_pos c27] at H
            have LMc27 := Aside0.mk c27
            clear c27
            obtain ⟨y206, hy206⟩ : ∃ y_ : List Int, y_ = (x0_2 ++ [bt a1_2 x44_2]) := ⟨_, rfl⟩
            replace H : (if (bt a1_2 x44_2) = 0 then (if y206.length < 140737488355328 then (keys_put.l1 k2 (y206 ++ [255]) (a1_2.size : Int) (wrap64 (x44_2 + 1)) a1_0 a1_1 a1_2) else (none)) else (keys_put.l1 k2 y206 (a1_2.size : Int) (wrap64 (x44_2 + 1)) a1_0 a1_1 a1_2)) = some r := by first | (rw [hy206]; with_reducible exact H) | (have H2_ := (Option.bind_some _ _).symm.trans H; rw [hy206]; with_reducible exact H2_) | (have H2_ := (Option.bind_some _ _).symm.trans H; with_reducible exact H2_) | with_reducible exact H | (rw [hy206]; exact H) | exact H
            have Ny206 := Aside0.mk hy206
            clear hy206
            by_cases c29 : (bt a1_2 x44_2) = 0
            ·rw [if_pos c29] at H
             have c29b0 : ((bt a1_2 x44_2) == 0) = true := beq_iff_eq.mpr c29
             have c29b1 : ((bt a1_2 x44_2) != 0) = false := bne_eq_false_iff_eq.mpr c29
             clear c29
             by_cases c30 : y206.length < 140737488355328
             ·rw [if_pos c30] at H
              have LMc30 := Aside0.mk c30
              clear c30
              obtain ⟨y209, hy209⟩ : ∃ y_ : List Int, y_ = (y206 ++ [255]) := ⟨_, rfl⟩
              replace H : (keys_put.l1 k2 y209 (a1_2.size : Int) (wrap64 (x44_2 + 1)) a1_0 a1_1 a1_2) = some r := by first | (rw [hy209]; with_reducible exact H) | (have H2_ := (Option.bind_some _ _).symm.trans H; rw [hy209]; with_reducible exact H2_) | (have H2_ := (Option.bind_some _ _).symm.trans H; with_reducible exact H2_) | with_reducible exact H | (rw [hy209]; exact H) | exact H
              have Ny209 := Aside0.mk hy209
              clear hy209
              have H' := Aside0.mk H
              clear H
              have hcz31_0 : wr.cell? ⟨gb199, 0, none⟩ = some (.int .i64 a1_0) := (blk_cell BK199.out 0).trans rfl
              have hcz31_1 : wr.cell? ⟨gb199, 1, none⟩ = some (.int .i64 a1_1) := (blk_cell BK199.out 1).trans rfl
              have hcz31_2 : wr.cell? ⟨gb199, 2, none⟩ = some (.string a1_2) := (blk_cell BK199.out 2).trans rfl
              have hfz31_0 := blk_frozen BK199.out 0
              have hfz31_1 := blk_frozen BK199.out 1
              have hfz31_2 := blk_frozen BK199.out 2
              have p26 : 0 ≤ (x44_2 : Int) := of_decide_eq_true (by first | (with_reducible assumption) | assumption)
              have q26 : x44_2 < (a1_2.size : Int) := of_decide_eq_true (by first | (with_reducible assumption) | assumption)
              have hx26 := bt_at a1_2 x44_2
              replace p26 := eq_true p26
              replace q26 := eq_true q26
              go_wp2_with (first | ((with_reducible refine gate_builtin (b := .append) (xs := #[.tmp 47, .tmp 52]) rfl ?_); at_builtin; refine Kd.R_append (Kd.int .u8) (w0 := w0) w0.heap.size rfl (.tmp 47) (.tmp 52) 44 5 (.int .u8 0) 1 rfl Try.underlying44 info5 rfl (by decide) (by omega) u0 x0_2 (bt a1_2 x44_2) [.int .u8 (bt a1_2 x44_2)] (fun k_ => (P0_ k_ ∨ w.heap.size ≤ k_)) (fun _ => False) rfl rfl ?aP (fun _ hk => hk.elim) ?aF ?aO ?aB ?aS ?aL ?_; (case aP => exact rfl); (case aB => exact (by repeat (first | (with_reducible first | exact HB.out | apply below_alloc | apply pw_below_drewN | apply below_drew1 | refine below_set ?_ GE199.out) | exact HB.out))); (case aF => exact (fun k_ hk => (.inr (Nat.le_trans (by first | exact HK.out.1 | exact (show Kept w _ (fun k_ => P0_ k_) from by repeat (first | (with_reducible first | exact HK.out | apply Kept.alloc | apply Kept.drewN | apply Kept.drew | refine Kept.setCell ?_ (.inr GW199.out) _) | exact HK.out)).1) hk)))); (case aO => exact (by (with_reducible repeat (first | apply Kd.R_alloc | apply Kd.R_drewN | apply Kd.R_drew)); exact HO_0.out)); (case aS => exact (below_size (by repeat (first | (with_reducible first | exact HB.out | apply below_alloc | apply pw_below_drewN | apply below_drew1 | refine below_set ?_ GE199.out) | exact HB.out)))); (case aL => have := LMc27.out; omega); intro v207 w32 ho hb hg hat; rw [← Ny206.out] at ho; have n0_ := Aside0.mk (blk_grown (g := gb199) (o := .cells #[.int .i64 a1_0, .int .i64 a1_1, .string a1_2] 25 (0, 0)) (bk_ BK199) hg (Kd.R_ne HO_0.out BK199.out (by decide))); have n1_ := Aside0.mk (hb); have n2_ := Aside0.mk (Kept.of_grown (S := (fun k_ => P0_ k_)) hg (by repeat (first | (with_reducible first | exact HK.out | apply Kept.alloc | apply Kept.drewN | apply Kept.drew | refine Kept.setCell ?_ (.inr GW199.out) _) | exact HK.out)) (fun k_ e_ => (HO_0.out.1 k_ e_))); have n3_ := Aside0.mk (ho); clear BK199; clear HB; clear HK; clear HO_0; have BK199 := n0_; have HB := n1_; have HK := n2_; have HO208 := n3_; clear n0_ n1_ n2_ n3_; clear ho hb hg hat; have hcz33_0 : w32.cell? ⟨gb199, 0, none⟩ = some (.int .i64 a1_0) := (blk_cell BK199.out 0).trans rfl; have hcz33_1 : w32.cell? ⟨gb199, 1, none⟩ = some (.int .i64 a1_1) := (blk_cell BK199.out 1).trans rfl; have hcz33_2 : w32.cell? ⟨gb199, 2, none⟩ = some (.string a1_2) := (blk_cell BK199.out 2).trans rfl; have hfz33_0 := blk_frozen BK199.out 0; have hfz33_1 := blk_frozen BK199.out 1; have hfz33_2 := blk_frozen BK199.out 2; have p28 : 0 ≤ (x44_2 : Int) := of_decide_eq_true (by first | (with_reducible assumption) | assumption); have q28 : x44_2 < (a1_2.size : Int) := of_decide_eq_true (by first | (with_reducible assumption) | assumption); have hx28 := bt_at a1_2 x44_2; replace p28 := eq_true p28; replace q28 := eq_true q28) | ((with_reducible refine gate_builtin (b := .append) (xs := #[.tmp 59, .tmp 60]) rfl ?_); at_builtin; refine Kd.R_append (Kd.int .u8) (w0 := w0) w0.heap.size rfl (.tmp 59) (.tmp 60) 44 5 (.int .u8 0) 1 rfl Try.underlying44 info5 rfl (by decide) (by omega) v207 y206 255 [.int .u8 255] (fun k_ => (P0_ k_ ∨ w.heap.size ≤ k_)) (fun _ => False) rfl rfl ?aP (fun _ hk => hk.elim) ?aF ?aO ?aB ?aS ?aL ?_; (case aP => exact rfl); (case aB => exact (by repeat (first | (with_reducible first | exact HB.out | apply below_alloc | apply pw_below_drewN | apply below_drew1 | refine below_set ?_ GE199.out) | exact HB.out))); (case aF => exact (fun k_ hk => (.inr (Nat.le_trans (by first | exact HK.out.1 | exact (show Kept w _ (fun k_ => P0_ k_) from by repeat (first | (with_reducible first | exact HK.out | apply Kept.alloc | apply Kept.drewN | apply Kept.drew | refine Kept.setCell ?_ (.inr GW199.out) _) | exact HK.out)).1) hk)))); (case aO => exact (by (with_reducible repeat (first | apply Kd.R_alloc | apply Kd.R_drewN | apply Kd.R_drew)); exact HO208.out)); (case aS => exact (below_size (by repeat (first | (with_reducible first | exact HB.out | apply below_alloc | apply pw_below_drewN | apply below_drew1 | refine below_set ?_ GE199.out) | exact HB.out)))); (case aL => have := LMc30.out; omega); intro v210 w34 ho hb hg hat; rw [← Ny209.out] at ho; have n0_ := Aside0.mk (blk_grown (g := gb199) (o := .cells #[.int .i64 a1_0, .int .i64 a1_1, .string a1_2] 25 (0, 0)) (bk_ BK199) hg (Kd.R_ne HO208.out BK199.out (by decide))); have n1_ := Aside0.mk (hb); have n2_ := Aside0.mk (Kept.of_grown (S := (fun k_ => P0_ k_)) hg (by repeat (first | (with_reducible first | exact HK.out | apply Kept.alloc | apply Kept.drewN | apply Kept.drew | refine Kept.setCell ?_ (.inr GW199.out) _) | exact HK.out)) (fun k_ e_ => (HO208.out.1 k_ e_))); have n3_ := Aside0.mk (ho); clear BK199; clear HB; clear HK; clear HO208; have BK199 := n0_; have HB := n1_; have HK := n2_; have HO211 := n3_; clear n0_ n1_ n2_ n3_; clear ho hb hg hat))
              go_roundg k2
              case measure => have := HJ16.out; have := HK2.out; omega
              case rel => exact ⟨(y209), (wrap64 (x44_2 + 1)), (by first | rfl | (simp; done) | (simp [*]; done)), H', ⟨by have := HJ16.out; have := HK2.out; omega⟩, ⟨by (with_reducible repeat (first | apply Kd.R_alloc | apply Kd.R_drewN | apply Kd.R_drew)); exact HO211.out⟩, ⟨by (with_reducible repeat (first | refine blk_drewN ?_ _ | refine blk_drew ?_ | refine blk_alloc ?_ _)); exact BK199.out⟩, ⟨by repeat (first | (with_reducible first | exact HK.out | apply Kept.alloc | apply Kept.drewN | apply Kept.drew | refine Kept.setCell ?_ (.inr GW199.out) _) | exact HK.out)⟩, ⟨by repeat (first | (with_reducible first | exact HB.out | apply below_alloc | apply pw_below_drewN | apply below_drew1 | refine below_set ?_ GE199.out) | exact HB.out)⟩⟩
             ·rw [if_neg c30] at H
              exact absurd H (by simp)
            ·rw [if_neg c29] at H
             have c29b0 : ((bt a1_2 x44_2) == 0) = false := beq_eq_false_iff_ne.mpr c29
             have c29b1 : ((bt a1_2 x44_2) != 0) = true := bne_iff_ne.mpr c29
             have H' := Aside0.mk H
             clear H
             have hcz35_0 : wr.cell? ⟨gb199, 0, none⟩ = some (.int .i64 a1_0) := (blk_cell BK199.out 0).trans rfl
             have hcz35_1 : wr.cell? ⟨gb199, 1, none⟩ = some (.int .i64 a1_1) := (blk_cell BK199.out 1).trans rfl
             have hcz35_2 : wr.cell? ⟨gb199, 2, none⟩ = some (.string a1_2) := (blk_cell BK199.out 2).trans rfl
             have hfz35_0 := blk_frozen BK199.out 0
             have hfz35_1 := blk_frozen BK199.out 1
             have hfz35_2 := blk_frozen BK199.out 2
             have p26 : 0 ≤ (x44_2 : Int) := of_decide_eq_true (by first | (with_reducible assumption) | assumption)
             have q26 : x44_2 < (a1_2.size : Int) := of_decide_eq_true (by first | (with_reducible assumption) | assumption)
             have hx26 := bt_at a1_2 x44_2
             replace p26 := eq_true p26
             replace q26 := eq_true q26
             go_wp2_with (first | ((with_reducible refine gate_builtin (b := .append) (xs := #[.tmp 47, .tmp 52]) rfl ?_); at_builtin; refine Kd.R_append (Kd.int .u8) (w0 := w0) w0.heap.size rfl (.tmp 47) (.tmp 52) 44 5 (.int .u8 0) 1 rfl Try.underlying44 info5 rfl (by decide) (by omega) u0 x0_2 (bt a1_2 x44_2) [.int .u8 (bt a1_2 x44_2)] (fun k_ => (P0_ k_ ∨ w.heap.size ≤ k_)) (fun _ => False) rfl rfl ?aP (fun _ hk => hk.elim) ?aF ?aO ?aB ?aS ?aL ?_; (case aP => exact rfl); (case aB => exact (by repeat (first | (with_reducible first | exact HB.out | apply below_alloc | apply pw_below_drewN | apply below_drew1 | refine below_set ?_ GE199.out) | exact HB.out))); (case aF => exact (fun k_ hk => (.inr (Nat.le_trans (by first | exact HK.out.1 | exact (show Kept w _ (fun k_ => P0_ k_) from by repeat (first | (with_reducible first | exact HK.out | apply Kept.alloc | apply Kept.drewN | apply Kept.drew | refine Kept.setCell ?_ (.inr GW199.out) _) | exact HK.out)).1) hk)))); (case aO => exact (by (with_reducible repeat (first | apply Kd.R_alloc | apply Kd.R_drewN | apply Kd.R_drew)); exact HO_0.out)); (case aS => exact (below_size (by repeat (first | (with_reducible first | exact HB.out | apply below_alloc | apply pw_below_drewN | apply below_drew1 | refine below_set ?_ GE199.out) | exact HB.out)))); (case aL => have := LMc27.out; omega); intro v207 w36 ho hb hg hat; rw [← Ny206.out] at ho; have n0_ := Aside0.mk (blk_grown (g := gb199) (o := .cells #[.int .i64 a1_0, .int .i64 a1_1, .string a1_2] 25 (0, 0)) (bk_ BK199) hg (Kd.R_ne HO_0.out BK199.out (by decide))); have n1_ := Aside0.mk (hb); have n2_ := Aside0.mk (Kept.of_grown (S := (fun k_ => P0_ k_)) hg (by repeat (first | (with_reducible first | exact HK.out | apply Kept.alloc | apply Kept.drewN | apply Kept.drew | refine Kept.setCell ?_ (.inr GW199.out) _) | exact HK.out)) (fun k_ e_ => (HO_0.out.1 k_ e_))); have n3_ := Aside0.mk (ho); clear BK199; clear HB; clear HK; clear HO_0; have BK199 := n0_; have HB := n1_; have HK := n2_; have HO208 := n3_; clear n0_ n1_ n2_ n3_; clear ho hb hg hat; have hcz37_0 : w36.cell? ⟨gb199, 0, none⟩ = some (.int .i64 a1_0) := (blk_cell BK199.out 0).trans rfl; have hcz37_1 : w36.cell? ⟨gb199, 1, none⟩ = some (.int .i64 a1_1) := (blk_cell BK199.out 1).trans rfl; have hcz37_2 : w36.cell? ⟨gb199, 2, none⟩ = some (.string a1_2) := (blk_cell BK199.out 2).trans rfl; have hfz37_0 := blk_frozen BK199.out 0; have hfz37_1 := blk_frozen BK199.out 1; have hfz37_2 := blk_frozen BK199.out 2; have p28 : 0 ≤ (x44_2 : Int) := of_decide_eq_true (by first | (with_reducible assumption) | assumption); have q28 : x44_2 < (a1_2.size : Int) := of_decide_eq_true (by first | (with_reducible assumption) | assumption); have hx28 := bt_at a1_2 x44_2; replace p28 := eq_true p28; replace q28 := eq_true q28))
             go_roundg k2
             case measure => have := HJ16.out; have := HK2.out; omega
             case rel => exact ⟨(y206), (wrap64 (x44_2 + 1)), (by first | rfl | (simp; done) | (simp [*]; done)), H', ⟨by have := HJ16.out; have := HK2.out; omega⟩, ⟨by (with_reducible repeat (first | apply Kd.R_alloc | apply Kd.R_drewN | apply Kd.R_drew)); exact HO208.out⟩, ⟨by (with_reducible repeat (first | refine blk_drewN ?_ _ | refine blk_drew ?_ | refine blk_alloc ?_ _)); exact BK199.out⟩, ⟨by repeat (first | (with_reducible first | exact HK.out | apply Kept.alloc | apply Kept.drewN | apply Kept.drew | refine Kept.setCell ?_ (.inr GW199.out) _) | exact HK.out)⟩, ⟨by repeat (first | (with_reducible first | exact HB.out | apply below_alloc | apply pw_below_drewN | apply below_drew1 | refine below_set ?_ GE199.out) | exact HB.out)⟩⟩
           ·rw [if_neg c27] at H
            exact absurd H (by simp)
          ·rw [if_neg c25] at H
           exact absurd H (by simp)
         ·rw [if_neg c24] at H
          exact absurd H (by simp)
        ·rw [if_neg c23] at H
         have c23b0 : decide (x44_2 < (a1_2.size : Int)) = false := decide_eq_false c23
         clear c23
         obtain ⟨y212, hy212⟩ : ∃ y_ : List Int, y_ = (([0, 1] : List Int)) := ⟨_, rfl⟩
         replace H : (if x0_2.length + y212.length < 140737488355328 then (some (x0_2 ++ y212)) else (none)) = some r := by first | (rw [hy212]; with_reducible exact H) | (have H2_ := (Option.bind_some _ _).symm.trans H; rw [hy212]; with_reducible exact H2_) | (have H2_ := (Option.bind_some _ _).symm.trans H; with_reducible exact H2_) | with_reducible exact H | (rw [hy212]; exact H) | exact H
         have Ny212 := Aside0.mk hy212
         clear hy212
         by_cases c38 : x0_2.length + y212.length < 140737488355328
         ·rw [if_pos c38] at H
          have LMc38 := Aside0.mk c38
          clear c38
          obtain ⟨y215, hy215⟩ : ∃ y_ : List Int, y_ = (x0_2 ++ y212) := ⟨_, rfl⟩
          replace H : (some y215) = some r := by first | (rw [hy215]; with_reducible exact H) | (have H2_ := (Option.bind_some _ _).symm.trans H; rw [hy215]; with_reducible exact H2_) | (have H2_ := (Option.bind_some _ _).symm.trans H; with_reducible exact H2_) | with_reducible exact H | (rw [hy215]; exact H) | exact H
          have Ny215 := Aside0.mk hy215
          clear hy215
          obtain rfl := Option.some.inj H
          go_wp2_with (first | ((with_reducible refine gate_dst (N := 64) rfl ?_); refine Kd.R_lit (Kd.int .u8) _ 5 ?hg (N := 64) ?hd (xs := ([0, 1] : List Int)) (inner := [.int .u8 0, .int .u8 1]) (ok := fun _ => True) (okp := fun _ => True) ?hr ?hp (fun _ hk => hk) trivial (Below.refl _ _) (Nat.le_refl _) (by simp) ?_; (case hd => rfl); (case hg => rfl); (case hr => first | (go_simp; done) | (go_simp; rfl)); (case hp => exact (Reps.one (show Kd.M (Kd.int .u8) _ _ _ 0 [.int .u8 0] from rfl) (Reps.one (show Kd.M (Kd.int .u8) _ _ _ 1 [.int .u8 1] from rfl) (Reps.none _ _)))); intro v213 w39 ho40 hb hg_ hnew_; clear hg_ hnew_; (first | rw [← Ny212.out] at ho40 | (simp only [Int.reduceToNat] at ho40; rw [← Ny212.out] at ho40)); have n0_ := Aside0.mk (Kd.R_elder' (by (with_reducible repeat (first | apply Kd.R_alloc | apply Kd.R_drewN | apply Kd.R_drew)); exact HO_0.out) (Kd.R_base ho40) hb); have n1_ := Aside0.mk (Kd.R_lower (Kd.R_new' (Kd.R_newM (M := fun k_ => (P0_ k_ ∨ w.heap.size ≤ k_)) ho40 (by first | exact HK.out.1 | exact (show Kept w _ (fun k_ => P0_ k_) from by repeat (first | (with_reducible first | exact HK.out | apply Kept.alloc | apply Kept.drewN | apply Kept.drew | refine Kept.setCell ?_ (.inr GW199.out) _) | exact HK.out)).1) (fun k_ h_ => .inr h_)) (Kd.R_lt (by (with_reducible repeat (first | apply Kd.R_alloc | apply Kd.R_drewN | apply Kd.R_drew)); exact HO_0.out))) (below_size (by repeat (first | (with_reducible first | exact HB.out | apply below_alloc | apply pw_below_drewN | apply below_drew1 | refine below_set ?_ GE199.out) | exact HB.out)))); have n2_ := Aside0.mk (blk_below (g := gb199) (o := .cells #[.int .i64 a1_0, .int .i64 a1_1, .string a1_2] 25 (0, 0)) (bk_ BK199) hb); have n3_ := Aside0.mk (Kept.below (S := (fun k_ => P0_ k_)) (by repeat (first | (with_reducible first | exact HK.out | apply Kept.alloc | apply Kept.drewN | apply Kept.drew | refine Kept.setCell ?_ (.inr GW199.out) _) | exact HK.out)) hb); have n4_ := Aside0.mk (below_step (by repeat (first | (with_reducible first | exact HB.out | apply below_alloc | apply pw_below_drewN | apply below_drew1 | refine below_set ?_ GE199.out) | exact HB.out)) hb); clear HO_0; clear BK199; clear HK; clear HB; have HO_0 := n0_; have HO214 := n1_; have BK199 := n2_; have HK := n3_; have HB := n4_; clear n0_ n1_ n2_ n3_ n4_; clear hb ho40; obtain ⟨Ao42, co42, eo42⟩ := Kd.R_slice HO214.out; subst eo42) | ((with_reducible refine gate_builtin (b := .append) (xs := #[.tmp 63, .tmp 64]) rfl ?_); at_builtin; refine Kd.R_append_rows (Kd.int .u8) (w0 := w0) w0.heap.size rfl (.tmp 63) (.tmp 64) 44 5 (.int .u8 0) 1 rfl Try.underlying44 info5 rfl (by decide) (by omega) u0 x0_2 y212 _ _ _ (fun k_ => (P0_ k_ ∨ w.heap.size ≤ k_) ∧ some k_ ≠ (.slice Ao42 y212.length co42 : Value).ownBlock) (fun _ => False) rfl rfl ?aO ?aR (fun _ _ h => h) (fun _ h => h.elim) ?aF ?aB ?aS ?aL ?_; (case aR => repeat (first | exact (Kd.R_reads' HO214.out).2.2 | (with_reducible refine Kd.C_alloc ?_ _) | (with_reducible refine Kd.C_drewN ?_ _) | (with_reducible refine Kd.C_drew ?_))); (case aB => exact (by repeat (first | (with_reducible first | exact HB.out | apply below_alloc | apply pw_below_drewN | apply below_drew1 | refine below_set ?_ GE199.out) | exact HB.out))); (case aF => exact (fun k_ hk => ⟨(.inr (Nat.le_trans (by first | exact HK.out.1 | exact (show Kept w _ (fun k_ => P0_ k_) from by repeat (first | (with_reducible first | exact HK.out | apply Kept.alloc | apply Kept.drewN | apply Kept.drew | refine Kept.setCell ?_ (.inr GW199.out) _) | exact HK.out)).1) hk)), Kd.fresh' (Kd.R_lt (by (with_reducible repeat (first | apply Kd.R_alloc | apply Kd.R_drewN | apply Kd.R_drew)); exact HO214.out)) k_ hk⟩)); (case aO => exact (by (with_reducible repeat (first | apply Kd.R_alloc | apply Kd.R_drewN | apply Kd.R_drew)); exact HO_0.out)); (case aS => exact (below_size (by repeat (first | (with_reducible first | exact HB.out | apply below_alloc | apply pw_below_drewN | apply below_drew1 | refine below_set ?_ GE199.out) | exact HB.out)))); (case aL => have := LMc38.out; omega); intro v216 w41 ho hb hg hat; rw [← Ny215.out] at ho; have n0_ := Aside0.mk (blk_grown (g := gb199) (o := .cells #[.int .i64 a1_0, .int .i64 a1_1, .string a1_2] 25 (0, 0)) (bk_ BK199) hg (Kd.R_ne HO_0.out BK199.out (by decide))); have n1_ := Aside0.mk (Kd.R_after (ok := (fun k_ => (P0_ k_ ∨ w.heap.size ≤ k_))) (by (with_reducible repeat (first | apply Kd.R_alloc | apply Kd.R_drewN | apply Kd.R_drew)); exact Kd.R_mono HO214.out (fun _ hk => ⟨hk.1.1, hk.2⟩)) hg hat); have n2_ := Aside0.mk (hb); have n3_ := Aside0.mk (Kept.of_grown (S := (fun k_ => P0_ k_)) hg (by repeat (first | (with_reducible first | exact HK.out | apply Kept.alloc | apply Kept.drewN | apply Kept.drew | refine Kept.setCell ?_ (.inr GW199.out) _) | exact HK.out)) (fun k_ e_ => (HO_0.out.1 k_ e_).1)); have n4_ := Aside0.mk (ho); clear BK199; clear HO214; clear HB; clear HK; clear HO_0; have BK199 := n0_; have HO214 := n1_; have HB := n2_; have HK := n3_; have HO217 := n4_; clear n0_ n1_ n2_ n3_ n4_; clear ho hb hg hat))
          go_ret
          exact ⟨_, by first | rfl | (simp [errW_none, errW_some] <;> rfl) | (simp [*, errW_none, errW_some] <;> rfl), by (with_reducible repeat (first | apply Kd.R_alloc | apply Kd.R_drewN | apply Kd.R_drew)); exact Kd.R_mono HO217.out (fun _ hk => hk.1), by repeat (first | (with_reducible first | exact HB.out | apply below_alloc | apply pw_below_drewN | apply below_drew1 | refine below_set ?_ GE199.out) | exact HB.out), by repeat (first | (with_reducible first | exact HK.out | apply Kept.alloc | apply Kept.drewN | apply Kept.drew | refine Kept.setCell ?_ (.inr GW199.out) _) | exact HK.out)⟩
         ·rw [if_neg c38] at H
          exact absurd H (by simp)
     ·replace c21 := Bool.eq_false_iff.mpr c21
      subst c21
      have H1 : (some l0) = some r := by rw [if_neg (show ¬ (false = true) by decide)] at H; exact H
      clear H
      have H := H1
      clear H1
      obtain rfl := Option.some.inj H
      go_wp2
      go_ret
      exact ⟨_, by first | rfl | (simp [errW_none, errW_some] <;> rfl) | (simp [*, errW_none, errW_some] <;> rfl), by (with_reducible repeat (first | apply Kd.R_alloc | apply Kd.R_drewN | apply Kd.R_drew)); exact HO_0.out, by repeat (first | (with_reducible first | exact HB.out | apply below_alloc | apply pw_below_drewN | apply below_drew1 | refine below_set ?_ GE199.out) | exact HB.out), by repeat (first | (with_reducible first | exact HK.out | apply Kept.alloc | apply Kept.drewN | apply Kept.drew | refine Kept.setCell ?_ (.inr GW199.out) _) | exact HK.out)⟩
def keys_turned.f (l0 : List Bool) (a1 : Int) : Option (Bool) := if a1 < (l0.length : Int) then (if 0 ≤ a1 then (some (rdOf false l0 a1)) else (none)) else (some false)
set_option maxHeartbeats 8000000 in
set_option maxRecDepth 100000 in
theorem keys_turned.calls (A0 : Option Addr) (c0 : Nat) (l0 : List Bool) (a1 : Int) (r : Bool) (w : World) (hr0 : Kd.C Kd.bool w A0 l0.length l0) (hc0 : l0.length ≤ c0) (h : keys_turned.f l0 a1 = some r) :
  Calls Try.prog 53 #[.slice A0 l0.length c0, .int .i64 a1] w fun e w' => e = .returned (.bool r) ∧ Drawn0 w w' := by
 have HR0 := Aside0.mk hr0
 have HC0 := Aside0.mk hc0
 clear hr0 hc0
 have H : (if a1 < (l0.length : Int) then (if 0 ≤ a1 then (some (rdOf false l0 a1)) else (none)) else (some false)) = some r := h
 clear h
 by_cases c3 : a1 < (l0.length : Int)
 ·rw [if_pos c3] at H
  have c3b0 : decide (a1 < (l0.length : Int)) = true := decide_eq_true c3
  clear c3
  by_cases c4 : 0 ≤ a1
  ·rw [if_pos c4] at H
   have c4b0 : decide (0 ≤ a1) = true := decide_eq_true c4
   clear c4
   obtain rfl := Option.some.inj H
   have p218 : 0 ≤ (a1 : Int) := of_decide_eq_true (by first | (with_reducible assumption) | assumption)
   have q218 : a1 < (l0.length : Int) := of_decide_eq_true (by first | (with_reducible assumption) | assumption)
   obtain ⟨ad218, e218, hx218_0⟩ := Kd.at_bool HR0.out a1 p218 q218
   cases e218
   replace p218 := eq_true p218
   replace q218 := eq_true q218
   go_enter Try.func53, Try.ntmps53
   go_wp2
   go_ret
   exact ⟨by first | rfl | (simp; done) | (simp [*]; done), by repeat (first | exact Drawn0.refl _ | apply Drawn0.step)⟩
  ·rw [if_neg c4] at H
   exact absurd H (by simp)
 ·rw [if_neg c3] at H
  have c3b0 : decide (a1 < (l0.length : Int)) = false := decide_eq_false c3
  clear c3
  obtain rfl := Option.some.inj H
  go_enter Try.func53, Try.ntmps53
  go_wp2
  go_ret
  exact ⟨by first | rfl | (simp; done) | (simp [*]; done), by repeat (first | exact Drawn0.refl _ | apply Drawn0.step)⟩
end Go.Proofs.Ytmfenomjhmhogaa.P
end
section
namespace Go.Proofs.Ytmfenomjhmhogaa.P
open Go.RowKit Go.Proofs.YtmfenomjhmhogaaW.PrintWords Go.Proofs.YtmfenomjhmhogaaW.PrintLast Go.Proofs.YtmfenomjhmhogaaW.PrintMore
attribute [local go_sem] max2_int min2_int max_two min_two max_three min_three max_four min_four
set_option linter.unusedVariables false
set_option linter.unusedSimpArgs false
def fx (c : Int) : Int := Go.bits .xor .u8 255 c
def fl (L : List Int) (o i : Nat) : List Int := L.take o ++ (((L.drop o).take i).map fx ++ L.drop (o + i))
theorem fl_zero (L : List Int) (o : Nat) : fl L o 0 = L := by simp [fl]
theorem fl_all (L : List Int) (o m : Nat) (h : o + m = L.length) : fl L o m = L.take o ++ (L.drop o).map fx := by
  unfold fl
  have e1 : (L.drop o).take m = L.drop o := List.take_of_length_le (by simp; omega)
  rw [e1, List.drop_of_length_le (Nat.le_of_eq h.symm), List.append_nil]
theorem fl_at (L : List Int) (o i : Nat) (h : o + i < L.length) : rd (fl L o i) ((o + i : Nat) : Int) = L[o + i] := by
  unfold rd fl
  rw [Int.toNat_natCast, List.getD_eq_getElem?_getD, List.getElem?_append_right (by simp; omega), List.getElem?_append_right (by simp; omega)]
  simp only [List.length_take, List.length_map, List.length_drop]
  rw [show o + i - min o L.length - min i (L.length - o) = 0 by omega, List.getElem?_drop, Nat.add_zero, List.getElem?_eq_getElem h]
  rfl
theorem fl_succ (L : List Int) (o i : Nat) (h : o + i < L.length) : (fl L o i).set (o + i) (fx (rd (fl L o i) ((o + i : Nat) : Int))) = fl L o (i + 1) := by
  rw [fl_at L o i h]
  unfold fl
  rw [List.set_append_right _ _ (by simp; omega), List.set_append_right _ _ (by simp; omega)]
  simp only [List.length_take, List.length_map, List.length_drop]
  rw [show o + i - min o L.length - min i (L.length - o) = 0 by omega, List.drop_eq_getElem_cons h, List.set_cons_zero, List.take_add_one, List.getElem?_drop, List.getElem?_eq_getElem h]
  simp [Nat.add_assoc]
set_option maxHeartbeats 4000000 in
set_option maxRecDepth 100000 in
theorem keys_flip.at_ (P0_ : Nat → Prop) (g n cap cap' o m : Nat) (L : List Int) (w0 w : World) (hB : Below w0.heap.size w0 w) (ho0 : Kd.R (Kd.int .u8) 5 w w0.heap.size P0_ (.slice (some ⟨g, 0, none⟩) n cap) L) (hm : o + m = n) :
    Calls Try.prog 54 #[.slice (some ⟨g, o, none⟩) m cap'] w fun e w' => e = .returned (.tuple #[]) ∧ Kd.R (Kd.int .u8) 5 w' w0.heap.size P0_ (.slice (some ⟨g, 0, none⟩) n cap) (L.take o ++ (L.drop o).map fx) ∧ Below w0.heap.size w0 w' ∧ Kept w w' P0_ := by
  have hn : n = L.length := (Kd.R_reads' ho0).1
  have hmx : n ≤ 9223372036854775807 := by
    have h1 := (Kd.R_reads' ho0).2.2
    have h2 : L.length ≤ 9223372036854775807 := (Kd.reads_of_C (enc := Value.int .u8) (d := (0 : Int)) (h1 := fun _ => rfl) h1).2.1
    omega
  have hg : w0.heap.size ≤ g := by
    obtain ⟨inner, ho⟩ := Kd.R_own ho0
    rcases ho.2 with ⟨h1, _⟩ | ⟨g', c, cur, h1, h2, _⟩
    · cases h1
    · injection h1 with h1 _ _
      injection h1 with h1
      injection h1 with h1 _ _
      omega
  have HN := Aside0.mk hn
  have HM := Aside0.mk hm
  have HMX : m ≤ 9223372036854775807 := by omega
  have HG := Aside0.mk hg
  have HO := Aside0.mk (show Kd.R (Kd.int .u8) 5 w w0.heap.size P0_ (.slice (some ⟨g, 0, none⟩) n cap) (fl L o 0) by rw [fl_zero]; exact ho0)
  have HK := Aside0.mk (Kept.refl w P0_)
  have HB := Aside0.mk hB
  clear hB ho0 hn hm hmx hg
  go_enter Try.func54, Try.ntmps54
  go_wp2
  go_loopg [5] (m + 1) (fun kq v5 w' => ∃ (i : Nat), v5 = .int .i64 (i : Int) ∧ Aside0 (i ≤ m ∧ m - i < kq) ∧ Aside0 (Kd.R (Kd.int .u8) 5 w' w0.heap.size P0_ (.slice (some ⟨g, 0, none⟩) n cap) (fl L o i)) ∧ Aside0 (Kept w w' P0_) ∧ Aside0 (Below w0.heap.size w0 w'))
  case atStart => exact ⟨0, rfl, ⟨by omega⟩, HO, HK, HB⟩
  case round =>
    clear HO HK HB
    obtain ⟨i, rfl, HI, HO, HK, HB⟩ := hrel
    have hi := HI.out.1
    by_cases hlt : i < m
    · have hL : o + i < L.length := by have := HN.out; have := HM.out; omega
      obtain ⟨hcell, hfz⟩ := Kd.R_celln (0 : Int) HO.out ((o + i : Nat) : Int) (by omega) (by have := HM.out; omega)
      have HP := Kd.R_putg HO.out ((o + i : Nat) : Int) (fx (rd (fl L o i) ((o + i : Nat) : Int)))
      rw [Int.toNat_natCast] at hcell hfz HP
      rw [fl_succ L o i hL] at HP
      obtain ⟨HP1, HP2⟩ := HP
      have HR1 := Aside0.mk HP1
      have HG1 := Aside0.mk HP2
      clear HP1 HP2
      have hc1 : wr.cell? ⟨g, o + i, none⟩ = some (.int .u8 (rd (fl L o i) ((o + i : Nat) : Int))) := hcell
      clear hcell
      generalize hv : rd (fl L o i) ((o + i : Nat) : Int) = v at hc1 HR1 HG1
      clear hv
      have b0 : decide (i < m) = true := decide_eq_true hlt
      have b1 : decide ((i : Int) < (m : Int)) = true := decide_eq_true (by omega)
      go_wp2
      obtain ⟨k1, rfl⟩ : ∃ k1, gk = k1 + 1 := ⟨gk - 1, by have := HI.out; omega⟩
      go_roundg k1
      case measure => omega
      case rel =>
        refine ⟨i + 1, by go_num, ⟨?_⟩, HR1, ⟨Kept.of_grown HG1.out HK.out (fun k e => .inl (HO.out.1 k (by simpa [Value.ownBlock] using e)))⟩, ⟨below_set HB.out HG.out⟩⟩
        have := HI.out
        omega
    · obtain rfl : i = m := by omega
      have b0 : decide (i < i) = false := decide_eq_false hlt
      clear hlt
      go_wp2
      first | go_end0 | ((try simp only [Exit.inBlock, Exit.then]); refine bodyPost_ret (results_none rfl _ _ _) rfl ?_)
      exact ⟨rfl, by rw [← fl_all L o i (by have := HN.out; have := HM.out; omega)]; exact HO.out, HB.out, HK.out⟩
end Go.Proofs.Ytmfenomjhmhogaa.P
end
section
namespace Go.Proofs.Ytmfenomjhmhogaa.P
open Go.RowKit Go.Proofs.YtmfenomjhmhogaaW.PrintWords Go.Proofs.YtmfenomjhmhogaaW.PrintLast Go.Proofs.YtmfenomjhmhogaaW.PrintMore
attribute [local go_sem] max2_int min2_int max_two min_two max_three min_three max_four min_four
set_option linter.unusedVariables false
set_option linter.unusedSimpArgs false
theorem cut_at {P : Program} (t e : TypeId) (kl : IntKind) (ht : P.underlying t = some (.slice e)) (hi : (P.info? e).map (fun i => (i.zero, i.size, i.bytes)) = some (some (.int .u8 0), 1, 1)) (g n c m : Nat) (hm : m < n) (hc : n ≤ c) (W : World) :
    (Instr.slice t (.slice (some ⟨g, 0, none⟩) n c) (some (.int kl (m : Int))) none none).run P W = .ok (.slice (some ⟨g, m, none⟩) (n - m) (c - m)) W := by
  obtain ⟨i, hi, h5⟩ := Option.map_eq_some_iff.1 hi
  simp only [Prod.mk.injEq] at h5
  have hel : P.elem t = e := by simp [Program.elem, ht]
  have hu : P.underlying t = some (.slice (P.elem t)) := by rw [hel]; exact ht
  rw [run_slice_l W t (some ⟨g, 0, none⟩) n c hu kl (m : Int) (Int.natCast_nonneg _) (by omega), hel]
  have hne : ¬ c = m := by omega
  simp [sizeOf, typeInfo, hi, h5.2.1, sliced, Result.andThen, hne, Addr.add]
  try omega
def keys_Encode.l0 : Nat → List Bool → List Int → List (S25) → Int → Int → Option (List Int × Int)
  | 0, _, _, _, _, _ => none
  | k + 1, x1, x6, x10, x11, x12 => if x12 < x11 then (if 0 ≤ x12 then (if x12 < (x10.length : Int) then ((value_Check.f ((rd_T25 x10 x12).f0) ((rd_T25 x10 x12).f1) ((rd_T25 x10 x12).f2)).bind fun t125 => (if t125 = 0 then (if x6.length < 140737488355328 then ((keys_put.f k (x6 ++ [(wrap64 (((rd_T25 x10 x12).f0) + 1)) % 256]) ((rd_T25 x10 x12).f0) ((rd_T25 x10 x12).f1) ((rd_T25 x10 x12).f2)).bind fun t129 => ((keys_turned.f x1 x12).bind fun t132 => (if t132 = true then (if x6.length < t129.length then (keys_Encode.l0 k x1 (t129.take x6.length ++ (t129.drop x6.length).map fx) x10 x11 (wrap64 (x12 + 1))) else none) else (keys_Encode.l0 k x1 t129 x10 x11 (wrap64 (x12 + 1)))))) else (none)) else (some (([] : List Int), 3)))) else (none)) else (none)) else (some (x6, 0))
def keys_Encode.f (k : Nat) (l0 : List (S25)) (l1 : List Bool) : Option (List Int × Int) := keys_Encode.l0 k l1 ([] : List Int) l0 (l0.length : Int) 0
theorem keys_Encode.mono_l : ∀ k, (∀ y0 y1 y2 y3 y4, LeO (keys_Encode.l0 k y0 y1 y2 y3 y4) (keys_Encode.l0 (k + 1) y0 y1 y2 y3 y4))
  | 0 => fun _ _ _ _ _ r h => by simp [keys_Encode.l0] at h
  | k + 1 => by
    have ih0 := keys_Encode.mono_l k
    · intro y0 y1 y2 y3 y4
      unfold keys_Encode.l0
      repeat' first
      | (with_reducible exact ih0 _ _ _ _ _)
      | (with_reducible exact keys_put.mono _ _ _ _ _)
      | (with_reducible exact LeO.refl _)
      | (with_reducible exact LeO.none _)
      | (with_reducible refine LeO.ite ?_ ?_)
      | (with_reducible refine LeO.bind ?_ (fun _ => ?_))
      | exact ih0 _ _ _ _ _
      | exact keys_put.mono _ _ _ _ _
      | exact LeO.none _
      | refine LeO.ite ?_ ?_
      | refine LeO.bind ?_ (fun _ => ?_)
theorem keys_Encode.mono : ∀ a0 a1 k, LeO (keys_Encode.f k a0 a1) (keys_Encode.f (k + 1) a0 a1) := by
  intro a0 a1 k
  have ih0 := keys_Encode.mono_l k
  unfold keys_Encode.f
  repeat' first
      | (with_reducible exact ih0 _ _ _ _ _)
      | (with_reducible exact keys_put.mono _ _ _ _ _)
      | (with_reducible exact LeO.refl _)
      | (with_reducible exact LeO.none _)
      | (with_reducible refine LeO.ite ?_ ?_)
      | (with_reducible refine LeO.bind ?_ (fun _ => ?_))
      | exact ih0 _ _ _ _ _
      | exact keys_put.mono _ _ _ _ _
      | exact LeO.none _
      | refine LeO.ite ?_ ?_
      | refine LeO.bind ?_ (fun _ => ?_)
def keys_Encode.T8 : Bool × List (List Nat × List Nat) := (true, [([], []), ([], []), ([1], [1]), ([2], [2]), ([3], [3]), ([4], [4]), ([0, 5], [0, 5]), ([], []), ([6, 7, 6], [6, 7]), ([8, 8, 0, 1, 2, 3, 4, 5, 6, 7, 8], [0, 8])])
def keys_Encode.B8 : List Nat := [0, 0, 2, 6, 14, 30, 63, 0, 255, 511]
theorem keys_Encode.tab8 : rtab .any (opsOf Try.f32 8) = keys_Encode.T8 := by kernel_rfl
theorem keys_Encode.bits8 : waitsOk keys_Encode.T8.2 keys_Encode.B8 = true := by kernel_rfl
set_option maxHeartbeats 8000000 in
set_option maxRecDepth 100000 in
theorem keys_Encode.calls (k : Nat) (A0 : Option Addr) (c0 : Nat) (l0 : List (S25)) (A1 : Option Addr) (c1 : Nat) (l1 : List Bool) (r1 : List Int) (r2 : Int) (w : World) (hr0 : Kd.C k25 w A0 l0.length l0) (hc0 : l0.length ≤ c0) (hr1 : Kd.C Kd.bool w A1 l1.length l1) (hc1 : l1.length ≤ c1) (h : keys_Encode.f k l0 l1 = some (r1, r2)) :
    Calls Try.prog 32 #[.slice A0 l0.length c0, .slice A1 l1.length c1] w fun e w' => ∃ v0_ : Value, e = .returned (.tuple #[v0_, .int .i64 r2]) ∧ Kd.R (Kd.int .u8) 5 w' w.heap.size (fun _ => True) v0_ r1 ∧ Below w.heap.size w w' := by
  have hu25 := Try.underlying25
  have HR0 := Aside0.mk hr0
  have HC0 := Aside0.mk hc0
  clear hr0 hc0
  have HR1 := Aside0.mk hr1
  have HC1 := Aside0.mk hc1
  clear hr1 hc1
  have HB := Aside0.mk (Below.refl w.heap.size w)
  have H : (keys_Encode.l0 k l1 ([] : List Int) l0 (l0.length : Int) 0) = some (r1, r2) := h
  clear h
  have H' := Aside0.mk H
  clear H
  go_enter Try.func32, Try.ntmps32
  go_wp2
  go_loopg [6, 12] k (fun kq v6 v12 w' => ∃ (x6_1 : List Int) (x12_1 : Int), v12 = .int .i64 x12_1 ∧ Aside0 (keys_Encode.l0 kq l1 x6_1 l0 (l0.length : Int) x12_1 = some (r1, r2)) ∧ Aside0 (kq ≤ k) ∧ Aside0 (Kd.R (Kd.int .u8) 5 w' w.heap.size (fun _ => True) v6 x6_1) ∧ Aside0 (Below w.heap.size w w'))
  case atStart => exact ⟨(([] : List Int)), (0), (by first | rfl | (simp; done) | (simp [*]; done)), H', ⟨Nat.le_refl _⟩, ⟨by first | exact Kd.R_nil _ _ _ _ _ | exact Kd.N_nil _ _ _ _ _ | exact Kd.V_nil _ _ _ _ _ | exact Kd.Q_nil _ _ _ _ _ | exact Kd.S_nil _ _ _ _ _⟩, ⟨by repeat (first | (with_reducible first | exact HB.out | apply below_alloc | apply pw_below_drewN | apply below_drew1) | exact HB.out)⟩⟩
  case round =>
    clear H'
    try clear c1
    try clear p2
    obtain ⟨x6_1, x12_1, rfl, HA, HK1, HO_6, HB⟩ := hrel
    cases gk with
    | zero => exact absurd HA.out (by simp [keys_Encode.l0])
    | succ k1 =>
      have H := HA.out
      clear HA
      simp only [keys_Encode.l0] at H
      by_cases c3 : x12_1 < (l0.length : Int)
      · rw [if_pos c3] at H
        have c3b0 : decide (x12_1 < (l0.length : Int)) = true := decide_eq_true c3
        clear c3
        by_cases c4 : 0 ≤ x12_1
        · rw [if_pos c4] at H
          have c4b0 : decide (0 ≤ x12_1) = true := decide_eq_true c4
          clear c4
          by_cases c5 : x12_1 < (l0.length : Int)
          · rw [if_pos c5] at H
            have c5b0 : decide (x12_1 < (l0.length : Int)) = true := decide_eq_true c5
            clear c5
            replace H := Option.bind_eq_some_iff.mp H
            obtain ⟨t125, A60, H⟩ := H
            replace H : (if t125 = 0 then (if x6_1.length < 140737488355328 then ((keys_put.f k1 (x6_1 ++ [(wrap64 (((rd_T25 l0 x12_1).f0) + 1)) % 256]) ((rd_T25 l0 x12_1).f0) ((rd_T25 l0 x12_1).f1) ((rd_T25 l0 x12_1).f2)).bind fun t129 => ((keys_turned.f l1 x12_1).bind fun t132 => (if t132 = true then (if x6_1.length < t129.length then (keys_Encode.l0 k1 l1 (t129.take x6_1.length ++ (t129.drop x6_1.length).map fx) l0 (l0.length : Int) (wrap64 (x12_1 + 1))) else none) else (keys_Encode.l0 k1 l1 t129 l0 (l0.length : Int) (wrap64 (x12_1 + 1)))))) else (none)) else (some (([] : List Int), 3))) = some (r1, r2) := H
            have A6 := Aside0.mk A60
            clear A60
            by_cases c7 : t125 = 0
            · rw [if_pos c7] at H
              have c7b0 : (t125 == 0) = true := beq_iff_eq.mpr c7
              have c7b1 : (t125 != 0) = false := bne_eq_false_iff_eq.mpr c7
              clear c7
              by_cases c8 : x6_1.length < 140737488355328
              · rw [if_pos c8] at H
                have LMc8 := Aside0.mk c8
                clear c8
                obtain ⟨y126, hy126⟩ : ∃ y_ : List Int, y_ = (x6_1 ++ [(wrap64 (((rd_T25 l0 x12_1).f0) + 1)) % 256]) := ⟨_, rfl⟩
                replace H : ((keys_put.f k1 y126 ((rd_T25 l0 x12_1).f0) ((rd_T25 l0 x12_1).f1) ((rd_T25 l0 x12_1).f2)).bind fun t129 => ((keys_turned.f l1 x12_1).bind fun t132 => (if t132 = true then (if x6_1.length < t129.length then (keys_Encode.l0 k1 l1 (t129.take x6_1.length ++ (t129.drop x6_1.length).map fx) l0 (l0.length : Int) (wrap64 (x12_1 + 1))) else none) else (keys_Encode.l0 k1 l1 t129 l0 (l0.length : Int) (wrap64 (x12_1 + 1)))))) = some (r1, r2) := by first | (rw [hy126]; with_reducible exact H) | (have H2_ := (Option.bind_some _ _).symm.trans H; rw [hy126]; with_reducible exact H2_) | (have H2_ := (Option.bind_some _ _).symm.trans H; with_reducible exact H2_) | with_reducible exact H | (rw [hy126]; exact H) | exact H
                have Ny126 := Aside0.mk hy126
                clear hy126
                replace H := Option.bind_eq_some_iff.mp H
                obtain ⟨t129, A90, H⟩ := H
                replace H : ((keys_turned.f l1 x12_1).bind fun t132 => (if t132 = true then (if x6_1.length < t129.length then (keys_Encode.l0 k1 l1 (t129.take x6_1.length ++ (t129.drop x6_1.length).map fx) l0 (l0.length : Int) (wrap64 (x12_1 + 1))) else none) else (keys_Encode.l0 k1 l1 t129 l0 (l0.length : Int) (wrap64 (x12_1 + 1))))) = some (r1, r2) := H
                have A9 := Aside0.mk A90
                clear A90
                replace H := Option.bind_eq_some_iff.mp H
                obtain ⟨t132, A100, H⟩ := H
                replace H : (if t132 = true then (if x6_1.length < t129.length then (keys_Encode.l0 k1 l1 (t129.take x6_1.length ++ (t129.drop x6_1.length).map fx) l0 (l0.length : Int) (wrap64 (x12_1 + 1))) else none) else (keys_Encode.l0 k1 l1 t129 l0 (l0.length : Int) (wrap64 (x12_1 + 1)))) = some (r1, r2) := H
                have A10 := Aside0.mk A100
                clear A100
                by_cases c11 : t132 = true
                · subst c11
                  have H1 : (if x6_1.length < t129.length then (keys_Encode.l0 k1 l1 (t129.take x6_1.length ++ (t129.drop x6_1.length).map fx) l0 (l0.length : Int) (wrap64 (x12_1 + 1))) else none) = some (r1, r2) := by rw [if_pos rfl] at H; exact H
                  clear H
                  have H := H1
                  clear H1
                  by_cases hfl : x6_1.length < t129.length
                  case neg => rw [if_neg hfl] at H; cases H
                  rw [if_pos hfl] at H
                  have HFL := Aside0.mk hfl
                  clear hfl
                  have H' := Aside0.mk H
                  clear H
                  have p123 : 0 ≤ (x12_1 : Int) := of_decide_eq_true (by first | (with_reducible assumption) | assumption)
                  have q123 : x12_1 < (l0.length : Int) := of_decide_eq_true (by first | (with_reducible assumption) | assumption)
                  obtain ⟨ad123, e123, hx123_0, hx123_1, hx123_2⟩ := at_T25 HR0.out x12_1 p123 q123
                  cases e123
                  replace hx123_0 := (HB.out.cell (World.block_lt_of_cell? w _ hx123_0)).trans hx123_0
                  replace hx123_1 := (HB.out.cell (World.block_lt_of_cell? w _ hx123_1)).trans hx123_1
                  replace hx123_2 := (HB.out.cell (World.block_lt_of_cell? w _ hx123_2)).trans hx123_2
                  replace p123 := eq_true p123
                  replace q123 := eq_true q123
                  try go_wp2_with (first | ((with_reducible refine gate_dst (N := 8) rfl ?_); refine box_event ?hg (N := 8) ?hd (cs := #[.int .i64 0, .int .i64 0, .string (⟨#[]⟩ : ByteArray)]) (t := 25) ?hr ?_; (case hd => rfl); (case hg => rfl); (case hr => first | (go_simp; done) | (go_simp; rfl)); intro gb124 hg w12 hbox hb; have n0_ := Aside0.mk (Kd.R_below (by (with_reducible repeat (first | apply Kd.R_alloc | apply Kd.R_drewN | apply Kd.R_drew)); exact HO_6.out) hb); have n1_ := Aside0.mk (below_step (by repeat (first | (with_reducible first | exact HB.out | apply below_alloc | apply pw_below_drewN | apply below_drew1) | exact HB.out)) hb); have n2_ := Aside0.mk (hbox); have n3_ := Aside0.mk ((by rw [hg]; exact (below_size (by repeat (first | (with_reducible first | exact HB.out | apply below_alloc | apply pw_below_drewN | apply below_drew1) | exact HB.out))) : w.heap.size ≤ gb124)); have n4_ := Aside0.mk ((by rw [hg]; exact (below_size (by repeat (first | (with_reducible first | exact HB.out | apply below_alloc | apply pw_below_drewN | apply below_drew1) | exact HB.out))) : w.heap.size ≤ gb124)); clear HO_6; clear HB; have HO_6 := n0_; have HB := n1_; have BK124 := n2_; have GW124 := n3_; have GE124 := n4_; clear n0_ n1_ n2_ n3_ n4_; clear hb hbox hg; have hcz13_0 : w12.cell? ⟨gb124, 0, none⟩ = some (.int .i64 0) := (blk_cell BK124.out 0).trans rfl; have hcz13_1 : w12.cell? ⟨gb124, 1, none⟩ = some (.int .i64 0) := (blk_cell BK124.out 1).trans rfl; have hcz13_2 : w12.cell? ⟨gb124, 2, none⟩ = some (.string (⟨#[]⟩ : ByteArray)) := (blk_cell BK124.out 2).trans rfl; have hfz13_0 := blk_frozen BK124.out 0; have hfz13_1 := blk_frozen BK124.out 1; have hfz13_2 := blk_frozen BK124.out 2) | ((with_reducible refine gate_callee (f := 49) rfl ?_); refine goesL_ (some 18) rfl rfl Try.func49 (by kernel_rfl) rfl #[.agg #[.int .i64 ((rd_T25 l0 x12_1).f0), .int .i64 ((rd_T25 l0 x12_1).f1), .string ((rd_T25 l0 x12_1).f2)]] rfl (by (try simp only [List.map_toArray, List.map_cons, List.map_nil]); first | done | rfl | (simp only [List.length_drop, List.length_take]; rfl)) ?_; (with_reducible refine (value_Check.calls ((rd_T25 l0 x12_1).f0) ((rd_T25 l0 x12_1).f1) ((rd_T25 l0 x12_1).f2) t125 _ A6.out).mono ?_); rintro e w14 ⟨rfl, hb⟩; refine ⟨_, rfl, ?_⟩; have n0_ := Aside0.mk (Kd.R_below (by (with_reducible repeat (first | apply Kd.R_alloc | apply Kd.R_drewN | apply Kd.R_drew)); exact (Kd.R_mono (Kd.R_far (p := ⟨gb124, 2, none⟩) (Kd.R_far (p := ⟨gb124, 1, none⟩) (Kd.R_far (p := ⟨gb124, 0, none⟩) (Kd.R_types HO_6.out BK124.out (by decide)) (fun _ hk => hk.2) (.int .i64 ((rd_T25 l0 x12_1).f0))) (fun _ hk => hk.2) (.int .i64 ((rd_T25 l0 x12_1).f1))) (fun _ hk => hk.2) (.string ((rd_T25 l0 x12_1).f2))) (fun _ h_ => h_.1))) hb); have n1_ := Aside0.mk (blk_below (g := gb124) (o := .cells #[.int .i64 ((rd_T25 l0 x12_1).f0), .int .i64 ((rd_T25 l0 x12_1).f1), .string ((rd_T25 l0 x12_1).f2)] 25 (0, 0)) (by (with_reducible repeat (first | refine blk_drewN ?_ _ | refine blk_drew ?_ | refine blk_alloc ?_ _)); refine blk_put (cs := #[.int .i64 ((rd_T25 l0 x12_1).f0), .int .i64 ((rd_T25 l0 x12_1).f1), .string (⟨#[]⟩ : ByteArray)]) ?_ 2 _ rfl; (with_reducible repeat (first | refine blk_drewN ?_ _ | refine blk_drew ?_ | refine blk_alloc ?_ _)); refine blk_put (cs := #[.int .i64 ((rd_T25 l0 x12_1).f0), .int .i64 0, .string (⟨#[]⟩ : ByteArray)]) ?_ 1 _ rfl; (with_reducible repeat (first | refine blk_drewN ?_ _ | refine blk_drew ?_ | refine blk_alloc ?_ _)); refine blk_put (cs := #[.int .i64 0, .int .i64 0, .string (⟨#[]⟩ : ByteArray)]) ?_ 0 _ rfl; (with_reducible repeat (first | refine blk_drewN ?_ _ | refine blk_drew ?_ | refine blk_alloc ?_ _)); exact BK124.out) hb); have n2_ := Aside0.mk (below_step (by repeat (first | (with_reducible first | exact HB.out | apply below_alloc | apply pw_below_drewN | apply below_drew1 | refine below_set ?_ GE124.out) | exact HB.out)) hb); clear HO_6; clear BK124; clear HB; have HO_6 := n0_; have BK124 := n1_; have HB := n2_; clear n0_ n1_ n2_; (try clear hb); (try clear hb2); (try clear hk); (try clear hi); obtain ⟨Ao15, co15, eo15⟩ := Kd.R_slice HO_6.out; subst eo15))
                  have n0_ := Aside0.mk (Kd.R_drew HO_6.out)
                  have n1_ := Aside0.mk (blk_drew BK124.out)
                  have n2_ := Aside0.mk (below_drew1 HB.out)
                  clear HO_6
                  clear BK124
                  clear HB
                  have HO_6 := n0_
                  have BK124 := n1_
                  have HB := n2_
                  clear n0_ n1_ n2_
                  refine start_ (n := 10) (S := fun w' => w'.cell? ⟨gb124, 0, none⟩ = some (.int .i64 ((rd_T25 l0 x12_1).f0)) ∧ w'.cell? ⟨gb124, 1, none⟩ = some (.int .i64 ((rd_T25 l0 x12_1).f1)) ∧ w'.cell? ⟨gb124, 2, none⟩ = some (.string ((rd_T25 l0 x12_1).f2))) (ds := []) #[false, false, false, false, false, false, false, false, false, false] (by kernel_rfl) rfl rfl ⟨(blk_cell BK124.out 0).trans rfl, (blk_cell BK124.out 1).trans rfl, (blk_cell BK124.out 2).trans rfl⟩ (fun hHeld => ?_); refine with_tabW keys_Encode.tab8 keys_Encode.bits8 (fun HT_ HW_ => ?_)
                  generalize w14.drew = w16 at HO_6 BK124 HB hHeld ⊢
                  refine pure_ (i := 0) (N := some 22) (v := ?_) (a' := ?_) #[true, false, false, false, false, false, false, false, false, false] rfl rfl (any_of HT_.out (by kernel_rfl)) (fun _ _ _ h => h) (Or.inl ⟨by rfl, ?_⟩) ?_ ?_
                  rotate_left
                  · intro w'
                    go_simp
                    with_reducible rfl
                  rotate_left
                  · simp only [Act.put, List.setIfInBounds_toArray, List.set_cons_zero, List.set_cons_succ, i64_w, i32_w]
                    rfl
                  refine pure_ (i := 1) (N := some 23) (v := ?_) (a' := ?_) #[true, true, false, false, false, false, false, false, false, false] rfl rfl (any_of HT_.out (by kernel_rfl)) (fun _ _ _ h => h) (Or.inl ⟨by rfl, ?_⟩) ?_ ?_
                  rotate_left
                  · intro w'
                    go_simp
                    with_reducible rfl
                  rotate_left
                  · simp only [Act.put, List.setIfInBounds_toArray, List.set_cons_zero, List.set_cons_succ, i64_w, i32_w]
                    rfl
                  refine take_ (i := 2) (N := some 24) (v := ?_) (a' := ?_) #[true, true, true, false, false, false, false, false, false, false] rfl rfl (take_ofW HT_.out HW_.out (by kernel_rfl)) (fun _ _ _ h => h) (Or.inl ⟨by rfl, ?_⟩) hHeld ?_ ?_
                  rotate_left
                  · rintro w' ⟨s0, s1, s2⟩
                    go_simp
                    with_reducible rfl
                  rotate_left
                  · simp only [Act.put, List.setIfInBounds_toArray, List.set_cons_zero, List.set_cons_succ, i64_w, i32_w]
                    rfl
                  refine pure_ (i := 3) (N := some 25) (v := ?_) (a' := ?_) #[true, true, true, true, false, false, false, false, false, false] rfl rfl (any_of HT_.out (by kernel_rfl)) (fun _ _ _ h => h) (Or.inl ⟨by rfl, ?_⟩) ?_ ?_
                  rotate_left
                  · intro w'
                    go_simp
                    with_reducible rfl
                  rotate_left
                  · simp only [Act.put, List.setIfInBounds_toArray, List.set_cons_zero, List.set_cons_succ, i64_w, i32_w]
                    rfl
                  refine pure_ (i := 4) (N := some 26) (v := ?_) (a' := ?_) #[true, true, true, true, true, false, false, false, false, false] rfl rfl (any_of HT_.out (by kernel_rfl)) (fun _ _ _ h => h) (Or.inl ⟨by rfl, ?_⟩) ?_ ?_
                  rotate_left
                  · intro w'
                    go_simp
                    with_reducible rfl
                  rotate_left
                  · simp only [Act.put, List.setIfInBounds_toArray, List.set_cons_zero, List.set_cons_succ, i64_w, i32_w]
                    rfl
                  refine take_ (i := 7) (N := some 29) (v := ?_) (a' := ?_) #[true, true, true, true, true, false, false, true, false, false] rfl rfl (take_ofW HT_.out HW_.out (by kernel_rfl)) (fun _ _ _ h => h) (Or.inl ⟨by rfl, ?_⟩) hHeld ?_ ?_
                  rotate_left
                  · rintro w' ⟨s0, s1, s2⟩
                    go_simp
                    with_reducible rfl
                  rotate_left
                  · simp only [Act.put, List.setIfInBounds_toArray, List.set_cons_zero, List.set_cons_succ, i64_w, i32_w]
                    rfl
                  refine one_ (i := 5) (N := some 27) #[true, true, true, true, true, true, false, true, false, false] rfl rfl (one_of HT_.out (by kernel_rfl)) (by decide) (fun K hK => ?_)
                  refine value_ (w1 := ?_) (v := ?_) (by rfl) rfl ?_ ?_
                  rotate_left 2
                  · go_simp
                    constructor
                    · rfl
                    · rfl
                  refine hK.out _ _ ⟨(blk_cell (blk_alloc BK124.out _) 0).trans rfl, (blk_cell (blk_alloc BK124.out _) 1).trans rfl, (blk_cell (blk_alloc BK124.out _) 2).trans rfl⟩ (fun hHeld => ?_)
                  clear hK K
                  refine norm_ (a' := ?_) ?_ ?_
                  rotate_left
                  · show Act.put _ (some 27) _ = _
                    simp only [Act.put, List.setIfInBounds_toArray, List.set_cons_zero, List.set_cons_succ, i64_w, i32_w]
                    rfl
                  refine one_ (i := 6) (N := some 28) #[true, true, true, true, true, true, true, true, false, false] rfl rfl (one_of HT_.out (by kernel_rfl)) (by decide) (fun K hK => ?_)
                  refine Kd.R_append_step (Kd.int .u8) (w0 := w) w.heap.size (by rfl) (.tmp 22) (.tmp 27) 44 5 (.int .u8 0) 1 rfl Try.underlying44 info5 rfl (by decide) (by omega) (.slice Ao15 x6_1.length co15) x6_1 ((wrap64 (((rd_T25 l0 x12_1).f0) + 1)) % 256) [.int .u8 ((wrap64 (((rd_T25 l0 x12_1).f0) + 1)) % 256)] (fun _ => True) (fun _ => False) rfl rfl ?aP (fun _ hk => hk.elim) ?aF ?aO ?aB ?aS ?aL ?_
                  (case aP => exact rfl)
                  (case aB => exact (by repeat (first | (with_reducible first | exact HB.out | apply below_alloc | apply pw_below_drewN | apply below_drew1 | refine below_set ?_ GE124.out) | exact HB.out)))
                  (case aF => exact (fun _ _ => trivial))
                  (case aO => exact (by (with_reducible repeat (first | apply Kd.R_alloc | apply Kd.R_drewN | apply Kd.R_drew)); exact HO_6.out))
                  (case aS => exact (below_size (by repeat (first | (with_reducible first | exact HB.out | apply below_alloc | apply pw_below_drewN | apply below_drew1 | refine below_set ?_ GE124.out) | exact HB.out))))
                  (case aL => have := LMc8.out; omega)
                  intro v127 w17 ho hb hg hat
                  rw [← Ny126.out] at ho
                  have n0_ := Aside0.mk (blk_grown (g := gb124) (o := .cells #[.int .i64 ((rd_T25 l0 x12_1).f0), .int .i64 ((rd_T25 l0 x12_1).f1), .string ((rd_T25 l0 x12_1).f2)] 25 (0, 0)) (by (with_reducible repeat (first | refine blk_drewN ?_ _ | refine blk_drew ?_ | refine blk_alloc ?_ _)); exact BK124.out) hg (Kd.R_ne HO_6.out BK124.out (by decide)))
                  have n1_ := Aside0.mk (hb)
                  have n2_ := Aside0.mk (ho)
                  clear BK124
                  clear HB
                  clear HO_6
                  have BK124 := n0_
                  have HB := n1_
                  have HO128 := n2_
                  clear n0_ n1_ n2_
                  clear ho hb hg hat
                  obtain ⟨Ao18, co18, eo18⟩ := Kd.R_slice HO128.out
                  (first | subst eo18 | (injection eo18 with f1_ f2_ f3_; have f4_ := f1_.symm; have f5_ := f3_.symm; clear f1_ f2_ f3_; subst f4_; subst f5_))
                  refine hK.out _ _ ⟨(blk_cell BK124.out 0).trans rfl, (blk_cell BK124.out 1).trans rfl, (blk_cell BK124.out 2).trans rfl⟩ (fun hHeld => ?_)
                  clear hK K
                  refine norm_ (a' := ?_) ?_ ?_
                  rotate_left
                  · show Act.put _ (some 28) _ = _
                    simp only [Act.put, List.setIfInBounds_toArray, List.set_cons_zero, List.set_cons_succ, i64_w, i32_w]
                    rfl
                  refine one_ (i := 8) (N := some 30) #[true, true, true, true, true, true, true, true, true, false] rfl rfl (one_of HT_.out (by kernel_rfl)) (by decide) (fun K hK => ?_)
                  refine goes_ Try.func52 (by kernel_rfl) rfl #[.slice Ao18 y126.length co18, .agg #[.int .i64 ((rd_T25 l0 x12_1).f0), .int .i64 ((rd_T25 l0 x12_1).f1), .string ((rd_T25 l0 x12_1).f2)]] (by rfl) rfl rfl (by (try simp only [List.map_toArray, List.map_cons, List.map_nil]); first | done | rfl | (simp only [List.length_drop, List.length_take]; rfl)) ?_
                  with_reducible refine (keys_put.calls k1 (fun k_ => some k_ = (.slice Ao18 y126.length co18 : Value).ownBlock) (.slice Ao18 y126.length co18) y126 ((rd_T25 l0 x12_1).f0) ((rd_T25 l0 x12_1).f1) ((rd_T25 l0 x12_1).f2) t129 w _ ?side1 ?side2 A9.out).mono ?_
                  (case side1 => repeat (first | (with_reducible first | exact HB.out | apply below_alloc | apply pw_below_drewN | apply below_drew1 | refine below_set ?_ GE124.out) | exact HB.out))
                  (case side2 => exact Kd.R_tight rfl HO128.out)
                  rintro e w19 ⟨v130, rfl, ho0, hb, hkp⟩
                  refine ⟨_, rfl, ?_⟩
                  have n0_ := Aside0.mk (blk_kept (by (with_reducible repeat (first | refine blk_drewN ?_ _ | refine blk_drew ?_ | refine blk_alloc ?_ _)); exact BK124.out) hkp (fun hs_ => (fun e_ => (Kd.R_ne HO128.out BK124.out (by decide)) e_) hs_))
                  have n1_ := Aside0.mk (Kd.R_mono (ok' := fun k_ => True) ho0 (fun k_ hk_ => trivial))
                  have n2_ := Aside0.mk (hb)
                  clear BK124
                  clear HB
                  clear HO128
                  have BK124 := n0_
                  have HO131 := n1_
                  have HB := n2_
                  clear n0_ n1_ n2_
                  (try clear hb)
                  (try clear hkp)
                  (try clear ho0)
                  refine hK.out _ _ ⟨(blk_cell BK124.out 0).trans rfl, (blk_cell BK124.out 1).trans rfl, (blk_cell BK124.out 2).trans rfl⟩ (fun hHeld => ?_)
                  clear hK K
                  refine norm_ (a' := ?_) ?_ ?_
                  rotate_left
                  · show Act.put _ (some 30) _ = _
                    simp only [Act.put, List.setIfInBounds_toArray, List.set_cons_zero, List.set_cons_succ, i64_w, i32_w]
                    rfl
                  refine pure_ (i := 9) (N := some 6) (v := ?_) (a' := ?_) #[true, true, true, true, true, true, true, true, true, true] rfl rfl (any_of HT_.out (by kernel_rfl)) (fun _ _ _ h => h) (Or.inl ⟨by rfl, ?_⟩) ?_ ?_
                  rotate_left
                  · intro w'
                    go_simp
                    with_reducible rfl
                  rotate_left
                  · simp only [Act.put, List.setIfInBounds_toArray, List.set_cons_zero, List.set_cons_succ, i64_w, i32_w]
                    rfl
                  refine done_ (done_of HT_.out (by kernel_rfl)) ?_
                  obtain ⟨g6, cap6, eo6, gb6, gl6, cl6, hg6⟩ := Kd.R_form HO131.out (by have := HFL.out; omega)
                  subst eo6
                  have HC6 := Aside0.mk (Kd.R_reads' HO131.out).2.1
                  have hcut6 := fun W => cut_at (P := Try.prog) 44 5 .i64 Try.underlying44 info5 g6 t129.length cap6 x6_1.length HFL.out HC6.out W
                  clear gb6 gl6 hg6
                  go_wp2_with (first | ((with_reducible refine gate_callee (f := 53) rfl ?_); refine goesL_ (some 33) rfl rfl Try.func53 (by kernel_rfl) rfl #[.slice A1 l1.length c1, .int .i64 x12_1] rfl (by (try simp only [List.map_toArray, List.map_cons, List.map_nil]); first | done | rfl | (simp only [List.length_drop, List.length_take]; rfl)) ?_; (with_reducible refine (keys_turned.calls _ _ l1 x12_1 true _ ?side1 ?side2 A10.out).mono ?_); (case side1 => repeat (first | exact (Kd.C_below HR1.out HB.out) | (with_reducible refine Kd.C_alloc ?_ _) | (with_reducible refine Kd.C_drewN ?_ _) | (with_reducible refine Kd.C_drew ?_))); (case side2 => exact HC1.out); rintro e w' ⟨rfl, ⟨nd, rfl⟩⟩; refine ⟨_, rfl, ?_⟩))
                  refine (keys_flip.at_ (fun _ => True) g6 t129.length cap6 _ x6_1.length (t129.length - x6_1.length) t129 w _ ?fb ?fr (by have := HFL.out; omega)).mono ?_
                  case fb => exact (by repeat (first | (with_reducible first | exact HB.out | apply below_alloc | apply pw_below_drewN | apply below_drew1 | refine below_set ?_ GE124.out) | exact HB.out))
                  case fr => exact (by (with_reducible repeat (first | apply Kd.R_alloc | apply Kd.R_drewN | apply Kd.R_drew)); exact HO131.out)
                  rintro e w33 ⟨rfl, hr33, hb33, hk33⟩
                  have HO131' := Aside0.mk hr33
                  have HB' := Aside0.mk hb33
                  clear hr33 hb33 hk33 HO131 HB
                  have HO131 := HO131'
                  have HB := HB'
                  clear HO131' HB'
                  go_wp2_with fail
                  go_roundg k1
                  case measure => have := HK1.out; omega
                  case rel => exact ⟨(t129.take x6_1.length ++ (t129.drop x6_1.length).map fx), (wrap64 (x12_1 + 1)), (by first | rfl | (simp; done) | (simp [*]; done)), H', ⟨by have := HK1.out; omega⟩, ⟨by (with_reducible repeat (first | apply Kd.R_alloc | apply Kd.R_drewN | apply Kd.R_drew)); have hl_ : (t129.take x6_1.length ++ (t129.drop x6_1.length).map fx).length = t129.length := (by have := HFL.out; simp; omega); exact HO131.out⟩, ⟨by repeat (first | (with_reducible first | exact HB.out | apply below_alloc | apply pw_below_drewN | apply below_drew1 | refine below_set ?_ GE124.out) | exact HB.out)⟩⟩
                · replace c11 := Bool.eq_false_iff.mpr c11
                  subst c11
                  have H1 : (keys_Encode.l0 k1 l1 t129 l0 (l0.length : Int) (wrap64 (x12_1 + 1))) = some (r1, r2) := by rw [if_neg (show ¬ (false = true) by decide)] at H; exact H
                  clear H
                  have H := H1
                  clear H1
                  have H' := Aside0.mk H
                  clear H
                  have p123 : 0 ≤ (x12_1 : Int) := of_decide_eq_true (by first | (with_reducible assumption) | assumption)
                  have q123 : x12_1 < (l0.length : Int) := of_decide_eq_true (by first | (with_reducible assumption) | assumption)
                  obtain ⟨ad123, e123, hx123_0, hx123_1, hx123_2⟩ := at_T25 HR0.out x12_1 p123 q123
                  cases e123
                  replace hx123_0 := (HB.out.cell (World.block_lt_of_cell? w _ hx123_0)).trans hx123_0
                  replace hx123_1 := (HB.out.cell (World.block_lt_of_cell? w _ hx123_1)).trans hx123_1
                  replace hx123_2 := (HB.out.cell (World.block_lt_of_cell? w _ hx123_2)).trans hx123_2
                  replace p123 := eq_true p123
                  replace q123 := eq_true q123
                  try go_wp2_with (first | ((with_reducible refine gate_dst (N := 8) rfl ?_); refine box_event ?hg (N := 8) ?hd (cs := #[.int .i64 0, .int .i64 0, .string (⟨#[]⟩ : ByteArray)]) (t := 25) ?hr ?_; (case hd => rfl); (case hg => rfl); (case hr => first | (go_simp; done) | (go_simp; rfl)); intro gb124 hg w20 hbox hb; have n0_ := Aside0.mk (Kd.R_below (by (with_reducible repeat (first | apply Kd.R_alloc | apply Kd.R_drewN | apply Kd.R_drew)); exact HO_6.out) hb); have n1_ := Aside0.mk (below_step (by repeat (first | (with_reducible first | exact HB.out | apply below_alloc | apply pw_below_drewN | apply below_drew1) | exact HB.out)) hb); have n2_ := Aside0.mk (hbox); have n3_ := Aside0.mk ((by rw [hg]; exact (below_size (by repeat (first | (with_reducible first | exact HB.out | apply below_alloc | apply pw_below_drewN | apply below_drew1) | exact HB.out))) : w.heap.size ≤ gb124)); have n4_ := Aside0.mk ((by rw [hg]; exact (below_size (by repeat (first | (with_reducible first | exact HB.out | apply below_alloc | apply pw_below_drewN | apply below_drew1) | exact HB.out))) : w.heap.size ≤ gb124)); clear HO_6; clear HB; have HO_6 := n0_; have HB := n1_; have BK124 := n2_; have GW124 := n3_; have GE124 := n4_; clear n0_ n1_ n2_ n3_ n4_; clear hb hbox hg; have hcz21_0 : w20.cell? ⟨gb124, 0, none⟩ = some (.int .i64 0) := (blk_cell BK124.out 0).trans rfl; have hcz21_1 : w20.cell? ⟨gb124, 1, none⟩ = some (.int .i64 0) := (blk_cell BK124.out 1).trans rfl; have hcz21_2 : w20.cell? ⟨gb124, 2, none⟩ = some (.string (⟨#[]⟩ : ByteArray)) := (blk_cell BK124.out 2).trans rfl; have hfz21_0 := blk_frozen BK124.out 0; have hfz21_1 := blk_frozen BK124.out 1; have hfz21_2 := blk_frozen BK124.out 2) | ((with_reducible refine gate_callee (f := 49) rfl ?_); refine goesL_ (some 18) rfl rfl Try.func49 (by kernel_rfl) rfl #[.agg #[.int .i64 ((rd_T25 l0 x12_1).f0), .int .i64 ((rd_T25 l0 x12_1).f1), .string ((rd_T25 l0 x12_1).f2)]] rfl (by (try simp only [List.map_toArray, List.map_cons, List.map_nil]); first | done | rfl | (simp only [List.length_drop, List.length_take]; rfl)) ?_; (with_reducible refine (value_Check.calls ((rd_T25 l0 x12_1).f0) ((rd_T25 l0 x12_1).f1) ((rd_T25 l0 x12_1).f2) t125 _ A6.out).mono ?_); rintro e w22 ⟨rfl, hb⟩; refine ⟨_, rfl, ?_⟩; have n0_ := Aside0.mk (Kd.R_below (by (with_reducible repeat (first | apply Kd.R_alloc | apply Kd.R_drewN | apply Kd.R_drew)); exact (Kd.R_mono (Kd.R_far (p := ⟨gb124, 2, none⟩) (Kd.R_far (p := ⟨gb124, 1, none⟩) (Kd.R_far (p := ⟨gb124, 0, none⟩) (Kd.R_types HO_6.out BK124.out (by decide)) (fun _ hk => hk.2) (.int .i64 ((rd_T25 l0 x12_1).f0))) (fun _ hk => hk.2) (.int .i64 ((rd_T25 l0 x12_1).f1))) (fun _ hk => hk.2) (.string ((rd_T25 l0 x12_1).f2))) (fun _ h_ => h_.1))) hb); have n1_ := Aside0.mk (blk_below (g := gb124) (o := .cells #[.int .i64 ((rd_T25 l0 x12_1).f0), .int .i64 ((rd_T25 l0 x12_1).f1), .string ((rd_T25 l0 x12_1).f2)] 25 (0, 0)) (by (with_reducible repeat (first | refine blk_drewN ?_ _ | refine blk_drew ?_ | refine blk_alloc ?_ _)); refine blk_put (cs := #[.int .i64 ((rd_T25 l0 x12_1).f0), .int .i64 ((rd_T25 l0 x12_1).f1), .string (⟨#[]⟩ : ByteArray)]) ?_ 2 _ rfl; (with_reducible repeat (first | refine blk_drewN ?_ _ | refine blk_drew ?_ | refine blk_alloc ?_ _)); refine blk_put (cs := #[.int .i64 ((rd_T25 l0 x12_1).f0), .int .i64 0, .string (⟨#[]⟩ : ByteArray)]) ?_ 1 _ rfl; (with_reducible repeat (first | refine blk_drewN ?_ _ | refine blk_drew ?_ | refine blk_alloc ?_ _)); refine blk_put (cs := #[.int .i64 0, .int .i64 0, .string (⟨#[]⟩ : ByteArray)]) ?_ 0 _ rfl; (with_reducible repeat (first | refine blk_drewN ?_ _ | refine blk_drew ?_ | refine blk_alloc ?_ _)); exact BK124.out) hb); have n2_ := Aside0.mk (below_step (by repeat (first | (with_reducible first | exact HB.out | apply below_alloc | apply pw_below_drewN | apply below_drew1 | refine below_set ?_ GE124.out) | exact HB.out)) hb); clear HO_6; clear BK124; clear HB; have HO_6 := n0_; have BK124 := n1_; have HB := n2_; clear n0_ n1_ n2_; (try clear hb); (try clear hb2); (try clear hk); (try clear hi); obtain ⟨Ao23, co23, eo23⟩ := Kd.R_slice HO_6.out; subst eo23))
                  have n0_ := Aside0.mk (Kd.R_drew HO_6.out)
                  have n1_ := Aside0.mk (blk_drew BK124.out)
                  have n2_ := Aside0.mk (below_drew1 HB.out)
                  clear HO_6
                  clear BK124
                  clear HB
                  have HO_6 := n0_
                  have BK124 := n1_
                  have HB := n2_
                  clear n0_ n1_ n2_
                  refine start_ (n := 10) (S := fun w' => w'.cell? ⟨gb124, 0, none⟩ = some (.int .i64 ((rd_T25 l0 x12_1).f0)) ∧ w'.cell? ⟨gb124, 1, none⟩ = some (.int .i64 ((rd_T25 l0 x12_1).f1)) ∧ w'.cell? ⟨gb124, 2, none⟩ = some (.string ((rd_T25 l0 x12_1).f2))) (ds := []) #[false, false, false, false, false, false, false, false, false, false] (by kernel_rfl) rfl rfl ⟨(blk_cell BK124.out 0).trans rfl, (blk_cell BK124.out 1).trans rfl, (blk_cell BK124.out 2).trans rfl⟩ (fun hHeld => ?_); refine with_tabW keys_Encode.tab8 keys_Encode.bits8 (fun HT_ HW_ => ?_)
                  generalize w22.drew = w24 at HO_6 BK124 HB hHeld ⊢
                  refine pure_ (i := 0) (N := some 22) (v := ?_) (a' := ?_) #[true, false, false, false, false, false, false, false, false, false] rfl rfl (any_of HT_.out (by kernel_rfl)) (fun _ _ _ h => h) (Or.inl ⟨by rfl, ?_⟩) ?_ ?_
                  rotate_left
                  · intro w'
                    go_simp
                    with_reducible rfl
                  rotate_left
                  · simp only [Act.put, List.setIfInBounds_toArray, List.set_cons_zero, List.set_cons_succ, i64_w, i32_w]
                    rfl
                  refine pure_ (i := 1) (N := some 23) (v := ?_) (a' := ?_) #[true, true, false, false, false, false, false, false, false, false] rfl rfl (any_of HT_.out (by kernel_rfl)) (fun _ _ _ h => h) (Or.inl ⟨by rfl, ?_⟩) ?_ ?_
                  rotate_left
                  · intro w'
                    go_simp
                    with_reducible rfl
                  rotate_left
                  · simp only [Act.put, List.setIfInBounds_toArray, List.set_cons_zero, List.set_cons_succ, i64_w, i32_w]
                    rfl
                  refine take_ (i := 2) (N := some 24) (v := ?_) (a' := ?_) #[true, true, true, false, false, false, false, false, false, false] rfl rfl (take_ofW HT_.out HW_.out (by kernel_rfl)) (fun _ _ _ h => h) (Or.inl ⟨by rfl, ?_⟩) hHeld ?_ ?_
                  rotate_left
                  · rintro w' ⟨s0, s1, s2⟩
                    go_simp
                    with_reducible rfl
                  rotate_left
                  · simp only [Act.put, List.setIfInBounds_toArray, List.set_cons_zero, List.set_cons_succ, i64_w, i32_w]
                    rfl
                  refine pure_ (i := 3) (N := some 25) (v := ?_) (a' := ?_) #[true, true, true, true, false, false, false, false, false, false] rfl rfl (any_of HT_.out (by kernel_rfl)) (fun _ _ _ h => h) (Or.inl ⟨by rfl, ?_⟩) ?_ ?_
                  rotate_left
                  · intro w'
                    go_simp
                    with_reducible rfl
                  rotate_left
                  · simp only [Act.put, List.setIfInBounds_toArray, List.set_cons_zero, List.set_cons_succ, i64_w, i32_w]
                    rfl
                  refine pure_ (i := 4) (N := some 26) (v := ?_) (a' := ?_) #[true, true, true, true, true, false, false, false, false, false] rfl rfl (any_of HT_.out (by kernel_rfl)) (fun _ _ _ h => h) (Or.inl ⟨by rfl, ?_⟩) ?_ ?_
                  rotate_left
                  · intro w'
                    go_simp
                    with_reducible rfl
                  rotate_left
                  · simp only [Act.put, List.setIfInBounds_toArray, List.set_cons_zero, List.set_cons_succ, i64_w, i32_w]
                    rfl
                  refine take_ (i := 7) (N := some 29) (v := ?_) (a' := ?_) #[true, true, true, true, true, false, false, true, false, false] rfl rfl (take_ofW HT_.out HW_.out (by kernel_rfl)) (fun _ _ _ h => h) (Or.inl ⟨by rfl, ?_⟩) hHeld ?_ ?_
                  rotate_left
                  · rintro w' ⟨s0, s1, s2⟩
                    go_simp
                    with_reducible rfl
                  rotate_left
                  · simp only [Act.put, List.setIfInBounds_toArray, List.set_cons_zero, List.set_cons_succ, i64_w, i32_w]
                    rfl
                  refine one_ (i := 5) (N := some 27) #[true, true, true, true, true, true, false, true, false, false] rfl rfl (one_of HT_.out (by kernel_rfl)) (by decide) (fun K hK => ?_)
                  refine value_ (w1 := ?_) (v := ?_) (by rfl) rfl ?_ ?_
                  rotate_left 2
                  · go_simp
                    constructor
                    · rfl
                    · rfl
                  refine hK.out _ _ ⟨(blk_cell (blk_alloc BK124.out _) 0).trans rfl, (blk_cell (blk_alloc BK124.out _) 1).trans rfl, (blk_cell (blk_alloc BK124.out _) 2).trans rfl⟩ (fun hHeld => ?_)
                  clear hK K
                  refine norm_ (a' := ?_) ?_ ?_
                  rotate_left
                  · show Act.put _ (some 27) _ = _
                    simp only [Act.put, List.setIfInBounds_toArray, List.set_cons_zero, List.set_cons_succ, i64_w, i32_w]
                    rfl
                  refine one_ (i := 6) (N := some 28) #[true, true, true, true, true, true, true, true, false, false] rfl rfl (one_of HT_.out (by kernel_rfl)) (by decide) (fun K hK => ?_)
                  refine Kd.R_append_step (Kd.int .u8) (w0 := w) w.heap.size (by rfl) (.tmp 22) (.tmp 27) 44 5 (.int .u8 0) 1 rfl Try.underlying44 info5 rfl (by decide) (by omega) (.slice Ao23 x6_1.length co23) x6_1 ((wrap64 (((rd_T25 l0 x12_1).f0) + 1)) % 256) [.int .u8 ((wrap64 (((rd_T25 l0 x12_1).f0) + 1)) % 256)] (fun _ => True) (fun _ => False) rfl rfl ?aP (fun _ hk => hk.elim) ?aF ?aO ?aB ?aS ?aL ?_
                  (case aP => exact rfl)
                  (case aB => exact (by repeat (first | (with_reducible first | exact HB.out | apply below_alloc | apply pw_below_drewN | apply below_drew1 | refine below_set ?_ GE124.out) | exact HB.out)))
                  (case aF => exact (fun _ _ => trivial))
                  (case aO => exact (by (with_reducible repeat (first | apply Kd.R_alloc | apply Kd.R_drewN | apply Kd.R_drew)); exact HO_6.out))
                  (case aS => exact (below_size (by repeat (first | (with_reducible first | exact HB.out | apply below_alloc | apply pw_below_drewN | apply below_drew1 | refine below_set ?_ GE124.out) | exact HB.out))))
                  (case aL => have := LMc8.out; omega)
                  intro v127 w25 ho hb hg hat
                  rw [← Ny126.out] at ho
                  have n0_ := Aside0.mk (blk_grown (g := gb124) (o := .cells #[.int .i64 ((rd_T25 l0 x12_1).f0), .int .i64 ((rd_T25 l0 x12_1).f1), .string ((rd_T25 l0 x12_1).f2)] 25 (0, 0)) (by (with_reducible repeat (first | refine blk_drewN ?_ _ | refine blk_drew ?_ | refine blk_alloc ?_ _)); exact BK124.out) hg (Kd.R_ne HO_6.out BK124.out (by decide)))
                  have n1_ := Aside0.mk (hb)
                  have n2_ := Aside0.mk (ho)
                  clear BK124
                  clear HB
                  clear HO_6
                  have BK124 := n0_
                  have HB := n1_
                  have HO128 := n2_
                  clear n0_ n1_ n2_
                  clear ho hb hg hat
                  obtain ⟨Ao26, co26, eo26⟩ := Kd.R_slice HO128.out
                  (first | subst eo26 | (injection eo26 with f1_ f2_ f3_; have f4_ := f1_.symm; have f5_ := f3_.symm; clear f1_ f2_ f3_; subst f4_; subst f5_))
                  refine hK.out _ _ ⟨(blk_cell BK124.out 0).trans rfl, (blk_cell BK124.out 1).trans rfl, (blk_cell BK124.out 2).trans rfl⟩ (fun hHeld => ?_)
                  clear hK K
                  refine norm_ (a' := ?_) ?_ ?_
                  rotate_left
                  · show Act.put _ (some 28) _ = _
                    simp only [Act.put, List.setIfInBounds_toArray, List.set_cons_zero, List.set_cons_succ, i64_w, i32_w]
                    rfl
                  refine one_ (i := 8) (N := some 30) #[true, true, true, true, true, true, true, true, true, false] rfl rfl (one_of HT_.out (by kernel_rfl)) (by decide) (fun K hK => ?_)
                  refine goes_ Try.func52 (by kernel_rfl) rfl #[.slice Ao26 y126.length co26, .agg #[.int .i64 ((rd_T25 l0 x12_1).f0), .int .i64 ((rd_T25 l0 x12_1).f1), .string ((rd_T25 l0 x12_1).f2)]] (by rfl) rfl rfl (by (try simp only [List.map_toArray, List.map_cons, List.map_nil]); first | done | rfl | (simp only [List.length_drop, List.length_take]; rfl)) ?_
                  with_reducible refine (keys_put.calls k1 (fun k_ => some k_ = (.slice Ao26 y126.length co26 : Value).ownBlock) (.slice Ao26 y126.length co26) y126 ((rd_T25 l0 x12_1).f0) ((rd_T25 l0 x12_1).f1) ((rd_T25 l0 x12_1).f2) t129 w _ ?side1 ?side2 A9.out).mono ?_
                  (case side1 => repeat (first | (with_reducible first | exact HB.out | apply below_alloc | apply pw_below_drewN | apply below_drew1 | refine below_set ?_ GE124.out) | exact HB.out))
                  (case side2 => exact Kd.R_tight rfl HO128.out)
                  rintro e w27 ⟨v130, rfl, ho0, hb, hkp⟩
                  refine ⟨_, rfl, ?_⟩
                  have n0_ := Aside0.mk (blk_kept (by (with_reducible repeat (first | refine blk_drewN ?_ _ | refine blk_drew ?_ | refine blk_alloc ?_ _)); exact BK124.out) hkp (fun hs_ => (fun e_ => (Kd.R_ne HO128.out BK124.out (by decide)) e_) hs_))
                  have n1_ := Aside0.mk (Kd.R_mono (ok' := fun k_ => True) ho0 (fun k_ hk_ => trivial))
                  have n2_ := Aside0.mk (hb)
                  clear BK124
                  clear HB
                  clear HO128
                  have BK124 := n0_
                  have HO131 := n1_
                  have HB := n2_
                  clear n0_ n1_ n2_
                  (try clear hb)
                  (try clear hkp)
                  (try clear ho0)
                  refine hK.out _ _ ⟨(blk_cell BK124.out 0).trans rfl, (blk_cell BK124.out 1).trans rfl, (blk_cell BK124.out 2).trans rfl⟩ (fun hHeld => ?_)
                  clear hK K
                  refine norm_ (a' := ?_) ?_ ?_
                  rotate_left
                  · show Act.put _ (some 30) _ = _
                    simp only [Act.put, List.setIfInBounds_toArray, List.set_cons_zero, List.set_cons_succ, i64_w, i32_w]
                    rfl
                  refine pure_ (i := 9) (N := some 6) (v := ?_) (a' := ?_) #[true, true, true, true, true, true, true, true, true, true] rfl rfl (any_of HT_.out (by kernel_rfl)) (fun _ _ _ h => h) (Or.inl ⟨by rfl, ?_⟩) ?_ ?_
                  rotate_left
                  · intro w'
                    go_simp
                    with_reducible rfl
                  rotate_left
                  · simp only [Act.put, List.setIfInBounds_toArray, List.set_cons_zero, List.set_cons_succ, i64_w, i32_w]
                    rfl
                  refine done_ (done_of HT_.out (by kernel_rfl)) ?_
                  try go_wp2_with (first | ((with_reducible refine gate_callee (f := 53) rfl ?_); refine goesL_ (some 33) rfl rfl Try.func53 (by kernel_rfl) rfl #[.slice A1 l1.length c1, .int .i64 x12_1] rfl (by (try simp only [List.map_toArray, List.map_cons, List.map_nil]); first | done | rfl | (simp only [List.length_drop, List.length_take]; rfl)) ?_; (with_reducible refine (keys_turned.calls _ _ l1 x12_1 false _ ?side1 ?side2 A10.out).mono ?_); (case side1 => repeat (first | exact (Kd.C_below HR1.out HB.out) | (with_reducible refine Kd.C_alloc ?_ _) | (with_reducible refine Kd.C_drewN ?_ _) | (with_reducible refine Kd.C_drew ?_))); (case side2 => exact HC1.out); rintro e w' ⟨rfl, ⟨nd, rfl⟩⟩; refine ⟨_, rfl, ?_⟩))
                  go_roundg k1
                  case measure => have := HK1.out; omega
                  case rel => exact ⟨(t129), (wrap64 (x12_1 + 1)), (by first | rfl | (simp; done) | (simp [*]; done)), H', ⟨by have := HK1.out; omega⟩, ⟨by (with_reducible repeat (first | apply Kd.R_alloc | apply Kd.R_drewN | apply Kd.R_drew)); exact HO131.out⟩, ⟨by repeat (first | (with_reducible first | exact HB.out | apply below_alloc | apply pw_below_drewN | apply below_drew1 | refine below_set ?_ GE124.out) | exact HB.out)⟩⟩
              · rw [if_neg c8] at H
                exact absurd H (by simp)
            · rw [if_neg c7] at H
              have c7b0 : (t125 == 0) = false := beq_eq_false_iff_ne.mpr c7
              have c7b1 : (t125 != 0) = true := bne_iff_ne.mpr c7
              simp only [Option.some.injEq, Prod.mk.injEq] at H
              obtain ⟨rfl, rfl⟩ := H
              have p123 : 0 ≤ (x12_1 : Int) := of_decide_eq_true (by first | (with_reducible assumption) | assumption)
              have q123 : x12_1 < (l0.length : Int) := of_decide_eq_true (by first | (with_reducible assumption) | assumption)
              obtain ⟨ad123, e123, hx123_0, hx123_1, hx123_2⟩ := at_T25 HR0.out x12_1 p123 q123
              cases e123
              replace hx123_0 := (HB.out.cell (World.block_lt_of_cell? w _ hx123_0)).trans hx123_0
              replace hx123_1 := (HB.out.cell (World.block_lt_of_cell? w _ hx123_1)).trans hx123_1
              replace hx123_2 := (HB.out.cell (World.block_lt_of_cell? w _ hx123_2)).trans hx123_2
              replace p123 := eq_true p123
              replace q123 := eq_true q123
              go_wp2_with (first | ((with_reducible refine gate_dst (N := 8) rfl ?_); refine box_event ?hg (N := 8) ?hd (cs := #[.int .i64 0, .int .i64 0, .string (⟨#[]⟩ : ByteArray)]) (t := 25) ?hr ?_; (case hd => rfl); (case hg => rfl); (case hr => first | (go_simp; done) | (go_simp; rfl)); intro gb124 hg w28 hbox hb; have n0_ := Aside0.mk (Kd.R_below (by (with_reducible repeat (first | apply Kd.R_alloc | apply Kd.R_drewN | apply Kd.R_drew)); exact HO_6.out) hb); have n1_ := Aside0.mk (below_step (by repeat (first | (with_reducible first | exact HB.out | apply below_alloc | apply pw_below_drewN | apply below_drew1) | exact HB.out)) hb); have n2_ := Aside0.mk (hbox); have n3_ := Aside0.mk ((by rw [hg]; exact (below_size (by repeat (first | (with_reducible first | exact HB.out | apply below_alloc | apply pw_below_drewN | apply below_drew1) | exact HB.out))) : w.heap.size ≤ gb124)); have n4_ := Aside0.mk ((by rw [hg]; exact (below_size (by repeat (first | (with_reducible first | exact HB.out | apply below_alloc | apply pw_below_drewN | apply below_drew1) | exact HB.out))) : w.heap.size ≤ gb124)); clear HO_6; clear HB; have HO_6 := n0_; have HB := n1_; have BK124 := n2_; have GW124 := n3_; have GE124 := n4_; clear n0_ n1_ n2_ n3_ n4_; clear hb hbox hg; have hcz29_0 : w28.cell? ⟨gb124, 0, none⟩ = some (.int .i64 0) := (blk_cell BK124.out 0).trans rfl; have hcz29_1 : w28.cell? ⟨gb124, 1, none⟩ = some (.int .i64 0) := (blk_cell BK124.out 1).trans rfl; have hcz29_2 : w28.cell? ⟨gb124, 2, none⟩ = some (.string (⟨#[]⟩ : ByteArray)) := (blk_cell BK124.out 2).trans rfl; have hfz29_0 := blk_frozen BK124.out 0; have hfz29_1 := blk_frozen BK124.out 1; have hfz29_2 := blk_frozen BK124.out 2) | ((with_reducible refine gate_callee (f := 49) rfl ?_); refine goesL_ (some 18) rfl rfl Try.func49 (by kernel_rfl) rfl #[.agg #[.int .i64 ((rd_T25 l0 x12_1).f0), .int .i64 ((rd_T25 l0 x12_1).f1), .string ((rd_T25 l0 x12_1).f2)]] rfl (by (try simp only [List.map_toArray, List.map_cons, List.map_nil]); first | done | rfl | (simp only [List.length_drop, List.length_take]; rfl)) ?_; (with_reducible refine (value_Check.calls ((rd_T25 l0 x12_1).f0) ((rd_T25 l0 x12_1).f1) ((rd_T25 l0 x12_1).f2) t125 _ A6.out).mono ?_); rintro e w30 ⟨rfl, hb⟩; refine ⟨_, rfl, ?_⟩; have n0_ := Aside0.mk (Kd.R_below (by (with_reducible repeat (first | apply Kd.R_alloc | apply Kd.R_drewN | apply Kd.R_drew)); exact (Kd.R_mono (Kd.R_far (p := ⟨gb124, 2, none⟩) (Kd.R_far (p := ⟨gb124, 1, none⟩) (Kd.R_far (p := ⟨gb124, 0, none⟩) (Kd.R_types HO_6.out BK124.out (by decide)) (fun _ hk => hk.2) (.int .i64 ((rd_T25 l0 x12_1).f0))) (fun _ hk => hk.2) (.int .i64 ((rd_T25 l0 x12_1).f1))) (fun _ hk => hk.2) (.string ((rd_T25 l0 x12_1).f2))) (fun _ h_ => h_.1))) hb); have n1_ := Aside0.mk (blk_below (g := gb124) (o := .cells #[.int .i64 ((rd_T25 l0 x12_1).f0), .int .i64 ((rd_T25 l0 x12_1).f1), .string ((rd_T25 l0 x12_1).f2)] 25 (0, 0)) (by (with_reducible repeat (first | refine blk_drewN ?_ _ | refine blk_drew ?_ | refine blk_alloc ?_ _)); refine blk_put (cs := #[.int .i64 ((rd_T25 l0 x12_1).f0), .int .i64 ((rd_T25 l0 x12_1).f1), .string (⟨#[]⟩ : ByteArray)]) ?_ 2 _ rfl; (with_reducible repeat (first | refine blk_drewN ?_ _ | refine blk_drew ?_ | refine blk_alloc ?_ _)); refine blk_put (cs := #[.int .i64 ((rd_T25 l0 x12_1).f0), .int .i64 0, .string (⟨#[]⟩ : ByteArray)]) ?_ 1 _ rfl; (with_reducible repeat (first | refine blk_drewN ?_ _ | refine blk_drew ?_ | refine blk_alloc ?_ _)); refine blk_put (cs := #[.int .i64 0, .int .i64 0, .string (⟨#[]⟩ : ByteArray)]) ?_ 0 _ rfl; (with_reducible repeat (first | refine blk_drewN ?_ _ | refine blk_drew ?_ | refine blk_alloc ?_ _)); exact BK124.out) hb); have n2_ := Aside0.mk (below_step (by repeat (first | (with_reducible first | exact HB.out | apply below_alloc | apply pw_below_drewN | apply below_drew1 | refine below_set ?_ GE124.out) | exact HB.out)) hb); clear HO_6; clear BK124; clear HB; have HO_6 := n0_; have BK124 := n1_; have HB := n2_; clear n0_ n1_ n2_; (try clear hb); (try clear hb2); (try clear hk); (try clear hi)))
              go_ret2
              exact ⟨_, by first | rfl | (simp [errW_none, errW_some] <;> rfl) | (simp [*, errW_none, errW_some] <;> rfl), by first | exact Kd.R_nil _ _ _ _ _ | exact Kd.N_nil _ _ _ _ _ | exact Kd.V_nil _ _ _ _ _ | exact Kd.Q_nil _ _ _ _ _ | exact Kd.S_nil _ _ _ _ _, by repeat (first | (with_reducible first | exact HB.out | apply below_alloc | apply pw_below_drewN | apply below_drew1 | refine below_set ?_ GE124.out) | exact HB.out)⟩
          · rw [if_neg c5] at H
            exact absurd H (by simp)
        · rw [if_neg c4] at H
          exact absurd H (by simp)
      · rw [if_neg c3] at H
        have c3b0 : decide (x12_1 < (l0.length : Int)) = false := decide_eq_false c3
        clear c3
        simp only [Option.some.injEq, Prod.mk.injEq] at H
        obtain ⟨rfl, rfl⟩ := H
        go_wp2
        go_ret2
        exact ⟨_, by first | rfl | (simp [errW_none, errW_some] <;> rfl) | (simp [*, errW_none, errW_some] <;> rfl), by (with_reducible repeat (first | apply Kd.R_alloc | apply Kd.R_drewN | apply Kd.R_drew)); exact HO_6.out, by repeat (first | (with_reducible first | exact HB.out | apply below_alloc | apply pw_below_drewN | apply below_drew1) | exact HB.out)⟩
end Go.Proofs.Ytmfenomjhmhogaa.P
end

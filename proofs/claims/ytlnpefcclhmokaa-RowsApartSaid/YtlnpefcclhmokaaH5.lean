/- Written in this session: the readers of rows by hand. -/
import Derived.Test.YtlnpefcclhmokaaH4
import Derived.Defers
import Derived.Recover
import Derived.WideLaws
import Derived.WalkLawsBesides
import Derived.WalkSpells
import Derived.Outline
import Derived.RegionDies
namespace Go.Proofs.Ytlnpefcclhmokaa.P
open Go.RowKit Go.Proofs.YtlnpefcclhmokaaW.PrintWords Go.Proofs.YtlnpefcclhmokaaW.PrintLast Go.Proofs.YtlnpefcclhmokaaW.PrintMore
attribute [local go_sem] max2_int min2_int max_two min_two max_three min_three max_four min_four   -- for this text's walks alone
set_option linter.unusedVariables false
set_option linter.unusedSimpArgs false


def Jv (w0 w W : World) (g : Nat) (l : List Int) : Prop := KeepBut w W g none ∧ Qd w0 W g l
def Je (w0 w W : World) (g : Nat) (c : Int) : Prop := KeepBut w W g none ∧ w0.heap.size ≤ g ∧ Below w0.heap.size w0 W ∧ Qe W g c
theorem Jv.set {w0 w W : World} {g b : Nat} {l : List Int} (hg : g < w.heap.size) (hb : w.heap.size ≤ b) (h : Jv w0 w W g l) (j : Nat) (u : Value) : Jv w0 w (W.setCell ⟨b, j, none⟩ u) g l :=
  ⟨keep_far h.1 hb u, h.2.alive (Below.setCell h.2.2.1 (by have := h.2.1; show w0.heap.size ≤ b; omega) _) (Below.heap_setCell W ⟨b, j, none⟩ u g (by show g ≠ b; omega))⟩
theorem Jv.alloc {w0 w W : World} {g : Nat} {l : List Int} (h : Jv w0 w W g l) (o : Obj) : Jv w0 w (W.alloc o) g l := by
  obtain ⟨A, c, h2, h3⟩ := h.2.2.2.2
  exact ⟨keep_alloc h.1 o, h.2.alive (h.2.2.1.alloc h.2.2.1.size o) (blk_alloc h2 o |>.trans h2.symm)⟩
theorem Jv.post {w0 w W : World} {g : Nat} {l : List Int} {x : S38} (h : Jv w0 w W g l) : QPost encV (fun _ => True) (.ok (x, l)) w0 w g (.returned (encV x)) W := ⟨h.1, h.2.2.1, rfl, h.2⟩
theorem Jv.then {α : Type} {enc : α → Value} {z : α → Prop} {w0 w W W1 : World} {g : Nat} {l t : List Int} {x : α} {e : Ending} (h : Jv w0 w W g l) (h1 : QPost enc z (.ok (x, t)) w0 W g e W1) : e = .returned (enc x) ∧ Jv w0 w W1 g t := ⟨h1.2.2.1, KeepBut.trans h.1 h1.1 (.inl rfl), h1.2.2.2⟩
theorem Jv.fail {α : Type} {enc : α → Value} {z : α → Prop} {w0 w W W1 : World} {g : Nat} {l : List Int} {c : Int} {e : Ending} (h : Jv w0 w W g l) (h1 : QPost enc z (.error c) w0 W g e W1) : (∃ x, z x ∧ e = .returned (enc x)) ∧ Je w0 w W1 g c := ⟨h1.2.2.1, KeepBut.trans h.1 h1.1 (.inl rfl), h.2.1, h1.2.1, h1.2.2.2⟩
theorem Jv.lose {w0 w W : World} {g : Nat} {l : List Int} (h : Jv w0 w W g l) (c : Int) (hc : c ≠ 0) : Je w0 w (W.setCell ⟨g, 1, none⟩ (.int .i64 c)) g c := by
  obtain ⟨hk, hg, hb, hB, A, k, h1, h2, h3⟩ := h
  exact ⟨KeepBut.set_ hk 1 _, hg, Below.setCell hb hg _, hc, A, _, k, blk_set h1 1 _, h3.2.1⟩
theorem Jv.turn {w0 w W : World} {g m c' : Nat} {l : List Int} {A' : Option Addr} (h : Jv w0 w W g l) (hc : l.length - m ≤ c') (hR : ReadsInt w0 .u8 A' (l.length - m) (l.drop m)) : Jv w0 w (W.setCell ⟨g, 0, none⟩ (.slice A' (l.length - m) c')) g (l.drop m) := by
  obtain ⟨hk, hg, hb, hB, A, c, h1, h2, h3⟩ := h
  refine ⟨KeepBut.set_ hk 0 _, hg, Below.setCell hb hg _, fun x hx => hB x (List.mem_of_mem_drop hx), A', c', ?_, ?_, ?_⟩
  · rw [List.length_drop]
    exact blk_set h1 0 _
  · rw [List.length_drop]; exact hc
  · rw [List.length_drop]; exact hR
theorem Je.set {w0 w W : World} {g b : Nat} {c : Int} (hg : g < w.heap.size) (hb : w.heap.size ≤ b) (h : Je w0 w W g c) (j : Nat) (u : Value) : Je w0 w (W.setCell ⟨b, j, none⟩ u) g c := by
  obtain ⟨hk, h0, hB, hc, A, n, k, h1, h2⟩ := h
  exact ⟨keep_far hk hb u, h0, Below.setCell hB (by show w0.heap.size ≤ b; omega) _, hc, A, n, k, (Below.heap_setCell W ⟨b, j, none⟩ u g (by show g ≠ b; omega)).trans h1, h2⟩
theorem Je.alloc {w0 w W : World} {g : Nat} {c : Int} (h : Je w0 w W g c) (o : Obj) : Je w0 w (W.alloc o) g c := by
  obtain ⟨hk, h0, hB, hc, A, n, k, h1, h2⟩ := h
  exact ⟨keep_alloc hk o, h0, hB.alloc hB.size o, hc, A, n, k, blk_alloc h1 o, h2⟩
theorem Je.post {w0 w W : World} {g : Nat} {c : Int} (h : Je w0 w W g c) (x : S38) : QPost encV (fun _ => True) (.error c) w0 w g (.returned (encV x)) W := ⟨h.1, h.2.2.1, ⟨x, trivial, rfl⟩, h.2.2.2⟩
theorem Qd.lt {w0 w : World} {g : Nat} {l : List Int} (h : Qd w0 w g l) : g < w.heap.size := by obtain ⟨A, c, h2, _⟩ := h.2.2.2; exact blk_lt h2
theorem Jv.cells {w0 w W : World} {g : Nat} {l : List Int} (h : Jv w0 w W g l) : ∃ A c, W.cell? ⟨g, 0, none⟩ = some (.slice A l.length c) ∧ W.frozen? ⟨g, 0, none⟩ = false ∧ W.cell? ⟨g, 1, none⟩ = some (.int .i64 0) ∧ W.frozen? ⟨g, 1, none⟩ = false ∧ l.length ≤ c ∧ ReadsInt w0 .u8 A l.length l ∧ l.length ≤ 9223372036854775807 := by
  obtain ⟨A, c, h1, h2, h3⟩ := h.2.2.2.2
  exact ⟨A, c, (blk_cell h1 0).trans rfl, blk_frozen h1 0, (blk_cell h1 1).trans rfl, blk_frozen h1 1, h2, h3, h3.2.1⟩
theorem Je.cells {w0 w W : World} {g : Nat} {e : Int} (h : Je w0 w W g e) : ∃ (A : Option Addr) (n c : Nat), W.cell? ⟨g, 0, none⟩ = some (.slice A n c) ∧ W.frozen? ⟨g, 0, none⟩ = false ∧ W.cell? ⟨g, 1, none⟩ = some (.int .i64 e) ∧ W.frozen? ⟨g, 1, none⟩ = false ∧ n ≤ 9223372036854775807 := by
  obtain ⟨_, _, _, _, A, n, c, h1, h2⟩ := h
  exact ⟨A, n, c, (blk_cell h1 0).trans rfl, blk_frozen h1 0, (blk_cell h1 1).trans rfl, blk_frozen h1 1, h2⟩

theorem quarryref04_reader_fail.jv {w0 w W : World} {g : Nat} {l : List Int} (h : Jv w0 w W g l) (c : Int) (hc : c ≠ 0) :
    Calls Try.prog 25 #[.pointer (some ⟨g, 0, none⟩), .int .i64 c] W fun e W1 => e = .returned (.tuple #[]) ∧ Je w0 w W1 g c ∧ (∀ b, ¬ b = g → W1.heap[b]? = W.heap[b]?) ∧ W1.heap.size = W.heap.size := by
  obtain ⟨A, k, _, _, h1, h2, _⟩ := h.cells
  refine (quarryref04_reader_fail.first g c W h1 h2).mono ?_
  rintro e W1 ⟨rfl, rfl⟩
  exact ⟨rfl, h.lose c hc, fun b hb => Below.heap_setCell W ⟨g, 1, none⟩ _ b (by show b ≠ g; exact hb), World.size_setCell W _ _⟩
set_option maxHeartbeats 2000000 in
set_option maxRecDepth 100000 in
theorem quarryref04_reader_value.nil (g : Nat) (w0 w : World) (h : Qd w0 w g []) :
    Calls Try.prog 24 #[.pointer (some ⟨g, 0, none⟩)] w (QPost encV (fun _ => True) (.error 1) w0 w g) := by
  have hu38 := Try.underlying38
  have HG := Aside0.mk h.lt
  have HI : Aside0 (Jv w0 w w g []) := ⟨KeepBut.refl w g none, h⟩
  clear h
  go_enter Try.func24, Try.ntmps24
  go_wp2_with fail
  refine (quarryref04_reader_one.calls ([]) g w0 _ (HI.out.alloc _).2).mono ?_
  rintro e w1 h1
  obtain ⟨hz, F2⟩ := v_new HG.out h1.1
  obtain ⟨⟨_, rfl, rfl⟩, hi⟩ := (HI.out.alloc _).fail h1
  clear h1 HI
  have HI := Aside0.mk hi
  clear hi
  have hca0 : World.cell? _ ⟨w.heap.size, 0, none⟩ = some (.int .i64 0) := (blk_cell F2 0).trans rfl
  have hfa0 := blk_frozen F2 0
  have hca1 : World.cell? _ ⟨w.heap.size, 1, none⟩ = some (.int .i64 0) := (blk_cell F2 1).trans rfl
  have hfa1 := blk_frozen F2 1
  have hca2 : World.cell? _ ⟨w.heap.size, 2, none⟩ = some (.string (⟨#[]⟩ : ByteArray)) := (blk_cell F2 2).trans rfl
  have hfa2 := blk_frozen F2 2
  have HF := Aside0.mk F2
  clear F2
  have GB := HG
  go_wp2
  refine bodyPost_ret (v := .agg #[.int .i64 (0), .int .i64 (0), .string (V0)]) ?h1 rfl ?h2
  case h1 => simp [results, Try.results24, go_sem, V0, hz, hca0, hca1, hca2]
  case h2 =>
    refine Je.post ?_ ⟨0, 0, V0⟩
    repeat (first | exact HI.out | refine Je.set HG.out (by first | exact Nat.le_refl _ | exact GB.out) ?_ _ _ | refine Je.alloc ?_ _)
set_option maxHeartbeats 2000000 in
set_option maxRecDepth 100000 in
theorem quarryref04_reader_value.zero (k : Int) (t : List Int) (g : Nat) (w0 w : World) (h : Qd w0 w g (k :: t)) (e : k = 0) :
    Calls Try.prog 24 #[.pointer (some ⟨g, 0, none⟩)] w (QPost encV (fun _ => True) (.ok (⟨0, 0, V0⟩, t)) w0 w g) := by
  have hu38 := Try.underlying38
  have HG := Aside0.mk h.lt
  have HI : Aside0 (Jv w0 w w g (k :: t)) := ⟨KeepBut.refl w g none, h⟩
  obtain ⟨hk0, hk1⟩ := h.2.2.1 k (by simp)
  clear h
  have b0 : (k == 0) = true := beq_iff_eq.mpr e
  go_enter Try.func24, Try.ntmps24
  go_wp2_with fail
  refine (quarryref04_reader_one.calls (k :: _) g w0 _ (HI.out.alloc _).2).mono ?_
  rintro e w1 h1
  obtain ⟨hz, F2⟩ := v_new HG.out h1.1
  obtain ⟨he, hi⟩ := (HI.out.alloc _).then h1
  obtain rfl : e = .returned (.int .u8 k) := he
  clear h1 HI
  have HI := Aside0.mk hi
  clear hi
  have hca0 : World.cell? _ ⟨w.heap.size, 0, none⟩ = some (.int .i64 0) := (blk_cell F2 0).trans rfl
  have hfa0 := blk_frozen F2 0
  have hca1 : World.cell? _ ⟨w.heap.size, 1, none⟩ = some (.int .i64 0) := (blk_cell F2 1).trans rfl
  have hfa1 := blk_frozen F2 1
  have hca2 : World.cell? _ ⟨w.heap.size, 2, none⟩ = some (.string (⟨#[]⟩ : ByteArray)) := (blk_cell F2 2).trans rfl
  have hfa2 := blk_frozen F2 2
  have HF := Aside0.mk F2
  clear F2
  have GB := HG
  go_wp2
  subst e
  refine bodyPost_ret (v := .agg #[.int .i64 (0), .int .i64 (0), .string (V0)]) ?h1 rfl ?h2
  case h1 => simp [results, Try.results24, go_sem, V0, hz, hca0, hca1, hca2]
  case h2 =>
    refine Jv.post ?_
    repeat (first | exact HI.out | refine Jv.set HG.out (by first | exact Nat.le_refl _ | exact GB.out) ?_ _ _ | refine Jv.alloc ?_ _)
set_option maxHeartbeats 2000000 in
set_option maxRecDepth 100000 in
theorem quarryref04_reader_value.other (k : Int) (t : List Int) (g : Nat) (w0 w : World) (h : Qd w0 w g (k :: t)) (e : k ≠ 0 ∧ k ≠ 1 ∧ k ≠ 2 ∧ k ≠ 3 ∧ k ≠ 4) :
    Calls Try.prog 24 #[.pointer (some ⟨g, 0, none⟩)] w (QPost encV (fun _ => True) (.error 5) w0 w g) := by
  have hu38 := Try.underlying38
  have HG := Aside0.mk h.lt
  have HI : Aside0 (Jv w0 w w g (k :: t)) := ⟨KeepBut.refl w g none, h⟩
  obtain ⟨hk0, hk1⟩ := h.2.2.1 k (by simp)
  clear h
  have b0 : (k == 0) = false := beq_eq_false_iff_ne.mpr (by omega)
  have b1 : (k == 1) = false := beq_eq_false_iff_ne.mpr (by omega)
  have b2 : (k == 2) = false := beq_eq_false_iff_ne.mpr (by omega)
  have b3 : (k == 3) = false := beq_eq_false_iff_ne.mpr (by omega)
  have b4 : (k == 4) = false := beq_eq_false_iff_ne.mpr (by omega)
  clear e
  go_enter Try.func24, Try.ntmps24
  go_wp2_with fail
  refine (quarryref04_reader_one.calls (k :: _) g w0 _ (HI.out.alloc _).2).mono ?_
  rintro e w1 h1
  obtain ⟨hz, F2⟩ := v_new HG.out h1.1
  obtain ⟨he, hi⟩ := (HI.out.alloc _).then h1
  obtain rfl : e = .returned (.int .u8 k) := he
  clear h1 HI
  have HI := Aside0.mk hi
  clear hi
  have hca0 : World.cell? _ ⟨w.heap.size, 0, none⟩ = some (.int .i64 0) := (blk_cell F2 0).trans rfl
  have hfa0 := blk_frozen F2 0
  have hca1 : World.cell? _ ⟨w.heap.size, 1, none⟩ = some (.int .i64 0) := (blk_cell F2 1).trans rfl
  have hfa1 := blk_frozen F2 1
  have hca2 : World.cell? _ ⟨w.heap.size, 2, none⟩ = some (.string (⟨#[]⟩ : ByteArray)) := (blk_cell F2 2).trans rfl
  have hfa2 := blk_frozen F2 2
  have HF := Aside0.mk F2
  clear F2
  have hg2 : ¬ w.heap.size = g := by have := HG.out; omega
  have hg3 : ¬ w1.heap.size = g := by have := HG.out; omega
  go_wp2_with fail
  refine (quarryref04_reader_fail.jv (HI.out.alloc _) 5 (by decide)).mono ?_
  rintro e w2 ⟨rfl, hi, hs⟩
  have F2 := (hs.1 _ hg2).trans (blk_alloc HF.out _)
  have F3 := (hs.1 _ hg3).trans (Deep.blk_alloc_new w1 _)
  have hz2 : w1.heap.size < w2.heap.size := by have := hs.2; have h2 : (w1.alloc (.cells #[.int .i64 k, .int .i64 0, .string (⟨#[]⟩ : ByteArray)] 38 (0, 0))).heap.size = w1.heap.size + 1 := (by show (w1.heap.push _).size = _; rw [Array.size_push]); omega
  have hz3 : w.heap.size < w2.heap.size := by omega
  clear hca0 hfa0
  clear hca1 hfa1
  clear hca2 hfa2
  have hca0 : World.cell? w2 ⟨w.heap.size, 0, none⟩ = some (.int .i64 0) := (blk_cell F2 0).trans rfl
  have hfa0 : w2.frozen? ⟨w.heap.size, 0, none⟩ = false := blk_frozen F2 0
  have hca1 : World.cell? w2 ⟨w.heap.size, 1, none⟩ = some (.int .i64 0) := (blk_cell F2 1).trans rfl
  have hfa1 : w2.frozen? ⟨w.heap.size, 1, none⟩ = false := blk_frozen F2 1
  have hca2 : World.cell? w2 ⟨w.heap.size, 2, none⟩ = some (.string (⟨#[]⟩ : ByteArray)) := (blk_cell F2 2).trans rfl
  have hfa2 : w2.frozen? ⟨w.heap.size, 2, none⟩ = false := blk_frozen F2 2
  have hcb0 : World.cell? w2 ⟨w1.heap.size, 0, none⟩ = some (.int .i64 k) := (blk_cell F3 0).trans rfl
  have hfb0 : w2.frozen? ⟨w1.heap.size, 0, none⟩ = false := blk_frozen F3 0
  have hcb1 : World.cell? w2 ⟨w1.heap.size, 1, none⟩ = some (.int .i64 0) := (blk_cell F3 1).trans rfl
  have hfb1 : w2.frozen? ⟨w1.heap.size, 1, none⟩ = false := blk_frozen F3 1
  have hcb2 : World.cell? w2 ⟨w1.heap.size, 2, none⟩ = some (.string (⟨#[]⟩ : ByteArray)) := (blk_cell F3 2).trans rfl
  have hfb2 : w2.frozen? ⟨w1.heap.size, 2, none⟩ = false := blk_frozen F3 2
  have GB := Aside0.mk (show w.heap.size ≤ w1.heap.size by omega)
  have hne : ¬ w.heap.size = w1.heap.size := by omega
  have hne' : ¬ w1.heap.size = w.heap.size := by omega
  clear F2 F3 HI HF hs
  have HI := Aside0.mk hi
  clear hi
  go_wp2
  refine bodyPost_ret (v := .agg #[.int .i64 (k), .int .i64 (0), .string (V0)]) ?h1 rfl ?h2
  case h1 => simp [results, Try.results24, go_sem, V0, hz, hz3, hz2, hne, hne', hcb0, hcb1, hcb2, hca0, hca1, hca2]
  case h2 =>
    refine Je.post ?_ ⟨k, 0, V0⟩
    repeat (first | exact HI.out | refine Je.set HG.out (by first | exact Nat.le_refl _ | exact GB.out) ?_ _ _ | refine Je.alloc ?_ _)
set_option maxHeartbeats 2000000 in
set_option maxRecDepth 100000 in
theorem quarryref04_reader_value.bool_none (k : Int) (t : List Int) (g : Nat) (w0 w : World) (h : Qd w0 w g (k :: t)) (e : k = 1) (et : t = []) :
    Calls Try.prog 24 #[.pointer (some ⟨g, 0, none⟩)] w (QPost encV (fun _ => True) (.error 1) w0 w g) := by
  have hu38 := Try.underlying38
  have HG := Aside0.mk h.lt
  have HI : Aside0 (Jv w0 w w g (k :: t)) := ⟨KeepBut.refl w g none, h⟩
  obtain ⟨hk0, hk1⟩ := h.2.2.1 k (by simp)
  clear h
  subst et
  have b0 : (k == 0) = false := beq_eq_false_iff_ne.mpr (by omega)
  have b1 : (k == 1) = true := beq_iff_eq.mpr e
  go_enter Try.func24, Try.ntmps24
  go_wp2_with fail
  refine (quarryref04_reader_one.calls (k :: []) g w0 _ (HI.out.alloc _).2).mono ?_
  rintro e w1 h1
  obtain ⟨hz, F2⟩ := v_new HG.out h1.1
  obtain ⟨he, hi⟩ := (HI.out.alloc _).then h1
  obtain rfl : e = .returned (.int .u8 k) := he
  clear h1 HI
  have HI := Aside0.mk hi
  clear hi
  have hca0 : World.cell? _ ⟨w.heap.size, 0, none⟩ = some (.int .i64 0) := (blk_cell F2 0).trans rfl
  have hfa0 := blk_frozen F2 0
  have hca1 : World.cell? _ ⟨w.heap.size, 1, none⟩ = some (.int .i64 0) := (blk_cell F2 1).trans rfl
  have hfa1 := blk_frozen F2 1
  have hca2 : World.cell? _ ⟨w.heap.size, 2, none⟩ = some (.string (⟨#[]⟩ : ByteArray)) := (blk_cell F2 2).trans rfl
  have hfa2 := blk_frozen F2 2
  have HF := Aside0.mk F2
  clear F2
  go_wp2_with fail
  refine (quarryref04_reader_one.calls [] g w0 _ (HI.out.alloc _).2).mono ?_
  rintro e w2 h2
  clear hca0 hfa0
  clear hca1 hfa1
  clear hca2 hfa2
  obtain ⟨hz2, F3⟩ := v_new HI.out.2.lt h2.1
  have F2 := v_old (by have := HG.out; omega) HF.out h2.1
  have hz3 : w.heap.size < w2.heap.size := by omega
  obtain ⟨⟨_, rfl, rfl⟩, hi⟩ := (HI.out.alloc _).fail h2
  clear h2 HI HF
  have HI := Aside0.mk hi
  clear hi
  have hca0 : World.cell? w2 ⟨w.heap.size, 0, none⟩ = some (.int .i64 0) := (blk_cell F2 0).trans rfl
  have hfa0 : w2.frozen? ⟨w.heap.size, 0, none⟩ = false := blk_frozen F2 0
  have hca1 : World.cell? w2 ⟨w.heap.size, 1, none⟩ = some (.int .i64 0) := (blk_cell F2 1).trans rfl
  have hfa1 : w2.frozen? ⟨w.heap.size, 1, none⟩ = false := blk_frozen F2 1
  have hca2 : World.cell? w2 ⟨w.heap.size, 2, none⟩ = some (.string (⟨#[]⟩ : ByteArray)) := (blk_cell F2 2).trans rfl
  have hfa2 : w2.frozen? ⟨w.heap.size, 2, none⟩ = false := blk_frozen F2 2
  have hcb0 : World.cell? w2 ⟨w1.heap.size, 0, none⟩ = some (.int .i64 1) := (blk_cell F3 0).trans rfl
  have hfb0 : w2.frozen? ⟨w1.heap.size, 0, none⟩ = false := blk_frozen F3 0
  have hcb1 : World.cell? w2 ⟨w1.heap.size, 1, none⟩ = some (.int .i64 0) := (blk_cell F3 1).trans rfl
  have hfb1 : w2.frozen? ⟨w1.heap.size, 1, none⟩ = false := blk_frozen F3 1
  have hcb2 : World.cell? w2 ⟨w1.heap.size, 2, none⟩ = some (.string (⟨#[]⟩ : ByteArray)) := (blk_cell F3 2).trans rfl
  have hfb2 : w2.frozen? ⟨w1.heap.size, 2, none⟩ = false := blk_frozen F3 2
  have HF2 := Aside0.mk F2
  have HF3 := Aside0.mk F3
  have GB := Aside0.mk (show w.heap.size ≤ w1.heap.size by omega)
  have hne : ¬ w.heap.size = w1.heap.size := by omega
  have hne' : ¬ w1.heap.size = w.heap.size := by omega
  clear F2 F3
  go_wp2
  refine bodyPost_ret (v := .agg #[.int .i64 (1), .int .i64 (0), .string (V0)]) ?h1 rfl ?h2
  case h1 => simp [results, Try.results24, go_sem, V0, hz, hz3, hz2, hne, hne', hcb0, hcb1, hcb2, hca0, hca1, hca2]
  case h2 =>
    refine Je.post ?_ ⟨1, 0, V0⟩
    repeat (first | exact HI.out | refine Je.set HG.out (by first | exact Nat.le_refl _ | exact GB.out) ?_ _ _ | refine Je.alloc ?_ _)
set_option maxHeartbeats 2000000 in
set_option maxRecDepth 100000 in
theorem quarryref04_reader_value.bool_bad (k : Int) (t : List Int) (g : Nat) (w0 w : World) (h : Qd w0 w g (k :: t)) (e : k = 1) (c : Int) (t2 : List Int) (et : t = c :: t2) (e2 : 1 < c) :
    Calls Try.prog 24 #[.pointer (some ⟨g, 0, none⟩)] w (QPost encV (fun _ => True) (.error 3) w0 w g) := by
  have hu38 := Try.underlying38
  have HG := Aside0.mk h.lt
  have HI : Aside0 (Jv w0 w w g (k :: t)) := ⟨KeepBut.refl w g none, h⟩
  obtain ⟨hk0, hk1⟩ := h.2.2.1 k (by simp)
  clear h
  subst et
  obtain ⟨hc0, hc1⟩ := HI.out.2.2.2.1 c (by simp)
  have b0 : (k == 0) = false := beq_eq_false_iff_ne.mpr (by omega)
  have b1 : (k == 1) = true := beq_iff_eq.mpr e
  have bc : decide (1 < c) = true := decide_eq_true e2
  go_enter Try.func24, Try.ntmps24
  go_wp2_with fail
  refine (quarryref04_reader_one.calls (k :: c :: t2) g w0 _ (HI.out.alloc _).2).mono ?_
  rintro e w1 h1
  obtain ⟨hz, F2⟩ := v_new HG.out h1.1
  obtain ⟨he, hi⟩ := (HI.out.alloc _).then h1
  obtain rfl : e = .returned (.int .u8 k) := he
  clear h1 HI
  have HI := Aside0.mk hi
  clear hi
  have hca0 : World.cell? _ ⟨w.heap.size, 0, none⟩ = some (.int .i64 0) := (blk_cell F2 0).trans rfl
  have hfa0 := blk_frozen F2 0
  have hca1 : World.cell? _ ⟨w.heap.size, 1, none⟩ = some (.int .i64 0) := (blk_cell F2 1).trans rfl
  have hfa1 := blk_frozen F2 1
  have hca2 : World.cell? _ ⟨w.heap.size, 2, none⟩ = some (.string (⟨#[]⟩ : ByteArray)) := (blk_cell F2 2).trans rfl
  have hfa2 := blk_frozen F2 2
  have HF := Aside0.mk F2
  clear F2
  go_wp2_with fail
  refine (quarryref04_reader_one.calls (c :: t2) g w0 _ (HI.out.alloc _).2).mono ?_
  rintro e w2 h2
  clear hca0 hfa0
  clear hca1 hfa1
  clear hca2 hfa2
  obtain ⟨hz2, F3⟩ := v_new HI.out.2.lt h2.1
  have F2 := v_old (by have := HG.out; omega) HF.out h2.1
  have hz3 : w.heap.size < w2.heap.size := by omega
  obtain ⟨he, hi⟩ := (HI.out.alloc _).then h2
  obtain rfl : e = .returned (.int .u8 c) := he
  clear h2 HI HF
  have HI := Aside0.mk hi
  clear hi
  have hca0 : World.cell? w2 ⟨w.heap.size, 0, none⟩ = some (.int .i64 0) := (blk_cell F2 0).trans rfl
  have hfa0 : w2.frozen? ⟨w.heap.size, 0, none⟩ = false := blk_frozen F2 0
  have hca1 : World.cell? w2 ⟨w.heap.size, 1, none⟩ = some (.int .i64 0) := (blk_cell F2 1).trans rfl
  have hfa1 : w2.frozen? ⟨w.heap.size, 1, none⟩ = false := blk_frozen F2 1
  have hca2 : World.cell? w2 ⟨w.heap.size, 2, none⟩ = some (.string (⟨#[]⟩ : ByteArray)) := (blk_cell F2 2).trans rfl
  have hfa2 : w2.frozen? ⟨w.heap.size, 2, none⟩ = false := blk_frozen F2 2
  have hcb0 : World.cell? w2 ⟨w1.heap.size, 0, none⟩ = some (.int .i64 1) := (blk_cell F3 0).trans rfl
  have hfb0 : w2.frozen? ⟨w1.heap.size, 0, none⟩ = false := blk_frozen F3 0
  have hcb1 : World.cell? w2 ⟨w1.heap.size, 1, none⟩ = some (.int .i64 0) := (blk_cell F3 1).trans rfl
  have hfb1 : w2.frozen? ⟨w1.heap.size, 1, none⟩ = false := blk_frozen F3 1
  have hcb2 : World.cell? w2 ⟨w1.heap.size, 2, none⟩ = some (.string (⟨#[]⟩ : ByteArray)) := (blk_cell F3 2).trans rfl
  have hfb2 : w2.frozen? ⟨w1.heap.size, 2, none⟩ = false := blk_frozen F3 2
  have HF2 := Aside0.mk F2
  have HF3 := Aside0.mk F3
  have GB := Aside0.mk (show w.heap.size ≤ w1.heap.size by omega)
  have hne : ¬ w.heap.size = w1.heap.size := by omega
  have hne' : ¬ w1.heap.size = w.heap.size := by omega
  clear F2 F3
  have hg2 : ¬ w.heap.size = g := by have := HG.out; omega
  have hg1 : ¬ g = w.heap.size := by omega
  have hg3 : ¬ w1.heap.size = g := by have := HG.out; omega
  have hg4 : ¬ g = w1.heap.size := by omega
  go_wp2_with fail
  refine (quarryref04_reader_fail.jv HI.out 3 (by decide)).mono ?_
  rintro e w3 ⟨rfl, hi, hs⟩
  have F2 := (hs.1 _ hg2).trans HF2.out
  have F3 := (hs.1 _ hg3).trans HF3.out
  have hz2' : w1.heap.size < w3.heap.size := by have := hs.2; omega
  have hz3' : w.heap.size < w3.heap.size := by omega
  clear hca0 hfa0
  clear hca1 hfa1
  clear hca2 hfa2
  clear hcb0 hfb0
  clear hcb1 hfb1
  clear hcb2 hfb2
  have hca0 : World.cell? w3 ⟨w.heap.size, 0, none⟩ = some (.int .i64 0) := (blk_cell F2 0).trans rfl
  have hfa0 : w3.frozen? ⟨w.heap.size, 0, none⟩ = false := blk_frozen F2 0
  have hca1 : World.cell? w3 ⟨w.heap.size, 1, none⟩ = some (.int .i64 0) := (blk_cell F2 1).trans rfl
  have hfa1 : w3.frozen? ⟨w.heap.size, 1, none⟩ = false := blk_frozen F2 1
  have hca2 : World.cell? w3 ⟨w.heap.size, 2, none⟩ = some (.string (⟨#[]⟩ : ByteArray)) := (blk_cell F2 2).trans rfl
  have hfa2 : w3.frozen? ⟨w.heap.size, 2, none⟩ = false := blk_frozen F2 2
  have hcb0 : World.cell? w3 ⟨w1.heap.size, 0, none⟩ = some (.int .i64 1) := (blk_cell F3 0).trans rfl
  have hfb0 : w3.frozen? ⟨w1.heap.size, 0, none⟩ = false := blk_frozen F3 0
  have hcb1 : World.cell? w3 ⟨w1.heap.size, 1, none⟩ = some (.int .i64 0) := (blk_cell F3 1).trans rfl
  have hfb1 : w3.frozen? ⟨w1.heap.size, 1, none⟩ = false := blk_frozen F3 1
  have hcb2 : World.cell? w3 ⟨w1.heap.size, 2, none⟩ = some (.string (⟨#[]⟩ : ByteArray)) := (blk_cell F3 2).trans rfl
  have hfb2 : w3.frozen? ⟨w1.heap.size, 2, none⟩ = false := blk_frozen F3 2
  clear F2 F3 HI HF2 HF3 hs
  have HI := Aside0.mk hi
  clear hi
  go_wp2
  refine bodyPost_ret (v := .agg #[.int .i64 (1), .int .i64 (c), .string (V0)]) ?h1 rfl ?h2
  case h1 => simp [results, Try.results24, go_sem, V0, hz, hz3', hz2', hne, hne', hcb0, hcb1, hcb2, hca0, hca1, hca2]
  case h2 =>
    refine Je.post ?_ ⟨1, c, V0⟩
    repeat (first | exact HI.out | refine Je.set HG.out (by first | exact Nat.le_refl _ | exact GB.out) ?_ _ _ | refine Je.alloc ?_ _)
set_option maxHeartbeats 2000000 in
set_option maxRecDepth 100000 in
theorem quarryref04_reader_value.bool (k : Int) (t : List Int) (g : Nat) (w0 w : World) (h : Qd w0 w g (k :: t)) (e : k = 1) (c : Int) (t2 : List Int) (et : t = c :: t2) (e2 : ¬ 1 < c) :
    Calls Try.prog 24 #[.pointer (some ⟨g, 0, none⟩)] w (QPost encV (fun _ => True) (.ok (⟨1, c, V0⟩, t2)) w0 w g) := by
  have hu38 := Try.underlying38
  have HG := Aside0.mk h.lt
  have HI : Aside0 (Jv w0 w w g (k :: t)) := ⟨KeepBut.refl w g none, h⟩
  obtain ⟨hk0, hk1⟩ := h.2.2.1 k (by simp)
  clear h
  subst et
  obtain ⟨hc0, hc1⟩ := HI.out.2.2.2.1 c (by simp)
  have b0 : (k == 0) = false := beq_eq_false_iff_ne.mpr (by omega)
  have b1 : (k == 1) = true := beq_iff_eq.mpr e
  have bc : decide (1 < c) = false := decide_eq_false e2
  go_enter Try.func24, Try.ntmps24
  go_wp2_with fail
  refine (quarryref04_reader_one.calls (k :: c :: t2) g w0 _ (HI.out.alloc _).2).mono ?_
  rintro e w1 h1
  obtain ⟨hz, F2⟩ := v_new HG.out h1.1
  obtain ⟨he, hi⟩ := (HI.out.alloc _).then h1
  obtain rfl : e = .returned (.int .u8 k) := he
  clear h1 HI
  have HI := Aside0.mk hi
  clear hi
  have hca0 : World.cell? _ ⟨w.heap.size, 0, none⟩ = some (.int .i64 0) := (blk_cell F2 0).trans rfl
  have hfa0 := blk_frozen F2 0
  have hca1 : World.cell? _ ⟨w.heap.size, 1, none⟩ = some (.int .i64 0) := (blk_cell F2 1).trans rfl
  have hfa1 := blk_frozen F2 1
  have hca2 : World.cell? _ ⟨w.heap.size, 2, none⟩ = some (.string (⟨#[]⟩ : ByteArray)) := (blk_cell F2 2).trans rfl
  have hfa2 := blk_frozen F2 2
  have HF := Aside0.mk F2
  clear F2
  go_wp2_with fail
  refine (quarryref04_reader_one.calls (c :: t2) g w0 _ (HI.out.alloc _).2).mono ?_
  rintro e w2 h2
  clear hca0 hfa0
  clear hca1 hfa1
  clear hca2 hfa2
  obtain ⟨hz2, F3⟩ := v_new HI.out.2.lt h2.1
  have F2 := v_old (by have := HG.out; omega) HF.out h2.1
  have hz3 : w.heap.size < w2.heap.size := by omega
  obtain ⟨he, hi⟩ := (HI.out.alloc _).then h2
  obtain rfl : e = .returned (.int .u8 c) := he
  clear h2 HI HF
  have HI := Aside0.mk hi
  clear hi
  have hca0 : World.cell? w2 ⟨w.heap.size, 0, none⟩ = some (.int .i64 0) := (blk_cell F2 0).trans rfl
  have hfa0 : w2.frozen? ⟨w.heap.size, 0, none⟩ = false := blk_frozen F2 0
  have hca1 : World.cell? w2 ⟨w.heap.size, 1, none⟩ = some (.int .i64 0) := (blk_cell F2 1).trans rfl
  have hfa1 : w2.frozen? ⟨w.heap.size, 1, none⟩ = false := blk_frozen F2 1
  have hca2 : World.cell? w2 ⟨w.heap.size, 2, none⟩ = some (.string (⟨#[]⟩ : ByteArray)) := (blk_cell F2 2).trans rfl
  have hfa2 : w2.frozen? ⟨w.heap.size, 2, none⟩ = false := blk_frozen F2 2
  have hcb0 : World.cell? w2 ⟨w1.heap.size, 0, none⟩ = some (.int .i64 1) := (blk_cell F3 0).trans rfl
  have hfb0 : w2.frozen? ⟨w1.heap.size, 0, none⟩ = false := blk_frozen F3 0
  have hcb1 : World.cell? w2 ⟨w1.heap.size, 1, none⟩ = some (.int .i64 0) := (blk_cell F3 1).trans rfl
  have hfb1 : w2.frozen? ⟨w1.heap.size, 1, none⟩ = false := blk_frozen F3 1
  have hcb2 : World.cell? w2 ⟨w1.heap.size, 2, none⟩ = some (.string (⟨#[]⟩ : ByteArray)) := (blk_cell F3 2).trans rfl
  have hfb2 : w2.frozen? ⟨w1.heap.size, 2, none⟩ = false := blk_frozen F3 2
  have HF2 := Aside0.mk F2
  have HF3 := Aside0.mk F3
  have GB := Aside0.mk (show w.heap.size ≤ w1.heap.size by omega)
  have hne : ¬ w.heap.size = w1.heap.size := by omega
  have hne' : ¬ w1.heap.size = w.heap.size := by omega
  clear F2 F3
  go_wp2
  subst e
  refine bodyPost_ret (v := .agg #[.int .i64 (1), .int .i64 (c), .string (V0)]) ?h1 rfl ?h2
  case h1 => simp [results, Try.results24, go_sem, V0, hz, hz3, hz2, hne, hne', hcb0, hcb1, hcb2, hca0, hca1, hca2]
  case h2 =>
    refine Jv.post ?_
    repeat (first | exact HI.out | refine Jv.set HG.out (by first | exact Nat.le_refl _ | exact GB.out) ?_ _ _ | refine Jv.alloc ?_ _)
set_option maxHeartbeats 2000000 in
set_option maxRecDepth 100000 in
theorem quarryref04_reader_value.num_none (k : Int) (t : List Int) (g : Nat) (w0 w : World) (h : Qd w0 w g (k :: t)) (e : k = 2) (c : Int) (et : r_num 0 0 t = .error c) :
    Calls Try.prog 24 #[.pointer (some ⟨g, 0, none⟩)] w (QPost encV (fun _ => True) (.error c) w0 w g) := by
  have hu38 := Try.underlying38
  have HG := Aside0.mk h.lt
  have HI : Aside0 (Jv w0 w w g (k :: t)) := ⟨KeepBut.refl w g none, h⟩
  obtain ⟨hk0, hk1⟩ := h.2.2.1 k (by simp)
  clear h
  have b0 : (k == 0) = false := beq_eq_false_iff_ne.mpr (by omega)
  have b1 : (k == 1) = false := beq_eq_false_iff_ne.mpr (by omega)
  have b2 : (k == 2) = true := beq_iff_eq.mpr e
  have ET := Aside0.mk et
  clear et
  go_enter Try.func24, Try.ntmps24
  go_wp2_with fail
  refine (quarryref04_reader_one.calls (k :: t) g w0 _ (HI.out.alloc _).2).mono ?_
  rintro e w1 h1
  obtain ⟨hz, F2⟩ := v_new HG.out h1.1
  obtain ⟨he, hi⟩ := (HI.out.alloc _).then h1
  obtain rfl : e = .returned (.int .u8 k) := he
  clear h1 HI
  have HI := Aside0.mk hi
  clear hi
  have hca0 : World.cell? _ ⟨w.heap.size, 0, none⟩ = some (.int .i64 0) := (blk_cell F2 0).trans rfl
  have hfa0 := blk_frozen F2 0
  have hca1 : World.cell? _ ⟨w.heap.size, 1, none⟩ = some (.int .i64 0) := (blk_cell F2 1).trans rfl
  have hfa1 := blk_frozen F2 1
  have hca2 : World.cell? _ ⟨w.heap.size, 2, none⟩ = some (.string (⟨#[]⟩ : ByteArray)) := (blk_cell F2 2).trans rfl
  have hfa2 := blk_frozen F2 2
  have HF := Aside0.mk F2
  clear F2
  go_wp2_with fail
  refine (quarryref04_reader_number.calls t g w0 _ (HI.out.alloc _).2).mono ?_
  rintro e w2 h2
  rw [ET.out] at h2
  clear hca0 hfa0
  clear hca1 hfa1
  clear hca2 hfa2
  obtain ⟨hz2, F3⟩ := v_new HI.out.2.lt h2.1
  have F2 := v_old (by have := HG.out; omega) HF.out h2.1
  have hz3 : w.heap.size < w2.heap.size := by omega
  obtain ⟨⟨_, rfl, rfl⟩, hi⟩ := (HI.out.alloc _).fail h2
  clear h2 HI HF
  have HI := Aside0.mk hi
  clear hi
  have hca0 : World.cell? w2 ⟨w.heap.size, 0, none⟩ = some (.int .i64 0) := (blk_cell F2 0).trans rfl
  have hfa0 : w2.frozen? ⟨w.heap.size, 0, none⟩ = false := blk_frozen F2 0
  have hca1 : World.cell? w2 ⟨w.heap.size, 1, none⟩ = some (.int .i64 0) := (blk_cell F2 1).trans rfl
  have hfa1 : w2.frozen? ⟨w.heap.size, 1, none⟩ = false := blk_frozen F2 1
  have hca2 : World.cell? w2 ⟨w.heap.size, 2, none⟩ = some (.string (⟨#[]⟩ : ByteArray)) := (blk_cell F2 2).trans rfl
  have hfa2 : w2.frozen? ⟨w.heap.size, 2, none⟩ = false := blk_frozen F2 2
  have hcb0 : World.cell? w2 ⟨w1.heap.size, 0, none⟩ = some (.int .i64 2) := (blk_cell F3 0).trans rfl
  have hfb0 : w2.frozen? ⟨w1.heap.size, 0, none⟩ = false := blk_frozen F3 0
  have hcb1 : World.cell? w2 ⟨w1.heap.size, 1, none⟩ = some (.int .i64 0) := (blk_cell F3 1).trans rfl
  have hfb1 : w2.frozen? ⟨w1.heap.size, 1, none⟩ = false := blk_frozen F3 1
  have hcb2 : World.cell? w2 ⟨w1.heap.size, 2, none⟩ = some (.string (⟨#[]⟩ : ByteArray)) := (blk_cell F3 2).trans rfl
  have hfb2 : w2.frozen? ⟨w1.heap.size, 2, none⟩ = false := blk_frozen F3 2
  have HF2 := Aside0.mk F2
  have HF3 := Aside0.mk F3
  have GB := Aside0.mk (show w.heap.size ≤ w1.heap.size by omega)
  have hne : ¬ w.heap.size = w1.heap.size := by omega
  have hne' : ¬ w1.heap.size = w.heap.size := by omega
  clear F2 F3
  go_wp2
  refine bodyPost_ret (v := .agg #[.int .i64 (2), .int .i64 (0), .string (V0)]) ?h1 rfl ?h2
  case h1 => simp [results, Try.results24, go_sem, V0, hz, hz3, hz2, hne, hne', hcb0, hcb1, hcb2, hca0, hca1, hca2]
  case h2 =>
    refine Je.post ?_ ⟨2, 0, V0⟩
    repeat (first | exact HI.out | refine Je.set HG.out (by first | exact Nat.le_refl _ | exact GB.out) ?_ _ _ | refine Je.alloc ?_ _)
set_option maxHeartbeats 2000000 in
set_option maxRecDepth 100000 in
theorem quarryref04_reader_value.num0 (k : Int) (t : List Int) (g : Nat) (w0 w : World) (h : Qd w0 w g (k :: t)) (e : k = 2) (n : Int) (t2 : List Int) (et : r_num 0 0 t = .ok (n, t2)) (ep : n % 2 = 0) :
    Calls Try.prog 24 #[.pointer (some ⟨g, 0, none⟩)] w (QPost encV (fun _ => True) (.ok (⟨2, unzig n, V0⟩, t2)) w0 w g) := by
  have hu38 := Try.underlying38
  have HG := Aside0.mk h.lt
  have HI : Aside0 (Jv w0 w w g (k :: t)) := ⟨KeepBut.refl w g none, h⟩
  obtain ⟨hk0, hk1⟩ := h.2.2.1 k (by simp)
  clear h
  have b0 : (k == 0) = false := beq_eq_false_iff_ne.mpr (by omega)
  have b1 : (k == 1) = false := beq_eq_false_iff_ne.mpr (by omega)
  have b2 : (k == 2) = true := beq_iff_eq.mpr e
  obtain ⟨hn0, hn1⟩ := r_num_bound (fun x hx => HI.out.2.2.2.1 x (List.mem_cons_of_mem _ hx)) (by omega) (by omega) (by decide) et
  have ET := Aside0.mk et
  clear et
  have eu : unzig n = n / 2 := by unfold unzig; rw [if_pos ep]
  rw [eu]
  have q1 : n.tmod 2 = n % 2 := Int.tmod_eq_emod_of_nonneg hn0
  have q2 : n.tdiv 2 = n / 2 := Int.tdiv_eq_ediv_of_nonneg hn0
  have q3 : (n % 2 == 0) = true := beq_iff_eq.mpr ep
  have q4 : wrap64 (n / 2) = n / 2 := by unfold wrap64; omega
  have q5 : wrap64 (-(n / 2)) = -(n / 2) := by unfold wrap64; omega
  have q6 : wrap64 (-(n / 2) - 1) = -(n / 2) - 1 := by unfold wrap64; omega
  go_enter Try.func24, Try.ntmps24
  go_wp2_with fail
  refine (quarryref04_reader_one.calls (k :: t) g w0 _ (HI.out.alloc _).2).mono ?_
  rintro e w1 h1
  obtain ⟨hz, F2⟩ := v_new HG.out h1.1
  obtain ⟨he, hi⟩ := (HI.out.alloc _).then h1
  obtain rfl : e = .returned (.int .u8 k) := he
  clear h1 HI
  have HI := Aside0.mk hi
  clear hi
  have hca0 : World.cell? _ ⟨w.heap.size, 0, none⟩ = some (.int .i64 0) := (blk_cell F2 0).trans rfl
  have hfa0 := blk_frozen F2 0
  have hca1 : World.cell? _ ⟨w.heap.size, 1, none⟩ = some (.int .i64 0) := (blk_cell F2 1).trans rfl
  have hfa1 := blk_frozen F2 1
  have hca2 : World.cell? _ ⟨w.heap.size, 2, none⟩ = some (.string (⟨#[]⟩ : ByteArray)) := (blk_cell F2 2).trans rfl
  have hfa2 := blk_frozen F2 2
  have HF := Aside0.mk F2
  clear F2
  go_wp2_with fail
  refine (quarryref04_reader_number.calls t g w0 _ (HI.out.alloc _).2).mono ?_
  rintro e w2 h2
  rw [ET.out] at h2
  clear hca0 hfa0
  clear hca1 hfa1
  clear hca2 hfa2
  obtain ⟨hz2, F3⟩ := v_new HI.out.2.lt h2.1
  have F2 := v_old (by have := HG.out; omega) HF.out h2.1
  have hz3 : w.heap.size < w2.heap.size := by omega
  obtain ⟨he, hi⟩ := (HI.out.alloc _).then h2
  obtain rfl : e = .returned (.int .u64 n) := he
  clear h2 HI HF
  have HI := Aside0.mk hi
  clear hi
  have hca0 : World.cell? w2 ⟨w.heap.size, 0, none⟩ = some (.int .i64 0) := (blk_cell F2 0).trans rfl
  have hfa0 : w2.frozen? ⟨w.heap.size, 0, none⟩ = false := blk_frozen F2 0
  have hca1 : World.cell? w2 ⟨w.heap.size, 1, none⟩ = some (.int .i64 0) := (blk_cell F2 1).trans rfl
  have hfa1 : w2.frozen? ⟨w.heap.size, 1, none⟩ = false := blk_frozen F2 1
  have hca2 : World.cell? w2 ⟨w.heap.size, 2, none⟩ = some (.string (⟨#[]⟩ : ByteArray)) := (blk_cell F2 2).trans rfl
  have hfa2 : w2.frozen? ⟨w.heap.size, 2, none⟩ = false := blk_frozen F2 2
  have hcb0 : World.cell? w2 ⟨w1.heap.size, 0, none⟩ = some (.int .i64 2) := (blk_cell F3 0).trans rfl
  have hfb0 : w2.frozen? ⟨w1.heap.size, 0, none⟩ = false := blk_frozen F3 0
  have hcb1 : World.cell? w2 ⟨w1.heap.size, 1, none⟩ = some (.int .i64 0) := (blk_cell F3 1).trans rfl
  have hfb1 : w2.frozen? ⟨w1.heap.size, 1, none⟩ = false := blk_frozen F3 1
  have hcb2 : World.cell? w2 ⟨w1.heap.size, 2, none⟩ = some (.string (⟨#[]⟩ : ByteArray)) := (blk_cell F3 2).trans rfl
  have hfb2 : w2.frozen? ⟨w1.heap.size, 2, none⟩ = false := blk_frozen F3 2
  have HF2 := Aside0.mk F2
  have HF3 := Aside0.mk F3
  have GB := Aside0.mk (show w.heap.size ≤ w1.heap.size by omega)
  have hne : ¬ w.heap.size = w1.heap.size := by omega
  have hne' : ¬ w1.heap.size = w.heap.size := by omega
  clear F2 F3
  go_wp2
  subst e
  refine bodyPost_ret (v := .agg #[.int .i64 (2), .int .i64 (n / 2), .string (V0)]) ?h1 rfl ?h2
  case h1 => simp [results, Try.results24, go_sem, V0, hz, hz3, hz2, hne, hne', hcb0, hcb1, hcb2, hca0, hca1, hca2]
  case h2 =>
    refine Jv.post ?_
    repeat (first | exact HI.out | refine Jv.set HG.out (by first | exact Nat.le_refl _ | exact GB.out) ?_ _ _ | refine Jv.alloc ?_ _)
set_option maxHeartbeats 2000000 in
set_option maxRecDepth 100000 in
theorem quarryref04_reader_value.num1 (k : Int) (t : List Int) (g : Nat) (w0 w : World) (h : Qd w0 w g (k :: t)) (e : k = 2) (n : Int) (t2 : List Int) (et : r_num 0 0 t = .ok (n, t2)) (ep : n % 2 = 1) :
    Calls Try.prog 24 #[.pointer (some ⟨g, 0, none⟩)] w (QPost encV (fun _ => True) (.ok (⟨2, unzig n, V0⟩, t2)) w0 w g) := by
  have hu38 := Try.underlying38
  have HG := Aside0.mk h.lt
  have HI : Aside0 (Jv w0 w w g (k :: t)) := ⟨KeepBut.refl w g none, h⟩
  obtain ⟨hk0, hk1⟩ := h.2.2.1 k (by simp)
  clear h
  have b0 : (k == 0) = false := beq_eq_false_iff_ne.mpr (by omega)
  have b1 : (k == 1) = false := beq_eq_false_iff_ne.mpr (by omega)
  have b2 : (k == 2) = true := beq_iff_eq.mpr e
  obtain ⟨hn0, hn1⟩ := r_num_bound (fun x hx => HI.out.2.2.2.1 x (List.mem_cons_of_mem _ hx)) (by omega) (by omega) (by decide) et
  have ET := Aside0.mk et
  clear et
  have eu : unzig n = -(n / 2) - 1 := by unfold unzig; rw [if_neg (by omega)]
  rw [eu]
  have q1 : n.tmod 2 = n % 2 := Int.tmod_eq_emod_of_nonneg hn0
  have q2 : n.tdiv 2 = n / 2 := Int.tdiv_eq_ediv_of_nonneg hn0
  have q3 : (n % 2 == 0) = false := beq_eq_false_iff_ne.mpr (by omega)
  have q4 : wrap64 (n / 2) = n / 2 := by unfold wrap64; omega
  have q5 : wrap64 (-(n / 2)) = -(n / 2) := by unfold wrap64; omega
  have q6 : wrap64 (-(n / 2) - 1) = -(n / 2) - 1 := by unfold wrap64; omega
  go_enter Try.func24, Try.ntmps24
  go_wp2_with fail
  refine (quarryref04_reader_one.calls (k :: t) g w0 _ (HI.out.alloc _).2).mono ?_
  rintro e w1 h1
  obtain ⟨hz, F2⟩ := v_new HG.out h1.1
  obtain ⟨he, hi⟩ := (HI.out.alloc _).then h1
  obtain rfl : e = .returned (.int .u8 k) := he
  clear h1 HI
  have HI := Aside0.mk hi
  clear hi
  have hca0 : World.cell? _ ⟨w.heap.size, 0, none⟩ = some (.int .i64 0) := (blk_cell F2 0).trans rfl
  have hfa0 := blk_frozen F2 0
  have hca1 : World.cell? _ ⟨w.heap.size, 1, none⟩ = some (.int .i64 0) := (blk_cell F2 1).trans rfl
  have hfa1 := blk_frozen F2 1
  have hca2 : World.cell? _ ⟨w.heap.size, 2, none⟩ = some (.string (⟨#[]⟩ : ByteArray)) := (blk_cell F2 2).trans rfl
  have hfa2 := blk_frozen F2 2
  have HF := Aside0.mk F2
  clear F2
  go_wp2_with fail
  refine (quarryref04_reader_number.calls t g w0 _ (HI.out.alloc _).2).mono ?_
  rintro e w2 h2
  rw [ET.out] at h2
  clear hca0 hfa0
  clear hca1 hfa1
  clear hca2 hfa2
  obtain ⟨hz2, F3⟩ := v_new HI.out.2.lt h2.1
  have F2 := v_old (by have := HG.out; omega) HF.out h2.1
  have hz3 : w.heap.size < w2.heap.size := by omega
  obtain ⟨he, hi⟩ := (HI.out.alloc _).then h2
  obtain rfl : e = .returned (.int .u64 n) := he
  clear h2 HI HF
  have HI := Aside0.mk hi
  clear hi
  have hca0 : World.cell? w2 ⟨w.heap.size, 0, none⟩ = some (.int .i64 0) := (blk_cell F2 0).trans rfl
  have hfa0 : w2.frozen? ⟨w.heap.size, 0, none⟩ = false := blk_frozen F2 0
  have hca1 : World.cell? w2 ⟨w.heap.size, 1, none⟩ = some (.int .i64 0) := (blk_cell F2 1).trans rfl
  have hfa1 : w2.frozen? ⟨w.heap.size, 1, none⟩ = false := blk_frozen F2 1
  have hca2 : World.cell? w2 ⟨w.heap.size, 2, none⟩ = some (.string (⟨#[]⟩ : ByteArray)) := (blk_cell F2 2).trans rfl
  have hfa2 : w2.frozen? ⟨w.heap.size, 2, none⟩ = false := blk_frozen F2 2
  have hcb0 : World.cell? w2 ⟨w1.heap.size, 0, none⟩ = some (.int .i64 2) := (blk_cell F3 0).trans rfl
  have hfb0 : w2.frozen? ⟨w1.heap.size, 0, none⟩ = false := blk_frozen F3 0
  have hcb1 : World.cell? w2 ⟨w1.heap.size, 1, none⟩ = some (.int .i64 0) := (blk_cell F3 1).trans rfl
  have hfb1 : w2.frozen? ⟨w1.heap.size, 1, none⟩ = false := blk_frozen F3 1
  have hcb2 : World.cell? w2 ⟨w1.heap.size, 2, none⟩ = some (.string (⟨#[]⟩ : ByteArray)) := (blk_cell F3 2).trans rfl
  have hfb2 : w2.frozen? ⟨w1.heap.size, 2, none⟩ = false := blk_frozen F3 2
  have HF2 := Aside0.mk F2
  have HF3 := Aside0.mk F3
  have GB := Aside0.mk (show w.heap.size ≤ w1.heap.size by omega)
  have hne : ¬ w.heap.size = w1.heap.size := by omega
  have hne' : ¬ w1.heap.size = w.heap.size := by omega
  clear F2 F3
  go_wp2
  subst e
  refine bodyPost_ret (v := .agg #[.int .i64 (2), .int .i64 (-(n / 2) - 1), .string (V0)]) ?h1 rfl ?h2
  case h1 => simp [results, Try.results24, go_sem, V0, hz, hz3, hz2, hne, hne', hcb0, hcb1, hcb2, hca0, hca1, hca2]
  case h2 =>
    refine Jv.post ?_
    repeat (first | exact HI.out | refine Jv.set HG.out (by first | exact Nat.le_refl _ | exact GB.out) ?_ _ _ | refine Jv.alloc ?_ _)
set_option maxHeartbeats 2000000 in
set_option maxRecDepth 100000 in
theorem quarryref04_reader_value.text3_none (k : Int) (t : List Int) (g : Nat) (w0 w : World) (h : Qd w0 w g (k :: t)) (e : k = 3) (c : Int) (et : r_num 0 0 t = .error c) :
    Calls Try.prog 24 #[.pointer (some ⟨g, 0, none⟩)] w (QPost encV (fun _ => True) (.error c) w0 w g) := by
  have hu38 := Try.underlying38
  have HG := Aside0.mk h.lt
  have HI : Aside0 (Jv w0 w w g (k :: t)) := ⟨KeepBut.refl w g none, h⟩
  obtain ⟨hk0, hk1⟩ := h.2.2.1 k (by simp)
  clear h
  have b0 : (k == 0) = false := beq_eq_false_iff_ne.mpr (by omega)
  have b1 : (k == 1) = false := beq_eq_false_iff_ne.mpr (by omega)
  have b2 : (k == 2) = false := beq_eq_false_iff_ne.mpr (by omega)
  have b3 : (k == 3) = true := beq_iff_eq.mpr e
  have ET := Aside0.mk et
  clear et
  go_enter Try.func24, Try.ntmps24
  go_wp2_with fail
  refine (quarryref04_reader_one.calls (k :: t) g w0 _ (HI.out.alloc _).2).mono ?_
  rintro e w1 h1
  obtain ⟨hz, F2⟩ := v_new HG.out h1.1
  obtain ⟨he, hi⟩ := (HI.out.alloc _).then h1
  obtain rfl : e = .returned (.int .u8 k) := he
  clear h1 HI
  have HI := Aside0.mk hi
  clear hi
  have hca0 : World.cell? _ ⟨w.heap.size, 0, none⟩ = some (.int .i64 0) := (blk_cell F2 0).trans rfl
  have hfa0 := blk_frozen F2 0
  have hca1 : World.cell? _ ⟨w.heap.size, 1, none⟩ = some (.int .i64 0) := (blk_cell F2 1).trans rfl
  have hfa1 := blk_frozen F2 1
  have hca2 : World.cell? _ ⟨w.heap.size, 2, none⟩ = some (.string (⟨#[]⟩ : ByteArray)) := (blk_cell F2 2).trans rfl
  have hfa2 := blk_frozen F2 2
  have HF := Aside0.mk F2
  clear F2
  go_wp2_with fail
  refine (quarryref04_reader_number.calls t g w0 _ (HI.out.alloc _).2).mono ?_
  rintro e w2 h2
  rw [ET.out] at h2
  clear hca0 hfa0
  clear hca1 hfa1
  clear hca2 hfa2
  obtain ⟨hz2, F3⟩ := v_new HI.out.2.lt h2.1
  have F2 := v_old (by have := HG.out; omega) HF.out h2.1
  have hz3 : w.heap.size < w2.heap.size := by omega
  obtain ⟨⟨_, rfl, rfl⟩, hi⟩ := (HI.out.alloc _).fail h2
  clear h2 HI HF
  have HI := Aside0.mk hi
  clear hi
  have hca0 : World.cell? w2 ⟨w.heap.size, 0, none⟩ = some (.int .i64 0) := (blk_cell F2 0).trans rfl
  have hfa0 : w2.frozen? ⟨w.heap.size, 0, none⟩ = false := blk_frozen F2 0
  have hca1 : World.cell? w2 ⟨w.heap.size, 1, none⟩ = some (.int .i64 0) := (blk_cell F2 1).trans rfl
  have hfa1 : w2.frozen? ⟨w.heap.size, 1, none⟩ = false := blk_frozen F2 1
  have hca2 : World.cell? w2 ⟨w.heap.size, 2, none⟩ = some (.string (⟨#[]⟩ : ByteArray)) := (blk_cell F2 2).trans rfl
  have hfa2 : w2.frozen? ⟨w.heap.size, 2, none⟩ = false := blk_frozen F2 2
  have hcb0 : World.cell? w2 ⟨w1.heap.size, 0, none⟩ = some (.int .i64 3) := (blk_cell F3 0).trans rfl
  have hfb0 : w2.frozen? ⟨w1.heap.size, 0, none⟩ = false := blk_frozen F3 0
  have hcb1 : World.cell? w2 ⟨w1.heap.size, 1, none⟩ = some (.int .i64 0) := (blk_cell F3 1).trans rfl
  have hfb1 : w2.frozen? ⟨w1.heap.size, 1, none⟩ = false := blk_frozen F3 1
  have hcb2 : World.cell? w2 ⟨w1.heap.size, 2, none⟩ = some (.string (⟨#[]⟩ : ByteArray)) := (blk_cell F3 2).trans rfl
  have hfb2 : w2.frozen? ⟨w1.heap.size, 2, none⟩ = false := blk_frozen F3 2
  have HF2 := Aside0.mk F2
  have HF3 := Aside0.mk F3
  have GB := Aside0.mk (show w.heap.size ≤ w1.heap.size by omega)
  have hne : ¬ w.heap.size = w1.heap.size := by omega
  have hne' : ¬ w1.heap.size = w.heap.size := by omega
  clear F2 F3
  obtain ⟨A, nn, kk, hrc, hrf, hre, hrg, hl⟩ := HI.out.cells
  have hc : (c == 0) = false := beq_eq_false_iff_ne.mpr HI.out.2.2.2.1
  have hu : IntKind.u64.wrap (nn : Int) = (nn : Int) := by rw [IntKind.wrap_u64]; omega
  have hd : decide ((nn : Int) < 0) = false := decide_eq_false (by omega)
  go_wp2
  refine bodyPost_ret (v := .agg #[.int .i64 (3), .int .i64 (0), .string (V0)]) ?h1 rfl ?h2
  case h1 => simp [results, Try.results24, go_sem, V0, hz, hz3, hz2, hne, hne', hcb0, hcb1, hcb2, hca0, hca1, hca2]
  case h2 =>
    refine Je.post ?_ ⟨3, 0, V0⟩
    repeat (first | exact HI.out | refine Je.set HG.out (by first | exact Nat.le_refl _ | exact GB.out) ?_ _ _ | refine Je.alloc ?_ _)
set_option maxHeartbeats 2000000 in
set_option maxRecDepth 100000 in
theorem quarryref04_reader_value.text3_short (k : Int) (t : List Int) (g : Nat) (w0 w : World) (h : Qd w0 w g (k :: t)) (e : k = 3) (n : Int) (t2 : List Int) (et : r_num 0 0 t = .ok (n, t2)) (en : (t2.length : Int) < n) :
    Calls Try.prog 24 #[.pointer (some ⟨g, 0, none⟩)] w (QPost encV (fun _ => True) (.error 1) w0 w g) := by
  have hu38 := Try.underlying38
  have HG := Aside0.mk h.lt
  have HI : Aside0 (Jv w0 w w g (k :: t)) := ⟨KeepBut.refl w g none, h⟩
  obtain ⟨hk0, hk1⟩ := h.2.2.1 k (by simp)
  clear h
  have b0 : (k == 0) = false := beq_eq_false_iff_ne.mpr (by omega)
  have b1 : (k == 1) = false := beq_eq_false_iff_ne.mpr (by omega)
  have b2 : (k == 2) = false := beq_eq_false_iff_ne.mpr (by omega)
  have b3 : (k == 3) = true := beq_iff_eq.mpr e
  obtain ⟨hn0, hn1⟩ := r_num_bound (fun x hx => HI.out.2.2.2.1 x (List.mem_cons_of_mem _ hx)) (by omega) (by omega) (by decide) et
  have ET := Aside0.mk et
  clear et
  go_enter Try.func24, Try.ntmps24
  go_wp2_with fail
  refine (quarryref04_reader_one.calls (k :: t) g w0 _ (HI.out.alloc _).2).mono ?_
  rintro e w1 h1
  obtain ⟨hz, F2⟩ := v_new HG.out h1.1
  obtain ⟨he, hi⟩ := (HI.out.alloc _).then h1
  obtain rfl : e = .returned (.int .u8 k) := he
  clear h1 HI
  have HI := Aside0.mk hi
  clear hi
  have hca0 : World.cell? _ ⟨w.heap.size, 0, none⟩ = some (.int .i64 0) := (blk_cell F2 0).trans rfl
  have hfa0 := blk_frozen F2 0
  have hca1 : World.cell? _ ⟨w.heap.size, 1, none⟩ = some (.int .i64 0) := (blk_cell F2 1).trans rfl
  have hfa1 := blk_frozen F2 1
  have hca2 : World.cell? _ ⟨w.heap.size, 2, none⟩ = some (.string (⟨#[]⟩ : ByteArray)) := (blk_cell F2 2).trans rfl
  have hfa2 := blk_frozen F2 2
  have HF := Aside0.mk F2
  clear F2
  go_wp2_with fail
  refine (quarryref04_reader_number.calls t g w0 _ (HI.out.alloc _).2).mono ?_
  rintro e w2 h2
  rw [ET.out] at h2
  clear hca0 hfa0
  clear hca1 hfa1
  clear hca2 hfa2
  obtain ⟨hz2, F3⟩ := v_new HI.out.2.lt h2.1
  have F2 := v_old (by have := HG.out; omega) HF.out h2.1
  have hz3 : w.heap.size < w2.heap.size := by omega
  obtain ⟨he, hi⟩ := (HI.out.alloc _).then h2
  obtain rfl : e = .returned (.int .u64 n) := he
  clear h2 HI HF
  have HI := Aside0.mk hi
  clear hi
  have hca0 : World.cell? w2 ⟨w.heap.size, 0, none⟩ = some (.int .i64 0) := (blk_cell F2 0).trans rfl
  have hfa0 : w2.frozen? ⟨w.heap.size, 0, none⟩ = false := blk_frozen F2 0
  have hca1 : World.cell? w2 ⟨w.heap.size, 1, none⟩ = some (.int .i64 0) := (blk_cell F2 1).trans rfl
  have hfa1 : w2.frozen? ⟨w.heap.size, 1, none⟩ = false := blk_frozen F2 1
  have hca2 : World.cell? w2 ⟨w.heap.size, 2, none⟩ = some (.string (⟨#[]⟩ : ByteArray)) := (blk_cell F2 2).trans rfl
  have hfa2 : w2.frozen? ⟨w.heap.size, 2, none⟩ = false := blk_frozen F2 2
  have hcb0 : World.cell? w2 ⟨w1.heap.size, 0, none⟩ = some (.int .i64 3) := (blk_cell F3 0).trans rfl
  have hfb0 : w2.frozen? ⟨w1.heap.size, 0, none⟩ = false := blk_frozen F3 0
  have hcb1 : World.cell? w2 ⟨w1.heap.size, 1, none⟩ = some (.int .i64 0) := (blk_cell F3 1).trans rfl
  have hfb1 : w2.frozen? ⟨w1.heap.size, 1, none⟩ = false := blk_frozen F3 1
  have hcb2 : World.cell? w2 ⟨w1.heap.size, 2, none⟩ = some (.string (⟨#[]⟩ : ByteArray)) := (blk_cell F3 2).trans rfl
  have hfb2 : w2.frozen? ⟨w1.heap.size, 2, none⟩ = false := blk_frozen F3 2
  have HF2 := Aside0.mk F2
  have HF3 := Aside0.mk F3
  have GB := Aside0.mk (show w.heap.size ≤ w1.heap.size by omega)
  have hne : ¬ w.heap.size = w1.heap.size := by omega
  have hne' : ¬ w1.heap.size = w.heap.size := by omega
  clear F2 F3
  obtain ⟨A, c, hrc, hrf, hre, hrg, hc, hR, hl⟩ := HI.out.cells
  have hu : IntKind.u64.wrap (t2.length : Int) = (t2.length : Int) := by rw [IntKind.wrap_u64]; omega
  have b9 : decide ((t2.length : Int) < n) = true := decide_eq_true en
  clear hR hc en
  have hg2 : ¬ w.heap.size = g := by have := HG.out; omega
  have hg1 : ¬ g = w.heap.size := by omega
  have hg3 : ¬ w1.heap.size = g := by have := HG.out; omega
  have hg4 : ¬ g = w1.heap.size := by omega
  go_wp2_with fail
  refine (quarryref04_reader_fail.jv HI.out 1 (by decide)).mono ?_
  rintro e w3 ⟨rfl, hi, hs⟩
  have F2 := (hs.1 _ hg2).trans HF2.out
  have F3 := (hs.1 _ hg3).trans HF3.out
  have hz2' : w1.heap.size < w3.heap.size := by have := hs.2; omega
  have hz3' : w.heap.size < w3.heap.size := by omega
  clear hca0 hfa0
  clear hca1 hfa1
  clear hca2 hfa2
  clear hcb0 hfb0
  clear hcb1 hfb1
  clear hcb2 hfb2
  have hca0 : World.cell? w3 ⟨w.heap.size, 0, none⟩ = some (.int .i64 0) := (blk_cell F2 0).trans rfl
  have hfa0 : w3.frozen? ⟨w.heap.size, 0, none⟩ = false := blk_frozen F2 0
  have hca1 : World.cell? w3 ⟨w.heap.size, 1, none⟩ = some (.int .i64 0) := (blk_cell F2 1).trans rfl
  have hfa1 : w3.frozen? ⟨w.heap.size, 1, none⟩ = false := blk_frozen F2 1
  have hca2 : World.cell? w3 ⟨w.heap.size, 2, none⟩ = some (.string (⟨#[]⟩ : ByteArray)) := (blk_cell F2 2).trans rfl
  have hfa2 : w3.frozen? ⟨w.heap.size, 2, none⟩ = false := blk_frozen F2 2
  have hcb0 : World.cell? w3 ⟨w1.heap.size, 0, none⟩ = some (.int .i64 3) := (blk_cell F3 0).trans rfl
  have hfb0 : w3.frozen? ⟨w1.heap.size, 0, none⟩ = false := blk_frozen F3 0
  have hcb1 : World.cell? w3 ⟨w1.heap.size, 1, none⟩ = some (.int .i64 0) := (blk_cell F3 1).trans rfl
  have hfb1 : w3.frozen? ⟨w1.heap.size, 1, none⟩ = false := blk_frozen F3 1
  have hcb2 : World.cell? w3 ⟨w1.heap.size, 2, none⟩ = some (.string (⟨#[]⟩ : ByteArray)) := (blk_cell F3 2).trans rfl
  have hfb2 : w3.frozen? ⟨w1.heap.size, 2, none⟩ = false := blk_frozen F3 2
  clear F2 F3 HI HF2 HF3 hs
  have HI := Aside0.mk hi
  clear hi
  obtain ⟨A4, nn, kk, hrc4, hrf4, hre4, hrg4, hl4⟩ := HI.out.cells
  clear hrc hrf hre hrg
  go_wp2
  refine bodyPost_ret (v := .agg #[.int .i64 (3), .int .i64 (0), .string (V0)]) ?h1 rfl ?h2
  case h1 => simp [results, Try.results24, go_sem, V0, hz, hz3', hz2', hne, hne', hcb0, hcb1, hcb2, hca0, hca1, hca2]
  case h2 =>
    refine Je.post ?_ ⟨3, 0, V0⟩
    repeat (first | exact HI.out | refine Je.set HG.out (by first | exact Nat.le_refl _ | exact GB.out) ?_ _ _ | refine Je.alloc ?_ _)
set_option maxHeartbeats 2000000 in
set_option maxRecDepth 100000 in
theorem quarryref04_reader_value.text4_none (k : Int) (t : List Int) (g : Nat) (w0 w : World) (h : Qd w0 w g (k :: t)) (e : k = 4) (c : Int) (et : r_num 0 0 t = .error c) :
    Calls Try.prog 24 #[.pointer (some ⟨g, 0, none⟩)] w (QPost encV (fun _ => True) (.error c) w0 w g) := by
  have hu38 := Try.underlying38
  have HG := Aside0.mk h.lt
  have HI : Aside0 (Jv w0 w w g (k :: t)) := ⟨KeepBut.refl w g none, h⟩
  obtain ⟨hk0, hk1⟩ := h.2.2.1 k (by simp)
  clear h
  have b0 : (k == 0) = false := beq_eq_false_iff_ne.mpr (by omega)
  have b1 : (k == 1) = false := beq_eq_false_iff_ne.mpr (by omega)
  have b2 : (k == 2) = false := beq_eq_false_iff_ne.mpr (by omega)
  have b3 : (k == 3) = false := beq_eq_false_iff_ne.mpr (by omega)
  have b4 : (k == 4) = true := beq_iff_eq.mpr e
  have ET := Aside0.mk et
  clear et
  go_enter Try.func24, Try.ntmps24
  go_wp2_with fail
  refine (quarryref04_reader_one.calls (k :: t) g w0 _ (HI.out.alloc _).2).mono ?_
  rintro e w1 h1
  obtain ⟨hz, F2⟩ := v_new HG.out h1.1
  obtain ⟨he, hi⟩ := (HI.out.alloc _).then h1
  obtain rfl : e = .returned (.int .u8 k) := he
  clear h1 HI
  have HI := Aside0.mk hi
  clear hi
  have hca0 : World.cell? _ ⟨w.heap.size, 0, none⟩ = some (.int .i64 0) := (blk_cell F2 0).trans rfl
  have hfa0 := blk_frozen F2 0
  have hca1 : World.cell? _ ⟨w.heap.size, 1, none⟩ = some (.int .i64 0) := (blk_cell F2 1).trans rfl
  have hfa1 := blk_frozen F2 1
  have hca2 : World.cell? _ ⟨w.heap.size, 2, none⟩ = some (.string (⟨#[]⟩ : ByteArray)) := (blk_cell F2 2).trans rfl
  have hfa2 := blk_frozen F2 2
  have HF := Aside0.mk F2
  clear F2
  go_wp2_with fail
  refine (quarryref04_reader_number.calls t g w0 _ (HI.out.alloc _).2).mono ?_
  rintro e w2 h2
  rw [ET.out] at h2
  clear hca0 hfa0
  clear hca1 hfa1
  clear hca2 hfa2
  obtain ⟨hz2, F3⟩ := v_new HI.out.2.lt h2.1
  have F2 := v_old (by have := HG.out; omega) HF.out h2.1
  have hz3 : w.heap.size < w2.heap.size := by omega
  obtain ⟨⟨_, rfl, rfl⟩, hi⟩ := (HI.out.alloc _).fail h2
  clear h2 HI HF
  have HI := Aside0.mk hi
  clear hi
  have hca0 : World.cell? w2 ⟨w.heap.size, 0, none⟩ = some (.int .i64 0) := (blk_cell F2 0).trans rfl
  have hfa0 : w2.frozen? ⟨w.heap.size, 0, none⟩ = false := blk_frozen F2 0
  have hca1 : World.cell? w2 ⟨w.heap.size, 1, none⟩ = some (.int .i64 0) := (blk_cell F2 1).trans rfl
  have hfa1 : w2.frozen? ⟨w.heap.size, 1, none⟩ = false := blk_frozen F2 1
  have hca2 : World.cell? w2 ⟨w.heap.size, 2, none⟩ = some (.string (⟨#[]⟩ : ByteArray)) := (blk_cell F2 2).trans rfl
  have hfa2 : w2.frozen? ⟨w.heap.size, 2, none⟩ = false := blk_frozen F2 2
  have hcb0 : World.cell? w2 ⟨w1.heap.size, 0, none⟩ = some (.int .i64 4) := (blk_cell F3 0).trans rfl
  have hfb0 : w2.frozen? ⟨w1.heap.size, 0, none⟩ = false := blk_frozen F3 0
  have hcb1 : World.cell? w2 ⟨w1.heap.size, 1, none⟩ = some (.int .i64 0) := (blk_cell F3 1).trans rfl
  have hfb1 : w2.frozen? ⟨w1.heap.size, 1, none⟩ = false := blk_frozen F3 1
  have hcb2 : World.cell? w2 ⟨w1.heap.size, 2, none⟩ = some (.string (⟨#[]⟩ : ByteArray)) := (blk_cell F3 2).trans rfl
  have hfb2 : w2.frozen? ⟨w1.heap.size, 2, none⟩ = false := blk_frozen F3 2
  have HF2 := Aside0.mk F2
  have HF3 := Aside0.mk F3
  have GB := Aside0.mk (show w.heap.size ≤ w1.heap.size by omega)
  have hne : ¬ w.heap.size = w1.heap.size := by omega
  have hne' : ¬ w1.heap.size = w.heap.size := by omega
  clear F2 F3
  obtain ⟨A, nn, kk, hrc, hrf, hre, hrg, hl⟩ := HI.out.cells
  have hc : (c == 0) = false := beq_eq_false_iff_ne.mpr HI.out.2.2.2.1
  have hu : IntKind.u64.wrap (nn : Int) = (nn : Int) := by rw [IntKind.wrap_u64]; omega
  have hd : decide ((nn : Int) < 0) = false := decide_eq_false (by omega)
  go_wp2
  refine bodyPost_ret (v := .agg #[.int .i64 (4), .int .i64 (0), .string (V0)]) ?h1 rfl ?h2
  case h1 => simp [results, Try.results24, go_sem, V0, hz, hz3, hz2, hne, hne', hcb0, hcb1, hcb2, hca0, hca1, hca2]
  case h2 =>
    refine Je.post ?_ ⟨4, 0, V0⟩
    repeat (first | exact HI.out | refine Je.set HG.out (by first | exact Nat.le_refl _ | exact GB.out) ?_ _ _ | refine Je.alloc ?_ _)
set_option maxHeartbeats 2000000 in
set_option maxRecDepth 100000 in
theorem quarryref04_reader_value.text4_short (k : Int) (t : List Int) (g : Nat) (w0 w : World) (h : Qd w0 w g (k :: t)) (e : k = 4) (n : Int) (t2 : List Int) (et : r_num 0 0 t = .ok (n, t2)) (en : (t2.length : Int) < n) :
    Calls Try.prog 24 #[.pointer (some ⟨g, 0, none⟩)] w (QPost encV (fun _ => True) (.error 1) w0 w g) := by
  have hu38 := Try.underlying38
  have HG := Aside0.mk h.lt
  have HI : Aside0 (Jv w0 w w g (k :: t)) := ⟨KeepBut.refl w g none, h⟩
  obtain ⟨hk0, hk1⟩ := h.2.2.1 k (by simp)
  clear h
  have b0 : (k == 0) = false := beq_eq_false_iff_ne.mpr (by omega)
  have b1 : (k == 1) = false := beq_eq_false_iff_ne.mpr (by omega)
  have b2 : (k == 2) = false := beq_eq_false_iff_ne.mpr (by omega)
  have b3 : (k == 3) = false := beq_eq_false_iff_ne.mpr (by omega)
  have b4 : (k == 4) = true := beq_iff_eq.mpr e
  obtain ⟨hn0, hn1⟩ := r_num_bound (fun x hx => HI.out.2.2.2.1 x (List.mem_cons_of_mem _ hx)) (by omega) (by omega) (by decide) et
  have ET := Aside0.mk et
  clear et
  go_enter Try.func24, Try.ntmps24
  go_wp2_with fail
  refine (quarryref04_reader_one.calls (k :: t) g w0 _ (HI.out.alloc _).2).mono ?_
  rintro e w1 h1
  obtain ⟨hz, F2⟩ := v_new HG.out h1.1
  obtain ⟨he, hi⟩ := (HI.out.alloc _).then h1
  obtain rfl : e = .returned (.int .u8 k) := he
  clear h1 HI
  have HI := Aside0.mk hi
  clear hi
  have hca0 : World.cell? _ ⟨w.heap.size, 0, none⟩ = some (.int .i64 0) := (blk_cell F2 0).trans rfl
  have hfa0 := blk_frozen F2 0
  have hca1 : World.cell? _ ⟨w.heap.size, 1, none⟩ = some (.int .i64 0) := (blk_cell F2 1).trans rfl
  have hfa1 := blk_frozen F2 1
  have hca2 : World.cell? _ ⟨w.heap.size, 2, none⟩ = some (.string (⟨#[]⟩ : ByteArray)) := (blk_cell F2 2).trans rfl
  have hfa2 := blk_frozen F2 2
  have HF := Aside0.mk F2
  clear F2
  go_wp2_with fail
  refine (quarryref04_reader_number.calls t g w0 _ (HI.out.alloc _).2).mono ?_
  rintro e w2 h2
  rw [ET.out] at h2
  clear hca0 hfa0
  clear hca1 hfa1
  clear hca2 hfa2
  obtain ⟨hz2, F3⟩ := v_new HI.out.2.lt h2.1
  have F2 := v_old (by have := HG.out; omega) HF.out h2.1
  have hz3 : w.heap.size < w2.heap.size := by omega
  obtain ⟨he, hi⟩ := (HI.out.alloc _).then h2
  obtain rfl : e = .returned (.int .u64 n) := he
  clear h2 HI HF
  have HI := Aside0.mk hi
  clear hi
  have hca0 : World.cell? w2 ⟨w.heap.size, 0, none⟩ = some (.int .i64 0) := (blk_cell F2 0).trans rfl
  have hfa0 : w2.frozen? ⟨w.heap.size, 0, none⟩ = false := blk_frozen F2 0
  have hca1 : World.cell? w2 ⟨w.heap.size, 1, none⟩ = some (.int .i64 0) := (blk_cell F2 1).trans rfl
  have hfa1 : w2.frozen? ⟨w.heap.size, 1, none⟩ = false := blk_frozen F2 1
  have hca2 : World.cell? w2 ⟨w.heap.size, 2, none⟩ = some (.string (⟨#[]⟩ : ByteArray)) := (blk_cell F2 2).trans rfl
  have hfa2 : w2.frozen? ⟨w.heap.size, 2, none⟩ = false := blk_frozen F2 2
  have hcb0 : World.cell? w2 ⟨w1.heap.size, 0, none⟩ = some (.int .i64 4) := (blk_cell F3 0).trans rfl
  have hfb0 : w2.frozen? ⟨w1.heap.size, 0, none⟩ = false := blk_frozen F3 0
  have hcb1 : World.cell? w2 ⟨w1.heap.size, 1, none⟩ = some (.int .i64 0) := (blk_cell F3 1).trans rfl
  have hfb1 : w2.frozen? ⟨w1.heap.size, 1, none⟩ = false := blk_frozen F3 1
  have hcb2 : World.cell? w2 ⟨w1.heap.size, 2, none⟩ = some (.string (⟨#[]⟩ : ByteArray)) := (blk_cell F3 2).trans rfl
  have hfb2 : w2.frozen? ⟨w1.heap.size, 2, none⟩ = false := blk_frozen F3 2
  have HF2 := Aside0.mk F2
  have HF3 := Aside0.mk F3
  have GB := Aside0.mk (show w.heap.size ≤ w1.heap.size by omega)
  have hne : ¬ w.heap.size = w1.heap.size := by omega
  have hne' : ¬ w1.heap.size = w.heap.size := by omega
  clear F2 F3
  obtain ⟨A, c, hrc, hrf, hre, hrg, hc, hR, hl⟩ := HI.out.cells
  have hu : IntKind.u64.wrap (t2.length : Int) = (t2.length : Int) := by rw [IntKind.wrap_u64]; omega
  have b9 : decide ((t2.length : Int) < n) = true := decide_eq_true en
  clear hR hc en
  have hg2 : ¬ w.heap.size = g := by have := HG.out; omega
  have hg1 : ¬ g = w.heap.size := by omega
  have hg3 : ¬ w1.heap.size = g := by have := HG.out; omega
  have hg4 : ¬ g = w1.heap.size := by omega
  go_wp2_with fail
  refine (quarryref04_reader_fail.jv HI.out 1 (by decide)).mono ?_
  rintro e w3 ⟨rfl, hi, hs⟩
  have F2 := (hs.1 _ hg2).trans HF2.out
  have F3 := (hs.1 _ hg3).trans HF3.out
  have hz2' : w1.heap.size < w3.heap.size := by have := hs.2; omega
  have hz3' : w.heap.size < w3.heap.size := by omega
  clear hca0 hfa0
  clear hca1 hfa1
  clear hca2 hfa2
  clear hcb0 hfb0
  clear hcb1 hfb1
  clear hcb2 hfb2
  have hca0 : World.cell? w3 ⟨w.heap.size, 0, none⟩ = some (.int .i64 0) := (blk_cell F2 0).trans rfl
  have hfa0 : w3.frozen? ⟨w.heap.size, 0, none⟩ = false := blk_frozen F2 0
  have hca1 : World.cell? w3 ⟨w.heap.size, 1, none⟩ = some (.int .i64 0) := (blk_cell F2 1).trans rfl
  have hfa1 : w3.frozen? ⟨w.heap.size, 1, none⟩ = false := blk_frozen F2 1
  have hca2 : World.cell? w3 ⟨w.heap.size, 2, none⟩ = some (.string (⟨#[]⟩ : ByteArray)) := (blk_cell F2 2).trans rfl
  have hfa2 : w3.frozen? ⟨w.heap.size, 2, none⟩ = false := blk_frozen F2 2
  have hcb0 : World.cell? w3 ⟨w1.heap.size, 0, none⟩ = some (.int .i64 4) := (blk_cell F3 0).trans rfl
  have hfb0 : w3.frozen? ⟨w1.heap.size, 0, none⟩ = false := blk_frozen F3 0
  have hcb1 : World.cell? w3 ⟨w1.heap.size, 1, none⟩ = some (.int .i64 0) := (blk_cell F3 1).trans rfl
  have hfb1 : w3.frozen? ⟨w1.heap.size, 1, none⟩ = false := blk_frozen F3 1
  have hcb2 : World.cell? w3 ⟨w1.heap.size, 2, none⟩ = some (.string (⟨#[]⟩ : ByteArray)) := (blk_cell F3 2).trans rfl
  have hfb2 : w3.frozen? ⟨w1.heap.size, 2, none⟩ = false := blk_frozen F3 2
  clear F2 F3 HI HF2 HF3 hs
  have HI := Aside0.mk hi
  clear hi
  obtain ⟨A4, nn, kk, hrc4, hrf4, hre4, hrg4, hl4⟩ := HI.out.cells
  clear hrc hrf hre hrg
  go_wp2
  refine bodyPost_ret (v := .agg #[.int .i64 (4), .int .i64 (0), .string (V0)]) ?h1 rfl ?h2
  case h1 => simp [results, Try.results24, go_sem, V0, hz, hz3', hz2', hne, hne', hcb0, hcb1, hcb2, hca0, hca1, hca2]
  case h2 =>
    refine Je.post ?_ ⟨4, 0, V0⟩
    repeat (first | exact HI.out | refine Je.set HG.out (by first | exact Nat.le_refl _ | exact GB.out) ?_ _ _ | refine Je.alloc ?_ _)

end Go.Proofs.Ytlnpefcclhmokaa.P

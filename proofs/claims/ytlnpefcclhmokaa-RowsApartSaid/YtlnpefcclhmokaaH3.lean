/- Written in this session: the readers of rows by hand. -/
import Derived.Test.YtlnpefcclhmokaaH2
import Derived.Defers
import Derived.Recover
import Derived.WideLaws
import Derived.WalkLawsBesides
import Derived.WalkSpells
import Derived.Outline
import Derived.RegionDies
namespace Go.Proofs.Ytlnpefcclhmokaa.P
open Go.RowKit Go.Proofs.YtlnpefcclhmokaaW.PrintWords Go.Proofs.YtlnpefcclhmokaaW.PrintLast Go.Proofs.YtlnpefcclhmokaaW.PrintMore
attribute [local go_sem] max2_int min2_int max_two min_two max_three min_three max_four min_four   -- for this text's walks alone
set_option linter.unusedVariables false
set_option linter.unusedSimpArgs false


theorem r_val_cons (k : Int) (l : List Int) : r_val (k :: l) = if k = 0 then .ok (⟨0, 0, V0⟩, l)
    else if k = 1 then (match l with | [] => .error 1 | c :: t => if 1 < c then .error 3 else .ok (⟨1, c, V0⟩, t))
    else if k = 2 then (match r_num 0 0 l with | .error e => .error e | .ok (n, t) => .ok (⟨2, unzig n, V0⟩, t))
    else if k = 3 ∨ k = 4 then (match r_num 0 0 l with | .error e => .error e | .ok (n, t) => if (t.length : Int) < n then .error 1 else .ok (⟨k, 0, strOfNums (t.take n.toNat)⟩, t.drop n.toNat))
    else .error 5 := rfl
theorem rows_reader_value.calls (l : List Int) (g : Nat) (w0 w : World) (h : Rd w0 w g l) :
    Calls Try.prog 22 #[.pointer (some ⟨g, 0, none⟩)] w (RPost encV (r_val l) w0 w g) := by
  cases l with
  | nil => exact rows_reader_value.nil g w0 w h
  | cons k t =>
    by_cases e0 : k = 0
    · rw [show r_val (k :: t) = .ok (⟨0, 0, V0⟩, t) by rw [r_val_cons, if_pos e0]]
      exact rows_reader_value.zero k t g w0 w h e0
    by_cases e1 : k = 1
    · cases t with
      | nil =>
        rw [show r_val (k :: []) = .error 1 by rw [r_val_cons, if_neg e0, if_pos e1]]
        exact rows_reader_value.bool_none k [] g w0 w h e1 rfl
      | cons c t2 =>
        by_cases e2 : 1 < c
        · rw [show r_val (k :: c :: t2) = .error 3 by rw [r_val_cons, if_neg e0, if_pos e1]; exact if_pos e2]
          exact rows_reader_value.bool_bad k (c :: t2) g w0 w h e1 c t2 rfl e2
        · rw [show r_val (k :: c :: t2) = .ok (⟨1, c, V0⟩, t2) by rw [r_val_cons, if_neg e0, if_pos e1]; exact if_neg e2]
          exact rows_reader_value.bool k (c :: t2) g w0 w h e1 c t2 rfl e2
    by_cases e2 : k = 2
    · cases hn : r_num 0 0 t with
      | error c =>
        rw [show r_val (k :: t) = .error c by rw [r_val_cons, if_neg e0, if_neg e1, if_pos e2, hn]]
        exact rows_reader_value.num_none k t g w0 w h e2 c hn
      | ok p =>
        obtain ⟨n, t2⟩ := p
        rw [show r_val (k :: t) = .ok (⟨2, unzig n, V0⟩, t2) by rw [r_val_cons, if_neg e0, if_neg e1, if_pos e2, hn]]
        exact rows_reader_value.num k t g w0 w h e2 n t2 hn
    by_cases e3 : k = 3 ∨ k = 4
    · cases hn : r_num 0 0 t with
      | error c =>
        rw [show r_val (k :: t) = .error c by rw [r_val_cons, if_neg e0, if_neg e1, if_neg e2, if_pos e3, hn]]
        rcases e3 with e3 | e3
        · exact rows_reader_value.text3_none k t g w0 w h e3 c hn
        · exact rows_reader_value.text4_none k t g w0 w h e3 c hn
      | ok p =>
        obtain ⟨n, t2⟩ := p
        by_cases en : (t2.length : Int) < n
        · rw [show r_val (k :: t) = .error 1 by rw [r_val_cons, if_neg e0, if_neg e1, if_neg e2, if_pos e3, hn]; exact if_pos en]
          rcases e3 with e3 | e3
          · exact rows_reader_value.text3_short k t g w0 w h e3 n t2 hn en
          · exact rows_reader_value.text4_short k t g w0 w h e3 n t2 hn en
        · rw [show r_val (k :: t) = .ok (⟨k, 0, strOfNums (t2.take n.toNat)⟩, t2.drop n.toNat) by rw [r_val_cons, if_neg e0, if_neg e1, if_neg e2, if_pos e3, hn]; exact if_neg en]
          rcases e3 with e3 | e3
          · have := rows_reader_value.text3 k t g w0 w h e3 n t2 hn en
            rw [e3] at *
            exact this
          · have := rows_reader_value.text4 k t g w0 w h e3 n t2 hn en
            rw [e3] at *
            exact this
    · rw [show r_val (k :: t) = .error 5 by rw [r_val_cons, if_neg e0, if_neg e1, if_neg e2, if_neg e3]]
      exact rows_reader_value.other k t g w0 w h ⟨e0, e1, e2, by omega, by omega⟩

/-! ### Decode -/
def r_loop : Nat → List S38 → List Int → Except Int (List S38 × List Int)
  | 0, acc, l => .ok (acc, l)
  | n + 1, acc, l => match r_val l with | .error c => .error c | .ok (v, t) => r_loop n (acc ++ [v]) t
def r_fin : Except Int (List S38 × List Int) → List S38 × Int
  | .error c => ([], c)
  | .ok (acc, rest) => if 0 < rest.length then ([], 6) else (acc, 0)
def r_dec (l : List Int) : List S38 × Int :=
  if 2048 < l.length then ([], 8) else match r_num 0 0 l with
    | .error c => ([], c)
    | .ok (n, t) => r_fin (r_loop n.toNat [] t)
def bytesB (l : List Int) : Bool := l.all fun x => decide (0 ≤ x) && decide (x ≤ 255)
theorem bytesB_in {l : List Int} (h : bytesB l = true) : BytesIn l := by
  intro x hx
  have := List.all_eq_true.1 h x hx
  simpa using this
def rows_Decode.f (l : List Int) : Option (List (S38) × Int) := if bytesB l = true then some (r_dec l) else none

theorem rows_as_errno (v : Value) (w : World) : (Instr.typeAssert (.iface 25 v) 20 25 true).run Try.prog w = .ok (.tuple #[v, .bool true]) w := by kernel_rfl
theorem rows_Decode.caught (b0 b1 : Nat) (c : Int) (v x : Value) (w : World) (hne : ¬ b0 = b1) (h0 : w.cell? ⟨b0, 0, none⟩ = some v) (hf0 : w.frozen? ⟨b0, 0, none⟩ = false) (h1 : w.cell? ⟨b1, 0, none⟩ = some x) (hf1 : w.frozen? ⟨b1, 0, none⟩ = false) :
    CallsD Try.prog 20 #[.pointer (some ⟨b0, 0, none⟩), .pointer (some ⟨b1, 0, none⟩)] (.panicking [{ v := .iface 25 (.int .i64 c), recovered := false }]) w fun e u' w' =>
      e = .returned (.tuple #[]) ∧ u' = .panicking [{ v := .iface 25 (.int .i64 c), recovered := true }] ∧ w' = (w.setCell ⟨b0, 0, none⟩ (.slice none 0 0)).setCell ⟨b1, 0, none⟩ (.int .i64 c) := by
  have hne' : ¬ b1 = b0 := fun h => hne h.symm
  have hta := rows_as_errno
  refine callsD_of_wpS Try.func20 rfl fun c₀ cs hu => ?_
  apply wpS_seq
  apply wpS_region
  have hrep : (Array.replicate 10 undef : Array Value) = #[undef, undef, undef, undef, undef, undef, undef, undef, undef, undef] := rfl
  simp [wpOpsS, go_sem, recoverD, hu, Try.ntmps20, Exit.thenS, hrep]
  clear hrep
  refine wpS_of_wp ?_
  go_wp2
  exact ⟨rfl, .panicking [{ v := .iface 25 (.int .i64 c), recovered := true }], rfl, .tuple #[], results_none rfl _ _ _, rfl, rfl, rfl⟩
theorem rows_Decode.idle (b0 b1 : Nat) (w : World) :
    CallsD Try.prog 20 #[.pointer (some ⟨b0, 0, none⟩), .pointer (some ⟨b1, 0, none⟩)] .returning w fun e u' w' => e = .returned (.tuple #[]) ∧ u' = .returning ∧ w' = w := by
  refine callsD_of_wpS Try.func20 rfl fun c₀ cs hu => ?_
  apply wpS_seq
  apply wpS_region
  have hrep : (Array.replicate 10 undef : Array Value) = #[undef, undef, undef, undef, undef, undef, undef, undef, undef, undef] := rfl
  simp [wpOpsS, go_sem, recoverD, hu, Try.ntmps20, Exit.thenS, hrep]
  clear hrep
  refine wpS_of_wp ?_
  go_wp2
  refine ⟨rfl, .returning, ?_, .tuple #[], results_none rfl _ _ _, rfl, rfl, rfl⟩
  cases c₀
  simp_all

theorem rows_Decode.long (A0 : Option Addr) (c0 : Nat) (l0 : List Int) (w : World) (hl : 2048 < l0.length) (hm : l0.length ≤ 9223372036854775807) :
    Calls Try.prog 15 #[.slice A0 l0.length c0] w fun e w' => ∃ v0_ : Value, e = .returned (.tuple #[v0_, .int .i64 8]) ∧ Kd.R k38 38 w' w.heap.size (fun _ => True) v0_ [] ∧ Below w.heap.size w w' := by
  have hb : decide (2048 < (l0.length : Int)) = true := decide_eq_true (by omega)
  have HM := Aside0.mk hm
  clear hl hm
  go_enter_defers Try.func15, Try.ntmps15
  go_wp2
  refine ⟨.tuple #[.slice none 0 0, .int .i64 8], by simp [results, Try.results15, go_sem], .slice none 0 0, rfl, Kd.R_nil _ _ _ _ _, ?_⟩
  exact below_alloc (below_alloc (Below.refl _ _) _) _

theorem r_num_length {l : List Int} : ∀ {i : Nat} {n v : Int} {t : List Int}, r_num i n l = .ok (v, t) → t.length < l.length := by
  induction l with
  | nil => intro i n v t h; simp [r_num] at h
  | cons c l ih =>
    intro i n v t h
    by_cases e1 : (c = 0 ∧ 0 < i) ∨ (1 < c ∧ i = 9)
    · rw [r_num, if_pos e1] at h; cases h
    · by_cases e2 : c < 128
      · rw [r_num, if_neg e1, if_pos e2] at h
        simp only [Except.ok.injEq, Prod.mk.injEq] at h
        obtain ⟨_, rfl⟩ := h
        simp
      · rw [r_num_again e1 e2] at h
        have := ih h
        simp; omega
theorem r_val_length {l t : List Int} {x : S38} (h : r_val l = .ok (x, t)) : t.length < l.length := by
  cases l with
  | nil => simp [r_val] at h
  | cons k l =>
    rw [r_val_cons] at h
    by_cases e0 : k = 0
    · rw [if_pos e0] at h
      simp only [Except.ok.injEq, Prod.mk.injEq] at h
      obtain ⟨_, rfl⟩ := h
      simp
    rw [if_neg e0] at h
    by_cases e1 : k = 1
    · rw [if_pos e1] at h
      cases l with
      | nil => simp at h
      | cons c l =>
        by_cases e : 1 < c
        · simp [e] at h
        · simp only [if_neg e, Except.ok.injEq, Prod.mk.injEq] at h
          obtain ⟨_, rfl⟩ := h
          simp; omega
    rw [if_neg e1] at h
    by_cases e2 : k = 2
    · rw [if_pos e2] at h
      cases hn : r_num 0 0 l with
      | error c => simp [hn] at h
      | ok p =>
        obtain ⟨n, t2⟩ := p
        have := r_num_length hn
        simp only [hn, Except.ok.injEq, Prod.mk.injEq] at h
        obtain ⟨_, rfl⟩ := h
        simp; omega
    rw [if_neg e2] at h
    by_cases e3 : k = 3 ∨ k = 4
    · rw [if_pos e3] at h
      cases hn : r_num 0 0 l with
      | error c => simp [hn] at h
      | ok p =>
        obtain ⟨n, t2⟩ := p
        have := r_num_length hn
        simp only [hn] at h
        by_cases e : (t2.length : Int) < n
        · simp [e] at h
        · simp only [if_neg e, Except.ok.injEq, Prod.mk.injEq] at h
          obtain ⟨_, rfl⟩ := h
          simp; omega
    · rw [if_neg e3] at h
      cases h

/-- What holds while rows are decoded: the reader; the variables of the two named results; the row so far. -/
def DI (w W : World) (l : List Int) (v : Value) (acc : List S38) : Prop :=
  Rd w W (w.heap.size + 1 + 1) l ∧ W.heap[w.heap.size]? = some (.cells #[v] 22 (0, 0)) ∧ W.heap[w.heap.size + 1]? = some (.cells #[.int .i64 0] 25 (0, 0)) ∧ Kd.R k38 38 W w.heap.size (fun _ => True) v acc
theorem DI.call {α : Type} {enc : α → Value} {x : α} {w W W1 : World} {l t : List Int} {v : Value} {acc : List S38} {e : Ending} (h : DI w W l v acc) (h1 : RPost enc (.ok (x, t)) w W (w.heap.size + 1 + 1) e W1) : e = .returned (enc x) ∧ DI w W1 t v acc := by
  obtain ⟨hr, h2, h3, h4⟩ := h
  obtain ⟨hk, hb, he, hrd⟩ := h1
  obtain ⟨A, c, hg, _⟩ := hr.2.2.2
  exact ⟨he, hrd, hk.blk h2 (by omega) (by simp), hk.blk h3 (by omega) (by simp), Kd.R_mono (Kd.R_keep (Kd.R_types h4 hg (by decide)) hk (fun k hk => hk.2)) (fun _ _ => trivial)⟩
theorem DI.fail {α : Type} {enc : α → Value} {w W W1 : World} {l : List Int} {c : Int} {v : Value} {acc : List S38} {e : Ending} (h : DI w W l v acc) (h1 : RPost enc (.error c) w W (w.heap.size + 1 + 1) e W1) :
    e = .panicked [{ v := .iface 25 (.int .i64 c), recovered := false }] ∧ W1.heap[w.heap.size]? = some (.cells #[v] 22 (0, 0)) ∧ W1.heap[w.heap.size + 1]? = some (.cells #[.int .i64 0] 25 (0, 0)) ∧ Below w.heap.size w W1 := by
  obtain ⟨hr, h2, h3, h4⟩ := h
  obtain ⟨hk, hb, he⟩ := h1
  exact ⟨he, hk.blk h2 (by omega) (by simp), hk.blk h3 (by omega) (by simp), hb⟩
theorem DI.start {w : World} {A0 : Option Addr} {c0 : Nat} {l0 : List Int} (hB : BytesIn l0) (hR : ReadsInt w .u8 A0 l0.length l0) (hc : l0.length ≤ c0) :
    DI w (((w.alloc (.cells #[.slice none 0 0] 22)).alloc (.cells #[.int .i64 0] 25)).alloc (.cells #[.slice A0 l0.length c0] 43)) l0 (.slice none 0 0) [] := by
  refine ⟨⟨by omega, below_alloc (below_alloc (below_alloc (Below.refl _ _) _) _) _, hB, A0, c0, ?_, hc, hR⟩, ?_, ?_, Kd.R_nil _ _ _ _ _⟩
  · have := Deep.blk_alloc_new ((w.alloc (.cells #[.slice none 0 0] 22)).alloc (.cells #[.int .i64 0] 25)) (.cells #[.slice A0 l0.length c0] 43)
    simpa using this
  · exact blk_alloc (blk_alloc (Deep.blk_alloc_new w _) _) _
  · have := Deep.blk_alloc_new (w.alloc (.cells #[.slice none 0 0] 22)) (.cells #[.int .i64 0] 25)
    exact blk_alloc (by simpa using this) _

theorem info38d : (Try.prog.info? 38).map (fun i => (i.zero, i.size, i.bytes)) = some (some (.agg #[.int .i64 0, .int .i64 0, .string (⟨#[]⟩ : ByteArray)]), 3, 32) := by kernel_rfl
/-- The row has grown; the variable of the first result holds the elder one still. -/
def DJ (w W : World) (l : List Int) (u v : Value) (acc : List S38) : Prop :=
  Rd w W (w.heap.size + 1 + 1) l ∧ W.heap[w.heap.size]? = some (.cells #[u] 22 (0, 0)) ∧ W.heap[w.heap.size + 1]? = some (.cells #[.int .i64 0] 25 (0, 0)) ∧ Kd.R k38 38 W w.heap.size (fun _ => True) v acc
theorem DI.grown {w W W5 : World} {l : List Int} {v v3 : Value} {acc acc3 : List S38} (h : DI w W l v acc) (ho : Kd.R k38 38 W5 w.heap.size (fun _ => True) v3 acc3) (hb : Below w.heap.size w W5) (hg : W.grownBy W5 v.ownBlock) : DJ w W5 l v v3 acc3 := by
  obtain ⟨hr, h2, h3, h4⟩ := h
  obtain ⟨A, c, hg', _⟩ := hr.2.2.2
  exact ⟨hr.alive hb ((blk_grown hg' hg (Kd.R_ne h4 hg' (by decide))).trans hg'.symm), blk_grown h2 hg (Kd.R_ne h4 h2 (by decide)), blk_grown h3 hg (Kd.R_ne h4 h3 (by decide)), ho⟩
theorem DJ.store {w W : World} {l : List Int} {u v : Value} {acc : List S38} (h : DJ w W l u v acc) : DI w (W.setCell ⟨w.heap.size, 0, none⟩ v) l v acc := by
  obtain ⟨hr, h2, h3, h4⟩ := h
  refine ⟨hr.alive (Below.setCell hr.2.1 (Nat.le_refl _) _) (Below.heap_setCell W ⟨w.heap.size, 0, none⟩ _ _ (by show w.heap.size + 1 + 1 ≠ w.heap.size; omega)), ?_, (Below.heap_setCell W ⟨w.heap.size, 0, none⟩ _ _ (by show w.heap.size + 1 ≠ w.heap.size; omega)).trans h3, Kd.R_set h4 h2 (by decide) _ _⟩
  exact blk_set h2 0 _
theorem DI.rd {w W : World} {l : List Int} {v : Value} {acc : List S38} (h : DI w W l v acc) : Rd w W (w.heap.size + 1 + 1) l := h.1
theorem DI.drew {w W : World} {l : List Int} {v : Value} {acc : List S38} (h : DI w W l v acc) : DI w W.drew l v acc :=
  ⟨h.1.alive (below_drew h.1.2.1) rfl, h.2.1, h.2.2.1, Kd.R_drew h.2.2.2⟩
set_option maxHeartbeats 2000000 in
set_option maxRecDepth 100000 in
theorem rows_Decode.main (A0 : Option Addr) (c0 : Nat) (l0 : List Int) (w : World) (hl : ¬ 2048 < l0.length) (hB : BytesIn l0) (hr0 : Kd.C (Kd.int .u8) w A0 l0.length l0) (hc0 : l0.length ≤ c0) (r1 : List S38) (r2 : Int) (hr : r_dec l0 = (r1, r2)) :
    Calls Try.prog 15 #[.slice A0 l0.length c0] w fun e w' => ∃ v0_ : Value, e = .returned (.tuple #[v0_, .int .i64 r2]) ∧ Kd.R k38 38 w' w.heap.size (fun _ => True) v0_ r1 ∧ Below w.heap.size w w' := by
  have hb : decide (2048 < (l0.length : Int)) = false := decide_eq_false (by omega)
  have hmf : ∀ (fn : Fn) (first cap : Array Value) (w : World), (Instr.makeFunc fn first cap).run Try.prog w = .ok (.func fn first cap) w := fun _ _ _ _ => rfl
  have HB := Aside0.mk hB
  have HC := Aside0.mk hc0
  have HR := Aside0.mk (C_ints hr0)
  have HL := Aside0.mk hl
  have HD := Aside0.mk hr
  clear hB hc0 hr0 hl hr
  have HI := Aside0.mk (DI.start HB.out HR.out HC.out)
  cases hn : r_num 0 0 l0 with
  | error c =>
    have HN := Aside0.mk hn
    clear hn
    obtain ⟨rfl, rfl⟩ : [] = r1 ∧ c = r2 := by have := HD.out; rw [r_dec, if_neg HL.out, HN.out] at this; simpa using this
    go_enter_defers Try.func15, Try.ntmps15
    go_wp2_with fail
    refine (rows_reader_number.calls l0 (w.heap.size + 1 + 1) w _ HI.out.1).mono ?_
    rintro e w1 h1
    rw [HN.out] at h1
    obtain ⟨he, F0, F1, FB⟩ := HI.out.fail h1
    obtain rfl := he
    have G0 := Aside0.mk F0
    have G1 := Aside0.mk F1
    have GB := Aside0.mk FB
    clear F0 F1 FB h1
    go_wp2_with fail
    have F0 := G0.out
    have F1 := G1.out
    have FB := GB.out
    have hd0 : World.cell? _ ⟨w.heap.size, 0, none⟩ = some _ := (blk_cell F0 0).trans rfl
    have hd1 : World.cell? _ ⟨w.heap.size + 1, 0, none⟩ = some _ := (blk_cell F1 0).trans rfl
    have he0 := blk_frozen F0 0
    have he1 := blk_frozen F1 0
    refine leaves_cons (f := 20) (args := #[.pointer (some ⟨w.heap.size, 0, none⟩), .pointer (some ⟨w.heap.size + 1, 0, none⟩)]) (by simp) (by simp [go_sem]) ?_
    refine (rows_Decode.caught _ _ c _ _ _ (by omega) hd0 he0 hd1 he1).mono ?_
    rintro e u' w'' ⟨rfl, rfl, rfl⟩
    refine ⟨.tuple #[.slice none 0 0, .int .i64 c], by simp [results, Try.results15, go_sem, hd0, hd1], .slice none 0 0, rfl, Kd.R_nil _ _ _ _ _, Below.setCell (Below.setCell FB (Nat.le_refl _) _) (by show w.heap.size ≤ w.heap.size + 1; omega) _⟩
  | ok p =>
    obtain ⟨n, t⟩ := p
    obtain ⟨hn0, hn1⟩ := r_num_bound HB.out (by omega) (by omega) (by decide) hn
    obtain ⟨m, rfl⟩ := Int.eq_ofNat_of_zero_le hn0
    have HN := Aside0.mk hn
    have HM := Aside0.mk hn1
    have HT := Aside0.mk (r_num_length hn)
    obtain ⟨q, hq⟩ : ∃ q, r_loop m [] t = q := ⟨_, rfl⟩
    have HQ := Aside0.mk hq
    have HE : Aside0 (r_fin q = (r1, r2)) := ⟨by
      have := HD.out
      rw [r_dec, if_neg HL.out, hn] at this
      simp only [Int.toNat_natCast, hq] at this
      exact this⟩
    clear hn hn0 hn1 hq HD
    go_enter_defers Try.func15, Try.ntmps15
    go_wp2_with fail
    refine (rows_reader_number.calls l0 (w.heap.size + 1 + 1) w _ HI.out.1).mono ?_
    rintro e w1 h1
    rw [HN.out] at h1
    obtain ⟨he, hi⟩ := HI.out.call h1
    obtain rfl : e = .returned (.int .u64 (m : Int)) := he
    clear HI h1
    have HI := Aside0.mk hi
    clear hi
    go_wp2_with fail
    go_loopg [5] m (fun kq v5 w' => ∃ (j : Nat) (l' : List Int) (v : Value) (acc : List S38), v5 = .int .u64 (j : Int) ∧ Aside0 (j = kq ∧ j ≤ m) ∧ Aside0 (DI w w' l' v acc) ∧ Aside0 (acc.length + l'.length ≤ 2048) ∧ Aside0 (r_loop j acc l' = q))
    case atStart => exact ⟨m, t, .slice none 0 0, [], rfl, ⟨rfl, Nat.le_refl _⟩, HI, ⟨by have := HT.out; have := HL.out; simp; omega⟩, HQ⟩
    case round =>
      clear HI HQ
      obtain ⟨j, l', v, acc, rfl, HJ, HI, HA, HQ⟩ := hrel
      by_cases ej : j = 0
      · obtain rfl : q = .ok (acc, l') := by rw [← HQ.out, ej]; rfl
        by_cases el : l'.length = 0
        · obtain ⟨A, c, hg, hgc, hgr⟩ := HI.out.1.2.2.2
          have hrc : wr.cell? ⟨w.heap.size + 1 + 1, 0, none⟩ = some (.slice A l'.length c) := (blk_cell hg 0).trans rfl
          have hml : l'.length ≤ 9223372036854775807 := hgr.2.1
          clear hg hgc hgr
          have F0 := HI.out.2.1
          have F1 := HI.out.2.2.1
          have FB := HI.out.1.2.1
          rw [el] at hrc
          have hd0 : World.cell? _ ⟨w.heap.size, 0, none⟩ = some _ := (blk_cell F0 0).trans rfl
          have hd1 : World.cell? _ ⟨w.heap.size + 1, 0, none⟩ = some _ := (blk_cell F1 0).trans rfl
          have he0 := blk_frozen F0 0
          have he1 := blk_frozen F1 0
          obtain ⟨rfl, rfl⟩ : acc = r1 ∧ 0 = r2 := by have := HE.out; rw [r_fin, if_neg (by omega)] at this; simpa using this
          have G0 := Aside0.mk F0
          have G1 := Aside0.mk F1
          have GB := Aside0.mk FB
          subst ej
          clear F0 F1 FB hml
          obtain ⟨A1, c1, rfl⟩ : ∃ A1 c1, v = .slice A1 acc.length c1 := Kd.R_slice HI.out.2.2.2
          have hne : ¬ w.heap.size = w.heap.size + 1 := by omega
          have hne' : ¬ w.heap.size + 1 = w.heap.size := by omega
          go_wp2_with fail
          have F0 := G0.out
          have F1 := G1.out
          have FB := GB.out
          refine leaves_cons (f := 20) (args := #[.pointer (some ⟨w.heap.size, 0, none⟩), .pointer (some ⟨w.heap.size + 1, 0, none⟩)]) (by simp) (by simp [go_sem]) ?_
          refine (rows_Decode.idle _ _ _).mono ?_
          rintro e u' w'' ⟨rfl, rfl, rfl⟩
          refine ⟨.tuple #[.slice A1 acc.length c1, .int .i64 0], by simp [results, Try.results15, go_sem, hd0, hd1, hne, hne'], .slice A1 acc.length c1, rfl, Kd.R_set (Kd.R_set HI.out.2.2.2 F0 (by decide) _ _) ((Below.heap_setCell wr ⟨w.heap.size, 0, none⟩ _ _ (by show w.heap.size + 1 ≠ w.heap.size; omega)).trans F1) (by decide) _ _, Below.setCell (Below.setCell FB (Nat.le_refl _) _) (by show w.heap.size ≤ w.heap.size + 1; omega) _⟩
        · obtain ⟨A, c, hg, hgc, hgr⟩ := HI.out.1.2.2.2
          have hrc : wr.cell? ⟨w.heap.size + 1 + 1, 0, none⟩ = some (.slice A l'.length c) := (blk_cell hg 0).trans rfl
          have hml : l'.length ≤ 9223372036854775807 := hgr.2.1
          clear hg hgc hgr
          have F0 := HI.out.2.1
          have F1 := HI.out.2.2.1
          have FB := HI.out.1.2.1
          have hd0 : World.cell? _ ⟨w.heap.size, 0, none⟩ = some _ := (blk_cell F0 0).trans rfl
          have hd1 : World.cell? _ ⟨w.heap.size + 1, 0, none⟩ = some _ := (blk_cell F1 0).trans rfl
          have he0 := blk_frozen F0 0
          have he1 := blk_frozen F1 0
          obtain ⟨rfl, rfl⟩ : [] = r1 ∧ 6 = r2 := by have := HE.out; rw [r_fin, if_pos (by omega)] at this; simpa using this
          have b6 : decide (0 < (l'.length : Int)) = true := decide_eq_true (by omega)
          have b7 : decide (0 < l'.length) = true := decide_eq_true (by omega)
          have G0 := Aside0.mk F0
          have G1 := Aside0.mk F1
          have GB := Aside0.mk FB
          subst ej
          clear F0 F1 FB el hml hd0 hd1 he0 he1
          go_wp2_with fail
          have F0 := G0.out
          have F1 := G1.out
          have FB := GB.out
          have hd0 : World.cell? _ ⟨w.heap.size, 0, none⟩ = some _ := (blk_cell F0 0).trans rfl
          have hd1 : World.cell? _ ⟨w.heap.size + 1, 0, none⟩ = some _ := (blk_cell F1 0).trans rfl
          have he0 := blk_frozen F0 0
          have he1 := blk_frozen F1 0
          refine leaves_cons (f := 20) (args := #[.pointer (some ⟨w.heap.size, 0, none⟩), .pointer (some ⟨w.heap.size + 1, 0, none⟩)]) (by simp) (by simp [go_sem]) ?_
          refine (rows_Decode.caught _ _ 6 _ _ _ (by omega) hd0 he0 hd1 he1).mono ?_
          rintro e u' w'' ⟨rfl, rfl, rfl⟩
          refine ⟨.tuple #[.slice none 0 0, .int .i64 6], by simp [results, Try.results15, go_sem, hd0, hd1], .slice none 0 0, rfl, Kd.R_nil _ _ _ _ _, Below.setCell (Below.setCell FB (Nat.le_refl _) _) (by show w.heap.size ≤ w.heap.size + 1; omega) _⟩
      · obtain ⟨j, rfl⟩ : ∃ i, j = i + 1 := ⟨j - 1, by omega⟩
        have F0 := HI.out.2.1
        have F1 := HI.out.2.2.1
        have FB := HI.out.1.2.1
        have hd0 : World.cell? _ ⟨w.heap.size, 0, none⟩ = some _ := (blk_cell F0 0).trans rfl
        have he0 := blk_frozen F0 0
        have HF1 := Aside0.mk F1
        have HFB := Aside0.mk FB
        have HF0 := Aside0.mk F0
        clear F0 F1 FB
        obtain ⟨A1, c1, rfl⟩ : ∃ A1 c1, v = .slice A1 acc.length c1 := Kd.R_slice HI.out.2.2.2
        have hj1 : decide (0 < ((j + 1 : Nat) : Int)) = true := decide_eq_true (by omega)
        have hj2 : decide (0 < j + 1) = true := decide_eq_true (by omega)
        cases hv : r_val l' with
        | error c =>
          have HV := Aside0.mk hv
          clear hv
          obtain rfl : q = .error c := by rw [← HQ.out, r_loop, HV.out]
          obtain ⟨rfl, rfl⟩ : [] = r1 ∧ c = r2 := by have := HE.out; rw [r_fin] at this; simpa using this
          go_wp2_with fail
          refine wp_region_any (by kernel_rfl) ?_
          change wpAny _ _ _ _ _ _ _ (World.drew _)
          refine wpAny_ready (rs := [0, 1]) (by kernel_rfl) (by simp) ?_
          refine AllReady.cons rfl (fun K hK => ?_) ?_
          · go_simp
            refine hK _ _ ?_
            clear hK K
            refine wpAny_ready (rs := [1]) (by kernel_rfl) (by simp) ?_
            refine AllReady.cons rfl (fun K hK => ?_) ?_
            · go_simp
              refine hK _ _ ?_
              clear hK K
              refine wpAny_ready (rs := [2]) (by kernel_rfl) (by simp) ?_
              refine AllReady.cons rfl (fun K hK => ?_) ?_
              · go_simp
                refine (rows_reader_value.calls l' _ w _ HI.out.drew.1).mono ?_
                rintro e w2 h2
                rw [HV.out] at h2
                obtain ⟨he, F0, F1, FB⟩ := HI.out.drew.fail h2
                obtain rfl := he
                have G0 := Aside0.mk F0
                have G1 := Aside0.mk F1
                have GB := Aside0.mk FB
                clear F0 F1 FB h2 hd0 he0
                go_wp2_with fail
                have F0 := G0.out
                have F1 := G1.out
                have FB := GB.out
                have hd0 : World.cell? _ ⟨w.heap.size, 0, none⟩ = some _ := (blk_cell F0 0).trans rfl
                have hd1 : World.cell? _ ⟨w.heap.size + 1, 0, none⟩ = some _ := (blk_cell F1 0).trans rfl
                have he0 := blk_frozen F0 0
                have he1 := blk_frozen F1 0
                refine leaves_cons (f := 20) (args := #[.pointer (some ⟨w.heap.size, 0, none⟩), .pointer (some ⟨w.heap.size + 1, 0, none⟩)]) (by simp) (by simp [go_sem]) ?_
                refine (rows_Decode.caught _ _ c _ _ _ (by omega) hd0 he0 hd1 he1).mono ?_
                rintro e u' w'' ⟨rfl, rfl, rfl⟩
                refine ⟨.tuple #[.slice none 0 0, .int .i64 c], by simp [results, Try.results15, go_sem, hd0, hd1], .slice none 0 0, rfl, Kd.R_nil _ _ _ _ _, Below.setCell (Below.setCell FB (Nat.le_refl _) _) (by show w.heap.size ≤ w.heap.size + 1; omega) _⟩
              exact AllReady.nil
            exact AllReady.nil
          refine AllReady.cons rfl (fun K hK => ?_) ?_
          · go_simp
            refine hK _ _ ?_
            clear hK K
            refine wpAny_ready (rs := [0, 2]) (by kernel_rfl) (by simp) ?_
            refine AllReady.cons rfl (fun K hK => ?_) ?_
            · go_simp
              refine hK _ _ ?_
              clear hK K
              refine wpAny_ready (rs := [2]) (by kernel_rfl) (by simp) ?_
              refine AllReady.cons rfl (fun K hK => ?_) ?_
              · go_simp
                refine (rows_reader_value.calls l' _ w _ HI.out.drew.1).mono ?_
                rintro e w2 h2
                rw [HV.out] at h2
                obtain ⟨he, F0, F1, FB⟩ := HI.out.drew.fail h2
                obtain rfl := he
                have G0 := Aside0.mk F0
                have G1 := Aside0.mk F1
                have GB := Aside0.mk FB
                clear F0 F1 FB h2 hd0 he0
                go_wp2_with fail
                have F0 := G0.out
                have F1 := G1.out
                have FB := GB.out
                have hd0 : World.cell? _ ⟨w.heap.size, 0, none⟩ = some _ := (blk_cell F0 0).trans rfl
                have hd1 : World.cell? _ ⟨w.heap.size + 1, 0, none⟩ = some _ := (blk_cell F1 0).trans rfl
                have he0 := blk_frozen F0 0
                have he1 := blk_frozen F1 0
                refine leaves_cons (f := 20) (args := #[.pointer (some ⟨w.heap.size, 0, none⟩), .pointer (some ⟨w.heap.size + 1, 0, none⟩)]) (by simp) (by simp [go_sem]) ?_
                refine (rows_Decode.caught _ _ c _ _ _ (by omega) hd0 he0 hd1 he1).mono ?_
                rintro e u' w'' ⟨rfl, rfl, rfl⟩
                refine ⟨.tuple #[.slice none 0 0, .int .i64 c], by simp [results, Try.results15, go_sem, hd0, hd1], .slice none 0 0, rfl, Kd.R_nil _ _ _ _ _, Below.setCell (Below.setCell FB (Nat.le_refl _) _) (by show w.heap.size ≤ w.heap.size + 1; omega) _⟩
              exact AllReady.nil
            refine AllReady.cons rfl (fun K hK => ?_) ?_
            · go_simp
              refine (rows_reader_value.calls l' _ w _ HI.out.drew.1).mono ?_
              rintro e w2 h2
              rw [HV.out] at h2
              obtain ⟨he, F0, F1, FB⟩ := HI.out.drew.fail h2
              obtain rfl := he
              have G0 := Aside0.mk F0
              have G1 := Aside0.mk F1
              have GB := Aside0.mk FB
              clear F0 F1 FB h2 hd0 he0
              go_wp2_with fail
              have F0 := G0.out
              have F1 := G1.out
              have FB := GB.out
              have hd0 : World.cell? _ ⟨w.heap.size, 0, none⟩ = some _ := (blk_cell F0 0).trans rfl
              have hd1 : World.cell? _ ⟨w.heap.size + 1, 0, none⟩ = some _ := (blk_cell F1 0).trans rfl
              have he0 := blk_frozen F0 0
              have he1 := blk_frozen F1 0
              refine leaves_cons (f := 20) (args := #[.pointer (some ⟨w.heap.size, 0, none⟩), .pointer (some ⟨w.heap.size + 1, 0, none⟩)]) (by simp) (by simp [go_sem]) ?_
              refine (rows_Decode.caught _ _ c _ _ _ (by omega) hd0 he0 hd1 he1).mono ?_
              rintro e u' w'' ⟨rfl, rfl, rfl⟩
              refine ⟨.tuple #[.slice none 0 0, .int .i64 c], by simp [results, Try.results15, go_sem, hd0, hd1], .slice none 0 0, rfl, Kd.R_nil _ _ _ _ _, Below.setCell (Below.setCell FB (Nat.le_refl _) _) (by show w.heap.size ≤ w.heap.size + 1; omega) _⟩
            exact AllReady.nil
          exact AllReady.nil
        | ok p =>
          obtain ⟨x, t'⟩ := p
          have HV := Aside0.mk hv
          have HT' := Aside0.mk (r_val_length hv)
          clear hv
          have HQ' : Aside0 (r_loop j (acc ++ [x]) t' = q) := ⟨by rw [← HQ.out, r_loop, HV.out]⟩
          go_wp2_with fail
          refine wp_region_noPanic ?_
          refine start_ (n := 6) (S := fun w' => w'.cell? ⟨w.heap.size, 0, none⟩ = some (.slice A1 acc.length c1)) (ds := [5]) #[false, false, false, false, false, false] (by kernel_rfl) rfl rfl (hd0) (fun hHeld => ?_)
          refine pure_ (i := 1) (N := some 20) (v := ?_) (a' := ?_) #[false, true, false, false, false, false] rfl rfl (by kernel_rfl) (fun _ _ _ h => h) (Or.inl ⟨by rfl, ?_⟩) ?_ ?_
          rotate_left
          · intro w'
            go_simp
            with_reducible rfl
          rotate_left
          · simp only [Act.put, List.setIfInBounds_toArray, List.set_cons_zero, List.set_cons_succ, i64_w, i32_w]
            rfl
          refine take_ (i := 0) (N := some 19) (v := ?_) (a' := ?_) #[true, true, false, false, false, false] rfl rfl (by kernel_rfl) (fun _ _ _ h => h) (Or.inl ⟨by rfl, ?_⟩) hHeld ?_ ?_
          rotate_left
          · intro w' s0
            go_simp
            with_reducible rfl
          rotate_left
          · simp only [Act.put, List.setIfInBounds_toArray, List.set_cons_zero, List.set_cons_succ, i64_w, i32_w]
            rfl
          refine one_ (i := 2) (N := some 21) #[true, true, true, false, false, false] rfl rfl (by kernel_rfl) (by decide) (fun K hK => ?_)
          refine goes_ Try.func22 (by kernel_rfl) rfl #[.pointer (some ⟨w.heap.size + 1 + 1, 0, none⟩)] (by rfl) rfl rfl (by simp only [List.map_toArray, List.map_cons, List.map_nil]; rfl) ?_
          with_reducible refine (rows_reader_value.calls l' _ w _ HI.out.drew.rd).mono ?_
          rintro e w2 h2
          rw [HV.out] at h2
          obtain ⟨he, hi⟩ := HI.out.drew.call h2
          refine ⟨.agg #[.int .i64 x.f0, .int .i64 x.f1, .string x.f2], he, ?_⟩
          have n0 := Aside0.mk hi
          clear hi HI h2 he
          have HI := n0
          clear n0
          refine hK.out _ _ (((blk_cell HI.out.2.1 0).trans rfl)) (fun hHeld => ?_)
          clear hK K
          refine norm_ (a' := ?_) ?_ ?_
          rotate_left
          · show Act.put _ (some 21) _ = _
            simp only [Act.put, List.setIfInBounds_toArray, List.set_cons_zero, List.set_cons_succ, i64_w, i32_w]
            rfl
          refine one_ (i := 3) (N := some 22) #[true, true, true, true, false, false] rfl rfl (by kernel_rfl) (by decide) (fun K hK => ?_)
          refine value_ (w1 := ?_) (v := ?_) (by rfl) rfl ?_ ?_
          rotate_left 2
          · go_simp
            constructor
            · rfl
            · rfl
          refine hK.out _ _ (((blk_cell (blk_alloc HI.out.2.1 _) 0).trans rfl)) (fun hHeld => ?_)
          clear hK K
          refine norm_ (a' := ?_) ?_ ?_
          rotate_left
          · show Act.put _ (some 22) _ = _
            simp only [Act.put, List.setIfInBounds_toArray, List.set_cons_zero, List.set_cons_succ, i64_w, i32_w]
            rfl
          refine one_ (i := 4) (N := some 23) #[true, true, true, true, true, false] rfl rfl (by kernel_rfl) (by decide) (fun K hK => ?_)
          refine Kd.R_append_step k38 (w0 := w) w.heap.size (by rfl) (.tmp 19) (.tmp 22) 22 38 (.agg #[.int .i64 0, .int .i64 0, .string (⟨#[]⟩ : ByteArray)]) 32 rfl Try.underlying22 info38d rfl (by decide) (by omega) (.slice A1 acc.length c1) acc x [.int .i64 x.f0, .int .i64 x.f1, .string x.f2] (fun _ => True) (fun _ => False) rfl rfl ?aP (fun _ hk => hk.elim) ?aF ?aO ?aB ?aS ?aL ?_
          case aP => exact k38_mkM _ _ _ x
          case aF => exact fun _ _ => trivial
          case aO => exact HI.out.2.2.2
          case aB => exact HI.out.1.2.1
          case aS => exact below_size HI.out.1.2.1
          case aL => have := HA.out; omega
          intro v3 w5 ho hb hg hat
          obtain ⟨A3, c3, rfl⟩ : ∃ A3 c3, v3 = .slice A3 (acc ++ [x]).length c3 := Kd.R_slice ho
          have n0 := Aside0.mk (HI.out.grown ho hb hg)
          clear HI
          clear ho hb hg hat
          have HI := n0
          clear n0
          refine hK.out _ _ (((blk_cell HI.out.2.1 0).trans rfl)) (fun hHeld => ?_)
          clear hK K
          refine norm_ (a' := ?_) ?_ ?_
          rotate_left
          · show Act.put _ (some 23) _ = _
            simp only [Act.put, List.setIfInBounds_toArray, List.set_cons_zero, List.set_cons_succ, i64_w, i32_w]
            rfl
          refine last_ (i := 5) (N := none) #[true, true, true, true, true, true] rfl rfl (by kernel_rfl) (by decide) (fun K hK => ?_)
          have hd0 : World.cell? _ ⟨w.heap.size, 0, none⟩ = some _ := (blk_cell HI.out.2.1 0).trans rfl
          have he0 := blk_frozen HI.out.2.1 0
          refine skip_ (w1 := ?_) (by rfl) rfl ?_ ?_
          rotate_left
          · go_simp
            rfl
          refine hK.out _ _ ?_
          clear hK K
          refine done_ (by kernel_rfl) ?_
          refine NoPanic.normal ?_
          have HS := Aside0.mk HI.out.store
          clear HI hd0 he0
          have hjw : IntKind.u64.wrap (j : Int) = (j : Int) := by rw [IntKind.wrap_u64]; have := HM.out; have := HJ.out.2; omega
          go_wp2_with fail
          go_roundg j
          case measure => have := HJ.out; omega
          case rel => exact ⟨j, t', _, acc ++ [x], rfl, ⟨rfl, by have := HJ.out.2; omega⟩, ⟨by have := HS.out; simpa using this⟩, ⟨by have := HA.out; have := HT'.out; simp; omega⟩, HQ'⟩

theorem rows_Decode.calls (A0 : Option Addr) (c0 : Nat) (l0 : List Int) (r1 : List S38) (r2 : Int) (w : World) (hr0 : Kd.C (Kd.int .u8) w A0 l0.length l0) (hc0 : l0.length ≤ c0) (h : rows_Decode.f l0 = some (r1, r2)) :
    Calls Try.prog 15 #[.slice A0 l0.length c0] w fun e w' => ∃ v0_ : Value, e = .returned (.tuple #[v0_, .int .i64 r2]) ∧ Kd.R k38 38 w' w.heap.size (fun _ => True) v0_ r1 ∧ Below w.heap.size w w' := by
  rw [rows_Decode.f] at h
  by_cases hB : bytesB l0 = true
  · rw [if_pos hB, Option.some.injEq] at h
    by_cases hl : 2048 < l0.length
    · rw [r_dec, if_pos hl, Prod.mk.injEq] at h
      obtain ⟨rfl, rfl⟩ := h
      exact rows_Decode.long A0 c0 l0 w hl (C_ints hr0).2.1
    · exact rows_Decode.main A0 c0 l0 w hl (bytesB_in hB) hr0 hc0 r1 r2 h
  · rw [if_neg hB] at h
    cases h

end Go.Proofs.Ytlnpefcclhmokaa.P

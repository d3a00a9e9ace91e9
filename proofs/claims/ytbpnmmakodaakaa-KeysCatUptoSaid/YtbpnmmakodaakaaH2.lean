/- Written in this session: keys.Decode by hand. No condition but the length. -/
import Derived.Test.YtbpnmmakodaakaaH1
import Derived.Test.YtbpnmmakodaakaaA1
import Derived.Defers
import Derived.Recover
import Derived.WideLaws
import Derived.WalkLawsBesides
import Derived.WalkSpells
import Derived.Outline
import Derived.RegionDies
namespace Go.Proofs.Ytbpnmmakodaakaa.P
open Go.RowKit Go.Proofs.YtbpnmmakodaakaaW.PrintWords Go.Proofs.YtbpnmmakodaakaaW.PrintLast Go.Proofs.YtbpnmmakodaakaaW.PrintMore
attribute [local go_sem] max2_int min2_int max_two min_two max_three min_three max_four min_four   -- for this text's walks alone
set_option linter.unusedVariables false
set_option linter.unusedSimpArgs false

/-! ### Decode -/
def dT (d : List Bool) (n : Nat) : Int := if d.getD n false = true then 255 else 0
def r_loop (d : List Bool) : Nat → List S43 → List Int → Except Int (List S43)
  | _, acc, [] => .ok acc
  | 0, _, _ :: _ => .error 0
  | n + 1, acc, k :: l => match r_val (dT d acc.length) (k :: l) with | .error c => .error c | .ok (v, t) => r_loop d n (acc ++ [v]) t
def r_fin : Except Int (List S43) → List S43 × Int
  | .error c => ([], c)
  | .ok acc => (acc, 0)
def r_dec (d : List Bool) (l : List Int) : List S43 × Int := r_fin (r_loop d l.length [] l)
def bytesB (l : List Int) : Bool := l.all fun x => decide (0 ≤ x) && decide (x ≤ 255)
theorem bytesB_in {l : List Int} (h : bytesB l = true) : BytesIn l := by
  intro x hx
  have := List.all_eq_true.1 h x hx
  simpa using this
def keys_Decode.f (l : List Int) (d : List Bool) : Option (List (S43) × Int) := if bytesB l = true ∧ l.length < 4398046511104 then some (r_dec d l) else none
theorem turned_is (d : List Bool) (n : Nat) : keys_turned.f d (n : Int) = some (d.getD n false) := by
  unfold keys_turned.f rdOf
  by_cases h : n < d.length
  · have h1 : (n : Int) < (d.length : Int) := by omega
    have h2 : (0 : Int) ≤ (n : Int) := by omega
    simp [h1, h2]
  · have h1 : ¬ (n : Int) < (d.length : Int) := by omega
    simp only [h1, if_false]
    rw [List.getD_eq_getElem?_getD, List.getElem?_eq_none (by omega)]
    rfl
theorem r_text_length (T : Int) : ∀ (l acc : List Int) {s : ByteArray} {t : List Int}, r_text T acc l = .ok (s, t) → t.length < l.length
  | [], acc, s, t, h => by simp [r_text] at h
  | [c], acc, s, t, h => by simp [r_text] at h
  | c :: d :: u, acc, s, t, h => by
    rw [r_text] at h
    split at h
    · split at h
      · simp only [Except.ok.injEq, Prod.mk.injEq] at h
        obtain ⟨_, rfl⟩ := h
        simp; omega
      · split at h
        · have := r_text_length T u _ h
          simp; omega
        · cases h
    · have := r_text_length T (d :: u) _ h
      simp at this ⊢; omega
theorem r_val_length (T : Int) {l t : List Int} {x : S43} (h : r_val T l = .ok (x, t)) : t.length < l.length := by
  cases l with
  | nil => simp [r_val] at h
  | cons k l =>
    simp only [r_val] at h
    by_cases e1 : tx T k = 1
    · rw [if_pos e1] at h
      simp only [Except.ok.injEq, Prod.mk.injEq] at h
      obtain ⟨_, rfl⟩ := h
      simp
    rw [if_neg e1] at h
    by_cases e2 : tx T k = 2
    · rw [if_pos e2] at h
      cases l with
      | nil => simp at h
      | cons c l =>
        by_cases e : 1 < tx T c
        · simp [e] at h
        · simp only [if_neg e, Except.ok.injEq, Prod.mk.injEq] at h
          obtain ⟨_, rfl⟩ := h
          simp; omega
    rw [if_neg e2] at h
    by_cases e3 : tx T k = 3
    · rw [if_pos e3] at h
      by_cases e8 : l.length < 8
      · rw [if_pos e8] at h; cases h
      · rw [if_neg e8] at h
        simp only [Except.ok.injEq, Prod.mk.injEq] at h
        obtain ⟨_, rfl⟩ := h
        simp; omega
    rw [if_neg e3] at h
    by_cases e4 : tx T k = 4 ∨ tx T k = 5
    · rw [if_pos e4] at h
      cases hn : r_text T [] l with
      | error c => simp [hn] at h
      | ok p =>
        obtain ⟨s, t2⟩ := p
        have := r_text_length T l [] hn
        simp only [hn, Except.ok.injEq, Prod.mk.injEq] at h
        obtain ⟨_, rfl⟩ := h
        simp; omega
    · rw [if_neg e4] at h
      cases h

theorem keys_as_errno (v : Value) (w : World) : (Instr.typeAssert (.iface 25 v) 20 25 true).run Try.prog w = .ok (.tuple #[v, .bool true]) w := by kernel_rfl
theorem keys_Decode.caught (b0 b1 : Nat) (c : Int) (v x : Value) (w : World) (hne : ¬ b0 = b1) (h0 : w.cell? ⟨b0, 0, none⟩ = some v) (hf0 : w.frozen? ⟨b0, 0, none⟩ = false) (h1 : w.cell? ⟨b1, 0, none⟩ = some x) (hf1 : w.frozen? ⟨b1, 0, none⟩ = false) :
    CallsD Try.prog 29 #[.pointer (some ⟨b0, 0, none⟩), .pointer (some ⟨b1, 0, none⟩)] (.panicking [{ v := .iface 25 (.int .i64 c), recovered := false }]) w fun e u' w' =>
      e = .returned (.tuple #[]) ∧ u' = .panicking [{ v := .iface 25 (.int .i64 c), recovered := true }] ∧ w' = (w.setCell ⟨b0, 0, none⟩ (.slice none 0 0)).setCell ⟨b1, 0, none⟩ (.int .i64 c) := by
  have hne' : ¬ b1 = b0 := fun h => hne h.symm
  have hta := keys_as_errno
  refine callsD_of_wpS Try.func29 rfl fun c₀ cs hu => ?_
  apply wpS_seq
  apply wpS_region
  have hrep : (Array.replicate 10 undef : Array Value) = #[undef, undef, undef, undef, undef, undef, undef, undef, undef, undef] := rfl
  simp [wpOpsS, go_sem, recoverD, hu, Try.ntmps29, Exit.thenS, hrep]
  clear hrep
  refine wpS_of_wp ?_
  go_wp2
  exact ⟨rfl, .panicking [{ v := .iface 25 (.int .i64 c), recovered := true }], rfl, .tuple #[], results_none rfl _ _ _, rfl, rfl, rfl⟩
theorem keys_Decode.idle (b0 b1 : Nat) (w : World) :
    CallsD Try.prog 29 #[.pointer (some ⟨b0, 0, none⟩), .pointer (some ⟨b1, 0, none⟩)] .returning w fun e u' w' => e = .returned (.tuple #[]) ∧ u' = .returning ∧ w' = w := by
  refine callsD_of_wpS Try.func29 rfl fun c₀ cs hu => ?_
  apply wpS_seq
  apply wpS_region
  have hrep : (Array.replicate 10 undef : Array Value) = #[undef, undef, undef, undef, undef, undef, undef, undef, undef, undef] := rfl
  simp [wpOpsS, go_sem, recoverD, hu, Try.ntmps29, Exit.thenS, hrep]
  clear hrep
  refine wpS_of_wp ?_
  go_wp2
  refine ⟨rfl, .returning, ?_, .tuple #[], results_none rfl _ _ _, rfl, rfl, rfl⟩
  cases c₀
  simp_all

/-- What holds while rows are decoded: the reader; the variables of the two named results; the row so far. -/
def DI (T : Int) (w W : World) (l : List Int) (v : Value) (acc : List S43) : Prop :=
  Rd T w W (w.heap.size + 1 + 1) l ∧ W.heap[w.heap.size]? = some (.cells #[v] 22 (0, 0)) ∧ W.heap[w.heap.size + 1]? = some (.cells #[.int .i64 0] 25 (0, 0)) ∧ Kd.R k43 43 W w.heap.size (fun _ => True) v acc
theorem DI.call {α : Type} {enc : α → Value} {x : α} {T : Int} {w W W1 : World} {l t : List Int} {v : Value} {acc : List S43} {e : Ending} (h : DI T w W l v acc) (h1 : RPost enc T (.ok (x, t)) w W (w.heap.size + 1 + 1) e W1) : e = .returned (enc x) ∧ DI T w W1 t v acc := by
  obtain ⟨hr, h2, h3, h4⟩ := h
  obtain ⟨hk, hb, he, hrd⟩ := h1
  obtain ⟨A, c, hg, _⟩ := hr.2.2.2
  exact ⟨he, hrd, hk.blk h2 (by omega) (by simp), hk.blk h3 (by omega) (by simp), Kd.R_mono (Kd.R_keep (Kd.R_types h4 hg (by decide)) hk (fun k hk => hk.2)) (fun _ _ => trivial)⟩
theorem DI.fail {α : Type} {enc : α → Value} {T : Int} {w W W1 : World} {l : List Int} {c : Int} {v : Value} {acc : List S43} {e : Ending} (h : DI T w W l v acc) (h1 : RPost enc T (.error c) w W (w.heap.size + 1 + 1) e W1) :
    e = .panicked [{ v := .iface 25 (.int .i64 c), recovered := false }] ∧ W1.heap[w.heap.size]? = some (.cells #[v] 22 (0, 0)) ∧ W1.heap[w.heap.size + 1]? = some (.cells #[.int .i64 0] 25 (0, 0)) ∧ Below w.heap.size w W1 := by
  obtain ⟨hr, h2, h3, h4⟩ := h
  obtain ⟨hk, hb, he, _⟩ := h1
  exact ⟨he, hk.blk h2 (by omega) (by simp), hk.blk h3 (by omega) (by simp), hb⟩
theorem DI.start {w : World} {A0 : Option Addr} {c0 : Nat} {l0 : List Int} (hB : BytesIn l0) (hR : ReadsInt w .u8 A0 l0.length l0) (hc : l0.length ≤ c0) :
    DI 0 w (((w.alloc (.cells #[.slice none 0 0] 22)).alloc (.cells #[.int .i64 0] 25)).alloc (.cells #[.slice A0 l0.length c0, .int .u8 0] 53)) l0 (.slice none 0 0) [] := by
  refine ⟨⟨by omega, below_alloc (below_alloc (below_alloc (Below.refl _ _) _) _) _, hB, A0, c0, ?_, hc, hR⟩, ?_, ?_, Kd.R_nil _ _ _ _ _⟩
  · have := Deep.blk_alloc_new ((w.alloc (.cells #[.slice none 0 0] 22)).alloc (.cells #[.int .i64 0] 25)) (.cells #[.slice A0 l0.length c0, .int .u8 0] 53)
    simpa using this
  · exact blk_alloc (blk_alloc (Deep.blk_alloc_new w _) _) _
  · have := Deep.blk_alloc_new (w.alloc (.cells #[.slice none 0 0] 22)) (.cells #[.int .i64 0] 25)
    exact blk_alloc (by simpa using this) _

theorem info43d : (Try.prog.info? 43).map (fun i => (i.zero, i.size, i.bytes)) = some (some (.agg #[.int .i64 0, .int .i64 0, .string (⟨#[]⟩ : ByteArray)]), 3, 32) := by kernel_rfl
/-- The row has grown; the variable of the first result holds the elder one still. -/
def DJ (T : Int) (w W : World) (l : List Int) (u v : Value) (acc : List S43) : Prop :=
  Rd T w W (w.heap.size + 1 + 1) l ∧ W.heap[w.heap.size]? = some (.cells #[u] 22 (0, 0)) ∧ W.heap[w.heap.size + 1]? = some (.cells #[.int .i64 0] 25 (0, 0)) ∧ Kd.R k43 43 W w.heap.size (fun _ => True) v acc
theorem DI.grown {T : Int} {w W W5 : World} {l : List Int} {v v3 : Value} {acc acc3 : List S43} (h : DI T w W l v acc) (ho : Kd.R k43 43 W5 w.heap.size (fun _ => True) v3 acc3) (hb : Below w.heap.size w W5) (hg : W.grownBy W5 v.ownBlock) : DJ T w W5 l v v3 acc3 := by
  obtain ⟨hr, h2, h3, h4⟩ := h
  obtain ⟨A, c, hg', _⟩ := hr.2.2.2
  exact ⟨hr.alive hb ((blk_grown hg' hg (Kd.R_ne h4 hg' (by decide))).trans hg'.symm), blk_grown h2 hg (Kd.R_ne h4 h2 (by decide)), blk_grown h3 hg (Kd.R_ne h4 h3 (by decide)), ho⟩
theorem DJ.store {T : Int} {w W : World} {l : List Int} {u v : Value} {acc : List S43} (h : DJ T w W l u v acc) : DI T w (W.setCell ⟨w.heap.size, 0, none⟩ v) l v acc := by
  obtain ⟨hr, h2, h3, h4⟩ := h
  refine ⟨hr.alive (Below.setCell hr.2.1 (Nat.le_refl _) _) (Below.heap_setCell W ⟨w.heap.size, 0, none⟩ _ _ (by show w.heap.size + 1 + 1 ≠ w.heap.size; omega)), ?_, (Below.heap_setCell W ⟨w.heap.size, 0, none⟩ _ _ (by show w.heap.size + 1 ≠ w.heap.size; omega)).trans h3, Kd.R_set h4 h2 (by decide) _ _⟩
  exact blk_set h2 0 _
theorem DI.rd {T : Int} {w W : World} {l : List Int} {v : Value} {acc : List S43} (h : DI T w W l v acc) : Rd T w W (w.heap.size + 1 + 1) l := h.1
theorem DI.drew {T : Int} {w W : World} {l : List Int} {v : Value} {acc : List S43} (h : DI T w W l v acc) : DI T w W.drew l v acc :=
  ⟨h.1.alive (below_drew h.1.2.1) rfl, h.2.1, h.2.2.1, Kd.R_drew h.2.2.2⟩
theorem DI.drewN {T : Int} {w W : World} {l : List Int} {v : Value} {acc : List S43} (h : DI T w W l v acc) (n : Nat) : DI T w (W.drewN n) l v acc :=
  ⟨h.1.alive (pw_below_drewN h.1.2.1 n) rfl, h.2.1, h.2.2.1, Kd.R_drewN h.2.2.2 n⟩
theorem DI.turn {T : Int} {w W : World} {l : List Int} {v : Value} {acc : List S43} (h : DI T w W l v acc) (T' : Int) : DI T' w (W.setCell ⟨w.heap.size + 1 + 1, 1, none⟩ (.int .u8 T')) l v acc := by
  obtain ⟨hr, h2, h3, h4⟩ := h
  obtain ⟨ha, hb, hB, A, c, hg, hc, hR⟩ := hr
  refine ⟨⟨by omega, Below.setCell hb (by show w.heap.size ≤ w.heap.size + 1 + 1; omega) _, hB, A, c, ?_, hc, hR⟩, (Below.heap_setCell W ⟨w.heap.size + 1 + 1, 1, none⟩ _ _ (by show w.heap.size ≠ w.heap.size + 1 + 1; omega)).trans h2, (Below.heap_setCell W ⟨w.heap.size + 1 + 1, 1, none⟩ _ _ (by show w.heap.size + 1 ≠ w.heap.size + 1 + 1; omega)).trans h3, Kd.R_set h4 hg (by decide) _ _⟩
  exact blk_set hg 1 _
/-- Of the world where a piece begins what is known alone. -/
theorem at_world {P : Program} {c : Code} {Q : Exit → Act → World → Prop} {a : Act} {W : World} (R : World → Prop) (h : R W) (k : ∀ W', R W' → Code.wp P c Q a W') : Code.wp P c Q a W := k W h

/-- What stands ahead of the value's call. -/
theorem keys_Decode.facts {T : Int} {w W : World} {l : List Int} {v : Value} {acc : List S43} (h : DI T w W l v acc) : W.cell? ⟨w.heap.size, 0, none⟩ = some v ∧ W.frozen? ⟨w.heap.size, 0, none⟩ = false ∧ (∃ A c, W.cell? ⟨w.heap.size + 1 + 1, 0, none⟩ = some (.slice A l.length c)) ∧ W.cell? ⟨w.heap.size + 1 + 1, 1, none⟩ = some (.int .u8 T) ∧ W.frozen? ⟨w.heap.size + 1 + 1, 1, none⟩ = false := by
  obtain ⟨hr, h2, h3, h4⟩ := h
  obtain ⟨ha, hb, hB, A, c, hg, hc, hR⟩ := hr
  exact ⟨(blk_cell h2 0).trans rfl, blk_frozen h2 0, ⟨A, c, (blk_cell hg 0).trans rfl⟩, (blk_cell hg 1).trans rfl, blk_frozen hg 1⟩

set_option maxHeartbeats 8000000 in
set_option maxRecDepth 100000 in
theorem keys_Decode.main (A0 : Option Addr) (c0 : Nat) (l0 : List Int) (A1 : Option Addr) (c1 : Nat) (d : List Bool) (w : World) (hl : l0.length < 4398046511104) (hB : BytesIn l0) (hr0 : Kd.C (Kd.int .u8) w A0 l0.length l0) (hc0 : l0.length ≤ c0) (hr1 : Kd.C Kd.bool w A1 d.length d) (hc1 : d.length ≤ c1) (r1 : List S43) (r2 : Int) (hr : r_dec d l0 = (r1, r2)) :
    Calls Try.prog 13 #[.slice A0 l0.length c0, .slice A1 d.length c1] w fun e w' => ∃ v0_ : Value, e = .returned (.tuple #[v0_, .int .i64 r2]) ∧ Kd.R k43 43 w' w.heap.size (fun _ => True) v0_ r1 ∧ Below w.heap.size w w' := by
  have hmf : ∀ (fn : Fn) (first cap : Array Value) (w : World), (Instr.makeFunc fn first cap).run Try.prog w = .ok (.func fn first cap) w := fun _ _ _ _ => rfl
  have HB := Aside0.mk hB
  have HC := Aside0.mk hc0
  have HR := Aside0.mk (C_ints hr0)
  have HL := Aside0.mk hl
  have HD1 := Aside0.mk hr1
  have HC1 := Aside0.mk hc1
  obtain ⟨q, hq⟩ : ∃ q, r_loop d l0.length [] l0 = q := ⟨_, rfl⟩
  have HQ := Aside0.mk hq
  have HE : Aside0 (r_fin q = (r1, r2)) := ⟨by rw [← hq]; exact hr⟩
  clear hB hc0 hr0 hl hr hr1 hc1 hq
  have HI := Aside0.mk (DI.start HB.out HR.out HC.out)
  go_enter_defers Try.func13, Try.ntmps13
  go_wp2_with fail
  go_loopg [] (l0.length + 1) (fun kq w' => ∃ (T : Int) (j : Nat) (l' : List Int) (v : Value) (acc : List S43), Aside0 (l'.length ≤ j ∧ j < kq) ∧ Aside0 (DI T w w' l' v acc) ∧ Aside0 (acc.length + l'.length < 4398046511104) ∧ Aside0 (r_loop d j acc l' = q))
  case atStart => exact ⟨0, l0.length, l0, .slice none 0 0, [], ⟨by omega⟩, HI, ⟨by have := HL.out; simp; omega⟩, HQ⟩
  case round =>
    clear HI HQ
    obtain ⟨T0, j0, l', v, acc, HJ, HI, HA, HQ⟩ := hrel
    obtain ⟨A2, c2, rfl⟩ : ∃ A2 c2, v = .slice A2 acc.length c2 := Kd.R_slice HI.out.2.2.2
    cases hcl : l' with
    | nil =>
      subst hcl
      obtain rfl : q = .ok acc := by rw [← HQ.out]; cases j0 <;> rfl
      obtain ⟨rfl, rfl⟩ : acc = r1 ∧ 0 = r2 := by have := HE.out; rw [r_fin] at this; simpa using this
      obtain ⟨_, _, ⟨A, c, hrc⟩, _, _⟩ := keys_Decode.facts HI.out
      rw [List.length_nil] at hrc
      have F0 := HI.out.2.1
      have F1 := HI.out.2.2.1
      have FB := HI.out.1.2.1
      have hd0 : World.cell? _ ⟨w.heap.size, 0, none⟩ = some _ := (blk_cell F0 0).trans rfl
      have hd1 : World.cell? _ ⟨w.heap.size + 1, 0, none⟩ = some _ := (blk_cell F1 0).trans rfl
      have he0 := blk_frozen F0 0
      have he1 := blk_frozen F1 0
      have G0 := Aside0.mk F0
      have G1 := Aside0.mk F1
      have GB := Aside0.mk FB
      clear F0 F1 FB
      have hne : ¬ w.heap.size = w.heap.size + 1 := by omega
      have hne' : ¬ w.heap.size + 1 = w.heap.size := by omega
      go_wp2_with fail
      have F0 := G0.out
      have F1 := G1.out
      have FB := GB.out
      refine leaves_cons (f := 29) (args := #[.pointer (some ⟨w.heap.size, 0, none⟩), .pointer (some ⟨w.heap.size + 1, 0, none⟩)]) (by simp) (by simp [go_sem]) ?_
      refine (keys_Decode.idle _ _ _).mono ?_
      rintro e u' w'' ⟨rfl, rfl, rfl⟩
      refine ⟨.tuple #[.slice A2 acc.length c2, .int .i64 0], by simp [results, Try.results13, go_sem, hd0, hd1, hne, hne'], .slice A2 acc.length c2, rfl, Kd.R_set (Kd.R_set HI.out.2.2.2 F0 (by decide) _ _) ((Below.heap_setCell wr ⟨w.heap.size, 0, none⟩ _ _ (by show w.heap.size + 1 ≠ w.heap.size; omega)).trans F1) (by decide) _ _, Below.setCell (Below.setCell FB (Nat.le_refl _) _) (by show w.heap.size ≤ w.heap.size + 1; omega) _⟩
    | cons k0 t0 =>
      have HCL := Aside0.mk hcl
      have HLN : Aside0 (l'.length < 140737488355328) := ⟨by have := HA.out; omega⟩
      obtain ⟨j, rfl⟩ : ∃ i, j0 = i + 1 := ⟨j0 - 1, by have := HJ.out; rw [hcl] at this; simp at this; omega⟩
      have hpos : 0 < l'.length := by rw [hcl]; simp
      clear hcl
      obtain ⟨hd0, he0, ⟨A, c, hrc⟩, hrt, hft⟩ := keys_Decode.facts HI.out
      have b6 : decide (0 < (l'.length : Int)) = true := decide_eq_true (by omega)
      have b7 : decide (0 < l'.length) = true := decide_eq_true hpos
      have hne : ¬ w.heap.size = w.heap.size + 1 + 1 := by omega
      have hne' : ¬ w.heap.size + 1 + 1 = w.heap.size := by omega
      have HI1 := Aside0.mk (HI.out.turn 0)
      have htd := turned_is d acc.length
      obtain ⟨hd0', he0', _, hrt', hft'⟩ := keys_Decode.facts HI1.out
      cases hb : d.getD acc.length false with
      | false =>
        rw [hb] at htd
        have HTD := Aside0.mk hb
        have HT := Aside0.mk htd
        clear htd hb hpos
        go_wp2_with fail
        refine (keys_turned.calls A1 c1 d (acc.length : Int) false _ (Kd.C_below HD1.out HI1.out.1.2.1) HC1.out HT.out).mono ?_
        rintro e w' ⟨rfl, ⟨nd, rfl⟩⟩
        go_wp2_with fail
        refine at_world (fun W => DI 0 w W l' (.slice A2 acc.length c2) acc) ?_ (fun W hI => ?_)
        · exact HI1.out.drewN nd
        obtain ⟨T, hT⟩ : ∃ T : Int, T = 0 := ⟨0, rfl⟩
        rw [← hT] at hI
        have HIW := Aside0.mk hI
        clear hI HI1 HI hd0 he0 hd0' he0' hrc hrt hft hrt' hft' hne hne' b6 b7
        have HI := HIW
        clear HIW
        replace hT : T = if false = true then 255 else 0 := hT
        have hturn : T = dT d acc.length := by unfold dT; rw [HTD.out]; exact hT
        clear hT
        obtain ⟨hd0, he0, _, _, _⟩ := keys_Decode.facts HI.out
        cases hv : r_val T l' with
        | error c =>
          have HV := Aside0.mk hv
          clear hv
          obtain rfl : q = .error c := by rw [← HQ.out]; rw [hturn] at HV; rw [HCL.out] at HV ⊢; rw [r_loop, HV.out]
          obtain ⟨rfl, rfl⟩ : [] = r1 ∧ c = r2 := by have := HE.out; rw [r_fin] at this; simpa using this
          refine wp_region_any (by kernel_rfl) ?_
          change wpAny _ _ _ _ _ _ _ (World.drew _)
          refine wpAny_ready (rs := [0, 1]) (by kernel_rfl) (by simp) ?_
          refine AllReady.cons rfl (fun K hK => ?_) ?_
          · go_simp
            refine hK _ _ ?_
            clear hK K
            refine wpAny_ready (rs := [1]) (by kernel_rfl) (by simp) ?_
            refine AllReady.cons rfl (fun K hK => ?_) ?_
            · go_simp
              refine hK _ _ ?_
              clear hK K
              refine wpAny_ready (rs := [2]) (by kernel_rfl) (by simp) ?_
              refine AllReady.cons rfl (fun K hK => ?_) ?_
              · go_simp
                refine (keys_reader_value.calls T l' _ w _ HI.out.drew.1 HLN.out).mono ?_
                rintro e w2 h2
                rw [HV.out] at h2
                obtain ⟨he, F0, F1, FB⟩ := HI.out.drew.fail h2
                obtain rfl := he
                have G0 := Aside0.mk F0
                have G1 := Aside0.mk F1
                have GB := Aside0.mk FB
                clear F0 F1 FB h2 hd0 he0
                go_wp2_with fail
                have F0 := G0.out
                have F1 := G1.out
                have FB := GB.out
                have hd0 : World.cell? _ ⟨w.heap.size, 0, none⟩ = some _ := (blk_cell F0 0).trans rfl
                have hd1 : World.cell? _ ⟨w.heap.size + 1, 0, none⟩ = some _ := (blk_cell F1 0).trans rfl
                have he0 := blk_frozen F0 0
                have he1 := blk_frozen F1 0
                refine leaves_cons (f := 29) (args := #[.pointer (some ⟨w.heap.size, 0, none⟩), .pointer (some ⟨w.heap.size + 1, 0, none⟩)]) (by simp) (by simp [go_sem]) ?_
                refine (keys_Decode.caught _ _ c _ _ _ (by omega) hd0 he0 hd1 he1).mono ?_
                rintro e u' w'' ⟨rfl, rfl, rfl⟩
                refine ⟨.tuple #[.slice none 0 0, .int .i64 c], by simp [results, Try.results13, go_sem, hd0, hd1], .slice none 0 0, rfl, Kd.R_nil _ _ _ _ _, Below.setCell (Below.setCell FB (Nat.le_refl _) _) (by show w.heap.size ≤ w.heap.size + 1; omega) _⟩
              exact AllReady.nil
            exact AllReady.nil
          refine AllReady.cons rfl (fun K hK => ?_) ?_
          · go_simp
            refine hK _ _ ?_
            clear hK K
            refine wpAny_ready (rs := [0, 2]) (by kernel_rfl) (by simp) ?_
            refine AllReady.cons rfl (fun K hK => ?_) ?_
            · go_simp
              refine hK _ _ ?_
              clear hK K
              refine wpAny_ready (rs := [2]) (by kernel_rfl) (by simp) ?_
              refine AllReady.cons rfl (fun K hK => ?_) ?_
              · go_simp
                refine (keys_reader_value.calls T l' _ w _ HI.out.drew.1 HLN.out).mono ?_
                rintro e w2 h2
                rw [HV.out] at h2
                obtain ⟨he, F0, F1, FB⟩ := HI.out.drew.fail h2
                obtain rfl := he
                have G0 := Aside0.mk F0
                have G1 := Aside0.mk F1
                have GB := Aside0.mk FB
                clear F0 F1 FB h2 hd0 he0
                go_wp2_with fail
                have F0 := G0.out
                have F1 := G1.out
                have FB := GB.out
                have hd0 : World.cell? _ ⟨w.heap.size, 0, none⟩ = some _ := (blk_cell F0 0).trans rfl
                have hd1 : World.cell? _ ⟨w.heap.size + 1, 0, none⟩ = some _ := (blk_cell F1 0).trans rfl
                have he0 := blk_frozen F0 0
                have he1 := blk_frozen F1 0
                refine leaves_cons (f := 29) (args := #[.pointer (some ⟨w.heap.size, 0, none⟩), .pointer (some ⟨w.heap.size + 1, 0, none⟩)]) (by simp) (by simp [go_sem]) ?_
                refine (keys_Decode.caught _ _ c _ _ _ (by omega) hd0 he0 hd1 he1).mono ?_
                rintro e u' w'' ⟨rfl, rfl, rfl⟩
                refine ⟨.tuple #[.slice none 0 0, .int .i64 c], by simp [results, Try.results13, go_sem, hd0, hd1], .slice none 0 0, rfl, Kd.R_nil _ _ _ _ _, Below.setCell (Below.setCell FB (Nat.le_refl _) _) (by show w.heap.size ≤ w.heap.size + 1; omega) _⟩
              exact AllReady.nil
            refine AllReady.cons rfl (fun K hK => ?_) ?_
            · go_simp
              refine (keys_reader_value.calls T l' _ w _ HI.out.drew.1 HLN.out).mono ?_
              rintro e w2 h2
              rw [HV.out] at h2
              obtain ⟨he, F0, F1, FB⟩ := HI.out.drew.fail h2
              obtain rfl := he
              have G0 := Aside0.mk F0
              have G1 := Aside0.mk F1
              have GB := Aside0.mk FB
              clear F0 F1 FB h2 hd0 he0
              go_wp2_with fail
              have F0 := G0.out
              have F1 := G1.out
              have FB := GB.out
              have hd0 : World.cell? _ ⟨w.heap.size, 0, none⟩ = some _ := (blk_cell F0 0).trans rfl
              have hd1 : World.cell? _ ⟨w.heap.size + 1, 0, none⟩ = some _ := (blk_cell F1 0).trans rfl
              have he0 := blk_frozen F0 0
              have he1 := blk_frozen F1 0
              refine leaves_cons (f := 29) (args := #[.pointer (some ⟨w.heap.size, 0, none⟩), .pointer (some ⟨w.heap.size + 1, 0, none⟩)]) (by simp) (by simp [go_sem]) ?_
              refine (keys_Decode.caught _ _ c _ _ _ (by omega) hd0 he0 hd1 he1).mono ?_
              rintro e u' w'' ⟨rfl, rfl, rfl⟩
              refine ⟨.tuple #[.slice none 0 0, .int .i64 c], by simp [results, Try.results13, go_sem, hd0, hd1], .slice none 0 0, rfl, Kd.R_nil _ _ _ _ _, Below.setCell (Below.setCell FB (Nat.le_refl _) _) (by show w.heap.size ≤ w.heap.size + 1; omega) _⟩
            exact AllReady.nil
          exact AllReady.nil
        | ok p =>
          obtain ⟨x, t'⟩ := p
          have HV := Aside0.mk hv
          have HT' := Aside0.mk (r_val_length T hv)
          clear hv
          have HQ' : Aside0 (r_loop d j (acc ++ [x]) t' = q) := ⟨by rw [← HQ.out]; rw [hturn] at HV; rw [HCL.out] at HV ⊢; rw [r_loop, HV.out]⟩
          clear hturn
          refine wp_region_noPanic ?_
          refine start_ (n := 6) (S := fun w' => w'.cell? ⟨w.heap.size, 0, none⟩ = some (.slice A2 acc.length c2)) (ds := [5]) #[false, false, false, false, false, false] (by kernel_rfl) rfl rfl (hd0) (fun hHeld => ?_)
          refine pure_ (i := 1) (N := some 28) (v := ?_) (a' := ?_) #[false, true, false, false, false, false] rfl rfl (by kernel_rfl) (fun _ _ _ h => h) (Or.inl ⟨by rfl, ?_⟩) ?_ ?_
          rotate_left
          · intro w'
            go_simp
            with_reducible rfl
          rotate_left
          · simp only [Act.put, List.setIfInBounds_toArray, List.set_cons_zero, List.set_cons_succ, i64_w, i32_w]
            rfl
          refine take_ (i := 0) (N := some 27) (v := ?_) (a' := ?_) #[true, true, false, false, false, false] rfl rfl (by kernel_rfl) (fun _ _ _ h => h) (Or.inl ⟨by rfl, ?_⟩) hHeld ?_ ?_
          rotate_left
          · intro w' s0
            go_simp
            with_reducible rfl
          rotate_left
          · simp only [Act.put, List.setIfInBounds_toArray, List.set_cons_zero, List.set_cons_succ, i64_w, i32_w]
            rfl
          refine one_ (i := 2) (N := some 29) #[true, true, true, false, false, false] rfl rfl (by kernel_rfl) (by decide) (fun K hK => ?_)
          refine goes_ Try.func30 (by kernel_rfl) rfl #[.pointer (some ⟨w.heap.size + 1 + 1, 0, none⟩)] (by rfl) rfl rfl (by simp only [List.map_toArray, List.map_cons, List.map_nil]; rfl) ?_
          with_reducible refine (keys_reader_value.calls T l' _ w _ HI.out.drew.rd HLN.out).mono ?_
          rintro e w2 h2
          rw [HV.out] at h2
          obtain ⟨he, hi⟩ := HI.out.drew.call h2
          refine ⟨.agg #[.int .i64 x.f0, .int .i64 x.f1, .string x.f2], he, ?_⟩
          have n0 := Aside0.mk hi
          clear hi HI h2 he
          have HI := n0
          clear n0
          refine hK.out _ _ (((blk_cell HI.out.2.1 0).trans rfl)) (fun hHeld => ?_)
          clear hK K
          refine norm_ (a' := ?_) ?_ ?_
          rotate_left
          · show Act.put _ (some 29) _ = _
            simp only [Act.put, List.setIfInBounds_toArray, List.set_cons_zero, List.set_cons_succ, i64_w, i32_w]
            rfl
          refine one_ (i := 3) (N := some 30) #[true, true, true, true, false, false] rfl rfl (by kernel_rfl) (by decide) (fun K hK => ?_)
          refine value_ (w1 := ?_) (v := ?_) (by rfl) rfl ?_ ?_
          rotate_left 2
          · go_simp
            constructor
            · rfl
            · rfl
          refine hK.out _ _ (((blk_cell (blk_alloc HI.out.2.1 _) 0).trans rfl)) (fun hHeld => ?_)
          clear hK K
          refine norm_ (a' := ?_) ?_ ?_
          rotate_left
          · show Act.put _ (some 30) _ = _
            simp only [Act.put, List.setIfInBounds_toArray, List.set_cons_zero, List.set_cons_succ, i64_w, i32_w]
            rfl
          refine one_ (i := 4) (N := some 31) #[true, true, true, true, true, false] rfl rfl (by kernel_rfl) (by decide) (fun K hK => ?_)
          refine Kd.R_append_step k43 (w0 := w) w.heap.size (by rfl) (.tmp 27) (.tmp 30) 22 43 (.agg #[.int .i64 0, .int .i64 0, .string (⟨#[]⟩ : ByteArray)]) 32 rfl Try.underlying22 info43d rfl (by decide) (by omega) (.slice A2 acc.length c2) acc x [.int .i64 x.f0, .int .i64 x.f1, .string x.f2] (fun _ => True) (fun _ => False) rfl rfl ?aP (fun _ hk => hk.elim) ?aF ?aO ?aB ?aS ?aL ?_
          case aP => exact k43_mkM _ _ _ x
          case aF => exact fun _ _ => trivial
          case aO => exact HI.out.2.2.2
          case aB => exact HI.out.1.2.1
          case aS => exact below_size HI.out.1.2.1
          case aL => have := HA.out; omega
          intro v3 w5 ho hb hg hat
          obtain ⟨A3, c3, rfl⟩ : ∃ A3 c3, v3 = .slice A3 (acc ++ [x]).length c3 := Kd.R_slice ho
          have n0 := Aside0.mk (HI.out.grown ho hb hg)
          clear HI
          clear ho hb hg hat
          have HI := n0
          clear n0
          refine hK.out _ _ (((blk_cell HI.out.2.1 0).trans rfl)) (fun hHeld => ?_)
          clear hK K
          refine norm_ (a' := ?_) ?_ ?_
          rotate_left
          · show Act.put _ (some 31) _ = _
            simp only [Act.put, List.setIfInBounds_toArray, List.set_cons_zero, List.set_cons_succ, i64_w, i32_w]
            rfl
          refine last_ (i := 5) (N := none) #[true, true, true, true, true, true] rfl rfl (by kernel_rfl) (by decide) (fun K hK => ?_)
          have hd0 : World.cell? _ ⟨w.heap.size, 0, none⟩ = some _ := (blk_cell HI.out.2.1 0).trans rfl
          have he0 := blk_frozen HI.out.2.1 0
          refine skip_ (w1 := ?_) (by rfl) rfl ?_ ?_
          rotate_left
          · go_simp
            rfl
          refine hK.out _ _ ?_
          clear hK K
          refine done_ (by kernel_rfl) ?_
          refine NoPanic.normal ?_
          have HS := Aside0.mk HI.out.store
          clear HI hd0 he0
          go_wp2_with fail
          go_roundg (j + 1)
          case measure => have := HJ.out; omega
          case rel => exact ⟨T, j, t', _, acc ++ [x], ⟨by have := HJ.out; have := HT'.out; omega⟩, ⟨by have := HS.out; simpa using this⟩, ⟨by have := HA.out; have := HT'.out; simp; omega⟩, HQ'⟩
      | true =>
        rw [hb] at htd
        have HTD := Aside0.mk hb
        have HT := Aside0.mk htd
        clear htd hb hpos
        go_wp2_with fail
        refine (keys_turned.calls A1 c1 d (acc.length : Int) true _ (Kd.C_below HD1.out HI1.out.1.2.1) HC1.out HT.out).mono ?_
        rintro e w' ⟨rfl, ⟨nd, rfl⟩⟩
        go_wp2_with fail
        refine at_world (fun W => DI 255 w W l' (.slice A2 acc.length c2) acc) ?_ (fun W hI => ?_)
        · first | exact (HI1.out.drewN nd).turn 255 | exact (HI1.out.turn 255).drewN nd
        obtain ⟨T, hT⟩ : ∃ T : Int, T = 255 := ⟨255, rfl⟩
        rw [← hT] at hI
        have HIW := Aside0.mk hI
        clear hI HI1 HI hd0 he0 hd0' he0' hrc hrt hft hrt' hft' hne hne' b6 b7
        have HI := HIW
        clear HIW
        replace hT : T = if true = true then 255 else 0 := hT
        have hturn : T = dT d acc.length := by unfold dT; rw [HTD.out]; exact hT
        clear hT
        obtain ⟨hd0, he0, _, _, _⟩ := keys_Decode.facts HI.out
        cases hv : r_val T l' with
        | error c =>
          have HV := Aside0.mk hv
          clear hv
          obtain rfl : q = .error c := by rw [← HQ.out]; rw [hturn] at HV; rw [HCL.out] at HV ⊢; rw [r_loop, HV.out]
          obtain ⟨rfl, rfl⟩ : [] = r1 ∧ c = r2 := by have := HE.out; rw [r_fin] at this; simpa using this
          refine wp_region_any (by kernel_rfl) ?_
          change wpAny _ _ _ _ _ _ _ (World.drew _)
          refine wpAny_ready (rs := [0, 1]) (by kernel_rfl) (by simp) ?_
          refine AllReady.cons rfl (fun K hK => ?_) ?_
          · go_simp
            refine hK _ _ ?_
            clear hK K
            refine wpAny_ready (rs := [1]) (by kernel_rfl) (by simp) ?_
            refine AllReady.cons rfl (fun K hK => ?_) ?_
            · go_simp
              refine hK _ _ ?_
              clear hK K
              refine wpAny_ready (rs := [2]) (by kernel_rfl) (by simp) ?_
              refine AllReady.cons rfl (fun K hK => ?_) ?_
              · go_simp
                refine (keys_reader_value.calls T l' _ w _ HI.out.drew.1 HLN.out).mono ?_
                rintro e w2 h2
                rw [HV.out] at h2
                obtain ⟨he, F0, F1, FB⟩ := HI.out.drew.fail h2
                obtain rfl := he
                have G0 := Aside0.mk F0
                have G1 := Aside0.mk F1
                have GB := Aside0.mk FB
                clear F0 F1 FB h2 hd0 he0
                go_wp2_with fail
                have F0 := G0.out
                have F1 := G1.out
                have FB := GB.out
                have hd0 : World.cell? _ ⟨w.heap.size, 0, none⟩ = some _ := (blk_cell F0 0).trans rfl
                have hd1 : World.cell? _ ⟨w.heap.size + 1, 0, none⟩ = some _ := (blk_cell F1 0).trans rfl
                have he0 := blk_frozen F0 0
                have he1 := blk_frozen F1 0
                refine leaves_cons (f := 29) (args := #[.pointer (some ⟨w.heap.size, 0, none⟩), .pointer (some ⟨w.heap.size + 1, 0, none⟩)]) (by simp) (by simp [go_sem]) ?_
                refine (keys_Decode.caught _ _ c _ _ _ (by omega) hd0 he0 hd1 he1).mono ?_
                rintro e u' w'' ⟨rfl, rfl, rfl⟩
                refine ⟨.tuple #[.slice none 0 0, .int .i64 c], by simp [results, Try.results13, go_sem, hd0, hd1], .slice none 0 0, rfl, Kd.R_nil _ _ _ _ _, Below.setCell (Below.setCell FB (Nat.le_refl _) _) (by show w.heap.size ≤ w.heap.size + 1; omega) _⟩
              exact AllReady.nil
            exact AllReady.nil
          refine AllReady.cons rfl (fun K hK => ?_) ?_
          · go_simp
            refine hK _ _ ?_
            clear hK K
            refine wpAny_ready (rs := [0, 2]) (by kernel_rfl) (by simp) ?_
            refine AllReady.cons rfl (fun K hK => ?_) ?_
            · go_simp
              refine hK _ _ ?_
              clear hK K
              refine wpAny_ready (rs := [2]) (by kernel_rfl) (by simp) ?_
              refine AllReady.cons rfl (fun K hK => ?_) ?_
              · go_simp
                refine (keys_reader_value.calls T l' _ w _ HI.out.drew.1 HLN.out).mono ?_
                rintro e w2 h2
                rw [HV.out] at h2
                obtain ⟨he, F0, F1, FB⟩ := HI.out.drew.fail h2
                obtain rfl := he
                have G0 := Aside0.mk F0
                have G1 := Aside0.mk F1
                have GB := Aside0.mk FB
                clear F0 F1 FB h2 hd0 he0
                go_wp2_with fail
                have F0 := G0.out
                have F1 := G1.out
                have FB := GB.out
                have hd0 : World.cell? _ ⟨w.heap.size, 0, none⟩ = some _ := (blk_cell F0 0).trans rfl
                have hd1 : World.cell? _ ⟨w.heap.size + 1, 0, none⟩ = some _ := (blk_cell F1 0).trans rfl
                have he0 := blk_frozen F0 0
                have he1 := blk_frozen F1 0
                refine leaves_cons (f := 29) (args := #[.pointer (some ⟨w.heap.size, 0, none⟩), .pointer (some ⟨w.heap.size + 1, 0, none⟩)]) (by simp) (by simp [go_sem]) ?_
                refine (keys_Decode.caught _ _ c _ _ _ (by omega) hd0 he0 hd1 he1).mono ?_
                rintro e u' w'' ⟨rfl, rfl, rfl⟩
                refine ⟨.tuple #[.slice none 0 0, .int .i64 c], by simp [results, Try.results13, go_sem, hd0, hd1], .slice none 0 0, rfl, Kd.R_nil _ _ _ _ _, Below.setCell (Below.setCell FB (Nat.le_refl _) _) (by show w.heap.size ≤ w.heap.size + 1; omega) _⟩
              exact AllReady.nil
            refine AllReady.cons rfl (fun K hK => ?_) ?_
            · go_simp
              refine (keys_reader_value.calls T l' _ w _ HI.out.drew.1 HLN.out).mono ?_
              rintro e w2 h2
              rw [HV.out] at h2
              obtain ⟨he, F0, F1, FB⟩ := HI.out.drew.fail h2
              obtain rfl := he
              have G0 := Aside0.mk F0
              have G1 := Aside0.mk F1
              have GB := Aside0.mk FB
              clear F0 F1 FB h2 hd0 he0
              go_wp2_with fail
              have F0 := G0.out
              have F1 := G1.out
              have FB := GB.out
              have hd0 : World.cell? _ ⟨w.heap.size, 0, none⟩ = some _ := (blk_cell F0 0).trans rfl
              have hd1 : World.cell? _ ⟨w.heap.size + 1, 0, none⟩ = some _ := (blk_cell F1 0).trans rfl
              have he0 := blk_frozen F0 0
              have he1 := blk_frozen F1 0
              refine leaves_cons (f := 29) (args := #[.pointer (some ⟨w.heap.size, 0, none⟩), .pointer (some ⟨w.heap.size + 1, 0, none⟩)]) (by simp) (by simp [go_sem]) ?_
              refine (keys_Decode.caught _ _ c _ _ _ (by omega) hd0 he0 hd1 he1).mono ?_
              rintro e u' w'' ⟨rfl, rfl, rfl⟩
              refine ⟨.tuple #[.slice none 0 0, .int .i64 c], by simp [results, Try.results13, go_sem, hd0, hd1], .slice none 0 0, rfl, Kd.R_nil _ _ _ _ _, Below.setCell (Below.setCell FB (Nat.le_refl _) _) (by show w.heap.size ≤ w.heap.size + 1; omega) _⟩
            exact AllReady.nil
          exact AllReady.nil
        | ok p =>
          obtain ⟨x, t'⟩ := p
          have HV := Aside0.mk hv
          have HT' := Aside0.mk (r_val_length T hv)
          clear hv
          have HQ' : Aside0 (r_loop d j (acc ++ [x]) t' = q) := ⟨by rw [← HQ.out]; rw [hturn] at HV; rw [HCL.out] at HV ⊢; rw [r_loop, HV.out]⟩
          clear hturn
          refine wp_region_noPanic ?_
          refine start_ (n := 6) (S := fun w' => w'.cell? ⟨w.heap.size, 0, none⟩ = some (.slice A2 acc.length c2)) (ds := [5]) #[false, false, false, false, false, false] (by kernel_rfl) rfl rfl (hd0) (fun hHeld => ?_)
          refine pure_ (i := 1) (N := some 28) (v := ?_) (a' := ?_) #[false, true, false, false, false, false] rfl rfl (by kernel_rfl) (fun _ _ _ h => h) (Or.inl ⟨by rfl, ?_⟩) ?_ ?_
          rotate_left
          · intro w'
            go_simp
            with_reducible rfl
          rotate_left
          · simp only [Act.put, List.setIfInBounds_toArray, List.set_cons_zero, List.set_cons_succ, i64_w, i32_w]
            rfl
          refine take_ (i := 0) (N := some 27) (v := ?_) (a' := ?_) #[true, true, false, false, false, false] rfl rfl (by kernel_rfl) (fun _ _ _ h => h) (Or.inl ⟨by rfl, ?_⟩) hHeld ?_ ?_
          rotate_left
          · intro w' s0
            go_simp
            with_reducible rfl
          rotate_left
          · simp only [Act.put, List.setIfInBounds_toArray, List.set_cons_zero, List.set_cons_succ, i64_w, i32_w]
            rfl
          refine one_ (i := 2) (N := some 29) #[true, true, true, false, false, false] rfl rfl (by kernel_rfl) (by decide) (fun K hK => ?_)
          refine goes_ Try.func30 (by kernel_rfl) rfl #[.pointer (some ⟨w.heap.size + 1 + 1, 0, none⟩)] (by rfl) rfl rfl (by simp only [List.map_toArray, List.map_cons, List.map_nil]; rfl) ?_
          with_reducible refine (keys_reader_value.calls T l' _ w _ HI.out.drew.rd HLN.out).mono ?_
          rintro e w2 h2
          rw [HV.out] at h2
          obtain ⟨he, hi⟩ := HI.out.drew.call h2
          refine ⟨.agg #[.int .i64 x.f0, .int .i64 x.f1, .string x.f2], he, ?_⟩
          have n0 := Aside0.mk hi
          clear hi HI h2 he
          have HI := n0
          clear n0
          refine hK.out _ _ (((blk_cell HI.out.2.1 0).trans rfl)) (fun hHeld => ?_)
          clear hK K
          refine norm_ (a' := ?_) ?_ ?_
          rotate_left
          · show Act.put _ (some 29) _ = _
            simp only [Act.put, List.setIfInBounds_toArray, List.set_cons_zero, List.set_cons_succ, i64_w, i32_w]
            rfl
          refine one_ (i := 3) (N := some 30) #[true, true, true, true, false, false] rfl rfl (by kernel_rfl) (by decide) (fun K hK => ?_)
          refine value_ (w1 := ?_) (v := ?_) (by rfl) rfl ?_ ?_
          rotate_left 2
          · go_simp
            constructor
            · rfl
            · rfl
          refine hK.out _ _ (((blk_cell (blk_alloc HI.out.2.1 _) 0).trans rfl)) (fun hHeld => ?_)
          clear hK K
          refine norm_ (a' := ?_) ?_ ?_
          rotate_left
          · show Act.put _ (some 30) _ = _
            simp only [Act.put, List.setIfInBounds_toArray, List.set_cons_zero, List.set_cons_succ, i64_w, i32_w]
            rfl
          refine one_ (i := 4) (N := some 31) #[true, true, true, true, true, false] rfl rfl (by kernel_rfl) (by decide) (fun K hK => ?_)
          refine Kd.R_append_step k43 (w0 := w) w.heap.size (by rfl) (.tmp 27) (.tmp 30) 22 43 (.agg #[.int .i64 0, .int .i64 0, .string (⟨#[]⟩ : ByteArray)]) 32 rfl Try.underlying22 info43d rfl (by decide) (by omega) (.slice A2 acc.length c2) acc x [.int .i64 x.f0, .int .i64 x.f1, .string x.f2] (fun _ => True) (fun _ => False) rfl rfl ?aP (fun _ hk => hk.elim) ?aF ?aO ?aB ?aS ?aL ?_
          case aP => exact k43_mkM _ _ _ x
          case aF => exact fun _ _ => trivial
          case aO => exact HI.out.2.2.2
          case aB => exact HI.out.1.2.1
          case aS => exact below_size HI.out.1.2.1
          case aL => have := HA.out; omega
          intro v3 w5 ho hb hg hat
          obtain ⟨A3, c3, rfl⟩ : ∃ A3 c3, v3 = .slice A3 (acc ++ [x]).length c3 := Kd.R_slice ho
          have n0 := Aside0.mk (HI.out.grown ho hb hg)
          clear HI
          clear ho hb hg hat
          have HI := n0
          clear n0
          refine hK.out _ _ (((blk_cell HI.out.2.1 0).trans rfl)) (fun hHeld => ?_)
          clear hK K
          refine norm_ (a' := ?_) ?_ ?_
          rotate_left
          · show Act.put _ (some 31) _ = _
            simp only [Act.put, List.setIfInBounds_toArray, List.set_cons_zero, List.set_cons_succ, i64_w, i32_w]
            rfl
          refine last_ (i := 5) (N := none) #[true, true, true, true, true, true] rfl rfl (by kernel_rfl) (by decide) (fun K hK => ?_)
          have hd0 : World.cell? _ ⟨w.heap.size, 0, none⟩ = some _ := (blk_cell HI.out.2.1 0).trans rfl
          have he0 := blk_frozen HI.out.2.1 0
          refine skip_ (w1 := ?_) (by rfl) rfl ?_ ?_
          rotate_left
          · go_simp
            rfl
          refine hK.out _ _ ?_
          clear hK K
          refine done_ (by kernel_rfl) ?_
          refine NoPanic.normal ?_
          have HS := Aside0.mk HI.out.store
          clear HI hd0 he0
          go_wp2_with fail
          go_roundg (j + 1)
          case measure => have := HJ.out; omega
          case rel => exact ⟨T, j, t', _, acc ++ [x], ⟨by have := HJ.out; have := HT'.out; omega⟩, ⟨by have := HS.out; simpa using this⟩, ⟨by have := HA.out; have := HT'.out; simp; omega⟩, HQ'⟩

theorem keys_Decode.calls (A0 : Option Addr) (c0 : Nat) (l0 : List Int) (A1 : Option Addr) (c1 : Nat) (l1 : List Bool) (r1 : List S43) (r2 : Int) (w : World) (hr0 : Kd.C (Kd.int .u8) w A0 l0.length l0) (hc0 : l0.length ≤ c0) (hr1 : Kd.C Kd.bool w A1 l1.length l1) (hc1 : l1.length ≤ c1) (h : keys_Decode.f l0 l1 = some (r1, r2)) :
    Calls Try.prog 13 #[.slice A0 l0.length c0, .slice A1 l1.length c1] w fun e w' => ∃ v0_ : Value, e = .returned (.tuple #[v0_, .int .i64 r2]) ∧ Kd.R k43 43 w' w.heap.size (fun _ => True) v0_ r1 ∧ Below w.heap.size w w' := by
  rw [keys_Decode.f] at h
  by_cases hB : bytesB l0 = true ∧ l0.length < 4398046511104
  · rw [if_pos hB, Option.some.injEq] at h
    exact keys_Decode.main A0 c0 l0 A1 c1 l1 w hB.2 (bytesB_in hB.1) hr0 hc0 hr1 hc1 r1 r2 h
  · rw [if_neg hB] at h
    cases h
end Go.Proofs.Ytbpnmmakodaakaa.P

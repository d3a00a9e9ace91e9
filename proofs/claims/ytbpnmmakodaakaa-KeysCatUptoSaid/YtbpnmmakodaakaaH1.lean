/- Written in this session: keys' reader by hand: next, text, numbers, values. No condition. -/
import Derived.Test.YtbpnmmakodaakaaP0
import Derived.WalkLawsBesides
import Derived.Outline
import Derived.Laws.Bits64
import Derived.Laws.BitsAllLaws
namespace Go.Proofs.Ytbpnmmakodaakaa.P
open Go.RowKit Go.Proofs.YtbpnmmakodaakaaW.PrintWords Go.Proofs.YtbpnmmakodaakaaW.PrintLast Go.Proofs.YtbpnmmakodaakaaW.PrintMore
attribute [local go_sem] max2_int min2_int max_two min_two max_three min_three max_four min_four   -- for this text's walks alone
set_option linter.unusedVariables false
set_option linter.unusedSimpArgs false

/-! ### Readers over bytes: what they come to -/
def tx (T c : Int) : Int := Go.bits .xor .u8 c T
theorem tx_range (T c : Int) : 0 ≤ tx T c ∧ tx T c ≤ 255 := by
  show 0 ≤ IntKind.u8.wrap _ ∧ IntKind.u8.wrap _ ≤ 255
  rw [IntKind.wrap_u8]
  omega
def PErr (c : Int) : Ending := .panicked [{ v := .iface 25 (.int .i64 c), recovered := false }]
def BytesIn (l : List Int) : Prop := ∀ x ∈ l, 0 ≤ x ∧ x ≤ 255
/-- A reader at block g over the bytes l, which lie in the world w0; T turns bits. -/
def Rd (T : Int) (w0 w : World) (g : Nat) (l : List Int) : Prop :=
  w0.heap.size ≤ g ∧ Below w0.heap.size w0 w ∧ BytesIn l ∧ ∃ A c, w.heap[g]? = some (.cells #[.slice A l.length c, .int .u8 T] 53 (0, 0)) ∧ l.length ≤ c ∧ ReadsInt w0 .u8 A l.length l
def RPost {α : Type} (enc : α → Value) (T : Int) (r : Except Int (α × List Int)) (w0 w : World) (g : Nat) (e : Ending) (w' : World) : Prop :=
  KeepBut w w' g none ∧ Below w0.heap.size w0 w' ∧ match r with
    | .error c => e = PErr c ∧ ∃ l, Rd T w0 w' g l
    | .ok (x, t) => e = .returned (enc x) ∧ Rd T w0 w' g t

def r_one (T : Int) : List Int → Except Int (Int × List Int)
  | [] => .error 1
  | c :: t => .ok (tx T c, t)
def r_text (T : Int) : List Int → List Int → Except Int (ByteArray × List Int)
  | _, [] => .error 1
  | _, [_] => .error 1
  | acc, c :: d :: u => if tx T c = 0 then (if tx T d = 1 then .ok (strOfNums acc, u) else if tx T d = 255 then r_text T (acc ++ [0]) u else .error 3) else r_text T (acc ++ [tx T c]) (d :: u)
def r_num (T : Int) (n : Int) (l : List Int) : Int := l.foldl (fun n c => n * 256 + tx T c) n
def V0 : ByteArray := ⟨#[]⟩
def r_val (T : Int) : List Int → Except Int (S43 × List Int)
  | [] => .error 1
  | k :: l =>
    if tx T k = 1 then .ok (⟨0, 0, V0⟩, l)
    else if tx T k = 2 then (match l with | [] => .error 1 | c :: t => if 1 < tx T c then .error 3 else .ok (⟨1, tx T c, V0⟩, t))
    else if tx T k = 3 then (if l.length < 8 then .error 1 else .ok (⟨2, r_num T 0 (l.take 8) - 9223372036854775808, V0⟩, l.drop 8))
    else if tx T k = 4 ∨ tx T k = 5 then (match r_text T [] l with | .error e => .error e | .ok (s, t) => .ok (⟨tx T k - 1, 0, s⟩, t))
    else .error 5
def encV (v : S43) : Value := .agg #[.int .i64 v.f0, .int .i64 v.f1, .string v.f2]

theorem C_ints {k : IntKind} {w : World} {A : Option Addr} {n : Nat} {xs : List Int} (h : Kd.C (Kd.int k) w A n xs) : ReadsInt w k A n xs := Kd.reads_of_C (enc := Value.int k) (d := (0 : Int)) (h1 := fun _ => rfl) h

theorem Rd.alive {T : Int} {w0 w w' : World} {g : Nat} {l : List Int} (h : Rd T w0 w g l) (hb : Below w0.heap.size w0 w') (hg : w'.heap[g]? = w.heap[g]?) : Rd T w0 w' g l := by
  obtain ⟨h1, _, hB, A, c, h2, h3⟩ := h
  exact ⟨h1, hb, hB, A, c, hg.trans h2, h3⟩

theorem keys_reader_next.calls (T : Int) (l : List Int) (g : Nat) (w0 w : World) (h : Rd T w0 w g l) :
    Calls Try.prog 34 #[.pointer (some ⟨g, 0, none⟩)] w (RPost (Value.int .u8) T (r_one T l) w0 w g) := by
  have HRd := Aside0.mk h
  obtain ⟨hg, hB, hbi, A, c, hb, hc, hR⟩ := h
  have hfz := blk_frozen hb 0
  cases l with
  | nil =>
    have hcell : w.cell? ⟨g, 0, none⟩ = some (.slice A 0 c) := (blk_cell hb 0).trans rfl
    have HB := Aside0.mk hB
    have Hb := Aside0.mk hb
    clear hB hR hb hbi
    go_enter Try.func34, Try.ntmps34
    go_wp2
    exact ⟨rfl, KeepBut.refl _ _ _, HB.out, rfl, _, HRd.out⟩
  | cons x t =>
    obtain ⟨ad, rfl, hx⟩ := hR.2.2 (by simp)
    have hx0 : w0.cell? ad = some (.int .u8 x) := by
      have := hx 0 (by simp)
      simpa [Addr.add] using this
    have hxc : w.cell? ad = some (.int .u8 x) := pw_cell_below hB hx0
    have hcell : w.cell? ⟨g, 0, none⟩ = some (.slice (some ad) (t.length + 1) c) := (blk_cell hb 0).trans rfl
    have hcell1 : w.cell? ⟨g, 1, none⟩ = some (.int .u8 T) := (blk_cell hb 1).trans rfl
    obtain ⟨i5, hi5, h55⟩ := Option.map_eq_some_iff.1 info5
    simp only [Prod.mk.injEq] at h55
    obtain ⟨A', hcut, hcutR⟩ := print_cut (P := Try.prog) 24 5 .i64 Try.underlying24 hi5 h55.2.1 (some ad) (t.length + 1) c 1 (by omega)
    rw [Nat.add_sub_cancel] at hcut hcutR
    have hcut1 : ∀ W : World, (Instr.slice 24 (.slice (some ad) (t.length + 1) c) (some (.int .i64 1)) none none).run Try.prog W = .ok (.slice A' t.length (c - 1)) W := fun W => hcut W
    clear hcut
    have hR' : ReadsInt w0 .u8 A' t.length t := hcutR w0 .u8 (x :: t) hc hR
    have HB := Aside0.mk hB
    have Hb := Aside0.mk hb
    have HR := Aside0.mk hR'
    have HC := Aside0.mk hc
    have HI := Aside0.mk hbi
    clear hB hR hb hR' hcutR hx hx0 hi5 h55 hbi
    go_enter Try.func34, Try.ntmps34
    go_wp2
    go_quiet (fail)
    rename_i nq
    go_wp2
    go_ret
    refine ⟨KeepBut.set_ (keep_drewN (KeepBut.refl _ _ _) _) 0 _, Below.setCell (pw_below_drewN HB.out _) hg _, rfl, hg, Below.setCell (pw_below_drewN HB.out _) hg _, fun y hy => HI.out y (List.mem_cons_of_mem _ hy), A', c - 1, ?_, ?_, HR.out⟩
    · exact blk_set (blk_drewN Hb.out _) 0 _
    · have := HC.out
      simp at this
      omega
/-- What a walk through a reader's function keeps. -/
def Iv (T : Int) (w0 w W : World) (g : Nat) (l : List Int) : Prop := KeepBut w W g none ∧ Rd T w0 W g l
theorem Rd.alloc {T : Int} {w0 w : World} {g : Nat} {l : List Int} (h : Rd T w0 w g l) (o : Obj) : Rd T w0 (w.alloc o) g l := by
  obtain ⟨A, c, h2, h3⟩ := h.2.2.2
  exact h.alive (h.2.1.alloc h.2.1.size o) (blk_alloc h2 o |>.trans h2.symm)
theorem Rd.lt {T : Int} {w0 w : World} {g : Nat} {l : List Int} (h : Rd T w0 w g l) : g < w.heap.size := by obtain ⟨A, c, h2, _⟩ := h.2.2.2; exact blk_lt h2
theorem Iv.refl {T : Int} {w0 w : World} {g : Nat} {l : List Int} (h : Rd T w0 w g l) : Iv T w0 w w g l := ⟨KeepBut.refl w g none, h⟩
theorem Iv.set {T : Int} {w0 w W : World} {g b : Nat} {l : List Int} (hg : g < w.heap.size) (hb : w.heap.size ≤ b) (h : Iv T w0 w W g l) (j : Nat) (u : Value) : Iv T w0 w (W.setCell ⟨b, j, none⟩ u) g l :=
  ⟨keep_far h.1 hb u, h.2.alive (Below.setCell h.2.2.1 (by have := h.2.1; show w0.heap.size ≤ b; omega) _) (Below.heap_setCell W ⟨b, j, none⟩ u g (by show g ≠ b; omega))⟩
theorem Iv.alloc {T : Int} {w0 w W : World} {g : Nat} {l : List Int} (h : Iv T w0 w W g l) (o : Obj) : Iv T w0 w (W.alloc o) g l := ⟨keep_alloc h.1 o, h.2.alloc o⟩
theorem Iv.drewN {T : Int} {w0 w W : World} {g : Nat} {l : List Int} (h : Iv T w0 w W g l) (n : Nat) : Iv T w0 w (W.drewN n) g l := ⟨keep_drewN h.1 n, h.2.alive (pw_below_drewN h.2.2.1 n) rfl⟩
theorem Iv.drew {T : Int} {w0 w W : World} {g : Nat} {l : List Int} (h : Iv T w0 w W g l) : Iv T w0 w W.drew g l := ⟨keep_drew h.1, h.2.alive (below_drew h.2.2.1) rfl⟩
/-- What grew elsewhere. -/
theorem Iv.grown {T : Int} {w0 w W W1 : World} {g : Nat} {l : List Int} {row : Option Nat} (h : Iv T w0 w W g l) (hb : Below w0.heap.size w0 W1) (hg : W.grownBy W1 row) (hr : ∀ b, row = some b → w.heap.size ≤ b) (hgl : g < w.heap.size) : Iv T w0 w W1 g l := by
  refine ⟨KeepBut.trans h.1 (KeepBut.of_grown hg g) ?_, h.2.alive hb (hg.block g h.2.lt (fun e => ?_))⟩
  · cases row with
    | none => exact .inl rfl
    | some b => exact .inr ⟨b, rfl, hr b rfl⟩
  · have := hr g e.symm
    omega
theorem Iv.post {α : Type} {enc : α → Value} {T : Int} {w0 w W : World} {g : Nat} {l : List Int} {x : α} (h : Iv T w0 w W g l) : RPost enc T (.ok (x, l)) w0 w g (.returned (enc x)) W := ⟨h.1, h.2.2.1, rfl, h.2⟩
theorem Iv.then {α : Type} {enc : α → Value} {T : Int} {w0 w W W1 : World} {g : Nat} {l t : List Int} {x : α} {e : Ending} (h : Iv T w0 w W g l) (h1 : RPost enc T (.ok (x, t)) w0 W g e W1) : e = .returned (enc x) ∧ Iv T w0 w W1 g t := ⟨h1.2.2.1, KeepBut.trans h.1 h1.1 (.inl rfl), h1.2.2.2⟩
theorem Iv.fail {α β : Type} {enc : α → Value} {enc' : β → Value} {T : Int} {w0 w W W1 : World} {g : Nat} {l : List Int} {c : Int} {e : Ending} (h : Iv T w0 w W g l) (h1 : RPost enc T (.error c) w0 W g e W1) : e = .panicked [{ v := .iface 25 (.int .i64 c), recovered := false }] ∧ RPost enc' T (.error c : Except Int (β × List Int)) w0 w g (PErr c) W1 := ⟨h1.2.2.1, KeepBut.trans h.1 h1.1 (.inl rfl), h1.2.1, rfl, h1.2.2.2⟩
theorem Iv.err {β : Type} {enc' : β → Value} {T : Int} {w0 w W : World} {g : Nat} {l : List Int} (h : Iv T w0 w W g l) (c : Int) : RPost enc' T (.error c : Except Int (β × List Int)) w0 w g (.panicked [{ v := .iface 25 (.int .i64 c), recovered := false }]) W := ⟨h.1, h.2.2.1, rfl, _, h.2⟩
theorem v_new {W W1 : World} {g : Nat} {o : Obj} (hg : g < W.heap.size) (h : KeepBut (W.alloc o) W1 g none) : W.heap.size < W1.heap.size ∧ W1.heap[W.heap.size]? = some o := by
  refine ⟨?_, ?_⟩
  · have h1 := h.1
    have h2 : (W.alloc o).heap.size = W.heap.size + 1 := by show (W.heap.push _).size = _; rw [Array.size_push]
    omega
  · exact h.blk (by show (W.heap.push _)[W.heap.size]? = _; rw [Array.getElem?_push_size]) (by omega) (by simp)
theorem v_old {W W1 : World} {g b : Nat} {o o' : Obj} (hg : g ≠ b) (hb : W.heap[b]? = some o') (h : KeepBut (W.alloc o) W1 g none) : W1.heap[b]? = some o' := h.blk (blk_alloc hb o) (by omega) (by simp)

set_option maxHeartbeats 2000000 in
set_option maxRecDepth 100000 in
theorem keys_reader_text.calls (T : Int) (l : List Int) (g : Nat) (w0 w : World) (h : Rd T w0 w g l) (hl : l.length < 140737488355328) :
    Calls Try.prog 35 #[.pointer (some ⟨g, 0, none⟩)] w (RPost Value.string T (r_text T [] l) w0 w g) := by
  obtain ⟨r, hr⟩ : ∃ r, r_text T [] l = r := ⟨_, rfl⟩
  rw [hr]
  have HA := Aside0.mk hr
  have HG := Aside0.mk h.lt
  have HI := Aside0.mk (Iv.refl h)
  have HL0 := Aside0.mk hl
  have HO0 : Aside0 (Kd.R (Kd.int .u8) 5 w w0.heap.size (fun k => w.heap.size ≤ k) (.slice none 0 0) []) := ⟨Kd.R_nil _ _ _ _ _⟩
  clear hr h hl
  go_enter Try.func35, Try.ntmps35
  go_wp2
  go_loopg [3] (l.length + 1) (fun kq v3 w' => ∃ (acc l' : List Int), Aside0 (Kd.R (Kd.int .u8) 5 w' w0.heap.size (fun k => w.heap.size ≤ k) v3 acc) ∧ Aside0 (r_text T acc l' = r) ∧ Aside0 (acc.length + l'.length < 140737488355328 ∧ l'.length < kq) ∧ Aside0 (Iv T w0 w w' g l'))
  case atStart => exact ⟨[], l, HO0, HA, ⟨by have := HL0.out; simp; omega⟩, HI⟩
  case round =>
    clear HA HI HO0
    obtain ⟨acc, l', HO, HA, HL, HI⟩ := hrel
    match l', HA, HL, HI with
    | [], HA, HL, HI =>
      obtain rfl : r = .error 1 := HA.out.symm
      go_wp2_with fail
      refine (keys_reader_next.calls T ([]) g w0 _ HI.out.2).mono ?_
      rintro e w1 h1
      obtain ⟨he, hi⟩ := HI.out.fail (enc' := Value.string) h1
      obtain rfl := he
      have HP := Aside0.mk hi
      clear hi h1
      go_wp2
      exact ⟨rfl, HP.out⟩
    | [c], HA, HL, HI =>
      obtain rfl : r = .error 1 := HA.out.symm
      obtain ⟨v, htx⟩ : ∃ v, tx T c = v := ⟨_, rfl⟩
      have HX := Aside0.mk htx
      have hx0 := tx_range T c
      rw [htx] at hx0
      obtain ⟨hx1, hx2⟩ := hx0
      clear htx
      by_cases hv : v = 0
      · subst hv
        go_wp2_with fail
        refine (keys_reader_next.calls T ([c]) g w0 _ HI.out.2).mono ?_
        rintro e w1 h1
        have HO' := Aside0.mk (Kd.R_keep HO.out h1.1 (fun k hk => by have := HG.out; omega))
        clear HO
        have HO := HO'
        clear HO'
        obtain ⟨he, hi⟩ := HI.out.then h1
        obtain rfl : e = .returned (.int .u8 (tx T c)) := he
        clear h1 HI
        have HI := Aside0.mk hi
        clear hi
        rw [HX.out]
        go_wp2_with fail
        refine (keys_reader_next.calls T ([]) g w0 _ HI.out.2).mono ?_
        rintro e w1 h1
        obtain ⟨he, hi⟩ := HI.out.fail (enc' := Value.string) h1
        obtain rfl := he
        have HP := Aside0.mk hi
        clear hi h1
        go_wp2
        exact ⟨rfl, HP.out⟩
      · have b0 : (v == 0) = false := beq_eq_false_iff_ne.mpr hv
        have HA' : Aside0 (r_text T (acc ++ [v]) [] = .error 1) := ⟨rfl⟩
        clear hv
        go_wp2_with fail
        refine (keys_reader_next.calls T ([c]) g w0 _ HI.out.2).mono ?_
        rintro e w1 h1
        have HO' := Aside0.mk (Kd.R_keep HO.out h1.1 (fun k hk => by have := HG.out; omega))
        clear HO
        have HO := HO'
        clear HO'
        obtain ⟨he, hi⟩ := HI.out.then h1
        obtain rfl : e = .returned (.int .u8 (tx T c)) := he
        clear h1 HI
        have HI := Aside0.mk hi
        clear hi
        rw [HX.out]
        go_wp2_with (first | ((with_reducible refine gate_builtin (b := .append) (xs := #[.tmp 18, .tmp 20]) rfl ?_); at_builtin; refine Kd.R_append (Kd.int .u8) (w0 := w0) w0.heap.size rfl (.tmp 18) (.tmp 20) 24 5 (.int .u8 0) 1 rfl Try.underlying24 info5 rfl (by decide) (by omega) u3 acc (v) [.int .u8 (v)] (fun k => w.heap.size ≤ k) (fun _ => False) rfl rfl ?aP (fun _ hk => hk.elim) ?aF ?aO ?aB ?aS ?aL ?_; (case aP => exact rfl); (case aB => exact HI.out.2.2.1); (case aF => exact (fun k hk => Nat.le_trans HI.out.1.1 hk)); (case aO => exact HO.out); (case aS => exact HI.out.2.2.1.size); (case aL => have := HL.out; simp at this; omega); intro v146 w5 ho hb hg hat; have n0_ := Aside0.mk (HI.out.grown hb hg (fun b e => HO.out.1 b e) HG.out); have n1_ := Aside0.mk (ho); clear HI; clear HO; have HI := n0_; have HO := n1_; clear n0_ n1_; clear ho hb hg hat))
        obtain ⟨k1, rfl⟩ : ∃ k1, gk = k1 + 1 := ⟨gk - 1, by have := HL.out; simp at this; omega⟩
        go_roundg k1
        case measure => omega
        case rel => exact ⟨acc ++ [v], [], HO, HA', ⟨by have := HL.out; simp at this ⊢; omega⟩, HI⟩
    | c :: d :: u, HA, HL, HI =>
      obtain ⟨v, htx⟩ : ∃ v, tx T c = v := ⟨_, rfl⟩
      have HX := Aside0.mk htx
      have hx0 := tx_range T c
      rw [htx] at hx0
      obtain ⟨hx1, hx2⟩ := hx0
      clear htx
      have HR := HA.out
      rw [r_text, HX.out] at HR
      by_cases hv : v = 0
      · rw [if_pos hv] at HR
        subst hv
        obtain ⟨v2, htx2⟩ : ∃ v, tx T d = v := ⟨_, rfl⟩
        have HX2 := Aside0.mk htx2
        have hy0 := tx_range T d
        rw [htx2] at hy0 HR
        obtain ⟨hy1, hy2⟩ := hy0
        clear htx2
        by_cases h1 : v2 = 1
        · rw [if_pos h1] at HR
          obtain rfl : r = .ok (strOfNums acc, u) := HR.symm
          subst h1
          clear HA
          go_wp2_with fail
          refine (keys_reader_next.calls T (c :: d :: u) g w0 _ HI.out.2).mono ?_
          rintro e w1 h1
          have HO' := Aside0.mk (Kd.R_keep HO.out h1.1 (fun k hk => by have := HG.out; omega))
          clear HO
          have HO := HO'
          clear HO'
          obtain ⟨he, hi⟩ := HI.out.then h1
          obtain rfl : e = .returned (.int .u8 (tx T c)) := he
          clear h1 HI
          have HI := Aside0.mk hi
          clear hi
          rw [HX.out]
          go_wp2_with fail
          refine (keys_reader_next.calls T (d :: u) g w0 _ HI.out.2).mono ?_
          rintro e w1 h1
          have HO' := Aside0.mk (Kd.R_keep HO.out h1.1 (fun k hk => by have := HG.out; omega))
          clear HO
          have HO := HO'
          clear HO'
          obtain ⟨he, hi⟩ := HI.out.then h1
          obtain rfl : e = .returned (.int .u8 (tx T d)) := he
          clear h1 HI
          have HI := Aside0.mk hi
          clear hi
          rw [HX2.out]
          obtain ⟨Ao, co, eo⟩ := Kd.R_slice HO.out
          subst eo
          have hcv : (convert 24 9 (.slice Ao acc.length co)).run Try.prog w1 = .ok (.string (strOfNums acc)) w1 := Kd.C_string Try.underlying24 Try.underlying5 Try.underlying9 (Kd.R_reads' HO.out).2.2
          go_wp2
          go_ret
          exact HI.out.post
        · rw [if_neg h1] at HR
          have b1 : (v2 == 1) = false := beq_eq_false_iff_ne.mpr h1
          by_cases h255 : v2 = 255
          · rw [if_pos h255] at HR
            have HA' := Aside0.mk HR
            subst h255
            clear HA HR h1
            go_wp2_with fail
            refine (keys_reader_next.calls T (c :: d :: u) g w0 _ HI.out.2).mono ?_
            rintro e w1 h1
            have HO' := Aside0.mk (Kd.R_keep HO.out h1.1 (fun k hk => by have := HG.out; omega))
            clear HO
            have HO := HO'
            clear HO'
            obtain ⟨he, hi⟩ := HI.out.then h1
            obtain rfl : e = .returned (.int .u8 (tx T c)) := he
            clear h1 HI
            have HI := Aside0.mk hi
            clear hi
            rw [HX.out]
            go_wp2_with fail
            refine (keys_reader_next.calls T (d :: u) g w0 _ HI.out.2).mono ?_
            rintro e w1 h1
            have HO' := Aside0.mk (Kd.R_keep HO.out h1.1 (fun k hk => by have := HG.out; omega))
            clear HO
            have HO := HO'
            clear HO'
            obtain ⟨he, hi⟩ := HI.out.then h1
            obtain rfl : e = .returned (.int .u8 (tx T d)) := he
            clear h1 HI
            have HI := Aside0.mk hi
            clear hi
            rw [HX2.out]
            go_wp2_with (first | ((with_reducible refine gate_builtin (b := .append) (xs := #[.tmp 18, .tmp 20]) rfl ?_); at_builtin; refine Kd.R_append (Kd.int .u8) (w0 := w0) w0.heap.size rfl (.tmp 18) (.tmp 20) 24 5 (.int .u8 0) 1 rfl Try.underlying24 info5 rfl (by decide) (by omega) u3 acc (0) [.int .u8 (0)] (fun k => w.heap.size ≤ k) (fun _ => False) rfl rfl ?aP (fun _ hk => hk.elim) ?aF ?aO ?aB ?aS ?aL ?_; (case aP => exact rfl); (case aB => exact HI.out.2.2.1); (case aF => exact (fun k hk => Nat.le_trans HI.out.1.1 hk)); (case aO => exact HO.out); (case aS => exact HI.out.2.2.1.size); (case aL => have := HL.out; simp at this; omega); intro v146 w5 ho hb hg hat; have n0_ := Aside0.mk (HI.out.grown hb hg (fun b e => HO.out.1 b e) HG.out); have n1_ := Aside0.mk (ho); clear HI; clear HO; have HI := n0_; have HO := n1_; clear n0_ n1_; clear ho hb hg hat))
            obtain ⟨k1, rfl⟩ : ∃ k1, gk = k1 + 1 := ⟨gk - 1, by have := HL.out; simp at this; omega⟩
            go_roundg k1
            case measure => omega
            case rel => exact ⟨acc ++ [0], u, HO, HA', ⟨by have := HL.out; simp at this ⊢; omega⟩, HI⟩
          · rw [if_neg h255] at HR
            obtain rfl : r = .error 3 := HR.symm
            have b2 : (v2 == 255) = false := beq_eq_false_iff_ne.mpr h255
            clear HA h1 h255
            go_wp2_with fail
            refine (keys_reader_next.calls T (c :: d :: u) g w0 _ HI.out.2).mono ?_
            rintro e w1 h1
            have HO' := Aside0.mk (Kd.R_keep HO.out h1.1 (fun k hk => by have := HG.out; omega))
            clear HO
            have HO := HO'
            clear HO'
            obtain ⟨he, hi⟩ := HI.out.then h1
            obtain rfl : e = .returned (.int .u8 (tx T c)) := he
            clear h1 HI
            have HI := Aside0.mk hi
            clear hi
            rw [HX.out]
            go_wp2_with fail
            refine (keys_reader_next.calls T (d :: u) g w0 _ HI.out.2).mono ?_
            rintro e w1 h1
            have HO' := Aside0.mk (Kd.R_keep HO.out h1.1 (fun k hk => by have := HG.out; omega))
            clear HO
            have HO := HO'
            clear HO'
            obtain ⟨he, hi⟩ := HI.out.then h1
            obtain rfl : e = .returned (.int .u8 (tx T d)) := he
            clear h1 HI
            have HI := Aside0.mk hi
            clear hi
            rw [HX2.out]
            go_wp2
            exact ⟨rfl, HI.out.err 3⟩
      · rw [if_neg hv] at HR
        have HA' := Aside0.mk HR
        have b0 : (v == 0) = false := beq_eq_false_iff_ne.mpr hv
        clear HA HR hv
        go_wp2_with fail
        refine (keys_reader_next.calls T (c :: d :: u) g w0 _ HI.out.2).mono ?_
        rintro e w1 h1
        have HO' := Aside0.mk (Kd.R_keep HO.out h1.1 (fun k hk => by have := HG.out; omega))
        clear HO
        have HO := HO'
        clear HO'
        obtain ⟨he, hi⟩ := HI.out.then h1
        obtain rfl : e = .returned (.int .u8 (tx T c)) := he
        clear h1 HI
        have HI := Aside0.mk hi
        clear hi
        rw [HX.out]
        go_wp2_with (first | ((with_reducible refine gate_builtin (b := .append) (xs := #[.tmp 18, .tmp 20]) rfl ?_); at_builtin; refine Kd.R_append (Kd.int .u8) (w0 := w0) w0.heap.size rfl (.tmp 18) (.tmp 20) 24 5 (.int .u8 0) 1 rfl Try.underlying24 info5 rfl (by decide) (by omega) u3 acc (v) [.int .u8 (v)] (fun k => w.heap.size ≤ k) (fun _ => False) rfl rfl ?aP (fun _ hk => hk.elim) ?aF ?aO ?aB ?aS ?aL ?_; (case aP => exact rfl); (case aB => exact HI.out.2.2.1); (case aF => exact (fun k hk => Nat.le_trans HI.out.1.1 hk)); (case aO => exact HO.out); (case aS => exact HI.out.2.2.1.size); (case aL => have := HL.out; simp at this; omega); intro v146 w5 ho hb hg hat; have n0_ := Aside0.mk (HI.out.grown hb hg (fun b e => HO.out.1 b e) HG.out); have n1_ := Aside0.mk (ho); clear HI; clear HO; have HI := n0_; have HO := n1_; clear n0_ n1_; clear ho hb hg hat))
        obtain ⟨k1, rfl⟩ : ∃ k1, gk = k1 + 1 := ⟨gk - 1, by have := HL.out; simp at this; omega⟩
        go_roundg k1
        case measure => omega
        case rel => exact ⟨acc ++ [v], d :: u, HO, HA', ⟨by have := HL.out; simp at this ⊢; omega⟩, HI⟩

set_option maxHeartbeats 2000000 in
set_option maxRecDepth 100000 in
theorem keys_reader_value.nil (T : Int) (g : Nat) (w0 w : World) (h : Rd T w0 w g []) :
    Calls Try.prog 30 #[.pointer (some ⟨g, 0, none⟩)] w (RPost encV T (.error 1) w0 w g) := by
  have hu43 := Try.underlying43
  have HG := Aside0.mk h.lt
  have HI := Aside0.mk (Iv.refl h)
  clear h
  go_enter Try.func30, Try.ntmps30
  go_wp2_with fail
  refine (keys_reader_next.calls T [] g w0 _ (HI.out.alloc _).2).mono ?_
  rintro e w1 h1
  obtain ⟨he, hi⟩ := (HI.out.alloc _).fail (enc' := encV) h1
  obtain rfl := he
  have HP := Aside0.mk hi
  clear hi h1
  go_wp2
  exact ⟨rfl, HP.out⟩

set_option maxHeartbeats 2000000 in
set_option maxRecDepth 100000 in
theorem keys_reader_value.zero (T : Int) (k : Int) (t : List Int) (g : Nat) (w0 w : World) (h : Rd T w0 w g (k :: t)) (e : tx T k = 1) :
    Calls Try.prog 30 #[.pointer (some ⟨g, 0, none⟩)] w (RPost encV T (.ok (⟨0, 0, V0⟩, t)) w0 w g) := by
  have hu43 := Try.underlying43
  have HG := Aside0.mk h.lt
  have HI := Aside0.mk (Iv.refl h)
  clear h
  have HE := Aside0.mk e
  clear e
  go_enter Try.func30, Try.ntmps30
  go_wp2_with fail
  refine (keys_reader_next.calls T (k :: _) g w0 _ (HI.out.alloc _).2).mono ?_
  rintro e w1 h1
  obtain ⟨hz, F2⟩ := v_new HG.out h1.1
  obtain ⟨he, hi⟩ := (HI.out.alloc _).then h1
  obtain rfl : e = .returned (.int .u8 (tx T k)) := he
  clear h1 HI
  have HI := Aside0.mk hi
  clear hi
  rw [HE.out]
  have hca0 : World.cell? _ ⟨w.heap.size, 0, none⟩ = some (.int .i64 0) := (blk_cell F2 0).trans rfl
  have hfa0 : World.frozen? _ ⟨w.heap.size, 0, none⟩ = false := blk_frozen F2 0
  have hca1 : World.cell? _ ⟨w.heap.size, 1, none⟩ = some (.int .i64 0) := (blk_cell F2 1).trans rfl
  have hfa1 : World.frozen? _ ⟨w.heap.size, 1, none⟩ = false := blk_frozen F2 1
  have hca2 : World.cell? _ ⟨w.heap.size, 2, none⟩ = some (.string (⟨#[]⟩ : ByteArray)) := (blk_cell F2 2).trans rfl
  have hfa2 : World.frozen? _ ⟨w.heap.size, 2, none⟩ = false := blk_frozen F2 2
  have HF := Aside0.mk F2
  clear F2
  go_wp2
  exact bodyPost_ret (v := .agg #[.int .i64 0, .int .i64 0, .string V0]) (by simp [results, Try.results30, go_sem, V0, hz, hca0, hca1, hca2]) rfl ((((HI.out.set HG.out (Nat.le_refl _) 0 _).set HG.out (Nat.le_refl _) 1 _).set HG.out (Nat.le_refl _) 2 _).alloc _).post

set_option maxHeartbeats 2000000 in
set_option maxRecDepth 100000 in
theorem keys_reader_value.other (T : Int) (k : Int) (t : List Int) (g : Nat) (w0 w : World) (h : Rd T w0 w g (k :: t)) (v : Int) (e : tx T k = v) (hv : v ≠ 1 ∧ v ≠ 2 ∧ v ≠ 3 ∧ v ≠ 4 ∧ v ≠ 5) :
    Calls Try.prog 30 #[.pointer (some ⟨g, 0, none⟩)] w (RPost encV T (.error 5) w0 w g) := by
  have hu43 := Try.underlying43
  have HG := Aside0.mk h.lt
  have HI := Aside0.mk (Iv.refl h)
  clear h
  have hr := tx_range T k
  rw [e] at hr
  obtain ⟨hr0, hr1⟩ := hr
  have b0 : (v - 1 == 0) = false := beq_eq_false_iff_ne.mpr (by omega)
  have b1 : (v - 1 == 1) = false := beq_eq_false_iff_ne.mpr (by omega)
  have b2 : (v - 1 == 2) = false := beq_eq_false_iff_ne.mpr (by omega)
  have b3 : (v - 1 == 3) = false := beq_eq_false_iff_ne.mpr (by omega)
  have b4 : (v - 1 == 4) = false := beq_eq_false_iff_ne.mpr (by omega)
  clear hv
  have HE := Aside0.mk e
  clear e
  go_enter Try.func30, Try.ntmps30
  go_wp2_with fail
  refine (keys_reader_next.calls T (k :: _) g w0 _ (HI.out.alloc _).2).mono ?_
  rintro e w1 h1
  obtain ⟨hz, F2⟩ := v_new HG.out h1.1
  obtain ⟨he, hi⟩ := (HI.out.alloc _).then h1
  obtain rfl : e = .returned (.int .u8 (tx T k)) := he
  clear h1 HI
  have HI := Aside0.mk hi
  clear hi
  rw [HE.out]
  have hca0 : World.cell? _ ⟨w.heap.size, 0, none⟩ = some (.int .i64 0) := (blk_cell F2 0).trans rfl
  have hfa0 : World.frozen? _ ⟨w.heap.size, 0, none⟩ = false := blk_frozen F2 0
  have hca1 : World.cell? _ ⟨w.heap.size, 1, none⟩ = some (.int .i64 0) := (blk_cell F2 1).trans rfl
  have hfa1 : World.frozen? _ ⟨w.heap.size, 1, none⟩ = false := blk_frozen F2 1
  have hca2 : World.cell? _ ⟨w.heap.size, 2, none⟩ = some (.string (⟨#[]⟩ : ByteArray)) := (blk_cell F2 2).trans rfl
  have hfa2 : World.frozen? _ ⟨w.heap.size, 2, none⟩ = false := blk_frozen F2 2
  have HF := Aside0.mk F2
  clear F2
  go_wp2
  exact ⟨rfl, (HI.out.alloc _).err 5⟩

set_option maxHeartbeats 2000000 in
set_option maxRecDepth 100000 in
theorem keys_reader_value.bool_none (T : Int) (k : Int) (t : List Int) (g : Nat) (w0 w : World) (h : Rd T w0 w g (k :: t)) (e : tx T k = 2) (et : t = []) :
    Calls Try.prog 30 #[.pointer (some ⟨g, 0, none⟩)] w (RPost encV T (.error 1) w0 w g) := by
  have hu43 := Try.underlying43
  have HG := Aside0.mk h.lt
  have HI := Aside0.mk (Iv.refl h)
  clear h
  have HE := Aside0.mk e
  clear e
  subst et
  go_enter Try.func30, Try.ntmps30
  go_wp2_with fail
  refine (keys_reader_next.calls T (k :: _) g w0 _ (HI.out.alloc _).2).mono ?_
  rintro e w1 h1
  obtain ⟨hz, F2⟩ := v_new HG.out h1.1
  obtain ⟨he, hi⟩ := (HI.out.alloc _).then h1
  obtain rfl : e = .returned (.int .u8 (tx T k)) := he
  clear h1 HI
  have HI := Aside0.mk hi
  clear hi
  rw [HE.out]
  have hca0 : World.cell? _ ⟨w.heap.size, 0, none⟩ = some (.int .i64 0) := (blk_cell F2 0).trans rfl
  have hfa0 : World.frozen? _ ⟨w.heap.size, 0, none⟩ = false := blk_frozen F2 0
  have hca1 : World.cell? _ ⟨w.heap.size, 1, none⟩ = some (.int .i64 0) := (blk_cell F2 1).trans rfl
  have hfa1 : World.frozen? _ ⟨w.heap.size, 1, none⟩ = false := blk_frozen F2 1
  have hca2 : World.cell? _ ⟨w.heap.size, 2, none⟩ = some (.string (⟨#[]⟩ : ByteArray)) := (blk_cell F2 2).trans rfl
  have hfa2 : World.frozen? _ ⟨w.heap.size, 2, none⟩ = false := blk_frozen F2 2
  have HF := Aside0.mk F2
  clear F2
  go_wp2_with fail
  refine (keys_reader_next.calls T [] g w0 _ (HI.out.alloc _).2).mono ?_
  rintro e w2 h2
  obtain ⟨he, hi⟩ := (HI.out.alloc _).fail (enc' := encV) h2
  obtain rfl := he
  have HP := Aside0.mk hi
  clear hi h2
  go_wp2
  exact ⟨rfl, HP.out⟩

set_option maxHeartbeats 2000000 in
set_option maxRecDepth 100000 in
theorem keys_reader_value.bool_bad (T : Int) (k : Int) (t : List Int) (g : Nat) (w0 w : World) (h : Rd T w0 w g (k :: t)) (e : tx T k = 2) (c v : Int) (t2 : List Int) (et : t = c :: t2) (ev : tx T c = v) (e2 : 1 < v) :
    Calls Try.prog 30 #[.pointer (some ⟨g, 0, none⟩)] w (RPost encV T (.error 3) w0 w g) := by
  have hu43 := Try.underlying43
  have HG := Aside0.mk h.lt
  have HI := Aside0.mk (Iv.refl h)
  clear h
  have HE := Aside0.mk e
  clear e
  subst et
  have HV := Aside0.mk ev
  clear ev
  have hr := tx_range T c
  rw [HV.out] at hr
  obtain ⟨hr0, hr1⟩ := hr
  go_enter Try.func30, Try.ntmps30
  go_wp2_with fail
  refine (keys_reader_next.calls T (k :: _) g w0 _ (HI.out.alloc _).2).mono ?_
  rintro e w1 h1
  obtain ⟨hz, F2⟩ := v_new HG.out h1.1
  obtain ⟨he, hi⟩ := (HI.out.alloc _).then h1
  obtain rfl : e = .returned (.int .u8 (tx T k)) := he
  clear h1 HI
  have HI := Aside0.mk hi
  clear hi
  rw [HE.out]
  have hca0 : World.cell? _ ⟨w.heap.size, 0, none⟩ = some (.int .i64 0) := (blk_cell F2 0).trans rfl
  have hfa0 : World.frozen? _ ⟨w.heap.size, 0, none⟩ = false := blk_frozen F2 0
  have hca1 : World.cell? _ ⟨w.heap.size, 1, none⟩ = some (.int .i64 0) := (blk_cell F2 1).trans rfl
  have hfa1 : World.frozen? _ ⟨w.heap.size, 1, none⟩ = false := blk_frozen F2 1
  have hca2 : World.cell? _ ⟨w.heap.size, 2, none⟩ = some (.string (⟨#[]⟩ : ByteArray)) := (blk_cell F2 2).trans rfl
  have hfa2 : World.frozen? _ ⟨w.heap.size, 2, none⟩ = false := blk_frozen F2 2
  have HF := Aside0.mk F2
  clear F2
  go_wp2_with fail
  refine (keys_reader_next.calls T (c :: t2) g w0 _ (HI.out.alloc _).2).mono ?_
  rintro e w2 h2
  clear hca0 hfa0
  clear hca1 hfa1
  clear hca2 hfa2
  obtain ⟨hz2, F3⟩ := v_new HI.out.2.lt h2.1
  have F2 := v_old (by have := HG.out; omega) HF.out h2.1
  have hz3 : w.heap.size < w2.heap.size := by omega
  obtain ⟨he, hi⟩ := (HI.out.alloc _).then h2
  obtain rfl : e = .returned (.int .u8 (tx T c)) := he
  clear h2 HI HF
  have HI := Aside0.mk hi
  clear hi
  have hca0 : World.cell? w2 ⟨w.heap.size, 0, none⟩ = some (.int .i64 0) := (blk_cell F2 0).trans rfl
  have hfa0 : World.frozen? w2 ⟨w.heap.size, 0, none⟩ = false := blk_frozen F2 0
  have hca1 : World.cell? w2 ⟨w.heap.size, 1, none⟩ = some (.int .i64 0) := (blk_cell F2 1).trans rfl
  have hfa1 : World.frozen? w2 ⟨w.heap.size, 1, none⟩ = false := blk_frozen F2 1
  have hca2 : World.cell? w2 ⟨w.heap.size, 2, none⟩ = some (.string (⟨#[]⟩ : ByteArray)) := (blk_cell F2 2).trans rfl
  have hfa2 : World.frozen? w2 ⟨w.heap.size, 2, none⟩ = false := blk_frozen F2 2
  have hcb0 : World.cell? w2 ⟨w1.heap.size, 0, none⟩ = some (.int .i64 1) := (blk_cell F3 0).trans rfl
  have hfb0 : World.frozen? w2 ⟨w1.heap.size, 0, none⟩ = false := blk_frozen F3 0
  have hcb1 : World.cell? w2 ⟨w1.heap.size, 1, none⟩ = some (.int .i64 0) := (blk_cell F3 1).trans rfl
  have hfb1 : World.frozen? w2 ⟨w1.heap.size, 1, none⟩ = false := blk_frozen F3 1
  have hcb2 : World.cell? w2 ⟨w1.heap.size, 2, none⟩ = some (.string (⟨#[]⟩ : ByteArray)) := (blk_cell F3 2).trans rfl
  have hfb2 : World.frozen? w2 ⟨w1.heap.size, 2, none⟩ = false := blk_frozen F3 2
  have GB := Aside0.mk (show w.heap.size ≤ w1.heap.size by omega)
  have hne : ¬ w.heap.size = w1.heap.size := by omega
  have hne' : ¬ w1.heap.size = w.heap.size := by omega
  clear F2 F3
  rw [HV.out]
  go_wp2
  exact ⟨rfl, HI.out.err 3⟩

set_option maxHeartbeats 2000000 in
set_option maxRecDepth 100000 in
theorem keys_reader_value.bool (T : Int) (k : Int) (t : List Int) (g : Nat) (w0 w : World) (h : Rd T w0 w g (k :: t)) (e : tx T k = 2) (c v : Int) (t2 : List Int) (et : t = c :: t2) (ev : tx T c = v) (e2 : ¬ 1 < v) :
    Calls Try.prog 30 #[.pointer (some ⟨g, 0, none⟩)] w (RPost encV T (.ok (⟨1, v, V0⟩, t2)) w0 w g) := by
  have hu43 := Try.underlying43
  have HG := Aside0.mk h.lt
  have HI := Aside0.mk (Iv.refl h)
  clear h
  have HE := Aside0.mk e
  clear e
  subst et
  have HV := Aside0.mk ev
  clear ev
  have hr := tx_range T c
  rw [HV.out] at hr
  obtain ⟨hr0, hr1⟩ := hr
  go_enter Try.func30, Try.ntmps30
  go_wp2_with fail
  refine (keys_reader_next.calls T (k :: _) g w0 _ (HI.out.alloc _).2).mono ?_
  rintro e w1 h1
  obtain ⟨hz, F2⟩ := v_new HG.out h1.1
  obtain ⟨he, hi⟩ := (HI.out.alloc _).then h1
  obtain rfl : e = .returned (.int .u8 (tx T k)) := he
  clear h1 HI
  have HI := Aside0.mk hi
  clear hi
  rw [HE.out]
  have hca0 : World.cell? _ ⟨w.heap.size, 0, none⟩ = some (.int .i64 0) := (blk_cell F2 0).trans rfl
  have hfa0 : World.frozen? _ ⟨w.heap.size, 0, none⟩ = false := blk_frozen F2 0
  have hca1 : World.cell? _ ⟨w.heap.size, 1, none⟩ = some (.int .i64 0) := (blk_cell F2 1).trans rfl
  have hfa1 : World.frozen? _ ⟨w.heap.size, 1, none⟩ = false := blk_frozen F2 1
  have hca2 : World.cell? _ ⟨w.heap.size, 2, none⟩ = some (.string (⟨#[]⟩ : ByteArray)) := (blk_cell F2 2).trans rfl
  have hfa2 : World.frozen? _ ⟨w.heap.size, 2, none⟩ = false := blk_frozen F2 2
  have HF := Aside0.mk F2
  clear F2
  go_wp2_with fail
  refine (keys_reader_next.calls T (c :: t2) g w0 _ (HI.out.alloc _).2).mono ?_
  rintro e w2 h2
  clear hca0 hfa0
  clear hca1 hfa1
  clear hca2 hfa2
  obtain ⟨hz2, F3⟩ := v_new HI.out.2.lt h2.1
  have F2 := v_old (by have := HG.out; omega) HF.out h2.1
  have hz3 : w.heap.size < w2.heap.size := by omega
  obtain ⟨he, hi⟩ := (HI.out.alloc _).then h2
  obtain rfl : e = .returned (.int .u8 (tx T c)) := he
  clear h2 HI HF
  have HI := Aside0.mk hi
  clear hi
  have hca0 : World.cell? w2 ⟨w.heap.size, 0, none⟩ = some (.int .i64 0) := (blk_cell F2 0).trans rfl
  have hfa0 : World.frozen? w2 ⟨w.heap.size, 0, none⟩ = false := blk_frozen F2 0
  have hca1 : World.cell? w2 ⟨w.heap.size, 1, none⟩ = some (.int .i64 0) := (blk_cell F2 1).trans rfl
  have hfa1 : World.frozen? w2 ⟨w.heap.size, 1, none⟩ = false := blk_frozen F2 1
  have hca2 : World.cell? w2 ⟨w.heap.size, 2, none⟩ = some (.string (⟨#[]⟩ : ByteArray)) := (blk_cell F2 2).trans rfl
  have hfa2 : World.frozen? w2 ⟨w.heap.size, 2, none⟩ = false := blk_frozen F2 2
  have hcb0 : World.cell? w2 ⟨w1.heap.size, 0, none⟩ = some (.int .i64 1) := (blk_cell F3 0).trans rfl
  have hfb0 : World.frozen? w2 ⟨w1.heap.size, 0, none⟩ = false := blk_frozen F3 0
  have hcb1 : World.cell? w2 ⟨w1.heap.size, 1, none⟩ = some (.int .i64 0) := (blk_cell F3 1).trans rfl
  have hfb1 : World.frozen? w2 ⟨w1.heap.size, 1, none⟩ = false := blk_frozen F3 1
  have hcb2 : World.cell? w2 ⟨w1.heap.size, 2, none⟩ = some (.string (⟨#[]⟩ : ByteArray)) := (blk_cell F3 2).trans rfl
  have hfb2 : World.frozen? w2 ⟨w1.heap.size, 2, none⟩ = false := blk_frozen F3 2
  have GB := Aside0.mk (show w.heap.size ≤ w1.heap.size by omega)
  have hne : ¬ w.heap.size = w1.heap.size := by omega
  have hne' : ¬ w1.heap.size = w.heap.size := by omega
  clear F2 F3
  rw [HV.out]
  go_wp2
  exact bodyPost_ret (v := .agg #[.int .i64 1, .int .i64 v, .string V0]) (by simp [results, Try.results30, go_sem, V0, hz3, hz2, hne, hne', hca0, hca1, hca2, hcb0, hcb1, hcb2]) rfl (((((HI.out.set HG.out GB.out 1 _).set HG.out (Nat.le_refl _) 0 _).set HG.out (Nat.le_refl _) 1 _).set HG.out (Nat.le_refl _) 2 _)).post

set_option maxHeartbeats 2000000 in
set_option maxRecDepth 100000 in
theorem keys_reader_value.text3_none (T : Int) (k : Int) (t : List Int) (g : Nat) (w0 w : World) (h : Rd T w0 w g (k :: t)) (ht : t.length < 140737488355328) (e : tx T k = 4) (c : Int) (et : r_text T [] t = .error c) :
    Calls Try.prog 30 #[.pointer (some ⟨g, 0, none⟩)] w (RPost encV T (.error c) w0 w g) := by
  have hu43 := Try.underlying43
  have HG := Aside0.mk h.lt
  have HI := Aside0.mk (Iv.refl h)
  clear h
  have HE := Aside0.mk e
  clear e
  have ET := Aside0.mk et
  clear et
  have HT := Aside0.mk ht
  clear ht
  go_enter Try.func30, Try.ntmps30
  go_wp2_with fail
  refine (keys_reader_next.calls T (k :: _) g w0 _ (HI.out.alloc _).2).mono ?_
  rintro e w1 h1
  obtain ⟨hz, F2⟩ := v_new HG.out h1.1
  obtain ⟨he, hi⟩ := (HI.out.alloc _).then h1
  obtain rfl : e = .returned (.int .u8 (tx T k)) := he
  clear h1 HI
  have HI := Aside0.mk hi
  clear hi
  rw [HE.out]
  have hca0 : World.cell? _ ⟨w.heap.size, 0, none⟩ = some (.int .i64 0) := (blk_cell F2 0).trans rfl
  have hfa0 : World.frozen? _ ⟨w.heap.size, 0, none⟩ = false := blk_frozen F2 0
  have hca1 : World.cell? _ ⟨w.heap.size, 1, none⟩ = some (.int .i64 0) := (blk_cell F2 1).trans rfl
  have hfa1 : World.frozen? _ ⟨w.heap.size, 1, none⟩ = false := blk_frozen F2 1
  have hca2 : World.cell? _ ⟨w.heap.size, 2, none⟩ = some (.string (⟨#[]⟩ : ByteArray)) := (blk_cell F2 2).trans rfl
  have hfa2 : World.frozen? _ ⟨w.heap.size, 2, none⟩ = false := blk_frozen F2 2
  have HF := Aside0.mk F2
  clear F2
  go_wp2_with fail
  refine (keys_reader_text.calls T t g w0 _ (HI.out.alloc _).2 HT.out).mono ?_
  rintro e w2 h2
  rw [ET.out] at h2
  obtain ⟨he, hi⟩ := (HI.out.alloc _).fail (enc' := encV) h2
  obtain rfl := he
  have HP := Aside0.mk hi
  clear hi h2
  go_wp2
  exact ⟨rfl, HP.out⟩

set_option maxHeartbeats 2000000 in
set_option maxRecDepth 100000 in
theorem keys_reader_value.text3 (T : Int) (k : Int) (t : List Int) (g : Nat) (w0 w : World) (h : Rd T w0 w g (k :: t)) (ht : t.length < 140737488355328) (e : tx T k = 4) (s : ByteArray) (t2 : List Int) (et : r_text T [] t = .ok (s, t2)) :
    Calls Try.prog 30 #[.pointer (some ⟨g, 0, none⟩)] w (RPost encV T (.ok (⟨3, 0, s⟩, t2)) w0 w g) := by
  have hu43 := Try.underlying43
  have HG := Aside0.mk h.lt
  have HI := Aside0.mk (Iv.refl h)
  clear h
  have HE := Aside0.mk e
  clear e
  have ET := Aside0.mk et
  clear et
  have HT := Aside0.mk ht
  clear ht
  go_enter Try.func30, Try.ntmps30
  go_wp2_with fail
  refine (keys_reader_next.calls T (k :: _) g w0 _ (HI.out.alloc _).2).mono ?_
  rintro e w1 h1
  obtain ⟨hz, F2⟩ := v_new HG.out h1.1
  obtain ⟨he, hi⟩ := (HI.out.alloc _).then h1
  obtain rfl : e = .returned (.int .u8 (tx T k)) := he
  clear h1 HI
  have HI := Aside0.mk hi
  clear hi
  rw [HE.out]
  have hca0 : World.cell? _ ⟨w.heap.size, 0, none⟩ = some (.int .i64 0) := (blk_cell F2 0).trans rfl
  have hfa0 : World.frozen? _ ⟨w.heap.size, 0, none⟩ = false := blk_frozen F2 0
  have hca1 : World.cell? _ ⟨w.heap.size, 1, none⟩ = some (.int .i64 0) := (blk_cell F2 1).trans rfl
  have hfa1 : World.frozen? _ ⟨w.heap.size, 1, none⟩ = false := blk_frozen F2 1
  have hca2 : World.cell? _ ⟨w.heap.size, 2, none⟩ = some (.string (⟨#[]⟩ : ByteArray)) := (blk_cell F2 2).trans rfl
  have hfa2 : World.frozen? _ ⟨w.heap.size, 2, none⟩ = false := blk_frozen F2 2
  have HF := Aside0.mk F2
  clear F2
  go_wp2_with fail
  refine (keys_reader_text.calls T t g w0 _ (HI.out.alloc _).2 HT.out).mono ?_
  rintro e w2 h2
  rw [ET.out] at h2
  clear hca0 hfa0
  clear hca1 hfa1
  clear hca2 hfa2
  obtain ⟨hz2, F3⟩ := v_new HI.out.2.lt h2.1
  have F2 := v_old (by have := HG.out; omega) HF.out h2.1
  have hz3 : w.heap.size < w2.heap.size := by omega
  obtain ⟨he, hi⟩ := (HI.out.alloc _).then h2
  obtain rfl : e = .returned (.string s) := he
  clear h2 HI HF
  have HI := Aside0.mk hi
  clear hi
  have hca0 : World.cell? w2 ⟨w.heap.size, 0, none⟩ = some (.int .i64 0) := (blk_cell F2 0).trans rfl
  have hfa0 : World.frozen? w2 ⟨w.heap.size, 0, none⟩ = false := blk_frozen F2 0
  have hca1 : World.cell? w2 ⟨w.heap.size, 1, none⟩ = some (.int .i64 0) := (blk_cell F2 1).trans rfl
  have hfa1 : World.frozen? w2 ⟨w.heap.size, 1, none⟩ = false := blk_frozen F2 1
  have hca2 : World.cell? w2 ⟨w.heap.size, 2, none⟩ = some (.string (⟨#[]⟩ : ByteArray)) := (blk_cell F2 2).trans rfl
  have hfa2 : World.frozen? w2 ⟨w.heap.size, 2, none⟩ = false := blk_frozen F2 2
  have hcb0 : World.cell? w2 ⟨w1.heap.size, 0, none⟩ = some (.int .i64 3) := (blk_cell F3 0).trans rfl
  have hfb0 : World.frozen? w2 ⟨w1.heap.size, 0, none⟩ = false := blk_frozen F3 0
  have hcb1 : World.cell? w2 ⟨w1.heap.size, 1, none⟩ = some (.int .i64 0) := (blk_cell F3 1).trans rfl
  have hfb1 : World.frozen? w2 ⟨w1.heap.size, 1, none⟩ = false := blk_frozen F3 1
  have hcb2 : World.cell? w2 ⟨w1.heap.size, 2, none⟩ = some (.string (⟨#[]⟩ : ByteArray)) := (blk_cell F3 2).trans rfl
  have hfb2 : World.frozen? w2 ⟨w1.heap.size, 2, none⟩ = false := blk_frozen F3 2
  have GB := Aside0.mk (show w.heap.size ≤ w1.heap.size by omega)
  have hne : ¬ w.heap.size = w1.heap.size := by omega
  have hne' : ¬ w1.heap.size = w.heap.size := by omega
  clear F2 F3
  go_wp2
  exact bodyPost_ret (v := .agg #[.int .i64 3, .int .i64 0, .string s]) (by simp [results, Try.results30, go_sem, V0, hz3, hz2, hne, hne', hca0, hca1, hca2, hcb0, hcb1, hcb2]) rfl (((((HI.out.set HG.out GB.out 2 _).set HG.out (Nat.le_refl _) 0 _).set HG.out (Nat.le_refl _) 1 _).set HG.out (Nat.le_refl _) 2 _)).post

set_option maxHeartbeats 2000000 in
set_option maxRecDepth 100000 in
theorem keys_reader_value.text4_none (T : Int) (k : Int) (t : List Int) (g : Nat) (w0 w : World) (h : Rd T w0 w g (k :: t)) (ht : t.length < 140737488355328) (e : tx T k = 5) (c : Int) (et : r_text T [] t = .error c) :
    Calls Try.prog 30 #[.pointer (some ⟨g, 0, none⟩)] w (RPost encV T (.error c) w0 w g) := by
  have hu43 := Try.underlying43
  have HG := Aside0.mk h.lt
  have HI := Aside0.mk (Iv.refl h)
  clear h
  have HE := Aside0.mk e
  clear e
  have ET := Aside0.mk et
  clear et
  have HT := Aside0.mk ht
  clear ht
  go_enter Try.func30, Try.ntmps30
  go_wp2_with fail
  refine (keys_reader_next.calls T (k :: _) g w0 _ (HI.out.alloc _).2).mono ?_
  rintro e w1 h1
  obtain ⟨hz, F2⟩ := v_new HG.out h1.1
  obtain ⟨he, hi⟩ := (HI.out.alloc _).then h1
  obtain rfl : e = .returned (.int .u8 (tx T k)) := he
  clear h1 HI
  have HI := Aside0.mk hi
  clear hi
  rw [HE.out]
  have hca0 : World.cell? _ ⟨w.heap.size, 0, none⟩ = some (.int .i64 0) := (blk_cell F2 0).trans rfl
  have hfa0 : World.frozen? _ ⟨w.heap.size, 0, none⟩ = false := blk_frozen F2 0
  have hca1 : World.cell? _ ⟨w.heap.size, 1, none⟩ = some (.int .i64 0) := (blk_cell F2 1).trans rfl
  have hfa1 : World.frozen? _ ⟨w.heap.size, 1, none⟩ = false := blk_frozen F2 1
  have hca2 : World.cell? _ ⟨w.heap.size, 2, none⟩ = some (.string (⟨#[]⟩ : ByteArray)) := (blk_cell F2 2).trans rfl
  have hfa2 : World.frozen? _ ⟨w.heap.size, 2, none⟩ = false := blk_frozen F2 2
  have HF := Aside0.mk F2
  clear F2
  go_wp2_with fail
  refine (keys_reader_text.calls T t g w0 _ (HI.out.alloc _).2 HT.out).mono ?_
  rintro e w2 h2
  rw [ET.out] at h2
  obtain ⟨he, hi⟩ := (HI.out.alloc _).fail (enc' := encV) h2
  obtain rfl := he
  have HP := Aside0.mk hi
  clear hi h2
  go_wp2
  exact ⟨rfl, HP.out⟩

set_option maxHeartbeats 2000000 in
set_option maxRecDepth 100000 in
theorem keys_reader_value.text4 (T : Int) (k : Int) (t : List Int) (g : Nat) (w0 w : World) (h : Rd T w0 w g (k :: t)) (ht : t.length < 140737488355328) (e : tx T k = 5) (s : ByteArray) (t2 : List Int) (et : r_text T [] t = .ok (s, t2)) :
    Calls Try.prog 30 #[.pointer (some ⟨g, 0, none⟩)] w (RPost encV T (.ok (⟨4, 0, s⟩, t2)) w0 w g) := by
  have hu43 := Try.underlying43
  have HG := Aside0.mk h.lt
  have HI := Aside0.mk (Iv.refl h)
  clear h
  have HE := Aside0.mk e
  clear e
  have ET := Aside0.mk et
  clear et
  have HT := Aside0.mk ht
  clear ht
  go_enter Try.func30, Try.ntmps30
  go_wp2_with fail
  refine (keys_reader_next.calls T (k :: _) g w0 _ (HI.out.alloc _).2).mono ?_
  rintro e w1 h1
  obtain ⟨hz, F2⟩ := v_new HG.out h1.1
  obtain ⟨he, hi⟩ := (HI.out.alloc _).then h1
  obtain rfl : e = .returned (.int .u8 (tx T k)) := he
  clear h1 HI
  have HI := Aside0.mk hi
  clear hi
  rw [HE.out]
  have hca0 : World.cell? _ ⟨w.heap.size, 0, none⟩ = some (.int .i64 0) := (blk_cell F2 0).trans rfl
  have hfa0 : World.frozen? _ ⟨w.heap.size, 0, none⟩ = false := blk_frozen F2 0
  have hca1 : World.cell? _ ⟨w.heap.size, 1, none⟩ = some (.int .i64 0) := (blk_cell F2 1).trans rfl
  have hfa1 : World.frozen? _ ⟨w.heap.size, 1, none⟩ = false := blk_frozen F2 1
  have hca2 : World.cell? _ ⟨w.heap.size, 2, none⟩ = some (.string (⟨#[]⟩ : ByteArray)) := (blk_cell F2 2).trans rfl
  have hfa2 : World.frozen? _ ⟨w.heap.size, 2, none⟩ = false := blk_frozen F2 2
  have HF := Aside0.mk F2
  clear F2
  go_wp2_with fail
  refine (keys_reader_text.calls T t g w0 _ (HI.out.alloc _).2 HT.out).mono ?_
  rintro e w2 h2
  rw [ET.out] at h2
  clear hca0 hfa0
  clear hca1 hfa1
  clear hca2 hfa2
  obtain ⟨hz2, F3⟩ := v_new HI.out.2.lt h2.1
  have F2 := v_old (by have := HG.out; omega) HF.out h2.1
  have hz3 : w.heap.size < w2.heap.size := by omega
  obtain ⟨he, hi⟩ := (HI.out.alloc _).then h2
  obtain rfl : e = .returned (.string s) := he
  clear h2 HI HF
  have HI := Aside0.mk hi
  clear hi
  have hca0 : World.cell? w2 ⟨w.heap.size, 0, none⟩ = some (.int .i64 0) := (blk_cell F2 0).trans rfl
  have hfa0 : World.frozen? w2 ⟨w.heap.size, 0, none⟩ = false := blk_frozen F2 0
  have hca1 : World.cell? w2 ⟨w.heap.size, 1, none⟩ = some (.int .i64 0) := (blk_cell F2 1).trans rfl
  have hfa1 : World.frozen? w2 ⟨w.heap.size, 1, none⟩ = false := blk_frozen F2 1
  have hca2 : World.cell? w2 ⟨w.heap.size, 2, none⟩ = some (.string (⟨#[]⟩ : ByteArray)) := (blk_cell F2 2).trans rfl
  have hfa2 : World.frozen? w2 ⟨w.heap.size, 2, none⟩ = false := blk_frozen F2 2
  have hcb0 : World.cell? w2 ⟨w1.heap.size, 0, none⟩ = some (.int .i64 4) := (blk_cell F3 0).trans rfl
  have hfb0 : World.frozen? w2 ⟨w1.heap.size, 0, none⟩ = false := blk_frozen F3 0
  have hcb1 : World.cell? w2 ⟨w1.heap.size, 1, none⟩ = some (.int .i64 0) := (blk_cell F3 1).trans rfl
  have hfb1 : World.frozen? w2 ⟨w1.heap.size, 1, none⟩ = false := blk_frozen F3 1
  have hcb2 : World.cell? w2 ⟨w1.heap.size, 2, none⟩ = some (.string (⟨#[]⟩ : ByteArray)) := (blk_cell F3 2).trans rfl
  have hfb2 : World.frozen? w2 ⟨w1.heap.size, 2, none⟩ = false := blk_frozen F3 2
  have GB := Aside0.mk (show w.heap.size ≤ w1.heap.size by omega)
  have hne : ¬ w.heap.size = w1.heap.size := by omega
  have hne' : ¬ w1.heap.size = w.heap.size := by omega
  clear F2 F3
  go_wp2
  exact bodyPost_ret (v := .agg #[.int .i64 4, .int .i64 0, .string s]) (by simp [results, Try.results30, go_sem, V0, hz3, hz2, hne, hne', hca0, hca1, hca2, hcb0, hcb1, hcb2]) rfl (((((HI.out.set HG.out GB.out 2 _).set HG.out (Nat.le_refl _) 0 _).set HG.out (Nat.le_refl _) 1 _).set HG.out (Nat.le_refl _) 2 _)).post

theorem r_num_snoc (T n : Int) (l : List Int) (c : Int) : r_num T n (l ++ [c]) = r_num T n l * 256 + tx T c := by
  unfold r_num
  rw [List.foldl_append]
  rfl
theorem r_num_bound (T : Int) : ∀ (l : List Int) (n : Int) (i : Nat), 0 ≤ n → n < 256 ^ i → 0 ≤ r_num T n l ∧ r_num T n l < 256 ^ (i + l.length) := by
  intro l
  induction l with
  | nil => intro n i h0 h1; exact ⟨h0, h1⟩
  | cons c l ih =>
    intro n i h0 h1
    have hr := tx_range T c
    have := ih (n * 256 + tx T c) (i + 1) (by omega) (by rw [Int.pow_succ]; omega)
    rw [List.length_cons, show i + (l.length + 1) = i + 1 + l.length by omega]
    exact this
theorem or_byte (n v : Int) (h0 : 0 ≤ n) (h1 : n < 72057594037927936) (hv0 : 0 ≤ v) (hv1 : v ≤ 255) : Go.bits .or .u64 (n * 256) v = n * 256 + v := by
  obtain ⟨m, rfl⟩ := Int.eq_ofNat_of_zero_le h0
  obtain ⟨d, rfl⟩ := Int.eq_ofNat_of_zero_le hv0
  have e : ((m : Int) * 256) = ((m * 256 : Nat) : Int) := by omega
  rw [e, u64_or_nat (m * 256) d (by omega) (by omega)]
  have h2 := Nat.two_pow_add_eq_or_of_lt (i := 8) (show d < 2 ^ 8 by omega) m
  rw [show 2 ^ 8 * m = m * 256 by omega] at h2
  rw [← h2]
  omega
theorem xor_top (m : Nat) (h : m < 18446744073709551616) : m ^^^ 9223372036854775808 = (9223372036854775808 + m) % 18446744073709551616 := by
  have e : (9223372036854775808 : Nat) = 2 ^ 63 := by decide
  have e2 : (18446744073709551616 : Nat) = 2 ^ 64 := by decide
  rw [e2] at h ⊢
  rw [e]
  refine Nat.eq_of_testBit_eq fun j => ?_
  rw [Nat.testBit_xor, Nat.testBit_mod_two_pow, Nat.testBit_two_pow]
  rcases Nat.lt_trichotomy j 63 with hj | hj | hj
  · rw [Nat.testBit_two_pow_add_gt hj]
    have : decide (j < 64) = true := decide_eq_true (by omega)
    have h2 : decide (63 = j) = false := decide_eq_false (by omega)
    rw [this, h2]; simp
  · subst hj
    rw [Nat.testBit_two_pow_add_eq]
    simp
  · have h1 : decide (j < 64) = false := decide_eq_false (by omega)
    have h2 : decide (63 = j) = false := decide_eq_false (by omega)
    have h3 : m.testBit j = false := Nat.testBit_lt_two_pow (Nat.lt_of_lt_of_le h (Nat.pow_le_pow_right (by decide) (by omega)))
    rw [h1, h2, h3]; rfl
theorem xor_sign (n : Int) (h0 : 0 ≤ n) (h1 : n < 18446744073709551616) : wrap64 (Go.bits .xor .u64 n 9223372036854775808) = n - 9223372036854775808 := by
  obtain ⟨m, rfl⟩ := Int.eq_ofNat_of_zero_le h0
  have hm : m < 18446744073709551616 := by omega
  have hv : (BitVec.ofInt 64 ((m : Nat) : Int)) = BitVec.ofNat 64 m := BitVec.ofInt_natCast ..
  have hs : BitVec.ofInt 64 9223372036854775808 = BitVec.ofNat 64 9223372036854775808 := by decide
  show wrap64 (IntKind.u64.wrap ((BitVec.ofInt 64 ((m : Nat) : Int) ^^^ BitVec.ofInt 64 9223372036854775808).toNat : Int)) = _
  rw [hv, hs, BitVec.toNat_xor, BitVec.toNat_ofNat, BitVec.toNat_ofNat, Nat.mod_eq_of_lt hm, Nat.mod_eq_of_lt (by decide), xor_top m hm]
  unfold wrap64
  rw [IntKind.wrap_u64]
  omega

set_option maxHeartbeats 2000000 in
set_option maxRecDepth 100000 in
theorem keys_reader_value.num_none (T : Int) (k : Int) (t : List Int) (g : Nat) (w0 w : World) (h : Rd T w0 w g (k :: t)) (ht : t.length < 8) (e : tx T k = 3) :
    Calls Try.prog 30 #[.pointer (some ⟨g, 0, none⟩)] w (RPost encV T (.error 1) w0 w g) := by
  have hu43 := Try.underlying43
  have HG := Aside0.mk h.lt
  have HI := Aside0.mk (Iv.refl h)
  clear h
  have HE := Aside0.mk e
  clear e
  go_enter Try.func30, Try.ntmps30
  go_wp2_with fail
  refine (keys_reader_next.calls T (k :: _) g w0 _ (HI.out.alloc _).2).mono ?_
  rintro e w1 h1
  obtain ⟨hz, F2⟩ := v_new HG.out h1.1
  obtain ⟨he, hi⟩ := (HI.out.alloc _).then h1
  obtain rfl : e = .returned (.int .u8 (tx T k)) := he
  clear h1 HI
  have HI := Aside0.mk hi
  clear hi
  rw [HE.out]
  have hca0 : World.cell? _ ⟨w.heap.size, 0, none⟩ = some (.int .i64 0) := (blk_cell F2 0).trans rfl
  have hfa0 : World.frozen? _ ⟨w.heap.size, 0, none⟩ = false := blk_frozen F2 0
  have hca1 : World.cell? _ ⟨w.heap.size, 1, none⟩ = some (.int .i64 0) := (blk_cell F2 1).trans rfl
  have hfa1 : World.frozen? _ ⟨w.heap.size, 1, none⟩ = false := blk_frozen F2 1
  have hca2 : World.cell? _ ⟨w.heap.size, 2, none⟩ = some (.string (⟨#[]⟩ : ByteArray)) := (blk_cell F2 2).trans rfl
  have hfa2 : World.frozen? _ ⟨w.heap.size, 2, none⟩ = false := blk_frozen F2 2
  have HF := Aside0.mk F2
  clear F2
  obtain ⟨A, c, hb, hc, hR⟩ := HI.out.2.2.2.2
  have hb2 := blk_alloc hb (.cells #[.int .i64 2, .int .i64 0, .string (⟨#[]⟩ : ByteArray)] 43 (0, 0))
  have hrc : (w1.alloc (.cells #[.int .i64 2, .int .i64 0, .string (⟨#[]⟩ : ByteArray)] 43 (0, 0))).cell? ⟨g, 0, none⟩ = some (.slice A t.length c) := (blk_cell hb2 0).trans rfl
  have hrf := blk_frozen hb2 0
  have hne : ¬ g = w1.heap.size := by have := blk_lt hb; omega
  have hne2 : ¬ w1.heap.size = g := by omega
  have hrc1 : w1.cell? ⟨g, 0, none⟩ = some (.slice A t.length c) := (blk_cell hb 0).trans rfl
  clear hb2
  clear hb hc hR
  have b1 : decide ((t.length : Int) < 8) = true := decide_eq_true (by omega)
  have b2 : decide (t.length < 8) = true := decide_eq_true ht
  go_wp2
  exact ⟨rfl, (HI.out.alloc _).err 1⟩

set_option maxHeartbeats 2000000 in
set_option maxRecDepth 100000 in
theorem keys_reader_value.num (T : Int) (k : Int) (t : List Int) (g : Nat) (w0 w : World) (h : Rd T w0 w g (k :: t)) (ht : ¬ t.length < 8) (e : tx T k = 3) (n8 : Int) (hn8 : r_num T 0 (t.take 8) = n8) :
    Calls Try.prog 30 #[.pointer (some ⟨g, 0, none⟩)] w (RPost encV T (.ok (⟨2, n8 - 9223372036854775808, V0⟩, t.drop 8)) w0 w g) := by
  have hu43 := Try.underlying43
  have HG := Aside0.mk h.lt
  have HI := Aside0.mk (Iv.refl h)
  clear h
  have HE := Aside0.mk e
  clear e
  have HN8 := Aside0.mk hn8
  clear hn8
  go_enter Try.func30, Try.ntmps30
  go_wp2_with fail
  refine (keys_reader_next.calls T (k :: _) g w0 _ (HI.out.alloc _).2).mono ?_
  rintro e w1 h1
  obtain ⟨hz, F2⟩ := v_new HG.out h1.1
  obtain ⟨he, hi⟩ := (HI.out.alloc _).then h1
  obtain rfl : e = .returned (.int .u8 (tx T k)) := he
  clear h1 HI
  have HI := Aside0.mk hi
  clear hi
  rw [HE.out]
  have hca0 : World.cell? _ ⟨w.heap.size, 0, none⟩ = some (.int .i64 0) := (blk_cell F2 0).trans rfl
  have hfa0 : World.frozen? _ ⟨w.heap.size, 0, none⟩ = false := blk_frozen F2 0
  have hca1 : World.cell? _ ⟨w.heap.size, 1, none⟩ = some (.int .i64 0) := (blk_cell F2 1).trans rfl
  have hfa1 : World.frozen? _ ⟨w.heap.size, 1, none⟩ = false := blk_frozen F2 1
  have hca2 : World.cell? _ ⟨w.heap.size, 2, none⟩ = some (.string (⟨#[]⟩ : ByteArray)) := (blk_cell F2 2).trans rfl
  have hfa2 : World.frozen? _ ⟨w.heap.size, 2, none⟩ = false := blk_frozen F2 2
  have HF := Aside0.mk F2
  clear F2
  obtain ⟨A, c, hb, hc, hR⟩ := HI.out.2.2.2.2
  have hb2 := blk_alloc hb (.cells #[.int .i64 2, .int .i64 0, .string (⟨#[]⟩ : ByteArray)] 43 (0, 0))
  have hrc : (w1.alloc (.cells #[.int .i64 2, .int .i64 0, .string (⟨#[]⟩ : ByteArray)] 43 (0, 0))).cell? ⟨g, 0, none⟩ = some (.slice A t.length c) := (blk_cell hb2 0).trans rfl
  have hrf := blk_frozen hb2 0
  have hne : ¬ g = w1.heap.size := by have := blk_lt hb; omega
  have hne2 : ¬ w1.heap.size = g := by omega
  have hrc1 : w1.cell? ⟨g, 0, none⟩ = some (.slice A t.length c) := (blk_cell hb 0).trans rfl
  clear hb2
  clear hb hc hR
  have b1 : decide ((t.length : Int) < 8) = false := decide_eq_false (by omega)
  have b2 : decide (t.length < 8) = false := decide_eq_false ht
  have HT := Aside0.mk ht
  clear ht
  go_wp2
  have HI0 := Aside0.mk (HI.out.alloc (.cells #[.int .i64 2, .int .i64 0, .string (⟨#[]⟩ : ByteArray)] 43 (0, 0)))
  have F2 := Aside0.mk (blk_alloc HF.out (.cells #[.int .i64 2, .int .i64 0, .string (⟨#[]⟩ : ByteArray)] 43 (0, 0)))
  have F3 : Aside0 ((w1.alloc (.cells #[.int .i64 2, .int .i64 0, .string (⟨#[]⟩ : ByteArray)] 43 (0, 0))).heap[w1.heap.size]? = some (.cells #[.int .i64 2, .int .i64 0, .string (⟨#[]⟩ : ByteArray)] 43 (0, 0))) := ⟨by show (w1.heap.push _)[w1.heap.size]? = _; rw [Array.getElem?_push_size]⟩
  have HZ := Aside0.mk hz
  clear HI HF hca0 hfa0 hca1 hfa1 hca2 hfa2 hrc hrf hne hne2 hrc1 b1 b2 hz
  go_loopg [5, 35] 9 (fun kq v5 v35 w' => ∃ (i : Nat) (pre suf : List Int), v5 = .int .u64 (r_num T 0 pre) ∧ v35 = .int .i64 (i : Int) ∧ Aside0 (t = pre ++ suf ∧ pre.length = i ∧ i ≤ 8 ∧ 8 - i < kq) ∧ Aside0 (Iv T w0 w w' g suf) ∧ Aside0 (w'.heap[w.heap.size]? = some (.cells #[.int .i64 0, .int .i64 0, .string (⟨#[]⟩ : ByteArray)] 43 (0, 0))) ∧ Aside0 (w'.heap[w1.heap.size]? = some (.cells #[.int .i64 2, .int .i64 0, .string (⟨#[]⟩ : ByteArray)] 43 (0, 0))))
  case atStart => exact ⟨0, [], t, rfl, rfl, ⟨rfl, rfl, by omega, by omega⟩, HI0, F2, F3⟩
  case round =>
    clear HI0 F2 F3
    obtain ⟨i, pre, suf, rfl, rfl, HL, HI, F2, F3⟩ := hrel
    by_cases hi8 : i < 8
    · cases suf with
      | nil => exact absurd HT.out (by have h1 := HL.out.1; rw [List.append_nil] at h1; rw [h1, HL.out.2.1]; exact fun h => h hi8)
      | cons c suf =>
        obtain ⟨v, htx⟩ : ∃ v, tx T c = v := ⟨_, rfl⟩
        have hr := tx_range T c
        rw [htx] at hr
        obtain ⟨hv0, hv1⟩ := hr
        obtain ⟨n, hn⟩ : ∃ n, r_num T 0 pre = n := ⟨_, rfl⟩
        have hb := r_num_bound T pre 0 0 (by omega) (by decide)
        rw [hn] at hb
        obtain ⟨hn0, hn1⟩ := hb
        have hn2 : n < 72057594037927936 := by
          have h1 : (256 : Int) ^ (0 + pre.length) ≤ 256 ^ 7 := by
            have : 256 ^ (0 + pre.length) ≤ 256 ^ 7 := Nat.pow_le_pow_right (by decide) (by have := HL.out.2.1; omega)
            exact_mod_cast this
          have h2 : (256 : Int) ^ 7 = 72057594037927936 := by decide
          omega
        have hor := or_byte n v hn0 hn2 hv0 hv1
        have hsn : r_num T 0 (pre ++ [c]) = n * 256 + v := by rw [r_num_snoc, hn, htx]
        have HSN := Aside0.mk hsn
        have HTX := Aside0.mk htx
        have hw := (show IntKind.u64.wrap (n * 256) = n * 256 by rw [IntKind.wrap_u64]; omega)
        rw [hn]
        clear htx hn hsn hn1
        have b8 : decide (i < 8) = true := decide_eq_true hi8
        have b9 : decide ((i : Int) < 8) = true := decide_eq_true (by omega)
        go_wp2_with fail
        refine (keys_reader_next.calls T (c :: suf) g w0 _ HI.out.2).mono ?_
        rintro e w2 h2
        have hF2 := h2.1.blk F2.out (by have := HG.out; omega) (by simp)
        have hF3 := h2.1.blk F3.out (by have := HG.out; have := HZ.out; omega) (by simp)
        obtain ⟨he, hi⟩ := HI.out.then h2
        obtain rfl : e = .returned (.int .u8 (tx T c)) := he
        clear h2 HI F2 F3
        have HI := Aside0.mk hi
        have F2 := Aside0.mk hF2
        have F3 := Aside0.mk hF3
        clear hi hF2 hF3
        rw [HTX.out]
        go_wp2
        obtain ⟨k1, rfl⟩ : ∃ k1, gk = k1 + 1 := ⟨gk - 1, by have := HL.out; omega⟩
        go_roundg k1
        case measure => omega
        case rel => exact ⟨i + 1, pre ++ [c], suf, by rw [HSN.out], by go_num, ⟨by rw [HL.out.1, List.append_assoc]; rfl, by rw [List.length_append, HL.out.2.1]; rfl, by omega, by have := HL.out.2.2.2; omega⟩, HI, F2, F3⟩
    · obtain rfl : i = 8 := by have := HL.out; omega
      have hp : pre = t.take 8 := by rw [HL.out.1]; exact (List.take_left' HL.out.2.1).symm
      have hs : suf = t.drop 8 := by rw [HL.out.1]; exact (List.drop_left' HL.out.2.1).symm
      subst hp hs
      have hn : r_num T 0 (t.take 8) = n8 := HN8.out
      have hb := r_num_bound T (t.take 8) 0 0 (by omega) (by decide)
      rw [hn] at hb
      have hx := xor_sign n8 hb.1 (by have h1 := hb.2; have h2 := HL.out.2.1; rw [h2] at h1; have h3 : (256 : Int) ^ (0 + 8) = 18446744073709551616 := (by decide); rw [h3] at h1; exact h1)
      rw [hn]
      clear hn hb hi8
      have hca0 : World.cell? wr ⟨w.heap.size, 0, none⟩ = some (.int .i64 0) := (blk_cell F2.out 0).trans rfl
      have hfa0 : World.frozen? wr ⟨w.heap.size, 0, none⟩ = false := blk_frozen F2.out 0
      have hca1 : World.cell? wr ⟨w.heap.size, 1, none⟩ = some (.int .i64 0) := (blk_cell F2.out 1).trans rfl
      have hfa1 : World.frozen? wr ⟨w.heap.size, 1, none⟩ = false := blk_frozen F2.out 1
      have hca2 : World.cell? wr ⟨w.heap.size, 2, none⟩ = some (.string (⟨#[]⟩ : ByteArray)) := (blk_cell F2.out 2).trans rfl
      have hfa2 : World.frozen? wr ⟨w.heap.size, 2, none⟩ = false := blk_frozen F2.out 2
      have hcb0 : World.cell? wr ⟨w1.heap.size, 0, none⟩ = some (.int .i64 2) := (blk_cell F3.out 0).trans rfl
      have hfb0 : World.frozen? wr ⟨w1.heap.size, 0, none⟩ = false := blk_frozen F3.out 0
      have hcb1 : World.cell? wr ⟨w1.heap.size, 1, none⟩ = some (.int .i64 0) := (blk_cell F3.out 1).trans rfl
      have hfb1 : World.frozen? wr ⟨w1.heap.size, 1, none⟩ = false := blk_frozen F3.out 1
      have hcb2 : World.cell? wr ⟨w1.heap.size, 2, none⟩ = some (.string (⟨#[]⟩ : ByteArray)) := (blk_cell F3.out 2).trans rfl
      have hfb2 : World.frozen? wr ⟨w1.heap.size, 2, none⟩ = false := blk_frozen F3.out 2
      have GB := Aside0.mk (show w.heap.size ≤ w1.heap.size by have := HZ.out; omega)
      have hz := HZ.out
      have hz3 : w.heap.size < wr.heap.size := blk_lt F2.out
      have hz2 : w1.heap.size < wr.heap.size := blk_lt F3.out
      have hne : ¬ w.heap.size = w1.heap.size := by omega
      have hne' : ¬ w1.heap.size = w.heap.size := by omega
      clear F2 F3
      go_wp2
      exact bodyPost_ret (v := .agg #[.int .i64 2, .int .i64 (n8 - 9223372036854775808), .string V0]) (by simp [results, Try.results30, go_sem, V0, hz3, hz2, hne, hne', hca0, hca1, hca2, hcb0, hcb1, hcb2]) rfl (((((HI.out.set HG.out GB.out 1 _).set HG.out (Nat.le_refl _) 0 _).set HG.out (Nat.le_refl _) 1 _).set HG.out (Nat.le_refl _) 2 _)).post

theorem keys_reader_value.calls (T : Int) (l : List Int) (g : Nat) (w0 w : World) (h : Rd T w0 w g l) (hl : l.length < 140737488355328) :
    Calls Try.prog 30 #[.pointer (some ⟨g, 0, none⟩)] w (RPost encV T (r_val T l) w0 w g) := by
  cases l with
  | nil => exact keys_reader_value.nil T g w0 w h
  | cons k t =>
    have ht : t.length < 140737488355328 := by simp at hl; omega
    simp only [r_val]
    by_cases e1 : tx T k = 1
    · rw [if_pos e1]; exact keys_reader_value.zero T k t g w0 w h e1
    rw [if_neg e1]
    by_cases e2 : tx T k = 2
    · rw [if_pos e2]
      cases t with
      | nil => exact keys_reader_value.bool_none T k [] g w0 w h e2 rfl
      | cons c t2 =>
        try simp only
        by_cases e3 : 1 < tx T c
        · rw [if_pos e3]; exact keys_reader_value.bool_bad T k _ g w0 w h e2 c _ t2 rfl rfl e3
        · rw [if_neg e3]; exact keys_reader_value.bool T k _ g w0 w h e2 c _ t2 rfl rfl e3
    rw [if_neg e2]
    by_cases e3 : tx T k = 3
    · rw [if_pos e3]
      by_cases e8 : t.length < 8
      · rw [if_pos e8]; exact keys_reader_value.num_none T k t g w0 w h e8 e3
      · rw [if_neg e8]; exact keys_reader_value.num T k t g w0 w h e8 e3 _ rfl
    rw [if_neg e3]
    by_cases e4 : tx T k = 4
    · rw [if_pos (.inl e4)]
      cases ht2 : r_text T [] t with
      | error c => exact keys_reader_value.text3_none T k t g w0 w h ht e4 c ht2
      | ok p => rw [e4]; exact keys_reader_value.text3 T k t g w0 w h ht e4 p.1 p.2 ht2
    by_cases e5 : tx T k = 5
    · rw [if_pos (.inr e5)]
      cases ht2 : r_text T [] t with
      | error c => exact keys_reader_value.text4_none T k t g w0 w h ht e5 c ht2
      | ok p => rw [e5]; exact keys_reader_value.text4 T k t g w0 w h ht e5 p.1 p.2 ht2
    rw [if_neg (by omega)]
    exact keys_reader_value.other T k t g w0 w h _ rfl ⟨e1, e2, e3, e4, e5⟩
end Go.Proofs.Ytbpnmmakodaakaa.P

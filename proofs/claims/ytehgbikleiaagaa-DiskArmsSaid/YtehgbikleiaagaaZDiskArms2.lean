/- Laid by a program of this session out of its texts for the law DiskArms, part 2. -/
import Derived.Laws.StructEq
import Derived.Laws.CopyRow
import Derived.Laws.CopyOwn
import Derived.Laws.Pointers
import Derived.Laws.Entries
import Derived.Test.YtehgbikleiaagaaZDiskArms1
section
namespace Go.Proofs.Ytehgbikleiaagaa.P
open Go.RowKit Go.Proofs.YtehgbikleiaagaaW.PrintWords Go.Proofs.YtehgbikleiaagaaW.PrintLast Go.Proofs.YtehgbikleiaagaaW.PrintMore
attribute [local go_sem] max2_int min2_int max_two min_two max_three min_three max_four min_four
set_option linter.unusedVariables false
set_option linter.unusedSimpArgs false
def pageN (long : Bool) : Nat := if long = true then 513 else 512
def pageP (fill : Int) (B : List Int) (long : Bool) : List Int := B.take (min B.length (pageN long)) ++ (List.replicate (pageN long) fill).drop (min B.length (pageN long))
def opV (kd n fill : Int) (Bv : Value) (long : Bool) (Kv : Value) (torn cut : Int) : Value := .agg #[.int .i64 kd, .int .i64 n, .int .u8 fill, Bv, .bool long, Kv, .int .i64 torn, .int .i64 cut]
def PI (w : World) (cs : Array Value) (u : Value) (xs : List Int) (W : World) : Prop :=
  W.heap[w.heap.size]? = some (.cells cs 32 (0, 0)) ∧ Kd.R (Kd.int .u8) 5 W w.heap.size (fun _ => True) u xs ∧ Below w.heap.size w W
section
variable {w W : World} {cs : Array Value} {g m cap : Nat} {xs : List Int}
theorem PI.set (h : PI w cs (.slice (some ⟨g, 0, none⟩) m cap) xs W) (k : Nat) (x : Int) : PI w cs (.slice (some ⟨g, 0, none⟩) m cap) (xs.set k x) (W.setCell ⟨g, k, none⟩ (.int .u8 x)) := by
  have hne : w.heap.size ≠ g := fun e => Kd.R_ne h.2.1 h.1 (by decide) (by rw [e]; rfl)
  have hp := Kd.R_putn h.2.1 (k : Int) x
  rw [Int.toNat_natCast] at hp
  exact ⟨blk_far h.1 hne _, hp, below_set h.2.2 (Kd.R_base h.2.1 g rfl)⟩
theorem PI.cell (h : PI w cs (.slice (some ⟨g, 0, none⟩) m cap) xs W) (k : Nat) (hk : k < m) : W.cell? ⟨g, k, none⟩ = some (.int .u8 (rdOf 0 xs (k : Int))) ∧ W.frozen? ⟨g, k, none⟩ = false := by
  have := Kd.R_celln 0 h.2.1 (k : Int) (by omega) (by omega)
  rwa [Int.toNat_natCast] at this
end
set_option maxHeartbeats 4000000 in
set_option maxRecDepth 100000 in
theorem page_one (long : Bool) (m : Nat) (hm : m = pageN long) (kd n fill : Int) (A : Option Addr) (c : Nat) (B : List Int) (A2 : Option Addr) (m2 c2 : Nat) (torn cut : Int) (w : World) (hr : Kd.C (Kd.int .u8) w A B.length B) :
    Calls Try.prog 11 #[opV kd n fill (.slice A B.length c) long (.slice A2 m2 c2) torn cut] w fun e w' => ∃ v', e = .returned v' ∧ Kd.R (Kd.int .u8) 5 w' w.heap.size (fun _ => True) v' (pageP fill B long) ∧ Below w.heap.size w w' := by
  have HMM := Aside0.mk hm
  have HR := Aside0.mk hr
  have hm5 : m ≤ 513 := by rw [hm]; unfold pageN; split <;> omega
  obtain ⟨cs, hcs⟩ : ∃ cs : Array Value, cs = #[.int .i64 kd, .int .i64 n, .int .u8 fill, .slice A B.length c, .bool long, .slice A2 m2 c2, .int .i64 torn, .int .i64 cut] := ⟨_, rfl⟩
  have hbx := Deep.blk_alloc_new w (.cells #[.int .i64 kd, .int .i64 n, .int .u8 fill, .slice A B.length c, .bool long, .slice A2 m2 c2, .int .i64 torn, .int .i64 cut] 32)
  have x4 : World.cell? _ ⟨w.heap.size, 4, none⟩ = some (.bool long) := (blk_cell hbx 4).trans rfl
  have HBX := Aside0.mk hbx
  have HB0 := Aside0.mk (below_alloc (Below.refl w.heap.size w) (.cells #[.int .i64 kd, .int .i64 n, .int .u8 fill, .slice A B.length c, .bool long, .slice A2 m2 c2, .int .i64 torn, .int .i64 cut] 32))
  rw [← hcs] at hbx x4 HB0 HBX
  have HCS := Aside0.mk hcs
  clear hm hr hbx
  unfold opV
  rw [← hcs]
  clear hcs
  go_enter Try.func11, Try.ntmps11
  cases long with
  | false =>
    have hm0 : m = 512 := HMM.out
    subst hm0
    go_upto_region 5 with ((with_reducible refine gate_dst (N := 9) rfl ?_); refine Kd.R_make (Kd.int .u8) (w0 := w) w.heap.size 5 rfl (N := 9) rfl 30 _ _ rfl 512 rfl rfl Try.underlying30 (.int .u8 0) 1 info5 rfl (by decide) (by decide) 0 (ok := fun _ => True) (okp := fun _ => False) rfl (fun _ h => h.elim) trivial (by decide) (by decide) HB0.out (below_size HB0.out) ?_; intro v9 w9 ho hb hg hn; obtain ⟨g, cap, e9, _, _, _⟩ := Kd.R_form ho (by rw [List.length_replicate]; decide); rw [List.length_replicate] at e9; subst e9; have HP := Aside0.mk (show PI w cs _ _ w9 from ⟨blk_grown HBX.out hg (by simp), ho, hb⟩); clear ho hb hg hn)
    have HX := HCS
    clear x4
    go_wp2_with fail
    go_loopw [5] (fun v5 wr => ∃ (k : Nat) (xs : List Int), v5 = .int .i64 (k : Int) ∧ k ≤ 512 ∧ Aside0 (PI w cs (.slice (some ⟨g, 0, none⟩) 512 cap) xs wr ∧ xs.length = 512 ∧ ∀ j, j < k → xs[j]? = some fill)) (fun v5 _ => 512 - (intOf v5).toNat)
    case atStart => exact ⟨0, _, rfl, Nat.zero_le _, ⟨HP.out, by rw [List.length_replicate]; rfl, fun j hj => absurd hj (Nat.not_lt_zero j)⟩⟩
    case round =>
      clear HP
      obtain ⟨k, xs, rfl, hk, HP⟩ := hrel
      have x2 : wr.cell? ⟨w.heap.size, 2, none⟩ = some (.int .u8 fill) := (blk_cell HP.out.1.1 2).trans (by rw [HX.out]; rfl)
      have x3 : wr.cell? ⟨w.heap.size, 3, none⟩ = some (.slice A B.length c) := (blk_cell HP.out.1.1 3).trans (by rw [HX.out]; rfl)
      by_cases hlt : k < 512
      · have hck := HP.out.1.cell k hlt
        obtain ⟨y, hy⟩ : ∃ y, y = rdOf 0 xs (k : Int) := ⟨_, rfl⟩
        rw [← hy] at hck
        obtain ⟨cg, fg⟩ := hck
        have HE : Aside0 (PI w cs (.slice (some ⟨g, 0, none⟩) 512 cap) (xs.set k fill) (wr.setCell ⟨g, k, none⟩ (.int .u8 fill)) ∧ (xs.set k fill).length = 512 ∧ ∀ j, j < k + 1 → (xs.set k fill)[j]? = some fill) := ⟨HP.out.1.set k fill, by rw [List.length_set]; exact HP.out.2.1, fun j hj => by
          by_cases e : k = j
          · subst e
            exact List.getElem?_set_self (by have := HP.out.2.1; omega)
          · rw [List.getElem?_set_ne e]
            exact HP.out.2.2 j (by omega)⟩
        have HK := Aside0.mk hlt
        have b0 : decide (k < 512) = true := decide_eq_true hlt
        have b1 : decide ((k : Int) < 512) = true := decide_eq_true (by omega)
        have b2 : (k < 512) = True := eq_true hlt
        have b3 : ((k : Int) < 512) = True := eq_true (by omega)
        clear hy x3
        go_wp2
        go_roundw
        case rel => exact ⟨k + 1, _, by go_num, HK.out, HE⟩
        case measure => have := HK.out; simp [intOf]; omega
      · have hke : k = 512 := by omega
        subst hke
        have b0 : decide ((512 : Nat) < 512) = false := by decide
        have b1 : decide ((512 : Int) < 512) = false := by decide
        have HE : Aside0 (xs = List.replicate 512 fill) := ⟨List.eq_replicate_iff.2 ⟨HP.out.2.1, fun y hy => by
          obtain ⟨j, hj, rfl⟩ := List.mem_iff_getElem.1 hy
          have := HP.out.2.2 j (by have := HP.out.2.1; omega)
          rw [List.getElem?_eq_getElem hj] at this
          exact Option.some.inj this⟩⟩
        clear hlt hk x2
        go_wp2_with (first | ((with_reducible refine gate_builtin (b := .copy) (xs := #[.tmp 20, .tmp 22]) rfl ?_); (refine Kd.R_copy (enc := Value.int .u8) (h1 := fun _ => rfl) (0 : Int) (w0 := w) w.heap.size rfl (.tmp 20) (.tmp 22) 30 30 5 rfl Try.underlying30 (by kernel_rfl) (.slice (some ⟨g, 0, none⟩) 512 cap) xs B A B.length c (fun _ => True) rfl rfl ?aO ?aR ?aB ?aS ?_); (case aO => exact HP.out.1.2.1); (case aR => exact Kd.C_below HR.out HP.out.1.2.2); (case aB => exact HP.out.1.2.2); (case aS => exact below_size HP.out.1.2.2); intro w16 ho hb hg; have HF := Aside0.mk (And.intro ho hb); clear ho hb hg))
        go_ret
        refine ⟨_, rfl, ?_, HF.out.2⟩
        have := HF.out.1
        rw [HP.out.2.1, HE.out] at this
        exact this
  | true =>
    have hm0 : m = 513 := HMM.out
    subst hm0
    go_upto_region 5 with ((with_reducible refine gate_dst (N := 9) rfl ?_); refine Kd.R_make (Kd.int .u8) (w0 := w) w.heap.size 5 rfl (N := 9) rfl 30 _ _ rfl 513 rfl rfl Try.underlying30 (.int .u8 0) 1 info5 rfl (by decide) (by decide) 0 (ok := fun _ => True) (okp := fun _ => False) rfl (fun _ h => h.elim) trivial (by decide) (by decide) HB0.out (below_size HB0.out) ?_; intro v9 w9 ho hb hg hn; obtain ⟨g, cap, e9, _, _, _⟩ := Kd.R_form ho (by rw [List.length_replicate]; decide); rw [List.length_replicate] at e9; subst e9; have HP := Aside0.mk (show PI w cs _ _ w9 from ⟨blk_grown HBX.out hg (by simp), ho, hb⟩); clear ho hb hg hn)
    have HX := HCS
    clear x4
    go_wp2_with fail
    go_loopw [5] (fun v5 wr => ∃ (k : Nat) (xs : List Int), v5 = .int .i64 (k : Int) ∧ k ≤ 513 ∧ Aside0 (PI w cs (.slice (some ⟨g, 0, none⟩) 513 cap) xs wr ∧ xs.length = 513 ∧ ∀ j, j < k → xs[j]? = some fill)) (fun v5 _ => 513 - (intOf v5).toNat)
    case atStart => exact ⟨0, _, rfl, Nat.zero_le _, ⟨HP.out, by rw [List.length_replicate]; rfl, fun j hj => absurd hj (Nat.not_lt_zero j)⟩⟩
    case round =>
      clear HP
      obtain ⟨k, xs, rfl, hk, HP⟩ := hrel
      have x2 : wr.cell? ⟨w.heap.size, 2, none⟩ = some (.int .u8 fill) := (blk_cell HP.out.1.1 2).trans (by rw [HX.out]; rfl)
      have x3 : wr.cell? ⟨w.heap.size, 3, none⟩ = some (.slice A B.length c) := (blk_cell HP.out.1.1 3).trans (by rw [HX.out]; rfl)
      by_cases hlt : k < 513
      · have hck := HP.out.1.cell k hlt
        obtain ⟨y, hy⟩ : ∃ y, y = rdOf 0 xs (k : Int) := ⟨_, rfl⟩
        rw [← hy] at hck
        obtain ⟨cg, fg⟩ := hck
        have HE : Aside0 (PI w cs (.slice (some ⟨g, 0, none⟩) 513 cap) (xs.set k fill) (wr.setCell ⟨g, k, none⟩ (.int .u8 fill)) ∧ (xs.set k fill).length = 513 ∧ ∀ j, j < k + 1 → (xs.set k fill)[j]? = some fill) := ⟨HP.out.1.set k fill, by rw [List.length_set]; exact HP.out.2.1, fun j hj => by
          by_cases e : k = j
          · subst e
            exact List.getElem?_set_self (by have := HP.out.2.1; omega)
          · rw [List.getElem?_set_ne e]
            exact HP.out.2.2 j (by omega)⟩
        have HK := Aside0.mk hlt
        have b0 : decide (k < 513) = true := decide_eq_true hlt
        have b1 : decide ((k : Int) < 513) = true := decide_eq_true (by omega)
        have b2 : (k < 513) = True := eq_true hlt
        have b3 : ((k : Int) < 513) = True := eq_true (by omega)
        clear hy x3
        go_wp2
        go_roundw
        case rel => exact ⟨k + 1, _, by go_num, HK.out, HE⟩
        case measure => have := HK.out; simp [intOf]; omega
      · have hke : k = 513 := by omega
        subst hke
        have b0 : decide ((513 : Nat) < 513) = false := by decide
        have b1 : decide ((513 : Int) < 513) = false := by decide
        have HE : Aside0 (xs = List.replicate 513 fill) := ⟨List.eq_replicate_iff.2 ⟨HP.out.2.1, fun y hy => by
          obtain ⟨j, hj, rfl⟩ := List.mem_iff_getElem.1 hy
          have := HP.out.2.2 j (by have := HP.out.2.1; omega)
          rw [List.getElem?_eq_getElem hj] at this
          exact Option.some.inj this⟩⟩
        clear hlt hk x2
        go_wp2_with (first | ((with_reducible refine gate_builtin (b := .copy) (xs := #[.tmp 20, .tmp 22]) rfl ?_); (refine Kd.R_copy (enc := Value.int .u8) (h1 := fun _ => rfl) (0 : Int) (w0 := w) w.heap.size rfl (.tmp 20) (.tmp 22) 30 30 5 rfl Try.underlying30 (by kernel_rfl) (.slice (some ⟨g, 0, none⟩) 513 cap) xs B A B.length c (fun _ => True) rfl rfl ?aO ?aR ?aB ?aS ?_); (case aO => exact HP.out.1.2.1); (case aR => exact Kd.C_below HR.out HP.out.1.2.2); (case aB => exact HP.out.1.2.2); (case aS => exact below_size HP.out.1.2.2); intro w16 ho hb hg; have HF := Aside0.mk (And.intro ho hb); clear ho hb hg))
        go_ret
        refine ⟨_, rfl, ?_, HF.out.2⟩
        have := HF.out.1
        rw [HP.out.2.1, HE.out] at this
        exact this
end Go.Proofs.Ytehgbikleiaagaa.P
end
section
namespace Go.Proofs.Ytehgbikleiaagaa.P
open Go.RowKit Go.Proofs.YtehgbikleiaagaaW.PrintWords Go.Proofs.YtehgbikleiaagaaW.PrintLast Go.Proofs.YtehgbikleiaagaaW.PrintMore
attribute [local go_sem] max2_int min2_int max_two min_two max_three min_three max_four min_four
set_option linter.unusedVariables false
set_option linter.unusedSimpArgs false
theorem DD.more {W : World} {base d M N N' : Nat} {v : Value} {s : Dk} (h : DD W base d M N v s) (hn : N ≤ N') (ht : N' + s.cache.length ≤ 1073741824) : DD W base d M N' v s := { h with mp := h.mp.mono hn, tot := ht }
theorem meas_lt {m k : Nat} {x : Int} (h : k < m) (e : Value.int .i64 x = .int .i64 ((k + 1 : Nat) : Int)) : m - (intOf (.int .i64 x)).toNat < m - (intOf (.int .i64 (k : Int))).toNat := by
  rw [e]
  simp only [intOf, Int.toNat_natCast]
  omega
end Go.Proofs.Ytehgbikleiaagaa.P
end
section
namespace Go.Proofs.Ytehgbikleiaagaa.P
open Go.RowKit Go.Proofs.YtehgbikleiaagaaW.PrintWords Go.Proofs.YtehgbikleiaagaaW.PrintLast Go.Proofs.YtehgbikleiaagaaW.PrintMore
attribute [local go_sem] max2_int min2_int max_two min_two max_three min_three max_four min_four
set_option linter.unusedVariables false
set_option linter.unusedSimpArgs false
def mendN (keep : List Bool) (torn cut : Int) (k : Nat) : Nat := if (k : Int) = torn then (max 0 (min cut 512)).toNat else if keep.getD k false = true then 512 else 0
theorem mendYtehgbikleiaagaale (keep : List Bool) (torn cut : Int) (k : Nat) : mendN keep torn cut k ≤ 512 := by unfold mendN; split <;> (try split) <;> omega
def over (n : Nat) (b p : List Int) : List Int := b.take n ++ p.drop n
def mendL (s : Dk) (keep : List Bool) (torn cut : Int) (k : Nat) : Int → List Int :=
  (s.cache.zipIdx.take k).foldl (fun f x => upd f x.1.1 (over (mendN keep torn cut x.2) x.1.2 (f x.1.1))) s.last
theorem mendL_succ {s : Dk} {keep : List Bool} {torn cut : Int} {k : Nat} (hk : k < s.cache.length) :
    mendL s keep torn cut (k + 1) = upd (mendL s keep torn cut k) s.cache[k].1 (over (mendN keep torn cut k) s.cache[k].2 (mendL s keep torn cut k s.cache[k].1)) := by
  unfold mendL
  have h : k < s.cache.zipIdx.length := by simpa using hk
  rw [List.take_add_one, List.getElem?_eq_getElem h, List.foldl_append]
  simp
theorem over_len {n : Nat} {b p : List Int} (hb : b.length = 512) (hp : p.length = 512) (hn : n ≤ 512) : (over n b p).length = 512 := by
  unfold over
  simp
  omega
theorem mendL_len {s : Dk} {keep : List Bool} {torn cut : Int} (hl : ∀ i, (s.last i).length = 512) (hc : ∀ x ∈ s.cache, x.2.length = 512) : ∀ k, k ≤ s.cache.length → ∀ i, (mendL s keep torn cut k i).length = 512 := by
  intro k
  induction k with
  | zero => exact fun _ => hl
  | succ k ih =>
    intro hk i
    rw [mendL_succ (by omega)]
    unfold upd
    split
    · exact over_len (hc _ (List.getElem_mem (by omega))) (ih (by omega) _) (mendYtehgbikleiaagaale _ _ _ _)
    · exact ih (by omega) i
def mendS (s : Dk) (keep : List Bool) (torn cut : Int) : Dk := { s with last := mendL s keep torn cut s.cache.length, cache := [], left := -1, down := false }
def MI (w : World) (M N : Nat) (s : Dk) (keep : List Bool) (torn cut : Int) (k : Nat) (W : World) : Prop := Kp (fun j => j = M) w W ∧ MP W M (N + k) (mendL s keep torn cut k)
section
variable {P : Program} {ρ : Operand → Value} {op : Oper} {w w1 : World} {v : Value}
theorem exec_alloc (t : TypeId) (ho : op.op = .alloc t) (z : Array Value) (hz : ∀ w, (zeroValue t).run P w = .ok (.agg z) w) : (execOp ρ op).run P w = .ok (.value (.pointer (some ⟨w.heap.size, 0, none⟩))) (w.alloc (.cells z t)) := by
  unfold execOp
  simp [ho, Instr.alloc, Sem.run_bind, hz, newVar, newRow, Value.cells]
theorem exec_store (t : TypeId) (x y : Operand) (ho : op.op = .store t x y) (hv : (Instr.storeAt t (ρ x) (ρ y)).run P w = .ok () w1) : (execOp ρ op).run P w = .ok .skip w1 := by
  unfold execOp
  simp only [ho, Sem.run_bind, hv, Result.andThen_ok, Sem.run_pure]
theorem exec_lookup (t : TypeId) (x y : Operand) (b : Bool) (ho : op.op = .lookup t x y b) (hv : (Instr.lookup t (ρ x) (ρ y) b).run P w = .ok v w) : (execOp ρ op).run P w = .ok (.value v) w := by
  unfold execOp
  simp only [ho, Sem.run_bind, hv, Result.andThen_ok, Sem.run_pure]
theorem exec_copy (x y : Operand) (t1 t2 : TypeId) (ho : op.op = .call { callee := .builtin .copy, args := #[x, y], argTypes := #[t1, t2] }) {vx vy : Value} (hx : ρ x = vx) (hy : ρ y = vy) (hv : ∀ ty, (Builtin.copy_ #[t1, t2] ty #[vx, vy]).run P w = .ok v w1) : (execOp ρ op).run P w = .ok (.value v) w1 := by
  unfold execOp
  simp [ho, resolve, invoke, builtin, hx, hy, hv]
end
theorem over_copy (W : World) (g11 b9 n : Nat) (b p : List Int) (hb : b.length = 512) (hp : p.length = 512) (hn : n ≤ 512) (h11 : W.heap[g11]? = some (.cells (bvs p).toArray 67 (0, 0))) (h9 : ∀ j u, (bvs b)[j]? = some u → W.cell? ⟨b9, 1 + j, none⟩ = some u) :
    ∃ W', (∀ ty, (Builtin.copy_ #[30, 30] ty #[.slice (some ⟨g11, 0, none⟩) n 512, .slice (some ⟨b9, 1, none⟩) 512 512]).run Try.prog W = .ok (.int .i64 (n : Int)) W') ∧ W'.heap[g11]? = some (.cells (bvs (over n b p)).toArray 67 (0, 0)) ∧ Kp (fun j => j = g11) W W' := by
  have hlen : ((bvs b).take n).length = n := by rw [List.length_take, bvs_len, hb]; omega
  refine ⟨W.setRow g11 ((bvs p).toArray.toList.take 0 ++ (bvs b).take n ++ (bvs p).toArray.toList.drop (0 + ((bvs b).take n).length)).toArray, fun ty => ?_, ?_, ?_⟩
  · have h := run_copy_row (P := Try.prog) W 30 30 ty 5 g11 0 n 512 ⟨b9, 1, none⟩ 512 512 (bvs p).toArray 67 ((bvs b).take n) Try.underlying30 (by kernel_rfl) h11 (by rw [hlen]; exact (Nat.min_eq_right hn).symm) (fun j v hj => ?_) ?_ (fun v hv => ?_)
    · rw [h, hlen]; rfl
    · rw [Addr.add_mid]
      refine h9 j v ?_
      rw [List.getElem?_take] at hj
      split at hj
      · exact hj
      · cases hj
    · rw [hlen, List.size_toArray, bvs_len, hp]; omega
    · have h1 := List.mem_of_mem_take hv
      obtain ⟨y, _, rfl⟩ := List.mem_map.1 h1
      rfl
  · rw [setRow_heap W g11 _ _ 67 _ h11, hlen]
    unfold over bvs
    simp [List.map_take, List.map_drop]
  · exact ⟨rfl, rfl, rfl, by simp [World.setRow], fun k hk hn => setRow_other W g11 k _ hn⟩
end Go.Proofs.Ytehgbikleiaagaa.P
end
section
namespace Go.Proofs.Ytehgbikleiaagaa.P
open Go.RowKit Go.Proofs.YtehgbikleiaagaaW.PrintWords Go.Proofs.YtehgbikleiaagaaW.PrintLast Go.Proofs.YtehgbikleiaagaaW.PrintMore
attribute [local go_sem] max2_int min2_int max_two min_two max_three min_three max_four min_four
set_option linter.unusedVariables false
set_option linter.unusedSimpArgs false
theorem exec_lookup2 {P : Program} {ρ : Operand → Value} {op : Oper} {w : World} {v : Value} (t : TypeId) (x y : Operand) (b : Bool) (ho : op.op = .lookup t x y b) {vx vy : Value} (hx : ρ x = vx) (hy : ρ y = vy) (hv : (Instr.lookup t vx vy b).run P w = .ok v w) : (execOp ρ op).run P w = .ok (.value v) w := by
  subst hx hy
  exact exec_lookup t x y b ho hv
theorem run_storeAt67 (w : World) (z q : List Int) (hz : z.length = 512) (hq : q.length = 512) : (Instr.storeAt 67 (.pointer (some ⟨w.heap.size, 0, none⟩)) (.agg (bvs q).toArray)).run Try.prog (w.alloc (.cells (bvs z).toArray 67)) = .ok () (w.alloc (.cells (bvs q).toArray 67)) :=
  run_storeAt_new w 67 _ _ (by rw [s67, List.size_toArray, bvs_len, hq]) (by rw [List.size_toArray, List.size_toArray, bvs_len, bvs_len, hz, hq]) (one_bvs _)
set_option maxHeartbeats 4000000 in
set_option maxRecDepth 100000 in
theorem mend_calls {base d M N : Nat} {v : Value} {s : Dk} (A2 : Option Addr) (c3 : Nat) (keep : List Bool) (torn cut : Int) (w : World) (h : DD w base d M N v s) (hkr : Kd.C Kd.bool w A2 keep.length keep) (hkM : keep ≠ [] → ∀ a, A2 = some a → a.block ≠ M) :
    Calls Try.prog 14 #[dp d, .slice A2 keep.length c3, .int .i64 torn, .int .i64 cut] w fun e w' => (∃ u, e = .returned u) ∧ DD w' base d M (N + s.cache.length) (.slice none 0 0) (mendS s keep torn cut) ∧ MV d M v (.slice none 0 0) w w' := by
  obtain ⟨xs, hxs⟩ := pes_of s.cache (fun x hx => (h.c512 x hx).1)
  have HC := Aside0.mk h.c512
  have HL5 := Aside0.mk h.l512
  have HP2 := Aside0.mk h.p2
  have HT := Aside0.mk h.tot
  obtain ⟨A, c, ev⟩ := Kd.R_slice h.row
  subst ev
  have hlen : xs.length = s.cache.length := by rw [← hxs]; simp
  have hpes := pes_row h.row hxs
  have HP := Aside0.mk hpes
  have HD := Aside0.mk h
  have HKR := Aside0.mk hkr
  have HKM := Aside0.mk hkM
  have c2 : w.cell? ⟨d, 2, none⟩ = some (.slice A s.cache.length c) := (blk_cell h.blk 2).trans rfl
  have c1' := (blk_cell h.blk 1).trans rfl
  obtain ⟨zq, hzq⟩ : ∃ zq : Array Value, zq = (Value.int .i64 0 :: bvs pgZ).toArray := ⟨_, rfl⟩
  have hz9 : ∀ w, (zeroValue 69).run Try.prog w = .ok (.agg zq) w := fun w => by rw [hzq]; exact zero69 w
  have HQ := Aside0.mk (show zq.size = 513 by rw [hzq, List.size_toArray, List.length_cons, bvs_len, pgZ_len])
  have HSI := Aside0.mk (show MI w M N s keep torn cut 0 w from ⟨Kp.refl _ _, by rw [Nat.add_zero]; exact h.mp⟩)
  have HX := Aside0.mk hxs
  have HLn := Aside0.mk hlen
  clear hzq h hpes hxs hlen hkr hkM
  unfold dp
  go_enter Try.func14, Try.ntmps14
  go_wp2_with fail
  go_loopw [17] (fun v17 wr => ∃ k : Nat, v17 = .int .i64 (k : Int) ∧ k ≤ s.cache.length ∧ Aside0 (MI w M N s keep torn cut k wr)) (fun v17 _ => s.cache.length - (intOf v17).toNat)
  case atStart => exact ⟨0, rfl, Nat.zero_le _, HSI⟩
  case round =>
    clear HSI
    obtain ⟨k, rfl, hk, HS⟩ := hrel
    by_cases hlt : k < s.cache.length
    · have hkx : k < xs.length := by rw [HLn.out]; exact hlt
      obtain ⟨x, hx⟩ : ∃ x, x = xs.getD k zPE := ⟨_, rfl⟩
      have hxc : s.cache[k] = x.1 := by
        rw [hx, List.getD_eq_getElem?_getD, List.getElem?_eq_getElem hkx, Option.getD_some]
        have := HX.out
        simp only [← this, List.getElem_map]
      have HXC : Aside0 (mendL s keep torn cut (k + 1) = upd (mendL s keep torn cut k) x.1.1 (over (mendN keep torn cut k) x.1.2 (mendL s keep torn cut k x.1.1))) := ⟨by rw [mendL_succ hlt, hxc]⟩
      have hx1 : 0 ≤ x.1.1 ∧ x.1.1 < s.pages := by rw [← hxc]; exact (HC.out _ (List.getElem_mem hlt)).2
      rcases HP.out with ⟨_, e⟩ | ⟨g, cap, e, hg, hcs⟩
      · rw [e] at hkx
        exact absurd hkx (Nat.not_lt_zero k)
      · injection e with eA eL ec
        clear eL
        subst eA ec
        have hgM : g ≠ M := fun e => by
          obtain ⟨es, clock, hm⟩ := HD.out.mp.blk
          have := hcs k hkx 0 (.int .i64 (xs.getD k zPE).1.1) rfl
          rw [e] at this
          simp [World.cell?, hm] at this
        have hld : (Instr.loadAt 69 (.pointer (some ⟨g, k * 513, none⟩))).run Try.prog wr = .ok (.agg (peV x.1).toArray) wr := by
          refine run_loadAt_mid wr g (k * 513) 69 _ _ (fun j u hj => ?_) Try.underlying69 rfl (by rw [s69]; exact (congrArg some (by have := sz_peV x; simpa using this)).symm)
          rw [hx] at hj
          exact (World.cell?_of_block (HS.out.1.block g hg (fun e => hgM e))).trans (hcs k hkx j u hj)
        have hst : (storeCells ⟨wr.heap.size, 0, none⟩ (peV x.1).toArray.toList 0).run Try.prog (wr.alloc (.cells zq 69)) = .ok () (wr.alloc (.cells (peV x.1).toArray 69)) :=
          run_storeCells_new wr 69 zq _ (by rw [s69]; exact (congrArg some (sz_peV x)).symm) (by rw [HQ.out]; exact (sz_peV x).symm) (one_peV _)
        have hsz5 : (peV x.1).toArray.size = 513 := sz_peV x
        have c1 : Aside0 (wr.cell? ⟨d, 1, none⟩ = some (.map (some M))) := ⟨(World.cell?_of_block (HS.out.1.block d HD.out.lt (fun e => HD.out.dM e))).trans c1'⟩
        have hW2 := Deep.blk_alloc_new wr (.cells (peV x.1).toArray 69)
        obtain ⟨W2, hW2e⟩ : ∃ W2, W2 = wr.alloc (.cells (peV x.1).toArray 69) := ⟨_, rfl⟩
        have HMP := Aside0.mk (HS.out.2.keep (W' := W2) (by rw [hW2e]; exact Below.heap_alloc wr _ M HS.out.2.lt))
        have HK := Aside0.mk (And.intro hlt (And.intro hk hx1))
        generalize hpe : (peV x.1).toArray = pe at hld hst hW2 hW2e hsz5
        have HPE := Aside0.mk hpe
        have HW2 := Aside0.mk (And.intro hW2 hW2e)
        clear hW2 hW2e
        have b0 : decide (k < s.cache.length) = true := decide_eq_true hlt
        have b1 : decide ((k : Int) < (s.cache.length : Int)) = true := decide_eq_true (by omega)
        have b2 : (k < s.cache.length) = True := eq_true hlt
        have b3 : ((k : Int) < (s.cache.length : Int)) = True := eq_true (by omega)
        clear hpe hx hxc hx1 hcs hkx hlt hk
        go_upto_region 4 with (refine wp_load_eq 69 _ rfl hld ?_)
        rw [← HW2.out.2]
        clear hld hst
        rename_i K2 hK2 K1 hK1 K0 hK0
        obtain ⟨p, hp⟩ : ∃ p, p = mendL s keep torn cut k x.1.1 := ⟨_, rfl⟩
        have hp5 : p.length = 512 := by rw [hp]; exact mendL_len HL5.out (fun x hx => (HC.out x hx).1) k HK.out.2.1 _
        have HPP := Aside0.mk hp
        obtain ⟨zp, hzp⟩ : ∃ zp : Array Value, zp = (bvs pgZ).toArray := ⟨_, rfl⟩
        have hz7 : ∀ w, (zeroValue 67).run Try.prog w = .ok (.agg zp) w := fun w => by rw [hzp]; exact zero67 w
        have hst4 : ∀ w : World, (Instr.storeAt 67 (.pointer (some ⟨w.heap.size, 0, none⟩)) (.agg (bvs p).toArray)).run Try.prog (w.alloc (.cells zp 67)) = .ok () (w.alloc (.cells (bvs p).toArray 67)) := fun w => by rw [hzp]; exact run_storeAt67 w _ _ pgZ_len hp5
        have HP5 := Aside0.mk hp5
        obtain ⟨qg, hqg⟩ : ∃ qg, qg = (bvs p).toArray := ⟨_, rfl⟩
        rw [← hqg] at hst4
        have HQG := Aside0.mk hqg
        clear hp hp5 hzp hqg
        have part : ∀ (n : Nat), n = mendN keep torn cut k → ∀ (y22 y23 y24 y25 y26 y27 y28 y29 y30 y31 y32 y33 y34 y35 y36 y37 y38 y39 : Value), K1 ⟨#[Value.pointer (some ⟨d, 0, none⟩), .slice A2 keep.length c3, .int .i64 torn, .int .i64 cut, undef, undef, undef, undef, .int .i64 (k : Int), .pointer (some ⟨wr.heap.size, 0, none⟩), .int .i64 (n : Int), u11, .pointer (some ⟨d, 0, none⟩), .pointer (some ⟨d, 0, none⟩), .pointer (some ⟨d, 2, none⟩), .slice (some ⟨g, 0, none⟩) s.cache.length c, .int .i64 (s.cache.length : Int), .int .i64 (k : Int), .bool true, .int .i64 (k : Int), .pointer (some ⟨g, k * 513, none⟩), .agg pe, y22, y23, y24, y25, y26, y27, y28, y29, y30, y31, y32, y33, y34, y35, y36, y37, y38, y39, u40, u41, u42, u43, u44, u45, u46, u47, u48, u49, u50, u51, u52, u53, u54, u55, u56, u57, u58, u59, undef, undef, undef, undef, undef, undef, undef, undef, undef], []⟩ W2 := by
          intro n hn y22 y23 y24 y25 y26 y27 y28 y29 y30 y31 y32 y33 y34 y35 y36 y37 y38 y39
          refine hK1 _ _ ?_
          have hn5 : n ≤ 512 := by rw [hn]; exact mendYtehgbikleiaagaale _ _ _ _
          have HN := Aside0.mk hn
          have cd1 : W2.cell? ⟨d, 1, none⟩ = some (.map (some M)) := by rw [HW2.out.2]; exact (World.cell?_of_block (Below.heap_alloc wr _ d (Nat.lt_of_lt_of_le HD.out.lt HS.out.1.size))).trans c1.out
          have hd2 : d < W2.heap.size := World.block_lt_of_cell? W2 _ cd1
          have hW2 := HW2.out.1
          rw [← HW2.out.2] at hW2
          have hw2 : wr.heap.size < W2.heap.size := blk_lt hW2
          have cx0 : W2.cell? ⟨wr.heap.size, 0, none⟩ = some (.int .i64 x.1.1) := (blk_cell hW2 0).trans (by rw [← HPE.out]; rfl)
          have hlk : (Instr.lookup 61 (.map (some M)) (.int .i64 x.1.1) false).run Try.prog W2.drew = .ok (.agg qg) W2.drew := by
            have := MP.look (W := W2.drew) (HMP.out.keep (W' := W2.drew) rfl) (i := x.1.1) (by have := HK.out.2.2.1; omega) (by have := HK.out.2.2.2; have := HP2.out; omega)
            rw [← HPP.out] at this
            rw [HQG.out]
            exact this
          have ca1 : (W2.drew.alloc (.cells zp 67)).cell? ⟨d, 1, none⟩ = some (.map (some M)) := (World.cell?_of_block (Below.heap_alloc W2.drew _ d hd2)).trans cd1
          have ca2 : (W2.drew.alloc (.cells zp 67)).cell? ⟨wr.heap.size, 0, none⟩ = some (.int .i64 x.1.1) := (World.cell?_of_block (Below.heap_alloc W2.drew _ _ hw2)).trans cx0
          have ca3 : (Instr.lookup 61 (.map (some M)) (.int .i64 x.1.1) false).run Try.prog (W2.drew.alloc (.cells zp 67)) = .ok (.agg qg) (W2.drew.alloc (.cells zp 67)) := by
            have := MP.look (W := W2.drew.alloc (.cells zp 67)) (HMP.out.keep (Below.heap_alloc W2.drew _ M HMP.out.lt)) (i := x.1.1) (by have := HK.out.2.2.1; omega) (by have := HK.out.2.2.2; have := HP2.out; omega)
            rw [← HPP.out] at this
            rw [HQG.out]
            exact this
          have hs4 := hst4 W2.drew
          obtain ⟨W4, hW4⟩ : ∃ W4, W4 = W2.drew.alloc (.cells qg 67) := ⟨_, rfl⟩
          have h411 : W4.heap[W2.heap.size]? = some (.cells qg 67 (0, 0)) := by rw [hW4]; exact Deep.blk_alloc_new W2.drew _
          have hb4 : Below W2.heap.size W2 W4 := by rw [hW4]; exact below_alloc (below_drew1 (Below.refl _ _)) _
          rw [← hW4] at hs4
          have h4b : W4.heap[wr.heap.size]? = some (.cells pe 69 (0, 0)) := (hb4.block _ hw2).trans hW2
          obtain ⟨W5, hcp, h511, hk5⟩ := over_copy W4.drew W2.heap.size wr.heap.size n x.1.2 p x.2 HP5.out hn5 (by rw [← HQG.out]; exact h411) (fun j u hj => by
            refine (blk_cell (w := W4.drew) h4b (1 + j)).trans ?_
            rw [← HPE.out, Nat.add_comm 1 j]
            simpa [peV] using hj)
          have hb5 : Below W2.heap.size W2 W5 := hb4.trans ((Kp.trans (S := fun j => j = W2.heap.size) (Kp.of_below (below_drew1 (Below.refl _ _))) hk5 (fun _ _ e => e)).below hb4.size (fun j e => Nat.le_of_eq e.symm))
          have cd5 : W5.cell? ⟨d, 1, none⟩ = some (.map (some M)) := (World.cell?_of_block (hb5.block d hd2)).trans cd1
          have cx5 : W5.cell? ⟨wr.heap.size, 0, none⟩ = some (.int .i64 x.1.1) := (World.cell?_of_block (hb5.block _ hw2)).trans cx0
          obtain ⟨og, hog⟩ : ∃ og, og = (bvs (over n x.1.2 p)).toArray := ⟨_, rfl⟩
          have hol := over_len (n := n) (b := x.1.2) (p := p) x.2 HP5.out hn5
          have hl7 : (Instr.loadAt 67 (.pointer (some ⟨W2.heap.size, 0, none⟩))).run Try.prog W5.drew = .ok (.agg og) W5.drew := by
            rw [hog]
            refine run_loadAt_mid W5.drew W2.heap.size 0 67 (bvs (over n x.1.2 p)) _ (fun j u hj => ?_) Try.underlying67 rfl (by rw [s67, bvs_len, hol])
            refine (blk_cell (w := W5.drew) h511 (0 + j)).trans ?_
            rw [Nat.zero_add]
            simpa using hj
          obtain ⟨W6, hmu, hM6, hg6⟩ := MP.store (W := W5.drew) (HMP.out.keep (W' := W5.drew) (hb5.block M HMP.out.lt)) (by have := HT.out; have := HK.out.1; unfold maxLen; omega) (i := x.1.1) (by have := HK.out.2.2.1; omega) (by have := HK.out.2.2.2; have := HP2.out; omega) (over n x.1.2 p)
          unfold pgV at hmu
          rw [← hog] at hmu
          have HE : Aside0 (MI w M N s keep torn cut (k + 1) W6) := ⟨(HS.out.1.trans (Kp.of_below (S := fun j => j = M) (by rw [HW2.out.2]; exact below_alloc (Below.refl _ _) _)) (fun _ _ e => e)).trans ((Kp.of_below hb5).trans (Kp.grown (S := fun j => j = M) (a := W5) ⟨hg6.os, hg6.tape, hg6.output, hg6.size, hg6.block⟩ (fun j e => by injection e with e; exact e.symm)) (fun _ _ e => e)) (fun _ _ e => e), by rw [HXC.out, ← HPP.out, ← HN.out]; exact hM6⟩
          have hlk' := Aside0.mk hlk
          have hs4' := Aside0.mk hs4
          have hcp' := Aside0.mk hcp
          have hl7' := Aside0.mk hl7
          have hmu' := Aside0.mk hmu
          have cd1' := Aside0.mk cd1
          have cx0' := Aside0.mk cx0
          have cd5' := Aside0.mk cd5
          have cx5' := Aside0.mk cx5
          have ca1' := Aside0.mk ca1
          have ca2' := Aside0.mk ca2
          have ca3' := Aside0.mk ca3
          have hn0 : (0 : Int) ≤ (n : Int) := by omega
          have hn1 : (n : Int) ≤ 512 := by omega
          have hn2 : (n ≤ 512) = True := eq_true hn5
          clear hn hlk hs4 hcp hl7 hmu cd1 cx0 cd5 cx5 ca1 ca2 ca3 hd2 hW2 hw2 h411 hb4 h4b hk5 hb5 h511 hM6 hg6 hol hog hW4 hK1 hK0 hst4 hz9 hsz5 c1' c2
          go_upto_region 8 with fail
          refine start_ (n := 9) (S := fun w' => w'.cell? ⟨d, 1, none⟩ = some (.map (some M)) ∧ w'.cell? ⟨wr.heap.size, 0, none⟩ = some (.int .i64 x.1.1) ∧ (Instr.lookup 61 (.map (some M)) (.int .i64 x.1.1) false).run Try.prog w' = .ok (.agg qg) w') (ds := [8]) #[false, false, false, false, false, false, false, false, false] (by kernel_rfl) rfl rfl ⟨cd1'.out, cx0'.out, hlk'.out⟩ (fun hHeld => ?_)
          refine pure_ (i := 0) (N := some 40) (v := ?_) (a' := ?_) #[true, false, false, false, false, false, false, false, false] rfl rfl (by kernel_rfl) (fun _ _ _ h => h) (Or.inl ⟨by rfl, ?_⟩) ?_ ?_
          rotate_left
          · intro w'
            go_simp
            with_reducible rfl
          rotate_left
          · simp only [Act.put, List.setIfInBounds_toArray, List.set_cons_zero, List.set_cons_succ, i64_w, i32_w]
            rfl
          refine pure_ (i := 1) (N := some 41) (v := ?_) (a' := ?_) #[true, true, false, false, false, false, false, false, false] rfl rfl (by kernel_rfl) (fun _ _ _ h => h) (Or.inl ⟨by rfl, ?_⟩) ?_ ?_
          rotate_left
          · intro w'
            go_simp
            with_reducible rfl
          rotate_left
          · simp only [Act.put, List.setIfInBounds_toArray, List.set_cons_zero, List.set_cons_succ, i64_w, i32_w]
            rfl
          refine pure_ (i := 2) (N := some 42) (v := ?_) (a' := ?_) #[true, true, true, false, false, false, false, false, false] rfl rfl (by kernel_rfl) (fun _ _ _ h => h) (Or.inl ⟨by rfl, ?_⟩) ?_ ?_
          rotate_left
          · intro w'
            go_simp
            with_reducible rfl
          rotate_left
          · simp only [Act.put, List.setIfInBounds_toArray, List.set_cons_zero, List.set_cons_succ, i64_w, i32_w]
            rfl
          refine pure_ (i := 4) (N := some 44) (v := ?_) (a' := ?_) #[true, true, true, false, true, false, false, false, false] rfl rfl (by kernel_rfl) (fun _ _ _ h => h) (Or.inl ⟨by rfl, ?_⟩) ?_ ?_
          rotate_left
          · intro w'
            go_simp
            with_reducible rfl
          rotate_left
          · simp only [Act.put, List.setIfInBounds_toArray, List.set_cons_zero, List.set_cons_succ, i64_w, i32_w]
            rfl
          refine take_ (i := 3) (N := some 43) (v := ?_) (a' := ?_) #[true, true, true, true, true, false, false, false, false] rfl rfl (by kernel_rfl) (fun _ _ _ h => h) (Or.inl ⟨by rfl, ?_⟩) hHeld ?_ ?_
          rotate_left
          · rintro w' ⟨s0, s1, s2⟩
            go_simp
            with_reducible rfl
          rotate_left
          · simp only [Act.put, List.setIfInBounds_toArray, List.set_cons_zero, List.set_cons_succ, i64_w, i32_w]
            rfl
          refine take_ (i := 5) (N := some 45) (v := ?_) (a' := ?_) #[true, true, true, true, true, true, false, false, false] rfl rfl (by kernel_rfl) (fun _ _ _ h => h) (Or.inl ⟨by rfl, ?_⟩) hHeld ?_ ?_
          rotate_left
          · rintro w' ⟨s0, s1, s2⟩
            go_simp
            with_reducible rfl
          rotate_left
          · simp only [Act.put, List.setIfInBounds_toArray, List.set_cons_zero, List.set_cons_succ, i64_w, i32_w]
            rfl
          refine take_ (i := 6) (N := some 46) (v := ?_) (a' := ?_) #[true, true, true, true, true, true, true, false, false] rfl rfl (by kernel_rfl) (fun _ _ _ h => h) (Or.inl ⟨by rfl, ?_⟩) hHeld ?_ ?_
          rotate_left
          · rintro w' ⟨s0, s1, s2⟩
            refine Eq.trans (exec_lookup2 61 (.tmp 43) (.tmp 45) false rfl (vx := .map (some M)) (vy := .int .i64 x.1.1) (by rfl) (by rfl) s2) ?_
            with_reducible rfl
          rotate_left
          · simp only [Act.put, List.setIfInBounds_toArray, List.set_cons_zero, List.set_cons_succ, i64_w, i32_w]
            rfl
          refine one_ (i := 7) (N := some 11) #[true, true, true, true, true, true, true, true, false] rfl rfl (by kernel_rfl) (by decide) (fun K hK => ?_)
          refine value_ (w1 := W2.drew.alloc (.cells zp 67)) (v := .pointer (some ⟨W2.heap.size, 0, none⟩)) (by rfl) rfl (exec_alloc 67 rfl zp hz7) ?_
          refine hK.out _ _ ⟨ca1'.out, ca2'.out, ca3'.out⟩ (fun hHeld => ?_)
          clear hK K
          refine norm_ (a' := ?_) ?_ ?_
          rotate_left
          · show Act.put _ (some 11) _ = _
            simp only [Act.put, List.setIfInBounds_toArray, List.set_cons_zero, List.set_cons_succ, i64_w, i32_w]
            rfl
          refine last_ (i := 8) (N := none) #[true, true, true, true, true, true, true, true, true] rfl rfl (by kernel_rfl) (by decide) (fun K hK => ?_)
          refine skip_ (w1 := W4) (by rfl) rfl (exec_store 67 (.tmp 11) (.tmp 46) rfl hs4'.out) ?_
          refine hK.out _ _ ?_
          clear hK K
          refine done_ (by kernel_rfl) ?_
          go_upto_region 9 with fail
          refine start_ (n := 5) (S := fun w' => True) (ds := [4]) #[false, false, false, false, false] (by kernel_rfl) rfl rfl trivial (fun hHeld => ?_)
          refine pure_ (i := 0) (N := some 47) (v := ?_) (a' := ?_) #[true, false, false, false, false] rfl rfl (by kernel_rfl) (fun _ _ _ h => h) (Or.inl ⟨by rfl, ?_⟩) ?_ ?_
          rotate_left
          · intro w'
            go_simp
            with_reducible rfl
          rotate_left
          · simp only [Act.put, List.setIfInBounds_toArray, List.set_cons_zero, List.set_cons_succ, i64_w, i32_w]
            rfl
          refine pure_ (i := 1) (N := some 48) (v := ?_) (a' := ?_) #[true, true, false, false, false] rfl rfl (by kernel_rfl) (fun _ _ _ h => h) (Or.inl ⟨by rfl, ?_⟩) ?_ ?_
          rotate_left
          · intro w'
            go_simp
            with_reducible rfl
          rotate_left
          · simp only [Act.put, List.setIfInBounds_toArray, List.set_cons_zero, List.set_cons_succ, i64_w, i32_w]
            rfl
          refine pure_ (i := 2) (N := some 49) (v := ?_) (a' := ?_) #[true, true, true, false, false] rfl rfl (by kernel_rfl) (fun _ _ _ h => h) (Or.inl ⟨by rfl, ?_⟩) ?_ ?_
          rotate_left
          · intro w'
            go_simp
            with_reducible rfl
          rotate_left
          · simp only [Act.put, List.setIfInBounds_toArray, List.set_cons_zero, List.set_cons_succ, i64_w, i32_w]
            rfl
          refine pure_ (i := 3) (N := some 50) (v := ?_) (a' := ?_) #[true, true, true, true, false] rfl rfl (by kernel_rfl) (fun _ _ _ h => h) (Or.inl ⟨by rfl, ?_⟩) ?_ ?_
          rotate_left
          · intro w'
            go_simp
            with_reducible rfl
          rotate_left
          · simp only [Act.put, List.setIfInBounds_toArray, List.set_cons_zero, List.set_cons_succ, i64_w, i32_w]
            rfl
          refine last_ (i := 4) (N := some 51) #[true, true, true, true, true] rfl rfl (by kernel_rfl) (by decide) (fun K hK => ?_)
          refine value_ (w1 := W5) (v := .int .i64 (n : Int)) (by rfl) rfl (exec_copy (.tmp 48) (.tmp 50) 30 30 rfl (by rfl) (by rfl) hcp'.out) ?_
          refine hK.out _ _ ?_
          clear hK K
          refine norm_ (a' := ?_) ?_ ?_
          rotate_left
          · show Act.put _ (some 51) _ = _
            simp only [Act.put, List.setIfInBounds_toArray, List.set_cons_zero, List.set_cons_succ, i64_w, i32_w]
            rfl
          refine done_ (by kernel_rfl) ?_
          clear hz7
          go_upto_region 10 with fail
          refine start_ (n := 8) (S := fun w' => w'.cell? ⟨d, 1, none⟩ = some (.map (some M)) ∧ w'.cell? ⟨wr.heap.size, 0, none⟩ = some (.int .i64 x.1.1)) (ds := [7]) #[false, false, false, false, false, false, false, false] (by kernel_rfl) rfl rfl ⟨cd5'.out, cx5'.out⟩ (fun hHeld => ?_)
          refine pure_ (i := 0) (N := some 52) (v := ?_) (a' := ?_) #[true, false, false, false, false, false, false, false] rfl rfl (by kernel_rfl) (fun _ _ _ h => h) (Or.inl ⟨by rfl, ?_⟩) ?_ ?_
          rotate_left
          · intro w'
            go_simp
            with_reducible rfl
          rotate_left
          · simp only [Act.put, List.setIfInBounds_toArray, List.set_cons_zero, List.set_cons_succ, i64_w, i32_w]
            rfl
          refine pure_ (i := 1) (N := some 53) (v := ?_) (a' := ?_) #[true, true, false, false, false, false, false, false] rfl rfl (by kernel_rfl) (fun _ _ _ h => h) (Or.inl ⟨by rfl, ?_⟩) ?_ ?_
          rotate_left
          · intro w'
            go_simp
            with_reducible rfl
          rotate_left
          · simp only [Act.put, List.setIfInBounds_toArray, List.set_cons_zero, List.set_cons_succ, i64_w, i32_w]
            rfl
          refine pure_ (i := 2) (N := some 54) (v := ?_) (a' := ?_) #[true, true, true, false, false, false, false, false] rfl rfl (by kernel_rfl) (fun _ _ _ h => h) (Or.inl ⟨by rfl, ?_⟩) ?_ ?_
          rotate_left
          · intro w'
            go_simp
            with_reducible rfl
          rotate_left
          · simp only [Act.put, List.setIfInBounds_toArray, List.set_cons_zero, List.set_cons_succ, i64_w, i32_w]
            rfl
          refine pure_ (i := 4) (N := some 56) (v := ?_) (a' := ?_) #[true, true, true, false, true, false, false, false] rfl rfl (by kernel_rfl) (fun _ _ _ h => h) (Or.inl ⟨by rfl, ?_⟩) ?_ ?_
          rotate_left
          · intro w'
            go_simp
            with_reducible rfl
          rotate_left
          · simp only [Act.put, List.setIfInBounds_toArray, List.set_cons_zero, List.set_cons_succ, i64_w, i32_w]
            rfl
          refine take_ (i := 3) (N := some 55) (v := ?_) (a' := ?_) #[true, true, true, true, true, false, false, false] rfl rfl (by kernel_rfl) (fun _ _ _ h => h) (Or.inl ⟨by rfl, ?_⟩) hHeld ?_ ?_
          rotate_left
          · rintro w' ⟨s0, s1⟩
            go_simp
            with_reducible rfl
          rotate_left
          · simp only [Act.put, List.setIfInBounds_toArray, List.set_cons_zero, List.set_cons_succ, i64_w, i32_w]
            rfl
          refine take_ (i := 5) (N := some 57) (v := ?_) (a' := ?_) #[true, true, true, true, true, true, false, false] rfl rfl (by kernel_rfl) (fun _ _ _ h => h) (Or.inl ⟨by rfl, ?_⟩) hHeld ?_ ?_
          rotate_left
          · rintro w' ⟨s0, s1⟩
            go_simp
            with_reducible rfl
          rotate_left
          · simp only [Act.put, List.setIfInBounds_toArray, List.set_cons_zero, List.set_cons_succ, i64_w, i32_w]
            rfl
          refine one_ (i := 6) (N := some 58) #[true, true, true, true, true, true, true, false] rfl rfl (by kernel_rfl) (by decide) (fun K hK => ?_)
          refine value_ (w1 := W5.drew) (v := .agg og) (by rfl) rfl (exec_load 67 (.tmp 11) rfl hl7'.out) ?_
          refine hK.out _ _ ⟨cd5'.out, cx5'.out⟩ (fun hHeld => ?_)
          clear hK K
          refine norm_ (a' := ?_) ?_ ?_
          rotate_left
          · show Act.put _ (some 58) _ = _
            simp only [Act.put, List.setIfInBounds_toArray, List.set_cons_zero, List.set_cons_succ, i64_w, i32_w]
            rfl
          refine last_ (i := 7) (N := none) #[true, true, true, true, true, true, true, true] rfl rfl (by kernel_rfl) (by decide) (fun K hK => ?_)
          refine skip_ (w1 := W6) (by rfl) rfl (exec_mapUpdate 61 (.tmp 55) (.tmp 57) (.tmp 58) rfl hmu'.out) ?_
          refine hK.out _ _ ?_
          clear hK K
          refine done_ (by kernel_rfl) ?_
          have hkb : k < 1073741824 := by have := HT.out; have := HK.out.1; omega
          go_wp2
          go_roundw
          case rel => exact ⟨k + 1, by go_num, HK.out.1, HE⟩
          case measure => exact meas_lt HK.out.1 (by go_num)
        clear hK1 hz7 hst4 hsz5 hz9
        have hex : ∀ (n : Nat) (z : Int), z = (n : Int) → (Value.int .i64 z) = .int .i64 (n : Int) := fun n z e => by rw [e]
        by_cases ht : (k : Int) = torn
        · have t0 : ((k : Int) == torn) = true := beq_iff_eq.mpr ht
          have t1 : decide ((k : Int) = torn) = true := decide_eq_true ht
          have hn : mendN keep torn cut k = (max 0 (min cut 512)).toNat := if_pos ht
          by_cases hc0 : cut ≤ 0
          · have e : (mendN keep torn cut k : Int) = 0 := by rw [hn]; omega
            have hq := part _ rfl
            rw [e] at hq
            have q1 : (512 < cut) = False := eq_false (by omega)
            have q2 : (0 < cut) = False := eq_false (by omega)
            clear part ht hn hc0 e
            go_wp2
            exact hq _ _ _ _ _ _ _ _ _ _ _ _ _ _ _ _ _ _
          · by_cases hc5 : 512 < cut
            · have e : (mendN keep torn cut k : Int) = 512 := by rw [hn]; omega
              have hq := part _ rfl
              rw [e] at hq
              have q1 : (512 < cut) = True := eq_true hc5
              clear part ht hn hc0 hc5 e
              go_wp2
              exact hq _ _ _ _ _ _ _ _ _ _ _ _ _ _ _ _ _ _
            · have e : (mendN keep torn cut k : Int) = cut := by rw [hn]; omega
              have hq := part _ rfl
              rw [e] at hq
              have q1 : (512 < cut) = False := eq_false hc5
              have q2 : (0 < cut) = True := eq_true (by omega)
              clear part ht hn hc0 hc5 e
              go_wp2
              exact hq _ _ _ _ _ _ _ _ _ _ _ _ _ _ _ _ _ _
        · have t0 : ((k : Int) == torn) = false := beq_eq_false_iff_ne.mpr ht
          have t1 : decide ((k : Int) = torn) = false := decide_eq_false ht
          have hn : mendN keep torn cut k = if keep.getD k false = true then 512 else 0 := if_neg ht
          by_cases hkl : k < keep.length
          · obtain ⟨ad, ea, hca⟩ := Kd.at_bool HKR.out (k : Int) (by omega) (by omega)
            subst ea
            rw [Int.toNat_natCast] at hca
            have hrk : rdOf false keep (k : Int) = keep.getD k false := by simp [rdOf]
            rw [hrk] at hca
            have hcb : W2.cell? (ad.add k) = some (.bool (keep.getD k false)) := by
              have hbl := World.block_lt_of_cell? w _ hca
              rw [HW2.out.2]
              refine (World.cell?_of_block (Below.heap_alloc wr _ _ (Nat.lt_of_lt_of_le hbl HS.out.1.size))).trans ?_
              refine (World.cell?_of_block (HS.out.1.block _ hbl (fun e => HKM.out (List.ne_nil_of_length_pos (by omega)) ad rfl ?_))).trans hca
              rw [← e]
              unfold Addr.add
              split <;> rfl
            have l1 : ((k : Int) < (keep.length : Int)) = True := eq_true (by omega)
            have l2 : decide ((k : Int) < (keep.length : Int)) = true := decide_eq_true (by omega)
            have l3 : (k < keep.length) = True := eq_true hkl
            have l4 : decide (k < keep.length) = true := decide_eq_true hkl
            cases hkb : keep.getD k false with
            | true =>
              rw [hkb] at hcb
              have e : (mendN keep torn cut k : Int) = 512 := by rw [hn, hkb]; rfl
              have hq := part _ rfl
              rw [e] at hq
              clear part ht hn e hkl hca hrk hkb
              go_wp2
              exact hq _ _ _ _ _ _ _ _ _ _ _ _ _ _ _ _ _ _
            | false =>
              rw [hkb] at hcb
              have e : (mendN keep torn cut k : Int) = 0 := by rw [hn, hkb]; rfl
              have hq := part _ rfl
              rw [e] at hq
              clear part ht hn e hkl hca hrk hkb
              go_wp2
              exact hq _ _ _ _ _ _ _ _ _ _ _ _ _ _ _ _ _ _
          · have e : (mendN keep torn cut k : Int) = 0 := by rw [hn, List.getD_eq_getElem?_getD, List.getElem?_eq_none (by omega)]; rfl
            have hq := part _ rfl
            rw [e] at hq
            have l1 : ((k : Int) < (keep.length : Int)) = False := eq_false (by omega)
            have l2 : decide ((k : Int) < (keep.length : Int)) = false := decide_eq_false (by omega)
            have l3 : (k < keep.length) = False := eq_false hkl
            have l4 : decide (k < keep.length) = false := decide_eq_false hkl
            clear part ht hn e hkl
            go_wp2
            exact hq _ _ _ _ _ _ _ _ _ _ _ _ _ _ _ _ _ _
    · have hke : k = s.cache.length := by omega
      subst hke
      have b0 : decide (s.cache.length < s.cache.length) = false := decide_eq_false (by omega)
      have b1 : decide ((s.cache.length : Int) < (s.cache.length : Int)) = false := decide_eq_false (by omega)
      have hb := (HS.out.1.block d HD.out.lt (fun e => HD.out.dM e)).trans HD.out.blk
      have c2r : wr.cell? ⟨d, 2, none⟩ = some (.slice A s.cache.length c) := (blk_cell hb 2).trans rfl
      have f2r := blk_frozen hb 2
      have c3r : wr.cell? ⟨d, 3, none⟩ = some (.int .i64 s.left) := (blk_cell hb 3).trans rfl
      have f3r := blk_frozen hb 3
      have c4r : wr.cell? ⟨d, 4, none⟩ = some (.bool s.down) := (blk_cell hb 4).trans rfl
      have f4r := blk_frozen hb 4
      have HE : Aside0 (DD (((wr.setCell ⟨d, 2, none⟩ (.slice none 0 0)).setCell ⟨d, 3, none⟩ (.int .i64 (-1))).setCell ⟨d, 4, none⟩ (.bool false)) base d M (N + s.cache.length) (.slice none 0 0) (mendS s keep torn cut)) := ⟨{
        bd := HD.out.bd
        bm := HD.out.bm
        blk := blk_put (blk_put (blk_put hb 2 _ rfl) 3 _ rfl) 4 _ rfl
        mp := ((HS.out.2.keep (Below.heap_setCell wr _ _ M (fun e => HD.out.dM e.symm))).keep (Below.heap_setCell _ _ _ M (fun e => HD.out.dM e.symm))).keep (Below.heap_setCell _ _ _ M (fun e => HD.out.dM e.symm))
        row := Kd.R_nil _ _ _ _ _
        tot := by have := HT.out; simpa [mendS] using this
        p1 := HD.out.p1
        p2 := HD.out.p2
        l512 := mendL_len HL5.out (fun x hx => (HC.out x hx).1) _ (Nat.le_refl _)
        c512 := fun x hx => by simp [mendS] at hx
        lf := by simp [mendS] }⟩
      have HE2 : Aside0 (MV d M (.slice A s.cache.length c) (.slice none 0 0) w (((wr.setCell ⟨d, 2, none⟩ (.slice none 0 0)).setCell ⟨d, 3, none⟩ (.int .i64 (-1))).setCell ⟨d, 4, none⟩ (.bool false))) := ⟨(((Kp.wide HS.out.1 (fun j e => .inr (.inl e))).trans (Kp.set (S := FD d M (.slice A s.cache.length c)) wr _ _ (.inl rfl)) (fun j _ e => e)).trans (Kp.set (S := FD d M (.slice A s.cache.length c)) _ _ _ (.inl rfl)) (fun j _ e => e)).trans (Kp.set (S := FD d M (.slice A s.cache.length c)) _ _ _ (.inl rfl)) (fun j _ e => e), fun k hk => by simp [Value.ownBlock] at hk⟩
      clear hlt hk hb
      go_wp2
      go_end0
      exact ⟨⟨_, rfl⟩, HE.out, HE2.out⟩
end Go.Proofs.Ytehgbikleiaagaa.P
end
section
namespace Go.Proofs.Ytehgbikleiaagaa.P
open Go.RowKit Go.Proofs.YtehgbikleiaagaaW.PrintWords Go.Proofs.YtehgbikleiaagaaW.PrintLast Go.Proofs.YtehgbikleiaagaaW.PrintMore
attribute [local go_sem] max2_int min2_int max_two min_two max_three min_three max_four min_four
set_option linter.unusedVariables false
set_option linter.unusedSimpArgs false
structure TF (base : Nat) (w w' : World) : Prop where
  b : Below base w w'
  size : w.heap.size ≤ w'.heap.size
  blk : ∀ (g : Nat) (cs : Array Value) (t : TypeId) (fr : Nat × Nat), w.heap[g]? = some (Obj.cells cs t fr) → t ≠ 64 → t ≠ 69 → w'.heap[g]? = some (Obj.cells cs t fr)
theorem TF.refl (base : Nat) (w : World) : TF base w w := ⟨Below.refl _ _, Nat.le_refl _, fun _ _ _ _ h _ _ => h⟩
theorem TF.trans {base : Nat} {a b c : World} (h : TF base a b) (k : TF base b c) : TF base a c := ⟨h.b.trans k.b, Nat.le_trans h.size k.size, fun g cs t fr hb h1 h2 => k.blk g cs t fr (h.blk g cs t fr hb h1 h2) h1 h2⟩
theorem TF.mono {base base' : Nat} {a b : World} (h : TF base a b) (hb : base' ≤ base) : TF base' a b := ⟨h.b.mono hb, h.size, h.blk⟩
theorem TF.of_below {base : Nat} {a b : World} (h : Below a.heap.size a b) (hb : base ≤ a.heap.size) : TF base a b := ⟨h.mono hb, h.size, fun g cs t fr hg _ _ => blk_below hg h⟩
theorem DD.fd_typed {W : World} {base d M N : Nat} {v : Value} {s : Dk} (h : DD W base d M N v s) {g : Nat} {cs : Array Value} {t : TypeId} {fr : Nat × Nat} (hb : W.heap[g]? = some (.cells cs t fr)) (h1 : t ≠ 64) (h2 : t ≠ 69) : ¬ FD d M v g := by
  rintro (rfl | rfl | e)
  · have := h.blk
    rw [hb] at this
    cases this
    exact h1 rfl
  · obtain ⟨es, clock, hm⟩ := h.mp.blk
    rw [hb] at hm
    cases hm
  · obtain ⟨cells, hc⟩ := Kd.R_typed h.row g e.symm
    rw [hb] at hc
    cases hc
    exact h2 rfl
theorem DD.tf {w w' : World} {base d M N : Nat} {v v' : Value} {s : Dk} (h : DD w base d M N v s) (hm : MV d M v v' w w') : TF base w w' :=
  ⟨h.below hm, hm.kp.size, fun g cs t fr hb h1 h2 => (hm.kp.block g (blk_lt hb) (h.fd_typed hb h1 h2)).trans hb⟩
theorem R_tf {α : Type} {d : Kd α} {e b base : Nat} {ok : Nat → Prop} {w w' : World} {v : Value} {xs : List α} (h : d.R e w b ok v xs) (ht : TF base w w') (hq : ∀ q, q ∈ e :: d.E → q ≠ 64 ∧ q ≠ 69) : d.R e w' b ok v xs := by
  refine Kd.R_mono (Kd.R_move (Kd.R_bound h) (fun k hk => ?_)) (fun _ hk => hk.1)
  obtain ⟨_, _, _, q, hqm, cells, hc⟩ := hk
  rw [hc, ht.blk k cells q _ hc (hq q hqm).1 (hq q hqm).2]
theorem R5_tf {b base : Nat} {ok : Nat → Prop} {w w' : World} {v : Value} {xs : List Int} (h : Kd.R (Kd.int .u8) 5 w b ok v xs) (ht : TF base w w') : Kd.R (Kd.int .u8) 5 w' b ok v xs :=
  R_tf h ht (fun q hq => by simp [Kd.int, Kd.scalar] at hq; subst hq; decide)
def DS (W : World) (base d : Nat) (s : Dk) (C : Nat) : Prop := ∃ M N v, DD W base d M N v s ∧ N + s.cache.length ≤ C
section
variable {w w' : World} {base d C : Nat} {s : Dk}
theorem DS.step (h : DS w base d s C) (hb : Below w.heap.size w w') : DS w' base d s C := by
  obtain ⟨M, N, v, h, hc⟩ := h
  exact ⟨M, N, v, h.step hb, hc⟩
theorem DS.base_le (h : DS w base d s C) : base ≤ w.heap.size := by
  obtain ⟨M, N, v, h, hc⟩ := h
  exact Nat.le_trans h.bd (Nat.le_of_lt h.lt)
theorem DS.tf (h : DS w base d s C) (hb : Below w.heap.size w w') : TF base w w' := TF.of_below hb h.base_le
theorem DS.more {C' : Nat} (h : DS w base d s C) (hC : C ≤ C') : DS w base d s C' := by
  obtain ⟨M, N, v, h, hc⟩ := h
  exact ⟨M, N, v, h, Nat.le_trans hc hC⟩
theorem DS.p1 (h : DS w base d s C) : 1 ≤ s.pages := by obtain ⟨M, N, v, h, hc⟩ := h; exact h.p1
theorem DS.l512 (h : DS w base d s C) : ∀ i, (s.last i).length = 512 := by obtain ⟨M, N, v, h, hc⟩ := h; exact h.l512
theorem DS.c512 (h : DS w base d s C) : ∀ x ∈ s.cache, x.2.length = 512 ∧ 0 ≤ x.1 ∧ x.1 < s.pages := by obtain ⟨M, N, v, h, hc⟩ := h; exact h.c512
end
theorem ds_new (p : Int) (h0 : 1 ≤ p) (h1 : p ≤ 4096) (w : World) :
    Calls Try.prog 10 #[.int .i64 p] w fun e w' => ∃ d, e = .returned (.tuple #[.pointer (some ⟨d, 0, none⟩), .int .i64 0]) ∧ DS w' w.heap.size d (newS p) 0 ∧ Below w.heap.size w w' :=
  (new_calls p h0 h1 w).mono fun e w' ⟨d, M, he, hd, hb⟩ => ⟨d, he, ⟨M, 0, _, hd, by simp [newS]⟩, hb⟩
def writeE (s : Dk) (n : Int) (b : List Int) : Int := if lookP s n ≠ 0 then lookP s n else if b.length ≠ 512 then 3 else if s.left = 0 then 9 else 0
def writeD (s : Dk) (n : Int) (b : List Int) : Dk := if lookP s n ≠ 0 then s else if b.length ≠ 512 then s else if s.left = 0 then stepS s else writeS s n b
theorem row_range {w : World} {b g cap : Nat} {ok : Nat → Prop} {xs : List Int} (h : Kd.R (Kd.int .u8) 5 w b ok (.slice (some ⟨g, 0, none⟩) xs.length cap) xs) : w.rangeAt g 0 (bvs xs) := by
  intro j u hj
  have hlt : j < xs.length := by
    have := (List.getElem?_eq_some_iff.1 hj).1
    rwa [bvs_len] at this
  have hc := (Kd.R_celln 0 h (j : Int) (by omega) (by omega)).1
  rw [Int.toNat_natCast] at hc
  rw [Nat.zero_add, hc]
  simp only [bvs, List.getElem?_map, List.getElem?_eq_getElem hlt, Option.map_some, Option.some.injEq] at hj
  rw [← hj]
  simp [rdOf, List.getElem?_eq_getElem hlt]
theorem ds_write {base d C : Nat} {s : Dk} (n : Int) (own : Value) (b : List Int) {b2 : Nat} {ok : Nat → Prop} (w : World) (h : DS w base d s C) (hC : C < 1073741824) (ho : Kd.R (Kd.int .u8) 5 w b2 ok own b) :
    Calls Try.prog 12 #[.pointer (some ⟨d, 0, none⟩), .int .i64 n, own] w fun e w' => e = .returned (.int .i64 (writeE s n b)) ∧ DS w' base d (writeD s n b) (C + 1) ∧ TF base w w' := by
  obtain ⟨M, N, v, h, hc⟩ := h
  have hbl : base ≤ w.heap.size := Nat.le_trans h.bd (Nat.le_of_lt h.lt)
  unfold writeE writeD
  by_cases hl : lookP s n ≠ 0
  · rw [if_pos hl, if_pos hl]
    obtain ⟨A, c, e⟩ := Kd.R_slice ho
    subst e
    exact (write_look n A b.length c hl w h).mono fun e w' ⟨he, hb⟩ => ⟨he, ⟨M, N, v, h.step hb, by omega⟩, TF.of_below hb hbl⟩
  · rw [if_neg hl, if_neg hl]
    have hl0 : lookP s n = 0 := Decidable.not_not.1 hl
    by_cases h5 : b.length ≠ 512
    · rw [if_pos h5, if_pos h5]
      obtain ⟨A, c, e⟩ := Kd.R_slice ho
      subst e
      exact (write_len n A b.length c hl0 h5 w h).mono fun e w' ⟨he, hb⟩ => ⟨he, ⟨M, N, v, h.step hb, by omega⟩, TF.of_below hb hbl⟩
    · rw [if_neg h5, if_neg h5]
      have h50 : b.length = 512 := Decidable.not_not.1 h5
      by_cases hs : s.left = 0
      · rw [if_pos hs, if_pos hs]
        obtain ⟨A, c, e⟩ := Kd.R_slice ho
        subst e
        rw [h50]
        exact (write_down n A c hl0 hs w h).mono fun e w' ⟨he, hd, hm⟩ => ⟨he, ⟨M, N, v, hd, by rw [stepS_cache]; omega⟩, h.tf hm⟩
      · rw [if_neg hs, if_neg hs]
        obtain ⟨g, cap, e, _, hg, cells, hcell⟩ := Kd.R_form ho (by omega)
        subst e
        have hr := row_range ho
        rw [h50]
        exact (write_ok n b g cap hl0 h50 hs w h (by omega) hg (h.fd_typed hcell (by decide) (by decide)) hr).mono fun e w' ⟨he, v', hd, hm⟩ => ⟨he, ⟨M, N, v', hd, by simp [writeS]; omega⟩, h.tf hm⟩
def syncE (s : Dk) : Int := if s.down = true then 9 else if s.left = 0 then 9 else 0
def syncD (s : Dk) : Dk := if s.down = true then s else if s.left = 0 then stepS s else syncS s
theorem ds_sync {base d C : Nat} {s : Dk} (w : World) (h : DS w base d s C) :
    Calls Try.prog 13 #[.pointer (some ⟨d, 0, none⟩)] w fun e w' => e = .returned (.int .i64 (syncE s)) ∧ DS w' base d (syncD s) C ∧ TF base w w' := by
  obtain ⟨M, N, v, h, hc⟩ := h
  have hbl : base ≤ w.heap.size := Nat.le_trans h.bd (Nat.le_of_lt h.lt)
  unfold syncE syncD
  by_cases hd : s.down = true
  · rw [if_pos hd, if_pos hd]
    exact (sync_down hd w h).mono fun e w' ⟨he, hb⟩ => ⟨he, ⟨M, N, v, h.step hb, hc⟩, TF.of_below hb hbl⟩
  · rw [if_neg hd, if_neg hd]
    have hd0 : s.down = false := by simpa using hd
    by_cases hs : s.left = 0
    · rw [if_pos hs, if_pos hs]
      exact (sync_fail hd0 hs w h).mono fun e w' ⟨he, hd, hm⟩ => ⟨he, ⟨M, N, v, hd, by rw [stepS_cache]; exact hc⟩, h.tf hm⟩
    · rw [if_neg hs, if_neg hs]
      exact (sync_ok hd0 hs w h).mono fun e w' ⟨he, hd, hm⟩ => ⟨he, ⟨M, _, _, hd, by simpa [syncS] using hc⟩, h.tf hm⟩
theorem ds_mend {base d C : Nat} {s : Dk} (A2 : Option Addr) (c3 : Nat) (keep : List Bool) (torn cut : Int) (w : World) (h : DS w base d s C) (hkr : Kd.C Kd.bool w A2 keep.length keep) :
    Calls Try.prog 14 #[.pointer (some ⟨d, 0, none⟩), .slice A2 keep.length c3, .int .i64 torn, .int .i64 cut] w fun e w' => (∃ u, e = .returned u) ∧ DS w' base d (mendS s keep torn cut) C ∧ TF base w w' := by
  obtain ⟨M, N, v, h, hc⟩ := h
  have hkm : keep ≠ [] → ∀ a, A2 = some a → a.block ≠ M := by
    rintro hne a rfl e
    have hpos : 0 < keep.length := List.length_pos_iff.2 hne
    obtain ⟨ad, e1, hcell⟩ := Kd.at_bool hkr 0 (by omega) (by omega)
    injection e1 with e1
    subst e1
    obtain ⟨es, clock, hm⟩ := h.mp.blk
    have hb : (a.add (0 : Int).toNat).block = M := by rw [← e]; unfold Addr.add; split <;> rfl
    unfold World.cell? at hcell
    rw [hb, hm] at hcell
    cases hcell
  exact (mend_calls A2 c3 keep torn cut w h hkr hkm).mono fun e w' ⟨he, hd, hm⟩ => ⟨he, ⟨M, _, _, hd, by simpa [mendS] using hc⟩, h.tf hm⟩
theorem ds_read {base d C : Nat} {s : Dk} (n : Int) (w : World) (h : DS w base d s C) :
    Calls Try.prog 15 #[.pointer (some ⟨d, 0, none⟩), .int .i64 n] w fun e w' => ∃ v, e = .returned (.tuple #[v, .int .i64 (lookP s n)]) ∧ Below w.heap.size w w' ∧
      ((lookP s n ≠ 0 ∧ v = .slice none 0 0) ∨ (lookP s n = 0 ∧ ∃ g, w.heap.size ≤ g ∧ v = .slice (some ⟨g, 0, none⟩) 512 512 ∧ w'.heap[g]? = some (.cells (bvs (hasP s n)).toArray 67 (0, 0)))) := by
  obtain ⟨M, N, v, h, hc⟩ := h
  by_cases hl : lookP s n = 0
  · rw [hl]
    exact (read_ok n hl w h).mono fun e w' ⟨g, hg, he, hc, hb⟩ => ⟨_, he, hb, .inr ⟨rfl, g, hg, rfl, hc⟩⟩
  · exact (read_bad n hl w h).mono fun e w' ⟨he, hb⟩ => ⟨_, he, hb, .inl ⟨hl, rfl⟩⟩
theorem ds_arm {base d C : Nat} {s : Dk} (n : Int) (hn : n < 9223372036854775808) (w : World) (h : DS w base d s C) :
    Calls Try.prog 16 #[.pointer (some ⟨d, 0, none⟩), .int .i64 n] w fun e w' => (∃ u, e = .returned u) ∧ DS w' base d { s with left := max (-1) n } C ∧ TF base w w' := by
  obtain ⟨M, N, v, h, hc⟩ := h
  exact (arm_calls n hn w h).mono fun e w' ⟨he, hd, hm⟩ => ⟨he, ⟨M, _, _, hd, hc⟩, h.tf hm⟩
theorem ds_down {base d C : Nat} {s : Dk} (w : World) (h : DS w base d s C) :
    Calls Try.prog 17 #[.pointer (some ⟨d, 0, none⟩)] w fun e w' => e = .returned (.bool s.down) ∧ Below w.heap.size w w' := by
  obtain ⟨M, N, v, h, hc⟩ := h
  exact down_calls w h
theorem ds_pending {base d C : Nat} {s : Dk} (w : World) (h : DS w base d s C) :
    Calls Try.prog 18 #[.pointer (some ⟨d, 0, none⟩)] w fun e w' => ∃ v', e = .returned v' ∧ Kd.R (Kd.int .i64) 3 w' w.heap.size (fun _ => True) v' (s.cache.map (·.1)) ∧ Below w.heap.size w w' := by
  obtain ⟨M, N, v, h, hc⟩ := h
  exact pending_calls w h
end Go.Proofs.Ytehgbikleiaagaa.P
end
section
namespace Go.Proofs.Ytehgbikleiaagaa.P
open Go.RowKit Go.Proofs.YtehgbikleiaagaaW.PrintWords Go.Proofs.YtehgbikleiaagaaW.PrintLast Go.Proofs.YtehgbikleiaagaaW.PrintMore
attribute [local go_sem] max2_int min2_int max_two min_two max_three min_three max_four min_four
set_option linter.unusedVariables false
set_option linter.unusedSimpArgs false
def pgF (f : Int) : List Int := List.replicate 512 f
theorem pgF_len (f : Int) : (pgF f).length = 512 := List.length_replicate
theorem u25p : Try.prog.underlying 25 = some (.pointer (Try.prog.pointee 25)) := by kernel_rfl
theorem guard_ptr (op : BinOp) (t : TypeId) (x y : Operand) (a b : Option Addr) (w : World) : (eqGuard op t x y (.pointer a) (.pointer b)).run Try.prog w = .ok () w := by cases op <;> rfl
theorem eql_ptr (p : Addr) (w : World) : (binOp .eql 25 (.pointer (some p)) (.pointer none)).run Try.prog w = .ok (.bool false) w := run_eql_pointer_nil w 25 (some p) u25p
theorem neq_ptr (p : Addr) (w : World) : (binOp .neq 25 (.pointer (some p)) (.pointer none)).run Try.prog w = .ok (.bool true) w := run_neq_pointer_nil w 25 (some p) u25p
attribute [local go_sem] guard_ptr eql_ptr neq_ptr
theorem pageP_fill (f : Int) : pageP f [] false = pgF f := rfl
theorem page_fill (fill : Int) (w : World) :
    Calls Try.prog 11 #[.agg #[.int .i64 0, .int .i64 0, .int .u8 fill, .slice none 0 0, .bool false, .slice none 0 0, .int .i64 0, .int .i64 0]] w fun e w' => ∃ v', e = .returned v' ∧ Kd.R (Kd.int .u8) 5 w' w.heap.size (fun _ => True) v' (pgF fill) ∧ Below w.heap.size w w' := by
  have h := page_one false 512 rfl 0 0 fill none 0 [] none 0 0 0 0 w (Kd.C_nil _ _)
  rw [pageP_fill] at h
  exact h
theorem ds_write0 {base d C : Nat} {s : Dk} (n : Int) (own : Value) (b : List Int) {b2 : Nat} {ok : Nat → Prop} (he : writeE s n b = 0) (w : World) (h : DS w base d s C) (hC : C < 1073741824) (ho : Kd.R (Kd.int .u8) 5 w b2 ok own b) :
    Calls Try.prog 12 #[.pointer (some ⟨d, 0, none⟩), .int .i64 n, own] w fun e w' => e = .returned (.int .i64 0) ∧ DS w' base d (writeD s n b) (C + 1) ∧ TF base w w' := by
  have := ds_write n own b w h hC ho
  rwa [he] at this
theorem ds_read0 {base d C : Nat} {s : Dk} (n : Int) (hl : lookP s n = 0) (b : List Int) (hb : hasP s n = b) (w : World) (h : DS w base d s C) :
    Calls Try.prog 15 #[.pointer (some ⟨d, 0, none⟩), .int .i64 n] w fun e w' => ∃ g, e = .returned (.tuple #[.slice (some ⟨g, 0, none⟩) 512 512, .int .i64 0]) ∧ Below w.heap.size w w' ∧ w'.heap[g]? = some (.cells (bvs b).toArray 67 (0, 0)) := by
  subst hb
  refine (ds_read n w h).mono ?_
  rintro e w' ⟨v, he, hbw, ⟨hn, _⟩ | ⟨_, g, _, rfl, hc⟩⟩
  · exact absurd hl hn
  · rw [hl] at he
    exact ⟨g, he, hbw, hc⟩
def wS1 : Dk := writeD (newS 4) 1 (pgF 1)
def wS2 : Dk := writeD wS1 1 (pgF 2)
def wS3 : Dk := writeD wS2 2 (pgF 3)
def wS4 : Dk := mendS wS3 [true] 2 1
theorem wE1 : writeE (newS 4) 1 (pgF 1) = 0 := by decide +kernel
theorem wE2 : writeE wS1 1 (pgF 2) = 0 := by decide +kernel
theorem wE3 : writeE wS2 2 (pgF 3) = 0 := by decide +kernel
theorem wL1 : lookP wS3 1 = 0 := by decide +kernel
theorem wL2 : lookP wS4 1 = 0 := by decide +kernel
theorem wL3 : lookP wS4 2 = 0 := by decide +kernel
theorem wR1 : (hasP wS3 1)[0]? = some 2 := by decide +kernel
theorem wR2 : (hasP wS4 1)[9]? = some 1 := by decide +kernel
theorem wR3 : (hasP wS4 2)[0]? = some 3 := by decide +kernel
theorem wR4 : (hasP wS4 2)[1]? = some 0 := by decide +kernel
theorem pg_cell {W : World} {g : Nat} {b : List Int} (h : W.heap[g]? = some (.cells (bvs b).toArray 67 (0, 0))) {i : Nat} {x : Int} (hx : b[i]? = some x) : W.cell? ⟨g, i, none⟩ = some (.int .u8 x) :=
  (blk_cell h i).trans (by simp [bvs, hx])
theorem c_bools {W : World} {g : Nat} {t : TypeId} {p : List Bool} (h : W.heap[g]? = some (.cells (p.map Value.bool).toArray t (0, 0))) (hl : p.length ≤ 9223372036854775807) : Kd.C Kd.bool W (some ⟨g, 0, none⟩) p.length p := by
  refine ⟨rfl, hl, fun _ => ⟨⟨g, 0, none⟩, rfl, fun j x hj => ⟨[.bool x], rfl, rfl, fun i u hi => ?_⟩⟩⟩
  cases i with
  | zero =>
    obtain rfl : Value.bool x = u := by simpa using hi
    show W.cell? ((⟨g, 0, none⟩ : Addr).add (j * 1 + 0)) = _
    rw [Addr.add_mid, Nat.zero_add, Nat.mul_one, Nat.add_zero]
    refine (blk_cell h j).trans ?_
    simp [hj]
  | succ i => simp at hi
theorem mend_w {base d C : Nat} {s : Dk} (w : World) (h : DS w base d s C) :
    Calls Try.prog 14 #[.pointer (some ⟨d, 0, none⟩), .slice (some ⟨w.heap.size, 0, none⟩) 1 1, .int .i64 2, .int .i64 1] (w.alloc (.cells #[.bool true] 4)) fun e w' => (∃ u, e = .returned u) ∧ DS w' base d (mendS s [true] 2 1) C ∧ TF base (w.alloc (.cells #[.bool true] 4)) w' :=
  ds_mend (some ⟨w.heap.size, 0, none⟩) 1 [true] 2 1 _ (h.step (below_alloc (Below.refl _ _) _)) (c_bools (p := [true]) (Deep.blk_alloc_new w _) (by decide))
set_option maxHeartbeats 4000000 in
set_option maxRecDepth 100000 in
theorem works_calls (w : World) : Calls Try.prog 9 #[] w fun e w' => e = .returned (.bool true) ∧ Below w.heap.size w w' := by
  have hn := ds_new 4 (by decide) (by decide) w
  obtain ⟨r1, h1⟩ : ∃ r1, r1 = hasP wS3 1 := ⟨_, rfl⟩
  obtain ⟨r2, h2⟩ : ∃ r2, r2 = hasP wS4 1 := ⟨_, rfl⟩
  obtain ⟨r3, h3⟩ : ∃ r3, r3 = hasP wS4 2 := ⟨_, rfl⟩
  have H1 := Aside0.mk h1
  have H2 := Aside0.mk h2
  have H3 := Aside0.mk h3
  clear h1 h2 h3
  go_enter Try.func9, Try.ntmps9
  go_upto_region 4 with (go_at_call 10; refine hn.mono ?_; rintro e w1 ⟨d, rfl, hs, hb⟩; have HS := Aside0.mk hs; have HB := Aside0.mk hb; clear hs hb hn)
  go_upto_region 5 with (first
    | (go_at_call 11; (with_reducible refine (page_fill 1 _).mono ?_); rintro e w2 ⟨v3, rfl, ho, hb⟩; have HO1 := Aside0.mk ho; have HS1 := Aside0.mk (HS.out.step hb); have HB1 := Aside0.mk (below_step HB.out hb); clear ho hb HS HB)
    | (go_at_call 11; (with_reducible refine (page_fill 2 _).mono ?_); rintro e w3 ⟨v4, rfl, ho, hb⟩; have HO2 := Aside0.mk ho; have HO1b := Aside0.mk (Kd.R_below HO1.out hb); have HS2 := Aside0.mk (HS1.out.step hb); have HB2 := Aside0.mk (below_step HB1.out hb); clear ho hb HS1 HB1 HO1)
    | (go_at_call 11; (with_reducible refine (page_fill 3 _).mono ?_); rintro e w4 ⟨v5, rfl, ho, hb⟩; have HO3 := Aside0.mk ho; have HO1c := Aside0.mk (Kd.R_below HO1b.out hb); have HO2c := Aside0.mk (Kd.R_below HO2.out hb); have HS3 := Aside0.mk (HS2.out.step hb); have HB3 := Aside0.mk (below_step HB2.out hb); clear ho hb HS2 HB2 HO1b HO2))
  go_upto_region 7 with (first
    | (go_at_call 12; (with_reducible refine (ds_write0 1 v3 (pgF 1) wE1 _ HS3.out (by decide) HO1c.out).mono ?_); rintro e w5 ⟨rfl, hs, ht⟩; have HS4 := Aside0.mk hs; have HO2d := Aside0.mk (R5_tf HO2c.out ht); have HO3d := Aside0.mk (R5_tf HO3.out ht); have HB4 := Aside0.mk (HB3.out.trans ht.b); clear hs ht HS3 HB3 HO2c HO3 HO1c)
    | (go_at_call 12; (with_reducible refine (ds_write0 1 v4 (pgF 2) wE2 _ HS4.out (by decide) HO2d.out).mono ?_); rintro e w6 ⟨rfl, hs, ht⟩; have HS5 := Aside0.mk hs; have HO3e := Aside0.mk (R5_tf HO3d.out ht); have HB5 := Aside0.mk (HB4.out.trans ht.b); clear hs ht HS4 HB4 HO2d HO3d)
    | (go_at_call 12; (with_reducible refine (ds_write0 2 v5 (pgF 3) wE3 _ HS5.out (by decide) HO3e.out).mono ?_); rintro e w7 ⟨rfl, hs, ht⟩; have HS6 := Aside0.mk hs; have HB6 := Aside0.mk (HB5.out.trans ht.b); clear hs ht HS5 HB5 HO3e))
  go_upto_region 8 with (go_at_call 15; (with_reducible refine (ds_read0 1 wL1 r1 H1.out.symm _ HS6.out).mono ?_); rintro e w8 ⟨g1, rfl, hb, hc⟩; have HS7 := Aside0.mk (HS6.out.step hb); have HB7 := Aside0.mk (below_step HB6.out hb); have HC1 := Aside0.mk hc; clear hb hc HS6 HB6)
  go_upto_region 9 with (go_at_call 14; (with_reducible refine (mend_w _ HS7.out).mono ?_); rintro e w9 ⟨⟨u, rfl⟩, hs, ht⟩; have HS8 := Aside0.mk hs; have HB8 := Aside0.mk ((below_alloc HB7.out (.cells #[.bool true] 4)).trans (ht.b)); have HC2 := Aside0.mk (ht.blk _ _ _ _ (blk_alloc HC1.out _) (by decide) (by decide)); clear hs ht HS7 HB7)
  go_upto_region 10 with (go_at_call 15; (with_reducible refine (ds_read0 1 wL2 r2 H2.out.symm _ HS8.out).mono ?_); rintro e w10 ⟨g2, rfl, hb, hc⟩; have HS9 := Aside0.mk (HS8.out.step hb); have HB9 := Aside0.mk (below_step HB8.out hb); have HC3 := Aside0.mk (blk_below HC2.out hb); have HC4 := Aside0.mk hc; clear hb hc HS8 HB8)
  go_upto_region 11 with (go_at_call 15; (with_reducible refine (ds_read0 2 wL3 r3 H3.out.symm _ HS9.out).mono ?_); rintro e w11 ⟨g3, rfl, hb, hc⟩; have HB10 := Aside0.mk (below_step HB9.out hb); have HC5 := Aside0.mk (blk_below HC3.out hb); have HC6 := Aside0.mk (blk_below HC4.out hb); have HC7 := Aside0.mk hc; clear hb hc HS9 HB9)
  have z1 := pg_cell HC5.out (i := 0) (x := 2) (by rw [H1.out]; exact wR1)
  have z2 := pg_cell HC6.out (i := 9) (x := 1) (by rw [H2.out]; exact wR2)
  have z3 := pg_cell HC7.out (i := 0) (x := 3) (by rw [H3.out]; exact wR3)
  have z4 := pg_cell HC7.out (i := 1) (x := 0) (by rw [H3.out]; exact wR4)
  go_wp2
  go_ret
  exact ⟨by simp, HB10.out⟩
end Go.Proofs.Ytehgbikleiaagaa.P
end
section
namespace Go.Proofs.Ytehgbikleiaagaa.P
open Go.RowKit Go.Proofs.YtehgbikleiaagaaW.PrintWords Go.Proofs.YtehgbikleiaagaaW.PrintLast Go.Proofs.YtehgbikleiaagaaW.PrintMore
set_option linter.unusedVariables false
set_option linter.unusedSimpArgs false
structure S32 where
  f0 : Int
  f1 : Int
  f2 : Int
  f3 : List Int
  f4 : Bool
  f5 : List Bool
  f6 : Int
  f7 : Int
def z32 : S32 := ⟨0, 0, 0, [], false, [], 0, 0⟩
def k32 : Kd S32 := Kd.iso (Kd.pair (Kd.int .i64) (Kd.pair (Kd.int .i64) (Kd.pair (Kd.int .u8) (Kd.pair (Kd.slice 5 (Kd.int .u8)) (Kd.pair Kd.bool (Kd.pair (Kd.slice 4 Kd.bool) (Kd.pair (Kd.int .i64) (Kd.int .i64)))))))) (fun x : S32 => (x.f0, x.f1, x.f2, x.f3, x.f4, x.f5, x.f6, x.f7))
theorem k32_open {w : World} {x : S32} {cs : List Value} (h : k32.K w x cs) : ∃ A3 c3 A5 c5, cs = [.int .i64 x.f0, .int .i64 x.f1, .int .u8 x.f2, .slice A3 x.f3.length c3, .bool x.f4, .slice A5 x.f5.length c5, .int .i64 x.f6, .int .i64 x.f7] ∧ x.f3.length ≤ c3 ∧ (Kd.int .u8).C w A3 x.f3.length x.f3 ∧ x.f5.length ≤ c5 ∧ Kd.bool.C w A5 x.f5.length x.f5 := by
  obtain ⟨_, _, rfl, rfl, ⟨_, _, rfl, rfl, ⟨_, _, rfl, rfl, ⟨_, _, rfl, ⟨A3, c3, rfl, l3, g3⟩, ⟨_, _, rfl, rfl, ⟨_, _, rfl, ⟨A5, c5, rfl, l5, g5⟩, ⟨_, _, rfl, rfl, rfl⟩⟩⟩⟩⟩⟩⟩ := h
  exact ⟨A3, c3, A5, c5, rfl, l3, g3, l5, g5⟩
theorem at_T32 {w : World} {A : Option Addr} {n : Nat} {xs : List S32} (h : Kd.C k32 w A n xs) (k : Nat) (h1 : k < n) (x : S32) (hx : x = xs.getD k z32) : ∃ ad A3 c3 A5 c5, A = some ad ∧ w.cell? (ad.add (k * 8)) = some (.int .i64 x.f0) ∧ w.cell? ⟨(ad.add (k * 8)).block, (ad.add (k * 8)).off + 1, none⟩ = some (.int .i64 x.f1) ∧ w.cell? ⟨(ad.add (k * 8)).block, (ad.add (k * 8)).off + 2, none⟩ = some (.int .u8 x.f2) ∧ w.cell? ⟨(ad.add (k * 8)).block, (ad.add (k * 8)).off + 3, none⟩ = some (.slice A3 x.f3.length c3) ∧ w.cell? ⟨(ad.add (k * 8)).block, (ad.add (k * 8)).off + 4, none⟩ = some (.bool x.f4) ∧ w.cell? ⟨(ad.add (k * 8)).block, (ad.add (k * 8)).off + 5, none⟩ = some (.slice A5 x.f5.length c5) ∧ w.cell? ⟨(ad.add (k * 8)).block, (ad.add (k * 8)).off + 6, none⟩ = some (.int .i64 x.f6) ∧ w.cell? ⟨(ad.add (k * 8)).block, (ad.add (k * 8)).off + 7, none⟩ = some (.int .i64 x.f7) ∧
    x.f3.length ≤ c3 ∧ (Kd.int .u8).C w A3 x.f3.length x.f3 ∧ x.f5.length ≤ c5 ∧ Kd.bool.C w A5 x.f5.length x.f5 := by
  obtain ⟨ad, c, e, _, hK, hc0⟩ := Kd.C_get h z32 (k : Int) (by omega) (by omega)
  rw [Int.toNat_natCast] at hK hc0
  rw [← hx] at hK
  obtain ⟨A3, c3, A5, c5, rfl, l3, g3, l5, g5⟩ := k32_open hK
  have hc : ∀ j u, [Value.int .i64 x.f0, .int .i64 x.f1, .int .u8 x.f2, .slice A3 x.f3.length c3, .bool x.f4, .slice A5 x.f5.length c5, .int .i64 x.f6, .int .i64 x.f7][j]? = some u → w.cell? (ad.add (k * 8 + j)) = some u := hc0
  exact ⟨ad, A3, c3, A5, c5, e, hc 0 _ rfl, by rw [← add_field _ _ 1 (by omega)]; exact hc 1 _ rfl, by rw [← add_field _ _ 2 (by omega)]; exact hc 2 _ rfl, by rw [← add_field _ _ 3 (by omega)]; exact hc 3 _ rfl, by rw [← add_field _ _ 4 (by omega)]; exact hc 4 _ rfl, by rw [← add_field _ _ 5 (by omega)]; exact hc 5 _ rfl, by rw [← add_field _ _ 6 (by omega)]; exact hc 6 _ rfl, by rw [← add_field _ _ 7 (by omega)]; exact hc 7 _ rfl, l3, g3, l5, g5⟩
end Go.Proofs.Ytehgbikleiaagaa.P
end
section
namespace Go.Proofs.Ytehgbikleiaagaa.P
open Go.RowKit Go.Proofs.YtehgbikleiaagaaW.PrintWords
def G30 (xs : List (Int)) : Prop := (∀ x ∈ xs, (Lit.int .u8 x).wf = true) ∧ xs.length * 1 ≤ 140737488351232
def m30 (xs : List (Int)) : Nat := (xs.map fun _ => 1).sum + 1
theorem open30 (fuel : Nat) : Opens.At Try.prog fuel (Kd.slice 5 (Kd.int .u8)) 30 G30 m30 :=
  Opens.slice_ Try.underlying30 (by kernel_rfl) (by kernel_rfl) (fun n _ => (Opens.int_ Try.underlying5))
def G23 (xs : List (Bool)) : Prop := (∀ x ∈ xs, True) ∧ xs.length * 1 ≤ 140737488351232
def m23 (xs : List (Bool)) : Nat := (xs.map fun _ => 1).sum + 1
theorem open23 (fuel : Nat) : Opens.At Try.prog fuel (Kd.slice 4 Kd.bool) 23 G23 m23 :=
  Opens.slice_ Try.underlying23 (by kernel_rfl) (by kernel_rfl) (fun n _ => (Opens.bool_ Try.underlying4))
def G32 (x : S32) : Prop := (Lit.int .i64 x.f0).wf = true ∧ (Lit.int .i64 x.f1).wf = true ∧ (Lit.int .u8 x.f2).wf = true ∧ G30 x.f3 ∧ True ∧ G23 x.f5 ∧ (Lit.int .i64 x.f6).wf = true ∧ (Lit.int .i64 x.f7).wf = true
def m32 (x : S32) : Nat := 1 + (1 + (1 + ((m30 x.f3) + (1 + ((m23 x.f5) + (1 + (1))))))) + 1
theorem open32 (fuel : Nat) : Opens.At Try.prog fuel k32 32 G32 m32 :=
  Opens.iso_ (fun x : S32 => (x.f0, x.f1, x.f2, x.f3, x.f4, x.f5, x.f6, x.f7)) (fun a => ⟨a.1, a.2.1, a.2.2.1, a.2.2.2.1, a.2.2.2.2.1, a.2.2.2.2.2.1, a.2.2.2.2.2.2.1, a.2.2.2.2.2.2.2⟩) (fun _ => rfl) (Opens.struct_ Try.underlying32 (fun n _ => Opens.cons_ (by kernel_rfl) (Opens.int_ Try.underlying3) (Opens.cons_ (by kernel_rfl) (Opens.int_ Try.underlying3) (Opens.cons_ (by kernel_rfl) (Opens.int_ Try.underlying5) (Opens.cons_ (by kernel_rfl) (open30 _) (Opens.cons_ (by kernel_rfl) (Opens.bool_ Try.underlying4) (Opens.cons_ (by kernel_rfl) (open23 _) (Opens.cons_ (by kernel_rfl) (Opens.int_ Try.underlying3) (Opens.last_ (by kernel_rfl) (by kernel_rfl) (Opens.int_ Try.underlying3))))))))))
def G22 (xs : List (S32)) : Prop := (∀ x ∈ xs, G32 x) ∧ xs.length * 96 ≤ 140737488351232
def m22 (xs : List (S32)) : Nat := (xs.map fun x => (m32 x)).sum + 1
theorem open22 (fuel : Nat) : Opens.At Try.prog fuel (Kd.slice 32 k32) 22 G22 m22 :=
  Opens.slice_ Try.underlying22 (by kernel_rfl) (by kernel_rfl) (fun n _ => (open32 _))
end Go.Proofs.Ytehgbikleiaagaa.P
end
section
namespace Go.Proofs.Ytehgbikleiaagaa.P
open Go.RowKit Go.Proofs.YtehgbikleiaagaaW.PrintWords Go.Proofs.YtehgbikleiaagaaW.PrintLast Go.Proofs.YtehgbikleiaagaaW.PrintMore
set_option linter.unusedVariables false
set_option linter.unusedSimpArgs false
def modU (m : Int) (a : Int) : Int := wrap64 ((IntKind.u64.wrap a).tmod m)
theorem modU_range (m : Int) (h0 : 0 < m) (h1 : m ≤ 1000) (a : Int) : 0 ≤ modU m a ∧ modU m a < m := by
  have hu : 0 ≤ IntKind.u64.wrap a := by
    have := IntKind.wrap_u64 a
    rw [this]
    omega
  have ht : (IntKind.u64.wrap a).tmod m = (IntKind.u64.wrap a) % m := Int.tmod_eq_emod_of_nonneg hu
  have h2 := Int.emod_nonneg (IntKind.u64.wrap a) (show m ≠ 0 by omega)
  have h3 := Int.emod_lt_of_pos (IntKind.u64.wrap a) h0
  unfold modU
  rw [ht]
  unfold wrap64
  omega
theorem lookP_ok' {s : Dk} {n : Int} (hd : s.down = false) (h0 : 0 ≤ n) (h1 : n < s.pages) : lookP s n = 0 := by
  unfold lookP
  rw [if_neg (by simp [hd]), if_neg (by omega)]
theorem writeE_ok {s : Dk} {n : Int} {b : List Int} (hd : s.down = false) (h0 : 0 ≤ n) (h1 : n < s.pages) (hb : b.length = 512) (hl : s.left ≠ 0) : writeE s n b = 0 := by
  unfold writeE
  rw [lookP_ok' hd h0 h1, if_neg (by simp), if_neg (by omega), if_neg hl]
theorem writeD_ok {s : Dk} {n : Int} {b : List Int} (hd : s.down = false) (h0 : 0 ≤ n) (h1 : n < s.pages) (hb : b.length = 512) (hl : s.left ≠ 0) : writeD s n b = writeS s n b := by
  unfold writeD
  rw [lookP_ok' hd h0 h1, if_neg (by simp), if_neg (by omega), if_neg hl]
theorem syncE_ok {s : Dk} (hd : s.down = false) (hl : s.left ≠ 0) : syncE s = 0 := by
  unfold syncE
  rw [if_neg (by simp [hd]), if_neg hl]
theorem syncD_ok {s : Dk} (hd : s.down = false) (hl : s.left ≠ 0) : syncD s = syncS s := by
  unfold syncD
  rw [if_neg (by simp [hd]), if_neg hl]
end Go.Proofs.Ytehgbikleiaagaa.P
end
section
namespace Go.Proofs.Ytehgbikleiaagaa.P
open Go.RowKit Go.Proofs.YtehgbikleiaagaaW.PrintWords Go.Proofs.YtehgbikleiaagaaW.PrintLast Go.Proofs.YtehgbikleiaagaaW.PrintMore
attribute [local go_sem] max2_int min2_int max_two min_two max_three min_three max_four min_four
attribute [local go_sem] guard_ptr eql_ptr neq_ptr
set_option linter.unusedVariables false
set_option linter.unusedSimpArgs false
theorem mend_nil {base d C : Nat} {s : Dk} (torn cut : Int) (w : World) (h : DS w base d s C) :
    Calls Try.prog 14 #[.pointer (some ⟨d, 0, none⟩), .slice none 0 0, .int .i64 torn, .int .i64 cut] w fun e w' => (∃ u, e = .returned u) ∧ DS w' base d (mendS s [] torn cut) C ∧ TF base w w' :=
  ds_mend none 0 [] torn cut w h (Kd.C_nil _ _)
theorem pending_nil {base d C : Nat} {s : Dk} (hc : s.cache = []) (w : World) (h : DS w base d s C) :
    Calls Try.prog 18 #[.pointer (some ⟨d, 0, none⟩)] w fun e w' => ∃ A c, e = .returned (.slice A 0 c) ∧ Below w.heap.size w w' := by
  refine (ds_pending w h).mono ?_
  rintro e w' ⟨v, rfl, ho, hb⟩
  obtain ⟨A, c, rfl⟩ := Kd.R_slice ho
  rw [hc]
  exact ⟨A, c, rfl, hb⟩
def ArmI (n : Int) (m : Nat) (s : Dk) : Prop := s.pages = 3 ∧ (m : Int) ≤ n ∧ s.left = n - m ∧ (s.down = true → (m : Int) = n)
theorem armI_start (n : Int) (h0 : 0 ≤ n) : ArmI n 0 { newS 3 with left := max (-1) n } := ⟨rfl, h0, by show max (-1) n = n - (0 : Nat); omega, fun h => by simp [newS] at h⟩
theorem armI_write {n : Int} {m : Nat} {s : Dk} (h : ArmI n m s) (q : Int) (h0 : 0 ≤ q) (h1 : q < 3) (b : List Int) (hb : b.length = 512) :
    (writeE s q b = 0 ∧ (m : Int) < n ∧ (writeD s q b).down = false ∧ ArmI n (m + 1) (writeD s q b)) ∨ (writeE s q b = 9 ∧ ¬ (m : Int) < n ∧ (writeD s q b).down = true ∧ ArmI n m (writeD s q b)) := by
  obtain ⟨e1, e2, e3, e4⟩ := h
  by_cases hd : s.down = true
  · have hl : lookP s q = 9 := if_pos hd
    have hm := e4 hd
    right
    unfold writeE writeD
    rw [hl, if_pos (by decide), if_pos (by decide)]
    exact ⟨rfl, by omega, hd, e1, e2, e3, e4⟩
  · have hd0 : s.down = false := by simpa using hd
    have hl : lookP s q = 0 := lookP_ok' hd0 h0 (by omega)
    by_cases hs : s.left = 0
    · right
      unfold writeE writeD
      rw [hl, if_neg (by decide), if_neg (by omega), if_pos hs, if_neg (by decide), if_neg (by omega), if_pos hs]
      unfold stepS
      rw [if_pos hs]
      exact ⟨rfl, by omega, rfl, e1, e2, e3, fun _ => by omega⟩
    · left
      rw [writeE_ok hd0 h0 (by omega) hb hs, writeD_ok hd0 h0 (by omega) hb hs]
      unfold writeS stepS
      rw [if_neg hs, if_pos (by omega)]
      refine ⟨rfl, by omega, hd0, e1, by omega, ?_, fun h => absurd h hd⟩
      show s.left - 1 = n - ((m + 1 : Nat) : Int)
      omega
theorem armI_sync {n : Int} {m : Nat} {s : Dk} (h : ArmI n m s) :
    (syncE s = 0 ∧ (m : Int) < n ∧ (syncD s).down = false ∧ ArmI n (m + 1) (syncD s)) ∨ (syncE s = 9 ∧ ¬ (m : Int) < n ∧ (syncD s).down = true ∧ ArmI n m (syncD s)) := by
  obtain ⟨e1, e2, e3, e4⟩ := h
  by_cases hd : s.down = true
  · have hm := e4 hd
    right
    unfold syncE syncD
    rw [if_pos hd, if_pos hd]
    exact ⟨rfl, by omega, hd, e1, e2, e3, e4⟩
  · have hd0 : s.down = false := by simpa using hd
    by_cases hs : s.left = 0
    · right
      unfold syncE syncD
      rw [if_neg hd, if_pos hs, if_neg hd, if_pos hs]
      unfold stepS
      rw [if_pos hs]
      exact ⟨rfl, by omega, rfl, e1, e2, e3, fun _ => by omega⟩
    · left
      rw [syncE_ok hd0 hs, syncD_ok hd0 hs]
      unfold syncS stepS
      rw [if_neg hs, if_pos (by omega)]
      refine ⟨rfl, by omega, hd0, e1, by omega, ?_, fun h => absurd h hd⟩
      show s.left - 1 = n - ((m + 1 : Nat) : Int)
      omega
def quarrylaw05_DiskArms.f (a0 : Int) (l1 : List S32) : Option Bool := some true
set_option maxHeartbeats 4000000 in
set_option maxRecDepth 100000 in
theorem quarrylaw05_DiskArms.calls (a0 : Int) (A1 : Option Addr) (c1 : Nat) (l1 : List S32) (r : Bool) (w : World) (hr1 : Kd.C k32 w A1 l1.length l1) (hc1 : l1.length ≤ c1) (h : quarrylaw05_DiskArms.f a0 l1 = some r) :
    Calls Try.prog 4 #[.int .i64 a0, .slice A1 l1.length c1] w fun e w' => e = .returned (.bool r) ∧ Below w.heap.size w w' := by
  obtain rfl : true = r := Option.some.inj h
  have hwk := works_calls w
  have HR1 := Aside0.mk hr1
  clear hr1 hc1 h
  obtain ⟨nn, hnn⟩ : ∃ nn, nn = modU 30 a0 := ⟨_, rfl⟩
  have hn6 := modU_range 30 (by decide) (by decide) a0
  rw [← hnn] at hn6
  have HN := Aside0.mk hn6
  unfold modU at hnn
  have hnb : nn < 9223372036854775808 := by omega
  have HNB := Aside0.mk hnb
  clear hn6 hnb
  go_enter Try.func4, Try.ntmps4
  go_upto_region 3 with (go_at_call 9; (with_reducible refine hwk.mono ?_); rintro e w1 ⟨rfl, hb⟩; have HB := Aside0.mk hb; clear hb hwk)
  go_upto_region 7 with (go_at_call 10; (with_reducible refine (ds_new 3 (by decide) (by decide) _).mono ?_); rintro e w2 ⟨d, rfl, hs, hb⟩; have HS := Aside0.mk hs; have HB1 := Aside0.mk (below_step HB.out hb); clear hs hb)
  rw [← hnn]
  clear hnn
  have hBw : w.heap.size ≤ w1.heap.size := below_size HB.out
  have HBw := Aside0.mk hBw
  clear hBw HB
  go_upto_region 8 with (go_at_call 16; (with_reducible refine (ds_arm nn HNB.out _ HS.out).mono ?_); rintro e w3 ⟨⟨u, rfl⟩, hs, ht⟩; have HS2 := Aside0.mk hs; have HB2 := Aside0.mk (HB1.out.trans (ht.b.mono HBw.out)); clear hs ht HS HB1)
  go_wp2_with fail
  go_loopw [7, 8] (fun v7 v8 wr => ∃ (k m : Nat) (s : Dk), v8 = .int .i64 (k : Int) ∧ v7 = .int .i64 (m : Int) ∧ k ≤ 60 ∧ k ≤ l1.length ∧ m ≤ k ∧ Aside0 (DS wr w1.heap.size d s k) ∧ Aside0 (ArmI nn m s) ∧ Aside0 (Below w.heap.size w wr)) (fun _ v8 _ => 60 - (intOf v8).toNat)
  case atStart => exact ⟨0, 0, _, rfl, rfl, Nat.zero_le _, Nat.zero_le _, Nat.le_refl _, HS2, ⟨armI_start nn HN.out.1⟩, HB2⟩
  case round =>
    clear HS2 HB2
    obtain ⟨k, m, s, rfl, rfl, hk, hkl, hmk, HS, HI, HB⟩ := hrel
    by_cases hlt : k < l1.length ∧ k < 60
    · obtain ⟨x, hx⟩ : ∃ x, x = l1.getD k z32 := ⟨_, rfl⟩
      obtain ⟨ad, A3', c3', A5', c5', eA, x0, x1, x2, x3, x4, x5, x6, x7, _, _, _, _⟩ := at_T32 (Kd.C_below HR1.out HB.out) k hlt.1 x hx
      subst eA
      have hq6 := modU_range 3 (by decide) (by decide) x.f1
      have HQ := Aside0.mk hq6
      have HK := Aside0.mk (And.intro hlt hmk)
      have w2_ : wrap64 ((k : Int) + 1) = (k : Int) + 1 := by unfold wrap64; omega
      have w3_ : wrap64 ((m : Int) + 1) = (m : Int) + 1 := by unfold wrap64; omega
      have hkC : k < 1073741824 := by omega
      have HKC := Aside0.mk hkC
      have b1 : decide ((k : Int) < (l1.length : Int)) = true := decide_eq_true (by omega)
      have b2 : ((k : Int) < (l1.length : Int)) = True := eq_true (by omega)
      have b3 : decide ((k : Int) < 60) = true := decide_eq_true (by omega)
      have b4 : ((k : Int) < 60) = True := eq_true (by omega)
      have b5 : (k < l1.length) = True := eq_true hlt.1
      have b6 : decide (k < l1.length) = true := decide_eq_true hlt.1
      have b7 : (k < 60) = True := eq_true hlt.2
      have HX1 := Aside0.mk x1
      have adlt := Aside0.mk (World.block_lt_of_cell? wr _ x1)
      clear x1 x2 x3 x4 x5 x6 x7 hx hlt hk hkl hmk hq6 hkC
      by_cases hk1 : x.f0 = 1
      · have t0 : (x.f0 == 1) = true := beq_iff_eq.mpr hk1
        have t1 : decide (x.f0 = 1) = true := decide_eq_true hk1
        have HW := Aside0.mk (armI_write HI.out (modU 3 x.f1) HQ.out.1 HQ.out.2 (pgF 0) (pgF_len 0))
        clear hk1
        rcases HW.out with ⟨hE, hmn, hdn, hI⟩ | ⟨hE, hmn, hdn, hI⟩
        · have HE := Aside0.mk hE
          have HI2 := Aside0.mk hI
          have HDN := Aside0.mk hdn
          have y1 : decide ((m : Int) < nn) = true := decide_eq_true hmn
          have y2 : ((m : Int) < nn) = True := eq_true hmn
          clear hE hI hmn hdn HW
          go_upto_region 18 with fail
          clear x0
          refine start_ (n := 12) (S := fun w' => w'.cell? ⟨(ad.add (k * 8)).block, (ad.add (k * 8)).off + 1, none⟩ = some (.int .i64 x.f1)) (ds := [10]) #[false, false, false, false, false, false, false, false, false, false, false, false] (by kernel_rfl) rfl rfl (HX1.out) (fun hHeld => ?_)
          refine pure_ (i := 0) (N := some 59) (v := ?_) (a' := ?_) #[true, false, false, false, false, false, false, false, false, false, false, false] rfl rfl (by kernel_rfl) (fun _ _ _ h => h) (Or.inl ⟨by rfl, ?_⟩) ?_ ?_
          rotate_left
          · intro w'
            go_simp
            with_reducible rfl
          rotate_left
          · simp only [Act.put, List.setIfInBounds_toArray, List.set_cons_zero, List.set_cons_succ, i64_w, i32_w]
            rfl
          refine pure_ (i := 1) (N := some 60) (v := ?_) (a' := ?_) #[true, true, false, false, false, false, false, false, false, false, false, false] rfl rfl (by kernel_rfl) (fun _ _ _ h => h) (Or.inl ⟨by rfl, ?_⟩) ?_ ?_
          rotate_left
          · intro w'
            go_simp
            with_reducible rfl
          rotate_left
          · simp only [Act.put, List.setIfInBounds_toArray, List.set_cons_zero, List.set_cons_succ, i64_w, i32_w]
            rfl
          refine pure_ (i := 2) (N := some 61) (v := ?_) (a' := ?_) #[true, true, true, false, false, false, false, false, false, false, false, false] rfl rfl (by kernel_rfl) (fun _ _ _ h => h) (Or.inl ⟨by rfl, ?_⟩) ?_ ?_
          rotate_left
          · intro w'
            go_simp
            with_reducible rfl
          rotate_left
          · simp only [Act.put, List.setIfInBounds_toArray, List.set_cons_zero, List.set_cons_succ, i64_w, i32_w]
            rfl
          refine pure_ (i := 3) (N := some 62) (v := ?_) (a' := ?_) #[true, true, true, true, false, false, false, false, false, false, false, false] rfl rfl (by kernel_rfl) (fun _ _ _ h => h) (Or.inl ⟨by rfl, ?_⟩) ?_ ?_
          rotate_left
          · intro w'
            go_simp
            with_reducible rfl
          rotate_left
          · simp only [Act.put, List.setIfInBounds_toArray, List.set_cons_zero, List.set_cons_succ, i64_w, i32_w]
            rfl
          refine pure_ (i := 4) (N := some 63) (v := ?_) (a' := ?_) #[true, true, true, true, true, false, false, false, false, false, false, false] rfl rfl (by kernel_rfl) (fun _ _ _ h => h) (Or.inl ⟨by rfl, ?_⟩) ?_ ?_
          rotate_left
          · intro w'
            go_simp
            with_reducible rfl
          rotate_left
          · simp only [Act.put, List.setIfInBounds_toArray, List.set_cons_zero, List.set_cons_succ, i64_w, i32_w]
            rfl
          refine take_ (i := 5) (N := some 64) (v := ?_) (a' := ?_) #[true, true, true, true, true, true, false, false, false, false, false, false] rfl rfl (by kernel_rfl) (fun _ _ _ h => h) (Or.inl ⟨by rfl, ?_⟩) hHeld ?_ ?_
          rotate_left
          · intro w' s0
            go_simp
            with_reducible rfl
          rotate_left
          · simp only [Act.put, List.setIfInBounds_toArray, List.set_cons_zero, List.set_cons_succ, i64_w, i32_w]
            rfl
          refine pure_ (i := 6) (N := some 65) (v := ?_) (a' := ?_) #[true, true, true, true, true, true, true, false, false, false, false, false] rfl rfl (by kernel_rfl) (fun _ _ _ h => h) (Or.inl ⟨by rfl, ?_⟩) ?_ ?_
          rotate_left
          · intro w'
            go_simp
            with_reducible rfl
          rotate_left
          · simp only [Act.put, List.setIfInBounds_toArray, List.set_cons_zero, List.set_cons_succ, i64_w, i32_w]
            rfl
          refine pure_ (i := 7) (N := some 66) (v := ?_) (a' := ?_) #[true, true, true, true, true, true, true, true, false, false, false, false] rfl rfl (by kernel_rfl) (fun _ _ _ h => h) (Or.inl ⟨by rfl, ?_⟩) ?_ ?_
          rotate_left
          · intro w'
            go_simp
            with_reducible rfl
          rotate_left
          · simp only [Act.put, List.setIfInBounds_toArray, List.set_cons_zero, List.set_cons_succ, i64_w, i32_w]
            rfl
          refine pure_ (i := 8) (N := some 67) (v := ?_) (a' := ?_) #[true, true, true, true, true, true, true, true, true, false, false, false] rfl rfl (by kernel_rfl) (fun _ _ _ h => h) (Or.inl ⟨by rfl, ?_⟩) ?_ ?_
          rotate_left
          · intro w'
            go_simp
            with_reducible rfl
          rotate_left
          · simp only [Act.put, List.setIfInBounds_toArray, List.set_cons_zero, List.set_cons_succ, i64_w, i32_w]
            rfl
          refine one_ (i := 9) (N := some 68) #[true, true, true, true, true, true, true, true, true, true, false, false] rfl rfl (by kernel_rfl) (by decide) (fun K hK => ?_)
          refine Kd.R_make_step (Kd.int .u8) (w0 := wr.drew) wr.drew.heap.size 5 (by rfl) (N := 68) rfl 30 _ _ rfl 512 (by rfl) (by rfl) Try.underlying30 (.int .u8 0) 1 info5 rfl (by decide) (by decide) 0 (ok := fun _ => True) (okp := fun _ => False) rfl (fun _ h => h.elim) trivial (by decide) (by decide) (Below.refl _ _) (Nat.le_refl _) ?_
          intro v9 w9 ho hb hg hn
          have HO := Aside0.mk (show Kd.R (Kd.int .u8) 5 w9 wr.drew.heap.size (fun _ => True) v9 (pgF 0) from ho)
          have hb' : Below wr.heap.size wr w9 := (below_drew1 (Below.refl _ _)).trans hb
          have HS1 := Aside0.mk (HS.out.step hb')
          have HB1 := Aside0.mk (below_step HB.out hb')
          have hx9 := (hb'.cell adlt.out).trans HX1.out
          clear ho hb hg hn hb'
          refine hK.out _ _ (hx9) (fun hHeld => ?_)
          clear hK K
          refine norm_ (a' := ?_) ?_ ?_
          rotate_left
          · show Act.put _ (some 68) _ = _
            simp only [Act.put, List.setIfInBounds_toArray, List.set_cons_zero, List.set_cons_succ, i64_w, i32_w]
            rfl
          refine last_ (i := 10) (N := some 69) #[true, true, true, true, true, true, true, true, true, true, true, false] rfl rfl (by kernel_rfl) (by decide) (fun K hK => ?_)
          refine goes_ Try.func12 (by kernel_rfl) rfl #[.pointer (some ⟨d, 0, none⟩), .int .i64 (modU 3 x.f1), v9] (by rfl) rfl rfl (by simp only [List.map_toArray, List.map_cons, List.map_nil]; rfl) ?_
          with_reducible refine (ds_write (modU 3 x.f1) v9 (pgF 0) _ HS1.out HKC.out HO.out).mono ?_
          rintro e w4 ⟨rfl, hs, ht⟩
          refine ⟨_, rfl, ?_⟩
          rw [HE.out]
          have HS3 := Aside0.mk hs
          have HB3 := Aside0.mk (HB1.out.trans (ht.b.mono HBw.out))
          clear hs ht HS1 HB1 HO hx9 hHeld
          refine hK.out _ _ ?_
          clear hK K
          refine norm_ (a' := ?_) ?_ ?_
          rotate_left
          · show Act.put _ (some 69) _ = _
            simp only [Act.put, List.setIfInBounds_toArray, List.set_cons_zero, List.set_cons_succ, i64_w, i32_w]
            rfl
          refine pure_ (i := 11) (N := some 9) (v := ?_) (a' := ?_) #[true, true, true, true, true, true, true, true, true, true, true, true] rfl rfl (by kernel_rfl) (fun _ _ _ h => h) (Or.inl ⟨by rfl, ?_⟩) ?_ ?_
          rotate_left
          · intro w'
            go_simp
            with_reducible rfl
          rotate_left
          · simp only [Act.put, List.setIfInBounds_toArray, List.set_cons_zero, List.set_cons_succ, i64_w, i32_w]
            rfl
          refine done_ (by kernel_rfl) ?_
          go_wp2_with (go_at_call 17; (with_reducible refine (ds_down _ HS3.out).mono ?_); rw [HDN.out]; rintro e w5 ⟨rfl, hb⟩; have HS4 := Aside0.mk (HS3.out.step hb); have HB4 := Aside0.mk (below_step HB3.out hb); clear hb HS3 HB3; have HS3 := HS4; have HB3 := HB4; clear HS4 HB4)
          go_roundw
          case rel => exact ⟨k + 1, m + 1, _, by go_num, by go_num, by have := HK.out; omega, HK.out.1.1, by have := HK.out.2; omega, HS3, HI2, HB3⟩
          case measure => exact meas_lt HK.out.1.2 (by go_num)
        · have HE := Aside0.mk hE
          have HI2 := Aside0.mk hI
          have HDN := Aside0.mk hdn
          have y1 : decide ((m : Int) < nn) = false := decide_eq_false hmn
          have y2 : ((m : Int) < nn) = False := eq_false hmn
          clear hE hI hmn hdn HW
          go_upto_region 18 with fail
          clear x0
          refine start_ (n := 12) (S := fun w' => w'.cell? ⟨(ad.add (k * 8)).block, (ad.add (k * 8)).off + 1, none⟩ = some (.int .i64 x.f1)) (ds := [10]) #[false, false, false, false, false, false, false, false, false, false, false, false] (by kernel_rfl) rfl rfl (HX1.out) (fun hHeld => ?_)
          refine pure_ (i := 0) (N := some 59) (v := ?_) (a' := ?_) #[true, false, false, false, false, false, false, false, false, false, false, false] rfl rfl (by kernel_rfl) (fun _ _ _ h => h) (Or.inl ⟨by rfl, ?_⟩) ?_ ?_
          rotate_left
          · intro w'
            go_simp
            with_reducible rfl
          rotate_left
          · simp only [Act.put, List.setIfInBounds_toArray, List.set_cons_zero, List.set_cons_succ, i64_w, i32_w]
            rfl
          refine pure_ (i := 1) (N := some 60) (v := ?_) (a' := ?_) #[true, true, false, false, false, false, false, false, false, false, false, false] rfl rfl (by kernel_rfl) (fun _ _ _ h => h) (Or.inl ⟨by rfl, ?_⟩) ?_ ?_
          rotate_left
          · intro w'
            go_simp
            with_reducible rfl
          rotate_left
          · simp only [Act.put, List.setIfInBounds_toArray, List.set_cons_zero, List.set_cons_succ, i64_w, i32_w]
            rfl
          refine pure_ (i := 2) (N := some 61) (v := ?_) (a' := ?_) #[true, true, true, false, false, false, false, false, false, false, false, false] rfl rfl (by kernel_rfl) (fun _ _ _ h => h) (Or.inl ⟨by rfl, ?_⟩) ?_ ?_
          rotate_left
          · intro w'
            go_simp
            with_reducible rfl
          rotate_left
          · simp only [Act.put, List.setIfInBounds_toArray, List.set_cons_zero, List.set_cons_succ, i64_w, i32_w]
            rfl
          refine pure_ (i := 3) (N := some 62) (v := ?_) (a' := ?_) #[true, true, true, true, false, false, false, false, false, false, false, false] rfl rfl (by kernel_rfl) (fun _ _ _ h => h) (Or.inl ⟨by rfl, ?_⟩) ?_ ?_
          rotate_left
          · intro w'
            go_simp
            with_reducible rfl
          rotate_left
          · simp only [Act.put, List.setIfInBounds_toArray, List.set_cons_zero, List.set_cons_succ, i64_w, i32_w]
            rfl
          refine pure_ (i := 4) (N := some 63) (v := ?_) (a' := ?_) #[true, true, true, true, true, false, false, false, false, false, false, false] rfl rfl (by kernel_rfl) (fun _ _ _ h => h) (Or.inl ⟨by rfl, ?_⟩) ?_ ?_
          rotate_left
          · intro w'
            go_simp
            with_reducible rfl
          rotate_left
          · simp only [Act.put, List.setIfInBounds_toArray, List.set_cons_zero, List.set_cons_succ, i64_w, i32_w]
            rfl
          refine take_ (i := 5) (N := some 64) (v := ?_) (a' := ?_) #[true, true, true, true, true, true, false, false, false, false, false, false] rfl rfl (by kernel_rfl) (fun _ _ _ h => h) (Or.inl ⟨by rfl, ?_⟩) hHeld ?_ ?_
          rotate_left
          · intro w' s0
            go_simp
            with_reducible rfl
          rotate_left
          · simp only [Act.put, List.setIfInBounds_toArray, List.set_cons_zero, List.set_cons_succ, i64_w, i32_w]
            rfl
          refine pure_ (i := 6) (N := some 65) (v := ?_) (a' := ?_) #[true, true, true, true, true, true, true, false, false, false, false, false] rfl rfl (by kernel_rfl) (fun _ _ _ h => h) (Or.inl ⟨by rfl, ?_⟩) ?_ ?_
          rotate_left
          · intro w'
            go_simp
            with_reducible rfl
          rotate_left
          · simp only [Act.put, List.setIfInBounds_toArray, List.set_cons_zero, List.set_cons_succ, i64_w, i32_w]
            rfl
          refine pure_ (i := 7) (N := some 66) (v := ?_) (a' := ?_) #[true, true, true, true, true, true, true, true, false, false, false, false] rfl rfl (by kernel_rfl) (fun _ _ _ h => h) (Or.inl ⟨by rfl, ?_⟩) ?_ ?_
          rotate_left
          · intro w'
            go_simp
            with_reducible rfl
          rotate_left
          · simp only [Act.put, List.setIfInBounds_toArray, List.set_cons_zero, List.set_cons_succ, i64_w, i32_w]
            rfl
          refine pure_ (i := 8) (N := some 67) (v := ?_) (a' := ?_) #[true, true, true, true, true, true, true, true, true, false, false, false] rfl rfl (by kernel_rfl) (fun _ _ _ h => h) (Or.inl ⟨by rfl, ?_⟩) ?_ ?_
          rotate_left
          · intro w'
            go_simp
            with_reducible rfl
          rotate_left
          · simp only [Act.put, List.setIfInBounds_toArray, List.set_cons_zero, List.set_cons_succ, i64_w, i32_w]
            rfl
          refine one_ (i := 9) (N := some 68) #[true, true, true, true, true, true, true, true, true, true, false, false] rfl rfl (by kernel_rfl) (by decide) (fun K hK => ?_)
          refine Kd.R_make_step (Kd.int .u8) (w0 := wr.drew) wr.drew.heap.size 5 (by rfl) (N := 68) rfl 30 _ _ rfl 512 (by rfl) (by rfl) Try.underlying30 (.int .u8 0) 1 info5 rfl (by decide) (by decide) 0 (ok := fun _ => True) (okp := fun _ => False) rfl (fun _ h => h.elim) trivial (by decide) (by decide) (Below.refl _ _) (Nat.le_refl _) ?_
          intro v9 w9 ho hb hg hn
          have HO := Aside0.mk (show Kd.R (Kd.int .u8) 5 w9 wr.drew.heap.size (fun _ => True) v9 (pgF 0) from ho)
          have hb' : Below wr.heap.size wr w9 := (below_drew1 (Below.refl _ _)).trans hb
          have HS1 := Aside0.mk (HS.out.step hb')
          have HB1 := Aside0.mk (below_step HB.out hb')
          have hx9 := (hb'.cell adlt.out).trans HX1.out
          clear ho hb hg hn hb'
          refine hK.out _ _ (hx9) (fun hHeld => ?_)
          clear hK K
          refine norm_ (a' := ?_) ?_ ?_
          rotate_left
          · show Act.put _ (some 68) _ = _
            simp only [Act.put, List.setIfInBounds_toArray, List.set_cons_zero, List.set_cons_succ, i64_w, i32_w]
            rfl
          refine last_ (i := 10) (N := some 69) #[true, true, true, true, true, true, true, true, true, true, true, false] rfl rfl (by kernel_rfl) (by decide) (fun K hK => ?_)
          refine goes_ Try.func12 (by kernel_rfl) rfl #[.pointer (some ⟨d, 0, none⟩), .int .i64 (modU 3 x.f1), v9] (by rfl) rfl rfl (by simp only [List.map_toArray, List.map_cons, List.map_nil]; rfl) ?_
          with_reducible refine (ds_write (modU 3 x.f1) v9 (pgF 0) _ HS1.out HKC.out HO.out).mono ?_
          rintro e w4 ⟨rfl, hs, ht⟩
          refine ⟨_, rfl, ?_⟩
          rw [HE.out]
          have HS3 := Aside0.mk hs
          have HB3 := Aside0.mk (HB1.out.trans (ht.b.mono HBw.out))
          clear hs ht HS1 HB1 HO hx9 hHeld
          refine hK.out _ _ ?_
          clear hK K
          refine norm_ (a' := ?_) ?_ ?_
          rotate_left
          · show Act.put _ (some 69) _ = _
            simp only [Act.put, List.setIfInBounds_toArray, List.set_cons_zero, List.set_cons_succ, i64_w, i32_w]
            rfl
          refine pure_ (i := 11) (N := some 9) (v := ?_) (a' := ?_) #[true, true, true, true, true, true, true, true, true, true, true, true] rfl rfl (by kernel_rfl) (fun _ _ _ h => h) (Or.inl ⟨by rfl, ?_⟩) ?_ ?_
          rotate_left
          · intro w'
            go_simp
            with_reducible rfl
          rotate_left
          · simp only [Act.put, List.setIfInBounds_toArray, List.set_cons_zero, List.set_cons_succ, i64_w, i32_w]
            rfl
          refine done_ (by kernel_rfl) ?_
          go_wp2_with (go_at_call 17; (with_reducible refine (ds_down _ HS3.out).mono ?_); rw [HDN.out]; rintro e w5 ⟨rfl, hb⟩; have HS4 := Aside0.mk (HS3.out.step hb); have HB4 := Aside0.mk (below_step HB3.out hb); clear hb HS3 HB3; have HS3 := HS4; have HB3 := HB4; clear HS4 HB4)
          go_roundw
          case rel => exact ⟨k + 1, m, _, by go_num, by go_num, by have := HK.out; omega, HK.out.1.1, by have := HK.out.2; omega, HS3, HI2, HB3⟩
          case measure => exact meas_lt HK.out.1.2 (by go_num)
      · have t0 : (x.f0 == 1) = false := beq_eq_false_iff_ne.mpr hk1
        have t1 : decide (x.f0 = 1) = false := decide_eq_false hk1
        clear hk1
        by_cases hk2 : x.f0 = 2
        · have t2 : (x.f0 == 2) = true := beq_iff_eq.mpr hk2
          have t3 : decide (x.f0 = 2) = true := decide_eq_true hk2
          have HW := Aside0.mk (armI_sync HI.out)
          clear hk2
          rcases HW.out with ⟨hE, hmn, hdn, hI⟩ | ⟨hE, hmn, hdn, hI⟩
          · have HE := Aside0.mk hE
            have HI2 := Aside0.mk hI
            have HDN := Aside0.mk hdn
            have y1 : decide ((m : Int) < nn) = true := decide_eq_true hmn
            have y2 : ((m : Int) < nn) = True := eq_true hmn
            clear hE hI hmn hdn HW
            go_upto_region 21 with (go_at_call 13; (with_reducible refine (ds_sync _ HS.out).mono ?_); rw [HE.out]; rintro e w4 ⟨rfl, hs, ht⟩; have HS3 := Aside0.mk (hs.more (Nat.le_succ _)); have HB3 := Aside0.mk (HB.out.trans (ht.b.mono HBw.out)); clear hs ht)
            go_wp2_with (go_at_call 17; (with_reducible refine (ds_down _ HS3.out).mono ?_); rw [HDN.out]; rintro e w5 ⟨rfl, hb⟩; have HS4 := Aside0.mk (HS3.out.step hb); have HB4 := Aside0.mk (below_step HB3.out hb); clear hb HS3 HB3; have HS3 := HS4; have HB3 := HB4; clear HS4 HB4)
            go_roundw
            case rel => exact ⟨k + 1, m + 1, _, by go_num, by go_num, by have := HK.out; omega, HK.out.1.1, by have := HK.out.2; omega, HS3, HI2, HB3⟩
            case measure => exact meas_lt HK.out.1.2 (by go_num)
          · have HE := Aside0.mk hE
            have HI2 := Aside0.mk hI
            have HDN := Aside0.mk hdn
            have y1 : decide ((m : Int) < nn) = false := decide_eq_false hmn
            have y2 : ((m : Int) < nn) = False := eq_false hmn
            clear hE hI hmn hdn HW
            go_upto_region 21 with (go_at_call 13; (with_reducible refine (ds_sync _ HS.out).mono ?_); rw [HE.out]; rintro e w4 ⟨rfl, hs, ht⟩; have HS3 := Aside0.mk (hs.more (Nat.le_succ _)); have HB3 := Aside0.mk (HB.out.trans (ht.b.mono HBw.out)); clear hs ht)
            go_wp2_with (go_at_call 17; (with_reducible refine (ds_down _ HS3.out).mono ?_); rw [HDN.out]; rintro e w5 ⟨rfl, hb⟩; have HS4 := Aside0.mk (HS3.out.step hb); have HB4 := Aside0.mk (below_step HB3.out hb); clear hb HS3 HB3; have HS3 := HS4; have HB3 := HB4; clear HS4 HB4)
            go_roundw
            case rel => exact ⟨k + 1, m, _, by go_num, by go_num, by have := HK.out; omega, HK.out.1.1, by have := HK.out.2; omega, HS3, HI2, HB3⟩
            case measure => exact meas_lt HK.out.1.2 (by go_num)
        · have t2 : (x.f0 == 2) = false := beq_eq_false_iff_ne.mpr hk2
          have t3 : decide (x.f0 = 2) = false := decide_eq_false hk2
          clear hk2
          cases hd : s.down with
          | true =>
            have HL : Aside0 (lookP s 0 = 9) := ⟨if_pos hd⟩
            have HDN := Aside0.mk hd
            clear hd
            go_wp2_with (first | (go_at_call 15; (with_reducible refine (ds_read 0 _ HS.out).mono ?_); rw [HL.out]; rintro e w4 ⟨v, rfl, hb, _⟩; have HS2 := Aside0.mk (HS.out.step hb); have HB2 := Aside0.mk (below_step HB.out hb); clear hb) | (go_at_call 17; (with_reducible refine (ds_down _ HS2.out).mono ?_); rw [HDN.out]; rintro e w5 ⟨rfl, hb⟩; have HS3 := Aside0.mk (HS2.out.step hb); have HB3 := Aside0.mk (below_step HB2.out hb); clear hb HS2 HB2))
            go_roundw
            case rel => exact ⟨k + 1, m, s, by go_num, rfl, by have := HK.out; omega, HK.out.1.1, by have := HK.out.2; omega, ⟨HS3.out.more (Nat.le_succ _)⟩, HI, HB3⟩
            case measure => exact meas_lt HK.out.1.2 (by go_num)
          | false =>
            have HL : Aside0 (lookP s 0 = 0) := ⟨lookP_ok' hd (Int.le_refl _) (by rw [HI.out.1]; decide)⟩
            have HDN := Aside0.mk hd
            clear hd
            go_wp2_with (first | (go_at_call 15; (with_reducible refine (ds_read 0 _ HS.out).mono ?_); rw [HL.out]; rintro e w4 ⟨v, rfl, hb, _⟩; have HS2 := Aside0.mk (HS.out.step hb); have HB2 := Aside0.mk (below_step HB.out hb); clear hb) | (go_at_call 17; (with_reducible refine (ds_down _ HS2.out).mono ?_); rw [HDN.out]; rintro e w5 ⟨rfl, hb⟩; have HS3 := Aside0.mk (HS2.out.step hb); have HB3 := Aside0.mk (below_step HB2.out hb); clear hb HS2 HB2))
            go_roundw
            case rel => exact ⟨k + 1, m, s, by go_num, rfl, by have := HK.out; omega, HK.out.1.1, by have := HK.out.2; omega, ⟨HS3.out.more (Nat.le_succ _)⟩, HI, HB3⟩
            case measure => exact meas_lt HK.out.1.2 (by go_num)
    · have HE1 : Aside0 ((mendS s [] (-1) 0).cache = []) := ⟨rfl⟩
      have HE2 : Aside0 (syncE (mendS s [] (-1) 0) = 0) := ⟨syncE_ok rfl (show ((-1 : Int) ≠ 0) by decide)⟩
      have HE3 : Aside0 ((mendS s [] (-1) 0).down = false) := ⟨rfl⟩
      by_cases h2 : k < l1.length
      · have b2 : decide ((k : Int) < (l1.length : Int)) = true := decide_eq_true (by omega)
        have b3 : decide ((k : Int) < 60) = false := decide_eq_false (by omega)
        have b4 : (k < l1.length) = True := eq_true h2
        have b5 : (k < 60) = False := eq_false (by omega)
        have b6 : ((k : Int) < (l1.length : Int)) = True := eq_true (by omega)
        have b7 : ((k : Int) < 60) = False := eq_false (by omega)
        clear hlt h2 hk hkl hmk
        go_wp2_with (first | (go_at_call 14; (with_reducible refine (mend_nil (-1) 0 _ HS.out).mono ?_); rintro e w6 ⟨⟨u, rfl⟩, hs, ht⟩; have HS2 := Aside0.mk hs; have HB2 := Aside0.mk (HB.out.trans (ht.b.mono HBw.out)); clear hs ht HS HB) | (go_at_call 17; (with_reducible refine (ds_down _ HS2.out).mono ?_); rw [HE3.out]; rintro e w7 ⟨rfl, hb⟩; have HS3 := Aside0.mk (HS2.out.step hb); have HB3 := Aside0.mk (below_step HB2.out hb); clear hb HS2 HB2) | (go_at_call 18; (with_reducible refine (pending_nil HE1.out _ HS3.out).mono ?_); rintro e w8 ⟨A9, c9, rfl, hb⟩; have HS4 := Aside0.mk (HS3.out.step hb); have HB4 := Aside0.mk (below_step HB3.out hb); clear hb HS3 HB3) | (go_at_call 13; (with_reducible refine (ds_sync _ HS4.out).mono ?_); rw [HE2.out]; rintro e w9 ⟨rfl, hs, ht⟩; have HB5 := Aside0.mk (HB4.out.trans (ht.b.mono HBw.out)); clear hs ht HS4 HB4))
        go_ret
        exact ⟨by simp, HB5.out⟩
      · have b2 : decide ((k : Int) < (l1.length : Int)) = false := decide_eq_false (by omega)
        have b4 : (k < l1.length) = False := eq_false h2
        have b6 : ((k : Int) < (l1.length : Int)) = False := eq_false (by omega)
        clear hlt h2 hk hkl hmk
        go_wp2_with (first | (go_at_call 14; (with_reducible refine (mend_nil (-1) 0 _ HS.out).mono ?_); rintro e w6 ⟨⟨u, rfl⟩, hs, ht⟩; have HS2 := Aside0.mk hs; have HB2 := Aside0.mk (HB.out.trans (ht.b.mono HBw.out)); clear hs ht HS HB) | (go_at_call 17; (with_reducible refine (ds_down _ HS2.out).mono ?_); rw [HE3.out]; rintro e w7 ⟨rfl, hb⟩; have HS3 := Aside0.mk (HS2.out.step hb); have HB3 := Aside0.mk (below_step HB2.out hb); clear hb HS2 HB2) | (go_at_call 18; (with_reducible refine (pending_nil HE1.out _ HS3.out).mono ?_); rintro e w8 ⟨A9, c9, rfl, hb⟩; have HS4 := Aside0.mk (HS3.out.step hb); have HB4 := Aside0.mk (below_step HB3.out hb); clear hb HS3 HB3) | (go_at_call 13; (with_reducible refine (ds_sync _ HS4.out).mono ?_); rw [HE2.out]; rintro e w9 ⟨rfl, hs, ht⟩; have HB5 := Aside0.mk (HB4.out.trans (ht.b.mono HBw.out)); clear hs ht HS4 HB4))
        go_ret
        exact ⟨by simp, HB5.out⟩
end Go.Proofs.Ytehgbikleiaagaa.P
end
section
namespace Go.Proofs.Ytehgbikleiaagaa.Pure
open Go.RowKit Go.Proofs.Ytehgbikleiaagaa.P Go.Proofs.YtehgbikleiaagaaW.PrintWords Go.Proofs.YtehgbikleiaagaaW.PrintLast
theorem DiskArms : ∀ (a0 : Int) (l1 : List (S32)), (Lit.int .i64 a0).wf = true → G22 l1 → quarrylaw05_DiskArms.f a0 l1 = some true := by
  intros
  rfl
end Go.Proofs.Ytehgbikleiaagaa.Pure
end

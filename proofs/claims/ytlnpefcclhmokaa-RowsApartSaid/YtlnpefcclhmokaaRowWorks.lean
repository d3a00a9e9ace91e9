/- The laws' own little test of the code is passed. -/
import Derived.Test.YtlnpefcclhmokaaR2
import Derived.Test.YtlnpefcclhmokaaRowBase
import Derived.Test.YtlnpefcclhmokaaRowDec
namespace Go.Proofs.Ytlnpefcclhmokaa.Pure
set_option linter.unusedVariables false
set_option linter.unusedSimpArgs false
open Go.RowKit Go.Proofs.Ytlnpefcclhmokaa.P Go.Proofs.YtlnpefcclhmokaaW.PrintWords Go.Proofs.YtlnpefcclhmokaaW.PrintLast
theorem vnum_1 : vnum 1 = [1] := vnum_small (by decide)
theorem vnum_600 : vnum 600 = [216, 4] := by rw [vnum_big (by decide), vnum_small (by decide)]; rfl
theorem works_ev : Ev (fun k => quarrylaw04_works.f k) true := by
  unfold quarrylaw04_works.f
  have o1 : okR [(⟨2, 300, (⟨#[]⟩ : ByteArray)⟩ : S38)] := by
    refine ⟨fun x hx => ?_, by decide, by decide⟩
    simp only [List.mem_singleton] at hx
    subst hx
    exact ⟨by constructor <;> decide, by decide⟩
  have o2 : okR [(⟨0, 0, (⟨#[]⟩ : ByteArray)⟩ : S38)] := by
    refine ⟨fun x hx => ?_, by decide, by decide⟩
    simp only [List.mem_singleton] at hx
    subst hx
    exact ⟨by constructor <;> decide, by decide⟩
  have c1 : encB ⟨2, 300, V0⟩ = [2, 216, 4] := by
    have : encB ⟨2, 300, V0⟩ = 2 :: vnum (zig 300) := rfl
    rw [this, show zig 300 = 600 by decide, vnum_600]
  have e1 : encode [(⟨2, 300, (⟨#[]⟩ : ByteArray)⟩ : S38)] = ([1, 2, 216, 4], 0) := by
    have h : encR [(⟨2, 300, V0⟩ : S38)] = some [1, 2, 216, 4] := by
      unfold encR
      rw [encL, if_pos (by simp [chkV, V0_list]), encL, c1]
      show some (vnum 1 ++ _) = _
      rw [vnum_1]
      rfl
    show encode [(⟨2, 300, V0⟩ : S38)] = _
    unfold encode
    rw [h]
    rfl
  have e2 : sizeR [(⟨0, 0, (⟨#[]⟩ : ByteArray)⟩ : S38)] = 2 := by
    have h : encR [(⟨0, 0, V0⟩ : S38)] = some [1, 0] := by
      unfold encR
      rw [encL, if_pos (by simp [chkV, V0_list]), encL]
      show some (vnum 1 ++ _) = _
      rw [vnum_1]
      rfl
    show sizeR [(⟨0, 0, V0⟩ : S38)] = _
    unfold sizeR allR
    rw [h]
    rfl
  have e3 : rows_Decode.f ([1, 5] : List Int) = some ([], 5) := by decide
  refine Ev.bind (rows_Encode_ev o1) ?_
  rw [e1, e3]
  simp only [Option.bind_some, if_true]
  refine Ev.bind (rows_Size_ev o2) ?_
  rw [e2]
  exact Ev.pure _
theorem okR_of {l : List S38} {n : Nat} (h : ∀ x ∈ l, I64 x.f1 ∧ x.f2.size ≤ 2048) (hl : l.length ≤ 4096) : okR l := by
  have hr : room l ≤ 2059 * l.length := by
    clear hl
    induction l with
    | nil => simp [room]
    | cons x l ih =>
      have h1 := (h x (by simp)).2
      have := ih (fun y hy => h y (by simp [hy]))
      simp only [room, List.length_cons]
      omega
  exact ⟨fun x hx => ⟨(h x hx).1, by have := (h x hx).2; omega⟩, by omega, by omega⟩
theorem r_loop_len2 : ∀ (n : Nat) (acc : List S38) (l : List Int) {r : List S38} {t : List Int}, r_loop n acc l = .ok (r, t) → r.length + t.length ≤ acc.length + l.length := by
  intro n
  induction n with
  | zero =>
    intro acc l r t h
    simp only [r_loop, Except.ok.injEq, Prod.mk.injEq] at h
    obtain ⟨rfl, rfl⟩ := h
    exact Nat.le_refl _
  | succ n ih =>
    intro acc l r t h
    rw [r_loop] at h
    cases hv : r_val l with
    | error c => rw [hv] at h; cases h
    | ok p =>
      obtain ⟨x, t'⟩ := p
      rw [hv] at h
      have h1 := ih _ _ h
      have h2 := r_val_length hv
      simp at h1
      omega
theorem r_dec_len2 (l : List Int) : (r_dec l).1.length ≤ 2048 := by
  unfold r_dec
  by_cases e : 2048 < l.length
  · rw [if_pos e]; simp
  rw [if_neg e]
  cases hn : r_num 0 0 l with
  | error c => simp
  | ok p =>
    obtain ⟨n, t⟩ := p
    simp only
    have h0 := r_num_length hn
    cases hq : r_loop n.toNat [] t with
    | error c => simp [r_fin]
    | ok q =>
      obtain ⟨r, t'⟩ := q
      have := r_loop_len2 _ _ _ hq
      rw [r_fin]
      split
      · simp
      · simp at this ⊢; omega
theorem bytes_known2 {l : List Int} (h : G24 l) : bytesB l = true ∧ l.length < 140737488355328 := by
  refine ⟨?_, by have := h.2; omega⟩
  unfold bytesB
  rw [List.all_eq_true]
  intro x hx
  have := bounds_u8 (h.1 x hx)
  simp only [Bool.and_eq_true, decide_eq_true_eq]
  omega
theorem encB_bytes {x : S38} : BytesIn (encB x) := by
  unfold encB
  intro y hy
  rcases List.mem_cons.1 hy with rfl | hy
  · omega
  · split at hy
    · simp at hy; omega
    split at hy
    · exact vnum_bytes _ y hy
    split at hy
    · rcases List.mem_append.1 hy with h | h
      · exact vnum_bytes _ y h
      · exact bytesOf_in _ y h
    · simp at hy
theorem encL_bytes : ∀ (l : List S38) {b : List Int}, encL l = some b → BytesIn b := by
  intro l
  induction l with
  | nil => intro b h; simp only [encL, Option.some.injEq] at h; subst h; intro x hx; simp at hx
  | cons x l ih =>
    intro b h
    rw [encL] at h
    by_cases hc : chk x.f0 x.f1 x.f2 = 0
    · rw [if_pos hc] at h
      obtain ⟨b', hb, rfl⟩ := Option.map_eq_some_iff.1 h
      intro y hy
      rcases List.mem_append.1 hy with h | h
      · exact encB_bytes y h
      · exact ih hb y h
    · rw [if_neg hc] at h; cases h
theorem encR_bytes {l : List S38} {b : List Int} (h : encR l = some b) : BytesIn b := by
  obtain ⟨c, hc, rfl⟩ := encR_some h
  intro y hy
  rcases List.mem_append.1 hy with h | h
  · exact vnum_bytes _ y h
  · exact encL_bytes l hc y h
theorem bytesB_of {l : List Int} (h : BytesIn l) : bytesB l = true := by
  unfold bytesB
  rw [List.all_eq_true]
  intro x hx
  have := h x hx
  simp only [Bool.and_eq_true, decide_eq_true_eq]
  omega
theorem Decode_is {l : List Int} (h : BytesIn l) : rows_Decode.f l = some (r_dec l) := by rw [rows_Decode.f, if_pos (bytesB_of h)]
theorem sizeR_some {l : List S38} {b : List Int} (h : encR l = some b) : sizeR l = (b.length : Int) := by
  unfold sizeR allR
  rw [h]
theorem encode_some {l : List S38} {b : List Int} (h : encR l = some b) (hb : b.length ≤ 2048) : encode l = (b, 0) := by
  unfold encode
  rw [h]
  exact if_neg (by omega)
end Go.Proofs.Ytlnpefcclhmokaa.Pure

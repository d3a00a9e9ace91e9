/- Keys as plain data: what is written; lists of bytes in order. No condition. -/
import Derived.Test.YtbpnmmakodaakaaA1
import Derived.Test.YtbpnmmakodaakaaF1
import Derived.Test.YtbpnmmakodaakaaH2
import Derived.Test.YtbpnmmakodaakaaOrd
namespace Go.Proofs.Ytbpnmmakodaakaa.Pure
set_option linter.unusedVariables false
set_option linter.unusedSimpArgs false
open Go.RowKit Go.Proofs.Ytbpnmmakodaakaa.P Go.Proofs.YtbpnmmakodaakaaW.PrintWords Go.Proofs.YtbpnmmakodaakaaW.PrintLast Go.Proofs.YtbpnmmakodaakaaW.PrintMore

/-! ### Bytes in order -/
def cmpL : List Int → List Int → Int
  | [], [] => 0
  | [], _ :: _ => -1
  | _ :: _, [] => 1
  | a :: l, b :: m => if a < b then -1 else if b < a then 1 else cmpL l m
/-- Two lists are one (c = 0), or differ at a place ahead of both ends, and there in the way c. -/
def Diff (p q : List Int) (c : Int) : Prop := (c = 0 ∧ p = q) ∨ (c ≠ 0 ∧ ∃ u a b p' q', p = u ++ a :: p' ∧ q = u ++ b :: q' ∧ c = cmpI a b)
theorem Diff.refl (p : List Int) : Diff p p 0 := .inl ⟨rfl, rfl⟩
theorem Diff.head {a b : Int} (h : a ≠ b) (p q : List Int) : Diff (a :: p) (b :: q) (cmpI a b) := .inr ⟨by unfold cmpI; split <;> (try split) <;> omega, [], a, b, p, q, rfl, rfl, rfl⟩
theorem Diff.cons (a : Int) {p q : List Int} {c : Int} (h : Diff p q c) : Diff (a :: p) (a :: q) c := by
  rcases h with ⟨rfl, rfl⟩ | ⟨hc, u, x, y, p', q', rfl, rfl, h⟩
  · exact .inl ⟨rfl, rfl⟩
  · exact .inr ⟨hc, a :: u, x, y, p', q', rfl, rfl, h⟩
theorem cmpL_same (u p q : List Int) : cmpL (u ++ p) (u ++ q) = cmpL p q := by
  induction u with
  | nil => rfl
  | cons a u ih => simp [cmpL, ih]
theorem cmpL_self (u : List Int) : cmpL u u = 0 := by
  induction u with
  | nil => rfl
  | cons a u ih => simp [cmpL, ih]
theorem Diff.cmp {p q : List Int} {c : Int} (h : Diff p q c) (s t : List Int) : cmpL (p ++ s) (q ++ t) = if c = 0 then cmpL s t else c := by
  rcases h with ⟨rfl, rfl⟩ | ⟨hc, u, x, y, p', q', rfl, rfl, h⟩
  · rw [if_pos rfl, cmpL_same]
  · rw [if_neg hc, List.append_assoc, List.append_assoc, cmpL_same]
    subst h
    unfold cmpI at hc ⊢
    simp only [List.cons_append, cmpL]
    by_cases h1 : x < y
    · simp [h1]
    · by_cases h2 : y < x
      · simp [h1, h2]
      · simp [h1, h2] at hc
def flipL (l : List Int) : List Int := l.map (255 - ·)
theorem Diff.flip {p q : List Int} {c : Int} (h : Diff p q c) : Diff (flipL p) (flipL q) (-c) := by
  rcases h with ⟨rfl, rfl⟩ | ⟨hc, u, x, y, p', q', rfl, rfl, h⟩
  · exact .inl ⟨by omega, rfl⟩
  · refine .inr ⟨by omega, flipL u, 255 - x, 255 - y, flipL p', flipL q', by simp [flipL], by simp [flipL], ?_⟩
    rw [h]
    unfold cmpI
    by_cases h1 : x < y
    · have h2 : ¬ y < x := by omega
      have h3 : ¬ (255 - x < 255 - y) := by omega
      have h4 : 255 - y < 255 - x := by omega
      simp only [h1, h2, h3, h4, if_true, if_false]; omega
    · by_cases h2 : y < x
      · have h3 : (255 - x < 255 - y) := by omega
        simp only [h1, h2, h3, if_true, if_false]
      · have h3 : ¬ (255 - x < 255 - y) := by omega
        have h4 : ¬ (255 - y < 255 - x) := by omega
        simp only [h1, h2, h3, h4, if_false]; omega
theorem flipL_length (l : List Int) : (flipL l).length = l.length := by simp [flipL]
theorem flipL_append (l m : List Int) : flipL (l ++ m) = flipL l ++ flipL m := by simp [flipL]

/-! ### What is written -/
def esc : List UInt8 → List Int
  | [] => []
  | c :: l => if c = 0 then 0 :: 255 :: esc l else (c.toNat : Int) :: esc l
/-- k digits to the base 256, the highest first. -/
def be : Nat → Int → List Int
  | 0, _ => []
  | k + 1, n => (n / 256 ^ k) % 256 :: be k n
def payload (x : S43) : List Int := if x.f0 = 1 then [x.f1 % 256] else if x.f0 = 2 then be 8 (x.f1 + 9223372036854775808) else if x.f0 = 3 ∨ x.f0 = 4 then esc x.f2.data.toList ++ [0, 1] else []
def encB (x : S43) : List Int := (x.f0 + 1) % 256 :: payload x
def turnB (b : Bool) (l : List Int) : List Int := if b = true then flipL l else l
def chk (x : S43) : Int := chkV x.f0 x.f1 x.f2
def encE : List Bool → List S43 → Option (List Int)
  | _, [] => some []
  | d, x :: l => if chk x = 0 then (encE d.tail l).map (turnB (d.headD false) (encB x) ++ ·) else none
def encR (d : List Bool) (l : List S43) : List Int × Int := match encE d l with | none => ([], 3) | some b => (b, 0)
def room (l : List S43) : Nat := (l.map fun x => 2 * x.f2.size + 12).sum
def okV (x : S43) : Prop := I64 x.f0 ∧ I64 x.f1 ∧ x.f2.size ≤ 140737488351232
theorem be_length (k : Nat) (n : Int) : (be k n).length = k := by
  induction k with
  | zero => rfl
  | succ k ih => simp [be, ih]
theorem esc_length (l : List UInt8) : (esc l).length ≤ 2 * l.length := by
  induction l with
  | nil => simp [esc]
  | cons c l ih => unfold esc; split <;> simp <;> omega
theorem size_toList (s : ByteArray) : s.size = s.data.toList.length := by rw [Array.length_toList]; rfl
theorem encB_length (x : S43) : (encB x).length ≤ 2 * x.f2.size + 11 := by
  unfold encB payload
  have h := esc_length x.f2.data.toList
  rw [← size_toList] at h
  split
  · simp
  split
  · simp [be_length]
  split
  · simp; omega
  · simp
theorem turnB_length (b : Bool) (l : List Int) : (turnB b l).length = l.length := by unfold turnB; split <;> simp [flipL]
theorem encE_length : ∀ (l : List S43) (d : List Bool) {b : List Int}, encE d l = some b → b.length ≤ room l
  | [], d, b, h => by simp only [encE, Option.some.injEq] at h; subst h; simp
  | x :: l, d, b, h => by
    unfold encE at h
    split at h
    · obtain ⟨b', hb, rfl⟩ := Option.map_eq_some_iff.1 h
      have := encE_length l _ hb
      have h2 := encB_length x
      simp [room, turnB_length] at this ⊢
      omega
    · cases h
theorem be_range (k : Nat) (n : Int) : ∀ x ∈ be k n, 0 ≤ x ∧ x ≤ 255 := by
  induction k with
  | zero => intro x hx; simp [be] at hx
  | succ k ih =>
    intro x hx
    simp only [be, List.mem_cons] at hx
    rcases hx with rfl | hx
    · omega
    · exact ih x hx
theorem esc_range (l : List UInt8) : ∀ x ∈ esc l, 0 ≤ x ∧ x ≤ 255 := by
  induction l with
  | nil => intro x hx; simp [esc] at hx
  | cons c l ih =>
    intro x hx
    unfold esc at hx
    have hc := c.toNat_lt
    split at hx
    · simp only [List.mem_cons] at hx
      rcases hx with rfl | rfl | hx
      · omega
      · omega
      · exact ih x hx
    · simp only [List.mem_cons] at hx
      rcases hx with rfl | hx
      · omega
      · exact ih x hx
theorem payload_range (x : S43) : BytesIn (payload x) := by
  unfold payload
  intro y hy
  split at hy
  · simp at hy; omega
  split at hy
  · exact be_range _ _ y hy
  split at hy
  · simp only [List.mem_append, List.mem_cons, List.not_mem_nil, or_false] at hy
    rcases hy with hy | rfl | rfl
    · exact esc_range _ y hy
    · omega
    · omega
  · simp at hy
theorem encB_range (x : S43) : BytesIn (encB x) := by
  intro y hy
  simp only [encB, List.mem_cons] at hy
  rcases hy with rfl | hy
  · omega
  · exact payload_range x y hy
theorem turnB_range (b : Bool) {l : List Int} (h : BytesIn l) : BytesIn (turnB b l) := by
  unfold turnB
  split
  · intro y hy
    simp only [flipL, List.mem_map] at hy
    obtain ⟨x, hx, rfl⟩ := hy
    have := h x hx
    omega
  · exact h
theorem encE_range : ∀ (l : List S43) (d : List Bool) {b : List Int}, encE d l = some b → BytesIn b
  | [], d, b, h => by simp only [encE, Option.some.injEq] at h; subst h; intro x hx; simp at hx
  | x :: l, d, b, h => by
    unfold encE at h
    split at h
    · obtain ⟨b', hb, rfl⟩ := Option.map_eq_some_iff.1 h
      intro y hy
      rcases List.mem_append.1 hy with hy | hy
      · exact turnB_range _ (encB_range x) y hy
      · exact encE_range l _ hb y hy
    · cases h
/-! ### Right values -/
theorem chk_kind {x : S43} (h : chk x = 0) : 0 ≤ x.f0 ∧ x.f0 ≤ 4 := by
  unfold chk chkV at h
  by_cases h0 : x.f0 = 0
  · omega
  by_cases h1 : x.f0 = 1
  · omega
  by_cases h2 : x.f0 = 2
  · omega
  by_cases h3 : x.f0 = 3 ∨ x.f0 = 4
  · omega
  · simp [h0, h1, h2, h3] at h
theorem nil_of_toList {s : ByteArray} (h : s.toList = []) : s = V0 := by
  refine toList_inj ?_
  rw [h, Go.ByteArray.toList_eq]
  rfl
theorem chk_zero {x : S43} (h : chk x = 0) (h0 : x.f0 = 0) : x = ⟨0, 0, V0⟩ := by
  unfold chk chkV at h
  simp only [h0, if_true] at h
  by_cases e : x.f1 = 0 ∧ x.f2.toList = []
  · have e2 := nil_of_toList e.2
    cases x
    simp_all
  · simp [e] at h
theorem chk_one {x : S43} (h : chk x = 0) (h1 : x.f0 = 1) : (x.f1 = 0 ∨ x.f1 = 1) ∧ x.f2 = V0 := by
  unfold chk chkV at h
  have h0 : ¬ x.f0 = 0 := by omega
  simp only [h1] at h
  by_cases e : (x.f1 = 0 ∨ x.f1 = 1) ∧ x.f2.toList = []
  · exact ⟨e.1, nil_of_toList e.2⟩
  · simp [e] at h
theorem chk_two {x : S43} (h : chk x = 0) (h2 : x.f0 = 2) : x.f2 = V0 := by
  unfold chk chkV at h
  simp only [h2] at h
  by_cases e : x.f2.toList = []
  · exact nil_of_toList e
  · simp [e] at h
theorem chk_text {x : S43} (h : chk x = 0) (h3 : x.f0 = 3 ∨ x.f0 = 4) : x.f1 = 0 := by
  unfold chk chkV at h
  have h0 : ¬ x.f0 = 0 := by omega
  have h1 : ¬ x.f0 = 1 := by omega
  have h2 : ¬ x.f0 = 2 := by omega
  simp only [h0, h1, h2, h3, if_false, if_true] at h
  by_cases e : x.f1 = 0
  · exact e
  · simp [e] at h
theorem chk_mk_text {k : Int} (hk : k = 3 ∨ k = 4) (s : ByteArray) : chk ⟨k, 0, s⟩ = 0 := by
  unfold chk chkV
  rcases hk with rfl | rfl <;> simp
end Go.Proofs.Ytbpnmmakodaakaa.Pure

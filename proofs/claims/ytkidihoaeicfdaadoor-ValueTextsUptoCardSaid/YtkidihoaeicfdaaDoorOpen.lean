/- How an argument's reading as data is opened, for whatever kind of value: numbers, bools, texts, structs, slices, each within the others; and what its weights and its bulk bound. No condition. -/
import Derived.Test.YtkidihoaeicfdaaDoorRows
import Derived.Test.YtkidihoaeicfdaaDoorWWords
import Derived.ChangeArms
import Derived.DataReads
import Derived.WideShapes
import Derived.SizedLaws
namespace Go.Proofs.YtkidihoaeicfdaaDoor.Opens
open Go.Proofs.YtkidihoaeicfdaaDoorW.PrintWords Go.WideShapes

/-- What reads as data at type t is of the kind d; G is known of the value, and its measure m is at most the datum's bulk. -/
def At {α : Type} (P : Program) (fuel : Nat) (d : Kd α) (t : TypeId) (G : α → Prop) (m : α → Nat) : Prop :=
  ∀ (H : Type) (enc : TypeId × Value → H) (W : World) (base : Nat) (spare : Nat → Bool) (held : Bool) (cs : List Value) (x : DataW H × List MemPlace),
    DataW.trod enc P W base spare held fuel t cs = some x → (x.1.weights P t).all (· ≤ reachBytes) = true → ∃ v, d.K W v cs ∧ G v ∧ m v ≤ Rows.uptoBulk x.1

theorem int_ {P : Program} {fuel : Nat} {t : TypeId} {k : IntKind} (ht : P.underlying t = some (.int k)) : At P fuel (Kd.int k) t (fun n => (Lit.int k n).wf = true) (fun _ => 1) := by
  intro H enc W base spare held cs x h _
  obtain ⟨n, rfl, rfl, hw⟩ := DataW.trod_int ht h
  exact ⟨n, rfl, hw, by simp [Rows.uptoBulk]⟩

theorem bool_ {P : Program} {fuel : Nat} {t : TypeId} (ht : P.underlying t = some .bool) : At P fuel Kd.bool t (fun _ => True) (fun _ => 1) := by
  intro H enc W base spare held cs x h _
  obtain ⟨b, rfl, rfl⟩ := DataW.trod_bool ht h
  exact ⟨b, rfl, trivial, by simp [Rows.uptoBulk]⟩

theorem string_ {P : Program} {fuel : Nat} {t : TypeId} (ht : P.underlying t = some .string) : At P fuel Kd.string t (fun s => s.size ≤ 140737488351232) (fun s => s.size + 1) := by
  intro H enc W base spare held cs x h hw
  obtain ⟨s, rfl, rfl, hs⟩ := DataW.trod_string ht h
  refine ⟨s, rfl, ?_, ?_⟩
  · simp only [DataW.weights] at hw
    have h1 : s.data.toList.length ≤ 140737488351232 := of_decide_eq_true (List.all_eq_true.1 hw _ (List.mem_singleton.2 rfl))
    rw [Array.length_toList] at h1
    exact h1
  · have : s.data.toList.length = s.size := by rw [Array.length_toList]; rfl
    simp only [Rows.uptoBulk, this]
    omega

theorem add_add_ (a : Addr) (i j : Nat) : (a.add i).add j = a.add (i + j) := by
  unfold Addr.add
  by_cases hi : i = 0 <;> by_cases hj : j = 0 <;> simp [hi, hj, Nat.add_assoc]

theorem elems_ {α : Type} {P : Program} {d : Kd α} {e : TypeId} {G : α → Prop} {m : α → Nat} {n : Nat} (hat : At P n d e G m) (hsz : P.cellsOf e = d.sz)
    {H : Type} {enc : TypeId × Value → H} {W : World} {base : Nat} {spare : Nat → Bool} {held : Bool} (a : Addr) :
    ∀ (l : List (DataW H × List MemPlace)) (off : Nat), (∀ i, i < l.length → (W.cells? base (a.add ((off + i) * P.cellsOf e)) (P.cellsOf e)).bind (DataW.trod enc P W base spare held n e) = l[i]?) →
      (DataW.weightsAll P e (l.map (·.1))).all (· ≤ reachBytes) = true →
      ∃ vs : List α, vs.length = l.length ∧ (∀ i v, vs[i]? = some v → ∃ c, c.length = d.sz ∧ d.K W v c ∧ ∀ j u, c[j]? = some u → W.cell? (a.add ((off + i) * d.sz + j)) = some u) ∧ (∀ v ∈ vs, G v) ∧ (vs.map m).sum ≤ Rows.uptoBulkAll (l.map (·.1))
  | [], off, _, _ => ⟨[], rfl, fun i v h => by simp at h, fun v h => by simp at h, by simp [Rows.uptoBulkAll]⟩
  | y :: l, off, h, hw => by
    have h0 := h 0 (by simp)
    simp only [List.getElem?_cons_zero, Nat.add_zero] at h0
    obtain ⟨cs, hc, ht⟩ := Option.bind_eq_some_iff.1 h0
    simp only [List.map_cons, DataW.weightsAll, List.all_append, Bool.and_eq_true] at hw
    obtain ⟨v, hK, hG, hm⟩ := hat H enc W base spare held cs y ht hw.1
    obtain ⟨vs, hl, hr, hGs, hms⟩ := elems_ hat hsz a l (off + 1) (fun i hi => by
      have := h (i + 1) (by simpa using hi)
      simp only [List.getElem?_cons_succ] at this
      rw [show off + 1 + i = off + (i + 1) by omega]
      exact this) hw.2
    obtain ⟨_, hlen, hcell⟩ := World.cells?_some hc
    refine ⟨v :: vs, by simp [hl], ?_, ?_, ?_⟩
    · intro i w hi
      cases i with
      | zero =>
        simp only [List.getElem?_cons_zero, Option.some.injEq] at hi
        subst hi
        refine ⟨cs, by rw [hlen, hsz], hK, fun j u hu => ?_⟩
        have hj : j < P.cellsOf e := by rw [← hlen]; exact (List.getElem?_eq_some_iff.1 hu).1
        have := hcell j hj
        rw [add_add_, hsz] at this
        rw [Nat.add_zero, this, hu]
      | succ i =>
        simp only [List.getElem?_cons_succ] at hi
        obtain ⟨c, h1, h2, h3⟩ := hr i w hi
        exact ⟨c, h1, h2, fun j u hu => by rw [show off + (i + 1) = off + 1 + i by omega]; exact h3 j u hu⟩
    · intro w hw'
      rcases List.mem_cons.1 hw' with rfl | hw'
      · exact hG
      · exact hGs w hw'
    · simp only [List.map_cons, List.sum_cons, Rows.uptoBulkAll]
      omega

theorem slice_ {α : Type} {P : Program} {d : Kd α} {t e : TypeId} {G : α → Prop} {m : α → Nat} {fuel : Nat} (ht : P.underlying t = some (.slice e)) (hsz : P.cellsOf e = d.sz) {B : Nat} (hB : P.bytesOf e = B) (hat : ∀ n, n < fuel → At P n d e G m) :
    At P fuel (Kd.slice e d) t (fun xs => (∀ x ∈ xs, G x) ∧ xs.length * B ≤ 140737488351232) (fun xs => (xs.map m).sum + 1) := by
  intro H enc W base spare held cs x h hw
  rcases DataW.trod_slice ht h with ⟨rfl, rfl⟩ | ⟨a, len, cap, elems, rest, n, hf, rfl, rfl, hb, hl, hm, hlen, hel, _, _⟩
  · refine ⟨[], ⟨none, 0, rfl, Nat.le_refl _, rfl, by simp, fun h => absurd h (by simp)⟩, ⟨fun x hx => by simp at hx, by simp⟩, by simp [Rows.uptoBulk]⟩
  · simp only [DataW.weights, ht, List.all_cons, List.all_append, Bool.and_eq_true, decide_eq_true_eq, List.length_map] at hw
    obtain ⟨hw0, hw1, _⟩ := hw
    obtain ⟨vs, hvl, hr, hG, hms⟩ := elems_ (hat n (by omega)) hsz a elems 0 (fun i hi => by rw [Nat.zero_add]; exact hel i (hlen ▸ hi)) hw1
    have hvl' : vs.length = len := by rw [hvl, hlen]
    have hmx : len ≤ 9223372036854775807 := by simp only [maxLen] at hm; omega
    refine ⟨vs, ⟨some a, cap, by rw [hvl'], by rw [hvl']; exact hl, rfl, by rw [hvl']; exact hmx, fun _ => ⟨a, rfl, fun j p hj => ?_⟩⟩, ⟨hG, ?_⟩, ?_⟩
    · obtain ⟨c, h1, h2, h3⟩ := hr j p hj
      exact ⟨c, h1, h2, fun i u hu => by have := h3 i u hu; rwa [Nat.zero_add] at this⟩
    · have : vs.length * B ≤ (elems.length + rest.length) * P.bytesOf e := by
        rw [hB]
        exact Nat.mul_le_mul_right _ (by omega)
      simp only [reachBytes] at hw0
      omega
    · simp only [Rows.uptoBulk]
      omega

/-- The fields from one on. -/
def Fields {α : Type} (P : Program) (n : Nat) (d : Kd α) (fs : List Field) (off total : Nat) (G : α → Prop) (m : α → Nat) : Prop :=
  ∀ (H : Type) (enc : TypeId × Value → H) (W : World) (base : Nat) (spare : Nat → Bool) (held : Bool) (cs : List Value) (xs : List (DataW H × List MemPlace)), cs.length = total → xs.length = fs.length →
    (∀ (i : Nat) (f : Field), fs[i]? = some f → DataW.trod enc P W base spare held n f.type ((cs.drop f.offset).take (P.cellsOf f.type)) = xs[i]?) → (DataW.weightsEach P (fs.map (fun f => f.type)) (xs.map (·.1))).all (· ≤ reachBytes) = true →
    ∃ v, d.K W v (cs.drop off) ∧ G v ∧ m v ≤ Rows.uptoBulkAll (xs.map (·.1))

theorem last_ {α : Type} {P : Program} {n : Nat} {d : Kd α} {f : Field} {off total : Nat} {G : α → Prop} {m : α → Nat} (ho : f.offset = off) (hc : off + P.cellsOf f.type = total) (hat : At P n d f.type G m) : Fields P n d [f] off total G m := by
  intro H enc W base spare held cs xs hl hx h hw
  match xs, hx with
  | [y], _ =>
    have h0 := h 0 f rfl
    simp only [List.getElem?_cons_zero] at h0
    rw [ho, List.take_of_length_le (by rw [List.length_drop]; omega)] at h0
    simp only [List.map_cons, List.map_nil, DataW.weightsEach, List.append_nil] at hw
    obtain ⟨v, hK, hG, hm⟩ := hat H enc W base spare held _ y h0 hw
    exact ⟨v, hK, hG, by simpa [Rows.uptoBulkAll] using hm⟩

theorem cons_ {α β : Type} {P : Program} {n : Nat} {d : Kd α} {d' : Kd β} {f : Field} {fs : List Field} {off total : Nat} {G : α → Prop} {G' : β → Prop} {m : α → Nat} {m' : β → Nat} (ho : f.offset = off) (hat : At P n d f.type G m)
    (hr : Fields P n d' fs (off + P.cellsOf f.type) total G' m') : Fields P n (Kd.pair d d') (f :: fs) off total (fun x => G x.1 ∧ G' x.2) (fun x => m x.1 + m' x.2) := by
  intro H enc W base spare held cs xs hl hx h hw
  match xs, hx with
  | y :: xs, hx =>
    have h0 := h 0 f rfl
    simp only [List.getElem?_cons_zero] at h0
    rw [ho] at h0
    simp only [List.map_cons, DataW.weightsEach, List.all_append, Bool.and_eq_true] at hw
    obtain ⟨v, hK, hG, hm⟩ := hat H enc W base spare held _ y h0 hw.1
    obtain ⟨v', hK', hG', hm'⟩ := hr H enc W base spare held cs xs hl (by simpa using hx) (fun i g hg => by
      have := h (i + 1) g (by simpa using hg)
      simpa using this) hw.2
    refine ⟨(v, v'), ⟨_, _, ?_, hK, hK'⟩, ⟨hG, hG'⟩, ?_⟩
    · rw [← List.drop_drop, List.take_append_drop]
    · simp only [List.map_cons, Rows.uptoBulkAll]
      omega

theorem struct_ {α : Type} {P : Program} {fuel : Nat} {d : Kd α} {t : TypeId} {fs : Array Field} {G : α → Prop} {m : α → Nat} (ht : P.underlying t = some (.struct fs)) (hf : ∀ n, n < fuel → Fields P n d fs.toList 0 (P.cellsOf t) G m) :
    At P fuel d t G (fun x => m x + 1) := by
  intro H enc W base spare held cs x h hw
  obtain ⟨xs, n, hn, rfl, hl, hlen, hi⟩ := DataW.trod_struct ht h
  simp only [DataW.weights, ht] at hw
  obtain ⟨v, hK, hG, hm⟩ := hf n (by omega) H enc W base spare held cs xs hl (by simpa using hlen) (fun i f hf => hi i f (by simpa using hf)) hw
  refine ⟨v, by simpa using hK, hG, ?_⟩
  simp only [Rows.uptoBulk]
  omega

theorem iso_ {α β : Type} {P : Program} {fuel : Nat} {d : Kd α} {t : TypeId} {G : α → Prop} {m : α → Nat} (f : β → α) (g : α → β) (hfg : ∀ a, f (g a) = a) (h : At P fuel d t G m) : At P fuel (Kd.iso d f) t (fun x => G (f x)) (fun x => m (f x)) := by
  intro H enc W base spare held cs x hx hw
  obtain ⟨v, hK, hG, hm⟩ := h H enc W base spare held cs x hx hw
  exact ⟨g v, by show d.K W (f (g v)) cs; rw [hfg]; exact hK, by show G (f (g v)); rw [hfg]; exact hG, by show m (f (g v)) ≤ _; rw [hfg]; exact hm⟩

theorem mono_ {α : Type} {P : Program} {fuel : Nat} {d : Kd α} {t : TypeId} {G G' : α → Prop} {m m' : α → Nat} (h : At P fuel d t G m) (hG : ∀ x, G x → G' x) (hm : ∀ x, m' x ≤ m x) : At P fuel d t G' m' := by
  intro H enc W base spare held cs x hx hw
  obtain ⟨v, hK, hG', hm'⟩ := h H enc W base spare held cs x hx hw
  exact ⟨v, hK, hG _ hG', Nat.le_trans (hm _) hm'⟩

/-! Arguments -/
section
variable {P : Program} {W : World} {base b0 : Nat} {H : Type} {enc : TypeId × Value → H} {spare : Nat → Bool} {held : Bool}

theorem weights_of {ts : List TypeId} {ds : List (DataW H)} (h : (DataW.weightsEach P ts ds).all (· ≤ reachBytes) = true) {j : Nat} {t : TypeId} {d : DataW H} (ht : ts[j]? = some t) (hd : ds[j]? = some d) : (d.weights P t).all (· ≤ reachBytes) = true := by
  rw [List.all_eq_true]
  exact fun n hn => List.all_eq_true.1 h n (DataW.weights_mem_each ht hd n hn)

theorem slice_arg {α : Type} {d : Kd α} {t e : TypeId} {G : List α → Prop} {m : List α → Nat} {v : Value} {D : DataW H} {ps : List MemPlace} (hu : P.underlying t = some (.slice e)) (hat : ∀ fuel, At P fuel (Kd.slice e d) t G m)
    (hv : Value.okWide P W .any b0 t v) (h : DataW.Trod enc P W base spare held t v D ps) (hw : (D.weights P t).all (· ≤ reachBytes) = true) :
    ∃ (A : Option Addr) (c : Nat) (xs : List α), v = .slice A xs.length c ∧ xs.length ≤ c ∧ Kd.C d W A xs.length xs ∧ G xs ∧ m xs ≤ Rows.uptoBulk D := by
  obtain ⟨a, len, cap, rfl⟩ := okWide_slice hu hv
  obtain ⟨fuel, hf⟩ := h
  obtain ⟨xs, ⟨A, c, he, hl, hC⟩, hG, hm⟩ := hat fuel H enc W base spare held _ (D, ps) hf hw
  have he' : [Value.slice a len cap] = [Value.slice A xs.length c] := by simpa [Value.cells] using he
  simp only [List.cons.injEq, and_true] at he'
  exact ⟨A, c, xs, he', hl, hC, hG, hm⟩

theorem struct_arg {α : Type} {d : Kd α} {t : TypeId} {fs : Array Field} {G : α → Prop} {m : α → Nat} {v : Value} {D : DataW H} {ps : List MemPlace} (hu : P.underlying t = some (.struct fs)) (hat : ∀ fuel, At P fuel d t G m)
    (hv : Value.okWide P W .any b0 t v) (h : DataW.Trod enc P W base spare held t v D ps) (hw : (D.weights P t).all (· ≤ reachBytes) = true) :
    ∃ (cs : List Value) (x : α), v = .agg cs.toArray ∧ d.K W x cs ∧ G x ∧ m x ≤ Rows.uptoBulk D := by
  obtain ⟨cs, rfl, _⟩ := okWide_struct hu hv
  obtain ⟨fuel, hf⟩ := h
  obtain ⟨x, hK, hG, hm⟩ := hat fuel H enc W base spare held _ (D, ps) hf hw
  exact ⟨cs.toList, x, by simp, by simpa [Value.cells] using hK, hG, hm⟩
end
end Go.Proofs.YtkidihoaeicfdaaDoor.Opens

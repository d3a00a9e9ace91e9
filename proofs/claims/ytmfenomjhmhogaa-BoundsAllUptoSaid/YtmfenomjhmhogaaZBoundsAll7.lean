/- Laid by a program of this session out of its texts for the law BoundsAll, part 7. -/
import Derived.Test.YtmfenomjhmhogaaZBoundsAll6
section
namespace Go.Proofs.Ytmfenomjhmhogaa.Pure
set_option linter.unusedVariables false
set_option linter.unusedSimpArgs false
open Go.RowKit Go.Proofs.Ytmfenomjhmhogaa.P Go.Proofs.YtmfenomjhmhogaaW.PrintWords Go.Proofs.YtmfenomjhmhogaaW.PrintLast Go.Proofs.YtmfenomjhmhogaaW.PrintMore
def encA : List Bool → List S25 → List Int
  | _, [] => []
  | d, x :: l => turnB (d.headD false) (encB x) ++ encA d.tail l
theorem encE_all : ∀ (l : List S25) (d : List Bool), (∀ x ∈ l, chk x = 0) → encE d l = some (encA d l)
  | [], d, _ => rfl
  | x :: l, d, h => by
    rw [encE, if_pos (h x (by simp)), encE_all l d.tail (fun y hy => h y (by simp [hy]))]
    rfl
theorem encR_all {l : List S25} {d : List Bool} (h : ∀ x ∈ l, chk x = 0) : (encR d l).1 = encA d l := by
  unfold encR
  rw [encE_all l d h]
theorem encA_append : ∀ (a b : List S25) (d : List Bool), encA d (a ++ b) = encA d a ++ encA (d.drop a.length) b
  | [], b, d => by simp [encA]
  | x :: a, b, d => by
    rw [List.cons_append, encA, encA_append a b d.tail, encA, List.append_assoc]
    cases d with
    | nil => simp
    | cons y d => simp
theorem encA_bytes : ∀ (l : List S25) (d : List Bool), BytesIn (encA d l)
  | [], d => fun x hx => by cases hx
  | x :: l, d => fun y hy => by
    rw [encA] at hy
    rcases List.mem_append.1 hy with h | h
    · exact turnB_range _ (encB_range x) y h
    · exact encA_bytes l d.tail y h
theorem bytes_append {a b : List Int} (ha : BytesIn a) (hb : BytesIn b) : BytesIn (a ++ b) := fun x hx => (List.mem_append.1 hx).elim (ha x) (hb x)
theorem headD_drop : ∀ (d : List Bool) (n : Nat), (d.drop n).headD false = rdOf false d (n : Int)
  | [], n => by simp [rdOf]
  | x :: d, 0 => rfl
  | x :: d, n + 1 => by
    rw [List.drop_succ_cons, headD_drop d n]
    have e : ((n + 1 : Nat) : Int).toNat = n + 1 := by omega
    simp only [rdOf, Int.toNat_natCast, List.getD_cons_succ]
def sgn (b : Bool) (c : Int) : Int := if b = true then -c else c
theorem diffT (b : Bool) {x y : S25} (hx : chk x = 0) (hy : chk y = 0) (ix : I64 x.f1) (iy : I64 y.f1) : Diff (turnB b (encB x)) (turnB b (encB y)) (sgn b (cmpV x y)) := by
  have h := encB_diff hx hy ix iy
  unfold turnB sgn
  cases b with
  | true => simpa using h.flip
  | false => simpa using h
theorem lt_trans_L : ∀ {a b c : List Int}, cmpL a b = -1 → cmpL b c = -1 → cmpL a c = -1
  | [], [], c, h, _ => by simp [cmpL] at h
  | [], y :: b, [], _, h2 => by simp [cmpL] at h2
  | [], y :: b, z :: c, _, _ => by simp [cmpL]
  | x :: a, [], c, h, _ => by simp [cmpL] at h
  | x :: a, y :: b, [], _, h2 => by simp [cmpL] at h2
  | x :: a, y :: b, z :: c, h, h2 => by
    simp only [cmpL] at h h2 ⊢
    by_cases h3 : x < y
    · by_cases h4 : y < z
      · rw [if_pos (by omega)]
      · rw [if_neg h4] at h2
        by_cases h5 : z < y
        · rw [if_pos h5] at h2; omega
        · rw [if_pos (by omega)]
    · rw [if_neg h3] at h
      by_cases h4 : y < x
      · rw [if_pos h4] at h; omega
      · rw [if_neg h4] at h
        obtain rfl : x = y := by omega
        by_cases h5 : x < z
        · rw [if_pos h5]
        · rw [if_neg h5] at h2 ⊢
          by_cases h6 : z < x
          · rw [if_pos h6] at h2; omega
          · rw [if_neg h6] at h2 ⊢
            exact lt_trans_L h h2
theorem cmpL_nil (l : List Int) : cmpL l [] ≠ -1 := by cases l <;> simp [cmpL]
theorem prefix_append (a b : List Int) : a.isPrefixOf (a ++ b) = true := List.isPrefixOf_iff_prefix.2 ⟨b, rfl⟩
theorem next_some {b : List Int} (h : (nextB b).2 = true) : trim b ≠ [] ∧ (nextB b).1 = bump (trim b) := by
  unfold nextB at h ⊢
  by_cases e : trim b = []
  · rw [if_pos e] at h; cases h
  · rw [if_neg e]; exact ⟨e, rfl⟩
theorem next_lt {b c : List Int} (hb : BytesIn b) (hc : BytesIn c) (hp : b.isPrefixOf c = true) (h : (nextB b).2 = true) : cmpL c (nextB b).1 = -1 := by
  obtain ⟨h1, h2⟩ := next_some h
  rw [h2]
  exact ((begins_iff b c hb hc h1).1 hp).2
theorem next_ge {b c : List Int} (hb : BytesIn b) (hc : BytesIn c) (hp : ¬ b.isPrefixOf c = true) (hg : cmpL c b ≠ -1) (h : (nextB b).2 = true) : cmpL c (nextB b).1 ≠ -1 := by
  obtain ⟨h1, h2⟩ := next_some h
  rw [h2]
  exact fun e => hp ((begins_iff b c hb hc h1).2 ⟨hg, e⟩)
section
variable {base ev et rest : List Int} {c : Int}
theorem cmp_key (h : Diff ev et c) : cmpL (base ++ (ev ++ rest)) (base ++ et) = if c = 0 then cmpL rest [] else c := by
  rw [cmpL_same]
  have := h.cmp rest []
  rwa [List.append_nil] at this
theorem low_in (h : Diff ev et c) (hk : BytesIn (base ++ (ev ++ rest))) (hK : BytesIn (base ++ et)) (st : Prop) [Decidable st] (h1 : st → c = 1) (h2 : ¬ st → c ≠ -1) :
    cmpL (base ++ (ev ++ rest)) (if st then (if (nextB (base ++ et)).2 = true then (nextB (base ++ et)).1 else base) else base ++ et) ≠ -1 := by
  have hc := cmp_key (base := base) (rest := rest) h
  by_cases hs : st
  · rw [if_pos hs]
    have c1 := h1 hs
    subst c1
    rw [if_neg (by decide)] at hc
    by_cases hn : (nextB (base ++ et)).2 = true
    · rw [if_pos hn]
      refine next_ge hK hk (fun hp => ?_) (by rw [hc]; decide) hn
      obtain ⟨s, hs⟩ := List.isPrefixOf_iff_prefix.1 hp
      have h3 : ev ++ rest = et ++ s := by
        rw [List.append_assoc] at hs
        exact (List.append_cancel_left hs).symm
      have h4 := h.cmp rest s
      rw [h3, cmpL_self, if_neg (by decide)] at h4
      exact absurd h4 (by decide)
    · rw [if_neg hn]
      exact begins_ge _ _ (prefix_append _ _)
  · rw [if_neg hs, hc]
    have := h2 hs
    by_cases e : c = 0
    · rw [if_pos e]; exact cmpL_nil _
    · rw [if_neg e]; exact this
theorem high_in (h : Diff ev et c) (hs3 : S3 c) (hk : BytesIn (base ++ (ev ++ rest))) (hK : BytesIn (base ++ et)) (lo : Prop) [Decidable lo] (h1 : lo → c ≠ 1) (h2 : ¬ lo → c = -1) :
    (if lo then nextB (base ++ et) else (base ++ et, true)).2 = true → cmpL (base ++ (ev ++ rest)) (if lo then nextB (base ++ et) else (base ++ et, true)).1 = -1 := by
  have hc := cmp_key (base := base) (rest := rest) h
  by_cases hl : lo
  · rw [if_pos hl]
    intro hn
    have c1 := h1 hl
    by_cases e : c = 0
    · have he : ev = et := by
        rcases h with ⟨_, h⟩ | ⟨h, _⟩
        · exact h
        · exact absurd e h
      subst he
      exact next_lt hK hk (by rw [← List.append_assoc]; exact prefix_append _ _) hn
    · have c2 : c = -1 := by rcases hs3 with h | h | h <;> omega
      rw [if_neg e, c2] at hc
      exact lt_trans_L hc (next_lt hK hK (by have := prefix_append (base ++ et) []; rwa [List.append_nil] at this) hn)
  · rw [if_neg hl]
    intro _
    rw [hc, if_neg (by have := h2 hl; omega)]
    exact h2 hl
end
theorem sgn_s3 (b : Bool) {c : Int} (h : S3 c) : S3 (sgn b c) := by
  unfold sgn
  cases b with
  | true =>
    simp only [if_true]
    rcases h with h | h | h
    · right; right; omega
    · right; left; omega
    · left; omega
  | false => simpa using h
def Pass (v : S25) (t : S69) : Prop := (t.f1 = 5 → cmpV v t.f2 = 0) ∧ (t.f1 = 7 → cmpV v t.f2 = -1) ∧ (t.f1 = 8 → cmpV v t.f2 ≠ 1) ∧ (t.f1 = 9 → cmpV v t.f2 = 1) ∧ (t.f1 = 10 → cmpV v t.f2 ≠ -1)
theorem same_bytes {v t : S25} (hv : chk v = 0 ∧ I64 v.f1) (ht : chk t = 0 ∧ I64 t.f1) (h : cmpV v t = 0) : encB v = encB t := by
  have := encB_diff hv.1 ht.1 hv.2 ht.2
  rw [h] at this
  rcases this with ⟨_, h⟩ | ⟨h, _⟩
  · exact h
  · exact absurd rfl h
theorem encA_same : ∀ (a b : List S25) (d : List Bool), a.length = b.length → (∀ (i : Nat) x y, a[i]? = some x → b[i]? = some y → encB x = encB y) → encA d a = encA d b
  | [], [], d, _, _ => rfl
  | [], y :: b, d, h, _ => by simp at h
  | x :: a, [], d, h, _ => by simp at h
  | x :: a, y :: b, d, h, hs => by
    rw [encA, encA, hs 0 x y rfl rfl, encA_same a b d.tail (by simpa using h) (fun i u v hu hv => hs (i + 1) u v (by simpa using hu) (by simpa using hv))]
theorem inside (L : List S69) (val : Int → S25) (cols : List Int) (d : List Bool) (more : List Int) (hd : d.length = cols.length) (hL : ∀ t ∈ L, chk t.f2 = 0 ∧ I64 t.f2.f1) (hv : ∀ c ∈ cols, chk (val c) = 0 ∧ I64 (val c).f1)
    (hp : ∀ t ∈ L, Pass (val t.f0) t) (hm : BytesIn more) :
    cmpL (encA d (cols.map val) ++ more) (rangeP cols d L).1 ≠ -1 ∧ ((rangeP cols d L).2.2 = false → cmpL (encA d (cols.map val) ++ more) (rangeP cols d L).2.1 = -1) := by
  obtain ⟨pf, cs, pv, h1, h2, h3, h4, h5⟩ := useG_form L cols []
  rw [List.nil_append] at h2
  have hkey : BytesIn (encA d (cols.map val) ++ more) := bytes_append (encA_bytes _ _) hm
  have hpv : ∀ x ∈ pv, chk x = 0 := by
    intro x hx
    obtain ⟨i, hi, rfl⟩ := List.getElem_of_mem hx
    obtain ⟨t, ht, _, _, he⟩ := h4 i pf[i] pv[i] (List.getElem?_eq_getElem (by omega)) (List.getElem?_eq_getElem hi)
    rw [he]; exact (hL t ht).1
  have hbase : (encR d pv).1 = encA d pv := encR_all hpv
  have hsame : encA d (pf.map val) = encA d pv := by
    refine encA_same _ _ d (by simp [h3]) (fun i x y hx hy => ?_)
    rw [List.getElem?_map] at hx
    obtain ⟨c, hc, rfl⟩ := Option.map_eq_some_iff.1 hx
    obtain ⟨t, ht, h6, h7, he⟩ := h4 i c y hc hy
    subst h6
    rw [he]
    have hcm : t.f0 ∈ cols := by rw [h1]; exact List.mem_append_left _ (List.mem_of_getElem? hc)
    exact same_bytes (hv _ hcm) (hL t ht) ((hp t ht).1 h7)
  have hk : encA d (cols.map val) ++ more = encA d pv ++ (encA (d.drop pv.length) (cs.map val) ++ more) := by
    rw [h1, List.map_append, encA_append, hsame, List.length_map, ← h3, List.append_assoc]
  have hbb : BytesIn (encA d pv) := encA_bytes _ _
  have hlow0 : cmpL (encA d (cols.map val) ++ more) (encA d pv) ≠ -1 := by rw [hk]; exact begins_ge _ _ (prefix_append _ _)
  have hhigh0 : (nextB (encA d pv)).2 = true → cmpL (encA d (cols.map val) ++ more) (nextB (encA d pv)).1 = -1 := fun hn => next_lt hbb hkey (by rw [hk]; exact prefix_append _ _) hn
  have hu1 : (useG L cols []).1 = pv := h2
  rcases h5 with ⟨hcs, he⟩ | ⟨c, cs', hcs, he⟩
  · have e : rangeP cols d L = rangeG pv [] [] d := by unfold rangeP; rw [he, hu1]; simp
    rw [e]
    unfold rangeG lowP highP
    rw [hbase]
    exact ⟨hlow0, fun ho => hhigh0 (by simpa using ho)⟩
  · have hcm : c ∈ cols := by rw [h1, hcs]; simp
    have hlt : pv.length < d.length := by rw [hd, h1, hcs, h3]; simp
    have hsw : swapB pv d = rdOf false d (pv.length : Int) := by unfold swapB; rw [decide_eq_true hlt]; simp
    have hb := headD_drop d pv.length
    have hk2 : encA d (cols.map val) ++ more = encA d pv ++ (turnB (rdOf false d (pv.length : Int)) (encB (val c)) ++ (encA (d.drop pv.length).tail (cs'.map val) ++ more)) := by
      rw [hk, hcs, List.map_cons, encA, hb, List.append_assoc]
    have hK : ∀ t : S69, chk t.f2 = 0 → keyP pv d t = encA d pv ++ turnB (rdOf false d (pv.length : Int)) (encB t.f2) := by
      intro t ht
      unfold keyP
      rw [encR_all (fun x hx => by rcases List.mem_append.1 hx with h | h; exact hpv x h; simp at h; subst h; exact ht), encA_append, encA, hb]
      simp [encA]
    have one : ∀ t : S69, t ∈ L → t.f0 = c → t.f1 ∈ [(7 : Int), 8, 9, 10] →
        (((t.f1 = 9 ∨ t.f1 = 10) ↔ rdOf false d (pv.length : Int) = false) → cmpL (encA d (cols.map val) ++ more) (if t.f1 = 9 ∨ t.f1 = 7 then (if (nextB (keyP pv d t)).2 = true then (nextB (keyP pv d t)).1 else encA d pv) else keyP pv d t) ≠ -1) ∧
        (((t.f1 = 7 ∨ t.f1 = 8) ↔ rdOf false d (pv.length : Int) = false) → (if t.f1 = 8 ∨ t.f1 = 10 then nextB (keyP pv d t) else (keyP pv d t, true)).2 = true → cmpL (encA d (cols.map val) ++ more) (if t.f1 = 8 ∨ t.f1 = 10 then nextB (keyP pv d t) else (keyP pv d t, true)).1 = -1) := by
      intro t ht hc hop
      have hps := hp t ht
      rw [hc] at hps
      have hD := diffT (rdOf false d (pv.length : Int)) (hv c hcm).1 (hL t ht).1 (hv c hcm).2 (hL t ht).2
      have hKt := hK t (hL t ht).1
      have hKb : BytesIn (encA d pv ++ turnB (rdOf false d (pv.length : Int)) (encB t.f2)) := bytes_append hbb (turnB_range _ (encB_range _))
      rw [hKt]
      rw [hk2] at hkey ⊢
      have hs3 := cmpV_s3 (val c) t.f2
      obtain ⟨p5, p7, p8, p9, p10⟩ := hps
      simp only [List.mem_cons, List.not_mem_nil, or_false] at hop
      constructor
      · intro hi
        refine low_in hD hkey hKb _ (fun hs => ?_) (fun hs => ?_)
        · unfold sgn
          cases hbv : rdOf false d (pv.length : Int) with
          | true =>
            rw [hbv] at hi
            have : t.f1 = 7 := by rcases hs with h | h; exact absurd (hi.1 (.inl h)) (by decide); exact h
            have := p7 this
            simp only [if_true]; omega
          | false =>
            rw [hbv] at hi
            have h9 := hi.2 rfl
            have : t.f1 = 9 := by omega
            have := p9 this
            simpa using this
        · unfold sgn
          cases hbv : rdOf false d (pv.length : Int) with
          | true =>
            rw [hbv] at hi
            have h9 : ¬ (t.f1 = 9 ∨ t.f1 = 10) := fun h => absurd (hi.1 h) (by decide)
            have : t.f1 = 8 := by omega
            have := p8 this
            simp only [if_true]; omega
          | false =>
            rw [hbv] at hi
            have h9 := hi.2 rfl
            have : t.f1 = 10 := by omega
            have := p10 this
            simpa using this
      · intro hi
        refine high_in hD (sgn_s3 _ hs3) hkey hKb _ (fun hs => ?_) (fun hs => ?_)
        · unfold sgn
          cases hbv : rdOf false d (pv.length : Int) with
          | true =>
            rw [hbv] at hi
            have h9 : ¬ (t.f1 = 7 ∨ t.f1 = 8) := fun h => absurd (hi.1 h) (by decide)
            have : t.f1 = 10 := by omega
            have := p10 this
            simp only [if_true]; omega
          | false =>
            rw [hbv] at hi
            have h9 := hi.2 rfl
            have : t.f1 = 8 := by omega
            have := p8 this
            simpa using this
        · unfold sgn
          cases hbv : rdOf false d (pv.length : Int) with
          | true =>
            rw [hbv] at hi
            have h9 : ¬ (t.f1 = 7 ∨ t.f1 = 8) := fun h => absurd (hi.1 h) (by decide)
            have : t.f1 = 9 := by omega
            have := p9 this
            simp only [if_true]; omega
          | false =>
            rw [hbv] at hi
            have h9 := hi.2 rfl
            have : t.f1 = 7 := by omega
            have := p7 this
            simpa using this
    have both : ∀ lo up : List S69, (lo = [] ∨ ∃ t, lo = [t] ∧ t ∈ L ∧ t.f0 = c ∧ t.f1 ∈ [(7 : Int), 8, 9, 10] ∧ ((t.f1 = 9 ∨ t.f1 = 10) ↔ rdOf false d (pv.length : Int) = false)) →
        (up = [] ∨ ∃ t, up = [t] ∧ t ∈ L ∧ t.f0 = c ∧ t.f1 ∈ [(7 : Int), 8, 9, 10] ∧ ((t.f1 = 7 ∨ t.f1 = 8) ↔ rdOf false d (pv.length : Int) = false)) →
        cmpL (encA d (cols.map val) ++ more) (rangeG pv lo up d).1 ≠ -1 ∧ ((rangeG pv lo up d).2.2 = false → cmpL (encA d (cols.map val) ++ more) (rangeG pv lo up d).2.1 = -1) := by
      intro lo up hlo hup
      unfold rangeG
      rw [hbase]
      constructor
      · rcases hlo with rfl | ⟨t, rfl, ht, hc, hop, hi⟩
        · exact hlow0
        · simp only [lowP]
          exact (one t ht hc hop).1 hi
      · rcases hup with rfl | ⟨t, rfl, ht, hc, hop, hi⟩
        · exact fun ho => hhigh0 (by simpa [highP] using ho)
        · simp only [highP]
          exact fun ho => (one t ht hc hop).2 hi (by simpa using ho)
    have opt : ∀ (ops : List Int) (Q : S69 → Prop), (∀ t ∈ optT (firstT c ops L), Q t) → optT (firstT c ops L) = [] ∨ ∃ t, optT (firstT c ops L) = [t] ∧ Q t := by
      intro ops Q h
      unfold optT at h ⊢
      by_cases e : (firstT c ops L).2 = true
      · rw [if_pos e] at h ⊢
        exact .inr ⟨_, rfl, h _ (by simp)⟩
      · rw [if_neg e]; exact .inl rfl
    unfold rangeP
    rw [hu1, he]
    by_cases hsb : swapB pv d = true
    · rw [if_pos hsb]
      have hbt : rdOf false d (pv.length : Int) = true := by rw [← hsw]; exact hsb
      refine both _ _ (opt [7, 8] _ (fun t ht => ?_)) (opt [9, 10] _ (fun t ht => ?_))
      · obtain ⟨m1, m2, m3⟩ := optT_mem ht
        simp only [List.mem_cons, List.not_mem_nil, or_false] at m3
        refine ⟨m1, m2, by simp; omega, ?_⟩
        rw [hbt]
        constructor
        · intro h; omega
        · intro h; cases h
      · obtain ⟨m1, m2, m3⟩ := optT_mem ht
        simp only [List.mem_cons, List.not_mem_nil, or_false] at m3
        refine ⟨m1, m2, by simp; omega, ?_⟩
        rw [hbt]
        constructor
        · intro h; omega
        · intro h; cases h
    · rw [if_neg hsb]
      have hbf : rdOf false d (pv.length : Int) = false := by rw [← hsw]; simpa using hsb
      refine both _ _ (opt [9, 10] _ (fun t ht => ?_)) (opt [7, 8] _ (fun t ht => ?_))
      · obtain ⟨m1, m2, m3⟩ := optT_mem ht
        simp only [List.mem_cons, List.not_mem_nil, or_false] at m3
        exact ⟨m1, m2, by simp; omega, fun _ => hbf, fun _ => m3⟩
      · obtain ⟨m1, m2, m3⟩ := optT_mem ht
        simp only [List.mem_cons, List.not_mem_nil, or_false] at m3
        exact ⟨m1, m2, by simp; omega, fun _ => hbf, fun _ => m3⟩
theorem next_range {b : List Int} (h : BytesIn b) : BytesIn (nextB b).1 := by
  unfold nextB
  split
  · intro x hx; cases hx
  · exact bump_range _ (trim_range _ h)
theorem key_range (vs : List S25) (d : List Bool) (t : S69) : BytesIn (keyP vs d t) := encR_range _ _
theorem low_range (vs : List S25) (d : List Bool) {base : List Int} (hb : BytesIn base) : ∀ (lo : List S69) (cur : List Int), BytesIn cur → BytesIn (lowP vs d base lo cur)
  | [], cur, h => h
  | t :: r, cur, h => by
    unfold lowP
    refine low_range vs d hb r _ ?_
    split
    · split
      · exact next_range (key_range _ _ _)
      · exact hb
    · exact key_range _ _ _
theorem high_range (vs : List S25) (d : List Bool) : ∀ (up : List S69) (cur : List Int × Bool), BytesIn cur.1 → BytesIn (highP vs d up cur).1
  | [], cur, h => h
  | t :: r, cur, h => by
    unfold highP
    refine high_range vs d r _ ?_
    split
    · exact next_range (key_range _ _ _)
    · exact key_range _ _ _
theorem range_range (cols : List Int) (d : List Bool) (L : List S69) : BytesIn (rangeP cols d L).1 ∧ BytesIn (rangeP cols d L).2.1 := by
  unfold rangeP
  split <;> exact ⟨low_range _ _ (encR_range _ _) _ _ (encR_range _ _), high_range _ _ _ _ (next_range (encR_range _ _))⟩
end Go.Proofs.Ytmfenomjhmhogaa.Pure
end
section
namespace Go.Proofs.Ytmfenomjhmhogaa.Pure
set_option linter.unusedVariables false
set_option linter.unusedSimpArgs false
open Go.RowKit Go.Proofs.Ytmfenomjhmhogaa.P Go.Proofs.YtmfenomjhmhogaaW.PrintWords Go.Proofs.YtmfenomjhmhogaaW.PrintLast Go.Proofs.YtmfenomjhmhogaaW.PrintMore
theorem ref_check_f (x : S25) : quarryref01_Check.f x.f0 x.f1 x.f2 = some (chk x) := rfl
theorem ref_num (acc : List Int) (n : Int) (h0 : 0 ≤ n) (hl : acc.length + 8 < 140737488355328) : Ev (fun k => quarryref03_bytes.l0 k acc n 7) (acc ++ be 8 n) := by
  have key : ∀ (j : Nat) (acc' : List Int), j ≤ 8 → acc'.length + j < 140737488355328 → Ev (fun k => quarryref03_bytes.l0 k acc' n ((j : Int) - 1)) (acc' ++ be j n) := by
    intro j
    induction j with
    | zero =>
      intro acc' _ _
      refine Ev.succ ?_
      have e : ¬ (((0 : Nat) : Int) - 1 ≥ 0) := by omega
      simp only [quarryref03_bytes.l0, e, if_false, be, List.append_nil]
      exact Ev.pure _
    | succ j ih =>
      intro acc' hj hl'
      refine Ev.succ ?_
      have e : (((j + 1 : Nat) : Int) - 1 ≥ 0) := by omega
      have e1 : wrap64 (8 * (((j + 1 : Nat) : Int) - 1)) = 8 * (j : Int) := by unfold wrap64; omega
      have e2 : (0 : Int) ≤ 8 * (j : Int) := by omega
      have e3 : acc'.length < 140737488355328 := by omega
      have e4 : wrap64 (((j + 1 : Nat) : Int) - 1 - 1) = (j : Int) - 1 := by unfold wrap64; omega
      simp only [quarryref03_bytes.l0, e, e1, e2, e3, e4, if_true]
      have e5 : shr .u64 n (8 * (j : Int)) = n / 256 ^ j := by
        unfold shr
        have : min (8 * (j : Int)).toNat IntKind.u64.bits = 8 * j := by
          show min _ 64 = _
          omega
        rw [this, Int.pow_mul]
        rfl
      have hp : (0 : Int) < 256 ^ j := Int.pow_pos (by decide)
      have hq : 0 ≤ n / 256 ^ j := Int.ediv_nonneg h0 (by omega)
      have e6 : Int.tmod (n / 256 ^ j) 256 % 256 = n / 256 ^ j % 256 := by rw [Int.tmod_eq_emod_of_nonneg hq]; omega
      rw [e5, e6]
      have := ih (acc' ++ [n / 256 ^ j % 256]) (by omega) (by simp; omega)
      simpa [be] using this
  exact key 8 acc (by omega) hl
theorem ref_text (s : ByteArray) (a : Int) (b : Int) (hs : s.size ≤ 140737488351232) : ∀ (suf pre : List UInt8) (acc : List Int), s.data.toList = pre ++ suf → acc.length + 2 * suf.length + 2 < 140737488355328 →
    Ev (fun k => quarryref03_bytes.l1 k acc (pre.length : Int) a b s) (acc ++ (esc suf ++ [0, 1])) := by
  intro suf
  induction suf with
  | nil =>
    intro pre acc he hl
    have hz := size_toList s
    rw [he] at hz
    simp only [List.append_nil] at hz
    refine Ev.succ ?_
    have e : ¬ ((pre.length : Int) < (s.size : Int)) := by omega
    have e2 : acc.length + [(0 : Int), 1].length < 140737488355328 := by simp at hl ⊢; omega
    simp only [quarryref03_bytes.l1, e, if_false, Option.bind_some, e2, if_true, esc, List.nil_append]
    exact Ev.pure _
  | cons c suf ih =>
    intro pre acc he hl
    have hz := size_toList s
    rw [he] at hz
    simp only [List.length_append, List.length_cons] at hz hl
    refine Ev.succ ?_
    have e : ((pre.length : Int) < (s.size : Int)) := by omega
    have e1 : (0 : Int) ≤ (pre.length : Int) := by omega
    have e2 : acc.length < 140737488355328 := by omega
    have e4 : wrap64 ((pre.length : Int) + 1) = (pre.length : Int) + 1 := wrap64_in (by omega) (by omega)
    have e5 := bt_at' s pre c suf he
    simp only [quarryref03_bytes.l1, e, e1, e2, if_true, Option.bind_some, e4, e5]
    by_cases h : (c.toNat : Int) = 0
    · have hc : c = 0 := UInt8.toNat_inj.1 (by show c.toNat = 0; omega)
      simp only [h, if_true]
      have e6 : (acc ++ [(0 : Int)]).length < 140737488355328 := by simp; omega
      simp only [e6, if_true]
      have := ih (pre ++ [c]) (acc ++ [0] ++ [255]) (by simpa using he) (by simp; omega)
      rw [show esc (c :: suf) = 0 :: 255 :: esc suf by rw [esc, if_pos hc]]
      simpa using this
    · have hc : ¬ c = 0 := fun e => h (by subst e; rfl)
      simp only [h, if_false]
      have := ih (pre ++ [c]) (acc ++ [(c.toNat : Int)]) (by simpa using he) (by simp; omega)
      rw [show esc (c :: suf) = (c.toNat : Int) :: esc suf by rw [esc, if_neg hc]]
      simpa using this
theorem ref_bytes_ev (x : S25) (h : okV x) (hc : chk x = 0) (hl : 2 * x.f2.size + 11 < 140737488355328) : Ev (fun k => quarryref03_bytes.f k x.f0 x.f1 x.f2) (encB x) := by
  have hk := chk_kind hc
  unfold quarryref03_bytes.f encB payload
  simp only [Option.bind_some, wrap_kind hc]
  have hi := h.2.1
  unfold I64 at hi
  by_cases h0 : x.f0 = 0
  · simp [h0]
    exact Ev.pure _
  by_cases h1 : x.f0 = 1
  · simp [h1]
    exact Ev.pure _
  by_cases h2 : x.f0 = 2
  · have e0 : ¬ (2 : Int) = 0 := by decide
    have e1 : ¬ (2 : Int) = 1 := by decide
    simp only [h2, e0, e1, if_true, if_false, sign_add h.2.1]
    exact ref_num [((2 : Int) + 1) % 256] _ (by omega) (by simp)
  have hz := size_toList x.f2
  have h3 : x.f0 = 3 ∨ x.f0 = 4 := by omega
  simp only [h0, h1, h2, h3, if_true, if_false]
  have := ref_text x.f2 x.f0 x.f1 h.2.2 x.f2.data.toList [] [(x.f0 + 1) % 256] rfl (by simp; omega)
  simpa using this
theorem ref_flip_loop : ∀ (suf pre acc : List Int), BytesIn suf → (pre ++ suf).length < 140737488355328 → acc.length + suf.length < 140737488355328 → Ev (fun k => quarryref03_flip.l0 k (pre ++ suf) acc (pre.length : Int)) (acc ++ flipL suf) := by
  intro suf
  induction suf with
  | nil =>
    intro pre acc _ hl _
    refine Ev.succ ?_
    simp [quarryref03_flip.l0, flipL]
    exact Ev.pure _
  | cons x suf ih =>
    intro pre acc hb hl ha
    refine Ev.succ ?_
    have e1 : (pre.length : Int) < ((pre ++ x :: suf).length : Int) := by simp; omega
    have e2 : (0 : Int) ≤ (pre.length : Int) := by omega
    have e3 : acc.length < 140737488355328 := by simp at ha; omega
    have e6 : wrap64 ((pre.length : Int) + 1) = (pre.length : Int) + 1 := wrap64_in (by omega) (by simp at hl; omega)
    have hx := hb x (by simp)
    have e7 : (255 - x) % 256 = 255 - x := by omega
    simp only [quarryref03_flip.l0, e1, e2, e3, if_true, rdI_at, e6, e7]
    have := ih (pre ++ [x]) (acc ++ [255 - x]) (fun y hy => hb y (by simp [hy])) (by simpa using hl) (by simp at ha ⊢; omega)
    simpa [flipL] using this
theorem ref_flip_ev (l : List Int) (hb : BytesIn l) (hl : l.length < 140737488355328) : Ev (fun k => quarryref03_flip.f k l) (flipL l) := by
  unfold quarryref03_flip.f
  have := ref_flip_loop l [] [] hb (by simpa using hl) (by simpa using hl)
  simpa using this
theorem ref_turned_at (d : List Bool) (n : Nat) : quarryref03_turned.f d (n : Int) = keys_turned.f d (n : Int) := rfl
theorem ref_encode_loop : ∀ (suf pre : List S25) (pd d : List Bool) (acc : List Int), (∀ x ∈ suf, okV x) → (pre ++ suf).length < 140737488355328 → acc.length + room suf < 140737488355328 → (pd.length = pre.length ∨ (pd.length < pre.length ∧ d = [])) →
    Ev (fun k => quarryref03_Encode.l0 k (pre ++ suf) (pd ++ d) acc (pre.length : Int)) (match encE d suf with | none => ([], 3) | some b => (acc ++ b, 0)) := by
  intro suf
  induction suf with
  | nil =>
    intro pre pd d acc _ hl _ _
    refine Ev.succ ?_
    simp [quarryref03_Encode.l0, encE]
    exact Ev.pure _
  | cons x suf ih =>
    intro pre pd d acc hx hl hr hd
    refine Ev.succ ?_
    have e1 : (pre.length : Int) < ((pre ++ x :: suf).length : Int) := by simp; omega
    have e2 : (0 : Int) ≤ (pre.length : Int) := by omega
    simp only [quarryref03_Encode.l0, e1, e2, if_true, rd_at, ref_check_f, Option.bind_some]
    by_cases hc : chk x = 0
    · rw [encE, if_pos hc]
      have hx0 := hx x (by simp)
      have hb := encB_length x
      simp only [room, List.map_cons, List.sum_cons] at hr
      have e6 : wrap64 ((pre.length : Int) + 1) = (pre.length : Int) + 1 := wrap64_in (by omega) (by simp at hl; omega)
      simp only [hc, if_true, e6]
      refine Ev.bind (ref_bytes_ev x hx0 hc (by omega)) ?_
      rw [ref_turned_at, turned_at (pd ++ d) pd d pre.length rfl hd]
      simp only [Option.bind_some]
      obtain ⟨pd', hpd, hn⟩ := desc_next pd d pre.length hd
      have hgo : ∀ b : Bool, d.headD false = b → Ev (fun k => quarryref03_Encode.l0 k (pre ++ x :: suf) (pd ++ d) (acc ++ turnB b (encB x)) ((pre.length : Int) + 1)) (match (encE d.tail suf).map (turnB b (encB x) ++ ·) with | none => ([], 3) | some b => (acc ++ b, 0)) := by
        intro b _
        have := ih (pre ++ [x]) pd' d.tail (acc ++ turnB b (encB x)) (fun y hy => hx y (by simp [hy])) (by simpa using hl) (by rw [List.length_append, turnB_length]; unfold room; omega) (by simpa using hn)
        rw [hpd] at this
        cases he : encE d.tail suf with
        | none => rw [he] at this; simpa using this
        | some c => rw [he] at this; simpa using this
      cases hh : d.headD false with
      | false =>
        have e8 : acc.length + (encB x).length < 140737488355328 := by omega
        simp only [Bool.false_eq_true, if_false, e8, if_true]
        exact hgo false hh
      | true =>
        simp only [if_true]
        refine Ev.bind (ref_flip_ev (encB x) (encB_range x) (by omega)) ?_
        have e8 : acc.length + (flipL (encB x)).length < 140737488355328 := by rw [flipL_length]; omega
        simp only [e8, if_true]
        exact hgo true hh
    · rw [encE, if_neg hc]
      simp only [hc, if_false]
      exact Ev.pure _
theorem ref_encode_ev (l : List S25) (d : List Bool) (hx : ∀ x ∈ l, okV x) (hl : l.length < 140737488355328) (hr : room l < 140737488355328) : Ev (fun k => quarryref03_Encode.f k l d) (encR d l) := by
  unfold quarryref03_Encode.f encR
  have := ref_encode_loop l [] [] d [] hx (by simpa using hl) (by simpa using hr) (.inl rfl)
  cases he : encE d l with
  | none => rw [he] at this; simpa using this
  | some b => rw [he] at this; simpa using this
end Go.Proofs.Ytmfenomjhmhogaa.Pure
end
section
namespace Go.Proofs.Ytmfenomjhmhogaa.Pure
set_option linter.unusedVariables false
set_option linter.unusedSimpArgs false
open Go.RowKit Go.Proofs.Ytmfenomjhmhogaa.P Go.Proofs.YtmfenomjhmhogaaW.PrintWords Go.Proofs.YtmfenomjhmhogaaW.PrintLast Go.Proofs.YtmfenomjhmhogaaW.PrintMore
theorem ref_next_loop (b : List Int) (hl : b.length < 140737488355328) : ∀ (n : Nat), n ≤ b.length → trim b = trim (b.take n) → Ev (fun k => quarryref03_Next.l0 k b (n : Int)) (nextB b) := by
  intro n
  induction n with
  | zero =>
    intro _ ht
    refine Ev.succ ?_
    have e : ¬ (((0 : Nat) : Int) > 0) := by omega
    have e2 : ((0 : Nat) : Int) = 0 := rfl
    have h0 : trim b = [] := by rw [ht]; rfl
    unfold nextB
    simp only [quarryref03_Next.l0, e, if_false, e2, if_true, h0]
    exact Ev.pure _
  | succ n ih =>
    intro hn ht
    refine Ev.succ ?_
    have e : (((n + 1 : Nat) : Int) > 0) := by omega
    have e1 : wrap64 (((n + 1 : Nat) : Int) - 1) = (n : Int) := by unfold wrap64; omega
    have e2 : (0 : Int) ≤ (n : Int) := by omega
    have e3 : (n : Int) < (b.length : Int) := by omega
    have hlt : n < b.length := by omega
    have htk : b.take (n + 1) = b.take n ++ [b[n]] := by rw [List.take_succ_eq_append_getElem hlt]
    have hbn : rd b (n : Int) = b[n] := by
      unfold rd
      rw [Int.toNat_natCast, List.getD_eq_getElem?_getD, List.getElem?_eq_getElem hlt]
      rfl
    simp only [quarryref03_Next.l0, e, e1, e2, e3, if_true, hbn]
    by_cases h : b[n] = 255
    · simp only [h, if_true]
      rw [htk, h, trim_snoc_255] at ht
      exact ih (by omega) ht
    · have hne : ¬ ((n + 1 : Nat) : Int) = 0 := by omega
      have e4 : (0 : Int) ≤ ((n + 1 : Nat) : Int) := by omega
      have e5 : ((n + 1 : Nat) : Int) ≤ (b.length : Int) := by omega
      have e6 : (n : Int) < ((b.take (n + 1)).length : Int) := by rw [List.length_take]; omega
      have e7 : ([] : List Int).length + (b.take (n + 1)).length < 140737488355328 := by rw [List.length_take]; simp; omega
      rw [htk, trim_snoc _ _ h] at ht
      have hnb : nextB b = (b.take n ++ [(b[n] + 1) % 256], true) := by
        unfold nextB
        rw [ht, if_neg (by intro h0; have h1 := congrArg List.length h0; rw [List.length_append, List.length_cons, List.length_nil] at h1; omega), bump_snoc]
      have hset : (b.take (n + 1)).set n ((rd (b.take (n + 1)) (n : Int) + 1) % 256) = b.take n ++ [(b[n] + 1) % 256] := by
        have hr : rd (b.take (n + 1)) (n : Int) = b[n] := by
          rw [htk]
          have := rdI_at (b.take n) b[n] []
          rw [List.length_take, Nat.min_eq_left (by omega)] at this
          exact this
        rw [hr, htk, List.set_append_right _ _ (by rw [List.length_take]; omega)]
        rw [List.length_take, Nat.min_eq_left (by omega), Nat.sub_self]
        rfl
      simp only [h, if_false, hne, e4, e5, if_true, Int.toNat_natCast, Option.bind_some, List.nil_append, e6, e7, hset]
      rw [hnb]
      exact Ev.pure _
theorem ref_next_ev (b : List Int) (hl : b.length < 140737488355328) : Ev (fun k => quarryref03_Next.f k b) (nextB b) := by
  unfold quarryref03_Next.f
  exact ref_next_loop b hl b.length (Nat.le_refl _) (by rw [List.take_length])
end Go.Proofs.Ytmfenomjhmhogaa.Pure
end
section
namespace Go.Proofs.Ytmfenomjhmhogaa.Pure
set_option linter.unusedVariables false
set_option linter.unusedSimpArgs false
open Go.RowKit Go.Proofs.Ytmfenomjhmhogaa.P Go.Proofs.YtmfenomjhmhogaaW.PrintWords Go.Proofs.YtmfenomjhmhogaaW.PrintLast Go.Proofs.YtmfenomjhmhogaaW.PrintMore
def rightB (l : List S58) : Bool := l.all fun x => decide (chk x.f2 = 0) && !decide (x.f2.f0 = 0)
theorem right_loop : ∀ (suf pre : List S58), (pre ++ suf).length < 140737488355328 → Ev (fun k => quarrylaw19_right.l0 k (pre ++ suf) (pre.length : Int)) (rightB suf) := by
  intro suf
  induction suf with
  | nil =>
    intro pre hl
    refine Ev.succ ?_
    simp [quarrylaw19_right.l0, rightB]
    exact Ev.pure _
  | cons x suf ih =>
    intro pre hl
    refine Ev.succ ?_
    have e1 : (pre.length : Int) < ((pre ++ x :: suf).length : Int) := by simp; omega
    have e2 : (0 : Int) ≤ (pre.length : Int) := by omega
    have e6 : wrap64 ((pre.length : Int) + 1) = (pre.length : Int) + 1 := wrap64_in (by omega) (by simp at hl; omega)
    simp only [quarrylaw19_right.l0, e1, e2, if_true, rd_at58, ref_check_f, Option.bind_some, e6]
    by_cases hc : chk x.f2 = 0
    · simp only [hc, if_true]
      by_cases hn : x.f2.f0 = 0
      · simp only [hn, if_true]
        have e : rightB (x :: suf) = false := by simp [rightB, hn]
        rw [e]
        exact Ev.pure _
      · simp only [hn, if_false]
        have := ih (pre ++ [x]) (by simpa using hl)
        have e : rightB (x :: suf) = rightB suf := by simp [rightB, hc, hn]
        rw [e]
        simpa using this
    · simp only [hc, if_false]
      have e : rightB (x :: suf) = false := by simp [rightB, hc]
      rw [e]
      exact Ev.pure _
theorem right_ev (l : List S58) (hl : l.length < 140737488355328) : Ev (fun k => quarrylaw19_right.f k l) (rightB l) := by
  unfold quarrylaw19_right.f
  have := right_loop l [] (by simpa using hl)
  simpa using this
theorem right_all {l : List S58} (h : rightB l = true) : ∀ x ∈ l, chk x.f2 = 0 ∧ x.f2.f0 ≠ 0 := by
  intro x hx
  have := List.all_eq_true.1 h x hx
  simpa using this
def cntP (L : List S69) (cols : List Int) : Int := (useG L cols []).1.length + (useG L cols []).2.1.length + (useG L cols []).2.2.length
def bestP (L : List S69) : List S41 → Int → Int → Int → Int
  | [], _, best, _ => best
  | x :: l, i, best, most => if cntP L x.f3 > most then bestP L l (i + 1) i (cntP L x.f3) else bestP L l (i + 1) best most
theorem optT_len (p : S69 × Bool) : (optT p).length ≤ 1 := by unfold optT; split <;> simp
theorem cnt_small (L : List S69) (cols : List Int) (hl : cols.length ≤ 1048576) : 0 ≤ cntP L cols ∧ cntP L cols ≤ 1048578 ∧ (useG L cols []).1.length ≤ 1048576 ∧ (useG L cols []).2.1.length ≤ 1 ∧ (useG L cols []).2.2.length ≤ 1 := by
  obtain ⟨pf, cs, pv, h1, h2, h3, h4, h5⟩ := useG_form L cols []
  rw [List.nil_append] at h2
  have hlen : pv.length ≤ cols.length := by rw [h3, h1]; simp
  unfold cntP
  rw [h2]
  rcases h5 with ⟨_, e⟩ | ⟨c, cs', _, e⟩
  · rw [e]; simp; omega
  · rw [e]
    have a := optT_len (firstT c [9, 10] L)
    have b := optT_len (firstT c [7, 8] L)
    simp only
    omega
theorem rd_at41 (pre : List S41) (x : S41) (suf : List S41) : rd_T41 (pre ++ x :: suf) (pre.length : Int) = x := by
  simp [rd_T41, List.getD_eq_getElem?_getD]
theorem best_loop (L : List S69) : ∀ (suf pre : List S41) (best most : Int), (pre ++ suf).length < 140737488355328 → (∀ x ∈ suf, x.f3.length ≤ 1048576) →
    Ev (fun k => bounds_Best.l0 k L best most (pre ++ suf) ((pre ++ suf).length : Int) (pre.length : Int)) (bestP L suf (pre.length : Int) best most) := by
  intro suf
  induction suf with
  | nil =>
    intro pre best most hl hx
    refine Ev.succ ?_
    simp [bounds_Best.l0, bestP]
    exact Ev.pure _
  | cons x suf ih =>
    intro pre best most hl hx
    refine Ev.succ ?_
    have e1 : (pre.length : Int) < ((pre ++ x :: suf).length : Int) := by simp; omega
    have e2 : (0 : Int) ≤ (pre.length : Int) := by omega
    have e6 : wrap64 ((pre.length : Int) + 1) = (pre.length : Int) + 1 := wrap64_in (by omega) (by simp at hl; omega)
    have hxl := hx x (by simp)
    have hu : bounds_useOf.f x.f0 x.f1 x.f2 x.f3 x.f4 x.f5 L = some (useG L x.f3 []) := by unfold bounds_useOf.f; rw [if_pos (by omega)]
    have hcs := cnt_small L x.f3 hxl
    have hc : bounds_use_count.f (useG L x.f3 []).1 (useG L x.f3 []).2.1 (useG L x.f3 []).2.2 = some (cntP L x.f3) := by
      unfold bounds_use_count.f cntP
      rw [wrap64_in (n := ((useG L x.f3 []).1.length : Int) + ((useG L x.f3 []).2.1.length : Int)) (by omega) (by omega), wrap64_in (by omega) (by omega)]
    have step : ∀ k, bounds_Best.l0 (k + 1) L best most (pre ++ x :: suf) ((pre ++ x :: suf).length : Int) (pre.length : Int) =
        if cntP L x.f3 > most then bounds_Best.l0 k L (pre.length : Int) (cntP L x.f3) (pre ++ x :: suf) ((pre ++ x :: suf).length : Int) ((pre.length : Int) + 1) else bounds_Best.l0 k L best most (pre ++ x :: suf) ((pre ++ x :: suf).length : Int) ((pre.length : Int) + 1) := by
      intro k
      rw [bounds_Best.l0, if_pos e1, if_pos e2, if_pos e1, rd_at41, hu, Option.bind_some, hc, Option.bind_some, e6]
    clear hu hc
    have hr := fun b m => ih (pre ++ [x]) b m (by simpa using hl) (fun y hy => hx y (by simp [hy]))
    unfold bestP
    by_cases hg : cntP L x.f3 > most
    · rw [if_pos hg]
      refine Ev.of_eq ?_ (fun k => (step k).trans (if_pos hg))
      have := hr (pre.length : Int) (cntP L x.f3)
      simpa using this
    · rw [if_neg hg]
      refine Ev.of_eq ?_ (fun k => (step k).trans (if_neg hg))
      have := hr best most
      simpa using this
theorem best_ev (l : List S41) (L : List S69) (hl : l.length < 140737488355328) (hx : ∀ x ∈ l, x.f3.length ≤ 1048576) : Ev (fun k => bounds_Best.f k l L) (bestP L l 0 (-1) 0) := by
  unfold bounds_Best.f
  have := best_loop L l [] (-1) 0 (by simpa using hl) hx
  simpa using this
def w1 : S25 := ⟨2, 1, ⟨#[]⟩⟩
def w2 : S25 := ⟨2, 2, ⟨#[]⟩⟩
theorem w_small : Small w1 ∧ Small w2 := ⟨⟨⟨⟨by show _ ≤ (2 : Int); decide, by show (2 : Int) ≤ _; decide⟩, ⟨by show _ ≤ (1 : Int); decide, by show (1 : Int) ≤ _; decide⟩, by show (0 : Nat) ≤ _; decide⟩, by show (0 : Nat) ≤ _; decide⟩,
  ⟨⟨⟨by show _ ≤ (2 : Int); decide, by show (2 : Int) ≤ _; decide⟩, ⟨by show _ ≤ (2 : Int); decide, by show (2 : Int) ≤ _; decide⟩, by show (0 : Nat) ≤ _; decide⟩, by show (0 : Nat) ≤ _; decide⟩⟩
theorem w_chk : chk w1 = 0 ∧ chk w2 = 0 := ⟨by simp [chk, chkV, w1, Go.ByteArray.toList_eq], by simp [chk, chkV, w2, Go.ByteArray.toList_eq]⟩
theorem w_enc1 (d : List Bool) (h : d = [] ∨ d = [false, false]) : encR d [w1] = ([3, 128, 0, 0, 0, 0, 0, 0, 1], 0) := by
  unfold encR
  rw [encE, if_pos w_chk.1]
  rcases h with rfl | rfl <;> rfl
theorem w_enc2 (d : List Bool) (h : d = [] ∨ d = [false, false]) : encR d [w1, w2] = ([3, 128, 0, 0, 0, 0, 0, 0, 1, 3, 128, 0, 0, 0, 0, 0, 0, 2], 0) := by
  unfold encR
  rw [encE, if_pos w_chk.1, encE, if_pos w_chk.2]
  rcases h with rfl | rfl <;> rfl
def wL : List S69 := [⟨0, 5, w1⟩, ⟨1, 9, w2⟩]
theorem w_use : useG wL [0, 1] [] = ([w1], [⟨1, 9, w2⟩], []) := by rfl
theorem w_use1 : useG wL [1] [] = ([], [⟨1, 9, w2⟩], []) := by rfl
theorem w_range : rangeP [0, 1] [false, false] wL = ([3, 128, 0, 0, 0, 0, 0, 0, 1, 3, 128, 0, 0, 0, 0, 0, 0, 3], [3, 128, 0, 0, 0, 0, 0, 0, 2], false) := by
  unfold rangeP
  rw [w_use]
  have hs : swapB [w1] [false, false] = false := by rfl
  simp only [hs, Bool.false_eq_true, if_false]
  unfold rangeG
  rw [w_enc1 _ (.inr rfl)]
  simp only [lowP, highP, keyP, List.cons_append, List.nil_append, w_enc2 _ (.inr rfl)]
  decide
theorem works_ev : Ev (fun k => quarrylaw19_works.f k) true := by
  unfold quarrylaw19_works.f
  simp only [quarrylaw19_number.f, Option.bind_some]
  have h1 := range_ev 0 ⟨#[]⟩ ⟨#[]⟩ [0, 1] [false, false] false (L := wL) (by
    intro t ht
    simp only [wL, List.mem_cons, List.not_mem_nil, or_false] at ht
    rcases ht with rfl | rfl
    · exact w_small.1
    · exact w_small.2) (by simp)
  rw [w_range] at h1
  refine Ev.bind h1 ?_
  have hsm : ∀ x ∈ [w1, w2], okV x := by
    intro x hx
    simp only [List.mem_cons, List.not_mem_nil, or_false] at hx
    rcases hx with rfl | rfl
    · exact w_small.1.1
    · exact w_small.2.1
  have h2 := ref_encode_ev [w1, w2] [] hsm (by simp) (by simp [room]; decide)
  rw [w_enc2 _ (.inl rfl)] at h2
  refine Ev.bind h2 ?_
  have h3 := ref_encode_ev [w1] [] (fun x hx => hsm x (by simp at hx; simp [hx])) (by simp) (by simp [room]; decide)
  rw [w_enc1 _ (.inl rfl)] at h3
  refine Ev.bind h3 ?_
  have h4 := ref_next_ev [3, 128, 0, 0, 0, 0, 0, 0, 1, 3, 128, 0, 0, 0, 0, 0, 0, 2] (by simp)
  have e4 : nextB [3, 128, 0, 0, 0, 0, 0, 0, 1, 3, 128, 0, 0, 0, 0, 0, 0, 2] = ([3, 128, 0, 0, 0, 0, 0, 0, 1, 3, 128, 0, 0, 0, 0, 0, 0, 3], true) := by decide
  rw [e4] at h4
  refine Ev.bind h4 ?_
  have h5 := ref_next_ev [3, 128, 0, 0, 0, 0, 0, 0, 1] (by simp)
  have e5 : nextB [3, 128, 0, 0, 0, 0, 0, 0, 1] = ([3, 128, 0, 0, 0, 0, 0, 0, 2], true) := by decide
  rw [e5] at h5
  refine Ev.bind h5 ?_
  simp only [if_true, Bool.false_eq_true, if_false]
  have h6 := best_ev [(⟨0, ⟨#[]⟩, ⟨#[]⟩, [1], [false], false⟩ : S41), ⟨0, ⟨#[]⟩, ⟨#[]⟩, [0, 1], [false, false], false⟩] wL (by simp) (by
    intro x hx
    simp only [List.mem_cons, List.not_mem_nil, or_false] at hx
    rcases hx with rfl | rfl <;> simp)
  have e6 : bestP wL [(⟨0, ⟨#[]⟩, ⟨#[]⟩, [1], [false], false⟩ : S41), ⟨0, ⟨#[]⟩, ⟨#[]⟩, [0, 1], [false, false], false⟩] 0 (-1) 0 = 1 := by
    simp only [bestP, cntP, w_use, w_use1]
    decide
  rw [e6] at h6
  refine Ev.bind h6 ?_
  exact Ev.pure _
theorem m38_len (l : List Int) : m38 l = l.length + 1 := by unfold m38; induction l with | nil => rfl | cons x l ih => simp at ih ⊢; omega
theorem m39_len (l : List Bool) : m39 l = l.length + 1 := by unfold m39; induction l with | nil => rfl | cons x l ih => simp at ih ⊢; omega
theorem m44_len (l : List Int) : m44 l = l.length + 1 := by unfold m44; induction l with | nil => rfl | cons x l ih => simp at ih ⊢; omega
theorem sum_mem {α : Type} (f : α → Nat) : ∀ {l : List α} {x : α}, x ∈ l → f x ≤ (l.map f).sum
  | y :: l, x, h => by
    simp only [List.map_cons, List.sum_cons]
    rcases List.mem_cons.1 h with rfl | h
    · omega
    · have := sum_mem f h; omega
theorem sum_len {α : Type} (f : α → Nat) (hf : ∀ x, 1 ≤ f x) : ∀ l : List α, l.length ≤ (l.map f).sum
  | [] => by simp
  | y :: l => by
    have := sum_len f hf l
    have := hf y
    simp only [List.length_cons, List.map_cons, List.sum_cons]
    omega
theorem known_terms {l : List S58} (h : G32 l) (hm : m32 l ≤ 1048576) : (∀ t ∈ l, Small t.f2) ∧ l.length ≤ 1048576 := by
  unfold m32 at hm
  refine ⟨fun t ht => ?_, by have h : l.length ≤ (l.map fun x => m58 x).sum := sum_len m58 (fun x => by unfold m58; omega) l; omega⟩
  have h1 := h.1 t ht
  have h2 : m58 t ≤ (l.map fun x => m58 x).sum := sum_mem m58 ht
  have h3 : t.f2.f2.size ≤ m58 t := by unfold m58 m25; omega
  exact ⟨⟨wf64 h1.2.2.1, wf64 h1.2.2.2.1, h1.2.2.2.2⟩, by omega⟩
theorem known_values {l : List S25} (h : G52 l) (hm : m52 l ≤ 1048576) : (∀ x ∈ l, Small x) ∧ l.length ≤ 1048576 := by
  unfold m52 at hm
  refine ⟨fun t ht => ?_, by have h : l.length ≤ (l.map fun x => m25 x).sum := sum_len m25 (fun x => by unfold m25; omega) l; omega⟩
  have h1 := h.1 t ht
  have h2 : m25 t ≤ (l.map fun x => m25 x).sum := sum_mem m25 ht
  have h3 : t.f2.size ≤ m25 t := by unfold m25; omega
  exact ⟨⟨wf64 h1.1, wf64 h1.2.1, h1.2.2⟩, by omega⟩
theorem known_index {x : S41} (hm : m41 x ≤ 1048576) : x.f3.length ≤ 1048576 ∧ x.f4.length ≤ 1048576 := by
  unfold m41 at hm
  rw [m38_len, m39_len] at hm
  omega
theorem map_small {l : List S58} (h : ∀ t ∈ l, Small t.f2) : ∀ t ∈ l.map toT, Small t.f2 := fun t ht => by
  obtain ⟨x, hx, rfl⟩ := List.mem_map.1 ht
  exact h x hx
end Go.Proofs.Ytmfenomjhmhogaa.Pure
end
section
namespace Go.Proofs.Ytmfenomjhmhogaa.Pure
set_option linter.unusedVariables false
set_option linter.unusedSimpArgs false
open Go.RowKit Go.Proofs.Ytmfenomjhmhogaa.P Go.Proofs.YtmfenomjhmhogaaW.PrintWords Go.Proofs.YtmfenomjhmhogaaW.PrintLast Go.Proofs.YtmfenomjhmhogaaW.PrintMore
theorem refTrue_f (s : S25) : quarryref02_True.f s.f0 s.f1 s.f2 = some (decide (s = truthV true)) := by
  unfold quarryref02_True.f
  rw [truthR_f]
  exact congrArg some (eqb s (truthV true))
theorem not_true : ¬ zeroV = truthV true := by intro h; injection h with h; exact absurd h (by decide)
theorem truth_inj {b : Bool} (h : truthV b = truthV true) : b = true := by
  cases b with
  | true => rfl
  | false => injection h with _ h; exact absurd h (by decide)
theorem bin_err {op : Int} {u v : S25} {c : Int} (h : bin op u v = .error c) : (outT (bin op u v)).2.2.2 = c := by rw [h]; rfl
theorem pass_of {u : S25} {t : S58} (hu : chk u = 0) (ht : chk t.f2 = 0) (h0 : (outT (bin t.f1 u t.f2)).2.2.2 = 0)
    (hs : (⟨(outT (bin t.f1 u t.f2)).1, (outT (bin t.f1 u t.f2)).2.1, (outT (bin t.f1 u t.f2)).2.2.1⟩ : S25) = truthV true) : Pass u (toT t) := by
  have hs3 := cmpV_s3 u t.f2
  have key : ∀ op, t.f1 = op → 5 ≤ op → op ≤ 10 → holdsP op (cmpV u t.f2) = true := by
    intro op ho h5 h10
    rw [ho] at h0 hs
    by_cases hk : kindsP op u.f0 t.f2.f0
    · by_cases hz : u.f0 = 0 ∨ t.f2.f0 = 0
      · have e : bin op u t.f2 = .ok zeroV := by unfold bin; rw [if_neg (by omega), if_neg (by simpa using hk), if_neg (by omega), if_pos hz]
        rw [e] at hs
        exact absurd hs not_true
      · have e : bin op u t.f2 = .ok (truthV (holdsP op (cmpV u t.f2))) := by unfold bin; rw [if_neg (by omega), if_neg (by simpa using hk), if_neg (by omega), if_neg hz, if_pos h10]
        rw [e] at hs
        exact truth_inj hs
    · have e : bin op u t.f2 = .error 35 := by unfold bin; rw [if_neg (by omega), if_pos hk]
      have := bin_err e
      rw [h0] at this
      exact absurd this (by decide)
  refine ⟨fun h => ?_, fun h => ?_, fun h => ?_, fun h => ?_, fun h => ?_⟩
  · have := key 5 h (by decide) (by decide)
    simp [holdsP] at this
    exact this
  · have := key 7 h (by decide) (by decide)
    simp [holdsP] at this
    rcases hs3 with h | h | h
    · exact h
    · exact absurd this (by show ¬ cmpV u t.f2 < 0; omega)
    · exact absurd this (by show ¬ cmpV u t.f2 < 0; omega)
  · have := key 8 h (by decide) (by decide)
    simp [holdsP] at this
    show cmpV u t.f2 ≠ 1
    omega
  · have := key 9 h (by decide) (by decide)
    simp [holdsP] at this
    show cmpV u t.f2 = 1
    rcases hs3 with h | h | h <;> omega
  · have := key 10 h (by decide) (by decide)
    simp [holdsP] at this
    show cmpV u t.f2 ≠ -1
    omega
theorem passes_ev {row : List S25} {t : S58} (hr : ∀ x ∈ row, Small x) (ht : Small t.f2) (hc : ∀ x ∈ row, chk x = 0) (htc : chk t.f2 = 0) :
    ∃ b, Ev (fun k => quarryref19_Passes.f k row t.f0 t.f1 t.f2.f0 t.f2.f1 t.f2.f2) b ∧ (b = true → Pass (rd_T25 row t.f0) (toT t)) := by
  unfold quarryref19_Passes.f
  by_cases h0 : t.f0 < 0
  · refine ⟨false, Ev.pos h0 (Ev.succ ?_), fun h => by cases h⟩
    simp [quarryref19_Passes.j0]
    exact Ev.pure _
  · by_cases h1 : t.f0 ≥ (row.length : Int)
    · refine ⟨false, Ev.neg h0 (Ev.succ ?_), fun h => by cases h⟩
      simp [quarryref19_Passes.j0, h1]
      exact Ev.pure _
    · have e1 : (0 : Int) ≤ t.f0 := by omega
      have e2 : t.f0 < (row.length : Int) := by omega
      have hm : rd_T25 row t.f0 ∈ row := by
        obtain ⟨n, hn⟩ := Int.eq_ofNat_of_zero_le e1
        rw [hn] at e2 ⊢
        have hlt : n < row.length := by omega
        unfold rd_T25
        rw [Int.toNat_natCast, List.getD_eq_getElem?_getD, List.getElem?_eq_getElem hlt]
        exact List.getElem_mem hlt
      have hf : fits (rd_T25 row t.f0) t.f2 := ⟨(hr _ hm).1.2.1, ht.1.2.1, (hr _ hm).1.2.2, ht.1.2.2⟩
      have hb : quarryref02_Binary.f t.f1 (rd_T25 row t.f0).f0 (rd_T25 row t.f0).f1 (rd_T25 row t.f0).f2 t.f2.f0 t.f2.f1 t.f2.f2 = some (outT (bin t.f1 (rd_T25 row t.f0) t.f2)) := by unfold quarryref02_Binary.f; rw [if_pos hf]
      have hcu := hc _ hm
      clear hf hm
      generalize hB : outT (bin t.f1 (rd_T25 row t.f0) t.f2) = B at hb
      have step : ∀ k, quarryref19_Passes.j0 (k + 1) row (decide (t.f0 ≥ (row.length : Int))) t.f0 t.f1 t.f2.f0 t.f2.f1 t.f2.f2 = if B.2.2.2 = 0 then some (decide ((⟨B.1, B.2.1, B.2.2.1⟩ : S25) = truthV true)) else some false := by
        intro k
        rw [decide_eq_false h1, quarryref19_Passes.j0, if_neg (by decide), if_pos e1, if_pos e2, hb, Option.bind_some]
        have := refTrue_f (⟨B.1, B.2.1, B.2.2.1⟩ : S25)
        simp only at this
        rw [this, Option.bind_some]
      by_cases h0' : B.2.2.2 = 0
      · refine ⟨decide ((⟨B.1, B.2.1, B.2.2.1⟩ : S25) = truthV true), Ev.neg h0 (Ev.succ ((Ev.pure _).of_eq fun k => (step k).trans (if_pos h0'))), fun h => ?_⟩
        rw [← hB] at h0' h
        exact pass_of hcu htc h0' (of_decide_eq_true h)
      · exact ⟨false, Ev.neg h0 (Ev.succ ((Ev.pure _).of_eq fun k => (step k).trans (if_neg h0'))), fun h => by cases h⟩
section
variable (x : S41) (l : List S58) (row : List S25) (more : List Int)
theorem str_cat (a b : List Int) : (strOfNums a ++ strOfNums b).toList = (strOfNums (a ++ b)).toList := by
  rw [Go.ByteArray.toList_eq, Go.ByteArray.toList_eq]
  simp [strOfNums]
theorem str_size (a : List Int) : (strOfNums a).size = a.length := by simp [strOfNums, ByteArray.size]
theorem all_end (hl : ∀ t ∈ l, Small t.f2) (hn : l.length ≤ 1048576) (hcols : x.f3.length ≤ 1048576) (hd : x.f4.length = x.f3.length) (hm : BytesIn more) (hml : more.length ≤ 1048576) (hc : ∀ c ∈ x.f3, Small (rd_T25 row c) ∧ chk (rd_T25 row c) = 0)
    (hr : ∀ t ∈ l, chk t.f2 = 0) (hp : ∀ t ∈ l, Pass (rd_T25 row t.f0) (toT t)) :
    Ev (fun k => quarrylaw19_BoundsAll.l2 k l row more (x.f3.map (rd_T25 row)) (l.length : Int) x.f0 x.f1 x.f2 x.f3 x.f4 x.f5) true := by
  have hin := inside (l.map toT) (rd_T25 row) x.f3 x.f4 more hd (fun t ht => by
      obtain ⟨y, hy, rfl⟩ := List.mem_map.1 ht
      exact ⟨hr y hy, (hl y hy).1.2.1⟩) (fun c hcm => ⟨(hc c hcm).2, (hc c hcm).1.1.2.1⟩) (fun t ht => by
      obtain ⟨y, hy, rfl⟩ := List.mem_map.1 ht
      exact hp y hy) hm
  have hvs : ∀ v ∈ x.f3.map (rd_T25 row), Small v ∧ chk v = 0 := fun v hv => by
    obtain ⟨c, hcm, rfl⟩ := List.mem_map.1 hv
    exact hc c hcm
  have hek := encR_all (d := x.f4) (fun v hv => (hvs v hv).2)
  have hroom := room_small _ (fun v hv => (hvs v hv).1)
  rw [List.length_map] at hroom
  have hlen := encR_len x.f4 (x.f3.map (rd_T25 row))
  refine Ev.succ ?_
  have e1 : ¬ ((l.length : Int) < (l.length : Int)) := by omega
  have step : ∀ k, quarrylaw19_BoundsAll.l2 (k + 1) l row more (x.f3.map (rd_T25 row)) (l.length : Int) x.f0 x.f1 x.f2 x.f3 x.f4 x.f5 = _ := fun k => by
    rw [quarrylaw19_BoundsAll.l2, if_neg e1]
  refine Ev.of_eq ?_ step
  refine Ev.bind (its_ev l (by omega)) ?_
  refine Ev.bind (range_ev x.f0 x.f1 x.f2 x.f3 x.f4 x.f5 (map_small hl) hcols) ?_
  refine Ev.bind (ref_encode_ev _ x.f4 (fun v hv => (hvs v hv).1.1) (by simp; omega) (by omega)) ?_
  have hrr := range_range x.f3 x.f4 (l.map toT)
  generalize rangeP x.f3 x.f4 (l.map toT) = r at hin hrr ⊢
  rw [hek] at hlen ⊢
  have hkb : BytesIn (encA x.f4 (x.f3.map (rd_T25 row)) ++ more) := bytes_append (encA_bytes _ _) hm
  have hsz : (strOfNums (encA x.f4 (x.f3.map (rd_T25 row)))).size + (strOfNums more).size ≤ 9223372036854775807 := by rw [str_size, str_size]; omega
  refine Ev.pos hsz ?_
  rw [str_cat, less_is hkb hrr.1, less_is hkb hrr.2]
  refine Ev.neg (by rw [decide_eq_false hin.1]; decide) ?_
  cases ho : r.2.2 with
  | true => exact Ev.pos rfl (Ev.pure _)
  | false =>
    refine Ev.neg (by decide) ?_
    rw [decide_eq_true (hin.2 ho)]
    exact Ev.pure _
end
theorem l2_loop (x : S41) (row : List S25) (more : List Int) (vals : List S25) (hr : ∀ v ∈ row, Small v) (hc : ∀ v ∈ row, chk v = 0) : ∀ (suf pre : List S58), (pre ++ suf).length ≤ 1048576 → (∀ t ∈ suf, Small t.f2 ∧ chk t.f2 = 0) →
    ((∀ t ∈ suf, Pass (rd_T25 row t.f0) (toT t)) → Ev (fun k => quarrylaw19_BoundsAll.l2 k (pre ++ suf) row more vals ((pre ++ suf).length : Int) x.f0 x.f1 x.f2 x.f3 x.f4 x.f5) true) →
    Ev (fun k => quarrylaw19_BoundsAll.l2 k (pre ++ suf) row more vals (pre.length : Int) x.f0 x.f1 x.f2 x.f3 x.f4 x.f5) true := by
  intro suf
  induction suf with
  | nil =>
    intro pre hl hs h
    have := h (fun t ht => by cases ht)
    simpa using this
  | cons t suf ih =>
    intro pre hl hs h
    have e1 : (pre.length : Int) < ((pre ++ t :: suf).length : Int) := by simp; omega
    have e2 : (0 : Int) ≤ (pre.length : Int) := by omega
    have e6 : wrap64 ((pre.length : Int) + 1) = (pre.length : Int) + 1 := wrap64_in (by omega) (by simp at hl; omega)
    obtain ⟨b, hb, hpass⟩ := passes_ev hr (hs t (by simp)).1 hc (hs t (by simp)).2
    refine Ev.succ ?_
    refine Ev.of_eq ?_ (fun k => by rw [quarrylaw19_BoundsAll.l2, if_pos e1, if_pos e2, rd_at58, e6])
    refine Ev.bind hb ?_
    cases b with
    | false => exact Ev.neg (by decide) (Ev.pure _)
    | true =>
      refine Ev.pos rfl ?_
      have := ih (pre ++ [t]) (by simpa using hl) (fun y hy => hs y (by simp [hy])) (fun hp => by
        have := h (fun y hy => by
          rcases List.mem_cons.1 hy with rfl | hy
          · exact hpass rfl
          · exact hp y hy)
        simpa using this)
      simpa using this
theorem l1_loop (x : S41) (l : List S58) (more : List Int) (vals : List S25) : ∀ (suf pre : List S25), (pre ++ suf).length ≤ 1048576 →
    ((∀ v ∈ suf, chk v = 0) → Ev (fun k => quarrylaw19_BoundsAll.l2 k l (pre ++ suf) more vals 0 x.f0 x.f1 x.f2 x.f3 x.f4 x.f5) true) →
    Ev (fun k => quarrylaw19_BoundsAll.l1 k l (pre ++ suf) more vals (pre.length : Int) x.f0 x.f1 x.f2 x.f3 x.f4 x.f5) true := by
  intro suf
  induction suf with
  | nil =>
    intro pre hl h
    have := h (fun t ht => by cases ht)
    refine Ev.succ ?_
    have e1 : ¬ ((pre.length : Int) < ((pre ++ []).length : Int)) := by simp
    refine Ev.of_eq this (fun k => by rw [quarrylaw19_BoundsAll.l1, if_neg e1])
  | cons t suf ih =>
    intro pre hl h
    have e1 : (pre.length : Int) < ((pre ++ t :: suf).length : Int) := by simp; omega
    have e2 : (0 : Int) ≤ (pre.length : Int) := by omega
    have e6 : wrap64 ((pre.length : Int) + 1) = (pre.length : Int) + 1 := wrap64_in (by omega) (by simp at hl; omega)
    refine Ev.succ ?_
    refine Ev.of_eq ?_ (fun k => by rw [quarrylaw19_BoundsAll.l1, if_pos e1, if_pos e2, rd_at, ref_check_f, Option.bind_some, e6])
    by_cases hc : chk t = 0
    · refine Ev.pos hc ?_
      have := ih (pre ++ [t]) (by simpa using hl) (fun hp => by
        have := h (fun y hy => by
          rcases List.mem_cons.1 hy with rfl | hy
          · exact hc
          · exact hp y hy)
        simpa using this)
      simpa using this
    · exact Ev.neg hc (Ev.pure _)
theorem l0_loop (x : S41) (l : List S58) (row : List S25) (more : List Int) : ∀ (suf pre : List Int), x.f3 = pre ++ suf → x.f3.length ≤ 1048576 →
    ((∀ c ∈ suf, 0 ≤ c ∧ c < (row.length : Int)) → Ev (fun k => quarrylaw19_BoundsAll.l1 k l row more ((pre ++ suf).map (rd_T25 row)) 0 x.f0 x.f1 x.f2 x.f3 x.f4 x.f5) true) →
    Ev (fun k => quarrylaw19_BoundsAll.l0 k l row more (pre.map (rd_T25 row)) (pre.length : Int) x.f0 x.f1 x.f2 x.f3 x.f4 x.f5) true := by
  intro suf
  induction suf with
  | nil =>
    intro pre hx hl h
    have := h (fun t ht => by cases ht)
    refine Ev.succ ?_
    have e1 : ¬ ((pre.length : Int) < (x.f3.length : Int)) := by rw [hx]; simp
    rw [List.append_nil] at this
    refine Ev.of_eq this (fun k => by rw [quarrylaw19_BoundsAll.l0, if_neg e1])
  | cons c suf ih =>
    intro pre hx hl h
    have e1 : (pre.length : Int) < (x.f3.length : Int) := by rw [hx]; simp; omega
    have e2 : (0 : Int) ≤ (pre.length : Int) := by omega
    have e3 : (pre.map (rd_T25 row)).length < 4398046511104 := by rw [List.length_map]; omega
    have e6 : wrap64 ((pre.length : Int) + 1) = (pre.length : Int) + 1 := wrap64_in (by omega) (by omega)
    have e7 : rd x.f3 (pre.length : Int) = c := by rw [hx]; exact rd_pre pre suf c
    refine Ev.succ ?_
    by_cases h1 : c < 0
    · refine Ev.of_eq (Ev.pure _) (fun k => by rw [quarrylaw19_BoundsAll.l0, if_pos e1, if_pos e2, e7, if_pos h1])
    · by_cases h2 : c ≥ (row.length : Int)
      · refine Ev.of_eq (Ev.pure _) (fun k => by rw [quarrylaw19_BoundsAll.l0, if_pos e1, if_pos e2, e7, if_neg h1, if_pos h2])
      · refine Ev.of_eq ?_ (fun k => by rw [quarrylaw19_BoundsAll.l0, if_pos e1, if_pos e2, e7, if_neg h1, if_neg h2, if_pos (show 0 ≤ c by omega), if_pos (show c < (row.length : Int) by omega), if_pos e3, e6])
        have := ih (pre ++ [c]) (by rw [hx]; simp) hl (fun hp => by
          have := h (fun y hy => by
            rcases List.mem_cons.1 hy with rfl | hy
            · exact ⟨by omega, by omega⟩
            · exact hp y hy)
          simpa using this)
        simpa using this
theorem rd_mem {row : List S25} {c : Int} (h0 : 0 ≤ c) (h1 : c < (row.length : Int)) : rd_T25 row c ∈ row := by
  obtain ⟨n, hn⟩ := Int.eq_ofNat_of_zero_le h0
  rw [hn] at h1 ⊢
  have hlt : n < row.length := by omega
  unfold rd_T25
  rw [Int.toNat_natCast, List.getD_eq_getElem?_getD, List.getElem?_eq_getElem hlt]
  exact List.getElem_mem hlt
theorem BoundsAll : ∀ (x0 : S41) (l1 : List (S58)) (l2 : List (S25)) (l3 : List (Int)), G41 x0 → G32 l1 → G52 l2 → G44 l3 → m41 x0 + m32 l1 + m52 l2 + m44 l3 ≤ 1048576 → ∃ k, quarrylaw19_BoundsAll.f k (x0.f0) (x0.f1) (x0.f2) (x0.f3) (x0.f4) (x0.f5) l1 l2 l3 = some true := by
  intro x0 l1 l2 l3 g0 g1 g2 g3 hm
  obtain ⟨s1, s2⟩ := known_terms g1 (by omega)
  obtain ⟨s3, s4⟩ := known_values g2 (by omega)
  obtain ⟨s5, s6⟩ := known_index (x := x0) (by omega)
  have hmb : BytesIn l3 := fun x hx => bounds_u8 (g3.1 x hx)
  have hml : l3.length ≤ 1048576 := by have := m44_len l3; omega
  apply Ev.get
  unfold quarrylaw19_BoundsAll.f
  refine Ev.bind works_ev ?_
  refine Ev.pos rfl ?_
  refine Ev.bind (right_ev l1 (by omega)) ?_
  cases hrb : rightB l1 with
  | false =>
    refine Ev.neg (by decide) (Ev.succ ?_)
    exact Ev.of_eq (Ev.pure _) (fun k => by rw [quarrylaw19_BoundsAll.j0, if_pos rfl])
  | true =>
    refine Ev.pos rfl (Ev.succ ?_)
    have hra := right_all hrb
    by_cases hd : x0.f4.length = x0.f3.length
    · have e : ((x0.f4.length : Int) != (x0.f3.length : Int)) = false := by simp [hd]
      refine Ev.of_eq ?_ (fun k => by rw [e, quarrylaw19_BoundsAll.j0, if_neg (by decide)])
      refine l0_loop x0 l1 l2 l3 x0.f3 [] rfl s5 (fun hcr => ?_)
      refine l1_loop x0 l1 l3 _ l2 [] (by simpa using s4) (fun hck => ?_)
      refine l2_loop x0 l2 l3 _ s3 (fun v hv => hck v hv) l1 [] (by simpa using s2) (fun t ht => ⟨s1 t ht, (hra t ht).1⟩) (fun hp => ?_)
      exact all_end x0 l1 l2 l3 s1 s2 s5 hd hmb hml (fun c hc => ⟨s3 _ (rd_mem (hcr c hc).1 (hcr c hc).2), hck _ (rd_mem (hcr c hc).1 (hcr c hc).2)⟩) (fun t ht => (hra t ht).1) hp
    · have e : ((x0.f4.length : Int) != (x0.f3.length : Int)) = true := by simp; omega
      exact Ev.of_eq (Ev.pure _) (fun k => by rw [e, quarrylaw19_BoundsAll.j0, if_pos rfl])
end Go.Proofs.Ytmfenomjhmhogaa.Pure
end

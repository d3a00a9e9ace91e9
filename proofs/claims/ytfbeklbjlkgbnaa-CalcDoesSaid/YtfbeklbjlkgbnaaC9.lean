/- Written in this session: calc.Binary answers bin. No condition but the kinds of numbers and sizes. -/
import Derived.Test.YtfbeklbjlkgbnaaC8
namespace Go.Proofs.Ytfbeklbjlkgbnaa.P
open Go.RowKit Go.Proofs.Ytfbeklbjlkgbnaa.Pure Go.Proofs.YtfbeklbjlkgbnaaW.PrintWords Go.Proofs.YtfbeklbjlkgbnaaW.PrintLast Go.Proofs.YtfbeklbjlkgbnaaW.PrintMore
attribute [local go_sem] max2_int min2_int max_two min_two max_three min_three max_four min_four   -- for this text's walks alone
set_option linter.unusedVariables false
set_option linter.unusedSimpArgs false
theorem wants_zero {op : Int} (h : wantsP op = 0) : ¬ op ≤ 4 ∧ op ≤ 10 := by
  unfold wantsP at h
  by_cases h4 : op ≤ 4
  · rw [if_pos h4] at h; omega
  · rw [if_neg h4] at h
    by_cases h10 : op ≤ 10
    · exact ⟨h4, h10⟩
    · rw [if_neg h10] at h
      by_cases h16 : op = 16
      · rw [if_pos h16] at h; omega
      · rw [if_neg h16] at h; omega
theorem wants_not {op : Int} (h : ¬ wantsP op = 0) (h4 : ¬ op ≤ 4) : ¬ op ≤ 10 := by
  intro h10
  unfold wantsP at h
  rw [if_neg h4, if_pos h10] at h
  exact h rfl
theorem calc_Binary1.calls (op : Int) (u v : S25) (hu : In64 u.f1) (hv : In64 v.f1) (hz : u.f2.size + v.f2.size < 9223372036854775808) (b0 b1 b2 : Nat) (W : World) (h0 : W.heap[b0]? = some (.cells #[.int .i64 op] 3 (0, 0))) (h1 : W.heap[b1]? = some (.cells #[.int .i64 u.f0, .int .i64 u.f1, .string u.f2] 25 (0, 0))) (h2 : W.heap[b2]? = some (.cells #[.int .i64 v.f0, .int .i64 v.f1, .string v.f2] 25 (0, 0))) :
    Calls Try.prog 38 #[.pointer (some ⟨b0, 0, none⟩), .pointer (some ⟨b1, 0, none⟩), .pointer (some ⟨b2, 0, none⟩)] W (fun e w' => RE (bin op u v) e ∧ Below W.heap.size W w') := by
  have HK : Aside0 (calc_wants.f op = some (wantsP op)) := ⟨wants_f op⟩
  unfold bin
  by_cases l3 : 3 ≤ op
  · by_cases l16 : op ≤ 16
    · rw [if_neg (fun h => h ⟨l3, l16⟩)]
      by_cases kz : wantsP op = 0
      · obtain ⟨l4, l10⟩ := wants_zero kz
        have hk : kindsP op u.f0 v.f0 = (u.f0 = 0 ∨ v.f0 = 0 ∨ u.f0 = v.f0) := by unfold kindsP; rw [if_neg (fun h => h kz)]
        by_cases a0 : u.f0 = 0
        · rw [if_neg (by rw [hk]; exact fun h => h (.inl a0)), if_neg l4, if_pos (.inl a0)]
          exact calc_Binary1.nullA op u v _ HK b0 b1 b2 W h0 h1 h2 l3 l16 kz l4 a0
        by_cases z0 : v.f0 = 0
        · rw [if_neg (by rw [hk]; exact fun h => h (.inr (.inl z0))), if_neg l4, if_pos (.inr z0)]
          exact calc_Binary1.nullB op u v _ HK b0 b1 b2 W h0 h1 h2 l3 l16 kz l4 a0 z0
        by_cases uv : u.f0 = v.f0
        · rw [if_neg (by rw [hk]; exact fun h => h (.inr (.inr uv))), if_neg l4, if_neg (fun h => h.elim a0 z0), if_pos l10]
          exact calc_Binary1.cmp op u v _ HK b0 b1 b2 W h0 h1 h2 l3 l16 kz l4 l10 a0 z0 uv
        · rw [if_pos (by rw [hk]; exact fun h => h.elim a0 (fun h => h.elim z0 uv))]
          exact calc_Binary1.kindC op u v _ HK b0 b1 b2 W h0 h1 h2 l3 l16 kz a0 z0 uv
      · have hk : kindsP op u.f0 v.f0 = ((u.f0 = wantsP op ∨ u.f0 = 0) ∧ (v.f0 = wantsP op ∨ v.f0 = 0)) := by unfold kindsP; rw [if_pos kz]
        by_cases ak : u.f0 = wantsP op ∨ u.f0 = 0
        · by_cases zk : v.f0 = wantsP op ∨ v.f0 = 0
          · rw [if_neg (by rw [hk]; exact fun h => h ⟨ak, zk⟩)]
            by_cases l4 : op ≤ 4
            · rw [if_pos l4]
              by_cases a0 : u.f0 = 0 <;> by_cases z0 : v.f0 = 0
              · exact calc_Binary1.logic11 op u v _ HK b0 b1 b2 W h0 h1 h2 l3 l16 kz l4 a0 z0
              · exact calc_Binary1.logic10 op u v _ HK b0 b1 b2 W h0 h1 h2 l3 l16 kz l4 a0 z0 (zk.resolve_right z0)
              · exact calc_Binary1.logic01 op u v _ HK b0 b1 b2 W h0 h1 h2 l3 l16 kz l4 a0 z0 (ak.resolve_right a0)
              · exact calc_Binary1.logic00 op u v _ HK b0 b1 b2 W h0 h1 h2 l3 l16 kz l4 a0 z0 (ak.resolve_right a0) (zk.resolve_right z0)
            rw [if_neg l4]
            have l10 := wants_not kz l4
            by_cases a0 : u.f0 = 0 <;> by_cases z0 : v.f0 = 0
            · rw [if_pos (.inl a0)]; exact calc_Binary1.nullK11 op u v _ HK b0 b1 b2 W h0 h1 h2 l3 l16 kz l4 a0 z0
            · rw [if_pos (.inl a0)]; exact calc_Binary1.nullK10 op u v _ HK b0 b1 b2 W h0 h1 h2 l3 l16 kz l4 a0 z0 (zk.resolve_right z0)
            · rw [if_pos (.inr z0)]; exact calc_Binary1.nullK01 op u v _ HK b0 b1 b2 W h0 h1 h2 l3 l16 kz l4 a0 z0 (ak.resolve_right a0)
            · rw [if_neg (fun h => h.elim a0 z0), if_neg l10]
              have ak' := ak.resolve_right a0
              have zk' := zk.resolve_right z0
              by_cases o16 : op = 16
              · rw [if_pos o16]
                by_cases hl : u.f2.size + v.f2.size ≤ 2048
                · rw [if_pos hl]; exact calc_Binary1.cat op u v _ HK b0 b1 b2 W h0 h1 h2 l3 l16 kz l4 l10 o16 a0 z0 ak' zk' hz hl
                · rw [if_neg hl]; exact calc_Binary1.catLong op u v _ HK b0 b1 b2 W h0 h1 h2 l3 l16 kz l4 l10 o16 a0 z0 ak' zk' hz hl
              · rw [if_neg o16]
                cases hn : sumP op u.f1 v.f1 with
                | ok n => exact calc_Binary1.num op u v _ HK b0 b1 b2 W h0 h1 h2 l3 l16 kz l4 l10 o16 a0 z0 ak' zk' n ⟨hn⟩ ⟨hu⟩ ⟨hv⟩
                | error c => exact calc_Binary1.numE op u v _ HK b0 b1 b2 W h0 h1 h2 l3 l16 kz l4 l10 o16 a0 z0 ak' zk' c ⟨hn⟩ ⟨hu⟩ ⟨hv⟩
          · rw [if_pos (by rw [hk]; exact fun h => zk h.2)]
            by_cases a0 : u.f0 = 0
            · exact calc_Binary1.kindB1 op u v _ HK b0 b1 b2 W h0 h1 h2 l3 l16 kz a0 (fun h => zk (.inr h)) (fun h => zk (.inl h))
            · exact calc_Binary1.kindB0 op u v _ HK b0 b1 b2 W h0 h1 h2 l3 l16 kz a0 (fun h => zk (.inr h)) (ak.resolve_right a0) (fun h => zk (.inl h))
        · rw [if_pos (by rw [hk]; exact fun h => ak h.1)]
          by_cases z0 : v.f0 = 0
          · exact calc_Binary1.kindA1 op u v _ HK b0 b1 b2 W h0 h1 h2 l3 l16 kz (fun h => ak (.inr h)) (fun h => ak (.inl h)) z0
          · exact calc_Binary1.kindA0 op u v _ HK b0 b1 b2 W h0 h1 h2 l3 l16 kz (fun h => ak (.inr h)) (fun h => ak (.inl h)) z0
    · rw [if_pos (fun h => l16 h.2)]
      exact calc_Binary1.high op u v _ HK b0 b1 b2 W h0 h1 h2 l3 l16
  · rw [if_pos (fun h => l3 h.1)]
    exact calc_Binary1.low op u v _ HK b0 b1 b2 W h0 h1 h2 l3
set_option maxHeartbeats 1000000 in
set_option maxRecDepth 100000 in
theorem calc_Binary.calls (op : Int) (u v : S25) (hu : In64 u.f1) (hv : In64 v.f1) (hz : u.f2.size + v.f2.size < 9223372036854775808) (w : World) :
    Calls Try.prog 17 #[.int .i64 op, .agg #[.int .i64 u.f0, .int .i64 u.f1, .string u.f2], .agg #[.int .i64 v.f0, .int .i64 v.f1, .string v.f2]] w fun e w' => e = .returned (.tuple #[encV (outE (bin op u v)).1, .int .i64 (outE (bin op u v)).2]) ∧ Below w.heap.size w w' := by
  have hu25 := Try.underlying25
  have hmf : ∀ (fn : Fn) (first cap : Array Value) (w : World), (Instr.makeFunc fn first cap).run Try.prog w = .ok (.func fn first cap) w := fun _ _ _ _ => rfl
  have HU := Aside0.mk hu
  have HV := Aside0.mk hv
  have HZ := Aside0.mk hz
  clear hu hv hz
  obtain ⟨r, hr⟩ : ∃ r, outE (bin op u v) = r := ⟨_, rfl⟩
  rw [hr]
  go_enter Try.func17, Try.ntmps17
  go_wp2_with fail
  obtain ⟨W, hW⟩ : ∃ W, (((w.alloc (.cells #[.int .i64 op] 3)).alloc (.cells #[.int .i64 u.f0, .int .i64 u.f1, .string u.f2] 25)).alloc (.cells #[.int .i64 v.f0, .int .i64 v.f1, .string v.f2] 25)).alloc (.cells #[.int .i64 0, .int .i64 0, .string (⟨#[]⟩ : ByteArray)] 25) = W := ⟨_, rfl⟩
  have F0 : W.heap[w.heap.size]? = some (.cells #[.int .i64 op] 3 (0, 0)) := by rw [← hW]; exact blk_alloc (blk_alloc (blk_alloc (Deep.blk_alloc_new w _) _) _) _
  have F1 : W.heap[w.heap.size + 1]? = some (.cells #[.int .i64 u.f0, .int .i64 u.f1, .string u.f2] 25 (0, 0)) := by
    have := Deep.blk_alloc_new (w.alloc (.cells #[.int .i64 op] 3)) (.cells #[.int .i64 u.f0, .int .i64 u.f1, .string u.f2] 25)
    rw [← hW]
    exact blk_alloc (blk_alloc (by simpa using this) _) _
  have F2 : W.heap[w.heap.size + 1 + 1]? = some (.cells #[.int .i64 v.f0, .int .i64 v.f1, .string v.f2] 25 (0, 0)) := by
    have := Deep.blk_alloc_new ((w.alloc (.cells #[.int .i64 op] 3)).alloc (.cells #[.int .i64 u.f0, .int .i64 u.f1, .string u.f2] 25)) (.cells #[.int .i64 v.f0, .int .i64 v.f1, .string v.f2] 25)
    rw [← hW]
    exact blk_alloc (by simpa using this) _
  have F3 : W.heap[w.heap.size + 1 + 1 + 1]? = some (.cells #[.int .i64 0, .int .i64 0, .string (⟨#[]⟩ : ByteArray)] 25 (0, 0)) := by
    have := Deep.blk_alloc_new (((w.alloc (.cells #[.int .i64 op] 3)).alloc (.cells #[.int .i64 u.f0, .int .i64 u.f1, .string u.f2] 25)).alloc (.cells #[.int .i64 v.f0, .int .i64 v.f1, .string v.f2] 25)) (.cells #[.int .i64 0, .int .i64 0, .string (⟨#[]⟩ : ByteArray)] 25)
    rw [← hW]
    simpa using this
  have FB : Below w.heap.size w W := by rw [← hW]; exact below_alloc (below_alloc (below_alloc (below_alloc (Below.refl _ _) _) _) _) _
  rw [hW]
  refine (calc_caught.b _ _ _ W (bin op u v) (fun W1 hb => calc_Binary1.calls op u v HU.out HV.out HZ.out _ _ _ W1 ((hb.block _ (blk_lt F0)).trans F0) ((hb.block _ (blk_lt F1)).trans F1) ((hb.block _ (blk_lt F2)).trans F2))).mono ?_
  rintro e w1 ⟨rfl, hb⟩
  have F4 := (hb.block _ (blk_lt F3)).trans F3
  have GB := Aside0.mk (below_step FB hb)
  rw [hr]
  obtain ⟨⟨x0, x1, x2⟩, c⟩ := r
  have g0 : w1.cell? ⟨w.heap.size + 1 + 1 + 1, 0, none⟩ = some (.int .i64 0) := (blk_cell F4 0).trans rfl
  have g1 : w1.cell? ⟨w.heap.size + 1 + 1 + 1, 1, none⟩ = some (.int .i64 0) := (blk_cell F4 1).trans rfl
  have g2 : w1.cell? ⟨w.heap.size + 1 + 1 + 1, 2, none⟩ = some (.string (⟨#[]⟩ : ByteArray)) := (blk_cell F4 2).trans rfl
  have gf0 := blk_frozen F4 0
  have gf1 := blk_frozen F4 1
  have gf2 := blk_frozen F4 2
  clear F0 F1 F2 F3 F4 FB hb hW
  simp only [encV]
  go_wp2_with fail
  exact bodyPost_ret (v := .tuple #[.agg #[.int .i64 x0, .int .i64 x1, .string x2], .int .i64 c]) (by simp [results, Try.results17, go_sem, g0, g1, g2]) rfl ⟨rfl, below_set3 GB.out (by omega) _ _ _ _ _ _⟩
end Go.Proofs.Ytfbeklbjlkgbnaa.P

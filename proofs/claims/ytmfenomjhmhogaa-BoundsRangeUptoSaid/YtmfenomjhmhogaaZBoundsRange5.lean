/- Laid by a program of this session out of its texts for the law BoundsRange, part 5. -/
import Derived.Lib.Bytealg
import Derived.Test.YtmfenomjhmhogaaZBoundsRange4
section
namespace Go.Proofs.Ytmfenomjhmhogaa.P
open Go.RowKit Go.Proofs.Ytmfenomjhmhogaa.Pure Go.Proofs.YtmfenomjhmhogaaW.PrintWords Go.Proofs.YtmfenomjhmhogaaW.PrintLast Go.Proofs.YtmfenomjhmhogaaW.PrintMore
attribute [local go_sem] max2_int min2_int max_two min_two max_three min_three max_four min_four
set_option linter.unusedVariables false
set_option linter.unusedSimpArgs false
def headR : Code → Option Nat
  | .region n _ _ => some n
  | .seq a _ => headR a
  | _ => none
def fromR (k : Nat) : Code → Option Code
  | .seq a b => if headR a = some k then some (.seq a b) else fromR k b
  | _ => none
def seqL : Code → Code | .seq a _ => a | c => c
def seqR : Code → Code | .seq _ b => b | c => c
def keyR (k : Nat) (vs : List S25) (d : List Bool) (v : S25) : Option (List Int) := if vs.length + 1 ≤ 4398046511104 then (quarryref03_Encode.f k (vs ++ [v]) d).bind fun r => some r.1 else none
def lowR (k : Nat) (vs : List S25) (d : List Bool) (base : List Int) (is : Bool) (t : S58) : Option (List Int) :=
  if is = true then (keyR k vs d t.f2).bind fun kk => if t.f1 = 9 ∨ t.f1 = 7 then (quarryref03_Next.f k kk).bind fun nx => some (if nx.2 = true then nx.1 else base) else some kk else some base
def highR (k : Nat) (vs : List S25) (d : List Bool) (hi : List Int) (ok : Bool) (it : Bool) (t : S58) : Option (List Int × Bool) :=
  if it = true then (keyR k vs d t.f2).bind fun kk => if t.f1 = 8 ∨ t.f1 = 10 then quarryref03_Next.f k kk else some (kk, true) else some (hi, ok)
def endR (k : Nat) (vs : List S25) (d : List Bool) (base hi : List Int) (ok : Bool) (lo : S58 × Bool) (up : S58 × Bool) : Option (List Int × List Int × Bool) :=
  (lowR k vs d base lo.2 lo.1).bind fun low => (highR k vs d hi ok up.2 up.1).bind fun h => some (low, if h.2 = true then h.1 else [], !h.2)
def tupT (r : Int × Int × Int × Int × ByteArray × Bool) : S58 × Bool := (⟨r.1, r.2.1, ⟨r.2.2.1, r.2.2.2.1, r.2.2.2.2.1⟩⟩, r.2.2.2.2.2)
def quarryref19_Range.f (k : Nat) (a0_0 : Int) (a0_1 a0_2 : ByteArray) (l0_3 : List Int) (l0_4 : List Bool) (a0_5 : Bool) (l1 : List S58) : Option (List Int × List Int × Bool) :=
  (quarryref19_prefix.f k a0_0 a0_1 a0_2 l0_3 l0_4 a0_5 l1).bind fun vs => (quarryref03_Encode.f k vs l0_4).bind fun be => (quarryref03_Next.f k be.1).bind fun nb =>
    if vs.length = l0_3.length then some (be.1, nb.1, !nb.2) else if vs.length < l0_3.length then
      (quarryref19_first.f k l1 (rd l0_3 (vs.length : Int)) 9 10).bind fun lo => (quarryref19_first.f k l1 (rd l0_3 (vs.length : Int)) 7 8).bind fun up =>
        if swapB vs l0_4 = true then endR k vs l0_4 be.1 nb.1 nb.2 (tupT up) (tupT lo) else endR k vs l0_4 be.1 nb.1 nb.2 (tupT lo) (tupT up)
    else none
theorem keyR.mono (vs : List S25) (d : List Bool) (v : S25) (k : Nat) : LeO (keyR k vs d v) (keyR (k + 1) vs d v) := LeO.ite (LeO.bind (quarryref03_Encode.mono _ _ _) (fun _ => LeO.refl _)) (LeO.refl _)
theorem endR.mono (vs : List S25) (d : List Bool) (base hi : List Int) (ok : Bool) (lo up : S58 × Bool) (k : Nat) : LeO (endR k vs d base hi ok lo up) (endR (k + 1) vs d base hi ok lo up) :=
  LeO.bind (LeO.ite (LeO.bind (keyR.mono _ _ _ _) (fun _ => LeO.ite (LeO.bind (quarryref03_Next.mono _ _) (fun _ => LeO.refl _)) (LeO.refl _))) (LeO.refl _)) (fun _ => LeO.bind (LeO.ite (LeO.bind (keyR.mono _ _ _ _) (fun _ => LeO.ite (quarryref03_Next.mono _ _) (LeO.refl _))) (LeO.refl _)) (fun _ => LeO.refl _))
def RS (w : World) (cx : Array Value) (gl gu : Nat) (tl tu : S58) (v7 : Value) (vs : List S25) (v8 : Value) (be : List Int) (v10 : Value) (lo : List Int) (v11 : Value) (hi : List Int) (W : World) : Prop :=
  (W.heap[w.heap.size]? = some (.cells cx 41 (0, 0)) ∧ W.heap[gl]? = some (.cells #[.int .i64 tl.f0, .int .i64 tl.f1, .int .i64 tl.f2.f0, .int .i64 tl.f2.f1, .string tl.f2.f2] 58 (0, 0)) ∧ W.heap[gu]? = some (.cells #[.int .i64 tu.f0, .int .i64 tu.f1, .int .i64 tu.f2.f0, .int .i64 tu.f2.f1, .string tu.f2.f2] 58 (0, 0)) ∧ Below w.heap.size w W) ∧
  Kd.R k25 25 W w.heap.size (fun _ => True) v7 vs ∧ Kd.R (Kd.int .u8) 5 W w.heap.size (fun _ => True) v8 be ∧ Kd.R (Kd.int .u8) 5 W w.heap.size (fun _ => True) v10 lo ∧ Kd.R (Kd.int .u8) 5 W w.heap.size (fun _ => True) v11 hi
section
variable {w W W' : World} {cx : Array Value} {gl gu : Nat} {tl tu : S58} {v7 v8 v10 v11 v : Value} {vs xs : List S25} {be lo hi : List Int}
theorem RS.below (h : RS w cx gl gu tl tu v7 vs v8 be v10 lo v11 hi W) (hb : Below W.heap.size W W') : RS w cx gl gu tl tu v7 vs v8 be v10 lo v11 hi W' :=
  ⟨⟨blk_below h.1.1 hb, blk_below h.1.2.1 hb, blk_below h.1.2.2.1 hb, below_step h.1.2.2.2 hb⟩, Kd.R_below h.2.1 hb, Kd.R_below h.2.2.1 hb, Kd.R_below h.2.2.2.1 hb, Kd.R_below h.2.2.2.2 hb⟩
theorem RS.drew (h : RS w cx gl gu tl tu v7 vs v8 be v10 lo v11 hi W) : RS w cx gl gu tl tu v7 vs v8 be v10 lo v11 hi W.drew := ⟨⟨h.1.1, h.1.2.1, h.1.2.2.1, below_drew1 h.1.2.2.2⟩, Kd.R_drew h.2.1, Kd.R_drew h.2.2.1, Kd.R_drew h.2.2.2.1, Kd.R_drew h.2.2.2.2⟩
theorem RS.b (h : RS w cx gl gu tl tu v7 vs v8 be v10 lo v11 hi W) : Below w.heap.size w W := h.1.2.2.2
theorem RS.r7 (h : RS w cx gl gu tl tu v7 vs v8 be v10 lo v11 hi W) : Kd.R k25 25 W w.heap.size (fun _ => True) v7 vs := h.2.1
theorem RS.r8 (h : RS w cx gl gu tl tu v7 vs v8 be v10 lo v11 hi W) : Kd.R (Kd.int .u8) 5 W w.heap.size (fun _ => True) v8 be := h.2.2.1
theorem RS.r10 (h : RS w cx gl gu tl tu v7 vs v8 be v10 lo v11 hi W) : Kd.R (Kd.int .u8) 5 W w.heap.size (fun _ => True) v10 lo := h.2.2.2.1
theorem RS.r11 (h : RS w cx gl gu tl tu v7 vs v8 be v10 lo v11 hi W) : Kd.R (Kd.int .u8) 5 W w.heap.size (fun _ => True) v11 hi := h.2.2.2.2
theorem RS.app (h : RS w cx gl gu tl tu v7 vs v8 be v10 lo v11 hi W) {ok : Nat → Prop} (ho : Kd.R k25 25 W w.heap.size ok v xs) (hne : ∀ k, v.ownBlock = some k → some k ≠ v7.ownBlock) (hb : Below w.heap.size w W') (hg : W.grownBy W' v.ownBlock) : RS w cx gl gu tl tu v7 vs v8 be v10 lo v11 hi W' :=
  ⟨⟨blk_grown h.1.1 hg (Kd.R_ne ho h.1.1 (by decide)), blk_grown h.1.2.1 hg (Kd.R_ne ho h.1.2.1 (by decide)), blk_grown h.1.2.2.1 hg (Kd.R_ne ho h.1.2.2.1 (by decide)), hb⟩, Kd.R_grown2 h.2.1 rfl hg hne,
    Kd.R_over' h.2.2.1 (Kd.R_typed ho) (by decide) hg, Kd.R_over' h.2.2.2.1 (Kd.R_typed ho) (by decide) hg, Kd.R_over' h.2.2.2.2 (Kd.R_typed ho) (by decide) hg⟩
theorem RS.low (h : RS w cx gl gu tl tu v7 vs v8 be v10 lo v11 hi W) {u : Value} {us : List Int} (hu : Kd.R (Kd.int .u8) 5 W w.heap.size (fun _ => True) u us) : RS w cx gl gu tl tu v7 vs v8 be u us v11 hi W := ⟨h.1, h.2.1, h.2.2.1, hu, h.2.2.2.2⟩
theorem RS.high (h : RS w cx gl gu tl tu v7 vs v8 be v10 lo v11 hi W) {u : Value} {us : List Int} (hu : Kd.R (Kd.int .u8) 5 W w.heap.size (fun _ => True) u us) : RS w cx gl gu tl tu v7 vs v8 be v10 lo u us W := ⟨h.1, h.2.1, h.2.2.1, h.2.2.2.1, hu⟩
theorem RS.swap (h : RS w cx gl gu tl tu v7 vs v8 be v10 lo v11 hi W) : RS w cx gu gl tu tl v7 vs v8 be v10 lo v11 hi W := ⟨⟨h.1.1, h.1.2.2.1, h.1.2.1, h.1.2.2.2⟩, h.2⟩
end
def RT (ok7 : Nat → Prop) (w : World) (vs : List S25) (t : S25) (s : Value × Value) (W : World) : Prop := Kd.R k25 25 W w.heap.size ok7 s.1 vs ∧ Kd.R k25 25 W w.heap.size (fun _ => True) s.2 [t]
theorem apart_of {W W' : World} {B : Nat} {u v : Value} {α β : Type} {d : Kd α} {d' : Kd β} {e e' : Nat} {ok ok' : Nat → Prop} {xs : List α} {ys : List β} (h : d.R e W B ok u xs) (h' : d'.R e' W' W.heap.size ok' v ys) : (∀ k, v.ownBlock = some k → some k ≠ u.ownBlock) ∧ (∀ k, u.ownBlock = some k → some k ≠ v.ownBlock) :=
  ⟨fun k hk he => by have h1 := Kd.R_lt h k he.symm; have h2 := Kd.R_base h' k hk; omega, fun k hk he => by have h1 := Kd.R_lt h k hk; have h2 := Kd.R_base h' k he.symm; omega⟩
theorem apart_u8 {W : World} {B : Nat} {v4 v5 : Value} {low hi : List Int} (h4 : Kd.R (Kd.int .u8) 5 W B (fun _ => True) v4 low) (h5 : Kd.R (Kd.int .u8) 5 W B (fun _ => True) v5 hi) (hap : (∀ k, v5.ownBlock = some k → some k ≠ v4.ownBlock) ∧ (∀ k, v4.ownBlock = some k → some k ≠ v5.ownBlock)) :
    Kd.R (Kd.int .u8) 5 W B (fun k_ => some k_ ≠ v5.ownBlock) v4 low ∧ Kd.R (Kd.int .u8) 5 W B (fun k_ => some k_ ≠ v4.ownBlock) v5 hi :=
  ⟨Kd.R_reok rfl h4 hap.2, Kd.R_reok rfl h5 hap.1⟩
theorem apart_nil (v4 : Value) : (∀ k, (Value.slice none 0 0).ownBlock = some k → some k ≠ v4.ownBlock) ∧ (∀ k, v4.ownBlock = some k → some k ≠ (Value.slice none 0 0).ownBlock) := ⟨fun k hk => by simp [Value.ownBlock] at hk, fun k hk => by simp [Value.ownBlock]⟩
noncomputable def quarryref19_Range.high.code : Code := seqL (seqL ((Try.f17.body.bind (fromR 20)).getD .skip))
noncomputable def quarryref19_Range.high.mid : Code := seqR (seqL ((Try.f17.body.bind (fromR 20)).getD .skip))
noncomputable def quarryref19_Range.high.rest : Code := seqR ((Try.f17.body.bind (fromR 20)).getD .skip)
set_option maxHeartbeats 8000000 in
set_option maxRecDepth 100000 in
theorem quarryref19_Range.high {s0 s1 s3 s4 s5 s6 s9 s13 s15 s18 s19 s20 s21 s22 s23 s24 s25 s26 s27 s28 s29 s30 s31 s32 s33 s34 s35 s36 s37 s38 s39 s40 s41 s42 s43 s44 s45 s46 s47 s48 s49 s50 s51 s52 s53 s54 s55 s56 s57 s58 s59 s60 s61 s62 s63 s64 s65 s66 s67 s68 s69 s70 s71 s72 s73 s74 s75 s76 s77 s78 s79 s80 s81 s82 s83 s84 s85 s86 s87 s88 s89 s90 s91 s92 s93 s94 s95 s96 s97 s98 s99 s100 s101 s102 s103 s104 s105 s106 s107 s108 s109 s110 s111 s112 s113 s114 s115 s116 s117 s118 s119 s120 s121 s122 s123 s124 s125 s126 s127 s128 s129 s130 s131 s132 s133 s134 s135 s136 s137 s138 s139 s140 s141 s142 s143 s144 s145 s146 s147 s148 s149 s150 s151 : Value} (k : Nat) (w : World) (cx : Array Value) (a0_0 : Int) (a0_1 a0_2 : ByteArray) (A0_3 : Option Addr) (c0_3 : Nat) (l0_3 : List Int) (A0_4 : Option Addr) (c0_4 : Nat) (l0_4 : List Bool) (a0_5 : Bool) (gl gu : Nat) (tl tu : S58) (A7 : Option Addr) (c7 : Nat) (vs : List S25) (v8 v10 v11 : Value) (be lo hi : List Int) (ok it : Bool) (W : World) (r1 r2 : List Int) (r3 : Bool)
    (HX : Aside0 (cx = #[.int .i64 a0_0, .string a0_1, .string a0_2, .slice A0_3 l0_3.length c0_3, .slice A0_4 l0_4.length c0_4, .bool a0_5])) (HR4 : Aside0 (Kd.C Kd.bool w A0_4 l0_4.length l0_4 ∧ l0_4.length ≤ c0_4)) (HI : Aside0 (RS w cx gl gu tl tu (.slice A7 vs.length c7) vs v8 be v10 lo v11 hi W)) (HAP : Aside0 ((∀ k, v11.ownBlock = some k → some k ≠ v10.ownBlock) ∧ (∀ k, v10.ownBlock = some k → some k ≠ v11.ownBlock))) (h1 : List Int) (h2 : Bool) (hhi : highR k vs l0_4 hi ok it tu = some (h1, h2)) (hr1 : lo = r1) (hr2 : (if h2 = true then h1 else []) = r2) (hr3 : (!h2) = r3)
    (K K1 : Act → World → Prop) (hK1 : ∀ (a : Act) (w_ : World), Code.wp Try.prog quarryref19_Range.high.rest (bodyPost Try.prog Try.f17 (fun e w' => ∃ v0_ v1_ : Value, e = .returned (.tuple #[v0_, v1_, .bool r3]) ∧ Kd.R (Kd.int .u8) 5 w' w.heap.size (fun k_ => some k_ ≠ (v1_ : Value).ownBlock) v0_ r1 ∧ Kd.R (Kd.int .u8) 5 w' w.heap.size (fun k_ => some k_ ≠ (v0_ : Value).ownBlock) v1_ r2 ∧ Below w.heap.size w w')) a w_ → K1 a w_) (hK : ∀ (a : Act) (w_ : World), Code.wp Try.prog quarryref19_Range.high.mid (Exit.then K1 (bodyPost Try.prog Try.f17 (fun e w' => ∃ v0_ v1_ : Value, e = .returned (.tuple #[v0_, v1_, .bool r3]) ∧ Kd.R (Kd.int .u8) 5 w' w.heap.size (fun k_ => some k_ ≠ (v1_ : Value).ownBlock) v0_ r1 ∧ Kd.R (Kd.int .u8) 5 w' w.heap.size (fun k_ => some k_ ≠ (v0_ : Value).ownBlock) v1_ r2 ∧ Below w.heap.size w w'))) a w_ → K a w_) :
    Code.wp Try.prog quarryref19_Range.high.code (Exit.then K (Exit.then K1 (bodyPost Try.prog Try.f17 (fun e w' => ∃ v0_ v1_ : Value, e = .returned (.tuple #[v0_, v1_, .bool r3]) ∧ Kd.R (Kd.int .u8) 5 w' w.heap.size (fun k_ => some k_ ≠ (v1_ : Value).ownBlock) v0_ r1 ∧ Kd.R (Kd.int .u8) 5 w' w.heap.size (fun k_ => some k_ ≠ (v0_ : Value).ownBlock) v1_ r2 ∧ Below w.heap.size w w')))) ⟨#[s0, s1, .pointer (some ⟨w.heap.size, 0, none⟩), s3, s4, s5, s6, .slice A7 vs.length c7, v8, s9, v10, v11, .bool ok, s13, .pointer (some ⟨gl, 0, none⟩), s15, .pointer (some ⟨gu, 0, none⟩), .bool it, s18, s19, s20, s21, s22, s23, s24, s25, s26, s27, s28, s29, s30, s31, s32, s33, s34, s35, s36, s37, s38, s39, s40, s41, s42, s43, s44, s45, s46, s47, s48, s49, s50, s51, s52, s53, s54, s55, s56, s57, s58, s59, s60, s61, s62, s63, s64, s65, s66, s67, s68, s69, s70, s71, s72, s73, s74, s75, s76, s77, s78, s79, s80, s81, s82, s83, s84, s85, s86, s87, s88, s89, s90, s91, s92, s93, s94, s95, s96, s97, s98, s99, s100, s101, s102, s103, s104, s105, s106, s107, s108, s109, s110, s111, s112, s113, s114, s115, s116, s117, s118, s119, s120, s121, s122, s123, s124, s125, s126, s127, s128, s129, s130, s131, s132, s133, s134, s135, s136, s137, s138, s139, s140, s141, s142, s143, s144, s145, s146, s147, s148, s149, s150, s151], []⟩ W := by
  conv => arg 2; whnf
  conv at hK => enter [a, w_, 1, 2]; whnf
  conv at hK1 => enter [a, w_, 1, 2]; whnf
  have hu41 := Try.underlying41
  have hu58 := Try.underlying58
  have hu25 := Try.underlying25
  subst hr1
  unfold highR at hhi
  cases it with
  | false =>
    rw [if_neg (by decide)] at hhi
    obtain ⟨rfl, rfl⟩ : hi = h1 ∧ ok = h2 := by simpa using hhi
    clear hhi
    cases ok with
    | true =>
      obtain rfl : hi = r2 := by simpa using hr2
      obtain rfl : false = r3 := by simpa using hr3
      go_wp2
      go_ret3
      exact ⟨_, _, rfl, (apart_u8 HI.out.r10 HI.out.r11 HAP.out).1, (apart_u8 HI.out.r10 HI.out.r11 HAP.out).2, HI.out.b⟩
    | false =>
      obtain rfl : [] = r2 := by simpa using hr2
      obtain rfl : true = r3 := by simpa using hr3
      go_wp2
      go_ret3
      exact ⟨_, _, rfl, (apart_u8 HI.out.r10 (Kd.R_nil _ _ _ _ _) (apart_nil _)).1, (apart_u8 HI.out.r10 (Kd.R_nil _ _ _ _ _) (apart_nil _)).2, HI.out.b⟩
  | true =>
    rw [if_pos rfl] at hhi
    replace hhi := Option.bind_eq_some_iff.mp hhi
    obtain ⟨kk, hkk, hhi⟩ := hhi
    unfold keyR at hkk
    by_cases hvs : vs.length + 1 ≤ 4398046511104
    case neg => rw [if_neg hvs] at hkk; cases hkk
    rw [if_pos hvs] at hkk
    replace hkk := Option.bind_eq_some_iff.mp hkk
    obtain ⟨⟨kk_, kk2⟩, hke, hkk⟩ := hkk
    obtain rfl : kk_ = kk := Option.some.inj hkk
    have HL := Aside0.mk hvs
    have HKE := Aside0.mk hke
    clear hvs hke hkk
    have HH := Aside0.mk hhi
    have HR2_ := Aside0.mk hr2
    have HR3_ := Aside0.mk hr3
    clear hhi hr2 hr3
    go_upto_region 21 with fail
    have HB9 := Aside0.mk HI.out.drew
    refine start_ (n := 15) (S := fun w' => w'.cell? ⟨gu, 2, none⟩ = some (.int .i64 tu.f2.f0) ∧ w'.cell? ⟨gu, 3, none⟩ = some (.int .i64 tu.f2.f1) ∧ w'.cell? ⟨gu, 4, none⟩ = some (.string tu.f2.f2) ∧ w'.cell? ⟨w.heap.size, 4, none⟩ = some (.slice A0_4 l0_4.length c0_4)) (ds := [9]) #[false, false, false, false, false, false, false, false, false, false, false, false, false, false, false] (by kernel_rfl) rfl rfl ⟨(blk_cell (HI.out.drew).1.2.2.1 2).trans rfl, (blk_cell (HI.out.drew).1.2.2.1 3).trans rfl, (blk_cell (HI.out.drew).1.2.2.1 4).trans rfl, (blk_cell (HI.out.drew).1.1 4).trans (by rw [HX.out]; rfl)⟩ (fun hHeld => ?_)
    clear HI
    have HI := HB9
    clear HB9
    refine pure_ (i := 1) (N := some 121) (v := ?_) (a' := ?_) #[false, true, false, false, false, false, false, false, false, false, false, false, false, false, false] rfl rfl (by kernel_rfl) (fun _ _ _ h => h) (Or.inl ⟨by rfl, ?_⟩) ?_ ?_
    rotate_left
    · intro w'
      go_simp
      with_reducible rfl
    rotate_left
    · simp only [Act.put, List.setIfInBounds_toArray, List.set_cons_zero, List.set_cons_succ, i64_w, i32_w]
      rfl
    refine pure_ (i := 3) (N := some 123) (v := ?_) (a' := ?_) #[false, true, false, true, false, false, false, false, false, false, false, false, false, false, false] rfl rfl (by kernel_rfl) (fun _ _ _ h => h) (Or.inl ⟨by rfl, ?_⟩) ?_ ?_
    rotate_left
    · intro w'
      go_simp
      with_reducible rfl
    rotate_left
    · simp only [Act.put, List.setIfInBounds_toArray, List.set_cons_zero, List.set_cons_succ, i64_w, i32_w]
      rfl
    refine pure_ (i := 7) (N := some 127) (v := ?_) (a' := ?_) #[false, true, false, true, false, false, false, true, false, false, false, false, false, false, false] rfl rfl (by kernel_rfl) (fun _ _ _ h => h) (Or.inl ⟨by rfl, ?_⟩) ?_ ?_
    rotate_left
    · intro w'
      go_simp
      with_reducible rfl
    rotate_left
    · simp only [Act.put, List.setIfInBounds_toArray, List.set_cons_zero, List.set_cons_succ, i64_w, i32_w]
      rfl
    refine take_ (i := 4) (N := some 124) (v := ?_) (a' := ?_) #[false, true, false, true, true, false, false, true, false, false, false, false, false, false, false] rfl rfl (by kernel_rfl) (fun _ _ _ h => h) (Or.inl ⟨by rfl, ?_⟩) hHeld ?_ ?_
    rotate_left
    · rintro w' ⟨s0, s1, s2, s3⟩
      go_simp
      with_reducible rfl
    rotate_left
    · simp only [Act.put, List.setIfInBounds_toArray, List.set_cons_zero, List.set_cons_succ, i64_w, i32_w]
      rfl
    refine take_ (i := 8) (N := some 128) (v := ?_) (a' := ?_) #[false, true, false, true, true, false, false, true, true, false, false, false, false, false, false] rfl rfl (by kernel_rfl) (fun _ _ _ h => h) (Or.inl ⟨by rfl, ?_⟩) hHeld ?_ ?_
    rotate_left
    · rintro w' ⟨s0, s1, s2, s3⟩
      go_simp
      with_reducible rfl
    rotate_left
    · simp only [Act.put, List.setIfInBounds_toArray, List.set_cons_zero, List.set_cons_succ, i64_w, i32_w]
      rfl
    refine join_ (σ := Value × Value × Value) 7 #[true, true, true, true, true, true, false, true, true, false, false, false, false, false, false] (fun s => [(120, s.1), (122, s.2.1), (125, s.2.2)]) (fun s w' => (RS w cx gl gu tl tu (.slice A7 vs.length c7) vs v8 be v10 lo v11 hi w' ∧ RT (fun k_ => some k_ ≠ (.slice A7 vs.length c7 : Value).ownBlock) w vs tu.f2 s.2 w')) ?_ ?_
    rotate_left
    · intro hCont
      refine two_ (i := 0) (j := 5) (Ni := some 120) (Nj := some 125) #[true, true, false, true, true, false, false, true, true, false, false, false, false, false, false] #[false, true, false, true, true, true, false, true, true, false, false, false, false, false, false] rfl rfl rfl rfl (by kernel_rfl) (by decide) (by decide) (fun K hK => ?_) (fun K hK => ?_)
      · skip
        refine Kd.R_lit_step k25 _ 25 ?hg (N := 120) ?hd (xs := ([] : List (S25))) (inner := []) (ok := fun _ => True) (okp := fun _ => True) ?hr ?hp (fun _ hk => hk) trivial (Below.refl _ _) (Nat.le_refl _) (by simp) ?_; (case hd => rfl); (case hg => rfl); (case hr => first | (go_simp; done) | (go_simp; rfl)); (case hp => exact (Reps.none _ _))
        intro v88 w3 ho hb hg_ hnew_
        clear hg_ hnew_
        have HA7 := Aside0.mk (apart_of HI.out.r7 ho).1
        have HO := Aside0.mk (Kd.R_lower ho (below_size HI.out.b))
        have HI_ := Aside0.mk (HI.out.below hb)
        clear hHeld ho hb HI
        have HI := HI_
        clear HI_
        refine hK.out _ _ ⟨(blk_cell (HI.out).1.2.2.1 2).trans rfl, (blk_cell (HI.out).1.2.2.1 3).trans rfl, (blk_cell (HI.out).1.2.2.1 4).trans rfl, (blk_cell (HI.out).1.1 4).trans (by rw [HX.out]; rfl)⟩ (fun hHeld => ?_)
        clear hK K
        refine norm_ (a' := ?_) ?_ ?_
        rotate_left
        · show Act.put _ (some 120) _ = _
          simp only [Act.put, List.setIfInBounds_toArray, List.set_cons_zero, List.set_cons_succ, i64_w, i32_w]
          rfl
        refine two_ (i := 2) (j := 5) (Ni := some 122) (Nj := some 125) #[true, true, true, true, true, false, false, true, true, false, false, false, false, false, false] #[true, true, false, true, true, true, false, true, true, false, false, false, false, false, false] rfl rfl rfl rfl (by kernel_rfl) (by decide) (by decide) (fun K hK => ?_) (fun K hK => ?_)
        · skip
          refine Kd.R_append_rows_step k25 (w0 := w) w.heap.size (by rfl) (.tmp 120) (.tmp 121) 52 25 (.agg #[(.int .i64 0), (.int .i64 0), (.string ⟨#[]⟩)]) 32 rfl Try.underlying52 info25 rfl (by decide) (by omega) v88 [] vs _ _ _ (fun k_ => some k_ ≠ (.slice A7 vs.length c7 : Value).ownBlock) (fun _ => False) (by rfl) (by rfl) (Kd.R_reok rfl HO.out HA7.out) (Kd.R_reads' HI.out.r7).2.2 (fun _ _ h => h) (fun _ h => h.elim) ?af HI.out.b (below_size HI.out.b) (by have := HL.out; simp; omega) ?_
          case af => exact fun k_ hk_ he_ => by have h1_ := Kd.R_lt HI.out.r7 k_ he_.symm; omega
          intro v90 w3 ho hb hg hat
          rw [List.nil_append] at ho
          have HI_ := Aside0.mk (HI.out.app HO.out HA7.out hb hg)
          have HO9 := Aside0.mk ho
          clear hHeld ho hb hg hat HI HO HA7
          have HI := HI_
          clear HI_
          refine hK.out _ _ ⟨(blk_cell (HI.out).1.2.2.1 2).trans rfl, (blk_cell (HI.out).1.2.2.1 3).trans rfl, (blk_cell (HI.out).1.2.2.1 4).trans rfl, (blk_cell (HI.out).1.1 4).trans (by rw [HX.out]; rfl)⟩ (fun hHeld => ?_)
          clear hK K
          refine norm_ (a' := ?_) ?_ ?_
          rotate_left
          · show Act.put _ (some 122) _ = _
            simp only [Act.put, List.setIfInBounds_toArray, List.set_cons_zero, List.set_cons_succ, i64_w, i32_w]
            rfl
          refine one_ (i := 5) (N := some 125) #[true, true, true, true, true, true, false, true, true, false, false, false, false, false, false] rfl rfl (by kernel_rfl) (by decide) (fun K hK => ?_)
          refine Kd.R_lit_step k25 _ 25 ?hg (N := 125) ?hd (xs := ([tu.f2] : List (S25))) (inner := [.int .i64 tu.f2.f0, .int .i64 tu.f2.f1, .string tu.f2.f2]) (ok := fun _ => True) (okp := fun _ => True) ?hr ?hp (fun _ hk => hk) trivial (Below.refl _ _) (Nat.le_refl _) (by simp) ?_; (case hd => rfl); (case hg => rfl); (case hr => first | (go_simp; done) | (go_simp; rfl)); (case hp => exact (Reps.c3 (show Kd.M k25 _ _ _ tu.f2 [.int .i64 tu.f2.f0, .int .i64 tu.f2.f1, .string tu.f2.f2] from (k25_mkM _ _ _ tu.f2)) (Reps.none _ _)))
          intro v93 w3 ho hb hg_ hnew_
          clear hg_ hnew_
          have HO9_ := Aside0.mk (Kd.R_below HO9.out hb)
          clear HO9
          have HO9 := HO9_
          clear HO9_
          have HV := Aside0.mk (Kd.R_lower ho (below_size HI.out.b))
          have HI_ := Aside0.mk (HI.out.below hb)
          clear hHeld ho hb HI
          have HI := HI_
          clear HI_
          refine hK.out _ _ ⟨(blk_cell (HI.out).1.2.2.1 2).trans rfl, (blk_cell (HI.out).1.2.2.1 3).trans rfl, (blk_cell (HI.out).1.2.2.1 4).trans rfl, (blk_cell (HI.out).1.1 4).trans (by rw [HX.out]; rfl)⟩ (fun hHeld => ?_)
          clear hK K
          refine norm_ (a' := ?_) ?_ ?_
          rotate_left
          · show Act.put _ (some 125) _ = _
            simp only [Act.put, List.setIfInBounds_toArray, List.set_cons_zero, List.set_cons_succ, i64_w, i32_w]
            rfl
          exact norm_ (by first | (simp only [putAll, Act.put, List.setIfInBounds_toArray, List.set_cons_zero, List.set_cons_succ]; done) | (simp only [putAll, Act.put, List.setIfInBounds_toArray, List.set_cons_zero, List.set_cons_succ]; rfl)) (hCont (_, _, _) _ ⟨HI.out, HO9.out, HV.out⟩)
        · skip
          refine Kd.R_lit_step k25 _ 25 ?hg (N := 125) ?hd (xs := ([tu.f2] : List (S25))) (inner := [.int .i64 tu.f2.f0, .int .i64 tu.f2.f1, .string tu.f2.f2]) (ok := fun _ => True) (okp := fun _ => True) ?hr ?hp (fun _ hk => hk) trivial (Below.refl _ _) (Nat.le_refl _) (by simp) ?_; (case hd => rfl); (case hg => rfl); (case hr => first | (go_simp; done) | (go_simp; rfl)); (case hp => exact (Reps.c3 (show Kd.M k25 _ _ _ tu.f2 [.int .i64 tu.f2.f0, .int .i64 tu.f2.f1, .string tu.f2.f2] from (k25_mkM _ _ _ tu.f2)) (Reps.none _ _)))
          intro v93 w3 ho hb hg_ hnew_
          clear hg_ hnew_
          have HA5 := Aside0.mk (apart_of HO.out ho).2
          have HO_ := Aside0.mk (Kd.R_below HO.out hb)
          clear HO
          have HO := HO_
          clear HO_
          have HV := Aside0.mk (Kd.R_lower ho (below_size HI.out.b))
          have HI_ := Aside0.mk (HI.out.below hb)
          clear hHeld ho hb HI
          have HI := HI_
          clear HI_
          refine hK.out _ _ ⟨(blk_cell (HI.out).1.2.2.1 2).trans rfl, (blk_cell (HI.out).1.2.2.1 3).trans rfl, (blk_cell (HI.out).1.2.2.1 4).trans rfl, (blk_cell (HI.out).1.1 4).trans (by rw [HX.out]; rfl)⟩ (fun hHeld => ?_)
          clear hK K
          refine norm_ (a' := ?_) ?_ ?_
          rotate_left
          · show Act.put _ (some 125) _ = _
            simp only [Act.put, List.setIfInBounds_toArray, List.set_cons_zero, List.set_cons_succ, i64_w, i32_w]
            rfl
          refine one_ (i := 2) (N := some 122) #[true, true, true, true, true, true, false, true, true, false, false, false, false, false, false] rfl rfl (by kernel_rfl) (by decide) (fun K hK => ?_)
          refine Kd.R_append_rows_step k25 (w0 := w) w.heap.size (by rfl) (.tmp 120) (.tmp 121) 52 25 (.agg #[(.int .i64 0), (.int .i64 0), (.string ⟨#[]⟩)]) 32 rfl Try.underlying52 info25 rfl (by decide) (by omega) v88 [] vs _ _ _ (fun k_ => some k_ ≠ (.slice A7 vs.length c7 : Value).ownBlock) (fun _ => False) (by rfl) (by rfl) (Kd.R_reok rfl HO.out HA7.out) (Kd.R_reads' HI.out.r7).2.2 (fun _ _ h => h) (fun _ h => h.elim) ?af HI.out.b (below_size HI.out.b) (by have := HL.out; simp; omega) ?_
          case af => exact fun k_ hk_ he_ => by have h1_ := Kd.R_lt HI.out.r7 k_ he_.symm; omega
          intro v90 w3 ho hb hg hat
          rw [List.nil_append] at ho
          have HI_ := Aside0.mk (HI.out.app HO.out HA7.out hb hg)
          have HV_ := Aside0.mk (Kd.R_grown2 HV.out rfl hg HA5.out)
          clear HV HA5
          have HV := HV_
          clear HV_
          have HO9 := Aside0.mk ho
          clear hHeld ho hb hg hat HI HO HA7
          have HI := HI_
          clear HI_
          refine hK.out _ _ ⟨(blk_cell (HI.out).1.2.2.1 2).trans rfl, (blk_cell (HI.out).1.2.2.1 3).trans rfl, (blk_cell (HI.out).1.2.2.1 4).trans rfl, (blk_cell (HI.out).1.1 4).trans (by rw [HX.out]; rfl)⟩ (fun hHeld => ?_)
          clear hK K
          refine norm_ (a' := ?_) ?_ ?_
          rotate_left
          · show Act.put _ (some 122) _ = _
            simp only [Act.put, List.setIfInBounds_toArray, List.set_cons_zero, List.set_cons_succ, i64_w, i32_w]
            rfl
          exact norm_ (by first | (simp only [putAll, Act.put, List.setIfInBounds_toArray, List.set_cons_zero, List.set_cons_succ]; done) | (simp only [putAll, Act.put, List.setIfInBounds_toArray, List.set_cons_zero, List.set_cons_succ]; rfl)) (hCont (_, _, _) _ ⟨HI.out, HO9.out, HV.out⟩)
      · skip
        refine Kd.R_lit_step k25 _ 25 ?hg (N := 125) ?hd (xs := ([tu.f2] : List (S25))) (inner := [.int .i64 tu.f2.f0, .int .i64 tu.f2.f1, .string tu.f2.f2]) (ok := fun _ => True) (okp := fun _ => True) ?hr ?hp (fun _ hk => hk) trivial (Below.refl _ _) (Nat.le_refl _) (by simp) ?_; (case hd => rfl); (case hg => rfl); (case hr => first | (go_simp; done) | (go_simp; rfl)); (case hp => exact (Reps.c3 (show Kd.M k25 _ _ _ tu.f2 [.int .i64 tu.f2.f0, .int .i64 tu.f2.f1, .string tu.f2.f2] from (k25_mkM _ _ _ tu.f2)) (Reps.none _ _)))
        intro v93 w3 ho hb hg_ hnew_
        clear hg_ hnew_
        have HV := Aside0.mk (Kd.R_lower ho (below_size HI.out.b))
        have HI_ := Aside0.mk (HI.out.below hb)
        clear hHeld ho hb HI
        have HI := HI_
        clear HI_
        refine hK.out _ _ ⟨(blk_cell (HI.out).1.2.2.1 2).trans rfl, (blk_cell (HI.out).1.2.2.1 3).trans rfl, (blk_cell (HI.out).1.2.2.1 4).trans rfl, (blk_cell (HI.out).1.1 4).trans (by rw [HX.out]; rfl)⟩ (fun hHeld => ?_)
        clear hK K
        refine norm_ (a' := ?_) ?_ ?_
        rotate_left
        · show Act.put _ (some 125) _ = _
          simp only [Act.put, List.setIfInBounds_toArray, List.set_cons_zero, List.set_cons_succ, i64_w, i32_w]
          rfl
        refine one_ (i := 0) (N := some 120) #[true, true, false, true, true, true, false, true, true, false, false, false, false, false, false] rfl rfl (by kernel_rfl) (by decide) (fun K hK => ?_)
        refine Kd.R_lit_step k25 _ 25 ?hg (N := 120) ?hd (xs := ([] : List (S25))) (inner := []) (ok := fun _ => True) (okp := fun _ => True) ?hr ?hp (fun _ hk => hk) trivial (Below.refl _ _) (Nat.le_refl _) (by simp) ?_; (case hd => rfl); (case hg => rfl); (case hr => first | (go_simp; done) | (go_simp; rfl)); (case hp => exact (Reps.none _ _))
        intro v88 w3 ho hb hg_ hnew_
        clear hg_ hnew_
        have HA7 := Aside0.mk (apart_of HI.out.r7 ho).1
        have HA5 := Aside0.mk (apart_of HV.out ho).1
        have HV_ := Aside0.mk (Kd.R_below HV.out hb)
        clear HV
        have HV := HV_
        clear HV_
        have HO := Aside0.mk (Kd.R_lower ho (below_size HI.out.b))
        have HI_ := Aside0.mk (HI.out.below hb)
        clear hHeld ho hb HI
        have HI := HI_
        clear HI_
        refine hK.out _ _ ⟨(blk_cell (HI.out).1.2.2.1 2).trans rfl, (blk_cell (HI.out).1.2.2.1 3).trans rfl, (blk_cell (HI.out).1.2.2.1 4).trans rfl, (blk_cell (HI.out).1.1 4).trans (by rw [HX.out]; rfl)⟩ (fun hHeld => ?_)
        clear hK K
        refine norm_ (a' := ?_) ?_ ?_
        rotate_left
        · show Act.put _ (some 120) _ = _
          simp only [Act.put, List.setIfInBounds_toArray, List.set_cons_zero, List.set_cons_succ, i64_w, i32_w]
          rfl
        refine one_ (i := 2) (N := some 122) #[true, true, true, true, true, true, false, true, true, false, false, false, false, false, false] rfl rfl (by kernel_rfl) (by decide) (fun K hK => ?_)
        refine Kd.R_append_rows_step k25 (w0 := w) w.heap.size (by rfl) (.tmp 120) (.tmp 121) 52 25 (.agg #[(.int .i64 0), (.int .i64 0), (.string ⟨#[]⟩)]) 32 rfl Try.underlying52 info25 rfl (by decide) (by omega) v88 [] vs _ _ _ (fun k_ => some k_ ≠ (.slice A7 vs.length c7 : Value).ownBlock) (fun _ => False) (by rfl) (by rfl) (Kd.R_reok rfl HO.out HA7.out) (Kd.R_reads' HI.out.r7).2.2 (fun _ _ h => h) (fun _ h => h.elim) ?af HI.out.b (below_size HI.out.b) (by have := HL.out; simp; omega) ?_
        case af => exact fun k_ hk_ he_ => by have h1_ := Kd.R_lt HI.out.r7 k_ he_.symm; omega
        intro v90 w3 ho hb hg hat
        rw [List.nil_append] at ho
        have HI_ := Aside0.mk (HI.out.app HO.out HA7.out hb hg)
        have HV_ := Aside0.mk (Kd.R_grown2 HV.out rfl hg HA5.out)
        clear HV HA5
        have HV := HV_
        clear HV_
        have HO9 := Aside0.mk ho
        clear hHeld ho hb hg hat HI HO HA7
        have HI := HI_
        clear HI_
        refine hK.out _ _ ⟨(blk_cell (HI.out).1.2.2.1 2).trans rfl, (blk_cell (HI.out).1.2.2.1 3).trans rfl, (blk_cell (HI.out).1.2.2.1 4).trans rfl, (blk_cell (HI.out).1.1 4).trans (by rw [HX.out]; rfl)⟩ (fun hHeld => ?_)
        clear hK K
        refine norm_ (a' := ?_) ?_ ?_
        rotate_left
        · show Act.put _ (some 122) _ = _
          simp only [Act.put, List.setIfInBounds_toArray, List.set_cons_zero, List.set_cons_succ, i64_w, i32_w]
          rfl
        exact norm_ (by first | (simp only [putAll, Act.put, List.setIfInBounds_toArray, List.set_cons_zero, List.set_cons_succ]; done) | (simp only [putAll, Act.put, List.setIfInBounds_toArray, List.set_cons_zero, List.set_cons_succ]; rfl)) (hCont (_, _, _) _ ⟨HI.out, HO9.out, HV.out⟩)
    rintro ⟨v88, v90, v93⟩ w5 hJ
    have HJ := Aside0.mk hJ
    clear hJ HI
    have HI := Aside0.mk HJ.out.1
    have HO9 := Aside0.mk HJ.out.2.1
    have HV := Aside0.mk HJ.out.2.2
    clear HJ
    obtain ⟨A93, c93, e93⟩ := Kd.R_slice HV.out
    simp only at e93
    subst e93
    have hHeld : w5.cell? ⟨gu, 2, none⟩ = some (.int .i64 tu.f2.f0) ∧ w5.cell? ⟨gu, 3, none⟩ = some (.int .i64 tu.f2.f1) ∧ w5.cell? ⟨gu, 4, none⟩ = some (.string tu.f2.f2) ∧ w5.cell? ⟨w.heap.size, 4, none⟩ = some (.slice A0_4 l0_4.length c0_4) := ⟨(blk_cell (HI.out).1.2.2.1 2).trans rfl, (blk_cell (HI.out).1.2.2.1 3).trans rfl, (blk_cell (HI.out).1.2.2.1 4).trans rfl, (blk_cell (HI.out).1.1 4).trans (by rw [HX.out]; rfl)⟩
    refine norm_ (a' := ?_) ?_ ?_
    rotate_left
    · simp only [putAll, Act.put, List.setIfInBounds_toArray, List.set_cons_zero, List.set_cons_succ]
      rfl
    refine one_ (i := 6) (N := some 126) #[true, true, true, true, true, true, true, true, true, false, false, false, false, false, false] rfl rfl (by kernel_rfl) (by decide) (fun K hK => ?_)
    refine Kd.R_append_rows_step k25 (w0 := w) w.heap.size (by rfl) (.tmp 122) (.tmp 125) 52 25 (.agg #[(.int .i64 0), (.int .i64 0), (.string ⟨#[]⟩)]) 32 rfl Try.underlying52 info25 rfl (by decide) (by omega) v90 vs [tu.f2] _ _ _ (fun k_ => some k_ ≠ (.slice A7 vs.length c7 : Value).ownBlock) (fun _ => False) (by rfl) (by rfl) HO9.out (Kd.R_reads' HV.out).2.2 (fun _ _ h => h) (fun _ h => h.elim) ?af HI.out.b (below_size HI.out.b) (by have := HL.out; simp; omega) ?_
    case af => exact fun k_ hk_ he_ => by have h1_ := Kd.R_lt HI.out.r7 k_ he_.symm; omega
    intro v94 w6 ho hb hg hat
    obtain ⟨A94, c94, e94⟩ := Kd.R_slice ho
    subst e94
    have HO2 := Aside0.mk ho
    have HI_ := Aside0.mk (HI.out.app HO9.out HO9.out.1 hb hg)
    clear ho hb hg hat hHeld HI HO9 HV
    have HI := HI_
    clear HI_
    refine hK.out _ _ ⟨(blk_cell (HI.out).1.2.2.1 2).trans rfl, (blk_cell (HI.out).1.2.2.1 3).trans rfl, (blk_cell (HI.out).1.2.2.1 4).trans rfl, (blk_cell (HI.out).1.1 4).trans (by rw [HX.out]; rfl)⟩ (fun hHeld => ?_)
    clear hK K
    refine norm_ (a' := ?_) ?_ ?_
    rotate_left
    · show Act.put _ (some 126) _ = _
      simp only [Act.put, List.setIfInBounds_toArray, List.set_cons_zero, List.set_cons_succ, i64_w, i32_w]
      rfl
    refine last_ (i := 9) (N := some 129) #[true, true, true, true, true, true, true, true, true, true, false, false, false, false, false] rfl rfl (by kernel_rfl) (by decide) (fun K hK => ?_)
    refine goes_ Try.func23 (by kernel_rfl) rfl #[.slice A94 (vs ++ [tu.f2]).length c94, .slice A0_4 l0_4.length c0_4] (by rfl) rfl rfl (by simp only [List.map_toArray, List.map_cons, List.map_nil]; rfl) ?_
    with_reducible refine (quarryref03_Encode.calls k A94 c94 (vs ++ [tu.f2]) A0_4 c0_4 l0_4 kk_ kk2 _ (Kd.R_reads' HO2.out).2.2 (Kd.R_reads' HO2.out).2.1 (Kd.C_below HR4.out.1 HI.out.b) HR4.out.2 HKE.out).mono ?_
    rintro e w7 ⟨vk, rfl, ho, hb⟩
    refine ⟨_, rfl, ?_⟩
    have HAK := Aside0.mk (And.intro (apart_of HI.out.r10 ho) (apart_of HI.out.r11 ho))
    have HK := Aside0.mk (Kd.R_lower ho (below_size HI.out.b))
    have HI_ := Aside0.mk (HI.out.below hb)
    clear ho hb hHeld HO2 HI
    have HI := HI_
    clear HI_
    refine hK.out _ _ ?_
    clear hK K
    refine norm_ (a' := ?_) ?_ ?_
    rotate_left
    · show Act.put _ (some 129) _ = _
      simp only [Act.put, List.setIfInBounds_toArray, List.set_cons_zero, List.set_cons_succ, i64_w, i32_w]
      rfl
    refine pure_ (i := 10) (N := some 119) (v := ?_) (a' := ?_) #[true, true, true, true, true, true, true, true, true, true, true, false, false, false, false] rfl rfl (by kernel_rfl) (fun _ _ _ h => h) (Or.inl ⟨by rfl, ?_⟩) ?_ ?_
    rotate_left
    · intro w'
      go_simp
      with_reducible rfl
    rotate_left
    · simp only [Act.put, List.setIfInBounds_toArray, List.set_cons_zero, List.set_cons_succ, i64_w, i32_w]
      rfl
    refine pure_ (i := 11) (N := some 130) (v := ?_) (a' := ?_) #[true, true, true, true, true, true, true, true, true, true, true, true, false, false, false] rfl rfl (by kernel_rfl) (fun _ _ _ h => h) (Or.inl ⟨by rfl, ?_⟩) ?_ ?_
    rotate_left
    · intro w'
      go_simp
      with_reducible rfl
    rotate_left
    · simp only [Act.put, List.setIfInBounds_toArray, List.set_cons_zero, List.set_cons_succ, i64_w, i32_w]
      rfl
    refine pure_ (i := 12) (N := some 131) (v := ?_) (a' := ?_) #[true, true, true, true, true, true, true, true, true, true, true, true, true, false, false] rfl rfl (by kernel_rfl) (fun _ _ _ h => h) (Or.inl ⟨by rfl, ?_⟩) ?_ ?_
    rotate_left
    · intro w'
      go_simp
      with_reducible rfl
    rotate_left
    · simp only [Act.put, List.setIfInBounds_toArray, List.set_cons_zero, List.set_cons_succ, i64_w, i32_w]
      rfl
    refine pure_ (i := 13) (N := some 22) (v := ?_) (a' := ?_) #[true, true, true, true, true, true, true, true, true, true, true, true, true, true, false] rfl rfl (by kernel_rfl) (fun _ _ _ h => h) (Or.inl ⟨by rfl, ?_⟩) ?_ ?_
    rotate_left
    · intro w'
      go_simp
      with_reducible rfl
    rotate_left
    · simp only [Act.put, List.setIfInBounds_toArray, List.set_cons_zero, List.set_cons_succ, i64_w, i32_w]
      rfl
    refine pure_ (i := 14) (N := some 23) (v := ?_) (a' := ?_) #[true, true, true, true, true, true, true, true, true, true, true, true, true, true, true] rfl rfl (by kernel_rfl) (fun _ _ _ h => h) (Or.inl ⟨by rfl, ?_⟩) ?_ ?_
    rotate_left
    · intro w'
      go_simp
      with_reducible rfl
    rotate_left
    · simp only [Act.put, List.setIfInBounds_toArray, List.set_cons_zero, List.set_cons_succ, i64_w, i32_w]
      rfl
    refine done_ (by kernel_rfl) ?_
    obtain ⟨Ak, ck, ek⟩ := Kd.R_slice HK.out
    subst ek
    go_upto_region 23 with fail
    refine at_world (fun W' => RS w cx gl gu tl tu (.slice A7 vs.length c7) vs v8 be v10 lo v11 hi W' ∧ Kd.R (Kd.int .u8) 5 W' w.heap.size (fun _ => True) (.slice Ak kk_.length ck) kk_) ⟨HI.out, HK.out⟩ (fun W9 hI => ?_)
    clear HI HK
    have HI := Aside0.mk hI.1
    have HK := Aside0.mk hI.2
    clear hI
    have y1 : World.cell? _ ⟨gu, 1, none⟩ = some (.int .i64 tu.f1) := (blk_cell HI.out.1.2.2.1 1).trans rfl
    by_cases hA : tu.f1 = 8
    · skip
      have hN := HH.out
      rw [if_pos (Or.inl hA)] at hN
      have q1 : (tu.f1 == 8) = true := beq_iff_eq.mpr hA
      have HN := Aside0.mk hN
      clear hN HH hA
      cases h2 with
      | true =>
        obtain rfl : h1 = r2 := by simpa using HR2_.out
        obtain rfl : false = r3 := by simpa using HR3_.out
        go_wp2_with (first | (go_at_call 37; (with_reducible refine (quarryref03_Next.calls k Ak ck kk_ h1 true _ (Kd.R_reads' HK.out).2.2 (Kd.R_reads' HK.out).2.1 HN.out).mono ?_); rintro e w9 ⟨vn, rfl, ho, hb⟩; have HAN := Aside0.mk (apart_of HI.out.r10 ho); have HN9 := Aside0.mk (Kd.R_lower ho (below_size HI.out.b)); have HI_ := Aside0.mk (HI.out.below hb); clear ho hb HI y1; have HI := HI_; clear HI_))
        go_ret3
        exact ⟨_, _, rfl, (apart_u8 HI.out.r10 HN9.out HAN.out).1, (apart_u8 HI.out.r10 HN9.out HAN.out).2, HI.out.b⟩
      | false =>
        obtain rfl : [] = r2 := by simpa using HR2_.out
        obtain rfl : true = r3 := by simpa using HR3_.out
        go_wp2_with (first | (go_at_call 37; (with_reducible refine (quarryref03_Next.calls k Ak ck kk_ h1 false _ (Kd.R_reads' HK.out).2.2 (Kd.R_reads' HK.out).2.1 HN.out).mono ?_); rintro e w9 ⟨vn, rfl, ho, hb⟩; have HAN := Aside0.mk (apart_of HI.out.r10 ho); have HN9 := Aside0.mk (Kd.R_lower ho (below_size HI.out.b)); have HI_ := Aside0.mk (HI.out.below hb); clear ho hb HI y1; have HI := HI_; clear HI_))
        go_ret3
        exact ⟨_, _, rfl, (apart_u8 HI.out.r10 (Kd.R_nil _ _ _ _ _) (apart_nil _)).1, (apart_u8 HI.out.r10 (Kd.R_nil _ _ _ _ _) (apart_nil _)).2, HI.out.b⟩
    · by_cases hB : tu.f1 = 10
      · skip
        have hN := HH.out
        rw [if_pos (Or.inr hB)] at hN
        have q1 : (tu.f1 == 8) = false := beq_eq_false_iff_ne.mpr hA
        have q2 : (tu.f1 == 10) = true := beq_iff_eq.mpr hB
        have HN := Aside0.mk hN
        clear hN HH hA hB
        cases h2 with
        | true =>
          obtain rfl : h1 = r2 := by simpa using HR2_.out
          obtain rfl : false = r3 := by simpa using HR3_.out
          go_wp2_with (first | (go_at_call 37; (with_reducible refine (quarryref03_Next.calls k Ak ck kk_ h1 true _ (Kd.R_reads' HK.out).2.2 (Kd.R_reads' HK.out).2.1 HN.out).mono ?_); rintro e w9 ⟨vn, rfl, ho, hb⟩; have HAN := Aside0.mk (apart_of HI.out.r10 ho); have HN9 := Aside0.mk (Kd.R_lower ho (below_size HI.out.b)); have HI_ := Aside0.mk (HI.out.below hb); clear ho hb HI y1; have HI := HI_; clear HI_))
          go_ret3
          exact ⟨_, _, rfl, (apart_u8 HI.out.r10 HN9.out HAN.out).1, (apart_u8 HI.out.r10 HN9.out HAN.out).2, HI.out.b⟩
        | false =>
          obtain rfl : [] = r2 := by simpa using HR2_.out
          obtain rfl : true = r3 := by simpa using HR3_.out
          go_wp2_with (first | (go_at_call 37; (with_reducible refine (quarryref03_Next.calls k Ak ck kk_ h1 false _ (Kd.R_reads' HK.out).2.2 (Kd.R_reads' HK.out).2.1 HN.out).mono ?_); rintro e w9 ⟨vn, rfl, ho, hb⟩; have HAN := Aside0.mk (apart_of HI.out.r10 ho); have HN9 := Aside0.mk (Kd.R_lower ho (below_size HI.out.b)); have HI_ := Aside0.mk (HI.out.below hb); clear ho hb HI y1; have HI := HI_; clear HI_))
          go_ret3
          exact ⟨_, _, rfl, (apart_u8 HI.out.r10 (Kd.R_nil _ _ _ _ _) (apart_nil _)).1, (apart_u8 HI.out.r10 (Kd.R_nil _ _ _ _ _) (apart_nil _)).2, HI.out.b⟩
      · skip
        have hN := HH.out
        rw [if_neg (fun h => h.elim hA hB)] at hN
        have q1 : (tu.f1 == 8) = false := beq_eq_false_iff_ne.mpr hA
        have q2 : (tu.f1 == 10) = false := beq_eq_false_iff_ne.mpr hB
        obtain ⟨rfl, rfl⟩ : kk_ = h1 ∧ true = h2 := by simpa using hN
        clear hN HH hA hB
        obtain rfl : kk_ = r2 := by simpa using HR2_.out
        obtain rfl : false = r3 := by simpa using HR3_.out
        go_wp2
        go_ret3
        exact ⟨_, _, rfl, (apart_u8 HI.out.r10 HK.out HAK.out.1).1, (apart_u8 HI.out.r10 HK.out HAK.out.1).2, HI.out.b⟩
noncomputable def quarryref19_Range.low.code : Code := seqL (seqL ((Try.f17.body.bind (fromR 12)).getD .skip))
noncomputable def quarryref19_Range.low.mid : Code := seqR (seqL ((Try.f17.body.bind (fromR 12)).getD .skip))
noncomputable def quarryref19_Range.low.rest : Code := seqR ((Try.f17.body.bind (fromR 12)).getD .skip)
set_option maxHeartbeats 8000000 in
set_option maxRecDepth 100000 in
theorem quarryref19_Range.low {s0 s1 s3 s4 s5 s6 s9 s13 s18 s19 s20 s21 s22 s23 s24 s25 s26 s27 s28 s29 s30 s31 s32 s33 s34 s35 s36 s37 s38 s39 s40 s41 s42 s43 s44 s45 s46 s47 s48 s49 s50 s51 s52 s53 s54 s55 s56 s57 s58 s59 s60 s61 s62 s63 s64 s65 s66 s67 s68 s69 s70 s71 s72 s73 s74 s75 s76 s77 s78 s79 s80 s81 s82 s83 s84 s85 s86 s87 s88 s89 s90 s91 s92 s93 s94 s95 s96 s97 s98 s99 s100 s101 s102 s103 s104 s105 s106 s107 s108 s109 s110 s111 s112 s113 s114 s115 s116 s117 s118 s119 s120 s121 s122 s123 s124 s125 s126 s127 s128 s129 s130 s131 s132 s133 s134 s135 s136 s137 s138 s139 s140 s141 s142 s143 s144 s145 s146 s147 s148 s149 s150 s151 : Value} (k : Nat) (w : World) (cx : Array Value) (a0_0 : Int) (a0_1 a0_2 : ByteArray) (A0_3 : Option Addr) (c0_3 : Nat) (l0_3 : List Int) (A0_4 : Option Addr) (c0_4 : Nat) (l0_4 : List Bool) (a0_5 : Bool) (gl gu : Nat) (tl tu : S58) (A7 : Option Addr) (c7 : Nat) (vs : List S25) (v8 v11 : Value) (be hi : List Int) (ok it : Bool) (W : World) (r1 r2 : List Int) (r3 : Bool)
    (HX : Aside0 (cx = #[.int .i64 a0_0, .string a0_1, .string a0_2, .slice A0_3 l0_3.length c0_3, .slice A0_4 l0_4.length c0_4, .bool a0_5])) (HR4 : Aside0 (Kd.C Kd.bool w A0_4 l0_4.length l0_4 ∧ l0_4.length ≤ c0_4)) (HI : Aside0 (RS w cx gl gu tl tu (.slice A7 vs.length c7) vs v8 be v8 be v11 hi W)) (is : Bool) (HB8 : Aside0 ((∀ k, v11.ownBlock = some k → some k ≠ v8.ownBlock) ∧ (∀ k, v8.ownBlock = some k → some k ≠ v11.ownBlock))) (h1 : List Int) (h2 : Bool) (hlo : lowR k vs l0_4 be is tl = some r1) (hhi : highR k vs l0_4 hi ok it tu = some (h1, h2)) (hr2 : (if h2 = true then h1 else []) = r2) (hr3 : (!h2) = r3)
    (K K1 : Act → World → Prop) (hK1 : ∀ (a : Act) (w_ : World), Code.wp Try.prog quarryref19_Range.low.rest (bodyPost Try.prog Try.f17 (fun e w' => ∃ v0_ v1_ : Value, e = .returned (.tuple #[v0_, v1_, .bool r3]) ∧ Kd.R (Kd.int .u8) 5 w' w.heap.size (fun k_ => some k_ ≠ (v1_ : Value).ownBlock) v0_ r1 ∧ Kd.R (Kd.int .u8) 5 w' w.heap.size (fun k_ => some k_ ≠ (v0_ : Value).ownBlock) v1_ r2 ∧ Below w.heap.size w w')) a w_ → K1 a w_) (hK : ∀ (a : Act) (w_ : World), Code.wp Try.prog quarryref19_Range.low.mid (Exit.then K1 (bodyPost Try.prog Try.f17 (fun e w' => ∃ v0_ v1_ : Value, e = .returned (.tuple #[v0_, v1_, .bool r3]) ∧ Kd.R (Kd.int .u8) 5 w' w.heap.size (fun k_ => some k_ ≠ (v1_ : Value).ownBlock) v0_ r1 ∧ Kd.R (Kd.int .u8) 5 w' w.heap.size (fun k_ => some k_ ≠ (v0_ : Value).ownBlock) v1_ r2 ∧ Below w.heap.size w w'))) a w_ → K a w_) :
    Code.wp Try.prog quarryref19_Range.low.code (Exit.then K (Exit.then K1 (bodyPost Try.prog Try.f17 (fun e w' => ∃ v0_ v1_ : Value, e = .returned (.tuple #[v0_, v1_, .bool r3]) ∧ Kd.R (Kd.int .u8) 5 w' w.heap.size (fun k_ => some k_ ≠ (v1_ : Value).ownBlock) v0_ r1 ∧ Kd.R (Kd.int .u8) 5 w' w.heap.size (fun k_ => some k_ ≠ (v0_ : Value).ownBlock) v1_ r2 ∧ Below w.heap.size w w')))) ⟨#[s0, s1, .pointer (some ⟨w.heap.size, 0, none⟩), s3, s4, s5, s6, .slice A7 vs.length c7, v8, s9, v8, v11, .bool ok, s13, .pointer (some ⟨gl, 0, none⟩), .bool is, .pointer (some ⟨gu, 0, none⟩), .bool it, s18, s19, s20, s21, s22, s23, s24, s25, s26, s27, s28, s29, s30, s31, s32, s33, s34, s35, s36, s37, s38, s39, s40, s41, s42, s43, s44, s45, s46, s47, s48, s49, s50, s51, s52, s53, s54, s55, s56, s57, s58, s59, s60, s61, s62, s63, s64, s65, s66, s67, s68, s69, s70, s71, s72, s73, s74, s75, s76, s77, s78, s79, s80, s81, s82, s83, s84, s85, s86, s87, s88, s89, s90, s91, s92, s93, s94, s95, s96, s97, s98, s99, s100, s101, s102, s103, s104, s105, s106, s107, s108, s109, s110, s111, s112, s113, s114, s115, s116, s117, s118, s119, s120, s121, s122, s123, s124, s125, s126, s127, s128, s129, s130, s131, s132, s133, s134, s135, s136, s137, s138, s139, s140, s141, s142, s143, s144, s145, s146, s147, s148, s149, s150, s151], []⟩ W := by
  conv => arg 2; whnf
  conv at hK => enter [a, w_, 1, 2]; whnf
  conv at hK1 => enter [a, w_, 1, 2]; whnf
  have hu41 := Try.underlying41
  have hu58 := Try.underlying58
  have hu25 := Try.underlying25
  have HHI := Aside0.mk hhi
  clear hhi
  unfold lowR at hlo
  cases is with
  | false =>
    rw [if_neg (by decide)] at hlo
    obtain rfl : be = r1 := Option.some.inj hlo
    clear hlo
    go_upto_region 20 with fail
    exact quarryref19_Range.high k w cx a0_0 a0_1 a0_2 A0_3 c0_3 l0_3 A0_4 c0_4 l0_4 a0_5 gl gu tl tu A7 c7 vs v8 _ v11 _ _ hi ok it _ _ r2 r3 HX HR4 HI HB8 h1 h2 HHI.out rfl hr2 hr3 _ _ (by assumption) (by assumption)
  | true =>
    rw [if_pos rfl] at hlo
    replace hlo := Option.bind_eq_some_iff.mp hlo
    obtain ⟨kk, hkk, hlo⟩ := hlo
    unfold keyR at hkk
    by_cases hvs : vs.length + 1 ≤ 4398046511104
    case neg => rw [if_neg hvs] at hkk; cases hkk
    rw [if_pos hvs] at hkk
    replace hkk := Option.bind_eq_some_iff.mp hkk
    obtain ⟨⟨kk_, kk2⟩, hke, hkk⟩ := hkk
    obtain rfl : kk_ = kk := Option.some.inj hkk
    have HL := Aside0.mk hvs
    have HKE := Aside0.mk hke
    clear hvs hke hkk
    have HH := Aside0.mk hlo
    clear hlo
    go_upto_region 13 with fail
    have HB9 := Aside0.mk HI.out.drew
    refine start_ (n := 15) (S := fun w' => w'.cell? ⟨gl, 2, none⟩ = some (.int .i64 tl.f2.f0) ∧ w'.cell? ⟨gl, 3, none⟩ = some (.int .i64 tl.f2.f1) ∧ w'.cell? ⟨gl, 4, none⟩ = some (.string tl.f2.f2) ∧ w'.cell? ⟨w.heap.size, 4, none⟩ = some (.slice A0_4 l0_4.length c0_4)) (ds := [9]) #[false, false, false, false, false, false, false, false, false, false, false, false, false, false, false] (by kernel_rfl) rfl rfl ⟨(blk_cell (HI.out.drew).1.2.1 2).trans rfl, (blk_cell (HI.out.drew).1.2.1 3).trans rfl, (blk_cell (HI.out.drew).1.2.1 4).trans rfl, (blk_cell (HI.out.drew).1.1 4).trans (by rw [HX.out]; rfl)⟩ (fun hHeld => ?_)
    clear HI
    have HI := HB9
    clear HB9
    refine pure_ (i := 1) (N := some 89) (v := ?_) (a' := ?_) #[false, true, false, false, false, false, false, false, false, false, false, false, false, false, false] rfl rfl (by kernel_rfl) (fun _ _ _ h => h) (Or.inl ⟨by rfl, ?_⟩) ?_ ?_
    rotate_left
    · intro w'
      go_simp
      with_reducible rfl
    rotate_left
    · simp only [Act.put, List.setIfInBounds_toArray, List.set_cons_zero, List.set_cons_succ, i64_w, i32_w]
      rfl
    refine pure_ (i := 3) (N := some 91) (v := ?_) (a' := ?_) #[false, true, false, true, false, false, false, false, false, false, false, false, false, false, false] rfl rfl (by kernel_rfl) (fun _ _ _ h => h) (Or.inl ⟨by rfl, ?_⟩) ?_ ?_
    rotate_left
    · intro w'
      go_simp
      with_reducible rfl
    rotate_left
    · simp only [Act.put, List.setIfInBounds_toArray, List.set_cons_zero, List.set_cons_succ, i64_w, i32_w]
      rfl
    refine pure_ (i := 7) (N := some 95) (v := ?_) (a' := ?_) #[false, true, false, true, false, false, false, true, false, false, false, false, false, false, false] rfl rfl (by kernel_rfl) (fun _ _ _ h => h) (Or.inl ⟨by rfl, ?_⟩) ?_ ?_
    rotate_left
    · intro w'
      go_simp
      with_reducible rfl
    rotate_left
    · simp only [Act.put, List.setIfInBounds_toArray, List.set_cons_zero, List.set_cons_succ, i64_w, i32_w]
      rfl
    refine take_ (i := 4) (N := some 92) (v := ?_) (a' := ?_) #[false, true, false, true, true, false, false, true, false, false, false, false, false, false, false] rfl rfl (by kernel_rfl) (fun _ _ _ h => h) (Or.inl ⟨by rfl, ?_⟩) hHeld ?_ ?_
    rotate_left
    · rintro w' ⟨s0, s1, s2, s3⟩
      go_simp
      with_reducible rfl
    rotate_left
    · simp only [Act.put, List.setIfInBounds_toArray, List.set_cons_zero, List.set_cons_succ, i64_w, i32_w]
      rfl
    refine take_ (i := 8) (N := some 96) (v := ?_) (a' := ?_) #[false, true, false, true, true, false, false, true, true, false, false, false, false, false, false] rfl rfl (by kernel_rfl) (fun _ _ _ h => h) (Or.inl ⟨by rfl, ?_⟩) hHeld ?_ ?_
    rotate_left
    · rintro w' ⟨s0, s1, s2, s3⟩
      go_simp
      with_reducible rfl
    rotate_left
    · simp only [Act.put, List.setIfInBounds_toArray, List.set_cons_zero, List.set_cons_succ, i64_w, i32_w]
      rfl
    refine join_ (σ := Value × Value × Value) 7 #[true, true, true, true, true, true, false, true, true, false, false, false, false, false, false] (fun s => [(88, s.1), (90, s.2.1), (93, s.2.2)]) (fun s w' => (RS w cx gl gu tl tu (.slice A7 vs.length c7) vs v8 be v8 be v11 hi w' ∧ RT (fun k_ => some k_ ≠ (.slice A7 vs.length c7 : Value).ownBlock) w vs tl.f2 s.2 w')) ?_ ?_
    rotate_left
    · intro hCont
      refine two_ (i := 0) (j := 5) (Ni := some 88) (Nj := some 93) #[true, true, false, true, true, false, false, true, true, false, false, false, false, false, false] #[false, true, false, true, true, true, false, true, true, false, false, false, false, false, false] rfl rfl rfl rfl (by kernel_rfl) (by decide) (by decide) (fun K hK => ?_) (fun K hK => ?_)
      · skip
        refine Kd.R_lit_step k25 _ 25 ?hg (N := 88) ?hd (xs := ([] : List (S25))) (inner := []) (ok := fun _ => True) (okp := fun _ => True) ?hr ?hp (fun _ hk => hk) trivial (Below.refl _ _) (Nat.le_refl _) (by simp) ?_; (case hd => rfl); (case hg => rfl); (case hr => first | (go_simp; done) | (go_simp; rfl)); (case hp => exact (Reps.none _ _))
        intro v88 w3 ho hb hg_ hnew_
        clear hg_ hnew_
        have HA7 := Aside0.mk (apart_of HI.out.r7 ho).1
        have HO := Aside0.mk (Kd.R_lower ho (below_size HI.out.b))
        have HI_ := Aside0.mk (HI.out.below hb)
        clear hHeld ho hb HI
        have HI := HI_
        clear HI_
        refine hK.out _ _ ⟨(blk_cell (HI.out).1.2.1 2).trans rfl, (blk_cell (HI.out).1.2.1 3).trans rfl, (blk_cell (HI.out).1.2.1 4).trans rfl, (blk_cell (HI.out).1.1 4).trans (by rw [HX.out]; rfl)⟩ (fun hHeld => ?_)
        clear hK K
        refine norm_ (a' := ?_) ?_ ?_
        rotate_left
        · show Act.put _ (some 88) _ = _
          simp only [Act.put, List.setIfInBounds_toArray, List.set_cons_zero, List.set_cons_succ, i64_w, i32_w]
          rfl
        refine two_ (i := 2) (j := 5) (Ni := some 90) (Nj := some 93) #[true, true, true, true, true, false, false, true, true, false, false, false, false, false, false] #[true, true, false, true, true, true, false, true, true, false, false, false, false, false, false] rfl rfl rfl rfl (by kernel_rfl) (by decide) (by decide) (fun K hK => ?_) (fun K hK => ?_)
        · skip
          refine Kd.R_append_rows_step k25 (w0 := w) w.heap.size (by rfl) (.tmp 88) (.tmp 89) 52 25 (.agg #[(.int .i64 0), (.int .i64 0), (.string ⟨#[]⟩)]) 32 rfl Try.underlying52 info25 rfl (by decide) (by omega) v88 [] vs _ _ _ (fun k_ => some k_ ≠ (.slice A7 vs.length c7 : Value).ownBlock) (fun _ => False) (by rfl) (by rfl) (Kd.R_reok rfl HO.out HA7.out) (Kd.R_reads' HI.out.r7).2.2 (fun _ _ h => h) (fun _ h => h.elim) ?af HI.out.b (below_size HI.out.b) (by have := HL.out; simp; omega) ?_
          case af => exact fun k_ hk_ he_ => by have h1_ := Kd.R_lt HI.out.r7 k_ he_.symm; omega
          intro v90 w3 ho hb hg hat
          rw [List.nil_append] at ho
          have HI_ := Aside0.mk (HI.out.app HO.out HA7.out hb hg)
          have HO9 := Aside0.mk ho
          clear hHeld ho hb hg hat HI HO HA7
          have HI := HI_
          clear HI_
          refine hK.out _ _ ⟨(blk_cell (HI.out).1.2.1 2).trans rfl, (blk_cell (HI.out).1.2.1 3).trans rfl, (blk_cell (HI.out).1.2.1 4).trans rfl, (blk_cell (HI.out).1.1 4).trans (by rw [HX.out]; rfl)⟩ (fun hHeld => ?_)
          clear hK K
          refine norm_ (a' := ?_) ?_ ?_
          rotate_left
          · show Act.put _ (some 90) _ = _
            simp only [Act.put, List.setIfInBounds_toArray, List.set_cons_zero, List.set_cons_succ, i64_w, i32_w]
            rfl
          refine one_ (i := 5) (N := some 93) #[true, true, true, true, true, true, false, true, true, false, false, false, false, false, false] rfl rfl (by kernel_rfl) (by decide) (fun K hK => ?_)
          refine Kd.R_lit_step k25 _ 25 ?hg (N := 93) ?hd (xs := ([tl.f2] : List (S25))) (inner := [.int .i64 tl.f2.f0, .int .i64 tl.f2.f1, .string tl.f2.f2]) (ok := fun _ => True) (okp := fun _ => True) ?hr ?hp (fun _ hk => hk) trivial (Below.refl _ _) (Nat.le_refl _) (by simp) ?_; (case hd => rfl); (case hg => rfl); (case hr => first | (go_simp; done) | (go_simp; rfl)); (case hp => exact (Reps.c3 (show Kd.M k25 _ _ _ tl.f2 [.int .i64 tl.f2.f0, .int .i64 tl.f2.f1, .string tl.f2.f2] from (k25_mkM _ _ _ tl.f2)) (Reps.none _ _)))
          intro v93 w3 ho hb hg_ hnew_
          clear hg_ hnew_
          have HO9_ := Aside0.mk (Kd.R_below HO9.out hb)
          clear HO9
          have HO9 := HO9_
          clear HO9_
          have HV := Aside0.mk (Kd.R_lower ho (below_size HI.out.b))
          have HI_ := Aside0.mk (HI.out.below hb)
          clear hHeld ho hb HI
          have HI := HI_
          clear HI_
          refine hK.out _ _ ⟨(blk_cell (HI.out).1.2.1 2).trans rfl, (blk_cell (HI.out).1.2.1 3).trans rfl, (blk_cell (HI.out).1.2.1 4).trans rfl, (blk_cell (HI.out).1.1 4).trans (by rw [HX.out]; rfl)⟩ (fun hHeld => ?_)
          clear hK K
          refine norm_ (a' := ?_) ?_ ?_
          rotate_left
          · show Act.put _ (some 93) _ = _
            simp only [Act.put, List.setIfInBounds_toArray, List.set_cons_zero, List.set_cons_succ, i64_w, i32_w]
            rfl
          exact norm_ (by first | (simp only [putAll, Act.put, List.setIfInBounds_toArray, List.set_cons_zero, List.set_cons_succ]; done) | (simp only [putAll, Act.put, List.setIfInBounds_toArray, List.set_cons_zero, List.set_cons_succ]; rfl)) (hCont (_, _, _) _ ⟨HI.out, HO9.out, HV.out⟩)
        · skip
          refine Kd.R_lit_step k25 _ 25 ?hg (N := 93) ?hd (xs := ([tl.f2] : List (S25))) (inner := [.int .i64 tl.f2.f0, .int .i64 tl.f2.f1, .string tl.f2.f2]) (ok := fun _ => True) (okp := fun _ => True) ?hr ?hp (fun _ hk => hk) trivial (Below.refl _ _) (Nat.le_refl _) (by simp) ?_; (case hd => rfl); (case hg => rfl); (case hr => first | (go_simp; done) | (go_simp; rfl)); (case hp => exact (Reps.c3 (show Kd.M k25 _ _ _ tl.f2 [.int .i64 tl.f2.f0, .int .i64 tl.f2.f1, .string tl.f2.f2] from (k25_mkM _ _ _ tl.f2)) (Reps.none _ _)))
          intro v93 w3 ho hb hg_ hnew_
          clear hg_ hnew_
          have HA5 := Aside0.mk (apart_of HO.out ho).2
          have HO_ := Aside0.mk (Kd.R_below HO.out hb)
          clear HO
          have HO := HO_
          clear HO_
          have HV := Aside0.mk (Kd.R_lower ho (below_size HI.out.b))
          have HI_ := Aside0.mk (HI.out.below hb)
          clear hHeld ho hb HI
          have HI := HI_
          clear HI_
          refine hK.out _ _ ⟨(blk_cell (HI.out).1.2.1 2).trans rfl, (blk_cell (HI.out).1.2.1 3).trans rfl, (blk_cell (HI.out).1.2.1 4).trans rfl, (blk_cell (HI.out).1.1 4).trans (by rw [HX.out]; rfl)⟩ (fun hHeld => ?_)
          clear hK K
          refine norm_ (a' := ?_) ?_ ?_
          rotate_left
          · show Act.put _ (some 93) _ = _
            simp only [Act.put, List.setIfInBounds_toArray, List.set_cons_zero, List.set_cons_succ, i64_w, i32_w]
            rfl
          refine one_ (i := 2) (N := some 90) #[true, true, true, true, true, true, false, true, true, false, false, false, false, false, false] rfl rfl (by kernel_rfl) (by decide) (fun K hK => ?_)
          refine Kd.R_append_rows_step k25 (w0 := w) w.heap.size (by rfl) (.tmp 88) (.tmp 89) 52 25 (.agg #[(.int .i64 0), (.int .i64 0), (.string ⟨#[]⟩)]) 32 rfl Try.underlying52 info25 rfl (by decide) (by omega) v88 [] vs _ _ _ (fun k_ => some k_ ≠ (.slice A7 vs.length c7 : Value).ownBlock) (fun _ => False) (by rfl) (by rfl) (Kd.R_reok rfl HO.out HA7.out) (Kd.R_reads' HI.out.r7).2.2 (fun _ _ h => h) (fun _ h => h.elim) ?af HI.out.b (below_size HI.out.b) (by have := HL.out; simp; omega) ?_
          case af => exact fun k_ hk_ he_ => by have h1_ := Kd.R_lt HI.out.r7 k_ he_.symm; omega
          intro v90 w3 ho hb hg hat
          rw [List.nil_append] at ho
          have HI_ := Aside0.mk (HI.out.app HO.out HA7.out hb hg)
          have HV_ := Aside0.mk (Kd.R_grown2 HV.out rfl hg HA5.out)
          clear HV HA5
          have HV := HV_
          clear HV_
          have HO9 := Aside0.mk ho
          clear hHeld ho hb hg hat HI HO HA7
          have HI := HI_
          clear HI_
          refine hK.out _ _ ⟨(blk_cell (HI.out).1.2.1 2).trans rfl, (blk_cell (HI.out).1.2.1 3).trans rfl, (blk_cell (HI.out).1.2.1 4).trans rfl, (blk_cell (HI.out).1.1 4).trans (by rw [HX.out]; rfl)⟩ (fun hHeld => ?_)
          clear hK K
          refine norm_ (a' := ?_) ?_ ?_
          rotate_left
          · show Act.put _ (some 90) _ = _
            simp only [Act.put, List.setIfInBounds_toArray, List.set_cons_zero, List.set_cons_succ, i64_w, i32_w]
            rfl
          exact norm_ (by first | (simp only [putAll, Act.put, List.setIfInBounds_toArray, List.set_cons_zero, List.set_cons_succ]; done) | (simp only [putAll, Act.put, List.setIfInBounds_toArray, List.set_cons_zero, List.set_cons_succ]; rfl)) (hCont (_, _, _) _ ⟨HI.out, HO9.out, HV.out⟩)
      · skip
        refine Kd.R_lit_step k25 _ 25 ?hg (N := 93) ?hd (xs := ([tl.f2] : List (S25))) (inner := [.int .i64 tl.f2.f0, .int .i64 tl.f2.f1, .string tl.f2.f2]) (ok := fun _ => True) (okp := fun _ => True) ?hr ?hp (fun _ hk => hk) trivial (Below.refl _ _) (Nat.le_refl _) (by simp) ?_; (case hd => rfl); (case hg => rfl); (case hr => first | (go_simp; done) | (go_simp; rfl)); (case hp => exact (Reps.c3 (show Kd.M k25 _ _ _ tl.f2 [.int .i64 tl.f2.f0, .int .i64 tl.f2.f1, .string tl.f2.f2] from (k25_mkM _ _ _ tl.f2)) (Reps.none _ _)))
        intro v93 w3 ho hb hg_ hnew_
        clear hg_ hnew_
        have HV := Aside0.mk (Kd.R_lower ho (below_size HI.out.b))
        have HI_ := Aside0.mk (HI.out.below hb)
        clear hHeld ho hb HI
        have HI := HI_
        clear HI_
        refine hK.out _ _ ⟨(blk_cell (HI.out).1.2.1 2).trans rfl, (blk_cell (HI.out).1.2.1 3).trans rfl, (blk_cell (HI.out).1.2.1 4).trans rfl, (blk_cell (HI.out).1.1 4).trans (by rw [HX.out]; rfl)⟩ (fun hHeld => ?_)
        clear hK K
        refine norm_ (a' := ?_) ?_ ?_
        rotate_left
        · show Act.put _ (some 93) _ = _
          simp only [Act.put, List.setIfInBounds_toArray, List.set_cons_zero, List.set_cons_succ, i64_w, i32_w]
          rfl
        refine one_ (i := 0) (N := some 88) #[true, true, false, true, true, true, false, true, true, false, false, false, false, false, false] rfl rfl (by kernel_rfl) (by decide) (fun K hK => ?_)
        refine Kd.R_lit_step k25 _ 25 ?hg (N := 88) ?hd (xs := ([] : List (S25))) (inner := []) (ok := fun _ => True) (okp := fun _ => True) ?hr ?hp (fun _ hk => hk) trivial (Below.refl _ _) (Nat.le_refl _) (by simp) ?_; (case hd => rfl); (case hg => rfl); (case hr => first | (go_simp; done) | (go_simp; rfl)); (case hp => exact (Reps.none _ _))
        intro v88 w3 ho hb hg_ hnew_
        clear hg_ hnew_
        have HA7 := Aside0.mk (apart_of HI.out.r7 ho).1
        have HA5 := Aside0.mk (apart_of HV.out ho).1
        have HV_ := Aside0.mk (Kd.R_below HV.out hb)
        clear HV
        have HV := HV_
        clear HV_
        have HO := Aside0.mk (Kd.R_lower ho (below_size HI.out.b))
        have HI_ := Aside0.mk (HI.out.below hb)
        clear hHeld ho hb HI
        have HI := HI_
        clear HI_
        refine hK.out _ _ ⟨(blk_cell (HI.out).1.2.1 2).trans rfl, (blk_cell (HI.out).1.2.1 3).trans rfl, (blk_cell (HI.out).1.2.1 4).trans rfl, (blk_cell (HI.out).1.1 4).trans (by rw [HX.out]; rfl)⟩ (fun hHeld => ?_)
        clear hK K
        refine norm_ (a' := ?_) ?_ ?_
        rotate_left
        · show Act.put _ (some 88) _ = _
          simp only [Act.put, List.setIfInBounds_toArray, List.set_cons_zero, List.set_cons_succ, i64_w, i32_w]
          rfl
        refine one_ (i := 2) (N := some 90) #[true, true, true, true, true, true, false, true, true, false, false, false, false, false, false] rfl rfl (by kernel_rfl) (by decide) (fun K hK => ?_)
        refine Kd.R_append_rows_step k25 (w0 := w) w.heap.size (by rfl) (.tmp 88) (.tmp 89) 52 25 (.agg #[(.int .i64 0), (.int .i64 0), (.string ⟨#[]⟩)]) 32 rfl Try.underlying52 info25 rfl (by decide) (by omega) v88 [] vs _ _ _ (fun k_ => some k_ ≠ (.slice A7 vs.length c7 : Value).ownBlock) (fun _ => False) (by rfl) (by rfl) (Kd.R_reok rfl HO.out HA7.out) (Kd.R_reads' HI.out.r7).2.2 (fun _ _ h => h) (fun _ h => h.elim) ?af HI.out.b (below_size HI.out.b) (by have := HL.out; simp; omega) ?_
        case af => exact fun k_ hk_ he_ => by have h1_ := Kd.R_lt HI.out.r7 k_ he_.symm; omega
        intro v90 w3 ho hb hg hat
        rw [List.nil_append] at ho
        have HI_ := Aside0.mk (HI.out.app HO.out HA7.out hb hg)
        have HV_ := Aside0.mk (Kd.R_grown2 HV.out rfl hg HA5.out)
        clear HV HA5
        have HV := HV_
        clear HV_
        have HO9 := Aside0.mk ho
        clear hHeld ho hb hg hat HI HO HA7
        have HI := HI_
        clear HI_
        refine hK.out _ _ ⟨(blk_cell (HI.out).1.2.1 2).trans rfl, (blk_cell (HI.out).1.2.1 3).trans rfl, (blk_cell (HI.out).1.2.1 4).trans rfl, (blk_cell (HI.out).1.1 4).trans (by rw [HX.out]; rfl)⟩ (fun hHeld => ?_)
        clear hK K
        refine norm_ (a' := ?_) ?_ ?_
        rotate_left
        · show Act.put _ (some 90) _ = _
          simp only [Act.put, List.setIfInBounds_toArray, List.set_cons_zero, List.set_cons_succ, i64_w, i32_w]
          rfl
        exact norm_ (by first | (simp only [putAll, Act.put, List.setIfInBounds_toArray, List.set_cons_zero, List.set_cons_succ]; done) | (simp only [putAll, Act.put, List.setIfInBounds_toArray, List.set_cons_zero, List.set_cons_succ]; rfl)) (hCont (_, _, _) _ ⟨HI.out, HO9.out, HV.out⟩)
    rintro ⟨v88, v90, v93⟩ w5 hJ
    have HJ := Aside0.mk hJ
    clear hJ HI
    have HI := Aside0.mk HJ.out.1
    have HO9 := Aside0.mk HJ.out.2.1
    have HV := Aside0.mk HJ.out.2.2
    clear HJ
    obtain ⟨A93, c93, e93⟩ := Kd.R_slice HV.out
    simp only at e93
    subst e93
    have hHeld : w5.cell? ⟨gl, 2, none⟩ = some (.int .i64 tl.f2.f0) ∧ w5.cell? ⟨gl, 3, none⟩ = some (.int .i64 tl.f2.f1) ∧ w5.cell? ⟨gl, 4, none⟩ = some (.string tl.f2.f2) ∧ w5.cell? ⟨w.heap.size, 4, none⟩ = some (.slice A0_4 l0_4.length c0_4) := ⟨(blk_cell (HI.out).1.2.1 2).trans rfl, (blk_cell (HI.out).1.2.1 3).trans rfl, (blk_cell (HI.out).1.2.1 4).trans rfl, (blk_cell (HI.out).1.1 4).trans (by rw [HX.out]; rfl)⟩
    refine norm_ (a' := ?_) ?_ ?_
    rotate_left
    · simp only [putAll, Act.put, List.setIfInBounds_toArray, List.set_cons_zero, List.set_cons_succ]
      rfl
    refine one_ (i := 6) (N := some 94) #[true, true, true, true, true, true, true, true, true, false, false, false, false, false, false] rfl rfl (by kernel_rfl) (by decide) (fun K hK => ?_)
    refine Kd.R_append_rows_step k25 (w0 := w) w.heap.size (by rfl) (.tmp 90) (.tmp 93) 52 25 (.agg #[(.int .i64 0), (.int .i64 0), (.string ⟨#[]⟩)]) 32 rfl Try.underlying52 info25 rfl (by decide) (by omega) v90 vs [tl.f2] _ _ _ (fun k_ => some k_ ≠ (.slice A7 vs.length c7 : Value).ownBlock) (fun _ => False) (by rfl) (by rfl) HO9.out (Kd.R_reads' HV.out).2.2 (fun _ _ h => h) (fun _ h => h.elim) ?af HI.out.b (below_size HI.out.b) (by have := HL.out; simp; omega) ?_
    case af => exact fun k_ hk_ he_ => by have h1_ := Kd.R_lt HI.out.r7 k_ he_.symm; omega
    intro v94 w6 ho hb hg hat
    obtain ⟨A94, c94, e94⟩ := Kd.R_slice ho
    subst e94
    have HO2 := Aside0.mk ho
    have HI_ := Aside0.mk (HI.out.app HO9.out HO9.out.1 hb hg)
    clear ho hb hg hat hHeld HI HO9 HV
    have HI := HI_
    clear HI_
    refine hK.out _ _ ⟨(blk_cell (HI.out).1.2.1 2).trans rfl, (blk_cell (HI.out).1.2.1 3).trans rfl, (blk_cell (HI.out).1.2.1 4).trans rfl, (blk_cell (HI.out).1.1 4).trans (by rw [HX.out]; rfl)⟩ (fun hHeld => ?_)
    clear hK K
    refine norm_ (a' := ?_) ?_ ?_
    rotate_left
    · show Act.put _ (some 94) _ = _
      simp only [Act.put, List.setIfInBounds_toArray, List.set_cons_zero, List.set_cons_succ, i64_w, i32_w]
      rfl
    refine last_ (i := 9) (N := some 97) #[true, true, true, true, true, true, true, true, true, true, false, false, false, false, false] rfl rfl (by kernel_rfl) (by decide) (fun K hK => ?_)
    refine goes_ Try.func23 (by kernel_rfl) rfl #[.slice A94 (vs ++ [tl.f2]).length c94, .slice A0_4 l0_4.length c0_4] (by rfl) rfl rfl (by simp only [List.map_toArray, List.map_cons, List.map_nil]; rfl) ?_
    with_reducible refine (quarryref03_Encode.calls k A94 c94 (vs ++ [tl.f2]) A0_4 c0_4 l0_4 kk_ kk2 _ (Kd.R_reads' HO2.out).2.2 (Kd.R_reads' HO2.out).2.1 (Kd.C_below HR4.out.1 HI.out.b) HR4.out.2 HKE.out).mono ?_
    rintro e w7 ⟨vk, rfl, ho, hb⟩
    refine ⟨_, rfl, ?_⟩
    have HAK := Aside0.mk (And.intro (apart_of HI.out.r10 ho) (apart_of HI.out.r11 ho))
    have HK := Aside0.mk (Kd.R_lower ho (below_size HI.out.b))
    have HI_ := Aside0.mk (HI.out.below hb)
    clear ho hb hHeld HO2 HI
    have HI := HI_
    clear HI_
    refine hK.out _ _ ?_
    clear hK K
    refine norm_ (a' := ?_) ?_ ?_
    rotate_left
    · show Act.put _ (some 97) _ = _
      simp only [Act.put, List.setIfInBounds_toArray, List.set_cons_zero, List.set_cons_succ, i64_w, i32_w]
      rfl
    refine pure_ (i := 10) (N := some 87) (v := ?_) (a' := ?_) #[true, true, true, true, true, true, true, true, true, true, true, false, false, false, false] rfl rfl (by kernel_rfl) (fun _ _ _ h => h) (Or.inl ⟨by rfl, ?_⟩) ?_ ?_
    rotate_left
    · intro w'
      go_simp
      with_reducible rfl
    rotate_left
    · simp only [Act.put, List.setIfInBounds_toArray, List.set_cons_zero, List.set_cons_succ, i64_w, i32_w]
      rfl
    refine pure_ (i := 11) (N := some 98) (v := ?_) (a' := ?_) #[true, true, true, true, true, true, true, true, true, true, true, true, false, false, false] rfl rfl (by kernel_rfl) (fun _ _ _ h => h) (Or.inl ⟨by rfl, ?_⟩) ?_ ?_
    rotate_left
    · intro w'
      go_simp
      with_reducible rfl
    rotate_left
    · simp only [Act.put, List.setIfInBounds_toArray, List.set_cons_zero, List.set_cons_succ, i64_w, i32_w]
      rfl
    refine pure_ (i := 12) (N := some 99) (v := ?_) (a' := ?_) #[true, true, true, true, true, true, true, true, true, true, true, true, true, false, false] rfl rfl (by kernel_rfl) (fun _ _ _ h => h) (Or.inl ⟨by rfl, ?_⟩) ?_ ?_
    rotate_left
    · intro w'
      go_simp
      with_reducible rfl
    rotate_left
    · simp only [Act.put, List.setIfInBounds_toArray, List.set_cons_zero, List.set_cons_succ, i64_w, i32_w]
      rfl
    refine pure_ (i := 13) (N := some 18) (v := ?_) (a' := ?_) #[true, true, true, true, true, true, true, true, true, true, true, true, true, true, false] rfl rfl (by kernel_rfl) (fun _ _ _ h => h) (Or.inl ⟨by rfl, ?_⟩) ?_ ?_
    rotate_left
    · intro w'
      go_simp
      with_reducible rfl
    rotate_left
    · simp only [Act.put, List.setIfInBounds_toArray, List.set_cons_zero, List.set_cons_succ, i64_w, i32_w]
      rfl
    refine pure_ (i := 14) (N := some 19) (v := ?_) (a' := ?_) #[true, true, true, true, true, true, true, true, true, true, true, true, true, true, true] rfl rfl (by kernel_rfl) (fun _ _ _ h => h) (Or.inl ⟨by rfl, ?_⟩) ?_ ?_
    rotate_left
    · intro w'
      go_simp
      with_reducible rfl
    rotate_left
    · simp only [Act.put, List.setIfInBounds_toArray, List.set_cons_zero, List.set_cons_succ, i64_w, i32_w]
      rfl
    refine done_ (by kernel_rfl) ?_
    obtain ⟨Ak, ck, ek⟩ := Kd.R_slice HK.out
    subst ek
    go_upto_region 15 with fail
    refine at_world (fun W' => RS w cx gl gu tl tu (.slice A7 vs.length c7) vs v8 be v8 be v11 hi W' ∧ Kd.R (Kd.int .u8) 5 W' w.heap.size (fun _ => True) (.slice Ak kk_.length ck) kk_) ⟨HI.out, HK.out⟩ (fun W9 hI => ?_)
    clear HI HK
    have HI := Aside0.mk hI.1
    have HK := Aside0.mk hI.2
    clear hI
    have y1 : World.cell? _ ⟨gl, 1, none⟩ = some (.int .i64 tl.f1) := (blk_cell HI.out.1.2.1 1).trans rfl
    by_cases hA : tl.f1 = 9
    · skip
      have hN := HH.out
      rw [if_pos (Or.inl hA)] at hN
      have q1 : (tl.f1 == 9) = true := beq_iff_eq.mpr hA
      replace hN := Option.bind_eq_some_iff.mp hN
      obtain ⟨⟨n1, n2⟩, hN, hr1⟩ := hN
      have HN := Aside0.mk hN
      clear hN HH hA
      cases n2 with
      | true =>
        obtain rfl : n1 = r1 := by simpa using hr1
        go_upto_region 18 with (first | (go_at_call 37; (with_reducible refine (quarryref03_Next.calls k Ak ck kk_ n1 true _ (Kd.R_reads' HK.out).2.2 (Kd.R_reads' HK.out).2.1 HN.out).mono ?_); rintro e w9 ⟨vn, rfl, ho, hb⟩; have HAN := Aside0.mk (apart_of HI.out.r11 ho); have HN9 := Aside0.mk (Kd.R_lower ho (below_size HI.out.b)); have HI_ := Aside0.mk (HI.out.below hb); clear ho hb HI y1; have HI := HI_; clear HI_))
        go_upto_region 20 with fail
        exact quarryref19_Range.high k w cx a0_0 a0_1 a0_2 A0_3 c0_3 l0_3 A0_4 c0_4 l0_4 a0_5 gl gu tl tu A7 c7 vs v8 _ v11 be n1 hi ok it _ _ r2 r3 HX HR4 ⟨HI.out.low HN9.out⟩ ⟨⟨HAN.out.2, HAN.out.1⟩⟩ h1 h2 HHI.out rfl hr2 hr3 _ _ (by assumption) (by assumption)
      | false =>
        obtain rfl : be = r1 := by simpa using hr1
        go_upto_region 18 with (first | (go_at_call 37; (with_reducible refine (quarryref03_Next.calls k Ak ck kk_ n1 false _ (Kd.R_reads' HK.out).2.2 (Kd.R_reads' HK.out).2.1 HN.out).mono ?_); rintro e w9 ⟨vn, rfl, ho, hb⟩; have HAN := Aside0.mk (apart_of HI.out.r11 ho); have HN9 := Aside0.mk (Kd.R_lower ho (below_size HI.out.b)); have HI_ := Aside0.mk (HI.out.below hb); clear ho hb HI y1; have HI := HI_; clear HI_))
        go_upto_region 20 with fail
        exact quarryref19_Range.high k w cx a0_0 a0_1 a0_2 A0_3 c0_3 l0_3 A0_4 c0_4 l0_4 a0_5 gl gu tl tu A7 c7 vs v8 _ v11 be be hi ok it _ _ r2 r3 HX HR4 ⟨HI.out.low HI.out.r8⟩ ⟨HB8.out⟩ h1 h2 HHI.out rfl hr2 hr3 _ _ (by assumption) (by assumption)
    · by_cases hB : tl.f1 = 7
      · skip
        have hN := HH.out
        rw [if_pos (Or.inr hB)] at hN
        have q1 : (tl.f1 == 9) = false := beq_eq_false_iff_ne.mpr hA
        have q2 : (tl.f1 == 7) = true := beq_iff_eq.mpr hB
        replace hN := Option.bind_eq_some_iff.mp hN
        obtain ⟨⟨n1, n2⟩, hN, hr1⟩ := hN
        have HN := Aside0.mk hN
        clear hN HH hA hB
        cases n2 with
        | true =>
          obtain rfl : n1 = r1 := by simpa using hr1
          go_upto_region 18 with (first | (go_at_call 37; (with_reducible refine (quarryref03_Next.calls k Ak ck kk_ n1 true _ (Kd.R_reads' HK.out).2.2 (Kd.R_reads' HK.out).2.1 HN.out).mono ?_); rintro e w9 ⟨vn, rfl, ho, hb⟩; have HAN := Aside0.mk (apart_of HI.out.r11 ho); have HN9 := Aside0.mk (Kd.R_lower ho (below_size HI.out.b)); have HI_ := Aside0.mk (HI.out.below hb); clear ho hb HI y1; have HI := HI_; clear HI_))
          go_upto_region 20 with fail
          exact quarryref19_Range.high k w cx a0_0 a0_1 a0_2 A0_3 c0_3 l0_3 A0_4 c0_4 l0_4 a0_5 gl gu tl tu A7 c7 vs v8 _ v11 be n1 hi ok it _ _ r2 r3 HX HR4 ⟨HI.out.low HN9.out⟩ ⟨⟨HAN.out.2, HAN.out.1⟩⟩ h1 h2 HHI.out rfl hr2 hr3 _ _ (by assumption) (by assumption)
        | false =>
          obtain rfl : be = r1 := by simpa using hr1
          go_upto_region 18 with (first | (go_at_call 37; (with_reducible refine (quarryref03_Next.calls k Ak ck kk_ n1 false _ (Kd.R_reads' HK.out).2.2 (Kd.R_reads' HK.out).2.1 HN.out).mono ?_); rintro e w9 ⟨vn, rfl, ho, hb⟩; have HAN := Aside0.mk (apart_of HI.out.r11 ho); have HN9 := Aside0.mk (Kd.R_lower ho (below_size HI.out.b)); have HI_ := Aside0.mk (HI.out.below hb); clear ho hb HI y1; have HI := HI_; clear HI_))
          go_upto_region 20 with fail
          exact quarryref19_Range.high k w cx a0_0 a0_1 a0_2 A0_3 c0_3 l0_3 A0_4 c0_4 l0_4 a0_5 gl gu tl tu A7 c7 vs v8 _ v11 be be hi ok it _ _ r2 r3 HX HR4 ⟨HI.out.low HI.out.r8⟩ ⟨HB8.out⟩ h1 h2 HHI.out rfl hr2 hr3 _ _ (by assumption) (by assumption)
      · skip
        have hN := HH.out
        rw [if_neg (fun h => h.elim hA hB)] at hN
        have q1 : (tl.f1 == 9) = false := beq_eq_false_iff_ne.mpr hA
        have q2 : (tl.f1 == 7) = false := beq_eq_false_iff_ne.mpr hB
        obtain rfl : kk_ = r1 := Option.some.inj hN
        clear hN HH hA hB
        go_upto_region 20 with fail
        exact quarryref19_Range.high k w cx a0_0 a0_1 a0_2 A0_3 c0_3 l0_3 A0_4 c0_4 l0_4 a0_5 gl gu tl tu A7 c7 vs v8 _ v11 be kk_ hi ok it _ _ r2 r3 HX HR4 ⟨HI.out.low HK.out⟩ ⟨⟨HAK.out.2.2, HAK.out.2.1⟩⟩ h1 h2 HHI.out rfl hr2 hr3 _ _ (by assumption) (by assumption)
end Go.Proofs.Ytmfenomjhmhogaa.P
end
section
namespace Go.Proofs.Ytmfenomjhmhogaa.P
open Go.RowKit Go.Proofs.Ytmfenomjhmhogaa.Pure Go.Proofs.YtmfenomjhmhogaaW.PrintWords Go.Proofs.YtmfenomjhmhogaaW.PrintLast Go.Proofs.YtmfenomjhmhogaaW.PrintMore
attribute [local go_sem] max2_int min2_int max_two min_two max_three min_three max_four min_four
set_option linter.unusedVariables false
set_option linter.unusedSimpArgs false
def QS (w : World) (cx : Array Value) (v7 : Value) (vs : List S25) (v8 : Value) (be : List Int) (v11 : Value) (hi : List Int) (W : World) : Prop :=
  W.heap[w.heap.size]? = some (.cells cx 41 (0, 0)) ∧ Below w.heap.size w W ∧ Kd.R k25 25 W w.heap.size (fun _ => True) v7 vs ∧ Kd.R (Kd.int .u8) 5 W w.heap.size (fun _ => True) v8 be ∧ Kd.R (Kd.int .u8) 5 W w.heap.size (fun _ => True) v11 hi
section
variable {w W W' : World} {cx : Array Value} {v7 v8 v11 : Value} {vs : List S25} {be hi : List Int}
theorem QS.below (h : QS w cx v7 vs v8 be v11 hi W) (hb : Below W.heap.size W W') : QS w cx v7 vs v8 be v11 hi W' := ⟨blk_below h.1 hb, below_step h.2.1 hb, Kd.R_below h.2.2.1 hb, Kd.R_below h.2.2.2.1 hb, Kd.R_below h.2.2.2.2 hb⟩
theorem QS.r7 (h : QS w cx v7 vs v8 be v11 hi W) : Kd.R k25 25 W w.heap.size (fun _ => True) v7 vs := h.2.2.1
theorem QS.r8 (h : QS w cx v7 vs v8 be v11 hi W) : Kd.R (Kd.int .u8) 5 W w.heap.size (fun _ => True) v8 be := h.2.2.2.1
theorem QS.r11 (h : QS w cx v7 vs v8 be v11 hi W) : Kd.R (Kd.int .u8) 5 W w.heap.size (fun _ => True) v11 hi := h.2.2.2.2
theorem QS.b (h : QS w cx v7 vs v8 be v11 hi W) : Below w.heap.size w W := h.2.1
end
set_option maxHeartbeats 8000000 in
set_option maxRecDepth 100000 in
theorem quarryref19_Range.whole (k : Nat) (a0_0 : Int) (a0_1 : ByteArray) (a0_2 : ByteArray) (A0_3 : Option Addr) (c0_3 : Nat) (l0_3 : List Int) (A0_4 : Option Addr) (c0_4 : Nat) (l0_4 : List Bool) (a0_5 : Bool) (A1 : Option Addr) (c1 : Nat) (l1 : List (S58)) (w : World) (hr0_3 : Kd.C (Kd.int .i64) w A0_3 l0_3.length l0_3) (hc0_3 : l0_3.length ≤ c0_3) (hr0_4 : Kd.C Kd.bool w A0_4 l0_4.length l0_4) (hc0_4 : l0_4.length ≤ c0_4) (hr1 : Kd.C k58 w A1 l1.length l1) (hc1 : l1.length ≤ c1) (vs : List S25) (be : List Int) (be2 : Int) (hi : List Int) (ok : Bool) (hp : quarryref19_prefix.f k a0_0 a0_1 a0_2 l0_3 l0_4 a0_5 l1 = some vs) (he : quarryref03_Encode.f k vs l0_4 = some (be, be2)) (hn : quarryref03_Next.f k be = some (hi, ok)) (hlen : vs.length = l0_3.length) :
    Calls Try.prog 17 #[.agg #[.int .i64 a0_0, .string a0_1, .string a0_2, .slice A0_3 l0_3.length c0_3, .slice A0_4 l0_4.length c0_4, .bool a0_5], .slice A1 l1.length c1] w fun e w' => ∃ v0_ v1_ : Value, e = .returned (.tuple #[v0_, v1_, .bool (!ok)]) ∧ Kd.R (Kd.int .u8) 5 w' w.heap.size (fun k_ => some k_ ≠ (v1_ : Value).ownBlock) v0_ be ∧ Kd.R (Kd.int .u8) 5 w' w.heap.size (fun k_ => some k_ ≠ (v0_ : Value).ownBlock) v1_ hi ∧ Below w.heap.size w w' := by
  have hu41 := Try.underlying41
  have hu58 := Try.underlying58
  have hu25 := Try.underlying25
  have HR3 := Aside0.mk (And.intro hr0_3 hc0_3)
  have HR4 := Aside0.mk (And.intro hr0_4 hc0_4)
  have HR1 := Aside0.mk (And.intro hr1 hc1)
  have HP := Aside0.mk hp
  have HE := Aside0.mk he
  have HN := Aside0.mk hn
  obtain ⟨cx, hcx⟩ : ∃ cx : Array Value, cx = #[.int .i64 a0_0, .string a0_1, .string a0_2, .slice A0_3 l0_3.length c0_3, .slice A0_4 l0_4.length c0_4, .bool a0_5] := ⟨_, rfl⟩
  have HX := Aside0.mk hcx
  clear hr0_3 hc0_3 hr0_4 hc0_4 hr1 hc1 hp he hn hcx
  have q1 : ((vs.length : Int) == (l0_3.length : Int)) = true := by simp [hlen]
  have q2 : (vs.length == l0_3.length) = true := by simp [hlen]
  clear hlen
  go_enter Try.func17, Try.ntmps17
  go_upto_region 1 with fail
  refine at_world (fun W => QS w #[.int .i64 a0_0, .string a0_1, .string a0_2, .slice A0_3 l0_3.length c0_3, .slice A0_4 l0_4.length c0_4, .bool a0_5] (.slice none 0 0) [] (.slice none 0 0) [] (.slice none 0 0) [] W) ⟨Deep.blk_alloc_new w _, below_alloc (Below.refl _ _) _, Kd.R_nil _ _ _ _ _, Kd.R_nil _ _ _ _ _, Kd.R_nil _ _ _ _ _⟩ (fun W hI => ?_)
  rw [← HX.out] at hI
  have HI := Aside0.mk hI
  clear hI
  have x0 : World.cell? _ ⟨w.heap.size, 0, none⟩ = some (.int .i64 a0_0) := (blk_cell HI.out.1 0).trans (by rw [HX.out]; rfl)
  have x1 : World.cell? _ ⟨w.heap.size, 1, none⟩ = some (.string a0_1) := (blk_cell HI.out.1 1).trans (by rw [HX.out]; rfl)
  have x2 : World.cell? _ ⟨w.heap.size, 2, none⟩ = some (.string a0_2) := (blk_cell HI.out.1 2).trans (by rw [HX.out]; rfl)
  have x3 : World.cell? _ ⟨w.heap.size, 3, none⟩ = some (.slice A0_3 l0_3.length c0_3) := (blk_cell HI.out.1 3).trans (by rw [HX.out]; rfl)
  have x4 : World.cell? _ ⟨w.heap.size, 4, none⟩ = some (.slice A0_4 l0_4.length c0_4) := (blk_cell HI.out.1 4).trans (by rw [HX.out]; rfl)
  have x5 : World.cell? _ ⟨w.heap.size, 5, none⟩ = some (.bool a0_5) := (blk_cell HI.out.1 5).trans (by rw [HX.out]; rfl)
  go_upto_region 2 with (go_at_call 36; (with_reducible refine (quarryref19_prefix.calls k a0_0 a0_1 a0_2 A0_3 c0_3 l0_3 A0_4 c0_4 l0_4 a0_5 A1 c1 l1 vs _ (Kd.C_below HR3.out.1 HI.out.b) HR3.out.2 (Kd.C_below HR4.out.1 HI.out.b) HR4.out.2 (Kd.C_below HR1.out.1 HI.out.b) HR1.out.2 HP.out).mono ?_); rintro e w2 ⟨v7, rfl, ho, hb⟩; obtain ⟨A7, c7, e7⟩ := Kd.R_slice ho; subst e7; have HJ : Aside0 (QS w cx (.slice A7 vs.length c7) vs (.slice none 0 0) [] (.slice none 0 0) [] w2) := ⟨blk_below HI.out.1 hb, below_step HI.out.b hb, Kd.R_lower ho (below_size HI.out.b), Kd.R_nil _ _ _ _ _, Kd.R_nil _ _ _ _ _⟩; clear ho hb HI x0 x1 x2 x3 x4 x5)
  have HI := HJ
  clear HJ
  have x4 : World.cell? _ ⟨w.heap.size, 4, none⟩ = some (.slice A0_4 l0_4.length c0_4) := (blk_cell HI.out.1 4).trans (by rw [HX.out]; rfl)
  go_upto_region 3 with (go_at_call 23; (with_reducible refine (quarryref03_Encode.calls k A7 c7 vs A0_4 c0_4 l0_4 be be2 _ (Kd.R_reads' HI.out.r7).2.2 (Kd.R_reads' HI.out.r7).2.1 (Kd.C_below HR4.out.1 HI.out.b) HR4.out.2 HE.out).mono ?_); rintro e w3 ⟨v8, rfl, ho, hb⟩; obtain ⟨A8, c8, e8⟩ := Kd.R_slice ho; subst e8; have HJ : Aside0 (QS w cx (.slice A7 vs.length c7) vs (.slice A8 be.length c8) be (.slice none 0 0) [] w3) := ⟨blk_below HI.out.1 hb, below_step HI.out.b hb, Kd.R_below HI.out.r7 hb, Kd.R_lower ho (below_size HI.out.b), Kd.R_nil _ _ _ _ _⟩; clear ho hb HI x4)
  have HI := HJ
  clear HJ
  go_upto_region 5 with (go_at_call 37; (with_reducible refine (quarryref03_Next.calls k A8 c8 be hi ok _ (Kd.R_reads' HI.out.r8).2.2 (Kd.R_reads' HI.out.r8).2.1 HN.out).mono ?_); rintro e w4 ⟨v11, rfl, ho, hb⟩; have HAP := Aside0.mk (apart_of HI.out.r8 ho); have HJ : Aside0 (QS w cx (.slice A7 vs.length c7) vs (.slice A8 be.length c8) be v11 hi w4) := ⟨blk_below HI.out.1 hb, below_step HI.out.b hb, Kd.R_below HI.out.r7 hb, Kd.R_below HI.out.r8 hb, Kd.R_lower ho (below_size HI.out.b)⟩; clear ho hb HI)
  have HI := HJ
  clear HJ
  have x3 : World.cell? _ ⟨w.heap.size, 3, none⟩ = some (.slice A0_3 l0_3.length c0_3) := (blk_cell HI.out.1 3).trans (by rw [HX.out]; rfl)
  go_wp2
  go_ret3
  exact ⟨_, _, rfl, (apart_u8 HI.out.r8 HI.out.r11 HAP.out).1, (apart_u8 HI.out.r8 HI.out.r11 HAP.out).2, HI.out.b⟩
theorem set5 {W : World} {g : Nat} {a0 a1 a2 a3 a4 : Value} (hb : W.heap[g]? = some (.cells #[a0, a1, a2, a3, a4] 58 (0, 0))) (b0 b1 b2 b3 b4 : Value) :
    (((((W.setCell ⟨g, 0, none⟩ b0).setCell ⟨g, 1, none⟩ b1).setCell ⟨g, 2, none⟩ b2).setCell ⟨g, 3, none⟩ b3).setCell ⟨g, 4, none⟩ b4).heap[g]? = some (.cells #[b0, b1, b2, b3, b4] 58 (0, 0)) ∧
    ∀ k, k ≠ g → (((((W.setCell ⟨g, 0, none⟩ b0).setCell ⟨g, 1, none⟩ b1).setCell ⟨g, 2, none⟩ b2).setCell ⟨g, 3, none⟩ b3).setCell ⟨g, 4, none⟩ b4).heap[k]? = W.heap[k]? := by
  refine ⟨blk_put (blk_put (blk_put (blk_put (blk_put hb 0 b0 rfl) 1 b1 rfl) 2 b2 rfl) 3 b3 rfl) 4 b4 rfl, fun k hk => ?_⟩
  rw [Below.heap_setCell _ ⟨g, 4, none⟩ _ k hk, Below.heap_setCell _ ⟨g, 3, none⟩ _ k hk, Below.heap_setCell _ ⟨g, 2, none⟩ _ k hk, Below.heap_setCell _ ⟨g, 1, none⟩ _ k hk, Below.heap_setCell _ ⟨g, 0, none⟩ _ k hk]
theorem R_but {α : Type} {d : Kd α} {e : Nat} {W W' : World} {base : Nat} {ok : Nat → Prop} {v : Value} {xs : List α} (h : d.R e W base ok v xs) {g t : Nat} {cells : Array Value} (hb : W.heap[g]? = some (.cells cells t (0, 0))) (ht : ∀ q, q ∈ e :: d.E → q ≠ t) (hk : ∀ k, k ≠ g → W'.heap[k]? = W.heap[k]?) :
    d.R e W' base ok v xs := Kd.R_mono (Kd.R_step (Kd.R_types h hb ht) (fun k h1 _ => hk k h1.2)) (fun _ h1 => h1.1)
theorem RS.one {w W W' : World} {cx : Array Value} {gl gu : Nat} {tl tu tl' : S58} {v7 v8 v10 v11 : Value} {vs : List S25} {be lo hi : List Int} (h : RS w cx gl gu tl tu v7 vs v8 be v10 lo v11 hi W) (hne : gl ≠ gu) (hg : W'.heap[gl]? = some (.cells #[.int .i64 tl'.f0, .int .i64 tl'.f1, .int .i64 tl'.f2.f0, .int .i64 tl'.f2.f1, .string tl'.f2.f2] 58 (0, 0))) (hk : ∀ k, k ≠ gl → W'.heap[k]? = W.heap[k]?) (hb : Below w.heap.size w W') :
    RS w cx gl gu tl' tu v7 vs v8 be v10 lo v11 hi W' :=
  ⟨⟨(hk _ (blk_ne h.1.1 h.1.2.1 (by decide))).trans h.1.1, hg, (hk _ (fun e => hne e.symm)).trans h.1.2.2.1, hb⟩, R_but h.2.1 h.1.2.1 (by decide) hk, R_but h.2.2.1 h.1.2.1 (by decide) hk, R_but h.2.2.2.1 h.1.2.1 (by decide) hk, R_but h.2.2.2.2 h.1.2.1 (by decide) hk⟩
theorem RS.exch {w W : World} {cx : Array Value} {gl gu : Nat} {tl tu : S58} {v7 v8 v10 v11 : Value} {vs : List S25} {be lo hi : List Int} (h : RS w cx gl gu tl tu v7 vs v8 be v10 lo v11 hi W) (hne : gl ≠ gu) (hgl : w.heap.size ≤ gl) (hgu : w.heap.size ≤ gu) : RS w cx gl gu tu tl v7 vs v8 be v10 lo v11 hi
    ((((((((((W.setCell ⟨gl, 0, none⟩ (.int .i64 tu.f0)).setCell ⟨gl, 1, none⟩ (.int .i64 tu.f1)).setCell ⟨gl, 2, none⟩ (.int .i64 tu.f2.f0)).setCell ⟨gl, 3, none⟩ (.int .i64 tu.f2.f1)).setCell ⟨gl, 4, none⟩ (.string tu.f2.f2)).setCell ⟨gu, 0, none⟩ (.int .i64 tl.f0)).setCell ⟨gu, 1, none⟩ (.int .i64 tl.f1)).setCell ⟨gu, 2, none⟩ (.int .i64 tl.f2.f0)).setCell ⟨gu, 3, none⟩ (.int .i64 tl.f2.f1)).setCell ⟨gu, 4, none⟩ (.string tl.f2.f2)) := by
  obtain ⟨a1, a2⟩ := set5 h.1.2.1 (.int .i64 tu.f0) (.int .i64 tu.f1) (.int .i64 tu.f2.f0) (.int .i64 tu.f2.f1) (.string tu.f2.f2)
  have h1 := h.one (tl' := tu) hne a1 a2 (below_set5 h.b hgl _ _ _ _ _ _ _ _ _ _)
  obtain ⟨c1, c2⟩ := set5 h1.1.2.2.1 (.int .i64 tl.f0) (.int .i64 tl.f1) (.int .i64 tl.f2.f0) (.int .i64 tl.f2.f1) (.string tl.f2.f2)
  exact (h1.swap.one (tl' := tl) (fun e => hne e.symm) c1 c2 (below_set5 h1.b hgu _ _ _ _ _ _ _ _ _ _)).swap
set_option maxHeartbeats 8000000 in
set_option maxRecDepth 100000 in
theorem quarryref19_Range.late_keep0 (k : Nat) (a0_0 : Int) (a0_1 : ByteArray) (a0_2 : ByteArray) (A0_3 : Option Addr) (c0_3 : Nat) (l0_3 : List Int) (A0_4 : Option Addr) (c0_4 : Nat) (l0_4 : List Bool) (a0_5 : Bool) (A1 : Option Addr) (c1 : Nat) (l1 : List (S58)) (w : World) (hr0_3 : Kd.C (Kd.int .i64) w A0_3 l0_3.length l0_3) (hc0_3 : l0_3.length ≤ c0_3) (hr0_4 : Kd.C Kd.bool w A0_4 l0_4.length l0_4) (hc0_4 : l0_4.length ≤ c0_4) (hr1 : Kd.C k58 w A1 l1.length l1) (hc1 : l1.length ≤ c1) (vs : List S25) (be : List Int) (be2 : Int) (hi : List Int) (ok : Bool) (hp : quarryref19_prefix.f k a0_0 a0_1 a0_2 l0_3 l0_4 a0_5 l1 = some vs) (he : quarryref03_Encode.f k vs l0_4 = some (be, be2)) (hn : quarryref03_Next.f k be = some (hi, ok)) (hlt : vs.length < l0_3.length) (hne : ¬ vs.length = l0_3.length) (col : Int) (hcol : rd l0_3 (vs.length : Int) = col) (t1 t2 : S58) (b1 b2 : Bool) (hf1 : quarryref19_first.f k l1 col 9 10 = some (t1.f0, t1.f1, t1.f2.f0, t1.f2.f1, t1.f2.f2, b1)) (hf2 : quarryref19_first.f k l1 col 7 8 = some (t2.f0, t2.f1, t2.f2.f0, t2.f2.f1, t2.f2.f2, b2)) (lo h1 : List Int) (h2 : Bool) (hlo : lowR k vs l0_4 be b1 t1 = some lo) (hhi : highR k vs l0_4 hi ok b2 t2 = some (h1, h2)) (hd : ¬ vs.length < l0_4.length) :
    Calls Try.prog 17 #[.agg #[.int .i64 a0_0, .string a0_1, .string a0_2, .slice A0_3 l0_3.length c0_3, .slice A0_4 l0_4.length c0_4, .bool a0_5], .slice A1 l1.length c1] w fun e w' => ∃ v0_ v1_ : Value, e = .returned (.tuple #[v0_, v1_, .bool (!h2)]) ∧ Kd.R (Kd.int .u8) 5 w' w.heap.size (fun k_ => some k_ ≠ (v1_ : Value).ownBlock) v0_ lo ∧ Kd.R (Kd.int .u8) 5 w' w.heap.size (fun k_ => some k_ ≠ (v0_ : Value).ownBlock) v1_ (if h2 = true then h1 else []) ∧ Below w.heap.size w w' := by
  have hu41 := Try.underlying41
  have hu58 := Try.underlying58
  have hu25 := Try.underlying25
  have HR3 := Aside0.mk (And.intro hr0_3 hc0_3)
  have HR4 := Aside0.mk (And.intro hr0_4 hc0_4)
  have HR1 := Aside0.mk (And.intro hr1 hc1)
  have HP := Aside0.mk hp
  have HE := Aside0.mk he
  have HN := Aside0.mk hn
  obtain ⟨cx, hcx⟩ : ∃ cx : Array Value, cx = #[.int .i64 a0_0, .string a0_1, .string a0_2, .slice A0_3 l0_3.length c0_3, .slice A0_4 l0_4.length c0_4, .bool a0_5] := ⟨_, rfl⟩
  have HX := Aside0.mk hcx
  clear hr0_3 hc0_3 hr0_4 hc0_4 hr1 hc1 hp he hn hcx
  have q1 : ((vs.length : Int) == (l0_3.length : Int)) = false := by simp; omega
  have q2 : (vs.length == l0_3.length) = false := by simp; omega
  have p3 : (0 : Int) ≤ (vs.length : Int) := by omega
  have q3 : (vs.length : Int) < (l0_3.length : Int) := by omega
  obtain ⟨ad3, e3, y3⟩ := Kd.at_int HR3.out.1 (vs.length : Int) p3 q3
  cases e3
  have HCOL := Aside0.mk hcol
  rw [hcol] at y3
  simp only [Int.toNat_natCast] at y3
  have d3 : decide (vs.length < l0_3.length) = true := decide_eq_true hlt
  replace p3 := eq_true p3
  replace q3 := eq_true q3
  have H1 := Aside0.mk hf1
  have H2 := Aside0.mk hf2
  have HLO := Aside0.mk hlo
  have HHI := Aside0.mk hhi
  have s1 : decide ((vs.length : Int) < (l0_4.length : Int)) = false := decide_eq_false (by omega)
  have s2 : decide (vs.length < l0_4.length) = false := decide_eq_false hd
  clear hd
  clear hlt hne hcol hf1 hf2 hlo hhi
  go_enter Try.func17, Try.ntmps17
  go_upto_region 1 with fail
  refine at_world (fun W => QS w #[.int .i64 a0_0, .string a0_1, .string a0_2, .slice (some ad3) l0_3.length c0_3, .slice A0_4 l0_4.length c0_4, .bool a0_5] (.slice none 0 0) [] (.slice none 0 0) [] (.slice none 0 0) [] W) ⟨Deep.blk_alloc_new w _, below_alloc (Below.refl _ _) _, Kd.R_nil _ _ _ _ _, Kd.R_nil _ _ _ _ _, Kd.R_nil _ _ _ _ _⟩ (fun W hI => ?_)
  rw [← HX.out] at hI
  have HI := Aside0.mk hI
  clear hI
  have x0 : World.cell? _ ⟨w.heap.size, 0, none⟩ = some (.int .i64 a0_0) := (blk_cell HI.out.1 0).trans (by rw [HX.out]; rfl)
  have x1 : World.cell? _ ⟨w.heap.size, 1, none⟩ = some (.string a0_1) := (blk_cell HI.out.1 1).trans (by rw [HX.out]; rfl)
  have x2 : World.cell? _ ⟨w.heap.size, 2, none⟩ = some (.string a0_2) := (blk_cell HI.out.1 2).trans (by rw [HX.out]; rfl)
  have x3 : World.cell? _ ⟨w.heap.size, 3, none⟩ = some (.slice (some ad3) l0_3.length c0_3) := (blk_cell HI.out.1 3).trans (by rw [HX.out]; rfl)
  have x4 : World.cell? _ ⟨w.heap.size, 4, none⟩ = some (.slice A0_4 l0_4.length c0_4) := (blk_cell HI.out.1 4).trans (by rw [HX.out]; rfl)
  have x5 : World.cell? _ ⟨w.heap.size, 5, none⟩ = some (.bool a0_5) := (blk_cell HI.out.1 5).trans (by rw [HX.out]; rfl)
  go_upto_region 2 with (go_at_call 36; (with_reducible refine (quarryref19_prefix.calls k a0_0 a0_1 a0_2 (some ad3) c0_3 l0_3 A0_4 c0_4 l0_4 a0_5 A1 c1 l1 vs _ (Kd.C_below HR3.out.1 HI.out.b) HR3.out.2 (Kd.C_below HR4.out.1 HI.out.b) HR4.out.2 (Kd.C_below HR1.out.1 HI.out.b) HR1.out.2 HP.out).mono ?_); rintro e w2 ⟨v7, rfl, ho, hb⟩; obtain ⟨A7, c7, e7⟩ := Kd.R_slice ho; subst e7; have HJ : Aside0 (QS w cx (.slice A7 vs.length c7) vs (.slice none 0 0) [] (.slice none 0 0) [] w2) := ⟨blk_below HI.out.1 hb, below_step HI.out.b hb, Kd.R_lower ho (below_size HI.out.b), Kd.R_nil _ _ _ _ _, Kd.R_nil _ _ _ _ _⟩; clear ho hb HI x0 x1 x2 x3 x4 x5)
  have HI := HJ
  clear HJ
  have x4 : World.cell? _ ⟨w.heap.size, 4, none⟩ = some (.slice A0_4 l0_4.length c0_4) := (blk_cell HI.out.1 4).trans (by rw [HX.out]; rfl)
  go_upto_region 3 with (go_at_call 23; (with_reducible refine (quarryref03_Encode.calls k A7 c7 vs A0_4 c0_4 l0_4 be be2 _ (Kd.R_reads' HI.out.r7).2.2 (Kd.R_reads' HI.out.r7).2.1 (Kd.C_below HR4.out.1 HI.out.b) HR4.out.2 HE.out).mono ?_); rintro e w3 ⟨v8, rfl, ho, hb⟩; obtain ⟨A8, c8, e8⟩ := Kd.R_slice ho; subst e8; have HJ : Aside0 (QS w cx (.slice A7 vs.length c7) vs (.slice A8 be.length c8) be (.slice none 0 0) [] w3) := ⟨blk_below HI.out.1 hb, below_step HI.out.b hb, Kd.R_below HI.out.r7 hb, Kd.R_lower ho (below_size HI.out.b), Kd.R_nil _ _ _ _ _⟩; clear ho hb HI x4)
  have HI := HJ
  clear HJ
  go_upto_region 5 with (go_at_call 37; (with_reducible refine (quarryref03_Next.calls k A8 c8 be hi ok _ (Kd.R_reads' HI.out.r8).2.2 (Kd.R_reads' HI.out.r8).2.1 HN.out).mono ?_); rintro e w4 ⟨v11, rfl, ho, hb⟩; have HAP := Aside0.mk (apart_of HI.out.r8 ho); have HJ : Aside0 (QS w cx (.slice A7 vs.length c7) vs (.slice A8 be.length c8) be v11 hi w4) := ⟨blk_below HI.out.1 hb, below_step HI.out.b hb, Kd.R_below HI.out.r7 hb, Kd.R_below HI.out.r8 hb, Kd.R_lower ho (below_size HI.out.b)⟩; clear ho hb HI)
  have HI := HJ
  clear HJ
  have x3 : World.cell? _ ⟨w.heap.size, 3, none⟩ = some (.slice (some ad3) l0_3.length c0_3) := (blk_cell HI.out.1 3).trans (by rw [HX.out]; rfl)
  replace y3 := (HI.out.b.cell (World.block_lt_of_cell? w _ y3)).trans y3
  go_upto_region 9 with (go_at_call 38; (with_reducible refine (quarryref19_first.calls k A1 c1 l1 col 9 10 t1.f0 t1.f1 t1.f2.f0 t1.f2.f1 t1.f2.f2 b1 _ (Kd.C_below HR1.out.1 HI.out.b) HR1.out.2 H1.out).mono ?_); rintro e w5 ⟨rfl, hb⟩; have HJ := Aside0.mk (HI.out.below hb); clear hb)
  clear y3 x3
  refine at_world (fun W' => QS w cx (.slice A7 vs.length c7) vs (.slice A8 be.length c8) be v11 hi W' ∧ W'.heap[w5.heap.size]? = some (.cells #[.int .i64 t1.f0, .int .i64 t1.f1, .int .i64 t1.f2.f0, .int .i64 t1.f2.f1, .string t1.f2.f2] 58 (0, 0))) ⟨HJ.out.below (below_alloc (Below.refl _ _) _), Deep.blk_alloc_new w5 _⟩ (fun W1 hI => ?_)
  have HW5 := Aside0.mk (below_size HJ.out.b)
  clear HI HJ
  have HI := Aside0.mk hI.1
  have HG := Aside0.mk hI.2
  clear hI
  go_upto_region 10 with (go_at_call 38; (with_reducible refine (quarryref19_first.calls k A1 c1 l1 col 7 8 t2.f0 t2.f1 t2.f2.f0 t2.f2.f1 t2.f2.f2 b2 _ (Kd.C_below HR1.out.1 HI.out.b) HR1.out.2 H2.out).mono ?_); rintro e w5_1 ⟨rfl, hb⟩; have HJ := Aside0.mk (HI.out.below hb); have HG1 := Aside0.mk (blk_below HG.out hb); clear hb HG)
  refine at_world (fun W' => RS w cx w5.heap.size w5_1.heap.size t1 t2 (.slice A7 vs.length c7) vs (.slice A8 be.length c8) be (.slice A8 be.length c8) be v11 hi W' ∧ w5.heap.size ≠ w5_1.heap.size ∧ w.heap.size ≤ w5.heap.size ∧ w.heap.size ≤ w5_1.heap.size) ?rr (fun W2 hI => ?_)
  case rr =>
    have hba := below_alloc (Below.refl w5_1.heap.size w5_1) (.cells #[.int .i64 t2.f0, .int .i64 t2.f1, .int .i64 t2.f2.f0, .int .i64 t2.f2.f1, .string t2.f2.f2] 58)
    have hk := HJ.out.below hba
    have hg1 := blk_below HG1.out hba
    exact ⟨⟨⟨hk.1, hg1, Deep.blk_alloc_new w5_1 _, hk.b⟩, hk.2.2.1, hk.2.2.2.1, hk.2.2.2.1, hk.2.2.2.2⟩, Nat.ne_of_lt (blk_lt HG1.out), HW5.out, below_size HJ.out.b⟩
  clear HI HJ HG1
  have HI := Aside0.mk hI.1
  have HNE := Aside0.mk hI.2.1
  have HNE2 := Aside0.mk hI.2.2
  clear hI
  have x4 : World.cell? _ ⟨w.heap.size, 4, none⟩ = some (.slice A0_4 l0_4.length c0_4) := (blk_cell HI.out.1.1 4).trans (by rw [HX.out]; rfl)
  go_upto_region 12 with fail
  exact quarryref19_Range.low k w cx a0_0 a0_1 a0_2 _ c0_3 l0_3 _ c0_4 l0_4 a0_5 w5.heap.size w5_1.heap.size t1 t2 A7 c7 vs _ v11 be hi ok b2 _ _ _ _ HX HR4 HI b1 HAP h1 h2 HLO.out HHI.out rfl rfl _ _ (by assumption) (by assumption)
set_option maxHeartbeats 8000000 in
set_option maxRecDepth 100000 in
theorem quarryref19_Range.late_keep1 (k : Nat) (a0_0 : Int) (a0_1 : ByteArray) (a0_2 : ByteArray) (A0_3 : Option Addr) (c0_3 : Nat) (l0_3 : List Int) (A0_4 : Option Addr) (c0_4 : Nat) (l0_4 : List Bool) (a0_5 : Bool) (A1 : Option Addr) (c1 : Nat) (l1 : List (S58)) (w : World) (hr0_3 : Kd.C (Kd.int .i64) w A0_3 l0_3.length l0_3) (hc0_3 : l0_3.length ≤ c0_3) (hr0_4 : Kd.C Kd.bool w A0_4 l0_4.length l0_4) (hc0_4 : l0_4.length ≤ c0_4) (hr1 : Kd.C k58 w A1 l1.length l1) (hc1 : l1.length ≤ c1) (vs : List S25) (be : List Int) (be2 : Int) (hi : List Int) (ok : Bool) (hp : quarryref19_prefix.f k a0_0 a0_1 a0_2 l0_3 l0_4 a0_5 l1 = some vs) (he : quarryref03_Encode.f k vs l0_4 = some (be, be2)) (hn : quarryref03_Next.f k be = some (hi, ok)) (hlt : vs.length < l0_3.length) (hne : ¬ vs.length = l0_3.length) (col : Int) (hcol : rd l0_3 (vs.length : Int) = col) (t1 t2 : S58) (b1 b2 : Bool) (hf1 : quarryref19_first.f k l1 col 9 10 = some (t1.f0, t1.f1, t1.f2.f0, t1.f2.f1, t1.f2.f2, b1)) (hf2 : quarryref19_first.f k l1 col 7 8 = some (t2.f0, t2.f1, t2.f2.f0, t2.f2.f1, t2.f2.f2, b2)) (lo h1 : List Int) (h2 : Bool) (hlo : lowR k vs l0_4 be b1 t1 = some lo) (hhi : highR k vs l0_4 hi ok b2 t2 = some (h1, h2)) (hd : vs.length < l0_4.length) (hsw : rdOf false l0_4 (vs.length : Int) = false) :
    Calls Try.prog 17 #[.agg #[.int .i64 a0_0, .string a0_1, .string a0_2, .slice A0_3 l0_3.length c0_3, .slice A0_4 l0_4.length c0_4, .bool a0_5], .slice A1 l1.length c1] w fun e w' => ∃ v0_ v1_ : Value, e = .returned (.tuple #[v0_, v1_, .bool (!h2)]) ∧ Kd.R (Kd.int .u8) 5 w' w.heap.size (fun k_ => some k_ ≠ (v1_ : Value).ownBlock) v0_ lo ∧ Kd.R (Kd.int .u8) 5 w' w.heap.size (fun k_ => some k_ ≠ (v0_ : Value).ownBlock) v1_ (if h2 = true then h1 else []) ∧ Below w.heap.size w w' := by
  have hu41 := Try.underlying41
  have hu58 := Try.underlying58
  have hu25 := Try.underlying25
  have HR3 := Aside0.mk (And.intro hr0_3 hc0_3)
  have HR4 := Aside0.mk (And.intro hr0_4 hc0_4)
  have HR1 := Aside0.mk (And.intro hr1 hc1)
  have HP := Aside0.mk hp
  have HE := Aside0.mk he
  have HN := Aside0.mk hn
  obtain ⟨cx, hcx⟩ : ∃ cx : Array Value, cx = #[.int .i64 a0_0, .string a0_1, .string a0_2, .slice A0_3 l0_3.length c0_3, .slice A0_4 l0_4.length c0_4, .bool a0_5] := ⟨_, rfl⟩
  have HX := Aside0.mk hcx
  clear hr0_3 hc0_3 hr0_4 hc0_4 hr1 hc1 hp he hn hcx
  have q1 : ((vs.length : Int) == (l0_3.length : Int)) = false := by simp; omega
  have q2 : (vs.length == l0_3.length) = false := by simp; omega
  have p3 : (0 : Int) ≤ (vs.length : Int) := by omega
  have q3 : (vs.length : Int) < (l0_3.length : Int) := by omega
  obtain ⟨ad3, e3, y3⟩ := Kd.at_int HR3.out.1 (vs.length : Int) p3 q3
  cases e3
  have HCOL := Aside0.mk hcol
  rw [hcol] at y3
  simp only [Int.toNat_natCast] at y3
  have d3 : decide (vs.length < l0_3.length) = true := decide_eq_true hlt
  replace p3 := eq_true p3
  replace q3 := eq_true q3
  have H1 := Aside0.mk hf1
  have H2 := Aside0.mk hf2
  have HLO := Aside0.mk hlo
  have HHI := Aside0.mk hhi
  have p4 : (0 : Int) ≤ (vs.length : Int) := by omega
  have q4 : (vs.length : Int) < (l0_4.length : Int) := by omega
  obtain ⟨ad4, e4, y4⟩ := Kd.at_bool HR4.out.1 (vs.length : Int) p4 q4
  cases e4
  rw [hsw] at y4
  simp only [Int.toNat_natCast] at y4
  have s1 : decide ((vs.length : Int) < (l0_4.length : Int)) = true := decide_eq_true q4
  have s2 : decide (vs.length < l0_4.length) = true := decide_eq_true hd
  replace p4 := eq_true p4
  replace q4 := eq_true q4
  clear hsw hd
  clear hlt hne hcol hf1 hf2 hlo hhi
  go_enter Try.func17, Try.ntmps17
  go_upto_region 1 with fail
  refine at_world (fun W => QS w #[.int .i64 a0_0, .string a0_1, .string a0_2, .slice (some ad3) l0_3.length c0_3, .slice (some ad4) l0_4.length c0_4, .bool a0_5] (.slice none 0 0) [] (.slice none 0 0) [] (.slice none 0 0) [] W) ⟨Deep.blk_alloc_new w _, below_alloc (Below.refl _ _) _, Kd.R_nil _ _ _ _ _, Kd.R_nil _ _ _ _ _, Kd.R_nil _ _ _ _ _⟩ (fun W hI => ?_)
  rw [← HX.out] at hI
  have HI := Aside0.mk hI
  clear hI
  have x0 : World.cell? _ ⟨w.heap.size, 0, none⟩ = some (.int .i64 a0_0) := (blk_cell HI.out.1 0).trans (by rw [HX.out]; rfl)
  have x1 : World.cell? _ ⟨w.heap.size, 1, none⟩ = some (.string a0_1) := (blk_cell HI.out.1 1).trans (by rw [HX.out]; rfl)
  have x2 : World.cell? _ ⟨w.heap.size, 2, none⟩ = some (.string a0_2) := (blk_cell HI.out.1 2).trans (by rw [HX.out]; rfl)
  have x3 : World.cell? _ ⟨w.heap.size, 3, none⟩ = some (.slice (some ad3) l0_3.length c0_3) := (blk_cell HI.out.1 3).trans (by rw [HX.out]; rfl)
  have x4 : World.cell? _ ⟨w.heap.size, 4, none⟩ = some (.slice (some ad4) l0_4.length c0_4) := (blk_cell HI.out.1 4).trans (by rw [HX.out]; rfl)
  have x5 : World.cell? _ ⟨w.heap.size, 5, none⟩ = some (.bool a0_5) := (blk_cell HI.out.1 5).trans (by rw [HX.out]; rfl)
  go_upto_region 2 with (go_at_call 36; (with_reducible refine (quarryref19_prefix.calls k a0_0 a0_1 a0_2 (some ad3) c0_3 l0_3 (some ad4) c0_4 l0_4 a0_5 A1 c1 l1 vs _ (Kd.C_below HR3.out.1 HI.out.b) HR3.out.2 (Kd.C_below HR4.out.1 HI.out.b) HR4.out.2 (Kd.C_below HR1.out.1 HI.out.b) HR1.out.2 HP.out).mono ?_); rintro e w2 ⟨v7, rfl, ho, hb⟩; obtain ⟨A7, c7, e7⟩ := Kd.R_slice ho; subst e7; have HJ : Aside0 (QS w cx (.slice A7 vs.length c7) vs (.slice none 0 0) [] (.slice none 0 0) [] w2) := ⟨blk_below HI.out.1 hb, below_step HI.out.b hb, Kd.R_lower ho (below_size HI.out.b), Kd.R_nil _ _ _ _ _, Kd.R_nil _ _ _ _ _⟩; clear ho hb HI x0 x1 x2 x3 x4 x5)
  have HI := HJ
  clear HJ
  have x4 : World.cell? _ ⟨w.heap.size, 4, none⟩ = some (.slice (some ad4) l0_4.length c0_4) := (blk_cell HI.out.1 4).trans (by rw [HX.out]; rfl)
  go_upto_region 3 with (go_at_call 23; (with_reducible refine (quarryref03_Encode.calls k A7 c7 vs (some ad4) c0_4 l0_4 be be2 _ (Kd.R_reads' HI.out.r7).2.2 (Kd.R_reads' HI.out.r7).2.1 (Kd.C_below HR4.out.1 HI.out.b) HR4.out.2 HE.out).mono ?_); rintro e w3 ⟨v8, rfl, ho, hb⟩; obtain ⟨A8, c8, e8⟩ := Kd.R_slice ho; subst e8; have HJ : Aside0 (QS w cx (.slice A7 vs.length c7) vs (.slice A8 be.length c8) be (.slice none 0 0) [] w3) := ⟨blk_below HI.out.1 hb, below_step HI.out.b hb, Kd.R_below HI.out.r7 hb, Kd.R_lower ho (below_size HI.out.b), Kd.R_nil _ _ _ _ _⟩; clear ho hb HI x4)
  have HI := HJ
  clear HJ
  go_upto_region 5 with (go_at_call 37; (with_reducible refine (quarryref03_Next.calls k A8 c8 be hi ok _ (Kd.R_reads' HI.out.r8).2.2 (Kd.R_reads' HI.out.r8).2.1 HN.out).mono ?_); rintro e w4 ⟨v11, rfl, ho, hb⟩; have HAP := Aside0.mk (apart_of HI.out.r8 ho); have HJ : Aside0 (QS w cx (.slice A7 vs.length c7) vs (.slice A8 be.length c8) be v11 hi w4) := ⟨blk_below HI.out.1 hb, below_step HI.out.b hb, Kd.R_below HI.out.r7 hb, Kd.R_below HI.out.r8 hb, Kd.R_lower ho (below_size HI.out.b)⟩; clear ho hb HI)
  have HI := HJ
  clear HJ
  have x3 : World.cell? _ ⟨w.heap.size, 3, none⟩ = some (.slice (some ad3) l0_3.length c0_3) := (blk_cell HI.out.1 3).trans (by rw [HX.out]; rfl)
  replace y3 := (HI.out.b.cell (World.block_lt_of_cell? w _ y3)).trans y3
  go_upto_region 9 with (go_at_call 38; (with_reducible refine (quarryref19_first.calls k A1 c1 l1 col 9 10 t1.f0 t1.f1 t1.f2.f0 t1.f2.f1 t1.f2.f2 b1 _ (Kd.C_below HR1.out.1 HI.out.b) HR1.out.2 H1.out).mono ?_); rintro e w5 ⟨rfl, hb⟩; have HJ := Aside0.mk (HI.out.below hb); clear hb)
  clear y3 x3
  refine at_world (fun W' => QS w cx (.slice A7 vs.length c7) vs (.slice A8 be.length c8) be v11 hi W' ∧ W'.heap[w5.heap.size]? = some (.cells #[.int .i64 t1.f0, .int .i64 t1.f1, .int .i64 t1.f2.f0, .int .i64 t1.f2.f1, .string t1.f2.f2] 58 (0, 0))) ⟨HJ.out.below (below_alloc (Below.refl _ _) _), Deep.blk_alloc_new w5 _⟩ (fun W1 hI => ?_)
  have HW5 := Aside0.mk (below_size HJ.out.b)
  clear HI HJ
  have HI := Aside0.mk hI.1
  have HG := Aside0.mk hI.2
  clear hI
  go_upto_region 10 with (go_at_call 38; (with_reducible refine (quarryref19_first.calls k A1 c1 l1 col 7 8 t2.f0 t2.f1 t2.f2.f0 t2.f2.f1 t2.f2.f2 b2 _ (Kd.C_below HR1.out.1 HI.out.b) HR1.out.2 H2.out).mono ?_); rintro e w5_1 ⟨rfl, hb⟩; have HJ := Aside0.mk (HI.out.below hb); have HG1 := Aside0.mk (blk_below HG.out hb); clear hb HG)
  refine at_world (fun W' => RS w cx w5.heap.size w5_1.heap.size t1 t2 (.slice A7 vs.length c7) vs (.slice A8 be.length c8) be (.slice A8 be.length c8) be v11 hi W' ∧ w5.heap.size ≠ w5_1.heap.size ∧ w.heap.size ≤ w5.heap.size ∧ w.heap.size ≤ w5_1.heap.size) ?rr (fun W2 hI => ?_)
  case rr =>
    have hba := below_alloc (Below.refl w5_1.heap.size w5_1) (.cells #[.int .i64 t2.f0, .int .i64 t2.f1, .int .i64 t2.f2.f0, .int .i64 t2.f2.f1, .string t2.f2.f2] 58)
    have hk := HJ.out.below hba
    have hg1 := blk_below HG1.out hba
    exact ⟨⟨⟨hk.1, hg1, Deep.blk_alloc_new w5_1 _, hk.b⟩, hk.2.2.1, hk.2.2.2.1, hk.2.2.2.1, hk.2.2.2.2⟩, Nat.ne_of_lt (blk_lt HG1.out), HW5.out, below_size HJ.out.b⟩
  clear HI HJ HG1
  have HI := Aside0.mk hI.1
  have HNE := Aside0.mk hI.2.1
  have HNE2 := Aside0.mk hI.2.2
  clear hI
  have x4 : World.cell? _ ⟨w.heap.size, 4, none⟩ = some (.slice (some ad4) l0_4.length c0_4) := (blk_cell HI.out.1.1 4).trans (by rw [HX.out]; rfl)
  replace y4 := (HI.out.b.cell (World.block_lt_of_cell? w _ y4)).trans y4
  go_upto_region 12 with fail
  exact quarryref19_Range.low k w cx a0_0 a0_1 a0_2 _ c0_3 l0_3 _ c0_4 l0_4 a0_5 w5.heap.size w5_1.heap.size t1 t2 A7 c7 vs _ v11 be hi ok b2 _ _ _ _ HX HR4 HI b1 HAP h1 h2 HLO.out HHI.out rfl rfl _ _ (by assumption) (by assumption)
set_option maxHeartbeats 8000000 in
set_option maxRecDepth 100000 in
theorem quarryref19_Range.late_swap (k : Nat) (a0_0 : Int) (a0_1 : ByteArray) (a0_2 : ByteArray) (A0_3 : Option Addr) (c0_3 : Nat) (l0_3 : List Int) (A0_4 : Option Addr) (c0_4 : Nat) (l0_4 : List Bool) (a0_5 : Bool) (A1 : Option Addr) (c1 : Nat) (l1 : List (S58)) (w : World) (hr0_3 : Kd.C (Kd.int .i64) w A0_3 l0_3.length l0_3) (hc0_3 : l0_3.length ≤ c0_3) (hr0_4 : Kd.C Kd.bool w A0_4 l0_4.length l0_4) (hc0_4 : l0_4.length ≤ c0_4) (hr1 : Kd.C k58 w A1 l1.length l1) (hc1 : l1.length ≤ c1) (vs : List S25) (be : List Int) (be2 : Int) (hi : List Int) (ok : Bool) (hp : quarryref19_prefix.f k a0_0 a0_1 a0_2 l0_3 l0_4 a0_5 l1 = some vs) (he : quarryref03_Encode.f k vs l0_4 = some (be, be2)) (hn : quarryref03_Next.f k be = some (hi, ok)) (hlt : vs.length < l0_3.length) (hne : ¬ vs.length = l0_3.length) (col : Int) (hcol : rd l0_3 (vs.length : Int) = col) (t1 t2 : S58) (b1 b2 : Bool) (hf1 : quarryref19_first.f k l1 col 9 10 = some (t1.f0, t1.f1, t1.f2.f0, t1.f2.f1, t1.f2.f2, b1)) (hf2 : quarryref19_first.f k l1 col 7 8 = some (t2.f0, t2.f1, t2.f2.f0, t2.f2.f1, t2.f2.f2, b2)) (lo h1 : List Int) (h2 : Bool) (hlo : lowR k vs l0_4 be b2 t2 = some lo) (hhi : highR k vs l0_4 hi ok b1 t1 = some (h1, h2)) (hd : vs.length < l0_4.length) (hsw : rdOf false l0_4 (vs.length : Int) = true) :
    Calls Try.prog 17 #[.agg #[.int .i64 a0_0, .string a0_1, .string a0_2, .slice A0_3 l0_3.length c0_3, .slice A0_4 l0_4.length c0_4, .bool a0_5], .slice A1 l1.length c1] w fun e w' => ∃ v0_ v1_ : Value, e = .returned (.tuple #[v0_, v1_, .bool (!h2)]) ∧ Kd.R (Kd.int .u8) 5 w' w.heap.size (fun k_ => some k_ ≠ (v1_ : Value).ownBlock) v0_ lo ∧ Kd.R (Kd.int .u8) 5 w' w.heap.size (fun k_ => some k_ ≠ (v0_ : Value).ownBlock) v1_ (if h2 = true then h1 else []) ∧ Below w.heap.size w w' := by
  have hu41 := Try.underlying41
  have hu58 := Try.underlying58
  have hu25 := Try.underlying25
  have HR3 := Aside0.mk (And.intro hr0_3 hc0_3)
  have HR4 := Aside0.mk (And.intro hr0_4 hc0_4)
  have HR1 := Aside0.mk (And.intro hr1 hc1)
  have HP := Aside0.mk hp
  have HE := Aside0.mk he
  have HN := Aside0.mk hn
  obtain ⟨cx, hcx⟩ : ∃ cx : Array Value, cx = #[.int .i64 a0_0, .string a0_1, .string a0_2, .slice A0_3 l0_3.length c0_3, .slice A0_4 l0_4.length c0_4, .bool a0_5] := ⟨_, rfl⟩
  have HX := Aside0.mk hcx
  clear hr0_3 hc0_3 hr0_4 hc0_4 hr1 hc1 hp he hn hcx
  have q1 : ((vs.length : Int) == (l0_3.length : Int)) = false := by simp; omega
  have q2 : (vs.length == l0_3.length) = false := by simp; omega
  have p3 : (0 : Int) ≤ (vs.length : Int) := by omega
  have q3 : (vs.length : Int) < (l0_3.length : Int) := by omega
  obtain ⟨ad3, e3, y3⟩ := Kd.at_int HR3.out.1 (vs.length : Int) p3 q3
  cases e3
  have HCOL := Aside0.mk hcol
  rw [hcol] at y3
  simp only [Int.toNat_natCast] at y3
  have d3 : decide (vs.length < l0_3.length) = true := decide_eq_true hlt
  replace p3 := eq_true p3
  replace q3 := eq_true q3
  have H1 := Aside0.mk hf1
  have H2 := Aside0.mk hf2
  have HLO := Aside0.mk hlo
  have HHI := Aside0.mk hhi
  have p4 : (0 : Int) ≤ (vs.length : Int) := by omega
  have q4 : (vs.length : Int) < (l0_4.length : Int) := by omega
  obtain ⟨ad4, e4, y4⟩ := Kd.at_bool HR4.out.1 (vs.length : Int) p4 q4
  cases e4
  rw [hsw] at y4
  simp only [Int.toNat_natCast] at y4
  have s1 : decide ((vs.length : Int) < (l0_4.length : Int)) = true := decide_eq_true q4
  have s2 : decide (vs.length < l0_4.length) = true := decide_eq_true hd
  replace p4 := eq_true p4
  replace q4 := eq_true q4
  clear hsw hd
  clear hlt hne hcol hf1 hf2 hlo hhi
  go_enter Try.func17, Try.ntmps17
  go_upto_region 1 with fail
  refine at_world (fun W => QS w #[.int .i64 a0_0, .string a0_1, .string a0_2, .slice (some ad3) l0_3.length c0_3, .slice (some ad4) l0_4.length c0_4, .bool a0_5] (.slice none 0 0) [] (.slice none 0 0) [] (.slice none 0 0) [] W) ⟨Deep.blk_alloc_new w _, below_alloc (Below.refl _ _) _, Kd.R_nil _ _ _ _ _, Kd.R_nil _ _ _ _ _, Kd.R_nil _ _ _ _ _⟩ (fun W hI => ?_)
  rw [← HX.out] at hI
  have HI := Aside0.mk hI
  clear hI
  have x0 : World.cell? _ ⟨w.heap.size, 0, none⟩ = some (.int .i64 a0_0) := (blk_cell HI.out.1 0).trans (by rw [HX.out]; rfl)
  have x1 : World.cell? _ ⟨w.heap.size, 1, none⟩ = some (.string a0_1) := (blk_cell HI.out.1 1).trans (by rw [HX.out]; rfl)
  have x2 : World.cell? _ ⟨w.heap.size, 2, none⟩ = some (.string a0_2) := (blk_cell HI.out.1 2).trans (by rw [HX.out]; rfl)
  have x3 : World.cell? _ ⟨w.heap.size, 3, none⟩ = some (.slice (some ad3) l0_3.length c0_3) := (blk_cell HI.out.1 3).trans (by rw [HX.out]; rfl)
  have x4 : World.cell? _ ⟨w.heap.size, 4, none⟩ = some (.slice (some ad4) l0_4.length c0_4) := (blk_cell HI.out.1 4).trans (by rw [HX.out]; rfl)
  have x5 : World.cell? _ ⟨w.heap.size, 5, none⟩ = some (.bool a0_5) := (blk_cell HI.out.1 5).trans (by rw [HX.out]; rfl)
  go_upto_region 2 with (go_at_call 36; (with_reducible refine (quarryref19_prefix.calls k a0_0 a0_1 a0_2 (some ad3) c0_3 l0_3 (some ad4) c0_4 l0_4 a0_5 A1 c1 l1 vs _ (Kd.C_below HR3.out.1 HI.out.b) HR3.out.2 (Kd.C_below HR4.out.1 HI.out.b) HR4.out.2 (Kd.C_below HR1.out.1 HI.out.b) HR1.out.2 HP.out).mono ?_); rintro e w2 ⟨v7, rfl, ho, hb⟩; obtain ⟨A7, c7, e7⟩ := Kd.R_slice ho; subst e7; have HJ : Aside0 (QS w cx (.slice A7 vs.length c7) vs (.slice none 0 0) [] (.slice none 0 0) [] w2) := ⟨blk_below HI.out.1 hb, below_step HI.out.b hb, Kd.R_lower ho (below_size HI.out.b), Kd.R_nil _ _ _ _ _, Kd.R_nil _ _ _ _ _⟩; clear ho hb HI x0 x1 x2 x3 x4 x5)
  have HI := HJ
  clear HJ
  have x4 : World.cell? _ ⟨w.heap.size, 4, none⟩ = some (.slice (some ad4) l0_4.length c0_4) := (blk_cell HI.out.1 4).trans (by rw [HX.out]; rfl)
  go_upto_region 3 with (go_at_call 23; (with_reducible refine (quarryref03_Encode.calls k A7 c7 vs (some ad4) c0_4 l0_4 be be2 _ (Kd.R_reads' HI.out.r7).2.2 (Kd.R_reads' HI.out.r7).2.1 (Kd.C_below HR4.out.1 HI.out.b) HR4.out.2 HE.out).mono ?_); rintro e w3 ⟨v8, rfl, ho, hb⟩; obtain ⟨A8, c8, e8⟩ := Kd.R_slice ho; subst e8; have HJ : Aside0 (QS w cx (.slice A7 vs.length c7) vs (.slice A8 be.length c8) be (.slice none 0 0) [] w3) := ⟨blk_below HI.out.1 hb, below_step HI.out.b hb, Kd.R_below HI.out.r7 hb, Kd.R_lower ho (below_size HI.out.b), Kd.R_nil _ _ _ _ _⟩; clear ho hb HI x4)
  have HI := HJ
  clear HJ
  go_upto_region 5 with (go_at_call 37; (with_reducible refine (quarryref03_Next.calls k A8 c8 be hi ok _ (Kd.R_reads' HI.out.r8).2.2 (Kd.R_reads' HI.out.r8).2.1 HN.out).mono ?_); rintro e w4 ⟨v11, rfl, ho, hb⟩; have HAP := Aside0.mk (apart_of HI.out.r8 ho); have HJ : Aside0 (QS w cx (.slice A7 vs.length c7) vs (.slice A8 be.length c8) be v11 hi w4) := ⟨blk_below HI.out.1 hb, below_step HI.out.b hb, Kd.R_below HI.out.r7 hb, Kd.R_below HI.out.r8 hb, Kd.R_lower ho (below_size HI.out.b)⟩; clear ho hb HI)
  have HI := HJ
  clear HJ
  have x3 : World.cell? _ ⟨w.heap.size, 3, none⟩ = some (.slice (some ad3) l0_3.length c0_3) := (blk_cell HI.out.1 3).trans (by rw [HX.out]; rfl)
  replace y3 := (HI.out.b.cell (World.block_lt_of_cell? w _ y3)).trans y3
  go_upto_region 9 with (go_at_call 38; (with_reducible refine (quarryref19_first.calls k A1 c1 l1 col 9 10 t1.f0 t1.f1 t1.f2.f0 t1.f2.f1 t1.f2.f2 b1 _ (Kd.C_below HR1.out.1 HI.out.b) HR1.out.2 H1.out).mono ?_); rintro e w5 ⟨rfl, hb⟩; have HJ := Aside0.mk (HI.out.below hb); clear hb)
  clear y3 x3
  refine at_world (fun W' => QS w cx (.slice A7 vs.length c7) vs (.slice A8 be.length c8) be v11 hi W' ∧ W'.heap[w5.heap.size]? = some (.cells #[.int .i64 t1.f0, .int .i64 t1.f1, .int .i64 t1.f2.f0, .int .i64 t1.f2.f1, .string t1.f2.f2] 58 (0, 0))) ⟨HJ.out.below (below_alloc (Below.refl _ _) _), Deep.blk_alloc_new w5 _⟩ (fun W1 hI => ?_)
  have HW5 := Aside0.mk (below_size HJ.out.b)
  clear HI HJ
  have HI := Aside0.mk hI.1
  have HG := Aside0.mk hI.2
  clear hI
  go_upto_region 10 with (go_at_call 38; (with_reducible refine (quarryref19_first.calls k A1 c1 l1 col 7 8 t2.f0 t2.f1 t2.f2.f0 t2.f2.f1 t2.f2.f2 b2 _ (Kd.C_below HR1.out.1 HI.out.b) HR1.out.2 H2.out).mono ?_); rintro e w5_1 ⟨rfl, hb⟩; have HJ := Aside0.mk (HI.out.below hb); have HG1 := Aside0.mk (blk_below HG.out hb); clear hb HG)
  refine at_world (fun W' => RS w cx w5.heap.size w5_1.heap.size t1 t2 (.slice A7 vs.length c7) vs (.slice A8 be.length c8) be (.slice A8 be.length c8) be v11 hi W' ∧ w5.heap.size ≠ w5_1.heap.size ∧ w.heap.size ≤ w5.heap.size ∧ w.heap.size ≤ w5_1.heap.size) ?rr (fun W2 hI => ?_)
  case rr =>
    have hba := below_alloc (Below.refl w5_1.heap.size w5_1) (.cells #[.int .i64 t2.f0, .int .i64 t2.f1, .int .i64 t2.f2.f0, .int .i64 t2.f2.f1, .string t2.f2.f2] 58)
    have hk := HJ.out.below hba
    have hg1 := blk_below HG1.out hba
    exact ⟨⟨⟨hk.1, hg1, Deep.blk_alloc_new w5_1 _, hk.b⟩, hk.2.2.1, hk.2.2.2.1, hk.2.2.2.1, hk.2.2.2.2⟩, Nat.ne_of_lt (blk_lt HG1.out), HW5.out, below_size HJ.out.b⟩
  clear HI HJ HG1
  have HI := Aside0.mk hI.1
  have HNE := Aside0.mk hI.2.1
  have HNE2 := Aside0.mk hI.2.2
  clear hI
  have x4 : World.cell? _ ⟨w.heap.size, 4, none⟩ = some (.slice (some ad4) l0_4.length c0_4) := (blk_cell HI.out.1.1 4).trans (by rw [HX.out]; rfl)
  replace y4 := (HI.out.b.cell (World.block_lt_of_cell? w _ y4)).trans y4
  have z0 : World.cell? _ ⟨w5.heap.size, 0, none⟩ = some (.int .i64 t1.f0) := (blk_cell HI.out.1.2.1 0).trans rfl
  have f0 := blk_frozen HI.out.1.2.1 0
  have u0 : World.cell? _ ⟨w5_1.heap.size, 0, none⟩ = some (.int .i64 t2.f0) := (blk_cell HI.out.1.2.2.1 0).trans rfl
  have g0 := blk_frozen HI.out.1.2.2.1 0
  have z1 : World.cell? _ ⟨w5.heap.size, 1, none⟩ = some (.int .i64 t1.f1) := (blk_cell HI.out.1.2.1 1).trans rfl
  have f1 := blk_frozen HI.out.1.2.1 1
  have u1 : World.cell? _ ⟨w5_1.heap.size, 1, none⟩ = some (.int .i64 t2.f1) := (blk_cell HI.out.1.2.2.1 1).trans rfl
  have g1 := blk_frozen HI.out.1.2.2.1 1
  have z2 : World.cell? _ ⟨w5.heap.size, 2, none⟩ = some (.int .i64 t1.f2.f0) := (blk_cell HI.out.1.2.1 2).trans rfl
  have f2 := blk_frozen HI.out.1.2.1 2
  have u2 : World.cell? _ ⟨w5_1.heap.size, 2, none⟩ = some (.int .i64 t2.f2.f0) := (blk_cell HI.out.1.2.2.1 2).trans rfl
  have g2 := blk_frozen HI.out.1.2.2.1 2
  have z3 : World.cell? _ ⟨w5.heap.size, 3, none⟩ = some (.int .i64 t1.f2.f1) := (blk_cell HI.out.1.2.1 3).trans rfl
  have f3 := blk_frozen HI.out.1.2.1 3
  have u3 : World.cell? _ ⟨w5_1.heap.size, 3, none⟩ = some (.int .i64 t2.f2.f1) := (blk_cell HI.out.1.2.2.1 3).trans rfl
  have g3 := blk_frozen HI.out.1.2.2.1 3
  have z4 : World.cell? _ ⟨w5.heap.size, 4, none⟩ = some (.string t1.f2.f2) := (blk_cell HI.out.1.2.1 4).trans rfl
  have f4 := blk_frozen HI.out.1.2.1 4
  have u4 : World.cell? _ ⟨w5_1.heap.size, 4, none⟩ = some (.string t2.f2.f2) := (blk_cell HI.out.1.2.2.1 4).trans rfl
  have g4 := blk_frozen HI.out.1.2.2.1 4
  have hne1 := HNE.out
  have hne2 : w5_1.heap.size ≠ w5.heap.size := fun e => HNE.out e.symm
  go_upto_region 12 with fail
  refine at_world (fun W' => RS w cx w5.heap.size w5_1.heap.size t2 t1 (.slice A7 vs.length c7) vs (.slice A8 be.length c8) be (.slice A8 be.length c8) be v11 hi W') (RS.exch HI.out HNE.out HNE2.out.1 HNE2.out.2) (fun W3 hI => ?_)
  clear HI z0 z1 z2 z3 z4 u0 u1 u2 u3 u4 f0 f1 f2 f3 f4 g0 g1 g2 g3 g4
  have HI := Aside0.mk hI
  clear hI
  exact quarryref19_Range.low k w cx a0_0 a0_1 a0_2 _ c0_3 l0_3 _ c0_4 l0_4 a0_5 w5.heap.size w5_1.heap.size t2 t1 A7 c7 vs _ v11 be hi ok b1 _ _ _ _ HX HR4 HI b2 HAP h1 h2 HLO.out HHI.out rfl rfl _ _ (by assumption) (by assumption)
theorem quarryref19_Range.calls (k : Nat) (a0_0 : Int) (a0_1 : ByteArray) (a0_2 : ByteArray) (A0_3 : Option Addr) (c0_3 : Nat) (l0_3 : List Int) (A0_4 : Option Addr) (c0_4 : Nat) (l0_4 : List Bool) (a0_5 : Bool) (A1 : Option Addr) (c1 : Nat) (l1 : List (S58)) (r1 : List Int) (r2 : List Int) (r3 : Bool) (w : World) (hr0_3 : Kd.C (Kd.int .i64) w A0_3 l0_3.length l0_3) (hc0_3 : l0_3.length ≤ c0_3) (hr0_4 : Kd.C Kd.bool w A0_4 l0_4.length l0_4) (hc0_4 : l0_4.length ≤ c0_4) (hr1 : Kd.C k58 w A1 l1.length l1) (hc1 : l1.length ≤ c1) (h : quarryref19_Range.f k a0_0 a0_1 a0_2 l0_3 l0_4 a0_5 l1 = some (r1, r2, r3)) :
    Calls Try.prog 17 #[.agg #[.int .i64 a0_0, .string a0_1, .string a0_2, .slice A0_3 l0_3.length c0_3, .slice A0_4 l0_4.length c0_4, .bool a0_5], .slice A1 l1.length c1] w fun e w' => ∃ v0_ v1_ : Value, e = .returned (.tuple #[v0_, v1_, .bool r3]) ∧ Kd.R (Kd.int .u8) 5 w' w.heap.size (fun k_ => some k_ ≠ (v1_ : Value).ownBlock) v0_ r1 ∧ Kd.R (Kd.int .u8) 5 w' w.heap.size (fun k_ => some k_ ≠ (v0_ : Value).ownBlock) v1_ r2 ∧ Below w.heap.size w w' := by
  unfold quarryref19_Range.f at h
  replace h := Option.bind_eq_some_iff.mp h
  obtain ⟨vs, hp, h⟩ := h
  replace h := Option.bind_eq_some_iff.mp h
  obtain ⟨⟨be, be2⟩, he, h⟩ := h
  replace h := Option.bind_eq_some_iff.mp h
  obtain ⟨⟨hi, ok⟩, hn, h⟩ := h
  by_cases hlen : vs.length = l0_3.length
  · simp only [hlen, if_true, Option.some.injEq, Prod.mk.injEq] at h
    obtain ⟨rfl, rfl, rfl⟩ := h
    exact quarryref19_Range.whole k a0_0 a0_1 a0_2 A0_3 c0_3 l0_3 A0_4 c0_4 l0_4 a0_5 A1 c1 l1 w hr0_3 hc0_3 hr0_4 hc0_4 hr1 hc1 vs be be2 hi ok hp he hn hlen
  rw [if_neg hlen] at h
  by_cases hlt : vs.length < l0_3.length
  case neg => rw [if_neg hlt] at h; cases h
  rw [if_pos hlt] at h
  replace h := Option.bind_eq_some_iff.mp h
  obtain ⟨⟨p0, p1, p2, p3, p4, p5⟩, hf1, h⟩ := h
  replace h := Option.bind_eq_some_iff.mp h
  obtain ⟨⟨q0, q1, q2, q3, q4, q5⟩, hf2, h⟩ := h
  have hg : ∀ lo up : S58 × Bool, endR k vs l0_4 be hi ok lo up = some (r1, r2, r3) → ∃ h1 h2, lowR k vs l0_4 be lo.2 lo.1 = some r1 ∧ highR k vs l0_4 hi ok up.2 up.1 = some (h1, h2) ∧ r2 = (if h2 = true then h1 else []) ∧ r3 = !h2 := by
    intro lo up h
    unfold endR at h
    replace h := Option.bind_eq_some_iff.mp h
    obtain ⟨low, h1, h⟩ := h
    replace h := Option.bind_eq_some_iff.mp h
    obtain ⟨⟨h3, h4⟩, h2, h⟩ := h
    simp only [Option.some.injEq, Prod.mk.injEq] at h
    obtain ⟨rfl, rfl, rfl⟩ := h
    exact ⟨h3, h4, h1, h2, rfl, rfl⟩
  by_cases hd : vs.length < l0_4.length
  · cases hb : rdOf false l0_4 (vs.length : Int) with
    | true =>
      have hs : swapB vs l0_4 = true := by simp [swapB, hd, hb]
      simp only [hs, if_true] at h
      obtain ⟨h1, h2, hlo, hhi, rfl, rfl⟩ := hg _ _ h
      exact quarryref19_Range.late_swap k a0_0 a0_1 a0_2 A0_3 c0_3 l0_3 A0_4 c0_4 l0_4 a0_5 A1 c1 l1 w hr0_3 hc0_3 hr0_4 hc0_4 hr1 hc1 vs be be2 hi ok hp he hn hlt hlen _ rfl ⟨p0, p1, ⟨p2, p3, p4⟩⟩ ⟨q0, q1, ⟨q2, q3, q4⟩⟩ p5 q5 hf1 hf2 r1 h1 h2 hlo hhi hd hb
    | false =>
      have hs : swapB vs l0_4 = false := by simp [swapB, hd, hb]
      simp only [hs, Bool.false_eq_true, if_false] at h
      obtain ⟨h1, h2, hlo, hhi, rfl, rfl⟩ := hg _ _ h
      exact quarryref19_Range.late_keep1 k a0_0 a0_1 a0_2 A0_3 c0_3 l0_3 A0_4 c0_4 l0_4 a0_5 A1 c1 l1 w hr0_3 hc0_3 hr0_4 hc0_4 hr1 hc1 vs be be2 hi ok hp he hn hlt hlen _ rfl ⟨p0, p1, ⟨p2, p3, p4⟩⟩ ⟨q0, q1, ⟨q2, q3, q4⟩⟩ p5 q5 hf1 hf2 r1 h1 h2 hlo hhi hd hb
  · have hs : swapB vs l0_4 = false := by simp [swapB, hd]
    simp only [hs, Bool.false_eq_true, if_false] at h
    obtain ⟨h1, h2, hlo, hhi, rfl, rfl⟩ := hg _ _ h
    exact quarryref19_Range.late_keep0 k a0_0 a0_1 a0_2 A0_3 c0_3 l0_3 A0_4 c0_4 l0_4 a0_5 A1 c1 l1 w hr0_3 hc0_3 hr0_4 hc0_4 hr1 hc1 vs be be2 hi ok hp he hn hlt hlen _ rfl ⟨p0, p1, ⟨p2, p3, p4⟩⟩ ⟨q0, q1, ⟨q2, q3, q4⟩⟩ p5 q5 hf1 hf2 r1 h1 h2 hlo hhi hd
end Go.Proofs.Ytmfenomjhmhogaa.P
end
section
namespace Go.Proofs.Ytmfenomjhmhogaa.P
open Go.RowKit Go.Proofs.YtmfenomjhmhogaaW.PrintWords Go.Proofs.YtmfenomjhmhogaaW.PrintLast Go.Proofs.YtmfenomjhmhogaaW.PrintMore
attribute [local go_sem] max2_int min2_int max_two min_two max_three min_three max_four min_four
set_option linter.unusedVariables false
set_option linter.unusedSimpArgs false
def quarrylaw19_BoundsRange.f (k : Nat) (a0_0 : Int) (a0_1 : ByteArray) (a0_2 : ByteArray) (l0_3 : List Int) (l0_4 : List Bool) (a0_5 : Bool) (l1 : List (S58)) (l2 : List (S41)) : Option (Bool) := (quarrylaw19_right.f k l1).bind fun t263 => (if t263 = true then ((quarrylaw19_its.f k l1).bind fun t264 => ((bounds_Range.f k a0_0 a0_1 a0_2 l0_3 l0_4 a0_5 t264).bind fun bt267 => ((quarryref19_Range.f k a0_0 a0_1 a0_2 l0_3 l0_4 a0_5 l1).bind fun bt274 => (if (strOfNums bt267.1).toList = (strOfNums bt274.1).toList then (if (strOfNums bt267.2.1).toList = (strOfNums bt274.2.1).toList then (if (bt267.2.2 == bt274.2.2) = true then ((quarrylaw19_its.f k l1).bind fun t281 => ((bounds_Best.f k l2 t281).bind fun t284 => ((quarryref19_Best.f k l2 l1).bind fun t285 => (some (t284 == t285))))) else (none)) else (none)) else (none))))) else (some true))
def quarrylaw19_BoundsRange.T3 : Bool × List (List Nat × List Nat) := (true, [([], []), ([], []), ([1], [1]), ([0, 2, 2], [0, 2]), ([3], [3]), ([4], [4]), ([4], [4]), ([4], [4]), ([5, 3, 0, 1, 2, 3, 4, 5], [5]), ([6, 8, 0, 1, 2, 3, 4, 5, 6, 8], [6]), ([7, 9, 0, 1, 2, 3, 4, 5, 6, 7, 8, 9], [7])])
def quarrylaw19_BoundsRange.B3 : List Nat := [0, 0, 2, 7, 15, 31, 31, 31, 63, 383, 1023]
theorem quarrylaw19_BoundsRange.tab3 : rtab .any (opsOf Try.f4 3) = quarrylaw19_BoundsRange.T3 := by kernel_rfl
theorem quarrylaw19_BoundsRange.bits3 : waitsOk quarrylaw19_BoundsRange.T3.2 quarrylaw19_BoundsRange.B3 = true := by kernel_rfl
set_option maxHeartbeats 8000000 in
set_option maxRecDepth 100000 in
theorem quarrylaw19_BoundsRange.calls (k : Nat) (a0_0 : Int) (a0_1 : ByteArray) (a0_2 : ByteArray) (A0_3 : Option Addr) (c0_3 : Nat) (l0_3 : List Int) (A0_4 : Option Addr) (c0_4 : Nat) (l0_4 : List Bool) (a0_5 : Bool) (A1 : Option Addr) (c1 : Nat) (l1 : List (S58)) (A2 : Option Addr) (c2 : Nat) (l2 : List (S41)) (r : Bool) (w : World) (hr0_3 : Kd.C (Kd.int .i64) w A0_3 l0_3.length l0_3) (hc0_3 : l0_3.length ≤ c0_3) (hr0_4 : Kd.C Kd.bool w A0_4 l0_4.length l0_4) (hc0_4 : l0_4.length ≤ c0_4) (hr1 : Kd.C k58 w A1 l1.length l1) (hc1 : l1.length ≤ c1) (hr2 : Kd.C k41 w A2 l2.length l2) (hc2 : l2.length ≤ c2) (h : quarrylaw19_BoundsRange.f k a0_0 a0_1 a0_2 l0_3 l0_4 a0_5 l1 l2 = some r) :
  Calls Try.prog 4 #[.agg #[.int .i64 a0_0, .string a0_1, .string a0_2, .slice A0_3 l0_3.length c0_3, .slice A0_4 l0_4.length c0_4, .bool a0_5], .slice A1 l1.length c1, .slice A2 l2.length c2] w fun e w' => e = .returned (.bool r) ∧ Below w.heap.size w w' := by
 have hu41 := Try.underlying41
 have HR0_3 := Aside0.mk hr0_3
 have HC0_3 := Aside0.mk hc0_3
 clear hr0_3 hc0_3
 have HR0_4 := Aside0.mk hr0_4
 have HC0_4 := Aside0.mk hc0_4
 clear hr0_4 hc0_4
 have HR1 := Aside0.mk hr1
 have HC1 := Aside0.mk hc1
 clear hr1 hc1
 have HR2 := Aside0.mk hr2
 have HC2 := Aside0.mk hc2
 clear hr2 hc2
 have HB := Aside0.mk (Below.refl w.heap.size w)
 have H : ((quarrylaw19_right.f k l1).bind fun t263 => (if t263 = true then ((quarrylaw19_its.f k l1).bind fun t264 => ((bounds_Range.f k a0_0 a0_1 a0_2 l0_3 l0_4 a0_5 t264).bind fun bt267 => ((quarryref19_Range.f k a0_0 a0_1 a0_2 l0_3 l0_4 a0_5 l1).bind fun bt274 => (if (strOfNums bt267.1).toList = (strOfNums bt274.1).toList then (if (strOfNums bt267.2.1).toList = (strOfNums bt274.2.1).toList then (if (bt267.2.2 == bt274.2.2) = true then ((quarrylaw19_its.f k l1).bind fun t281 => ((bounds_Best.f k l2 t281).bind fun t284 => ((quarryref19_Best.f k l2 l1).bind fun t285 => (some (t284 == t285))))) else (none)) else (none)) else (none))))) else (some true))) = some r := h
 clear h
 replace H := Option.bind_eq_some_iff.mp H
 obtain ⟨t263, A40, H⟩ := H
 replace H : (if t263 = true then ((quarrylaw19_its.f k l1).bind fun t264 => ((bounds_Range.f k a0_0 a0_1 a0_2 l0_3 l0_4 a0_5 t264).bind fun bt267 => ((quarryref19_Range.f k a0_0 a0_1 a0_2 l0_3 l0_4 a0_5 l1).bind fun bt274 => (if (strOfNums bt267.1).toList = (strOfNums bt274.1).toList then (if (strOfNums bt267.2.1).toList = (strOfNums bt274.2.1).toList then (if (bt267.2.2 == bt274.2.2) = true then ((quarrylaw19_its.f k l1).bind fun t281 => ((bounds_Best.f k l2 t281).bind fun t284 => ((quarryref19_Best.f k l2 l1).bind fun t285 => (some (t284 == t285))))) else (none)) else (none)) else (none))))) else (some true)) = some r := H
 have A4 := Aside0.mk A40
 clear A40
 by_cases c5 : t263 = true
 ·subst c5
  have H1 : ((quarrylaw19_its.f k l1).bind fun t264 => ((bounds_Range.f k a0_0 a0_1 a0_2 l0_3 l0_4 a0_5 t264).bind fun bt267 => ((quarryref19_Range.f k a0_0 a0_1 a0_2 l0_3 l0_4 a0_5 l1).bind fun bt274 => (if (strOfNums bt267.1).toList = (strOfNums bt274.1).toList then (if (strOfNums bt267.2.1).toList = (strOfNums bt274.2.1).toList then (if (bt267.2.2 == bt274.2.2) = true then ((quarrylaw19_its.f k l1).bind fun t281 => ((bounds_Best.f k l2 t281).bind fun t284 => ((quarryref19_Best.f k l2 l1).bind fun t285 => (some (t284 == t285))))) else (none)) else (none)) else (none))))) = some r := by rw [if_pos rfl] at H; exact H
  clear H
  have H := H1
  clear H1
  replace H := Option.bind_eq_some_iff.mp H
  obtain ⟨t264, A60, H⟩ := H
  replace H : ((bounds_Range.f k a0_0 a0_1 a0_2 l0_3 l0_4 a0_5 t264).bind fun bt267 => ((quarryref19_Range.f k a0_0 a0_1 a0_2 l0_3 l0_4 a0_5 l1).bind fun bt274 => (if (strOfNums bt267.1).toList = (strOfNums bt274.1).toList then (if (strOfNums bt267.2.1).toList = (strOfNums bt274.2.1).toList then (if (bt267.2.2 == bt274.2.2) = true then ((quarrylaw19_its.f k l1).bind fun t281 => ((bounds_Best.f k l2 t281).bind fun t284 => ((quarryref19_Best.f k l2 l1).bind fun t285 => (some (t284 == t285))))) else (none)) else (none)) else (none)))) = some r := H
  have A6 := Aside0.mk A60
  clear A60
  replace H := Option.bind_eq_some_iff.mp H
  obtain ⟨⟨t267, t270, t273⟩, A70, H⟩ := H
  replace H : ((quarryref19_Range.f k a0_0 a0_1 a0_2 l0_3 l0_4 a0_5 l1).bind fun bt274 => (if (strOfNums t267).toList = (strOfNums bt274.1).toList then (if (strOfNums t270).toList = (strOfNums bt274.2.1).toList then (if (t273 == bt274.2.2) = true then ((quarrylaw19_its.f k l1).bind fun t281 => ((bounds_Best.f k l2 t281).bind fun t284 => ((quarryref19_Best.f k l2 l1).bind fun t285 => (some (t284 == t285))))) else (none)) else (none)) else (none))) = some r := H
  have A7 := Aside0.mk A70
  clear A70
  replace H := Option.bind_eq_some_iff.mp H
  obtain ⟨⟨t274, t277, t280⟩, A80, H⟩ := H
  replace H : (if (strOfNums t267).toList = (strOfNums t274).toList then (if (strOfNums t270).toList = (strOfNums t277).toList then (if (t273 == t280) = true then ((quarrylaw19_its.f k l1).bind fun t281 => ((bounds_Best.f k l2 t281).bind fun t284 => ((quarryref19_Best.f k l2 l1).bind fun t285 => (some (t284 == t285))))) else (none)) else (none)) else (none)) = some r := H
  have A8 := Aside0.mk A80
  clear A80
  by_cases c9 : (strOfNums t267).toList = (strOfNums t274).toList
  ·rw [if_pos c9] at H
   have c9b0 : ((strOfNums t267).toList == (strOfNums t274).toList) = true := beq_iff_eq.mpr c9
   have c9b1 : ((strOfNums t267).toList != (strOfNums t274).toList) = false := bne_eq_false_iff_eq.mpr c9
   clear c9
   by_cases c10 : (strOfNums t270).toList = (strOfNums t277).toList
   ·rw [if_pos c10] at H
    have c10b0 : ((strOfNums t270).toList == (strOfNums t277).toList) = true := beq_iff_eq.mpr c10
    have c10b1 : ((strOfNums t270).toList != (strOfNums t277).toList) = false := bne_eq_false_iff_eq.mpr c10
    clear c10
    by_cases c11 : (t273 == t280) = true
    ·rw [if_pos c11] at H
     have c11b0 : (t273 == t280) = true := c11
     (try (have c11b1 : decide (t273 = t280) = true := by simpa using c11))
     (try (have c11b2 : (t273 == t280) = true := by simpa using c11))
     clear c11
     replace H := Option.bind_eq_some_iff.mp H
     obtain ⟨t281, A120, H⟩ := H
     replace H : ((bounds_Best.f k l2 t281).bind fun t284 => ((quarryref19_Best.f k l2 l1).bind fun t285 => (some (t284 == t285)))) = some r := H
     have A12 := Aside0.mk A120
     clear A120
     replace H := Option.bind_eq_some_iff.mp H
     obtain ⟨t284, A130, H⟩ := H
     replace H : ((quarryref19_Best.f k l2 l1).bind fun t285 => (some (t284 == t285))) = some r := H
     have A13 := Aside0.mk A130
     clear A130
     replace H := Option.bind_eq_some_iff.mp H
     obtain ⟨t285, A140, H⟩ := H
     replace H : (some (t284 == t285)) = some r := H
     have A14 := Aside0.mk A140
     clear A140
     obtain rfl := Option.some.inj H
     go_enter Try.func4, Try.ntmps4
     try go_wp2_with (first | ((with_reducible refine gate_dst (N := 3) rfl ?_); refine box_event ?hg (N := 3) ?hd (cs := #[.int .i64 a0_0, .string a0_1, .string a0_2, .slice A0_3 l0_3.length c0_3, .slice A0_4 l0_4.length c0_4, .bool a0_5]) (t := 41) ?hr ?_; (case hd => rfl); (case hg => rfl); (case hr => first | (go_simp; done) | (go_simp; rfl)); intro gb262 hg w15 hbox hb; have n0_ := Aside0.mk (below_step (by repeat (first | (with_reducible first | exact HB.out | apply below_alloc | apply pw_below_drewN | apply below_drew1) | exact HB.out)) hb); have n1_ := Aside0.mk (hbox); have n2_ := Aside0.mk ((by rw [hg]; exact (below_size (by repeat (first | (with_reducible first | exact HB.out | apply below_alloc | apply pw_below_drewN | apply below_drew1) | exact HB.out))) : w.heap.size ≤ gb262)); have n3_ := Aside0.mk ((by rw [hg]; exact (below_size (by repeat (first | (with_reducible first | exact HB.out | apply below_alloc | apply pw_below_drewN | apply below_drew1) | exact HB.out))) : w.heap.size ≤ gb262)); clear HB; have HB := n0_; have BK262 := n1_; have GW262 := n2_; have GE262 := n3_; clear n0_ n1_ n2_ n3_; clear hb hbox hg) | ((with_reducible refine gate_callee (f := 14) rfl ?_); refine goesL_ (some 14) rfl rfl Try.func14 (by kernel_rfl) rfl #[.slice A1 l1.length c1] rfl (by (try simp only [List.map_toArray, List.map_cons, List.map_nil]); first | done | rfl | (simp only [List.length_drop, List.length_take]; rfl)) ?_; (with_reducible refine (quarrylaw19_right.calls k _ _ l1 true _ ?side1 ?side2 A4.out).mono ?_); (case side1 => repeat (first | exact (Kd.C_below HR1.out HB.out) | (with_reducible refine Kd.C_alloc ?_ _) | (with_reducible refine Kd.C_drewN ?_ _) | (with_reducible refine Kd.C_drew ?_))); (case side2 => exact HC1.out); rintro e w16 ⟨rfl, hb⟩; refine ⟨_, rfl, ?_⟩; have n0_ := Aside0.mk (blk_below (g := gb262) (o := .cells #[.int .i64 a0_0, .string a0_1, .string a0_2, .slice A0_3 l0_3.length c0_3, .slice A0_4 l0_4.length c0_4, .bool a0_5] 41 (0, 0)) (bk_ BK262) hb); have n1_ := Aside0.mk (below_step (by repeat (first | (with_reducible first | exact HB.out | apply below_alloc | apply pw_below_drewN | apply below_drew1 | refine below_set ?_ GE262.out) | exact HB.out)) hb); clear BK262; clear HB; have BK262 := n0_; have HB := n1_; clear n0_ n1_; (try clear hb); (try clear hb2); (try clear hk); (try clear hi)))
     have n0_ := Aside0.mk (blk_drew BK262.out)
     have n1_ := Aside0.mk (below_drew1 HB.out)
     clear BK262
     clear HB
     have BK262 := n0_
     have HB := n1_
     clear n0_ n1_
     refine start_ (n := 11) (S := fun w' => w'.cell? ⟨gb262, 0, none⟩ = some (.int .i64 a0_0) ∧ w'.cell? ⟨gb262, 1, none⟩ = some (.string a0_1) ∧ w'.cell? ⟨gb262, 2, none⟩ = some (.string a0_2) ∧ w'.cell? ⟨gb262, 3, none⟩ = some (.slice A0_3 l0_3.length c0_3) ∧ w'.cell? ⟨gb262, 4, none⟩ = some (.slice A0_4 l0_4.length c0_4) ∧ w'.cell? ⟨gb262, 5, none⟩ = some (.bool a0_5)) (ds := []) #[false, false, false, false, false, false, false, false, false, false, false] (by kernel_rfl) rfl rfl ⟨(blk_cell BK262.out 0).trans rfl, (blk_cell BK262.out 1).trans rfl, (blk_cell BK262.out 2).trans rfl, (blk_cell BK262.out 3).trans rfl, (blk_cell BK262.out 4).trans rfl, (blk_cell BK262.out 5).trans rfl⟩ (fun hHeld => ?_); refine with_tabW quarrylaw19_BoundsRange.tab3 quarrylaw19_BoundsRange.bits3 (fun HT_ HW_ => ?_)
     generalize w16.drew = w17 at BK262 HB hHeld ⊢
     refine pure_ (i := 1) (N := some 18) (v := ?_) (a' := ?_) #[false, true, false, false, false, false, false, false, false, false, false] rfl rfl (any_of HT_.out (by kernel_rfl)) (fun _ _ _ h => h) (Or.inl ⟨by rfl, ?_⟩) ?_ ?_
     rotate_left
     ·intro w'
      go_simp
      with_reducible rfl
     rotate_left
     ·simp only [Act.put, List.setIfInBounds_toArray, List.set_cons_zero, List.set_cons_succ, i64_w, i32_w]
      rfl
     refine take_ (i := 0) (N := some 17) (v := ?_) (a' := ?_) #[true, true, false, false, false, false, false, false, false, false, false] rfl rfl (take_ofW HT_.out HW_.out (by kernel_rfl)) (fun _ _ _ h => h) (Or.inl ⟨by rfl, ?_⟩) hHeld ?_ ?_
     rotate_left
     ·rintro w' ⟨s0, s1, s2, s3, s4, s5⟩
      go_simp
      with_reducible rfl
     rotate_left
     ·simp only [Act.put, List.setIfInBounds_toArray, List.set_cons_zero, List.set_cons_succ, i64_w, i32_w]
      rfl
     refine one_ (i := 2) (N := some 19) #[true, true, true, false, false, false, false, false, false, false, false] rfl rfl (one_of HT_.out (by kernel_rfl)) (by decide) (fun K hK => ?_)
     refine goes_ Try.func16 (by kernel_rfl) rfl #[.slice A1 l1.length c1] (by rfl) rfl rfl (by (try simp only [List.map_toArray, List.map_cons, List.map_nil]); first | done | rfl | (simp only [List.length_drop, List.length_take]; rfl)) ?_
     with_reducible refine (quarrylaw19_its.calls k _ _ l1 t264 _ ?side1 ?side2 A6.out).mono ?_
     (case side1 => repeat (first | exact (Kd.C_below HR1.out HB.out) | (with_reducible refine Kd.C_alloc ?_ _) | (with_reducible refine Kd.C_drewN ?_ _) | (with_reducible refine Kd.C_drew ?_)))
     (case side2 => exact HC1.out)
     rintro e w18 ⟨v265, rfl, ho0, hb⟩
     refine ⟨_, rfl, ?_⟩
     have n0_ := Aside0.mk (Kd.R_lower ho0 (below_size (by repeat (first | (with_reducible first | exact HB.out | apply below_alloc | apply pw_below_drewN | apply below_drew1 | refine below_set ?_ GE262.out) | exact HB.out))))
     have n1_ := Aside0.mk (blk_below (g := gb262) (o := .cells #[.int .i64 a0_0, .string a0_1, .string a0_2, .slice A0_3 l0_3.length c0_3, .slice A0_4 l0_4.length c0_4, .bool a0_5] 41 (0, 0)) (bk_ BK262) hb)
     have n2_ := Aside0.mk (below_step (by repeat (first | (with_reducible first | exact HB.out | apply below_alloc | apply pw_below_drewN | apply below_drew1 | refine below_set ?_ GE262.out) | exact HB.out)) hb)
     clear BK262
     clear HB
     have HO266 := n0_
     have BK262 := n1_
     have HB := n2_
     clear n0_ n1_ n2_
     (try clear hb)
     (try clear hb2)
     (try clear hk)
     (try clear hi)
     (try clear ho0)
     obtain ⟨Ao19, co19, eo19⟩ := Kd.R_slice HO266.out
     (first | subst eo19 | (injection eo19 with f1_ f2_ f3_; have f4_ := f1_.symm; have f5_ := f3_.symm; clear f1_ f2_ f3_; subst f4_; subst f5_))
     refine hK.out _ _ ⟨(blk_cell BK262.out 0).trans rfl, (blk_cell BK262.out 1).trans rfl, (blk_cell BK262.out 2).trans rfl, (blk_cell BK262.out 3).trans rfl, (blk_cell BK262.out 4).trans rfl, (blk_cell BK262.out 5).trans rfl⟩ (fun hHeld => ?_)
     clear hK K
     refine norm_ (a' := ?_) ?_ ?_
     rotate_left
     ·show Act.put _ (some 19) _ = _
      simp only [Act.put, List.setIfInBounds_toArray, List.set_cons_zero, List.set_cons_succ, i64_w, i32_w]
      rfl
     refine one_ (i := 3) (N := some 20) #[true, true, true, true, false, false, false, false, false, false, false] rfl rfl (one_of HT_.out (by kernel_rfl)) (by decide) (fun K hK => ?_)
     refine goes_ Try.func15 (by kernel_rfl) rfl #[.agg #[.int .i64 a0_0, .string a0_1, .string a0_2, .slice A0_3 l0_3.length c0_3, .slice A0_4 l0_4.length c0_4, .bool a0_5], .slice Ao19 t264.length co19] (by rfl) rfl rfl (by (try simp only [List.map_toArray, List.map_cons, List.map_nil]); first | done | rfl | (simp only [List.length_drop, List.length_take]; rfl)) ?_
     with_reducible refine (bounds_Range.calls k a0_0 a0_1 a0_2 _ _ l0_3 _ _ l0_4 a0_5 _ _ t264 t267 t270 t273 _ ?side1 ?side2 ?side3 ?side4 ?side5 ?side6 A7.out).mono ?_
     (case side1 => repeat (first | exact (Kd.C_below HR0_3.out HB.out) | (with_reducible refine Kd.C_alloc ?_ _) | (with_reducible refine Kd.C_drewN ?_ _) | (with_reducible refine Kd.C_drew ?_)))
     (case side2 => exact HC0_3.out)
     (case side3 => repeat (first | exact (Kd.C_below HR0_4.out HB.out) | (with_reducible refine Kd.C_alloc ?_ _) | (with_reducible refine Kd.C_drewN ?_ _) | (with_reducible refine Kd.C_drew ?_)))
     (case side4 => exact HC0_4.out)
     (case side5 => repeat (first | exact (Kd.R_reads' HO266.out).2.2 | (with_reducible refine Kd.C_alloc ?_ _) | (with_reducible refine Kd.C_drewN ?_ _) | (with_reducible refine Kd.C_drew ?_)))
     (case side6 => exact (Kd.R_reads' HO266.out).2.1)
     rintro e w20 ⟨v268, v271, rfl, ho0, ho1, hb⟩
     refine ⟨_, rfl, ?_⟩
     have n0_ := Aside0.mk (Kd.R_below (by (with_reducible repeat (first | apply Kd.R_alloc | apply Kd.R_drewN | apply Kd.R_drew)); exact HO266.out) hb)
     have n1_ := Aside0.mk (Kd.R_lower ho0 (below_size (by repeat (first | (with_reducible first | exact HB.out | apply below_alloc | apply pw_below_drewN | apply below_drew1 | refine below_set ?_ GE262.out) | exact HB.out))))
     have n2_ := Aside0.mk (Kd.R_lower ho1 (below_size (by repeat (first | (with_reducible first | exact HB.out | apply below_alloc | apply pw_below_drewN | apply below_drew1 | refine below_set ?_ GE262.out) | exact HB.out))))
     have n3_ := Aside0.mk (blk_below (g := gb262) (o := .cells #[.int .i64 a0_0, .string a0_1, .string a0_2, .slice A0_3 l0_3.length c0_3, .slice A0_4 l0_4.length c0_4, .bool a0_5] 41 (0, 0)) (bk_ BK262) hb)
     have n4_ := Aside0.mk (below_step (by repeat (first | (with_reducible first | exact HB.out | apply below_alloc | apply pw_below_drewN | apply below_drew1 | refine below_set ?_ GE262.out) | exact HB.out)) hb)
     clear HO266
     clear BK262
     clear HB
     have HO266 := n0_
     have HO269 := n1_
     have HO272 := n2_
     have BK262 := n3_
     have HB := n4_
     clear n0_ n1_ n2_ n3_ n4_
     (try clear hb)
     (try clear hb2)
     (try clear hk)
     (try clear hi)
     (try clear ho0)
     (try clear ho1)
     refine hK.out _ _ ⟨(blk_cell BK262.out 0).trans rfl, (blk_cell BK262.out 1).trans rfl, (blk_cell BK262.out 2).trans rfl, (blk_cell BK262.out 3).trans rfl, (blk_cell BK262.out 4).trans rfl, (blk_cell BK262.out 5).trans rfl⟩ (fun hHeld => ?_)
     clear hK K
     refine norm_ (a' := ?_) ?_ ?_
     rotate_left
     ·show Act.put _ (some 20) _ = _
      simp only [Act.put, List.setIfInBounds_toArray, List.set_cons_zero, List.set_cons_succ, i64_w, i32_w]
      rfl
     refine pure_ (i := 4) (N := some 16) (v := ?_) (a' := ?_) #[true, true, true, true, true, false, false, false, false, false, false] rfl rfl (any_of HT_.out (by kernel_rfl)) (fun _ _ _ h => h) (Or.inl ⟨by rfl, ?_⟩) ?_ ?_
     rotate_left
     ·intro w'
      go_simp
      with_reducible rfl
     rotate_left
     ·simp only [Act.put, List.setIfInBounds_toArray, List.set_cons_zero, List.set_cons_succ, i64_w, i32_w]
      rfl
     refine pure_ (i := 5) (N := some 21) (v := ?_) (a' := ?_) #[true, true, true, true, true, true, false, false, false, false, false] rfl rfl (any_of HT_.out (by kernel_rfl)) (fun _ _ _ h => h) (Or.inl ⟨by rfl, ?_⟩) ?_ ?_
     rotate_left
     ·intro w'
      go_simp
      with_reducible rfl
     rotate_left
     ·simp only [Act.put, List.setIfInBounds_toArray, List.set_cons_zero, List.set_cons_succ, i64_w, i32_w]
      rfl
     refine pure_ (i := 6) (N := some 22) (v := ?_) (a' := ?_) #[true, true, true, true, true, true, true, false, false, false, false] rfl rfl (any_of HT_.out (by kernel_rfl)) (fun _ _ _ h => h) (Or.inl ⟨by rfl, ?_⟩) ?_ ?_
     rotate_left
     ·intro w'
      go_simp
      with_reducible rfl
     rotate_left
     ·simp only [Act.put, List.setIfInBounds_toArray, List.set_cons_zero, List.set_cons_succ, i64_w, i32_w]
      rfl
     refine pure_ (i := 7) (N := some 23) (v := ?_) (a' := ?_) #[true, true, true, true, true, true, true, true, false, false, false] rfl rfl (any_of HT_.out (by kernel_rfl)) (fun _ _ _ h => h) (Or.inl ⟨by rfl, ?_⟩) ?_ ?_
     rotate_left
     ·intro w'
      go_simp
      with_reducible rfl
     rotate_left
     ·simp only [Act.put, List.setIfInBounds_toArray, List.set_cons_zero, List.set_cons_succ, i64_w, i32_w]
      rfl
     refine pure_ (i := 8) (N := some 7) (v := ?_) (a' := ?_) #[true, true, true, true, true, true, true, true, true, false, false] rfl rfl (any_of HT_.out (by kernel_rfl)) (fun _ _ _ h => h) (Or.inl ⟨by rfl, ?_⟩) ?_ ?_
     rotate_left
     ·intro w'
      go_simp
      with_reducible rfl
     rotate_left
     ·simp only [Act.put, List.setIfInBounds_toArray, List.set_cons_zero, List.set_cons_succ, i64_w, i32_w]
      rfl
     refine pure_ (i := 9) (N := some 8) (v := ?_) (a' := ?_) #[true, true, true, true, true, true, true, true, true, true, false] rfl rfl (any_of HT_.out (by kernel_rfl)) (fun _ _ _ h => h) (Or.inl ⟨by rfl, ?_⟩) ?_ ?_
     rotate_left
     ·intro w'
      go_simp
      with_reducible rfl
     rotate_left
     ·simp only [Act.put, List.setIfInBounds_toArray, List.set_cons_zero, List.set_cons_succ, i64_w, i32_w]
      rfl
     refine pure_ (i := 10) (N := some 9) (v := ?_) (a' := ?_) #[true, true, true, true, true, true, true, true, true, true, true] rfl rfl (any_of HT_.out (by kernel_rfl)) (fun _ _ _ h => h) (Or.inl ⟨by rfl, ?_⟩) ?_ ?_
     rotate_left
     ·intro w'
      go_simp
      with_reducible rfl
     rotate_left
     ·simp only [Act.put, List.setIfInBounds_toArray, List.set_cons_zero, List.set_cons_succ, i64_w, i32_w]
      rfl
     refine done_ (done_of HT_.out (by kernel_rfl)) ?_
     have hcz21_0 : w20.cell? ⟨gb262, 0, none⟩ = some (.int .i64 a0_0) := (blk_cell BK262.out 0).trans rfl
     have hcz21_1 : w20.cell? ⟨gb262, 1, none⟩ = some (.string a0_1) := (blk_cell BK262.out 1).trans rfl
     have hcz21_2 : w20.cell? ⟨gb262, 2, none⟩ = some (.string a0_2) := (blk_cell BK262.out 2).trans rfl
     have hcz21_3 : w20.cell? ⟨gb262, 3, none⟩ = some (.slice A0_3 l0_3.length c0_3) := (blk_cell BK262.out 3).trans rfl
     have hcz21_4 : w20.cell? ⟨gb262, 4, none⟩ = some (.slice A0_4 l0_4.length c0_4) := (blk_cell BK262.out 4).trans rfl
     have hcz21_5 : w20.cell? ⟨gb262, 5, none⟩ = some (.bool a0_5) := (blk_cell BK262.out 5).trans rfl
     have hfz21_0 := blk_frozen BK262.out 0
     have hfz21_1 := blk_frozen BK262.out 1
     have hfz21_2 := blk_frozen BK262.out 2
     have hfz21_3 := blk_frozen BK262.out 3
     have hfz21_4 := blk_frozen BK262.out 4
     have hfz21_5 := blk_frozen BK262.out 5
     try go_wp2_with (first | ((with_reducible refine gate_callee (f := 17) rfl ?_); refine goesL_ (some 27) rfl rfl Try.func17 (by kernel_rfl) rfl #[.agg #[.int .i64 a0_0, .string a0_1, .string a0_2, .slice A0_3 l0_3.length c0_3, .slice A0_4 l0_4.length c0_4, .bool a0_5], .slice A1 l1.length c1] rfl (by (try simp only [List.map_toArray, List.map_cons, List.map_nil]); first | done | rfl | (simp only [List.length_drop, List.length_take]; rfl)) ?_; (with_reducible refine (quarryref19_Range.calls k a0_0 a0_1 a0_2 _ _ l0_3 _ _ l0_4 a0_5 _ _ l1 t274 t277 t280 _ ?side1 ?side2 ?side3 ?side4 ?side5 ?side6 A8.out).mono ?_); (case side1 => repeat (first | exact (Kd.C_below HR0_3.out HB.out) | (with_reducible refine Kd.C_alloc ?_ _) | (with_reducible refine Kd.C_drewN ?_ _) | (with_reducible refine Kd.C_drew ?_))); (case side2 => exact HC0_3.out); (case side3 => repeat (first | exact (Kd.C_below HR0_4.out HB.out) | (with_reducible refine Kd.C_alloc ?_ _) | (with_reducible refine Kd.C_drewN ?_ _) | (with_reducible refine Kd.C_drew ?_))); (case side4 => exact HC0_4.out); (case side5 => repeat (first | exact (Kd.C_below HR1.out HB.out) | (with_reducible refine Kd.C_alloc ?_ _) | (with_reducible refine Kd.C_drewN ?_ _) | (with_reducible refine Kd.C_drew ?_))); (case side6 => exact HC1.out); rintro e w22 ⟨v275, v278, rfl, ho0, ho1, hb⟩; refine ⟨_, rfl, ?_⟩; have n0_ := Aside0.mk (Kd.R_below (by (with_reducible repeat (first | apply Kd.R_alloc | apply Kd.R_drewN | apply Kd.R_drew)); exact HO266.out) hb); have n1_ := Aside0.mk (Kd.R_mono (Kd.R_told (Kd.R_told (Kd.R_old (by (with_reducible repeat (first | apply Kd.R_alloc | apply Kd.R_drewN | apply Kd.R_drew)); exact HO269.out) hb) (Kd.R_base ho0)) (Kd.R_base ho1)) (fun _ h_ => h_.1)); have n2_ := Aside0.mk (Kd.R_mono (Kd.R_told (Kd.R_told (Kd.R_old (by (with_reducible repeat (first | apply Kd.R_alloc | apply Kd.R_drewN | apply Kd.R_drew)); exact HO272.out) hb) (Kd.R_base ho0)) (Kd.R_base ho1)) (fun _ h_ => h_.1)); have n3_ := Aside0.mk (Kd.R_lower (Kd.R_new' (Kd.R_new' ho0 (Kd.R_lt (by (with_reducible repeat (first | apply Kd.R_alloc | apply Kd.R_drewN | apply Kd.R_drew)); exact HO269.out))) (Kd.R_lt (by (with_reducible repeat (first | apply Kd.R_alloc | apply Kd.R_drewN | apply Kd.R_drew)); exact HO272.out))) (below_size (by repeat (first | (with_reducible first | exact HB.out | apply below_alloc | apply pw_below_drewN | apply below_drew1 | refine below_set ?_ GE262.out) | exact HB.out)))); have n4_ := Aside0.mk (Kd.R_lower (Kd.R_new' (Kd.R_new' ho1 (Kd.R_lt (by (with_reducible repeat (first | apply Kd.R_alloc | apply Kd.R_drewN | apply Kd.R_drew)); exact HO269.out))) (Kd.R_lt (by (with_reducible repeat (first | apply Kd.R_alloc | apply Kd.R_drewN | apply Kd.R_drew)); exact HO272.out))) (below_size (by repeat (first | (with_reducible first | exact HB.out | apply below_alloc | apply pw_below_drewN | apply below_drew1 | refine below_set ?_ GE262.out) | exact HB.out)))); have n5_ := Aside0.mk (blk_below (g := gb262) (o := .cells #[.int .i64 a0_0, .string a0_1, .string a0_2, .slice A0_3 l0_3.length c0_3, .slice A0_4 l0_4.length c0_4, .bool a0_5] 41 (0, 0)) (bk_ BK262) hb); have n6_ := Aside0.mk (below_step (by repeat (first | (with_reducible first | exact HB.out | apply below_alloc | apply pw_below_drewN | apply below_drew1 | refine below_set ?_ GE262.out) | exact HB.out)) hb); clear HO266; clear HO269; clear HO272; clear BK262; clear HB; have HO266 := n0_; have HO269 := n1_; have HO272 := n2_; have HO276 := n3_; have HO279 := n4_; have BK262 := n5_; have HB := n6_; clear n0_ n1_ n2_ n3_ n4_ n5_ n6_; (try clear hb); (try clear hb2); (try clear hk); (try clear hi); (try clear ho0); (try clear ho1); have hcv23 := own_string (P := Try.prog) Try.underlying44 Try.underlying5 Try.underlying9 (Kd.own_of_R HO269.out); have hcv24 := own_string (P := Try.prog) Try.underlying44 Try.underlying5 Try.underlying9 (Kd.own_of_R HO276.out); have hcv25 := own_string (P := Try.prog) Try.underlying44 Try.underlying5 Try.underlying9 (Kd.own_of_R HO272.out); have hcv26 := own_string (P := Try.prog) Try.underlying44 Try.underlying5 Try.underlying9 (Kd.own_of_R HO279.out)) | (go_at_call 16; (with_reducible refine (quarrylaw19_its.calls k _ _ l1 t281 _ ?side1 ?side2 A12.out).mono ?_); (case side1 => repeat (first | exact (Kd.C_below HR1.out HB.out) | (with_reducible refine Kd.C_alloc ?_ _) | (with_reducible refine Kd.C_drewN ?_ _) | (with_reducible refine Kd.C_drew ?_))); (case side2 => exact HC1.out); rintro e w27 ⟨v282, rfl, ho0, hb⟩; have n0_ := Aside0.mk (Kd.R_elder' (by (with_reducible repeat (first | apply Kd.R_alloc | apply Kd.R_drewN | apply Kd.R_drew)); exact HO266.out) (Kd.R_base ho0) hb); have n1_ := Aside0.mk (Kd.R_below (by (with_reducible repeat (first | apply Kd.R_alloc | apply Kd.R_drewN | apply Kd.R_drew)); exact HO269.out) hb); have n2_ := Aside0.mk (Kd.R_below (by (with_reducible repeat (first | apply Kd.R_alloc | apply Kd.R_drewN | apply Kd.R_drew)); exact HO272.out) hb); have n3_ := Aside0.mk (Kd.R_below (by (with_reducible repeat (first | apply Kd.R_alloc | apply Kd.R_drewN | apply Kd.R_drew)); exact HO276.out) hb); have n4_ := Aside0.mk (Kd.R_below (by (with_reducible repeat (first | apply Kd.R_alloc | apply Kd.R_drewN | apply Kd.R_drew)); exact HO279.out) hb); have n5_ := Aside0.mk (Kd.R_lower (Kd.R_new' ho0 (Kd.R_lt (by (with_reducible repeat (first | apply Kd.R_alloc | apply Kd.R_drewN | apply Kd.R_drew)); exact HO266.out))) (below_size (by repeat (first | (with_reducible first | exact HB.out | apply below_alloc | apply pw_below_drewN | apply below_drew1 | refine below_set ?_ GE262.out) | exact HB.out)))); have n6_ := Aside0.mk (blk_below (g := gb262) (o := .cells #[.int .i64 a0_0, .string a0_1, .string a0_2, .slice A0_3 l0_3.length c0_3, .slice A0_4 l0_4.length c0_4, .bool a0_5] 41 (0, 0)) (bk_ BK262) hb); have n7_ := Aside0.mk (below_step (by repeat (first | (with_reducible first | exact HB.out | apply below_alloc | apply pw_below_drewN | apply below_drew1 | refine below_set ?_ GE262.out) | exact HB.out)) hb); clear HO266; clear HO269; clear HO272; clear HO276; clear HO279; clear BK262; clear HB; have HO266 := n0_; have HO269 := n1_; have HO272 := n2_; have HO276 := n3_; have HO279 := n4_; have HO283 := n5_; have BK262 := n6_; have HB := n7_; clear n0_ n1_ n2_ n3_ n4_ n5_ n6_ n7_; (try clear hb); (try clear hb2); (try clear hk); (try clear hi); (try clear ho0); obtain ⟨Ao28, co28, eo28⟩ := Kd.R_slice HO283.out; subst eo28) | (go_at_call 18; (with_reducible refine (bounds_Best.calls k _ _ l2 _ _ t281 t284 _ ?side1 ?side2 ?side3 ?side4 A13.out).mono ?_); (case side1 => repeat (first | exact (Kd.C_below HR2.out HB.out) | (with_reducible refine Kd.C_alloc ?_ _) | (with_reducible refine Kd.C_drewN ?_ _) | (with_reducible refine Kd.C_drew ?_))); (case side2 => exact HC2.out); (case side3 => repeat (first | exact (Kd.R_reads' HO283.out).2.2 | (with_reducible refine Kd.C_alloc ?_ _) | (with_reducible refine Kd.C_drewN ?_ _) | (with_reducible refine Kd.C_drew ?_))); (case side4 => exact (Kd.R_reads' HO283.out).2.1); rintro e w29 ⟨rfl, hb⟩; have n0_ := Aside0.mk (Kd.R_below (by (with_reducible repeat (first | apply Kd.R_alloc | apply Kd.R_drewN | apply Kd.R_drew)); exact HO266.out) hb); have n1_ := Aside0.mk (Kd.R_below (by (with_reducible repeat (first | apply Kd.R_alloc | apply Kd.R_drewN | apply Kd.R_drew)); exact HO269.out) hb); have n2_ := Aside0.mk (Kd.R_below (by (with_reducible repeat (first | apply Kd.R_alloc | apply Kd.R_drewN | apply Kd.R_drew)); exact HO272.out) hb); have n3_ := Aside0.mk (Kd.R_below (by (with_reducible repeat (first | apply Kd.R_alloc | apply Kd.R_drewN | apply Kd.R_drew)); exact HO276.out) hb); have n4_ := Aside0.mk (Kd.R_below (by (with_reducible repeat (first | apply Kd.R_alloc | apply Kd.R_drewN | apply Kd.R_drew)); exact HO279.out) hb); have n5_ := Aside0.mk (Kd.R_below (by (with_reducible repeat (first | apply Kd.R_alloc | apply Kd.R_drewN | apply Kd.R_drew)); exact HO283.out) hb); have n6_ := Aside0.mk (blk_below (g := gb262) (o := .cells #[.int .i64 a0_0, .string a0_1, .string a0_2, .slice A0_3 l0_3.length c0_3, .slice A0_4 l0_4.length c0_4, .bool a0_5] 41 (0, 0)) (bk_ BK262) hb); have n7_ := Aside0.mk (below_step (by repeat (first | (with_reducible first | exact HB.out | apply below_alloc | apply pw_below_drewN | apply below_drew1 | refine below_set ?_ GE262.out) | exact HB.out)) hb); clear HO266; clear HO269; clear HO272; clear HO276; clear HO279; clear HO283; clear BK262; clear HB; have HO266 := n0_; have HO269 := n1_; have HO272 := n2_; have HO276 := n3_; have HO279 := n4_; have HO283 := n5_; have BK262 := n6_; have HB := n7_; clear n0_ n1_ n2_ n3_ n4_ n5_ n6_ n7_; (try clear hb); (try clear hb2); (try clear hk); (try clear hi)) | (go_at_call 19; (with_reducible refine (quarryref19_Best.calls k _ _ l2 _ _ l1 t285 _ ?side1 ?side2 ?side3 ?side4 A14.out).mono ?_); (case side1 => repeat (first | exact (Kd.C_below HR2.out HB.out) | (with_reducible refine Kd.C_alloc ?_ _) | (with_reducible refine Kd.C_drewN ?_ _) | (with_reducible refine Kd.C_drew ?_))); (case side2 => exact HC2.out); (case side3 => repeat (first | exact (Kd.C_below HR1.out HB.out) | (with_reducible refine Kd.C_alloc ?_ _) | (with_reducible refine Kd.C_drewN ?_ _) | (with_reducible refine Kd.C_drew ?_))); (case side4 => exact HC1.out); rintro e w30 ⟨rfl, hb⟩; have n0_ := Aside0.mk (Kd.R_below (by (with_reducible repeat (first | apply Kd.R_alloc | apply Kd.R_drewN | apply Kd.R_drew)); exact HO266.out) hb); have n1_ := Aside0.mk (Kd.R_below (by (with_reducible repeat (first | apply Kd.R_alloc | apply Kd.R_drewN | apply Kd.R_drew)); exact HO269.out) hb); have n2_ := Aside0.mk (Kd.R_below (by (with_reducible repeat (first | apply Kd.R_alloc | apply Kd.R_drewN | apply Kd.R_drew)); exact HO272.out) hb); have n3_ := Aside0.mk (Kd.R_below (by (with_reducible repeat (first | apply Kd.R_alloc | apply Kd.R_drewN | apply Kd.R_drew)); exact HO276.out) hb); have n4_ := Aside0.mk (Kd.R_below (by (with_reducible repeat (first | apply Kd.R_alloc | apply Kd.R_drewN | apply Kd.R_drew)); exact HO279.out) hb); have n5_ := Aside0.mk (Kd.R_below (by (with_reducible repeat (first | apply Kd.R_alloc | apply Kd.R_drewN | apply Kd.R_drew)); exact HO283.out) hb); have n6_ := Aside0.mk (blk_below (g := gb262) (o := .cells #[.int .i64 a0_0, .string a0_1, .string a0_2, .slice A0_3 l0_3.length c0_3, .slice A0_4 l0_4.length c0_4, .bool a0_5] 41 (0, 0)) (bk_ BK262) hb); have n7_ := Aside0.mk (below_step (by repeat (first | (with_reducible first | exact HB.out | apply below_alloc | apply pw_below_drewN | apply below_drew1 | refine below_set ?_ GE262.out) | exact HB.out)) hb); clear HO266; clear HO269; clear HO272; clear HO276; clear HO279; clear HO283; clear BK262; clear HB; have HO266 := n0_; have HO269 := n1_; have HO272 := n2_; have HO276 := n3_; have HO279 := n4_; have HO283 := n5_; have BK262 := n6_; have HB := n7_; clear n0_ n1_ n2_ n3_ n4_ n5_ n6_ n7_; (try clear hb); (try clear hb2); (try clear hk); (try clear hi)))
     go_ret
     exact ⟨by first | rfl | (simp [errW_none, errW_some] <;> rfl) | (simp [*, errW_none, errW_some] <;> rfl), by repeat (first | (with_reducible first | exact HB.out | apply below_alloc | apply pw_below_drewN | apply below_drew1 | refine below_set ?_ GE262.out) | exact HB.out)⟩
    ·rw [if_neg c11] at H
     cases H
   ·rw [if_neg c10] at H
    cases H
  ·rw [if_neg c9] at H
   cases H
 ·replace c5 := Bool.eq_false_iff.mpr c5
  subst c5
  have H1 : (some true) = some r := by rw [if_neg (show ¬ (false = true) by decide)] at H; exact H
  clear H
  have H := H1
  clear H1
  obtain rfl := Option.some.inj H
  go_enter Try.func4, Try.ntmps4
  go_wp2_with (first | ((with_reducible refine gate_dst (N := 3) rfl ?_); refine box_event ?hg (N := 3) ?hd (cs := #[.int .i64 a0_0, .string a0_1, .string a0_2, .slice A0_3 l0_3.length c0_3, .slice A0_4 l0_4.length c0_4, .bool a0_5]) (t := 41) ?hr ?_; (case hd => rfl); (case hg => rfl); (case hr => first | (go_simp; done) | (go_simp; rfl)); intro gb262 hg w65 hbox hb; have n0_ := Aside0.mk (below_step (by repeat (first | (with_reducible first | exact HB.out | apply below_alloc | apply pw_below_drewN | apply below_drew1) | exact HB.out)) hb); have n1_ := Aside0.mk (hbox); have n2_ := Aside0.mk ((by rw [hg]; exact (below_size (by repeat (first | (with_reducible first | exact HB.out | apply below_alloc | apply pw_below_drewN | apply below_drew1) | exact HB.out))) : w.heap.size ≤ gb262)); have n3_ := Aside0.mk ((by rw [hg]; exact (below_size (by repeat (first | (with_reducible first | exact HB.out | apply below_alloc | apply pw_below_drewN | apply below_drew1) | exact HB.out))) : w.heap.size ≤ gb262)); clear HB; have HB := n0_; have BK262 := n1_; have GW262 := n2_; have GE262 := n3_; clear n0_ n1_ n2_ n3_; clear hb hbox hg) | ((with_reducible refine gate_callee (f := 14) rfl ?_); refine goesL_ (some 14) rfl rfl Try.func14 (by kernel_rfl) rfl #[.slice A1 l1.length c1] rfl (by (try simp only [List.map_toArray, List.map_cons, List.map_nil]); first | done | rfl | (simp only [List.length_drop, List.length_take]; rfl)) ?_; (with_reducible refine (quarrylaw19_right.calls k _ _ l1 false _ ?side1 ?side2 A4.out).mono ?_); (case side1 => repeat (first | exact (Kd.C_below HR1.out HB.out) | (with_reducible refine Kd.C_alloc ?_ _) | (with_reducible refine Kd.C_drewN ?_ _) | (with_reducible refine Kd.C_drew ?_))); (case side2 => exact HC1.out); rintro e w66 ⟨rfl, hb⟩; refine ⟨_, rfl, ?_⟩; have n0_ := Aside0.mk (blk_below (g := gb262) (o := .cells #[.int .i64 a0_0, .string a0_1, .string a0_2, .slice A0_3 l0_3.length c0_3, .slice A0_4 l0_4.length c0_4, .bool a0_5] 41 (0, 0)) (bk_ BK262) hb); have n1_ := Aside0.mk (below_step (by repeat (first | (with_reducible first | exact HB.out | apply below_alloc | apply pw_below_drewN | apply below_drew1 | refine below_set ?_ GE262.out) | exact HB.out)) hb); clear BK262; clear HB; have BK262 := n0_; have HB := n1_; clear n0_ n1_; (try clear hb); (try clear hb2); (try clear hk); (try clear hi)))
  go_ret
  exact ⟨by first | rfl | (simp [errW_none, errW_some] <;> rfl) | (simp [*, errW_none, errW_some] <;> rfl), by repeat (first | (with_reducible first | exact HB.out | apply below_alloc | apply pw_below_drewN | apply below_drew1 | refine below_set ?_ GE262.out) | exact HB.out)⟩
end Go.Proofs.Ytmfenomjhmhogaa.P
end
section
namespace Go.Proofs.Ytmfenomjhmhogaa.Pure
set_option linter.unusedVariables false
set_option linter.unusedSimpArgs false
open Go.RowKit Go.Proofs.Ytmfenomjhmhogaa.P Go.Proofs.YtmfenomjhmhogaaW.PrintWords Go.Proofs.YtmfenomjhmhogaaW.PrintLast Go.Proofs.YtmfenomjhmhogaaW.PrintMore
def cmpI (a b : Int) : Int := if a < b then -1 else if b < a then 1 else 0
theorem rd_at (pre : List S25) (x : S25) (suf : List S25) : rd_T25 (pre ++ x :: suf) (pre.length : Int) = x := by
  unfold rd_T25
  simp
theorem bt_at' (s : ByteArray) (pre : List UInt8) (c : UInt8) (suf : List UInt8) (h : s.data.toList = pre ++ c :: suf) : bt s (pre.length : Int) = (c.toNat : Int) := by
  unfold bt
  have hl : s.size = pre.length + (suf.length + 1) := by
    have : s.size = s.data.toList.length := by rw [Array.length_toList]; rfl
    rw [this, h]; simp
  have hi : (pre.length : Int).toNat < s.size := by omega
  rw [dif_pos hi]
  have e : s[(pre.length : Int).toNat] = s.data.toList[(pre.length : Int).toNat]'(by rw [Array.length_toList]; exact hi) := by
    rw [Array.getElem_toList]; rfl
  rw [e]
  have : s.data.toList[(pre.length : Int).toNat]'(by rw [Array.length_toList]; exact hi) = c := by
    rw [List.getElem_of_eq h]
    simp
  rw [this]
end Go.Proofs.Ytmfenomjhmhogaa.Pure
end
section
namespace Go.Proofs.Ytmfenomjhmhogaa.Pure
set_option linter.unusedVariables false
set_option linter.unusedSimpArgs false
open Go.RowKit Go.Proofs.Ytmfenomjhmhogaa.P Go.Proofs.YtmfenomjhmhogaaW.PrintWords Go.Proofs.YtmfenomjhmhogaaW.PrintLast Go.Proofs.YtmfenomjhmhogaaW.PrintMore
def BytesIn (l : List Int) : Prop := ∀ x ∈ l, 0 ≤ x ∧ x ≤ 255
def Diff (p q : List Int) (c : Int) : Prop := (c = 0 ∧ p = q) ∨ (c ≠ 0 ∧ ∃ u a b p' q', p = u ++ a :: p' ∧ q = u ++ b :: q' ∧ c = cmpI a b)
theorem Diff.refl (p : List Int) : Diff p p 0 := .inl ⟨rfl, rfl⟩
theorem Diff.cons (a : Int) {p q : List Int} {c : Int} (h : Diff p q c) : Diff (a :: p) (a :: q) c := by
  rcases h with ⟨rfl, rfl⟩ | ⟨hc, u, x, y, p', q', rfl, rfl, h⟩
  · exact .inl ⟨rfl, rfl⟩
  · exact .inr ⟨hc, a :: u, x, y, p', q', rfl, rfl, h⟩
def flipL (l : List Int) : List Int := l.map (255 - ·)
theorem flipL_length (l : List Int) : (flipL l).length = l.length := by simp [flipL]
def esc : List UInt8 → List Int
  | [] => []
  | c :: l => if c = 0 then 0 :: 255 :: esc l else (c.toNat : Int) :: esc l
def be : Nat → Int → List Int
  | 0, _ => []
  | k + 1, n => (n / 256 ^ k) % 256 :: be k n
def payload (x : S25) : List Int := if x.f0 = 1 then [x.f1 % 256] else if x.f0 = 2 then be 8 (x.f1 + 9223372036854775808) else if x.f0 = 3 ∨ x.f0 = 4 then esc x.f2.data.toList ++ [0, 1] else []
def encB (x : S25) : List Int := (x.f0 + 1) % 256 :: payload x
def turnB (b : Bool) (l : List Int) : List Int := if b = true then flipL l else l
def chk (x : S25) : Int := chkV x.f0 x.f1 x.f2
def encE : List Bool → List S25 → Option (List Int)
  | _, [] => some []
  | d, x :: l => if chk x = 0 then (encE d.tail l).map (turnB (d.headD false) (encB x) ++ ·) else none
def encR (d : List Bool) (l : List S25) : List Int × Int := match encE d l with | none => ([], 3) | some b => (b, 0)
def room (l : List S25) : Nat := (l.map fun x => 2 * x.f2.size + 12).sum
def okV (x : S25) : Prop := I64 x.f0 ∧ I64 x.f1 ∧ x.f2.size ≤ 140737488351232
theorem be_length (k : Nat) (n : Int) : (be k n).length = k := by
  induction k with
  | zero => rfl
  | succ k ih => simp [be, ih]
theorem esc_length (l : List UInt8) : (esc l).length ≤ 2 * l.length := by
  induction l with
  | nil => simp [esc]
  | cons c l ih => unfold esc; split <;> simp <;> omega
theorem size_toList (s : ByteArray) : s.size = s.data.toList.length := by rw [Array.length_toList]; rfl
theorem encB_length (x : S25) : (encB x).length ≤ 2 * x.f2.size + 11 := by
  unfold encB payload
  have h := esc_length x.f2.data.toList
  rw [← size_toList] at h
  split
  · simp
  split
  · simp [be_length]
  split
  · simp; omega
  · simp
theorem turnB_length (b : Bool) (l : List Int) : (turnB b l).length = l.length := by unfold turnB; split <;> simp [flipL]
theorem encE_length : ∀ (l : List S25) (d : List Bool) {b : List Int}, encE d l = some b → b.length ≤ room l
  | [], d, b, h => by simp only [encE, Option.some.injEq] at h; subst h; simp
  | x :: l, d, b, h => by
    unfold encE at h
    split at h
    · obtain ⟨b', hb, rfl⟩ := Option.map_eq_some_iff.1 h
      have := encE_length l _ hb
      have h2 := encB_length x
      simp [room, turnB_length] at this ⊢
      omega
    · cases h
theorem be_range (k : Nat) (n : Int) : ∀ x ∈ be k n, 0 ≤ x ∧ x ≤ 255 := by
  induction k with
  | zero => intro x hx; simp [be] at hx
  | succ k ih =>
    intro x hx
    simp only [be, List.mem_cons] at hx
    rcases hx with rfl | hx
    · omega
    · exact ih x hx
theorem esc_range (l : List UInt8) : ∀ x ∈ esc l, 0 ≤ x ∧ x ≤ 255 := by
  induction l with
  | nil => intro x hx; simp [esc] at hx
  | cons c l ih =>
    intro x hx
    unfold esc at hx
    have hc := c.toNat_lt
    split at hx
    · simp only [List.mem_cons] at hx
      rcases hx with rfl | rfl | hx
      · omega
      · omega
      · exact ih x hx
    · simp only [List.mem_cons] at hx
      rcases hx with rfl | hx
      · omega
      · exact ih x hx
theorem payload_range (x : S25) : BytesIn (payload x) := by
  unfold payload
  intro y hy
  split at hy
  · simp at hy; omega
  split at hy
  · exact be_range _ _ y hy
  split at hy
  · simp only [List.mem_append, List.mem_cons, List.not_mem_nil, or_false] at hy
    rcases hy with hy | rfl | rfl
    · exact esc_range _ y hy
    · omega
    · omega
  · simp at hy
theorem encB_range (x : S25) : BytesIn (encB x) := by
  intro y hy
  simp only [encB, List.mem_cons] at hy
  rcases hy with rfl | hy
  · omega
  · exact payload_range x y hy
theorem chk_kind {x : S25} (h : chk x = 0) : 0 ≤ x.f0 ∧ x.f0 ≤ 4 := by
  unfold chk chkV at h
  by_cases h0 : x.f0 = 0
  · omega
  by_cases h1 : x.f0 = 1
  · omega
  by_cases h2 : x.f0 = 2
  · omega
  by_cases h3 : x.f0 = 3 ∨ x.f0 = 4
  · omega
  · simp [h0, h1, h2, h3] at h
end Go.Proofs.Ytmfenomjhmhogaa.Pure
end
section
namespace Go.Proofs.Ytmfenomjhmhogaa.Pure
set_option linter.unusedVariables false
set_option linter.unusedSimpArgs false
open Go.RowKit Go.Proofs.Ytmfenomjhmhogaa.P Go.Proofs.YtmfenomjhmhogaaW.PrintWords Go.Proofs.YtmfenomjhmhogaaW.PrintLast Go.Proofs.YtmfenomjhmhogaaW.PrintMore
theorem xor_top (m : Nat) (h : m < 18446744073709551616) : m ^^^ 9223372036854775808 = (9223372036854775808 + m) % 18446744073709551616 := by
  have e : (9223372036854775808 : Nat) = 2 ^ 63 := by decide
  have e2 : (18446744073709551616 : Nat) = 2 ^ 64 := by decide
  rw [e2] at h ⊢
  rw [e]
  refine Nat.eq_of_testBit_eq fun j => ?_
  rw [Nat.testBit_xor, Nat.testBit_mod_two_pow, Nat.testBit_two_pow]
  rcases Nat.lt_trichotomy j 63 with hj | hj | hj
  · rw [Nat.testBit_two_pow_add_gt hj]
    have : decide (j < 64) = true := decide_eq_true (by omega)
    have h2 : decide (63 = j) = false := decide_eq_false (by omega)
    rw [this, h2]; simp
  · subst hj
    rw [Nat.testBit_two_pow_add_eq]
    simp
  · have h1 : decide (j < 64) = false := decide_eq_false (by omega)
    have h2 : decide (63 = j) = false := decide_eq_false (by omega)
    have h3 : m.testBit j = false := Nat.testBit_lt_two_pow (Nat.lt_of_lt_of_le h (Nat.pow_le_pow_right (by decide) (by omega)))
    rw [h1, h2, h3]; rfl
theorem turned_is (d : List Bool) (n : Nat) : keys_turned.f d (n : Int) = some (d.getD n false) := by
  unfold keys_turned.f rdOf
  by_cases h : n < d.length
  · have h1 : (n : Int) < (d.length : Int) := by omega
    have h2 : (0 : Int) ≤ (n : Int) := by omega
    simp [h1, h2]
  · have h1 : ¬ (n : Int) < (d.length : Int) := by omega
    simp only [h1, if_false]
    rw [List.getD_eq_getElem?_getD, List.getElem?_eq_none (by omega)]
    rfl
theorem check_f (x : S25) : value_Check.f x.f0 x.f1 x.f2 = some (chk x) := rfl
theorem fx_is {c : Int} (h0 : 0 ≤ c) (h1 : c ≤ 255) : fx c = 255 - c := by
  obtain ⟨m, rfl⟩ := Int.eq_ofNat_of_zero_le h0
  have hm : m < 256 := by omega
  have h4 : ∀ m : Fin 256, fx ((m.val : Nat) : Int) = 255 - ((m.val : Nat) : Int) := by decide +kernel
  exact h4 ⟨m, hm⟩
theorem fx_map {l : List Int} (h : BytesIn l) : l.map fx = flipL l := by
  unfold flipL
  refine List.map_congr_left fun x hx => ?_
  have := h x hx
  exact fx_is this.1 this.2
theorem sign_xor {n : Int} (h : I64 n) : Go.bits .xor .u64 (IntKind.u64.wrap n) 9223372036854775808 = n + 9223372036854775808 := by
  obtain ⟨h0, h1⟩ := h
  obtain ⟨m, hm⟩ : ∃ m : Nat, IntKind.u64.wrap n = (m : Int) ∧ m < 18446744073709551616 := by
    rw [IntKind.wrap_u64]
    exact ⟨(n % 18446744073709551616).toNat, by omega, by omega⟩
  have hv : (BitVec.ofInt 64 ((m : Nat) : Int)) = BitVec.ofNat 64 m := BitVec.ofInt_natCast ..
  have hs : BitVec.ofInt 64 9223372036854775808 = BitVec.ofNat 64 9223372036854775808 := by decide
  rw [hm.1]
  show IntKind.u64.wrap ((BitVec.ofInt 64 ((m : Nat) : Int) ^^^ BitVec.ofInt 64 9223372036854775808).toNat : Int) = _
  rw [hv, hs, BitVec.toNat_xor, BitVec.toNat_ofNat, BitVec.toNat_ofNat, Nat.mod_eq_of_lt hm.2, Nat.mod_eq_of_lt (by decide), xor_top m hm.2]
  have h2 := hm.1
  rw [IntKind.wrap_u64] at h2 ⊢
  omega
theorem sign_add {n : Int} (h : I64 n) : IntKind.u64.wrap (IntKind.u64.wrap n + 9223372036854775808) = n + 9223372036854775808 := by
  obtain ⟨h0, h1⟩ := h
  rw [IntKind.wrap_u64, IntKind.wrap_u64]
  omega
theorem put_num (acc : List Int) (n : Int) (hl : acc.length + 8 < 140737488355328) : Ev (fun k => keys_put.l0 k acc n 0) (acc ++ be 8 n) := by
  have hw : ∀ i : Nat, i < 8 → wrap64 (56 - wrap64 (8 * (i : Int))) = 56 - 8 * (i : Int) := by intro i hi; unfold wrap64; omega
  have key : ∀ (j : Nat) (acc' : List Int), j ≤ 8 → acc'.length + j < 140737488355328 → Ev (fun k => keys_put.l0 k acc' n ((8 - j : Nat) : Int)) (acc' ++ be j n) := by
    intro j
    induction j with
    | zero =>
      intro acc' _ _
      refine Ev.succ ?_
      have e : ¬ (((8 - 0 : Nat) : Int) < 8) := by omega
      simp only [keys_put.l0, e, if_false, be, List.append_nil]
      exact Ev.pure _
    | succ j ih =>
      intro acc' hj hl'
      refine Ev.succ ?_
      have e : (((8 - (j + 1) : Nat) : Int) < 8) := by omega
      have e1 := hw (8 - (j + 1)) (by omega)
      have e2 : (0 : Int) ≤ 56 - 8 * ((8 - (j + 1) : Nat) : Int) := by omega
      have e3 : acc'.length < 140737488355328 := by omega
      have e4 : wrap64 (((8 - (j + 1) : Nat) : Int) + 1) = ((8 - j : Nat) : Int) := by unfold wrap64; omega
      simp only [keys_put.l0, e, e1, e2, e3, e4, if_true]
      have e5 : shr .u64 n (56 - 8 * ((8 - (j + 1) : Nat) : Int)) = n / 256 ^ j := by
        unfold shr
        have : min (56 - 8 * ((8 - (j + 1) : Nat) : Int)).toNat IntKind.u64.bits = 8 * j := by
          show min _ 64 = _
          omega
        rw [this, Int.pow_mul]
        rfl
      rw [e5]
      have := ih (acc' ++ [n / 256 ^ j % 256]) (by omega) (by simp; omega)
      simpa [be] using this
  exact key 8 acc (by omega) hl
theorem put_text (s : ByteArray) (a : Int) (b : Int) (hs : s.size ≤ 140737488351232) : ∀ (suf pre : List UInt8) (acc : List Int), s.data.toList = pre ++ suf → acc.length + 2 * suf.length + 2 < 140737488355328 →
    Ev (fun k => keys_put.l1 k acc (s.size : Int) (pre.length : Int) a b s) (acc ++ (esc suf ++ [0, 1])) := by
  intro suf
  induction suf with
  | nil =>
    intro pre acc he hl
    have hz := size_toList s
    rw [he] at hz
    simp only [List.append_nil] at hz
    refine Ev.succ ?_
    have e : ¬ ((pre.length : Int) < (s.size : Int)) := by omega
    have e2 : acc.length + [(0 : Int), 1].length < 140737488355328 := by simp at hl ⊢; omega
    simp only [keys_put.l1, e, if_false, Option.bind_some, e2, if_true, esc, List.nil_append]
    exact Ev.pure _
  | cons c suf ih =>
    intro pre acc he hl
    have hz := size_toList s
    rw [he] at hz
    simp only [List.length_append, List.length_cons] at hz hl
    refine Ev.succ ?_
    have e : ((pre.length : Int) < (s.size : Int)) := by omega
    have e1 : (0 : Int) ≤ (pre.length : Int) := by omega
    have e2 : acc.length < 140737488355328 := by omega
    have e3 : (acc ++ [(c.toNat : Int)]).length < 140737488355328 := by simp; omega
    have e4 : wrap64 ((pre.length : Int) + 1) = (pre.length : Int) + 1 := wrap64_in (by omega) (by omega)
    have e5 := bt_at' s pre c suf he
    simp only [keys_put.l1, e, e1, e2, if_true, Option.bind_some, e4, e5]
    by_cases h : (c.toNat : Int) = 0
    · have hc : c = 0 := UInt8.toNat_inj.1 (by show c.toNat = 0; omega)
      simp only [h, if_true]
      have e6 : (acc ++ [(0 : Int)]).length < 140737488355328 := by simp; omega
      simp only [e6, if_true]
      have := ih (pre ++ [c]) (acc ++ [0] ++ [255]) (by simpa using he) (by simp; omega)
      rw [show esc (c :: suf) = 0 :: 255 :: esc suf by rw [esc, if_pos hc]]
      simpa using this
    · have hc : ¬ c = 0 := fun e => h (by subst e; rfl)
      simp only [h, if_false]
      have := ih (pre ++ [c]) (acc ++ [(c.toNat : Int)]) (by simpa using he) (by simp; omega)
      rw [show esc (c :: suf) = (c.toNat : Int) :: esc suf by rw [esc, if_neg hc]]
      simpa using this
theorem put_ev (x : S25) (acc : List Int) (h : okV x) (hc : chk x = 0) (hl : acc.length + 2 * x.f2.size + 11 < 140737488355328) : Ev (fun k => keys_put.f k acc x.f0 x.f1 x.f2) (acc ++ payload x) := by
  have hk := chk_kind hc
  unfold keys_put.f payload
  by_cases h1 : x.f0 = 1
  · have e : acc.length < 140737488355328 := by omega
    simp only [h1, if_true, e]
    exact Ev.pure _
  by_cases h2 : x.f0 = 2
  · have h12 : ¬ (2 : Int) = 1 := by decide
    simp only [h2, h12, if_true, if_false, sign_xor h.2.1]
    exact put_num acc _ (by omega)
  have hz := size_toList x.f2
  by_cases h3 : x.f0 = 3
  · have e1 : ¬ (3 : Int) = 1 := by decide
    have e2 : ¬ (3 : Int) = 2 := by decide
    have e3 : ((3 : Int) = 3 ∨ (3 : Int) = 4) = True := by simp
    simp only [h3, e1, e2, e3, if_false, if_true]
    refine Ev.succ ?_
    simp only [keys_put.j1, beq_self_eq_true, if_true]
    have := put_text x.f2 3 x.f1 h.2.2 x.f2.data.toList [] acc rfl (by omega)
    simpa using this
  by_cases h4 : x.f0 = 4
  · have e1 : ¬ (4 : Int) = 1 := by decide
    have e2 : ¬ (4 : Int) = 2 := by decide
    have e3 : ¬ (4 : Int) = 3 := by decide
    have e4 : ((4 : Int) = 3 ∨ (4 : Int) = 4) = True := by simp
    simp only [h4, e1, e2, e3, e4, if_false, if_true]
    refine Ev.succ ?_
    simp only [keys_put.j1, beq_self_eq_true, if_true]
    have := put_text x.f2 4 x.f1 h.2.2 x.f2.data.toList [] acc rfl (by omega)
    simpa using this
  · have h0 : x.f0 = 0 := by omega
    have e1 : ¬ (0 : Int) = 1 := by decide
    have e2 : ¬ (0 : Int) = 2 := by decide
    have e3 : ¬ (0 : Int) = 3 := by decide
    have e4 : ((0 : Int) == 4) = false := by decide
    simp only [h0, e1, e2, e3, if_false]
    refine Ev.succ ?_
    simp only [keys_put.j1, e4, Bool.false_eq_true, if_false]
    simp
    exact Ev.pure _
theorem turned_at (d : List Bool) (pre suf : List Bool) (n : Nat) (hd : d = pre ++ suf) (hn : pre.length = n ∨ (pre.length < n ∧ suf = [])) : keys_turned.f d (n : Int) = some (suf.headD false) := by
  rw [turned_is]
  subst hd
  rcases hn with rfl | ⟨hn, rfl⟩
  · cases suf with
    | nil => simp
    | cons c suf => simp
  · rw [List.append_nil, List.getD_eq_getElem?_getD, List.getElem?_eq_none (by omega)]
    rfl
theorem desc_next (pre suf : List Bool) (n : Nat) (hn : pre.length = n ∨ (pre.length < n ∧ suf = [])) : ∃ pre', pre' ++ suf.tail = pre ++ suf ∧ (pre'.length = n + 1 ∨ (pre'.length < n + 1 ∧ suf.tail = [])) := by
  cases suf with
  | nil => exact ⟨pre, rfl, .inr ⟨by rcases hn with h | h <;> omega, rfl⟩⟩
  | cons c suf =>
    rcases hn with h | ⟨_, h⟩
    · exact ⟨pre ++ [c], by simp, .inl (by simp; omega)⟩
    · cases h
theorem wrap_kind {x : S25} (hc : chk x = 0) : wrap64 (x.f0 + 1) % 256 = (x.f0 + 1) % 256 := by
  have := chk_kind hc
  rw [wrap64_in (by omega) (by omega)]
theorem encode_loop : ∀ (suf pre : List S25) (pd d : List Bool) (acc : List Int), (∀ x ∈ suf, okV x) → (pre ++ suf).length < 140737488355328 → acc.length + room suf < 140737488355328 → (pd.length = pre.length ∨ (pd.length < pre.length ∧ d = [])) →
    Ev (fun k => keys_Encode.l0 k (pd ++ d) acc (pre ++ suf) ((pre ++ suf).length : Int) (pre.length : Int)) (match encE d suf with | none => ([], 3) | some b => (acc ++ b, 0)) := by
  intro suf
  induction suf with
  | nil =>
    intro pre pd d acc _ hl _ _
    refine Ev.succ ?_
    simp [keys_Encode.l0, encE]
    exact Ev.pure _
  | cons x suf ih =>
    intro pre pd d acc hx hl hr hd
    refine Ev.succ ?_
    have e1 : (pre.length : Int) < ((pre ++ x :: suf).length : Int) := by simp; omega
    have e2 : (0 : Int) ≤ (pre.length : Int) := by omega
    simp only [keys_Encode.l0, e1, e2, if_true, rd_at, check_f, Option.bind_some]
    by_cases hc : chk x = 0
    · rw [encE, if_pos hc]
      have hx0 := hx x (by simp)
      have hb := encB_length x
      simp only [room, List.map_cons, List.sum_cons] at hr
      have e3 : acc.length < 140737488355328 := by omega
      have e6 : wrap64 ((pre.length : Int) + 1) = (pre.length : Int) + 1 := wrap64_in (by omega) (by simp at hl; omega)
      simp only [hc, e3, if_true, wrap_kind hc, e6]
      refine Ev.bind (put_ev x (acc ++ [(x.f0 + 1) % 256]) hx0 hc (by rw [List.length_append]; simp; omega)) ?_
      rw [turned_at (pd ++ d) pd d pre.length rfl hd]
      simp only [Option.bind_some]
      have ea : acc ++ [(x.f0 + 1) % 256] ++ payload x = acc ++ encB x := by simp [encB]
      rw [ea]
      obtain ⟨pd', hpd, hn⟩ := desc_next pd d pre.length hd
      have hgo : ∀ b : Bool, d.headD false = b → Ev (fun k => keys_Encode.l0 k (pd ++ d) (acc ++ turnB b (encB x)) (pre ++ x :: suf) ((pre ++ x :: suf).length : Int) ((pre.length : Int) + 1)) (match (encE d.tail suf).map (turnB b (encB x) ++ ·) with | none => ([], 3) | some b => (acc ++ b, 0)) := by
        intro b _
        have := ih (pre ++ [x]) pd' d.tail (acc ++ turnB b (encB x)) (fun y hy => hx y (by simp [hy])) (by simpa using hl) (by rw [List.length_append, turnB_length]; unfold room; omega) (by simpa using hn)
        rw [hpd] at this
        cases he : encE d.tail suf with
        | none => rw [he] at this; simpa using this
        | some c => rw [he] at this; simpa using this
      cases hh : d.headD false with
      | false =>
        simp only [Bool.false_eq_true, if_false]
        exact hgo false hh
      | true =>
        simp only [if_true]
        have e8 : acc.length < (acc ++ encB x).length := by rw [List.length_append]; simp [encB]
        have e9 : (acc ++ encB x).take acc.length ++ ((acc ++ encB x).drop acc.length).map fx = acc ++ turnB true (encB x) := by
          rw [List.take_left' rfl, List.drop_left' rfl, fx_map (encB_range x)]
          rfl
        simp only [e8, if_true, e9]
        exact hgo true hh
    · rw [encE, if_neg hc]
      simp only [hc, if_false]
      exact Ev.pure _
theorem encode_ev (l : List S25) (d : List Bool) (hx : ∀ x ∈ l, okV x) (hl : l.length < 140737488355328) (hr : room l < 140737488355328) : Ev (fun k => keys_Encode.f k l d) (encR d l) := by
  unfold keys_Encode.f encR
  have := encode_loop l [] [] d [] hx (by simpa using hl) (by simpa using hr) (.inl rfl)
  cases he : encE d l with
  | none => rw [he] at this; simpa using this
  | some b => rw [he] at this; simpa using this
theorem rdI_at (pre : List Int) (x : Int) (suf : List Int) : rd (pre ++ x :: suf) (pre.length : Int) = x := by
  unfold rd
  simp
end Go.Proofs.Ytmfenomjhmhogaa.Pure
end
section
namespace Go.Proofs.Ytmfenomjhmhogaa.Pure
set_option linter.unusedVariables false
set_option linter.unusedSimpArgs false
open Go.RowKit Go.Proofs.Ytmfenomjhmhogaa.P Go.Proofs.YtmfenomjhmhogaaW.PrintWords Go.Proofs.YtmfenomjhmhogaaW.PrintLast Go.Proofs.YtmfenomjhmhogaaW.PrintMore
def trim : List Int → List Int
  | [] => []
  | c :: l => if trim l = [] ∧ c = 255 then [] else c :: trim l
def bump : List Int → List Int
  | [] => []
  | [c] => [(c + 1) % 256]
  | c :: d :: l => c :: bump (d :: l)
def nextB (l : List Int) : List Int × Bool := if trim l = [] then ([], false) else (bump (trim l), true)
theorem trim_snoc_255 (l : List Int) : trim (l ++ [255]) = trim l := by
  induction l with
  | nil => simp [trim]
  | cons c l ih => simp only [List.cons_append, trim, ih]
theorem trim_snoc (l : List Int) (c : Int) (h : c ≠ 255) : trim (l ++ [c]) = l ++ [c] := by
  induction l with
  | nil => simp [trim, h]
  | cons d l ih => simp [List.cons_append, trim, ih]
theorem bump_snoc (l : List Int) (c : Int) : bump (l ++ [c]) = l ++ [(c + 1) % 256] := by
  induction l with
  | nil => rfl
  | cons d l ih =>
    cases l with
    | nil => rfl
    | cons e l => simp only [List.cons_append, bump] at ih ⊢; rw [ih]
theorem clone_f (l : List Int) (hl : l.length < 140737488355328) : slices_Clone_byte_byte.f l = some l := by unfold slices_Clone_byte_byte.f; rw [if_pos hl]
theorem next_loop (b : List Int) (hl : b.length < 140737488355328) : ∀ (n : Nat), n ≤ b.length → trim b = trim (b.take n) → Ev (fun k => keys_Next.l0 k b (n : Int)) (nextB b) := by
  intro n
  induction n with
  | zero =>
    intro _ ht
    refine Ev.succ ?_
    have e : ¬ (((0 : Nat) : Int) > 0) := by omega
    have e2 : ((0 : Nat) : Int) = 0 := rfl
    have h0 : trim b = [] := by rw [ht]; rfl
    unfold nextB
    simp only [keys_Next.l0, e, if_false, e2, if_true, h0]
    exact Ev.pure _
  | succ n ih =>
    intro hn ht
    refine Ev.succ ?_
    have e : (((n + 1 : Nat) : Int) > 0) := by omega
    have e1 : wrap64 (((n + 1 : Nat) : Int) - 1) = (n : Int) := by unfold wrap64; omega
    have e2 : (0 : Int) ≤ (n : Int) := by omega
    have e3 : (n : Int) < (b.length : Int) := by omega
    have hlt : n < b.length := by omega
    have htk : b.take (n + 1) = b.take n ++ [b[n]] := by rw [List.take_succ_eq_append_getElem hlt]
    have hbn : rd b (n : Int) = b[n] := by
      unfold rd
      rw [Int.toNat_natCast, List.getD_eq_getElem?_getD, List.getElem?_eq_getElem hlt]
      rfl
    simp only [keys_Next.l0, e, e1, e2, e3, if_true, hbn]
    by_cases h : b[n] = 255
    · simp only [h, if_true]
      rw [htk, h, trim_snoc_255] at ht
      exact ih (by omega) ht
    · have hne : ¬ ((n + 1 : Nat) : Int) = 0 := by omega
      have e4 : (0 : Int) ≤ ((n + 1 : Nat) : Int) := by omega
      have e5 : ((n + 1 : Nat) : Int) ≤ (b.length : Int) := by omega
      have e6 : (n : Int) < ((b.take (n + 1)).length : Int) := by rw [List.length_take]; omega
      rw [htk, trim_snoc _ _ h] at ht
      have hnb : nextB b = (b.take n ++ [(b[n] + 1) % 256], true) := by
        unfold nextB
        rw [ht, if_neg (by intro h0; have h1 := congrArg List.length h0; rw [List.length_append, List.length_cons, List.length_nil] at h1; omega), bump_snoc]
      have hset : (b.take (n + 1)).set n ((rd (b.take (n + 1)) (n : Int) + 1) % 256) = b.take n ++ [(b[n] + 1) % 256] := by
        have hr : rd (b.take (n + 1)) (n : Int) = b[n] := by
          rw [htk]
          have := rdI_at (b.take n) b[n] []
          rw [List.length_take, Nat.min_eq_left (by omega)] at this
          exact this
        rw [hr, htk, List.set_append_right _ _ (by rw [List.length_take]; omega)]
        rw [List.length_take, Nat.min_eq_left (by omega), Nat.sub_self]
        rfl
      simp only [h, if_false, hne, e4, e5, if_true, Int.toNat_natCast, clone_f (b.take (n + 1)) (by rw [List.length_take]; omega), Option.bind_some, e6, hset]
      rw [hnb]
      exact Ev.pure _
theorem next_ev (b : List Int) (hl : b.length < 140737488355328) : Ev (fun k => keys_Next.f k b) (nextB b) := by
  unfold keys_Next.f
  exact next_loop b hl b.length (Nat.le_refl _) (by rw [List.take_length])
end Go.Proofs.Ytmfenomjhmhogaa.Pure
end
section
namespace Go.Proofs.Ytmfenomjhmhogaa.Pure
set_option linter.unusedVariables false
set_option linter.unusedSimpArgs false
open Go.RowKit Go.Proofs.Ytmfenomjhmhogaa.P Go.Proofs.YtmfenomjhmhogaaW.PrintWords Go.Proofs.YtmfenomjhmhogaaW.PrintLast Go.Proofs.YtmfenomjhmhogaaW.PrintMore
def toT (x : S58) : S69 := ⟨x.f0, x.f1, x.f2⟩
theorem rd_at58 (pre : List S58) (x : S58) (suf : List S58) : rd_T58 (pre ++ x :: suf) (pre.length : Int) = x := by
  simp [rd_T58, List.getD_eq_getElem?_getD]
theorem its_loop : ∀ (suf pre : List S58) (acc : List S69), (pre ++ suf).length < 2932031007402 → acc.length = pre.length →
    Ev (fun k => quarrylaw19_its.l0 k (pre ++ suf) acc (pre.length : Int)) (acc ++ suf.map toT) := by
  intro suf
  induction suf with
  | nil =>
    intro pre acc hl ha
    refine Ev.succ ?_
    simp [quarrylaw19_its.l0]
    exact Ev.pure _
  | cons x suf ih =>
    intro pre acc hl ha
    refine Ev.succ ?_
    have e1 : (pre.length : Int) < ((pre ++ x :: suf).length : Int) := by simp; omega
    have e2 : (0 : Int) ≤ (pre.length : Int) := by omega
    have e3 : acc.length < 2932031007402 := by simp at hl; omega
    have e6 : wrap64 ((pre.length : Int) + 1) = (pre.length : Int) + 1 := wrap64_in (by omega) (by simp at hl; omega)
    simp only [quarrylaw19_its.l0, e1, e2, e3, if_true, rd_at58, e6]
    have := ih (pre ++ [x]) (acc ++ [toT x]) (by simpa using hl) (by simp [ha])
    simpa [toT] using this
theorem its_ev (l : List S58) (hl : l.length < 2932031007402) : Ev (fun k => quarrylaw19_its.f k l) (l.map toT) := by
  unfold quarrylaw19_its.f
  have := its_loop l [] [] (by simpa using hl) rfl
  simpa using this
theorem idxP_find (p : S69 → Bool) : ∀ l : List S69, (∃ x, l.find? p = some x ∧ 0 ≤ idxP p l ∧ rd_T69 l (idxP p l) = x) ∨ (l.find? p = none ∧ idxP p l = -1)
  | [] => .inr ⟨rfl, rfl⟩
  | x :: l => by
    by_cases hp : p x = true
    · left
      refine ⟨x, by simp [List.find?, hp], ?_, ?_⟩
      · unfold idxP; rw [if_pos hp]; decide
      · unfold idxP; rw [if_pos hp]; rfl
    · have hp' : p x = false := by simpa using hp
      rcases idxP_find p l with ⟨y, h1, h2, h3⟩ | ⟨h1, h2⟩
      · left
        refine ⟨y, by simp [List.find?, hp', h1], ?_, ?_⟩
        · unfold idxP; rw [if_neg hp, if_neg (by omega)]; omega
        · unfold idxP
          rw [if_neg hp, if_neg (by omega)]
          obtain ⟨n, hn⟩ := Int.eq_ofNat_of_zero_le h2
          rw [hn] at h3 ⊢
          rw [← h3]
          have e : ((n : Int) + 1).toNat = n + 1 := by omega
          simp only [rd_T69, Int.toNat_natCast, e, List.getD_cons_succ]
      · right
        refine ⟨by simp [List.find?, hp', h1], ?_⟩
        unfold idxP
        rw [if_neg hp, if_pos (by omega)]
theorem firstT_is (col : Int) (ops : List Int) (l : List S69) : firstT col ops l = match l.find? (isT col ops) with | some x => (x, true) | none => (z69, false) := by
  unfold firstT
  rcases idxP_find (isT col ops) l with ⟨x, h1, h2, h3⟩ | ⟨h1, h2⟩
  · rw [if_neg (by omega), h1, h3]
  · rw [if_pos (by omega), h1]
theorem firstT_some {col : Int} {ops : List Int} {l : List S69} (h : (firstT col ops l).2 = true) : (firstT col ops l).1 ∈ l ∧ (firstT col ops l).1.f0 = col ∧ (firstT col ops l).1.f1 ∈ ops := by
  rw [firstT_is] at h ⊢
  cases hf : l.find? (isT col ops) with
  | none => rw [hf] at h; cases h
  | some x =>
    have h1 := List.mem_of_find?_eq_some hf
    have h2 := List.find?_some hf
    simp only [isT, Bool.and_eq_true, beq_iff_eq] at h2
    exact ⟨h1, h2.1, by simpa using h2.2⟩
def optT (p : S69 × Bool) : List S69 := if p.2 = true then [p.1] else []
theorem optT_mem {col : Int} {ops : List Int} {l : List S69} {t : S69} (h : t ∈ optT (firstT col ops l)) : t ∈ l ∧ t.f0 = col ∧ t.f1 ∈ ops := by
  unfold optT at h
  split at h
  · rename_i h2
    simp only [List.mem_singleton] at h
    subst h
    exact firstT_some h2
  · cases h
theorem useG_form (L : List S69) : ∀ (cols : List Int) (acc : List S25), ∃ (pf cs : List Int) (pv : List S25), cols = pf ++ cs ∧ (useG L cols acc).1 = acc ++ pv ∧ pv.length = pf.length ∧
    (∀ (i : Nat) c v, pf[i]? = some c → pv[i]? = some v → ∃ t ∈ L, t.f0 = c ∧ t.f1 = 5 ∧ v = t.f2) ∧
    ((cs = [] ∧ (useG L cols acc).2 = ([], [])) ∨ ∃ c cs', cs = c :: cs' ∧ (useG L cols acc).2 = (optT (firstT c [9, 10] L), optT (firstT c [7, 8] L)))
  | [], acc => ⟨[], [], [], rfl, by simp [useG], rfl, fun i c v h => by simp at h, .inl ⟨rfl, rfl⟩⟩
  | c :: cols, acc => by
    by_cases h : (firstT c [5] L).2 = true
    · obtain ⟨pf, cs, pv, h1, h2, h3, h4, h5⟩ := useG_form L cols (acc ++ [(firstT c [5] L).1.f2])
      have e : useG L (c :: cols) acc = useG L cols (acc ++ [(firstT c [5] L).1.f2]) := by rw [useG, if_pos h]
      obtain ⟨m1, m2, m3⟩ := firstT_some h
      refine ⟨c :: pf, cs, (firstT c [5] L).1.f2 :: pv, by rw [h1]; rfl, by rw [e, h2, List.append_assoc]; rfl, by simp [h3], ?_, by rw [e]; exact h5⟩
      intro i c' v hc hv
      cases i with
      | zero =>
        simp at hc hv
        subst hc
        exact ⟨_, m1, m2, by simpa using m3, hv.symm⟩
      | succ i => exact h4 i c' v (by simpa using hc) (by simpa using hv)
    · have e : useG L (c :: cols) acc = (acc, optT (firstT c [9, 10] L), optT (firstT c [7, 8] L)) := by rw [useG, if_neg h]; rfl
      exact ⟨[], c :: cols, [], rfl, by rw [e]; simp, rfl, fun i c v h => by simp at h, .inr ⟨c, cols, rfl, by rw [e]⟩⟩
def Small (x : S25) : Prop := okV x ∧ x.f2.size ≤ 1048576
theorem room_small : ∀ (l : List S25), (∀ x ∈ l, Small x) → room l ≤ l.length * 2097164
  | [], _ => by simp [room]
  | x :: l, h => by
    have h1 := (h x (by simp)).2
    have h2 := room_small l (fun y hy => h y (by simp [hy]))
    simp only [room, List.map_cons, List.sum_cons, List.length_cons, Nat.add_mul] at h2 ⊢
    omega
theorem encR_len (d : List Bool) (l : List S25) : (encR d l).1.length ≤ room l := by
  unfold encR
  cases h : encE d l with
  | none => simp
  | some b => exact encE_length l d h
def keyP (vs : List S25) (d : List Bool) (t : S69) : List Int := (encR d (vs ++ [t.f2])).1
def lowP (vs : List S25) (d : List Bool) (base : List Int) : List S69 → List Int → List Int
  | [], cur => cur
  | t :: r, _ => lowP vs d base r (if t.f1 = 9 ∨ t.f1 = 7 then (if (nextB (keyP vs d t)).2 = true then (nextB (keyP vs d t)).1 else base) else keyP vs d t)
def highP (vs : List S25) (d : List Bool) : List S69 → List Int × Bool → List Int × Bool
  | [], cur => cur
  | t :: r, _ => highP vs d r (if t.f1 = 8 ∨ t.f1 = 10 then nextB (keyP vs d t) else (keyP vs d t, true))
theorem small_append {vs : List S25} {x : S25} (hv : ∀ x ∈ vs, Small x) (hx : Small x) : ∀ y ∈ vs ++ [x], Small y := fun y hy => by
  rcases List.mem_append.1 hy with h | h
  · exact hv y h
  · simp at h; subst h; exact hx
theorem enc_ev {vs : List S25} (d : List Bool) (hv : ∀ x ∈ vs, Small x) (hl : vs.length ≤ 1048577) : Ev (fun k => keys_Encode.f k vs d) (encR d vs) :=
  encode_ev vs d (fun x hx => (hv x hx).1) (by omega) (by have := room_small vs hv; omega)
theorem enc_small {vs : List S25} (d : List Bool) (hv : ∀ x ∈ vs, Small x) (hl : vs.length ≤ 1048577) : (encR d vs).1.length < 140737488355328 := by
  have h1 := encR_len d vs
  have h2 := room_small vs hv
  omega
theorem key_ev {vs : List S25} (d : List Bool) {t : S69} (hv : ∀ x ∈ vs, Small x) (ht : Small t.f2) (hl : vs.length ≤ 1048576) : Ev (fun k => keyF k vs d t) (keyP vs d t) := by
  unfold keyF
  refine Ev.pos (by omega) ?_
  refine Ev.bind (enc_ev d (small_append hv ht) (by simp; omega)) ?_
  exact Ev.pure _
theorem key_small {vs : List S25} (d : List Bool) {t : S69} (hv : ∀ x ∈ vs, Small x) (ht : Small t.f2) (hl : vs.length ≤ 1048576) : (keyP vs d t).length < 140737488355328 := enc_small d (small_append hv ht) (by simp; omega)
theorem low_ev {vs : List S25} (d : List Bool) (base : List Int) (hv : ∀ x ∈ vs, Small x) (hl : vs.length ≤ 1048576) : ∀ (lo : List S69) (cur : List Int), (∀ t ∈ lo, Small t.f2) → Ev (fun k => lowF k vs d base lo cur) (lowP vs d base lo cur)
  | [], cur, _ => Ev.pure _
  | t :: r, cur, h => by
    have ht := h t (by simp)
    have hr := fun c => low_ev d base hv hl r c (fun y hy => h y (by simp [hy]))
    simp only [lowF, lowP]
    refine Ev.bind (key_ev d hv ht hl) ?_
    by_cases hs : t.f1 = 9 ∨ t.f1 = 7
    · rw [if_pos hs]
      refine Ev.pos hs ?_
      refine Ev.bind (next_ev _ (key_small d hv ht hl)) ?_
      exact hr _
    · rw [if_neg hs]
      exact Ev.neg hs (hr _)
theorem high_ev {vs : List S25} (d : List Bool) (hv : ∀ x ∈ vs, Small x) (hl : vs.length ≤ 1048576) : ∀ (up : List S69) (cur : List Int × Bool), (∀ t ∈ up, Small t.f2) → Ev (fun k => highF k vs d up cur.1 cur.2) (highP vs d up cur)
  | [], cur, _ => Ev.pure _
  | t :: r, cur, h => by
    have ht := h t (by simp)
    have hr := fun c => high_ev d hv hl r c (fun y hy => h y (by simp [hy]))
    simp only [highF, highP]
    refine Ev.bind (key_ev d hv ht hl) ?_
    by_cases hs : t.f1 = 8 ∨ t.f1 = 10
    · rw [if_pos hs]
      refine Ev.pos hs ?_
      refine Ev.bind (next_ev _ (key_small d hv ht hl)) ?_
      exact hr _
    · rw [if_neg hs]
      exact Ev.neg hs (hr (_, true))
def rangeG (vs : List S25) (lo up : List S69) (d : List Bool) : List Int × List Int × Bool :=
  (lowP vs d (encR d vs).1 lo (encR d vs).1, (highP vs d up (nextB (encR d vs).1)).1, !(highP vs d up (nextB (encR d vs).1)).2)
def rangeP (cols : List Int) (d : List Bool) (L : List S69) : List Int × List Int × Bool :=
  if swapB (useG L cols []).1 d = true then rangeG (useG L cols []).1 (useG L cols []).2.2 (useG L cols []).2.1 d else rangeG (useG L cols []).1 (useG L cols []).2.1 (useG L cols []).2.2 d
theorem g_ev {vs : List S25} {lo up : List S69} (d : List Bool) (hv : ∀ x ∈ vs, Small x) (hlo : ∀ t ∈ lo, Small t.f2) (hup : ∀ t ∈ up, Small t.f2) (hl : vs.length ≤ 1048576) : Ev (fun k => bounds_Range.g k vs lo up d) (rangeG vs lo up d) := by
  unfold bounds_Range.g
  refine Ev.bind (enc_ev d hv (by omega)) ?_
  refine Ev.bind (low_ev d _ hv hl lo _ hlo) ?_
  refine Ev.bind (next_ev _ (enc_small d hv (by omega))) ?_
  refine Ev.bind (high_ev d hv hl up _ hup) ?_
  exact Ev.pure _
theorem useG_small {L : List S69} (hL : ∀ t ∈ L, Small t.f2) (cols : List Int) (hl : cols.length ≤ 1048576) :
    (∀ x ∈ (useG L cols []).1, Small x) ∧ (∀ t ∈ (useG L cols []).2.1, t ∈ L) ∧ (∀ t ∈ (useG L cols []).2.2, t ∈ L) ∧ (useG L cols []).1.length ≤ cols.length := by
  obtain ⟨pf, cs, pv, h1, h2, h3, h4, h5⟩ := useG_form L cols []
  rw [List.nil_append] at h2
  have hlen : pv.length ≤ cols.length := by rw [h3, h1]; simp
  refine ⟨?_, ?_, ?_, by rw [h2]; exact hlen⟩
  · intro x hx
    rw [h2] at hx
    obtain ⟨i, hi, rfl⟩ := List.getElem_of_mem hx
    obtain ⟨t, ht, _, _, hv⟩ := h4 i pf[i] pv[i] (List.getElem?_eq_getElem (by omega)) (List.getElem?_eq_getElem hi)
    rw [hv]
    exact hL t ht
  · intro t ht
    rcases h5 with ⟨_, e⟩ | ⟨c, cs', _, e⟩
    · rw [e] at ht; cases ht
    · rw [e] at ht; exact (optT_mem ht).1
  · intro t ht
    rcases h5 with ⟨_, e⟩ | ⟨c, cs', _, e⟩
    · rw [e] at ht; cases ht
    · rw [e] at ht; exact (optT_mem ht).1
theorem range_ev (a0 : Int) (a1 a2 : ByteArray) (cols : List Int) (d : List Bool) (a5 : Bool) {L : List S69} (hL : ∀ t ∈ L, Small t.f2) (hl : cols.length ≤ 1048576) : Ev (fun k => bounds_Range.f k a0 a1 a2 cols d a5 L) (rangeP cols d L) := by
  obtain ⟨s1, s2, s3, s4⟩ := useG_small hL cols hl
  unfold bounds_Range.f
  have hu : bounds_useOf.f a0 a1 a2 cols d a5 L = some (useG L cols []) := by unfold bounds_useOf.f; rw [if_pos (by omega)]
  simp only [hu, Option.bind_some]
  unfold rangeP
  by_cases hs : swapB (useG L cols []).1 d = true
  · rw [if_pos hs]
    exact Ev.pos hs (g_ev d s1 (fun t ht => hL t (s3 t ht)) (fun t ht => hL t (s2 t ht)) (by omega))
  · rw [if_neg hs]
    exact Ev.neg hs (g_ev d s1 (fun t ht => hL t (s2 t ht)) (fun t ht => hL t (s3 t ht)) (by omega))
end Go.Proofs.Ytmfenomjhmhogaa.Pure
end
section
namespace Go.Proofs.Ytmfenomjhmhogaa.Pure
set_option linter.unusedVariables false
set_option linter.unusedSimpArgs false
open Go.RowKit Go.Proofs.Ytmfenomjhmhogaa.P Go.Proofs.YtmfenomjhmhogaaW.PrintWords Go.Proofs.YtmfenomjhmhogaaW.PrintLast Go.Proofs.YtmfenomjhmhogaaW.PrintMore
theorem ref_check_f (x : S25) : quarryref01_Check.f x.f0 x.f1 x.f2 = some (chk x) := rfl
theorem ref_num (acc : List Int) (n : Int) (h0 : 0 ≤ n) (hl : acc.length + 8 < 140737488355328) : Ev (fun k => quarryref03_bytes.l0 k acc n 7) (acc ++ be 8 n) := by
  have key : ∀ (j : Nat) (acc' : List Int), j ≤ 8 → acc'.length + j < 140737488355328 → Ev (fun k => quarryref03_bytes.l0 k acc' n ((j : Int) - 1)) (acc' ++ be j n) := by
    intro j
    induction j with
    | zero =>
      intro acc' _ _
      refine Ev.succ ?_
      have e : ¬ (((0 : Nat) : Int) - 1 ≥ 0) := by omega
      simp only [quarryref03_bytes.l0, e, if_false, be, List.append_nil]
      exact Ev.pure _
    | succ j ih =>
      intro acc' hj hl'
      refine Ev.succ ?_
      have e : (((j + 1 : Nat) : Int) - 1 ≥ 0) := by omega
      have e1 : wrap64 (8 * (((j + 1 : Nat) : Int) - 1)) = 8 * (j : Int) := by unfold wrap64; omega
      have e2 : (0 : Int) ≤ 8 * (j : Int) := by omega
      have e3 : acc'.length < 140737488355328 := by omega
      have e4 : wrap64 (((j + 1 : Nat) : Int) - 1 - 1) = (j : Int) - 1 := by unfold wrap64; omega
      simp only [quarryref03_bytes.l0, e, e1, e2, e3, e4, if_true]
      have e5 : shr .u64 n (8 * (j : Int)) = n / 256 ^ j := by
        unfold shr
        have : min (8 * (j : Int)).toNat IntKind.u64.bits = 8 * j := by
          show min _ 64 = _
          omega
        rw [this, Int.pow_mul]
        rfl
      have hp : (0 : Int) < 256 ^ j := Int.pow_pos (by decide)
      have hq : 0 ≤ n / 256 ^ j := Int.ediv_nonneg h0 (by omega)
      have e6 : Int.tmod (n / 256 ^ j) 256 % 256 = n / 256 ^ j % 256 := by rw [Int.tmod_eq_emod_of_nonneg hq]; omega
      rw [e5, e6]
      have := ih (acc' ++ [n / 256 ^ j % 256]) (by omega) (by simp; omega)
      simpa [be] using this
  exact key 8 acc (by omega) hl
theorem ref_text (s : ByteArray) (a : Int) (b : Int) (hs : s.size ≤ 140737488351232) : ∀ (suf pre : List UInt8) (acc : List Int), s.data.toList = pre ++ suf → acc.length + 2 * suf.length + 2 < 140737488355328 →
    Ev (fun k => quarryref03_bytes.l1 k acc (pre.length : Int) a b s) (acc ++ (esc suf ++ [0, 1])) := by
  intro suf
  induction suf with
  | nil =>
    intro pre acc he hl
    have hz := size_toList s
    rw [he] at hz
    simp only [List.append_nil] at hz
    refine Ev.succ ?_
    have e : ¬ ((pre.length : Int) < (s.size : Int)) := by omega
    have e2 : acc.length + [(0 : Int), 1].length < 140737488355328 := by simp at hl ⊢; omega
    simp only [quarryref03_bytes.l1, e, if_false, Option.bind_some, e2, if_true, esc, List.nil_append]
    exact Ev.pure _
  | cons c suf ih =>
    intro pre acc he hl
    have hz := size_toList s
    rw [he] at hz
    simp only [List.length_append, List.length_cons] at hz hl
    refine Ev.succ ?_
    have e : ((pre.length : Int) < (s.size : Int)) := by omega
    have e1 : (0 : Int) ≤ (pre.length : Int) := by omega
    have e2 : acc.length < 140737488355328 := by omega
    have e4 : wrap64 ((pre.length : Int) + 1) = (pre.length : Int) + 1 := wrap64_in (by omega) (by omega)
    have e5 := bt_at' s pre c suf he
    simp only [quarryref03_bytes.l1, e, e1, e2, if_true, Option.bind_some, e4, e5]
    by_cases h : (c.toNat : Int) = 0
    · have hc : c = 0 := UInt8.toNat_inj.1 (by show c.toNat = 0; omega)
      simp only [h, if_true]
      have e6 : (acc ++ [(0 : Int)]).length < 140737488355328 := by simp; omega
      simp only [e6, if_true]
      have := ih (pre ++ [c]) (acc ++ [0] ++ [255]) (by simpa using he) (by simp; omega)
      rw [show esc (c :: suf) = 0 :: 255 :: esc suf by rw [esc, if_pos hc]]
      simpa using this
    · have hc : ¬ c = 0 := fun e => h (by subst e; rfl)
      simp only [h, if_false]
      have := ih (pre ++ [c]) (acc ++ [(c.toNat : Int)]) (by simpa using he) (by simp; omega)
      rw [show esc (c :: suf) = (c.toNat : Int) :: esc suf by rw [esc, if_neg hc]]
      simpa using this
theorem ref_bytes_ev (x : S25) (h : okV x) (hc : chk x = 0) (hl : 2 * x.f2.size + 11 < 140737488355328) : Ev (fun k => quarryref03_bytes.f k x.f0 x.f1 x.f2) (encB x) := by
  have hk := chk_kind hc
  unfold quarryref03_bytes.f encB payload
  simp only [Option.bind_some, wrap_kind hc]
  have hi := h.2.1
  unfold I64 at hi
  by_cases h0 : x.f0 = 0
  · simp [h0]
    exact Ev.pure _
  by_cases h1 : x.f0 = 1
  · simp [h1]
    exact Ev.pure _
  by_cases h2 : x.f0 = 2
  · have e0 : ¬ (2 : Int) = 0 := by decide
    have e1 : ¬ (2 : Int) = 1 := by decide
    simp only [h2, e0, e1, if_true, if_false, sign_add h.2.1]
    exact ref_num [((2 : Int) + 1) % 256] _ (by omega) (by simp)
  have hz := size_toList x.f2
  have h3 : x.f0 = 3 ∨ x.f0 = 4 := by omega
  simp only [h0, h1, h2, h3, if_true, if_false]
  have := ref_text x.f2 x.f0 x.f1 h.2.2 x.f2.data.toList [] [(x.f0 + 1) % 256] rfl (by simp; omega)
  simpa using this
theorem ref_flip_loop : ∀ (suf pre acc : List Int), BytesIn suf → (pre ++ suf).length < 140737488355328 → acc.length + suf.length < 140737488355328 → Ev (fun k => quarryref03_flip.l0 k (pre ++ suf) acc (pre.length : Int)) (acc ++ flipL suf) := by
  intro suf
  induction suf with
  | nil =>
    intro pre acc _ hl _
    refine Ev.succ ?_
    simp [quarryref03_flip.l0, flipL]
    exact Ev.pure _
  | cons x suf ih =>
    intro pre acc hb hl ha
    refine Ev.succ ?_
    have e1 : (pre.length : Int) < ((pre ++ x :: suf).length : Int) := by simp; omega
    have e2 : (0 : Int) ≤ (pre.length : Int) := by omega
    have e3 : acc.length < 140737488355328 := by simp at ha; omega
    have e6 : wrap64 ((pre.length : Int) + 1) = (pre.length : Int) + 1 := wrap64_in (by omega) (by simp at hl; omega)
    have hx := hb x (by simp)
    have e7 : (255 - x) % 256 = 255 - x := by omega
    simp only [quarryref03_flip.l0, e1, e2, e3, if_true, rdI_at, e6, e7]
    have := ih (pre ++ [x]) (acc ++ [255 - x]) (fun y hy => hb y (by simp [hy])) (by simpa using hl) (by simp at ha ⊢; omega)
    simpa [flipL] using this
theorem ref_flip_ev (l : List Int) (hb : BytesIn l) (hl : l.length < 140737488355328) : Ev (fun k => quarryref03_flip.f k l) (flipL l) := by
  unfold quarryref03_flip.f
  have := ref_flip_loop l [] [] hb (by simpa using hl) (by simpa using hl)
  simpa using this
theorem ref_turned_at (d : List Bool) (n : Nat) : quarryref03_turned.f d (n : Int) = keys_turned.f d (n : Int) := rfl
theorem ref_encode_loop : ∀ (suf pre : List S25) (pd d : List Bool) (acc : List Int), (∀ x ∈ suf, okV x) → (pre ++ suf).length < 140737488355328 → acc.length + room suf < 140737488355328 → (pd.length = pre.length ∨ (pd.length < pre.length ∧ d = [])) →
    Ev (fun k => quarryref03_Encode.l0 k (pre ++ suf) (pd ++ d) acc (pre.length : Int)) (match encE d suf with | none => ([], 3) | some b => (acc ++ b, 0)) := by
  intro suf
  induction suf with
  | nil =>
    intro pre pd d acc _ hl _ _
    refine Ev.succ ?_
    simp [quarryref03_Encode.l0, encE]
    exact Ev.pure _
  | cons x suf ih =>
    intro pre pd d acc hx hl hr hd
    refine Ev.succ ?_
    have e1 : (pre.length : Int) < ((pre ++ x :: suf).length : Int) := by simp; omega
    have e2 : (0 : Int) ≤ (pre.length : Int) := by omega
    simp only [quarryref03_Encode.l0, e1, e2, if_true, rd_at, ref_check_f, Option.bind_some]
    by_cases hc : chk x = 0
    · rw [encE, if_pos hc]
      have hx0 := hx x (by simp)
      have hb := encB_length x
      simp only [room, List.map_cons, List.sum_cons] at hr
      have e6 : wrap64 ((pre.length : Int) + 1) = (pre.length : Int) + 1 := wrap64_in (by omega) (by simp at hl; omega)
      simp only [hc, if_true, e6]
      refine Ev.bind (ref_bytes_ev x hx0 hc (by omega)) ?_
      rw [ref_turned_at, turned_at (pd ++ d) pd d pre.length rfl hd]
      simp only [Option.bind_some]
      obtain ⟨pd', hpd, hn⟩ := desc_next pd d pre.length hd
      have hgo : ∀ b : Bool, d.headD false = b → Ev (fun k => quarryref03_Encode.l0 k (pre ++ x :: suf) (pd ++ d) (acc ++ turnB b (encB x)) ((pre.length : Int) + 1)) (match (encE d.tail suf).map (turnB b (encB x) ++ ·) with | none => ([], 3) | some b => (acc ++ b, 0)) := by
        intro b _
        have := ih (pre ++ [x]) pd' d.tail (acc ++ turnB b (encB x)) (fun y hy => hx y (by simp [hy])) (by simpa using hl) (by rw [List.length_append, turnB_length]; unfold room; omega) (by simpa using hn)
        rw [hpd] at this
        cases he : encE d.tail suf with
        | none => rw [he] at this; simpa using this
        | some c => rw [he] at this; simpa using this
      cases hh : d.headD false with
      | false =>
        have e8 : acc.length + (encB x).length < 140737488355328 := by omega
        simp only [Bool.false_eq_true, if_false, e8, if_true]
        exact hgo false hh
      | true =>
        simp only [if_true]
        refine Ev.bind (ref_flip_ev (encB x) (encB_range x) (by omega)) ?_
        have e8 : acc.length + (flipL (encB x)).length < 140737488355328 := by rw [flipL_length]; omega
        simp only [e8, if_true]
        exact hgo true hh
    · rw [encE, if_neg hc]
      simp only [hc, if_false]
      exact Ev.pure _
theorem ref_encode_ev (l : List S25) (d : List Bool) (hx : ∀ x ∈ l, okV x) (hl : l.length < 140737488355328) (hr : room l < 140737488355328) : Ev (fun k => quarryref03_Encode.f k l d) (encR d l) := by
  unfold quarryref03_Encode.f encR
  have := ref_encode_loop l [] [] d [] hx (by simpa using hl) (by simpa using hr) (.inl rfl)
  cases he : encE d l with
  | none => rw [he] at this; simpa using this
  | some b => rw [he] at this; simpa using this
end Go.Proofs.Ytmfenomjhmhogaa.Pure
end
section
namespace Go.Proofs.Ytmfenomjhmhogaa.Pure
set_option linter.unusedVariables false
set_option linter.unusedSimpArgs false
open Go.RowKit Go.Proofs.Ytmfenomjhmhogaa.P Go.Proofs.YtmfenomjhmhogaaW.PrintWords Go.Proofs.YtmfenomjhmhogaaW.PrintLast Go.Proofs.YtmfenomjhmhogaaW.PrintMore
theorem ref_next_loop (b : List Int) (hl : b.length < 140737488355328) : ∀ (n : Nat), n ≤ b.length → trim b = trim (b.take n) → Ev (fun k => quarryref03_Next.l0 k b (n : Int)) (nextB b) := by
  intro n
  induction n with
  | zero =>
    intro _ ht
    refine Ev.succ ?_
    have e : ¬ (((0 : Nat) : Int) > 0) := by omega
    have e2 : ((0 : Nat) : Int) = 0 := rfl
    have h0 : trim b = [] := by rw [ht]; rfl
    unfold nextB
    simp only [quarryref03_Next.l0, e, if_false, e2, if_true, h0]
    exact Ev.pure _
  | succ n ih =>
    intro hn ht
    refine Ev.succ ?_
    have e : (((n + 1 : Nat) : Int) > 0) := by omega
    have e1 : wrap64 (((n + 1 : Nat) : Int) - 1) = (n : Int) := by unfold wrap64; omega
    have e2 : (0 : Int) ≤ (n : Int) := by omega
    have e3 : (n : Int) < (b.length : Int) := by omega
    have hlt : n < b.length := by omega
    have htk : b.take (n + 1) = b.take n ++ [b[n]] := by rw [List.take_succ_eq_append_getElem hlt]
    have hbn : rd b (n : Int) = b[n] := by
      unfold rd
      rw [Int.toNat_natCast, List.getD_eq_getElem?_getD, List.getElem?_eq_getElem hlt]
      rfl
    simp only [quarryref03_Next.l0, e, e1, e2, e3, if_true, hbn]
    by_cases h : b[n] = 255
    · simp only [h, if_true]
      rw [htk, h, trim_snoc_255] at ht
      exact ih (by omega) ht
    · have hne : ¬ ((n + 1 : Nat) : Int) = 0 := by omega
      have e4 : (0 : Int) ≤ ((n + 1 : Nat) : Int) := by omega
      have e5 : ((n + 1 : Nat) : Int) ≤ (b.length : Int) := by omega
      have e6 : (n : Int) < ((b.take (n + 1)).length : Int) := by rw [List.length_take]; omega
      have e7 : ([] : List Int).length + (b.take (n + 1)).length < 140737488355328 := by rw [List.length_take]; simp; omega
      rw [htk, trim_snoc _ _ h] at ht
      have hnb : nextB b = (b.take n ++ [(b[n] + 1) % 256], true) := by
        unfold nextB
        rw [ht, if_neg (by intro h0; have h1 := congrArg List.length h0; rw [List.length_append, List.length_cons, List.length_nil] at h1; omega), bump_snoc]
      have hset : (b.take (n + 1)).set n ((rd (b.take (n + 1)) (n : Int) + 1) % 256) = b.take n ++ [(b[n] + 1) % 256] := by
        have hr : rd (b.take (n + 1)) (n : Int) = b[n] := by
          rw [htk]
          have := rdI_at (b.take n) b[n] []
          rw [List.length_take, Nat.min_eq_left (by omega)] at this
          exact this
        rw [hr, htk, List.set_append_right _ _ (by rw [List.length_take]; omega)]
        rw [List.length_take, Nat.min_eq_left (by omega), Nat.sub_self]
        rfl
      simp only [h, if_false, hne, e4, e5, if_true, Int.toNat_natCast, Option.bind_some, List.nil_append, e6, e7, hset]
      rw [hnb]
      exact Ev.pure _
theorem ref_next_ev (b : List Int) (hl : b.length < 140737488355328) : Ev (fun k => quarryref03_Next.f k b) (nextB b) := by
  unfold quarryref03_Next.f
  exact ref_next_loop b hl b.length (Nat.le_refl _) (by rw [List.take_length])
end Go.Proofs.Ytmfenomjhmhogaa.Pure
end
section
namespace Go.Proofs.Ytmfenomjhmhogaa.P
open Go.RowKit Go.Proofs.YtmfenomjhmhogaaW.PrintWords Go.Proofs.YtmfenomjhmhogaaW.PrintLast Go.Proofs.YtmfenomjhmhogaaW.PrintMore
attribute [local go_sem] max2_int min2_int max_two min_two max_three min_three max_four min_four
set_option linter.unusedVariables false
set_option linter.unusedSimpArgs false
end Go.Proofs.Ytmfenomjhmhogaa.P
end
section
namespace Go.Proofs.Ytmfenomjhmhogaa.P
open Go.RowKit Go.Proofs.YtmfenomjhmhogaaW.PrintWords Go.Proofs.YtmfenomjhmhogaaW.PrintLast Go.Proofs.YtmfenomjhmhogaaW.PrintMore
attribute [local go_sem] max2_int min2_int max_two min_two max_three min_three max_four min_four
set_option linter.unusedVariables false
set_option linter.unusedSimpArgs false
attribute [local go_sem high] eqA25
end Go.Proofs.Ytmfenomjhmhogaa.P
end
section
namespace Go.Proofs.Ytmfenomjhmhogaa.Pure
set_option linter.unusedVariables false
set_option linter.unusedSimpArgs false
open Go.RowKit Go.Proofs.Ytmfenomjhmhogaa.P Go.Proofs.YtmfenomjhmhogaaW.PrintWords Go.Proofs.YtmfenomjhmhogaaW.PrintLast Go.Proofs.YtmfenomjhmhogaaW.PrintMore
def rightB (l : List S58) : Bool := l.all fun x => decide (chk x.f2 = 0) && !decide (x.f2.f0 = 0)
theorem right_loop : ∀ (suf pre : List S58), (pre ++ suf).length < 140737488355328 → Ev (fun k => quarrylaw19_right.l0 k (pre ++ suf) (pre.length : Int)) (rightB suf) := by
  intro suf
  induction suf with
  | nil =>
    intro pre hl
    refine Ev.succ ?_
    simp [quarrylaw19_right.l0, rightB]
    exact Ev.pure _
  | cons x suf ih =>
    intro pre hl
    refine Ev.succ ?_
    have e1 : (pre.length : Int) < ((pre ++ x :: suf).length : Int) := by simp; omega
    have e2 : (0 : Int) ≤ (pre.length : Int) := by omega
    have e6 : wrap64 ((pre.length : Int) + 1) = (pre.length : Int) + 1 := wrap64_in (by omega) (by simp at hl; omega)
    simp only [quarrylaw19_right.l0, e1, e2, if_true, rd_at58, ref_check_f, Option.bind_some, e6]
    by_cases hc : chk x.f2 = 0
    · simp only [hc, if_true]
      by_cases hn : x.f2.f0 = 0
      · simp only [hn, if_true]
        have e : rightB (x :: suf) = false := by simp [rightB, hn]
        rw [e]
        exact Ev.pure _
      · simp only [hn, if_false]
        have := ih (pre ++ [x]) (by simpa using hl)
        have e : rightB (x :: suf) = rightB suf := by simp [rightB, hc, hn]
        rw [e]
        simpa using this
    · simp only [hc, if_false]
      have e : rightB (x :: suf) = false := by simp [rightB, hc]
      rw [e]
      exact Ev.pure _
theorem right_ev (l : List S58) (hl : l.length < 140737488355328) : Ev (fun k => quarrylaw19_right.f k l) (rightB l) := by
  unfold quarrylaw19_right.f
  have := right_loop l [] (by simpa using hl)
  simpa using this
def cntP (L : List S69) (cols : List Int) : Int := (useG L cols []).1.length + (useG L cols []).2.1.length + (useG L cols []).2.2.length
def bestP (L : List S69) : List S41 → Int → Int → Int → Int
  | [], _, best, _ => best
  | x :: l, i, best, most => if cntP L x.f3 > most then bestP L l (i + 1) i (cntP L x.f3) else bestP L l (i + 1) best most
theorem optT_len (p : S69 × Bool) : (optT p).length ≤ 1 := by unfold optT; split <;> simp
theorem cnt_small (L : List S69) (cols : List Int) (hl : cols.length ≤ 1048576) : 0 ≤ cntP L cols ∧ cntP L cols ≤ 1048578 ∧ (useG L cols []).1.length ≤ 1048576 ∧ (useG L cols []).2.1.length ≤ 1 ∧ (useG L cols []).2.2.length ≤ 1 := by
  obtain ⟨pf, cs, pv, h1, h2, h3, h4, h5⟩ := useG_form L cols []
  rw [List.nil_append] at h2
  have hlen : pv.length ≤ cols.length := by rw [h3, h1]; simp
  unfold cntP
  rw [h2]
  rcases h5 with ⟨_, e⟩ | ⟨c, cs', _, e⟩
  · rw [e]; simp; omega
  · rw [e]
    have a := optT_len (firstT c [9, 10] L)
    have b := optT_len (firstT c [7, 8] L)
    simp only
    omega
theorem rd_at41 (pre : List S41) (x : S41) (suf : List S41) : rd_T41 (pre ++ x :: suf) (pre.length : Int) = x := by
  simp [rd_T41, List.getD_eq_getElem?_getD]
theorem best_loop (L : List S69) : ∀ (suf pre : List S41) (best most : Int), (pre ++ suf).length < 140737488355328 → (∀ x ∈ suf, x.f3.length ≤ 1048576) →
    Ev (fun k => bounds_Best.l0 k L best most (pre ++ suf) ((pre ++ suf).length : Int) (pre.length : Int)) (bestP L suf (pre.length : Int) best most) := by
  intro suf
  induction suf with
  | nil =>
    intro pre best most hl hx
    refine Ev.succ ?_
    simp [bounds_Best.l0, bestP]
    exact Ev.pure _
  | cons x suf ih =>
    intro pre best most hl hx
    refine Ev.succ ?_
    have e1 : (pre.length : Int) < ((pre ++ x :: suf).length : Int) := by simp; omega
    have e2 : (0 : Int) ≤ (pre.length : Int) := by omega
    have e6 : wrap64 ((pre.length : Int) + 1) = (pre.length : Int) + 1 := wrap64_in (by omega) (by simp at hl; omega)
    have hxl := hx x (by simp)
    have hu : bounds_useOf.f x.f0 x.f1 x.f2 x.f3 x.f4 x.f5 L = some (useG L x.f3 []) := by unfold bounds_useOf.f; rw [if_pos (by omega)]
    have hcs := cnt_small L x.f3 hxl
    have hc : bounds_use_count.f (useG L x.f3 []).1 (useG L x.f3 []).2.1 (useG L x.f3 []).2.2 = some (cntP L x.f3) := by
      unfold bounds_use_count.f cntP
      rw [wrap64_in (n := ((useG L x.f3 []).1.length : Int) + ((useG L x.f3 []).2.1.length : Int)) (by omega) (by omega), wrap64_in (by omega) (by omega)]
    have step : ∀ k, bounds_Best.l0 (k + 1) L best most (pre ++ x :: suf) ((pre ++ x :: suf).length : Int) (pre.length : Int) =
        if cntP L x.f3 > most then bounds_Best.l0 k L (pre.length : Int) (cntP L x.f3) (pre ++ x :: suf) ((pre ++ x :: suf).length : Int) ((pre.length : Int) + 1) else bounds_Best.l0 k L best most (pre ++ x :: suf) ((pre ++ x :: suf).length : Int) ((pre.length : Int) + 1) := by
      intro k
      rw [bounds_Best.l0, if_pos e1, if_pos e2, if_pos e1, rd_at41, hu, Option.bind_some, hc, Option.bind_some, e6]
    clear hu hc
    have hr := fun b m => ih (pre ++ [x]) b m (by simpa using hl) (fun y hy => hx y (by simp [hy]))
    unfold bestP
    by_cases hg : cntP L x.f3 > most
    · rw [if_pos hg]
      refine Ev.of_eq ?_ (fun k => (step k).trans (if_pos hg))
      have := hr (pre.length : Int) (cntP L x.f3)
      simpa using this
    · rw [if_neg hg]
      refine Ev.of_eq ?_ (fun k => (step k).trans (if_neg hg))
      have := hr best most
      simpa using this
theorem best_ev (l : List S41) (L : List S69) (hl : l.length < 140737488355328) (hx : ∀ x ∈ l, x.f3.length ≤ 1048576) : Ev (fun k => bounds_Best.f k l L) (bestP L l 0 (-1) 0) := by
  unfold bounds_Best.f
  have := best_loop L l [] (-1) 0 (by simpa using hl) hx
  simpa using this
def w1 : S25 := ⟨2, 1, ⟨#[]⟩⟩
def w2 : S25 := ⟨2, 2, ⟨#[]⟩⟩
theorem m38_len (l : List Int) : m38 l = l.length + 1 := by unfold m38; induction l with | nil => rfl | cons x l ih => simp at ih ⊢; omega
theorem m39_len (l : List Bool) : m39 l = l.length + 1 := by unfold m39; induction l with | nil => rfl | cons x l ih => simp at ih ⊢; omega
theorem sum_mem {α : Type} (f : α → Nat) : ∀ {l : List α} {x : α}, x ∈ l → f x ≤ (l.map f).sum
  | y :: l, x, h => by
    simp only [List.map_cons, List.sum_cons]
    rcases List.mem_cons.1 h with rfl | h
    · omega
    · have := sum_mem f h; omega
theorem sum_len {α : Type} (f : α → Nat) (hf : ∀ x, 1 ≤ f x) : ∀ l : List α, l.length ≤ (l.map f).sum
  | [] => by simp
  | y :: l => by
    have := sum_len f hf l
    have := hf y
    simp only [List.length_cons, List.map_cons, List.sum_cons]
    omega
theorem known_terms {l : List S58} (h : G32 l) (hm : m32 l ≤ 1048576) : (∀ t ∈ l, Small t.f2) ∧ l.length ≤ 1048576 := by
  unfold m32 at hm
  refine ⟨fun t ht => ?_, by have h : l.length ≤ (l.map fun x => m58 x).sum := sum_len m58 (fun x => by unfold m58; omega) l; omega⟩
  have h1 := h.1 t ht
  have h2 : m58 t ≤ (l.map fun x => m58 x).sum := sum_mem m58 ht
  have h3 : t.f2.f2.size ≤ m58 t := by unfold m58 m25; omega
  exact ⟨⟨wf64 h1.2.2.1, wf64 h1.2.2.2.1, h1.2.2.2.2⟩, by omega⟩
theorem known_index {x : S41} (hm : m41 x ≤ 1048576) : x.f3.length ≤ 1048576 ∧ x.f4.length ≤ 1048576 := by
  unfold m41 at hm
  rw [m38_len, m39_len] at hm
  omega
theorem known_indexes {l : List S41} (hm : m42 l ≤ 1048576) : (∀ x ∈ l, x.f3.length ≤ 1048576) ∧ l.length ≤ 1048576 := by
  unfold m42 at hm
  refine ⟨fun x hx => (known_index (by have h : m41 x ≤ (l.map fun x => m41 x).sum := sum_mem m41 hx; omega)).1, by have h : l.length ≤ (l.map fun x => m41 x).sum := sum_len m41 (fun x => by unfold m41; omega) l; omega⟩
theorem map_small {l : List S58} (h : ∀ t ∈ l, Small t.f2) : ∀ t ∈ l.map toT, Small t.f2 := fun t ht => by
  obtain ⟨x, hx, rfl⟩ := List.mem_map.1 ht
  exact h x hx
end Go.Proofs.Ytmfenomjhmhogaa.Pure
end
section
namespace Go.Proofs.Ytmfenomjhmhogaa.Pure
set_option linter.unusedVariables false
set_option linter.unusedSimpArgs false
open Go.RowKit Go.Proofs.Ytmfenomjhmhogaa.P Go.Proofs.YtmfenomjhmhogaaW.PrintWords Go.Proofs.YtmfenomjhmhogaaW.PrintLast Go.Proofs.YtmfenomjhmhogaaW.PrintMore
def tupS (p : S69 × Bool) : Int × Int × Int × Int × ByteArray × Bool := (p.1.f0, p.1.f1, p.1.f2.f0, p.1.f2.f1, p.1.f2.f2, p.2)
theorem isT_two (col a b : Int) (x : S58) : isT col [a, b] (toT x) = (decide (x.f0 = col) && (decide (x.f1 = a) || decide (x.f1 = b))) := by
  unfold isT toT
  simp only [List.contains_cons, List.contains_nil, Bool.or_false]
  congr 1
theorem first_loop (col a b : Int) : ∀ (suf pre : List S58), (pre ++ suf).length < 140737488355328 → Ev (fun k => quarryref19_first.l0 k (pre ++ suf) col a b (pre.length : Int)) (tupS (firstT col [a, b] (suf.map toT))) := by
  intro suf
  induction suf with
  | nil =>
    intro pre hl
    refine Ev.succ ?_
    have e1 : ¬ ((pre.length : Int) < ((pre ++ []).length : Int)) := by simp
    exact (Ev.pure _).of_eq fun k => by rw [quarryref19_first.l0, if_neg e1, firstT_is]; rfl
  | cons x suf ih =>
    intro pre hl
    have e1 : (pre.length : Int) < ((pre ++ x :: suf).length : Int) := by simp; omega
    have e2 : (0 : Int) ≤ (pre.length : Int) := by omega
    have e6 : wrap64 ((pre.length : Int) + 1) = (pre.length : Int) + 1 := wrap64_in (by omega) (by simp at hl; omega)
    have hit : isT col [a, b] (toT x) = true → firstT col [a, b] ((x :: suf).map toT) = (toT x, true) := fun h => by rw [firstT_is, List.map_cons, List.find?, h]
    have miss : isT col [a, b] (toT x) = false → firstT col [a, b] ((x :: suf).map toT) = firstT col [a, b] (suf.map toT) := fun h => by rw [firstT_is, firstT_is, List.map_cons, List.find?, h]
    have hn := ih (pre ++ [x]) (by simpa using hl)
    have hn' : Ev (fun k => quarryref19_first.l0 k (pre ++ x :: suf) col a b ((pre.length : Int) + 1)) (tupS (firstT col [a, b] (suf.map toT))) := by simpa using hn
    have is2 := isT_two col a b x
    refine Ev.succ ?_
    by_cases h0 : x.f0 = col
    · by_cases h1 : x.f1 = a
      · rw [hit (by rw [is2, decide_eq_true h0, decide_eq_true h1]; rfl)]
        exact (Ev.pure _).of_eq fun k => by rw [quarryref19_first.l0, if_pos e1, if_pos e2, rd_at58, if_pos h0, if_pos h1]; rfl
      · by_cases h2 : x.f1 = b
        · rw [hit (by rw [is2, decide_eq_true h0, decide_eq_true h2]; simp)]
          exact (Ev.pure _).of_eq fun k => by rw [quarryref19_first.l0, if_pos e1, if_pos e2, rd_at58, if_pos h0, if_neg h1, if_pos h2]; rfl
        · rw [miss (by rw [is2, decide_eq_false h1, decide_eq_false h2]; simp)]
          exact hn'.of_eq fun k => by rw [quarryref19_first.l0, if_pos e1, if_pos e2, rd_at58, if_pos h0, if_neg h1, if_neg h2, e6]
    · rw [miss (by rw [is2, decide_eq_false h0]; rfl)]
      exact hn'.of_eq fun k => by rw [quarryref19_first.l0, if_pos e1, if_pos e2, rd_at58, if_neg h0, e6]
theorem first_ev (l : List S58) (col a b : Int) (hl : l.length < 140737488355328) : Ev (fun k => quarryref19_first.f k l col a b) (tupS (firstT col [a, b] (l.map toT))) := by
  have := first_loop col a b l [] (by simpa using hl)
  exact this
theorem first_five (col : Int) (L : List S69) : firstT col [5, 5] L = firstT col [5] L := by
  have e : isT col [5, 5] = isT col [5] := by
    funext x
    unfold isT
    simp
  rw [firstT_is, firstT_is, e]
theorem prefix_loop (l : List S58) (hl : l.length < 140737488355328) (a0 : Int) (a1 a2 : ByteArray) (cols : List Int) (d : List Bool) (a5 : Bool) (hc : cols.length ≤ 1048576) : ∀ (suf pre : List Int) (acc : List S25), cols = pre ++ suf → acc.length = pre.length →
    Ev (fun k => quarryref19_prefix.l0 k l acc (pre.length : Int) a0 a1 a2 cols d a5) (useG (l.map toT) suf acc).1 := by
  intro suf
  induction suf with
  | nil =>
    intro pre acc hx ha
    have e1 : ¬ ((pre.length : Int) < (cols.length : Int)) := by rw [hx]; simp
    refine Ev.succ ?_
    exact (Ev.pure _).of_eq fun k => by rw [quarryref19_prefix.l0, if_neg e1]; rfl
  | cons c suf ih =>
    intro pre acc hx ha
    have lx : pre.length < cols.length := by rw [hx]; simp
    have e1 : (pre.length : Int) < (cols.length : Int) := by omega
    have e2 : (0 : Int) ≤ (pre.length : Int) := by omega
    have e3 : acc.length < 4398046511104 := by omega
    have e6 : wrap64 ((pre.length : Int) + 1) = (pre.length : Int) + 1 := wrap64_in (by omega) (by omega)
    have e7 : rd cols (pre.length : Int) = c := by rw [hx]; exact rd_pre pre suf c
    refine Ev.succ ?_
    refine Ev.of_eq ?_ (fun k => by rw [quarryref19_prefix.l0, if_pos e1, if_pos e2, e7, e6])
    refine Ev.bind (first_ev l c 5 5 hl) ?_
    rw [first_five]
    unfold useG
    by_cases hf : (firstT c [5] (l.map toT)).2 = true
    · rw [if_pos hf]
      refine Ev.pos hf (Ev.pos e3 ?_)
      have := ih (pre ++ [c]) (acc ++ [(firstT c [5] (l.map toT)).1.f2]) (by rw [hx]; simp) (by simp [ha])
      have that : Ev (fun k => quarryref19_prefix.l0 k l (acc ++ [(firstT c [5] (l.map toT)).1.f2]) ((pre.length : Int) + 1) a0 a1 a2 cols d a5) (useG (l.map toT) suf (acc ++ [(firstT c [5] (l.map toT)).1.f2])).1 := by simpa using this
      exact that
    · rw [if_neg hf]
      exact Ev.neg hf (Ev.pure _)
theorem prefix_ev (l : List S58) (hl : l.length < 140737488355328) (a0 : Int) (a1 a2 : ByteArray) (cols : List Int) (d : List Bool) (a5 : Bool) (hc : cols.length ≤ 1048576) : Ev (fun k => quarryref19_prefix.f k a0 a1 a2 cols d a5 l) (useG (l.map toT) cols []).1 :=
  prefix_loop l hl a0 a1 a2 cols d a5 hc cols [] [] rfl rfl
theorem ref_enc_ev {vs : List S25} (d : List Bool) (hv : ∀ x ∈ vs, Small x) (hl : vs.length ≤ 1048577) : Ev (fun k => quarryref03_Encode.f k vs d) (encR d vs) :=
  ref_encode_ev vs d (fun x hx => (hv x hx).1) (by omega) (by have := room_small vs hv; omega)
theorem keyR_ev {vs : List S25} (d : List Bool) {t : S58} (hv : ∀ x ∈ vs, Small x) (ht : Small t.f2) (hl : vs.length ≤ 1048576) : Ev (fun k => keyR k vs d t.f2) (keyP vs d (toT t)) := by
  unfold keyR
  refine Ev.pos (by omega) ?_
  refine Ev.bind (ref_enc_ev d (small_append hv ht) (by simp; omega)) ?_
  exact Ev.pure _
theorem lowR_ev {vs : List S25} (d : List Bool) (base : List Int) {t : S58} {b : Bool} (hv : ∀ x ∈ vs, Small x) (ht : b = true → Small t.f2) (hl : vs.length ≤ 1048576) : Ev (fun k => lowR k vs d base b t) (lowP vs d base (optT (toT t, b)) base) := by
  unfold lowR optT
  cases b with
  | false => exact Ev.neg (by decide) (Ev.pure _)
  | true =>
    refine Ev.pos rfl ?_
    simp only [if_true, lowP]
    refine Ev.bind (keyR_ev d hv (ht rfl) hl) ?_
    by_cases hs : t.f1 = 9 ∨ t.f1 = 7
    · rw [if_pos (show (toT t).f1 = 9 ∨ (toT t).f1 = 7 from hs)]
      refine Ev.pos hs ?_
      refine Ev.bind (ref_next_ev _ (key_small d hv (ht rfl) hl)) ?_
      exact Ev.pure _
    · rw [if_neg (show ¬ ((toT t).f1 = 9 ∨ (toT t).f1 = 7) from hs)]
      exact Ev.neg hs (Ev.pure _)
theorem highR_ev {vs : List S25} (d : List Bool) (hi : List Int × Bool) {t : S58} {b : Bool} (hv : ∀ x ∈ vs, Small x) (ht : b = true → Small t.f2) (hl : vs.length ≤ 1048576) : Ev (fun k => highR k vs d hi.1 hi.2 b t) (highP vs d (optT (toT t, b)) hi) := by
  unfold highR optT
  cases b with
  | false => exact Ev.neg (by decide) (Ev.pure _)
  | true =>
    refine Ev.pos rfl ?_
    simp only [if_true, highP]
    refine Ev.bind (keyR_ev d hv (ht rfl) hl) ?_
    by_cases hs : t.f1 = 8 ∨ t.f1 = 10
    · rw [if_pos (show (toT t).f1 = 8 ∨ (toT t).f1 = 10 from hs)]
      exact Ev.pos hs (ref_next_ev _ (key_small d hv (ht rfl) hl))
    · rw [if_neg (show ¬ ((toT t).f1 = 8 ∨ (toT t).f1 = 10) from hs)]
      exact Ev.neg hs (Ev.pure _)
theorem next_nil {b : List Int} (h : (nextB b).2 = false) : (nextB b).1 = [] := by
  unfold nextB at h ⊢
  split
  · rfl
  · rename_i e; rw [if_neg e] at h; cases h
theorem high_nil (vs : List S25) (d : List Bool) : ∀ (up : List S69) (cur : List Int × Bool), (cur.2 = false → cur.1 = []) → (highP vs d up cur).2 = false → (highP vs d up cur).1 = []
  | [], cur, h => h
  | t :: r, cur, h => by
    unfold highP
    refine high_nil vs d r _ ?_
    split
    · exact next_nil
    · intro h; cases h
theorem endR_ev {vs : List S25} (d : List Bool) {lo up : S58 × Bool} (hv : ∀ x ∈ vs, Small x) (hlo : lo.2 = true → Small lo.1.f2) (hup : up.2 = true → Small up.1.f2) (hl : vs.length ≤ 1048576) :
    Ev (fun k => endR k vs d (encR d vs).1 (nextB (encR d vs).1).1 (nextB (encR d vs).1).2 lo up) (rangeG vs (optT (toT lo.1, lo.2)) (optT (toT up.1, up.2)) d) := by
  unfold endR
  refine Ev.bind (lowR_ev d _ hv hlo hl) ?_
  refine Ev.bind (highR_ev d (nextB (encR d vs).1) hv hup hl) ?_
  unfold rangeG
  have hn := high_nil vs d (optT (toT up.1, up.2)) (nextB (encR d vs).1) next_nil
  generalize highP vs d (optT (toT up.1, up.2)) (nextB (encR d vs).1) = h at hn ⊢
  obtain ⟨h1, h2⟩ := h
  cases h2 with
  | true => exact Ev.pure _
  | false =>
    have := hn rfl
    simp only at this
    subst this
    exact Ev.pure _
theorem ref_range_ev (a0 : Int) (a1 a2 : ByteArray) (cols : List Int) (d : List Bool) (a5 : Bool) {l : List S58} (hL : ∀ t ∈ l, Small t.f2) (hn : l.length ≤ 1048576) (hc : cols.length ≤ 1048576) : Ev (fun k => quarryref19_Range.f k a0 a1 a2 cols d a5 l) (rangeP cols d (l.map toT)) := by
  obtain ⟨s1, s2, s3, s4⟩ := useG_small (map_small hL) cols hc
  have hf : ∀ (c : Int) (ops : List Int), (firstT c ops (l.map toT)).2 = true → Small (firstT c ops (l.map toT)).1.f2 := fun c ops h => map_small hL _ (firstT_some h).1
  unfold quarryref19_Range.f
  refine Ev.bind (prefix_ev l (by omega) a0 a1 a2 cols d a5 hc) ?_
  refine Ev.bind (ref_enc_ev d s1 (by omega)) ?_
  refine Ev.bind (ref_next_ev _ (enc_small d s1 (by omega))) ?_
  obtain ⟨pf, cs, pv, h1, h2, h3, h4, h5⟩ := useG_form (l.map toT) cols []
  rw [List.nil_append] at h2
  unfold rangeP
  rw [h2] at s1 s4 ⊢
  rcases h5 with ⟨hcs, he⟩ | ⟨c, cs', hcs, he⟩
  · have hlen : pv.length = cols.length := by rw [h1, hcs, h3]; simp
    rw [he]
    refine Ev.pos hlen ?_
    simp only [ite_self]
    unfold rangeG
    simp only [lowP, highP]
    have hn2 := @next_nil (encR d pv).1
    exact Ev.pure _
  · have hlen : pv.length < cols.length := by rw [h1, hcs, h3]; simp
    have hcol : rd cols (pv.length : Int) = c := by rw [h1, hcs, h3]; exact rd_pre pf cs' c
    rw [he]
    refine Ev.neg (by omega) (Ev.pos hlen ?_)
    rw [hcol]
    refine Ev.bind (first_ev l c 9 10 (by omega)) ?_
    refine Ev.bind (first_ev l c 7 8 (by omega)) ?_
    by_cases hs : swapB pv d = true
    · rw [if_pos hs]
      exact Ev.pos hs (endR_ev d s1 (hf c [7, 8]) (hf c [9, 10]) (by omega))
    · rw [if_neg hs]
      exact Ev.neg hs (endR_ev d s1 (hf c [9, 10]) (hf c [7, 8]) (by omega))
theorem uses_ev (x : S41) {l : List S58} (hn : l.length ≤ 1048576) (hc : x.f3.length ≤ 1048576) : Ev (fun k => quarryref19_uses.f k x.f0 x.f1 x.f2 x.f3 x.f4 x.f5 l) (cntP (l.map toT) x.f3) := by
  unfold quarryref19_uses.f
  refine Ev.bind (prefix_ev l (by omega) x.f0 x.f1 x.f2 x.f3 x.f4 x.f5 hc) ?_
  obtain ⟨pf, cs, pv, h1, h2, h3, h4, h5⟩ := useG_form (l.map toT) x.f3 []
  rw [List.nil_append] at h2
  unfold cntP
  rw [h2]
  rcases h5 with ⟨hcs, he⟩ | ⟨c, cs', hcs, he⟩
  · have hlen : pv.length = x.f3.length := by rw [h1, hcs, h3]; simp
    rw [he]
    refine Ev.neg (by omega) ?_
    simp
    exact Ev.pure _
  · have hlen : pv.length < x.f3.length := by rw [h1, hcs, h3]; simp
    have hcol : rd x.f3 (pv.length : Int) = c := by rw [h1, hcs, h3]; exact rd_pre pf cs' c
    rw [he]
    refine Ev.pos (by omega) (Ev.pos (by omega) ?_)
    rw [hcol]
    refine Ev.bind (first_ev l c 9 10 (by omega)) ?_
    refine Ev.bind (first_ev l c 7 8 (by omega)) ?_
    have w1 : wrap64 ((pv.length : Int) + 1) = (pv.length : Int) + 1 := wrap64_in (by omega) (by omega)
    have w2 : wrap64 ((pv.length : Int) + 1 + 1) = (pv.length : Int) + 1 + 1 := wrap64_in (by omega) (by omega)
    show Ev (fun k => if (firstT c [9, 10] (l.map toT)).2 = true then if (firstT c [7, 8] (l.map toT)).2 = true then some (wrap64 (wrap64 ((pv.length : Int) + 1) + 1)) else some (wrap64 ((pv.length : Int) + 1)) else if (firstT c [7, 8] (l.map toT)).2 = true then some (wrap64 ((pv.length : Int) + 1)) else some (pv.length : Int)) _
    rw [w1, w2]
    unfold optT
    by_cases a : (firstT c [9, 10] (l.map toT)).2 = true
    · by_cases b : (firstT c [7, 8] (l.map toT)).2 = true
      · simp only [a, b, if_true]
        exact Ev.pure _
      · simp only [a, b, if_true, if_false]
        simp
        exact Ev.pure _
    · by_cases b : (firstT c [7, 8] (l.map toT)).2 = true
      · simp only [a, b, if_true, if_false]
        simp
        exact Ev.pure _
      · simp only [a, b, if_false]
        simp
        exact Ev.pure _
theorem ref_best_loop {l : List S58} (hn : l.length ≤ 1048576) : ∀ (suf pre : List S41) (best most : Int), (pre ++ suf).length < 140737488355328 → (∀ x ∈ suf, x.f3.length ≤ 1048576) →
    Ev (fun k => quarryref19_Best.l0 k (pre ++ suf) l best most (pre.length : Int)) (bestP (l.map toT) suf (pre.length : Int) best most) := by
  intro suf
  induction suf with
  | nil =>
    intro pre best most hl hx
    have e1 : ¬ ((pre.length : Int) < ((pre ++ []).length : Int)) := by simp
    refine Ev.succ ?_
    exact (Ev.pure _).of_eq fun k => by rw [quarryref19_Best.l0, if_neg e1]; rfl
  | cons x suf ih =>
    intro pre best most hl hx
    have e1 : (pre.length : Int) < ((pre ++ x :: suf).length : Int) := by simp; omega
    have e2 : (0 : Int) ≤ (pre.length : Int) := by omega
    have e6 : wrap64 ((pre.length : Int) + 1) = (pre.length : Int) + 1 := wrap64_in (by omega) (by simp at hl; omega)
    have hu := uses_ev x hn (hx x (by simp))
    have hr := fun b m => ih (pre ++ [x]) b m (by simpa using hl) (fun y hy => hx y (by simp [hy]))
    refine Ev.succ ?_
    refine Ev.of_eq ?_ (fun k => by rw [quarryref19_Best.l0, if_pos e1, if_pos e2, rd_at41, e6])
    refine Ev.bind hu ?_
    unfold bestP
    by_cases hg : cntP (l.map toT) x.f3 > most
    · rw [if_pos hg]
      refine Ev.pos hg ?_
      refine Ev.bind hu ?_
      have := hr (pre.length : Int) (cntP (l.map toT) x.f3)
      simpa using this
    · rw [if_neg hg]
      refine Ev.neg hg ?_
      have := hr best most
      simpa using this
theorem BoundsRange : ∀ (x0 : S41) (l1 : List (S58)) (l2 : List (S41)), G41 x0 → G32 l1 → G42 l2 → m41 x0 + m32 l1 + m42 l2 ≤ 1048576 → ∃ k, quarrylaw19_BoundsRange.f k (x0.f0) (x0.f1) (x0.f2) (x0.f3) (x0.f4) (x0.f5) l1 l2 = some true := by
  intro x0 l1 l2 g0 g1 g2 hm
  obtain ⟨s1, s2⟩ := known_terms g1 (by omega)
  obtain ⟨s3, s4⟩ := known_indexes (l := l2) (by omega)
  obtain ⟨s5, s6⟩ := known_index (x := x0) (by omega)
  apply Ev.get
  unfold quarrylaw19_BoundsRange.f
  refine Ev.bind (right_ev l1 (by omega)) ?_
  cases hr1 : rightB l1 with
  | false => exact Ev.neg (by decide) (Ev.pure _)
  | true =>
  refine Ev.pos rfl ?_
  refine Ev.bind (its_ev l1 (by omega)) ?_
  refine Ev.bind (range_ev x0.f0 x0.f1 x0.f2 x0.f3 x0.f4 x0.f5 (map_small s1) s5) ?_
  refine Ev.bind (ref_range_ev x0.f0 x0.f1 x0.f2 x0.f3 x0.f4 x0.f5 s1 s2 s5) ?_
  refine Ev.pos rfl (Ev.pos rfl (Ev.pos (by simp) ?_))
  refine Ev.bind (its_ev l1 (by omega)) ?_
  refine Ev.bind (best_ev l2 (l1.map toT) (by omega) s3) ?_
  have hb := ref_best_loop s2 l2 [] (-1) 0 (by simp; omega) s3
  refine Ev.bind (g := fun k => quarryref19_Best.f k l2 l1) hb ?_
  rw [show ((([] : List S41).length : Nat) : Int) = 0 from rfl, BEq.rfl]
  exact Ev.pure _
end Go.Proofs.Ytmfenomjhmhogaa.Pure
end

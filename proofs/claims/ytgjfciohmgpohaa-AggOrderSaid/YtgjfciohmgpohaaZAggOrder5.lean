/- Laid by a program of this session out of its texts for the law AggOrder, part 5. -/
import Derived.Test.YtgjfciohmgpohaaZAggOrder4
section
namespace Go.Proofs.Ytgjfciohmgpohaa.P
open Go.RowKit Go.Proofs.YtgjfciohmgpohaaW.PrintWords Go.Proofs.YtgjfciohmgpohaaW.PrintLast Go.Proofs.YtgjfciohmgpohaaW.PrintMore
attribute [local go_sem] max2_int min2_int max_two min_two max_three min_three max_four min_four
set_option linter.unusedVariables false
set_option linter.unusedSimpArgs false
attribute [local go_sem high] eqA32
def quarrylaw17_works.f  : Option (Bool) := (quarrylaw17_number.f 1).bind fun bt147 => ((quarrylaw17_number.f 2).bind fun bt150 => ((quarrylaw17_gathered.f 2 (([(⟨bt147.1, bt147.2.1, bt147.2.2⟩ : S32), (⟨0, 0, (⟨#[]⟩ : ByteArray)⟩ : S32), (⟨bt150.1, bt150.2.1, bt150.2.2⟩ : S32)] : List (S32)))).bind fun bt156 => ((quarrylaw17_gathered.f 2 ([] : List (S32))).bind fun bt161 => ((quarrylaw17_gathered.f 4 (([(⟨3, 0, (⟨#[97]⟩ : ByteArray)⟩ : S32), (⟨3, 0, (⟨#[98]⟩ : ByteArray)⟩ : S32)] : List (S32)))).bind fun bt169 => ((quarrylaw17_number.f 9223372036854775807).bind fun bt174 => ((quarrylaw17_number.f 1).bind fun bt177 => ((quarrylaw17_gathered.f 2 (([(⟨bt174.1, bt174.2.1, bt174.2.2⟩ : S32), (⟨bt177.1, bt177.2.1, bt177.2.2⟩ : S32)] : List (S32)))).bind fun bt183 => ((quarrylaw17_number.f 3).bind fun bt188 => (if (bt156.1 == bt188.1 && (bt156.2.1 == bt188.2.1 && (bt156.2.2.1.toList == bt188.2.2.toList))) = true then (if bt156.2.2.2 = true then (if (bt161.1 == 0 && (bt161.2.1 == 0 && (bt161.2.2.1.toList == ([] : List UInt8)))) = true then (if bt161.2.2.2 = true then (if bt169.2.2.1.toList = ([98] : List UInt8) then (if bt169.2.2.2 = true then (some (!bt183.2.2.2)) else (none)) else (none)) else (none)) else (none)) else (none)) else (none))))))))))
def quarrylaw17_works.T5 : Bool × List (List Nat × List Nat) := (true, [([], []), ([], []), ([0, 1], [0, 1]), ([2, 1], [2]), ([3], [3]), ([3, 4], [3, 4]), ([5, 3], [5]), ([6], [6]), ([6], [6]), ([7, 8, 6], [6, 7, 8]), ([6, 9], [6, 9]), ([10, 6], [10]), ([11], [11]), ([11, 12], [11, 12]), ([13, 11], [13]), ([14], [14]), ([15, 14], [14, 15]), ([16, 14], [14, 16]), ([14, 17], [14, 17]), ([18, 14], [18]), ([19], [19]), ([19, 20], [19, 20]), ([21, 19], [21]), ([22], [22]), ([23, 22], [22, 23]), ([22, 24], [22, 24]), ([25, 22, 0, 1, 2, 3, 4, 5, 6, 7, 8, 9, 10, 11, 12, 13, 14, 15, 16, 17, 18, 19, 20, 21, 22, 23, 24, 25], [25])])
def quarrylaw17_works.B5 : List Nat := [0, 0, 3, 7, 15, 31, 63, 127, 127, 511, 1023, 2047, 4095, 8191, 16383, 32767, 65535, 131071, 262143, 524287, 1048575, 2097151, 4194303, 8388607, 16777215, 33554431, 67108863]
theorem quarrylaw17_works.tab5 : rtab .any (opsOf Try.f15 5) = quarrylaw17_works.T5 := by kernel_rfl
theorem quarrylaw17_works.bits5 : waitsOk quarrylaw17_works.T5.2 quarrylaw17_works.B5 = true := by kernel_rfl
set_option maxHeartbeats 8000000 in
set_option maxRecDepth 100000 in
theorem quarrylaw17_works.calls  (r : Bool) (w : World) (h : quarrylaw17_works.f  = some r) :
  Calls Try.prog 15 #[] w fun e w' => e = .returned (.bool r) ∧ Below w.heap.size w w' := by
 have hu32 := Try.underlying32
 have HB := Aside0.mk (Below.refl w.heap.size w)
 have H : ((quarrylaw17_number.f 1).bind fun bt147 => ((quarrylaw17_number.f 2).bind fun bt150 => ((quarrylaw17_gathered.f 2 (([(⟨bt147.1, bt147.2.1, bt147.2.2⟩ : S32), (⟨0, 0, (⟨#[]⟩ : ByteArray)⟩ : S32), (⟨bt150.1, bt150.2.1, bt150.2.2⟩ : S32)] : List (S32)))).bind fun bt156 => ((quarrylaw17_gathered.f 2 ([] : List (S32))).bind fun bt161 => ((quarrylaw17_gathered.f 4 (([(⟨3, 0, (⟨#[97]⟩ : ByteArray)⟩ : S32), (⟨3, 0, (⟨#[98]⟩ : ByteArray)⟩ : S32)] : List (S32)))).bind fun bt169 => ((quarrylaw17_number.f 9223372036854775807).bind fun bt174 => ((quarrylaw17_number.f 1).bind fun bt177 => ((quarrylaw17_gathered.f 2 (([(⟨bt174.1, bt174.2.1, bt174.2.2⟩ : S32), (⟨bt177.1, bt177.2.1, bt177.2.2⟩ : S32)] : List (S32)))).bind fun bt183 => ((quarrylaw17_number.f 3).bind fun bt188 => (if (bt156.1 == bt188.1 && (bt156.2.1 == bt188.2.1 && (bt156.2.2.1.toList == bt188.2.2.toList))) = true then (if bt156.2.2.2 = true then (if (bt161.1 == 0 && (bt161.2.1 == 0 && (bt161.2.2.1.toList == ([] : List UInt8)))) = true then (if bt161.2.2.2 = true then (if bt169.2.2.1.toList = ([98] : List UInt8) then (if bt169.2.2.2 = true then (some (!bt183.2.2.2)) else (none)) else (none)) else (none)) else (none)) else (none)) else (none))))))))))) = some r := h
 clear h
 replace H := Option.bind_eq_some_iff.mp H
 obtain ⟨⟨t147, t148, t149⟩, A10, H⟩ := H
 replace H : ((quarrylaw17_number.f 2).bind fun bt150 => ((quarrylaw17_gathered.f 2 (([(⟨t147, t148, t149⟩ : S32), (⟨0, 0, (⟨#[]⟩ : ByteArray)⟩ : S32), (⟨bt150.1, bt150.2.1, bt150.2.2⟩ : S32)] : List (S32)))).bind fun bt156 => ((quarrylaw17_gathered.f 2 ([] : List (S32))).bind fun bt161 => ((quarrylaw17_gathered.f 4 (([(⟨3, 0, (⟨#[97]⟩ : ByteArray)⟩ : S32), (⟨3, 0, (⟨#[98]⟩ : ByteArray)⟩ : S32)] : List (S32)))).bind fun bt169 => ((quarrylaw17_number.f 9223372036854775807).bind fun bt174 => ((quarrylaw17_number.f 1).bind fun bt177 => ((quarrylaw17_gathered.f 2 (([(⟨bt174.1, bt174.2.1, bt174.2.2⟩ : S32), (⟨bt177.1, bt177.2.1, bt177.2.2⟩ : S32)] : List (S32)))).bind fun bt183 => ((quarrylaw17_number.f 3).bind fun bt188 => (if (bt156.1 == bt188.1 && (bt156.2.1 == bt188.2.1 && (bt156.2.2.1.toList == bt188.2.2.toList))) = true then (if bt156.2.2.2 = true then (if (bt161.1 == 0 && (bt161.2.1 == 0 && (bt161.2.2.1.toList == ([] : List UInt8)))) = true then (if bt161.2.2.2 = true then (if bt169.2.2.1.toList = ([98] : List UInt8) then (if bt169.2.2.2 = true then (some (!bt183.2.2.2)) else (none)) else (none)) else (none)) else (none)) else (none)) else (none)))))))))) = some r := H
 have A1 := Aside0.mk A10
 clear A10
 replace H := Option.bind_eq_some_iff.mp H
 obtain ⟨⟨t150, t151, t152⟩, A20, H⟩ := H
 replace H : ((quarrylaw17_gathered.f 2 (([(⟨t147, t148, t149⟩ : S32), (⟨0, 0, (⟨#[]⟩ : ByteArray)⟩ : S32), (⟨t150, t151, t152⟩ : S32)] : List (S32)))).bind fun bt156 => ((quarrylaw17_gathered.f 2 ([] : List (S32))).bind fun bt161 => ((quarrylaw17_gathered.f 4 (([(⟨3, 0, (⟨#[97]⟩ : ByteArray)⟩ : S32), (⟨3, 0, (⟨#[98]⟩ : ByteArray)⟩ : S32)] : List (S32)))).bind fun bt169 => ((quarrylaw17_number.f 9223372036854775807).bind fun bt174 => ((quarrylaw17_number.f 1).bind fun bt177 => ((quarrylaw17_gathered.f 2 (([(⟨bt174.1, bt174.2.1, bt174.2.2⟩ : S32), (⟨bt177.1, bt177.2.1, bt177.2.2⟩ : S32)] : List (S32)))).bind fun bt183 => ((quarrylaw17_number.f 3).bind fun bt188 => (if (bt156.1 == bt188.1 && (bt156.2.1 == bt188.2.1 && (bt156.2.2.1.toList == bt188.2.2.toList))) = true then (if bt156.2.2.2 = true then (if (bt161.1 == 0 && (bt161.2.1 == 0 && (bt161.2.2.1.toList == ([] : List UInt8)))) = true then (if bt161.2.2.2 = true then (if bt169.2.2.1.toList = ([98] : List UInt8) then (if bt169.2.2.2 = true then (some (!bt183.2.2.2)) else (none)) else (none)) else (none)) else (none)) else (none)) else (none))))))))) = some r := H
 have A2 := Aside0.mk A20
 clear A20
 obtain ⟨y153, hy153⟩ : ∃ y_ : List (S32), y_ = (([(⟨t147, t148, t149⟩ : S32), (⟨0, 0, (⟨#[]⟩ : ByteArray)⟩ : S32), (⟨t150, t151, t152⟩ : S32)] : List (S32))) := ⟨_, rfl⟩
 replace H : ((quarrylaw17_gathered.f 2 y153).bind fun bt156 => ((quarrylaw17_gathered.f 2 ([] : List (S32))).bind fun bt161 => ((quarrylaw17_gathered.f 4 (([(⟨3, 0, (⟨#[97]⟩ : ByteArray)⟩ : S32), (⟨3, 0, (⟨#[98]⟩ : ByteArray)⟩ : S32)] : List (S32)))).bind fun bt169 => ((quarrylaw17_number.f 9223372036854775807).bind fun bt174 => ((quarrylaw17_number.f 1).bind fun bt177 => ((quarrylaw17_gathered.f 2 (([(⟨bt174.1, bt174.2.1, bt174.2.2⟩ : S32), (⟨bt177.1, bt177.2.1, bt177.2.2⟩ : S32)] : List (S32)))).bind fun bt183 => ((quarrylaw17_number.f 3).bind fun bt188 => (if (bt156.1 == bt188.1 && (bt156.2.1 == bt188.2.1 && (bt156.2.2.1.toList == bt188.2.2.toList))) = true then (if bt156.2.2.2 = true then (if (bt161.1 == 0 && (bt161.2.1 == 0 && (bt161.2.2.1.toList == ([] : List UInt8)))) = true then (if bt161.2.2.2 = true then (if bt169.2.2.1.toList = ([98] : List UInt8) then (if bt169.2.2.2 = true then (some (!bt183.2.2.2)) else (none)) else (none)) else (none)) else (none)) else (none)) else (none))))))))) = some r := by first | (rw [hy153]; with_reducible exact H) | (have H2_ := (Option.bind_some _ _).symm.trans H; rw [hy153]; with_reducible exact H2_) | (have H2_ := (Option.bind_some _ _).symm.trans H; with_reducible exact H2_) | with_reducible exact H | (rw [hy153]; exact H) | exact H
 have Ny153 := Aside0.mk hy153
 clear hy153
 replace H := Option.bind_eq_some_iff.mp H
 obtain ⟨⟨t156, t157, t158, t159⟩, A30, H⟩ := H
 replace H : ((quarrylaw17_gathered.f 2 ([] : List (S32))).bind fun bt161 => ((quarrylaw17_gathered.f 4 (([(⟨3, 0, (⟨#[97]⟩ : ByteArray)⟩ : S32), (⟨3, 0, (⟨#[98]⟩ : ByteArray)⟩ : S32)] : List (S32)))).bind fun bt169 => ((quarrylaw17_number.f 9223372036854775807).bind fun bt174 => ((quarrylaw17_number.f 1).bind fun bt177 => ((quarrylaw17_gathered.f 2 (([(⟨bt174.1, bt174.2.1, bt174.2.2⟩ : S32), (⟨bt177.1, bt177.2.1, bt177.2.2⟩ : S32)] : List (S32)))).bind fun bt183 => ((quarrylaw17_number.f 3).bind fun bt188 => (if (t156 == bt188.1 && (t157 == bt188.2.1 && (t158.toList == bt188.2.2.toList))) = true then (if t159 = true then (if (bt161.1 == 0 && (bt161.2.1 == 0 && (bt161.2.2.1.toList == ([] : List UInt8)))) = true then (if bt161.2.2.2 = true then (if bt169.2.2.1.toList = ([98] : List UInt8) then (if bt169.2.2.2 = true then (some (!bt183.2.2.2)) else (none)) else (none)) else (none)) else (none)) else (none)) else (none)))))))) = some r := H
 have A3 := Aside0.mk A30
 clear A30
 replace H := Option.bind_eq_some_iff.mp H
 obtain ⟨⟨t161, t162, t163, t164⟩, A40, H⟩ := H
 replace H : ((quarrylaw17_gathered.f 4 (([(⟨3, 0, (⟨#[97]⟩ : ByteArray)⟩ : S32), (⟨3, 0, (⟨#[98]⟩ : ByteArray)⟩ : S32)] : List (S32)))).bind fun bt169 => ((quarrylaw17_number.f 9223372036854775807).bind fun bt174 => ((quarrylaw17_number.f 1).bind fun bt177 => ((quarrylaw17_gathered.f 2 (([(⟨bt174.1, bt174.2.1, bt174.2.2⟩ : S32), (⟨bt177.1, bt177.2.1, bt177.2.2⟩ : S32)] : List (S32)))).bind fun bt183 => ((quarrylaw17_number.f 3).bind fun bt188 => (if (t156 == bt188.1 && (t157 == bt188.2.1 && (t158.toList == bt188.2.2.toList))) = true then (if t159 = true then (if (t161 == 0 && (t162 == 0 && (t163.toList == ([] : List UInt8)))) = true then (if t164 = true then (if bt169.2.2.1.toList = ([98] : List UInt8) then (if bt169.2.2.2 = true then (some (!bt183.2.2.2)) else (none)) else (none)) else (none)) else (none)) else (none)) else (none))))))) = some r := H
 have A4 := Aside0.mk A40
 clear A40
 obtain ⟨y166, hy166⟩ : ∃ y_ : List (S32), y_ = (([(⟨3, 0, (⟨#[97]⟩ : ByteArray)⟩ : S32), (⟨3, 0, (⟨#[98]⟩ : ByteArray)⟩ : S32)] : List (S32))) := ⟨_, rfl⟩
 replace H : ((quarrylaw17_gathered.f 4 y166).bind fun bt169 => ((quarrylaw17_number.f 9223372036854775807).bind fun bt174 => ((quarrylaw17_number.f 1).bind fun bt177 => ((quarrylaw17_gathered.f 2 (([(⟨bt174.1, bt174.2.1, bt174.2.2⟩ : S32), (⟨bt177.1, bt177.2.1, bt177.2.2⟩ : S32)] : List (S32)))).bind fun bt183 => ((quarrylaw17_number.f 3).bind fun bt188 => (if (t156 == bt188.1 && (t157 == bt188.2.1 && (t158.toList == bt188.2.2.toList))) = true then (if t159 = true then (if (t161 == 0 && (t162 == 0 && (t163.toList == ([] : List UInt8)))) = true then (if t164 = true then (if bt169.2.2.1.toList = ([98] : List UInt8) then (if bt169.2.2.2 = true then (some (!bt183.2.2.2)) else (none)) else (none)) else (none)) else (none)) else (none)) else (none))))))) = some r := by first | (rw [hy166]; with_reducible exact H) | (have H2_ := (Option.bind_some _ _).symm.trans H; rw [hy166]; with_reducible exact H2_) | (have H2_ := (Option.bind_some _ _).symm.trans H; with_reducible exact H2_) | with_reducible exact H | (rw [hy166]; exact H) | exact H
 have Ny166 := Aside0.mk hy166
 clear hy166
 replace H := Option.bind_eq_some_iff.mp H
 obtain ⟨⟨t169, t170, t171, t172⟩, A50, H⟩ := H
 replace H : ((quarrylaw17_number.f 9223372036854775807).bind fun bt174 => ((quarrylaw17_number.f 1).bind fun bt177 => ((quarrylaw17_gathered.f 2 (([(⟨bt174.1, bt174.2.1, bt174.2.2⟩ : S32), (⟨bt177.1, bt177.2.1, bt177.2.2⟩ : S32)] : List (S32)))).bind fun bt183 => ((quarrylaw17_number.f 3).bind fun bt188 => (if (t156 == bt188.1 && (t157 == bt188.2.1 && (t158.toList == bt188.2.2.toList))) = true then (if t159 = true then (if (t161 == 0 && (t162 == 0 && (t163.toList == ([] : List UInt8)))) = true then (if t164 = true then (if t171.toList = ([98] : List UInt8) then (if t172 = true then (some (!bt183.2.2.2)) else (none)) else (none)) else (none)) else (none)) else (none)) else (none)))))) = some r := H
 have A5 := Aside0.mk A50
 clear A50
 replace H := Option.bind_eq_some_iff.mp H
 obtain ⟨⟨t174, t175, t176⟩, A60, H⟩ := H
 replace H : ((quarrylaw17_number.f 1).bind fun bt177 => ((quarrylaw17_gathered.f 2 (([(⟨t174, t175, t176⟩ : S32), (⟨bt177.1, bt177.2.1, bt177.2.2⟩ : S32)] : List (S32)))).bind fun bt183 => ((quarrylaw17_number.f 3).bind fun bt188 => (if (t156 == bt188.1 && (t157 == bt188.2.1 && (t158.toList == bt188.2.2.toList))) = true then (if t159 = true then (if (t161 == 0 && (t162 == 0 && (t163.toList == ([] : List UInt8)))) = true then (if t164 = true then (if t171.toList = ([98] : List UInt8) then (if t172 = true then (some (!bt183.2.2.2)) else (none)) else (none)) else (none)) else (none)) else (none)) else (none))))) = some r := H
 have A6 := Aside0.mk A60
 clear A60
 replace H := Option.bind_eq_some_iff.mp H
 obtain ⟨⟨t177, t178, t179⟩, A70, H⟩ := H
 replace H : ((quarrylaw17_gathered.f 2 (([(⟨t174, t175, t176⟩ : S32), (⟨t177, t178, t179⟩ : S32)] : List (S32)))).bind fun bt183 => ((quarrylaw17_number.f 3).bind fun bt188 => (if (t156 == bt188.1 && (t157 == bt188.2.1 && (t158.toList == bt188.2.2.toList))) = true then (if t159 = true then (if (t161 == 0 && (t162 == 0 && (t163.toList == ([] : List UInt8)))) = true then (if t164 = true then (if t171.toList = ([98] : List UInt8) then (if t172 = true then (some (!bt183.2.2.2)) else (none)) else (none)) else (none)) else (none)) else (none)) else (none)))) = some r := H
 have A7 := Aside0.mk A70
 clear A70
 obtain ⟨y180, hy180⟩ : ∃ y_ : List (S32), y_ = (([(⟨t174, t175, t176⟩ : S32), (⟨t177, t178, t179⟩ : S32)] : List (S32))) := ⟨_, rfl⟩
 replace H : ((quarrylaw17_gathered.f 2 y180).bind fun bt183 => ((quarrylaw17_number.f 3).bind fun bt188 => (if (t156 == bt188.1 && (t157 == bt188.2.1 && (t158.toList == bt188.2.2.toList))) = true then (if t159 = true then (if (t161 == 0 && (t162 == 0 && (t163.toList == ([] : List UInt8)))) = true then (if t164 = true then (if t171.toList = ([98] : List UInt8) then (if t172 = true then (some (!bt183.2.2.2)) else (none)) else (none)) else (none)) else (none)) else (none)) else (none)))) = some r := by first | (rw [hy180]; with_reducible exact H) | (have H2_ := (Option.bind_some _ _).symm.trans H; rw [hy180]; with_reducible exact H2_) | (have H2_ := (Option.bind_some _ _).symm.trans H; with_reducible exact H2_) | with_reducible exact H | (rw [hy180]; exact H) | exact H
 have Ny180 := Aside0.mk hy180
 clear hy180
 replace H := Option.bind_eq_some_iff.mp H
 obtain ⟨⟨t183, t184, t185, t186⟩, A80, H⟩ := H
 replace H : ((quarrylaw17_number.f 3).bind fun bt188 => (if (t156 == bt188.1 && (t157 == bt188.2.1 && (t158.toList == bt188.2.2.toList))) = true then (if t159 = true then (if (t161 == 0 && (t162 == 0 && (t163.toList == ([] : List UInt8)))) = true then (if t164 = true then (if t171.toList = ([98] : List UInt8) then (if t172 = true then (some (!t186)) else (none)) else (none)) else (none)) else (none)) else (none)) else (none))) = some r := H
 have A8 := Aside0.mk A80
 clear A80
 replace H := Option.bind_eq_some_iff.mp H
 obtain ⟨⟨t188, t189, t190⟩, A90, H⟩ := H
 replace H : (if (t156 == t188 && (t157 == t189 && (t158.toList == t190.toList))) = true then (if t159 = true then (if (t161 == 0 && (t162 == 0 && (t163.toList == ([] : List UInt8)))) = true then (if t164 = true then (if t171.toList = ([98] : List UInt8) then (if t172 = true then (some (!t186)) else (none)) else (none)) else (none)) else (none)) else (none)) else (none)) = some r := H
 have A9 := Aside0.mk A90
 clear A90
 by_cases c10 : (t156 == t188 && (t157 == t189 && (t158.toList == t190.toList))) = true
 ·rw [if_pos c10] at H
  have c10b0 : (t156 == t188 && (t157 == t189 && (t158.toList == t190.toList))) = true := c10
  (try (have c10b1 : decide (t156 = t188 && (t157 == t189 && (t158.toList == t190.toList))) = true := by simpa using c10))
  (try (have c10b2 : (t156 == t188 && (t157 == t189 && (t158.toList == t190.toList))) = true := by simpa using c10))
  clear c10
  by_cases c11 : t159 = true
  ·subst c11
   have H1 : (if (t161 == 0 && (t162 == 0 && (t163.toList == ([] : List UInt8)))) = true then (if t164 = true then (if t171.toList = ([98] : List UInt8) then (if t172 = true then (some (!t186)) else (none)) else (none)) else (none)) else (none)) = some r := by rw [if_pos rfl] at H; exact H
   clear H
   have H := H1
   clear H1
   by_cases c12 : (t161 == 0 && (t162 == 0 && (t163.toList == ([] : List UInt8)))) = true
   ·rw [if_pos c12] at H
    have c12b0 : (t161 == 0 && (t162 == 0 && (t163.toList == ([] : List UInt8)))) = true := c12
    (try (have c12b9 : (t161 == 0 && (t162 == 0 && t163.toList.isEmpty)) = true := by simpa using c12))
    (try (have c12b1 : decide (t161 = 0 && (t162 == 0 && (t163.toList == ([] : List UInt8)))) = true := by simpa using c12))
    (try (have c12b2 : (t161 == 0 && (t162 == 0 && (t163.toList == ([] : List UInt8)))) = true := by simpa using c12))
    clear c12
    by_cases c13 : t164 = true
    ·subst c13
     have H1 : (if t171.toList = ([98] : List UInt8) then (if t172 = true then (some (!t186)) else (none)) else (none)) = some r := by rw [if_pos rfl] at H; exact H
     clear H
     have H := H1
     clear H1
     by_cases c14 : t171.toList = ([98] : List UInt8)
     ·rw [if_pos c14] at H
      have c14b0 : (t171.toList == ([98] : List UInt8)) = true := beq_iff_eq.mpr c14
      have c14b1 : (t171.toList != ([98] : List UInt8)) = false := bne_eq_false_iff_eq.mpr c14
      clear c14
      by_cases c15 : t172 = true
      ·subst c15
       have H1 : (some (!t186)) = some r := by rw [if_pos rfl] at H; exact H
       clear H
       have H := H1
       clear H1
       obtain rfl := Option.some.inj H
       go_enter Try.func15, Try.ntmps15
       try go_wp2_with (first | ((with_reducible refine gate_callee (f := 18) rfl ?_); refine goesL_ (some 10) rfl rfl Try.func18 (by kernel_rfl) rfl #[.int .i64 1] rfl (by (try simp only [List.map_toArray, List.map_cons, List.map_nil]); first | done | rfl | (simp only [List.length_drop, List.length_take]; rfl)) ?_; (with_reducible refine (quarrylaw17_number.calls 1 t147 t148 t149 _ A1.out).mono ?_); rintro e w16 ⟨rfl, hb⟩; refine ⟨_, rfl, ?_⟩; have n0_ := Aside0.mk (below_step (by repeat (first | (with_reducible first | exact HB.out | apply below_alloc | apply pw_below_drewN | apply below_drew1) | exact HB.out)) hb); clear HB; have HB := n0_; clear n0_; (try clear hb); (try clear hb2); (try clear hk); (try clear hi)) | ((with_reducible refine gate_callee (f := 18) rfl ?_); refine goesL_ (some 12) rfl rfl Try.func18 (by kernel_rfl) rfl #[.int .i64 2] rfl (by (try simp only [List.map_toArray, List.map_cons, List.map_nil]); first | done | rfl | (simp only [List.length_drop, List.length_take]; rfl)) ?_; (with_reducible refine (quarrylaw17_number.calls 2 t150 t151 t152 _ A2.out).mono ?_); rintro e w17 ⟨rfl, hb⟩; refine ⟨_, rfl, ?_⟩; have n0_ := Aside0.mk (below_step (by repeat (first | (with_reducible first | exact HB.out | apply below_alloc | apply pw_below_drewN | apply below_drew1) | exact HB.out)) hb); clear HB; have HB := n0_; clear n0_; (try clear hb); (try clear hb2); (try clear hk); (try clear hi)) | ((with_reducible refine gate_dst (N := 13) rfl ?_); refine Kd.R_lit k32 _ 32 ?hg (N := 13) ?hd (xs := ([(⟨t147, t148, t149⟩ : S32), (⟨0, 0, (⟨#[]⟩ : ByteArray)⟩ : S32), (⟨t150, t151, t152⟩ : S32)] : List (S32))) (inner := [.int .i64 t147, .int .i64 t148, .string t149, .int .i64 0, .int .i64 0, .string (⟨#[]⟩ : ByteArray), .int .i64 t150, .int .i64 t151, .string t152]) (ok := fun _ => True) (okp := fun _ => True) ?hr ?hp (fun _ hk => hk) trivial (Below.refl _ _) (Nat.le_refl _) (by simp) ?_; (case hd => rfl); (case hg => rfl); (case hr => first | (go_simp; done) | (go_simp; rfl)); (case hp => exact (Reps.c3 (show Kd.M k32 _ _ _ (⟨t147, t148, t149⟩ : S32) [.int .i64 t147, .int .i64 t148, .string t149] from (k32_mkM _ _ _ (⟨t147, t148, t149⟩ : S32) )) (Reps.c3 (show Kd.M k32 _ _ _ (⟨0, 0, (⟨#[]⟩ : ByteArray)⟩ : S32) [.int .i64 0, .int .i64 0, .string (⟨#[]⟩ : ByteArray)] from (k32_mkM _ _ _ (⟨0, 0, (⟨#[]⟩ : ByteArray)⟩ : S32) )) (Reps.c3 (show Kd.M k32 _ _ _ (⟨t150, t151, t152⟩ : S32) [.int .i64 t150, .int .i64 t151, .string t152] from (k32_mkM _ _ _ (⟨t150, t151, t152⟩ : S32) )) (Reps.none _ _))))); intro v154 w18 ho19 hb hg_ hnew_; clear hg_ hnew_; (first | rw [← Ny153.out] at ho19 | (simp only [Int.reduceToNat] at ho19; rw [← Ny153.out] at ho19)); have n0_ := Aside0.mk (Kd.R_lower ho19 (below_size (by repeat (first | (with_reducible first | exact HB.out | apply below_alloc | apply pw_below_drewN | apply below_drew1) | exact HB.out)))); have n1_ := Aside0.mk (below_step (by repeat (first | (with_reducible first | exact HB.out | apply below_alloc | apply pw_below_drewN | apply below_drew1) | exact HB.out)) hb); clear HB; have HO155 := n0_; have HB := n1_; clear n0_ n1_; clear hb ho19; obtain ⟨Ao20, co20, eo20⟩ := Kd.R_slice HO155.out; subst eo20) | ((with_reducible refine gate_callee (f := 16) rfl ?_); refine goesL_ (some 14) rfl rfl Try.func16 (by kernel_rfl) rfl #[.int .i64 2, .slice Ao20 y153.length co20] rfl (by (try simp only [List.map_toArray, List.map_cons, List.map_nil]); first | done | rfl | (simp only [List.length_drop, List.length_take]; rfl)) ?_; (with_reducible refine (quarrylaw17_gathered.print 2 _ _ y153 t156 t157 t158 true _ ?side1 ?side2 A3.out).mono ?_); (case side1 => repeat (first | exact (Kd.R_reads' HO155.out).2.2 | (with_reducible refine Kd.C_alloc ?_ _) | (with_reducible refine Kd.C_drewN ?_ _) | (with_reducible refine Kd.C_drew ?_))); (case side2 => exact (Kd.R_reads' HO155.out).2.1); rintro e w21 ⟨rfl, hb⟩; refine ⟨_, rfl, ?_⟩; have n0_ := Aside0.mk (Kd.R_below (by (with_reducible repeat (first | apply Kd.R_alloc | apply Kd.R_drewN | apply Kd.R_drew)); exact HO155.out) hb); have n1_ := Aside0.mk (below_step (by repeat (first | (with_reducible first | exact HB.out | apply below_alloc | apply pw_below_drewN | apply below_drew1) | exact HB.out)) hb); clear HO155; clear HB; have HO155 := n0_; have HB := n1_; clear n0_ n1_; (try clear hb); (try clear hb2); (try clear hk); (try clear hi)) | ((with_reducible refine gate_dst (N := 1) rfl ?_); refine box_event ?hg (N := 1) ?hd (cs := #[.int .i64 0, .int .i64 0, .string (⟨#[]⟩ : ByteArray)]) (t := 32) ?hr ?_; (case hd => rfl); (case hg => rfl); (case hr => first | (go_simp; done) | (go_simp; rfl)); intro gb160 hg w22 hbox hb; have n0_ := Aside0.mk (Kd.R_below (Kd.R_elderB (by (with_reducible repeat (first | apply Kd.R_alloc | apply Kd.R_drewN | apply Kd.R_drew)); exact HO155.out) gb160 (Nat.le_of_eq hg.symm)) hb); have n1_ := Aside0.mk (below_step (by repeat (first | (with_reducible first | exact HB.out | apply below_alloc | apply pw_below_drewN | apply below_drew1) | exact HB.out)) hb); have n2_ := Aside0.mk (hbox); have n3_ := Aside0.mk ((by rw [hg]; exact (below_size (by repeat (first | (with_reducible first | exact HB.out | apply below_alloc | apply pw_below_drewN | apply below_drew1) | exact HB.out))) : w.heap.size ≤ gb160)); have n4_ := Aside0.mk ((by rw [hg]; exact (below_size (by repeat (first | (with_reducible first | exact HB.out | apply below_alloc | apply pw_below_drewN | apply below_drew1) | exact HB.out))) : w.heap.size ≤ gb160)); clear HO155; clear HB; have HO155 := n0_; have HB := n1_; have BK160 := n2_; have GW160 := n3_; have GE160 := n4_; clear n0_ n1_ n2_ n3_ n4_; clear hb hbox hg; have hcz23_0 : w22.cell? ⟨gb160, 0, none⟩ = some (.int .i64 0) := (blk_cell BK160.out 0).trans rfl; have hcz23_1 : w22.cell? ⟨gb160, 1, none⟩ = some (.int .i64 0) := (blk_cell BK160.out 1).trans rfl; have hcz23_2 : w22.cell? ⟨gb160, 2, none⟩ = some (.string (⟨#[]⟩ : ByteArray)) := (blk_cell BK160.out 2).trans rfl; have hfz23_0 := blk_frozen BK160.out 0; have hfz23_1 := blk_frozen BK160.out 1; have hfz23_2 := blk_frozen BK160.out 2) | ((with_reducible refine gate_callee (f := 16) rfl ?_); refine goesL_ (some 18) rfl rfl Try.func16 (by kernel_rfl) rfl #[.int .i64 2, .slice none 0 0] rfl (by (try simp only [List.map_toArray, List.map_cons, List.map_nil]); first | done | rfl | (simp only [List.length_drop, List.length_take]; rfl)) ?_; (refine (quarrylaw17_gathered.print 2 _ _ ([] : List (S32)) t161 t162 t163 true _ ?side1 ?side2 A4.out).mono ?_); (case side1 => exact Kd.C_nil _ _); (case side2 => exact Nat.le_refl _); rintro e w24 ⟨rfl, hb⟩; refine ⟨_, rfl, ?_⟩; have n0_ := Aside0.mk (Kd.R_below (by (with_reducible repeat (first | apply Kd.R_alloc | apply Kd.R_drewN | apply Kd.R_drew)); exact (Kd.R_mono (Kd.R_far (p := ⟨gb160, 2, none⟩) (Kd.R_far (p := ⟨gb160, 1, none⟩) (Kd.R_far (p := ⟨gb160, 0, none⟩) (Kd.R_mono HO155.out (fun k_ hk => (⟨hk, hk.2⟩ : _ ∧ k_ ≠ gb160))) (fun _ hk => hk.2) (.int .i64 t156)) (fun _ hk => hk.2) (.int .i64 t157)) (fun _ hk => hk.2) (.string t158)) (fun _ h_ => h_.1))) hb); have n1_ := Aside0.mk (blk_below (g := gb160) (o := .cells #[.int .i64 t156, .int .i64 t157, .string t158] 32 (0, 0)) (by (with_reducible repeat (first | refine blk_drewN ?_ _ | refine blk_drew ?_ | refine blk_alloc ?_ _)); refine blk_put (cs := #[.int .i64 t156, .int .i64 t157, .string (⟨#[]⟩ : ByteArray)]) ?_ 2 _ rfl; (with_reducible repeat (first | refine blk_drewN ?_ _ | refine blk_drew ?_ | refine blk_alloc ?_ _)); refine blk_put (cs := #[.int .i64 t156, .int .i64 0, .string (⟨#[]⟩ : ByteArray)]) ?_ 1 _ rfl; (with_reducible repeat (first | refine blk_drewN ?_ _ | refine blk_drew ?_ | refine blk_alloc ?_ _)); refine blk_put (cs := #[.int .i64 0, .int .i64 0, .string (⟨#[]⟩ : ByteArray)]) ?_ 0 _ rfl; (with_reducible repeat (first | refine blk_drewN ?_ _ | refine blk_drew ?_ | refine blk_alloc ?_ _)); exact BK160.out) hb); have n2_ := Aside0.mk (below_step (by repeat (first | (with_reducible first | exact HB.out | apply below_alloc | apply pw_below_drewN | apply below_drew1 | refine below_set ?_ GE160.out) | exact HB.out)) hb); clear HO155; clear BK160; clear HB; have HO155 := n0_; have BK160 := n1_; have HB := n2_; clear n0_ n1_ n2_; (try clear hb); (try clear hb2); (try clear hk); (try clear hi)) | ((with_reducible refine gate_dst (N := 3) rfl ?_); refine box_event ?hg (N := 3) ?hd (cs := #[.int .i64 0, .int .i64 0, .string (⟨#[]⟩ : ByteArray)]) (t := 32) ?hr ?_; (case hd => rfl); (case hg => rfl); (case hr => first | (go_simp; done) | (go_simp; rfl)); intro gb165 hg w25 hbox hb; have n0_ := Aside0.mk (Kd.R_below (Kd.R_elderB (by (with_reducible repeat (first | apply Kd.R_alloc | apply Kd.R_drewN | apply Kd.R_drew)); exact HO155.out) gb165 (Nat.le_of_eq hg.symm)) hb); have n1_ := Aside0.mk (blk_below (g := gb160) (o := .cells #[.int .i64 t156, .int .i64 t157, .string t158] 32 (0, 0)) (bk_ BK160) hb); have n2_ := Aside0.mk (below_step (by repeat (first | (with_reducible first | exact HB.out | apply below_alloc | apply pw_below_drewN | apply below_drew1 | refine below_set ?_ GE160.out) | exact HB.out)) hb); have n3_ := Aside0.mk (hbox); have n4_ := Aside0.mk ((by rw [hg]; exact (below_size (by repeat (first | (with_reducible first | exact HB.out | apply below_alloc | apply pw_below_drewN | apply below_drew1 | refine below_set ?_ GE160.out) | exact HB.out))) : w.heap.size ≤ gb165)); have n5_ := Aside0.mk ((by rw [hg]; exact (below_size (by repeat (first | (with_reducible first | exact HB.out | apply below_alloc | apply pw_below_drewN | apply below_drew1 | refine below_set ?_ GE160.out) | exact HB.out))) : w.heap.size ≤ gb165)); have n6_ := Aside0.mk ((by rw [hg]; exact Nat.ne_of_lt (blk_lt (g := gb160) (o := .cells #[.int .i64 t156, .int .i64 t157, .string t158] 32 (0, 0)) (bk_ BK160)) : gb160 ≠ gb165)); have n7_ := Aside0.mk ((by rw [hg]; exact Nat.ne_of_gt (blk_lt (g := gb160) (o := .cells #[.int .i64 t156, .int .i64 t157, .string t158] 32 (0, 0)) (bk_ BK160)) : gb165 ≠ gb160)); clear HO155; clear BK160; clear HB; have HO155 := n0_; have BK160 := n1_; have HB := n2_; have BK165 := n3_; have GW165 := n4_; have GE165 := n5_; have NB160_165 := n6_; have NB165_160 := n7_; clear n0_ n1_ n2_ n3_ n4_ n5_ n6_ n7_; clear hb hbox hg; have hnb26 := NB165_160.out; have hnc26 := NB160_165.out; have hcz27_0 : w25.cell? ⟨gb165, 0, none⟩ = some (.int .i64 0) := (blk_cell BK165.out 0).trans rfl; have hcz27_1 : w25.cell? ⟨gb165, 1, none⟩ = some (.int .i64 0) := (blk_cell BK165.out 1).trans rfl; have hcz27_2 : w25.cell? ⟨gb165, 2, none⟩ = some (.string (⟨#[]⟩ : ByteArray)) := (blk_cell BK165.out 2).trans rfl; have hfz27_0 := blk_frozen BK165.out 0; have hfz27_1 := blk_frozen BK165.out 1; have hfz27_2 := blk_frozen BK165.out 2) | ((with_reducible refine gate_dst (N := 24) rfl ?_); refine Kd.R_lit k32 _ 32 ?hg (N := 24) ?hd (xs := ([(⟨3, 0, (⟨#[97]⟩ : ByteArray)⟩ : S32), (⟨3, 0, (⟨#[98]⟩ : ByteArray)⟩ : S32)] : List (S32))) (inner := [.int .i64 3, .int .i64 0, .string (⟨#[97]⟩ : ByteArray), .int .i64 3, .int .i64 0, .string (⟨#[98]⟩ : ByteArray)]) (ok := fun _ => True) (okp := fun _ => True) ?hr ?hp (fun _ hk => hk) trivial (Below.refl _ _) (Nat.le_refl _) (by simp) ?_; (case hd => rfl); (case hg => rfl); (case hr => first | (go_simp; done) | (go_simp; rfl)); (case hp => exact (Reps.c3 (show Kd.M k32 _ _ _ (⟨3, 0, (⟨#[97]⟩ : ByteArray)⟩ : S32) [.int .i64 3, .int .i64 0, .string (⟨#[97]⟩ : ByteArray)] from (k32_mkM _ _ _ (⟨3, 0, (⟨#[97]⟩ : ByteArray)⟩ : S32) )) (Reps.c3 (show Kd.M k32 _ _ _ (⟨3, 0, (⟨#[98]⟩ : ByteArray)⟩ : S32) [.int .i64 3, .int .i64 0, .string (⟨#[98]⟩ : ByteArray)] from (k32_mkM _ _ _ (⟨3, 0, (⟨#[98]⟩ : ByteArray)⟩ : S32) )) (Reps.none _ _)))); intro v167 w28 ho29 hb hg_ hnew_; clear hg_ hnew_; (first | rw [← Ny166.out] at ho29 | (simp only [Int.reduceToNat] at ho29; rw [← Ny166.out] at ho29)); have n0_ := Aside0.mk (Kd.R_elder' (by (with_reducible repeat (first | apply Kd.R_alloc | apply Kd.R_drewN | apply Kd.R_drew)); exact (Kd.R_mono (Kd.R_far (p := ⟨gb165, 2, none⟩) (Kd.R_far (p := ⟨gb165, 1, none⟩) (Kd.R_far (p := ⟨gb165, 0, none⟩) (Kd.R_mono HO155.out (fun k_ hk => (⟨hk, hk.2⟩ : _ ∧ k_ ≠ gb165))) (fun _ hk => hk.2) (.int .i64 t161)) (fun _ hk => hk.2) (.int .i64 t162)) (fun _ hk => hk.2) (.string t163)) (fun _ h_ => h_.1))) (Kd.R_base ho29) hb); have n1_ := Aside0.mk (Kd.R_lower (Kd.R_newB (Kd.R_newB (Kd.R_new' ho29 (Kd.R_lt (by (with_reducible repeat (first | apply Kd.R_alloc | apply Kd.R_drewN | apply Kd.R_drew)); exact (Kd.R_mono (Kd.R_far (p := ⟨gb165, 2, none⟩) (Kd.R_far (p := ⟨gb165, 1, none⟩) (Kd.R_far (p := ⟨gb165, 0, none⟩) (Kd.R_mono HO155.out (fun k_ hk => (⟨hk, hk.2⟩ : _ ∧ k_ ≠ gb165))) (fun _ hk => hk.2) (.int .i64 t161)) (fun _ hk => hk.2) (.int .i64 t162)) (fun _ hk => hk.2) (.string t163)) (fun _ h_ => h_.1))))) (g := gb160) (o := .cells #[.int .i64 t156, .int .i64 t157, .string t158] 32 (0, 0)) (by (with_reducible repeat (first | refine blk_drewN ?_ _ | refine blk_drew ?_ | refine blk_alloc ?_ _)); refine blk_far ?_ NB160_165.out _; (with_reducible repeat (first | refine blk_drewN ?_ _ | refine blk_drew ?_ | refine blk_alloc ?_ _)); refine blk_far ?_ NB160_165.out _; (with_reducible repeat (first | refine blk_drewN ?_ _ | refine blk_drew ?_ | refine blk_alloc ?_ _)); refine blk_far ?_ NB160_165.out _; (with_reducible repeat (first | refine blk_drewN ?_ _ | refine blk_drew ?_ | refine blk_alloc ?_ _)); exact BK160.out)) (g := gb165) (o := .cells #[.int .i64 t161, .int .i64 t162, .string t163] 32 (0, 0)) (by (with_reducible repeat (first | refine blk_drewN ?_ _ | refine blk_drew ?_ | refine blk_alloc ?_ _)); refine blk_put (cs := #[.int .i64 t161, .int .i64 t162, .string (⟨#[]⟩ : ByteArray)]) ?_ 2 _ rfl; (with_reducible repeat (first | refine blk_drewN ?_ _ | refine blk_drew ?_ | refine blk_alloc ?_ _)); refine blk_put (cs := #[.int .i64 t161, .int .i64 0, .string (⟨#[]⟩ : ByteArray)]) ?_ 1 _ rfl; (with_reducible repeat (first | refine blk_drewN ?_ _ | refine blk_drew ?_ | refine blk_alloc ?_ _)); refine blk_put (cs := #[.int .i64 0, .int .i64 0, .string (⟨#[]⟩ : ByteArray)]) ?_ 0 _ rfl; (with_reducible repeat (first | refine blk_drewN ?_ _ | refine blk_drew ?_ | refine blk_alloc ?_ _)); exact BK165.out)) (below_size (by repeat (first | (with_reducible first | exact HB.out | apply below_alloc | apply pw_below_drewN | apply below_drew1 | refine below_set ?_ GE160.out | refine below_set ?_ GE165.out) | exact HB.out)))); have n2_ := Aside0.mk (blk_below (g := gb160) (o := .cells #[.int .i64 t156, .int .i64 t157, .string t158] 32 (0, 0)) (by (with_reducible repeat (first | refine blk_drewN ?_ _ | refine blk_drew ?_ | refine blk_alloc ?_ _)); refine blk_far ?_ NB160_165.out _; (with_reducible repeat (first | refine blk_drewN ?_ _ | refine blk_drew ?_ | refine blk_alloc ?_ _)); refine blk_far ?_ NB160_165.out _; (with_reducible repeat (first | refine blk_drewN ?_ _ | refine blk_drew ?_ | refine blk_alloc ?_ _)); refine blk_far ?_ NB160_165.out _; (with_reducible repeat (first | refine blk_drewN ?_ _ | refine blk_drew ?_ | refine blk_alloc ?_ _)); exact BK160.out) hb); have n3_ := Aside0.mk (blk_below (g := gb165) (o := .cells #[.int .i64 t161, .int .i64 t162, .string t163] 32 (0, 0)) (by (with_reducible repeat (first | refine blk_drewN ?_ _ | refine blk_drew ?_ | refine blk_alloc ?_ _)); refine blk_put (cs := #[.int .i64 t161, .int .i64 t162, .string (⟨#[]⟩ : ByteArray)]) ?_ 2 _ rfl; (with_reducible repeat (first | refine blk_drewN ?_ _ | refine blk_drew ?_ | refine blk_alloc ?_ _)); refine blk_put (cs := #[.int .i64 t161, .int .i64 0, .string (⟨#[]⟩ : ByteArray)]) ?_ 1 _ rfl; (with_reducible repeat (first | refine blk_drewN ?_ _ | refine blk_drew ?_ | refine blk_alloc ?_ _)); refine blk_put (cs := #[.int .i64 0, .int .i64 0, .string (⟨#[]⟩ : ByteArray)]) ?_ 0 _ rfl; (with_reducible repeat (first | refine blk_drewN ?_ _ | refine blk_drew ?_ | refine blk_alloc ?_ _)); exact BK165.out) hb); have n4_ := Aside0.mk (below_step (by repeat (first | (with_reducible first | exact HB.out | apply below_alloc | apply pw_below_drewN | apply below_drew1 | refine below_set ?_ GE160.out | refine below_set ?_ GE165.out) | exact HB.out)) hb); clear HO155; clear BK160; clear BK165; clear HB; have HO155 := n0_; have HO168 := n1_; have BK160 := n2_; have BK165 := n3_; have HB := n4_; clear n0_ n1_ n2_ n3_ n4_; clear hb ho29; obtain ⟨Ao30, co30, eo30⟩ := Kd.R_slice HO168.out; subst eo30) | ((with_reducible refine gate_callee (f := 16) rfl ?_); refine goesL_ (some 25) rfl rfl Try.func16 (by kernel_rfl) rfl #[.int .i64 4, .slice Ao30 y166.length co30] rfl (by (try simp only [List.map_toArray, List.map_cons, List.map_nil]); first | done | rfl | (simp only [List.length_drop, List.length_take]; rfl)) ?_; (with_reducible refine (quarrylaw17_gathered.print 4 _ _ y166 t169 t170 t171 true _ ?side1 ?side2 A5.out).mono ?_); (case side1 => repeat (first | exact (Kd.R_reads' HO168.out).2.2 | (with_reducible refine Kd.C_alloc ?_ _) | (with_reducible refine Kd.C_drewN ?_ _) | (with_reducible refine Kd.C_drew ?_))); (case side2 => exact (Kd.R_reads' HO168.out).2.1); rintro e w31 ⟨rfl, hb⟩; refine ⟨_, rfl, ?_⟩; have n0_ := Aside0.mk (Kd.R_below (by (with_reducible repeat (first | apply Kd.R_alloc | apply Kd.R_drewN | apply Kd.R_drew)); exact HO155.out) hb); have n1_ := Aside0.mk (Kd.R_below (by (with_reducible repeat (first | apply Kd.R_alloc | apply Kd.R_drewN | apply Kd.R_drew)); exact HO168.out) hb); have n2_ := Aside0.mk (blk_below (g := gb160) (o := .cells #[.int .i64 t156, .int .i64 t157, .string t158] 32 (0, 0)) (bk_ BK160) hb); have n3_ := Aside0.mk (blk_below (g := gb165) (o := .cells #[.int .i64 t161, .int .i64 t162, .string t163] 32 (0, 0)) (bk_ BK165) hb); have n4_ := Aside0.mk (below_step (by repeat (first | (with_reducible first | exact HB.out | apply below_alloc | apply pw_below_drewN | apply below_drew1 | refine below_set ?_ GE160.out | refine below_set ?_ GE165.out) | exact HB.out)) hb); clear HO155; clear HO168; clear BK160; clear BK165; clear HB; have HO155 := n0_; have HO168 := n1_; have BK160 := n2_; have BK165 := n3_; have HB := n4_; clear n0_ n1_ n2_ n3_ n4_; (try clear hb); (try clear hb2); (try clear hk); (try clear hi)) | ((with_reducible refine gate_dst (N := 5) rfl ?_); refine box_event ?hg (N := 5) ?hd (cs := #[.int .i64 0, .int .i64 0, .string (⟨#[]⟩ : ByteArray)]) (t := 32) ?hr ?_; (case hd => rfl); (case hg => rfl); (case hr => first | (go_simp; done) | (go_simp; rfl)); intro gb173 hg w32 hbox hb; have n0_ := Aside0.mk (Kd.R_below (Kd.R_elderB (by (with_reducible repeat (first | apply Kd.R_alloc | apply Kd.R_drewN | apply Kd.R_drew)); exact HO155.out) gb173 (Nat.le_of_eq hg.symm)) hb); have n1_ := Aside0.mk (Kd.R_below (Kd.R_elderB (by (with_reducible repeat (first | apply Kd.R_alloc | apply Kd.R_drewN | apply Kd.R_drew)); exact HO168.out) gb173 (Nat.le_of_eq hg.symm)) hb); have n2_ := Aside0.mk (blk_below (g := gb160) (o := .cells #[.int .i64 t156, .int .i64 t157, .string t158] 32 (0, 0)) (bk_ BK160) hb); have n3_ := Aside0.mk (blk_below (g := gb165) (o := .cells #[.int .i64 t161, .int .i64 t162, .string t163] 32 (0, 0)) (bk_ BK165) hb); have n4_ := Aside0.mk (below_step (by repeat (first | (with_reducible first | exact HB.out | apply below_alloc | apply pw_below_drewN | apply below_drew1 | refine below_set ?_ GE160.out | refine below_set ?_ GE165.out) | exact HB.out)) hb); have n5_ := Aside0.mk (hbox); have n6_ := Aside0.mk ((by rw [hg]; exact (below_size (by repeat (first | (with_reducible first | exact HB.out | apply below_alloc | apply pw_below_drewN | apply below_drew1 | refine below_set ?_ GE160.out | refine below_set ?_ GE165.out) | exact HB.out))) : w.heap.size ≤ gb173)); have n7_ := Aside0.mk ((by rw [hg]; exact (below_size (by repeat (first | (with_reducible first | exact HB.out | apply below_alloc | apply pw_below_drewN | apply below_drew1 | refine below_set ?_ GE160.out | refine below_set ?_ GE165.out) | exact HB.out))) : w.heap.size ≤ gb173)); have n8_ := Aside0.mk ((by rw [hg]; exact Nat.ne_of_lt (blk_lt (g := gb160) (o := .cells #[.int .i64 t156, .int .i64 t157, .string t158] 32 (0, 0)) (bk_ BK160)) : gb160 ≠ gb173)); have n9_ := Aside0.mk ((by rw [hg]; exact Nat.ne_of_gt (blk_lt (g := gb160) (o := .cells #[.int .i64 t156, .int .i64 t157, .string t158] 32 (0, 0)) (bk_ BK160)) : gb173 ≠ gb160)); have n10_ := Aside0.mk ((by rw [hg]; exact Nat.ne_of_lt (blk_lt (g := gb165) (o := .cells #[.int .i64 t161, .int .i64 t162, .string t163] 32 (0, 0)) (bk_ BK165)) : gb165 ≠ gb173)); have n11_ := Aside0.mk ((by rw [hg]; exact Nat.ne_of_gt (blk_lt (g := gb165) (o := .cells #[.int .i64 t161, .int .i64 t162, .string t163] 32 (0, 0)) (bk_ BK165)) : gb173 ≠ gb165)); clear HO155; clear HO168; clear BK160; clear BK165; clear HB; have HO155 := n0_; have HO168 := n1_; have BK160 := n2_; have BK165 := n3_; have HB := n4_; have BK173 := n5_; have GW173 := n6_; have GE173 := n7_; have NB160_173 := n8_; have NB173_160 := n9_; have NB165_173 := n10_; have NB173_165 := n11_; clear n0_ n1_ n2_ n3_ n4_ n5_ n6_ n7_ n8_ n9_ n10_ n11_; clear hb hbox hg; have hnb33 := NB173_160.out; have hnc33 := NB160_173.out; have hnb34 := NB173_165.out; have hnc34 := NB165_173.out; have hcz35_0 : w32.cell? ⟨gb173, 0, none⟩ = some (.int .i64 0) := (blk_cell BK173.out 0).trans rfl; have hcz35_1 : w32.cell? ⟨gb173, 1, none⟩ = some (.int .i64 0) := (blk_cell BK173.out 1).trans rfl; have hcz35_2 : w32.cell? ⟨gb173, 2, none⟩ = some (.string (⟨#[]⟩ : ByteArray)) := (blk_cell BK173.out 2).trans rfl; have hfz35_0 := blk_frozen BK173.out 0; have hfz35_1 := blk_frozen BK173.out 1; have hfz35_2 := blk_frozen BK173.out 2) | ((with_reducible refine gate_callee (f := 18) rfl ?_); refine goesL_ (some 29) rfl rfl Try.func18 (by kernel_rfl) rfl #[.int .i64 9223372036854775807] rfl (by (try simp only [List.map_toArray, List.map_cons, List.map_nil]); first | done | rfl | (simp only [List.length_drop, List.length_take]; rfl)) ?_; (with_reducible refine (quarrylaw17_number.calls 9223372036854775807 t174 t175 t176 _ A6.out).mono ?_); rintro e w36 ⟨rfl, hb⟩; refine ⟨_, rfl, ?_⟩; have n0_ := Aside0.mk (Kd.R_below (by (with_reducible repeat (first | apply Kd.R_alloc | apply Kd.R_drewN | apply Kd.R_drew)); exact (Kd.R_mono (Kd.R_far (p := ⟨gb173, 2, none⟩) (Kd.R_far (p := ⟨gb173, 1, none⟩) (Kd.R_far (p := ⟨gb173, 0, none⟩) (Kd.R_mono HO155.out (fun k_ hk => (⟨hk, hk.2⟩ : _ ∧ k_ ≠ gb173))) (fun _ hk => hk.2) (.int .i64 t169)) (fun _ hk => hk.2) (.int .i64 t170)) (fun _ hk => hk.2) (.string t171)) (fun _ h_ => h_.1))) hb); have n1_ := Aside0.mk (Kd.R_below (by (with_reducible repeat (first | apply Kd.R_alloc | apply Kd.R_drewN | apply Kd.R_drew)); exact (Kd.R_mono (Kd.R_far (p := ⟨gb173, 2, none⟩) (Kd.R_far (p := ⟨gb173, 1, none⟩) (Kd.R_far (p := ⟨gb173, 0, none⟩) (Kd.R_mono HO168.out (fun k_ hk => (⟨hk, hk.2⟩ : _ ∧ k_ ≠ gb173))) (fun _ hk => hk.2) (.int .i64 t169)) (fun _ hk => hk.2) (.int .i64 t170)) (fun _ hk => hk.2) (.string t171)) (fun _ h_ => h_.1))) hb); have n2_ := Aside0.mk (blk_below (g := gb160) (o := .cells #[.int .i64 t156, .int .i64 t157, .string t158] 32 (0, 0)) (by (with_reducible repeat (first | refine blk_drewN ?_ _ | refine blk_drew ?_ | refine blk_alloc ?_ _)); refine blk_far ?_ NB160_173.out _; (with_reducible repeat (first | refine blk_drewN ?_ _ | refine blk_drew ?_ | refine blk_alloc ?_ _)); refine blk_far ?_ NB160_173.out _; (with_reducible repeat (first | refine blk_drewN ?_ _ | refine blk_drew ?_ | refine blk_alloc ?_ _)); refine blk_far ?_ NB160_173.out _; (with_reducible repeat (first | refine blk_drewN ?_ _ | refine blk_drew ?_ | refine blk_alloc ?_ _)); exact BK160.out) hb); have n3_ := Aside0.mk (blk_below (g := gb165) (o := .cells #[.int .i64 t161, .int .i64 t162, .string t163] 32 (0, 0)) (by (with_reducible repeat (first | refine blk_drewN ?_ _ | refine blk_drew ?_ | refine blk_alloc ?_ _)); refine blk_far ?_ NB165_173.out _; (with_reducible repeat (first | refine blk_drewN ?_ _ | refine blk_drew ?_ | refine blk_alloc ?_ _)); refine blk_far ?_ NB165_173.out _; (with_reducible repeat (first | refine blk_drewN ?_ _ | refine blk_drew ?_ | refine blk_alloc ?_ _)); refine blk_far ?_ NB165_173.out _; (with_reducible repeat (first | refine blk_drewN ?_ _ | refine blk_drew ?_ | refine blk_alloc ?_ _)); exact BK165.out) hb); have n4_ := Aside0.mk (blk_below (g := gb173) (o := .cells #[.int .i64 t169, .int .i64 t170, .string t171] 32 (0, 0)) (by (with_reducible repeat (first | refine blk_drewN ?_ _ | refine blk_drew ?_ | refine blk_alloc ?_ _)); refine blk_put (cs := #[.int .i64 t169, .int .i64 t170, .string (⟨#[]⟩ : ByteArray)]) ?_ 2 _ rfl; (with_reducible repeat (first | refine blk_drewN ?_ _ | refine blk_drew ?_ | refine blk_alloc ?_ _)); refine blk_put (cs := #[.int .i64 t169, .int .i64 0, .string (⟨#[]⟩ : ByteArray)]) ?_ 1 _ rfl; (with_reducible repeat (first | refine blk_drewN ?_ _ | refine blk_drew ?_ | refine blk_alloc ?_ _)); refine blk_put (cs := #[.int .i64 0, .int .i64 0, .string (⟨#[]⟩ : ByteArray)]) ?_ 0 _ rfl; (with_reducible repeat (first | refine blk_drewN ?_ _ | refine blk_drew ?_ | refine blk_alloc ?_ _)); exact BK173.out) hb); have n5_ := Aside0.mk (below_step (by repeat (first | (with_reducible first | exact HB.out | apply below_alloc | apply pw_below_drewN | apply below_drew1 | refine below_set ?_ GE160.out | refine below_set ?_ GE165.out | refine below_set ?_ GE173.out) | exact HB.out)) hb); clear HO155; clear HO168; clear BK160; clear BK165; clear BK173; clear HB; have HO155 := n0_; have HO168 := n1_; have BK160 := n2_; have BK165 := n3_; have BK173 := n4_; have HB := n5_; clear n0_ n1_ n2_ n3_ n4_ n5_; (try clear hb); (try clear hb2); (try clear hk); (try clear hi)) | ((with_reducible refine gate_callee (f := 18) rfl ?_); refine goesL_ (some 30) rfl rfl Try.func18 (by kernel_rfl) rfl #[.int .i64 1] rfl (by (try simp only [List.map_toArray, List.map_cons, List.map_nil]); first | done | rfl | (simp only [List.length_drop, List.length_take]; rfl)) ?_; (with_reducible refine (quarrylaw17_number.calls 1 t177 t178 t179 _ A7.out).mono ?_); rintro e w37 ⟨rfl, hb⟩; refine ⟨_, rfl, ?_⟩; have n0_ := Aside0.mk (Kd.R_below (by (with_reducible repeat (first | apply Kd.R_alloc | apply Kd.R_drewN | apply Kd.R_drew)); exact HO155.out) hb); have n1_ := Aside0.mk (Kd.R_below (by (with_reducible repeat (first | apply Kd.R_alloc | apply Kd.R_drewN | apply Kd.R_drew)); exact HO168.out) hb); have n2_ := Aside0.mk (blk_below (g := gb160) (o := .cells #[.int .i64 t156, .int .i64 t157, .string t158] 32 (0, 0)) (bk_ BK160) hb); have n3_ := Aside0.mk (blk_below (g := gb165) (o := .cells #[.int .i64 t161, .int .i64 t162, .string t163] 32 (0, 0)) (bk_ BK165) hb); have n4_ := Aside0.mk (blk_below (g := gb173) (o := .cells #[.int .i64 t169, .int .i64 t170, .string t171] 32 (0, 0)) (bk_ BK173) hb); have n5_ := Aside0.mk (below_step (by repeat (first | (with_reducible first | exact HB.out | apply below_alloc | apply pw_below_drewN | apply below_drew1 | refine below_set ?_ GE160.out | refine below_set ?_ GE165.out | refine below_set ?_ GE173.out) | exact HB.out)) hb); clear HO155; clear HO168; clear BK160; clear BK165; clear BK173; clear HB; have HO155 := n0_; have HO168 := n1_; have BK160 := n2_; have BK165 := n3_; have BK173 := n4_; have HB := n5_; clear n0_ n1_ n2_ n3_ n4_ n5_; (try clear hb); (try clear hb2); (try clear hk); (try clear hi)) | ((with_reducible refine gate_dst (N := 31) rfl ?_); refine Kd.R_lit k32 _ 32 ?hg (N := 31) ?hd (xs := ([(⟨t174, t175, t176⟩ : S32), (⟨t177, t178, t179⟩ : S32)] : List (S32))) (inner := [.int .i64 t174, .int .i64 t175, .string t176, .int .i64 t177, .int .i64 t178, .string t179]) (ok := fun _ => True) (okp := fun _ => True) ?hr ?hp (fun _ hk => hk) trivial (Below.refl _ _) (Nat.le_refl _) (by simp) ?_; (case hd => rfl); (case hg => rfl); (case hr => first | (go_simp; done) | (go_simp; rfl)); (case hp => exact (Reps.c3 (show Kd.M k32 _ _ _ (⟨t174, t175, t176⟩ : S32) [.int .i64 t174, .int .i64 t175, .string t176] from (k32_mkM _ _ _ (⟨t174, t175, t176⟩ : S32) )) (Reps.c3 (show Kd.M k32 _ _ _ (⟨t177, t178, t179⟩ : S32) [.int .i64 t177, .int .i64 t178, .string t179] from (k32_mkM _ _ _ (⟨t177, t178, t179⟩ : S32) )) (Reps.none _ _)))); intro v181 w38 ho39 hb hg_ hnew_; clear hg_ hnew_; (first | rw [← Ny180.out] at ho39 | (simp only [Int.reduceToNat] at ho39; rw [← Ny180.out] at ho39)); have n0_ := Aside0.mk (Kd.R_elder' (by (with_reducible repeat (first | apply Kd.R_alloc | apply Kd.R_drewN | apply Kd.R_drew)); exact HO155.out) (Kd.R_base ho39) hb); have n1_ := Aside0.mk (Kd.R_elder' (by (with_reducible repeat (first | apply Kd.R_alloc | apply Kd.R_drewN | apply Kd.R_drew)); exact HO168.out) (Kd.R_base ho39) hb); have n2_ := Aside0.mk (Kd.R_lower (Kd.R_newB (Kd.R_newB (Kd.R_newB (Kd.R_new' (Kd.R_new' ho39 (Kd.R_lt (by (with_reducible repeat (first | apply Kd.R_alloc | apply Kd.R_drewN | apply Kd.R_drew)); exact HO155.out))) (Kd.R_lt (by (with_reducible repeat (first | apply Kd.R_alloc | apply Kd.R_drewN | apply Kd.R_drew)); exact HO168.out))) (g := gb160) (o := .cells #[.int .i64 t156, .int .i64 t157, .string t158] 32 (0, 0)) (bk_ BK160)) (g := gb165) (o := .cells #[.int .i64 t161, .int .i64 t162, .string t163] 32 (0, 0)) (bk_ BK165)) (g := gb173) (o := .cells #[.int .i64 t169, .int .i64 t170, .string t171] 32 (0, 0)) (bk_ BK173)) (below_size (by repeat (first | (with_reducible first | exact HB.out | apply below_alloc | apply pw_below_drewN | apply below_drew1 | refine below_set ?_ GE160.out | refine below_set ?_ GE165.out | refine below_set ?_ GE173.out) | exact HB.out)))); have n3_ := Aside0.mk (blk_below (g := gb160) (o := .cells #[.int .i64 t156, .int .i64 t157, .string t158] 32 (0, 0)) (bk_ BK160) hb); have n4_ := Aside0.mk (blk_below (g := gb165) (o := .cells #[.int .i64 t161, .int .i64 t162, .string t163] 32 (0, 0)) (bk_ BK165) hb); have n5_ := Aside0.mk (blk_below (g := gb173) (o := .cells #[.int .i64 t169, .int .i64 t170, .string t171] 32 (0, 0)) (bk_ BK173) hb); have n6_ := Aside0.mk (below_step (by repeat (first | (with_reducible first | exact HB.out | apply below_alloc | apply pw_below_drewN | apply below_drew1 | refine below_set ?_ GE160.out | refine below_set ?_ GE165.out | refine below_set ?_ GE173.out) | exact HB.out)) hb); clear HO155; clear HO168; clear BK160; clear BK165; clear BK173; clear HB; have HO155 := n0_; have HO168 := n1_; have HO182 := n2_; have BK160 := n3_; have BK165 := n4_; have BK173 := n5_; have HB := n6_; clear n0_ n1_ n2_ n3_ n4_ n5_ n6_; clear hb ho39; obtain ⟨Ao40, co40, eo40⟩ := Kd.R_slice HO182.out; subst eo40) | ((with_reducible refine gate_callee (f := 16) rfl ?_); refine goesL_ (some 32) rfl rfl Try.func16 (by kernel_rfl) rfl #[.int .i64 2, .slice Ao40 y180.length co40] rfl (by (try simp only [List.map_toArray, List.map_cons, List.map_nil]); first | done | rfl | (simp only [List.length_drop, List.length_take]; rfl)) ?_; (with_reducible refine (quarrylaw17_gathered.print 2 _ _ y180 t183 t184 t185 t186 _ ?side1 ?side2 A8.out).mono ?_); (case side1 => repeat (first | exact (Kd.R_reads' HO182.out).2.2 | (with_reducible refine Kd.C_alloc ?_ _) | (with_reducible refine Kd.C_drewN ?_ _) | (with_reducible refine Kd.C_drew ?_))); (case side2 => exact (Kd.R_reads' HO182.out).2.1); rintro e w41 ⟨rfl, hb⟩; refine ⟨_, rfl, ?_⟩; have n0_ := Aside0.mk (Kd.R_below (by (with_reducible repeat (first | apply Kd.R_alloc | apply Kd.R_drewN | apply Kd.R_drew)); exact HO155.out) hb); have n1_ := Aside0.mk (Kd.R_below (by (with_reducible repeat (first | apply Kd.R_alloc | apply Kd.R_drewN | apply Kd.R_drew)); exact HO168.out) hb); have n2_ := Aside0.mk (Kd.R_below (by (with_reducible repeat (first | apply Kd.R_alloc | apply Kd.R_drewN | apply Kd.R_drew)); exact HO182.out) hb); have n3_ := Aside0.mk (blk_below (g := gb160) (o := .cells #[.int .i64 t156, .int .i64 t157, .string t158] 32 (0, 0)) (bk_ BK160) hb); have n4_ := Aside0.mk (blk_below (g := gb165) (o := .cells #[.int .i64 t161, .int .i64 t162, .string t163] 32 (0, 0)) (bk_ BK165) hb); have n5_ := Aside0.mk (blk_below (g := gb173) (o := .cells #[.int .i64 t169, .int .i64 t170, .string t171] 32 (0, 0)) (bk_ BK173) hb); have n6_ := Aside0.mk (below_step (by repeat (first | (with_reducible first | exact HB.out | apply below_alloc | apply pw_below_drewN | apply below_drew1 | refine below_set ?_ GE160.out | refine below_set ?_ GE165.out | refine below_set ?_ GE173.out) | exact HB.out)) hb); clear HO155; clear HO168; clear HO182; clear BK160; clear BK165; clear BK173; clear HB; have HO155 := n0_; have HO168 := n1_; have HO182 := n2_; have BK160 := n3_; have BK165 := n4_; have BK173 := n5_; have HB := n6_; clear n0_ n1_ n2_ n3_ n4_ n5_ n6_; (try clear hb); (try clear hb2); (try clear hk); (try clear hi)) | ((with_reducible refine gate_dst (N := 7) rfl ?_); refine box_event ?hg (N := 7) ?hd (cs := #[.int .i64 0, .int .i64 0, .string (⟨#[]⟩ : ByteArray)]) (t := 32) ?hr ?_; (case hd => rfl); (case hg => rfl); (case hr => first | (go_simp; done) | (go_simp; rfl)); intro gb187 hg w42 hbox hb; have n0_ := Aside0.mk (Kd.R_below (Kd.R_elderB (by (with_reducible repeat (first | apply Kd.R_alloc | apply Kd.R_drewN | apply Kd.R_drew)); exact HO155.out) gb187 (Nat.le_of_eq hg.symm)) hb); have n1_ := Aside0.mk (Kd.R_below (Kd.R_elderB (by (with_reducible repeat (first | apply Kd.R_alloc | apply Kd.R_drewN | apply Kd.R_drew)); exact HO168.out) gb187 (Nat.le_of_eq hg.symm)) hb); have n2_ := Aside0.mk (Kd.R_below (Kd.R_elderB (by (with_reducible repeat (first | apply Kd.R_alloc | apply Kd.R_drewN | apply Kd.R_drew)); exact HO182.out) gb187 (Nat.le_of_eq hg.symm)) hb); have n3_ := Aside0.mk (blk_below (g := gb160) (o := .cells #[.int .i64 t156, .int .i64 t157, .string t158] 32 (0, 0)) (bk_ BK160) hb); have n4_ := Aside0.mk (blk_below (g := gb165) (o := .cells #[.int .i64 t161, .int .i64 t162, .string t163] 32 (0, 0)) (bk_ BK165) hb); have n5_ := Aside0.mk (blk_below (g := gb173) (o := .cells #[.int .i64 t169, .int .i64 t170, .string t171] 32 (0, 0)) (bk_ BK173) hb); have n6_ := Aside0.mk (below_step (by repeat (first | (with_reducible first | exact HB.out | apply below_alloc | apply pw_below_drewN | apply below_drew1 | refine below_set ?_ GE160.out | refine below_set ?_ GE165.out | refine below_set ?_ GE173.out) | exact HB.out)) hb); have n7_ := Aside0.mk (hbox); have n8_ := Aside0.mk ((by rw [hg]; exact (below_size (by repeat (first | (with_reducible first | exact HB.out | apply below_alloc | apply pw_below_drewN | apply below_drew1 | refine below_set ?_ GE160.out | refine below_set ?_ GE165.out | refine below_set ?_ GE173.out) | exact HB.out))) : w.heap.size ≤ gb187)); have n9_ := Aside0.mk ((by rw [hg]; exact (below_size (by repeat (first | (with_reducible first | exact HB.out | apply below_alloc | apply pw_below_drewN | apply below_drew1 | refine below_set ?_ GE160.out | refine below_set ?_ GE165.out | refine below_set ?_ GE173.out) | exact HB.out))) : w.heap.size ≤ gb187)); have n10_ := Aside0.mk ((by rw [hg]; exact Nat.ne_of_lt (blk_lt (g := gb160) (o := .cells #[.int .i64 t156, .int .i64 t157, .string t158] 32 (0, 0)) (bk_ BK160)) : gb160 ≠ gb187)); have n11_ := Aside0.mk ((by rw [hg]; exact Nat.ne_of_gt (blk_lt (g := gb160) (o := .cells #[.int .i64 t156, .int .i64 t157, .string t158] 32 (0, 0)) (bk_ BK160)) : gb187 ≠ gb160)); have n12_ := Aside0.mk ((by rw [hg]; exact Nat.ne_of_lt (blk_lt (g := gb165) (o := .cells #[.int .i64 t161, .int .i64 t162, .string t163] 32 (0, 0)) (bk_ BK165)) : gb165 ≠ gb187)); have n13_ := Aside0.mk ((by rw [hg]; exact Nat.ne_of_gt (blk_lt (g := gb165) (o := .cells #[.int .i64 t161, .int .i64 t162, .string t163] 32 (0, 0)) (bk_ BK165)) : gb187 ≠ gb165)); have n14_ := Aside0.mk ((by rw [hg]; exact Nat.ne_of_lt (blk_lt (g := gb173) (o := .cells #[.int .i64 t169, .int .i64 t170, .string t171] 32 (0, 0)) (bk_ BK173)) : gb173 ≠ gb187)); have n15_ := Aside0.mk ((by rw [hg]; exact Nat.ne_of_gt (blk_lt (g := gb173) (o := .cells #[.int .i64 t169, .int .i64 t170, .string t171] 32 (0, 0)) (bk_ BK173)) : gb187 ≠ gb173)); clear HO155; clear HO168; clear HO182; clear BK160; clear BK165; clear BK173; clear HB; have HO155 := n0_; have HO168 := n1_; have HO182 := n2_; have BK160 := n3_; have BK165 := n4_; have BK173 := n5_; have HB := n6_; have BK187 := n7_; have GW187 := n8_; have GE187 := n9_; have NB160_187 := n10_; have NB187_160 := n11_; have NB165_187 := n12_; have NB187_165 := n13_; have NB173_187 := n14_; have NB187_173 := n15_; clear n0_ n1_ n2_ n3_ n4_ n5_ n6_ n7_ n8_ n9_ n10_ n11_ n12_ n13_ n14_ n15_; clear hb hbox hg; have hnb43 := NB187_160.out; have hnc43 := NB160_187.out; have hnb44 := NB187_165.out; have hnc44 := NB165_187.out; have hnb45 := NB187_173.out; have hnc45 := NB173_187.out; have hcz46_0 : w42.cell? ⟨gb187, 0, none⟩ = some (.int .i64 0) := (blk_cell BK187.out 0).trans rfl; have hcz46_1 : w42.cell? ⟨gb187, 1, none⟩ = some (.int .i64 0) := (blk_cell BK187.out 1).trans rfl; have hcz46_2 : w42.cell? ⟨gb187, 2, none⟩ = some (.string (⟨#[]⟩ : ByteArray)) := (blk_cell BK187.out 2).trans rfl; have hfz46_0 := blk_frozen BK187.out 0; have hfz46_1 := blk_frozen BK187.out 1; have hfz46_2 := blk_frozen BK187.out 2))
       have n0_ : Aside0 (Kd.R k32 32 (((w42.setCell ⟨gb187, 0, none⟩ (.int .i64 t183)).setCell ⟨gb187, 1, none⟩ (.int .i64 t184)).setCell ⟨gb187, 2, none⟩ (.string t185)) w.heap.size (fun k_ => some k_ ≠ (.slice Ao30 y166.length co30 : Value).ownBlock ∧ some k_ ≠ (.slice Ao40 y180.length co40 : Value).ownBlock ∧ k_ ≠ gb160 ∧ k_ ≠ gb165 ∧ k_ ≠ gb173 ∧ k_ ≠ gb187) (.slice Ao20 y153.length co20) y153) := ⟨by (with_reducible repeat (first | apply Kd.R_alloc | apply Kd.R_drewN | apply Kd.R_drew)); exact Kd.R_mono (Kd.R_far (p := ⟨gb187, 2, none⟩) (Kd.R_far (p := ⟨gb187, 1, none⟩) (Kd.R_far (p := ⟨gb187, 0, none⟩) (Kd.R_mono HO155.out (fun k_ hk => (⟨hk, hk.2⟩ : _ ∧ k_ ≠ gb187))) (fun _ hk => hk.2) (.int .i64 t183)) (fun _ hk => hk.2) (.int .i64 t184)) (fun _ hk => hk.2) (.string t185)) (fun _ hk => ⟨hk.1.1.1.1.2, ⟨hk.1.1.2, ⟨hk.1.1.1.1.1.1.2, ⟨hk.1.1.1.1.1.2, ⟨hk.1.1.1.2, hk.1.2⟩⟩⟩⟩⟩)⟩
       have n1_ : Aside0 (Kd.R k32 32 (((w42.setCell ⟨gb187, 0, none⟩ (.int .i64 t183)).setCell ⟨gb187, 1, none⟩ (.int .i64 t184)).setCell ⟨gb187, 2, none⟩ (.string t185)) w.heap.size (fun k_ => some k_ ≠ (.slice Ao20 y153.length co20 : Value).ownBlock ∧ some k_ ≠ (.slice Ao40 y180.length co40 : Value).ownBlock ∧ k_ ≠ gb160 ∧ k_ ≠ gb165 ∧ k_ ≠ gb173 ∧ k_ ≠ gb187) (.slice Ao30 y166.length co30) y166) := ⟨by (with_reducible repeat (first | apply Kd.R_alloc | apply Kd.R_drewN | apply Kd.R_drew)); exact Kd.R_mono (Kd.R_far (p := ⟨gb187, 2, none⟩) (Kd.R_far (p := ⟨gb187, 1, none⟩) (Kd.R_far (p := ⟨gb187, 0, none⟩) (Kd.R_mono HO168.out (fun k_ hk => (⟨hk, hk.2⟩ : _ ∧ k_ ≠ gb187))) (fun _ hk => hk.2) (.int .i64 t183)) (fun _ hk => hk.2) (.int .i64 t184)) (fun _ hk => hk.2) (.string t185)) (fun _ hk => ⟨hk.1.1.1.1.1.1.2, ⟨hk.1.1.2, ⟨hk.1.1.1.1.1.2, ⟨hk.1.1.1.1.2, ⟨hk.1.1.1.2, hk.1.2⟩⟩⟩⟩⟩)⟩
       have n2_ : Aside0 (Kd.R k32 32 (((w42.setCell ⟨gb187, 0, none⟩ (.int .i64 t183)).setCell ⟨gb187, 1, none⟩ (.int .i64 t184)).setCell ⟨gb187, 2, none⟩ (.string t185)) w.heap.size (fun k_ => some k_ ≠ (.slice Ao20 y153.length co20 : Value).ownBlock ∧ some k_ ≠ (.slice Ao30 y166.length co30 : Value).ownBlock ∧ k_ ≠ gb160 ∧ k_ ≠ gb165 ∧ k_ ≠ gb173 ∧ k_ ≠ gb187) (.slice Ao40 y180.length co40) y180) := ⟨by (with_reducible repeat (first | apply Kd.R_alloc | apply Kd.R_drewN | apply Kd.R_drew)); exact Kd.R_mono (Kd.R_far (p := ⟨gb187, 2, none⟩) (Kd.R_far (p := ⟨gb187, 1, none⟩) (Kd.R_far (p := ⟨gb187, 0, none⟩) (Kd.R_mono HO182.out (fun k_ hk => (⟨hk, hk.2⟩ : _ ∧ k_ ≠ gb187))) (fun _ hk => hk.2) (.int .i64 t183)) (fun _ hk => hk.2) (.int .i64 t184)) (fun _ hk => hk.2) (.string t185)) (fun _ hk => ⟨hk.1.1.1.1.1.1.2, ⟨hk.1.1.1.1.1.2, ⟨hk.1.1.1.1.2, ⟨hk.1.1.1.2, ⟨hk.1.1.2, hk.1.2⟩⟩⟩⟩⟩)⟩
       have n3_ : Aside0 ((((w42.setCell ⟨gb187, 0, none⟩ (.int .i64 t183)).setCell ⟨gb187, 1, none⟩ (.int .i64 t184)).setCell ⟨gb187, 2, none⟩ (.string t185)).heap[gb160]? = some (.cells #[.int .i64 t156, .int .i64 t157, .string t158] 32 (0, 0))) := ⟨by (with_reducible repeat (first | refine blk_drewN ?_ _ | refine blk_drew ?_ | refine blk_alloc ?_ _)); refine blk_far ?_ NB160_187.out _; (with_reducible repeat (first | refine blk_drewN ?_ _ | refine blk_drew ?_ | refine blk_alloc ?_ _)); refine blk_far ?_ NB160_187.out _; (with_reducible repeat (first | refine blk_drewN ?_ _ | refine blk_drew ?_ | refine blk_alloc ?_ _)); refine blk_far ?_ NB160_187.out _; (with_reducible repeat (first | refine blk_drewN ?_ _ | refine blk_drew ?_ | refine blk_alloc ?_ _)); exact BK160.out⟩
       have n4_ : Aside0 ((((w42.setCell ⟨gb187, 0, none⟩ (.int .i64 t183)).setCell ⟨gb187, 1, none⟩ (.int .i64 t184)).setCell ⟨gb187, 2, none⟩ (.string t185)).heap[gb165]? = some (.cells #[.int .i64 t161, .int .i64 t162, .string t163] 32 (0, 0))) := ⟨by (with_reducible repeat (first | refine blk_drewN ?_ _ | refine blk_drew ?_ | refine blk_alloc ?_ _)); refine blk_far ?_ NB165_187.out _; (with_reducible repeat (first | refine blk_drewN ?_ _ | refine blk_drew ?_ | refine blk_alloc ?_ _)); refine blk_far ?_ NB165_187.out _; (with_reducible repeat (first | refine blk_drewN ?_ _ | refine blk_drew ?_ | refine blk_alloc ?_ _)); refine blk_far ?_ NB165_187.out _; (with_reducible repeat (first | refine blk_drewN ?_ _ | refine blk_drew ?_ | refine blk_alloc ?_ _)); exact BK165.out⟩
       have n5_ : Aside0 ((((w42.setCell ⟨gb187, 0, none⟩ (.int .i64 t183)).setCell ⟨gb187, 1, none⟩ (.int .i64 t184)).setCell ⟨gb187, 2, none⟩ (.string t185)).heap[gb173]? = some (.cells #[.int .i64 t169, .int .i64 t170, .string t171] 32 (0, 0))) := ⟨by (with_reducible repeat (first | refine blk_drewN ?_ _ | refine blk_drew ?_ | refine blk_alloc ?_ _)); refine blk_far ?_ NB173_187.out _; (with_reducible repeat (first | refine blk_drewN ?_ _ | refine blk_drew ?_ | refine blk_alloc ?_ _)); refine blk_far ?_ NB173_187.out _; (with_reducible repeat (first | refine blk_drewN ?_ _ | refine blk_drew ?_ | refine blk_alloc ?_ _)); refine blk_far ?_ NB173_187.out _; (with_reducible repeat (first | refine blk_drewN ?_ _ | refine blk_drew ?_ | refine blk_alloc ?_ _)); exact BK173.out⟩
       have n6_ : Aside0 ((((w42.setCell ⟨gb187, 0, none⟩ (.int .i64 t183)).setCell ⟨gb187, 1, none⟩ (.int .i64 t184)).setCell ⟨gb187, 2, none⟩ (.string t185)).heap[gb187]? = some (.cells #[.int .i64 t183, .int .i64 t184, .string t185] 32 (0, 0))) := ⟨by (with_reducible repeat (first | refine blk_drewN ?_ _ | refine blk_drew ?_ | refine blk_alloc ?_ _)); refine blk_put (cs := #[.int .i64 t183, .int .i64 t184, .string (⟨#[]⟩ : ByteArray)]) ?_ 2 _ rfl; (with_reducible repeat (first | refine blk_drewN ?_ _ | refine blk_drew ?_ | refine blk_alloc ?_ _)); refine blk_put (cs := #[.int .i64 t183, .int .i64 0, .string (⟨#[]⟩ : ByteArray)]) ?_ 1 _ rfl; (with_reducible repeat (first | refine blk_drewN ?_ _ | refine blk_drew ?_ | refine blk_alloc ?_ _)); refine blk_put (cs := #[.int .i64 0, .int .i64 0, .string (⟨#[]⟩ : ByteArray)]) ?_ 0 _ rfl; (with_reducible repeat (first | refine blk_drewN ?_ _ | refine blk_drew ?_ | refine blk_alloc ?_ _)); exact BK187.out⟩
       have n7_ : Aside0 (Below w.heap.size w (((w42.setCell ⟨gb187, 0, none⟩ (.int .i64 t183)).setCell ⟨gb187, 1, none⟩ (.int .i64 t184)).setCell ⟨gb187, 2, none⟩ (.string t185))) := ⟨by repeat (first | (with_reducible first | exact HB.out | apply below_alloc | apply pw_below_drewN | apply below_drew1 | refine below_set ?_ GE160.out | refine below_set ?_ GE165.out | refine below_set ?_ GE173.out | refine below_set ?_ GE187.out) | exact HB.out)⟩
       (try clear HO155)
       (try clear HO168)
       (try clear HO182)
       (try clear BK160)
       (try clear BK165)
       (try clear BK173)
       (try clear BK187)
       (try clear HB)
       generalize (((w42.setCell ⟨gb187, 0, none⟩ (.int .i64 t183)).setCell ⟨gb187, 1, none⟩ (.int .i64 t184)).setCell ⟨gb187, 2, none⟩ (.string t185)) = w47 at n0_ n1_ n2_ n3_ n4_ n5_ n6_ n7_ ⊢
       have HO155 := n0_
       have HO168 := n1_
       have HO182 := n2_
       have BK160 := n3_
       have BK165 := n4_
       have BK173 := n5_
       have BK187 := n6_
       have HB := n7_
       clear n0_ n1_ n2_ n3_ n4_ n5_ n6_ n7_
       have n0_ := Aside0.mk (Kd.R_drew HO155.out)
       have n1_ := Aside0.mk (Kd.R_drew HO168.out)
       have n2_ := Aside0.mk (Kd.R_drew HO182.out)
       have n3_ := Aside0.mk (blk_drew BK160.out)
       have n4_ := Aside0.mk (blk_drew BK165.out)
       have n5_ := Aside0.mk (blk_drew BK173.out)
       have n6_ := Aside0.mk (blk_drew BK187.out)
       have n7_ := Aside0.mk (below_drew1 HB.out)
       clear HO155
       clear HO168
       clear HO182
       clear BK160
       clear BK165
       clear BK173
       clear BK187
       clear HB
       have HO155 := n0_
       have HO168 := n1_
       have HO182 := n2_
       have BK160 := n3_
       have BK165 := n4_
       have BK173 := n5_
       have BK187 := n6_
       have HB := n7_
       clear n0_ n1_ n2_ n3_ n4_ n5_ n6_ n7_
       refine start_ (n := 27) (S := fun w' => w'.cell? ⟨gb160, 0, none⟩ = some (.int .i64 t156) ∧ w'.cell? ⟨gb160, 1, none⟩ = some (.int .i64 t157) ∧ w'.cell? ⟨gb160, 2, none⟩ = some (.string t158) ∧ w'.cell? ⟨gb165, 0, none⟩ = some (.int .i64 t161) ∧ w'.cell? ⟨gb165, 1, none⟩ = some (.int .i64 t162) ∧ w'.cell? ⟨gb165, 2, none⟩ = some (.string t163) ∧ w'.cell? ⟨gb173, 0, none⟩ = some (.int .i64 t169) ∧ w'.cell? ⟨gb173, 1, none⟩ = some (.int .i64 t170) ∧ w'.cell? ⟨gb173, 2, none⟩ = some (.string t171)) (ds := []) #[false, false, false, false, false, false, false, false, false, false, false, false, false, false, false, false, false, false, false, false, false, false, false, false, false, false, false] (by kernel_rfl) rfl rfl ⟨(blk_cell BK160.out 0).trans rfl, (blk_cell BK160.out 1).trans rfl, (blk_cell BK160.out 2).trans rfl, (blk_cell BK165.out 0).trans rfl, (blk_cell BK165.out 1).trans rfl, (blk_cell BK165.out 2).trans rfl, (blk_cell BK173.out 0).trans rfl, (blk_cell BK173.out 1).trans rfl, (blk_cell BK173.out 2).trans rfl⟩ (fun hHeld => ?_); refine with_tabW quarrylaw17_works.tab5 quarrylaw17_works.bits5 (fun HT_ HW_ => ?_)
       generalize w47.drew = w48 at HO155 HO168 HO182 BK160 BK165 BK173 BK187 HB hHeld ⊢
       refine take_ (i := 0) (N := some 35) (v := ?_) (a' := ?_) #[true, false, false, false, false, false, false, false, false, false, false, false, false, false, false, false, false, false, false, false, false, false, false, false, false, false, false] rfl rfl (take_ofW HT_.out HW_.out (by kernel_rfl)) (fun _ _ _ h => h) (Or.inl ⟨by rfl, ?_⟩) hHeld ?_ ?_
       rotate_left
       ·rintro w' ⟨s0, s1, s2, s3, s4, s5, s6, s7, s8⟩
        go_simp
        with_reducible rfl
       rotate_left
       ·simp only [Act.put, List.setIfInBounds_toArray, List.set_cons_zero, List.set_cons_succ, i64_w, i32_w]
        rfl
       refine one_ (i := 1) (N := some 36) #[true, true, false, false, false, false, false, false, false, false, false, false, false, false, false, false, false, false, false, false, false, false, false, false, false, false, false] rfl rfl (one_of HT_.out (by kernel_rfl)) (by decide) (fun K hK => ?_)
       refine goes_ Try.func18 (by kernel_rfl) rfl #[.int .i64 3] (by rfl) rfl rfl (by (try simp only [List.map_toArray, List.map_cons, List.map_nil]); first | done | rfl | (simp only [List.length_drop, List.length_take]; rfl)) ?_
       with_reducible refine (quarrylaw17_number.calls 3 t188 t189 t190 _ A9.out).mono ?_
       rintro e w49 ⟨rfl, hb⟩
       refine ⟨_, rfl, ?_⟩
       have n0_ := Aside0.mk (Kd.R_below (by (with_reducible repeat (first | apply Kd.R_alloc | apply Kd.R_drewN | apply Kd.R_drew)); exact HO155.out) hb)
       have n1_ := Aside0.mk (Kd.R_below (by (with_reducible repeat (first | apply Kd.R_alloc | apply Kd.R_drewN | apply Kd.R_drew)); exact HO168.out) hb)
       have n2_ := Aside0.mk (Kd.R_below (by (with_reducible repeat (first | apply Kd.R_alloc | apply Kd.R_drewN | apply Kd.R_drew)); exact HO182.out) hb)
       have n3_ := Aside0.mk (blk_below (g := gb160) (o := .cells #[.int .i64 t156, .int .i64 t157, .string t158] 32 (0, 0)) (bk_ BK160) hb)
       have n4_ := Aside0.mk (blk_below (g := gb165) (o := .cells #[.int .i64 t161, .int .i64 t162, .string t163] 32 (0, 0)) (bk_ BK165) hb)
       have n5_ := Aside0.mk (blk_below (g := gb173) (o := .cells #[.int .i64 t169, .int .i64 t170, .string t171] 32 (0, 0)) (bk_ BK173) hb)
       have n6_ := Aside0.mk (blk_below (g := gb187) (o := .cells #[.int .i64 t183, .int .i64 t184, .string t185] 32 (0, 0)) (bk_ BK187) hb)
       have n7_ := Aside0.mk (below_step (by repeat (first | (with_reducible first | exact HB.out | apply below_alloc | apply pw_below_drewN | apply below_drew1 | refine below_set ?_ GE160.out | refine below_set ?_ GE165.out | refine below_set ?_ GE173.out | refine below_set ?_ GE187.out) | exact HB.out)) hb)
       clear HO155
       clear HO168
       clear HO182
       clear BK160
       clear BK165
       clear BK173
       clear BK187
       clear HB
       have HO155 := n0_
       have HO168 := n1_
       have HO182 := n2_
       have BK160 := n3_
       have BK165 := n4_
       have BK173 := n5_
       have BK187 := n6_
       have HB := n7_
       clear n0_ n1_ n2_ n3_ n4_ n5_ n6_ n7_
       (try clear hb)
       (try clear hb2)
       (try clear hk)
       (try clear hi)
       refine hK.out _ _ ⟨(blk_cell BK160.out 0).trans rfl, (blk_cell BK160.out 1).trans rfl, (blk_cell BK160.out 2).trans rfl, (blk_cell BK165.out 0).trans rfl, (blk_cell BK165.out 1).trans rfl, (blk_cell BK165.out 2).trans rfl, (blk_cell BK173.out 0).trans rfl, (blk_cell BK173.out 1).trans rfl, (blk_cell BK173.out 2).trans rfl⟩ (fun hHeld => ?_)
       clear hK K
       refine norm_ (a' := ?_) ?_ ?_
       rotate_left
       ·show Act.put _ (some 36) _ = _
        simp only [Act.put, List.setIfInBounds_toArray, List.set_cons_zero, List.set_cons_succ, i64_w, i32_w]
        rfl
       refine pure_ (i := 2) (N := some 37) (v := ?_) (a' := ?_) #[true, true, true, false, false, false, false, false, false, false, false, false, false, false, false, false, false, false, false, false, false, false, false, false, false, false, false] rfl rfl (any_of HT_.out (by kernel_rfl)) (fun _ _ _ h => h) (Or.inl ⟨by rfl, ?_⟩) ?_ ?_
       rotate_left
       ·intro w'
        go_simp
        with_reducible rfl
       rotate_left
       ·simp only [Act.put, List.setIfInBounds_toArray, List.set_cons_zero, List.set_cons_succ, i64_w, i32_w]
        rfl
       refine pure_ (i := 3) (N := some 38) (v := ?_) (a' := ?_) #[true, true, true, true, false, false, false, false, false, false, false, false, false, false, false, false, false, false, false, false, false, false, false, false, false, false, false] rfl rfl (any_of HT_.out (by kernel_rfl)) (fun _ _ _ h => h) (Or.inl ⟨by rfl, ?_⟩) ?_ ?_
       rotate_left
       ·intro w'
        go_simp
        with_reducible rfl
       rotate_left
       ·simp only [Act.put, List.setIfInBounds_toArray, List.set_cons_zero, List.set_cons_succ, i64_w, i32_w]
        rfl
       refine pure_ (i := 4) (N := some 39) (v := ?_) (a' := ?_) #[true, true, true, true, true, false, false, false, false, false, false, false, false, false, false, false, false, false, false, false, false, false, false, false, false, false, false] rfl rfl (any_of HT_.out (by kernel_rfl)) (fun _ _ _ h => h) (Or.inl ⟨by rfl, ?_⟩) ?_ ?_
       rotate_left
       ·intro w'
        go_simp
        with_reducible rfl
       rotate_left
       ·simp only [Act.put, List.setIfInBounds_toArray, List.set_cons_zero, List.set_cons_succ, i64_w, i32_w]
        rfl
       refine pure_ (i := 5) (N := some 40) (v := ?_) (a' := ?_) #[true, true, true, true, true, true, false, false, false, false, false, false, false, false, false, false, false, false, false, false, false, false, false, false, false, false, false] rfl rfl (any_of HT_.out (by kernel_rfl)) (fun _ _ _ h => h) (Or.inl ⟨by rfl, ?_⟩) ?_ ?_
       rotate_left
       ·intro w'
        go_simp
        with_reducible rfl
       rotate_left
       ·simp only [Act.put, List.setIfInBounds_toArray, List.set_cons_zero, List.set_cons_succ, i64_w, i32_w]
        rfl
       refine pure_ (i := 6) (N := some 41) (v := ?_) (a' := ?_) #[true, true, true, true, true, true, true, false, false, false, false, false, false, false, false, false, false, false, false, false, false, false, false, false, false, false, false] rfl rfl (any_of HT_.out (by kernel_rfl)) (fun _ _ _ h => h) (Or.inl ⟨by rfl, ?_⟩) ?_ ?_
       rotate_left
       ·intro w'
        go_simp
        with_reducible rfl
       rotate_left
       ·simp only [Act.put, List.setIfInBounds_toArray, List.set_cons_zero, List.set_cons_succ, i64_w, i32_w]
        rfl
       refine pure_ (i := 8) (N := some 43) (v := ?_) (a' := ?_) #[true, true, true, true, true, true, true, false, true, false, false, false, false, false, false, false, false, false, false, false, false, false, false, false, false, false, false] rfl rfl (any_of HT_.out (by kernel_rfl)) (fun _ _ _ h => h) (Or.inl ⟨by rfl, ?_⟩) ?_ ?_
       rotate_left
       ·intro w'
        go_simp
        with_reducible rfl
       rotate_left
       ·simp only [Act.put, List.setIfInBounds_toArray, List.set_cons_zero, List.set_cons_succ, i64_w, i32_w]
        rfl
       refine take_ (i := 7) (N := some 42) (v := ?_) (a' := ?_) #[true, true, true, true, true, true, true, true, true, false, false, false, false, false, false, false, false, false, false, false, false, false, false, false, false, false, false] rfl rfl (take_ofW HT_.out HW_.out (by kernel_rfl)) (fun _ _ _ h => h) (Or.inl ⟨by rfl, ?_⟩) hHeld ?_ ?_
       rotate_left
       ·rintro w' ⟨s0, s1, s2, s3, s4, s5, s6, s7, s8⟩
        go_simp
        with_reducible rfl
       rotate_left
       ·simp only [Act.put, List.setIfInBounds_toArray, List.set_cons_zero, List.set_cons_succ, i64_w, i32_w]
        rfl
       refine pure_ (i := 9) (N := some 44) (v := ?_) (a' := ?_) #[true, true, true, true, true, true, true, true, true, true, false, false, false, false, false, false, false, false, false, false, false, false, false, false, false, false, false] rfl rfl (any_of HT_.out (by kernel_rfl)) (fun _ _ _ h => h) (Or.inl ⟨by rfl, ?_⟩) ?_ ?_
       rotate_left
       ·intro w'
        go_simp
        with_reducible rfl
       rotate_left
       ·simp only [Act.put, List.setIfInBounds_toArray, List.set_cons_zero, List.set_cons_succ, i64_w, i32_w]
        rfl
       refine pure_ (i := 10) (N := some 45) (v := ?_) (a' := ?_) #[true, true, true, true, true, true, true, true, true, true, true, false, false, false, false, false, false, false, false, false, false, false, false, false, false, false, false] rfl rfl (any_of HT_.out (by kernel_rfl)) (fun _ _ _ h => h) (Or.inl ⟨by rfl, ?_⟩) ?_ ?_
       rotate_left
       ·intro w'
        go_simp
        with_reducible rfl
       rotate_left
       ·simp only [Act.put, List.setIfInBounds_toArray, List.set_cons_zero, List.set_cons_succ, i64_w, i32_w]
        rfl
       refine pure_ (i := 11) (N := some 46) (v := ?_) (a' := ?_) #[true, true, true, true, true, true, true, true, true, true, true, true, false, false, false, false, false, false, false, false, false, false, false, false, false, false, false] rfl rfl (any_of HT_.out (by kernel_rfl)) (fun _ _ _ h => h) (Or.inl ⟨by rfl, ?_⟩) ?_ ?_
       rotate_left
       ·intro w'
        go_simp
        with_reducible rfl
       rotate_left
       ·simp only [Act.put, List.setIfInBounds_toArray, List.set_cons_zero, List.set_cons_succ, i64_w, i32_w]
        rfl
       refine pure_ (i := 12) (N := some 47) (v := ?_) (a' := ?_) #[true, true, true, true, true, true, true, true, true, true, true, true, true, false, false, false, false, false, false, false, false, false, false, false, false, false, false] rfl rfl (any_of HT_.out (by kernel_rfl)) (fun _ _ _ h => h) (Or.inl ⟨by rfl, ?_⟩) ?_ ?_
       rotate_left
       ·intro w'
        go_simp
        with_reducible rfl
       rotate_left
       ·simp only [Act.put, List.setIfInBounds_toArray, List.set_cons_zero, List.set_cons_succ, i64_w, i32_w]
        rfl
       refine pure_ (i := 13) (N := some 48) (v := ?_) (a' := ?_) #[true, true, true, true, true, true, true, true, true, true, true, true, true, true, false, false, false, false, false, false, false, false, false, false, false, false, false] rfl rfl (any_of HT_.out (by kernel_rfl)) (fun _ _ _ h => h) (Or.inl ⟨by rfl, ?_⟩) ?_ ?_
       rotate_left
       ·intro w'
        go_simp
        with_reducible rfl
       rotate_left
       ·simp only [Act.put, List.setIfInBounds_toArray, List.set_cons_zero, List.set_cons_succ, i64_w, i32_w]
        rfl
       refine pure_ (i := 14) (N := some 49) (v := ?_) (a' := ?_) #[true, true, true, true, true, true, true, true, true, true, true, true, true, true, true, false, false, false, false, false, false, false, false, false, false, false, false] rfl rfl (any_of HT_.out (by kernel_rfl)) (fun _ _ _ h => h) (Or.inl ⟨by rfl, ?_⟩) ?_ ?_
       rotate_left
       ·intro w'
        go_simp
        with_reducible rfl
       rotate_left
       ·simp only [Act.put, List.setIfInBounds_toArray, List.set_cons_zero, List.set_cons_succ, i64_w, i32_w]
        rfl
       refine pure_ (i := 15) (N := some 50) (v := ?_) (a' := ?_) #[true, true, true, true, true, true, true, true, true, true, true, true, true, true, true, true, false, false, false, false, false, false, false, false, false, false, false] rfl rfl (any_of HT_.out (by kernel_rfl)) (fun _ _ _ h => h) (Or.inl ⟨by rfl, ?_⟩) ?_ ?_
       rotate_left
       ·intro w'
        go_simp
        with_reducible rfl
       rotate_left
       ·simp only [Act.put, List.setIfInBounds_toArray, List.set_cons_zero, List.set_cons_succ, i64_w, i32_w]
        rfl
       refine take_ (i := 16) (N := some 51) (v := ?_) (a' := ?_) #[true, true, true, true, true, true, true, true, true, true, true, true, true, true, true, true, true, false, false, false, false, false, false, false, false, false, false] rfl rfl (take_ofW HT_.out HW_.out (by kernel_rfl)) (fun _ _ _ h => h) (Or.inl ⟨by rfl, ?_⟩) hHeld ?_ ?_
       rotate_left
       ·rintro w' ⟨s0, s1, s2, s3, s4, s5, s6, s7, s8⟩
        go_simp
        with_reducible rfl
       rotate_left
       ·simp only [Act.put, List.setIfInBounds_toArray, List.set_cons_zero, List.set_cons_succ, i64_w, i32_w]
        rfl
       refine pure_ (i := 17) (N := some 52) (v := ?_) (a' := ?_) #[true, true, true, true, true, true, true, true, true, true, true, true, true, true, true, true, true, true, false, false, false, false, false, false, false, false, false] rfl rfl (any_of HT_.out (by kernel_rfl)) (fun _ _ _ h => h) (Or.inl ⟨by rfl, ?_⟩) ?_ ?_
       rotate_left
       ·intro w'
        go_simp
        with_reducible rfl
       rotate_left
       ·simp only [Act.put, List.setIfInBounds_toArray, List.set_cons_zero, List.set_cons_succ, i64_w, i32_w]
        rfl
       refine pure_ (i := 18) (N := some 53) (v := ?_) (a' := ?_) #[true, true, true, true, true, true, true, true, true, true, true, true, true, true, true, true, true, true, true, false, false, false, false, false, false, false, false] rfl rfl (any_of HT_.out (by kernel_rfl)) (fun _ _ _ h => h) (Or.inl ⟨by rfl, ?_⟩) ?_ ?_
       rotate_left
       ·intro w'
        go_simp
        with_reducible rfl
       rotate_left
       ·simp only [Act.put, List.setIfInBounds_toArray, List.set_cons_zero, List.set_cons_succ, i64_w, i32_w]
        rfl
       refine pure_ (i := 19) (N := some 54) (v := ?_) (a' := ?_) #[true, true, true, true, true, true, true, true, true, true, true, true, true, true, true, true, true, true, true, true, false, false, false, false, false, false, false] rfl rfl (any_of HT_.out (by kernel_rfl)) (fun _ _ _ h => h) (Or.inl ⟨by rfl, ?_⟩) ?_ ?_
       rotate_left
       ·intro w'
        go_simp
        with_reducible rfl
       rotate_left
       ·simp only [Act.put, List.setIfInBounds_toArray, List.set_cons_zero, List.set_cons_succ, i64_w, i32_w]
        rfl
       refine pure_ (i := 20) (N := some 55) (v := ?_) (a' := ?_) #[true, true, true, true, true, true, true, true, true, true, true, true, true, true, true, true, true, true, true, true, true, false, false, false, false, false, false] rfl rfl (any_of HT_.out (by kernel_rfl)) (fun _ _ _ h => h) (Or.inl ⟨by rfl, ?_⟩) ?_ ?_
       rotate_left
       ·intro w'
        go_simp
        with_reducible rfl
       rotate_left
       ·simp only [Act.put, List.setIfInBounds_toArray, List.set_cons_zero, List.set_cons_succ, i64_w, i32_w]
        rfl
       refine pure_ (i := 21) (N := some 56) (v := ?_) (a' := ?_) #[true, true, true, true, true, true, true, true, true, true, true, true, true, true, true, true, true, true, true, true, true, true, false, false, false, false, false] rfl rfl (any_of HT_.out (by kernel_rfl)) (fun _ _ _ h => h) (Or.inl ⟨by rfl, ?_⟩) ?_ ?_
       rotate_left
       ·intro w'
        go_simp
        with_reducible rfl
       rotate_left
       ·simp only [Act.put, List.setIfInBounds_toArray, List.set_cons_zero, List.set_cons_succ, i64_w, i32_w]
        rfl
       refine pure_ (i := 22) (N := some 57) (v := ?_) (a' := ?_) #[true, true, true, true, true, true, true, true, true, true, true, true, true, true, true, true, true, true, true, true, true, true, true, false, false, false, false] rfl rfl (any_of HT_.out (by kernel_rfl)) (fun _ _ _ h => h) (Or.inl ⟨by rfl, ?_⟩) ?_ ?_
       rotate_left
       ·intro w'
        go_simp
        with_reducible rfl
       rotate_left
       ·simp only [Act.put, List.setIfInBounds_toArray, List.set_cons_zero, List.set_cons_succ, i64_w, i32_w]
        rfl
       refine pure_ (i := 23) (N := some 58) (v := ?_) (a' := ?_) #[true, true, true, true, true, true, true, true, true, true, true, true, true, true, true, true, true, true, true, true, true, true, true, true, false, false, false] rfl rfl (any_of HT_.out (by kernel_rfl)) (fun _ _ _ h => h) (Or.inl ⟨by rfl, ?_⟩) ?_ ?_
       rotate_left
       ·intro w'
        go_simp
        with_reducible rfl
       rotate_left
       ·simp only [Act.put, List.setIfInBounds_toArray, List.set_cons_zero, List.set_cons_succ, i64_w, i32_w]
        rfl
       refine pure_ (i := 24) (N := some 59) (v := ?_) (a' := ?_) #[true, true, true, true, true, true, true, true, true, true, true, true, true, true, true, true, true, true, true, true, true, true, true, true, true, false, false] rfl rfl (any_of HT_.out (by kernel_rfl)) (fun _ _ _ h => h) (Or.inl ⟨by rfl, ?_⟩) ?_ ?_
       rotate_left
       ·intro w'
        go_simp
        with_reducible rfl
       rotate_left
       ·simp only [Act.put, List.setIfInBounds_toArray, List.set_cons_zero, List.set_cons_succ, i64_w, i32_w]
        rfl
       refine pure_ (i := 25) (N := some 60) (v := ?_) (a' := ?_) #[true, true, true, true, true, true, true, true, true, true, true, true, true, true, true, true, true, true, true, true, true, true, true, true, true, true, false] rfl rfl (any_of HT_.out (by kernel_rfl)) (fun _ _ _ h => h) (Or.inl ⟨by rfl, ?_⟩) ?_ ?_
       rotate_left
       ·intro w'
        go_simp
        with_reducible rfl
       rotate_left
       ·simp only [Act.put, List.setIfInBounds_toArray, List.set_cons_zero, List.set_cons_succ, i64_w, i32_w]
        rfl
       refine pure_ (i := 26) (N := some 0) (v := ?_) (a' := ?_) #[true, true, true, true, true, true, true, true, true, true, true, true, true, true, true, true, true, true, true, true, true, true, true, true, true, true, true] rfl rfl (any_of HT_.out (by kernel_rfl)) (fun _ _ _ h => h) (Or.inl ⟨by rfl, ?_⟩) ?_ ?_
       rotate_left
       ·intro w'
        go_simp
        with_reducible rfl
       rotate_left
       ·simp only [Act.put, List.setIfInBounds_toArray, List.set_cons_zero, List.set_cons_succ, i64_w, i32_w]
        rfl
       refine done_ (done_of HT_.out (by kernel_rfl)) ?_
       try go_wp2
       go_ret
       exact ⟨by first | rfl | (simp [errW_none, errW_some] <;> rfl) | (simp [*, errW_none, errW_some] <;> rfl), by repeat (first | (with_reducible first | exact HB.out | apply below_alloc | apply pw_below_drewN | apply below_drew1 | refine below_set ?_ GE160.out | refine below_set ?_ GE165.out | refine below_set ?_ GE173.out | refine below_set ?_ GE187.out) | exact HB.out)⟩
      ·rw [if_neg c15] at H
       cases H
     ·rw [if_neg c14] at H
      cases H
    ·rw [if_neg c13] at H
     cases H
   ·rw [if_neg c12] at H
    cases H
  ·rw [if_neg c11] at H
   cases H
 ·rw [if_neg c10] at H
  cases H
end Go.Proofs.Ytgjfciohmgpohaa.P
end
section
namespace Go.Proofs.Ytgjfciohmgpohaa.P
open Go.RowKit Go.Proofs.YtgjfciohmgpohaaW.PrintWords Go.Proofs.YtgjfciohmgpohaaW.PrintLast Go.Proofs.YtgjfciohmgpohaaW.PrintMore
attribute [local go_sem] max2_int min2_int max_two min_two max_three min_three max_four min_four
set_option linter.unusedVariables false
set_option linter.unusedSimpArgs false
def chkR (a b : Int) (c : ByteArray) : Int :=
 if a = 0 then (if b = 0 ∧ c.toList = [] then 0 else 3)
 else if a = 1 then (if (b = 0 ∨ b = 1) ∧ c.toList = [] then 0 else 3)
 else if a = 2 then (if c.toList = [] then 0 else 3)
 else if a = 3 ∨ a = 4 then (if b = 0 then 0 else 3)
 else 5
def quarryref01_Check.f (a0_0 : Int) (a0_1 : Int) (a0_2 : ByteArray) : Option (Int) := some (chkR a0_0 a0_1 a0_2)
theorem eqR (d : Nat) (w : World) (x0 y0 : Int) (x1 y1 : Int) (x2 y2 : ByteArray) :
  (Op.equalIn (d + 2) 32 (.agg #[.int .i64 x0, .int .i64 x1, .string x2]) (.agg #[.int .i64 y0, .int .i64 y1, .string y2])).run Try.prog w = .ok (x0 == y0 && (x1 == y1 && (x2.toList == y2.toList))) w := by
 refine eqA_of Try.underlying32 (by kernel_rfl) ?_
 refine eqf_cons (by rfl) (by go_simp; rfl) (by go_simp; rfl) (by go_simp) ?_
 refine eqf_cons (by rfl) (by go_simp; rfl) (by go_simp; rfl) (by go_simp) ?_
 exact eqf_last (by rfl) (by go_simp; rfl) (by go_simp; rfl) (by go_simp)
attribute [local go_sem high] eqR
set_option maxHeartbeats 2000000 in
set_option maxRecDepth 100000 in
theorem quarryref01_Check.z1 (a b : Int) (c : ByteArray) (w : World) (ha : a = 0) (hb : b = 0) (he : c.toList = []) :
  Calls Try.prog 19 #[.agg #[.int .i64 a, .int .i64 b, .string c]] w fun e w' => e = .returned (.int .i64 0) ∧ Below w.heap.size w w' := by
 have lo : decide (a < 0) = false := decide_eq_false (by omega)
 have hi : decide (4 < a) = false := decide_eq_false (by omega)
 have hu38 := Try.underlying32
 have k0 : (a == 0) = true := beq_iff_eq.mpr ha
 have b0 : (b == 0) = true := beq_iff_eq.mpr hb
 have b1 : (b == 1) = false := beq_eq_false_iff_ne.mpr (by omega)
 have e0 : c.toList.isEmpty = true := List.isEmpty_iff.2 he
 have e1 : (c.toList == ([] : List UInt8)) = true := beq_iff_eq.mpr he
 have n0 : (b != 0) = false := by rw [bne, b0]; rfl
 have n1 : (b != 1) = true := by rw [bne, b1]; rfl
 have e2 : (c.toList != ([] : List UInt8)) = false := by rw [bne, e1]; rfl
 clear ha hb he
 go_enter Try.func19, Try.ntmps19
 go_wp2
 go_ret
 exact ⟨rfl, by repeat (first | exact Below.refl _ _ | refine Below.setCell ?_ (Nat.le_refl _) _ | refine Below.setCell ?_ (Nat.le_succ _) _ | apply below_alloc)⟩
set_option maxHeartbeats 2000000 in
set_option maxRecDepth 100000 in
theorem quarryref01_Check.z2 (a b : Int) (c : ByteArray) (w : World) (ha : a = 0) (hb : b = 0) (he : ¬ c.toList = []) :
  Calls Try.prog 19 #[.agg #[.int .i64 a, .int .i64 b, .string c]] w fun e w' => e = .returned (.int .i64 3) ∧ Below w.heap.size w w' := by
 have lo : decide (a < 0) = false := decide_eq_false (by omega)
 have hi : decide (4 < a) = false := decide_eq_false (by omega)
 have hu38 := Try.underlying32
 have k0 : (a == 0) = true := beq_iff_eq.mpr ha
 have b0 : (b == 0) = true := beq_iff_eq.mpr hb
 have b1 : (b == 1) = false := beq_eq_false_iff_ne.mpr (by omega)
 have e0 : c.toList.isEmpty = false := by cases h : c.toList with | nil => exact absurd h he | cons => rfl
 have e1 : (c.toList == ([] : List UInt8)) = false := beq_eq_false_iff_ne.mpr he
 have n0 : (b != 0) = false := by rw [bne, b0]; rfl
 have n1 : (b != 1) = true := by rw [bne, b1]; rfl
 have e2 : (c.toList != ([] : List UInt8)) = true := by rw [bne, e1]; rfl
 clear ha hb he
 go_enter Try.func19, Try.ntmps19
 go_wp2
 go_ret
 exact ⟨rfl, by repeat (first | exact Below.refl _ _ | refine Below.setCell ?_ (Nat.le_refl _) _ | refine Below.setCell ?_ (Nat.le_succ _) _ | apply below_alloc)⟩
set_option maxHeartbeats 2000000 in
set_option maxRecDepth 100000 in
theorem quarryref01_Check.z3 (a b : Int) (c : ByteArray) (w : World) (ha : a = 0) (hb : ¬ b = 0) :
  Calls Try.prog 19 #[.agg #[.int .i64 a, .int .i64 b, .string c]] w fun e w' => e = .returned (.int .i64 3) ∧ Below w.heap.size w w' := by
 have lo : decide (a < 0) = false := decide_eq_false (by omega)
 have hi : decide (4 < a) = false := decide_eq_false (by omega)
 have hu38 := Try.underlying32
 have k0 : (a == 0) = true := beq_iff_eq.mpr ha
 have b0 : (b == 0) = false := beq_eq_false_iff_ne.mpr hb
 have n0 : (b != 0) = true := by rw [bne, b0]; rfl
 clear ha hb
 go_enter Try.func19, Try.ntmps19
 go_wp2
 go_ret
 exact ⟨rfl, by repeat (first | exact Below.refl _ _ | refine Below.setCell ?_ (Nat.le_refl _) _ | refine Below.setCell ?_ (Nat.le_succ _) _ | apply below_alloc)⟩
set_option maxHeartbeats 2000000 in
set_option maxRecDepth 100000 in
theorem quarryref01_Check.t1 (a b : Int) (c : ByteArray) (w : World) (ha : a = 1) (hb : b = 1) (he : c.toList = []) :
  Calls Try.prog 19 #[.agg #[.int .i64 a, .int .i64 b, .string c]] w fun e w' => e = .returned (.int .i64 0) ∧ Below w.heap.size w w' := by
 have lo : decide (a < 0) = false := decide_eq_false (by omega)
 have hi : decide (4 < a) = false := decide_eq_false (by omega)
 have hu38 := Try.underlying32
 have k0 : (a == 0) = false := beq_eq_false_iff_ne.mpr (by omega)
 have k1 : (a == 1) = true := beq_iff_eq.mpr ha
 have b0 : (b == 0) = false := beq_eq_false_iff_ne.mpr (by omega)
 have b1 : (b == 1) = true := beq_iff_eq.mpr hb
 have e0 : c.toList.isEmpty = true := List.isEmpty_iff.2 he
 have e1 : (c.toList == ([] : List UInt8)) = true := beq_iff_eq.mpr he
 have n0 : (b != 0) = true := by rw [bne, b0]; rfl
 have n1 : (b != 1) = false := by rw [bne, b1]; rfl
 have e2 : (c.toList != ([] : List UInt8)) = false := by rw [bne, e1]; rfl
 clear ha hb he
 go_enter Try.func19, Try.ntmps19
 go_wp2
 go_ret
 exact ⟨rfl, by repeat (first | exact Below.refl _ _ | refine Below.setCell ?_ (Nat.le_refl _) _ | refine Below.setCell ?_ (Nat.le_succ _) _ | apply below_alloc)⟩
set_option maxHeartbeats 2000000 in
set_option maxRecDepth 100000 in
theorem quarryref01_Check.t2 (a b : Int) (c : ByteArray) (w : World) (ha : a = 1) (hb : b = 1) (he : ¬ c.toList = []) :
  Calls Try.prog 19 #[.agg #[.int .i64 a, .int .i64 b, .string c]] w fun e w' => e = .returned (.int .i64 3) ∧ Below w.heap.size w w' := by
 have lo : decide (a < 0) = false := decide_eq_false (by omega)
 have hi : decide (4 < a) = false := decide_eq_false (by omega)
 have hu38 := Try.underlying32
 have k0 : (a == 0) = false := beq_eq_false_iff_ne.mpr (by omega)
 have k1 : (a == 1) = true := beq_iff_eq.mpr ha
 have b0 : (b == 0) = false := beq_eq_false_iff_ne.mpr (by omega)
 have b1 : (b == 1) = true := beq_iff_eq.mpr hb
 have e0 : c.toList.isEmpty = false := by cases h : c.toList with | nil => exact absurd h he | cons => rfl
 have e1 : (c.toList == ([] : List UInt8)) = false := beq_eq_false_iff_ne.mpr he
 have n0 : (b != 0) = true := by rw [bne, b0]; rfl
 have n1 : (b != 1) = false := by rw [bne, b1]; rfl
 have e2 : (c.toList != ([] : List UInt8)) = true := by rw [bne, e1]; rfl
 clear ha hb he
 go_enter Try.func19, Try.ntmps19
 go_wp2
 go_ret
 exact ⟨rfl, by repeat (first | exact Below.refl _ _ | refine Below.setCell ?_ (Nat.le_refl _) _ | refine Below.setCell ?_ (Nat.le_succ _) _ | apply below_alloc)⟩
set_option maxHeartbeats 2000000 in
set_option maxRecDepth 100000 in
theorem quarryref01_Check.t3 (a b : Int) (c : ByteArray) (w : World) (ha : a = 1) (hb : b = 0) (he : c.toList = []) :
  Calls Try.prog 19 #[.agg #[.int .i64 a, .int .i64 b, .string c]] w fun e w' => e = .returned (.int .i64 0) ∧ Below w.heap.size w w' := by
 have lo : decide (a < 0) = false := decide_eq_false (by omega)
 have hi : decide (4 < a) = false := decide_eq_false (by omega)
 have hu38 := Try.underlying32
 have k0 : (a == 0) = false := beq_eq_false_iff_ne.mpr (by omega)
 have k1 : (a == 1) = true := beq_iff_eq.mpr ha
 have b0 : (b == 0) = true := beq_iff_eq.mpr hb
 have b1 : (b == 1) = false := beq_eq_false_iff_ne.mpr (by omega)
 have e0 : c.toList.isEmpty = true := List.isEmpty_iff.2 he
 have e1 : (c.toList == ([] : List UInt8)) = true := beq_iff_eq.mpr he
 have n0 : (b != 0) = false := by rw [bne, b0]; rfl
 have n1 : (b != 1) = true := by rw [bne, b1]; rfl
 have e2 : (c.toList != ([] : List UInt8)) = false := by rw [bne, e1]; rfl
 clear ha hb he
 go_enter Try.func19, Try.ntmps19
 go_wp2
 go_ret
 exact ⟨rfl, by repeat (first | exact Below.refl _ _ | refine Below.setCell ?_ (Nat.le_refl _) _ | refine Below.setCell ?_ (Nat.le_succ _) _ | apply below_alloc)⟩
set_option maxHeartbeats 2000000 in
set_option maxRecDepth 100000 in
theorem quarryref01_Check.t4 (a b : Int) (c : ByteArray) (w : World) (ha : a = 1) (hb : b = 0) (he : ¬ c.toList = []) :
  Calls Try.prog 19 #[.agg #[.int .i64 a, .int .i64 b, .string c]] w fun e w' => e = .returned (.int .i64 3) ∧ Below w.heap.size w w' := by
 have lo : decide (a < 0) = false := decide_eq_false (by omega)
 have hi : decide (4 < a) = false := decide_eq_false (by omega)
 have hu38 := Try.underlying32
 have k0 : (a == 0) = false := beq_eq_false_iff_ne.mpr (by omega)
 have k1 : (a == 1) = true := beq_iff_eq.mpr ha
 have b0 : (b == 0) = true := beq_iff_eq.mpr hb
 have b1 : (b == 1) = false := beq_eq_false_iff_ne.mpr (by omega)
 have e0 : c.toList.isEmpty = false := by cases h : c.toList with | nil => exact absurd h he | cons => rfl
 have e1 : (c.toList == ([] : List UInt8)) = false := beq_eq_false_iff_ne.mpr he
 have n0 : (b != 0) = false := by rw [bne, b0]; rfl
 have n1 : (b != 1) = true := by rw [bne, b1]; rfl
 have e2 : (c.toList != ([] : List UInt8)) = true := by rw [bne, e1]; rfl
 clear ha hb he
 go_enter Try.func19, Try.ntmps19
 go_wp2
 go_ret
 exact ⟨rfl, by repeat (first | exact Below.refl _ _ | refine Below.setCell ?_ (Nat.le_refl _) _ | refine Below.setCell ?_ (Nat.le_succ _) _ | apply below_alloc)⟩
set_option maxHeartbeats 2000000 in
set_option maxRecDepth 100000 in
theorem quarryref01_Check.t5 (a b : Int) (c : ByteArray) (w : World) (ha : a = 1) (hb : ¬ b = 0) (hb1 : ¬ b = 1) (he : c.toList = []) :
  Calls Try.prog 19 #[.agg #[.int .i64 a, .int .i64 b, .string c]] w fun e w' => e = .returned (.int .i64 3) ∧ Below w.heap.size w w' := by
 have lo : decide (a < 0) = false := decide_eq_false (by omega)
 have hi : decide (4 < a) = false := decide_eq_false (by omega)
 have hu38 := Try.underlying32
 have k0 : (a == 0) = false := beq_eq_false_iff_ne.mpr (by omega)
 have k1 : (a == 1) = true := beq_iff_eq.mpr ha
 have b0 : (b == 0) = false := beq_eq_false_iff_ne.mpr hb
 have b1 : (b == 1) = false := beq_eq_false_iff_ne.mpr hb1
 have e0 : c.toList.isEmpty = true := List.isEmpty_iff.2 he
 have e1 : (c.toList == ([] : List UInt8)) = true := beq_iff_eq.mpr he
 have n0 : (b != 0) = true := by rw [bne, b0]; rfl
 have n1 : (b != 1) = true := by rw [bne, b1]; rfl
 have e2 : (c.toList != ([] : List UInt8)) = false := by rw [bne, e1]; rfl
 clear ha hb hb1 he
 go_enter Try.func19, Try.ntmps19
 go_wp2
 go_ret
 exact ⟨rfl, by repeat (first | exact Below.refl _ _ | refine Below.setCell ?_ (Nat.le_refl _) _ | refine Below.setCell ?_ (Nat.le_succ _) _ | apply below_alloc)⟩
set_option maxHeartbeats 2000000 in
set_option maxRecDepth 100000 in
theorem quarryref01_Check.t6 (a b : Int) (c : ByteArray) (w : World) (ha : a = 1) (hb : ¬ b = 0) (hb1 : ¬ b = 1) (he : ¬ c.toList = []) :
  Calls Try.prog 19 #[.agg #[.int .i64 a, .int .i64 b, .string c]] w fun e w' => e = .returned (.int .i64 3) ∧ Below w.heap.size w w' := by
 have lo : decide (a < 0) = false := decide_eq_false (by omega)
 have hi : decide (4 < a) = false := decide_eq_false (by omega)
 have hu38 := Try.underlying32
 have k0 : (a == 0) = false := beq_eq_false_iff_ne.mpr (by omega)
 have k1 : (a == 1) = true := beq_iff_eq.mpr ha
 have b0 : (b == 0) = false := beq_eq_false_iff_ne.mpr hb
 have b1 : (b == 1) = false := beq_eq_false_iff_ne.mpr hb1
 have e0 : c.toList.isEmpty = false := by cases h : c.toList with | nil => exact absurd h he | cons => rfl
 have e1 : (c.toList == ([] : List UInt8)) = false := beq_eq_false_iff_ne.mpr he
 have n0 : (b != 0) = true := by rw [bne, b0]; rfl
 have n1 : (b != 1) = true := by rw [bne, b1]; rfl
 have e2 : (c.toList != ([] : List UInt8)) = true := by rw [bne, e1]; rfl
 clear ha hb hb1 he
 go_enter Try.func19, Try.ntmps19
 go_wp2
 go_ret
 exact ⟨rfl, by repeat (first | exact Below.refl _ _ | refine Below.setCell ?_ (Nat.le_refl _) _ | refine Below.setCell ?_ (Nat.le_succ _) _ | apply below_alloc)⟩
set_option maxHeartbeats 2000000 in
set_option maxRecDepth 100000 in
theorem quarryref01_Check.n1 (a b : Int) (c : ByteArray) (w : World) (ha : a = 2) (he : c.toList = []) :
  Calls Try.prog 19 #[.agg #[.int .i64 a, .int .i64 b, .string c]] w fun e w' => e = .returned (.int .i64 0) ∧ Below w.heap.size w w' := by
 have lo : decide (a < 0) = false := decide_eq_false (by omega)
 have hi : decide (4 < a) = false := decide_eq_false (by omega)
 have hu38 := Try.underlying32
 have k0 : (a == 0) = false := beq_eq_false_iff_ne.mpr (by omega)
 have k1 : (a == 1) = false := beq_eq_false_iff_ne.mpr (by omega)
 have k2 : (a == 2) = true := beq_iff_eq.mpr ha
 have e0 : c.toList.isEmpty = true := List.isEmpty_iff.2 he
 have e1 : (c.toList == ([] : List UInt8)) = true := beq_iff_eq.mpr he
 have e2 : (c.toList != ([] : List UInt8)) = false := by rw [bne, e1]; rfl
 clear ha he
 go_enter Try.func19, Try.ntmps19
 go_wp2
 go_ret
 exact ⟨rfl, by repeat (first | exact Below.refl _ _ | refine Below.setCell ?_ (Nat.le_refl _) _ | refine Below.setCell ?_ (Nat.le_succ _) _ | apply below_alloc)⟩
set_option maxHeartbeats 2000000 in
set_option maxRecDepth 100000 in
theorem quarryref01_Check.n2 (a b : Int) (c : ByteArray) (w : World) (ha : a = 2) (he : ¬ c.toList = []) :
  Calls Try.prog 19 #[.agg #[.int .i64 a, .int .i64 b, .string c]] w fun e w' => e = .returned (.int .i64 3) ∧ Below w.heap.size w w' := by
 have lo : decide (a < 0) = false := decide_eq_false (by omega)
 have hi : decide (4 < a) = false := decide_eq_false (by omega)
 have hu38 := Try.underlying32
 have k0 : (a == 0) = false := beq_eq_false_iff_ne.mpr (by omega)
 have k1 : (a == 1) = false := beq_eq_false_iff_ne.mpr (by omega)
 have k2 : (a == 2) = true := beq_iff_eq.mpr ha
 have e0 : c.toList.isEmpty = false := by cases h : c.toList with | nil => exact absurd h he | cons => rfl
 have e1 : (c.toList == ([] : List UInt8)) = false := beq_eq_false_iff_ne.mpr he
 have e2 : (c.toList != ([] : List UInt8)) = true := by rw [bne, e1]; rfl
 clear ha he
 go_enter Try.func19, Try.ntmps19
 go_wp2
 go_ret
 exact ⟨rfl, by repeat (first | exact Below.refl _ _ | refine Below.setCell ?_ (Nat.le_refl _) _ | refine Below.setCell ?_ (Nat.le_succ _) _ | apply below_alloc)⟩
set_option maxHeartbeats 2000000 in
set_option maxRecDepth 100000 in
theorem quarryref01_Check.x1 (a b : Int) (c : ByteArray) (w : World) (ha : a = 3) (hb : b = 0) :
  Calls Try.prog 19 #[.agg #[.int .i64 a, .int .i64 b, .string c]] w fun e w' => e = .returned (.int .i64 0) ∧ Below w.heap.size w w' := by
 have lo : decide (a < 0) = false := decide_eq_false (by omega)
 have hi : decide (4 < a) = false := decide_eq_false (by omega)
 have hu38 := Try.underlying32
 have k0 : (a == 0) = false := beq_eq_false_iff_ne.mpr (by omega)
 have k1 : (a == 1) = false := beq_eq_false_iff_ne.mpr (by omega)
 have k2 : (a == 2) = false := beq_eq_false_iff_ne.mpr (by omega)
 have k3 : (a == 3) = true := beq_iff_eq.mpr ha
 have b0 : (b == 0) = true := beq_iff_eq.mpr hb
 have b1 : (b == 1) = false := beq_eq_false_iff_ne.mpr (by omega)
 have n0 : (b != 0) = false := by rw [bne, b0]; rfl
 have n1 : (b != 1) = true := by rw [bne, b1]; rfl
 clear ha hb
 go_enter Try.func19, Try.ntmps19
 go_wp2
 go_ret
 exact ⟨rfl, by repeat (first | exact Below.refl _ _ | refine Below.setCell ?_ (Nat.le_refl _) _ | refine Below.setCell ?_ (Nat.le_succ _) _ | apply below_alloc)⟩
set_option maxHeartbeats 2000000 in
set_option maxRecDepth 100000 in
theorem quarryref01_Check.x2 (a b : Int) (c : ByteArray) (w : World) (ha : a = 3) (hb : ¬ b = 0) :
  Calls Try.prog 19 #[.agg #[.int .i64 a, .int .i64 b, .string c]] w fun e w' => e = .returned (.int .i64 3) ∧ Below w.heap.size w w' := by
 have lo : decide (a < 0) = false := decide_eq_false (by omega)
 have hi : decide (4 < a) = false := decide_eq_false (by omega)
 have hu38 := Try.underlying32
 have k0 : (a == 0) = false := beq_eq_false_iff_ne.mpr (by omega)
 have k1 : (a == 1) = false := beq_eq_false_iff_ne.mpr (by omega)
 have k2 : (a == 2) = false := beq_eq_false_iff_ne.mpr (by omega)
 have k3 : (a == 3) = true := beq_iff_eq.mpr ha
 have b0 : (b == 0) = false := beq_eq_false_iff_ne.mpr hb
 have n0 : (b != 0) = true := by rw [bne, b0]; rfl
 clear ha hb
 go_enter Try.func19, Try.ntmps19
 go_wp2
 go_ret
 exact ⟨rfl, by repeat (first | exact Below.refl _ _ | refine Below.setCell ?_ (Nat.le_refl _) _ | refine Below.setCell ?_ (Nat.le_succ _) _ | apply below_alloc)⟩
set_option maxHeartbeats 2000000 in
set_option maxRecDepth 100000 in
theorem quarryref01_Check.y1 (a b : Int) (c : ByteArray) (w : World) (ha : a = 4) (hb : b = 0) :
  Calls Try.prog 19 #[.agg #[.int .i64 a, .int .i64 b, .string c]] w fun e w' => e = .returned (.int .i64 0) ∧ Below w.heap.size w w' := by
 have lo : decide (a < 0) = false := decide_eq_false (by omega)
 have hi : decide (4 < a) = false := decide_eq_false (by omega)
 have hu38 := Try.underlying32
 have k0 : (a == 0) = false := beq_eq_false_iff_ne.mpr (by omega)
 have k1 : (a == 1) = false := beq_eq_false_iff_ne.mpr (by omega)
 have k2 : (a == 2) = false := beq_eq_false_iff_ne.mpr (by omega)
 have k3 : (a == 3) = false := beq_eq_false_iff_ne.mpr (by omega)
 have k4 : (a == 4) = true := beq_iff_eq.mpr ha
 have b0 : (b == 0) = true := beq_iff_eq.mpr hb
 have b1 : (b == 1) = false := beq_eq_false_iff_ne.mpr (by omega)
 have n0 : (b != 0) = false := by rw [bne, b0]; rfl
 have n1 : (b != 1) = true := by rw [bne, b1]; rfl
 clear ha hb
 go_enter Try.func19, Try.ntmps19
 go_wp2
 go_ret
 exact ⟨rfl, by repeat (first | exact Below.refl _ _ | refine Below.setCell ?_ (Nat.le_refl _) _ | refine Below.setCell ?_ (Nat.le_succ _) _ | apply below_alloc)⟩
set_option maxHeartbeats 2000000 in
set_option maxRecDepth 100000 in
theorem quarryref01_Check.y2 (a b : Int) (c : ByteArray) (w : World) (ha : a = 4) (hb : ¬ b = 0) :
  Calls Try.prog 19 #[.agg #[.int .i64 a, .int .i64 b, .string c]] w fun e w' => e = .returned (.int .i64 3) ∧ Below w.heap.size w w' := by
 have lo : decide (a < 0) = false := decide_eq_false (by omega)
 have hi : decide (4 < a) = false := decide_eq_false (by omega)
 have hu38 := Try.underlying32
 have k0 : (a == 0) = false := beq_eq_false_iff_ne.mpr (by omega)
 have k1 : (a == 1) = false := beq_eq_false_iff_ne.mpr (by omega)
 have k2 : (a == 2) = false := beq_eq_false_iff_ne.mpr (by omega)
 have k3 : (a == 3) = false := beq_eq_false_iff_ne.mpr (by omega)
 have k4 : (a == 4) = true := beq_iff_eq.mpr ha
 have b0 : (b == 0) = false := beq_eq_false_iff_ne.mpr hb
 have n0 : (b != 0) = true := by rw [bne, b0]; rfl
 clear ha hb
 go_enter Try.func19, Try.ntmps19
 go_wp2
 go_ret
 exact ⟨rfl, by repeat (first | exact Below.refl _ _ | refine Below.setCell ?_ (Nat.le_refl _) _ | refine Below.setCell ?_ (Nat.le_succ _) _ | apply below_alloc)⟩
set_option maxHeartbeats 2000000 in
set_option maxRecDepth 100000 in
theorem quarryref01_Check.o1 (a b : Int) (c : ByteArray) (w : World) (lt : a < 0) (h0 : ¬ a = 0) (h1 : ¬ a = 1) (h2 : ¬ a = 2) (h3 : ¬ a = 3) (h4 : ¬ a = 4) :
  Calls Try.prog 19 #[.agg #[.int .i64 a, .int .i64 b, .string c]] w fun e w' => e = .returned (.int .i64 5) ∧ Below w.heap.size w w' := by
 have lo : decide (a < 0) = true := decide_eq_true lt
 have hu38 := Try.underlying32
 have k0 : (a == 0) = false := beq_eq_false_iff_ne.mpr h0
 have k1 : (a == 1) = false := beq_eq_false_iff_ne.mpr h1
 have k2 : (a == 2) = false := beq_eq_false_iff_ne.mpr h2
 have k3 : (a == 3) = false := beq_eq_false_iff_ne.mpr h3
 have k4 : (a == 4) = false := beq_eq_false_iff_ne.mpr h4
 clear lt h0 h1 h2 h3 h4
 go_enter Try.func19, Try.ntmps19
 go_wp2
 go_ret
 exact ⟨rfl, by repeat (first | exact Below.refl _ _ | refine Below.setCell ?_ (Nat.le_refl _) _ | refine Below.setCell ?_ (Nat.le_succ _) _ | apply below_alloc)⟩
set_option maxHeartbeats 2000000 in
set_option maxRecDepth 100000 in
theorem quarryref01_Check.o2 (a b : Int) (c : ByteArray) (w : World) (lt : 4 < a) (h0 : ¬ a = 0) (h1 : ¬ a = 1) (h2 : ¬ a = 2) (h3 : ¬ a = 3) (h4 : ¬ a = 4) :
  Calls Try.prog 19 #[.agg #[.int .i64 a, .int .i64 b, .string c]] w fun e w' => e = .returned (.int .i64 5) ∧ Below w.heap.size w w' := by
 have lo : decide (a < 0) = false := decide_eq_false (by omega)
 have hi : decide (4 < a) = true := decide_eq_true lt
 have hu38 := Try.underlying32
 have k0 : (a == 0) = false := beq_eq_false_iff_ne.mpr h0
 have k1 : (a == 1) = false := beq_eq_false_iff_ne.mpr h1
 have k2 : (a == 2) = false := beq_eq_false_iff_ne.mpr h2
 have k3 : (a == 3) = false := beq_eq_false_iff_ne.mpr h3
 have k4 : (a == 4) = false := beq_eq_false_iff_ne.mpr h4
 clear lt h0 h1 h2 h3 h4
 go_enter Try.func19, Try.ntmps19
 go_wp2
 go_ret
 exact ⟨rfl, by repeat (first | exact Below.refl _ _ | refine Below.setCell ?_ (Nat.le_refl _) _ | refine Below.setCell ?_ (Nat.le_succ _) _ | apply below_alloc)⟩
theorem quarryref01_Check.calls (a0_0 : Int) (a0_1 : Int) (a0_2 : ByteArray) (r : Int) (w : World) (h : quarryref01_Check.f a0_0 a0_1 a0_2 = some r) :
  Calls Try.prog 19 #[.agg #[.int .i64 a0_0, .int .i64 a0_1, .string a0_2]] w fun e w' => e = .returned (.int .i64 r) ∧ Below w.heap.size w w' := by
 obtain rfl : chkR a0_0 a0_1 a0_2 = r := Option.some.inj h
 clear h
 unfold chkR
 by_cases h0 : a0_0 = 0
 ·rw [if_pos h0]
  by_cases hb : a0_1 = 0
  ·by_cases he : a0_2.toList = []
   ·rw [if_pos ⟨hb, he⟩]; exact quarryref01_Check.z1 _ _ _ w h0 hb he
   ·rw [if_neg (fun h => he h.2)]; exact quarryref01_Check.z2 _ _ _ w h0 hb he
  ·rw [if_neg (fun h => hb h.1)]; exact quarryref01_Check.z3 _ _ _ w h0 hb
 rw [if_neg h0]
 by_cases h1 : a0_0 = 1
 ·rw [if_pos h1]
  by_cases he : a0_2.toList = []
  ·by_cases hb : a0_1 = 1
   ·rw [if_pos ⟨.inr hb, he⟩]; exact quarryref01_Check.t1 _ _ _ w h1 hb he
   ·by_cases hb0 : a0_1 = 0
    ·rw [if_pos ⟨.inl hb0, he⟩]; exact quarryref01_Check.t3 _ _ _ w h1 hb0 he
    ·rw [if_neg (fun h => h.1.elim hb0 hb)]; exact quarryref01_Check.t5 _ _ _ w h1 hb0 hb he
  ·rw [if_neg (fun h => he h.2)]
   by_cases hb : a0_1 = 1
   ·exact quarryref01_Check.t2 _ _ _ w h1 hb he
   ·by_cases hb0 : a0_1 = 0
    ·exact quarryref01_Check.t4 _ _ _ w h1 hb0 he
    ·exact quarryref01_Check.t6 _ _ _ w h1 hb0 hb he
 rw [if_neg h1]
 by_cases h2 : a0_0 = 2
 ·rw [if_pos h2]
  by_cases he : a0_2.toList = []
  ·rw [if_pos he]; exact quarryref01_Check.n1 _ _ _ w h2 he
  ·rw [if_neg he]; exact quarryref01_Check.n2 _ _ _ w h2 he
 rw [if_neg h2]
 by_cases h3 : a0_0 = 3
 ·rw [if_pos (.inl h3)]
  by_cases hb : a0_1 = 0
  ·rw [if_pos hb]; exact quarryref01_Check.x1 _ _ _ w h3 hb
  ·rw [if_neg hb]; exact quarryref01_Check.x2 _ _ _ w h3 hb
 by_cases h4 : a0_0 = 4
 ·rw [if_pos (.inr h4)]
  by_cases hb : a0_1 = 0
  ·rw [if_pos hb]; exact quarryref01_Check.y1 _ _ _ w h4 hb
  ·rw [if_neg hb]; exact quarryref01_Check.y2 _ _ _ w h4 hb
 rw [if_neg (by omega)]
 by_cases hn : a0_0 < 0
 ·exact quarryref01_Check.o1 _ _ _ w hn h0 h1 h2 h3 h4
 ·exact quarryref01_Check.o2 _ _ _ w (by omega) h0 h1 h2 h3 h4
def quarrylaw17_right.l0 : Nat → List (S32) → Int → Option (Bool)
 | 0, _, _ => none
 | k + 1, x0, x3 => if x3 < (x0.length : Int) then (if 0 ≤ x3 then ((quarryref01_Check.f ((rd_T32 x0 x3).f0) ((rd_T32 x0 x3).f1) ((rd_T32 x0 x3).f2)).bind fun t129 => (if t129 = 0 then (quarrylaw17_right.l0 k x0 (wrap64 (x3 + 1))) else (some false))) else (none)) else (some (decide ((x0.length : Int) ≤ 300)))
def quarrylaw17_right.f (k : Nat) (l0 : List (S32)) : Option (Bool) := quarrylaw17_right.l0 k l0 0
set_option maxHeartbeats 8000000 in
set_option maxRecDepth 100000 in
theorem quarrylaw17_right.calls (k : Nat) (A0 : Option Addr) (c0 : Nat) (l0 : List (S32)) (r : Bool) (w : World) (hr0 : Kd.C k32 w A0 l0.length l0) (hc0 : l0.length ≤ c0) (h : quarrylaw17_right.f k l0 = some r) :
  Calls Try.prog 10 #[.slice A0 l0.length c0] w fun e w' => e = .returned (.bool r) ∧ Below w.heap.size w w' := by
 have hu32 := Try.underlying32
 have HR0 := Aside0.mk hr0
 have HC0 := Aside0.mk hc0
 clear hr0 hc0
 have HB := Aside0.mk (Below.refl w.heap.size w)
 have H : (quarrylaw17_right.l0 k l0 0) = some r := h
 clear h
 have H' := Aside0.mk H
 clear H
 go_enter Try.func10, Try.ntmps10
 go_wp2
 go_loopg [3] k (fun kq v3 w' => ∃ (x3_1 : Int), v3 = .int .i64 x3_1 ∧ Aside0 (quarrylaw17_right.l0 kq l0 x3_1 = some r) ∧ Aside0 (kq ≤ k) ∧ Aside0 (Below w.heap.size w w'))
 case atStart => exact ⟨(0), (by first | rfl | (simp; done) | (simp [*]; done)), H', ⟨Nat.le_refl _⟩, ⟨by repeat (first | (with_reducible first | exact HB.out | apply below_alloc | apply pw_below_drewN | apply below_drew1) | exact HB.out)⟩⟩
 case round =>
  clear H'
  try clear c1
  obtain ⟨x3_1, rfl, HA, HK1, HB⟩ := hrel
  cases gk with
  | zero => exact absurd HA.out (by simp [quarrylaw17_right.l0])
  | succ k1 =>
   have H := HA.out
   clear HA
   simp only [quarrylaw17_right.l0] at H
   by_cases c2 : x3_1 < (l0.length : Int)
   ·rw [if_pos c2] at H
    have c2b0 : decide (x3_1 < (l0.length : Int)) = true := decide_eq_true c2
    clear c2
    by_cases c3 : 0 ≤ x3_1
    ·rw [if_pos c3] at H
     have c3b0 : decide (0 ≤ x3_1) = true := decide_eq_true c3
     clear c3
     replace H := Option.bind_eq_some_iff.mp H
     obtain ⟨t129, A40, H⟩ := H
     replace H : (if t129 = 0 then (quarrylaw17_right.l0 k1 l0 (wrap64 (x3_1 + 1))) else (some false)) = some r := H
     have A4 := Aside0.mk A40
     clear A40
     by_cases c5 : t129 = 0
     ·rw [if_pos c5] at H
      have c5b0 : (t129 == 0) = true := beq_iff_eq.mpr c5
      have c5b1 : (t129 != 0) = false := bne_eq_false_iff_eq.mpr c5
      clear c5
      have H' := Aside0.mk H
      clear H
      have p128 : 0 ≤ (x3_1 : Int) := of_decide_eq_true (by first | (with_reducible assumption) | assumption)
      have q128 : x3_1 < (l0.length : Int) := of_decide_eq_true (by first | (with_reducible assumption) | assumption)
      obtain ⟨ad128, e128, hx128_0, hx128_1, hx128_2⟩ := at_T32 HR0.out x3_1 p128 q128
      cases e128
      replace hx128_0 := (HB.out.cell (World.block_lt_of_cell? w _ hx128_0)).trans hx128_0
      replace hx128_1 := (HB.out.cell (World.block_lt_of_cell? w _ hx128_1)).trans hx128_1
      replace hx128_2 := (HB.out.cell (World.block_lt_of_cell? w _ hx128_2)).trans hx128_2
      replace p128 := eq_true p128
      replace q128 := eq_true q128
      go_wp2_with (first | ((with_reducible refine gate_callee (f := 19) rfl ?_); refine goesL_ (some 14) rfl rfl Try.func19 (by kernel_rfl) rfl #[.agg #[.int .i64 ((rd_T32 l0 x3_1).f0), .int .i64 ((rd_T32 l0 x3_1).f1), .string ((rd_T32 l0 x3_1).f2)]] rfl (by (try simp only [List.map_toArray, List.map_cons, List.map_nil]); first | done | rfl | (simp only [List.length_drop, List.length_take]; rfl)) ?_; (with_reducible refine (quarryref01_Check.calls ((rd_T32 l0 x3_1).f0) ((rd_T32 l0 x3_1).f1) ((rd_T32 l0 x3_1).f2) t129 _ A4.out).mono ?_); rintro e w6 ⟨rfl, hb⟩; refine ⟨_, rfl, ?_⟩; have n0_ := Aside0.mk (below_step (by repeat (first | (with_reducible first | exact HB.out | apply below_alloc | apply pw_below_drewN | apply below_drew1) | exact HB.out)) hb); clear HB; have HB := n0_; clear n0_; (try clear hb); (try clear hb2); (try clear hk); (try clear hi)))
      go_roundg k1
      case measure => have := HK1.out; omega
      case rel => exact ⟨(wrap64 (x3_1 + 1)), (by first | rfl | (simp; done) | (simp [*]; done)), H', ⟨by have := HK1.out; omega⟩, ⟨by repeat (first | (with_reducible first | exact HB.out | apply below_alloc | apply pw_below_drewN | apply below_drew1) | exact HB.out)⟩⟩
     ·rw [if_neg c5] at H
      have c5b0 : (t129 == 0) = false := beq_eq_false_iff_ne.mpr c5
      have c5b1 : (t129 != 0) = true := bne_iff_ne.mpr c5
      obtain rfl := Option.some.inj H
      have p128 : 0 ≤ (x3_1 : Int) := of_decide_eq_true (by first | (with_reducible assumption) | assumption)
      have q128 : x3_1 < (l0.length : Int) := of_decide_eq_true (by first | (with_reducible assumption) | assumption)
      obtain ⟨ad128, e128, hx128_0, hx128_1, hx128_2⟩ := at_T32 HR0.out x3_1 p128 q128
      cases e128
      replace hx128_0 := (HB.out.cell (World.block_lt_of_cell? w _ hx128_0)).trans hx128_0
      replace hx128_1 := (HB.out.cell (World.block_lt_of_cell? w _ hx128_1)).trans hx128_1
      replace hx128_2 := (HB.out.cell (World.block_lt_of_cell? w _ hx128_2)).trans hx128_2
      replace p128 := eq_true p128
      replace q128 := eq_true q128
      go_wp2_with (first | ((with_reducible refine gate_callee (f := 19) rfl ?_); refine goesL_ (some 14) rfl rfl Try.func19 (by kernel_rfl) rfl #[.agg #[.int .i64 ((rd_T32 l0 x3_1).f0), .int .i64 ((rd_T32 l0 x3_1).f1), .string ((rd_T32 l0 x3_1).f2)]] rfl (by (try simp only [List.map_toArray, List.map_cons, List.map_nil]); first | done | rfl | (simp only [List.length_drop, List.length_take]; rfl)) ?_; (with_reducible refine (quarryref01_Check.calls ((rd_T32 l0 x3_1).f0) ((rd_T32 l0 x3_1).f1) ((rd_T32 l0 x3_1).f2) t129 _ A4.out).mono ?_); rintro e w7 ⟨rfl, hb⟩; refine ⟨_, rfl, ?_⟩; have n0_ := Aside0.mk (below_step (by repeat (first | (with_reducible first | exact HB.out | apply below_alloc | apply pw_below_drewN | apply below_drew1) | exact HB.out)) hb); clear HB; have HB := n0_; clear n0_; (try clear hb); (try clear hb2); (try clear hk); (try clear hi)))
      go_ret
      exact ⟨by first | rfl | (simp [errW_none, errW_some] <;> rfl) | (simp [*, errW_none, errW_some] <;> rfl), by repeat (first | (with_reducible first | exact HB.out | apply below_alloc | apply pw_below_drewN | apply below_drew1) | exact HB.out)⟩
    ·rw [if_neg c3] at H
     exact absurd H (by simp)
   ·rw [if_neg c2] at H
    have c2b0 : decide (x3_1 < (l0.length : Int)) = false := decide_eq_false c2
    clear c2
    obtain rfl := Option.some.inj H
    go_wp2
    go_ret
    exact ⟨by first | rfl | (simp [errW_none, errW_some] <;> rfl) | (simp [*, errW_none, errW_some] <;> rfl), by repeat (first | (with_reducible first | exact HB.out | apply below_alloc | apply pw_below_drewN | apply below_drew1) | exact HB.out)⟩
end Go.Proofs.Ytgjfciohmgpohaa.P
end
section
namespace Go.Proofs.Ytgjfciohmgpohaa.P
open Go.RowKit Go.Proofs.YtgjfciohmgpohaaW.PrintWords Go.Proofs.YtgjfciohmgpohaaW.PrintLast Go.Proofs.YtgjfciohmgpohaaW.PrintMore
attribute [local go_sem] max2_int min2_int max_two min_two max_three min_three max_four min_four
set_option linter.unusedVariables false
set_option linter.unusedSimpArgs false
attribute [local go_sem high] eqA32
def quarrylaw17_AggOrder.l0 : Nat → Int → List (S32) → List Int → List (S32) → Int → Option (Bool)
 | 0, _, _, _, _, _ => none
 | k + 1, x0, x1, x2, x7, x8 => if (wrap64 (x8 + 1)) < (x2.length : Int) then (if (x7.length : Int) > 0 then (if 0 ≤ x8 then (if x8 < (x2.length : Int) then (if (IntKind.u64.wrap ((x7.length : Int))) = 0 then (none) else (if 0 ≤ (wrap64 (x8 + 1)) then (if 0 ≤ (wrap64 (Int.tmod (IntKind.u64.wrap (rd x2 (wrap64 (x8 + 1)))) (IntKind.u64.wrap ((x7.length : Int))))) then (if (wrap64 (Int.tmod (IntKind.u64.wrap (rd x2 (wrap64 (x8 + 1)))) (IntKind.u64.wrap ((x7.length : Int))))) < (x7.length : Int) then (if 0 ≤ (wrap64 (Int.tmod (IntKind.u64.wrap (rd x2 x8)) (IntKind.u64.wrap ((x7.length : Int))))) then (if (wrap64 (Int.tmod (IntKind.u64.wrap (rd x2 x8)) (IntKind.u64.wrap ((x7.length : Int))))) < (x7.length : Int) then (quarrylaw17_AggOrder.l0 k x0 x1 x2 ((x7.set ((wrap64 (Int.tmod (IntKind.u64.wrap (rd x2 x8)) (IntKind.u64.wrap ((x7.length : Int))))) : Int).toNat (⟨(rd_T32 x7 (wrap64 (Int.tmod (IntKind.u64.wrap (rd x2 (wrap64 (x8 + 1)))) (IntKind.u64.wrap ((x7.length : Int)))))).f0, (rd_T32 x7 (wrap64 (Int.tmod (IntKind.u64.wrap (rd x2 (wrap64 (x8 + 1)))) (IntKind.u64.wrap ((x7.length : Int)))))).f1, (rd_T32 x7 (wrap64 (Int.tmod (IntKind.u64.wrap (rd x2 (wrap64 (x8 + 1)))) (IntKind.u64.wrap ((x7.length : Int)))))).f2⟩ : S32)).set ((wrap64 (Int.tmod (IntKind.u64.wrap (rd x2 (wrap64 (x8 + 1)))) (IntKind.u64.wrap ((x7.length : Int))))) : Int).toNat (⟨(rd_T32 x7 (wrap64 (Int.tmod (IntKind.u64.wrap (rd x2 x8)) (IntKind.u64.wrap ((x7.length : Int)))))).f0, (rd_T32 x7 (wrap64 (Int.tmod (IntKind.u64.wrap (rd x2 x8)) (IntKind.u64.wrap ((x7.length : Int)))))).f1, (rd_T32 x7 (wrap64 (Int.tmod (IntKind.u64.wrap (rd x2 x8)) (IntKind.u64.wrap ((x7.length : Int)))))).f2⟩ : S32)) (wrap64 (x8 + 2))) else (none)) else (none)) else (none)) else (none)) else (none))) else (none)) else (none)) else ((quarrylaw17_gathered.f (wrap64 (1 + (wrap64 (Int.tmod (IntKind.u64.wrap (x0)) 4)))) x1).bind fun bt205 => ((quarrylaw17_gathered.f (wrap64 (1 + (wrap64 (Int.tmod (IntKind.u64.wrap (x0)) 4)))) x7).bind fun bt210 => (if bt205.2.2.2 = true then (if bt210.2.2.2 = true then (some (bt205.1 == bt210.1 && (bt205.2.1 == bt210.2.1 && (bt205.2.2.1.toList == bt210.2.2.1.toList)))) else (some true)) else (some true))))) else ((quarrylaw17_gathered.f (wrap64 (1 + (wrap64 (Int.tmod (IntKind.u64.wrap (x0)) 4)))) x1).bind fun bt215 => ((quarrylaw17_gathered.f (wrap64 (1 + (wrap64 (Int.tmod (IntKind.u64.wrap (x0)) 4)))) x7).bind fun bt220 => (if bt215.2.2.2 = true then (if bt220.2.2.2 = true then (some (bt215.1 == bt220.1 && (bt215.2.1 == bt220.2.1 && (bt215.2.2.1.toList == bt220.2.2.1.toList)))) else (some true)) else (some true))))
def quarrylaw17_AggOrder.f (k : Nat) (a0 : Int) (l1 : List (S32)) (l2 : List Int) : Option (Bool) := (quarrylaw17_works.f).bind fun t191 => (if t191 = true then ((quarrylaw17_right.f k l1).bind fun t192 => (if t192 = true then ((some (([] : List (S32)) : List (S32))).bind fun y193 => (if y193.length + l1.length < 4398046511104 then (quarrylaw17_AggOrder.l0 k a0 l1 l2 (y193 ++ l1) 0) else (none))) else (some true))) else (none))
def quarrylaw17_AggOrder.T9 : Bool × List (List Nat × List Nat) := (true, [([], []), ([], []), ([0, 1], [0, 1]), ([2], [2]), ([3], [3]), ([], []), ([5], [5]), ([6], [6]), ([4, 7], [4, 7]), ([8], [8]), ([], []), ([], []), ([11], [11]), ([10, 12], [10, 12]), ([13], [13]), ([14], [14]), ([], []), ([16], [16]), ([17], [17]), ([15, 18], [15, 18]), ([19], [19]), ([9, 0, 1, 2, 3, 4, 5, 6, 7, 8, 9], [9]), ([20, 21, 0, 1, 2, 3, 4, 5, 6, 7, 8, 9, 10, 11, 12, 13, 14, 15, 16, 17, 18, 19, 20, 21], [20])])
def quarrylaw17_AggOrder.B9 : List Nat := [0, 0, 3, 7, 15, 0, 32, 96, 255, 511, 0, 0, 2048, 7168, 15360, 31744, 0, 65536, 196608, 523264, 1047552, 1023, 4194303]
theorem quarrylaw17_AggOrder.tab9 : rtab .any (opsOf Try.f4 9) = quarrylaw17_AggOrder.T9 := by kernel_rfl
theorem quarrylaw17_AggOrder.bits9 : waitsOk quarrylaw17_AggOrder.T9.2 quarrylaw17_AggOrder.B9 = true := by kernel_rfl
def quarrylaw17_AggOrder.T10 : Bool × List (List Nat × List Nat) := (true, [([], []), ([], []), ([], []), ([], []), ([], []), ([], []), ([4, 5], [4, 5]), ([6], [6]), ([], []), ([], []), ([8, 9], [8, 9]), ([10], [10]), ([0, 1, 0, 1, 4, 5, 6, 7, 11], [0, 1]), ([12, 7, 0, 1, 4, 5, 6, 7, 11], [7, 12]), ([2, 3, 0, 1, 2, 3, 4, 5, 6, 7, 8, 9, 10, 11, 12, 13], [2, 3]), ([14, 11, 13, 0, 1, 2, 3, 4, 5, 6, 7, 8, 9, 10, 11, 12, 13], [11, 14])])
def quarrylaw17_AggOrder.B10 : List Nat := [0, 0, 0, 0, 0, 0, 48, 112, 0, 0, 768, 1792, 4083, 8179, 16383, 32767]
theorem quarrylaw17_AggOrder.tab10 : rtab .any (opsOf Try.f4 10) = quarrylaw17_AggOrder.T10 := by kernel_rfl
theorem quarrylaw17_AggOrder.bits10 : waitsOk quarrylaw17_AggOrder.T10.2 quarrylaw17_AggOrder.B10 = true := by kernel_rfl
set_option maxHeartbeats 8000000 in
set_option maxRecDepth 100000 in
theorem quarrylaw17_AggOrder.calls (k : Nat) (a0 : Int) (A1 : Option Addr) (c1 : Nat) (l1 : List (S32)) (A2 : Option Addr) (c2 : Nat) (l2 : List Int) (r : Bool) (w : World) (hr1 : Kd.C k32 w A1 l1.length l1) (hc1 : l1.length ≤ c1) (hr2 : Kd.C (Kd.int .i64) w A2 l2.length l2) (hc2 : l2.length ≤ c2) (h : quarrylaw17_AggOrder.f k a0 l1 l2 = some r) :
  Calls Try.prog 4 #[.int .i64 a0, .slice A1 l1.length c1, .slice A2 l2.length c2] w fun e w' => e = .returned (.bool r) ∧ Below w.heap.size w w' := by
 have hu32 := Try.underlying32
 have HR1 := Aside0.mk hr1
 have HC1 := Aside0.mk hc1
 clear hr1 hc1
 have HR2 := Aside0.mk hr2
 have HC2 := Aside0.mk hc2
 clear hr2 hc2
 have HB := Aside0.mk (Below.refl w.heap.size w)
 have H : ((quarrylaw17_works.f).bind fun t191 => (if t191 = true then ((quarrylaw17_right.f k l1).bind fun t192 => (if t192 = true then ((some (([] : List (S32)) : List (S32))).bind fun y193 => (if y193.length + l1.length < 4398046511104 then (quarrylaw17_AggOrder.l0 k a0 l1 l2 (y193 ++ l1) 0) else (none))) else (some true))) else (none))) = some r := h
 clear h
 replace H := Option.bind_eq_some_iff.mp H
 obtain ⟨t191, A40, H⟩ := H
 replace H : (if t191 = true then ((quarrylaw17_right.f k l1).bind fun t192 => (if t192 = true then ((some (([] : List (S32)) : List (S32))).bind fun y193 => (if y193.length + l1.length < 4398046511104 then (quarrylaw17_AggOrder.l0 k a0 l1 l2 (y193 ++ l1) 0) else (none))) else (some true))) else (none)) = some r := H
 have A4 := Aside0.mk A40
 clear A40
 by_cases c5 : t191 = true
 ·subst c5
  have H1 : ((quarrylaw17_right.f k l1).bind fun t192 => (if t192 = true then ((some (([] : List (S32)) : List (S32))).bind fun y193 => (if y193.length + l1.length < 4398046511104 then (quarrylaw17_AggOrder.l0 k a0 l1 l2 (y193 ++ l1) 0) else (none))) else (some true))) = some r := by rw [if_pos rfl] at H; exact H
  clear H
  have H := H1
  clear H1
  replace H := Option.bind_eq_some_iff.mp H
  obtain ⟨t192, A60, H⟩ := H
  replace H : (if t192 = true then ((some (([] : List (S32)) : List (S32))).bind fun y193 => (if y193.length + l1.length < 4398046511104 then (quarrylaw17_AggOrder.l0 k a0 l1 l2 (y193 ++ l1) 0) else (none))) else (some true)) = some r := H
  have A6 := Aside0.mk A60
  clear A60
  by_cases c7 : t192 = true
  ·subst c7
   have H1 : ((some (([] : List (S32)) : List (S32))).bind fun y193 => (if y193.length + l1.length < 4398046511104 then (quarrylaw17_AggOrder.l0 k a0 l1 l2 (y193 ++ l1) 0) else (none))) = some r := by rw [if_pos rfl] at H; exact H
   clear H
   have H := H1
   clear H1
   obtain ⟨y193, hy193⟩ : ∃ y_ : List (S32), y_ = (([] : List (S32))) := ⟨_, rfl⟩
   replace H : (if y193.length + l1.length < 4398046511104 then (quarrylaw17_AggOrder.l0 k a0 l1 l2 (y193 ++ l1) 0) else (none)) = some r := by first | (rw [hy193]; with_reducible exact H) | (have H2_ := (Option.bind_some _ _).symm.trans H; rw [hy193]; with_reducible exact H2_) | (have H2_ := (Option.bind_some _ _).symm.trans H; with_reducible exact H2_) | with_reducible exact H | (rw [hy193]; exact H) | exact H
   have Ny193 := Aside0.mk hy193
   clear hy193
   by_cases c8 : y193.length + l1.length < 4398046511104
   ·rw [if_pos c8] at H
    have LMc8 := Aside0.mk c8
    clear c8
    obtain ⟨y196, hy196⟩ : ∃ y_ : List (S32), y_ = (y193 ++ l1) := ⟨_, rfl⟩
    replace H : (quarrylaw17_AggOrder.l0 k a0 l1 l2 y196 0) = some r := by first | (rw [hy196]; with_reducible exact H) | (have H2_ := (Option.bind_some _ _).symm.trans H; rw [hy196]; with_reducible exact H2_) | (have H2_ := (Option.bind_some _ _).symm.trans H; with_reducible exact H2_) | with_reducible exact H | (rw [hy196]; exact H) | exact H
    have Ny196 := Aside0.mk hy196
    clear hy196
    have H' := Aside0.mk H
    clear H
    go_enter Try.func4, Try.ntmps4
    go_wp2_with (first | ((with_reducible refine gate_callee (f := 15) rfl ?_); refine goesL_ (some 15) rfl rfl Try.func15 (by kernel_rfl) rfl #[] rfl (by (try simp only [List.map_toArray, List.map_cons, List.map_nil]); first | done | rfl | (simp only [List.length_drop, List.length_take]; rfl)) ?_; (with_reducible refine (quarrylaw17_works.calls  true _ A4.out).mono ?_); rintro e w9 ⟨rfl, hb⟩; refine ⟨_, rfl, ?_⟩; have n0_ := Aside0.mk (below_step (by repeat (first | (with_reducible first | exact HB.out | apply below_alloc | apply pw_below_drewN | apply below_drew1) | exact HB.out)) hb); clear HB; have HB := n0_; clear n0_; (try clear hb); (try clear hb2); (try clear hk); (try clear hi)) | ((with_reducible refine gate_callee (f := 10) rfl ?_); refine goesL_ (some 18) rfl rfl Try.func10 (by kernel_rfl) rfl #[.slice A1 l1.length c1] rfl (by (try simp only [List.map_toArray, List.map_cons, List.map_nil]); first | done | rfl | (simp only [List.length_drop, List.length_take]; rfl)) ?_; (with_reducible refine (quarrylaw17_right.calls k _ _ l1 true _ ?side1 ?side2 A6.out).mono ?_); (case side1 => repeat (first | exact (Kd.C_below HR1.out HB.out) | (with_reducible refine Kd.C_alloc ?_ _) | (with_reducible refine Kd.C_drewN ?_ _) | (with_reducible refine Kd.C_drew ?_))); (case side2 => exact HC1.out); rintro e w10 ⟨rfl, hb⟩; refine ⟨_, rfl, ?_⟩; have n0_ := Aside0.mk (below_step (by repeat (first | (with_reducible first | exact HB.out | apply below_alloc | apply pw_below_drewN | apply below_drew1) | exact HB.out)) hb); clear HB; have HB := n0_; clear n0_; (try clear hb); (try clear hb2); (try clear hk); (try clear hi)) | ((with_reducible refine gate_dst (N := 20) rfl ?_); (try (refine gate_guard (by rfl) ?_; dsimp only)); refine Kd.R_lit k32 _ 32 ?hg (N := 20) ?hd (xs := ([] : List (S32))) (inner := []) (ok := fun _ => True) (okp := fun _ => True) ?hr ?hp (fun _ hk => hk) trivial (Below.refl _ _) (Nat.le_refl _) (by simp) ?_; (case hd => rfl); (case hg => rfl); (case hr => first | (go_simp; done) | (go_simp; rfl)); (case hp => exact (Reps.none _ _)); intro v194 w11 ho12 hb hg_ hnew_; clear hg_ hnew_; (first | rw [← Ny193.out] at ho12 | (simp only [Int.reduceToNat] at ho12; rw [← Ny193.out] at ho12)); have n0_ := Aside0.mk (Kd.R_lower ho12 (below_size (by repeat (first | (with_reducible first | exact HB.out | apply below_alloc | apply pw_below_drewN | apply below_drew1) | exact HB.out)))); have n1_ := Aside0.mk (below_step (by repeat (first | (with_reducible first | exact HB.out | apply below_alloc | apply pw_below_drewN | apply below_drew1) | exact HB.out)) hb); clear HB; have HO195 := n0_; have HB := n1_; clear n0_ n1_; clear hb ho12) | ((with_reducible refine gate_builtin (b := .append) (xs := #[.tmp 20, .tmp 21]) rfl ?_); (try (refine gate_guard (by rfl) ?_; dsimp only)); at_builtin; refine Kd.R_append_rows k32 (w0 := w) w.heap.size rfl (.tmp 20) (.tmp 21) 22 32 (.agg #[(.int .i64 0), (.int .i64 0), (.string ⟨#[]⟩)]) 32 rfl Try.underlying22 info32 rfl (by decide) (by omega) v194 y193 l1 _ _ _ (fun _ => True) (fun _ => False) rfl rfl ?aO ?aR (fun _ _ h => h) (fun _ h => h.elim) ?aF ?aB ?aS ?aL ?_; (case aR => repeat (first | exact (Kd.C_below HR1.out HB.out) | (with_reducible refine Kd.C_alloc ?_ _) | (with_reducible refine Kd.C_drewN ?_ _) | (with_reducible refine Kd.C_drew ?_))); (case aB => exact (by repeat (first | (with_reducible first | exact HB.out | apply below_alloc | apply pw_below_drewN | apply below_drew1) | exact HB.out))); (case aF => exact (fun _ _ => trivial)); (case aO => exact (by (with_reducible repeat (first | apply Kd.R_alloc | apply Kd.R_drewN | apply Kd.R_drew)); exact HO195.out)); (case aS => exact (below_size (by repeat (first | (with_reducible first | exact HB.out | apply below_alloc | apply pw_below_drewN | apply below_drew1) | exact HB.out)))); (case aL => have := LMc8.out; omega); intro v197 w13 ho hb hg hat; rw [← Ny196.out] at ho; have n0_ := Aside0.mk (hb); have n1_ := Aside0.mk (ho); clear HB; clear HO195; have HB := n0_; have HO198 := n1_; clear n0_ n1_; clear ho hb hg hat))
    go_loopg [8] k (fun kq v8 w' => ∃ (x7_1 : List (S32)) (x8_1 : Int), v8 = .int .i64 x8_1 ∧ Aside0 (quarrylaw17_AggOrder.l0 kq a0 l1 l2 x7_1 x8_1 = some r) ∧ Aside0 (kq ≤ k) ∧ Aside0 (Kd.R k32 32 w' w.heap.size (fun _ => True) v197 x7_1) ∧ Aside0 (Below w.heap.size w w'))
    case atStart => exact ⟨(y196), (0), (by first | rfl | (simp; done) | (simp [*]; done)), H', ⟨Nat.le_refl _⟩, ⟨by (with_reducible repeat (first | apply Kd.R_alloc | apply Kd.R_drewN | apply Kd.R_drew)); exact HO198.out⟩, ⟨by repeat (first | (with_reducible first | exact HB.out | apply below_alloc | apply pw_below_drewN | apply below_drew1) | exact HB.out)⟩⟩
    case round =>
     clear H'
     try clear c1
     try clear c2
     try clear p2
     try clear c4
     try clear c5
     try clear c7
     try clear c8
     try clear c10
     obtain ⟨x7_1, x8_1, rfl, HA, HK1, HO_7, HB⟩ := hrel
     cases gk with
     | zero => exact absurd HA.out (by simp [quarrylaw17_AggOrder.l0])
     | succ k1 =>
      have H := HA.out
      clear HA
      simp only [quarrylaw17_AggOrder.l0] at H
      by_cases c14 : (wrap64 (x8_1 + 1)) < (l2.length : Int)
      ·rw [if_pos c14] at H
       have c14b0 : decide ((wrap64 (x8_1 + 1)) < (l2.length : Int)) = true := decide_eq_true c14
       clear c14
       by_cases c15 : (x7_1.length : Int) > 0
       ·rw [if_pos c15] at H
        have c15b0 : decide (0 < (x7_1.length : Int)) = true := decide_eq_true c15
        have c15b1 : decide (0 < x7_1.length) = true := decide_eq_true (by omega)
        clear c15
        by_cases c16 : 0 ≤ x8_1
        ·rw [if_pos c16] at H
         have c16b0 : decide (0 ≤ x8_1) = true := decide_eq_true c16
         clear c16
         by_cases c17 : x8_1 < (l2.length : Int)
         ·rw [if_pos c17] at H
          have c17b0 : decide (x8_1 < (l2.length : Int)) = true := decide_eq_true c17
          clear c17
          by_cases c18 : (IntKind.u64.wrap ((x7_1.length : Int))) = 0
          ·rw [if_pos c18] at H
           exact absurd H (by simp)
          ·rw [if_neg c18] at H
           have c18b0 : ((IntKind.u64.wrap ((x7_1.length : Int))) == 0) = false := beq_eq_false_iff_ne.mpr c18
           have c18b1 : ((IntKind.u64.wrap ((x7_1.length : Int))) != 0) = true := bne_iff_ne.mpr c18
           obtain ⟨ji19, hji19⟩ : ∃ j_ : Int, (wrap64 (x8_1 + 1)) = j_ := ⟨_, rfl⟩
           replace H : (if 0 ≤ (ji19) then (if 0 ≤ (wrap64 (Int.tmod (IntKind.u64.wrap (rd l2 (ji19))) (IntKind.u64.wrap ((x7_1.length : Int))))) then (if (wrap64 (Int.tmod (IntKind.u64.wrap (rd l2 (ji19))) (IntKind.u64.wrap ((x7_1.length : Int))))) < (x7_1.length : Int) then (if 0 ≤ (wrap64 (Int.tmod (IntKind.u64.wrap (rd l2 x8_1)) (IntKind.u64.wrap ((x7_1.length : Int))))) then (if (wrap64 (Int.tmod (IntKind.u64.wrap (rd l2 x8_1)) (IntKind.u64.wrap ((x7_1.length : Int))))) < (x7_1.length : Int) then (quarrylaw17_AggOrder.l0 k1 a0 l1 l2 ((x7_1.set ((wrap64 (Int.tmod (IntKind.u64.wrap (rd l2 x8_1)) (IntKind.u64.wrap ((x7_1.length : Int))))) : Int).toNat (⟨(rd_T32 x7_1 (wrap64 (Int.tmod (IntKind.u64.wrap (rd l2 (ji19))) (IntKind.u64.wrap ((x7_1.length : Int)))))).f0, (rd_T32 x7_1 (wrap64 (Int.tmod (IntKind.u64.wrap (rd l2 (ji19))) (IntKind.u64.wrap ((x7_1.length : Int)))))).f1, (rd_T32 x7_1 (wrap64 (Int.tmod (IntKind.u64.wrap (rd l2 (ji19))) (IntKind.u64.wrap ((x7_1.length : Int)))))).f2⟩ : S32)).set ((wrap64 (Int.tmod (IntKind.u64.wrap (rd l2 (ji19))) (IntKind.u64.wrap ((x7_1.length : Int))))) : Int).toNat (⟨(rd_T32 x7_1 (wrap64 (Int.tmod (IntKind.u64.wrap (rd l2 x8_1)) (IntKind.u64.wrap ((x7_1.length : Int)))))).f0, (rd_T32 x7_1 (wrap64 (Int.tmod (IntKind.u64.wrap (rd l2 x8_1)) (IntKind.u64.wrap ((x7_1.length : Int)))))).f1, (rd_T32 x7_1 (wrap64 (Int.tmod (IntKind.u64.wrap (rd l2 x8_1)) (IntKind.u64.wrap ((x7_1.length : Int)))))).f2⟩ : S32)) (wrap64 (x8_1 + 2))) else (none)) else (none)) else (none)) else (none)) else (none)) = some r := by first | (rw [hji19] at H; exact H) | (simp only [hji19] at H ⊢; exact H)
           (try rw [hji19] at c14b0)
           have hji19w : (IntKind.i64.wrap (x8_1 + 1)) = ji19 := (i64_w _).trans hji19
           by_cases c20 : 0 ≤ (ji19)
           ·rw [if_pos c20] at H
            have c20b0 : decide (0 ≤ (ji19)) = true := decide_eq_true c20
            clear c20
            obtain ⟨ji21, hji21⟩ : ∃ j_ : Int, (wrap64 (Int.tmod (IntKind.u64.wrap (rd l2 (ji19))) (IntKind.u64.wrap ((x7_1.length : Int))))) = j_ := ⟨_, rfl⟩
            replace H : (if 0 ≤ (ji21) then (if (ji21) < (x7_1.length : Int) then (if 0 ≤ (wrap64 (Int.tmod (IntKind.u64.wrap (rd l2 x8_1)) (IntKind.u64.wrap ((x7_1.length : Int))))) then (if (wrap64 (Int.tmod (IntKind.u64.wrap (rd l2 x8_1)) (IntKind.u64.wrap ((x7_1.length : Int))))) < (x7_1.length : Int) then (quarrylaw17_AggOrder.l0 k1 a0 l1 l2 ((x7_1.set ((wrap64 (Int.tmod (IntKind.u64.wrap (rd l2 x8_1)) (IntKind.u64.wrap ((x7_1.length : Int))))) : Int).toNat (⟨(rd_T32 x7_1 (ji21)).f0, (rd_T32 x7_1 (ji21)).f1, (rd_T32 x7_1 (ji21)).f2⟩ : S32)).set ((ji21) : Int).toNat (⟨(rd_T32 x7_1 (wrap64 (Int.tmod (IntKind.u64.wrap (rd l2 x8_1)) (IntKind.u64.wrap ((x7_1.length : Int)))))).f0, (rd_T32 x7_1 (wrap64 (Int.tmod (IntKind.u64.wrap (rd l2 x8_1)) (IntKind.u64.wrap ((x7_1.length : Int)))))).f1, (rd_T32 x7_1 (wrap64 (Int.tmod (IntKind.u64.wrap (rd l2 x8_1)) (IntKind.u64.wrap ((x7_1.length : Int)))))).f2⟩ : S32)) (wrap64 (x8_1 + 2))) else (none)) else (none)) else (none)) else (none)) = some r := by first | (rw [hji21] at H; exact H) | (simp only [hji21] at H ⊢; exact H)
            have hji21w : (IntKind.i64.wrap (Int.tmod (IntKind.u64.wrap (rd l2 (ji19))) (IntKind.u64.wrap ((x7_1.length : Int))))) = ji21 := (i64_w _).trans hji21
            by_cases c22 : 0 ≤ (ji21)
            ·rw [if_pos c22] at H
             have c22b0 : decide (0 ≤ (ji21)) = true := decide_eq_true c22
             clear c22
             by_cases c23 : (ji21) < (x7_1.length : Int)
             ·rw [if_pos c23] at H
              have c23b0 : decide ((ji21) < (x7_1.length : Int)) = true := decide_eq_true c23
              clear c23
              obtain ⟨ji24, hji24⟩ : ∃ j_ : Int, (wrap64 (Int.tmod (IntKind.u64.wrap (rd l2 x8_1)) (IntKind.u64.wrap ((x7_1.length : Int))))) = j_ := ⟨_, rfl⟩
              replace H : (if 0 ≤ (ji24) then (if (ji24) < (x7_1.length : Int) then (quarrylaw17_AggOrder.l0 k1 a0 l1 l2 ((x7_1.set ((ji24) : Int).toNat (⟨(rd_T32 x7_1 (ji21)).f0, (rd_T32 x7_1 (ji21)).f1, (rd_T32 x7_1 (ji21)).f2⟩ : S32)).set ((ji21) : Int).toNat (⟨(rd_T32 x7_1 (ji24)).f0, (rd_T32 x7_1 (ji24)).f1, (rd_T32 x7_1 (ji24)).f2⟩ : S32)) (wrap64 (x8_1 + 2))) else (none)) else (none)) = some r := by first | (rw [hji24] at H; exact H) | (simp only [hji24] at H ⊢; exact H)
              have hji24w : (IntKind.i64.wrap (Int.tmod (IntKind.u64.wrap (rd l2 x8_1)) (IntKind.u64.wrap ((x7_1.length : Int))))) = ji24 := (i64_w _).trans hji24
              by_cases c25 : 0 ≤ (ji24)
              ·rw [if_pos c25] at H
               have c25b0 : decide (0 ≤ (ji24)) = true := decide_eq_true c25
               clear c25
               by_cases c26 : (ji24) < (x7_1.length : Int)
               ·rw [if_pos c26] at H
                have c26b0 : decide ((ji24) < (x7_1.length : Int)) = true := decide_eq_true c26
                clear c26
                obtain ⟨y203, hy203⟩ : ∃ y_ : List (S32), y_ = (x7_1.set ((ji24) : Int).toNat (⟨(rd_T32 x7_1 (ji21)).f0, (rd_T32 x7_1 (ji21)).f1, (rd_T32 x7_1 (ji21)).f2⟩ : S32)) := ⟨_, rfl⟩
                replace H : (quarrylaw17_AggOrder.l0 k1 a0 l1 l2 (y203.set ((ji21) : Int).toNat (⟨(rd_T32 x7_1 (ji24)).f0, (rd_T32 x7_1 (ji24)).f1, (rd_T32 x7_1 (ji24)).f2⟩ : S32)) (wrap64 (x8_1 + 2))) = some r := by first | (rw [hy203]; with_reducible exact H) | (have H2_ := (Option.bind_some _ _).symm.trans H; rw [hy203]; with_reducible exact H2_) | (have H2_ := (Option.bind_some _ _).symm.trans H; with_reducible exact H2_) | with_reducible exact H | (rw [hy203]; exact H) | exact H
                have Ny203 := Aside0.mk hy203
                clear hy203
                obtain ⟨y204, hy204⟩ : ∃ y_ : List (S32), y_ = (y203.set ((ji21) : Int).toNat (⟨(rd_T32 x7_1 (ji24)).f0, (rd_T32 x7_1 (ji24)).f1, (rd_T32 x7_1 (ji24)).f2⟩ : S32)) := ⟨_, rfl⟩
                replace H : (quarrylaw17_AggOrder.l0 k1 a0 l1 l2 y204 (wrap64 (x8_1 + 2))) = some r := by first | (rw [hy204]; with_reducible exact H) | (have H2_ := (Option.bind_some _ _).symm.trans H; rw [hy204]; with_reducible exact H2_) | (have H2_ := (Option.bind_some _ _).symm.trans H; with_reducible exact H2_) | with_reducible exact H | (rw [hy204]; exact H) | exact H
                have Ny204 := Aside0.mk hy204
                clear hy204
                have H' := Aside0.mk H
                clear H
                obtain ⟨Ao29, co29, eo29⟩ := Kd.R_slice HO_7.out
                subst eo29
                try go_wp2
                have n0_ := Aside0.mk (Kd.R_drew HO_7.out)
                have n1_ := Aside0.mk (below_drew1 HB.out)
                clear HO_7
                clear HB
                have HO_7 := n0_
                have HB := n1_
                clear n0_ n1_
                have p199 : 0 ≤ (x8_1 : Int) := of_decide_eq_true (by first | (with_reducible assumption) | assumption)
                have q199 : x8_1 < (l2.length : Int) := of_decide_eq_true (by first | (with_reducible assumption) | assumption)
                obtain ⟨ad199, e199, hx199_0⟩ := Kd.at_int HR2.out x8_1 p199 q199
                have hw199_0 := hx199_0
                cases e199
                replace hx199_0 := (HB.out.cell (World.block_lt_of_cell? w _ hx199_0)).trans hx199_0
                replace p199 := eq_true p199
                replace q199 := eq_true q199
                have p200 : 0 ≤ ((ji19) : Int) := of_decide_eq_true (by first | (with_reducible assumption) | assumption)
                have q200 : (ji19) < (l2.length : Int) := of_decide_eq_true (by first | (with_reducible assumption) | assumption)
                obtain ⟨ad200, e200, hx200_0⟩ := Kd.at_int HR2.out (ji19) p200 q200
                have hw200_0 := hx200_0
                obtain rfl : ad199 = ad200 := (by injection e200)
                replace hx200_0 := (HB.out.cell (World.block_lt_of_cell? w _ hx200_0)).trans hx200_0
                replace p200 := eq_true p200
                replace q200 := eq_true q200
                refine start_ (n := 23) (S := fun w' => w'.cell? (ad199.add (x8_1).toNat) = some (.int .i64 (rd l2 x8_1)) ∧ w'.cell? (ad199.add ((ji19)).toNat) = some (.int .i64 (rd l2 (ji19)))) (ds := []) #[false, false, false, false, false, false, false, false, false, false, false, false, false, false, false, false, false, false, false, false, false, false, false] (by kernel_rfl) rfl rfl ⟨((HB.out.cell (World.block_lt_of_cell? w _ hw199_0)).trans hw199_0), ((HB.out.cell (World.block_lt_of_cell? w _ hw200_0)).trans hw200_0)⟩ (fun hHeld => ?_); refine with_tabW quarrylaw17_AggOrder.tab9 quarrylaw17_AggOrder.bits9 (fun HT_ HW_ => ?_)
                generalize wr.drew = w30 at HO_7 HB hx199_0 hx200_0 hHeld ⊢
                refine pure_ (i := 0) (N := some 35) (v := ?_) (a' := ?_) #[true, false, false, false, false, false, false, false, false, false, false, false, false, false, false, false, false, false, false, false, false, false, false] rfl rfl (any_of HT_.out (by kernel_rfl)) (fun _ _ _ h => h) (Or.inl ⟨by rfl, ?_⟩) ?_ ?_
                rotate_left
                ·intro w'
                 go_simp
                 with_reducible rfl
                rotate_left
                ·simp only [Act.put, List.setIfInBounds_toArray, List.set_cons_zero, List.set_cons_succ, i64_w, i32_w]
                 rfl
                refine pure_ (i := 1) (N := some 36) (v := ?_) (a' := ?_) #[true, true, false, false, false, false, false, false, false, false, false, false, false, false, false, false, false, false, false, false, false, false, false] rfl rfl (any_of HT_.out (by kernel_rfl)) (fun _ _ _ h => h) (Or.inl ⟨by rfl, ?_⟩) ?_ ?_
                rotate_left
                ·intro w'
                 go_simp
                 with_reducible rfl
                rotate_left
                ·simp only [Act.put, List.setIfInBounds_toArray, List.set_cons_zero, List.set_cons_succ, i64_w, i32_w]
                 rfl
                refine pure_ (i := 2) (N := some 37) (v := ?_) (a' := ?_) #[true, true, true, false, false, false, false, false, false, false, false, false, false, false, false, false, false, false, false, false, false, false, false] rfl rfl (any_of HT_.out (by kernel_rfl)) (fun _ _ _ h => h) (Or.inl ⟨by rfl, ?_⟩) ?_ ?_
                rotate_left
                ·intro w'
                 go_simp
                 with_reducible rfl
                rotate_left
                ·simp only [Act.put, List.setIfInBounds_toArray, List.set_cons_zero, List.set_cons_succ, i64_w, i32_w]
                 rfl
                refine pure_ (i := 5) (N := some 40) (v := ?_) (a' := ?_) #[true, true, true, false, false, true, false, false, false, false, false, false, false, false, false, false, false, false, false, false, false, false, false] rfl rfl (any_of HT_.out (by kernel_rfl)) (fun _ _ _ h => h) (Or.inl ⟨by rfl, ?_⟩) ?_ ?_
                rotate_left
                ·intro w'
                 go_simp
                 with_reducible rfl
                rotate_left
                ·simp only [Act.put, List.setIfInBounds_toArray, List.set_cons_zero, List.set_cons_succ, i64_w, i32_w]
                 rfl
                refine pure_ (i := 6) (N := some 41) (v := ?_) (a' := ?_) #[true, true, true, false, false, true, true, false, false, false, false, false, false, false, false, false, false, false, false, false, false, false, false] rfl rfl (any_of HT_.out (by kernel_rfl)) (fun _ _ _ h => h) (Or.inl ⟨by rfl, ?_⟩) ?_ ?_
                rotate_left
                ·intro w'
                 go_simp
                 with_reducible rfl
                rotate_left
                ·simp only [Act.put, List.setIfInBounds_toArray, List.set_cons_zero, List.set_cons_succ, i64_w, i32_w]
                 rfl
                refine pure_ (i := 7) (N := some 42) (v := ?_) (a' := ?_) #[true, true, true, false, false, true, true, true, false, false, false, false, false, false, false, false, false, false, false, false, false, false, false] rfl rfl (any_of HT_.out (by kernel_rfl)) (fun _ _ _ h => h) (Or.inl ⟨by rfl, ?_⟩) ?_ ?_
                rotate_left
                ·intro w'
                 go_simp
                 with_reducible rfl
                rotate_left
                ·simp only [Act.put, List.setIfInBounds_toArray, List.set_cons_zero, List.set_cons_succ, i64_w, i32_w]
                 rfl
                refine pure_ (i := 10) (N := some 45) (v := ?_) (a' := ?_) #[true, true, true, false, false, true, true, true, false, false, true, false, false, false, false, false, false, false, false, false, false, false, false] rfl rfl (any_of HT_.out (by kernel_rfl)) (fun _ _ _ h => h) (Or.inl ⟨by rfl, ?_⟩) ?_ ?_
                rotate_left
                ·intro w'
                 go_simp
                 with_reducible rfl
                rotate_left
                ·simp only [Act.put, List.setIfInBounds_toArray, List.set_cons_zero, List.set_cons_succ, i64_w, i32_w]
                 rfl
                refine pure_ (i := 11) (N := some 46) (v := ?_) (a' := ?_) #[true, true, true, false, false, true, true, true, false, false, true, true, false, false, false, false, false, false, false, false, false, false, false] rfl rfl (any_of HT_.out (by kernel_rfl)) (fun _ _ _ h => h) (Or.inl ⟨by rfl, ?_⟩) ?_ ?_
                rotate_left
                ·intro w'
                 go_simp
                 with_reducible rfl
                rotate_left
                ·simp only [Act.put, List.setIfInBounds_toArray, List.set_cons_zero, List.set_cons_succ, i64_w, i32_w]
                 rfl
                refine pure_ (i := 12) (N := some 47) (v := ?_) (a' := ?_) #[true, true, true, false, false, true, true, true, false, false, true, true, true, false, false, false, false, false, false, false, false, false, false] rfl rfl (any_of HT_.out (by kernel_rfl)) (fun _ _ _ h => h) (Or.inl ⟨by rfl, ?_⟩) ?_ ?_
                rotate_left
                ·intro w'
                 go_simp
                 with_reducible rfl
                rotate_left
                ·simp only [Act.put, List.setIfInBounds_toArray, List.set_cons_zero, List.set_cons_succ, i64_w, i32_w]
                 rfl
                refine pure_ (i := 13) (N := some 48) (v := ?_) (a' := ?_) #[true, true, true, false, false, true, true, true, false, false, true, true, true, true, false, false, false, false, false, false, false, false, false] rfl rfl (any_of HT_.out (by kernel_rfl)) (fun _ _ _ h => h) (Or.inl ⟨by rfl, ?_⟩) ?_ ?_
                rotate_left
                ·intro w'
                 go_simp
                 with_reducible rfl
                rotate_left
                ·simp only [Act.put, List.setIfInBounds_toArray, List.set_cons_zero, List.set_cons_succ, i64_w, i32_w]
                 rfl
                refine pure_ (i := 16) (N := some 51) (v := ?_) (a' := ?_) #[true, true, true, false, false, true, true, true, false, false, true, true, true, true, false, false, true, false, false, false, false, false, false] rfl rfl (any_of HT_.out (by kernel_rfl)) (fun _ _ _ h => h) (Or.inl ⟨by rfl, ?_⟩) ?_ ?_
                rotate_left
                ·intro w'
                 go_simp
                 with_reducible rfl
                rotate_left
                ·simp only [Act.put, List.setIfInBounds_toArray, List.set_cons_zero, List.set_cons_succ, i64_w, i32_w]
                 rfl
                refine pure_ (i := 17) (N := some 52) (v := ?_) (a' := ?_) #[true, true, true, false, false, true, true, true, false, false, true, true, true, true, false, false, true, true, false, false, false, false, false] rfl rfl (any_of HT_.out (by kernel_rfl)) (fun _ _ _ h => h) (Or.inl ⟨by rfl, ?_⟩) ?_ ?_
                rotate_left
                ·intro w'
                 go_simp
                 with_reducible rfl
                rotate_left
                ·simp only [Act.put, List.setIfInBounds_toArray, List.set_cons_zero, List.set_cons_succ, i64_w, i32_w]
                 rfl
                refine pure_ (i := 18) (N := some 53) (v := ?_) (a' := ?_) #[true, true, true, false, false, true, true, true, false, false, true, true, true, true, false, false, true, true, true, false, false, false, false] rfl rfl (any_of HT_.out (by kernel_rfl)) (fun _ _ _ h => h) (Or.inl ⟨by rfl, ?_⟩) ?_ ?_
                rotate_left
                ·intro w'
                 go_simp
                 with_reducible rfl
                rotate_left
                ·simp only [Act.put, List.setIfInBounds_toArray, List.set_cons_zero, List.set_cons_succ, i64_w, i32_w]
                 rfl
                refine take_ (i := 3) (N := some 38) (v := ?_) (a' := ?_) #[true, true, true, true, false, true, true, true, false, false, true, true, true, true, false, false, true, true, true, false, false, false, false] rfl rfl (take_ofW HT_.out HW_.out (by kernel_rfl)) (fun _ _ _ h => h) (Or.inl ⟨by rfl, ?_⟩) hHeld ?_ ?_
                rotate_left
                ·rintro w' ⟨s0, s1⟩
                 go_simp
                 with_reducible rfl
                rotate_left
                ·simp only [Act.put, List.setIfInBounds_toArray, List.set_cons_zero, List.set_cons_succ, i64_w, i32_w]
                 rfl
                refine pure_ (i := 4) (N := some 39) (v := ?_) (a' := ?_) #[true, true, true, true, true, true, true, true, false, false, true, true, true, true, false, false, true, true, true, false, false, false, false] rfl rfl (any_of HT_.out (by kernel_rfl)) (fun _ _ _ h => h) (Or.inl ⟨by rfl, ?_⟩) ?_ ?_
                rotate_left
                ·intro w'
                 go_simp
                 with_reducible rfl
                rotate_left
                ·simp only [Act.put, List.setIfInBounds_toArray, List.set_cons_zero, List.set_cons_succ, i64_w, i32_w]
                 rfl
                refine pure_ (i := 8) (N := some 43) (v := ?_) (a' := ?_) #[true, true, true, true, true, true, true, true, true, false, true, true, true, true, false, false, true, true, true, false, false, false, false] rfl rfl (any_of HT_.out (by kernel_rfl)) (fun _ _ _ h => h) (Or.inl ⟨by rfl, ?_⟩) ?_ ?_
                rotate_left
                ·intro w'
                 go_simp
                 with_reducible rfl
                rotate_left
                ·simp only [Act.put, List.setIfInBounds_toArray, List.set_cons_zero, List.set_cons_succ, i64_w, i32_w]
                 rfl
                refine pure_ (i := 9) (N := some 44) (v := ?_) (a' := ?_) #[true, true, true, true, true, true, true, true, true, true, true, true, true, true, false, false, true, true, true, false, false, false, false] rfl rfl (any_of HT_.out (by kernel_rfl)) (fun _ _ _ h => h) (Or.inl ⟨by rfl, ?_⟩) ?_ ?_
                rotate_left
                ·intro w'
                 go_simp
                 with_reducible rfl
                rotate_left
                ·simp only [Act.put, List.setIfInBounds_toArray, List.set_cons_zero, List.set_cons_succ, i64_w, i32_w]
                 rfl
                refine pure_ (i := 21) (N := some 9) (v := ?_) (a' := ?_) #[true, true, true, true, true, true, true, true, true, true, true, true, true, true, false, false, true, true, true, false, false, true, false] rfl rfl (any_of HT_.out (by kernel_rfl)) (fun _ _ _ h => h) (Or.inl ⟨by rfl, ?_⟩) ?_ ?_
                rotate_left
                ·intro w'
                 go_simp
                 with_reducible rfl
                rotate_left
                ·simp only [Act.put, List.setIfInBounds_toArray, List.set_cons_zero, List.set_cons_succ, i64_w, i32_w]
                 rfl
                refine take_ (i := 14) (N := some 49) (v := ?_) (a' := ?_) #[true, true, true, true, true, true, true, true, true, true, true, true, true, true, true, false, true, true, true, false, false, true, false] rfl rfl (take_ofW HT_.out HW_.out (by kernel_rfl)) (fun _ _ _ h => h) (Or.inl ⟨by rfl, ?_⟩) hHeld ?_ ?_
                rotate_left
                ·rintro w' ⟨s0, s1⟩
                 go_simp
                 with_reducible rfl
                rotate_left
                ·simp only [Act.put, List.setIfInBounds_toArray, List.set_cons_zero, List.set_cons_succ, i64_w, i32_w]
                 rfl
                refine pure_ (i := 15) (N := some 50) (v := ?_) (a' := ?_) #[true, true, true, true, true, true, true, true, true, true, true, true, true, true, true, true, true, true, true, false, false, true, false] rfl rfl (any_of HT_.out (by kernel_rfl)) (fun _ _ _ h => h) (Or.inl ⟨by rfl, ?_⟩) ?_ ?_
                rotate_left
                ·intro w'
                 go_simp
                 with_reducible rfl
                rotate_left
                ·simp only [Act.put, List.setIfInBounds_toArray, List.set_cons_zero, List.set_cons_succ, i64_w, i32_w]
                 rfl
                refine pure_ (i := 19) (N := some 54) (v := ?_) (a' := ?_) #[true, true, true, true, true, true, true, true, true, true, true, true, true, true, true, true, true, true, true, true, false, true, false] rfl rfl (any_of HT_.out (by kernel_rfl)) (fun _ _ _ h => h) (Or.inl ⟨by rfl, ?_⟩) ?_ ?_
                rotate_left
                ·intro w'
                 go_simp
                 with_reducible rfl
                rotate_left
                ·simp only [Act.put, List.setIfInBounds_toArray, List.set_cons_zero, List.set_cons_succ, i64_w, i32_w]
                 rfl
                refine pure_ (i := 20) (N := some 55) (v := ?_) (a' := ?_) #[true, true, true, true, true, true, true, true, true, true, true, true, true, true, true, true, true, true, true, true, true, true, false] rfl rfl (any_of HT_.out (by kernel_rfl)) (fun _ _ _ h => h) (Or.inl ⟨by rfl, ?_⟩) ?_ ?_
                rotate_left
                ·intro w'
                 go_simp
                 with_reducible rfl
                rotate_left
                ·simp only [Act.put, List.setIfInBounds_toArray, List.set_cons_zero, List.set_cons_succ, i64_w, i32_w]
                 rfl
                refine pure_ (i := 22) (N := some 10) (v := ?_) (a' := ?_) #[true, true, true, true, true, true, true, true, true, true, true, true, true, true, true, true, true, true, true, true, true, true, true] rfl rfl (any_of HT_.out (by kernel_rfl)) (fun _ _ _ h => h) (Or.inl ⟨by rfl, ?_⟩) ?_ ?_
                rotate_left
                ·intro w'
                 go_simp
                 with_reducible rfl
                rotate_left
                ·simp only [Act.put, List.setIfInBounds_toArray, List.set_cons_zero, List.set_cons_succ, i64_w, i32_w]
                 rfl
                refine done_ (done_of HT_.out (by kernel_rfl)) ?_
                try go_wp2
                have n0_ := Aside0.mk (Kd.R_drew HO_7.out)
                have n1_ := Aside0.mk (below_drew1 HB.out)
                clear HO_7
                clear HB
                have HO_7 := n0_
                have HB := n1_
                clear n0_ n1_
                have p201 : 0 ≤ ((ji21) : Int) := of_decide_eq_true (by first | (with_reducible assumption) | assumption)
                have q201 : (ji21) < (x7_1.length : Int) := of_decide_eq_true (by first | (with_reducible assumption) | assumption)
                obtain ⟨ad201, e201, hx201_0, hx201_1, hx201_2⟩ := at_T32 (Kd.R_reads' HO_7.out).2.2 (ji21) p201 q201
                cases e201
                replace p201 := eq_true p201
                replace q201 := eq_true q201
                have p202 : 0 ≤ ((ji24) : Int) := of_decide_eq_true (by first | (with_reducible assumption) | assumption)
                have q202 : (ji24) < (x7_1.length : Int) := of_decide_eq_true (by first | (with_reducible assumption) | assumption)
                obtain ⟨ad202, e202, hx202_0, hx202_1, hx202_2⟩ := at_T32 (Kd.R_reads' HO_7.out).2.2 (ji24) p202 q202
                obtain rfl : ad201 = ad202 := (by injection e202)
                replace p202 := eq_true p202
                replace q202 := eq_true q202
                have p27 : 0 ≤ ((ji24) : Int) := of_decide_eq_true (by first | (with_reducible assumption) | assumption)
                have q27 : ((ji24) : Int) < ((x7_1.length : Int) : Int) := of_decide_eq_true (by first | (with_reducible assumption) | assumption)
                obtain ⟨go27, co27, eo27, gb27, gl27, cl27, HG27⟩ := Kd.R_form HO_7.out (by omega)
                (first | cases eo27 | (injection eo27 with ea_ en_ ec_; (first | subst ea_ | (injection ea_ with ea_; subst ea_)); subst ec_; clear en_))
                have GB27 := Aside0.mk gb27
                have GG27 := Aside0.mk HG27
                clear gb27 gl27 HG27
                (first | simp only [add_plain] at hx201_0 | skip)
                (first | simp only [add_plain] at hx201_1 | skip)
                (first | simp only [add_plain] at hx201_2 | skip)
                (first | simp only [add_plain] at hx202_0 | skip)
                (first | simp only [add_plain] at hx202_1 | skip)
                (first | simp only [add_plain] at hx202_2 | skip)
                obtain ⟨ce27, hcl27, hM27, hcc27, hfr27⟩ := Kd.R_elem HO_7.out z32 ((ji24) : Int) p27 q27
                obtain rfl := k32_openM hM27
                have hx27_0 : World.cell? _ ⟨go27, ((ji24) : Int).toNat * 3, none⟩ = some (.int .i64 ((rd_T32 x7_1 (ji24)).f0)) := hcc27 0 _ rfl
                have hx27_1 : World.cell? _ ⟨go27, ((ji24) : Int).toNat * 3 + 1, none⟩ = some (.int .i64 ((rd_T32 x7_1 (ji24)).f1)) := hcc27 1 _ rfl
                have hx27_2 : World.cell? _ ⟨go27, ((ji24) : Int).toNat * 3 + 2, none⟩ = some (.string ((rd_T32 x7_1 (ji24)).f2)) := hcc27 2 _ rfl
                have hf27_0 : World.frozen? _ ⟨go27, ((ji24) : Int).toNat * 3, none⟩ = false := hfr27 0
                have hf27_1 : World.frozen? _ ⟨go27, ((ji24) : Int).toNat * 3 + 1, none⟩ = false := hfr27 1
                have hf27_2 : World.frozen? _ ⟨go27, ((ji24) : Int).toNat * 3 + 2, none⟩ = false := hfr27 2
                clear hcl27 hcc27 hfr27 hM27
                replace p27 := eq_true p27
                replace q27 := eq_true q27
                obtain ⟨ce32, hcl32, hM32, hcc32, hfr32⟩ := Kd.R_elem HO_7.out z32 ((ji24) : Int) (of_decide_eq_true (by first | (with_reducible assumption) | assumption)) (by have h_ : ((ji24) : Int) < ((x7_1.length : Int) : Int) := of_decide_eq_true (by first | (with_reducible assumption) | assumption); first | exact h_ | (have e_ := (Kd.R_reads' HO_7.out).1; omega) | simpa using h_)
                obtain rfl := k32_openM hM32
                have HP32 := (Kd.R_seg HO_7.out ((ji24) : Int) (of_decide_eq_true (by first | (with_reducible assumption) | assumption)) (by have h_ : ((ji24) : Int) < ((x7_1.length : Int) : Int) := of_decide_eq_true (by first | (with_reducible assumption) | assumption); first | exact h_ | (have e_ := (Kd.R_reads' HO_7.out).1; omega) | simpa using h_) (seg := [.int .i64 ((rd_T32 x7_1 (ji21)).f0), .int .i64 ((rd_T32 x7_1 (ji21)).f1), .string ((rd_T32 x7_1 (ji21)).f2)]) (j := 0) hcl32 hcc32 (show 3 ≤ 3 from by decide) (x' := (⟨(rd_T32 x7_1 (ji21)).f0, (rd_T32 x7_1 (ji21)).f1, (rd_T32 x7_1 (ji21)).f2⟩ : S32)) (k32_mkM _ _ _ (⟨(rd_T32 x7_1 (ji21)).f0, (rd_T32 x7_1 (ji21)).f1, (rd_T32 x7_1 (ji21)).f2⟩ : S32) ) (fun _ hk => hk)).1
                rw [← Ny203.out] at HP32
                have HQ32 := Aside0.mk HP32
                clear hcl32 hcc32 hfr32 hM32 HP32
                have p28 : 0 ≤ ((ji21) : Int) := of_decide_eq_true (by first | (with_reducible assumption) | assumption)
                have q28 : ((ji21) : Int) < ((x7_1.length : Int) : Int) := of_decide_eq_true (by first | (with_reducible assumption) | assumption)
                obtain ⟨ce28, hcl28, hM28, hcc28, hfr28⟩ := Kd.R_elem HQ32.out z32 ((ji21) : Int) p28 q28
                obtain rfl := k32_openM hM28
                have hx28_0 : World.cell? _ ⟨go27, ((ji21) : Int).toNat * 3, none⟩ = some (.int .i64 ((rd_T32 y203 (ji21)).f0)) := hcc28 0 _ rfl
                have hx28_1 : World.cell? _ ⟨go27, ((ji21) : Int).toNat * 3 + 1, none⟩ = some (.int .i64 ((rd_T32 y203 (ji21)).f1)) := hcc28 1 _ rfl
                have hx28_2 : World.cell? _ ⟨go27, ((ji21) : Int).toNat * 3 + 2, none⟩ = some (.string ((rd_T32 y203 (ji21)).f2)) := hcc28 2 _ rfl
                have hf28_0 : World.frozen? _ ⟨go27, ((ji21) : Int).toNat * 3, none⟩ = false := hfr28 0
                have hf28_1 : World.frozen? _ ⟨go27, ((ji21) : Int).toNat * 3 + 1, none⟩ = false := hfr28 1
                have hf28_2 : World.frozen? _ ⟨go27, ((ji21) : Int).toNat * 3 + 2, none⟩ = false := hfr28 2
                clear hcl28 hcc28 hfr28 hM28
                replace p28 := eq_true p28
                replace q28 := eq_true q28
                obtain ⟨ce33, hcl33, hM33, hcc33, hfr33⟩ := Kd.R_elem HQ32.out z32 ((ji21) : Int) (of_decide_eq_true (by first | (with_reducible assumption) | assumption)) (by have h_ : ((ji21) : Int) < ((x7_1.length : Int) : Int) := of_decide_eq_true (by first | (with_reducible assumption) | assumption); first | exact h_ | (have e_ := (Kd.R_reads' HO_7.out).1; omega) | simpa using h_)
                obtain rfl := k32_openM hM33
                have HP33 := (Kd.R_seg HQ32.out ((ji21) : Int) (of_decide_eq_true (by first | (with_reducible assumption) | assumption)) (by have h_ : ((ji21) : Int) < ((x7_1.length : Int) : Int) := of_decide_eq_true (by first | (with_reducible assumption) | assumption); first | exact h_ | (have e_ := (Kd.R_reads' HO_7.out).1; omega) | simpa using h_) (seg := [.int .i64 ((rd_T32 x7_1 (ji24)).f0), .int .i64 ((rd_T32 x7_1 (ji24)).f1), .string ((rd_T32 x7_1 (ji24)).f2)]) (j := 0) hcl33 hcc33 (show 3 ≤ 3 from by decide) (x' := (⟨(rd_T32 x7_1 (ji24)).f0, (rd_T32 x7_1 (ji24)).f1, (rd_T32 x7_1 (ji24)).f2⟩ : S32)) (k32_mkM _ _ _ (⟨(rd_T32 x7_1 (ji24)).f0, (rd_T32 x7_1 (ji24)).f1, (rd_T32 x7_1 (ji24)).f2⟩ : S32) ) (fun _ hk => hk)).1
                rw [← Ny204.out] at HP33
                have HQ33 := Aside0.mk HP33
                clear hcl33 hcc33 hfr33 hM33 HP33
                refine start_ (n := 16) (S := fun w' => w'.cell? ⟨go27, ((ji21)).toNat * 3, none⟩ = some (.int .i64 ((rd_T32 x7_1 (ji21)).f0)) ∧ w'.cell? ⟨go27, ((ji21)).toNat * 3 + 1, none⟩ = some (.int .i64 ((rd_T32 x7_1 (ji21)).f1)) ∧ w'.cell? ⟨go27, ((ji21)).toNat * 3 + 2, none⟩ = some (.string ((rd_T32 x7_1 (ji21)).f2)) ∧ w'.cell? ⟨go27, ((ji24)).toNat * 3, none⟩ = some (.int .i64 ((rd_T32 x7_1 (ji24)).f0)) ∧ w'.cell? ⟨go27, ((ji24)).toNat * 3 + 1, none⟩ = some (.int .i64 ((rd_T32 x7_1 (ji24)).f1)) ∧ w'.cell? ⟨go27, ((ji24)).toNat * 3 + 2, none⟩ = some (.string ((rd_T32 x7_1 (ji24)).f2))) (ds := [13, 15]) #[false, false, false, false, false, false, false, false, false, false, false, false, false, false, false, false] (by kernel_rfl) rfl rfl ⟨hx201_0, hx201_1, hx201_2, hx202_0, hx202_1, hx202_2⟩ (fun hHeld => ?_); refine with_tabW quarrylaw17_AggOrder.tab10 quarrylaw17_AggOrder.bits10 (fun HT_ HW_ => ?_)
                generalize w30.drew = w31 at HO_7 HB GG27 HQ32 HQ33 hf27_0 hf27_1 hf27_2 hf28_0 hf28_1 hf28_2 hx201_0 hx201_1 hx201_2 hx202_0 hx202_1 hx202_2 hx27_0 hx27_1 hx27_2 hx28_0 hx28_1 hx28_2 hHeld ⊢
                have hs28_0 : World.cell? (((w31.setCell ⟨go27, ((ji24) : Int).toNat * 3, none⟩ (.int .i64 ((rd_T32 x7_1 (ji21)).f0))).setCell ⟨go27, ((ji24) : Int).toNat * 3 + 1, none⟩ (.int .i64 ((rd_T32 x7_1 (ji21)).f1))).setCell ⟨go27, ((ji24) : Int).toNat * 3 + 2, none⟩ (.string ((rd_T32 x7_1 (ji21)).f2))) ⟨go27, ((ji21) : Int).toNat * 3, none⟩ = some (.int .i64 ((rd_T32 y203 (ji21)).f0)) := hx28_0
                (try simp [go_sem] at hs28_0)
                have ht28_0 : World.frozen? (((w31.setCell ⟨go27, ((ji24) : Int).toNat * 3, none⟩ (.int .i64 ((rd_T32 x7_1 (ji21)).f0))).setCell ⟨go27, ((ji24) : Int).toNat * 3 + 1, none⟩ (.int .i64 ((rd_T32 x7_1 (ji21)).f1))).setCell ⟨go27, ((ji24) : Int).toNat * 3 + 2, none⟩ (.string ((rd_T32 x7_1 (ji21)).f2))) ⟨go27, ((ji21) : Int).toNat * 3, none⟩ = false := hf28_0
                (try simp [go_sem] at ht28_0)
                have hs28_1 : World.cell? (((w31.setCell ⟨go27, ((ji24) : Int).toNat * 3, none⟩ (.int .i64 ((rd_T32 x7_1 (ji21)).f0))).setCell ⟨go27, ((ji24) : Int).toNat * 3 + 1, none⟩ (.int .i64 ((rd_T32 x7_1 (ji21)).f1))).setCell ⟨go27, ((ji24) : Int).toNat * 3 + 2, none⟩ (.string ((rd_T32 x7_1 (ji21)).f2))) ⟨go27, ((ji21) : Int).toNat * 3  + 1, none⟩ = some (.int .i64 ((rd_T32 y203 (ji21)).f1)) := hx28_1
                (try simp [go_sem] at hs28_1)
                have ht28_1 : World.frozen? (((w31.setCell ⟨go27, ((ji24) : Int).toNat * 3, none⟩ (.int .i64 ((rd_T32 x7_1 (ji21)).f0))).setCell ⟨go27, ((ji24) : Int).toNat * 3 + 1, none⟩ (.int .i64 ((rd_T32 x7_1 (ji21)).f1))).setCell ⟨go27, ((ji24) : Int).toNat * 3 + 2, none⟩ (.string ((rd_T32 x7_1 (ji21)).f2))) ⟨go27, ((ji21) : Int).toNat * 3  + 1, none⟩ = false := hf28_1
                (try simp [go_sem] at ht28_1)
                have hs28_2 : World.cell? (((w31.setCell ⟨go27, ((ji24) : Int).toNat * 3, none⟩ (.int .i64 ((rd_T32 x7_1 (ji21)).f0))).setCell ⟨go27, ((ji24) : Int).toNat * 3 + 1, none⟩ (.int .i64 ((rd_T32 x7_1 (ji21)).f1))).setCell ⟨go27, ((ji24) : Int).toNat * 3 + 2, none⟩ (.string ((rd_T32 x7_1 (ji21)).f2))) ⟨go27, ((ji21) : Int).toNat * 3 + 2, none⟩ = some (.string ((rd_T32 y203 (ji21)).f2)) := hx28_2
                (try simp [go_sem] at hs28_2)
                have ht28_2 : World.frozen? (((w31.setCell ⟨go27, ((ji24) : Int).toNat * 3, none⟩ (.int .i64 ((rd_T32 x7_1 (ji21)).f0))).setCell ⟨go27, ((ji24) : Int).toNat * 3 + 1, none⟩ (.int .i64 ((rd_T32 x7_1 (ji21)).f1))).setCell ⟨go27, ((ji24) : Int).toNat * 3 + 2, none⟩ (.string ((rd_T32 x7_1 (ji21)).f2))) ⟨go27, ((ji21) : Int).toNat * 3 + 2, none⟩ = false := hf28_2
                (try simp [go_sem] at ht28_2)
                refine pure_ (i := 0) (N := some 56) (v := ?_) (a' := ?_) #[true, false, false, false, false, false, false, false, false, false, false, false, false, false, false, false] rfl rfl (any_of HT_.out (by kernel_rfl)) (fun _ _ _ h => h) (Or.inl ⟨by rfl, ?_⟩) ?_ ?_
                rotate_left
                ·intro w'
                 go_simp
                 with_reducible rfl
                rotate_left
                ·simp only [Act.put, List.setIfInBounds_toArray, List.set_cons_zero, List.set_cons_succ, i64_w, i32_w]
                 rfl
                refine pure_ (i := 1) (N := some 57) (v := ?_) (a' := ?_) #[true, true, false, false, false, false, false, false, false, false, false, false, false, false, false, false] rfl rfl (any_of HT_.out (by kernel_rfl)) (fun _ _ _ h => h) (Or.inl ⟨by rfl, ?_⟩) ?_ ?_
                rotate_left
                ·intro w'
                 go_simp
                 with_reducible rfl
                rotate_left
                ·simp only [Act.put, List.setIfInBounds_toArray, List.set_cons_zero, List.set_cons_succ, i64_w, i32_w]
                 rfl
                refine pure_ (i := 2) (N := some 58) (v := ?_) (a' := ?_) #[true, true, true, false, false, false, false, false, false, false, false, false, false, false, false, false] rfl rfl (any_of HT_.out (by kernel_rfl)) (fun _ _ _ h => h) (Or.inl ⟨by rfl, ?_⟩) ?_ ?_
                rotate_left
                ·intro w'
                 go_simp
                 with_reducible rfl
                rotate_left
                ·simp only [Act.put, List.setIfInBounds_toArray, List.set_cons_zero, List.set_cons_succ, i64_w, i32_w]
                 rfl
                refine pure_ (i := 3) (N := some 59) (v := ?_) (a' := ?_) #[true, true, true, true, false, false, false, false, false, false, false, false, false, false, false, false] rfl rfl (any_of HT_.out (by kernel_rfl)) (fun _ _ _ h => h) (Or.inl ⟨by rfl, ?_⟩) ?_ ?_
                rotate_left
                ·intro w'
                 go_simp
                 with_reducible rfl
                rotate_left
                ·simp only [Act.put, List.setIfInBounds_toArray, List.set_cons_zero, List.set_cons_succ, i64_w, i32_w]
                 rfl
                refine pure_ (i := 4) (N := some 60) (v := ?_) (a' := ?_) #[true, true, true, true, true, false, false, false, false, false, false, false, false, false, false, false] rfl rfl (any_of HT_.out (by kernel_rfl)) (fun _ _ _ h => h) (Or.inl ⟨by rfl, ?_⟩) ?_ ?_
                rotate_left
                ·intro w'
                 go_simp
                 with_reducible rfl
                rotate_left
                ·simp only [Act.put, List.setIfInBounds_toArray, List.set_cons_zero, List.set_cons_succ, i64_w, i32_w]
                 rfl
                refine pure_ (i := 5) (N := some 61) (v := ?_) (a' := ?_) #[true, true, true, true, true, true, false, false, false, false, false, false, false, false, false, false] rfl rfl (any_of HT_.out (by kernel_rfl)) (fun _ _ _ h => h) (Or.inl ⟨by rfl, ?_⟩) ?_ ?_
                rotate_left
                ·intro w'
                 go_simp
                 with_reducible rfl
                rotate_left
                ·simp only [Act.put, List.setIfInBounds_toArray, List.set_cons_zero, List.set_cons_succ, i64_w, i32_w]
                 rfl
                refine pure_ (i := 6) (N := some 62) (v := ?_) (a' := ?_) #[true, true, true, true, true, true, true, false, false, false, false, false, false, false, false, false] rfl rfl (any_of HT_.out (by kernel_rfl)) (fun _ _ _ h => h) (Or.inl ⟨by rfl, ?_⟩) ?_ ?_
                rotate_left
                ·intro w'
                 go_simp
                 with_reducible rfl
                rotate_left
                ·simp only [Act.put, List.setIfInBounds_toArray, List.set_cons_zero, List.set_cons_succ, i64_w, i32_w]
                 rfl
                refine pure_ (i := 8) (N := some 64) (v := ?_) (a' := ?_) #[true, true, true, true, true, true, true, false, true, false, false, false, false, false, false, false] rfl rfl (any_of HT_.out (by kernel_rfl)) (fun _ _ _ h => h) (Or.inl ⟨by rfl, ?_⟩) ?_ ?_
                rotate_left
                ·intro w'
                 go_simp
                 with_reducible rfl
                rotate_left
                ·simp only [Act.put, List.setIfInBounds_toArray, List.set_cons_zero, List.set_cons_succ, i64_w, i32_w]
                 rfl
                refine pure_ (i := 9) (N := some 65) (v := ?_) (a' := ?_) #[true, true, true, true, true, true, true, false, true, true, false, false, false, false, false, false] rfl rfl (any_of HT_.out (by kernel_rfl)) (fun _ _ _ h => h) (Or.inl ⟨by rfl, ?_⟩) ?_ ?_
                rotate_left
                ·intro w'
                 go_simp
                 with_reducible rfl
                rotate_left
                ·simp only [Act.put, List.setIfInBounds_toArray, List.set_cons_zero, List.set_cons_succ, i64_w, i32_w]
                 rfl
                refine pure_ (i := 10) (N := some 66) (v := ?_) (a' := ?_) #[true, true, true, true, true, true, true, false, true, true, true, false, false, false, false, false] rfl rfl (any_of HT_.out (by kernel_rfl)) (fun _ _ _ h => h) (Or.inl ⟨by rfl, ?_⟩) ?_ ?_
                rotate_left
                ·intro w'
                 go_simp
                 with_reducible rfl
                rotate_left
                ·simp only [Act.put, List.setIfInBounds_toArray, List.set_cons_zero, List.set_cons_succ, i64_w, i32_w]
                 rfl
                refine take_ (i := 7) (N := some 63) (v := ?_) (a' := ?_) #[true, true, true, true, true, true, true, true, true, true, true, false, false, false, false, false] rfl rfl (take_ofW HT_.out HW_.out (by kernel_rfl)) (fun _ _ _ h => h) (Or.inl ⟨by rfl, ?_⟩) hHeld ?_ ?_
                rotate_left
                ·rintro w' ⟨s0, s1, s2, s3, s4, s5⟩
                 go_simp
                 with_reducible rfl
                rotate_left
                ·simp only [Act.put, List.setIfInBounds_toArray, List.set_cons_zero, List.set_cons_succ, i64_w, i32_w]
                 rfl
                refine take_ (i := 11) (N := some 67) (v := ?_) (a' := ?_) #[true, true, true, true, true, true, true, true, true, true, true, true, false, false, false, false] rfl rfl (take_ofW HT_.out HW_.out (by kernel_rfl)) (fun _ _ _ h => h) (Or.inl ⟨by rfl, ?_⟩) hHeld ?_ ?_
                rotate_left
                ·rintro w' ⟨s0, s1, s2, s3, s4, s5⟩
                 go_simp
                 with_reducible rfl
                rotate_left
                ·simp only [Act.put, List.setIfInBounds_toArray, List.set_cons_zero, List.set_cons_succ, i64_w, i32_w]
                 rfl
                refine pure_ (i := 12) (N := some 68) (v := ?_) (a' := ?_) #[true, true, true, true, true, true, true, true, true, true, true, true, true, false, false, false] rfl rfl (any_of HT_.out (by kernel_rfl)) (fun _ _ _ h => h) (Or.inl ⟨by rfl, ?_⟩) ?_ ?_
                rotate_left
                ·intro w'
                 go_simp
                 with_reducible rfl
                rotate_left
                ·simp only [Act.put, List.setIfInBounds_toArray, List.set_cons_zero, List.set_cons_succ, i64_w, i32_w]
                 rfl
                refine last_ (i := 13) (N := none) #[true, true, true, true, true, true, true, true, true, true, true, true, true, true, false, false] rfl rfl (one_of HT_.out (by kernel_rfl)) (by decide) (fun K hK => ?_)
                refine skip_ (w1 := ?_) (by rfl) rfl ?_ ?_
                rotate_left
                ·go_simp
                 rfl
                refine hK.out _ _ ?_
                clear hK K
                refine pure_ (i := 14) (N := some 69) (v := ?_) (a' := ?_) #[true, true, true, true, true, true, true, true, true, true, true, true, true, true, true, false] rfl rfl (any_of HT_.out (by kernel_rfl)) (fun _ _ _ h => h) (Or.inl ⟨by rfl, ?_⟩) ?_ ?_
                rotate_left
                ·intro w'
                 go_simp
                 with_reducible rfl
                rotate_left
                ·simp only [Act.put, List.setIfInBounds_toArray, List.set_cons_zero, List.set_cons_succ, i64_w, i32_w]
                 rfl
                refine last_ (i := 15) (N := none) #[true, true, true, true, true, true, true, true, true, true, true, true, true, true, true, true] rfl rfl (one_of HT_.out (by kernel_rfl)) (by decide) (fun K hK => ?_)
                refine skip_ (w1 := ?_) (by rfl) rfl ?_ ?_
                rotate_left
                ·go_simp
                 rfl
                refine hK.out _ _ ?_
                clear hK K
                refine done_ (done_of HT_.out (by kernel_rfl)) ?_
                try go_wp2
                go_roundg k1
                case measure => have := HK1.out; omega
                case rel => exact ⟨(y204), (wrap64 (x8_1 + 2)), (by first | rfl | (simp; done) | (simp [*]; done)), H', ⟨by have := HK1.out; omega⟩, ⟨by (with_reducible repeat (first | apply Kd.R_alloc | apply Kd.R_drewN | apply Kd.R_drew)); exact HQ33.out⟩, ⟨by repeat (first | (with_reducible first | exact HB.out | apply below_alloc | apply pw_below_drewN | apply below_drew1 | refine below_set ?_ GB27.out | refine below_set ?_ GB27.out | refine below_set ?_ GB27.out | refine below_set ?_ GB27.out | refine below_set ?_ GB27.out | refine below_set ?_ GB27.out) | exact HB.out)⟩⟩
               ·rw [if_neg c26] at H
                cases H
              ·rw [if_neg c25] at H
               cases H
             ·rw [if_neg c23] at H
              cases H
            ·rw [if_neg c22] at H
             cases H
           ·rw [if_neg c20] at H
            cases H
         ·rw [if_neg c17] at H
          exact absurd H (by simp)
        ·rw [if_neg c16] at H
         exact absurd H (by simp)
       ·rw [if_neg c15] at H
        have c15b0 : decide (0 < (x7_1.length : Int)) = false := decide_eq_false c15
        have c15b1 : decide (0 < x7_1.length) = false := decide_eq_false (by omega)
        clear c15
        replace H := Option.bind_eq_some_iff.mp H
        obtain ⟨⟨t205, t206, t207, t208⟩, A340, H⟩ := H
        replace H : ((quarrylaw17_gathered.f (wrap64 (1 + (wrap64 (Int.tmod (IntKind.u64.wrap (a0)) 4)))) x7_1).bind fun bt210 => (if t208 = true then (if bt210.2.2.2 = true then (some (t205 == bt210.1 && (t206 == bt210.2.1 && (t207.toList == bt210.2.2.1.toList)))) else (some true)) else (some true))) = some r := H
        have A34 := Aside0.mk A340
        clear A340
        replace H := Option.bind_eq_some_iff.mp H
        obtain ⟨⟨t210, t211, t212, t213⟩, A350, H⟩ := H
        replace H : (if t208 = true then (if t213 = true then (some (t205 == t210 && (t206 == t211 && (t207.toList == t212.toList)))) else (some true)) else (some true)) = some r := H
        have A35 := Aside0.mk A350
        clear A350
        by_cases c36 : t208 = true
        ·subst c36
         have H1 : (if t213 = true then (some (t205 == t210 && (t206 == t211 && (t207.toList == t212.toList)))) else (some true)) = some r := by rw [if_pos rfl] at H; exact H
         clear H
         have H := H1
         clear H1
         by_cases c37 : t213 = true
         ·subst c37
          have H1 : (some (t205 == t210 && (t206 == t211 && (t207.toList == t212.toList)))) = some r := by rw [if_pos rfl] at H; exact H
          clear H
          have H := H1
          clear H1
          obtain rfl := Option.some.inj H
          obtain ⟨Ao38, co38, eo38⟩ := Kd.R_slice HO_7.out
          subst eo38
          go_wp2_with (first | ((with_reducible refine gate_callee (f := 16) rfl ?_); refine goesL_ (some 78) rfl rfl Try.func16 (by kernel_rfl) rfl #[.int .i64 (wrap64 (1 + (wrap64 (Int.tmod (IntKind.u64.wrap (a0)) 4)))), .slice A1 l1.length c1] rfl (by (try simp only [List.map_toArray, List.map_cons, List.map_nil]); first | done | rfl | (simp only [List.length_drop, List.length_take]; rfl)) ?_; (with_reducible refine (quarrylaw17_gathered.print (wrap64 (1 + (wrap64 (Int.tmod (IntKind.u64.wrap (a0)) 4)))) _ _ l1 t205 t206 t207 true _ ?side1 ?side2 A34.out).mono ?_); (case side1 => repeat (first | exact (Kd.C_below HR1.out HB.out) | (with_reducible refine Kd.C_alloc ?_ _) | (with_reducible refine Kd.C_drewN ?_ _) | (with_reducible refine Kd.C_drew ?_))); (case side2 => exact HC1.out); rintro e w39 ⟨rfl, hb⟩; refine ⟨_, rfl, ?_⟩; have n0_ := Aside0.mk (Kd.R_below (by (with_reducible repeat (first | apply Kd.R_alloc | apply Kd.R_drewN | apply Kd.R_drew)); exact HO_7.out) hb); have n1_ := Aside0.mk (below_step (by repeat (first | (with_reducible first | exact HB.out | apply below_alloc | apply pw_below_drewN | apply below_drew1) | exact HB.out)) hb); clear HO_7; clear HB; have HO_7 := n0_; have HB := n1_; clear n0_ n1_; (try clear hb); (try clear hb2); (try clear hk); (try clear hi)) | ((with_reducible refine gate_dst (N := 11) rfl ?_); (try (refine gate_guard (by rfl) ?_; dsimp only)); refine box_event ?hg (N := 11) ?hd (cs := #[.int .i64 0, .int .i64 0, .string (⟨#[]⟩ : ByteArray)]) (t := 32) ?hr ?_; (case hd => rfl); (case hg => rfl); (case hr => first | (go_simp; done) | (go_simp; rfl)); intro gb209 hg w40 hbox hb; have n0_ := Aside0.mk (Kd.R_below (Kd.R_elderB (by (with_reducible repeat (first | apply Kd.R_alloc | apply Kd.R_drewN | apply Kd.R_drew)); exact HO_7.out) gb209 (Nat.le_of_eq hg.symm)) hb); have n1_ := Aside0.mk (below_step (by repeat (first | (with_reducible first | exact HB.out | apply below_alloc | apply pw_below_drewN | apply below_drew1) | exact HB.out)) hb); have n2_ := Aside0.mk (hbox); have n3_ := Aside0.mk ((by rw [hg]; exact (below_size (by repeat (first | (with_reducible first | exact HB.out | apply below_alloc | apply pw_below_drewN | apply below_drew1) | exact HB.out))) : w.heap.size ≤ gb209)); have n4_ := Aside0.mk ((by rw [hg]; exact (below_size (by repeat (first | (with_reducible first | exact HB.out | apply below_alloc | apply pw_below_drewN | apply below_drew1) | exact HB.out))) : w.heap.size ≤ gb209)); clear HO_7; clear HB; have HO_7 := n0_; have HB := n1_; have BK209 := n2_; have GW209 := n3_; have GE209 := n4_; clear n0_ n1_ n2_ n3_ n4_; clear hb hbox hg; have hcz41_0 : w40.cell? ⟨gb209, 0, none⟩ = some (.int .i64 0) := (blk_cell BK209.out 0).trans rfl; have hcz41_1 : w40.cell? ⟨gb209, 1, none⟩ = some (.int .i64 0) := (blk_cell BK209.out 1).trans rfl; have hcz41_2 : w40.cell? ⟨gb209, 2, none⟩ = some (.string (⟨#[]⟩ : ByteArray)) := (blk_cell BK209.out 2).trans rfl; have hfz41_0 := blk_frozen BK209.out 0; have hfz41_1 := blk_frozen BK209.out 1; have hfz41_2 := blk_frozen BK209.out 2) | ((with_reducible refine gate_callee (f := 16) rfl ?_); refine goesL_ (some 84) rfl rfl Try.func16 (by kernel_rfl) rfl #[.int .i64 (wrap64 (1 + (wrap64 (Int.tmod (IntKind.u64.wrap (a0)) 4)))), .slice Ao38 x7_1.length co38] rfl (by (try simp only [List.map_toArray, List.map_cons, List.map_nil]); first | done | rfl | (simp only [List.length_drop, List.length_take]; rfl)) ?_; (with_reducible refine (quarrylaw17_gathered.print (wrap64 (1 + (wrap64 (Int.tmod (IntKind.u64.wrap (a0)) 4)))) _ _ x7_1 t210 t211 t212 true _ ?side1 ?side2 A35.out).mono ?_); (case side1 => refine (Kd.R_reads' (e := 32) (base := w.heap.size) (ok := fun k_ => (True ∧ k_ ≠ gb209)) (n := x7_1.length) (c := co38) ?_).2.2; exact (by (with_reducible repeat (first | apply Kd.R_alloc | apply Kd.R_drewN | apply Kd.R_drew)); exact (Kd.R_mono (Kd.R_far (p := ⟨gb209, 2, none⟩) (Kd.R_far (p := ⟨gb209, 1, none⟩) (Kd.R_far (p := ⟨gb209, 0, none⟩) (Kd.R_mono HO_7.out (fun k_ hk => (⟨hk, hk.2⟩ : _ ∧ k_ ≠ gb209))) (fun _ hk => hk.2) (.int .i64 t205)) (fun _ hk => hk.2) (.int .i64 t206)) (fun _ hk => hk.2) (.string t207)) (fun _ h_ => h_.1)))); (case side2 => exact (Kd.R_reads' HO_7.out).2.1); rintro e w42 ⟨rfl, hb⟩; refine ⟨_, rfl, ?_⟩; have n0_ := Aside0.mk (Kd.R_below (by (with_reducible repeat (first | apply Kd.R_alloc | apply Kd.R_drewN | apply Kd.R_drew)); exact (Kd.R_mono (Kd.R_far (p := ⟨gb209, 2, none⟩) (Kd.R_far (p := ⟨gb209, 1, none⟩) (Kd.R_far (p := ⟨gb209, 0, none⟩) (Kd.R_mono HO_7.out (fun k_ hk => (⟨hk, hk.2⟩ : _ ∧ k_ ≠ gb209))) (fun _ hk => hk.2) (.int .i64 t205)) (fun _ hk => hk.2) (.int .i64 t206)) (fun _ hk => hk.2) (.string t207)) (fun _ h_ => h_.1))) hb); have n1_ := Aside0.mk (blk_below (g := gb209) (o := .cells #[.int .i64 t205, .int .i64 t206, .string t207] 32 (0, 0)) (by (with_reducible repeat (first | refine blk_drewN ?_ _ | refine blk_drew ?_ | refine blk_alloc ?_ _)); refine blk_put (cs := #[.int .i64 t205, .int .i64 t206, .string (⟨#[]⟩ : ByteArray)]) ?_ 2 _ rfl; (with_reducible repeat (first | refine blk_drewN ?_ _ | refine blk_drew ?_ | refine blk_alloc ?_ _)); refine blk_put (cs := #[.int .i64 t205, .int .i64 0, .string (⟨#[]⟩ : ByteArray)]) ?_ 1 _ rfl; (with_reducible repeat (first | refine blk_drewN ?_ _ | refine blk_drew ?_ | refine blk_alloc ?_ _)); refine blk_put (cs := #[.int .i64 0, .int .i64 0, .string (⟨#[]⟩ : ByteArray)]) ?_ 0 _ rfl; (with_reducible repeat (first | refine blk_drewN ?_ _ | refine blk_drew ?_ | refine blk_alloc ?_ _)); exact BK209.out) hb); have n2_ := Aside0.mk (below_step (by repeat (first | (with_reducible first | exact HB.out | apply below_alloc | apply pw_below_drewN | apply below_drew1 | refine below_set ?_ GE209.out) | exact HB.out)) hb); clear HO_7; clear BK209; clear HB; have HO_7 := n0_; have BK209 := n1_; have HB := n2_; clear n0_ n1_ n2_; (try clear hb); (try clear hb2); (try clear hk); (try clear hi)) | ((with_reducible refine gate_dst (N := 13) rfl ?_); (try (refine gate_guard (by rfl) ?_; dsimp only)); refine box_event ?hg (N := 13) ?hd (cs := #[.int .i64 0, .int .i64 0, .string (⟨#[]⟩ : ByteArray)]) (t := 32) ?hr ?_; (case hd => rfl); (case hg => rfl); (case hr => first | (go_simp; done) | (go_simp; rfl)); intro gb214 hg w43 hbox hb; have n0_ := Aside0.mk (Kd.R_below (Kd.R_elderB (by (with_reducible repeat (first | apply Kd.R_alloc | apply Kd.R_drewN | apply Kd.R_drew)); exact HO_7.out) gb214 (Nat.le_of_eq hg.symm)) hb); have n1_ := Aside0.mk (blk_below (g := gb209) (o := .cells #[.int .i64 t205, .int .i64 t206, .string t207] 32 (0, 0)) (bk_ BK209) hb); have n2_ := Aside0.mk (below_step (by repeat (first | (with_reducible first | exact HB.out | apply below_alloc | apply pw_below_drewN | apply below_drew1 | refine below_set ?_ GE209.out) | exact HB.out)) hb); have n3_ := Aside0.mk (hbox); have n4_ := Aside0.mk ((by rw [hg]; exact (below_size (by repeat (first | (with_reducible first | exact HB.out | apply below_alloc | apply pw_below_drewN | apply below_drew1 | refine below_set ?_ GE209.out) | exact HB.out))) : w.heap.size ≤ gb214)); have n5_ := Aside0.mk ((by rw [hg]; exact (below_size (by repeat (first | (with_reducible first | exact HB.out | apply below_alloc | apply pw_below_drewN | apply below_drew1 | refine below_set ?_ GE209.out) | exact HB.out))) : w.heap.size ≤ gb214)); have n6_ := Aside0.mk ((by rw [hg]; exact Nat.ne_of_lt (blk_lt (g := gb209) (o := .cells #[.int .i64 t205, .int .i64 t206, .string t207] 32 (0, 0)) (bk_ BK209)) : gb209 ≠ gb214)); have n7_ := Aside0.mk ((by rw [hg]; exact Nat.ne_of_gt (blk_lt (g := gb209) (o := .cells #[.int .i64 t205, .int .i64 t206, .string t207] 32 (0, 0)) (bk_ BK209)) : gb214 ≠ gb209)); clear HO_7; clear BK209; clear HB; have HO_7 := n0_; have BK209 := n1_; have HB := n2_; have BK214 := n3_; have GW214 := n4_; have GE214 := n5_; have NB209_214 := n6_; have NB214_209 := n7_; clear n0_ n1_ n2_ n3_ n4_ n5_ n6_ n7_; clear hb hbox hg; have hnb44 := NB214_209.out; have hnc44 := NB209_214.out; have hcz45_0 : w43.cell? ⟨gb214, 0, none⟩ = some (.int .i64 0) := (blk_cell BK214.out 0).trans rfl; have hcz45_1 : w43.cell? ⟨gb214, 1, none⟩ = some (.int .i64 0) := (blk_cell BK214.out 1).trans rfl; have hcz45_2 : w43.cell? ⟨gb214, 2, none⟩ = some (.string (⟨#[]⟩ : ByteArray)) := (blk_cell BK214.out 2).trans rfl; have hfz45_0 := blk_frozen BK214.out 0; have hfz45_1 := blk_frozen BK214.out 1; have hfz45_2 := blk_frozen BK214.out 2; have hcz46_0 : w43.cell? ⟨gb209, 0, none⟩ = some (.int .i64 t205) := (blk_cell BK209.out 0).trans rfl; have hcz46_1 : w43.cell? ⟨gb209, 1, none⟩ = some (.int .i64 t206) := (blk_cell BK209.out 1).trans rfl; have hcz46_2 : w43.cell? ⟨gb209, 2, none⟩ = some (.string t207) := (blk_cell BK209.out 2).trans rfl; have hfz46_0 := blk_frozen BK209.out 0; have hfz46_1 := blk_frozen BK209.out 1; have hfz46_2 := blk_frozen BK209.out 2))
          go_ret
          exact ⟨by first | rfl | (simp [errW_none, errW_some] <;> rfl) | (simp [*, errW_none, errW_some] <;> rfl), by repeat (first | (with_reducible first | exact HB.out | apply below_alloc | apply pw_below_drewN | apply below_drew1 | refine below_set ?_ GE209.out | refine below_set ?_ GE214.out) | exact HB.out)⟩
         ·replace c37 := Bool.eq_false_iff.mpr c37
          subst c37
          have H1 : (some true) = some r := by rw [if_neg (show ¬ (false = true) by decide)] at H; exact H
          clear H
          have H := H1
          clear H1
          obtain rfl := Option.some.inj H
          obtain ⟨Ao47, co47, eo47⟩ := Kd.R_slice HO_7.out
          subst eo47
          go_wp2_with (first | ((with_reducible refine gate_callee (f := 16) rfl ?_); refine goesL_ (some 78) rfl rfl Try.func16 (by kernel_rfl) rfl #[.int .i64 (wrap64 (1 + (wrap64 (Int.tmod (IntKind.u64.wrap (a0)) 4)))), .slice A1 l1.length c1] rfl (by (try simp only [List.map_toArray, List.map_cons, List.map_nil]); first | done | rfl | (simp only [List.length_drop, List.length_take]; rfl)) ?_; (with_reducible refine (quarrylaw17_gathered.print (wrap64 (1 + (wrap64 (Int.tmod (IntKind.u64.wrap (a0)) 4)))) _ _ l1 t205 t206 t207 true _ ?side1 ?side2 A34.out).mono ?_); (case side1 => repeat (first | exact (Kd.C_below HR1.out HB.out) | (with_reducible refine Kd.C_alloc ?_ _) | (with_reducible refine Kd.C_drewN ?_ _) | (with_reducible refine Kd.C_drew ?_))); (case side2 => exact HC1.out); rintro e w48 ⟨rfl, hb⟩; refine ⟨_, rfl, ?_⟩; have n0_ := Aside0.mk (Kd.R_below (by (with_reducible repeat (first | apply Kd.R_alloc | apply Kd.R_drewN | apply Kd.R_drew)); exact HO_7.out) hb); have n1_ := Aside0.mk (below_step (by repeat (first | (with_reducible first | exact HB.out | apply below_alloc | apply pw_below_drewN | apply below_drew1) | exact HB.out)) hb); clear HO_7; clear HB; have HO_7 := n0_; have HB := n1_; clear n0_ n1_; (try clear hb); (try clear hb2); (try clear hk); (try clear hi)) | ((with_reducible refine gate_dst (N := 11) rfl ?_); (try (refine gate_guard (by rfl) ?_; dsimp only)); refine box_event ?hg (N := 11) ?hd (cs := #[.int .i64 0, .int .i64 0, .string (⟨#[]⟩ : ByteArray)]) (t := 32) ?hr ?_; (case hd => rfl); (case hg => rfl); (case hr => first | (go_simp; done) | (go_simp; rfl)); intro gb209 hg w49 hbox hb; have n0_ := Aside0.mk (Kd.R_below (Kd.R_elderB (by (with_reducible repeat (first | apply Kd.R_alloc | apply Kd.R_drewN | apply Kd.R_drew)); exact HO_7.out) gb209 (Nat.le_of_eq hg.symm)) hb); have n1_ := Aside0.mk (below_step (by repeat (first | (with_reducible first | exact HB.out | apply below_alloc | apply pw_below_drewN | apply below_drew1) | exact HB.out)) hb); have n2_ := Aside0.mk (hbox); have n3_ := Aside0.mk ((by rw [hg]; exact (below_size (by repeat (first | (with_reducible first | exact HB.out | apply below_alloc | apply pw_below_drewN | apply below_drew1) | exact HB.out))) : w.heap.size ≤ gb209)); have n4_ := Aside0.mk ((by rw [hg]; exact (below_size (by repeat (first | (with_reducible first | exact HB.out | apply below_alloc | apply pw_below_drewN | apply below_drew1) | exact HB.out))) : w.heap.size ≤ gb209)); clear HO_7; clear HB; have HO_7 := n0_; have HB := n1_; have BK209 := n2_; have GW209 := n3_; have GE209 := n4_; clear n0_ n1_ n2_ n3_ n4_; clear hb hbox hg; have hcz50_0 : w49.cell? ⟨gb209, 0, none⟩ = some (.int .i64 0) := (blk_cell BK209.out 0).trans rfl; have hcz50_1 : w49.cell? ⟨gb209, 1, none⟩ = some (.int .i64 0) := (blk_cell BK209.out 1).trans rfl; have hcz50_2 : w49.cell? ⟨gb209, 2, none⟩ = some (.string (⟨#[]⟩ : ByteArray)) := (blk_cell BK209.out 2).trans rfl; have hfz50_0 := blk_frozen BK209.out 0; have hfz50_1 := blk_frozen BK209.out 1; have hfz50_2 := blk_frozen BK209.out 2) | ((with_reducible refine gate_callee (f := 16) rfl ?_); refine goesL_ (some 84) rfl rfl Try.func16 (by kernel_rfl) rfl #[.int .i64 (wrap64 (1 + (wrap64 (Int.tmod (IntKind.u64.wrap (a0)) 4)))), .slice Ao47 x7_1.length co47] rfl (by (try simp only [List.map_toArray, List.map_cons, List.map_nil]); first | done | rfl | (simp only [List.length_drop, List.length_take]; rfl)) ?_; (with_reducible refine (quarrylaw17_gathered.print (wrap64 (1 + (wrap64 (Int.tmod (IntKind.u64.wrap (a0)) 4)))) _ _ x7_1 t210 t211 t212 false _ ?side1 ?side2 A35.out).mono ?_); (case side1 => refine (Kd.R_reads' (e := 32) (base := w.heap.size) (ok := fun k_ => (True ∧ k_ ≠ gb209)) (n := x7_1.length) (c := co47) ?_).2.2; exact (by (with_reducible repeat (first | apply Kd.R_alloc | apply Kd.R_drewN | apply Kd.R_drew)); exact (Kd.R_mono (Kd.R_far (p := ⟨gb209, 2, none⟩) (Kd.R_far (p := ⟨gb209, 1, none⟩) (Kd.R_far (p := ⟨gb209, 0, none⟩) (Kd.R_mono HO_7.out (fun k_ hk => (⟨hk, hk.2⟩ : _ ∧ k_ ≠ gb209))) (fun _ hk => hk.2) (.int .i64 t205)) (fun _ hk => hk.2) (.int .i64 t206)) (fun _ hk => hk.2) (.string t207)) (fun _ h_ => h_.1)))); (case side2 => exact (Kd.R_reads' HO_7.out).2.1); rintro e w51 ⟨rfl, hb⟩; refine ⟨_, rfl, ?_⟩; have n0_ := Aside0.mk (Kd.R_below (by (with_reducible repeat (first | apply Kd.R_alloc | apply Kd.R_drewN | apply Kd.R_drew)); exact (Kd.R_mono (Kd.R_far (p := ⟨gb209, 2, none⟩) (Kd.R_far (p := ⟨gb209, 1, none⟩) (Kd.R_far (p := ⟨gb209, 0, none⟩) (Kd.R_mono HO_7.out (fun k_ hk => (⟨hk, hk.2⟩ : _ ∧ k_ ≠ gb209))) (fun _ hk => hk.2) (.int .i64 t205)) (fun _ hk => hk.2) (.int .i64 t206)) (fun _ hk => hk.2) (.string t207)) (fun _ h_ => h_.1))) hb); have n1_ := Aside0.mk (blk_below (g := gb209) (o := .cells #[.int .i64 t205, .int .i64 t206, .string t207] 32 (0, 0)) (by (with_reducible repeat (first | refine blk_drewN ?_ _ | refine blk_drew ?_ | refine blk_alloc ?_ _)); refine blk_put (cs := #[.int .i64 t205, .int .i64 t206, .string (⟨#[]⟩ : ByteArray)]) ?_ 2 _ rfl; (with_reducible repeat (first | refine blk_drewN ?_ _ | refine blk_drew ?_ | refine blk_alloc ?_ _)); refine blk_put (cs := #[.int .i64 t205, .int .i64 0, .string (⟨#[]⟩ : ByteArray)]) ?_ 1 _ rfl; (with_reducible repeat (first | refine blk_drewN ?_ _ | refine blk_drew ?_ | refine blk_alloc ?_ _)); refine blk_put (cs := #[.int .i64 0, .int .i64 0, .string (⟨#[]⟩ : ByteArray)]) ?_ 0 _ rfl; (with_reducible repeat (first | refine blk_drewN ?_ _ | refine blk_drew ?_ | refine blk_alloc ?_ _)); exact BK209.out) hb); have n2_ := Aside0.mk (below_step (by repeat (first | (with_reducible first | exact HB.out | apply below_alloc | apply pw_below_drewN | apply below_drew1 | refine below_set ?_ GE209.out) | exact HB.out)) hb); clear HO_7; clear BK209; clear HB; have HO_7 := n0_; have BK209 := n1_; have HB := n2_; clear n0_ n1_ n2_; (try clear hb); (try clear hb2); (try clear hk); (try clear hi)) | ((with_reducible refine gate_dst (N := 13) rfl ?_); (try (refine gate_guard (by rfl) ?_; dsimp only)); refine box_event ?hg (N := 13) ?hd (cs := #[.int .i64 0, .int .i64 0, .string (⟨#[]⟩ : ByteArray)]) (t := 32) ?hr ?_; (case hd => rfl); (case hg => rfl); (case hr => first | (go_simp; done) | (go_simp; rfl)); intro gb214 hg w52 hbox hb; have n0_ := Aside0.mk (Kd.R_below (Kd.R_elderB (by (with_reducible repeat (first | apply Kd.R_alloc | apply Kd.R_drewN | apply Kd.R_drew)); exact HO_7.out) gb214 (Nat.le_of_eq hg.symm)) hb); have n1_ := Aside0.mk (blk_below (g := gb209) (o := .cells #[.int .i64 t205, .int .i64 t206, .string t207] 32 (0, 0)) (bk_ BK209) hb); have n2_ := Aside0.mk (below_step (by repeat (first | (with_reducible first | exact HB.out | apply below_alloc | apply pw_below_drewN | apply below_drew1 | refine below_set ?_ GE209.out) | exact HB.out)) hb); have n3_ := Aside0.mk (hbox); have n4_ := Aside0.mk ((by rw [hg]; exact (below_size (by repeat (first | (with_reducible first | exact HB.out | apply below_alloc | apply pw_below_drewN | apply below_drew1 | refine below_set ?_ GE209.out) | exact HB.out))) : w.heap.size ≤ gb214)); have n5_ := Aside0.mk ((by rw [hg]; exact (below_size (by repeat (first | (with_reducible first | exact HB.out | apply below_alloc | apply pw_below_drewN | apply below_drew1 | refine below_set ?_ GE209.out) | exact HB.out))) : w.heap.size ≤ gb214)); have n6_ := Aside0.mk ((by rw [hg]; exact Nat.ne_of_lt (blk_lt (g := gb209) (o := .cells #[.int .i64 t205, .int .i64 t206, .string t207] 32 (0, 0)) (bk_ BK209)) : gb209 ≠ gb214)); have n7_ := Aside0.mk ((by rw [hg]; exact Nat.ne_of_gt (blk_lt (g := gb209) (o := .cells #[.int .i64 t205, .int .i64 t206, .string t207] 32 (0, 0)) (bk_ BK209)) : gb214 ≠ gb209)); clear HO_7; clear BK209; clear HB; have HO_7 := n0_; have BK209 := n1_; have HB := n2_; have BK214 := n3_; have GW214 := n4_; have GE214 := n5_; have NB209_214 := n6_; have NB214_209 := n7_; clear n0_ n1_ n2_ n3_ n4_ n5_ n6_ n7_; clear hb hbox hg; have hnb53 := NB214_209.out; have hnc53 := NB209_214.out; have hcz54_0 : w52.cell? ⟨gb214, 0, none⟩ = some (.int .i64 0) := (blk_cell BK214.out 0).trans rfl; have hcz54_1 : w52.cell? ⟨gb214, 1, none⟩ = some (.int .i64 0) := (blk_cell BK214.out 1).trans rfl; have hcz54_2 : w52.cell? ⟨gb214, 2, none⟩ = some (.string (⟨#[]⟩ : ByteArray)) := (blk_cell BK214.out 2).trans rfl; have hfz54_0 := blk_frozen BK214.out 0; have hfz54_1 := blk_frozen BK214.out 1; have hfz54_2 := blk_frozen BK214.out 2))
          go_ret
          exact ⟨by first | rfl | (simp [errW_none, errW_some] <;> rfl) | (simp [*, errW_none, errW_some] <;> rfl), by repeat (first | (with_reducible first | exact HB.out | apply below_alloc | apply pw_below_drewN | apply below_drew1 | refine below_set ?_ GE209.out | refine below_set ?_ GE214.out) | exact HB.out)⟩
        ·replace c36 := Bool.eq_false_iff.mpr c36
         subst c36
         have H1 : (some true) = some r := by rw [if_neg (show ¬ (false = true) by decide)] at H; exact H
         clear H
         have H := H1
         clear H1
         obtain rfl := Option.some.inj H
         obtain ⟨Ao55, co55, eo55⟩ := Kd.R_slice HO_7.out
         subst eo55
         go_wp2_with (first | ((with_reducible refine gate_callee (f := 16) rfl ?_); refine goesL_ (some 78) rfl rfl Try.func16 (by kernel_rfl) rfl #[.int .i64 (wrap64 (1 + (wrap64 (Int.tmod (IntKind.u64.wrap (a0)) 4)))), .slice A1 l1.length c1] rfl (by (try simp only [List.map_toArray, List.map_cons, List.map_nil]); first | done | rfl | (simp only [List.length_drop, List.length_take]; rfl)) ?_; (with_reducible refine (quarrylaw17_gathered.print (wrap64 (1 + (wrap64 (Int.tmod (IntKind.u64.wrap (a0)) 4)))) _ _ l1 t205 t206 t207 false _ ?side1 ?side2 A34.out).mono ?_); (case side1 => repeat (first | exact (Kd.C_below HR1.out HB.out) | (with_reducible refine Kd.C_alloc ?_ _) | (with_reducible refine Kd.C_drewN ?_ _) | (with_reducible refine Kd.C_drew ?_))); (case side2 => exact HC1.out); rintro e w56 ⟨rfl, hb⟩; refine ⟨_, rfl, ?_⟩; have n0_ := Aside0.mk (Kd.R_below (by (with_reducible repeat (first | apply Kd.R_alloc | apply Kd.R_drewN | apply Kd.R_drew)); exact HO_7.out) hb); have n1_ := Aside0.mk (below_step (by repeat (first | (with_reducible first | exact HB.out | apply below_alloc | apply pw_below_drewN | apply below_drew1) | exact HB.out)) hb); clear HO_7; clear HB; have HO_7 := n0_; have HB := n1_; clear n0_ n1_; (try clear hb); (try clear hb2); (try clear hk); (try clear hi)) | ((with_reducible refine gate_dst (N := 11) rfl ?_); (try (refine gate_guard (by rfl) ?_; dsimp only)); refine box_event ?hg (N := 11) ?hd (cs := #[.int .i64 0, .int .i64 0, .string (⟨#[]⟩ : ByteArray)]) (t := 32) ?hr ?_; (case hd => rfl); (case hg => rfl); (case hr => first | (go_simp; done) | (go_simp; rfl)); intro gb209 hg w57 hbox hb; have n0_ := Aside0.mk (Kd.R_below (Kd.R_elderB (by (with_reducible repeat (first | apply Kd.R_alloc | apply Kd.R_drewN | apply Kd.R_drew)); exact HO_7.out) gb209 (Nat.le_of_eq hg.symm)) hb); have n1_ := Aside0.mk (below_step (by repeat (first | (with_reducible first | exact HB.out | apply below_alloc | apply pw_below_drewN | apply below_drew1) | exact HB.out)) hb); have n2_ := Aside0.mk (hbox); have n3_ := Aside0.mk ((by rw [hg]; exact (below_size (by repeat (first | (with_reducible first | exact HB.out | apply below_alloc | apply pw_below_drewN | apply below_drew1) | exact HB.out))) : w.heap.size ≤ gb209)); have n4_ := Aside0.mk ((by rw [hg]; exact (below_size (by repeat (first | (with_reducible first | exact HB.out | apply below_alloc | apply pw_below_drewN | apply below_drew1) | exact HB.out))) : w.heap.size ≤ gb209)); clear HO_7; clear HB; have HO_7 := n0_; have HB := n1_; have BK209 := n2_; have GW209 := n3_; have GE209 := n4_; clear n0_ n1_ n2_ n3_ n4_; clear hb hbox hg; have hcz58_0 : w57.cell? ⟨gb209, 0, none⟩ = some (.int .i64 0) := (blk_cell BK209.out 0).trans rfl; have hcz58_1 : w57.cell? ⟨gb209, 1, none⟩ = some (.int .i64 0) := (blk_cell BK209.out 1).trans rfl; have hcz58_2 : w57.cell? ⟨gb209, 2, none⟩ = some (.string (⟨#[]⟩ : ByteArray)) := (blk_cell BK209.out 2).trans rfl; have hfz58_0 := blk_frozen BK209.out 0; have hfz58_1 := blk_frozen BK209.out 1; have hfz58_2 := blk_frozen BK209.out 2) | ((with_reducible refine gate_callee (f := 16) rfl ?_); refine goesL_ (some 84) rfl rfl Try.func16 (by kernel_rfl) rfl #[.int .i64 (wrap64 (1 + (wrap64 (Int.tmod (IntKind.u64.wrap (a0)) 4)))), .slice Ao55 x7_1.length co55] rfl (by (try simp only [List.map_toArray, List.map_cons, List.map_nil]); first | done | rfl | (simp only [List.length_drop, List.length_take]; rfl)) ?_; (with_reducible refine (quarrylaw17_gathered.print (wrap64 (1 + (wrap64 (Int.tmod (IntKind.u64.wrap (a0)) 4)))) _ _ x7_1 t210 t211 t212 t213 _ ?side1 ?side2 A35.out).mono ?_); (case side1 => refine (Kd.R_reads' (e := 32) (base := w.heap.size) (ok := fun k_ => (True ∧ k_ ≠ gb209)) (n := x7_1.length) (c := co55) ?_).2.2; exact (by (with_reducible repeat (first | apply Kd.R_alloc | apply Kd.R_drewN | apply Kd.R_drew)); exact (Kd.R_mono (Kd.R_far (p := ⟨gb209, 2, none⟩) (Kd.R_far (p := ⟨gb209, 1, none⟩) (Kd.R_far (p := ⟨gb209, 0, none⟩) (Kd.R_mono HO_7.out (fun k_ hk => (⟨hk, hk.2⟩ : _ ∧ k_ ≠ gb209))) (fun _ hk => hk.2) (.int .i64 t205)) (fun _ hk => hk.2) (.int .i64 t206)) (fun _ hk => hk.2) (.string t207)) (fun _ h_ => h_.1)))); (case side2 => exact (Kd.R_reads' HO_7.out).2.1); rintro e w59 ⟨rfl, hb⟩; refine ⟨_, rfl, ?_⟩; have n0_ := Aside0.mk (Kd.R_below (by (with_reducible repeat (first | apply Kd.R_alloc | apply Kd.R_drewN | apply Kd.R_drew)); exact (Kd.R_mono (Kd.R_far (p := ⟨gb209, 2, none⟩) (Kd.R_far (p := ⟨gb209, 1, none⟩) (Kd.R_far (p := ⟨gb209, 0, none⟩) (Kd.R_mono HO_7.out (fun k_ hk => (⟨hk, hk.2⟩ : _ ∧ k_ ≠ gb209))) (fun _ hk => hk.2) (.int .i64 t205)) (fun _ hk => hk.2) (.int .i64 t206)) (fun _ hk => hk.2) (.string t207)) (fun _ h_ => h_.1))) hb); have n1_ := Aside0.mk (blk_below (g := gb209) (o := .cells #[.int .i64 t205, .int .i64 t206, .string t207] 32 (0, 0)) (by (with_reducible repeat (first | refine blk_drewN ?_ _ | refine blk_drew ?_ | refine blk_alloc ?_ _)); refine blk_put (cs := #[.int .i64 t205, .int .i64 t206, .string (⟨#[]⟩ : ByteArray)]) ?_ 2 _ rfl; (with_reducible repeat (first | refine blk_drewN ?_ _ | refine blk_drew ?_ | refine blk_alloc ?_ _)); refine blk_put (cs := #[.int .i64 t205, .int .i64 0, .string (⟨#[]⟩ : ByteArray)]) ?_ 1 _ rfl; (with_reducible repeat (first | refine blk_drewN ?_ _ | refine blk_drew ?_ | refine blk_alloc ?_ _)); refine blk_put (cs := #[.int .i64 0, .int .i64 0, .string (⟨#[]⟩ : ByteArray)]) ?_ 0 _ rfl; (with_reducible repeat (first | refine blk_drewN ?_ _ | refine blk_drew ?_ | refine blk_alloc ?_ _)); exact BK209.out) hb); have n2_ := Aside0.mk (below_step (by repeat (first | (with_reducible first | exact HB.out | apply below_alloc | apply pw_below_drewN | apply below_drew1 | refine below_set ?_ GE209.out) | exact HB.out)) hb); clear HO_7; clear BK209; clear HB; have HO_7 := n0_; have BK209 := n1_; have HB := n2_; clear n0_ n1_ n2_; (try clear hb); (try clear hb2); (try clear hk); (try clear hi)) | ((with_reducible refine gate_dst (N := 13) rfl ?_); (try (refine gate_guard (by rfl) ?_; dsimp only)); refine box_event ?hg (N := 13) ?hd (cs := #[.int .i64 0, .int .i64 0, .string (⟨#[]⟩ : ByteArray)]) (t := 32) ?hr ?_; (case hd => rfl); (case hg => rfl); (case hr => first | (go_simp; done) | (go_simp; rfl)); intro gb214 hg w60 hbox hb; have n0_ := Aside0.mk (Kd.R_below (Kd.R_elderB (by (with_reducible repeat (first | apply Kd.R_alloc | apply Kd.R_drewN | apply Kd.R_drew)); exact HO_7.out) gb214 (Nat.le_of_eq hg.symm)) hb); have n1_ := Aside0.mk (blk_below (g := gb209) (o := .cells #[.int .i64 t205, .int .i64 t206, .string t207] 32 (0, 0)) (bk_ BK209) hb); have n2_ := Aside0.mk (below_step (by repeat (first | (with_reducible first | exact HB.out | apply below_alloc | apply pw_below_drewN | apply below_drew1 | refine below_set ?_ GE209.out) | exact HB.out)) hb); have n3_ := Aside0.mk (hbox); have n4_ := Aside0.mk ((by rw [hg]; exact (below_size (by repeat (first | (with_reducible first | exact HB.out | apply below_alloc | apply pw_below_drewN | apply below_drew1 | refine below_set ?_ GE209.out) | exact HB.out))) : w.heap.size ≤ gb214)); have n5_ := Aside0.mk ((by rw [hg]; exact (below_size (by repeat (first | (with_reducible first | exact HB.out | apply below_alloc | apply pw_below_drewN | apply below_drew1 | refine below_set ?_ GE209.out) | exact HB.out))) : w.heap.size ≤ gb214)); have n6_ := Aside0.mk ((by rw [hg]; exact Nat.ne_of_lt (blk_lt (g := gb209) (o := .cells #[.int .i64 t205, .int .i64 t206, .string t207] 32 (0, 0)) (bk_ BK209)) : gb209 ≠ gb214)); have n7_ := Aside0.mk ((by rw [hg]; exact Nat.ne_of_gt (blk_lt (g := gb209) (o := .cells #[.int .i64 t205, .int .i64 t206, .string t207] 32 (0, 0)) (bk_ BK209)) : gb214 ≠ gb209)); clear HO_7; clear BK209; clear HB; have HO_7 := n0_; have BK209 := n1_; have HB := n2_; have BK214 := n3_; have GW214 := n4_; have GE214 := n5_; have NB209_214 := n6_; have NB214_209 := n7_; clear n0_ n1_ n2_ n3_ n4_ n5_ n6_ n7_; clear hb hbox hg; have hnb61 := NB214_209.out; have hnc61 := NB209_214.out; have hcz62_0 : w60.cell? ⟨gb214, 0, none⟩ = some (.int .i64 0) := (blk_cell BK214.out 0).trans rfl; have hcz62_1 : w60.cell? ⟨gb214, 1, none⟩ = some (.int .i64 0) := (blk_cell BK214.out 1).trans rfl; have hcz62_2 : w60.cell? ⟨gb214, 2, none⟩ = some (.string (⟨#[]⟩ : ByteArray)) := (blk_cell BK214.out 2).trans rfl; have hfz62_0 := blk_frozen BK214.out 0; have hfz62_1 := blk_frozen BK214.out 1; have hfz62_2 := blk_frozen BK214.out 2))
         go_ret
         exact ⟨by first | rfl | (simp [errW_none, errW_some] <;> rfl) | (simp [*, errW_none, errW_some] <;> rfl), by repeat (first | (with_reducible first | exact HB.out | apply below_alloc | apply pw_below_drewN | apply below_drew1 | refine below_set ?_ GE209.out | refine below_set ?_ GE214.out) | exact HB.out)⟩
      ·rw [if_neg c14] at H
       have c14b0 : decide ((wrap64 (x8_1 + 1)) < (l2.length : Int)) = false := decide_eq_false c14
       clear c14
       replace H := Option.bind_eq_some_iff.mp H
       obtain ⟨⟨t215, t216, t217, t218⟩, A630, H⟩ := H
       replace H : ((quarrylaw17_gathered.f (wrap64 (1 + (wrap64 (Int.tmod (IntKind.u64.wrap (a0)) 4)))) x7_1).bind fun bt220 => (if t218 = true then (if bt220.2.2.2 = true then (some (t215 == bt220.1 && (t216 == bt220.2.1 && (t217.toList == bt220.2.2.1.toList)))) else (some true)) else (some true))) = some r := H
       have A63 := Aside0.mk A630
       clear A630
       replace H := Option.bind_eq_some_iff.mp H
       obtain ⟨⟨t220, t221, t222, t223⟩, A640, H⟩ := H
       replace H : (if t218 = true then (if t223 = true then (some (t215 == t220 && (t216 == t221 && (t217.toList == t222.toList)))) else (some true)) else (some true)) = some r := H
       have A64 := Aside0.mk A640
       clear A640
       by_cases c65 : t218 = true
       ·subst c65
        have H1 : (if t223 = true then (some (t215 == t220 && (t216 == t221 && (t217.toList == t222.toList)))) else (some true)) = some r := by rw [if_pos rfl] at H; exact H
        clear H
        have H := H1
        clear H1
        by_cases c66 : t223 = true
        ·subst c66
         have H1 : (some (t215 == t220 && (t216 == t221 && (t217.toList == t222.toList)))) = some r := by rw [if_pos rfl] at H; exact H
         clear H
         have H := H1
         clear H1
         obtain rfl := Option.some.inj H
         go_wp2_with (first | ((with_reducible refine gate_callee (f := 16) rfl ?_); refine goesL_ (some 78) rfl rfl Try.func16 (by kernel_rfl) rfl #[.int .i64 (wrap64 (1 + (wrap64 (Int.tmod (IntKind.u64.wrap (a0)) 4)))), .slice A1 l1.length c1] rfl (by (try simp only [List.map_toArray, List.map_cons, List.map_nil]); first | done | rfl | (simp only [List.length_drop, List.length_take]; rfl)) ?_; (with_reducible refine (quarrylaw17_gathered.print (wrap64 (1 + (wrap64 (Int.tmod (IntKind.u64.wrap (a0)) 4)))) _ _ l1 t215 t216 t217 true _ ?side1 ?side2 A63.out).mono ?_); (case side1 => repeat (first | exact (Kd.C_below HR1.out HB.out) | (with_reducible refine Kd.C_alloc ?_ _) | (with_reducible refine Kd.C_drewN ?_ _) | (with_reducible refine Kd.C_drew ?_))); (case side2 => exact HC1.out); rintro e w67 ⟨rfl, hb⟩; refine ⟨_, rfl, ?_⟩; have n0_ := Aside0.mk (Kd.R_below (by (with_reducible repeat (first | apply Kd.R_alloc | apply Kd.R_drewN | apply Kd.R_drew)); exact HO_7.out) hb); have n1_ := Aside0.mk (below_step (by repeat (first | (with_reducible first | exact HB.out | apply below_alloc | apply pw_below_drewN | apply below_drew1) | exact HB.out)) hb); clear HO_7; clear HB; have HO_7 := n0_; have HB := n1_; clear n0_ n1_; (try clear hb); (try clear hb2); (try clear hk); (try clear hi)) | ((with_reducible refine gate_dst (N := 11) rfl ?_); (try (refine gate_guard (by rfl) ?_; dsimp only)); refine box_event ?hg (N := 11) ?hd (cs := #[.int .i64 0, .int .i64 0, .string (⟨#[]⟩ : ByteArray)]) (t := 32) ?hr ?_; (case hd => rfl); (case hg => rfl); (case hr => first | (go_simp; done) | (go_simp; rfl)); intro gb219 hg w68 hbox hb; have n0_ := Aside0.mk (Kd.R_below (Kd.R_elderB (by (with_reducible repeat (first | apply Kd.R_alloc | apply Kd.R_drewN | apply Kd.R_drew)); exact HO_7.out) gb219 (Nat.le_of_eq hg.symm)) hb); have n1_ := Aside0.mk (below_step (by repeat (first | (with_reducible first | exact HB.out | apply below_alloc | apply pw_below_drewN | apply below_drew1) | exact HB.out)) hb); have n2_ := Aside0.mk (hbox); have n3_ := Aside0.mk ((by rw [hg]; exact (below_size (by repeat (first | (with_reducible first | exact HB.out | apply below_alloc | apply pw_below_drewN | apply below_drew1) | exact HB.out))) : w.heap.size ≤ gb219)); have n4_ := Aside0.mk ((by rw [hg]; exact (below_size (by repeat (first | (with_reducible first | exact HB.out | apply below_alloc | apply pw_below_drewN | apply below_drew1) | exact HB.out))) : w.heap.size ≤ gb219)); clear HO_7; clear HB; have HO_7 := n0_; have HB := n1_; have BK219 := n2_; have GW219 := n3_; have GE219 := n4_; clear n0_ n1_ n2_ n3_ n4_; clear hb hbox hg; have hcz69_0 : w68.cell? ⟨gb219, 0, none⟩ = some (.int .i64 0) := (blk_cell BK219.out 0).trans rfl; have hcz69_1 : w68.cell? ⟨gb219, 1, none⟩ = some (.int .i64 0) := (blk_cell BK219.out 1).trans rfl; have hcz69_2 : w68.cell? ⟨gb219, 2, none⟩ = some (.string (⟨#[]⟩ : ByteArray)) := (blk_cell BK219.out 2).trans rfl; have hfz69_0 := blk_frozen BK219.out 0; have hfz69_1 := blk_frozen BK219.out 1; have hfz69_2 := blk_frozen BK219.out 2; obtain ⟨Ao70, co70, eo70⟩ := Kd.R_slice HO_7.out; subst eo70) | ((with_reducible refine gate_callee (f := 16) rfl ?_); refine goesL_ (some 84) rfl rfl Try.func16 (by kernel_rfl) rfl #[.int .i64 (wrap64 (1 + (wrap64 (Int.tmod (IntKind.u64.wrap (a0)) 4)))), .slice Ao70 x7_1.length co70] rfl (by (try simp only [List.map_toArray, List.map_cons, List.map_nil]); first | done | rfl | (simp only [List.length_drop, List.length_take]; rfl)) ?_; (with_reducible refine (quarrylaw17_gathered.print (wrap64 (1 + (wrap64 (Int.tmod (IntKind.u64.wrap (a0)) 4)))) _ _ x7_1 t220 t221 t222 true _ ?side1 ?side2 A64.out).mono ?_); (case side1 => refine (Kd.R_reads' (e := 32) (base := w.heap.size) (ok := fun k_ => (True ∧ k_ ≠ gb219)) (n := x7_1.length) (c := co70) ?_).2.2; exact (by (with_reducible repeat (first | apply Kd.R_alloc | apply Kd.R_drewN | apply Kd.R_drew)); exact (Kd.R_mono (Kd.R_far (p := ⟨gb219, 2, none⟩) (Kd.R_far (p := ⟨gb219, 1, none⟩) (Kd.R_far (p := ⟨gb219, 0, none⟩) (Kd.R_mono HO_7.out (fun k_ hk => (⟨hk, hk.2⟩ : _ ∧ k_ ≠ gb219))) (fun _ hk => hk.2) (.int .i64 t215)) (fun _ hk => hk.2) (.int .i64 t216)) (fun _ hk => hk.2) (.string t217)) (fun _ h_ => h_.1)))); (case side2 => exact (Kd.R_reads' HO_7.out).2.1); rintro e w71 ⟨rfl, hb⟩; refine ⟨_, rfl, ?_⟩; have n0_ := Aside0.mk (Kd.R_below (by (with_reducible repeat (first | apply Kd.R_alloc | apply Kd.R_drewN | apply Kd.R_drew)); exact (Kd.R_mono (Kd.R_far (p := ⟨gb219, 2, none⟩) (Kd.R_far (p := ⟨gb219, 1, none⟩) (Kd.R_far (p := ⟨gb219, 0, none⟩) (Kd.R_mono HO_7.out (fun k_ hk => (⟨hk, hk.2⟩ : _ ∧ k_ ≠ gb219))) (fun _ hk => hk.2) (.int .i64 t215)) (fun _ hk => hk.2) (.int .i64 t216)) (fun _ hk => hk.2) (.string t217)) (fun _ h_ => h_.1))) hb); have n1_ := Aside0.mk (blk_below (g := gb219) (o := .cells #[.int .i64 t215, .int .i64 t216, .string t217] 32 (0, 0)) (by (with_reducible repeat (first | refine blk_drewN ?_ _ | refine blk_drew ?_ | refine blk_alloc ?_ _)); refine blk_put (cs := #[.int .i64 t215, .int .i64 t216, .string (⟨#[]⟩ : ByteArray)]) ?_ 2 _ rfl; (with_reducible repeat (first | refine blk_drewN ?_ _ | refine blk_drew ?_ | refine blk_alloc ?_ _)); refine blk_put (cs := #[.int .i64 t215, .int .i64 0, .string (⟨#[]⟩ : ByteArray)]) ?_ 1 _ rfl; (with_reducible repeat (first | refine blk_drewN ?_ _ | refine blk_drew ?_ | refine blk_alloc ?_ _)); refine blk_put (cs := #[.int .i64 0, .int .i64 0, .string (⟨#[]⟩ : ByteArray)]) ?_ 0 _ rfl; (with_reducible repeat (first | refine blk_drewN ?_ _ | refine blk_drew ?_ | refine blk_alloc ?_ _)); exact BK219.out) hb); have n2_ := Aside0.mk (below_step (by repeat (first | (with_reducible first | exact HB.out | apply below_alloc | apply pw_below_drewN | apply below_drew1 | refine below_set ?_ GE219.out) | exact HB.out)) hb); clear HO_7; clear BK219; clear HB; have HO_7 := n0_; have BK219 := n1_; have HB := n2_; clear n0_ n1_ n2_; (try clear hb); (try clear hb2); (try clear hk); (try clear hi)) | ((with_reducible refine gate_dst (N := 13) rfl ?_); (try (refine gate_guard (by rfl) ?_; dsimp only)); refine box_event ?hg (N := 13) ?hd (cs := #[.int .i64 0, .int .i64 0, .string (⟨#[]⟩ : ByteArray)]) (t := 32) ?hr ?_; (case hd => rfl); (case hg => rfl); (case hr => first | (go_simp; done) | (go_simp; rfl)); intro gb224 hg w72 hbox hb; have n0_ := Aside0.mk (Kd.R_below (Kd.R_elderB (by (with_reducible repeat (first | apply Kd.R_alloc | apply Kd.R_drewN | apply Kd.R_drew)); exact HO_7.out) gb224 (Nat.le_of_eq hg.symm)) hb); have n1_ := Aside0.mk (blk_below (g := gb219) (o := .cells #[.int .i64 t215, .int .i64 t216, .string t217] 32 (0, 0)) (bk_ BK219) hb); have n2_ := Aside0.mk (below_step (by repeat (first | (with_reducible first | exact HB.out | apply below_alloc | apply pw_below_drewN | apply below_drew1 | refine below_set ?_ GE219.out) | exact HB.out)) hb); have n3_ := Aside0.mk (hbox); have n4_ := Aside0.mk ((by rw [hg]; exact (below_size (by repeat (first | (with_reducible first | exact HB.out | apply below_alloc | apply pw_below_drewN | apply below_drew1 | refine below_set ?_ GE219.out) | exact HB.out))) : w.heap.size ≤ gb224)); have n5_ := Aside0.mk ((by rw [hg]; exact (below_size (by repeat (first | (with_reducible first | exact HB.out | apply below_alloc | apply pw_below_drewN | apply below_drew1 | refine below_set ?_ GE219.out) | exact HB.out))) : w.heap.size ≤ gb224)); have n6_ := Aside0.mk ((by rw [hg]; exact Nat.ne_of_lt (blk_lt (g := gb219) (o := .cells #[.int .i64 t215, .int .i64 t216, .string t217] 32 (0, 0)) (bk_ BK219)) : gb219 ≠ gb224)); have n7_ := Aside0.mk ((by rw [hg]; exact Nat.ne_of_gt (blk_lt (g := gb219) (o := .cells #[.int .i64 t215, .int .i64 t216, .string t217] 32 (0, 0)) (bk_ BK219)) : gb224 ≠ gb219)); clear HO_7; clear BK219; clear HB; have HO_7 := n0_; have BK219 := n1_; have HB := n2_; have BK224 := n3_; have GW224 := n4_; have GE224 := n5_; have NB219_224 := n6_; have NB224_219 := n7_; clear n0_ n1_ n2_ n3_ n4_ n5_ n6_ n7_; clear hb hbox hg; have hnb73 := NB224_219.out; have hnc73 := NB219_224.out; have hcz74_0 : w72.cell? ⟨gb224, 0, none⟩ = some (.int .i64 0) := (blk_cell BK224.out 0).trans rfl; have hcz74_1 : w72.cell? ⟨gb224, 1, none⟩ = some (.int .i64 0) := (blk_cell BK224.out 1).trans rfl; have hcz74_2 : w72.cell? ⟨gb224, 2, none⟩ = some (.string (⟨#[]⟩ : ByteArray)) := (blk_cell BK224.out 2).trans rfl; have hfz74_0 := blk_frozen BK224.out 0; have hfz74_1 := blk_frozen BK224.out 1; have hfz74_2 := blk_frozen BK224.out 2; have hcz75_0 : w72.cell? ⟨gb219, 0, none⟩ = some (.int .i64 t215) := (blk_cell BK219.out 0).trans rfl; have hcz75_1 : w72.cell? ⟨gb219, 1, none⟩ = some (.int .i64 t216) := (blk_cell BK219.out 1).trans rfl; have hcz75_2 : w72.cell? ⟨gb219, 2, none⟩ = some (.string t217) := (blk_cell BK219.out 2).trans rfl; have hfz75_0 := blk_frozen BK219.out 0; have hfz75_1 := blk_frozen BK219.out 1; have hfz75_2 := blk_frozen BK219.out 2))
         go_ret
         exact ⟨by first | rfl | (simp [errW_none, errW_some] <;> rfl) | (simp [*, errW_none, errW_some] <;> rfl), by repeat (first | (with_reducible first | exact HB.out | apply below_alloc | apply pw_below_drewN | apply below_drew1 | refine below_set ?_ GE219.out | refine below_set ?_ GE224.out) | exact HB.out)⟩
        ·replace c66 := Bool.eq_false_iff.mpr c66
         subst c66
         have H1 : (some true) = some r := by rw [if_neg (show ¬ (false = true) by decide)] at H; exact H
         clear H
         have H := H1
         clear H1
         obtain rfl := Option.some.inj H
         go_wp2_with (first | ((with_reducible refine gate_callee (f := 16) rfl ?_); refine goesL_ (some 78) rfl rfl Try.func16 (by kernel_rfl) rfl #[.int .i64 (wrap64 (1 + (wrap64 (Int.tmod (IntKind.u64.wrap (a0)) 4)))), .slice A1 l1.length c1] rfl (by (try simp only [List.map_toArray, List.map_cons, List.map_nil]); first | done | rfl | (simp only [List.length_drop, List.length_take]; rfl)) ?_; (with_reducible refine (quarrylaw17_gathered.print (wrap64 (1 + (wrap64 (Int.tmod (IntKind.u64.wrap (a0)) 4)))) _ _ l1 t215 t216 t217 true _ ?side1 ?side2 A63.out).mono ?_); (case side1 => repeat (first | exact (Kd.C_below HR1.out HB.out) | (with_reducible refine Kd.C_alloc ?_ _) | (with_reducible refine Kd.C_drewN ?_ _) | (with_reducible refine Kd.C_drew ?_))); (case side2 => exact HC1.out); rintro e w76 ⟨rfl, hb⟩; refine ⟨_, rfl, ?_⟩; have n0_ := Aside0.mk (Kd.R_below (by (with_reducible repeat (first | apply Kd.R_alloc | apply Kd.R_drewN | apply Kd.R_drew)); exact HO_7.out) hb); have n1_ := Aside0.mk (below_step (by repeat (first | (with_reducible first | exact HB.out | apply below_alloc | apply pw_below_drewN | apply below_drew1) | exact HB.out)) hb); clear HO_7; clear HB; have HO_7 := n0_; have HB := n1_; clear n0_ n1_; (try clear hb); (try clear hb2); (try clear hk); (try clear hi)) | ((with_reducible refine gate_dst (N := 11) rfl ?_); (try (refine gate_guard (by rfl) ?_; dsimp only)); refine box_event ?hg (N := 11) ?hd (cs := #[.int .i64 0, .int .i64 0, .string (⟨#[]⟩ : ByteArray)]) (t := 32) ?hr ?_; (case hd => rfl); (case hg => rfl); (case hr => first | (go_simp; done) | (go_simp; rfl)); intro gb219 hg w77 hbox hb; have n0_ := Aside0.mk (Kd.R_below (Kd.R_elderB (by (with_reducible repeat (first | apply Kd.R_alloc | apply Kd.R_drewN | apply Kd.R_drew)); exact HO_7.out) gb219 (Nat.le_of_eq hg.symm)) hb); have n1_ := Aside0.mk (below_step (by repeat (first | (with_reducible first | exact HB.out | apply below_alloc | apply pw_below_drewN | apply below_drew1) | exact HB.out)) hb); have n2_ := Aside0.mk (hbox); have n3_ := Aside0.mk ((by rw [hg]; exact (below_size (by repeat (first | (with_reducible first | exact HB.out | apply below_alloc | apply pw_below_drewN | apply below_drew1) | exact HB.out))) : w.heap.size ≤ gb219)); have n4_ := Aside0.mk ((by rw [hg]; exact (below_size (by repeat (first | (with_reducible first | exact HB.out | apply below_alloc | apply pw_below_drewN | apply below_drew1) | exact HB.out))) : w.heap.size ≤ gb219)); clear HO_7; clear HB; have HO_7 := n0_; have HB := n1_; have BK219 := n2_; have GW219 := n3_; have GE219 := n4_; clear n0_ n1_ n2_ n3_ n4_; clear hb hbox hg; have hcz78_0 : w77.cell? ⟨gb219, 0, none⟩ = some (.int .i64 0) := (blk_cell BK219.out 0).trans rfl; have hcz78_1 : w77.cell? ⟨gb219, 1, none⟩ = some (.int .i64 0) := (blk_cell BK219.out 1).trans rfl; have hcz78_2 : w77.cell? ⟨gb219, 2, none⟩ = some (.string (⟨#[]⟩ : ByteArray)) := (blk_cell BK219.out 2).trans rfl; have hfz78_0 := blk_frozen BK219.out 0; have hfz78_1 := blk_frozen BK219.out 1; have hfz78_2 := blk_frozen BK219.out 2; obtain ⟨Ao79, co79, eo79⟩ := Kd.R_slice HO_7.out; subst eo79) | ((with_reducible refine gate_callee (f := 16) rfl ?_); refine goesL_ (some 84) rfl rfl Try.func16 (by kernel_rfl) rfl #[.int .i64 (wrap64 (1 + (wrap64 (Int.tmod (IntKind.u64.wrap (a0)) 4)))), .slice Ao79 x7_1.length co79] rfl (by (try simp only [List.map_toArray, List.map_cons, List.map_nil]); first | done | rfl | (simp only [List.length_drop, List.length_take]; rfl)) ?_; (with_reducible refine (quarrylaw17_gathered.print (wrap64 (1 + (wrap64 (Int.tmod (IntKind.u64.wrap (a0)) 4)))) _ _ x7_1 t220 t221 t222 false _ ?side1 ?side2 A64.out).mono ?_); (case side1 => refine (Kd.R_reads' (e := 32) (base := w.heap.size) (ok := fun k_ => (True ∧ k_ ≠ gb219)) (n := x7_1.length) (c := co79) ?_).2.2; exact (by (with_reducible repeat (first | apply Kd.R_alloc | apply Kd.R_drewN | apply Kd.R_drew)); exact (Kd.R_mono (Kd.R_far (p := ⟨gb219, 2, none⟩) (Kd.R_far (p := ⟨gb219, 1, none⟩) (Kd.R_far (p := ⟨gb219, 0, none⟩) (Kd.R_mono HO_7.out (fun k_ hk => (⟨hk, hk.2⟩ : _ ∧ k_ ≠ gb219))) (fun _ hk => hk.2) (.int .i64 t215)) (fun _ hk => hk.2) (.int .i64 t216)) (fun _ hk => hk.2) (.string t217)) (fun _ h_ => h_.1)))); (case side2 => exact (Kd.R_reads' HO_7.out).2.1); rintro e w80 ⟨rfl, hb⟩; refine ⟨_, rfl, ?_⟩; have n0_ := Aside0.mk (Kd.R_below (by (with_reducible repeat (first | apply Kd.R_alloc | apply Kd.R_drewN | apply Kd.R_drew)); exact (Kd.R_mono (Kd.R_far (p := ⟨gb219, 2, none⟩) (Kd.R_far (p := ⟨gb219, 1, none⟩) (Kd.R_far (p := ⟨gb219, 0, none⟩) (Kd.R_mono HO_7.out (fun k_ hk => (⟨hk, hk.2⟩ : _ ∧ k_ ≠ gb219))) (fun _ hk => hk.2) (.int .i64 t215)) (fun _ hk => hk.2) (.int .i64 t216)) (fun _ hk => hk.2) (.string t217)) (fun _ h_ => h_.1))) hb); have n1_ := Aside0.mk (blk_below (g := gb219) (o := .cells #[.int .i64 t215, .int .i64 t216, .string t217] 32 (0, 0)) (by (with_reducible repeat (first | refine blk_drewN ?_ _ | refine blk_drew ?_ | refine blk_alloc ?_ _)); refine blk_put (cs := #[.int .i64 t215, .int .i64 t216, .string (⟨#[]⟩ : ByteArray)]) ?_ 2 _ rfl; (with_reducible repeat (first | refine blk_drewN ?_ _ | refine blk_drew ?_ | refine blk_alloc ?_ _)); refine blk_put (cs := #[.int .i64 t215, .int .i64 0, .string (⟨#[]⟩ : ByteArray)]) ?_ 1 _ rfl; (with_reducible repeat (first | refine blk_drewN ?_ _ | refine blk_drew ?_ | refine blk_alloc ?_ _)); refine blk_put (cs := #[.int .i64 0, .int .i64 0, .string (⟨#[]⟩ : ByteArray)]) ?_ 0 _ rfl; (with_reducible repeat (first | refine blk_drewN ?_ _ | refine blk_drew ?_ | refine blk_alloc ?_ _)); exact BK219.out) hb); have n2_ := Aside0.mk (below_step (by repeat (first | (with_reducible first | exact HB.out | apply below_alloc | apply pw_below_drewN | apply below_drew1 | refine below_set ?_ GE219.out) | exact HB.out)) hb); clear HO_7; clear BK219; clear HB; have HO_7 := n0_; have BK219 := n1_; have HB := n2_; clear n0_ n1_ n2_; (try clear hb); (try clear hb2); (try clear hk); (try clear hi)) | ((with_reducible refine gate_dst (N := 13) rfl ?_); (try (refine gate_guard (by rfl) ?_; dsimp only)); refine box_event ?hg (N := 13) ?hd (cs := #[.int .i64 0, .int .i64 0, .string (⟨#[]⟩ : ByteArray)]) (t := 32) ?hr ?_; (case hd => rfl); (case hg => rfl); (case hr => first | (go_simp; done) | (go_simp; rfl)); intro gb224 hg w81 hbox hb; have n0_ := Aside0.mk (Kd.R_below (Kd.R_elderB (by (with_reducible repeat (first | apply Kd.R_alloc | apply Kd.R_drewN | apply Kd.R_drew)); exact HO_7.out) gb224 (Nat.le_of_eq hg.symm)) hb); have n1_ := Aside0.mk (blk_below (g := gb219) (o := .cells #[.int .i64 t215, .int .i64 t216, .string t217] 32 (0, 0)) (bk_ BK219) hb); have n2_ := Aside0.mk (below_step (by repeat (first | (with_reducible first | exact HB.out | apply below_alloc | apply pw_below_drewN | apply below_drew1 | refine below_set ?_ GE219.out) | exact HB.out)) hb); have n3_ := Aside0.mk (hbox); have n4_ := Aside0.mk ((by rw [hg]; exact (below_size (by repeat (first | (with_reducible first | exact HB.out | apply below_alloc | apply pw_below_drewN | apply below_drew1 | refine below_set ?_ GE219.out) | exact HB.out))) : w.heap.size ≤ gb224)); have n5_ := Aside0.mk ((by rw [hg]; exact (below_size (by repeat (first | (with_reducible first | exact HB.out | apply below_alloc | apply pw_below_drewN | apply below_drew1 | refine below_set ?_ GE219.out) | exact HB.out))) : w.heap.size ≤ gb224)); have n6_ := Aside0.mk ((by rw [hg]; exact Nat.ne_of_lt (blk_lt (g := gb219) (o := .cells #[.int .i64 t215, .int .i64 t216, .string t217] 32 (0, 0)) (bk_ BK219)) : gb219 ≠ gb224)); have n7_ := Aside0.mk ((by rw [hg]; exact Nat.ne_of_gt (blk_lt (g := gb219) (o := .cells #[.int .i64 t215, .int .i64 t216, .string t217] 32 (0, 0)) (bk_ BK219)) : gb224 ≠ gb219)); clear HO_7; clear BK219; clear HB; have HO_7 := n0_; have BK219 := n1_; have HB := n2_; have BK224 := n3_; have GW224 := n4_; have GE224 := n5_; have NB219_224 := n6_; have NB224_219 := n7_; clear n0_ n1_ n2_ n3_ n4_ n5_ n6_ n7_; clear hb hbox hg; have hnb82 := NB224_219.out; have hnc82 := NB219_224.out; have hcz83_0 : w81.cell? ⟨gb224, 0, none⟩ = some (.int .i64 0) := (blk_cell BK224.out 0).trans rfl; have hcz83_1 : w81.cell? ⟨gb224, 1, none⟩ = some (.int .i64 0) := (blk_cell BK224.out 1).trans rfl; have hcz83_2 : w81.cell? ⟨gb224, 2, none⟩ = some (.string (⟨#[]⟩ : ByteArray)) := (blk_cell BK224.out 2).trans rfl; have hfz83_0 := blk_frozen BK224.out 0; have hfz83_1 := blk_frozen BK224.out 1; have hfz83_2 := blk_frozen BK224.out 2))
         go_ret
         exact ⟨by first | rfl | (simp [errW_none, errW_some] <;> rfl) | (simp [*, errW_none, errW_some] <;> rfl), by repeat (first | (with_reducible first | exact HB.out | apply below_alloc | apply pw_below_drewN | apply below_drew1 | refine below_set ?_ GE219.out | refine below_set ?_ GE224.out) | exact HB.out)⟩
       ·replace c65 := Bool.eq_false_iff.mpr c65
        subst c65
        have H1 : (some true) = some r := by rw [if_neg (show ¬ (false = true) by decide)] at H; exact H
        clear H
        have H := H1
        clear H1
        obtain rfl := Option.some.inj H
        go_wp2_with (first | ((with_reducible refine gate_callee (f := 16) rfl ?_); refine goesL_ (some 78) rfl rfl Try.func16 (by kernel_rfl) rfl #[.int .i64 (wrap64 (1 + (wrap64 (Int.tmod (IntKind.u64.wrap (a0)) 4)))), .slice A1 l1.length c1] rfl (by (try simp only [List.map_toArray, List.map_cons, List.map_nil]); first | done | rfl | (simp only [List.length_drop, List.length_take]; rfl)) ?_; (with_reducible refine (quarrylaw17_gathered.print (wrap64 (1 + (wrap64 (Int.tmod (IntKind.u64.wrap (a0)) 4)))) _ _ l1 t215 t216 t217 false _ ?side1 ?side2 A63.out).mono ?_); (case side1 => repeat (first | exact (Kd.C_below HR1.out HB.out) | (with_reducible refine Kd.C_alloc ?_ _) | (with_reducible refine Kd.C_drewN ?_ _) | (with_reducible refine Kd.C_drew ?_))); (case side2 => exact HC1.out); rintro e w84 ⟨rfl, hb⟩; refine ⟨_, rfl, ?_⟩; have n0_ := Aside0.mk (Kd.R_below (by (with_reducible repeat (first | apply Kd.R_alloc | apply Kd.R_drewN | apply Kd.R_drew)); exact HO_7.out) hb); have n1_ := Aside0.mk (below_step (by repeat (first | (with_reducible first | exact HB.out | apply below_alloc | apply pw_below_drewN | apply below_drew1) | exact HB.out)) hb); clear HO_7; clear HB; have HO_7 := n0_; have HB := n1_; clear n0_ n1_; (try clear hb); (try clear hb2); (try clear hk); (try clear hi)) | ((with_reducible refine gate_dst (N := 11) rfl ?_); (try (refine gate_guard (by rfl) ?_; dsimp only)); refine box_event ?hg (N := 11) ?hd (cs := #[.int .i64 0, .int .i64 0, .string (⟨#[]⟩ : ByteArray)]) (t := 32) ?hr ?_; (case hd => rfl); (case hg => rfl); (case hr => first | (go_simp; done) | (go_simp; rfl)); intro gb219 hg w85 hbox hb; have n0_ := Aside0.mk (Kd.R_below (Kd.R_elderB (by (with_reducible repeat (first | apply Kd.R_alloc | apply Kd.R_drewN | apply Kd.R_drew)); exact HO_7.out) gb219 (Nat.le_of_eq hg.symm)) hb); have n1_ := Aside0.mk (below_step (by repeat (first | (with_reducible first | exact HB.out | apply below_alloc | apply pw_below_drewN | apply below_drew1) | exact HB.out)) hb); have n2_ := Aside0.mk (hbox); have n3_ := Aside0.mk ((by rw [hg]; exact (below_size (by repeat (first | (with_reducible first | exact HB.out | apply below_alloc | apply pw_below_drewN | apply below_drew1) | exact HB.out))) : w.heap.size ≤ gb219)); have n4_ := Aside0.mk ((by rw [hg]; exact (below_size (by repeat (first | (with_reducible first | exact HB.out | apply below_alloc | apply pw_below_drewN | apply below_drew1) | exact HB.out))) : w.heap.size ≤ gb219)); clear HO_7; clear HB; have HO_7 := n0_; have HB := n1_; have BK219 := n2_; have GW219 := n3_; have GE219 := n4_; clear n0_ n1_ n2_ n3_ n4_; clear hb hbox hg; have hcz86_0 : w85.cell? ⟨gb219, 0, none⟩ = some (.int .i64 0) := (blk_cell BK219.out 0).trans rfl; have hcz86_1 : w85.cell? ⟨gb219, 1, none⟩ = some (.int .i64 0) := (blk_cell BK219.out 1).trans rfl; have hcz86_2 : w85.cell? ⟨gb219, 2, none⟩ = some (.string (⟨#[]⟩ : ByteArray)) := (blk_cell BK219.out 2).trans rfl; have hfz86_0 := blk_frozen BK219.out 0; have hfz86_1 := blk_frozen BK219.out 1; have hfz86_2 := blk_frozen BK219.out 2; obtain ⟨Ao87, co87, eo87⟩ := Kd.R_slice HO_7.out; subst eo87) | ((with_reducible refine gate_callee (f := 16) rfl ?_); refine goesL_ (some 84) rfl rfl Try.func16 (by kernel_rfl) rfl #[.int .i64 (wrap64 (1 + (wrap64 (Int.tmod (IntKind.u64.wrap (a0)) 4)))), .slice Ao87 x7_1.length co87] rfl (by (try simp only [List.map_toArray, List.map_cons, List.map_nil]); first | done | rfl | (simp only [List.length_drop, List.length_take]; rfl)) ?_; (with_reducible refine (quarrylaw17_gathered.print (wrap64 (1 + (wrap64 (Int.tmod (IntKind.u64.wrap (a0)) 4)))) _ _ x7_1 t220 t221 t222 t223 _ ?side1 ?side2 A64.out).mono ?_); (case side1 => refine (Kd.R_reads' (e := 32) (base := w.heap.size) (ok := fun k_ => (True ∧ k_ ≠ gb219)) (n := x7_1.length) (c := co87) ?_).2.2; exact (by (with_reducible repeat (first | apply Kd.R_alloc | apply Kd.R_drewN | apply Kd.R_drew)); exact (Kd.R_mono (Kd.R_far (p := ⟨gb219, 2, none⟩) (Kd.R_far (p := ⟨gb219, 1, none⟩) (Kd.R_far (p := ⟨gb219, 0, none⟩) (Kd.R_mono HO_7.out (fun k_ hk => (⟨hk, hk.2⟩ : _ ∧ k_ ≠ gb219))) (fun _ hk => hk.2) (.int .i64 t215)) (fun _ hk => hk.2) (.int .i64 t216)) (fun _ hk => hk.2) (.string t217)) (fun _ h_ => h_.1)))); (case side2 => exact (Kd.R_reads' HO_7.out).2.1); rintro e w88 ⟨rfl, hb⟩; refine ⟨_, rfl, ?_⟩; have n0_ := Aside0.mk (Kd.R_below (by (with_reducible repeat (first | apply Kd.R_alloc | apply Kd.R_drewN | apply Kd.R_drew)); exact (Kd.R_mono (Kd.R_far (p := ⟨gb219, 2, none⟩) (Kd.R_far (p := ⟨gb219, 1, none⟩) (Kd.R_far (p := ⟨gb219, 0, none⟩) (Kd.R_mono HO_7.out (fun k_ hk => (⟨hk, hk.2⟩ : _ ∧ k_ ≠ gb219))) (fun _ hk => hk.2) (.int .i64 t215)) (fun _ hk => hk.2) (.int .i64 t216)) (fun _ hk => hk.2) (.string t217)) (fun _ h_ => h_.1))) hb); have n1_ := Aside0.mk (blk_below (g := gb219) (o := .cells #[.int .i64 t215, .int .i64 t216, .string t217] 32 (0, 0)) (by (with_reducible repeat (first | refine blk_drewN ?_ _ | refine blk_drew ?_ | refine blk_alloc ?_ _)); refine blk_put (cs := #[.int .i64 t215, .int .i64 t216, .string (⟨#[]⟩ : ByteArray)]) ?_ 2 _ rfl; (with_reducible repeat (first | refine blk_drewN ?_ _ | refine blk_drew ?_ | refine blk_alloc ?_ _)); refine blk_put (cs := #[.int .i64 t215, .int .i64 0, .string (⟨#[]⟩ : ByteArray)]) ?_ 1 _ rfl; (with_reducible repeat (first | refine blk_drewN ?_ _ | refine blk_drew ?_ | refine blk_alloc ?_ _)); refine blk_put (cs := #[.int .i64 0, .int .i64 0, .string (⟨#[]⟩ : ByteArray)]) ?_ 0 _ rfl; (with_reducible repeat (first | refine blk_drewN ?_ _ | refine blk_drew ?_ | refine blk_alloc ?_ _)); exact BK219.out) hb); have n2_ := Aside0.mk (below_step (by repeat (first | (with_reducible first | exact HB.out | apply below_alloc | apply pw_below_drewN | apply below_drew1 | refine below_set ?_ GE219.out) | exact HB.out)) hb); clear HO_7; clear BK219; clear HB; have HO_7 := n0_; have BK219 := n1_; have HB := n2_; clear n0_ n1_ n2_; (try clear hb); (try clear hb2); (try clear hk); (try clear hi)) | ((with_reducible refine gate_dst (N := 13) rfl ?_); (try (refine gate_guard (by rfl) ?_; dsimp only)); refine box_event ?hg (N := 13) ?hd (cs := #[.int .i64 0, .int .i64 0, .string (⟨#[]⟩ : ByteArray)]) (t := 32) ?hr ?_; (case hd => rfl); (case hg => rfl); (case hr => first | (go_simp; done) | (go_simp; rfl)); intro gb224 hg w89 hbox hb; have n0_ := Aside0.mk (Kd.R_below (Kd.R_elderB (by (with_reducible repeat (first | apply Kd.R_alloc | apply Kd.R_drewN | apply Kd.R_drew)); exact HO_7.out) gb224 (Nat.le_of_eq hg.symm)) hb); have n1_ := Aside0.mk (blk_below (g := gb219) (o := .cells #[.int .i64 t215, .int .i64 t216, .string t217] 32 (0, 0)) (bk_ BK219) hb); have n2_ := Aside0.mk (below_step (by repeat (first | (with_reducible first | exact HB.out | apply below_alloc | apply pw_below_drewN | apply below_drew1 | refine below_set ?_ GE219.out) | exact HB.out)) hb); have n3_ := Aside0.mk (hbox); have n4_ := Aside0.mk ((by rw [hg]; exact (below_size (by repeat (first | (with_reducible first | exact HB.out | apply below_alloc | apply pw_below_drewN | apply below_drew1 | refine below_set ?_ GE219.out) | exact HB.out))) : w.heap.size ≤ gb224)); have n5_ := Aside0.mk ((by rw [hg]; exact (below_size (by repeat (first | (with_reducible first | exact HB.out | apply below_alloc | apply pw_below_drewN | apply below_drew1 | refine below_set ?_ GE219.out) | exact HB.out))) : w.heap.size ≤ gb224)); have n6_ := Aside0.mk ((by rw [hg]; exact Nat.ne_of_lt (blk_lt (g := gb219) (o := .cells #[.int .i64 t215, .int .i64 t216, .string t217] 32 (0, 0)) (bk_ BK219)) : gb219 ≠ gb224)); have n7_ := Aside0.mk ((by rw [hg]; exact Nat.ne_of_gt (blk_lt (g := gb219) (o := .cells #[.int .i64 t215, .int .i64 t216, .string t217] 32 (0, 0)) (bk_ BK219)) : gb224 ≠ gb219)); clear HO_7; clear BK219; clear HB; have HO_7 := n0_; have BK219 := n1_; have HB := n2_; have BK224 := n3_; have GW224 := n4_; have GE224 := n5_; have NB219_224 := n6_; have NB224_219 := n7_; clear n0_ n1_ n2_ n3_ n4_ n5_ n6_ n7_; clear hb hbox hg; have hnb90 := NB224_219.out; have hnc90 := NB219_224.out; have hcz91_0 : w89.cell? ⟨gb224, 0, none⟩ = some (.int .i64 0) := (blk_cell BK224.out 0).trans rfl; have hcz91_1 : w89.cell? ⟨gb224, 1, none⟩ = some (.int .i64 0) := (blk_cell BK224.out 1).trans rfl; have hcz91_2 : w89.cell? ⟨gb224, 2, none⟩ = some (.string (⟨#[]⟩ : ByteArray)) := (blk_cell BK224.out 2).trans rfl; have hfz91_0 := blk_frozen BK224.out 0; have hfz91_1 := blk_frozen BK224.out 1; have hfz91_2 := blk_frozen BK224.out 2))
        go_ret
        exact ⟨by first | rfl | (simp [errW_none, errW_some] <;> rfl) | (simp [*, errW_none, errW_some] <;> rfl), by repeat (first | (with_reducible first | exact HB.out | apply below_alloc | apply pw_below_drewN | apply below_drew1 | refine below_set ?_ GE219.out | refine below_set ?_ GE224.out) | exact HB.out)⟩
   ·rw [if_neg c8] at H
    cases H
  ·replace c7 := Bool.eq_false_iff.mpr c7
   subst c7
   have H1 : (some true) = some r := by rw [if_neg (show ¬ (false = true) by decide)] at H; exact H
   clear H
   have H := H1
   clear H1
   obtain rfl := Option.some.inj H
   go_enter Try.func4, Try.ntmps4
   go_wp2_with (first | ((with_reducible refine gate_callee (f := 15) rfl ?_); refine goesL_ (some 15) rfl rfl Try.func15 (by kernel_rfl) rfl #[] rfl (by (try simp only [List.map_toArray, List.map_cons, List.map_nil]); first | done | rfl | (simp only [List.length_drop, List.length_take]; rfl)) ?_; (with_reducible refine (quarrylaw17_works.calls  true _ A4.out).mono ?_); rintro e w92 ⟨rfl, hb⟩; refine ⟨_, rfl, ?_⟩; have n0_ := Aside0.mk (below_step (by repeat (first | (with_reducible first | exact HB.out | apply below_alloc | apply pw_below_drewN | apply below_drew1) | exact HB.out)) hb); clear HB; have HB := n0_; clear n0_; (try clear hb); (try clear hb2); (try clear hk); (try clear hi)) | ((with_reducible refine gate_callee (f := 10) rfl ?_); refine goesL_ (some 18) rfl rfl Try.func10 (by kernel_rfl) rfl #[.slice A1 l1.length c1] rfl (by (try simp only [List.map_toArray, List.map_cons, List.map_nil]); first | done | rfl | (simp only [List.length_drop, List.length_take]; rfl)) ?_; (with_reducible refine (quarrylaw17_right.calls k _ _ l1 false _ ?side1 ?side2 A6.out).mono ?_); (case side1 => repeat (first | exact (Kd.C_below HR1.out HB.out) | (with_reducible refine Kd.C_alloc ?_ _) | (with_reducible refine Kd.C_drewN ?_ _) | (with_reducible refine Kd.C_drew ?_))); (case side2 => exact HC1.out); rintro e w93 ⟨rfl, hb⟩; refine ⟨_, rfl, ?_⟩; have n0_ := Aside0.mk (below_step (by repeat (first | (with_reducible first | exact HB.out | apply below_alloc | apply pw_below_drewN | apply below_drew1) | exact HB.out)) hb); clear HB; have HB := n0_; clear n0_; (try clear hb); (try clear hb2); (try clear hk); (try clear hi)))
   go_ret
   exact ⟨by first | rfl | (simp [errW_none, errW_some] <;> rfl) | (simp [*, errW_none, errW_some] <;> rfl), by repeat (first | (with_reducible first | exact HB.out | apply below_alloc | apply pw_below_drewN | apply below_drew1) | exact HB.out)⟩
 ·rw [if_neg c5] at H
  cases H
end Go.Proofs.Ytgjfciohmgpohaa.P
end
section
namespace Go.Proofs.Ytgjfciohmgpohaa.Pure
set_option linter.unusedVariables false
set_option linter.unusedSimpArgs false
open Go.RowKit Go.Proofs.Ytgjfciohmgpohaa.P Go.Proofs.YtgjfciohmgpohaaW.PrintWords Go.Proofs.YtgjfciohmgpohaaW.PrintLast Go.Proofs.YtgjfciohmgpohaaW.PrintMore
def okV (x : S32) : Bool := chkR x.f0 x.f1 x.f2 == 0
theorem right_loop : ∀ (s p : List S32), (p ++ s).length < 140737488355328 → Ev (fun k => quarrylaw17_right.l0 k (p ++ s) (p.length : Int)) (s.all okV && decide (((p ++ s).length : Int) ≤ 300))
  | [], p, hl => by
    refine Ev.succ ?_
    simp only [quarrylaw17_right.l0, List.append_nil, Int.lt_irrefl, if_false]
    exact Ev.pure _
  | x :: s, p, hl => by
    refine Ev.succ ?_
    have h1 : (p.length : Int) < ((p ++ x :: s).length : Int) := by simp; omega
    have h2 : (0 : Int) ≤ (p.length : Int) := by omega
    simp only [quarrylaw17_right.l0, if_pos h1, if_pos h2, rd_at, quarryref01_Check.f, Option.bind_some]
    by_cases h : chkR x.f0 x.f1 x.f2 = 0
    · simp only [if_pos h]
      have ih := right_loop s (p ++ [x]) (by simpa using hl)
      have hw : wrap64 ((p.length : Int) + 1) = ((p ++ [x]).length : Int) := by
        simp at hl
        unfold wrap64
        simp
        omega
      rw [hw]
      have hb : (x :: s).all okV = s.all okV := by simp [okV, h]
      rw [hb]
      simpa using ih
    · simp only [if_neg h]
      have hb : (x :: s).all okV = false := by simp [okV, h]
      rw [hb]
      exact Ev.pure _
theorem right_ev (l : List S32) (hl : l.length < 140737488355328) : Ev (fun k => quarrylaw17_right.f k l) (l.all okV && decide ((l.length : Int) ≤ 300)) := by
  have := right_loop l [] (by simpa using hl)
  simpa [quarrylaw17_right.f] using this
end Go.Proofs.Ytgjfciohmgpohaa.Pure
end

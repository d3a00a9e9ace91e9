/- Laid by a program of this session out of its texts for the law AggParts, part 5. -/
import Derived.Test.YtgjfciohmgpohaaZAggParts4
section
namespace Go.Proofs.Ytgjfciohmgpohaa.P
open Go.RowKit Go.Proofs.YtgjfciohmgpohaaW.PrintWords Go.Proofs.YtgjfciohmgpohaaW.PrintLast Go.Proofs.YtgjfciohmgpohaaW.PrintMore
attribute [local go_sem] max2_int min2_int max_two min_two max_three min_three max_four min_four
set_option linter.unusedVariables false
set_option linter.unusedSimpArgs false
attribute [local go_sem high] eqA32
def quarrylaw17_works.f  : Option (Bool) := (quarrylaw17_number.f 1).bind fun bt147 => ((quarrylaw17_number.f 2).bind fun bt150 => ((quarrylaw17_gathered.f 2 (([(⟨bt147.1, bt147.2.1, bt147.2.2⟩ : S32), (⟨0, 0, (⟨#[]⟩ : ByteArray)⟩ : S32), (⟨bt150.1, bt150.2.1, bt150.2.2⟩ : S32)] : List (S32)))).bind fun bt156 => ((quarrylaw17_gathered.f 2 ([] : List (S32))).bind fun bt161 => ((quarrylaw17_gathered.f 4 (([(⟨3, 0, (⟨#[97]⟩ : ByteArray)⟩ : S32), (⟨3, 0, (⟨#[98]⟩ : ByteArray)⟩ : S32)] : List (S32)))).bind fun bt169 => ((quarrylaw17_number.f 9223372036854775807).bind fun bt174 => ((quarrylaw17_number.f 1).bind fun bt177 => ((quarrylaw17_gathered.f 2 (([(⟨bt174.1, bt174.2.1, bt174.2.2⟩ : S32), (⟨bt177.1, bt177.2.1, bt177.2.2⟩ : S32)] : List (S32)))).bind fun bt183 => ((quarrylaw17_number.f 3).bind fun bt188 => (if (bt156.1 == bt188.1 && (bt156.2.1 == bt188.2.1 && (bt156.2.2.1.toList == bt188.2.2.toList))) = true then (if bt156.2.2.2 = true then (if (bt161.1 == 0 && (bt161.2.1 == 0 && (bt161.2.2.1.toList == ([] : List UInt8)))) = true then (if bt161.2.2.2 = true then (if bt169.2.2.1.toList = ([98] : List UInt8) then (if bt169.2.2.2 = true then (some (!bt183.2.2.2)) else (none)) else (none)) else (none)) else (none)) else (none)) else (none))))))))))
def quarrylaw17_works.T5 : Bool × List (List Nat × List Nat) := (true, [([], []), ([], []), ([0, 1], [0, 1]), ([2, 1], [2]), ([3], [3]), ([3, 4], [3, 4]), ([5, 3], [5]), ([6], [6]), ([6], [6]), ([7, 8, 6], [6, 7, 8]), ([6, 9], [6, 9]), ([10, 6], [10]), ([11], [11]), ([11, 12], [11, 12]), ([13, 11], [13]), ([14], [14]), ([15, 14], [14, 15]), ([16, 14], [14, 16]), ([14, 17], [14, 17]), ([18, 14], [18]), ([19], [19]), ([19, 20], [19, 20]), ([21, 19], [21]), ([22], [22]), ([23, 22], [22, 23]), ([22, 24], [22, 24]), ([25, 22, 0, 1, 2, 3, 4, 5, 6, 7, 8, 9, 10, 11, 12, 13, 14, 15, 16, 17, 18, 19, 20, 21, 22, 23, 24, 25], [25])])
def quarrylaw17_works.B5 : List Nat := [0, 0, 3, 7, 15, 31, 63, 127, 127, 511, 1023, 2047, 4095, 8191, 16383, 32767, 65535, 131071, 262143, 524287, 1048575, 2097151, 4194303, 8388607, 16777215, 33554431, 67108863]
theorem quarrylaw17_works.tab5 : rtab .any (opsOf Try.f15 5) = quarrylaw17_works.T5 := by kernel_rfl
theorem quarrylaw17_works.bits5 : waitsOk quarrylaw17_works.T5.2 quarrylaw17_works.B5 = true := by kernel_rfl
set_option maxHeartbeats 8000000 in
set_option maxRecDepth 100000 in
theorem quarrylaw17_works.calls  (r : Bool) (w : World) (h : quarrylaw17_works.f  = some r) :
  Calls Try.prog 15 #[] w fun e w' => e = .returned (.bool r) ∧ Below w.heap.size w w' := by
 have hu32 := Try.underlying32
 have HB := Aside0.mk (Below.refl w.heap.size w)
 have H : ((quarrylaw17_number.f 1).bind fun bt147 => ((quarrylaw17_number.f 2).bind fun bt150 => ((quarrylaw17_gathered.f 2 (([(⟨bt147.1, bt147.2.1, bt147.2.2⟩ : S32), (⟨0, 0, (⟨#[]⟩ : ByteArray)⟩ : S32), (⟨bt150.1, bt150.2.1, bt150.2.2⟩ : S32)] : List (S32)))).bind fun bt156 => ((quarrylaw17_gathered.f 2 ([] : List (S32))).bind fun bt161 => ((quarrylaw17_gathered.f 4 (([(⟨3, 0, (⟨#[97]⟩ : ByteArray)⟩ : S32), (⟨3, 0, (⟨#[98]⟩ : ByteArray)⟩ : S32)] : List (S32)))).bind fun bt169 => ((quarrylaw17_number.f 9223372036854775807).bind fun bt174 => ((quarrylaw17_number.f 1).bind fun bt177 => ((quarrylaw17_gathered.f 2 (([(⟨bt174.1, bt174.2.1, bt174.2.2⟩ : S32), (⟨bt177.1, bt177.2.1, bt177.2.2⟩ : S32)] : List (S32)))).bind fun bt183 => ((quarrylaw17_number.f 3).bind fun bt188 => (if (bt156.1 == bt188.1 && (bt156.2.1 == bt188.2.1 && (bt156.2.2.1.toList == bt188.2.2.toList))) = true then (if bt156.2.2.2 = true then (if (bt161.1 == 0 && (bt161.2.1 == 0 && (bt161.2.2.1.toList == ([] : List UInt8)))) = true then (if bt161.2.2.2 = true then (if bt169.2.2.1.toList = ([98] : List UInt8) then (if bt169.2.2.2 = true then (some (!bt183.2.2.2)) else (none)) else (none)) else (none)) else (none)) else (none)) else (none))))))))))) = some r := h
 clear h
 replace H := Option.bind_eq_some_iff.mp H
 obtain ⟨⟨t147, t148, t149⟩, A10, H⟩ := H
 replace H : ((quarrylaw17_number.f 2).bind fun bt150 => ((quarrylaw17_gathered.f 2 (([(⟨t147, t148, t149⟩ : S32), (⟨0, 0, (⟨#[]⟩ : ByteArray)⟩ : S32), (⟨bt150.1, bt150.2.1, bt150.2.2⟩ : S32)] : List (S32)))).bind fun bt156 => ((quarrylaw17_gathered.f 2 ([] : List (S32))).bind fun bt161 => ((quarrylaw17_gathered.f 4 (([(⟨3, 0, (⟨#[97]⟩ : ByteArray)⟩ : S32), (⟨3, 0, (⟨#[98]⟩ : ByteArray)⟩ : S32)] : List (S32)))).bind fun bt169 => ((quarrylaw17_number.f 9223372036854775807).bind fun bt174 => ((quarrylaw17_number.f 1).bind fun bt177 => ((quarrylaw17_gathered.f 2 (([(⟨bt174.1, bt174.2.1, bt174.2.2⟩ : S32), (⟨bt177.1, bt177.2.1, bt177.2.2⟩ : S32)] : List (S32)))).bind fun bt183 => ((quarrylaw17_number.f 3).bind fun bt188 => (if (bt156.1 == bt188.1 && (bt156.2.1 == bt188.2.1 && (bt156.2.2.1.toList == bt188.2.2.toList))) = true then (if bt156.2.2.2 = true then (if (bt161.1 == 0 && (bt161.2.1 == 0 && (bt161.2.2.1.toList == ([] : List UInt8)))) = true then (if bt161.2.2.2 = true then (if bt169.2.2.1.toList = ([98] : List UInt8) then (if bt169.2.2.2 = true then (some (!bt183.2.2.2)) else (none)) else (none)) else (none)) else (none)) else (none)) else (none)))))))))) = some r := H
 have A1 := Aside0.mk A10
 clear A10
 replace H := Option.bind_eq_some_iff.mp H
 obtain ⟨⟨t150, t151, t152⟩, A20, H⟩ := H
 replace H : ((quarrylaw17_gathered.f 2 (([(⟨t147, t148, t149⟩ : S32), (⟨0, 0, (⟨#[]⟩ : ByteArray)⟩ : S32), (⟨t150, t151, t152⟩ : S32)] : List (S32)))).bind fun bt156 => ((quarrylaw17_gathered.f 2 ([] : List (S32))).bind fun bt161 => ((quarrylaw17_gathered.f 4 (([(⟨3, 0, (⟨#[97]⟩ : ByteArray)⟩ : S32), (⟨3, 0, (⟨#[98]⟩ : ByteArray)⟩ : S32)] : List (S32)))).bind fun bt169 => ((quarrylaw17_number.f 9223372036854775807).bind fun bt174 => ((quarrylaw17_number.f 1).bind fun bt177 => ((quarrylaw17_gathered.f 2 (([(⟨bt174.1, bt174.2.1, bt174.2.2⟩ : S32), (⟨bt177.1, bt177.2.1, bt177.2.2⟩ : S32)] : List (S32)))).bind fun bt183 => ((quarrylaw17_number.f 3).bind fun bt188 => (if (bt156.1 == bt188.1 && (bt156.2.1 == bt188.2.1 && (bt156.2.2.1.toList == bt188.2.2.toList))) = true then (if bt156.2.2.2 = true then (if (bt161.1 == 0 && (bt161.2.1 == 0 && (bt161.2.2.1.toList == ([] : List UInt8)))) = true then (if bt161.2.2.2 = true then (if bt169.2.2.1.toList = ([98] : List UInt8) then (if bt169.2.2.2 = true then (some (!bt183.2.2.2)) else (none)) else (none)) else (none)) else (none)) else (none)) else (none))))))))) = some r := H
 have A2 := Aside0.mk A20
 clear A20
 obtain ⟨y153, hy153⟩ : ∃ y_ : List (S32), y_ = (([(⟨t147, t148, t149⟩ : S32), (⟨0, 0, (⟨#[]⟩ : ByteArray)⟩ : S32), (⟨t150, t151, t152⟩ : S32)] : List (S32))) := ⟨_, rfl⟩
 replace H : ((quarrylaw17_gathered.f 2 y153).bind fun bt156 => ((quarrylaw17_gathered.f 2 ([] : List (S32))).bind fun bt161 => ((quarrylaw17_gathered.f 4 (([(⟨3, 0, (⟨#[97]⟩ : ByteArray)⟩ : S32), (⟨3, 0, (⟨#[98]⟩ : ByteArray)⟩ : S32)] : List (S32)))).bind fun bt169 => ((quarrylaw17_number.f 9223372036854775807).bind fun bt174 => ((quarrylaw17_number.f 1).bind fun bt177 => ((quarrylaw17_gathered.f 2 (([(⟨bt174.1, bt174.2.1, bt174.2.2⟩ : S32), (⟨bt177.1, bt177.2.1, bt177.2.2⟩ : S32)] : List (S32)))).bind fun bt183 => ((quarrylaw17_number.f 3).bind fun bt188 => (if (bt156.1 == bt188.1 && (bt156.2.1 == bt188.2.1 && (bt156.2.2.1.toList == bt188.2.2.toList))) = true then (if bt156.2.2.2 = true then (if (bt161.1 == 0 && (bt161.2.1 == 0 && (bt161.2.2.1.toList == ([] : List UInt8)))) = true then (if bt161.2.2.2 = true then (if bt169.2.2.1.toList = ([98] : List UInt8) then (if bt169.2.2.2 = true then (some (!bt183.2.2.2)) else (none)) else (none)) else (none)) else (none)) else (none)) else (none))))))))) = some r := by first | (rw [hy153]; with_reducible exact H) | (have H2_ := (Option.bind_some _ _).symm.trans H; rw [hy153]; with_reducible exact H2_) | (have H2_ := (Option.bind_some _ _).symm.trans H; with_reducible exact H2_) | with_reducible exact H | (rw [hy153]; exact H) | exact H
 have Ny153 := Aside0.mk hy153
 clear hy153
 replace H := Option.bind_eq_some_iff.mp H
 obtain ⟨⟨t156, t157, t158, t159⟩, A30, H⟩ := H
 replace H : ((quarrylaw17_gathered.f 2 ([] : List (S32))).bind fun bt161 => ((quarrylaw17_gathered.f 4 (([(⟨3, 0, (⟨#[97]⟩ : ByteArray)⟩ : S32), (⟨3, 0, (⟨#[98]⟩ : ByteArray)⟩ : S32)] : List (S32)))).bind fun bt169 => ((quarrylaw17_number.f 9223372036854775807).bind fun bt174 => ((quarrylaw17_number.f 1).bind fun bt177 => ((quarrylaw17_gathered.f 2 (([(⟨bt174.1, bt174.2.1, bt174.2.2⟩ : S32), (⟨bt177.1, bt177.2.1, bt177.2.2⟩ : S32)] : List (S32)))).bind fun bt183 => ((quarrylaw17_number.f 3).bind fun bt188 => (if (t156 == bt188.1 && (t157 == bt188.2.1 && (t158.toList == bt188.2.2.toList))) = true then (if t159 = true then (if (bt161.1 == 0 && (bt161.2.1 == 0 && (bt161.2.2.1.toList == ([] : List UInt8)))) = true then (if bt161.2.2.2 = true then (if bt169.2.2.1.toList = ([98] : List UInt8) then (if bt169.2.2.2 = true then (some (!bt183.2.2.2)) else (none)) else (none)) else (none)) else (none)) else (none)) else (none)))))))) = some r := H
 have A3 := Aside0.mk A30
 clear A30
 replace H := Option.bind_eq_some_iff.mp H
 obtain ⟨⟨t161, t162, t163, t164⟩, A40, H⟩ := H
 replace H : ((quarrylaw17_gathered.f 4 (([(⟨3, 0, (⟨#[97]⟩ : ByteArray)⟩ : S32), (⟨3, 0, (⟨#[98]⟩ : ByteArray)⟩ : S32)] : List (S32)))).bind fun bt169 => ((quarrylaw17_number.f 9223372036854775807).bind fun bt174 => ((quarrylaw17_number.f 1).bind fun bt177 => ((quarrylaw17_gathered.f 2 (([(⟨bt174.1, bt174.2.1, bt174.2.2⟩ : S32), (⟨bt177.1, bt177.2.1, bt177.2.2⟩ : S32)] : List (S32)))).bind fun bt183 => ((quarrylaw17_number.f 3).bind fun bt188 => (if (t156 == bt188.1 && (t157 == bt188.2.1 && (t158.toList == bt188.2.2.toList))) = true then (if t159 = true then (if (t161 == 0 && (t162 == 0 && (t163.toList == ([] : List UInt8)))) = true then (if t164 = true then (if bt169.2.2.1.toList = ([98] : List UInt8) then (if bt169.2.2.2 = true then (some (!bt183.2.2.2)) else (none)) else (none)) else (none)) else (none)) else (none)) else (none))))))) = some r := H
 have A4 := Aside0.mk A40
 clear A40
 obtain ⟨y166, hy166⟩ : ∃ y_ : List (S32), y_ = (([(⟨3, 0, (⟨#[97]⟩ : ByteArray)⟩ : S32), (⟨3, 0, (⟨#[98]⟩ : ByteArray)⟩ : S32)] : List (S32))) := ⟨_, rfl⟩
 replace H : ((quarrylaw17_gathered.f 4 y166).bind fun bt169 => ((quarrylaw17_number.f 9223372036854775807).bind fun bt174 => ((quarrylaw17_number.f 1).bind fun bt177 => ((quarrylaw17_gathered.f 2 (([(⟨bt174.1, bt174.2.1, bt174.2.2⟩ : S32), (⟨bt177.1, bt177.2.1, bt177.2.2⟩ : S32)] : List (S32)))).bind fun bt183 => ((quarrylaw17_number.f 3).bind fun bt188 => (if (t156 == bt188.1 && (t157 == bt188.2.1 && (t158.toList == bt188.2.2.toList))) = true then (if t159 = true then (if (t161 == 0 && (t162 == 0 && (t163.toList == ([] : List UInt8)))) = true then (if t164 = true then (if bt169.2.2.1.toList = ([98] : List UInt8) then (if bt169.2.2.2 = true then (some (!bt183.2.2.2)) else (none)) else (none)) else (none)) else (none)) else (none)) else (none))))))) = some r := by first | (rw [hy166]; with_reducible exact H) | (have H2_ := (Option.bind_some _ _).symm.trans H; rw [hy166]; with_reducible exact H2_) | (have H2_ := (Option.bind_some _ _).symm.trans H; with_reducible exact H2_) | with_reducible exact H | (rw [hy166]; exact H) | exact H
 have Ny166 := Aside0.mk hy166
 clear hy166
 replace H := Option.bind_eq_some_iff.mp H
 obtain ⟨⟨t169, t170, t171, t172⟩, A50, H⟩ := H
 replace H : ((quarrylaw17_number.f 9223372036854775807).bind fun bt174 => ((quarrylaw17_number.f 1).bind fun bt177 => ((quarrylaw17_gathered.f 2 (([(⟨bt174.1, bt174.2.1, bt174.2.2⟩ : S32), (⟨bt177.1, bt177.2.1, bt177.2.2⟩ : S32)] : List (S32)))).bind fun bt183 => ((quarrylaw17_number.f 3).bind fun bt188 => (if (t156 == bt188.1 && (t157 == bt188.2.1 && (t158.toList == bt188.2.2.toList))) = true then (if t159 = true then (if (t161 == 0 && (t162 == 0 && (t163.toList == ([] : List UInt8)))) = true then (if t164 = true then (if t171.toList = ([98] : List UInt8) then (if t172 = true then (some (!bt183.2.2.2)) else (none)) else (none)) else (none)) else (none)) else (none)) else (none)))))) = some r := H
 have A5 := Aside0.mk A50
 clear A50
 replace H := Option.bind_eq_some_iff.mp H
 obtain ⟨⟨t174, t175, t176⟩, A60, H⟩ := H
 replace H : ((quarrylaw17_number.f 1).bind fun bt177 => ((quarrylaw17_gathered.f 2 (([(⟨t174, t175, t176⟩ : S32), (⟨bt177.1, bt177.2.1, bt177.2.2⟩ : S32)] : List (S32)))).bind fun bt183 => ((quarrylaw17_number.f 3).bind fun bt188 => (if (t156 == bt188.1 && (t157 == bt188.2.1 && (t158.toList == bt188.2.2.toList))) = true then (if t159 = true then (if (t161 == 0 && (t162 == 0 && (t163.toList == ([] : List UInt8)))) = true then (if t164 = true then (if t171.toList = ([98] : List UInt8) then (if t172 = true then (some (!bt183.2.2.2)) else (none)) else (none)) else (none)) else (none)) else (none)) else (none))))) = some r := H
 have A6 := Aside0.mk A60
 clear A60
 replace H := Option.bind_eq_some_iff.mp H
 obtain ⟨⟨t177, t178, t179⟩, A70, H⟩ := H
 replace H : ((quarrylaw17_gathered.f 2 (([(⟨t174, t175, t176⟩ : S32), (⟨t177, t178, t179⟩ : S32)] : List (S32)))).bind fun bt183 => ((quarrylaw17_number.f 3).bind fun bt188 => (if (t156 == bt188.1 && (t157 == bt188.2.1 && (t158.toList == bt188.2.2.toList))) = true then (if t159 = true then (if (t161 == 0 && (t162 == 0 && (t163.toList == ([] : List UInt8)))) = true then (if t164 = true then (if t171.toList = ([98] : List UInt8) then (if t172 = true then (some (!bt183.2.2.2)) else (none)) else (none)) else (none)) else (none)) else (none)) else (none)))) = some r := H
 have A7 := Aside0.mk A70
 clear A70
 obtain ⟨y180, hy180⟩ : ∃ y_ : List (S32), y_ = (([(⟨t174, t175, t176⟩ : S32), (⟨t177, t178, t179⟩ : S32)] : List (S32))) := ⟨_, rfl⟩
 replace H : ((quarrylaw17_gathered.f 2 y180).bind fun bt183 => ((quarrylaw17_number.f 3).bind fun bt188 => (if (t156 == bt188.1 && (t157 == bt188.2.1 && (t158.toList == bt188.2.2.toList))) = true then (if t159 = true then (if (t161 == 0 && (t162 == 0 && (t163.toList == ([] : List UInt8)))) = true then (if t164 = true then (if t171.toList = ([98] : List UInt8) then (if t172 = true then (some (!bt183.2.2.2)) else (none)) else (none)) else (none)) else (none)) else (none)) else (none)))) = some r := by first | (rw [hy180]; with_reducible exact H) | (have H2_ := (Option.bind_some _ _).symm.trans H; rw [hy180]; with_reducible exact H2_) | (have H2_ := (Option.bind_some _ _).symm.trans H; with_reducible exact H2_) | with_reducible exact H | (rw [hy180]; exact H) | exact H
 have Ny180 := Aside0.mk hy180
 clear hy180
 replace H := Option.bind_eq_some_iff.mp H
 obtain ⟨⟨t183, t184, t185, t186⟩, A80, H⟩ := H
 replace H : ((quarrylaw17_number.f 3).bind fun bt188 => (if (t156 == bt188.1 && (t157 == bt188.2.1 && (t158.toList == bt188.2.2.toList))) = true then (if t159 = true then (if (t161 == 0 && (t162 == 0 && (t163.toList == ([] : List UInt8)))) = true then (if t164 = true then (if t171.toList = ([98] : List UInt8) then (if t172 = true then (some (!t186)) else (none)) else (none)) else (none)) else (none)) else (none)) else (none))) = some r := H
 have A8 := Aside0.mk A80
 clear A80
 replace H := Option.bind_eq_some_iff.mp H
 obtain ⟨⟨t188, t189, t190⟩, A90, H⟩ := H
 replace H : (if (t156 == t188 && (t157 == t189 && (t158.toList == t190.toList))) = true then (if t159 = true then (if (t161 == 0 && (t162 == 0 && (t163.toList == ([] : List UInt8)))) = true then (if t164 = true then (if t171.toList = ([98] : List UInt8) then (if t172 = true then (some (!t186)) else (none)) else (none)) else (none)) else (none)) else (none)) else (none)) = some r := H
 have A9 := Aside0.mk A90
 clear A90
 by_cases c10 : (t156 == t188 && (t157 == t189 && (t158.toList == t190.toList))) = true
 ·rw [if_pos c10] at H
  have c10b0 : (t156 == t188 && (t157 == t189 && (t158.toList == t190.toList))) = true := c10
  (try (have c10b1 : decide (t156 = t188 && (t157 == t189 && (t158.toList == t190.toList))) = true := by simpa using c10))
  (try (have c10b2 : (t156 == t188 && (t157 == t189 && (t158.toList == t190.toList))) = true := by simpa using c10))
  clear c10
  by_cases c11 : t159 = true
  ·subst c11
   have H1 : (if (t161 == 0 && (t162 == 0 && (t163.toList == ([] : List UInt8)))) = true then (if t164 = true then (if t171.toList = ([98] : List UInt8) then (if t172 = true then (some (!t186)) else (none)) else (none)) else (none)) else (none)) = some r := by rw [if_pos rfl] at H; exact H
   clear H
   have H := H1
   clear H1
   by_cases c12 : (t161 == 0 && (t162 == 0 && (t163.toList == ([] : List UInt8)))) = true
   ·rw [if_pos c12] at H
    have c12b0 : (t161 == 0 && (t162 == 0 && (t163.toList == ([] : List UInt8)))) = true := c12
    (try (have c12b9 : (t161 == 0 && (t162 == 0 && t163.toList.isEmpty)) = true := by simpa using c12))
    (try (have c12b1 : decide (t161 = 0 && (t162 == 0 && (t163.toList == ([] : List UInt8)))) = true := by simpa using c12))
    (try (have c12b2 : (t161 == 0 && (t162 == 0 && (t163.toList == ([] : List UInt8)))) = true := by simpa using c12))
    clear c12
    by_cases c13 : t164 = true
    ·subst c13
     have H1 : (if t171.toList = ([98] : List UInt8) then (if t172 = true then (some (!t186)) else (none)) else (none)) = some r := by rw [if_pos rfl] at H; exact H
     clear H
     have H := H1
     clear H1
     by_cases c14 : t171.toList = ([98] : List UInt8)
     ·rw [if_pos c14] at H
      have c14b0 : (t171.toList == ([98] : List UInt8)) = true := beq_iff_eq.mpr c14
      have c14b1 : (t171.toList != ([98] : List UInt8)) = false := bne_eq_false_iff_eq.mpr c14
      clear c14
      by_cases c15 : t172 = true
      ·subst c15
       have H1 : (some (!t186)) = some r := by rw [if_pos rfl] at H; exact H
       clear H
       have H := H1
       clear H1
       obtain rfl := Option.some.inj H
       go_enter Try.func15, Try.ntmps15
       try go_wp2_with (first | ((with_reducible refine gate_callee (f := 18) rfl ?_); refine goesL_ (some 10) rfl rfl Try.func18 (by kernel_rfl) rfl #[.int .i64 1] rfl (by (try simp only [List.map_toArray, List.map_cons, List.map_nil]); first | done | rfl | (simp only [List.length_drop, List.length_take]; rfl)) ?_; (with_reducible refine (quarrylaw17_number.calls 1 t147 t148 t149 _ A1.out).mono ?_); rintro e w16 ⟨rfl, hb⟩; refine ⟨_, rfl, ?_⟩; have n0_ := Aside0.mk (below_step (by repeat (first | (with_reducible first | exact HB.out | apply below_alloc | apply pw_below_drewN | apply below_drew1) | exact HB.out)) hb); clear HB; have HB := n0_; clear n0_; (try clear hb); (try clear hb2); (try clear hk); (try clear hi)) | ((with_reducible refine gate_callee (f := 18) rfl ?_); refine goesL_ (some 12) rfl rfl Try.func18 (by kernel_rfl) rfl #[.int .i64 2] rfl (by (try simp only [List.map_toArray, List.map_cons, List.map_nil]); first | done | rfl | (simp only [List.length_drop, List.length_take]; rfl)) ?_; (with_reducible refine (quarrylaw17_number.calls 2 t150 t151 t152 _ A2.out).mono ?_); rintro e w17 ⟨rfl, hb⟩; refine ⟨_, rfl, ?_⟩; have n0_ := Aside0.mk (below_step (by repeat (first | (with_reducible first | exact HB.out | apply below_alloc | apply pw_below_drewN | apply below_drew1) | exact HB.out)) hb); clear HB; have HB := n0_; clear n0_; (try clear hb); (try clear hb2); (try clear hk); (try clear hi)) | ((with_reducible refine gate_dst (N := 13) rfl ?_); refine Kd.R_lit k32 _ 32 ?hg (N := 13) ?hd (xs := ([(⟨t147, t148, t149⟩ : S32), (⟨0, 0, (⟨#[]⟩ : ByteArray)⟩ : S32), (⟨t150, t151, t152⟩ : S32)] : List (S32))) (inner := [.int .i64 t147, .int .i64 t148, .string t149, .int .i64 0, .int .i64 0, .string (⟨#[]⟩ : ByteArray), .int .i64 t150, .int .i64 t151, .string t152]) (ok := fun _ => True) (okp := fun _ => True) ?hr ?hp (fun _ hk => hk) trivial (Below.refl _ _) (Nat.le_refl _) (by simp) ?_; (case hd => rfl); (case hg => rfl); (case hr => first | (go_simp; done) | (go_simp; rfl)); (case hp => exact (Reps.c3 (show Kd.M k32 _ _ _ (⟨t147, t148, t149⟩ : S32) [.int .i64 t147, .int .i64 t148, .string t149] from (k32_mkM _ _ _ (⟨t147, t148, t149⟩ : S32) )) (Reps.c3 (show Kd.M k32 _ _ _ (⟨0, 0, (⟨#[]⟩ : ByteArray)⟩ : S32) [.int .i64 0, .int .i64 0, .string (⟨#[]⟩ : ByteArray)] from (k32_mkM _ _ _ (⟨0, 0, (⟨#[]⟩ : ByteArray)⟩ : S32) )) (Reps.c3 (show Kd.M k32 _ _ _ (⟨t150, t151, t152⟩ : S32) [.int .i64 t150, .int .i64 t151, .string t152] from (k32_mkM _ _ _ (⟨t150, t151, t152⟩ : S32) )) (Reps.none _ _))))); intro v154 w18 ho19 hb hg_ hnew_; clear hg_ hnew_; (first | rw [← Ny153.out] at ho19 | (simp only [Int.reduceToNat] at ho19; rw [← Ny153.out] at ho19)); have n0_ := Aside0.mk (Kd.R_lower ho19 (below_size (by repeat (first | (with_reducible first | exact HB.out | apply below_alloc | apply pw_below_drewN | apply below_drew1) | exact HB.out)))); have n1_ := Aside0.mk (below_step (by repeat (first | (with_reducible first | exact HB.out | apply below_alloc | apply pw_below_drewN | apply below_drew1) | exact HB.out)) hb); clear HB; have HO155 := n0_; have HB := n1_; clear n0_ n1_; clear hb ho19; obtain ⟨Ao20, co20, eo20⟩ := Kd.R_slice HO155.out; subst eo20) | ((with_reducible refine gate_callee (f := 16) rfl ?_); refine goesL_ (some 14) rfl rfl Try.func16 (by kernel_rfl) rfl #[.int .i64 2, .slice Ao20 y153.length co20] rfl (by (try simp only [List.map_toArray, List.map_cons, List.map_nil]); first | done | rfl | (simp only [List.length_drop, List.length_take]; rfl)) ?_; (with_reducible refine (quarrylaw17_gathered.print 2 _ _ y153 t156 t157 t158 true _ ?side1 ?side2 A3.out).mono ?_); (case side1 => repeat (first | exact (Kd.R_reads' HO155.out).2.2 | (with_reducible refine Kd.C_alloc ?_ _) | (with_reducible refine Kd.C_drewN ?_ _) | (with_reducible refine Kd.C_drew ?_))); (case side2 => exact (Kd.R_reads' HO155.out).2.1); rintro e w21 ⟨rfl, hb⟩; refine ⟨_, rfl, ?_⟩; have n0_ := Aside0.mk (Kd.R_below (by (with_reducible repeat (first | apply Kd.R_alloc | apply Kd.R_drewN | apply Kd.R_drew)); exact HO155.out) hb); have n1_ := Aside0.mk (below_step (by repeat (first | (with_reducible first | exact HB.out | apply below_alloc | apply pw_below_drewN | apply below_drew1) | exact HB.out)) hb); clear HO155; clear HB; have HO155 := n0_; have HB := n1_; clear n0_ n1_; (try clear hb); (try clear hb2); (try clear hk); (try clear hi)) | ((with_reducible refine gate_dst (N := 1) rfl ?_); refine box_event ?hg (N := 1) ?hd (cs := #[.int .i64 0, .int .i64 0, .string (⟨#[]⟩ : ByteArray)]) (t := 32) ?hr ?_; (case hd => rfl); (case hg => rfl); (case hr => first | (go_simp; done) | (go_simp; rfl)); intro gb160 hg w22 hbox hb; have n0_ := Aside0.mk (Kd.R_below (Kd.R_elderB (by (with_reducible repeat (first | apply Kd.R_alloc | apply Kd.R_drewN | apply Kd.R_drew)); exact HO155.out) gb160 (Nat.le_of_eq hg.symm)) hb); have n1_ := Aside0.mk (below_step (by repeat (first | (with_reducible first | exact HB.out | apply below_alloc | apply pw_below_drewN | apply below_drew1) | exact HB.out)) hb); have n2_ := Aside0.mk (hbox); have n3_ := Aside0.mk ((by rw [hg]; exact (below_size (by repeat (first | (with_reducible first | exact HB.out | apply below_alloc | apply pw_below_drewN | apply below_drew1) | exact HB.out))) : w.heap.size ≤ gb160)); have n4_ := Aside0.mk ((by rw [hg]; exact (below_size (by repeat (first | (with_reducible first | exact HB.out | apply below_alloc | apply pw_below_drewN | apply below_drew1) | exact HB.out))) : w.heap.size ≤ gb160)); clear HO155; clear HB; have HO155 := n0_; have HB := n1_; have BK160 := n2_; have GW160 := n3_; have GE160 := n4_; clear n0_ n1_ n2_ n3_ n4_; clear hb hbox hg; have hcz23_0 : w22.cell? ⟨gb160, 0, none⟩ = some (.int .i64 0) := (blk_cell BK160.out 0).trans rfl; have hcz23_1 : w22.cell? ⟨gb160, 1, none⟩ = some (.int .i64 0) := (blk_cell BK160.out 1).trans rfl; have hcz23_2 : w22.cell? ⟨gb160, 2, none⟩ = some (.string (⟨#[]⟩ : ByteArray)) := (blk_cell BK160.out 2).trans rfl; have hfz23_0 := blk_frozen BK160.out 0; have hfz23_1 := blk_frozen BK160.out 1; have hfz23_2 := blk_frozen BK160.out 2) | ((with_reducible refine gate_callee (f := 16) rfl ?_); refine goesL_ (some 18) rfl rfl Try.func16 (by kernel_rfl) rfl #[.int .i64 2, .slice none 0 0] rfl (by (try simp only [List.map_toArray, List.map_cons, List.map_nil]); first | done | rfl | (simp only [List.length_drop, List.length_take]; rfl)) ?_; (refine (quarrylaw17_gathered.print 2 _ _ ([] : List (S32)) t161 t162 t163 true _ ?side1 ?side2 A4.out).mono ?_); (case side1 => exact Kd.C_nil _ _); (case side2 => exact Nat.le_refl _); rintro e w24 ⟨rfl, hb⟩; refine ⟨_, rfl, ?_⟩; have n0_ := Aside0.mk (Kd.R_below (by (with_reducible repeat (first | apply Kd.R_alloc | apply Kd.R_drewN | apply Kd.R_drew)); exact (Kd.R_mono (Kd.R_far (p := ⟨gb160, 2, none⟩) (Kd.R_far (p := ⟨gb160, 1, none⟩) (Kd.R_far (p := ⟨gb160, 0, none⟩) (Kd.R_mono HO155.out (fun k_ hk => (⟨hk, hk.2⟩ : _ ∧ k_ ≠ gb160))) (fun _ hk => hk.2) (.int .i64 t156)) (fun _ hk => hk.2) (.int .i64 t157)) (fun _ hk => hk.2) (.string t158)) (fun _ h_ => h_.1))) hb); have n1_ := Aside0.mk (blk_below (g := gb160) (o := .cells #[.int .i64 t156, .int .i64 t157, .string t158] 32 (0, 0)) (by (with_reducible repeat (first | refine blk_drewN ?_ _ | refine blk_drew ?_ | refine blk_alloc ?_ _)); refine blk_put (cs := #[.int .i64 t156, .int .i64 t157, .string (⟨#[]⟩ : ByteArray)]) ?_ 2 _ rfl; (with_reducible repeat (first | refine blk_drewN ?_ _ | refine blk_drew ?_ | refine blk_alloc ?_ _)); refine blk_put (cs := #[.int .i64 t156, .int .i64 0, .string (⟨#[]⟩ : ByteArray)]) ?_ 1 _ rfl; (with_reducible repeat (first | refine blk_drewN ?_ _ | refine blk_drew ?_ | refine blk_alloc ?_ _)); refine blk_put (cs := #[.int .i64 0, .int .i64 0, .string (⟨#[]⟩ : ByteArray)]) ?_ 0 _ rfl; (with_reducible repeat (first | refine blk_drewN ?_ _ | refine blk_drew ?_ | refine blk_alloc ?_ _)); exact BK160.out) hb); have n2_ := Aside0.mk (below_step (by repeat (first | (with_reducible first | exact HB.out | apply below_alloc | apply pw_below_drewN | apply below_drew1 | refine below_set ?_ GE160.out) | exact HB.out)) hb); clear HO155; clear BK160; clear HB; have HO155 := n0_; have BK160 := n1_; have HB := n2_; clear n0_ n1_ n2_; (try clear hb); (try clear hb2); (try clear hk); (try clear hi)) | ((with_reducible refine gate_dst (N := 3) rfl ?_); refine box_event ?hg (N := 3) ?hd (cs := #[.int .i64 0, .int .i64 0, .string (⟨#[]⟩ : ByteArray)]) (t := 32) ?hr ?_; (case hd => rfl); (case hg => rfl); (case hr => first | (go_simp; done) | (go_simp; rfl)); intro gb165 hg w25 hbox hb; have n0_ := Aside0.mk (Kd.R_below (Kd.R_elderB (by (with_reducible repeat (first | apply Kd.R_alloc | apply Kd.R_drewN | apply Kd.R_drew)); exact HO155.out) gb165 (Nat.le_of_eq hg.symm)) hb); have n1_ := Aside0.mk (blk_below (g := gb160) (o := .cells #[.int .i64 t156, .int .i64 t157, .string t158] 32 (0, 0)) (bk_ BK160) hb); have n2_ := Aside0.mk (below_step (by repeat (first | (with_reducible first | exact HB.out | apply below_alloc | apply pw_below_drewN | apply below_drew1 | refine below_set ?_ GE160.out) | exact HB.out)) hb); have n3_ := Aside0.mk (hbox); have n4_ := Aside0.mk ((by rw [hg]; exact (below_size (by repeat (first | (with_reducible first | exact HB.out | apply below_alloc | apply pw_below_drewN | apply below_drew1 | refine below_set ?_ GE160.out) | exact HB.out))) : w.heap.size ≤ gb165)); have n5_ := Aside0.mk ((by rw [hg]; exact (below_size (by repeat (first | (with_reducible first | exact HB.out | apply below_alloc | apply pw_below_drewN | apply below_drew1 | refine below_set ?_ GE160.out) | exact HB.out))) : w.heap.size ≤ gb165)); have n6_ := Aside0.mk ((by rw [hg]; exact Nat.ne_of_lt (blk_lt (g := gb160) (o := .cells #[.int .i64 t156, .int .i64 t157, .string t158] 32 (0, 0)) (bk_ BK160)) : gb160 ≠ gb165)); have n7_ := Aside0.mk ((by rw [hg]; exact Nat.ne_of_gt (blk_lt (g := gb160) (o := .cells #[.int .i64 t156, .int .i64 t157, .string t158] 32 (0, 0)) (bk_ BK160)) : gb165 ≠ gb160)); clear HO155; clear BK160; clear HB; have HO155 := n0_; have BK160 := n1_; have HB := n2_; have BK165 := n3_; have GW165 := n4_; have GE165 := n5_; have NB160_165 := n6_; have NB165_160 := n7_; clear n0_ n1_ n2_ n3_ n4_ n5_ n6_ n7_; clear hb hbox hg; have hnb26 := NB165_160.out; have hnc26 := NB160_165.out; have hcz27_0 : w25.cell? ⟨gb165, 0, none⟩ = some (.int .i64 0) := (blk_cell BK165.out 0).trans rfl; have hcz27_1 : w25.cell? ⟨gb165, 1, none⟩ = some (.int .i64 0) := (blk_cell BK165.out 1).trans rfl; have hcz27_2 : w25.cell? ⟨gb165, 2, none⟩ = some (.string (⟨#[]⟩ : ByteArray)) := (blk_cell BK165.out 2).trans rfl; have hfz27_0 := blk_frozen BK165.out 0; have hfz27_1 := blk_frozen BK165.out 1; have hfz27_2 := blk_frozen BK165.out 2) | ((with_reducible refine gate_dst (N := 24) rfl ?_); refine Kd.R_lit k32 _ 32 ?hg (N := 24) ?hd (xs := ([(⟨3, 0, (⟨#[97]⟩ : ByteArray)⟩ : S32), (⟨3, 0, (⟨#[98]⟩ : ByteArray)⟩ : S32)] : List (S32))) (inner := [.int .i64 3, .int .i64 0, .string (⟨#[97]⟩ : ByteArray), .int .i64 3, .int .i64 0, .string (⟨#[98]⟩ : ByteArray)]) (ok := fun _ => True) (okp := fun _ => True) ?hr ?hp (fun _ hk => hk) trivial (Below.refl _ _) (Nat.le_refl _) (by simp) ?_; (case hd => rfl); (case hg => rfl); (case hr => first | (go_simp; done) | (go_simp; rfl)); (case hp => exact (Reps.c3 (show Kd.M k32 _ _ _ (⟨3, 0, (⟨#[97]⟩ : ByteArray)⟩ : S32) [.int .i64 3, .int .i64 0, .string (⟨#[97]⟩ : ByteArray)] from (k32_mkM _ _ _ (⟨3, 0, (⟨#[97]⟩ : ByteArray)⟩ : S32) )) (Reps.c3 (show Kd.M k32 _ _ _ (⟨3, 0, (⟨#[98]⟩ : ByteArray)⟩ : S32) [.int .i64 3, .int .i64 0, .string (⟨#[98]⟩ : ByteArray)] from (k32_mkM _ _ _ (⟨3, 0, (⟨#[98]⟩ : ByteArray)⟩ : S32) )) (Reps.none _ _)))); intro v167 w28 ho29 hb hg_ hnew_; clear hg_ hnew_; (first | rw [← Ny166.out] at ho29 | (simp only [Int.reduceToNat] at ho29; rw [← Ny166.out] at ho29)); have n0_ := Aside0.mk (Kd.R_elder' (by (with_reducible repeat (first | apply Kd.R_alloc | apply Kd.R_drewN | apply Kd.R_drew)); exact (Kd.R_mono (Kd.R_far (p := ⟨gb165, 2, none⟩) (Kd.R_far (p := ⟨gb165, 1, none⟩) (Kd.R_far (p := ⟨gb165, 0, none⟩) (Kd.R_mono HO155.out (fun k_ hk => (⟨hk, hk.2⟩ : _ ∧ k_ ≠ gb165))) (fun _ hk => hk.2) (.int .i64 t161)) (fun _ hk => hk.2) (.int .i64 t162)) (fun _ hk => hk.2) (.string t163)) (fun _ h_ => h_.1))) (Kd.R_base ho29) hb); have n1_ := Aside0.mk (Kd.R_lower (Kd.R_newB (Kd.R_newB (Kd.R_new' ho29 (Kd.R_lt (by (with_reducible repeat (first | apply Kd.R_alloc | apply Kd.R_drewN | apply Kd.R_drew)); exact (Kd.R_mono (Kd.R_far (p := ⟨gb165, 2, none⟩) (Kd.R_far (p := ⟨gb165, 1, none⟩) (Kd.R_far (p := ⟨gb165, 0, none⟩) (Kd.R_mono HO155.out (fun k_ hk => (⟨hk, hk.2⟩ : _ ∧ k_ ≠ gb165))) (fun _ hk => hk.2) (.int .i64 t161)) (fun _ hk => hk.2) (.int .i64 t162)) (fun _ hk => hk.2) (.string t163)) (fun _ h_ => h_.1))))) (g := gb160) (o := .cells #[.int .i64 t156, .int .i64 t157, .string t158] 32 (0, 0)) (by (with_reducible repeat (first | refine blk_drewN ?_ _ | refine blk_drew ?_ | refine blk_alloc ?_ _)); refine blk_far ?_ NB160_165.out _; (with_reducible repeat (first | refine blk_drewN ?_ _ | refine blk_drew ?_ | refine blk_alloc ?_ _)); refine blk_far ?_ NB160_165.out _; (with_reducible repeat (first | refine blk_drewN ?_ _ | refine blk_drew ?_ | refine blk_alloc ?_ _)); refine blk_far ?_ NB160_165.out _; (with_reducible repeat (first | refine blk_drewN ?_ _ | refine blk_drew ?_ | refine blk_alloc ?_ _)); exact BK160.out)) (g := gb165) (o := .cells #[.int .i64 t161, .int .i64 t162, .string t163] 32 (0, 0)) (by (with_reducible repeat (first | refine blk_drewN ?_ _ | refine blk_drew ?_ | refine blk_alloc ?_ _)); refine blk_put (cs := #[.int .i64 t161, .int .i64 t162, .string (⟨#[]⟩ : ByteArray)]) ?_ 2 _ rfl; (with_reducible repeat (first | refine blk_drewN ?_ _ | refine blk_drew ?_ | refine blk_alloc ?_ _)); refine blk_put (cs := #[.int .i64 t161, .int .i64 0, .string (⟨#[]⟩ : ByteArray)]) ?_ 1 _ rfl; (with_reducible repeat (first | refine blk_drewN ?_ _ | refine blk_drew ?_ | refine blk_alloc ?_ _)); refine blk_put (cs := #[.int .i64 0, .int .i64 0, .string (⟨#[]⟩ : ByteArray)]) ?_ 0 _ rfl; (with_reducible repeat (first | refine blk_drewN ?_ _ | refine blk_drew ?_ | refine blk_alloc ?_ _)); exact BK165.out)) (below_size (by repeat (first | (with_reducible first | exact HB.out | apply below_alloc | apply pw_below_drewN | apply below_drew1 | refine below_set ?_ GE160.out | refine below_set ?_ GE165.out) | exact HB.out)))); have n2_ := Aside0.mk (blk_below (g := gb160) (o := .cells #[.int .i64 t156, .int .i64 t157, .string t158] 32 (0, 0)) (by (with_reducible repeat (first | refine blk_drewN ?_ _ | refine blk_drew ?_ | refine blk_alloc ?_ _)); refine blk_far ?_ NB160_165.out _; (with_reducible repeat (first | refine blk_drewN ?_ _ | refine blk_drew ?_ | refine blk_alloc ?_ _)); refine blk_far ?_ NB160_165.out _; (with_reducible repeat (first | refine blk_drewN ?_ _ | refine blk_drew ?_ | refine blk_alloc ?_ _)); refine blk_far ?_ NB160_165.out _; (with_reducible repeat (first | refine blk_drewN ?_ _ | refine blk_drew ?_ | refine blk_alloc ?_ _)); exact BK160.out) hb); have n3_ := Aside0.mk (blk_below (g := gb165) (o := .cells #[.int .i64 t161, .int .i64 t162, .string t163] 32 (0, 0)) (by (with_reducible repeat (first | refine blk_drewN ?_ _ | refine blk_drew ?_ | refine blk_alloc ?_ _)); refine blk_put (cs := #[.int .i64 t161, .int .i64 t162, .string (⟨#[]⟩ : ByteArray)]) ?_ 2 _ rfl; (with_reducible repeat (first | refine blk_drewN ?_ _ | refine blk_drew ?_ | refine blk_alloc ?_ _)); refine blk_put (cs := #[.int .i64 t161, .int .i64 0, .string (⟨#[]⟩ : ByteArray)]) ?_ 1 _ rfl; (with_reducible repeat (first | refine blk_drewN ?_ _ | refine blk_drew ?_ | refine blk_alloc ?_ _)); refine blk_put (cs := #[.int .i64 0, .int .i64 0, .string (⟨#[]⟩ : ByteArray)]) ?_ 0 _ rfl; (with_reducible repeat (first | refine blk_drewN ?_ _ | refine blk_drew ?_ | refine blk_alloc ?_ _)); exact BK165.out) hb); have n4_ := Aside0.mk (below_step (by repeat (first | (with_reducible first | exact HB.out | apply below_alloc | apply pw_below_drewN | apply below_drew1 | refine below_set ?_ GE160.out | refine below_set ?_ GE165.out) | exact HB.out)) hb); clear HO155; clear BK160; clear BK165; clear HB; have HO155 := n0_; have HO168 := n1_; have BK160 := n2_; have BK165 := n3_; have HB := n4_; clear n0_ n1_ n2_ n3_ n4_; clear hb ho29; obtain ⟨Ao30, co30, eo30⟩ := Kd.R_slice HO168.out; subst eo30) | ((with_reducible refine gate_callee (f := 16) rfl ?_); refine goesL_ (some 25) rfl rfl Try.func16 (by kernel_rfl) rfl #[.int .i64 4, .slice Ao30 y166.length co30] rfl (by (try simp only [List.map_toArray, List.map_cons, List.map_nil]); first | done | rfl | (simp only [List.length_drop, List.length_take]; rfl)) ?_; (with_reducible refine (quarrylaw17_gathered.print 4 _ _ y166 t169 t170 t171 true _ ?side1 ?side2 A5.out).mono ?_); (case side1 => repeat (first | exact (Kd.R_reads' HO168.out).2.2 | (with_reducible refine Kd.C_alloc ?_ _) | (with_reducible refine Kd.C_drewN ?_ _) | (with_reducible refine Kd.C_drew ?_))); (case side2 => exact (Kd.R_reads' HO168.out).2.1); rintro e w31 ⟨rfl, hb⟩; refine ⟨_, rfl, ?_⟩; have n0_ := Aside0.mk (Kd.R_below (by (with_reducible repeat (first | apply Kd.R_alloc | apply Kd.R_drewN | apply Kd.R_drew)); exact HO155.out) hb); have n1_ := Aside0.mk (Kd.R_below (by (with_reducible repeat (first | apply Kd.R_alloc | apply Kd.R_drewN | apply Kd.R_drew)); exact HO168.out) hb); have n2_ := Aside0.mk (blk_below (g := gb160) (o := .cells #[.int .i64 t156, .int .i64 t157, .string t158] 32 (0, 0)) (bk_ BK160) hb); have n3_ := Aside0.mk (blk_below (g := gb165) (o := .cells #[.int .i64 t161, .int .i64 t162, .string t163] 32 (0, 0)) (bk_ BK165) hb); have n4_ := Aside0.mk (below_step (by repeat (first | (with_reducible first | exact HB.out | apply below_alloc | apply pw_below_drewN | apply below_drew1 | refine below_set ?_ GE160.out | refine below_set ?_ GE165.out) | exact HB.out)) hb); clear HO155; clear HO168; clear BK160; clear BK165; clear HB; have HO155 := n0_; have HO168 := n1_; have BK160 := n2_; have BK165 := n3_; have HB := n4_; clear n0_ n1_ n2_ n3_ n4_; (try clear hb); (try clear hb2); (try clear hk); (try clear hi)) | ((with_reducible refine gate_dst (N := 5) rfl ?_); refine box_event ?hg (N := 5) ?hd (cs := #[.int .i64 0, .int .i64 0, .string (⟨#[]⟩ : ByteArray)]) (t := 32) ?hr ?_; (case hd => rfl); (case hg => rfl); (case hr => first | (go_simp; done) | (go_simp; rfl)); intro gb173 hg w32 hbox hb; have n0_ := Aside0.mk (Kd.R_below (Kd.R_elderB (by (with_reducible repeat (first | apply Kd.R_alloc | apply Kd.R_drewN | apply Kd.R_drew)); exact HO155.out) gb173 (Nat.le_of_eq hg.symm)) hb); have n1_ := Aside0.mk (Kd.R_below (Kd.R_elderB (by (with_reducible repeat (first | apply Kd.R_alloc | apply Kd.R_drewN | apply Kd.R_drew)); exact HO168.out) gb173 (Nat.le_of_eq hg.symm)) hb); have n2_ := Aside0.mk (blk_below (g := gb160) (o := .cells #[.int .i64 t156, .int .i64 t157, .string t158] 32 (0, 0)) (bk_ BK160) hb); have n3_ := Aside0.mk (blk_below (g := gb165) (o := .cells #[.int .i64 t161, .int .i64 t162, .string t163] 32 (0, 0)) (bk_ BK165) hb); have n4_ := Aside0.mk (below_step (by repeat (first | (with_reducible first | exact HB.out | apply below_alloc | apply pw_below_drewN | apply below_drew1 | refine below_set ?_ GE160.out | refine below_set ?_ GE165.out) | exact HB.out)) hb); have n5_ := Aside0.mk (hbox); have n6_ := Aside0.mk ((by rw [hg]; exact (below_size (by repeat (first | (with_reducible first | exact HB.out | apply below_alloc | apply pw_below_drewN | apply below_drew1 | refine below_set ?_ GE160.out | refine below_set ?_ GE165.out) | exact HB.out))) : w.heap.size ≤ gb173)); have n7_ := Aside0.mk ((by rw [hg]; exact (below_size (by repeat (first | (with_reducible first | exact HB.out | apply below_alloc | apply pw_below_drewN | apply below_drew1 | refine below_set ?_ GE160.out | refine below_set ?_ GE165.out) | exact HB.out))) : w.heap.size ≤ gb173)); have n8_ := Aside0.mk ((by rw [hg]; exact Nat.ne_of_lt (blk_lt (g := gb160) (o := .cells #[.int .i64 t156, .int .i64 t157, .string t158] 32 (0, 0)) (bk_ BK160)) : gb160 ≠ gb173)); have n9_ := Aside0.mk ((by rw [hg]; exact Nat.ne_of_gt (blk_lt (g := gb160) (o := .cells #[.int .i64 t156, .int .i64 t157, .string t158] 32 (0, 0)) (bk_ BK160)) : gb173 ≠ gb160)); have n10_ := Aside0.mk ((by rw [hg]; exact Nat.ne_of_lt (blk_lt (g := gb165) (o := .cells #[.int .i64 t161, .int .i64 t162, .string t163] 32 (0, 0)) (bk_ BK165)) : gb165 ≠ gb173)); have n11_ := Aside0.mk ((by rw [hg]; exact Nat.ne_of_gt (blk_lt (g := gb165) (o := .cells #[.int .i64 t161, .int .i64 t162, .string t163] 32 (0, 0)) (bk_ BK165)) : gb173 ≠ gb165)); clear HO155; clear HO168; clear BK160; clear BK165; clear HB; have HO155 := n0_; have HO168 := n1_; have BK160 := n2_; have BK165 := n3_; have HB := n4_; have BK173 := n5_; have GW173 := n6_; have GE173 := n7_; have NB160_173 := n8_; have NB173_160 := n9_; have NB165_173 := n10_; have NB173_165 := n11_; clear n0_ n1_ n2_ n3_ n4_ n5_ n6_ n7_ n8_ n9_ n10_ n11_; clear hb hbox hg; have hnb33 := NB173_160.out; have hnc33 := NB160_173.out; have hnb34 := NB173_165.out; have hnc34 := NB165_173.out; have hcz35_0 : w32.cell? ⟨gb173, 0, none⟩ = some (.int .i64 0) := (blk_cell BK173.out 0).trans rfl; have hcz35_1 : w32.cell? ⟨gb173, 1, none⟩ = some (.int .i64 0) := (blk_cell BK173.out 1).trans rfl; have hcz35_2 : w32.cell? ⟨gb173, 2, none⟩ = some (.string (⟨#[]⟩ : ByteArray)) := (blk_cell BK173.out 2).trans rfl; have hfz35_0 := blk_frozen BK173.out 0; have hfz35_1 := blk_frozen BK173.out 1; have hfz35_2 := blk_frozen BK173.out 2) | ((with_reducible refine gate_callee (f := 18) rfl ?_); refine goesL_ (some 29) rfl rfl Try.func18 (by kernel_rfl) rfl #[.int .i64 9223372036854775807] rfl (by (try simp only [List.map_toArray, List.map_cons, List.map_nil]); first | done | rfl | (simp only [List.length_drop, List.length_take]; rfl)) ?_; (with_reducible refine (quarrylaw17_number.calls 9223372036854775807 t174 t175 t176 _ A6.out).mono ?_); rintro e w36 ⟨rfl, hb⟩; refine ⟨_, rfl, ?_⟩; have n0_ := Aside0.mk (Kd.R_below (by (with_reducible repeat (first | apply Kd.R_alloc | apply Kd.R_drewN | apply Kd.R_drew)); exact (Kd.R_mono (Kd.R_far (p := ⟨gb173, 2, none⟩) (Kd.R_far (p := ⟨gb173, 1, none⟩) (Kd.R_far (p := ⟨gb173, 0, none⟩) (Kd.R_mono HO155.out (fun k_ hk => (⟨hk, hk.2⟩ : _ ∧ k_ ≠ gb173))) (fun _ hk => hk.2) (.int .i64 t169)) (fun _ hk => hk.2) (.int .i64 t170)) (fun _ hk => hk.2) (.string t171)) (fun _ h_ => h_.1))) hb); have n1_ := Aside0.mk (Kd.R_below (by (with_reducible repeat (first | apply Kd.R_alloc | apply Kd.R_drewN | apply Kd.R_drew)); exact (Kd.R_mono (Kd.R_far (p := ⟨gb173, 2, none⟩) (Kd.R_far (p := ⟨gb173, 1, none⟩) (Kd.R_far (p := ⟨gb173, 0, none⟩) (Kd.R_mono HO168.out (fun k_ hk => (⟨hk, hk.2⟩ : _ ∧ k_ ≠ gb173))) (fun _ hk => hk.2) (.int .i64 t169)) (fun _ hk => hk.2) (.int .i64 t170)) (fun _ hk => hk.2) (.string t171)) (fun _ h_ => h_.1))) hb); have n2_ := Aside0.mk (blk_below (g := gb160) (o := .cells #[.int .i64 t156, .int .i64 t157, .string t158] 32 (0, 0)) (by (with_reducible repeat (first | refine blk_drewN ?_ _ | refine blk_drew ?_ | refine blk_alloc ?_ _)); refine blk_far ?_ NB160_173.out _; (with_reducible repeat (first | refine blk_drewN ?_ _ | refine blk_drew ?_ | refine blk_alloc ?_ _)); refine blk_far ?_ NB160_173.out _; (with_reducible repeat (first | refine blk_drewN ?_ _ | refine blk_drew ?_ | refine blk_alloc ?_ _)); refine blk_far ?_ NB160_173.out _; (with_reducible repeat (first | refine blk_drewN ?_ _ | refine blk_drew ?_ | refine blk_alloc ?_ _)); exact BK160.out) hb); have n3_ := Aside0.mk (blk_below (g := gb165) (o := .cells #[.int .i64 t161, .int .i64 t162, .string t163] 32 (0, 0)) (by (with_reducible repeat (first | refine blk_drewN ?_ _ | refine blk_drew ?_ | refine blk_alloc ?_ _)); refine blk_far ?_ NB165_173.out _; (with_reducible repeat (first | refine blk_drewN ?_ _ | refine blk_drew ?_ | refine blk_alloc ?_ _)); refine blk_far ?_ NB165_173.out _; (with_reducible repeat (first | refine blk_drewN ?_ _ | refine blk_drew ?_ | refine blk_alloc ?_ _)); refine blk_far ?_ NB165_173.out _; (with_reducible repeat (first | refine blk_drewN ?_ _ | refine blk_drew ?_ | refine blk_alloc ?_ _)); exact BK165.out) hb); have n4_ := Aside0.mk (blk_below (g := gb173) (o := .cells #[.int .i64 t169, .int .i64 t170, .string t171] 32 (0, 0)) (by (with_reducible repeat (first | refine blk_drewN ?_ _ | refine blk_drew ?_ | refine blk_alloc ?_ _)); refine blk_put (cs := #[.int .i64 t169, .int .i64 t170, .string (⟨#[]⟩ : ByteArray)]) ?_ 2 _ rfl; (with_reducible repeat (first | refine blk_drewN ?_ _ | refine blk_drew ?_ | refine blk_alloc ?_ _)); refine blk_put (cs := #[.int .i64 t169, .int .i64 0, .string (⟨#[]⟩ : ByteArray)]) ?_ 1 _ rfl; (with_reducible repeat (first | refine blk_drewN ?_ _ | refine blk_drew ?_ | refine blk_alloc ?_ _)); refine blk_put (cs := #[.int .i64 0, .int .i64 0, .string (⟨#[]⟩ : ByteArray)]) ?_ 0 _ rfl; (with_reducible repeat (first | refine blk_drewN ?_ _ | refine blk_drew ?_ | refine blk_alloc ?_ _)); exact BK173.out) hb); have n5_ := Aside0.mk (below_step (by repeat (first | (with_reducible first | exact HB.out | apply below_alloc | apply pw_below_drewN | apply below_drew1 | refine below_set ?_ GE160.out | refine below_set ?_ GE165.out | refine below_set ?_ GE173.out) | exact HB.out)) hb); clear HO155; clear HO168; clear BK160; clear BK165; clear BK173; clear HB; have HO155 := n0_; have HO168 := n1_; have BK160 := n2_; have BK165 := n3_; have BK173 := n4_; have HB := n5_; clear n0_ n1_ n2_ n3_ n4_ n5_; (try clear hb); (try clear hb2); (try clear hk); (try clear hi)) | ((with_reducible refine gate_callee (f := 18) rfl ?_); refine goesL_ (some 30) rfl rfl Try.func18 (by kernel_rfl) rfl #[.int .i64 1] rfl (by (try simp only [List.map_toArray, List.map_cons, List.map_nil]); first | done | rfl | (simp only [List.length_drop, List.length_take]; rfl)) ?_; (with_reducible refine (quarrylaw17_number.calls 1 t177 t178 t179 _ A7.out).mono ?_); rintro e w37 ⟨rfl, hb⟩; refine ⟨_, rfl, ?_⟩; have n0_ := Aside0.mk (Kd.R_below (by (with_reducible repeat (first | apply Kd.R_alloc | apply Kd.R_drewN | apply Kd.R_drew)); exact HO155.out) hb); have n1_ := Aside0.mk (Kd.R_below (by (with_reducible repeat (first | apply Kd.R_alloc | apply Kd.R_drewN | apply Kd.R_drew)); exact HO168.out) hb); have n2_ := Aside0.mk (blk_below (g := gb160) (o := .cells #[.int .i64 t156, .int .i64 t157, .string t158] 32 (0, 0)) (bk_ BK160) hb); have n3_ := Aside0.mk (blk_below (g := gb165) (o := .cells #[.int .i64 t161, .int .i64 t162, .string t163] 32 (0, 0)) (bk_ BK165) hb); have n4_ := Aside0.mk (blk_below (g := gb173) (o := .cells #[.int .i64 t169, .int .i64 t170, .string t171] 32 (0, 0)) (bk_ BK173) hb); have n5_ := Aside0.mk (below_step (by repeat (first | (with_reducible first | exact HB.out | apply below_alloc | apply pw_below_drewN | apply below_drew1 | refine below_set ?_ GE160.out | refine below_set ?_ GE165.out | refine below_set ?_ GE173.out) | exact HB.out)) hb); clear HO155; clear HO168; clear BK160; clear BK165; clear BK173; clear HB; have HO155 := n0_; have HO168 := n1_; have BK160 := n2_; have BK165 := n3_; have BK173 := n4_; have HB := n5_; clear n0_ n1_ n2_ n3_ n4_ n5_; (try clear hb); (try clear hb2); (try clear hk); (try clear hi)) | ((with_reducible refine gate_dst (N := 31) rfl ?_); refine Kd.R_lit k32 _ 32 ?hg (N := 31) ?hd (xs := ([(⟨t174, t175, t176⟩ : S32), (⟨t177, t178, t179⟩ : S32)] : List (S32))) (inner := [.int .i64 t174, .int .i64 t175, .string t176, .int .i64 t177, .int .i64 t178, .string t179]) (ok := fun _ => True) (okp := fun _ => True) ?hr ?hp (fun _ hk => hk) trivial (Below.refl _ _) (Nat.le_refl _) (by simp) ?_; (case hd => rfl); (case hg => rfl); (case hr => first | (go_simp; done) | (go_simp; rfl)); (case hp => exact (Reps.c3 (show Kd.M k32 _ _ _ (⟨t174, t175, t176⟩ : S32) [.int .i64 t174, .int .i64 t175, .string t176] from (k32_mkM _ _ _ (⟨t174, t175, t176⟩ : S32) )) (Reps.c3 (show Kd.M k32 _ _ _ (⟨t177, t178, t179⟩ : S32) [.int .i64 t177, .int .i64 t178, .string t179] from (k32_mkM _ _ _ (⟨t177, t178, t179⟩ : S32) )) (Reps.none _ _)))); intro v181 w38 ho39 hb hg_ hnew_; clear hg_ hnew_; (first | rw [← Ny180.out] at ho39 | (simp only [Int.reduceToNat] at ho39; rw [← Ny180.out] at ho39)); have n0_ := Aside0.mk (Kd.R_elder' (by (with_reducible repeat (first | apply Kd.R_alloc | apply Kd.R_drewN | apply Kd.R_drew)); exact HO155.out) (Kd.R_base ho39) hb); have n1_ := Aside0.mk (Kd.R_elder' (by (with_reducible repeat (first | apply Kd.R_alloc | apply Kd.R_drewN | apply Kd.R_drew)); exact HO168.out) (Kd.R_base ho39) hb); have n2_ := Aside0.mk (Kd.R_lower (Kd.R_newB (Kd.R_newB (Kd.R_newB (Kd.R_new' (Kd.R_new' ho39 (Kd.R_lt (by (with_reducible repeat (first | apply Kd.R_alloc | apply Kd.R_drewN | apply Kd.R_drew)); exact HO155.out))) (Kd.R_lt (by (with_reducible repeat (first | apply Kd.R_alloc | apply Kd.R_drewN | apply Kd.R_drew)); exact HO168.out))) (g := gb160) (o := .cells #[.int .i64 t156, .int .i64 t157, .string t158] 32 (0, 0)) (bk_ BK160)) (g := gb165) (o := .cells #[.int .i64 t161, .int .i64 t162, .string t163] 32 (0, 0)) (bk_ BK165)) (g := gb173) (o := .cells #[.int .i64 t169, .int .i64 t170, .string t171] 32 (0, 0)) (bk_ BK173)) (below_size (by repeat (first | (with_reducible first | exact HB.out | apply below_alloc | apply pw_below_drewN | apply below_drew1 | refine below_set ?_ GE160.out | refine below_set ?_ GE165.out | refine below_set ?_ GE173.out) | exact HB.out)))); have n3_ := Aside0.mk (blk_below (g := gb160) (o := .cells #[.int .i64 t156, .int .i64 t157, .string t158] 32 (0, 0)) (bk_ BK160) hb); have n4_ := Aside0.mk (blk_below (g := gb165) (o := .cells #[.int .i64 t161, .int .i64 t162, .string t163] 32 (0, 0)) (bk_ BK165) hb); have n5_ := Aside0.mk (blk_below (g := gb173) (o := .cells #[.int .i64 t169, .int .i64 t170, .string t171] 32 (0, 0)) (bk_ BK173) hb); have n6_ := Aside0.mk (below_step (by repeat (first | (with_reducible first | exact HB.out | apply below_alloc | apply pw_below_drewN | apply below_drew1 | refine below_set ?_ GE160.out | refine below_set ?_ GE165.out | refine below_set ?_ GE173.out) | exact HB.out)) hb); clear HO155; clear HO168; clear BK160; clear BK165; clear BK173; clear HB; have HO155 := n0_; have HO168 := n1_; have HO182 := n2_; have BK160 := n3_; have BK165 := n4_; have BK173 := n5_; have HB := n6_; clear n0_ n1_ n2_ n3_ n4_ n5_ n6_; clear hb ho39; obtain ⟨Ao40, co40, eo40⟩ := Kd.R_slice HO182.out; subst eo40) | ((with_reducible refine gate_callee (f := 16) rfl ?_); refine goesL_ (some 32) rfl rfl Try.func16 (by kernel_rfl) rfl #[.int .i64 2, .slice Ao40 y180.length co40] rfl (by (try simp only [List.map_toArray, List.map_cons, List.map_nil]); first | done | rfl | (simp only [List.length_drop, List.length_take]; rfl)) ?_; (with_reducible refine (quarrylaw17_gathered.print 2 _ _ y180 t183 t184 t185 t186 _ ?side1 ?side2 A8.out).mono ?_); (case side1 => repeat (first | exact (Kd.R_reads' HO182.out).2.2 | (with_reducible refine Kd.C_alloc ?_ _) | (with_reducible refine Kd.C_drewN ?_ _) | (with_reducible refine Kd.C_drew ?_))); (case side2 => exact (Kd.R_reads' HO182.out).2.1); rintro e w41 ⟨rfl, hb⟩; refine ⟨_, rfl, ?_⟩; have n0_ := Aside0.mk (Kd.R_below (by (with_reducible repeat (first | apply Kd.R_alloc | apply Kd.R_drewN | apply Kd.R_drew)); exact HO155.out) hb); have n1_ := Aside0.mk (Kd.R_below (by (with_reducible repeat (first | apply Kd.R_alloc | apply Kd.R_drewN | apply Kd.R_drew)); exact HO168.out) hb); have n2_ := Aside0.mk (Kd.R_below (by (with_reducible repeat (first | apply Kd.R_alloc | apply Kd.R_drewN | apply Kd.R_drew)); exact HO182.out) hb); have n3_ := Aside0.mk (blk_below (g := gb160) (o := .cells #[.int .i64 t156, .int .i64 t157, .string t158] 32 (0, 0)) (bk_ BK160) hb); have n4_ := Aside0.mk (blk_below (g := gb165) (o := .cells #[.int .i64 t161, .int .i64 t162, .string t163] 32 (0, 0)) (bk_ BK165) hb); have n5_ := Aside0.mk (blk_below (g := gb173) (o := .cells #[.int .i64 t169, .int .i64 t170, .string t171] 32 (0, 0)) (bk_ BK173) hb); have n6_ := Aside0.mk (below_step (by repeat (first | (with_reducible first | exact HB.out | apply below_alloc | apply pw_below_drewN | apply below_drew1 | refine below_set ?_ GE160.out | refine below_set ?_ GE165.out | refine below_set ?_ GE173.out) | exact HB.out)) hb); clear HO155; clear HO168; clear HO182; clear BK160; clear BK165; clear BK173; clear HB; have HO155 := n0_; have HO168 := n1_; have HO182 := n2_; have BK160 := n3_; have BK165 := n4_; have BK173 := n5_; have HB := n6_; clear n0_ n1_ n2_ n3_ n4_ n5_ n6_; (try clear hb); (try clear hb2); (try clear hk); (try clear hi)) | ((with_reducible refine gate_dst (N := 7) rfl ?_); refine box_event ?hg (N := 7) ?hd (cs := #[.int .i64 0, .int .i64 0, .string (⟨#[]⟩ : ByteArray)]) (t := 32) ?hr ?_; (case hd => rfl); (case hg => rfl); (case hr => first | (go_simp; done) | (go_simp; rfl)); intro gb187 hg w42 hbox hb; have n0_ := Aside0.mk (Kd.R_below (Kd.R_elderB (by (with_reducible repeat (first | apply Kd.R_alloc | apply Kd.R_drewN | apply Kd.R_drew)); exact HO155.out) gb187 (Nat.le_of_eq hg.symm)) hb); have n1_ := Aside0.mk (Kd.R_below (Kd.R_elderB (by (with_reducible repeat (first | apply Kd.R_alloc | apply Kd.R_drewN | apply Kd.R_drew)); exact HO168.out) gb187 (Nat.le_of_eq hg.symm)) hb); have n2_ := Aside0.mk (Kd.R_below (Kd.R_elderB (by (with_reducible repeat (first | apply Kd.R_alloc | apply Kd.R_drewN | apply Kd.R_drew)); exact HO182.out) gb187 (Nat.le_of_eq hg.symm)) hb); have n3_ := Aside0.mk (blk_below (g := gb160) (o := .cells #[.int .i64 t156, .int .i64 t157, .string t158] 32 (0, 0)) (bk_ BK160) hb); have n4_ := Aside0.mk (blk_below (g := gb165) (o := .cells #[.int .i64 t161, .int .i64 t162, .string t163] 32 (0, 0)) (bk_ BK165) hb); have n5_ := Aside0.mk (blk_below (g := gb173) (o := .cells #[.int .i64 t169, .int .i64 t170, .string t171] 32 (0, 0)) (bk_ BK173) hb); have n6_ := Aside0.mk (below_step (by repeat (first | (with_reducible first | exact HB.out | apply below_alloc | apply pw_below_drewN | apply below_drew1 | refine below_set ?_ GE160.out | refine below_set ?_ GE165.out | refine below_set ?_ GE173.out) | exact HB.out)) hb); have n7_ := Aside0.mk (hbox); have n8_ := Aside0.mk ((by rw [hg]; exact (below_size (by repeat (first | (with_reducible first | exact HB.out | apply below_alloc | apply pw_below_drewN | apply below_drew1 | refine below_set ?_ GE160.out | refine below_set ?_ GE165.out | refine below_set ?_ GE173.out) | exact HB.out))) : w.heap.size ≤ gb187)); have n9_ := Aside0.mk ((by rw [hg]; exact (below_size (by repeat (first | (with_reducible first | exact HB.out | apply below_alloc | apply pw_below_drewN | apply below_drew1 | refine below_set ?_ GE160.out | refine below_set ?_ GE165.out | refine below_set ?_ GE173.out) | exact HB.out))) : w.heap.size ≤ gb187)); have n10_ := Aside0.mk ((by rw [hg]; exact Nat.ne_of_lt (blk_lt (g := gb160) (o := .cells #[.int .i64 t156, .int .i64 t157, .string t158] 32 (0, 0)) (bk_ BK160)) : gb160 ≠ gb187)); have n11_ := Aside0.mk ((by rw [hg]; exact Nat.ne_of_gt (blk_lt (g := gb160) (o := .cells #[.int .i64 t156, .int .i64 t157, .string t158] 32 (0, 0)) (bk_ BK160)) : gb187 ≠ gb160)); have n12_ := Aside0.mk ((by rw [hg]; exact Nat.ne_of_lt (blk_lt (g := gb165) (o := .cells #[.int .i64 t161, .int .i64 t162, .string t163] 32 (0, 0)) (bk_ BK165)) : gb165 ≠ gb187)); have n13_ := Aside0.mk ((by rw [hg]; exact Nat.ne_of_gt (blk_lt (g := gb165) (o := .cells #[.int .i64 t161, .int .i64 t162, .string t163] 32 (0, 0)) (bk_ BK165)) : gb187 ≠ gb165)); have n14_ := Aside0.mk ((by rw [hg]; exact Nat.ne_of_lt (blk_lt (g := gb173) (o := .cells #[.int .i64 t169, .int .i64 t170, .string t171] 32 (0, 0)) (bk_ BK173)) : gb173 ≠ gb187)); have n15_ := Aside0.mk ((by rw [hg]; exact Nat.ne_of_gt (blk_lt (g := gb173) (o := .cells #[.int .i64 t169, .int .i64 t170, .string t171] 32 (0, 0)) (bk_ BK173)) : gb187 ≠ gb173)); clear HO155; clear HO168; clear HO182; clear BK160; clear BK165; clear BK173; clear HB; have HO155 := n0_; have HO168 := n1_; have HO182 := n2_; have BK160 := n3_; have BK165 := n4_; have BK173 := n5_; have HB := n6_; have BK187 := n7_; have GW187 := n8_; have GE187 := n9_; have NB160_187 := n10_; have NB187_160 := n11_; have NB165_187 := n12_; have NB187_165 := n13_; have NB173_187 := n14_; have NB187_173 := n15_; clear n0_ n1_ n2_ n3_ n4_ n5_ n6_ n7_ n8_ n9_ n10_ n11_ n12_ n13_ n14_ n15_; clear hb hbox hg; have hnb43 := NB187_160.out; have hnc43 := NB160_187.out; have hnb44 := NB187_165.out; have hnc44 := NB165_187.out; have hnb45 := NB187_173.out; have hnc45 := NB173_187.out; have hcz46_0 : w42.cell? ⟨gb187, 0, none⟩ = some (.int .i64 0) := (blk_cell BK187.out 0).trans rfl; have hcz46_1 : w42.cell? ⟨gb187, 1, none⟩ = some (.int .i64 0) := (blk_cell BK187.out 1).trans rfl; have hcz46_2 : w42.cell? ⟨gb187, 2, none⟩ = some (.string (⟨#[]⟩ : ByteArray)) := (blk_cell BK187.out 2).trans rfl; have hfz46_0 := blk_frozen BK187.out 0; have hfz46_1 := blk_frozen BK187.out 1; have hfz46_2 := blk_frozen BK187.out 2))
       have n0_ : Aside0 (Kd.R k32 32 (((w42.setCell ⟨gb187, 0, none⟩ (.int .i64 t183)).setCell ⟨gb187, 1, none⟩ (.int .i64 t184)).setCell ⟨gb187, 2, none⟩ (.string t185)) w.heap.size (fun k_ => some k_ ≠ (.slice Ao30 y166.length co30 : Value).ownBlock ∧ some k_ ≠ (.slice Ao40 y180.length co40 : Value).ownBlock ∧ k_ ≠ gb160 ∧ k_ ≠ gb165 ∧ k_ ≠ gb173 ∧ k_ ≠ gb187) (.slice Ao20 y153.length co20) y153) := ⟨by (with_reducible repeat (first | apply Kd.R_alloc | apply Kd.R_drewN | apply Kd.R_drew)); exact Kd.R_mono (Kd.R_far (p := ⟨gb187, 2, none⟩) (Kd.R_far (p := ⟨gb187, 1, none⟩) (Kd.R_far (p := ⟨gb187, 0, none⟩) (Kd.R_mono HO155.out (fun k_ hk => (⟨hk, hk.2⟩ : _ ∧ k_ ≠ gb187))) (fun _ hk => hk.2) (.int .i64 t183)) (fun _ hk => hk.2) (.int .i64 t184)) (fun _ hk => hk.2) (.string t185)) (fun _ hk => ⟨hk.1.1.1.1.2, ⟨hk.1.1.2, ⟨hk.1.1.1.1.1.1.2, ⟨hk.1.1.1.1.1.2, ⟨hk.1.1.1.2, hk.1.2⟩⟩⟩⟩⟩)⟩
       have n1_ : Aside0 (Kd.R k32 32 (((w42.setCell ⟨gb187, 0, none⟩ (.int .i64 t183)).setCell ⟨gb187, 1, none⟩ (.int .i64 t184)).setCell ⟨gb187, 2, none⟩ (.string t185)) w.heap.size (fun k_ => some k_ ≠ (.slice Ao20 y153.length co20 : Value).ownBlock ∧ some k_ ≠ (.slice Ao40 y180.length co40 : Value).ownBlock ∧ k_ ≠ gb160 ∧ k_ ≠ gb165 ∧ k_ ≠ gb173 ∧ k_ ≠ gb187) (.slice Ao30 y166.length co30) y166) := ⟨by (with_reducible repeat (first | apply Kd.R_alloc | apply Kd.R_drewN | apply Kd.R_drew)); exact Kd.R_mono (Kd.R_far (p := ⟨gb187, 2, none⟩) (Kd.R_far (p := ⟨gb187, 1, none⟩) (Kd.R_far (p := ⟨gb187, 0, none⟩) (Kd.R_mono HO168.out (fun k_ hk => (⟨hk, hk.2⟩ : _ ∧ k_ ≠ gb187))) (fun _ hk => hk.2) (.int .i64 t183)) (fun _ hk => hk.2) (.int .i64 t184)) (fun _ hk => hk.2) (.string t185)) (fun _ hk => ⟨hk.1.1.1.1.1.1.2, ⟨hk.1.1.2, ⟨hk.1.1.1.1.1.2, ⟨hk.1.1.1.1.2, ⟨hk.1.1.1.2, hk.1.2⟩⟩⟩⟩⟩)⟩
       have n2_ : Aside0 (Kd.R k32 32 (((w42.setCell ⟨gb187, 0, none⟩ (.int .i64 t183)).setCell ⟨gb187, 1, none⟩ (.int .i64 t184)).setCell ⟨gb187, 2, none⟩ (.string t185)) w.heap.size (fun k_ => some k_ ≠ (.slice Ao20 y153.length co20 : Value).ownBlock ∧ some k_ ≠ (.slice Ao30 y166.length co30 : Value).ownBlock ∧ k_ ≠ gb160 ∧ k_ ≠ gb165 ∧ k_ ≠ gb173 ∧ k_ ≠ gb187) (.slice Ao40 y180.length co40) y180) := ⟨by (with_reducible repeat (first | apply Kd.R_alloc | apply Kd.R_drewN | apply Kd.R_drew)); exact Kd.R_mono (Kd.R_far (p := ⟨gb187, 2, none⟩) (Kd.R_far (p := ⟨gb187, 1, none⟩) (Kd.R_far (p := ⟨gb187, 0, none⟩) (Kd.R_mono HO182.out (fun k_ hk => (⟨hk, hk.2⟩ : _ ∧ k_ ≠ gb187))) (fun _ hk => hk.2) (.int .i64 t183)) (fun _ hk => hk.2) (.int .i64 t184)) (fun _ hk => hk.2) (.string t185)) (fun _ hk => ⟨hk.1.1.1.1.1.1.2, ⟨hk.1.1.1.1.1.2, ⟨hk.1.1.1.1.2, ⟨hk.1.1.1.2, ⟨hk.1.1.2, hk.1.2⟩⟩⟩⟩⟩)⟩
       have n3_ : Aside0 ((((w42.setCell ⟨gb187, 0, none⟩ (.int .i64 t183)).setCell ⟨gb187, 1, none⟩ (.int .i64 t184)).setCell ⟨gb187, 2, none⟩ (.string t185)).heap[gb160]? = some (.cells #[.int .i64 t156, .int .i64 t157, .string t158] 32 (0, 0))) := ⟨by (with_reducible repeat (first | refine blk_drewN ?_ _ | refine blk_drew ?_ | refine blk_alloc ?_ _)); refine blk_far ?_ NB160_187.out _; (with_reducible repeat (first | refine blk_drewN ?_ _ | refine blk_drew ?_ | refine blk_alloc ?_ _)); refine blk_far ?_ NB160_187.out _; (with_reducible repeat (first | refine blk_drewN ?_ _ | refine blk_drew ?_ | refine blk_alloc ?_ _)); refine blk_far ?_ NB160_187.out _; (with_reducible repeat (first | refine blk_drewN ?_ _ | refine blk_drew ?_ | refine blk_alloc ?_ _)); exact BK160.out⟩
       have n4_ : Aside0 ((((w42.setCell ⟨gb187, 0, none⟩ (.int .i64 t183)).setCell ⟨gb187, 1, none⟩ (.int .i64 t184)).setCell ⟨gb187, 2, none⟩ (.string t185)).heap[gb165]? = some (.cells #[.int .i64 t161, .int .i64 t162, .string t163] 32 (0, 0))) := ⟨by (with_reducible repeat (first | refine blk_drewN ?_ _ | refine blk_drew ?_ | refine blk_alloc ?_ _)); refine blk_far ?_ NB165_187.out _; (with_reducible repeat (first | refine blk_drewN ?_ _ | refine blk_drew ?_ | refine blk_alloc ?_ _)); refine blk_far ?_ NB165_187.out _; (with_reducible repeat (first | refine blk_drewN ?_ _ | refine blk_drew ?_ | refine blk_alloc ?_ _)); refine blk_far ?_ NB165_187.out _; (with_reducible repeat (first | refine blk_drewN ?_ _ | refine blk_drew ?_ | refine blk_alloc ?_ _)); exact BK165.out⟩
       have n5_ : Aside0 ((((w42.setCell ⟨gb187, 0, none⟩ (.int .i64 t183)).setCell ⟨gb187, 1, none⟩ (.int .i64 t184)).setCell ⟨gb187, 2, none⟩ (.string t185)).heap[gb173]? = some (.cells #[.int .i64 t169, .int .i64 t170, .string t171] 32 (0, 0))) := ⟨by (with_reducible repeat (first | refine blk_drewN ?_ _ | refine blk_drew ?_ | refine blk_alloc ?_ _)); refine blk_far ?_ NB173_187.out _; (with_reducible repeat (first | refine blk_drewN ?_ _ | refine blk_drew ?_ | refine blk_alloc ?_ _)); refine blk_far ?_ NB173_187.out _; (with_reducible repeat (first | refine blk_drewN ?_ _ | refine blk_drew ?_ | refine blk_alloc ?_ _)); refine blk_far ?_ NB173_187.out _; (with_reducible repeat (first | refine blk_drewN ?_ _ | refine blk_drew ?_ | refine blk_alloc ?_ _)); exact BK173.out⟩
       have n6_ : Aside0 ((((w42.setCell ⟨gb187, 0, none⟩ (.int .i64 t183)).setCell ⟨gb187, 1, none⟩ (.int .i64 t184)).setCell ⟨gb187, 2, none⟩ (.string t185)).heap[gb187]? = some (.cells #[.int .i64 t183, .int .i64 t184, .string t185] 32 (0, 0))) := ⟨by (with_reducible repeat (first | refine blk_drewN ?_ _ | refine blk_drew ?_ | refine blk_alloc ?_ _)); refine blk_put (cs := #[.int .i64 t183, .int .i64 t184, .string (⟨#[]⟩ : ByteArray)]) ?_ 2 _ rfl; (with_reducible repeat (first | refine blk_drewN ?_ _ | refine blk_drew ?_ | refine blk_alloc ?_ _)); refine blk_put (cs := #[.int .i64 t183, .int .i64 0, .string (⟨#[]⟩ : ByteArray)]) ?_ 1 _ rfl; (with_reducible repeat (first | refine blk_drewN ?_ _ | refine blk_drew ?_ | refine blk_alloc ?_ _)); refine blk_put (cs := #[.int .i64 0, .int .i64 0, .string (⟨#[]⟩ : ByteArray)]) ?_ 0 _ rfl; (with_reducible repeat (first | refine blk_drewN ?_ _ | refine blk_drew ?_ | refine blk_alloc ?_ _)); exact BK187.out⟩
       have n7_ : Aside0 (Below w.heap.size w (((w42.setCell ⟨gb187, 0, none⟩ (.int .i64 t183)).setCell ⟨gb187, 1, none⟩ (.int .i64 t184)).setCell ⟨gb187, 2, none⟩ (.string t185))) := ⟨by repeat (first | (with_reducible first | exact HB.out | apply below_alloc | apply pw_below_drewN | apply below_drew1 | refine below_set ?_ GE160.out | refine below_set ?_ GE165.out | refine below_set ?_ GE173.out | refine below_set ?_ GE187.out) | exact HB.out)⟩
       (try clear HO155)
       (try clear HO168)
       (try clear HO182)
       (try clear BK160)
       (try clear BK165)
       (try clear BK173)
       (try clear BK187)
       (try clear HB)
       generalize (((w42.setCell ⟨gb187, 0, none⟩ (.int .i64 t183)).setCell ⟨gb187, 1, none⟩ (.int .i64 t184)).setCell ⟨gb187, 2, none⟩ (.string t185)) = w47 at n0_ n1_ n2_ n3_ n4_ n5_ n6_ n7_ ⊢
       have HO155 := n0_
       have HO168 := n1_
       have HO182 := n2_
       have BK160 := n3_
       have BK165 := n4_
       have BK173 := n5_
       have BK187 := n6_
       have HB := n7_
       clear n0_ n1_ n2_ n3_ n4_ n5_ n6_ n7_
       have n0_ := Aside0.mk (Kd.R_drew HO155.out)
       have n1_ := Aside0.mk (Kd.R_drew HO168.out)
       have n2_ := Aside0.mk (Kd.R_drew HO182.out)
       have n3_ := Aside0.mk (blk_drew BK160.out)
       have n4_ := Aside0.mk (blk_drew BK165.out)
       have n5_ := Aside0.mk (blk_drew BK173.out)
       have n6_ := Aside0.mk (blk_drew BK187.out)
       have n7_ := Aside0.mk (below_drew1 HB.out)
       clear HO155
       clear HO168
       clear HO182
       clear BK160
       clear BK165
       clear BK173
       clear BK187
       clear HB
       have HO155 := n0_
       have HO168 := n1_
       have HO182 := n2_
       have BK160 := n3_
       have BK165 := n4_
       have BK173 := n5_
       have BK187 := n6_
       have HB := n7_
       clear n0_ n1_ n2_ n3_ n4_ n5_ n6_ n7_
       refine start_ (n := 27) (S := fun w' => w'.cell? ⟨gb160, 0, none⟩ = some (.int .i64 t156) ∧ w'.cell? ⟨gb160, 1, none⟩ = some (.int .i64 t157) ∧ w'.cell? ⟨gb160, 2, none⟩ = some (.string t158) ∧ w'.cell? ⟨gb165, 0, none⟩ = some (.int .i64 t161) ∧ w'.cell? ⟨gb165, 1, none⟩ = some (.int .i64 t162) ∧ w'.cell? ⟨gb165, 2, none⟩ = some (.string t163) ∧ w'.cell? ⟨gb173, 0, none⟩ = some (.int .i64 t169) ∧ w'.cell? ⟨gb173, 1, none⟩ = some (.int .i64 t170) ∧ w'.cell? ⟨gb173, 2, none⟩ = some (.string t171)) (ds := []) #[false, false, false, false, false, false, false, false, false, false, false, false, false, false, false, false, false, false, false, false, false, false, false, false, false, false, false] (by kernel_rfl) rfl rfl ⟨(blk_cell BK160.out 0).trans rfl, (blk_cell BK160.out 1).trans rfl, (blk_cell BK160.out 2).trans rfl, (blk_cell BK165.out 0).trans rfl, (blk_cell BK165.out 1).trans rfl, (blk_cell BK165.out 2).trans rfl, (blk_cell BK173.out 0).trans rfl, (blk_cell BK173.out 1).trans rfl, (blk_cell BK173.out 2).trans rfl⟩ (fun hHeld => ?_); refine with_tabW quarrylaw17_works.tab5 quarrylaw17_works.bits5 (fun HT_ HW_ => ?_)
       generalize w47.drew = w48 at HO155 HO168 HO182 BK160 BK165 BK173 BK187 HB hHeld ⊢
       refine take_ (i := 0) (N := some 35) (v := ?_) (a' := ?_) #[true, false, false, false, false, false, false, false, false, false, false, false, false, false, false, false, false, false, false, false, false, false, false, false, false, false, false] rfl rfl (take_ofW HT_.out HW_.out (by kernel_rfl)) (fun _ _ _ h => h) (Or.inl ⟨by rfl, ?_⟩) hHeld ?_ ?_
       rotate_left
       ·rintro w' ⟨s0, s1, s2, s3, s4, s5, s6, s7, s8⟩
        go_simp
        with_reducible rfl
       rotate_left
       ·simp only [Act.put, List.setIfInBounds_toArray, List.set_cons_zero, List.set_cons_succ, i64_w, i32_w]
        rfl
       refine one_ (i := 1) (N := some 36) #[true, true, false, false, false, false, false, false, false, false, false, false, false, false, false, false, false, false, false, false, false, false, false, false, false, false, false] rfl rfl (one_of HT_.out (by kernel_rfl)) (by decide) (fun K hK => ?_)
       refine goes_ Try.func18 (by kernel_rfl) rfl #[.int .i64 3] (by rfl) rfl rfl (by (try simp only [List.map_toArray, List.map_cons, List.map_nil]); first | done | rfl | (simp only [List.length_drop, List.length_take]; rfl)) ?_
       with_reducible refine (quarrylaw17_number.calls 3 t188 t189 t190 _ A9.out).mono ?_
       rintro e w49 ⟨rfl, hb⟩
       refine ⟨_, rfl, ?_⟩
       have n0_ := Aside0.mk (Kd.R_below (by (with_reducible repeat (first | apply Kd.R_alloc | apply Kd.R_drewN | apply Kd.R_drew)); exact HO155.out) hb)
       have n1_ := Aside0.mk (Kd.R_below (by (with_reducible repeat (first | apply Kd.R_alloc | apply Kd.R_drewN | apply Kd.R_drew)); exact HO168.out) hb)
       have n2_ := Aside0.mk (Kd.R_below (by (with_reducible repeat (first | apply Kd.R_alloc | apply Kd.R_drewN | apply Kd.R_drew)); exact HO182.out) hb)
       have n3_ := Aside0.mk (blk_below (g := gb160) (o := .cells #[.int .i64 t156, .int .i64 t157, .string t158] 32 (0, 0)) (bk_ BK160) hb)
       have n4_ := Aside0.mk (blk_below (g := gb165) (o := .cells #[.int .i64 t161, .int .i64 t162, .string t163] 32 (0, 0)) (bk_ BK165) hb)
       have n5_ := Aside0.mk (blk_below (g := gb173) (o := .cells #[.int .i64 t169, .int .i64 t170, .string t171] 32 (0, 0)) (bk_ BK173) hb)
       have n6_ := Aside0.mk (blk_below (g := gb187) (o := .cells #[.int .i64 t183, .int .i64 t184, .string t185] 32 (0, 0)) (bk_ BK187) hb)
       have n7_ := Aside0.mk (below_step (by repeat (first | (with_reducible first | exact HB.out | apply below_alloc | apply pw_below_drewN | apply below_drew1 | refine below_set ?_ GE160.out | refine below_set ?_ GE165.out | refine below_set ?_ GE173.out | refine below_set ?_ GE187.out) | exact HB.out)) hb)
       clear HO155
       clear HO168
       clear HO182
       clear BK160
       clear BK165
       clear BK173
       clear BK187
       clear HB
       have HO155 := n0_
       have HO168 := n1_
       have HO182 := n2_
       have BK160 := n3_
       have BK165 := n4_
       have BK173 := n5_
       have BK187 := n6_
       have HB := n7_
       clear n0_ n1_ n2_ n3_ n4_ n5_ n6_ n7_
       (try clear hb)
       (try clear hb2)
       (try clear hk)
       (try clear hi)
       refine hK.out _ _ ⟨(blk_cell BK160.out 0).trans rfl, (blk_cell BK160.out 1).trans rfl, (blk_cell BK160.out 2).trans rfl, (blk_cell BK165.out 0).trans rfl, (blk_cell BK165.out 1).trans rfl, (blk_cell BK165.out 2).trans rfl, (blk_cell BK173.out 0).trans rfl, (blk_cell BK173.out 1).trans rfl, (blk_cell BK173.out 2).trans rfl⟩ (fun hHeld => ?_)
       clear hK K
       refine norm_ (a' := ?_) ?_ ?_
       rotate_left
       ·show Act.put _ (some 36) _ = _
        simp only [Act.put, List.setIfInBounds_toArray, List.set_cons_zero, List.set_cons_succ, i64_w, i32_w]
        rfl
       refine pure_ (i := 2) (N := some 37) (v := ?_) (a' := ?_) #[true, true, true, false, false, false, false, false, false, false, false, false, false, false, false, false, false, false, false, false, false, false, false, false, false, false, false] rfl rfl (any_of HT_.out (by kernel_rfl)) (fun _ _ _ h => h) (Or.inl ⟨by rfl, ?_⟩) ?_ ?_
       rotate_left
       ·intro w'
        go_simp
        with_reducible rfl
       rotate_left
       ·simp only [Act.put, List.setIfInBounds_toArray, List.set_cons_zero, List.set_cons_succ, i64_w, i32_w]
        rfl
       refine pure_ (i := 3) (N := some 38) (v := ?_) (a' := ?_) #[true, true, true, true, false, false, false, false, false, false, false, false, false, false, false, false, false, false, false, false, false, false, false, false, false, false, false] rfl rfl (any_of HT_.out (by kernel_rfl)) (fun _ _ _ h => h) (Or.inl ⟨by rfl, ?_⟩) ?_ ?_
       rotate_left
       ·intro w'
        go_simp
        with_reducible rfl
       rotate_left
       ·simp only [Act.put, List.setIfInBounds_toArray, List.set_cons_zero, List.set_cons_succ, i64_w, i32_w]
        rfl
       refine pure_ (i := 4) (N := some 39) (v := ?_) (a' := ?_) #[true, true, true, true, true, false, false, false, false, false, false, false, false, false, false, false, false, false, false, false, false, false, false, false, false, false, false] rfl rfl (any_of HT_.out (by kernel_rfl)) (fun _ _ _ h => h) (Or.inl ⟨by rfl, ?_⟩) ?_ ?_
       rotate_left
       ·intro w'
        go_simp
        with_reducible rfl
       rotate_left
       ·simp only [Act.put, List.setIfInBounds_toArray, List.set_cons_zero, List.set_cons_succ, i64_w, i32_w]
        rfl
       refine pure_ (i := 5) (N := some 40) (v := ?_) (a' := ?_) #[true, true, true, true, true, true, false, false, false, false, false, false, false, false, false, false, false, false, false, false, false, false, false, false, false, false, false] rfl rfl (any_of HT_.out (by kernel_rfl)) (fun _ _ _ h => h) (Or.inl ⟨by rfl, ?_⟩) ?_ ?_
       rotate_left
       ·intro w'
        go_simp
        with_reducible rfl
       rotate_left
       ·simp only [Act.put, List.setIfInBounds_toArray, List.set_cons_zero, List.set_cons_succ, i64_w, i32_w]
        rfl
       refine pure_ (i := 6) (N := some 41) (v := ?_) (a' := ?_) #[true, true, true, true, true, true, true, false, false, false, false, false, false, false, false, false, false, false, false, false, false, false, false, false, false, false, false] rfl rfl (any_of HT_.out (by kernel_rfl)) (fun _ _ _ h => h) (Or.inl ⟨by rfl, ?_⟩) ?_ ?_
       rotate_left
       ·intro w'
        go_simp
        with_reducible rfl
       rotate_left
       ·simp only [Act.put, List.setIfInBounds_toArray, List.set_cons_zero, List.set_cons_succ, i64_w, i32_w]
        rfl
       refine pure_ (i := 8) (N := some 43) (v := ?_) (a' := ?_) #[true, true, true, true, true, true, true, false, true, false, false, false, false, false, false, false, false, false, false, false, false, false, false, false, false, false, false] rfl rfl (any_of HT_.out (by kernel_rfl)) (fun _ _ _ h => h) (Or.inl ⟨by rfl, ?_⟩) ?_ ?_
       rotate_left
       ·intro w'
        go_simp
        with_reducible rfl
       rotate_left
       ·simp only [Act.put, List.setIfInBounds_toArray, List.set_cons_zero, List.set_cons_succ, i64_w, i32_w]
        rfl
       refine take_ (i := 7) (N := some 42) (v := ?_) (a' := ?_) #[true, true, true, true, true, true, true, true, true, false, false, false, false, false, false, false, false, false, false, false, false, false, false, false, false, false, false] rfl rfl (take_ofW HT_.out HW_.out (by kernel_rfl)) (fun _ _ _ h => h) (Or.inl ⟨by rfl, ?_⟩) hHeld ?_ ?_
       rotate_left
       ·rintro w' ⟨s0, s1, s2, s3, s4, s5, s6, s7, s8⟩
        go_simp
        with_reducible rfl
       rotate_left
       ·simp only [Act.put, List.setIfInBounds_toArray, List.set_cons_zero, List.set_cons_succ, i64_w, i32_w]
        rfl
       refine pure_ (i := 9) (N := some 44) (v := ?_) (a' := ?_) #[true, true, true, true, true, true, true, true, true, true, false, false, false, false, false, false, false, false, false, false, false, false, false, false, false, false, false] rfl rfl (any_of HT_.out (by kernel_rfl)) (fun _ _ _ h => h) (Or.inl ⟨by rfl, ?_⟩) ?_ ?_
       rotate_left
       ·intro w'
        go_simp
        with_reducible rfl
       rotate_left
       ·simp only [Act.put, List.setIfInBounds_toArray, List.set_cons_zero, List.set_cons_succ, i64_w, i32_w]
        rfl
       refine pure_ (i := 10) (N := some 45) (v := ?_) (a' := ?_) #[true, true, true, true, true, true, true, true, true, true, true, false, false, false, false, false, false, false, false, false, false, false, false, false, false, false, false] rfl rfl (any_of HT_.out (by kernel_rfl)) (fun _ _ _ h => h) (Or.inl ⟨by rfl, ?_⟩) ?_ ?_
       rotate_left
       ·intro w'
        go_simp
        with_reducible rfl
       rotate_left
       ·simp only [Act.put, List.setIfInBounds_toArray, List.set_cons_zero, List.set_cons_succ, i64_w, i32_w]
        rfl
       refine pure_ (i := 11) (N := some 46) (v := ?_) (a' := ?_) #[true, true, true, true, true, true, true, true, true, true, true, true, false, false, false, false, false, false, false, false, false, false, false, false, false, false, false] rfl rfl (any_of HT_.out (by kernel_rfl)) (fun _ _ _ h => h) (Or.inl ⟨by rfl, ?_⟩) ?_ ?_
       rotate_left
       ·intro w'
        go_simp
        with_reducible rfl
       rotate_left
       ·simp only [Act.put, List.setIfInBounds_toArray, List.set_cons_zero, List.set_cons_succ, i64_w, i32_w]
        rfl
       refine pure_ (i := 12) (N := some 47) (v := ?_) (a' := ?_) #[true, true, true, true, true, true, true, true, true, true, true, true, true, false, false, false, false, false, false, false, false, false, false, false, false, false, false] rfl rfl (any_of HT_.out (by kernel_rfl)) (fun _ _ _ h => h) (Or.inl ⟨by rfl, ?_⟩) ?_ ?_
       rotate_left
       ·intro w'
        go_simp
        with_reducible rfl
       rotate_left
       ·simp only [Act.put, List.setIfInBounds_toArray, List.set_cons_zero, List.set_cons_succ, i64_w, i32_w]
        rfl
       refine pure_ (i := 13) (N := some 48) (v := ?_) (a' := ?_) #[true, true, true, true, true, true, true, true, true, true, true, true, true, true, false, false, false, false, false, false, false, false, false, false, false, false, false] rfl rfl (any_of HT_.out (by kernel_rfl)) (fun _ _ _ h => h) (Or.inl ⟨by rfl, ?_⟩) ?_ ?_
       rotate_left
       ·intro w'
        go_simp
        with_reducible rfl
       rotate_left
       ·simp only [Act.put, List.setIfInBounds_toArray, List.set_cons_zero, List.set_cons_succ, i64_w, i32_w]
        rfl
       refine pure_ (i := 14) (N := some 49) (v := ?_) (a' := ?_) #[true, true, true, true, true, true, true, true, true, true, true, true, true, true, true, false, false, false, false, false, false, false, false, false, false, false, false] rfl rfl (any_of HT_.out (by kernel_rfl)) (fun _ _ _ h => h) (Or.inl ⟨by rfl, ?_⟩) ?_ ?_
       rotate_left
       ·intro w'
        go_simp
        with_reducible rfl
       rotate_left
       ·simp only [Act.put, List.setIfInBounds_toArray, List.set_cons_zero, List.set_cons_succ, i64_w, i32_w]
        rfl
       refine pure_ (i := 15) (N := some 50) (v := ?_) (a' := ?_) #[true, true, true, true, true, true, true, true, true, true, true, true, true, true, true, true, false, false, false, false, false, false, false, false, false, false, false] rfl rfl (any_of HT_.out (by kernel_rfl)) (fun _ _ _ h => h) (Or.inl ⟨by rfl, ?_⟩) ?_ ?_
       rotate_left
       ·intro w'
        go_simp
        with_reducible rfl
       rotate_left
       ·simp only [Act.put, List.setIfInBounds_toArray, List.set_cons_zero, List.set_cons_succ, i64_w, i32_w]
        rfl
       refine take_ (i := 16) (N := some 51) (v := ?_) (a' := ?_) #[true, true, true, true, true, true, true, true, true, true, true, true, true, true, true, true, true, false, false, false, false, false, false, false, false, false, false] rfl rfl (take_ofW HT_.out HW_.out (by kernel_rfl)) (fun _ _ _ h => h) (Or.inl ⟨by rfl, ?_⟩) hHeld ?_ ?_
       rotate_left
       ·rintro w' ⟨s0, s1, s2, s3, s4, s5, s6, s7, s8⟩
        go_simp
        with_reducible rfl
       rotate_left
       ·simp only [Act.put, List.setIfInBounds_toArray, List.set_cons_zero, List.set_cons_succ, i64_w, i32_w]
        rfl
       refine pure_ (i := 17) (N := some 52) (v := ?_) (a' := ?_) #[true, true, true, true, true, true, true, true, true, true, true, true, true, true, true, true, true, true, false, false, false, false, false, false, false, false, false] rfl rfl (any_of HT_.out (by kernel_rfl)) (fun _ _ _ h => h) (Or.inl ⟨by rfl, ?_⟩) ?_ ?_
       rotate_left
       ·intro w'
        go_simp
        with_reducible rfl
       rotate_left
       ·simp only [Act.put, List.setIfInBounds_toArray, List.set_cons_zero, List.set_cons_succ, i64_w, i32_w]
        rfl
       refine pure_ (i := 18) (N := some 53) (v := ?_) (a' := ?_) #[true, true, true, true, true, true, true, true, true, true, true, true, true, true, true, true, true, true, true, false, false, false, false, false, false, false, false] rfl rfl (any_of HT_.out (by kernel_rfl)) (fun _ _ _ h => h) (Or.inl ⟨by rfl, ?_⟩) ?_ ?_
       rotate_left
       ·intro w'
        go_simp
        with_reducible rfl
       rotate_left
       ·simp only [Act.put, List.setIfInBounds_toArray, List.set_cons_zero, List.set_cons_succ, i64_w, i32_w]
        rfl
       refine pure_ (i := 19) (N := some 54) (v := ?_) (a' := ?_) #[true, true, true, true, true, true, true, true, true, true, true, true, true, true, true, true, true, true, true, true, false, false, false, false, false, false, false] rfl rfl (any_of HT_.out (by kernel_rfl)) (fun _ _ _ h => h) (Or.inl ⟨by rfl, ?_⟩) ?_ ?_
       rotate_left
       ·intro w'
        go_simp
        with_reducible rfl
       rotate_left
       ·simp only [Act.put, List.setIfInBounds_toArray, List.set_cons_zero, List.set_cons_succ, i64_w, i32_w]
        rfl
       refine pure_ (i := 20) (N := some 55) (v := ?_) (a' := ?_) #[true, true, true, true, true, true, true, true, true, true, true, true, true, true, true, true, true, true, true, true, true, false, false, false, false, false, false] rfl rfl (any_of HT_.out (by kernel_rfl)) (fun _ _ _ h => h) (Or.inl ⟨by rfl, ?_⟩) ?_ ?_
       rotate_left
       ·intro w'
        go_simp
        with_reducible rfl
       rotate_left
       ·simp only [Act.put, List.setIfInBounds_toArray, List.set_cons_zero, List.set_cons_succ, i64_w, i32_w]
        rfl
       refine pure_ (i := 21) (N := some 56) (v := ?_) (a' := ?_) #[true, true, true, true, true, true, true, true, true, true, true, true, true, true, true, true, true, true, true, true, true, true, false, false, false, false, false] rfl rfl (any_of HT_.out (by kernel_rfl)) (fun _ _ _ h => h) (Or.inl ⟨by rfl, ?_⟩) ?_ ?_
       rotate_left
       ·intro w'
        go_simp
        with_reducible rfl
       rotate_left
       ·simp only [Act.put, List.setIfInBounds_toArray, List.set_cons_zero, List.set_cons_succ, i64_w, i32_w]
        rfl
       refine pure_ (i := 22) (N := some 57) (v := ?_) (a' := ?_) #[true, true, true, true, true, true, true, true, true, true, true, true, true, true, true, true, true, true, true, true, true, true, true, false, false, false, false] rfl rfl (any_of HT_.out (by kernel_rfl)) (fun _ _ _ h => h) (Or.inl ⟨by rfl, ?_⟩) ?_ ?_
       rotate_left
       ·intro w'
        go_simp
        with_reducible rfl
       rotate_left
       ·simp only [Act.put, List.setIfInBounds_toArray, List.set_cons_zero, List.set_cons_succ, i64_w, i32_w]
        rfl
       refine pure_ (i := 23) (N := some 58) (v := ?_) (a' := ?_) #[true, true, true, true, true, true, true, true, true, true, true, true, true, true, true, true, true, true, true, true, true, true, true, true, false, false, false] rfl rfl (any_of HT_.out (by kernel_rfl)) (fun _ _ _ h => h) (Or.inl ⟨by rfl, ?_⟩) ?_ ?_
       rotate_left
       ·intro w'
        go_simp
        with_reducible rfl
       rotate_left
       ·simp only [Act.put, List.setIfInBounds_toArray, List.set_cons_zero, List.set_cons_succ, i64_w, i32_w]
        rfl
       refine pure_ (i := 24) (N := some 59) (v := ?_) (a' := ?_) #[true, true, true, true, true, true, true, true, true, true, true, true, true, true, true, true, true, true, true, true, true, true, true, true, true, false, false] rfl rfl (any_of HT_.out (by kernel_rfl)) (fun _ _ _ h => h) (Or.inl ⟨by rfl, ?_⟩) ?_ ?_
       rotate_left
       ·intro w'
        go_simp
        with_reducible rfl
       rotate_left
       ·simp only [Act.put, List.setIfInBounds_toArray, List.set_cons_zero, List.set_cons_succ, i64_w, i32_w]
        rfl
       refine pure_ (i := 25) (N := some 60) (v := ?_) (a' := ?_) #[true, true, true, true, true, true, true, true, true, true, true, true, true, true, true, true, true, true, true, true, true, true, true, true, true, true, false] rfl rfl (any_of HT_.out (by kernel_rfl)) (fun _ _ _ h => h) (Or.inl ⟨by rfl, ?_⟩) ?_ ?_
       rotate_left
       ·intro w'
        go_simp
        with_reducible rfl
       rotate_left
       ·simp only [Act.put, List.setIfInBounds_toArray, List.set_cons_zero, List.set_cons_succ, i64_w, i32_w]
        rfl
       refine pure_ (i := 26) (N := some 0) (v := ?_) (a' := ?_) #[true, true, true, true, true, true, true, true, true, true, true, true, true, true, true, true, true, true, true, true, true, true, true, true, true, true, true] rfl rfl (any_of HT_.out (by kernel_rfl)) (fun _ _ _ h => h) (Or.inl ⟨by rfl, ?_⟩) ?_ ?_
       rotate_left
       ·intro w'
        go_simp
        with_reducible rfl
       rotate_left
       ·simp only [Act.put, List.setIfInBounds_toArray, List.set_cons_zero, List.set_cons_succ, i64_w, i32_w]
        rfl
       refine done_ (done_of HT_.out (by kernel_rfl)) ?_
       try go_wp2
       go_ret
       exact ⟨by first | rfl | (simp [errW_none, errW_some] <;> rfl) | (simp [*, errW_none, errW_some] <;> rfl), by repeat (first | (with_reducible first | exact HB.out | apply below_alloc | apply pw_below_drewN | apply below_drew1 | refine below_set ?_ GE160.out | refine below_set ?_ GE165.out | refine below_set ?_ GE173.out | refine below_set ?_ GE187.out) | exact HB.out)⟩
      ·rw [if_neg c15] at H
       cases H
     ·rw [if_neg c14] at H
      cases H
    ·rw [if_neg c13] at H
     cases H
   ·rw [if_neg c12] at H
    cases H
  ·rw [if_neg c11] at H
   cases H
 ·rw [if_neg c10] at H
  cases H
end Go.Proofs.Ytgjfciohmgpohaa.P
end
section
namespace Go.Proofs.Ytgjfciohmgpohaa.P
open Go.RowKit Go.Proofs.YtgjfciohmgpohaaW.PrintWords Go.Proofs.YtgjfciohmgpohaaW.PrintLast Go.Proofs.YtgjfciohmgpohaaW.PrintMore
attribute [local go_sem] max2_int min2_int max_two min_two max_three min_three max_four min_four
set_option linter.unusedVariables false
set_option linter.unusedSimpArgs false
def chkR (a b : Int) (c : ByteArray) : Int :=
 if a = 0 then (if b = 0 ∧ c.toList = [] then 0 else 3)
 else if a = 1 then (if (b = 0 ∨ b = 1) ∧ c.toList = [] then 0 else 3)
 else if a = 2 then (if c.toList = [] then 0 else 3)
 else if a = 3 ∨ a = 4 then (if b = 0 then 0 else 3)
 else 5
def quarryref01_Check.f (a0_0 : Int) (a0_1 : Int) (a0_2 : ByteArray) : Option (Int) := some (chkR a0_0 a0_1 a0_2)
theorem eqR (d : Nat) (w : World) (x0 y0 : Int) (x1 y1 : Int) (x2 y2 : ByteArray) :
  (Op.equalIn (d + 2) 32 (.agg #[.int .i64 x0, .int .i64 x1, .string x2]) (.agg #[.int .i64 y0, .int .i64 y1, .string y2])).run Try.prog w = .ok (x0 == y0 && (x1 == y1 && (x2.toList == y2.toList))) w := by
 refine eqA_of Try.underlying32 (by kernel_rfl) ?_
 refine eqf_cons (by rfl) (by go_simp; rfl) (by go_simp; rfl) (by go_simp) ?_
 refine eqf_cons (by rfl) (by go_simp; rfl) (by go_simp; rfl) (by go_simp) ?_
 exact eqf_last (by rfl) (by go_simp; rfl) (by go_simp; rfl) (by go_simp)
attribute [local go_sem high] eqR
set_option maxHeartbeats 2000000 in
set_option maxRecDepth 100000 in
theorem quarryref01_Check.z1 (a b : Int) (c : ByteArray) (w : World) (ha : a = 0) (hb : b = 0) (he : c.toList = []) :
  Calls Try.prog 19 #[.agg #[.int .i64 a, .int .i64 b, .string c]] w fun e w' => e = .returned (.int .i64 0) ∧ Below w.heap.size w w' := by
 have lo : decide (a < 0) = false := decide_eq_false (by omega)
 have hi : decide (4 < a) = false := decide_eq_false (by omega)
 have hu38 := Try.underlying32
 have k0 : (a == 0) = true := beq_iff_eq.mpr ha
 have b0 : (b == 0) = true := beq_iff_eq.mpr hb
 have b1 : (b == 1) = false := beq_eq_false_iff_ne.mpr (by omega)
 have e0 : c.toList.isEmpty = true := List.isEmpty_iff.2 he
 have e1 : (c.toList == ([] : List UInt8)) = true := beq_iff_eq.mpr he
 have n0 : (b != 0) = false := by rw [bne, b0]; rfl
 have n1 : (b != 1) = true := by rw [bne, b1]; rfl
 have e2 : (c.toList != ([] : List UInt8)) = false := by rw [bne, e1]; rfl
 clear ha hb he
 go_enter Try.func19, Try.ntmps19
 go_wp2
 go_ret
 exact ⟨rfl, by repeat (first | exact Below.refl _ _ | refine Below.setCell ?_ (Nat.le_refl _) _ | refine Below.setCell ?_ (Nat.le_succ _) _ | apply below_alloc)⟩
set_option maxHeartbeats 2000000 in
set_option maxRecDepth 100000 in
theorem quarryref01_Check.z2 (a b : Int) (c : ByteArray) (w : World) (ha : a = 0) (hb : b = 0) (he : ¬ c.toList = []) :
  Calls Try.prog 19 #[.agg #[.int .i64 a, .int .i64 b, .string c]] w fun e w' => e = .returned (.int .i64 3) ∧ Below w.heap.size w w' := by
 have lo : decide (a < 0) = false := decide_eq_false (by omega)
 have hi : decide (4 < a) = false := decide_eq_false (by omega)
 have hu38 := Try.underlying32
 have k0 : (a == 0) = true := beq_iff_eq.mpr ha
 have b0 : (b == 0) = true := beq_iff_eq.mpr hb
 have b1 : (b == 1) = false := beq_eq_false_iff_ne.mpr (by omega)
 have e0 : c.toList.isEmpty = false := by cases h : c.toList with | nil => exact absurd h he | cons => rfl
 have e1 : (c.toList == ([] : List UInt8)) = false := beq_eq_false_iff_ne.mpr he
 have n0 : (b != 0) = false := by rw [bne, b0]; rfl
 have n1 : (b != 1) = true := by rw [bne, b1]; rfl
 have e2 : (c.toList != ([] : List UInt8)) = true := by rw [bne, e1]; rfl
 clear ha hb he
 go_enter Try.func19, Try.ntmps19
 go_wp2
 go_ret
 exact ⟨rfl, by repeat (first | exact Below.refl _ _ | refine Below.setCell ?_ (Nat.le_refl _) _ | refine Below.setCell ?_ (Nat.le_succ _) _ | apply below_alloc)⟩
set_option maxHeartbeats 2000000 in
set_option maxRecDepth 100000 in
theorem quarryref01_Check.z3 (a b : Int) (c : ByteArray) (w : World) (ha : a = 0) (hb : ¬ b = 0) :
  Calls Try.prog 19 #[.agg #[.int .i64 a, .int .i64 b, .string c]] w fun e w' => e = .returned (.int .i64 3) ∧ Below w.heap.size w w' := by
 have lo : decide (a < 0) = false := decide_eq_false (by omega)
 have hi : decide (4 < a) = false := decide_eq_false (by omega)
 have hu38 := Try.underlying32
 have k0 : (a == 0) = true := beq_iff_eq.mpr ha
 have b0 : (b == 0) = false := beq_eq_false_iff_ne.mpr hb
 have n0 : (b != 0) = true := by rw [bne, b0]; rfl
 clear ha hb
 go_enter Try.func19, Try.ntmps19
 go_wp2
 go_ret
 exact ⟨rfl, by repeat (first | exact Below.refl _ _ | refine Below.setCell ?_ (Nat.le_refl _) _ | refine Below.setCell ?_ (Nat.le_succ _) _ | apply below_alloc)⟩
set_option maxHeartbeats 2000000 in
set_option maxRecDepth 100000 in
theorem quarryref01_Check.t1 (a b : Int) (c : ByteArray) (w : World) (ha : a = 1) (hb : b = 1) (he : c.toList = []) :
  Calls Try.prog 19 #[.agg #[.int .i64 a, .int .i64 b, .string c]] w fun e w' => e = .returned (.int .i64 0) ∧ Below w.heap.size w w' := by
 have lo : decide (a < 0) = false := decide_eq_false (by omega)
 have hi : decide (4 < a) = false := decide_eq_false (by omega)
 have hu38 := Try.underlying32
 have k0 : (a == 0) = false := beq_eq_false_iff_ne.mpr (by omega)
 have k1 : (a == 1) = true := beq_iff_eq.mpr ha
 have b0 : (b == 0) = false := beq_eq_false_iff_ne.mpr (by omega)
 have b1 : (b == 1) = true := beq_iff_eq.mpr hb
 have e0 : c.toList.isEmpty = true := List.isEmpty_iff.2 he
 have e1 : (c.toList == ([] : List UInt8)) = true := beq_iff_eq.mpr he
 have n0 : (b != 0) = true := by rw [bne, b0]; rfl
 have n1 : (b != 1) = false := by rw [bne, b1]; rfl
 have e2 : (c.toList != ([] : List UInt8)) = false := by rw [bne, e1]; rfl
 clear ha hb he
 go_enter Try.func19, Try.ntmps19
 go_wp2
 go_ret
 exact ⟨rfl, by repeat (first | exact Below.refl _ _ | refine Below.setCell ?_ (Nat.le_refl _) _ | refine Below.setCell ?_ (Nat.le_succ _) _ | apply below_alloc)⟩
set_option maxHeartbeats 2000000 in
set_option maxRecDepth 100000 in
theorem quarryref01_Check.t2 (a b : Int) (c : ByteArray) (w : World) (ha : a = 1) (hb : b = 1) (he : ¬ c.toList = []) :
  Calls Try.prog 19 #[.agg #[.int .i64 a, .int .i64 b, .string c]] w fun e w' => e = .returned (.int .i64 3) ∧ Below w.heap.size w w' := by
 have lo : decide (a < 0) = false := decide_eq_false (by omega)
 have hi : decide (4 < a) = false := decide_eq_false (by omega)
 have hu38 := Try.underlying32
 have k0 : (a == 0) = false := beq_eq_false_iff_ne.mpr (by omega)
 have k1 : (a == 1) = true := beq_iff_eq.mpr ha
 have b0 : (b == 0) = false := beq_eq_false_iff_ne.mpr (by omega)
 have b1 : (b == 1) = true := beq_iff_eq.mpr hb
 have e0 : c.toList.isEmpty = false := by cases h : c.toList with | nil => exact absurd h he | cons => rfl
 have e1 : (c.toList == ([] : List UInt8)) = false := beq_eq_false_iff_ne.mpr he
 have n0 : (b != 0) = true := by rw [bne, b0]; rfl
 have n1 : (b != 1) = false := by rw [bne, b1]; rfl
 have e2 : (c.toList != ([] : List UInt8)) = true := by rw [bne, e1]; rfl
 clear ha hb he
 go_enter Try.func19, Try.ntmps19
 go_wp2
 go_ret
 exact ⟨rfl, by repeat (first | exact Below.refl _ _ | refine Below.setCell ?_ (Nat.le_refl _) _ | refine Below.setCell ?_ (Nat.le_succ _) _ | apply below_alloc)⟩
set_option maxHeartbeats 2000000 in
set_option maxRecDepth 100000 in
theorem quarryref01_Check.t3 (a b : Int) (c : ByteArray) (w : World) (ha : a = 1) (hb : b = 0) (he : c.toList = []) :
  Calls Try.prog 19 #[.agg #[.int .i64 a, .int .i64 b, .string c]] w fun e w' => e = .returned (.int .i64 0) ∧ Below w.heap.size w w' := by
 have lo : decide (a < 0) = false := decide_eq_false (by omega)
 have hi : decide (4 < a) = false := decide_eq_false (by omega)
 have hu38 := Try.underlying32
 have k0 : (a == 0) = false := beq_eq_false_iff_ne.mpr (by omega)
 have k1 : (a == 1) = true := beq_iff_eq.mpr ha
 have b0 : (b == 0) = true := beq_iff_eq.mpr hb
 have b1 : (b == 1) = false := beq_eq_false_iff_ne.mpr (by omega)
 have e0 : c.toList.isEmpty = true := List.isEmpty_iff.2 he
 have e1 : (c.toList == ([] : List UInt8)) = true := beq_iff_eq.mpr he
 have n0 : (b != 0) = false := by rw [bne, b0]; rfl
 have n1 : (b != 1) = true := by rw [bne, b1]; rfl
 have e2 : (c.toList != ([] : List UInt8)) = false := by rw [bne, e1]; rfl
 clear ha hb he
 go_enter Try.func19, Try.ntmps19
 go_wp2
 go_ret
 exact ⟨rfl, by repeat (first | exact Below.refl _ _ | refine Below.setCell ?_ (Nat.le_refl _) _ | refine Below.setCell ?_ (Nat.le_succ _) _ | apply below_alloc)⟩
set_option maxHeartbeats 2000000 in
set_option maxRecDepth 100000 in
theorem quarryref01_Check.t4 (a b : Int) (c : ByteArray) (w : World) (ha : a = 1) (hb : b = 0) (he : ¬ c.toList = []) :
  Calls Try.prog 19 #[.agg #[.int .i64 a, .int .i64 b, .string c]] w fun e w' => e = .returned (.int .i64 3) ∧ Below w.heap.size w w' := by
 have lo : decide (a < 0) = false := decide_eq_false (by omega)
 have hi : decide (4 < a) = false := decide_eq_false (by omega)
 have hu38 := Try.underlying32
 have k0 : (a == 0) = false := beq_eq_false_iff_ne.mpr (by omega)
 have k1 : (a == 1) = true := beq_iff_eq.mpr ha
 have b0 : (b == 0) = true := beq_iff_eq.mpr hb
 have b1 : (b == 1) = false := beq_eq_false_iff_ne.mpr (by omega)
 have e0 : c.toList.isEmpty = false := by cases h : c.toList with | nil => exact absurd h he | cons => rfl
 have e1 : (c.toList == ([] : List UInt8)) = false := beq_eq_false_iff_ne.mpr he
 have n0 : (b != 0) = false := by rw [bne, b0]; rfl
 have n1 : (b != 1) = true := by rw [bne, b1]; rfl
 have e2 : (c.toList != ([] : List UInt8)) = true := by rw [bne, e1]; rfl
 clear ha hb he
 go_enter Try.func19, Try.ntmps19
 go_wp2
 go_ret
 exact ⟨rfl, by repeat (first | exact Below.refl _ _ | refine Below.setCell ?_ (Nat.le_refl _) _ | refine Below.setCell ?_ (Nat.le_succ _) _ | apply below_alloc)⟩
set_option maxHeartbeats 2000000 in
set_option maxRecDepth 100000 in
theorem quarryref01_Check.t5 (a b : Int) (c : ByteArray) (w : World) (ha : a = 1) (hb : ¬ b = 0) (hb1 : ¬ b = 1) (he : c.toList = []) :
  Calls Try.prog 19 #[.agg #[.int .i64 a, .int .i64 b, .string c]] w fun e w' => e = .returned (.int .i64 3) ∧ Below w.heap.size w w' := by
 have lo : decide (a < 0) = false := decide_eq_false (by omega)
 have hi : decide (4 < a) = false := decide_eq_false (by omega)
 have hu38 := Try.underlying32
 have k0 : (a == 0) = false := beq_eq_false_iff_ne.mpr (by omega)
 have k1 : (a == 1) = true := beq_iff_eq.mpr ha
 have b0 : (b == 0) = false := beq_eq_false_iff_ne.mpr hb
 have b1 : (b == 1) = false := beq_eq_false_iff_ne.mpr hb1
 have e0 : c.toList.isEmpty = true := List.isEmpty_iff.2 he
 have e1 : (c.toList == ([] : List UInt8)) = true := beq_iff_eq.mpr he
 have n0 : (b != 0) = true := by rw [bne, b0]; rfl
 have n1 : (b != 1) = true := by rw [bne, b1]; rfl
 have e2 : (c.toList != ([] : List UInt8)) = false := by rw [bne, e1]; rfl
 clear ha hb hb1 he
 go_enter Try.func19, Try.ntmps19
 go_wp2
 go_ret
 exact ⟨rfl, by repeat (first | exact Below.refl _ _ | refine Below.setCell ?_ (Nat.le_refl _) _ | refine Below.setCell ?_ (Nat.le_succ _) _ | apply below_alloc)⟩
set_option maxHeartbeats 2000000 in
set_option maxRecDepth 100000 in
theorem quarryref01_Check.t6 (a b : Int) (c : ByteArray) (w : World) (ha : a = 1) (hb : ¬ b = 0) (hb1 : ¬ b = 1) (he : ¬ c.toList = []) :
  Calls Try.prog 19 #[.agg #[.int .i64 a, .int .i64 b, .string c]] w fun e w' => e = .returned (.int .i64 3) ∧ Below w.heap.size w w' := by
 have lo : decide (a < 0) = false := decide_eq_false (by omega)
 have hi : decide (4 < a) = false := decide_eq_false (by omega)
 have hu38 := Try.underlying32
 have k0 : (a == 0) = false := beq_eq_false_iff_ne.mpr (by omega)
 have k1 : (a == 1) = true := beq_iff_eq.mpr ha
 have b0 : (b == 0) = false := beq_eq_false_iff_ne.mpr hb
 have b1 : (b == 1) = false := beq_eq_false_iff_ne.mpr hb1
 have e0 : c.toList.isEmpty = false := by cases h : c.toList with | nil => exact absurd h he | cons => rfl
 have e1 : (c.toList == ([] : List UInt8)) = false := beq_eq_false_iff_ne.mpr he
 have n0 : (b != 0) = true := by rw [bne, b0]; rfl
 have n1 : (b != 1) = true := by rw [bne, b1]; rfl
 have e2 : (c.toList != ([] : List UInt8)) = true := by rw [bne, e1]; rfl
 clear ha hb hb1 he
 go_enter Try.func19, Try.ntmps19
 go_wp2
 go_ret
 exact ⟨rfl, by repeat (first | exact Below.refl _ _ | refine Below.setCell ?_ (Nat.le_refl _) _ | refine Below.setCell ?_ (Nat.le_succ _) _ | apply below_alloc)⟩
set_option maxHeartbeats 2000000 in
set_option maxRecDepth 100000 in
theorem quarryref01_Check.n1 (a b : Int) (c : ByteArray) (w : World) (ha : a = 2) (he : c.toList = []) :
  Calls Try.prog 19 #[.agg #[.int .i64 a, .int .i64 b, .string c]] w fun e w' => e = .returned (.int .i64 0) ∧ Below w.heap.size w w' := by
 have lo : decide (a < 0) = false := decide_eq_false (by omega)
 have hi : decide (4 < a) = false := decide_eq_false (by omega)
 have hu38 := Try.underlying32
 have k0 : (a == 0) = false := beq_eq_false_iff_ne.mpr (by omega)
 have k1 : (a == 1) = false := beq_eq_false_iff_ne.mpr (by omega)
 have k2 : (a == 2) = true := beq_iff_eq.mpr ha
 have e0 : c.toList.isEmpty = true := List.isEmpty_iff.2 he
 have e1 : (c.toList == ([] : List UInt8)) = true := beq_iff_eq.mpr he
 have e2 : (c.toList != ([] : List UInt8)) = false := by rw [bne, e1]; rfl
 clear ha he
 go_enter Try.func19, Try.ntmps19
 go_wp2
 go_ret
 exact ⟨rfl, by repeat (first | exact Below.refl _ _ | refine Below.setCell ?_ (Nat.le_refl _) _ | refine Below.setCell ?_ (Nat.le_succ _) _ | apply below_alloc)⟩
set_option maxHeartbeats 2000000 in
set_option maxRecDepth 100000 in
theorem quarryref01_Check.n2 (a b : Int) (c : ByteArray) (w : World) (ha : a = 2) (he : ¬ c.toList = []) :
  Calls Try.prog 19 #[.agg #[.int .i64 a, .int .i64 b, .string c]] w fun e w' => e = .returned (.int .i64 3) ∧ Below w.heap.size w w' := by
 have lo : decide (a < 0) = false := decide_eq_false (by omega)
 have hi : decide (4 < a) = false := decide_eq_false (by omega)
 have hu38 := Try.underlying32
 have k0 : (a == 0) = false := beq_eq_false_iff_ne.mpr (by omega)
 have k1 : (a == 1) = false := beq_eq_false_iff_ne.mpr (by omega)
 have k2 : (a == 2) = true := beq_iff_eq.mpr ha
 have e0 : c.toList.isEmpty = false := by cases h : c.toList with | nil => exact absurd h he | cons => rfl
 have e1 : (c.toList == ([] : List UInt8)) = false := beq_eq_false_iff_ne.mpr he
 have e2 : (c.toList != ([] : List UInt8)) = true := by rw [bne, e1]; rfl
 clear ha he
 go_enter Try.func19, Try.ntmps19
 go_wp2
 go_ret
 exact ⟨rfl, by repeat (first | exact Below.refl _ _ | refine Below.setCell ?_ (Nat.le_refl _) _ | refine Below.setCell ?_ (Nat.le_succ _) _ | apply below_alloc)⟩
set_option maxHeartbeats 2000000 in
set_option maxRecDepth 100000 in
theorem quarryref01_Check.x1 (a b : Int) (c : ByteArray) (w : World) (ha : a = 3) (hb : b = 0) :
  Calls Try.prog 19 #[.agg #[.int .i64 a, .int .i64 b, .string c]] w fun e w' => e = .returned (.int .i64 0) ∧ Below w.heap.size w w' := by
 have lo : decide (a < 0) = false := decide_eq_false (by omega)
 have hi : decide (4 < a) = false := decide_eq_false (by omega)
 have hu38 := Try.underlying32
 have k0 : (a == 0) = false := beq_eq_false_iff_ne.mpr (by omega)
 have k1 : (a == 1) = false := beq_eq_false_iff_ne.mpr (by omega)
 have k2 : (a == 2) = false := beq_eq_false_iff_ne.mpr (by omega)
 have k3 : (a == 3) = true := beq_iff_eq.mpr ha
 have b0 : (b == 0) = true := beq_iff_eq.mpr hb
 have b1 : (b == 1) = false := beq_eq_false_iff_ne.mpr (by omega)
 have n0 : (b != 0) = false := by rw [bne, b0]; rfl
 have n1 : (b != 1) = true := by rw [bne, b1]; rfl
 clear ha hb
 go_enter Try.func19, Try.ntmps19
 go_wp2
 go_ret
 exact ⟨rfl, by repeat (first | exact Below.refl _ _ | refine Below.setCell ?_ (Nat.le_refl _) _ | refine Below.setCell ?_ (Nat.le_succ _) _ | apply below_alloc)⟩
set_option maxHeartbeats 2000000 in
set_option maxRecDepth 100000 in
theorem quarryref01_Check.x2 (a b : Int) (c : ByteArray) (w : World) (ha : a = 3) (hb : ¬ b = 0) :
  Calls Try.prog 19 #[.agg #[.int .i64 a, .int .i64 b, .string c]] w fun e w' => e = .returned (.int .i64 3) ∧ Below w.heap.size w w' := by
 have lo : decide (a < 0) = false := decide_eq_false (by omega)
 have hi : decide (4 < a) = false := decide_eq_false (by omega)
 have hu38 := Try.underlying32
 have k0 : (a == 0) = false := beq_eq_false_iff_ne.mpr (by omega)
 have k1 : (a == 1) = false := beq_eq_false_iff_ne.mpr (by omega)
 have k2 : (a == 2) = false := beq_eq_false_iff_ne.mpr (by omega)
 have k3 : (a == 3) = true := beq_iff_eq.mpr ha
 have b0 : (b == 0) = false := beq_eq_false_iff_ne.mpr hb
 have n0 : (b != 0) = true := by rw [bne, b0]; rfl
 clear ha hb
 go_enter Try.func19, Try.ntmps19
 go_wp2
 go_ret
 exact ⟨rfl, by repeat (first | exact Below.refl _ _ | refine Below.setCell ?_ (Nat.le_refl _) _ | refine Below.setCell ?_ (Nat.le_succ _) _ | apply below_alloc)⟩
set_option maxHeartbeats 2000000 in
set_option maxRecDepth 100000 in
theorem quarryref01_Check.y1 (a b : Int) (c : ByteArray) (w : World) (ha : a = 4) (hb : b = 0) :
  Calls Try.prog 19 #[.agg #[.int .i64 a, .int .i64 b, .string c]] w fun e w' => e = .returned (.int .i64 0) ∧ Below w.heap.size w w' := by
 have lo : decide (a < 0) = false := decide_eq_false (by omega)
 have hi : decide (4 < a) = false := decide_eq_false (by omega)
 have hu38 := Try.underlying32
 have k0 : (a == 0) = false := beq_eq_false_iff_ne.mpr (by omega)
 have k1 : (a == 1) = false := beq_eq_false_iff_ne.mpr (by omega)
 have k2 : (a == 2) = false := beq_eq_false_iff_ne.mpr (by omega)
 have k3 : (a == 3) = false := beq_eq_false_iff_ne.mpr (by omega)
 have k4 : (a == 4) = true := beq_iff_eq.mpr ha
 have b0 : (b == 0) = true := beq_iff_eq.mpr hb
 have b1 : (b == 1) = false := beq_eq_false_iff_ne.mpr (by omega)
 have n0 : (b != 0) = false := by rw [bne, b0]; rfl
 have n1 : (b != 1) = true := by rw [bne, b1]; rfl
 clear ha hb
 go_enter Try.func19, Try.ntmps19
 go_wp2
 go_ret
 exact ⟨rfl, by repeat (first | exact Below.refl _ _ | refine Below.setCell ?_ (Nat.le_refl _) _ | refine Below.setCell ?_ (Nat.le_succ _) _ | apply below_alloc)⟩
set_option maxHeartbeats 2000000 in
set_option maxRecDepth 100000 in
theorem quarryref01_Check.y2 (a b : Int) (c : ByteArray) (w : World) (ha : a = 4) (hb : ¬ b = 0) :
  Calls Try.prog 19 #[.agg #[.int .i64 a, .int .i64 b, .string c]] w fun e w' => e = .returned (.int .i64 3) ∧ Below w.heap.size w w' := by
 have lo : decide (a < 0) = false := decide_eq_false (by omega)
 have hi : decide (4 < a) = false := decide_eq_false (by omega)
 have hu38 := Try.underlying32
 have k0 : (a == 0) = false := beq_eq_false_iff_ne.mpr (by omega)
 have k1 : (a == 1) = false := beq_eq_false_iff_ne.mpr (by omega)
 have k2 : (a == 2) = false := beq_eq_false_iff_ne.mpr (by omega)
 have k3 : (a == 3) = false := beq_eq_false_iff_ne.mpr (by omega)
 have k4 : (a == 4) = true := beq_iff_eq.mpr ha
 have b0 : (b == 0) = false := beq_eq_false_iff_ne.mpr hb
 have n0 : (b != 0) = true := by rw [bne, b0]; rfl
 clear ha hb
 go_enter Try.func19, Try.ntmps19
 go_wp2
 go_ret
 exact ⟨rfl, by repeat (first | exact Below.refl _ _ | refine Below.setCell ?_ (Nat.le_refl _) _ | refine Below.setCell ?_ (Nat.le_succ _) _ | apply below_alloc)⟩
set_option maxHeartbeats 2000000 in
set_option maxRecDepth 100000 in
theorem quarryref01_Check.o1 (a b : Int) (c : ByteArray) (w : World) (lt : a < 0) (h0 : ¬ a = 0) (h1 : ¬ a = 1) (h2 : ¬ a = 2) (h3 : ¬ a = 3) (h4 : ¬ a = 4) :
  Calls Try.prog 19 #[.agg #[.int .i64 a, .int .i64 b, .string c]] w fun e w' => e = .returned (.int .i64 5) ∧ Below w.heap.size w w' := by
 have lo : decide (a < 0) = true := decide_eq_true lt
 have hu38 := Try.underlying32
 have k0 : (a == 0) = false := beq_eq_false_iff_ne.mpr h0
 have k1 : (a == 1) = false := beq_eq_false_iff_ne.mpr h1
 have k2 : (a == 2) = false := beq_eq_false_iff_ne.mpr h2
 have k3 : (a == 3) = false := beq_eq_false_iff_ne.mpr h3
 have k4 : (a == 4) = false := beq_eq_false_iff_ne.mpr h4
 clear lt h0 h1 h2 h3 h4
 go_enter Try.func19, Try.ntmps19
 go_wp2
 go_ret
 exact ⟨rfl, by repeat (first | exact Below.refl _ _ | refine Below.setCell ?_ (Nat.le_refl _) _ | refine Below.setCell ?_ (Nat.le_succ _) _ | apply below_alloc)⟩
set_option maxHeartbeats 2000000 in
set_option maxRecDepth 100000 in
theorem quarryref01_Check.o2 (a b : Int) (c : ByteArray) (w : World) (lt : 4 < a) (h0 : ¬ a = 0) (h1 : ¬ a = 1) (h2 : ¬ a = 2) (h3 : ¬ a = 3) (h4 : ¬ a = 4) :
  Calls Try.prog 19 #[.agg #[.int .i64 a, .int .i64 b, .string c]] w fun e w' => e = .returned (.int .i64 5) ∧ Below w.heap.size w w' := by
 have lo : decide (a < 0) = false := decide_eq_false (by omega)
 have hi : decide (4 < a) = true := decide_eq_true lt
 have hu38 := Try.underlying32
 have k0 : (a == 0) = false := beq_eq_false_iff_ne.mpr h0
 have k1 : (a == 1) = false := beq_eq_false_iff_ne.mpr h1
 have k2 : (a == 2) = false := beq_eq_false_iff_ne.mpr h2
 have k3 : (a == 3) = false := beq_eq_false_iff_ne.mpr h3
 have k4 : (a == 4) = false := beq_eq_false_iff_ne.mpr h4
 clear lt h0 h1 h2 h3 h4
 go_enter Try.func19, Try.ntmps19
 go_wp2
 go_ret
 exact ⟨rfl, by repeat (first | exact Below.refl _ _ | refine Below.setCell ?_ (Nat.le_refl _) _ | refine Below.setCell ?_ (Nat.le_succ _) _ | apply below_alloc)⟩
theorem quarryref01_Check.calls (a0_0 : Int) (a0_1 : Int) (a0_2 : ByteArray) (r : Int) (w : World) (h : quarryref01_Check.f a0_0 a0_1 a0_2 = some r) :
  Calls Try.prog 19 #[.agg #[.int .i64 a0_0, .int .i64 a0_1, .string a0_2]] w fun e w' => e = .returned (.int .i64 r) ∧ Below w.heap.size w w' := by
 obtain rfl : chkR a0_0 a0_1 a0_2 = r := Option.some.inj h
 clear h
 unfold chkR
 by_cases h0 : a0_0 = 0
 ·rw [if_pos h0]
  by_cases hb : a0_1 = 0
  ·by_cases he : a0_2.toList = []
   ·rw [if_pos ⟨hb, he⟩]; exact quarryref01_Check.z1 _ _ _ w h0 hb he
   ·rw [if_neg (fun h => he h.2)]; exact quarryref01_Check.z2 _ _ _ w h0 hb he
  ·rw [if_neg (fun h => hb h.1)]; exact quarryref01_Check.z3 _ _ _ w h0 hb
 rw [if_neg h0]
 by_cases h1 : a0_0 = 1
 ·rw [if_pos h1]
  by_cases he : a0_2.toList = []
  ·by_cases hb : a0_1 = 1
   ·rw [if_pos ⟨.inr hb, he⟩]; exact quarryref01_Check.t1 _ _ _ w h1 hb he
   ·by_cases hb0 : a0_1 = 0
    ·rw [if_pos ⟨.inl hb0, he⟩]; exact quarryref01_Check.t3 _ _ _ w h1 hb0 he
    ·rw [if_neg (fun h => h.1.elim hb0 hb)]; exact quarryref01_Check.t5 _ _ _ w h1 hb0 hb he
  ·rw [if_neg (fun h => he h.2)]
   by_cases hb : a0_1 = 1
   ·exact quarryref01_Check.t2 _ _ _ w h1 hb he
   ·by_cases hb0 : a0_1 = 0
    ·exact quarryref01_Check.t4 _ _ _ w h1 hb0 he
    ·exact quarryref01_Check.t6 _ _ _ w h1 hb0 hb he
 rw [if_neg h1]
 by_cases h2 : a0_0 = 2
 ·rw [if_pos h2]
  by_cases he : a0_2.toList = []
  ·rw [if_pos he]; exact quarryref01_Check.n1 _ _ _ w h2 he
  ·rw [if_neg he]; exact quarryref01_Check.n2 _ _ _ w h2 he
 rw [if_neg h2]
 by_cases h3 : a0_0 = 3
 ·rw [if_pos (.inl h3)]
  by_cases hb : a0_1 = 0
  ·rw [if_pos hb]; exact quarryref01_Check.x1 _ _ _ w h3 hb
  ·rw [if_neg hb]; exact quarryref01_Check.x2 _ _ _ w h3 hb
 by_cases h4 : a0_0 = 4
 ·rw [if_pos (.inr h4)]
  by_cases hb : a0_1 = 0
  ·rw [if_pos hb]; exact quarryref01_Check.y1 _ _ _ w h4 hb
  ·rw [if_neg hb]; exact quarryref01_Check.y2 _ _ _ w h4 hb
 rw [if_neg (by omega)]
 by_cases hn : a0_0 < 0
 ·exact quarryref01_Check.o1 _ _ _ w hn h0 h1 h2 h3 h4
 ·exact quarryref01_Check.o2 _ _ _ w (by omega) h0 h1 h2 h3 h4
def quarrylaw17_right.l0 : Nat → List (S32) → Int → Option (Bool)
 | 0, _, _ => none
 | k + 1, x0, x3 => if x3 < (x0.length : Int) then (if 0 ≤ x3 then ((quarryref01_Check.f ((rd_T32 x0 x3).f0) ((rd_T32 x0 x3).f1) ((rd_T32 x0 x3).f2)).bind fun t129 => (if t129 = 0 then (quarrylaw17_right.l0 k x0 (wrap64 (x3 + 1))) else (some false))) else (none)) else (some (decide ((x0.length : Int) ≤ 300)))
def quarrylaw17_right.f (k : Nat) (l0 : List (S32)) : Option (Bool) := quarrylaw17_right.l0 k l0 0
set_option maxHeartbeats 8000000 in
set_option maxRecDepth 100000 in
theorem quarrylaw17_right.calls (k : Nat) (A0 : Option Addr) (c0 : Nat) (l0 : List (S32)) (r : Bool) (w : World) (hr0 : Kd.C k32 w A0 l0.length l0) (hc0 : l0.length ≤ c0) (h : quarrylaw17_right.f k l0 = some r) :
  Calls Try.prog 10 #[.slice A0 l0.length c0] w fun e w' => e = .returned (.bool r) ∧ Below w.heap.size w w' := by
 have hu32 := Try.underlying32
 have HR0 := Aside0.mk hr0
 have HC0 := Aside0.mk hc0
 clear hr0 hc0
 have HB := Aside0.mk (Below.refl w.heap.size w)
 have H : (quarrylaw17_right.l0 k l0 0) = some r := h
 clear h
 have H' := Aside0.mk H
 clear H
 go_enter Try.func10, Try.ntmps10
 go_wp2
 go_loopg [3] k (fun kq v3 w' => ∃ (x3_1 : Int), v3 = .int .i64 x3_1 ∧ Aside0 (quarrylaw17_right.l0 kq l0 x3_1 = some r) ∧ Aside0 (kq ≤ k) ∧ Aside0 (Below w.heap.size w w'))
 case atStart => exact ⟨(0), (by first | rfl | (simp; done) | (simp [*]; done)), H', ⟨Nat.le_refl _⟩, ⟨by repeat (first | (with_reducible first | exact HB.out | apply below_alloc | apply pw_below_drewN | apply below_drew1) | exact HB.out)⟩⟩
 case round =>
  clear H'
  try clear c1
  obtain ⟨x3_1, rfl, HA, HK1, HB⟩ := hrel
  cases gk with
  | zero => exact absurd HA.out (by simp [quarrylaw17_right.l0])
  | succ k1 =>
   have H := HA.out
   clear HA
   simp only [quarrylaw17_right.l0] at H
   by_cases c2 : x3_1 < (l0.length : Int)
   ·rw [if_pos c2] at H
    have c2b0 : decide (x3_1 < (l0.length : Int)) = true := decide_eq_true c2
    clear c2
    by_cases c3 : 0 ≤ x3_1
    ·rw [if_pos c3] at H
     have c3b0 : decide (0 ≤ x3_1) = true := decide_eq_true c3
     clear c3
     replace H := Option.bind_eq_some_iff.mp H
     obtain ⟨t129, A40, H⟩ := H
     replace H : (if t129 = 0 then (quarrylaw17_right.l0 k1 l0 (wrap64 (x3_1 + 1))) else (some false)) = some r := H
     have A4 := Aside0.mk A40
     clear A40
     by_cases c5 : t129 = 0
     ·rw [if_pos c5] at H
      have c5b0 : (t129 == 0) = true := beq_iff_eq.mpr c5
      have c5b1 : (t129 != 0) = false := bne_eq_false_iff_eq.mpr c5
      clear c5
      have H' := Aside0.mk H
      clear H
      have p128 : 0 ≤ (x3_1 : Int) := of_decide_eq_true (by first | (with_reducible assumption) | assumption)
      have q128 : x3_1 < (l0.length : Int) := of_decide_eq_true (by first | (with_reducible assumption) | assumption)
      obtain ⟨ad128, e128, hx128_0, hx128_1, hx128_2⟩ := at_T32 HR0.out x3_1 p128 q128
      cases e128
      replace hx128_0 := (HB.out.cell (World.block_lt_of_cell? w _ hx128_0)).trans hx128_0
      replace hx128_1 := (HB.out.cell (World.block_lt_of_cell? w _ hx128_1)).trans hx128_1
      replace hx128_2 := (HB.out.cell (World.block_lt_of_cell? w _ hx128_2)).trans hx128_2
      replace p128 := eq_true p128
      replace q128 := eq_true q128
      go_wp2_with (first | ((with_reducible refine gate_callee (f := 19) rfl ?_); refine goesL_ (some 14) rfl rfl Try.func19 (by kernel_rfl) rfl #[.agg #[.int .i64 ((rd_T32 l0 x3_1).f0), .int .i64 ((rd_T32 l0 x3_1).f1), .string ((rd_T32 l0 x3_1).f2)]] rfl (by (try simp only [List.map_toArray, List.map_cons, List.map_nil]); first | done | rfl | (simp only [List.length_drop, List.length_take]; rfl)) ?_; (with_reducible refine (quarryref01_Check.calls ((rd_T32 l0 x3_1).f0) ((rd_T32 l0 x3_1).f1) ((rd_T32 l0 x3_1).f2) t129 _ A4.out).mono ?_); rintro e w6 ⟨rfl, hb⟩; refine ⟨_, rfl, ?_⟩; have n0_ := Aside0.mk (below_step (by repeat (first | (with_reducible first | exact HB.out | apply below_alloc | apply pw_below_drewN | apply below_drew1) | exact HB.out)) hb); clear HB; have HB := n0_; clear n0_; (try clear hb); (try clear hb2); (try clear hk); (try clear hi)))
      go_roundg k1
      case measure => have := HK1.out; omega
      case rel => exact ⟨(wrap64 (x3_1 + 1)), (by first | rfl | (simp; done) | (simp [*]; done)), H', ⟨by have := HK1.out; omega⟩, ⟨by repeat (first | (with_reducible first | exact HB.out | apply below_alloc | apply pw_below_drewN | apply below_drew1) | exact HB.out)⟩⟩
     ·rw [if_neg c5] at H
      have c5b0 : (t129 == 0) = false := beq_eq_false_iff_ne.mpr c5
      have c5b1 : (t129 != 0) = true := bne_iff_ne.mpr c5
      obtain rfl := Option.some.inj H
      have p128 : 0 ≤ (x3_1 : Int) := of_decide_eq_true (by first | (with_reducible assumption) | assumption)
      have q128 : x3_1 < (l0.length : Int) := of_decide_eq_true (by first | (with_reducible assumption) | assumption)
      obtain ⟨ad128, e128, hx128_0, hx128_1, hx128_2⟩ := at_T32 HR0.out x3_1 p128 q128
      cases e128
      replace hx128_0 := (HB.out.cell (World.block_lt_of_cell? w _ hx128_0)).trans hx128_0
      replace hx128_1 := (HB.out.cell (World.block_lt_of_cell? w _ hx128_1)).trans hx128_1
      replace hx128_2 := (HB.out.cell (World.block_lt_of_cell? w _ hx128_2)).trans hx128_2
      replace p128 := eq_true p128
      replace q128 := eq_true q128
      go_wp2_with (first | ((with_reducible refine gate_callee (f := 19) rfl ?_); refine goesL_ (some 14) rfl rfl Try.func19 (by kernel_rfl) rfl #[.agg #[.int .i64 ((rd_T32 l0 x3_1).f0), .int .i64 ((rd_T32 l0 x3_1).f1), .string ((rd_T32 l0 x3_1).f2)]] rfl (by (try simp only [List.map_toArray, List.map_cons, List.map_nil]); first | done | rfl | (simp only [List.length_drop, List.length_take]; rfl)) ?_; (with_reducible refine (quarryref01_Check.calls ((rd_T32 l0 x3_1).f0) ((rd_T32 l0 x3_1).f1) ((rd_T32 l0 x3_1).f2) t129 _ A4.out).mono ?_); rintro e w7 ⟨rfl, hb⟩; refine ⟨_, rfl, ?_⟩; have n0_ := Aside0.mk (below_step (by repeat (first | (with_reducible first | exact HB.out | apply below_alloc | apply pw_below_drewN | apply below_drew1) | exact HB.out)) hb); clear HB; have HB := n0_; clear n0_; (try clear hb); (try clear hb2); (try clear hk); (try clear hi)))
      go_ret
      exact ⟨by first | rfl | (simp [errW_none, errW_some] <;> rfl) | (simp [*, errW_none, errW_some] <;> rfl), by repeat (first | (with_reducible first | exact HB.out | apply below_alloc | apply pw_below_drewN | apply below_drew1) | exact HB.out)⟩
    ·rw [if_neg c3] at H
     exact absurd H (by simp)
   ·rw [if_neg c2] at H
    have c2b0 : decide (x3_1 < (l0.length : Int)) = false := decide_eq_false c2
    clear c2
    obtain rfl := Option.some.inj H
    go_wp2
    go_ret
    exact ⟨by first | rfl | (simp [errW_none, errW_some] <;> rfl) | (simp [*, errW_none, errW_some] <;> rfl), by repeat (first | (with_reducible first | exact HB.out | apply below_alloc | apply pw_below_drewN | apply below_drew1) | exact HB.out)⟩
end Go.Proofs.Ytgjfciohmgpohaa.P
end

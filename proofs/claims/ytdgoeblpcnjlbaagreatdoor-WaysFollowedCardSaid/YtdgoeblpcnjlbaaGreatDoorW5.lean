/- Proved: for every list of numbers the law WaysFollowed answers true and leaves its argument as it was (the tied card); no condition beyond the row's own. Text 5 of 15. -/
import Derived.Test.YtdgoeblpcnjlbaaGreatDoorProg
import Derived.Shelf.Small.Strs
import Derived.Shelf.Strings.SlTrimAscii
import Derived.Test.YtdgoeblpcnjlbaaGreatDoorW4
set_option linter.unusedVariables false
set_option linter.unusedSimpArgs false
set_option linter.unusedSectionVars false
set_option linter.all false
set_option maxRecDepth 100000
namespace Go.Proofs.YtdgoeblpcnjlbaaGreatDoor.Av
open Go.RowKit
def s5 : SCode := (.seq (.region [opW 4 (.int .i64 0)]) (.seq (.region [opM 5 1,opM 6 0,opM 7 1,opE 8 7,opC 9 38 [.tmp 6, .tmp 8],opI 10 1 5 9,opL 11 10,opM 4 11])
 .ret))
def r5 : List SRes := [.tmp 4]
theorem c5 : Code1 Tryz.prog 110 s5 r5 12 := ⟨⟨Tryz.f110, _, Tryz.func110, rfl, rfl, by kernel_rfl, by kernel_rfl⟩, by kernel_rfl, by kernel_rfl⟩
def s6 : SCode := (.seq (.region [⟨some 1,.box (sT 0),none⟩,opW 2 (.int .i64 0),opW 3 (.int .i64 0)]) (.seq (.seq (.region [opN 5 2 1,opC 6 71 [.tmp 5],opM 4 6]) (.seq (.region [opM 7 4,opY 8 .neq 7 (.int .i64 0)]) (.cond (sT 8) (.seq (.region [opM 9 4,opW 2 (.int .i64 0),opM 3 9])
 .ret) .skip))) (.seq (.region [opN 10 2 1,opC 11 44 [.tmp 10],opM 2 11,opW 3 (.int .i64 0)])
 .ret)))
def r6 : List SRes := [.tmp 2, .tmp 3]
theorem c6 : Code1 Tryz.prog 61 s6 r6 12 := ⟨⟨Tryz.f61, _, Tryz.func61, rfl, rfl, by kernel_rfl, by kernel_rfl⟩, by kernel_rfl, by kernel_rfl⟩
def s8 : SCode := (.seq (.region [⟨some 1,.box (sT 0),none⟩,opW 2 (.int .i64 0)]) (.seq (.seq (.region [opN 10 2 1,opC 11 46 [.tmp 10],opM 3 11]) (.seq (.region [opM 12 3,opY 13 .neq 12 (.int .i64 0)]) (.cond (sT 13) (.seq (.region [opM 14 3,opM 2 14])
 .ret) .skip))) (.seq (.seq (.region [opN 15 2 1,opC 16 47 [.tmp 15],opE 17 16,opW 18 (.int .i64 0)]) (.block 0 (.loop (.seq (.region [opB 19 .lss 18 17]) (.seq (.cond (sT 19) .skip (.exit 0)) (.seq (.block 1 (.seq (.region [opI 20 15 16 18,opN 21 15 20,⟨some 5,.alloc (.agg [.int .i64 0, .str ⟨#[]⟩, .str ⟨#[]⟩, .str ⟨#[]⟩, .str ⟨#[]⟩, .int .i64 0, .int .i64 0, .str ⟨#[]⟩, .nils, .nils, .nils, .str ⟨#[]⟩, .nils, .int .i64 0, .bool false]),none⟩,⟨none, .store 15 (sT 5) (sT 21),none⟩]) (.seq (.region [opF 22 0 5,opN 23 13 22,⟨some 6,.alloc (.agg [.int .i64 0, .str ⟨#[]⟩, .str ⟨#[]⟩, .str ⟨#[]⟩, .str ⟨#[]⟩, .int .i64 0, .int .i64 0, .str ⟨#[]⟩, .nils, .nils, .nils, .str ⟨#[]⟩, .nils]),none⟩,⟨none, .store 13 (sT 6) (sT 23),none⟩]) (.seq (.seq (.region [opF 24 13 5,opL 25 24,opY 26 .geq 25 (.int .i64 0),opM 27 26,⟨some 28,.load true 13 (sT 6), (some (27, true))⟩,⟨some 29,.call (.val (.clos 49 [] [])) [.tmp 28], (some (27, true))⟩,⟨some 30,.mkfn 50 [] [.tmp 1, .tmp 5], (some (27, true))⟩,⟨some 31,.call (.val (.clos 48 [] [])) [.tmp 29, .tmp 30], (some (27, true))⟩,⟨some 32,.pick (sT 27) (sT 31) (.val (.bool false)),none⟩]) (.cond (sT 32) (.seq (.region [opW 2 (.int .i64 5)])
 .ret) .skip)) (.seq (.seq (.region [opF 33 0 6,opL 34 33,opY 35 .neq 34 (.int .i64 5)]) (.cond (sT 35) (.seq (.seq (.region [opF 36 2 6,opL 37 36,opF 38 1 6,opL 39 38,opB 40 .eql 37 39]) (.cond (sT 40) (.seq (.region [opW 2 (.int .i64 6)])
 .ret) .skip)) (.exit 1)) .skip)) (.seq (.region [opN 41 2 1,opF 42 11 6,opL 43 42,opC 44 52 [.tmp 41, .tmp 43],opM 7 44]) (.seq (.block 2 (.seq (.region [opM 46 7,opY 47 .lss 46 (.int .i64 0),opM 45 47]) (.cond (sT 45) (.seq (.region [opW 2 (.int .i64 8)])
 .ret) (.seq (.qregion [⟨opF 49 0 1, false, 0, 0, 0⟩,⟨opL 50 49, false, 0, 0, 1⟩,⟨opM 51 7, false, 0, 0, 0⟩,⟨opI 52 3 50 51, false, 0, 0, 7⟩,⟨opF 53 1 52, false, 0, 0, 15⟩,⟨opL 54 53, false, 0, 0, 31⟩,⟨opE 55 54, false, 0, 0, 63⟩,⟨opF 56 12 6, false, 0, 0, 0⟩,⟨opL 57 56, false, 0, 0, 128⟩,⟨opE 58 57, false, 0, 0, 384⟩,⟨opB 59 .neq 55 58, false, 0, 0, 1023⟩,⟨opM 48 59, false, 0, 0, 2047⟩]) (.cond (sT 48) (.seq (.region [opW 2 (.int .i64 3)])
 .ret) .skip))))) (.seq (.region [opF 60 12 6,opL 61 60,opE 62 61,opW 63 (.int .i64 0)]) (.block 3 (.loop (.seq (.region [opB 64 .lss 63 62]) (.seq (.cond (sT 64) .skip (.exit 3)) (.seq (.block 4 (.seq (.region [opM 65 63,opI 66 1 61 63,opL 67 66,opM 8 65,opM 9 67]) (.seq (.region [opF 68 12 6,opL 69 68,opM 70 8,⟨some 71,.slice 1 (sT 69) none (some (sT 70)),none⟩,opM 72 9,opC 73 51 [.tmp 71, .tmp 72]]) (.cond (sT 73) (.seq (.region [opW 2 (.int .i64 6)])
 .ret) .skip)))) (.region [opY 74 .add 63 (.int .i64 1),opM 63 74])))))))))))))) (.region [opY 75 .add 18 (.int .i64 1),opM 18 75]))))))) (.seq (.region [opW 2 (.int .i64 0)])
 .ret))))
def r8 : List SRes := [.tmp 2]
theorem c8 : Code1 Tryz.prog 11 s8 r8 76 := ⟨⟨Tryz.f11, _, Tryz.func11, rfl, rfl, by kernel_rfl, by kernel_rfl⟩, by kernel_rfl, by kernel_rfl⟩
def s11 : SCode := (.seq (.region [⟨some 1,.box (sT 0),none⟩,opW 2 (.int .i64 0)]) (.seq (.seq (.region [opN 5 2 1,opC 6 70 [.tmp 5],opM 3 6]) (.seq (.region [opM 7 3,opY 8 .neq 7 (.int .i64 0)]) (.cond (sT 8) (.seq (.region [opM 9 3,opM 2 9])
 .ret) .skip))) (.seq (.region [⟨some 4,.alloc (.int .i64 0),none⟩,⟨none, .store 1 (sT 4) (.val (.int .i64 0)),none⟩]) (.seq (.region [opN 10 2 1,⟨some 11,.mkfn 143 [] [.tmp 4, .tmp 1],none⟩,opC 12 88 [.tmp 10, .tmp 11]]) (.seq (.region [opL 13 4,opM 2 13])
 .ret)))))
def r11 : List SRes := [.tmp 2]
theorem c11 : Code1 Tryz.prog 71 s11 r11 14 := ⟨⟨Tryz.f71, _, Tryz.func71, rfl, rfl, by kernel_rfl, by kernel_rfl⟩, by kernel_rfl, by kernel_rfl⟩
def s12 : SCode := (.seq (.region [⟨some 2,.box (sT 0),none⟩,⟨some 3,.box (sT 1),none⟩,opW 4 (.bool false)]) (.seq (.region [opF 5 0 2,opL 6 5,opF 7 0 3,opL 8 7,opB 9 .eql 6 8,opM 10 9,opK 11 1 2 10 true,opH 12 11 10 true,opK 13 1 3 10 true,opH 14 13 10 true,⟨some 15,.bin .eql (sT 12) (sT 14), (some (10, true))⟩,⟨some 16,.pick (sT 10) (sT 15) (.val (.bool false)),none⟩,opM 17 16,opK 18 2 2 17 true,opH 19 18 17 true,opK 20 2 3 17 true,opH 21 20 17 true,⟨some 22,.bin .eql (sT 19) (sT 21), (some (17, true))⟩,⟨some 23,.pick (sT 17) (sT 22) (.val (.bool false)),none⟩,opM 24 23,opK 25 3 2 24 true,opH 26 25 24 true,opK 27 3 3 24 true,opH 28 27 24 true,⟨some 29,.bin .eql (sT 26) (sT 28), (some (24, true))⟩,⟨some 30,.pick (sT 24) (sT 29) (.val (.bool false)),none⟩,opM 31 30,opK 32 4 2 31 true,opH 33 32 31 true,opK 34 4 3 31 true,opH 35 34 31 true,⟨some 36,.bin .eql (sT 33) (sT 35), (some (31, true))⟩,⟨some 37,.pick (sT 31) (sT 36) (.val (.bool false)),none⟩,opM 38 37,opK 39 11 2 38 true,opH 40 39 38 true,opK 41 11 3 38 true,opH 42 41 38 true,⟨some 43,.bin .eql (sT 40) (sT 42), (some (38, true))⟩,⟨some 44,.pick (sT 38) (sT 43) (.val (.bool false)),none⟩,opM 45 44,opK 46 5 2 45 true,⟨some 47,.load true 4 (sT 46), (some (45, true))⟩,opK 48 5 3 45 true,⟨some 49,.load true 4 (sT 48), (some (45, true))⟩,⟨some 50,.call (.val (.clos 197 [] [])) [.tmp 47, .tmp 49], (some (45, true))⟩,⟨some 51,.pick (sT 45) (sT 50) (.val (.bool false)),none⟩,opM 52 51,opK 53 12 2 52 true,opH 54 53 52 true,opK 55 12 3 52 true,opH 56 55 52 true,⟨some 57,.call (.val (.clos 16 [] [])) [.tmp 54, .tmp 56], (some (52, true))⟩,⟨some 58,.pick (sT 52) (sT 57) (.val (.bool false)),none⟩,opM 59 58,opK 60 9 2 59 true,opH 61 60 59 true,opK 62 9 3 59 true,opH 63 62 59 true,⟨some 64,.call (.val (.clos 86 [] [])) [.tmp 61, .tmp 63], (some (59, true))⟩,⟨some 65,.pick (sT 59) (sT 64) (.val (.bool false)),none⟩,opM 66 65,opK 67 10 2 66 true,opH 68 67 66 true,opK 69 10 3 66 true,opH 70 69 66 true,⟨some 71,.call (.val (.clos 86 [] [])) [.tmp 68, .tmp 70], (some (66, true))⟩,⟨some 72,.pick (sT 66) (sT 71) (.val (.bool false)),none⟩,opM 4 72])
 .ret))
def r12 : List SRes := [.tmp 4]
theorem c12 : Code1 Tryz.prog 161 s12 r12 73 := ⟨⟨Tryz.f161, _, Tryz.func161, rfl, rfl, by kernel_rfl, by kernel_rfl⟩, by kernel_rfl, by kernel_rfl⟩
def s13 : SCode := (.seq (.region [opW 0 (.bool false)]) (.seq (.region [opC 4 62 [],opC 5 61 [.tmp 4],opM 3 5,⟨some 6,.extract (sT 3) 0,none⟩,⟨some 7,.extract (sT 3) 1,none⟩,opM 1 6,opM 2 7]) (.seq (.region [opM 8 2,opY 9 .eql 8 (.int .i64 0),opM 10 9,opG 11 1 10 true,⟨some 12,.bin .eql (sT 11) (.val (.int .i64 1)), (some (10, true))⟩,⟨some 13,.pick (sT 10) (sT 12) (.val (.bool false)),none⟩,opM 0 13])
 .ret)))
def r13 : List SRes := [.tmp 0]
theorem c13 : Code1 Tryz.prog 19 s13 r13 14 := ⟨⟨Tryz.f19, _, Tryz.func19, rfl, rfl, by kernel_rfl, by kernel_rfl⟩, by kernel_rfl, by kernel_rfl⟩
def s14 : SCode := (.seq (.region [opW 4 (.bool false)]) (.seq (.region [opM 5 0,opM 6 1,opC 7 38 [.tmp 5, .tmp 6],opY 8 .eql 7 (.int .i64 0),opM 4 8])
 .ret))
def r14 : List SRes := [.tmp 4]
theorem c14 : Code1 Tryz.prog 36 s14 r14 9 := ⟨⟨Tryz.f36, _, Tryz.func36, rfl, rfl, by kernel_rfl, by kernel_rfl⟩, by kernel_rfl, by kernel_rfl⟩
def s16 : SCode := (.seq (.region [opW 4 (.int .i64 0)]) (.seq (.region [opM 7 0,⟨some 8,.nilc (sT 7),none⟩,opF 9 1 8,opL 10 9,opY 11 .add 10 (.int .i64 1),⟨some 12,.nilc (sT 7),none⟩,opF 13 1 12,⟨none, .store 1 (sT 13) (sT 11),none⟩]) (.seq (.seq (.region [opM 14 0,⟨some 15,.nilc (sT 14),none⟩,opF 16 0 15,opL 17 16,opE 18 17,opY 19 .eql 18 (.int .i64 0)]) (.cond (sT 19) (.seq (.region [opM 20 0,⟨some 21,.nilc (sT 20),none⟩,opF 22 1 21,opL 23 22,opY 24 .mul 23 (.int .i64 7919),opM 25 1,opC 26 113 [.tmp 24, .tmp 25],opM 4 26])
 .ret) .skip)) (.seq (.qregion [⟨opM 27 0, false, 0, 0, 0⟩,⟨⟨some 28,.nilc (sT 27),none⟩, false, 0, 0, 1⟩,⟨opF 29 1 28, false, 0, 0, 3⟩,⟨opL 30 29, false, 0, 0, 7⟩,⟨opY 31 .sub 30 (.int .i64 1), false, 0, 0, 15⟩,⟨opM 32 0, false, 0, 0, 0⟩,⟨⟨some 33,.nilc (sT 32),none⟩, false, 0, 0, 32⟩,⟨opF 34 0 33, false, 0, 0, 96⟩,⟨opL 35 34, false, 0, 0, 224⟩,⟨opE 36 35, false, 0, 0, 480⟩,⟨opB 37 .rem 31 36, false, 0, 0, 1023⟩,⟨opM 5 37, false, 0, 0, 2047⟩]) (.seq (.qregion [⟨opM 38 0, false, 0, 0, 0⟩,⟨⟨some 39,.nilc (sT 38),none⟩, false, 0, 0, 1⟩,⟨opF 40 1 39, false, 0, 0, 3⟩,⟨opL 41 40, false, 0, 0, 7⟩,⟨opY 42 .sub 41 (.int .i64 1), false, 0, 0, 15⟩,⟨opM 43 0, false, 0, 0, 0⟩,⟨⟨some 44,.nilc (sT 43),none⟩, false, 0, 0, 32⟩,⟨opF 45 0 44, false, 0, 0, 96⟩,⟨opL 46 45, false, 0, 0, 224⟩,⟨opE 47 46, false, 0, 0, 480⟩,⟨opB 48 .quo 42 47, false, 0, 0, 1023⟩,⟨opM 6 48, false, 0, 0, 2047⟩]) (.seq (.region [opM 49 0,⟨some 50,.nilc (sT 49),none⟩,opF 51 0 50,opL 52 51,opM 53 5,opI 54 1 52 53,opL 55 54,opC 56 113 [.tmp 55, .val (.int .i64 1073741824)],opM 57 6,opM 58 5,⟨some 59,.bin .add (.val (.int .i64 7919)) (sT 58),none⟩,opB 60 .mul 57 59,opB 61 .add 56 60,opM 62 1,opC 63 113 [.tmp 61, .tmp 62],opM 4 63])
 .ret))))))
def r16 : List SRes := [.tmp 4]
theorem c16 : Code1 Tryz.prog 38 s16 r16 64 := ⟨⟨Tryz.f38, _, Tryz.func38, rfl, rfl, by kernel_rfl, by kernel_rfl⟩, by kernel_rfl, by kernel_rfl⟩
def s19 : SCode := (.seq (.region [⟨some 1,.box (sT 0),none⟩,opW 2 (.int .i64 0)]) (.seq (.region [opF 6 1 1,opL 7 6,opC 8 122 [.tmp 7],opM 3 8]) (.seq (.seq (.region [opF 9 0 1,opL 10 9,opE 11 10,opW 12 (.int .i64 0)]) (.block 0 (.loop (.seq (.region [opB 13 .lss 12 11]) (.seq (.cond (sT 13) .skip (.exit 0)) (.seq (.block 1 (.seq (.region [opI 14 3 10 12,opN 15 3 14,⟨some 5,.alloc (.agg [.str ⟨#[]⟩, .nils, .nils]),none⟩,⟨none, .store 3 (sT 5) (sT 15),none⟩]) (.region [opM 16 3,opF 17 2 5,opL 18 17,opC 19 122 [.tmp 18],opB 20 .add 16 19,opM 3 20]))) (.region [opY 21 .add 12 (.int .i64 1),opM 12 21]))))))) (.seq (.region [opM 22 3,opM 2 22])
 .ret))))
def r19 : List SRes := [.tmp 2]
theorem c19 : Code1 Tryz.prog 44 s19 r19 23 := ⟨⟨Tryz.f44, _, Tryz.func44, rfl, rfl, by kernel_rfl, by kernel_rfl⟩, by kernel_rfl, by kernel_rfl⟩
def s22 : SCode := (.seq (.region [⟨some 2,.box (sT 0),none⟩,⟨some 3,.box (sT 1),none⟩]) (.seq (.region [opF 7 1 2,opL 8 7,⟨some 9,.mkfn 162 [] [.tmp 3],none⟩,opC 10 149 [.tmp 8, .val (.int .i64 0), .tmp 9],opM 4 10]) (.seq (.region [opF 11 0 2,opL 12 11,opE 13 12,opW 14 (.int .i64 0)]) (.block 0 (.loop (.seq (.region [opB 15 .lss 14 13]) (.seq (.cond (sT 15) .skip (.exit 0)) (.seq (.block 1 (.seq (.region [opM 16 14,opI 17 3 12 14,opN 18 3 17,⟨some 5,.alloc (.int .i64 0),none⟩,⟨some 6,.alloc (.agg [.str ⟨#[]⟩, .nils, .nils]),none⟩,⟨none, .store 1 (sT 5) (sT 16),none⟩,⟨none, .store 3 (sT 6) (sT 18),none⟩]) (.region [opF 19 2 6,opL 20 19,opM 21 4,⟨some 22,.mkfn 163 [] [.tmp 3, .tmp 5],none⟩,opC 23 149 [.tmp 20, .tmp 21, .tmp 22],opM 4 23]))) (.region [opY 24 .add 14 (.int .i64 1),opM 14 24])))))))))
def r22 : List SRes := []
theorem c22 : Code1 Tryz.prog 88 s22 r22 25 := ⟨⟨Tryz.f88, _, Tryz.func88, rfl, rfl, by kernel_rfl, by kernel_rfl⟩, by kernel_rfl, by kernel_rfl⟩
def s24 : SCode := (.seq (.region [⟨some 1,.box (sT 0),none⟩,opW 2 (.int .i64 0)]) (.seq (.seq (.region [opF 11 0 1,opL 12 11,opE 13 12,opY 14 .gtr 13 (.int .i64 50)]) (.cond (sT 14) (.seq (.region [opW 2 (.int .i64 2)])
 .ret) .skip)) (.seq (.region [⟨some 3,.alloc (.int .i64 0),none⟩,⟨none, .store 1 (sT 3) (.val (.int .i64 0)),none⟩]) (.seq (.region [opW 4 (.nils)]) (.seq (.seq (.region [opF 15 0 1,opL 16 15,opE 17 16,opW 18 (.int .i64 0)]) (.block 0 (.loop (.seq (.region [opB 19 .lss 18 17]) (.seq (.cond (sT 19) .skip (.exit 0)) (.seq (.block 1 (.seq (.region [opI 20 3 16 18,opN 21 3 20,⟨some 6,.alloc (.agg [.str ⟨#[]⟩, .nils, .nils]),none⟩,⟨none, .store 3 (sT 6) (sT 21),none⟩]) (.seq (.block 2 (.seq (.region [opF 23 0 6,opL 24 23,opC 25 82 [.tmp 24],⟨some 26,.un .not (sT 25),none⟩,opM 22 26]) (.cond (sT 22) (.seq (.region [opW 2 (.int .i64 5)])
 .ret) (.seq (.region [opM 28 4,opF 29 0 6,opL 30 29,opC 31 51 [.tmp 28, .tmp 30],opM 27 31]) (.cond (sT 27) (.seq (.region [opW 2 (.int .i64 6)])
 .ret) (.seq (.region [opF 33 1 6,opL 34 33,opE 35 34,opY 36 .eql 35 (.int .i64 0),opM 32 36]) (.cond (sT 32) (.seq (.region [opW 2 (.int .i64 8)])
 .ret) (.seq (.region [opF 38 1 6,opL 39 38,opE 40 39,opY 41 .gtr 40 (.int .i64 12),opM 37 41]) (.cond (sT 37) (.seq (.region [opW 2 (.int .i64 2)])
 .ret) .skip))))))))) (.seq (.seq (.region [opF 42 1 6,opL 43 42,opE 44 43,opW 45 (.int .i64 0)]) (.block 3 (.loop (.seq (.region [opB 46 .lss 45 44]) (.seq (.cond (sT 46) .skip (.exit 3)) (.seq (.block 4 (.seq (.region [opM 47 45,opI 48 1 43 45,opL 49 48,opM 7 47,opM 8 49]) (.seq (.seq (.region [opM 50 8,opC 51 82 [.tmp 50],⟨some 52,.un .not (sT 51),none⟩]) (.cond (sT 52) (.seq (.region [opW 2 (.int .i64 5)])
 .ret) .skip)) (.seq (.region [opF 53 1 6,opL 54 53,opM 55 7,⟨some 56,.slice 1 (sT 54) none (some (sT 55)),none⟩,opM 57 8,opC 58 51 [.tmp 56, .tmp 57]]) (.cond (sT 58) (.seq (.region [opW 2 (.int .i64 6)])
 .ret) .skip))))) (.region [opY 59 .add 45 (.int .i64 1),opM 45 59]))))))) (.seq (.seq (.region [opF 60 2 6,opL 61 60,opC 62 126 [.tmp 61, .val (.int .i64 1), .tmp 3],opM 9 62]) (.seq (.region [opM 63 9,opY 64 .neq 63 (.int .i64 0)]) (.cond (sT 64) (.seq (.region [opM 65 9,opM 2 65])
 .ret) .skip))) (.region [opM 66 4,opF 67 0 6,opL 68 67,⟨some 69,.buildF 1 [.tmp 68],none⟩,⟨some 70,.append 1 16 (sT 66) (sT 69),none⟩,opM 4 70])))))) (.region [opY 71 .add 18 (.int .i64 1),opM 18 71]))))))) (.seq (.seq (.region [opF 72 1 1,opL 73 72,opC 74 126 [.tmp 73, .val (.int .i64 1), .tmp 3],opM 10 74]) (.seq (.region [opM 75 10,opY 76 .neq 75 (.int .i64 0)]) (.cond (sT 76) (.seq (.region [opM 77 10,opM 2 77])
 .ret) .skip))) (.seq (.seq (.region [opL 78 3,opY 79 .gtr 78 (.int .i64 2000)]) (.cond (sT 79) (.seq (.region [opW 2 (.int .i64 2)])
 .ret) .skip)) (.seq (.region [opW 2 (.int .i64 0)])
 .ret))))))))
def r24 : List SRes := [.tmp 2]
theorem c24 : Code1 Tryz.prog 46 s24 r24 80 := ⟨⟨Tryz.f46, _, Tryz.func46, rfl, rfl, by kernel_rfl, by kernel_rfl⟩, by kernel_rfl, by kernel_rfl⟩
def s25 : SCode := (.seq (.region [⟨some 1,.box (sT 0),none⟩,opW 2 (.nils)]) (.seq (.region [⟨some 3,.alloc (.nils),none⟩]) (.seq (.region [⟨some 4,.alloc (.nilf),none⟩]) (.seq (.region [⟨some 7,.mkfn 127 [] [.tmp 3, .tmp 4],none⟩,⟨none, .store 1 (sT 4) (sT 7),none⟩]) (.seq (.region [opL 8 4,opF 9 1 1,opL 10 9,⟨some 11,.call (sT 8) [.tmp 10, .val (.int .i64 (-1)), .val (.bool true)],none⟩]) (.seq (.seq (.region [opF 12 0 1,opL 13 12,opE 14 13,opW 15 (.int .i64 0)]) (.block 0 (.loop (.seq (.region [opB 16 .lss 15 14]) (.seq (.cond (sT 16) .skip (.exit 0)) (.seq (.block 1 (.seq (.region [opM 17 15,opI 18 3 13 15,opN 19 3 18,⟨some 6,.alloc (.agg [.str ⟨#[]⟩, .nils, .nils]),none⟩,opM 5 17,⟨none, .store 3 (sT 6) (sT 19),none⟩]) (.region [opL 20 4,opF 21 2 6,opL 22 21,opM 23 5,⟨some 24,.call (sT 20) [.tmp 22, .tmp 23, .val (.bool true)],none⟩]))) (.region [opY 25 .add 15 (.int .i64 1),opM 15 25]))))))) (.seq (.region [opL 26 3,opM 2 26])
 .ret)))))))
def r25 : List SRes := [.tmp 2]
theorem c25 : Code1 Tryz.prog 47 s25 r25 27 := ⟨⟨Tryz.f47, _, Tryz.func47, rfl, rfl, by kernel_rfl, by kernel_rfl⟩, by kernel_rfl, by kernel_rfl⟩
def s26 : SCode := (.seq (.region [opW 4 (.bool false)]) (.seq (.region [opM 5 0,opM 6 1,opC 7 128 [.tmp 5, .tmp 6],opY 8 .geq 7 (.int .i64 0),opM 4 8])
 .ret))
def r26 : List SRes := [.tmp 4]
theorem c26 : Code1 Tryz.prog 48 s26 r26 9 := ⟨⟨Tryz.f48, _, Tryz.func48, rfl, rfl, by kernel_rfl, by kernel_rfl⟩, by kernel_rfl, by kernel_rfl⟩
def s27 : SCode := (.seq (.region [⟨some 1,.box (sT 0),none⟩,opW 2 (.nils)]) (.seq (.seq (.region [opF 3 0 1,opL 4 3]) (.block 0 (.seq (.seq (.region [opY 6 .eql 4 (.int .i64 1),opM 5 6]) (.cond (sT 5) .skip (.region [opY 7 .eql 4 (.int .i64 2),opM 5 7]))) (.cond (sT 5) (.seq (.region [opF 8 1 1,opL 9 8,opF 10 2 1,opL 11 10,⟨some 12,.buildF 1 [.tmp 9, .tmp 11],none⟩,opM 2 12])
 .ret) (.seq (.region [opY 14 .eql 4 (.int .i64 5),opM 13 14]) (.cond (sT 13) (.seq (.region [opF 15 12 1,opL 16 15,opM 2 16])
 .ret) .skip)))))) (.seq (.region [opF 17 1 1,opL 18 17,⟨some 19,.buildF 1 [.tmp 18],none⟩,opM 2 19])
 .ret)))
def r27 : List SRes := [.tmp 2]
theorem c27 : Code1 Tryz.prog 49 s27 r27 20 := ⟨⟨Tryz.f49, _, Tryz.func49, rfl, rfl, by kernel_rfl, by kernel_rfl⟩, by kernel_rfl, by kernel_rfl⟩
def s28 : SCode := (.seq (.region [opW 4 (.bool false)]) (.seq (.region [opF 5 0 1,opL 6 5,opF 7 13 2,opL 8 7,opI 9 3 6 8,opF 10 1 9,opL 11 10,opM 12 0,opC 13 51 [.tmp 11, .tmp 12],⟨some 14,.un .not (sT 13),none⟩,opM 4 14])
 .ret))
def r28 : List SRes := [.tmp 4]
theorem c28 : Code1 Tryz.prog 50 s28 r28 15 := ⟨⟨Tryz.f50, _, Tryz.func50, rfl, rfl, by kernel_rfl, by kernel_rfl⟩, by kernel_rfl, by kernel_rfl⟩
def s29 : SCode := (.seq (.region [opW 4 (.bool false)]) (.seq (.region [opM 5 0,opM 6 1,opC 7 124 [.tmp 5, .tmp 6],opY 8 .geq 7 (.int .i64 0),opM 4 8])
 .ret))
def r29 : List SRes := [.tmp 4]
theorem c29 : Code1 Tryz.prog 51 s29 r29 9 := ⟨⟨Tryz.f51, _, Tryz.func51, rfl, rfl, by kernel_rfl, by kernel_rfl⟩, by kernel_rfl, by kernel_rfl⟩
def s30 : SCode := (.seq (.region [⟨some 2,.box (sT 0),none⟩,⟨some 3,.box (sT 1),none⟩,opW 4 (.int .i64 0)]) (.seq (.region [opF 5 0 2,opL 6 5,⟨some 7,.mkfn 130 [] [.tmp 3],none⟩,opC 8 129 [.tmp 6, .tmp 7],opM 4 8])
 .ret))
def r30 : List SRes := [.tmp 4]
theorem c30 : Code1 Tryz.prog 52 s30 r30 9 := ⟨⟨Tryz.f52, _, Tryz.func52, rfl, rfl, by kernel_rfl, by kernel_rfl⟩, by kernel_rfl, by kernel_rfl⟩
def s31 : SCode := (.seq (.region [opW 6 (.bool false)]) (.seq (.region [opM 7 1,opM 8 0,opB 9 .leq 7 8,opM 10 9,opG 11 0 10 true,opG 12 2 10 true,⟨some 13,.bin .leq (sT 11) (sT 12), (some (10, true))⟩,⟨some 14,.pick (sT 10) (sT 13) (.val (.bool false)),none⟩,opM 6 14])
 .ret))
def r31 : List SRes := [.tmp 6]
theorem c31 : Code1 Tryz.prog 158 s31 r31 15 := ⟨⟨Tryz.f158, _, Tryz.func158, rfl, rfl, by kernel_rfl, by kernel_rfl⟩, by kernel_rfl, by kernel_rfl⟩
def s32 : SCode := (.seq (.region [⟨some 1,.box (sT 0),none⟩,opW 2 (.int .i64 0)]) (.seq (.seq (.region [opF 6 0 1,opL 7 6,opE 8 7,opY 9 .gtr 8 (.int .i64 50)]) (.cond (sT 9) (.seq (.region [opW 2 (.int .i64 2)])
 .ret) .skip)) (.seq (.seq (.region [opF 10 0 1,opL 11 10,opE 12 11,opW 13 (.int .i64 0)]) (.block 0 (.loop (.seq (.region [opB 14 .lss 13 12]) (.seq (.cond (sT 14) .skip (.exit 0)) (.seq (.block 1 (.seq (.region [opM 15 13,opM 3 15]) (.seq (.region [opF 16 0 1,opL 17 16,opM 18 3,opC 19 141 [.tmp 17, .tmp 18],opM 4 19]) (.seq (.region [opM 20 4,opY 21 .neq 20 (.int .i64 0)]) (.cond (sT 21) (.seq (.region [opM 22 4,opM 2 22])
 .ret) .skip))))) (.region [opY 23 .add 13 (.int .i64 1),opM 13 23]))))))) (.seq (.seq (.region [opF 24 1 1,opL 25 24,opC 26 142 [.tmp 25, .val (.int .i64 1)],opM 5 26]) (.seq (.region [opM 27 5,opY 28 .neq 27 (.int .i64 0)]) (.cond (sT 28) (.seq (.region [opM 29 5,opM 2 29])
 .ret) .skip))) (.seq (.seq (.region [opN 30 2 1,opC 31 44 [.tmp 30],opY 32 .gtr 31 (.int .i64 2000)]) (.cond (sT 32) (.seq (.region [opW 2 (.int .i64 2)])
 .ret) .skip)) (.seq (.region [opW 2 (.int .i64 0)])
 .ret))))))
def r32 : List SRes := [.tmp 2]
theorem c32 : Code1 Tryz.prog 70 s32 r32 33 := ⟨⟨Tryz.f70, _, Tryz.func70, rfl, rfl, by kernel_rfl, by kernel_rfl⟩, by kernel_rfl, by kernel_rfl⟩
def s33 : SCode := (.seq (.region [⟨some 7,.box (sT 2),none⟩]) (.seq (.region [opL 8 3,opY 9 .eql 8 (.int .i64 0)]) (.cond (sT 9) (.region [opN 10 2 4,opM 11 1,opN 12 13 7,opC 13 144 [.tmp 10, .tmp 11, .tmp 12],⟨none, .store 1 (sT 3) (sT 13),none⟩]) .skip)))
def r33 : List SRes := []
theorem c33 : Code1 Tryz.prog 143 s33 r33 14 := ⟨⟨Tryz.f143, _, Tryz.func143, rfl, rfl, by kernel_rfl, by kernel_rfl⟩, by kernel_rfl, by kernel_rfl⟩
def s34 : SCode := (.seq (.region [⟨some 3,.box (sT 0),none⟩,⟨some 4,.box (sT 1),none⟩,⟨some 5,.box (sT 2),none⟩,opW 6 (.int .i64 0)]) (.seq (.seq (.region [opL 10 4,opY 11 .geq 10 (.int .i64 0),opM 12 11,⟨some 13,.load true 13 (sT 5), (some (12, true))⟩,⟨some 14,.call (.val (.clos 125 [] [])) [.tmp 13], (some (12, true))⟩,⟨some 15,.mkfn 191 [] [.tmp 3, .tmp 4], (some (12, true))⟩,⟨some 16,.call (.val (.clos 48 [] [])) [.tmp 14, .tmp 15], (some (12, true))⟩,⟨some 17,.pick (sT 12) (sT 16) (.val (.bool false)),none⟩]) (.cond (sT 17) (.seq (.region [opW 6 (.int .i64 5)])
 .ret) .skip)) (.seq (.seq (.region [opF 18 2 5,opL 19 18,opY 20 .neq 19 (.str ⟨#[]⟩),opM 21 20,opK 22 1 5 21 true,opH 23 22 21 true,opK 24 2 5 21 true,opH 25 24 21 true,⟨some 26,.bin .eql (sT 23) (sT 25), (some (21, true))⟩,⟨some 27,.pick (sT 21) (sT 26) (.val (.bool false)),none⟩]) (.cond (sT 27) (.seq (.region [opW 6 (.int .i64 6)])
 .ret) .skip)) (.seq (.seq (.region [opF 28 0 5,opL 29 28,opY 30 .neq 29 (.int .i64 5)]) (.cond (sT 30) (.seq (.region [opW 6 (.int .i64 0)])
 .ret) .skip)) (.seq (.region [opN 31 2 3,opF 32 11 5,opL 33 32,opC 34 192 [.tmp 31, .tmp 33],opM 7 34]) (.seq (.seq (.region [opM 35 7,opY 36 .lss 35 (.int .i64 0)]) (.cond (sT 36) (.seq (.region [opW 6 (.int .i64 8)])
 .ret) .skip)) (.seq (.seq (.qregion [⟨opF 37 0 3, false, 0, 0, 0⟩,⟨opL 38 37, false, 0, 0, 1⟩,⟨opM 39 7, false, 0, 0, 0⟩,⟨opI 40 3 38 39, false, 0, 0, 7⟩,⟨opF 41 1 40, false, 0, 0, 15⟩,⟨opL 42 41, false, 0, 0, 31⟩,⟨opE 43 42, false, 0, 0, 63⟩,⟨opF 44 12 5, false, 0, 0, 0⟩,⟨opL 45 44, false, 0, 0, 128⟩,⟨opE 46 45, false, 0, 0, 384⟩,⟨opB 47 .neq 43 46, false, 0, 0, 1023⟩]) (.cond (sT 47) (.seq (.region [opW 6 (.int .i64 3)])
 .ret) .skip)) (.seq (.seq (.region [opF 48 12 5,opL 49 48,opE 50 49,opW 51 (.int .i64 0)]) (.block 0 (.loop (.seq (.region [opB 52 .lss 51 50]) (.seq (.cond (sT 52) .skip (.exit 0)) (.seq (.block 1 (.seq (.region [opM 53 51,opI 54 1 49 51,opL 55 54,opM 8 53,opM 9 55]) (.seq (.region [opF 56 12 5,opL 57 56,opM 58 8,⟨some 59,.slice 1 (sT 57) none (some (sT 58)),none⟩,opM 60 9,opC 61 51 [.tmp 59, .tmp 60]]) (.cond (sT 61) (.seq (.region [opW 6 (.int .i64 6)])
 .ret) .skip)))) (.region [opY 62 .add 51 (.int .i64 1),opM 51 62]))))))) (.seq (.region [opW 6 (.int .i64 0)])
 .ret)))))))))
def r34 : List SRes := [.tmp 6]
theorem c34 : Code1 Tryz.prog 144 s34 r34 63 := ⟨⟨Tryz.f144, _, Tryz.func144, rfl, rfl, by kernel_rfl, by kernel_rfl⟩, by kernel_rfl, by kernel_rfl⟩
def s36 : SCode := (.seq (.region [opW 4 (.bool false)]) (.seq (.seq (.region [opM 6 0,opE 7 6,opM 8 1,opE 9 8,opB 10 .neq 7 9]) (.cond (sT 10) (.seq (.region [opW 4 (.bool false)])
 .ret) .skip)) (.seq (.seq (.region [opM 11 0,opE 12 11,opW 13 (.int .i64 0)]) (.block 0 (.loop (.seq (.region [opB 14 .lss 13 12]) (.seq (.cond (sT 14) .skip (.exit 0)) (.seq (.block 1 (.seq (.region [opM 15 13,opM 5 15]) (.seq (.qregion [⟨opM 16 0, false, 0, 0, 0⟩,⟨opM 17 5, false, 0, 0, 0⟩,⟨opI 18 1 16 17, false, 0, 0, 3⟩,⟨opL 19 18, false, 0, 0, 7⟩,⟨opM 20 1, false, 0, 0, 0⟩,⟨opM 21 5, false, 0, 0, 0⟩,⟨opI 22 1 20 21, false, 0, 0, 48⟩,⟨opL 23 22, false, 0, 0, 112⟩,⟨opB 24 .neq 19 23, false, 0, 0, 255⟩]) (.cond (sT 24) (.seq (.region [opW 4 (.bool false)])
 .ret) .skip)))) (.region [opY 25 .add 13 (.int .i64 1),opM 13 25]))))))) (.seq (.region [opW 4 (.bool true)])
 .ret))))
def r36 : List SRes := [.tmp 4]
theorem c36 : Code1 Tryz.prog 16 s36 r36 26 := ⟨⟨Tryz.f16, _, Tryz.func16, rfl, rfl, by kernel_rfl, by kernel_rfl⟩, by kernel_rfl, by kernel_rfl⟩
def s38 : SCode := (.seq (.region [⟨some 0,.alloc (.agg [.nils, .nils]),none⟩]) (.seq (.region [⟨some 1,.build [.int .i64 0, .int .i64 0, .str ⟨#[]⟩, .fs []] [(0, 1, .val (.int .i64 1)), (1, 1, .val (.int .i64 7))],none⟩,⟨some 2,.build [.int .i64 0, .str ⟨#[]⟩, .str ⟨#[]⟩, .str ⟨#[]⟩, .str ⟨#[]⟩, .int .i64 0, .int .i64 0, .str ⟨#[]⟩, .fs [], .fs [], .fs [], .str ⟨#[]⟩, .fs []] [(0, 1, .val (.int .i64 3)), (1, 1, .val (.str ⟨#[97]⟩)), (3, 1, .val (.str ⟨#[120]⟩)), (5, 4, .tmp 1)],none⟩,⟨some 3,.buildF 13 [.tmp 2],none⟩,⟨some 4,.build [.fs [], .fs []] [(1, 1, .tmp 3)],none⟩,⟨none, .store 2 (sT 0) (sT 4),none⟩])
 .ret))
def r38 : List SRes := [.cell true 2 0]
theorem c38 : Code1 Tryz.prog 62 s38 r38 5 := ⟨⟨Tryz.f62, _, Tryz.func62, rfl, rfl, by kernel_rfl, by kernel_rfl⟩, by kernel_rfl, by kernel_rfl⟩
def s39 : SCode := (.seq (.region [opW 6 (.int .i64 0)]) (.seq (.seq (.region [opM 7 2,opM 8 1,opB 9 .lss 7 8]) (.cond (sT 9) (.seq (.region [opM 10 1,opM 6 10])
 .ret) .skip)) (.seq (.region [opM 11 1,opM 12 0,opM 13 2,opM 14 1,opB 15 .sub 13 14,opY 16 .add 15 (.int .i64 1),opC 17 38 [.tmp 12, .tmp 16],opB 18 .add 11 17,opM 6 18])
 .ret)))
def r39 : List SRes := [.tmp 6]
theorem c39 : Code1 Tryz.prog 108 s39 r39 19 := ⟨⟨Tryz.f108, _, Tryz.func108, rfl, rfl, by kernel_rfl, by kernel_rfl⟩, by kernel_rfl, by kernel_rfl⟩
def s40 : SCode := (.seq (.region [opW 4 (.str ⟨#[]⟩),opW 5 (.str ⟨#[]⟩)]) (.seq (.region [opM 8 0,opM 9 1,opE 10 9,opC 11 38 [.tmp 8, .tmp 10],opM 6 11]) (.seq (.region [opM 12 6,opY 13 .add 12 (.int .i64 1),opM 14 0,opM 15 1,opE 16 15,opY 17 .sub 16 (.int .i64 1),opC 18 38 [.tmp 14, .tmp 17],opB 19 .add 13 18,opM 20 1,opE 21 20,opB 22 .rem 19 21,opM 7 22]) (.seq (.qregion [⟨opM 23 1, false, 0, 0, 0⟩,⟨opM 24 6, false, 0, 0, 0⟩,⟨opI 25 1 23 24, false, 0, 0, 3⟩,⟨opL 26 25, false, 0, 0, 7⟩,⟨opM 27 1, false, 0, 0, 0⟩,⟨opM 28 7, false, 0, 0, 0⟩,⟨opI 29 1 27 28, false, 0, 0, 48⟩,⟨opL 30 29, false, 0, 0, 112⟩,⟨opM 4 26, false, 0, 0, 15⟩,⟨opM 5 30, false, 0, 0, 511⟩])
 .ret))))
def r40 : List SRes := [.tmp 4, .tmp 5]
theorem c40 : Code1 Tryz.prog 109 s40 r40 31 := ⟨⟨Tryz.f109, _, Tryz.func109, rfl, rfl, by kernel_rfl, by kernel_rfl⟩, by kernel_rfl, by kernel_rfl⟩
def s41 : SCode := (.seq (.region [opW 4 (.str ⟨#[]⟩)]) (.seq (.region [opM 5 1,opM 6 0,opM 7 1,opE 8 7,opC 9 38 [.tmp 6, .tmp 8],opI 10 1 5 9,opL 11 10,opM 4 11])
 .ret))
def r41 : List SRes := [.tmp 4]
theorem c41 : Code1 Tryz.prog 63 s41 r41 12 := ⟨⟨Tryz.f63, _, Tryz.func63, rfl, rfl, by kernel_rfl, by kernel_rfl⟩, by kernel_rfl, by kernel_rfl⟩
def s42 : SCode := (.seq (.region [⟨some 4,.alloc (.agg [.int .i64 0, .int .i64 0, .str ⟨#[]⟩, .nils]),none⟩]) (.seq (.seq (.region [opM 7 1,opY 8 .lss 7 (.int .i64 2),opM 9 8,opG 10 0 9 false,⟨some 11,.call (.val (.clos 36 [] [])) [.tmp 10, .val (.int .i64 3)], (some (9, false))⟩,⟨some 12,.pick (sT 9) (.val (.bool true)) (sT 11),none⟩]) (.cond (sT 12) (.seq (.region [opM 13 0,opC 14 114 [.tmp 13],⟨none, .store 4 (sT 4) (sT 14),none⟩])
 .ret) .skip)) (.seq (.region [opM 15 0,⟨some 16,.buildF 1 [.val (.int .i64 3), .val (.int .i64 4), .val (.int .i64 5), .val (.int .i64 6), .val (.int .i64 7), .val (.int .i64 8), .val (.int .i64 9)],none⟩,opC 17 110 [.tmp 15, .tmp 16],⟨some 18,.build [.int .i64 0, .int .i64 0, .str ⟨#[]⟩, .nils] [(0, 1, .tmp 17)],none⟩,⟨some 5,.alloc (.agg [.int .i64 0, .int .i64 0, .str ⟨#[]⟩, .nils]),none⟩,⟨none, .store 4 (sT 5) (sT 18),none⟩]) (.seq (.region [opW 6 (.int .i64 2)]) (.seq (.seq (.region [opF 19 0 5,opL 20 19]) (.block 0 (.seq (.region [opY 22 .eql 20 (.int .i64 8),opM 21 22]) (.cond (sT 21) (.region [opW 6 (.int .i64 1)]) (.seq (.region [opY 24 .eql 20 (.int .i64 9),opM 23 24]) (.cond (sT 23) (.region [opW 6 (.int .i64 3)]) .skip)))))) (.seq (.seq (.region [opM 25 6,opW 26 (.int .i64 0)]) (.block 1 (.loop (.seq (.region [opB 27 .lss 26 25]) (.seq (.cond (sT 27) .skip (.exit 1)) (.seq (.block 2 (.qregion [⟨opF 28 3 5, false, 0, 1, 0⟩,⟨opL 29 28, false, 0, 1, 1⟩,⟨opM 30 0, false, 0, 0, 0⟩,⟨opM 31 1, false, 0, 0, 0⟩,⟨opY 32 .sub 31 (.int .i64 1), false, 0, 0, 8⟩,⟨opC 33 111 [.tmp 30, .tmp 32], true, 0, 0, 28⟩,⟨⟨some 34,.buildF 4 [.tmp 33],none⟩, false, 1, 1, 60⟩,⟨⟨some 35,.append 4 56 (sT 29) (sT 34),none⟩, true, 0, 0, 127⟩,⟨opF 36 3 5, false, 2, 2, 255⟩,⟨⟨none, .store 1 (sT 36) (sT 35),none⟩, true, 0, 0, 511⟩])) (.region [opY 37 .add 26 (.int .i64 1),opM 26 37]))))))) (.seq (.region [opN 38 4 5,⟨none, .store 4 (sT 4) (sT 38),none⟩])
 .ret)))))))
def r42 : List SRes := [.cell true 4 4]
theorem c42 : Code1 Tryz.prog 111 s42 r42 39 := ⟨⟨Tryz.f111, _, Tryz.func111, rfl, rfl, by kernel_rfl, by kernel_rfl⟩, by kernel_rfl, by kernel_rfl⟩
def s43 : SCode := (.seq (.region [opW 4 (.nils)]) (.seq (.region [opW 5 (.nils)]) (.seq (.seq (.region [opM 9 1,opW 10 (.int .i64 0)]) (.block 0 (.loop (.seq (.region [opB 11 .lss 10 9]) (.seq (.cond (sT 11) .skip (.exit 0)) (.seq (.block 1 (.seq (.region [opM 12 10,opM 6 12]) (.region [opM 13 5,opM 14 6,⟨some 15,.buildF 1 [.tmp 14],none⟩,⟨some 16,.append 1 8 (sT 13) (sT 15),none⟩,opM 5 16]))) (.region [opY 17 .add 10 (.int .i64 1),opM 10 17]))))))) (.seq (.seq (.region [opM 18 1,opY 19 .sub 18 (.int .i64 1),opM 7 19]) (.block 2 (.loop (.seq (.seq (.region [opM 20 7,opY 21 .gtr 20 (.int .i64 0)]) (.cond (sT 21) .skip (.exit 2))) (.seq (.block 3 (.seq (.region [opM 24 0,opM 25 7,opY 26 .add 25 (.int .i64 1),opC 27 38 [.tmp 24, .tmp 26],opM 8 27]) (.qregion [⟨opM 28 5, false, 0, 0, 0⟩,⟨opM 29 7, false, 0, 0, 0⟩,⟨opM 30 5, false, 0, 1, 0⟩,⟨opM 31 8, false, 0, 1, 0⟩,⟨opM 32 5, false, 0, 0, 0⟩,⟨opM 33 8, false, 0, 0, 0⟩,⟨opI 34 1 32 33, false, 0, 0, 48⟩,⟨opL 35 34, false, 0, 0, 112⟩,⟨opM 36 5, false, 0, 0, 0⟩,⟨opM 37 7, false, 0, 0, 0⟩,⟨opI 38 1 36 37, false, 0, 0, 768⟩,⟨opL 39 38, false, 0, 0, 1792⟩,⟨opI 40 1 28 29, false, 0, 0, 4083⟩,⟨⟨none, .store 1 (sT 40) (sT 35),none⟩, true, 0, 0, 8179⟩,⟨opI 41 1 30 31, false, 1, 1, 16383⟩,⟨⟨none, .store 1 (sT 41) (sT 39),none⟩, true, 0, 0, 32767⟩]))) (.region [opM 22 7,opY 23 .sub 22 (.int .i64 1),opM 7 23])))))) (.seq (.region [opM 42 5,opM 4 42])
 .ret)))))
def r43 : List SRes := [.tmp 4]
theorem c43 : Code1 Tryz.prog 112 s43 r43 43 := ⟨⟨Tryz.f112, _, Tryz.func112, rfl, rfl, by kernel_rfl, by kernel_rfl⟩, by kernel_rfl, by kernel_rfl⟩
def s44 : SCode := (.seq (.region [opW 4 (.int .i64 0)]) (.seq (.seq (.region [opM 5 1,opY 6 .lss 5 (.int .i64 1)]) (.cond (sT 6) (.seq (.region [opW 4 (.int .i64 0)])
 .ret) .skip)) (.seq (.region [opM 7 0,opM 8 1,opB 9 .rem 7 8,opM 0 9]) (.seq (.seq (.region [opM 10 0,opY 11 .lss 10 (.int .i64 0)]) (.cond (sT 11) (.region [opM 12 0,opM 13 1,opB 14 .add 12 13,opM 0 14]) .skip)) (.seq (.region [opM 15 0,opM 4 15])
 .ret)))))
def r44 : List SRes := [.tmp 4]
theorem c44 : Code1 Tryz.prog 113 s44 r44 16 := ⟨⟨Tryz.f113, _, Tryz.func113, rfl, rfl, by kernel_rfl, by kernel_rfl⟩, by kernel_rfl, by kernel_rfl⟩
def s45 : SCode := (.seq (.region [⟨some 2,.alloc (.agg [.int .i64 0, .int .i64 0, .str ⟨#[]⟩, .nils]),none⟩]) (.seq (.seq (.region [opM 3 0,opC 4 36 [.tmp 3, .val (.int .i64 2)]]) (.cond (sT 4) (.seq (.region [opM 5 0,⟨some 6,.buildF 1 [.val (.int .i64 0), .val (.int .i64 1), .val (.int .i64 2), .val (.int .i64 5), .val (.int .i64 999)],none⟩,opC 7 110 [.tmp 5, .tmp 6],⟨some 8,.build [.int .i64 0, .int .i64 0, .str ⟨#[]⟩, .nils] [(0, 1, .val (.int .i64 1)), (1, 1, .tmp 7)],none⟩,⟨none, .store 4 (sT 2) (sT 8),none⟩])
 .ret) .skip)) (.seq (.region [opM 9 0,⟨some 10,.buildF 1 [.val (.str ⟨#[120]⟩), .val (.str ⟨#[121]⟩), .val (.str ⟨#[120]⟩), .val (.str ⟨#[122]⟩)],none⟩,opC 11 63 [.tmp 9, .tmp 10],⟨some 12,.build [.int .i64 0, .int .i64 0, .str ⟨#[]⟩, .nils] [(0, 1, .val (.int .i64 2)), (2, 1, .tmp 11)],none⟩,⟨none, .store 4 (sT 2) (sT 12),none⟩])
 .ret)))
def r45 : List SRes := [.cell true 4 2]
theorem c45 : Code1 Tryz.prog 114 s45 r45 13 := ⟨⟨Tryz.f114, _, Tryz.func114, rfl, rfl, by kernel_rfl, by kernel_rfl⟩, by kernel_rfl, by kernel_rfl⟩
def s46 : SCode := (.seq (.region [opW 2 (.nils)]) (.seq (.seq (.region [opM 3 0,⟨some 4,.snil false (sT 3),none⟩]) (.cond (sT 4) (.seq (.region [opW 2 (.nils)])
 .ret) .skip)) (.seq (.region [⟨some 5,.mkemp,none⟩,opM 6 0,⟨some 7,.append 1 16 (sT 5) (sT 6),none⟩,opM 2 7])
 .ret)))
def r46 : List SRes := [.tmp 2]
theorem c46 : Code1 Tryz.prog 69 s46 r46 8 := ⟨⟨Tryz.f69, _, Tryz.func69, rfl, rfl, by kernel_rfl, by kernel_rfl⟩, by kernel_rfl, by kernel_rfl⟩
def s47 : SCode := (.seq (.region [opM 4 0,opE 5 4,opY 6 .sub 5 (.int .i64 1),opW 2 (.int .i64 0),opM 3 6]) (.block 0 (.loop (.seq (.seq (.region [opM 7 2,opM 8 3,opB 9 .lss 7 8]) (.cond (sT 9) .skip (.exit 0))) (.seq (.block 1 (.qregion [⟨opM 14 0, false, 0, 0, 0⟩,⟨opM 15 2, false, 0, 0, 0⟩,⟨opM 16 0, false, 0, 1, 0⟩,⟨opM 17 3, false, 0, 1, 0⟩,⟨opM 18 0, false, 0, 0, 0⟩,⟨opM 19 3, false, 0, 0, 0⟩,⟨opI 20 1 18 19, false, 0, 0, 48⟩,⟨opL 21 20, false, 0, 0, 112⟩,⟨opM 22 0, false, 0, 0, 0⟩,⟨opM 23 2, false, 0, 0, 0⟩,⟨opI 24 1 22 23, false, 0, 0, 768⟩,⟨opL 25 24, false, 0, 0, 1792⟩,⟨opI 26 1 14 15, false, 0, 0, 4083⟩,⟨⟨none, .store 1 (sT 26) (sT 21),none⟩, true, 0, 0, 8179⟩,⟨opI 27 1 16 17, false, 1, 1, 16383⟩,⟨⟨none, .store 1 (sT 27) (sT 25),none⟩, true, 0, 0, 32767⟩])) (.region [opM 10 2,opY 11 .add 10 (.int .i64 1),opM 12 3,opY 13 .sub 12 (.int .i64 1),opM 2 11,opM 3 13]))))))
def r47 : List SRes := []
theorem c47 : Code1 Tryz.prog 115 s47 r47 28 := ⟨⟨Tryz.f115, _, Tryz.func115, rfl, rfl, by kernel_rfl, by kernel_rfl⟩, by kernel_rfl, by kernel_rfl⟩
def s48 : SCode := (.seq (.region [opW 6 (.int .i64 0)]) (.seq (.seq (.region [opM 7 0,opC 8 36 [.tmp 7, .val (.int .i64 12)]]) (.cond (sT 8) (.seq (.region [opM 9 0,opM 10 1,opY 11 .sub 10 (.int .i64 1),opM 12 2,opY 13 .add 12 (.int .i64 1),opM 14 1,opM 15 2,⟨some 16,.buildF 1 [.tmp 11, .tmp 13, .tmp 14, .tmp 15, .val (.int .i64 (-1099511627776)), .val (.int .i64 1099511627776)],none⟩,opC 17 110 [.tmp 9, .tmp 16],opM 6 17])
 .ret) .skip)) (.seq (.region [opM 18 0,opM 19 1,opM 20 2,opC 21 108 [.tmp 18, .tmp 19, .tmp 20],opM 6 21])
 .ret)))
def r48 : List SRes := [.tmp 6]
theorem c48 : Code1 Tryz.prog 116 s48 r48 22 := ⟨⟨Tryz.f116, _, Tryz.func116, rfl, rfl, by kernel_rfl, by kernel_rfl⟩, by kernel_rfl, by kernel_rfl⟩
def s49 : SCode := (.seq (.region [opW 2 (.int .i64 0)]) (.seq (.region [opM 6 0,opE 7 6,opM 3 7]) (.seq (.seq (.region [opM 8 0,opE 9 8,opW 10 (.int .i64 0)]) (.block 0 (.loop (.seq (.region [opB 11 .lss 10 9]) (.seq (.cond (sT 11) .skip (.exit 0)) (.seq (.block 1 (.seq (.region [opI 12 13 8 10,opN 13 13 12,⟨some 5,.alloc (.agg [.int .i64 0, .str ⟨#[]⟩, .str ⟨#[]⟩, .str ⟨#[]⟩, .str ⟨#[]⟩, .int .i64 0, .int .i64 0, .str ⟨#[]⟩, .nils, .nils, .nils, .str ⟨#[]⟩, .nils]),none⟩,⟨none, .store 13 (sT 5) (sT 13),none⟩]) (.qregion [⟨opM 14 3, false, 0, 0, 0⟩,⟨opF 15 9 5, false, 0, 0, 0⟩,⟨opL 16 15, false, 0, 0, 2⟩,⟨opC 17 122 [.tmp 16], false, 0, 0, 6⟩,⟨opF 18 10 5, false, 0, 0, 0⟩,⟨opL 19 18, false, 0, 0, 16⟩,⟨opC 20 122 [.tmp 19], false, 0, 0, 62⟩,⟨opB 21 .add 17 20, false, 0, 0, 126⟩,⟨opB 22 .add 14 21, false, 0, 0, 255⟩,⟨opM 3 22, false, 0, 0, 511⟩]))) (.region [opY 23 .add 10 (.int .i64 1),opM 10 23]))))))) (.seq (.region [opM 24 3,opM 2 24])
 .ret))))
def r49 : List SRes := [.tmp 2]
theorem c49 : Code1 Tryz.prog 122 s49 r49 25 := ⟨⟨Tryz.f122, _, Tryz.func122, rfl, rfl, by kernel_rfl, by kernel_rfl⟩, by kernel_rfl, by kernel_rfl⟩
def s51 : SCode := (.seq (.region [opW 6 (.int .i64 0)]) (.seq (.seq (.region [opM 9 0,opE 10 9,opW 11 (.int .i64 0)]) (.block 0 (.loop (.seq (.region [opB 12 .lss 11 10]) (.seq (.cond (sT 12) .skip (.exit 0)) (.seq (.block 1 (.seq (.region [opI 13 13 9 11,opN 14 13 13,⟨some 8,.alloc (.agg [.int .i64 0, .str ⟨#[]⟩, .str ⟨#[]⟩, .str ⟨#[]⟩, .str ⟨#[]⟩, .int .i64 0, .int .i64 0, .str ⟨#[]⟩, .nils, .nils, .nils, .str ⟨#[]⟩, .nils]),none⟩,⟨none, .store 13 (sT 8) (sT 14),none⟩]) (.seq (.region [opM 15 2,opM 16 1,opN 17 13 8,⟨some 18,.call (sT 15) [.tmp 16, .tmp 17],none⟩]) (.seq (.region [opF 19 9 8,opL 20 19,opM 21 1,opY 22 .add 21 (.int .i64 1),opM 23 2,opC 24 149 [.tmp 20, .tmp 22, .tmp 23],opM 1 24]) (.region [opF 25 10 8,opL 26 25,opM 27 1,opM 28 2,opC 29 149 [.tmp 26, .tmp 27, .tmp 28],opM 1 29]))))) (.region [opY 30 .add 11 (.int .i64 1),opM 11 30]))))))) (.seq (.region [opM 31 1,opM 6 31])
 .ret)))
def r51 : List SRes := [.tmp 6]
theorem c51 : Code1 Tryz.prog 149 s51 r51 32 := ⟨⟨Tryz.f149, _, Tryz.func149, rfl, rfl, by kernel_rfl, by kernel_rfl⟩, by kernel_rfl, by kernel_rfl⟩
def s52 : SCode := (.seq (.region [⟨some 4,.box (sT 1),none⟩]) (.region [opL 5 2,opM 6 0,opN 7 13 4,⟨some 8,.call (sT 5) [.tmp 6, .val (.int .i64 (-1)), .tmp 7],none⟩]))
def r52 : List SRes := []
theorem c52 : Code1 Tryz.prog 162 s52 r52 9 := ⟨⟨Tryz.f162, _, Tryz.func162, rfl, rfl, by kernel_rfl, by kernel_rfl⟩, by kernel_rfl, by kernel_rfl⟩
def s53 : SCode := (.seq (.region [⟨some 5,.box (sT 1),none⟩]) (.region [opL 6 2,opM 7 0,opL 8 3,opN 9 13 5,⟨some 10,.call (sT 6) [.tmp 7, .tmp 8, .tmp 9],none⟩]))
def r53 : List SRes := []
theorem c53 : Code1 Tryz.prog 163 s53 r53 11 := ⟨⟨Tryz.f163, _, Tryz.func163, rfl, rfl, by kernel_rfl, by kernel_rfl⟩, by kernel_rfl, by kernel_rfl⟩
def s54 : SCode := (.seq (.region [opW 2 (.bool false)]) (.seq (.seq (.region [opM 4 0,⟨some 5,.len true (sT 4),none⟩,opC 6 158 [.tmp 5, .val (.int .i64 1), .val (.int .i64 40)],⟨some 7,.un .not (sT 6),none⟩,opM 8 7,opG 9 0 8 false,⟨some 10,.sidx (sT 9) (.val (.int .i64 0)), (some (8, false))⟩,⟨some 11,.call (.val (.clos 159 [] [])) [.val (.str ⟨#[97, 98, 99, 100, 101, 102, 103, 104, 105, 106, 107, 108, 109, 110, 111, 112, 113, 114, 115, 116, 117, 118, 119, 120, 121, 122]⟩), .tmp 10], (some (8, false))⟩,⟨some 12,.bin .lss (sT 11) (.val (.int .i64 0)), (some (8, false))⟩,⟨some 13,.pick (sT 8) (.val (.bool true)) (sT 12),none⟩,opM 14 13,⟨some 15,.buildF 1 [.val (.str ⟨#[112, 114, 111, 99]⟩), .val (.str ⟨#[109, 97, 105, 110]⟩), .val (.str ⟨#[105, 102]⟩), .val (.str ⟨#[101, 108, 115, 101]⟩)], (some (14, false))⟩,opG 16 0 14 false,⟨some 17,.call (.val (.clos 51 [] [])) [.tmp 15, .tmp 16], (some (14, false))⟩,⟨some 18,.pick (sT 14) (.val (.bool true)) (sT 17),none⟩]) (.cond (sT 18) (.seq (.region [opW 2 (.bool false)])
 .ret) .skip)) (.seq (.seq (.region [opM 19 0,⟨some 20,.len true (sT 19),none⟩,opW 21 (.int .i64 0)]) (.block 0 (.loop (.seq (.region [opB 22 .lss 21 20]) (.seq (.cond (sT 22) .skip (.exit 0)) (.seq (.block 1 (.seq (.region [opM 23 21,opM 3 23]) (.seq (.region [opM 24 0,opM 25 3,⟨some 26,.sidx (sT 24) (sT 25),none⟩,⟨some 27,.call (.val (.clos 159 [] [])) [.val (.str ⟨#[97, 98, 99, 100, 101, 102, 103, 104, 105, 106, 107, 108, 109, 110, 111, 112, 113, 114, 115, 116, 117, 118, 119, 120, 121, 122, 48, 49, 50, 51, 52, 53, 54, 55, 56, 57, 95]⟩), .tmp 26],none⟩,opY 28 .lss 27 (.int .i64 0)]) (.cond (sT 28) (.seq (.region [opW 2 (.bool false)])
 .ret) .skip)))) (.region [opY 29 .add 21 (.int .i64 1),opM 21 29]))))))) (.seq (.region [opW 2 (.bool true)])
 .ret))))
def r54 : List SRes := [.tmp 2]
theorem c54 : Code1 Tryz.prog 82 s54 r54 30 := ⟨⟨Tryz.f82, _, Tryz.func82, rfl, rfl, by kernel_rfl, by kernel_rfl⟩, by kernel_rfl, by kernel_rfl⟩
def s55 : SCode := (.seq (.region [opW 6 (.int .i64 0)]) (.seq (.seq (.region [opM 12 0,opE 13 12,opW 14 (.int .i64 0)]) (.block 0 (.loop (.seq (.region [opB 15 .lss 14 13]) (.seq (.cond (sT 15) .skip (.exit 0)) (.seq (.block 1 (.seq (.region [opI 16 13 12 14,opN 17 13 16,⟨some 8,.alloc (.agg [.int .i64 0, .str ⟨#[]⟩, .str ⟨#[]⟩, .str ⟨#[]⟩, .str ⟨#[]⟩, .int .i64 0, .int .i64 0, .str ⟨#[]⟩, .nils, .nils, .nils, .str ⟨#[]⟩, .nils]),none⟩,⟨none, .store 13 (sT 8) (sT 17),none⟩]) (.seq (.region [opM 18 2,⟨some 19,.nilc (sT 18),none⟩,opL 20 19,opY 21 .add 20 (.int .i64 1),⟨some 22,.nilc (sT 18),none⟩,⟨none, .store 1 (sT 22) (sT 21),none⟩]) (.seq (.seq (.region [opN 23 13 8,opM 24 1,opC 25 181 [.tmp 23, .tmp 24],opM 9 25]) (.seq (.region [opM 26 9,opY 27 .neq 26 (.int .i64 0)]) (.cond (sT 27) (.seq (.region [opM 28 9,opM 6 28])
 .ret) .skip))) (.seq (.seq (.region [opF 29 9 8,opL 30 29,opM 31 1,opY 32 .add 31 (.int .i64 1),opM 33 2,opC 34 126 [.tmp 30, .tmp 32, .tmp 33],⟨some 35,.buildF 1 [.tmp 34, .val (.int .i64 0)],none⟩,opC 36 182 [.tmp 35],opM 10 36]) (.seq (.region [opM 37 10,opY 38 .neq 37 (.int .i64 0)]) (.cond (sT 38) (.seq (.region [opM 39 10,opM 6 39])
 .ret) .skip))) (.seq (.region [opF 40 10 8,opL 41 40,opM 42 1,opY 43 .add 42 (.int .i64 1),opM 44 2,opC 45 126 [.tmp 41, .tmp 43, .tmp 44],opM 11 45]) (.seq (.region [opM 46 11,opY 47 .neq 46 (.int .i64 0)]) (.cond (sT 47) (.seq (.region [opM 48 11,opM 6 48])
 .ret) .skip)))))))) (.region [opY 49 .add 14 (.int .i64 1),opM 14 49]))))))) (.seq (.region [opW 6 (.int .i64 0)])
 .ret)))
def r55 : List SRes := [.tmp 6]
theorem c55 : Code1 Tryz.prog 126 s55 r55 50 := ⟨⟨Tryz.f126, _, Tryz.func126, rfl, rfl, by kernel_rfl, by kernel_rfl⟩, by kernel_rfl, by kernel_rfl⟩
def s56 : SCode := (.seq (.region [opM 11 0,opE 12 11,opW 13 (.int .i64 0)]) (.block 0 (.loop (.seq (.region [opB 14 .lss 13 12]) (.seq (.cond (sT 14) .skip (.exit 0)) (.seq (.block 1 (.seq (.region [opM 15 13,opI 16 13 11 13,opN 17 13 16,⟨some 9,.alloc (.agg [.int .i64 0, .str ⟨#[]⟩, .str ⟨#[]⟩, .str ⟨#[]⟩, .str ⟨#[]⟩, .int .i64 0, .int .i64 0, .str ⟨#[]⟩, .nils, .nils, .nils, .str ⟨#[]⟩, .nils]),none⟩,opM 8 15,⟨none, .store 13 (sT 9) (sT 17),none⟩]) (.seq (.region [opM 18 2,opM 19 18,opG 20 8 19 true,opG 21 0 19 true,⟨some 22,.len false (sT 21), (some (19, true))⟩,⟨some 23,.bin .sub (sT 22) (.val (.int .i64 1)), (some (19, true))⟩,⟨some 24,.bin .eql (sT 20) (sT 23), (some (19, true))⟩,⟨some 25,.pick (sT 19) (sT 24) (.val (.bool false)),none⟩,opM 10 25]) (.seq (.region [opL 26 3,opN 27 13 9,opM 28 1,opM 29 10,⟨some 30,.build [.int .i64 0, .str ⟨#[]⟩, .str ⟨#[]⟩, .str ⟨#[]⟩, .str ⟨#[]⟩, .int .i64 0, .int .i64 0, .str ⟨#[]⟩, .nils, .nils, .nils, .str ⟨#[]⟩, .nils, .int .i64 0, .bool false] [(0, 13, .tmp 27), (13, 1, .tmp 28), (14, 1, .tmp 29)],none⟩,⟨some 31,.buildF 15 [.tmp 30],none⟩,⟨some 32,.append 15 232 (sT 26) (sT 31),none⟩,⟨none, .store 1 (sT 3) (sT 32),none⟩]) (.seq (.region [opL 33 4,opF 34 9 9,opL 35 34,opM 36 1,opM 37 10,⟨some 38,.call (sT 33) [.tmp 35, .tmp 36, .tmp 37],none⟩]) (.region [opL 39 4,opF 40 10 9,opL 41 40,opM 42 1,opM 43 10,⟨some 44,.call (sT 39) [.tmp 41, .tmp 42, .tmp 43],none⟩])))))) (.region [opY 45 .add 13 (.int .i64 1),opM 13 45])))))))
def r56 : List SRes := []
theorem c56 : Code1 Tryz.prog 127 s56 r56 46 := ⟨⟨Tryz.f127, _, Tryz.func127, rfl, rfl, by kernel_rfl, by kernel_rfl⟩, by kernel_rfl, by kernel_rfl⟩
def s57 : SCode := (.seq (.region [opW 4 (.int .i64 0)]) (.seq (.seq (.region [opM 6 0,opE 7 6,opW 8 (.int .i64 0)]) (.block 0 (.loop (.seq (.region [opB 9 .lss 8 7]) (.seq (.cond (sT 9) .skip (.exit 0)) (.seq (.block 1 (.seq (.region [opM 10 8,opM 5 10]) (.seq (.region [opM 11 1,opM 12 0,opM 13 5,opI 14 1 12 13,opL 15 14,⟨some 16,.call (sT 11) [.tmp 15],none⟩]) (.cond (sT 16) (.seq (.region [opM 17 5,opM 4 17])
 .ret) .skip)))) (.region [opY 18 .add 8 (.int .i64 1),opM 8 18]))))))) (.seq (.region [opW 4 (.int .i64 (-1))])
 .ret)))
def r57 : List SRes := [.tmp 4]
theorem c57 : Code1 Tryz.prog 128 s57 r57 19 := ⟨⟨Tryz.f128, _, Tryz.func128, rfl, rfl, by kernel_rfl, by kernel_rfl⟩, by kernel_rfl, by kernel_rfl⟩
def s58 : SCode := (.seq (.region [opW 4 (.int .i64 0)]) (.seq (.seq (.region [opM 6 0,opE 7 6,opW 8 (.int .i64 0)]) (.block 0 (.loop (.seq (.region [opB 9 .lss 8 7]) (.seq (.cond (sT 9) .skip (.exit 0)) (.seq (.block 1 (.seq (.region [opM 10 8,opM 5 10]) (.seq (.region [opM 11 1,opM 12 0,opM 13 5,opI 14 1 12 13,opL 15 14,opB 16 .eql 11 15]) (.cond (sT 16) (.seq (.region [opM 17 5,opM 4 17])
 .ret) .skip)))) (.region [opY 18 .add 8 (.int .i64 1),opM 8 18]))))))) (.seq (.region [opW 4 (.int .i64 (-1))])
 .ret)))
def r58 : List SRes := [.tmp 4]
theorem c58 : Code1 Tryz.prog 124 s58 r58 19 := ⟨⟨Tryz.f124, _, Tryz.func124, rfl, rfl, by kernel_rfl, by kernel_rfl⟩, by kernel_rfl, by kernel_rfl⟩
def s59 : SCode := (.seq (.region [opW 4 (.int .i64 0)]) (.seq (.seq (.region [opM 6 0,opE 7 6,opW 8 (.int .i64 0)]) (.block 0 (.loop (.seq (.region [opB 9 .lss 8 7]) (.seq (.cond (sT 9) .skip (.exit 0)) (.seq (.block 1 (.seq (.region [opM 10 8,opM 5 10]) (.seq (.region [opM 11 1,opM 12 0,opM 13 5,opI 14 3 12 13,opN 15 3 14,⟨some 16,.call (sT 11) [.tmp 15],none⟩]) (.cond (sT 16) (.seq (.region [opM 17 5,opM 4 17])
 .ret) .skip)))) (.region [opY 18 .add 8 (.int .i64 1),opM 8 18]))))))) (.seq (.region [opW 4 (.int .i64 (-1))])
 .ret)))
def r59 : List SRes := [.tmp 4]
theorem c59 : Code1 Tryz.prog 129 s59 r59 19 := ⟨⟨Tryz.f129, _, Tryz.func129, rfl, rfl, by kernel_rfl, by kernel_rfl⟩, by kernel_rfl, by kernel_rfl⟩
def s60 : SCode := (.seq (.region [⟨some 2,.box (sT 0),none⟩,opW 3 (.bool false)]) (.seq (.region [opF 4 0 2,opL 5 4,opL 6 1,opB 7 .eql 5 6,opM 3 7])
 .ret))
def r60 : List SRes := [.tmp 3]
theorem c60 : Code1 Tryz.prog 130 s60 r60 8 := ⟨⟨Tryz.f130, _, Tryz.func130, rfl, rfl, by kernel_rfl, by kernel_rfl⟩, by kernel_rfl, by kernel_rfl⟩
def s61 : SCode := (.seq (.region [opW 4 (.int .i64 0)]) (.seq (.region [opM 8 0,opM 9 1,opI 10 3 8 9,opN 11 3 10,⟨some 5,.alloc (.agg [.str ⟨#[]⟩, .nils, .nils]),none⟩,⟨none, .store 3 (sT 5) (sT 11),none⟩]) (.seq (.block 0 (.seq (.region [opF 13 0 5,opL 14 13,opC 15 145 [.tmp 14],⟨some 16,.un .not (sT 15),none⟩,opM 12 16]) (.cond (sT 12) (.seq (.region [opW 4 (.int .i64 5)])
 .ret) (.seq (.region [opM 18 0,opM 19 1,⟨some 20,.slice 3 (sT 18) none (some (sT 19)),none⟩,⟨some 21,.mkfn 189 [] [.tmp 5],none⟩,opC 22 188 [.tmp 20, .tmp 21],opM 17 22]) (.cond (sT 17) (.seq (.region [opW 4 (.int .i64 6)])
 .ret) (.seq (.region [opF 24 1 5,opL 25 24,opE 26 25,opY 27 .eql 26 (.int .i64 0),opM 23 27]) (.cond (sT 23) (.seq (.region [opW 4 (.int .i64 8)])
 .ret) (.seq (.region [opF 29 1 5,opL 30 29,opE 31 30,opY 32 .gtr 31 (.int .i64 12),opM 28 32]) (.cond (sT 28) (.seq (.region [opW 4 (.int .i64 2)])
 .ret) .skip))))))))) (.seq (.seq (.region [opF 33 1 5,opL 34 33,opE 35 34,opW 36 (.int .i64 0)]) (.block 1 (.loop (.seq (.region [opB 37 .lss 36 35]) (.seq (.cond (sT 37) .skip (.exit 1)) (.seq (.block 2 (.seq (.region [opM 38 36,opI 39 1 34 36,opL 40 39,opM 6 38,opM 7 40]) (.seq (.seq (.region [opM 41 7,opC 42 145 [.tmp 41],⟨some 43,.un .not (sT 42),none⟩]) (.cond (sT 43) (.seq (.region [opW 4 (.int .i64 5)])
 .ret) .skip)) (.seq (.region [opF 44 1 5,opL 45 44,opM 46 6,⟨some 47,.slice 1 (sT 45) none (some (sT 46)),none⟩,opM 48 7,opC 49 51 [.tmp 47, .tmp 48]]) (.cond (sT 49) (.seq (.region [opW 4 (.int .i64 6)])
 .ret) .skip))))) (.region [opY 50 .add 36 (.int .i64 1),opM 36 50]))))))) (.seq (.region [opF 51 2 5,opL 52 51,opC 53 142 [.tmp 52, .val (.int .i64 1)],opM 4 53])
 .ret)))))
def r61 : List SRes := [.tmp 4]
theorem c61 : Code1 Tryz.prog 141 s61 r61 54 := ⟨⟨Tryz.f141, _, Tryz.func141, rfl, rfl, by kernel_rfl, by kernel_rfl⟩, by kernel_rfl, by kernel_rfl⟩
def s62 : SCode := (.seq (.region [opW 4 (.int .i64 0)]) (.seq (.seq (.region [opM 10 0,opE 11 10,opW 12 (.int .i64 0)]) (.block 0 (.loop (.seq (.region [opB 13 .lss 12 11]) (.seq (.cond (sT 13) .skip (.exit 0)) (.seq (.block 1 (.seq (.region [opI 14 13 10 12,opN 15 13 14,⟨some 6,.alloc (.agg [.int .i64 0, .str ⟨#[]⟩, .str ⟨#[]⟩, .str ⟨#[]⟩, .str ⟨#[]⟩, .int .i64 0, .int .i64 0, .str ⟨#[]⟩, .nils, .nils, .nils, .str ⟨#[]⟩, .nils]),none⟩,⟨none, .store 13 (sT 6) (sT 15),none⟩]) (.seq (.seq (.region [opN 16 13 6,opM 17 1,opC 18 190 [.tmp 16, .tmp 17],opM 7 18]) (.seq (.region [opM 19 7,opY 20 .neq 19 (.int .i64 0)]) (.cond (sT 20) (.seq (.region [opM 21 7,opM 4 21])
 .ret) .skip))) (.seq (.seq (.region [opF 22 9 6,opL 23 22,opM 24 1,opY 25 .add 24 (.int .i64 1),opC 26 142 [.tmp 23, .tmp 25],opM 8 26]) (.seq (.region [opM 27 8,opY 28 .neq 27 (.int .i64 0)]) (.cond (sT 28) (.seq (.region [opM 29 8,opM 4 29])
 .ret) .skip))) (.seq (.region [opF 30 10 6,opL 31 30,opM 32 1,opY 33 .add 32 (.int .i64 1),opC 34 142 [.tmp 31, .tmp 33],opM 9 34]) (.seq (.region [opM 35 9,opY 36 .neq 35 (.int .i64 0)]) (.cond (sT 36) (.seq (.region [opM 37 9,opM 4 37])
 .ret) .skip))))))) (.region [opY 38 .add 12 (.int .i64 1),opM 12 38]))))))) (.seq (.region [opW 4 (.int .i64 0)])
 .ret)))
def r62 : List SRes := [.tmp 4]
theorem c62 : Code1 Tryz.prog 142 s62 r62 39 := ⟨⟨Tryz.f142, _, Tryz.func142, rfl, rfl, by kernel_rfl, by kernel_rfl⟩, by kernel_rfl, by kernel_rfl⟩
def s63 : SCode := (.seq (.region [⟨some 1,.box (sT 0),none⟩,opW 2 (.nils)]) (.seq (.seq (.region [opF 3 0 1,opL 4 3]) (.block 0 (.seq (.region [opY 6 .eql 4 (.int .i64 5),opM 5 6]) (.cond (sT 5) (.seq (.region [opF 7 12 1,opL 8 7,opM 2 8])
 .ret) (.seq (.seq (.region [opY 10 .eql 4 (.int .i64 1),opM 9 10]) (.cond (sT 9) .skip (.region [opY 11 .eql 4 (.int .i64 2),opM 9 11]))) (.cond (sT 9) (.seq (.region [opF 12 1 1,opL 13 12,opF 14 2 1,opL 15 14,⟨some 16,.buildF 1 [.tmp 13, .tmp 15],none⟩,opM 2 16])
 .ret) .skip)))))) (.seq (.region [opF 17 1 1,opL 18 17,⟨some 19,.buildF 1 [.tmp 18],none⟩,opM 2 19])
 .ret)))
def r63 : List SRes := [.tmp 2]
theorem c63 : Code1 Tryz.prog 125 s63 r63 20 := ⟨⟨Tryz.f125, _, Tryz.func125, rfl, rfl, by kernel_rfl, by kernel_rfl⟩, by kernel_rfl, by kernel_rfl⟩
def s64 : SCode := (.seq (.region [opW 4 (.bool false)]) (.seq (.region [opF 5 0 1,opL 6 5,opL 7 2,opI 8 3 6 7,opF 9 1 8,opL 10 9,opM 11 0,opC 12 51 [.tmp 10, .tmp 11],⟨some 13,.un .not (sT 12),none⟩,opM 4 13])
 .ret))
def r64 : List SRes := [.tmp 4]
theorem c64 : Code1 Tryz.prog 191 s64 r64 14 := ⟨⟨Tryz.f191, _, Tryz.func191, rfl, rfl, by kernel_rfl, by kernel_rfl⟩, by kernel_rfl, by kernel_rfl⟩
def s65 : SCode := (.seq (.region [⟨some 2,.box (sT 0),none⟩,⟨some 3,.box (sT 1),none⟩,opW 4 (.int .i64 0)]) (.seq (.region [opF 5 0 2,opL 6 5,⟨some 7,.mkfn 249 [] [.tmp 3],none⟩,opC 8 129 [.tmp 6, .tmp 7],opM 4 8])
 .ret))
def r65 : List SRes := [.tmp 4]
theorem c65 : Code1 Tryz.prog 192 s65 r65 9 := ⟨⟨Tryz.f192, _, Tryz.func192, rfl, rfl, by kernel_rfl, by kernel_rfl⟩, by kernel_rfl, by kernel_rfl⟩
def s69 : SCode := (.seq (.region [opW 4 (.int .i64 0)]) (.seq (.region [opM 5 0,opM 6 1,opC 7 196 [.tmp 5, .tmp 6],opM 4 7])
 .ret))
def r69 : List SRes := [.tmp 4]
theorem c69 : Code1 Tryz.prog 159 s69 r69 8 := ⟨⟨Tryz.f159, _, Tryz.func159, rfl, rfl, by kernel_rfl, by kernel_rfl⟩, by kernel_rfl, by kernel_rfl⟩
def s70 : SCode := (.seq (.region [⟨some 2,.box (sT 0),none⟩,opW 4 (.int .i64 0)]) (.seq (.seq (.region [opM 12 1,opY 13 .gtr 12 (.int .i64 20)]) (.cond (sT 13) (.seq (.region [opW 4 (.int .i64 2)])
 .ret) .skip)) (.seq (.seq (.region [opF 14 0 2,opL 15 14,opC 16 158 [.tmp 15, .val (.int .i64 1), .val (.int .i64 5)],⟨some 17,.un .not (sT 16),none⟩]) (.cond (sT 17) (.seq (.region [opW 4 (.int .i64 4)])
 .ret) .skip)) (.seq (.region [opF 18 0 2,opL 19 18,⟨some 5,.alloc (.int .i64 0),none⟩,⟨none, .store 1 (sT 5) (sT 19),none⟩]) (.seq (.region [⟨some 20,.mkfn 236 [] [.tmp 5],none⟩,opM 6 20]) (.seq (.region [⟨some 7,.alloc (.bool false),none⟩,⟨none, .store 1 (sT 7) (.val (.bool true)),none⟩]) (.seq (.region [⟨some 8,.alloc (.nils),none⟩]) (.seq (.region [⟨some 21,.mkfn 238 [] [.tmp 8, .tmp 7],none⟩,opM 9 21]) (.seq (.qregion [⟨opM 22 9, false, 0, 1, 0⟩,⟨opM 23 6, false, 0, 0, 0⟩,⟨⟨some 24,.buildF 1 [.val (.int .i64 1), .val (.int .i64 2), .val (.int .i64 3), .val (.int .i64 4)],none⟩, false, 0, 0, 0⟩,⟨⟨some 25,.call (sT 23) [.tmp 24],none⟩, true, 0, 0, 6⟩,⟨opF 26 1 2, false, 0, 1, 0⟩,⟨opL 27 26, false, 0, 1, 16⟩,⟨⟨some 28,.call (sT 22) [.tmp 25, .tmp 27],none⟩, true, 0, 0, 63⟩]) (.seq (.qregion [⟨opM 29 9, false, 0, 1, 0⟩,⟨opM 30 6, false, 0, 0, 0⟩,⟨⟨some 31,.buildF 1 [.val (.int .i64 1), .val (.int .i64 2)],none⟩, false, 0, 0, 0⟩,⟨⟨some 32,.call (sT 30) [.tmp 31],none⟩, true, 0, 0, 6⟩,⟨opF 33 2 2, false, 0, 1, 0⟩,⟨opL 34 33, false, 0, 1, 16⟩,⟨⟨some 35,.call (sT 29) [.tmp 32, .tmp 34],none⟩, true, 0, 0, 63⟩]) (.seq (.qregion [⟨opM 36 9, false, 0, 1, 0⟩,⟨opM 37 6, false, 0, 0, 0⟩,⟨⟨some 38,.buildF 1 [.val (.int .i64 1), .val (.int .i64 3)],none⟩, false, 0, 0, 0⟩,⟨⟨some 39,.call (sT 37) [.tmp 38],none⟩, true, 0, 0, 6⟩,⟨opF 40 3 2, false, 0, 1, 0⟩,⟨opL 41 40, false, 0, 1, 16⟩,⟨⟨some 42,.call (sT 36) [.tmp 39, .tmp 41],none⟩, true, 0, 0, 63⟩]) (.seq (.qregion [⟨opM 43 9, false, 0, 1, 0⟩,⟨opM 44 6, false, 0, 0, 0⟩,⟨⟨some 45,.buildF 1 [.val (.int .i64 2)],none⟩, false, 0, 0, 0⟩,⟨⟨some 46,.call (sT 44) [.tmp 45],none⟩, true, 0, 0, 6⟩,⟨opF 47 4 2, false, 0, 1, 0⟩,⟨opL 48 47, false, 0, 1, 16⟩,⟨⟨some 49,.call (sT 43) [.tmp 46, .tmp 48],none⟩, true, 0, 0, 63⟩]) (.seq (.qregion [⟨opM 50 9, false, 0, 1, 0⟩,⟨opM 51 6, false, 0, 0, 0⟩,⟨⟨some 52,.buildF 1 [.val (.int .i64 5)],none⟩, false, 0, 0, 0⟩,⟨⟨some 53,.call (sT 51) [.tmp 52],none⟩, true, 0, 0, 6⟩,⟨opF 54 11 2, false, 0, 1, 0⟩,⟨opL 55 54, false, 0, 1, 16⟩,⟨⟨some 56,.call (sT 50) [.tmp 53, .tmp 55],none⟩, true, 0, 0, 63⟩]) (.seq (.region [opM 57 6,⟨some 58,.buildF 1 [.val (.int .i64 1), .val (.int .i64 3), .val (.int .i64 4)],none⟩,⟨some 59,.call (sT 57) [.tmp 58],none⟩,opM 10 59]) (.seq (.region [opL 60 7,opM 61 60,opG 62 10 61 true,opG 63 62 61 true,opK 64 5 2 63 false,⟨some 65,.load true 4 (sT 64), (some (63, false))⟩,⟨some 66,.call (.val (.clos 239 [] [])) [.tmp 65], (some (63, false))⟩,⟨some 67,.pick (sT 63) (.val (.bool true)) (sT 66), (some (61, true))⟩,⟨some 68,.pick (sT 61) (sT 67) (.val (.bool false)),none⟩,opM 69 68,opH 70 5 69 true,⟨some 71,.bin .eql (sT 70) (.val (.int .i64 4)), (some (69, true))⟩,opG 72 71 69 true,opK 73 9 2 72 false,opH 74 73 72 false,⟨some 75,.len false (sT 74), (some (72, false))⟩,⟨some 76,.bin .eql (sT 75) (.val (.int .i64 0)), (some (72, false))⟩,opG 77 76 72 false,opK 78 10 2 77 true,opH 79 78 77 true,⟨some 80,.len false (sT 79), (some (77, true))⟩,⟨some 81,.bin .eql (sT 80) (.val (.int .i64 0)), (some (77, true))⟩,⟨some 82,.pick (sT 77) (sT 81) (.val (.bool false)), (some (72, false))⟩,⟨some 83,.pick (sT 72) (.val (.bool true)) (sT 82), (some (69, true))⟩,⟨some 84,.pick (sT 69) (sT 83) (.val (.bool false)),none⟩,opM 85 84,opH 86 5 85 true,⟨some 87,.bin .eql (sT 86) (.val (.int .i64 5)), (some (85, true))⟩,opG 88 87 85 true,opK 89 12 2 88 false,opH 90 89 88 false,⟨some 91,.len false (sT 90), (some (88, false))⟩,⟨some 92,.bin .eql (sT 91) (.val (.int .i64 0)), (some (88, false))⟩,⟨some 93,.pick (sT 88) (.val (.bool true)) (sT 92), (some (85, true))⟩,⟨some 94,.pick (sT 85) (sT 93) (.val (.bool false)),none⟩,⟨none, .store 1 (sT 7) (sT 94),none⟩]) (.seq (.seq (.region [opL 95 7,⟨some 96,.un .not (sT 95),none⟩]) (.cond (sT 96) (.seq (.region [opW 4 (.int .i64 3)])
 .ret) .skip)) (.seq (.seq (.region [opL 97 8,opC 98 240 [.tmp 97],opM 11 98]) (.seq (.region [opM 99 11,opY 100 .neq 99 (.int .i64 0)]) (.cond (sT 100) (.seq (.region [opM 101 11,opM 4 101])
 .ret) .skip))) (.seq (.seq (.region [opM 102 10]) (.cond (sT 102) (.seq (.region [opF 103 5 2,opN 104 4 103,opC 105 241 [.tmp 104],opM 4 105])
 .ret) .skip)) (.seq (.seq (.region [opL 106 5,opY 107 .eql 106 (.int .i64 5)]) (.cond (sT 107) (.seq (.block 0 (.seq (.region [opF 109 12 2,opL 110 109,opE 111 110,opY 112 .eql 111 (.int .i64 0),opM 108 112]) (.cond (sT 108) (.seq (.region [opW 4 (.int .i64 8)])
 .ret) (.seq (.region [opF 114 12 2,opL 115 114,opE 116 115,opY 117 .gtr 116 (.int .i64 12),opM 113 117]) (.cond (sT 113) (.seq (.region [opW 4 (.int .i64 2)])
 .ret) .skip))))) (.seq (.region [opF 118 12 2,opL 119 118,opC 120 240 [.tmp 119],opM 4 120])
 .ret)) .skip)) (.seq (.region [opW 4 (.int .i64 0)])
 .ret))))))))))))))))))))
def r70 : List SRes := [.tmp 4]
theorem c70 : Code1 Tryz.prog 181 s70 r70 121 := ⟨⟨Tryz.f181, _, Tryz.func181, rfl, rfl, by kernel_rfl, by kernel_rfl⟩, by kernel_rfl, by kernel_rfl⟩
def s71 : SCode := (.seq (.region [opW 2 (.int .i64 0)]) (.seq (.seq (.region [opM 5 0,opE 6 5,opW 7 (.int .i64 0)]) (.block 0 (.loop (.seq (.region [opB 8 .lss 7 6]) (.seq (.cond (sT 8) .skip (.exit 0)) (.seq (.block 1 (.seq (.region [opI 9 1 5 7,opL 10 9,opM 4 10]) (.seq (.region [opM 11 4,opY 12 .neq 11 (.int .i64 0)]) (.cond (sT 12) (.seq (.region [opM 13 4,opM 2 13])
 .ret) .skip)))) (.region [opY 14 .add 7 (.int .i64 1),opM 7 14]))))))) (.seq (.region [opW 2 (.int .i64 0)])
 .ret)))
def r71 : List SRes := [.tmp 2]
theorem c71 : Code1 Tryz.prog 182 s71 r71 15 := ⟨⟨Tryz.f182, _, Tryz.func182, rfl, rfl, by kernel_rfl, by kernel_rfl⟩, by kernel_rfl, by kernel_rfl⟩
def s72 : SCode := (.seq (.region [opW 2 (.bool false)]) (.seq (.region [opM 3 0,opY 4 .neq 3 (.str ⟨#[]⟩),opM 5 4,opG 6 0 5 true,⟨some 7,.len true (sT 6), (some (5, true))⟩,⟨some 8,.bin .leq (sT 7) (.val (.int .i64 40)), (some (5, true))⟩,⟨some 9,.pick (sT 5) (sT 8) (.val (.bool false)),none⟩,opM 10 9,opG 11 0 10 true,⟨some 12,.call (.val (.clos 193 [] [])) [.tmp 11], (some (10, true))⟩,⟨some 13,.un .not (sT 12), (some (10, true))⟩,⟨some 14,.pick (sT 10) (sT 13) (.val (.bool false)),none⟩,opM 15 14,opG 16 0 15 true,⟨some 17,.sidx (sT 16) (.val (.int .i64 0)), (some (15, true))⟩,⟨some 18,.call (.val (.clos 159 [] [])) [.val (.str ⟨#[97, 98, 99, 100, 101, 102, 103, 104, 105, 106, 107, 108, 109, 110, 111, 112, 113, 114, 115, 116, 117, 118, 119, 120, 121, 122]⟩), .tmp 17], (some (15, true))⟩,⟨some 19,.bin .geq (sT 18) (.val (.int .i64 0)), (some (15, true))⟩,⟨some 20,.pick (sT 15) (sT 19) (.val (.bool false)),none⟩,opM 21 20,opG 22 0 21 true,⟨some 23,.call (.val (.clos 194 [] [])) [.tmp 22, .val (.str ⟨#[97, 98, 99, 100, 101, 102, 103, 104, 105, 106, 107, 108, 109, 110, 111, 112, 113, 114, 115, 116, 117, 118, 119, 120, 121, 122, 48, 49, 50, 51, 52, 53, 54, 55, 56, 57, 95]⟩)], (some (21, true))⟩,⟨some 24,.bin .eql (sT 23) (.val (.str ⟨#[]⟩)), (some (21, true))⟩,⟨some 25,.pick (sT 21) (sT 24) (.val (.bool false)),none⟩,opM 2 25])
 .ret))
def r72 : List SRes := [.tmp 2]
theorem c72 : Code1 Tryz.prog 145 s72 r72 26 := ⟨⟨Tryz.f145, _, Tryz.func145, rfl, rfl, by kernel_rfl, by kernel_rfl⟩, by kernel_rfl, by kernel_rfl⟩
def s73 : SCode := (.seq (.region [opW 4 (.bool false)]) (.seq (.region [opM 5 0,opM 6 1,opC 7 129 [.tmp 5, .tmp 6],opY 8 .geq 7 (.int .i64 0),opM 4 8])
 .ret))
def r73 : List SRes := [.tmp 4]
theorem c73 : Code1 Tryz.prog 188 s73 r73 9 := ⟨⟨Tryz.f188, _, Tryz.func188, rfl, rfl, by kernel_rfl, by kernel_rfl⟩, by kernel_rfl, by kernel_rfl⟩
def s74 : SCode := (.seq (.region [⟨some 2,.box (sT 0),none⟩,opW 3 (.bool false)]) (.seq (.region [opF 4 0 2,opL 5 4,opF 6 0 1,opL 7 6,opB 8 .eql 5 7,opM 3 8])
 .ret))
def r74 : List SRes := [.tmp 3]
theorem c74 : Code1 Tryz.prog 189 s74 r74 9 := ⟨⟨Tryz.f189, _, Tryz.func189, rfl, rfl, by kernel_rfl, by kernel_rfl⟩, by kernel_rfl, by kernel_rfl⟩
def s75 : SCode := (.seq (.region [⟨some 2,.box (sT 0),none⟩,opW 4 (.int .i64 0)]) (.seq (.seq (.region [opM 8 1,opY 9 .gtr 8 (.int .i64 20)]) (.cond (sT 9) (.seq (.region [opW 4 (.int .i64 2)])
 .ret) .skip)) (.seq (.seq (.region [opF 10 0 2,opL 11 10,opC 12 243 [.tmp 11, .val (.int .i64 1), .val (.int .i64 5)]]) (.cond (sT 12) (.seq (.region [opW 4 (.int .i64 4)])
 .ret) .skip)) (.seq (.seq (.region [opN 13 13 2,opC 14 244 [.tmp 13],opM 5 14]) (.seq (.region [opM 15 5,opY 16 .neq 15 (.int .i64 0)]) (.cond (sT 16) (.seq (.region [opM 17 5,opM 4 17])
 .ret) .skip))) (.seq (.seq (.region [opN 18 13 2,opC 19 245 [.tmp 18],opM 6 19]) (.seq (.region [opM 20 6,opY 21 .neq 20 (.int .i64 0)]) (.cond (sT 21) (.seq (.region [opM 22 6,opM 4 22])
 .ret) .skip))) (.seq (.seq (.region [opF 23 0 2,opL 24 23,opC 25 246 [.tmp 24],⟨some 26,.field false 4 1 (sT 25),none⟩]) (.cond (sT 26) (.seq (.region [opF 27 5 2,opN 28 4 27,opC 29 247 [.tmp 28],opM 7 29]) (.seq (.region [opM 30 7,opY 31 .neq 30 (.int .i64 0)]) (.cond (sT 31) (.seq (.region [opM 32 7,opM 4 32])
 .ret) .skip))) .skip)) (.seq (.region [opN 33 13 2,opC 34 248 [.tmp 33],opM 4 34])
 .ret)))))))
def r75 : List SRes := [.tmp 4]
theorem c75 : Code1 Tryz.prog 190 s75 r75 35 := ⟨⟨Tryz.f190, _, Tryz.func190, rfl, rfl, by kernel_rfl, by kernel_rfl⟩, by kernel_rfl, by kernel_rfl⟩
def s76 : SCode := (.seq (.region [⟨some 2,.box (sT 0),none⟩,opW 3 (.bool false)]) (.seq (.region [opF 4 0 2,opL 5 4,opL 6 1,opB 7 .eql 5 6,opM 3 7])
 .ret))
def r76 : List SRes := [.tmp 3]
theorem c76 : Code1 Tryz.prog 249 s76 r76 8 := ⟨⟨Tryz.f249, _, Tryz.func249, rfl, rfl, by kernel_rfl, by kernel_rfl⟩, by kernel_rfl, by kernel_rfl⟩
def s78 : SCode := (.seq (.region [opW 3 (.bool false)]) (.seq (.region [opM 4 0,opL 5 1,opC 6 237 [.tmp 4, .tmp 5],opM 3 6])
 .ret))
def r78 : List SRes := [.tmp 3]
theorem c78 : Code1 Tryz.prog 236 s78 r78 7 := ⟨⟨Tryz.f236, _, Tryz.func236, rfl, rfl, by kernel_rfl, by kernel_rfl⟩, by kernel_rfl, by kernel_rfl⟩
def s79 : SCode := (.seq (.region [opW 4 (.bool false)]) (.seq (.region [opM 5 0,opM 6 1,opC 7 59 [.tmp 5, .tmp 6],opY 8 .geq 7 (.int .i64 0),opM 4 8])
 .ret))
def r79 : List SRes := [.tmp 4]
theorem c79 : Code1 Tryz.prog 237 s79 r79 9 := ⟨⟨Tryz.f237, _, Tryz.func237, rfl, rfl, by kernel_rfl, by kernel_rfl⟩, by kernel_rfl, by kernel_rfl⟩
def s80 : SCode := (.seq (.region [opM 6 0]) (.cond (sT 6) (.region [opL 7 2,opM 8 1,⟨some 9,.buildF 1 [.tmp 8],none⟩,⟨some 10,.append 1 16 (sT 7) (sT 9),none⟩,⟨none, .store 1 (sT 2) (sT 10),none⟩]) (.region [opL 11 3,opM 12 11,opG 13 1 12 true,⟨some 14,.bin .eql (sT 13) (.val (.str ⟨#[]⟩)), (some (12, true))⟩,⟨some 15,.pick (sT 12) (sT 14) (.val (.bool false)),none⟩,⟨none, .store 1 (sT 3) (sT 15),none⟩])))
def r80 : List SRes := []
theorem c80 : Code1 Tryz.prog 238 s80 r80 16 := ⟨⟨Tryz.f238, _, Tryz.func238, rfl, rfl, by kernel_rfl, by kernel_rfl⟩, by kernel_rfl, by kernel_rfl⟩
def s81 : SCode := (.seq (.region [⟨some 1,.box (sT 0),none⟩,opW 2 (.bool false)]) (.seq (.region [opF 3 0 1,opL 4 3,opY 5 .eql 4 (.int .i64 0),opM 6 5,opK 7 1 1 6 true,opH 8 7 6 true,⟨some 9,.bin .eql (sT 8) (.val (.int .i64 0)), (some (6, true))⟩,⟨some 10,.pick (sT 6) (sT 9) (.val (.bool false)),none⟩,opM 11 10,opK 12 2 1 11 true,opH 13 12 11 true,⟨some 14,.bin .eql (sT 13) (.val (.str ⟨#[]⟩)), (some (11, true))⟩,⟨some 15,.pick (sT 11) (sT 14) (.val (.bool false)),none⟩,opM 16 15,opK 17 3 1 16 true,opH 18 17 16 true,⟨some 19,.len false (sT 18), (some (16, true))⟩,⟨some 20,.bin .eql (sT 19) (.val (.int .i64 0)), (some (16, true))⟩,⟨some 21,.pick (sT 16) (sT 20) (.val (.bool false)),none⟩,opM 2 21])
 .ret))
def r81 : List SRes := [.tmp 2]
theorem c81 : Code1 Tryz.prog 239 s81 r81 22 := ⟨⟨Tryz.f239, _, Tryz.func239, rfl, rfl, by kernel_rfl, by kernel_rfl⟩, by kernel_rfl, by kernel_rfl⟩
def s82 : SCode := (.seq (.region [opW 2 (.int .i64 0)]) (.seq (.seq (.region [opM 3 0,⟨some 4,.call (.val (.clos 48 [] [])) [.tmp 3, .val (.clos 271 [] [])],none⟩]) (.cond (sT 4) (.seq (.region [opW 2 (.int .i64 5)])
 .ret) .skip)) (.seq (.region [opW 2 (.int .i64 0)])
 .ret)))
def r82 : List SRes := [.tmp 2]
theorem c82 : Code1 Tryz.prog 240 s82 r82 5 := ⟨⟨Tryz.f240, _, Tryz.func240, rfl, rfl, by kernel_rfl, by kernel_rfl⟩, by kernel_rfl, by kernel_rfl⟩
def s83 : SCode := (.seq (.region [⟨some 1,.box (sT 0),none⟩,opW 2 (.int .i64 0)]) (.seq (.region [opN 3 4 1,opC 4 272 [.tmp 3, .val (.int .i64 1)],opM 2 4])
 .ret))
def r83 : List SRes := [.tmp 2]
theorem c83 : Code1 Tryz.prog 241 s83 r83 5 := ⟨⟨Tryz.f241, _, Tryz.func241, rfl, rfl, by kernel_rfl, by kernel_rfl⟩, by kernel_rfl, by kernel_rfl⟩
def s84 : SCode := (.seq (.region [opW 2 (.bool false)]) (.seq (.region [opM 3 0,opY 4 .eql 3 (.str ⟨#[112, 114, 111, 99]⟩),opM 5 4,opG 6 0 5 false,⟨some 7,.bin .eql (sT 6) (.val (.str ⟨#[109, 97, 105, 110]⟩)), (some (5, false))⟩,⟨some 8,.pick (sT 5) (.val (.bool true)) (sT 7),none⟩,opM 9 8,opG 10 0 9 false,⟨some 11,.bin .eql (sT 10) (.val (.str ⟨#[105, 102]⟩)), (some (9, false))⟩,⟨some 12,.pick (sT 9) (.val (.bool true)) (sT 11),none⟩,opM 13 12,opG 14 0 13 false,⟨some 15,.bin .eql (sT 14) (.val (.str ⟨#[101, 108, 115, 101]⟩)), (some (13, false))⟩,⟨some 16,.pick (sT 13) (.val (.bool true)) (sT 15),none⟩,opM 2 16])
 .ret))
def r84 : List SRes := [.tmp 2]
theorem c84 : Code1 Tryz.prog 193 s84 r84 17 := ⟨⟨Tryz.f193, _, Tryz.func193, rfl, rfl, by kernel_rfl, by kernel_rfl⟩, by kernel_rfl, by kernel_rfl⟩
def s86 : SCode := (.seq (.region [opW 6 (.bool false)]) (.seq (.region [opM 7 0,opM 8 1,opB 9 .lss 7 8,opM 10 9,opG 11 0 10 false,opG 12 2 10 false,⟨some 13,.bin .gtr (sT 11) (sT 12), (some (10, false))⟩,⟨some 14,.pick (sT 10) (.val (.bool true)) (sT 13),none⟩,opM 6 14])
 .ret))
def r86 : List SRes := [.tmp 6]
theorem c86 : Code1 Tryz.prog 243 s86 r86 15 := ⟨⟨Tryz.f243, _, Tryz.func243, rfl, rfl, by kernel_rfl, by kernel_rfl⟩, by kernel_rfl, by kernel_rfl⟩
def s87 : SCode := (.seq (.region [⟨some 1,.box (sT 0),none⟩,opW 2 (.int .i64 0)]) (.seq (.region [opF 4 0 1,opL 5 4,opC 6 246 [.tmp 5],⟨some 3,.alloc (.agg [.bool false, .bool false, .bool false, .bool false, .bool false, .bool false, .bool false]),none⟩,⟨none, .store 7 (sT 3) (sT 6),none⟩]) (.seq (.seq (.region [opF 7 0 3,opL 8 7,⟨some 9,.un .not (sT 8),none⟩,opM 10 9,opK 11 1 1 10 true,opH 12 11 10 true,⟨some 13,.bin .neq (sT 12) (.val (.str ⟨#[]⟩)), (some (10, true))⟩,⟨some 14,.pick (sT 10) (sT 13) (.val (.bool false)),none⟩,opM 15 14,opK 16 1 3 15 false,opH 17 16 15 false,⟨some 18,.un .not (sT 17), (some (15, false))⟩,opG 19 18 15 false,opK 20 2 1 19 true,opH 21 20 19 true,⟨some 22,.bin .neq (sT 21) (.val (.str ⟨#[]⟩)), (some (19, true))⟩,⟨some 23,.pick (sT 19) (sT 22) (.val (.bool false)), (some (15, false))⟩,⟨some 24,.pick (sT 15) (.val (.bool true)) (sT 23),none⟩,opM 25 24,opK 26 2 3 25 false,opH 27 26 25 false,⟨some 28,.un .not (sT 27), (some (25, false))⟩,opG 29 28 25 false,opK 30 3 1 29 true,opH 31 30 29 true,⟨some 32,.bin .neq (sT 31) (.val (.str ⟨#[]⟩)), (some (29, true))⟩,⟨some 33,.pick (sT 29) (sT 32) (.val (.bool false)), (some (25, false))⟩,⟨some 34,.pick (sT 25) (.val (.bool true)) (sT 33),none⟩,opM 35 34,opK 36 3 3 35 false,opH 37 36 35 false,⟨some 38,.un .not (sT 37), (some (35, false))⟩,opG 39 38 35 false,opK 40 4 1 39 true,opH 41 40 39 true,⟨some 42,.bin .neq (sT 41) (.val (.str ⟨#[]⟩)), (some (39, true))⟩,⟨some 43,.pick (sT 39) (sT 42) (.val (.bool false)), (some (35, false))⟩,⟨some 44,.pick (sT 35) (.val (.bool true)) (sT 43),none⟩]) (.cond (sT 44) (.seq (.region [opW 2 (.int .i64 3)])
 .ret) .skip)) (.seq (.seq (.region [opF 45 4 3,opL 46 45,⟨some 47,.un .not (sT 46),none⟩,opM 48 47,opK 49 5 1 48 true,⟨some 50,.load true 4 (sT 49), (some (48, true))⟩,⟨some 51,.build [.int .i64 0, .int .i64 0, .str ⟨#[]⟩, .nils] [], (some (48, true))⟩,⟨some 52,.call (.val (.clos 273 [] [])) [.tmp 50, .tmp 51], (some (48, true))⟩,⟨some 53,.un .not (sT 52), (some (48, true))⟩,⟨some 54,.pick (sT 48) (sT 53) (.val (.bool false)),none⟩,opM 55 54,opK 56 5 3 55 false,opH 57 56 55 false,⟨some 58,.un .not (sT 57), (some (55, false))⟩,opG 59 58 55 false,opK 60 9 1 59 true,opH 61 60 59 true,⟨some 62,.len false (sT 61), (some (59, true))⟩,opK 63 10 1 59 true,opH 64 63 59 true,⟨some 65,.len false (sT 64), (some (59, true))⟩,⟨some 66,.bin .add (sT 62) (sT 65), (some (59, true))⟩,⟨some 67,.bin .gtr (sT 66) (.val (.int .i64 0)), (some (59, true))⟩,⟨some 68,.pick (sT 59) (sT 67) (.val (.bool false)), (some (55, false))⟩,⟨some 69,.pick (sT 55) (.val (.bool true)) (sT 68),none⟩,opM 70 69,opK 71 6 3 70 false,opH 72 71 70 false,⟨some 73,.un .not (sT 72), (some (70, false))⟩,opG 74 73 70 false,opK 75 11 1 74 true,opH 76 75 74 true,⟨some 77,.bin .neq (sT 76) (.val (.str ⟨#[]⟩)), (some (74, true))⟩,opG 78 77 74 true,opK 79 12 1 78 false,opH 80 79 78 false,⟨some 81,.len false (sT 80), (some (78, false))⟩,⟨some 82,.bin .gtr (sT 81) (.val (.int .i64 0)), (some (78, false))⟩,⟨some 83,.pick (sT 78) (.val (.bool true)) (sT 82), (some (74, true))⟩,⟨some 84,.pick (sT 74) (sT 83) (.val (.bool false)), (some (70, false))⟩,⟨some 85,.pick (sT 70) (.val (.bool true)) (sT 84),none⟩]) (.cond (sT 85) (.seq (.region [opW 2 (.int .i64 3)])
 .ret) .skip)) (.seq (.region [opW 2 (.int .i64 0)])
 .ret)))))
def r87 : List SRes := [.tmp 2]
theorem c87 : Code1 Tryz.prog 244 s87 r87 86 := ⟨⟨Tryz.f244, _, Tryz.func244, rfl, rfl, by kernel_rfl, by kernel_rfl⟩, by kernel_rfl, by kernel_rfl⟩
def s88 : SCode := (.seq (.region [⟨some 1,.box (sT 0),none⟩,opW 2 (.int .i64 0)]) (.seq (.region [opF 5 0 1,opL 6 5,opC 7 246 [.tmp 6],⟨some 3,.alloc (.agg [.bool false, .bool false, .bool false, .bool false, .bool false, .bool false, .bool false]),none⟩,⟨none, .store 7 (sT 3) (sT 7),none⟩]) (.seq (.region [opW 4 (.clos 274 [] [])]) (.seq (.seq (.region [opM 8 4,opF 9 0 3,opL 10 9,opF 11 1 1,opL 12 11,⟨some 13,.call (sT 8) [.tmp 10, .tmp 12],none⟩,opM 14 13,opG 15 4 14 false,opK 16 1 3 14 false,opH 17 16 14 false,opK 18 2 1 14 false,opH 19 18 14 false,⟨some 20,.call (sT 15) [.tmp 17, .tmp 19], (some (14, false))⟩,⟨some 21,.pick (sT 14) (.val (.bool true)) (sT 20),none⟩,opM 22 21,opG 23 4 22 false,opK 24 2 3 22 false,opH 25 24 22 false,opK 26 3 1 22 false,opH 27 26 22 false,⟨some 28,.call (sT 23) [.tmp 25, .tmp 27], (some (22, false))⟩,⟨some 29,.pick (sT 22) (.val (.bool true)) (sT 28),none⟩,opM 30 29,opG 31 4 30 false,opK 32 3 3 30 false,opH 33 32 30 false,opK 34 4 1 30 false,opH 35 34 30 false,⟨some 36,.call (sT 31) [.tmp 33, .tmp 35], (some (30, false))⟩,⟨some 37,.pick (sT 30) (.val (.bool true)) (sT 36),none⟩,opM 38 37,opG 39 4 38 false,opK 40 6 3 38 false,opH 41 40 38 false,opK 42 11 1 38 false,opH 43 42 38 false,⟨some 44,.call (sT 39) [.tmp 41, .tmp 43], (some (38, false))⟩,⟨some 45,.pick (sT 38) (.val (.bool true)) (sT 44),none⟩]) (.cond (sT 45) (.seq (.region [opW 2 (.int .i64 5)])
 .ret) .skip)) (.seq (.region [opW 2 (.int .i64 0)])
 .ret)))))
def r88 : List SRes := [.tmp 2]
theorem c88 : Code1 Tryz.prog 245 s88 r88 46 := ⟨⟨Tryz.f245, _, Tryz.func245, rfl, rfl, by kernel_rfl, by kernel_rfl⟩, by kernel_rfl, by kernel_rfl⟩
def s89 : SCode := (.seq (.region [⟨some 2,.alloc (.agg [.bool false, .bool false, .bool false, .bool false, .bool false, .bool false, .bool false]),none⟩]) (.seq (.seq (.region [opM 3 0]) (.block 0 (.seq (.region [opY 5 .eql 3 (.int .i64 1),opM 4 5]) (.cond (sT 4) (.seq (.region [⟨some 6,.build [.bool false, .bool false, .bool false, .bool false, .bool false, .bool false, .bool false] [(0, 1, .val (.bool true)), (1, 1, .val (.bool true)), (2, 1, .val (.bool true)), (4, 1, .val (.bool true))],none⟩,⟨none, .store 7 (sT 2) (sT 6),none⟩])
 .ret) (.seq (.region [opY 8 .eql 3 (.int .i64 2),opM 7 8]) (.cond (sT 7) (.seq (.region [⟨some 9,.build [.bool false, .bool false, .bool false, .bool false, .bool false, .bool false, .bool false] [(0, 1, .val (.bool true)), (1, 1, .val (.bool true)), (3, 1, .val (.bool true))],none⟩,⟨none, .store 7 (sT 2) (sT 9),none⟩])
 .ret) (.seq (.region [opY 11 .eql 3 (.int .i64 3),opM 10 11]) (.cond (sT 10) (.seq (.region [⟨some 12,.build [.bool false, .bool false, .bool false, .bool false, .bool false, .bool false, .bool false] [(0, 1, .val (.bool true)), (2, 1, .val (.bool true)), (4, 1, .val (.bool true))],none⟩,⟨none, .store 7 (sT 2) (sT 12),none⟩])
 .ret) (.seq (.region [opY 14 .eql 3 (.int .i64 4),opM 13 14]) (.cond (sT 13) (.seq (.region [⟨some 15,.build [.bool false, .bool false, .bool false, .bool false, .bool false, .bool false, .bool false] [(0, 1, .val (.bool true)), (4, 1, .val (.bool true)), (5, 1, .val (.bool true))],none⟩,⟨none, .store 7 (sT 2) (sT 15),none⟩])
 .ret) .skip)))))))))) (.seq (.region [⟨some 16,.build [.bool false, .bool false, .bool false, .bool false, .bool false, .bool false, .bool false] [(6, 1, .val (.bool true))],none⟩,⟨none, .store 7 (sT 2) (sT 16),none⟩])
 .ret)))
def r89 : List SRes := [.cell true 7 2]
theorem c89 : Code1 Tryz.prog 246 s89 r89 17 := ⟨⟨Tryz.f246, _, Tryz.func246, rfl, rfl, by kernel_rfl, by kernel_rfl⟩, by kernel_rfl, by kernel_rfl⟩
def s90 : SCode := (.seq (.region [⟨some 1,.box (sT 0),none⟩,opW 2 (.int .i64 0)]) (.seq (.region [opN 3 4 1,opC 4 275 [.tmp 3, .val (.int .i64 1)],opM 2 4])
 .ret))
def r90 : List SRes := [.tmp 2]
theorem c90 : Code1 Tryz.prog 247 s90 r90 5 := ⟨⟨Tryz.f247, _, Tryz.func247, rfl, rfl, by kernel_rfl, by kernel_rfl⟩, by kernel_rfl, by kernel_rfl⟩
def s91 : SCode := (.seq (.region [⟨some 1,.box (sT 0),none⟩,opW 2 (.int .i64 0)]) (.seq (.block 0 (.seq (.region [opF 4 0 1,opL 5 4,opY 6 .neq 5 (.int .i64 5),opM 3 6]) (.cond (sT 3) (.seq (.region [opW 2 (.int .i64 0)])
 .ret) (.seq (.region [opF 8 12 1,opL 9 8,opE 10 9,opY 11 .eql 10 (.int .i64 0),opM 7 11]) (.cond (sT 7) (.seq (.region [opW 2 (.int .i64 8)])
 .ret) (.seq (.region [opF 13 12 1,opL 14 13,opE 15 14,opY 16 .gtr 15 (.int .i64 12),opM 12 16]) (.cond (sT 12) (.seq (.region [opW 2 (.int .i64 2)])
 .ret) (.seq (.region [opF 18 12 1,opL 19 18,⟨some 20,.call (.val (.clos 48 [] [])) [.tmp 19, .val (.clos 276 [] [])],none⟩,opM 17 20]) (.cond (sT 17) (.seq (.region [opW 2 (.int .i64 5)])
 .ret) .skip))))))))) (.seq (.region [opW 2 (.int .i64 0)])
 .ret)))
def r91 : List SRes := [.tmp 2]
theorem c91 : Code1 Tryz.prog 248 s91 r91 21 := ⟨⟨Tryz.f248, _, Tryz.func248, rfl, rfl, by kernel_rfl, by kernel_rfl⟩, by kernel_rfl, by kernel_rfl⟩
def s93 : SCode := (.seq (.region [opW 4 (.int .i64 0)]) (.seq (.seq (.region [opM 6 0,opE 7 6,opW 8 (.int .i64 0)]) (.block 0 (.loop (.seq (.region [opB 9 .lss 8 7]) (.seq (.cond (sT 9) .skip (.exit 0)) (.seq (.block 1 (.seq (.region [opM 10 8,opM 5 10]) (.seq (.region [opM 11 1,opM 12 0,opM 13 5,opI 14 1 12 13,opL 15 14,opB 16 .eql 11 15]) (.cond (sT 16) (.seq (.region [opM 17 5,opM 4 17])
 .ret) .skip)))) (.region [opY 18 .add 8 (.int .i64 1),opM 8 18]))))))) (.seq (.region [opW 4 (.int .i64 (-1))])
 .ret)))
def r93 : List SRes := [.tmp 4]
theorem c93 : Code1 Tryz.prog 59 s93 r93 19 := ⟨⟨Tryz.f59, _, Tryz.func59, rfl, rfl, by kernel_rfl, by kernel_rfl⟩, by kernel_rfl, by kernel_rfl⟩
def s94 : SCode := (.seq (.region [opW 2 (.bool false)]) (.seq (.region [opM 3 0,opC 4 82 [.tmp 3],⟨some 5,.un .not (sT 4),none⟩,opM 2 5])
 .ret))
def r94 : List SRes := [.tmp 2]
theorem c94 : Code1 Tryz.prog 271 s94 r94 6 := ⟨⟨Tryz.f271, _, Tryz.func271, rfl, rfl, by kernel_rfl, by kernel_rfl⟩, by kernel_rfl, by kernel_rfl⟩
def s95 : SCode := (.seq (.region [⟨some 2,.box (sT 0),none⟩,opW 4 (.int .i64 0)]) (.seq (.region [opF 9 0 2,opL 10 9,opC 11 284 [.tmp 10],opM 5 11]) (.seq (.block 0 (.seq (.region [opM 13 1,opY 14 .gtr 13 (.int .i64 20),opM 12 14]) (.cond (sT 12) (.seq (.region [opW 4 (.int .i64 2)])
 .ret) (.seq (.region [opM 16 5,opY 17 .lss 16 (.int .i64 0),opM 15 17]) (.cond (sT 15) (.seq (.region [opW 4 (.int .i64 4)])
 .ret) (.seq (.region [opF 19 3 2,opL 20 19,opE 21 20,opM 22 5,opB 23 .neq 21 22,opM 24 23,opK 25 0 2 24 false,opH 26 25 24 false,⟨some 27,.bin .neq (sT 26) (.val (.int .i64 1)), (some (24, false))⟩,opG 28 27 24 false,opK 29 1 2 28 true,opH 30 29 28 true,⟨some 31,.bin .neq (sT 30) (.val (.int .i64 0)), (some (28, true))⟩,⟨some 32,.pick (sT 28) (sT 31) (.val (.bool false)), (some (24, false))⟩,⟨some 33,.pick (sT 24) (.val (.bool true)) (sT 32),none⟩,opM 34 33,opK 35 0 2 34 false,opH 36 35 34 false,⟨some 37,.bin .neq (sT 36) (.val (.int .i64 2)), (some (34, false))⟩,opG 38 37 34 false,opK 39 2 2 38 true,opH 40 39 38 true,⟨some 41,.bin .neq (sT 40) (.val (.str ⟨#[]⟩)), (some (38, true))⟩,⟨some 42,.pick (sT 38) (sT 41) (.val (.bool false)), (some (34, false))⟩,⟨some 43,.pick (sT 34) (.val (.bool true)) (sT 42),none⟩,opM 18 43]) (.cond (sT 18) (.seq (.region [opW 4 (.int .i64 3)])
 .ret) (.seq (.region [opF 45 1 2,opL 46 45,opC 47 158 [.tmp 46, .val (.int .i64 0), .val (.int .i64 999)],⟨some 48,.un .not (sT 47),none⟩,opM 44 48]) (.cond (sT 44) (.seq (.region [opW 4 (.int .i64 1)])
 .ret) (.seq (.region [opF 50 0 2,opL 51 50,opY 52 .eql 51 (.int .i64 2),opM 53 52,opK 54 2 2 53 true,opH 55 54 53 true,⟨some 56,.call (.val (.clos 82 [] [])) [.tmp 55], (some (53, true))⟩,⟨some 57,.un .not (sT 56), (some (53, true))⟩,⟨some 58,.pick (sT 53) (sT 57) (.val (.bool false)),none⟩,opM 49 58]) (.cond (sT 49) (.seq (.region [opW 4 (.int .i64 5)])
 .ret) .skip))))))))))) (.seq (.seq (.region [opF 59 3 2,opL 60 59,opE 61 60,opW 62 (.int .i64 0)]) (.block 1 (.loop (.seq (.region [opB 63 .lss 62 61]) (.seq (.cond (sT 63) .skip (.exit 1)) (.seq (.block 2 (.seq (.region [opI 64 4 60 62,opN 65 4 64,⟨some 7,.alloc (.agg [.int .i64 0, .int .i64 0, .str ⟨#[]⟩, .nils]),none⟩,⟨none, .store 4 (sT 7) (sT 65),none⟩]) (.seq (.region [opN 66 4 7,opM 67 1,opY 68 .add 67 (.int .i64 1),opC 69 272 [.tmp 66, .tmp 68],opM 8 69]) (.seq (.region [opM 70 8,opY 71 .neq 70 (.int .i64 0)]) (.cond (sT 71) (.seq (.region [opM 72 8,opM 4 72])
 .ret) .skip))))) (.region [opY 73 .add 62 (.int .i64 1),opM 62 73]))))))) (.seq (.region [opW 4 (.int .i64 0)])
 .ret)))))
def r95 : List SRes := [.tmp 4]
theorem c95 : Code1 Tryz.prog 272 s95 r95 74 := ⟨⟨Tryz.f272, _, Tryz.func272, rfl, rfl, by kernel_rfl, by kernel_rfl⟩, by kernel_rfl, by kernel_rfl⟩
def s103 : SCode := (.seq (.region [⟨some 2,.box (sT 0),none⟩,⟨some 3,.box (sT 1),none⟩,opW 4 (.bool false)]) (.seq (.seq (.region [opF 7 0 2,opL 8 7,opF 9 0 3,opL 10 9,opB 11 .neq 8 10,opM 12 11,opK 13 1 2 12 false,opH 14 13 12 false,opK 15 1 3 12 false,opH 16 15 12 false,⟨some 17,.bin .neq (sT 14) (sT 16), (some (12, false))⟩,⟨some 18,.pick (sT 12) (.val (.bool true)) (sT 17),none⟩,opM 19 18,opK 20 2 2 19 false,opH 21 20 19 false,opK 22 2 3 19 false,opH 23 22 19 false,⟨some 24,.bin .neq (sT 21) (sT 23), (some (19, false))⟩,⟨some 25,.pick (sT 19) (.val (.bool true)) (sT 24),none⟩,opM 26 25,opK 27 3 2 26 false,opH 28 27 26 false,⟨some 29,.len false (sT 28), (some (26, false))⟩,opK 30 3 3 26 false,opH 31 30 26 false,⟨some 32,.len false (sT 31), (some (26, false))⟩,⟨some 33,.bin .neq (sT 29) (sT 32), (some (26, false))⟩,⟨some 34,.pick (sT 26) (.val (.bool true)) (sT 33),none⟩]) (.cond (sT 34) (.seq (.region [opW 4 (.bool false)])
 .ret) .skip)) (.seq (.seq (.region [opF 35 3 2,opL 36 35,opE 37 36,opW 38 (.int .i64 0)]) (.block 0 (.loop (.seq (.region [opB 39 .lss 38 37]) (.seq (.cond (sT 39) .skip (.exit 0)) (.seq (.block 1 (.seq (.region [opM 40 38,opI 41 4 36 38,opN 42 4 41,⟨some 6,.alloc (.agg [.int .i64 0, .int .i64 0, .str ⟨#[]⟩, .nils]),none⟩,opM 5 40,⟨none, .store 4 (sT 6) (sT 42),none⟩]) (.seq (.qregion [⟨opN 43 4 6, false, 0, 0, 0⟩,⟨opF 44 3 3, false, 0, 0, 0⟩,⟨opL 45 44, false, 0, 0, 2⟩,⟨opM 46 5, false, 0, 0, 0⟩,⟨opI 47 4 45 46, false, 0, 0, 14⟩,⟨opN 48 4 47, false, 0, 0, 30⟩,⟨opC 49 273 [.tmp 43, .tmp 48], false, 0, 0, 63⟩,⟨⟨some 50,.un .not (sT 49),none⟩, false, 0, 0, 127⟩]) (.cond (sT 50) (.seq (.region [opW 4 (.bool false)])
 .ret) .skip)))) (.region [opY 51 .add 38 (.int .i64 1),opM 38 51]))))))) (.seq (.region [opW 4 (.bool true)])
 .ret))))
def r103 : List SRes := [.tmp 4]
theorem c103 : Code1 Tryz.prog 273 s103 r103 52 := ⟨⟨Tryz.f273, _, Tryz.func273, rfl, rfl, by kernel_rfl, by kernel_rfl⟩, by kernel_rfl, by kernel_rfl⟩
def s104 : SCode := (.seq (.region [opW 4 (.bool false)]) (.seq (.region [opM 5 0,opM 6 5,opG 7 1 6 true,⟨some 8,.call (.val (.clos 145 [] [])) [.tmp 7], (some (6, true))⟩,⟨some 9,.un .not (sT 8), (some (6, true))⟩,⟨some 10,.pick (sT 6) (sT 9) (.val (.bool false)),none⟩,opM 4 10])
 .ret))
def r104 : List SRes := [.tmp 4]
theorem c104 : Code1 Tryz.prog 274 s104 r104 11 := ⟨⟨Tryz.f274, _, Tryz.func274, rfl, rfl, by kernel_rfl, by kernel_rfl⟩, by kernel_rfl, by kernel_rfl⟩
def s105 : SCode := (.seq (.region [⟨some 2,.box (sT 0),none⟩,opW 4 (.int .i64 0)]) (.seq (.block 0 (.seq (.region [opM 9 1,opY 10 .gtr 9 (.int .i64 20),opM 8 10]) (.cond (sT 8) (.seq (.region [opW 4 (.int .i64 2)])
 .ret) (.seq (.region [opF 12 0 2,opL 13 12,opC 14 285 [.tmp 13],opY 15 .lss 14 (.int .i64 0),opM 11 15]) (.cond (sT 11) (.seq (.region [opW 4 (.int .i64 4)])
 .ret) (.seq (.qregion [⟨opF 17 3 2, false, 0, 0, 0⟩,⟨opL 18 17, false, 0, 0, 1⟩,⟨opE 19 18, false, 0, 0, 3⟩,⟨opF 20 0 2, false, 0, 0, 0⟩,⟨opL 21 20, false, 0, 0, 8⟩,⟨opC 22 285 [.tmp 21], false, 0, 0, 24⟩,⟨opB 23 .neq 19 22, false, 0, 0, 63⟩,⟨opM 24 23, false, 0, 0, 127⟩,⟨opK 25 0 2 24 false, false, 0, 0, 255⟩,⟨opH 26 25 24 false, false, 0, 0, 511⟩,⟨⟨some 27,.bin .neq (sT 26) (.val (.int .i64 1)), (some (24, false))⟩, false, 0, 0, 1023⟩,⟨opG 28 27 24 false, false, 0, 0, 2047⟩,⟨opK 29 1 2 28 true, false, 0, 0, 4095⟩,⟨opH 30 29 28 true, false, 0, 0, 8191⟩,⟨⟨some 31,.bin .neq (sT 30) (.val (.int .i64 0)), (some (28, true))⟩, false, 0, 0, 16383⟩,⟨⟨some 32,.pick (sT 28) (sT 31) (.val (.bool false)), (some (24, false))⟩, false, 0, 0, 32767⟩,⟨⟨some 33,.pick (sT 24) (.val (.bool true)) (sT 32),none⟩, false, 0, 0, 65535⟩,⟨opM 34 33, false, 0, 0, 131071⟩,⟨opK 35 0 2 34 false, false, 0, 0, 262143⟩,⟨opH 36 35 34 false, false, 0, 0, 524287⟩,⟨⟨some 37,.bin .neq (sT 36) (.val (.int .i64 2)), (some (34, false))⟩, false, 0, 0, 1048575⟩,⟨opG 38 37 34 false, false, 0, 0, 2097151⟩,⟨opK 39 2 2 38 true, false, 0, 0, 4194303⟩,⟨opH 40 39 38 true, false, 0, 0, 8388607⟩,⟨⟨some 41,.bin .neq (sT 40) (.val (.str ⟨#[]⟩)), (some (38, true))⟩, false, 0, 0, 16777215⟩,⟨⟨some 42,.pick (sT 38) (sT 41) (.val (.bool false)), (some (34, false))⟩, false, 0, 0, 33554431⟩,⟨⟨some 43,.pick (sT 34) (.val (.bool true)) (sT 42),none⟩, false, 0, 0, 67108863⟩,⟨opM 16 43, false, 0, 0, 134217727⟩]) (.cond (sT 16) (.seq (.region [opW 4 (.int .i64 3)])
 .ret) (.seq (.region [opF 45 1 2,opL 46 45,opC 47 243 [.tmp 46, .val (.int .i64 0), .val (.int .i64 999)],opM 44 47]) (.cond (sT 44) (.seq (.region [opW 4 (.int .i64 1)])
 .ret) (.seq (.region [opF 49 0 2,opL 50 49,opY 51 .eql 50 (.int .i64 2),opM 52 51,opK 53 2 2 52 true,opH 54 53 52 true,⟨some 55,.call (.val (.clos 145 [] [])) [.tmp 54], (some (52, true))⟩,⟨some 56,.un .not (sT 55), (some (52, true))⟩,⟨some 57,.pick (sT 52) (sT 56) (.val (.bool false)),none⟩,opM 48 57]) (.cond (sT 48) (.seq (.region [opW 4 (.int .i64 5)])
 .ret) .skip))))))))))) (.seq (.seq (.region [opF 58 3 2,opL 59 58,opE 60 59,opW 61 (.int .i64 0)]) (.block 1 (.loop (.seq (.region [opB 62 .lss 61 60]) (.seq (.cond (sT 62) .skip (.exit 1)) (.seq (.block 2 (.seq (.region [opI 63 4 59 61,opN 64 4 63,⟨some 6,.alloc (.agg [.int .i64 0, .int .i64 0, .str ⟨#[]⟩, .nils]),none⟩,⟨none, .store 4 (sT 6) (sT 64),none⟩]) (.seq (.region [opN 65 4 6,opM 66 1,opY 67 .add 66 (.int .i64 1),opC 68 275 [.tmp 65, .tmp 67],opM 7 68]) (.seq (.region [opM 69 7,opY 70 .neq 69 (.int .i64 0)]) (.cond (sT 70) (.seq (.region [opM 71 7,opM 4 71])
 .ret) .skip))))) (.region [opY 72 .add 61 (.int .i64 1),opM 61 72]))))))) (.seq (.region [opW 4 (.int .i64 0)])
 .ret))))
def r105 : List SRes := [.tmp 4]
theorem c105 : Code1 Tryz.prog 275 s105 r105 73 := ⟨⟨Tryz.f275, _, Tryz.func275, rfl, rfl, by kernel_rfl, by kernel_rfl⟩, by kernel_rfl, by kernel_rfl⟩
def s106 : SCode := (.seq (.region [opW 2 (.bool false)]) (.seq (.region [opM 3 0,opC 4 145 [.tmp 3],⟨some 5,.un .not (sT 4),none⟩,opM 2 5])
 .ret))
def r106 : List SRes := [.tmp 2]
theorem c106 : Code1 Tryz.prog 276 s106 r106 6 := ⟨⟨Tryz.f276, _, Tryz.func276, rfl, rfl, by kernel_rfl, by kernel_rfl⟩, by kernel_rfl, by kernel_rfl⟩
def s107 : SCode := (.seq (.region [opW 2 (.int .i64 0)]) (.seq (.seq (.region [opM 3 0,opC 4 158 [.tmp 3, .val (.int .i64 1), .val (.int .i64 9)],⟨some 5,.un .not (sT 4),none⟩]) (.cond (sT 5) (.seq (.region [opW 2 (.int .i64 (-1))])
 .ret) .skip)) (.seq (.region [⟨some 6,.buildF 1 [.val (.int .i64 0), .val (.int .i64 0), .val (.int .i64 2), .val (.int .i64 2), .val (.int .i64 2), .val (.int .i64 2), .val (.int .i64 2), .val (.int .i64 1), .val (.int .i64 3)],none⟩,opM 7 0,opY 8 .sub 7 (.int .i64 1),opI 9 1 6 8,opL 10 9,opM 2 10])
 .ret)))
def r107 : List SRes := [.tmp 2]
theorem c107 : Code1 Tryz.prog 284 s107 r107 11 := ⟨⟨Tryz.f284, _, Tryz.func284, rfl, rfl, by kernel_rfl, by kernel_rfl⟩, by kernel_rfl, by kernel_rfl⟩
def s112 : SCode := (.seq (.region [opW 2 (.int .i64 0)]) (.seq (.block 0 (.seq (.region [opM 4 0,opC 5 243 [.tmp 4, .val (.int .i64 1), .val (.int .i64 9)],opM 3 5]) (.cond (sT 3) (.seq (.region [opW 2 (.int .i64 (-1))])
 .ret) (.seq (.region [opM 7 0,opY 8 .leq 7 (.int .i64 2),opM 6 8]) (.cond (sT 6) (.seq (.region [opW 2 (.int .i64 0)])
 .ret) (.seq (.region [opM 10 0,opY 11 .eql 10 (.int .i64 8),opM 9 11]) (.cond (sT 9) (.seq (.region [opW 2 (.int .i64 1)])
 .ret) (.seq (.region [opM 13 0,opY 14 .eql 13 (.int .i64 9),opM 12 14]) (.cond (sT 12) (.seq (.region [opW 2 (.int .i64 3)])
 .ret) .skip))))))))) (.seq (.region [opW 2 (.int .i64 2)])
 .ret)))
def r112 : List SRes := [.tmp 2]
theorem c112 : Code1 Tryz.prog 285 s112 r112 15 := ⟨⟨Tryz.f285, _, Tryz.func285, rfl, rfl, by kernel_rfl, by kernel_rfl⟩, by kernel_rfl, by kernel_rfl⟩
end Go.Proofs.YtdgoeblpcnjlbaaGreatDoor.Av
namespace Go.Proofs
open Go.Shelf
def Tryz.lays137uren : Go.Shelf.Ren := ⟨fun | 137 => 159 | 217 => 196 | 266 => 257 | n => n, fun | 9 => 9 | 5 => 5 | 3 => 3 | n => n, fun | n => n⟩
theorem Tryz.lays137 : Go.Proofs.Lays.n137 Tryz.prog Tryz.lays137uren := {
 mixed := by kernel_rfl
 f137 := Tryz.func159.trans (congrArg some (by kernel_rfl))
 f217 := Tryz.func196.trans (congrArg some (by kernel_rfl))
 f266 := Tryz.func257.trans (congrArg some (by kernel_rfl))
 t3 := Tryz.underlying3
 a3 := Tryz.isAgg3
 z3 := Tryz.sizeOf3
 v3 := Tryz.zeroValue3
 t5 := Tryz.underlying5
 a5 := Tryz.isAgg5
 z5 := Tryz.sizeOf5
 v5 := Tryz.zeroValue5
 t9 := Tryz.underlying9
 a9 := Tryz.isAgg9
 z9 := Tryz.sizeOf9
 v9 := Tryz.zeroValue9 }
def Tryz.lays160uren : Go.Shelf.Ren := ⟨fun | 160 => 194 | 232 => 251 | 231 => 250 | 227 => 252 | 234 => 254 | 233 => 253 | 236 => 256 | 235 => 255 | 228 => 277 | 271 => 280 | 151 => 279 | 197 => 278 | 120 => 288 | 152 => 287 | 260 => 286 | 137 => 159 | 119 => 289 | 224 => 290 | 225 => 291 | 217 => 196 | 266 => 257 | n => n, fun | 9 => 9 | 4 => 4 | 3 => 3 | 5 => 5 | 117 => 298 | 116 => 297 | 0 => 0 | 124 => 301 | 21 => 21 | 105 => 315 | 46 => 233 | 119 => 324 | 139 => 327 | 138 => 326 | n => n, fun | 3 => 1 | 4 => 2 | n => n⟩
theorem Tryz.lays160 : Go.Proofs.Lays.n160 Tryz.prog Tryz.lays160uren := {
 mixed := by kernel_rfl
 f119 := Tryz.func289.trans (congrArg some (by kernel_rfl))
 f120 := Tryz.func288.trans (congrArg some (by kernel_rfl))
 f137 := Tryz.func159.trans (congrArg some (by kernel_rfl))
 f151 := Tryz.func279.trans (congrArg some (by kernel_rfl))
 f152 := Tryz.func287.trans (congrArg some (by kernel_rfl))
 f160 := Tryz.func194.trans (congrArg some (by kernel_rfl))
 f197 := Tryz.func278.trans (congrArg some (by kernel_rfl))
 f217 := Tryz.func196.trans (congrArg some (by kernel_rfl))
 f224 := Tryz.func290.trans (congrArg some (by kernel_rfl))
 f225 := Tryz.func291.trans (congrArg some (by kernel_rfl))
 f227 := Tryz.func252.trans (congrArg some (by kernel_rfl))
 f228 := Tryz.func277.trans (congrArg some (by kernel_rfl))
 f231 := Tryz.func250.trans (congrArg some (by kernel_rfl))
 f232 := Tryz.func251.trans (congrArg some (by kernel_rfl))
 f233 := Tryz.func253.trans (congrArg some (by kernel_rfl))
 f234 := Tryz.func254.trans (congrArg some (by kernel_rfl))
 f235 := Tryz.func255.trans (congrArg some (by kernel_rfl))
 f236 := Tryz.func256.trans (congrArg some (by kernel_rfl))
 f260 := Tryz.func286.trans (congrArg some (by kernel_rfl))
 f266 := Tryz.func257.trans (congrArg some (by kernel_rfl))
 f271 := Tryz.func280.trans (congrArg some (by kernel_rfl))
 t0 := Tryz.underlying0
 a0 := Tryz.isAgg0
 z0 := Tryz.sizeOf0
 v0 := Tryz.zeroValue0
 t3 := Tryz.underlying3
 a3 := Tryz.isAgg3
 z3 := Tryz.sizeOf3
 v3 := Tryz.zeroValue3
 t4 := Tryz.underlying4
 a4 := Tryz.isAgg4
 z4 := Tryz.sizeOf4
 v4 := Tryz.zeroValue4
 t5 := Tryz.underlying5
 a5 := Tryz.isAgg5
 z5 := Tryz.sizeOf5
 v5 := Tryz.zeroValue5
 t9 := Tryz.underlying9
 a9 := Tryz.isAgg9
 z9 := Tryz.sizeOf9
 v9 := Tryz.zeroValue9
 t21 := Tryz.underlying21
 a21 := Tryz.isAgg21
 z21 := Tryz.sizeOf21
 v21 := Tryz.zeroValue21
 t46 := Tryz.underlying233
 a46 := Tryz.isAgg233
 z46 := Tryz.sizeOf233
 v46 := Tryz.zeroValue233
 t105 := Tryz.underlying315
 a105 := Tryz.isAgg315
 z105 := Tryz.sizeOf315
 v105 := Tryz.zeroValue315
 t116 := Tryz.underlying297
 a116 := Tryz.isAgg297
 z116 := Tryz.sizeOf297
 t117 := Tryz.underlying298
 a117 := Tryz.isAgg298
 z117 := Tryz.sizeOf298
 v117 := Tryz.zeroValue298
 t119 := Tryz.underlying324
 a119 := Tryz.isAgg324
 z119 := Tryz.sizeOf324
 t124 := Tryz.underlying301
 a124 := Tryz.isAgg301
 z124 := Tryz.sizeOf301
 v124 := Tryz.zeroValue301
 t138 := Tryz.underlying326
 a138 := Tryz.isAgg326
 z138 := Tryz.sizeOf326
 v138 := Tryz.zeroValue326
 t139 := Tryz.underlying327
 a139 := Tryz.isAgg327
 z139 := Tryz.sizeOf327
 v139 := Tryz.zeroValue327
 g3 := by kernel_rfl
 g4 := by kernel_rfl }
end Go.Proofs
namespace Go.Proofs.YtdgoeblpcnjlbaaGreatDoor.Av
open Go.RowKit
theorem ix_nat (i n : Nat) : ixP (i : Int) n = (i < n) := by simp [ixP]
theorem ix_zero (n : Nat) : ixP 0 n = (0 < n) := by simp [ixP]
theorem Fork.mk {b : Bool} {p q : Prop} (h : b = true → p) (k : b = false → q) : Fork b p q := ⟨h, k⟩
theorem getD_mid {α : Type} (f : α → V) (pre post : List α) (y : α) (d : V) : ((pre ++ y :: post).map f).getD pre.length d = f y := by simp [List.getD]
theorem getS_mid {α : Type} (f : α → V) (pre post : List α) (y : α) (d : V) : ((pre ++ y :: post).map f).getD (Int.toNat (pre.length : Int)) d = f y := by simp [List.getD]
theorem get_app0 (H : List Blk) (l : List Blk) : (H ++ l)[H.length]? = l[0]? := by rw [List.getElem?_append_right (by omega)]; simp
theorem get_appS (H : List Blk) (l : List Blk) (k : Nat) : (H ++ l)[H.length + k]? = l[k]? := by rw [List.getElem?_append_right (by omega)]; congr 1; omega
theorem set_app0 (H : List Blk) (l : List Blk) (x : Blk) : (H ++ l).set H.length x = H ++ l.set 0 x := by rw [List.set_append_right _ _ (by omega)]; simp
theorem set_appS (H : List Blk) (l : List Blk) (x : Blk) (k : Nat) : (H ++ l).set (H.length + k) x = H ++ l.set k x := by rw [List.set_append_right _ _ (by omega)]; congr 2; omega
def fzC (a : Option V) (b : Option (List V)) : Option (List V) := match a, b with
 | some x, some xs => some (x :: xs)
 | _, _ => none
theorem fzC_some (x : V) (xs : List V) : fzC (some x) (some xs) = some (x :: xs) := by rw [fzC]
theorem fzL_nil (g : V → Option V) : fzL g [] = some [] := by rw [fzL]
theorem fzL_cons (g : V → Option V) (v : V) (l : List V) : fzL g (v :: l) = fzC (g v) (fzL g l) := by rw [fzL]; rfl
def fzP (g : V → Option V) (b : Option Blk) (i c : Nat) : Option V := match b with
 | some (.row es) => if i < es.length ∧ c ≤ (cellsV (es.getD i .any)).length then (fzL g ((cellsV (es.getD i .any)).drop c)).map .rptr else none
 | _ => none
def fzM (g : V → Option V) (b : Option Blk) (off len : Nat) : Option V := match b with
 | some (.row es) => if off + len ≤ es.length then (fzL g ((es.drop off).take len)).map .fs else none
 | _ => none
theorem fzP_row (g : V → Option V) (es : List V) (i c : Nat) : fzP g (some (.row es)) i c = if i < es.length ∧ c ≤ (cellsV (es.getD i .any)).length then (fzL g ((cellsV (es.getD i .any)).drop c)).map .rptr else none := by rw [fzP]
theorem fzM_row (g : V → Option V) (es : List V) (off len : Nat) : fzM g (some (.row es)) off len = if off + len ≤ es.length then (fzL g ((es.drop off).take len)).map .fs else none := by rw [fzM]
def fzF (f : FuncId) (a b : Option (List V)) : Option V := match a, b with
 | some a, some b => some (.clos f a b)
 | _, _ => none
theorem fzF_some (f : FuncId) (a b : List V) : fzF f (some a) (some b) = some (.clos f a b) := by rw [fzF]
section
variable (H : List Blk) (n : Nat)
theorem fz_nils : fz H (n + 1) .nils = some (.fs []) := by rw [fz]
theorem fz_ptr (id i c : Nat) : fz H (n + 1) (.ptr id i c) = fzP (fz H n) (H[id]?) i c := by
 rw [fz]
 cases H[id]? with
 | none => rfl
 | some b => cases b <;> rfl
theorem fz_ms (id off len : Nat) : fz H (n + 1) (.ms id off len) = fzM (fz H n) (H[id]?) off len := by
 rw [fz]
 cases H[id]? with
 | none => rfl
 | some b => cases b <;> rfl
theorem fz_agg (cs : List V) : fz H (n + 1) (.agg cs) = (fzL (fz H n) cs).map .agg := by rw [fz]
theorem fz_tup (cs : List V) : fz H (n + 1) (.tup cs) = (fzL (fz H n) cs).map .tup := by rw [fz]
theorem fz_clos (f : FuncId) (a b : List V) : fz H (n + 1) (.clos f a b) = fzF f (fzL (fz H n) a) (fzL (fz H n) b) := by
 rw [fz]
 cases fzL (fz H n) a <;> cases fzL (fz H n) b <;> rfl
theorem fz_str (s : ByteArray) : fz H (n + 1) (.str s) = some (.str s) := by simp [fz, noref]
theorem fz_int (k : IntKind) (i : Int) : fz H (n + 1) (.int k i) = some (.int k i) := by simp [fz, noref]
theorem fz_bool (b : Bool) : fz H (n + 1) (.bool b) = some (.bool b) := by simp [fz, noref]
theorem fz_nilp : fz H (n + 1) .nilp = some .nilp := by simp [fz, noref]
theorem fz_nilf : fz H (n + 1) .nilf = some .nilf := by simp [fz, noref]
theorem fz_und : fz H (n + 1) .und = some .und := by simp [fz, noref]
theorem fz_any : fz H (n + 1) .any = some .any := by simp [fz, noref]
theorem fz_fs (l : List V) : fz H (n + 1) (.fs l) = if norefL l = true then some (.fs l) else none := by by_cases h : norefL l = true <;> simp [fz, noref, h]
theorem fz_rptr (l : List V) : fz H (n + 1) (.rptr l) = if norefL l = true then some (.rptr l) else none := by by_cases h : norefL l = true <;> simp [fz, noref, h]
theorem fzL_map {α : Type} (g : V → Option V) (f : α → V) (h : ∀ x, g (f x) = some (f x)) : ∀ l : List α, fzL g (l.map f) = some (l.map f)
 | [] => fzL_nil g
 | x :: l => by rw [List.map_cons, fzL_cons, h, fzL_map g f h l, fzC_some]
end
def ixF {α : Type} (p : α → Bool) : List α → Int → Int
 | [], _ => -1
 | x :: l, i => if p x then i else ixF p l (i + 1)
theorem ixF_append {α : Type} (p : α → Bool) : ∀ (pre post : List α) (i : Int), (∀ x ∈ pre, p x = false) → ixF p (pre ++ post) i = ixF p post (i + pre.length)
 | [], post, i, _ => by simp
 | x :: pre, post, i, h => by
  simp only [List.cons_append, ixF, h x (by simp)]
  rw [ixF_append p pre post (i + 1) (fun y hy => h y (by simp [hy]))]
  simp only [List.length_cons]
  rw [if_neg (by simp)]
  congr 1; omega
theorem wrap_succ {k : Nat} (h : k + 1 ≤ 9223372036854775807) : IntKind.i64.wrap ((k : Int) + 1) = ((k + 1 : Nat) : Int) := by
 simp [IntKind.wrap, IntKind.signed, IntKind.bits]; omega
theorem cellsV_agg (l : List V) : cellsV (.agg l) = l := rfl
theorem cellsV_int (k : IntKind) (n : Int) : cellsV (.int k n) = [.int k n] := rfl
theorem cellsV_str (s : ByteArray) : cellsV (.str s) = [.str s] := rfl
theorem cellsV_bool (s : Bool) : cellsV (.bool s) = [.bool s] := rfl
theorem cellsV_fs (s : List V) : cellsV (.fs s) = [.fs s] := rfl
theorem cellsV_clos (f : FuncId) (a b : List V) : cellsV (.clos f a b) = [.clos f a b] := rfl
theorem cellsV_nils : cellsV .nils = [.nils] := rfl
theorem cellsV_nilp : cellsV .nilp = [.nilp] := rfl
theorem cellsV_nilf : cellsV .nilf = [.nilf] := rfl
theorem cellsV_ptr (a b c : Nat) : cellsV (.ptr a b c) = [.ptr a b c] := rfl
theorem cellsV_rptr (a : List V) : cellsV (.rptr a) = [.rptr a] := rfl
theorem cellsV_ms (a b c : Nat) : cellsV (.ms a b c) = [.ms a b c] := rfl
theorem mid_lt {α : Type} {xs pre post : List α} {y : α} (h : xs = pre ++ y :: post) : ((pre.length : Int) < xs.length) ∧ pre.length < xs.length := by
 subst h; simp; omega
theorem mid_not {α : Type} {xs pre : List α} (h : xs = pre ++ []) : ¬ ((pre.length : Int) < xs.length) := by subst h; simp
theorem mid_get {α : Type} {xs pre post : List α} {y : α} (f : α → V) (h : xs = pre ++ y :: post) : (xs.map f).getD pre.length .any = f y := by subst h; exact getD_mid ..
theorem mid_wrap {α : Type} {xs pre post : List α} {y : α} (h : xs = pre ++ y :: post) (hl : xs.length ≤ 9223372036854775807) : IntKind.i64.wrap ((pre.length : Int) + 1) = ((pre.length + 1 : Nat) : Int) := by
 subst h; exact wrap_succ (by simp at hl; omega)
attribute [go_sem] ix_nat getD_mid getS_mid cellsV_agg cellsV_int cellsV_str cellsV_bool cellsV_fs cellsV_clos cellsV_nils cellsV_ptr cellsV_rptr cellsV_ms cellsV_nilp cellsV_nilf ix_zero get_app0 get_appS set_app0 set_appS
attribute [push_cast] get_app0 get_appS fz_nils fz_ptr fz_ms fz_agg fz_tup fz_clos fz_str fz_int fz_bool fz_nilp fz_nilf fz_und fz_any fz_fs fz_rptr fzL_nil fzL_cons fzC_some fzF_some fzP_row fzM_row cellsV_agg cellsV_int cellsV_str cellsV_bool cellsV_fs cellsV_clos cellsV_nils cellsV_ptr cellsV_rptr cellsV_ms cellsV_nilp cellsV_nilf
inductive Ex where
 | mk (k n : Int) (s : ByteArray) (xs : List Ex)
inductive St where
 | mk (k : Int) (r t v l : ByteArray) (e : Ex) (a b : List St) (p : ByteArray) (ps : List ByteArray)
structure Pr where
 name : ByteArray
 roles : List ByteArray
 steps : List St
structure Pla where
 procs : List Pr
 main : List St
mutual
def encE : Ex → V
 | .mk k n s xs => .agg [.int .i64 k, .int .i64 n, .str s, .fs (encEs xs)]
def encEs : List Ex → List V
 | [] => []
 | x :: l => encE x :: encEs l
end
mutual
def encS : St → V
 | .mk k r t v l (.mk ek en es eas) a b p ps => .agg [.int .i64 k, .str r, .str t, .str v, .str l, .int .i64 ek, .int .i64 en, .str es, .fs (eas.map encE), .fs (encSs a), .fs (encSs b), .str p, .fs (ps.map .str)]
def encSs : List St → List V
 | [] => []
 | x :: l => encS x :: encSs l
end
theorem encEs_map : ∀ l, encEs l = l.map encE
 | [] => rfl
 | x :: l => by rw [encEs, encEs_map l]; rfl
theorem encSs_map : ∀ l, encSs l = l.map encS
 | [] => rfl
 | x :: l => by rw [encSs, encSs_map l]; rfl
theorem encE_mk (k n : Int) (s : ByteArray) (xs : List Ex) : encE (.mk k n s xs) = .agg [.int .i64 k, .int .i64 n, .str s, .fs (xs.map encE)] := by rw [encE, encEs_map]
theorem encS_mk (k : Int) (r t v l : ByteArray) (ek en : Int) (es : ByteArray) (eas : List Ex) (a b : List St) (p : ByteArray) (ps : List ByteArray) : encS (.mk k r t v l (.mk ek en es eas) a b p ps) = .agg [.int .i64 k, .str r, .str t, .str v, .str l, .int .i64 ek, .int .i64 en, .str es, .fs (eas.map encE), .fs (a.map encS), .fs (b.map encS), .str p, .fs (ps.map .str)] := by rw [encS, encSs_map, encSs_map]
def encP (p : Pr) : V := .agg [.str p.name, .fs (p.roles.map .str), .fs (p.steps.map encS)]
def encPl (p : Pla) : V := .agg [.fs (p.procs.map encP), .fs (p.main.map encS)]
theorem norefL_mapf {α : Type} {f : α → V} (h : ∀ x, noref (f x) = true) : ∀ l : List α, norefL (l.map f) = true
 | [] => by simp [norefL]
 | x :: l => by simp only [List.map_cons, norefL, h x, norefL_mapf h l]; rfl
theorem norefL_app : ∀ a b : List V, norefL (a ++ b) = (norefL a && norefL b)
 | [], b => by simp [norefL]
 | x :: a, b => by simp only [List.cons_append, norefL, norefL_app a b, Bool.and_assoc]
theorem norefL_str (l : List ByteArray) : norefL (l.map .str) = true := norefL_mapf (fun x => by simp [noref]) l
theorem norefL_int (l : List Int) : norefL (l.map (V.int .i64)) = true := norefL_mapf (fun x => by simp [noref]) l
mutual
theorem noref_encE : ∀ x, noref (encE x) = true
 | .mk k n s xs => by simp [encE, noref, norefL, norefL_encEs xs]
theorem norefL_encEs : ∀ l, norefL (encEs l) = true
 | [] => by simp [encEs, norefL]
 | x :: l => by simp [encEs, norefL, noref_encE x, norefL_encEs l]
end
theorem norefL_encE (l : List Ex) : norefL (l.map encE) = true := norefL_mapf noref_encE l
mutual
theorem noref_encS : ∀ x, noref (encS x) = true
 | .mk k r t v l (.mk ek en es eas) a b p ps => by simp [encS, noref, norefL, norefL_encE, norefL_str, norefL_encSs a, norefL_encSs b]
theorem norefL_encSs : ∀ l, norefL (encSs l) = true
 | [] => by simp [encSs, norefL]
 | x :: l => by simp [encSs, norefL, noref_encS x, norefL_encSs l]
end
theorem norefL_encS (l : List St) : norefL (l.map encS) = true := norefL_mapf noref_encS l
theorem noref_encP (p : Pr) : noref (encP p) = true := by simp [encP, noref, norefL, norefL_str, norefL_encS]
theorem norefL_encP (l : List Pr) : norefL (l.map encP) = true := norefL_mapf noref_encP l
theorem noref_encPl (p : Pla) : noref (encPl p) = true := by simp [encPl, noref, norefL, norefL_encP, norefL_encS]
theorem fz_encE (H : List Blk) (n : Nat) (x : Ex) : fz H (n + 2) (encE x) = some (encE x) := by
 rcases x with ⟨k, i, s, xs⟩
 simp [encE_mk, fz_agg, fzL_cons, fzL_nil, fz_int, fz_str, fz_fs, norefL_encE, fzC_some]
theorem fz_encS (H : List Blk) (n : Nat) (x : St) : fz H (n + 2) (encS x) = some (encS x) := by
 rcases x with ⟨k, r, t, v, l, ⟨ek, en, es, eas⟩, a, b, p, ps⟩
 simp [encS_mk, fz_agg, fzL_cons, fzL_nil, fz_int, fz_str, fz_fs, norefL_encE, norefL_encS, norefL_str, fzC_some]
theorem fz_encP (H : List Blk) (n : Nat) (x : Pr) : fz H (n + 2) (encP x) = some (encP x) := by
 simp [encP, fz_agg, fzL_cons, fzL_nil, fz_int, fz_str, fz_fs, norefL_encE, norefL_encS, norefL_str, fzC_some]
theorem fz_encPl (H : List Blk) (n : Nat) (x : Pla) : fz H (n + 2) (encPl x) = some (encPl x) := by
 simp [encPl, fz_agg, fzL_cons, fzL_nil, fz_int, fz_str, fz_fs, norefL_encP, norefL_encS, norefL_str, fzC_some]
theorem ixF_nonneg {α : Type} (p : α → Bool) : ∀ (l : List α) (i : Int), 0 ≤ i → decide (0 ≤ ixF p l i) = l.any p
 | [], i, h => by simp [ixF]
 | x :: l, i, h => by
  have := ixF_nonneg p l (i + 1) (by omega)
  by_cases hp : p x = true
  ·simp [ixF, hp, h]
  ·simp [ixF, hp, this]
attribute [push_cast] norefL_str norefL_int norefL_encE norefL_encS norefL_encP fz_encE fz_encS fz_encP fz_encPl
theorem nrb : (∀ a b : List V, norefL (a ++ b) = (norefL a && norefL b)) ∧ (∀ l : List ByteArray, norefL (l.map .str) = true) ∧ (∀ l : List Int, norefL (l.map (V.int .i64)) = true) ∧ (∀ l : List Ex, norefL (l.map encE) = true) ∧ (∀ l : List St, norefL (l.map encS) = true) ∧ (∀ l : List Pr, norefL (l.map encP) = true) ∧
  (∀ x, noref (encE x) = true) ∧ (∀ x, noref (encS x) = true) ∧ (∀ x, noref (encP x) = true) ∧ (∀ x, noref (encPl x) = true) :=
 ⟨norefL_app, norefL_str, norefL_int, norefL_encE, norefL_encS, norefL_encP, noref_encE, noref_encS, noref_encP, noref_encPl⟩
end Go.Proofs.YtdgoeblpcnjlbaaGreatDoor.Av

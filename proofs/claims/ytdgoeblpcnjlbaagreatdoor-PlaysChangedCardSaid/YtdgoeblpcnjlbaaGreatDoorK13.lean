/- Proved: for every list of numbers the law PlaysChanged answers true and leaves its argument as it was (the tied card); no condition beyond the row's own. Text 13 of 17. -/
import Derived.Test.YtdgoeblpcnjlbaaGreatDoorProg
import Derived.Test.YtdgoeblpcnjlbaaGreatDoorK12
set_option linter.all false
set_option maxRecDepth 100000
set_option maxHeartbeats 64000000
namespace Go.Proofs.YtdgoeblpcnjlbaaGreatDoor.Av
open Go.RowKit List
def O6:aB:=(.seq (.region [aQ 2 (.bool false)]) (.seq (.region [ab 18 0,⟨some 19,.build [.ag,.int .i64 0] [(0,1,.tmp 18)],none⟩,⟨some 20,.box (sT 19),none⟩,ab 3 20]) (.seq (.region [ab 21 3,bw 22 6 [.tmp 21],⟨some 4,.alloc (.agg [.ag,.ag]),none⟩,⟨none,.store 2 (sT 4) (sT 22),none⟩]) (.seq (.region [ab 23 3,bw 24 20 [.tmp 23],ab 5 24]) (.seq (.region [bU 26 2 4,bw 27 21 [.tmp 26],ab 25 27,⟨some 28,.extract (sT 25) 0,none⟩,⟨some 29,.extract (sT 25) 1,none⟩,⟨some 6,.alloc (.agg [.ag,.ag]),none⟩,⟨none,.store 2 (sT 6) (sT 28),none⟩,ab 7 29]) (.seq (.region [bU 31 2 4,bw 32 22 [.tmp 31],ab 30 32,⟨some 33,.extract (sT 30) 0,none⟩,⟨some 34,.extract (sT 30) 1,none⟩,⟨some 8,.alloc (.agg [.ag,.ag]),none⟩,⟨none,.store 2 (sT 8) (sT 33),none⟩,ab 9 34]) (.seq (.region [bU 36 2 4,ab 37 5,bw 38 23 [.tmp 36,.tmp 37],ab 35 38,⟨some 39,.extract (sT 35) 0,none⟩,⟨some 40,.extract (sT 35) 1,none⟩,⟨some 10,.alloc (.agg [.ag,.ag]),none⟩,⟨none,.store 2 (sT 10) (sT 39),none⟩,ab 11 40]) (.seq (.region [bU 41 2 4,bw 42 11 [.tmp 41],ab 12 42]) (.seq (.region [ab 43 12,ab 44 12,ab 13 43,ab 14 44]) (.seq (.region [⟨some 15,.alloc (.agg [.ag,.ag]),none⟩,⟨some 16,.alloc (.agg [.ag,.ag]),none⟩,⟨some 17,.alloc (.agg [.ag,.ag]),none⟩]) (.seq (.seq (.region [ab 45 12,bC 46 .eql 45 (.int .i64 0)]) (.cond (sT 46) (.seq (.region [bU 47 2 4,bw 48 24 [.tmp 47],⟨none,.store 2 (sT 15) (sT 48),none⟩]) (.seq (.region [bU 50 2 4,bw 51 25 [.tmp 50],ab 49 51,⟨some 52,.extract (sT 49) 0,none⟩,⟨some 53,.extract (sT 49) 1,none⟩,⟨none,.store 2 (sT 16) (sT 52),none⟩,ab 13 53]) (.region [bU 55 2 4,ab 56 5,bw 57 26 [.tmp 55,.tmp 56],ab 54 57,⟨some 58,.extract (sT 54) 0,none⟩,⟨some 59,.extract (sT 54) 1,none⟩,⟨none,.store 2 (sT 17) (sT 58),none⟩,ab 14 59]))) .skip)) (.seq (.region [ab 60 7,ab 61 12,cL 62 .eql 60 61,ab 63 62,⟨some 64,.load true 2 (sT 6),(some (63,true))⟩,⟨some 65,.load true 2 (sT 15),(some (63,true))⟩,⟨some 66,.call (.val (.a6 27 [] [])) [.tmp 64,.tmp 65],(some (63,true))⟩,⟨some 67,.pick (sT 63) (sT 66) (.val (.bool false)),none⟩,ab 68 67,fD 69 9 68 true,fD 70 13 68 true,⟨some 71,.bin .eql (sT 69) (sT 70),(some (68,true))⟩,⟨some 72,.pick (sT 68) (sT 71) (.val (.bool false)),none⟩,ab 73 72,⟨some 74,.load true 2 (sT 8),(some (73,true))⟩,⟨some 75,.load true 2 (sT 16),(some (73,true))⟩,⟨some 76,.call (.val (.a6 27 [] [])) [.tmp 74,.tmp 75],(some (73,true))⟩,⟨some 77,.pick (sT 73) (sT 76) (.val (.bool false)),none⟩,ab 78 77,fD 79 11 78 true,fD 80 14 78 true,⟨some 81,.bin .eql (sT 79) (sT 80),(some (78,true))⟩,⟨some 82,.pick (sT 78) (sT 81) (.val (.bool false)),none⟩,ab 83 82,⟨some 84,.load true 2 (sT 10),(some (83,true))⟩,⟨some 85,.load true 2 (sT 17),(some (83,true))⟩,⟨some 86,.call (.val (.a6 27 [] [])) [.tmp 84,.tmp 85],(some (83,true))⟩,⟨some 87,.pick (sT 83) (sT 86) (.val (.bool false)),none⟩,ab 88 87,⟨some 89,.call (.val (.a6 19 [] [])) [],(some (88,true))⟩,⟨some 90,.pick (sT 88) (sT 89) (.val (.bool false)),none⟩,ab 2 90])
 .ret))))))))))))
def O7:List a8:=[.tmp 2]
theorem UG:aG Tryz.prog 4 O6 O7 91:=codeOk Tryz.func4 rfl rfl
def UH:aB:=(.seq (.region [aQ 2 (.ag)]) (.seq (.region [aQ 3 (.ag)]) (.seq (.seq (.region [⟨some 6,.aJ 1 [.val (.str ⟨#[97]⟩),.val (.str ⟨#[98]⟩),.val (.str ⟨#[99]⟩)],none⟩,cJ 7 6,aQ 8 (.int .i64 0)]) (.block 0 (.loop (.seq (.region [cL 9 .lss 8 7]) (.seq (.cond (sT 9) .skip (.exit 0)) (.seq (.block 1 (.seq (.region [cM 10 1 6 8,aH 11 10,ab 5 11]) (.seq (.region [ab 12 0,bw 13 36 [.tmp 12,.val (.int .i64 2)]]) (.cond (sT 13) (.region [ab 14 3,ab 15 5,ab 16 0,⟨some 17,.aJ 1 [.val (.str ⟨#[107]⟩),.val (.str ⟨#[108]⟩),.val (.str ⟨#[98]⟩),.val (.str ⟨#[97]⟩),.val (.str ⟨#[99]⟩),.val (.str ⟨#[109]⟩)],none⟩,bw 18 63 [.tmp 16,.tmp 17],⟨some 19,.build [.str ⟨#[]⟩,.str ⟨#[]⟩] [(0,1,.tmp 15),(1,1,.tmp 18)],none⟩,⟨some 20,.aJ 2 [.tmp 19],none⟩,⟨some 21,.append 2 32 (sT 14) (sT 20),none⟩,ab 3 21]) .skip)))) (.region [bC 22 .add 8 (.int .i64 1),ab 8 22]))))))) (.seq (.seq (.region [ab 23 0,bw 24 36 [.tmp 23,.val (.int .i64 15)]]) (.cond (sT 24) (.region [ab 25 3,ab 26 0,⟨some 27,.aJ 1 [.val (.str ⟨#[97]⟩),.val (.str ⟨#[122,122]⟩)],none⟩,bw 28 63 [.tmp 26,.tmp 27],ab 29 0,⟨some 30,.aJ 1 [.val (.str ⟨#[65]⟩),.val (.str ⟨#[109,97,105,110]⟩),.val (.str ⟨#[110]⟩)],none⟩,bw 31 63 [.tmp 29,.tmp 30],⟨some 32,.build [.str ⟨#[]⟩,.str ⟨#[]⟩] [(0,1,.tmp 28),(1,1,.tmp 31)],none⟩,⟨some 33,.aJ 2 [.tmp 32],none⟩,⟨some 34,.append 2 32 (sT 25) (sT 33),none⟩,ab 3 34]) .skip)) (.seq (.region [ab 35 3,ab 2 35])
 .ret)))))
def D5:List a8:=[.tmp 2]
theorem c213:aG Tryz.prog 20 UH D5 36:=codeOk Tryz.func20 rfl rfl
def O8:aB:=(.seq (.region [⟨some 1,.box (sT 0),none⟩,⟨some 2,.alloc (.agg [.ag,.ag]),none⟩,aQ 3 (.int .i64 0)]) (.seq (.region [bU 12 2 1,bw 13 41 [.tmp 12],ab 11 13,⟨some 14,.extract (sT 11) 0,none⟩,⟨some 15,.extract (sT 11) 1,none⟩,ab 4 14,ab 5 15]) (.seq (.seq (.region [ab 16 5,bC 17 .neq 16 (.int .i64 0)]) (.cond (sT 17) (.seq (.region [⟨some 18,.build [.ag,.ag] [],none⟩,ab 19 5,⟨none,.store 2 (sT 2) (sT 18),none⟩,ab 3 19])
 .ret) .skip)) (.seq (.region [ab 20 4,bw 21 43 [.tmp 20],⟨some 6,.alloc (.kb),none⟩,⟨none,.store 1 (sT 6) (sT 21),none⟩]) (.seq (.region [bU 22 2 1,⟨some 6,.nS 6,none⟩,⟨some 23,.fC 65 [] [.tmp 6],none⟩,bw 24 64 [.tmp 22,.tmp 23],⟨some 7,.alloc (.agg [.ag,.ag]),none⟩,⟨none,.store 2 (sT 7) (sT 24),none⟩]) (.seq (.region [aQ 8 (.ag)]) (.seq (.seq (.region [aN 25 0 7,aH 26 25,cJ 27 26,aQ 28 (.int .i64 0)]) (.block 0 (.loop (.seq (.region [cL 29 .lss 28 27]) (.seq (.cond (sT 29) .skip (.exit 0)) (.seq (.block 1 (.seq (.region [ab 30 28,cM 31 3 26 28,bU 32 3 31,⟨some 10,.alloc (.agg [.str ⟨#[]⟩,.ag,.ag]),none⟩,ab 9 30,⟨none,.store 3 (sT 10) (sT 32),none⟩]) (.seq (.region [aH 33 6,⟨some 34,.b5 (sT 33),none⟩,aN 35 2 34,aH 36 35,ab 37 9,cM 38 1 36 37,aH 39 38]) (.cond (sT 39) (.region [ab 40 8,bU 41 3 10,⟨some 42,.aJ 3 [.tmp 41],none⟩,⟨some 43,.append 3 64 (sT 40) (sT 42),none⟩,ab 8 43]) .skip)))) (.region [bC 44 .add 28 (.int .i64 1),ab 28 44]))))))) (.seq (.region [ab 45 8,aN 46 0 7,⟨none,.store 1 (sT 46) (sT 45),none⟩]) (.seq (.region [bU 47 2 7,⟨none,.store 2 (sT 2) (sT 47),none⟩,aQ 3 (.int .i64 0)])
 .ret)))))))))
def GZ:List a8:=[.cell true 2 2,.tmp 3]
theorem UI:aG Tryz.prog 21 O8 GZ 48:=codeOk Tryz.func21 rfl rfl
def O9:aB:=(.seq (.region [⟨some 1,.box (sT 0),none⟩,⟨some 2,.alloc (.agg [.ag,.ag]),none⟩,aQ 3 (.int .i64 0)]) (.seq (.region [bU 14 2 1,bw 15 41 [.tmp 14],ab 13 15,⟨some 16,.extract (sT 13) 0,none⟩,⟨some 17,.extract (sT 13) 1,none⟩,ab 4 16,ab 5 17]) (.seq (.seq (.region [ab 18 5,bC 19 .neq 18 (.int .i64 0)]) (.cond (sT 19) (.seq (.region [⟨some 20,.build [.ag,.ag] [],none⟩,ab 21 5,⟨none,.store 2 (sT 2) (sT 20),none⟩,ab 3 21])
 .ret) .skip)) (.seq (.region [ab 22 4,⟨some 23,.build [.kb,.ag,.ag] [(0,1,.tmp 22)],none⟩,⟨some 24,.box (sT 23),none⟩,ab 6 24]) (.seq (.region [ab 26 6,ab 27 4,bw 28 66 [.tmp 27],ab 25 28,⟨some 29,.extract (sT 25) 0,none⟩,⟨some 30,.extract (sT 25) 1,none⟩,⟨some 31,.b5 (sT 26),none⟩,aN 32 1 31,⟨none,.store 1 (sT 32) (sT 30),none⟩]) (.seq (.seq (.region [aN 33 0 1,aH 34 33,cJ 35 34,aQ 36 (.int .i64 0)]) (.block 0 (.loop (.seq (.region [cL 37 .lss 36 35]) (.seq (.cond (sT 37) .skip (.exit 0)) (.seq (.block 1 (.region [ab 38 6,ab 39 6,⟨some 40,.b5 (sT 39),none⟩,aN 41 2 40,aH 42 41,⟨some 43,.aJ 1 [.val (.int .i64 (-1))],none⟩,⟨some 44,.append 1 8 (sT 42) (sT 43),none⟩,⟨some 45,.b5 (sT 38),none⟩,aN 46 2 45,⟨none,.store 1 (sT 46) (sT 44),none⟩])) (.region [bC 47 .add 36 (.int .i64 1),ab 36 47]))))))) (.seq (.region [ab 48 6,ab 49 4,⟨some 50,.b5 (sT 49),none⟩,aN 51 2 50,aH 52 51,bw 53 67 [.tmp 48,.tmp 52],ab 7 53]) (.seq (.seq (.region [aN 54 0 1,aH 55 54,cJ 56 55,aQ 57 (.int .i64 0)]) (.block 2 (.loop (.seq (.region [cL 58 .lss 57 56]) (.seq (.cond (sT 58) .skip (.exit 2)) (.seq (.block 3 (.seq (.region [ab 59 57,ab 8 59]) (.seq (.region [ab 60 6,⟨some 61,.b5 (sT 60),none⟩,aN 62 1 61,aH 63 62,ab 64 8,cM 65 1 63 64,aH 66 65,bC 67 .geq 66 (.int .i64 0)]) (.cond (sT 67) (.region [ab 68 7,ab 69 6,ab 70 4,⟨some 71,.b5 (sT 70),none⟩,aN 72 3 71,aH 73 72,ab 74 8,cM 75 1 73 74,aH 76 75,bw 77 67 [.tmp 69,.tmp 76],cL 78 .add 68 77,ab 7 78]) .skip)))) (.region [bC 79 .add 57 (.int .i64 1),ab 57 79]))))))) (.seq (.seq (.region [ab 80 7,bC 81 .gtr 80 (.int .i64 2000)]) (.cond (sT 81) (.seq (.region [⟨some 82,.build [.ag,.ag] [],none⟩,⟨none,.store 2 (sT 2) (sT 82),none⟩,aQ 3 (.int .i64 12)])
 .ret) .skip)) (.seq (.region [⟨some 6,.nS 6,none⟩,ab 83 6,ab 84 4,⟨some 85,.b5 (sT 84),none⟩,aN 86 2 85,aH 87 86,bw 88 68 [.tmp 83,.tmp 87,.val (.cG)],⟨some 89,.build [.ag,.ag] [(1,1,.tmp 88)],none⟩,⟨some 9,.alloc (.agg [.ag,.ag]),none⟩,⟨none,.store 2 (sT 9) (sT 89),none⟩]) (.seq (.seq (.region [aN 90 0 1,aH 91 90,cJ 92 91,aQ 93 (.int .i64 0)]) (.block 4 (.loop (.seq (.region [cL 94 .lss 93 92]) (.seq (.cond (sT 94) .skip (.exit 4)) (.seq (.block 5 (.seq (.region [ab 95 93,cM 96 3 91 93,bU 97 3 96,⟨some 11,.alloc (.agg [.str ⟨#[]⟩,.ag,.ag]),none⟩,ab 10 95,⟨none,.store 3 (sT 11) (sT 97),none⟩]) (.seq (.region [ab 98 6,⟨some 99,.b5 (sT 98),none⟩,aN 100 1 99,aH 101 100,ab 102 10,cM 103 1 101 102,aH 104 103,bC 105 .geq 104 (.int .i64 0)]) (.cond (sT 105) (.qregion [⟨aN 106 0 9,false,0,0,0⟩,⟨aH 107 106,false,0,0,1⟩,⟨aN 108 0 11,false,0,0,0⟩,⟨aH 109 108,false,0,0,4⟩,⟨aN 110 1 11,false,0,0,0⟩,⟨aH 111 110,false,0,0,16⟩,⟨bw 112 69 [.tmp 111],false,0,0,48⟩,⟨ab 113 6,false,0,0,0⟩,⟨ab 114 4,false,0,0,0⟩,⟨⟨some 115,.b5 (sT 114),none⟩,false,0,0,256⟩,⟨aN 116 3 115,false,0,0,768⟩,⟨aH 117 116,false,0,0,1792⟩,⟨ab 118 10,false,0,0,0⟩,⟨cM 119 1 117 118,false,0,0,7936⟩,⟨aH 120 119,false,0,0,16128⟩,⟨bw 121 68 [.tmp 113,.tmp 120,.val (.cG)],false,0,0,32752⟩,⟨⟨some 122,.build [.str ⟨#[]⟩,.ag,.ag] [(0,1,.tmp 109),(1,1,.tmp 112),(2,1,.tmp 121)],none⟩,false,0,0,65532⟩,⟨⟨some 123,.aJ 3 [.tmp 122],none⟩,false,0,0,131068⟩,⟨⟨some 124,.append 3 64 (sT 107) (sT 123),none⟩,true,0,0,262143⟩,⟨aN 125 0 9,false,1,1,524287⟩,⟨⟨none,.store 1 (sT 125) (sT 124),none⟩,true,0,0,1048575⟩]) .skip)))) (.region [bC 126 .add 93 (.int .i64 1),ab 93 126]))))))) (.seq (.seq (.region [bU 127 2 9,bw 128 70 [.tmp 127],ab 12 128]) (.seq (.region [ab 129 12,bC 130 .neq 129 (.int .i64 0)]) (.cond (sT 130) (.seq (.region [⟨some 131,.build [.ag,.ag] [],none⟩,ab 132 12,⟨none,.store 2 (sT 2) (sT 131),none⟩,ab 3 132])
 .ret) .skip))) (.seq (.region [bU 133 2 9,⟨none,.store 2 (sT 2) (sT 133),none⟩,aQ 3 (.int .i64 0)])
 .ret)))))))))))))
def zd:List a8:=[.cell true 2 2,.tmp 3]
theorem UJ:aG Tryz.prog 22 O9 zd 134:=codeOk Tryz.func22 rfl rfl
def UK:aB:=(.seq (.region [⟨some 2,.box (sT 0),none⟩,⟨some 4,.alloc (.agg [.ag,.ag]),none⟩,aQ 5 (.int .i64 0)]) (.seq (.seq (.region [bU 12 2 2,bw 13 71 [.tmp 12],ab 6 13]) (.seq (.region [ab 14 6,bC 15 .neq 14 (.int .i64 0)]) (.cond (sT 15) (.seq (.region [⟨some 16,.build [.ag,.ag] [],none⟩,ab 17 6,⟨none,.store 2 (sT 4) (sT 16),none⟩,ab 5 17])
 .ret) .skip))) (.seq (.seq (.region [bU 18 2 2,bw 19 73 [.tmp 18],ab 20 1,bw 21 72 [.tmp 19,.tmp 20],ab 7 21]) (.seq (.region [ab 22 7,bC 23 .neq 22 (.int .i64 0)]) (.cond (sT 23) (.seq (.region [⟨some 24,.build [.ag,.ag] [],none⟩,ab 25 7,⟨none,.store 2 (sT 4) (sT 24),none⟩,ab 5 25])
 .ret) .skip))) (.seq (.region [⟨some 26,.gm,none⟩,⟨some 8,.alloc (.cG),none⟩,⟨none,.store 1 (sT 8) (sT 26),none⟩]) (.seq (.seq (.region [ab 27 1,cJ 28 27,aQ 29 (.int .i64 0)]) (.block 0 (.loop (.seq (.region [cL 30 .lss 29 28]) (.seq (.cond (sT 30) .skip (.exit 0)) (.seq (.block 1 (.seq (.region [cM 31 2 27 29,bU 32 2 31,⟨some 10,.alloc (.agg [.str ⟨#[]⟩,.str ⟨#[]⟩]),none⟩,⟨none,.store 2 (sT 10) (sT 32),none⟩]) (.region [aH 33 8,aN 34 0 10,aH 35 34,aN 36 1 10,aH 37 36,⟨none,.kG (false,[true]) (sT 33) (sT 35) (sT 37),none⟩]))) (.region [bC 38 .add 29 (.int .i64 1),ab 29 38]))))))) (.seq (.region [aN 39 1 2,aH 40 39,bw 41 74 [.tmp 40],cJ 42 41,⟨some 11,.alloc (.int .i64 0),none⟩,⟨none,.store 1 (sT 11) (sT 42),none⟩]) (.seq (.region [bU 43 2 2,⟨some 11,.nS 11,none⟩,⟨some 8,.nS 8,none⟩,⟨some 44,.fC 75 [] [.tmp 11,.tmp 8],none⟩,bw 45 64 [.tmp 43,.tmp 44],⟨none,.store 2 (sT 4) (sT 45),none⟩,aQ 5 (.int .i64 0)])
 .ret)))))))
def Kf:List a8:=[.cell true 2 4,.tmp 5]
theorem c216:aG Tryz.prog 23 UK Kf 46:=codeOk Tryz.func23 rfl rfl
def UL:aB:=(.seq (.region [⟨some 1,.box (sT 0),none⟩,⟨some 2,.alloc (.agg [.ag,.ag]),none⟩]) (.seq (.region [bU 6 2 1,bw 7 57 [.tmp 6],ab 5 7,⟨some 8,.extract (sT 5) 0,none⟩,⟨some 9,.extract (sT 5) 1,none⟩,⟨some 3,.alloc (.agg [.ag,.ag]),none⟩,⟨none,.store 2 (sT 3) (sT 8),none⟩,ab 4 9]) (.seq (.region [bU 10 2 3,⟨none,.store 2 (sT 2) (sT 10),none⟩])
 .ret)))
def UM:List a8:=[.cell true 2 2]
theorem c217:aG Tryz.prog 24 UL UM 11:=codeOk Tryz.func24 rfl rfl
def UN:aB:=(.seq (.region [⟨some 2,.box (sT 0),none⟩,⟨some 4,.alloc (.agg [.ag,.ag]),none⟩,aQ 5 (.int .i64 0)]) (.seq (.seq (.region [ab 20 1,cJ 21 20,bC 22 .gtr 21 (.int .i64 12)]) (.cond (sT 22) (.seq (.region [⟨some 23,.build [.ag,.ag] [],none⟩,⟨none,.store 2 (sT 4) (sT 23),none⟩,aQ 5 (.int .i64 2)])
 .ret) .skip)) (.seq (.region [bU 24 2 2,bw 25 81 [.tmp 24],ab 6 25]) (.seq (.region [⟨some 26,.gm,none⟩,⟨some 7,.alloc (.cG),none⟩,⟨none,.store 1 (sT 7) (sT 26),none⟩]) (.seq (.region [aQ 8 (.ag)]) (.seq (.seq (.region [ab 27 1,cJ 28 27,aQ 29 (.int .i64 0)]) (.block 0 (.loop (.seq (.region [cL 30 .lss 29 28]) (.seq (.cond (sT 30) .skip (.exit 0)) (.seq (.block 1 (.seq (.region [cM 31 2 27 29,bU 32 2 31,⟨some 10,.alloc (.agg [.str ⟨#[]⟩,.str ⟨#[]⟩]),none⟩,⟨none,.store 2 (sT 10) (sT 32),none⟩]) (.seq (.seq (.region [ab 33 6,aN 34 0 10,aH 35 34,bw 36 51 [.tmp 33,.tmp 35],⟨some 37,.un .not (sT 36),none⟩,ab 38 37,dP 39 1 10 38 false,dy 40 39 38 false,⟨some 41,.call (.val (.a6 82 [] [])) [.tmp 40],(some (38,false))⟩,⟨some 42,.un .not (sT 41),(some (38,false))⟩,⟨some 43,.pick (sT 38) (.val (.bool true)) (sT 42),none⟩]) (.cond (sT 43) (.seq (.region [⟨some 44,.build [.ag,.ag] [],none⟩,⟨none,.store 2 (sT 4) (sT 44),none⟩,aQ 5 (.int .i64 5)])
 .ret) .skip)) (.seq (.seq (.region [aH 46 7,aN 47 0 10,aH 48 47,⟨some 49,.eu (false,[true]) true (.str ⟨#[]⟩) (sT 46) (sT 48),none⟩,ab 45 49,⟨some 50,.extract (sT 45) 0,none⟩,⟨some 51,.extract (sT 45) 1,none⟩,ab 11 50,ab 12 51]) (.seq (.region [ab 52 12,ab 53 52,fD 54 8 53 false,dP 55 1 10 53 false,dy 56 55 53 false,⟨some 57,.call (.val (.a6 51 [] [])) [.tmp 54,.tmp 56],(some (53,false))⟩,⟨some 58,.pick (sT 53) (.val (.bool true)) (sT 57),none⟩]) (.cond (sT 58) (.seq (.region [⟨some 59,.build [.ag,.ag] [],none⟩,⟨none,.store 2 (sT 4) (sT 59),none⟩,aQ 5 (.int .i64 6)])
 .ret) .skip))) (.seq (.region [aH 60 7,aN 61 0 10,aH 62 61,aN 63 1 10,aH 64 63,⟨none,.kG (false,[true]) (sT 60) (sT 62) (sT 64),none⟩]) (.region [ab 65 8,aN 66 1 10,aH 67 66,⟨some 68,.aJ 1 [.tmp 67],none⟩,⟨some 69,.append 1 16 (sT 65) (sT 68),none⟩,ab 8 69])))))) (.region [bC 70 .add 29 (.int .i64 1),ab 29 70]))))))) (.seq (.seq (.region [ab 71 8,⟨some 71,.nS 71,none⟩,cJ 72 71,aQ 73 (.int .i64 0)]) (.block 2 (.loop (.seq (.region [cL 74 .lss 73 72]) (.seq (.cond (sT 74) .skip (.exit 2)) (.seq (.block 3 (.seq (.region [cM 75 1 71 73,aH 76 75,ab 14 76]) (.seq (.region [aH 78 7,ab 79 14,⟨some 80,.eu (false,[true]) true (.str ⟨#[]⟩) (sT 78) (sT 79),none⟩,ab 77 80,⟨some 81,.extract (sT 77) 0,none⟩,⟨some 82,.extract (sT 77) 1,none⟩,ab 15 81,ab 16 82]) (.seq (.region [ab 83 16,⟨some 84,.un .not (sT 83),none⟩,ab 85 84,fD 86 6 85 true,fD 87 14 85 true,⟨some 88,.call (.val (.a6 51 [] [])) [.tmp 86,.tmp 87],(some (85,true))⟩,⟨some 89,.pick (sT 85) (sT 88) (.val (.bool false)),none⟩]) (.cond (sT 89) (.seq (.region [⟨some 90,.build [.ag,.ag] [],none⟩,⟨none,.store 2 (sT 4) (sT 90),none⟩,aQ 5 (.int .i64 13)])
 .ret) .skip))))) (.region [bC 91 .add 73 (.int .i64 1),ab 73 91]))))))) (.seq (.region [⟨some 7,.nS 7,none⟩,⟨some 2,.nS 2,none⟩,bU 92 2 2,bw 93 77 [.tmp 92],⟨some 94,.field false 0 1 (sT 93),none⟩,⟨some 95,.build [.ag,.ag] [(0,1,.tmp 94)],none⟩,⟨some 17,.alloc (.agg [.ag,.ag]),none⟩,⟨none,.store 2 (sT 17) (sT 95),none⟩]) (.seq (.seq (.region [aN 96 1 2,aH 97 96,cJ 98 97,aQ 99 (.int .i64 0)]) (.block 4 (.loop (.seq (.region [cL 100 .lss 99 98]) (.seq (.cond (sT 100) .skip (.exit 4)) (.seq (.block 5 (.seq (.region [cM 101 13 97 99,bU 102 13 101,⟨some 19,.alloc (.agg [.int .i64 0,.str ⟨#[]⟩,.str ⟨#[]⟩,.str ⟨#[]⟩,.str ⟨#[]⟩,.int .i64 0,.int .i64 0,.str ⟨#[]⟩,.ag,.ag,.ag,.str ⟨#[]⟩,.ag]),none⟩,⟨none,.store 13 (sT 19) (sT 102),none⟩]) (.qregion [⟨aN 103 1 17,false,0,0,0⟩,⟨aH 104 103,false,0,0,1⟩,⟨bU 105 13 19,false,0,0,0⟩,⟨⟨some 106,.fC 84 [] [.tmp 7],none⟩,false,0,0,0⟩,⟨bw 107 83 [.tmp 105,.tmp 106],false,0,0,12⟩,⟨⟨some 108,.aJ 13 [.tmp 107],none⟩,false,0,0,28⟩,⟨⟨some 109,.append 13 216 (sT 104) (sT 108),none⟩,true,0,0,63⟩,⟨aN 110 1 17,false,1,1,127⟩,⟨⟨none,.store 1 (sT 110) (sT 109),none⟩,true,0,0,255⟩]))) (.region [bC 111 .add 99 (.int .i64 1),ab 99 111]))))))) (.seq (.region [bU 112 2 17,⟨none,.store 2 (sT 4) (sT 112),none⟩,aQ 5 (.int .i64 0)])
 .ret))))))))))
def xn:List a8:=[.cell true 2 4,.tmp 5]
theorem c219:aG Tryz.prog 26 UN xn 113:=codeOk Tryz.func26 rfl rfl
def UO:aB:=(.seq (.region [⟨some 2,.box (sT 0),none⟩,⟨some 3,.box (sT 1),none⟩,aQ 4 (.bool false)]) (.seq (.region [aQ 5 (.a6 85 [] [])]) (.seq (.region [aN 6 0 2,aH 7 6,aN 8 0 3,aH 9 8,ab 10 5,bw 11 87 [.tmp 7,.tmp 9,.tmp 10],ab 12 11,dP 13 1 2 12 true,dy 14 13 12 true,dP 15 1 3 12 true,dy 16 15 12 true,⟨some 17,.call (.val (.a6 86 [] [])) [.tmp 14,.tmp 16],(some (12,true))⟩,⟨some 18,.pick (sT 12) (sT 17) (.val (.bool false)),none⟩,ab 4 18])
 .ret)))
def UP:List a8:=[.tmp 4]
theorem c220:aG Tryz.prog 27 UO UP 19:=codeOk Tryz.func27 rfl rfl
def Pb:aB:=(.seq (.region [⟨some 4,.box (sT 1),none⟩,aQ 5 (.ag)]) (.seq (.seq (.region [aH 6 2,⟨some 7,.b5 (sT 6),none⟩,aN 8 1 7,aH 9 8,ab 10 0,⟨some 11,.eu (false,[false]) false (.bool false) (sT 9) (sT 10),none⟩,⟨some 12,.un .not (sT 11),none⟩]) (.cond (sT 12) (.seq (.region [aQ 5 (.ag)])
 .ret) .skip)) (.seq (.region [bU 13 13 4,⟨some 14,.aJ 13 [.tmp 13],none⟩,ab 5 14])
 .ret)))
def Pc:List a8:=[.tmp 5]
theorem c240:aG Tryz.prog 65 Pb Pc 15:=codeOk Tryz.func65 rfl rfl
def UQ:aB:=(.seq (.region [aQ 2 (.ag),aQ 3 (.ag)]) (.seq (.region [ab 10 0,bw 11 139 [.tmp 10],ab 4 11]) (.seq (.region [ab 12 4,cJ 13 12,⟨some 14,.Eu (.int .i64 0) (sT 13),none⟩,ab 3 14]) (.seq (.seq (.region [ab 15 3,cJ 16 15,aQ 17 (.int .i64 0)]) (.block 0 (.loop (.seq (.region [cL 18 .lss 17 16]) (.seq (.cond (sT 18) .skip (.exit 0)) (.seq (.block 1 (.seq (.region [ab 19 17,ab 5 19]) (.region [ab 20 3,ab 21 5,cM 22 1 20 21,⟨none,.store 1 (sT 22) (.val (.int .i64 (-1))),none⟩]))) (.region [bC 23 .add 17 (.int .i64 1),ab 17 23]))))))) (.seq (.seq (.region [ab 24 4,cJ 25 24,aQ 26 (.int .i64 0)]) (.block 2 (.loop (.seq (.region [cL 27 .lss 26 25]) (.seq (.cond (sT 27) .skip (.exit 2)) (.seq (.block 3 (.seq (.region [ab 28 26,cM 29 1 24 26,aH 30 29,ab 6 28,ab 7 30]) (.seq (.seq (.region [ab 31 3,ab 32 6,cM 33 1 31 32,aH 34 33,bC 35 .geq 34 (.int .i64 0),ab 36 35,fD 37 7 36 false,fD 38 6 36 false,⟨some 39,.eu (false,[false]) false (.bool false) (sT 37) (sT 38),(some (36,false))⟩,⟨some 40,.un .not (sT 39),(some (36,false))⟩,⟨some 41,.pick (sT 36) (.val (.bool true)) (sT 40),none⟩]) (.cond (sT 41) (.exit 3) .skip)) (.seq (.region [aQ 8 (.ag)]) (.seq (.seq (.region [ab 42 6,ab 9 42]) (.block 4 (.loop (.seq (.seq (.region [ab 43 9,ab 44 4,cJ 45 44,cL 46 .lss 43 45]) (.cond (sT 46) .skip (.exit 4))) (.seq (.block 5 (.seq (.region [ab 49 7,ab 50 9,⟨some 51,.eu (false,[false]) false (.bool false) (sT 49) (sT 50),none⟩,ab 52 51,fD 53 4 52 true,fD 54 9 52 true,⟨some 55,.gk 1 (sT 53) (sT 54),(some (52,true))⟩,dy 56 55 52 true,fD 57 6 52 true,⟨some 58,.eu (false,[false]) false (.bool false) (sT 56) (sT 57),(some (52,true))⟩,⟨some 59,.pick (sT 52) (sT 58) (.val (.bool false)),none⟩]) (.cond (sT 59) (.seq (.region [ab 60 3,ab 61 9,ab 62 2,cJ 63 62,cM 64 1 60 61,⟨none,.store 1 (sT 64) (sT 63),none⟩]) (.region [ab 65 8,ab 66 9,⟨some 67,.aJ 1 [.tmp 66],none⟩,⟨some 68,.append 1 8 (sT 65) (sT 67),none⟩,ab 8 68])) .skip))) (.region [ab 47 9,bC 48 .add 47 (.int .i64 1),ab 9 48])))))) (.region [ab 69 2,ab 70 8,⟨some 70,.nS 70,none⟩,⟨some 71,.aJ 1 [.tmp 70],none⟩,⟨some 72,.append 1 24 (sT 69) (sT 71),none⟩,ab 2 72])))))) (.region [bC 73 .add 26 (.int .i64 1),ab 26 73]))))))) (.seq (.region [ab 74 2,ab 75 3,ab 2 74,ab 3 75])
 .ret))))))
def UR:List a8:=[.tmp 2,.tmp 3]
theorem c241:aG Tryz.prog 66 UQ UR 76:=codeOk Tryz.func66 rfl rfl
def US:aB:=(.seq (.region [aQ 4 (.int .i64 0)]) (.seq (.region [aQ 5 (.int .i64 0)]) (.seq (.seq (.region [ab 8 1,cJ 9 8,aQ 10 (.int .i64 0)]) (.block 0 (.loop (.seq (.region [cL 11 .lss 10 9]) (.seq (.cond (sT 11) .skip (.exit 0)) (.seq (.block 1 (.seq (.region [cM 12 17 8 10,bU 13 17 12,⟨some 7,.alloc (.agg [.int .i64 0,.int .i64 0,.str ⟨#[]⟩,.str ⟨#[]⟩,.str ⟨#[]⟩,.str ⟨#[]⟩,.int .i64 0,.int .i64 0,.str ⟨#[]⟩,.ag,.ag,.ag,.str ⟨#[]⟩,.ag,.int .i64 0,.ag,.ag]),none⟩,⟨none,.store 17 (sT 7) (sT 13),none⟩]) (.seq (.seq (.qregion [⟨aN 14 14 7,false,0,0,0⟩,⟨aH 15 14,false,0,0,1⟩,⟨bC 16 .geq 15 (.int .i64 0),false,0,0,3⟩,⟨ab 17 16,false,0,0,7⟩,⟨fD 18 0 17 true,false,0,0,15⟩,⟨⟨some 19,.b5 (sT 18),(some (17,true))⟩,false,0,0,31⟩,⟨dP 20 1 19 17 true,false,0,0,63⟩,⟨dy 21 20 17 true,false,0,0,127⟩,⟨dP 22 14 7 17 true,false,0,0,15⟩,⟨dy 23 22 17 true,false,0,0,271⟩,⟨⟨some 24,.gk 1 (sT 21) (sT 23),(some (17,true))⟩,false,0,0,1023⟩,⟨dy 25 24 17 true,false,0,0,2047⟩,⟨⟨some 26,.bin .lss (sT 25) (.val (.int .i64 0)),(some (17,true))⟩,false,0,0,4095⟩,⟨⟨some 27,.pick (sT 17) (sT 26) (.val (.bool false)),none⟩,false,0,0,8191⟩]) (.cond (sT 27) (.region [ab 28 5,ab 29 0,aN 30 14 7,aH 31 30,bw 32 140 [.tmp 29,.tmp 31],cL 33 .add 28 32,ab 5 33]) (.qregion [⟨ab 34 5,false,0,2,0⟩,⟨ab 35 0,false,0,0,0⟩,⟨aN 36 15 7,false,0,0,0⟩,⟨aH 37 36,false,0,0,4⟩,⟨bw 38 67 [.tmp 35,.tmp 37],true,0,0,14⟩,⟨⟨some 39,.bin .add (.val (.int .i64 1)) (sT 38),none⟩,false,1,2,30⟩,⟨ab 40 0,false,0,1,0⟩,⟨aN 41 16 7,false,0,1,0⟩,⟨aH 42 41,false,0,1,128⟩,⟨bw 43 67 [.tmp 40,.tmp 42],true,0,0,478⟩,⟨cL 44 .add 39 43,false,2,2,1022⟩,⟨cL 45 .add 34 44,false,2,2,2047⟩,⟨ab 5 45,false,2,2,4095⟩]))) (.region [ab 46 5,⟨some 47,.mm false (sT 46) (.val (.int .i64 2001)),none⟩,ab 5 47])))) (.region [bC 48 .add 10 (.int .i64 1),ab 10 48]))))))) (.seq (.region [ab 49 5,ab 4 49])
 .ret))))
def UT:List a8:=[.tmp 4]
theorem c242:aG Tryz.prog 67 US UT 50:=codeOk Tryz.func67 rfl rfl
def UU:aB:=(.seq (.region [aQ 6 (.ag)]) (.seq (.region [aQ 7 (.ag)]) (.seq (.seq (.region [ab 14 1,cJ 15 14,aQ 16 (.int .i64 0)]) (.block 0 (.loop (.seq (.region [cL 17 .lss 16 15]) (.seq (.cond (sT 17) .skip (.exit 0)) (.seq (.block 1 (.seq (.region [cM 18 17 14 16,bU 19 17 18,⟨some 9,.alloc (.agg [.int .i64 0,.int .i64 0,.str ⟨#[]⟩,.str ⟨#[]⟩,.str ⟨#[]⟩,.str ⟨#[]⟩,.int .i64 0,.int .i64 0,.str ⟨#[]⟩,.ag,.ag,.ag,.str ⟨#[]⟩,.ag,.int .i64 0,.ag,.ag]),none⟩,⟨none,.store 17 (sT 9) (sT 19),none⟩]) (.seq (.region [aN 20 1 9,bU 21 13 20,ab 22 2,bw 23 76 [.tmp 21,.tmp 22],⟨some 10,.alloc (.agg [.int .i64 0,.str ⟨#[]⟩,.str ⟨#[]⟩,.str ⟨#[]⟩,.str ⟨#[]⟩,.int .i64 0,.int .i64 0,.str ⟨#[]⟩,.ag,.ag,.ag,.str ⟨#[]⟩,.ag]),none⟩,⟨none,.store 13 (sT 10) (sT 23),none⟩]) (.seq (.seq (.qregion [⟨aN 24 14 9,false,0,0,0⟩,⟨aH 25 24,false,0,0,1⟩,⟨bC 26 .geq 25 (.int .i64 0),false,0,0,3⟩,⟨ab 27 26,false,0,0,7⟩,⟨fD 28 0 27 true,false,0,0,15⟩,⟨⟨some 29,.b5 (sT 28),(some (27,true))⟩,false,0,0,31⟩,⟨dP 30 1 29 27 true,false,0,0,63⟩,⟨dy 31 30 27 true,false,0,0,127⟩,⟨dP 32 14 9 27 true,false,0,0,15⟩,⟨dy 33 32 27 true,false,0,0,271⟩,⟨⟨some 34,.gk 1 (sT 31) (sT 33),(some (27,true))⟩,false,0,0,1023⟩,⟨dy 35 34 27 true,false,0,0,2047⟩,⟨⟨some 36,.bin .lss (sT 35) (.val (.int .i64 0)),(some (27,true))⟩,false,0,0,4095⟩,⟨⟨some 37,.pick (sT 27) (sT 36) (.val (.bool false)),none⟩,false,0,0,8191⟩]) (.cond (sT 37) (.seq (.seq (.region [ab 38 0,aN 39 14 9,aH 40 39,bw 41 140 [.tmp 38,.tmp 40],bC 42 .eql 41 (.int .i64 0)]) (.cond (sT 42) (.exit 1) .skip)) (.seq (.region [⟨some 43,.gm,none⟩,ab 11 43]) (.seq (.seq (.qregion [⟨ab 44 0,false,0,0,0⟩,⟨⟨some 45,.b5 (sT 44),none⟩,false,0,0,1⟩,⟨aN 46 0 45,false,0,0,3⟩,⟨aH 47 46,false,0,0,7⟩,⟨⟨some 48,.b5 (sT 47),none⟩,false,0,0,15⟩,⟨aN 49 0 48,false,0,0,31⟩,⟨aN 50 0 49,false,0,0,63⟩,⟨aH 51 50,false,0,0,127⟩,⟨aN 52 14 9,false,0,0,0⟩,⟨aH 53 52,false,0,0,256⟩,⟨cM 54 3 51 53,false,0,0,1023⟩,⟨aN 55 1 54,false,0,0,2047⟩,⟨aH 56 55,false,0,0,4095⟩,⟨cJ 57 56,false,0,0,8191⟩,⟨aQ 58 (.int .i64 0),false,0,0,0⟩]) (.block 2 (.loop (.seq (.region [cL 59 .lss 58 57]) (.seq (.cond (sT 59) .skip (.exit 2)) (.seq (.block 3 (.seq (.region [ab 60 58,cM 61 1 56 58,aH 62 61,ab 12 60,ab 13 62]) (.region [ab 63 11,ab 64 13,aN 65 12 10,aH 66 65,ab 67 12,cM 68 1 66 67,aH 69 68,⟨none,.kG (false,[true]) (sT 63) (sT 64) (sT 69),none⟩]))) (.region [bC 70 .add 58 (.int .i64 1),ab 58 70]))))))) (.seq (.fregion 11 [⟨ab 71 7,false,0,0,0⟩,⟨ab 72 0,false,0,0,0⟩,⟨ab 73 0,false,0,0,0⟩,⟨⟨some 74,.b5 (sT 73),none⟩,false,0,0,4⟩,⟨aN 75 0 74,false,0,0,12⟩,⟨aH 76 75,false,0,0,28⟩,⟨⟨some 77,.b5 (sT 76),none⟩,false,0,0,60⟩,⟨aN 78 3 77,false,0,0,124⟩,⟨aH 79 78,false,0,0,252⟩,⟨aN 80 14 9,false,0,0,0⟩,⟨aH 81 80,false,0,0,512⟩,⟨cM 82 1 79 81,false,0,0,2044⟩,⟨aH 83 82,false,0,0,4092⟩,⟨ab 84 11,false,0,0,0⟩,⟨bw 85 68 [.tmp 72,.tmp 83,.tmp 84],false,0,0,16382⟩,⟨⟨some 86,.append 13 216 (sT 71) (sT 85),none⟩,true,0,0,32767⟩,⟨ab 7 86,false,1,1,65535⟩]) (.exit 1))))) .skip)) (.seq (.qregion [⟨ab 87 0,false,0,0,0⟩,⟨aN 88 15 9,false,0,0,0⟩,⟨aH 89 88,false,0,0,2⟩,⟨ab 90 2,false,0,0,0⟩,⟨bw 91 68 [.tmp 87,.tmp 89,.tmp 90],false,0,0,15⟩,⟨ab 92 0,false,0,0,0⟩,⟨aN 93 16 9,false,0,0,0⟩,⟨aH 94 93,false,0,0,64⟩,⟨ab 95 2,false,0,0,0⟩,⟨bw 96 68 [.tmp 92,.tmp 94,.tmp 95],false,0,0,511⟩,⟨aN 97 9 10,false,0,0,31⟩,⟨⟨none,.store 1 (sT 97) (sT 91),none⟩,true,0,0,2047⟩,⟨aN 98 10 10,false,1,1,4095⟩,⟨⟨none,.store 1 (sT 98) (sT 96),none⟩,true,0,0,8191⟩]) (.region [ab 99 7,bU 100 13 10,⟨some 101,.aJ 13 [.tmp 100],none⟩,⟨some 102,.append 13 216 (sT 99) (sT 101),none⟩,ab 7 102])))))) (.region [bC 103 .add 16 (.int .i64 1),ab 16 103]))))))) (.seq (.region [ab 104 7,ab 6 104])
 .ret))))
def D6:List a8:=[.tmp 6]
theorem c243:aG Tryz.prog 68 UU D6 105:=codeOk Tryz.func68 rfl rfl
def UW:aB:=(.seq (.region [aQ 4 (.int .i64 0)]) (.seq (.seq (.region [ab 9 1,cJ 10 9,bC 11 .gtr 10 (.int .i64 12)]) (.cond (sT 11) (.seq (.region [aQ 4 (.int .i64 2)])
 .ret) .skip)) (.seq (.seq (.region [ab 12 1,cJ 13 12,aQ 14 (.int .i64 0)]) (.block 0 (.loop (.seq (.region [cL 15 .lss 14 13]) (.seq (.cond (sT 15) .skip (.exit 0)) (.seq (.block 1 (.seq (.region [ab 16 14,cM 17 2 12 14,bU 18 2 17,⟨some 6,.alloc (.agg [.str ⟨#[]⟩,.str ⟨#[]⟩]),none⟩,ab 5 16,⟨none,.store 2 (sT 6) (sT 18),none⟩]) (.seq (.seq (.region [ab 19 0,aN 20 0 6,aH 21 20,bw 22 51 [.tmp 19,.tmp 21],⟨some 23,.un .not (sT 22),none⟩,ab 24 23,dP 25 1 6 24 false,dy 26 25 24 false,⟨some 27,.call (.val (.a6 145 [] [])) [.tmp 26],(some (24,false))⟩,⟨some 28,.un .not (sT 27),(some (24,false))⟩,⟨some 29,.pick (sT 24) (.val (.bool true)) (sT 28),none⟩]) (.cond (sT 29) (.seq (.region [aQ 4 (.int .i64 5)])
 .ret) .skip)) (.seq (.region [ab 30 1,ab 31 5,⟨some 32,.slice 2 (sT 30) none (some (sT 31)),none⟩,⟨some 33,.fC 147 [] [.tmp 6],none⟩,bw 34 146 [.tmp 32,.tmp 33]]) (.cond (sT 34) (.seq (.region [aQ 4 (.int .i64 6)])
 .ret) .skip))))) (.region [bC 35 .add 14 (.int .i64 1),ab 14 35]))))))) (.seq (.seq (.region [ab 36 1,cJ 37 36,aQ 38 (.int .i64 0)]) (.block 2 (.loop (.seq (.region [cL 39 .lss 38 37]) (.seq (.cond (sT 39) .skip (.exit 2)) (.seq (.block 3 (.seq (.region [cM 40 2 36 38,bU 41 2 40,⟨some 8,.alloc (.agg [.str ⟨#[]⟩,.str ⟨#[]⟩]),none⟩,⟨none,.store 2 (sT 8) (sT 41),none⟩]) (.seq (.region [ab 42 0,aN 43 1 8,aH 44 43,bw 45 51 [.tmp 42,.tmp 44],ab 46 45,fD 47 1 46 true,⟨some 48,.fC 148 [] [.tmp 8],(some (46,true))⟩,⟨some 49,.call (.val (.a6 146 [] [])) [.tmp 47,.tmp 48],(some (46,true))⟩,⟨some 50,.un .not (sT 49),(some (46,true))⟩,⟨some 51,.pick (sT 46) (sT 50) (.val (.bool false)),none⟩]) (.cond (sT 51) (.seq (.region [aQ 4 (.int .i64 13)])
 .ret) .skip)))) (.region [bC 52 .add 38 (.int .i64 1),ab 38 52]))))))) (.seq (.region [aQ 4 (.int .i64 0)])
 .ret)))))
def G0:List a8:=[.tmp 4]
theorem c244:aG Tryz.prog 72 UW G0 53:=codeOk Tryz.func72 rfl rfl
def UX:aB:=(.seq (.region [⟨some 1,.box (sT 0),none⟩,aQ 2 (.ag)]) (.seq (.region [⟨some 3,.alloc (.ag),none⟩]) (.seq (.region [aN 4 1 1,aH 5 4,⟨some 6,.fC 150 [] [.tmp 3],none⟩,bw 7 149 [.tmp 5,.val (.int .i64 0),.tmp 6]]) (.seq (.region [aH 8 3,bw 9 101 [.tmp 8]]) (.seq (.region [aH 10 3,bw 11 102 [.tmp 10],⟨none,.store 1 (sT 3) (sT 11),none⟩]) (.seq (.seq (.region [aH 12 3,cJ 13 12,bC 14 .gtr 13 (.int .i64 0),ab 15 14,dy 16 3 15 true,⟨some 17,.gk 1 (sT 16) (.val (.int .i64 0)),(some (15,true))⟩,dy 18 17 15 true,⟨some 19,.bin .eql (sT 18) (.val (.str ⟨#[]⟩)),(some (15,true))⟩,⟨some 20,.pick (sT 15) (sT 19) (.val (.bool false)),none⟩]) (.cond (sT 20) (.region [aH 21 3,⟨some 22,.slice 1 (sT 21) (some (.val (.int .i64 1))) none,none⟩,⟨none,.store 1 (sT 3) (sT 22),none⟩]) .skip)) (.seq (.region [aH 23 3,bw 24 151 [.tmp 23],ab 2 24])
 .ret)))))))
def G1:List a8:=[.tmp 2]
theorem c245:aG Tryz.prog 73 UX G1 25:=codeOk Tryz.func73 rfl rfl
def UY:aB:=(.seq (.region [aQ 2 (.ag)]) (.seq (.region [aQ 3 (.ag)]) (.seq (.seq (.region [ab 6 0,cJ 7 6,aQ 8 (.int .i64 0)]) (.block 0 (.loop (.seq (.region [cL 9 .lss 8 7]) (.seq (.cond (sT 9) .skip (.exit 0)) (.seq (.block 1 (.seq (.region [cM 10 13 6 8,bU 11 13 10,⟨some 5,.alloc (.agg [.int .i64 0,.str ⟨#[]⟩,.str ⟨#[]⟩,.str ⟨#[]⟩,.str ⟨#[]⟩,.int .i64 0,.int .i64 0,.str ⟨#[]⟩,.ag,.ag,.ag,.str ⟨#[]⟩,.ag]),none⟩,⟨none,.store 13 (sT 5) (sT 11),none⟩]) (.seq (.region [ab 12 3,bU 13 13 5,⟨some 14,.aJ 13 [.tmp 13],none⟩,⟨some 15,.append 13 216 (sT 12) (sT 14),none⟩,ab 3 15]) (.qregion [⟨ab 16 3,false,0,0,0⟩,⟨aN 17 9 5,false,0,0,0⟩,⟨aH 18 17,false,0,0,2⟩,⟨bw 19 74 [.tmp 18],false,0,0,6⟩,⟨⟨some 20,.append 13 216 (sT 16) (sT 19),none⟩,true,0,0,15⟩,⟨aN 21 10 5,false,0,1,0⟩,⟨aH 22 21,false,0,1,32⟩,⟨bw 23 74 [.tmp 22],false,1,1,127⟩,⟨⟨some 24,.append 13 216 (sT 20) (sT 23),none⟩,true,0,0,255⟩,⟨ab 3 24,false,2,2,511⟩])))) (.region [bC 25 .add 8 (.int .i64 1),ab 8 25]))))))) (.seq (.region [ab 26 3,ab 2 26])
 .ret))))
def Kg:List a8:=[.tmp 2]
theorem c246:aG Tryz.prog 74 UY Kg 27:=codeOk Tryz.func74 rfl rfl
def Pd:aB:=(.seq (.region [⟨some 5,.box (sT 1),none⟩,aQ 6 (.ag)]) (.seq (.seq (.region [ab 7 0,aH 8 2,cL 9 .lss 7 8]) (.cond (sT 9) (.region [bU 10 13 5,aH 11 3,bw 12 76 [.tmp 10,.tmp 11],⟨none,.store 13 (sT 5) (sT 12),none⟩]) .skip)) (.seq (.region [bU 13 13 5,⟨some 14,.aJ 13 [.tmp 13],none⟩,ab 6 14])
 .ret)))
def Pe:List a8:=[.tmp 6]
theorem c247:aG Tryz.prog 75 Pd Pe 15:=codeOk Tryz.func75 rfl rfl
def UZ:aB:=(.seq (.region [⟨some 2,.box (sT 0),none⟩,⟨some 3,.box (sT 1),none⟩,⟨some 4,.alloc (.agg [.int .i64 0,.str ⟨#[]⟩,.str ⟨#[]⟩,.str ⟨#[]⟩,.str ⟨#[]⟩,.int .i64 0,.int .i64 0,.str ⟨#[]⟩,.ag,.ag,.ag,.str ⟨#[]⟩,.ag]),none⟩]) (.seq (.region [⟨some 9,.fC 152 [] [.tmp 3],none⟩,ab 5 9]) (.seq (.qregion [⟨ab 10 5,false,0,0,0⟩,⟨aN 11 1 2,false,0,0,0⟩,⟨aH 12 11,false,0,0,2⟩,⟨⟨some 13,.call (sT 10) [.tmp 12],none⟩,true,0,0,7⟩,⟨ab 14 5,false,0,1,0⟩,⟨aN 15 2 2,false,0,1,0⟩,⟨aH 16 15,false,0,1,32⟩,⟨⟨some 17,.call (sT 14) [.tmp 16],none⟩,true,0,0,127⟩,⟨aN 18 5 2,false,0,2,0⟩,⟨bU 19 4 18,false,0,2,256⟩,⟨bw 20 153 [.tmp 19],false,2,2,1023⟩,⟨aN 21 1 2,false,1,2,879⟩,⟨⟨none,.store 1 (sT 21) (sT 13),none⟩,true,0,0,4095⟩,⟨aN 22 2 2,false,3,3,8191⟩,⟨⟨none,.store 1 (sT 22) (sT 17),none⟩,true,0,0,16383⟩,⟨aN 23 5 2,false,4,4,32767⟩,⟨⟨none,.store 4 (sT 23) (sT 20),none⟩,true,0,0,65535⟩]) (.seq (.region [aQ 6 (.ag)]) (.seq (.seq (.region [aN 24 12 2,aH 25 24,cJ 26 25,aQ 27 (.int .i64 0)]) (.block 0 (.loop (.seq (.region [cL 28 .lss 27 26]) (.seq (.cond (sT 28) .skip (.exit 0)) (.seq (.block 1 (.seq (.region [cM 29 1 25 27,aH 30 29,ab 8 30]) (.region [ab 31 6,ab 32 5,ab 33 8,⟨some 34,.call (sT 32) [.tmp 33],none⟩,⟨some 35,.aJ 1 [.tmp 34],none⟩,⟨some 36,.append 1 16 (sT 31) (sT 35),none⟩,ab 6 36]))) (.region [bC 37 .add 27 (.int .i64 1),ab 27 37]))))))) (.seq (.region [ab 38 6,aN 39 12 2,⟨none,.store 1 (sT 39) (sT 38),none⟩]) (.seq (.region [bU 40 13 2,⟨none,.store 13 (sT 4) (sT 40),none⟩])
 .ret)))))))
def Kh:List a8:=[.cell true 13 4]
theorem c248:aG Tryz.prog 76 UZ Kh 41:=codeOk Tryz.func76 rfl rfl
def U0:aB:=(.seq (.region [⟨some 1,.box (sT 0),none⟩,⟨some 2,.alloc (.agg [.ag,.ag]),none⟩]) (.seq (.region [⟨some 3,.alloc (.qH),none⟩,⟨none,.store 1 (sT 3) (.val (.a6 154 [] [])),none⟩]) (.seq (.region [⟨some 3,.nS 3,none⟩,⟨some 8,.fC 155 [] [.tmp 3],none⟩,ab 4 8]) (.seq (.region [ab 9 4,aN 10 1 1,aH 11 10,⟨some 12,.call (sT 9) [.tmp 11],none⟩,⟨some 13,.build [.ag,.ag] [(1,1,.tmp 12)],none⟩,⟨some 5,.alloc (.agg [.ag,.ag]),none⟩,⟨none,.store 2 (sT 5) (sT 13),none⟩]) (.seq (.seq (.region [aN 14 0 1,aH 15 14,cJ 16 15,aQ 17 (.int .i64 0)]) (.block 0 (.loop (.seq (.region [cL 18 .lss 17 16]) (.seq (.cond (sT 18) .skip (.exit 0)) (.seq (.block 1 (.seq (.region [cM 19 3 15 17,bU 20 3 19,⟨some 7,.alloc (.agg [.str ⟨#[]⟩,.ag,.ag]),none⟩,⟨none,.store 3 (sT 7) (sT 20),none⟩]) (.qregion [⟨aN 21 0 5,false,0,1,0⟩,⟨aH 22 21,false,0,1,1⟩,⟨aN 23 0 7,false,0,1,0⟩,⟨aH 24 23,false,0,1,4⟩,⟨aN 25 1 7,false,0,0,0⟩,⟨aH 26 25,false,0,0,16⟩,⟨bw 27 69 [.tmp 26],false,0,0,48⟩,⟨ab 28 4,false,0,0,0⟩,⟨aN 29 2 7,false,0,0,0⟩,⟨aH 30 29,false,0,0,256⟩,⟨⟨some 31,.call (sT 28) [.tmp 30],none⟩,true,0,0,1008⟩,⟨⟨some 32,.build [.str ⟨#[]⟩,.ag,.ag] [(0,1,.tmp 24),(1,1,.tmp 27),(2,1,.tmp 31)],none⟩,false,1,1,2044⟩,⟨⟨some 33,.aJ 3 [.tmp 32],none⟩,false,1,1,4092⟩,⟨⟨some 34,.append 3 64 (sT 22) (sT 33),none⟩,true,0,0,8191⟩,⟨aN 35 0 5,false,2,2,16383⟩,⟨⟨none,.store 1 (sT 35) (sT 34),none⟩,true,0,0,32767⟩]))) (.region [bC 36 .add 17 (.int .i64 1),ab 17 36]))))))) (.seq (.region [bU 37 2 5,⟨none,.store 2 (sT 2) (sT 37),none⟩])
 .ret))))))
def Ki:List a8:=[.cell true 2 2]
theorem c249:aG Tryz.prog 77 U0 Ki 38:=codeOk Tryz.func77 rfl rfl
def U1:aB:=(.seq (.region [⟨some 1,.box (sT 0),none⟩,aQ 2 (.ag)]) (.seq (.region [aN 10 0 1,aH 11 10,cJ 12 11,⟨some 13,.Eu (.cG) (sT 12),none⟩,ab 3 13]) (.seq (.seq (.region [ab 14 3,cJ 15 14,aQ 16 (.int .i64 0)]) (.block 0 (.loop (.seq (.region [cL 17 .lss 16 15]) (.seq (.cond (sT 17) .skip (.exit 0)) (.seq (.block 1 (.seq (.region [ab 18 16,ab 4 18]) (.region [ab 19 3,ab 20 4,⟨some 21,.gm,none⟩,cM 22 1 19 20,⟨none,.store 1 (sT 22) (sT 21),none⟩]))) (.region [bC 23 .add 16 (.int .i64 1),ab 16 23]))))))) (.seq (.seq (.region [bU 24 2 1,bw 25 47 [.tmp 24],cJ 26 25,aQ 27 (.int .i64 0)]) (.block 2 (.loop (.seq (.region [cL 28 .lss 27 26]) (.seq (.cond (sT 28) .skip (.exit 2)) (.seq (.block 3 (.seq (.region [cM 29 15 25 27,bU 30 15 29,⟨some 6,.alloc (.agg [.int .i64 0,.str ⟨#[]⟩,.str ⟨#[]⟩,.str ⟨#[]⟩,.str ⟨#[]⟩,.int .i64 0,.int .i64 0,.str ⟨#[]⟩,.ag,.ag,.ag,.str ⟨#[]⟩,.ag,.int .i64 0,.bool false]),none⟩,⟨none,.store 15 (sT 6) (sT 30),none⟩]) (.seq (.region [aN 31 13 6,aH 32 31,bC 33 .geq 32 (.int .i64 0),ab 34 33,dP 35 0 6 34 true,dP 36 0 35 34 true,dy 37 36 34 true,⟨some 38,.bin .eql (sT 37) (.val (.int .i64 5)),(some (34,true))⟩,⟨some 39,.pick (sT 34) (sT 38) (.val (.bool false)),none⟩]) (.cond (sT 39) (.qregion [⟨ab 40 3,false,0,0,0⟩,⟨aN 41 13 6,false,0,0,0⟩,⟨aH 42 41,false,0,0,2⟩,⟨cM 43 1 40 42,false,0,0,7⟩,⟨aH 44 43,false,0,0,15⟩,⟨bU 45 2 1,false,0,0,0⟩,⟨aN 46 0 6,false,0,0,0⟩,⟨aN 47 11 46,false,0,0,64⟩,⟨aH 48 47,false,0,0,192⟩,⟨bw 49 52 [.tmp 45,.tmp 48],false,0,0,480⟩,⟨⟨none,.kG (false,[false]) (sT 44) (sT 49) (.val (.bool true)),none⟩,true,0,0,1023⟩]) .skip)))) (.region [bC 50 .add 27 (.int .i64 1),ab 27 50]))))))) (.seq (.seq (.region [ab 51 3,cJ 52 51,aQ 53 (.int .i64 0)]) (.block 4 (.loop (.seq (.region [cL 54 .lss 53 52]) (.seq (.cond (sT 54) .skip (.exit 4)) (.seq (.block 5 (.seq (.region [ab 55 53,ab 7 55]) (.seq (.region [ab 56 3,cJ 57 56,aQ 58 (.int .i64 0)]) (.block 6 (.loop (.seq (.region [cL 59 .lss 58 57]) (.seq (.cond (sT 59) .skip (.exit 6)) (.seq (.block 7 (.seq (.region [ab 60 58,ab 8 60]) (.seq (.region [ab 61 3,cJ 62 61,aQ 63 (.int .i64 0)]) (.block 8 (.loop (.seq (.region [cL 64 .lss 63 62]) (.seq (.cond (sT 64) .skip (.exit 8)) (.seq (.block 9 (.seq (.region [ab 65 63,ab 9 65]) (.seq (.region [ab 66 3,ab 67 8,cM 68 1 66 67,aH 69 68,ab 70 7,⟨some 71,.eu (false,[false]) false (.bool false) (sT 69) (sT 70),none⟩,ab 72 71,fD 73 3 72 true,fD 74 7 72 true,⟨some 75,.gk 1 (sT 73) (sT 74),(some (72,true))⟩,dy 76 75 72 true,fD 77 9 72 true,⟨some 78,.eu (false,[false]) false (.bool false) (sT 76) (sT 77),(some (72,true))⟩,⟨some 79,.pick (sT 72) (sT 78) (.val (.bool false)),none⟩]) (.cond (sT 79) (.region [ab 80 3,ab 81 8,cM 82 1 80 81,aH 83 82,ab 84 9,⟨none,.kG (false,[false]) (sT 83) (sT 84) (.val (.bool true)),none⟩]) .skip)))) (.region [bC 85 .add 63 (.int .i64 1),ab 63 85]))))))))) (.region [bC 86 .add 58 (.int .i64 1),ab 58 86]))))))))) (.region [bC 87 .add 53 (.int .i64 1),ab 53 87]))))))) (.seq (.region [ab 88 3,ab 2 88])
 .ret))))))
def Kj:List a8:=[.tmp 2]
theorem c250:aG Tryz.prog 78 U1 Kj 89:=codeOk Tryz.func78 rfl rfl
def U2:aB:=(.seq (.region [⟨some 2,.box (sT 0),none⟩,aQ 4 (.ag),aQ 5 (.bool false)]) (.seq (.region [aQ 6 (.ag)]) (.seq (.seq (.region [ab 19 1,cJ 20 19,aQ 21 (.int .i64 0)]) (.block 0 (.loop (.seq (.region [cL 22 .lss 21 20]) (.seq (.cond (sT 22) .skip (.exit 0)) (.seq (.block 1 (.seq (.region [cM 23 13 19 21,bU 24 13 23,⟨some 8,.alloc (.agg [.int .i64 0,.str ⟨#[]⟩,.str ⟨#[]⟩,.str ⟨#[]⟩,.str ⟨#[]⟩,.int .i64 0,.int .i64 0,.str ⟨#[]⟩,.ag,.ag,.ag,.str ⟨#[]⟩,.ag]),none⟩,⟨none,.store 13 (sT 8) (sT 24),none⟩]) (.seq (.seq (.qregion [⟨aH 25 2,false,0,1,0⟩,⟨⟨some 26,.b5 (sT 25),none⟩,false,0,1,1⟩,⟨aN 27 0 26,false,0,1,3⟩,⟨bU 28 2 27,false,0,1,7⟩,⟨aN 29 11 8,false,0,1,0⟩,⟨aH 30 29,false,0,1,16⟩,⟨bw 31 52 [.tmp 28,.tmp 30],false,0,1,63⟩,⟨⟨some 9,.alloc (.int .i64 0),none⟩,true,0,0,0⟩,⟨⟨none,.store 1 (sT 9) (sT 31),none⟩,true,0,0,255⟩]) (.seq (.qregion [⟨aN 32 0 8,false,0,0,0⟩,⟨aH 33 32,false,0,0,1⟩,⟨bC 34 .eql 33 (.int .i64 5),false,0,0,3⟩,⟨ab 35 34,false,0,0,7⟩,⟨dy 36 2 35 true,false,0,0,15⟩,⟨⟨some 37,.b5 (sT 36),(some (35,true))⟩,false,0,0,31⟩,⟨dP 38 2 37 35 true,false,0,0,63⟩,⟨dy 39 38 35 true,false,0,0,127⟩,⟨dy 40 9 35 true,false,0,0,15⟩,⟨⟨some 41,.gk 1 (sT 39) (sT 40),(some (35,true))⟩,false,0,0,511⟩,⟨dy 42 41 35 true,false,0,0,1023⟩,⟨dy 43 9 35 true,false,0,0,15⟩,⟨⟨some 44,.eu (false,[false]) false (.bool false) (sT 42) (sT 43),(some (35,true))⟩,false,0,0,4095⟩,⟨⟨some 45,.un .not (sT 44),(some (35,true))⟩,false,0,0,8191⟩,⟨⟨some 46,.pick (sT 35) (sT 45) (.val (.bool false)),none⟩,false,0,0,16383⟩]) (.cond (sT 46) (.seq (.region [aH 48 2,aH 49 9,bw 50 156 [.tmp 48,.tmp 49],ab 47 50,⟨some 51,.extract (sT 47) 0,none⟩,⟨some 52,.extract (sT 47) 1,none⟩,ab 10 51,ab 11 52]) (.seq (.seq (.region [ab 53 11,⟨some 54,.un .not (sT 53),none⟩]) (.cond (sT 54) (.seq (.region [aQ 4 (.ag),aQ 5 (.bool false)])
 .ret) .skip)) (.seq (.region [⟨some 55,.fC 157 [] [.tmp 8,.tmp 2,.tmp 9],none⟩,ab 12 55]) (.seq (.region [ab 56 10,cJ 57 56,aQ 58 (.int .i64 0)]) (.block 2 (.loop (.seq (.region [cL 59 .lss 58 57]) (.seq (.cond (sT 59) .skip (.exit 2)) (.seq (.block 3 (.seq (.region [cM 60 13 56 58,bU 61 13 60,⟨some 14,.alloc (.agg [.int .i64 0,.str ⟨#[]⟩,.str ⟨#[]⟩,.str ⟨#[]⟩,.str ⟨#[]⟩,.int .i64 0,.int .i64 0,.str ⟨#[]⟩,.ag,.ag,.ag,.str ⟨#[]⟩,.ag]),none⟩,⟨none,.store 13 (sT 14) (sT 61),none⟩]) (.region [ab 62 6,bU 63 13 14,ab 64 12,bw 65 83 [.tmp 63,.tmp 64],⟨some 66,.aJ 13 [.tmp 65],none⟩,⟨some 67,.append 13 216 (sT 62) (sT 66),none⟩,ab 6 67]))) (.region [bC 68 .add 58 (.int .i64 1),ab 58 68])))))))))) (.seq (.region [aH 70 2,aN 71 9 8,aH 72 71,bw 73 79 [.tmp 70,.tmp 72],ab 69 73,⟨some 74,.extract (sT 69) 0,none⟩,⟨some 75,.extract (sT 69) 1,none⟩,ab 15 74,ab 16 75]) (.seq (.region [aH 77 2,aN 78 10 8,aH 79 78,bw 80 79 [.tmp 77,.tmp 79],ab 76 80,⟨some 81,.extract (sT 76) 0,none⟩,⟨some 82,.extract (sT 76) 1,none⟩,ab 17 81,ab 18 82]) (.seq (.seq (.region [ab 83 16,⟨some 84,.un .not (sT 83),none⟩,ab 85 84,fD 86 18 85 false,⟨some 87,.un .not (sT 86),(some (85,false))⟩,⟨some 88,.pick (sT 85) (.val (.bool true)) (sT 87),none⟩]) (.cond (sT 88) (.seq (.region [aQ 4 (.ag),aQ 5 (.bool false)])
 .ret) .skip)) (.seq (.region [ab 89 15,ab 90 17,aN 91 9 8,⟨none,.store 1 (sT 91) (sT 89),none⟩,aN 92 10 8,⟨none,.store 1 (sT 92) (sT 90),none⟩]) (.region [ab 93 6,bU 94 13 8,⟨some 95,.aJ 13 [.tmp 94],none⟩,⟨some 96,.append 13 216 (sT 93) (sT 95),none⟩,ab 6 96])))))))) (.seq (.region [ab 97 6,bw 98 80 [.tmp 97],bC 99 .gtr 98 (.int .i64 2000)]) (.cond (sT 99) (.seq (.region [aQ 4 (.ag),aQ 5 (.bool false)])
 .ret) .skip))))) (.region [bC 100 .add 21 (.int .i64 1),ab 21 100]))))))) (.seq (.region [ab 101 6,ab 4 101,aQ 5 (.bool true)])
 .ret))))
def uj:List a8:=[.tmp 4,.tmp 5]
theorem c251:aG Tryz.prog 79 U2 uj 102:=codeOk Tryz.func79 rfl rfl
def U3:aB:=(.seq (.region [aQ 2 (.int .i64 0)]) (.seq (.region [aQ 3 (.int .i64 0)]) (.seq (.seq (.region [ab 6 0,cJ 7 6,aQ 8 (.int .i64 0)]) (.block 0 (.loop (.seq (.region [cL 9 .lss 8 7]) (.seq (.cond (sT 9) .skip (.exit 0)) (.seq (.block 1 (.seq (.region [cM 10 13 6 8,bU 11 13 10,⟨some 5,.alloc (.agg [.int .i64 0,.str ⟨#[]⟩,.str ⟨#[]⟩,.str ⟨#[]⟩,.str ⟨#[]⟩,.int .i64 0,.int .i64 0,.str ⟨#[]⟩,.ag,.ag,.ag,.str ⟨#[]⟩,.ag]),none⟩,⟨none,.store 13 (sT 5) (sT 11),none⟩]) (.qregion [⟨ab 12 3,false,0,0,0⟩,⟨aN 13 9 5,false,0,0,0⟩,⟨aH 14 13,false,0,0,2⟩,⟨bw 15 80 [.tmp 14],false,0,0,6⟩,⟨⟨some 16,.bin .add (.val (.int .i64 1)) (sT 15),none⟩,false,0,0,14⟩,⟨aN 17 10 5,false,0,0,0⟩,⟨aH 18 17,false,0,0,32⟩,⟨bw 19 80 [.tmp 18],false,0,0,110⟩,⟨cL 20 .add 16 19,false,0,0,254⟩,⟨cL 21 .add 12 20,false,0,0,511⟩,⟨ab 3 21,false,0,0,1023⟩]))) (.region [bC 22 .add 8 (.int .i64 1),ab 8 22]))))))) (.seq (.region [ab 23 3,ab 2 23])
 .ret))))
def Pf:List a8:=[.tmp 2]
theorem c252:aG Tryz.prog 80 U3 Pf 24:=codeOk Tryz.func80 rfl rfl
def U4:aB:=(.seq (.region [⟨some 1,.box (sT 0),none⟩,aQ 2 (.ag)]) (.seq (.region [aQ 3 (.ag)]) (.seq (.seq (.region [bU 6 2 1,bw 7 47 [.tmp 6],cJ 8 7,aQ 9 (.int .i64 0)]) (.block 0 (.loop (.seq (.region [cL 10 .lss 9 8]) (.seq (.cond (sT 10) .skip (.exit 0)) (.seq (.block 1 (.seq (.region [cM 11 15 7 9,bU 12 15 11,⟨some 5,.alloc (.agg [.int .i64 0,.str ⟨#[]⟩,.str ⟨#[]⟩,.str ⟨#[]⟩,.str ⟨#[]⟩,.int .i64 0,.int .i64 0,.str ⟨#[]⟩,.ag,.ag,.ag,.str ⟨#[]⟩,.ag,.int .i64 0,.bool false]),none⟩,⟨none,.store 15 (sT 5) (sT 12),none⟩]) (.seq (.region [aN 13 13 5,aH 14 13,bC 15 .lss 14 (.int .i64 0)]) (.cond (sT 15) (.region [ab 16 3,aN 17 0 5,bU 18 13 17,bw 19 49 [.tmp 18],⟨some 20,.append 1 16 (sT 16) (sT 19),none⟩,ab 3 20]) .skip)))) (.region [bC 21 .add 9 (.int .i64 1),ab 9 21]))))))) (.seq (.region [ab 22 3,bw 23 101 [.tmp 22]]) (.seq (.region [ab 24 3,bw 25 102 [.tmp 24],ab 2 25])
 .ret)))))
def G2:List a8:=[.tmp 2]
theorem c253:aG Tryz.prog 81 U4 G2 26:=codeOk Tryz.func81 rfl rfl
def U5:aB:=(.seq (.region [⟨some 2,.box (sT 0),none⟩,⟨some 4,.alloc (.agg [.int .i64 0,.str ⟨#[]⟩,.str ⟨#[]⟩,.str ⟨#[]⟩,.str ⟨#[]⟩,.int .i64 0,.int .i64 0,.str ⟨#[]⟩,.ag,.ag,.ag,.str ⟨#[]⟩,.ag]),none⟩]) (.seq (.seq (.region [aN 14 1 2,aH 15 14,bC 16 .neq 15 (.str ⟨#[]⟩)]) (.cond (sT 16) (.region [ab 17 1,aN 18 1 2,aH 19 18,⟨some 20,.call (sT 17) [.tmp 19],none⟩,aN 21 1 2,⟨none,.store 1 (sT 21) (sT 20),none⟩]) .skip)) (.seq (.seq (.region [aN 22 2 2,aH 23 22,bC 24 .neq 23 (.str ⟨#[]⟩)]) (.cond (sT 24) (.region [ab 25 1,aN 26 2 2,aH 27 26,⟨some 28,.call (sT 25) [.tmp 27],none⟩,aN 29 2 2,⟨none,.store 1 (sT 29) (sT 28),none⟩]) .skip)) (.seq (.region [aQ 5 (.ag)]) (.seq (.seq (.region [aN 30 12 2,aH 31 30,cJ 32 31,aQ 33 (.int .i64 0)]) (.block 0 (.loop (.seq (.region [cL 34 .lss 33 32]) (.seq (.cond (sT 34) .skip (.exit 0)) (.seq (.block 1 (.seq (.region [cM 35 1 31 33,aH 36 35,ab 7 36]) (.region [ab 37 5,ab 38 1,ab 39 7,⟨some 40,.call (sT 38) [.tmp 39],none⟩,⟨some 41,.aJ 1 [.tmp 40],none⟩,⟨some 42,.append 1 16 (sT 37) (sT 41),none⟩,ab 5 42]))) (.region [bC 43 .add 33 (.int .i64 1),ab 33 43]))))))) (.seq (.region [ab 44 5,⟨some 44,.nS 44,none⟩,aN 45 12 2,⟨none,.store 1 (sT 45) (sT 44),none⟩]) (.seq (.region [aQ 8 (.ag),aQ 9 (.ag)]) (.seq (.seq (.region [aN 46 9 2,aH 47 46,cJ 48 47,aQ 49 (.int .i64 0)]) (.block 2 (.loop (.seq (.region [cL 50 .lss 49 48]) (.seq (.cond (sT 50) .skip (.exit 2)) (.seq (.block 3 (.seq (.region [cM 51 13 47 49,bU 52 13 51,⟨some 11,.alloc (.agg [.int .i64 0,.str ⟨#[]⟩,.str ⟨#[]⟩,.str ⟨#[]⟩,.str ⟨#[]⟩,.int .i64 0,.int .i64 0,.str ⟨#[]⟩,.ag,.ag,.ag,.str ⟨#[]⟩,.ag]),none⟩,⟨none,.store 13 (sT 11) (sT 52),none⟩]) (.region [ab 53 8,bU 54 13 11,ab 55 1,bw 56 83 [.tmp 54,.tmp 55],⟨some 57,.aJ 13 [.tmp 56],none⟩,⟨some 58,.append 13 216 (sT 53) (sT 57),none⟩,ab 8 58]))) (.region [bC 59 .add 49 (.int .i64 1),ab 49 59]))))))) (.seq (.seq (.region [⟨some 8,.nS 8,none⟩,aN 60 10 2,aH 61 60,cJ 62 61,aQ 63 (.int .i64 0)]) (.block 4 (.loop (.seq (.region [cL 64 .lss 63 62]) (.seq (.cond (sT 64) .skip (.exit 4)) (.seq (.block 5 (.seq (.region [cM 65 13 61 63,bU 66 13 65,⟨some 13,.alloc (.agg [.int .i64 0,.str ⟨#[]⟩,.str ⟨#[]⟩,.str ⟨#[]⟩,.str ⟨#[]⟩,.int .i64 0,.int .i64 0,.str ⟨#[]⟩,.ag,.ag,.ag,.str ⟨#[]⟩,.ag]),none⟩,⟨none,.store 13 (sT 13) (sT 66),none⟩]) (.region [ab 67 9,bU 68 13 13,ab 69 1,bw 70 83 [.tmp 68,.tmp 69],⟨some 71,.aJ 13 [.tmp 70],none⟩,⟨some 72,.append 13 216 (sT 67) (sT 71),none⟩,ab 9 72]))) (.region [bC 73 .add 63 (.int .i64 1),ab 63 73]))))))) (.seq (.region [⟨some 9,.nS 9,none⟩,ab 74 8,ab 75 9,aN 76 9 2,⟨none,.store 1 (sT 76) (sT 74),none⟩,aN 77 10 2,⟨none,.store 1 (sT 77) (sT 75),none⟩]) (.seq (.region [bU 78 13 2,⟨none,.store 13 (sT 4) (sT 78),none⟩])
 .ret)))))))))))
def D7:List a8:=[.cell true 13 4]
theorem c254:aG Tryz.prog 83 U5 D7 79:=codeOk Tryz.func83 rfl rfl
def Pg:aB:=(.seq (.region [aQ 3 (.str ⟨#[]⟩)]) (.seq (.seq (.region [aH 7 1,ab 8 0,⟨some 9,.eu (false,[true]) true (.str ⟨#[]⟩) (sT 7) (sT 8),none⟩,ab 6 9,⟨some 10,.extract (sT 6) 0,none⟩,⟨some 11,.extract (sT 6) 1,none⟩,ab 4 10,ab 5 11]) (.seq (.region [ab 12 5]) (.cond (sT 12) (.seq (.region [ab 13 4,ab 3 13])
 .ret) .skip))) (.seq (.region [ab 14 0,ab 3 14])
 .ret)))
def Ph:List a8:=[.tmp 3]
theorem c255:aG Tryz.prog 84 Pg Ph 15:=codeOk Tryz.func84 rfl rfl
def U6:aB:=(.seq (.region [⟨some 2,.box (sT 0),none⟩,⟨some 3,.box (sT 1),none⟩,aQ 4 (.bool false)]) (.seq (.region [aN 5 0 2,aH 6 5,aN 7 0 3,aH 8 7,cL 9 .eql 6 8,ab 10 9,dP 11 1 2 10 true,dy 12 11 10 true,dP 13 1 3 10 true,dy 14 13 10 true,⟨some 15,.call (.val (.a6 16 [] [])) [.tmp 12,.tmp 14],(some (10,true))⟩,⟨some 16,.pick (sT 10) (sT 15) (.val (.bool false)),none⟩,ab 17 16,dP 18 2 2 17 true,dy 19 18 17 true,dP 20 2 3 17 true,dy 21 20 17 true,⟨some 22,.call (.val (.a6 86 [] [])) [.tmp 19,.tmp 21],(some (17,true))⟩,⟨some 23,.pick (sT 17) (sT 22) (.val (.bool false)),none⟩,ab 4 23])
 .ret))
def U7:List a8:=[.tmp 4]
theorem c256:aG Tryz.prog 85 U6 U7 24:=codeOk Tryz.func85 rfl rfl
def U8:aB:=(.seq (.region [aQ 6 (.bool false)]) (.seq (.seq (.region [ab 10 0,cJ 11 10,ab 12 1,cJ 13 12,cL 14 .neq 11 13]) (.cond (sT 14) (.seq (.region [aQ 6 (.bool false)])
 .ret) .skip)) (.seq (.seq (.region [ab 15 0,cJ 16 15,aQ 17 (.int .i64 0)]) (.block 0 (.loop (.seq (.region [cL 18 .lss 17 16]) (.seq (.cond (sT 18) .skip (.exit 0)) (.seq (.block 1 (.seq (.region [ab 19 17,cM 20 3 15 17,bU 21 3 20,⟨some 8,.alloc (.agg [.str ⟨#[]⟩,.ag,.ag]),none⟩,ab 7 19,⟨none,.store 3 (sT 8) (sT 21),none⟩]) (.seq (.region [ab 22 1,ab 23 7,cM 24 3 22 23,bU 25 3 24,⟨some 9,.alloc (.agg [.str ⟨#[]⟩,.ag,.ag]),none⟩,⟨none,.store 3 (sT 9) (sT 25),none⟩]) (.seq (.region [ab 26 2,bU 27 3 8,bU 28 3 9,⟨some 29,.call (sT 26) [.tmp 27,.tmp 28],none⟩,⟨some 30,.un .not (sT 29),none⟩]) (.cond (sT 30) (.seq (.region [aQ 6 (.bool false)])
 .ret) .skip))))) (.region [bC 31 .add 17 (.int .i64 1),ab 17 31]))))))) (.seq (.region [aQ 6 (.bool true)])
 .ret))))
def Pj:List a8:=[.tmp 6]
theorem c257:aG Tryz.prog 87 U8 Pj 32:=codeOk Tryz.func87 rfl rfl
def U9:aB:=(.seq (.region [aQ 2 (.ag)]) (.seq (.region [aQ 3 (.ag)]) (.seq (.seq (.region [ab 13 0,⟨some 14,.b5 (sT 13),none⟩,aN 15 3 14,aH 16 15,cJ 17 16,aQ 18 (.int .i64 0)]) (.block 0 (.loop (.seq (.region [cL 19 .lss 18 17]) (.seq (.cond (sT 19) .skip (.exit 0)) (.seq (.block 1 (.seq (.region [cM 20 1 16 18,aH 21 20,ab 5 21]) (.seq (.region [⟨some 22,.gm,none⟩,ab 6 22]) (.seq (.region [ab 23 5,ab 24 6,bw 25 187 [.tmp 23,.tmp 24]]) (.region [ab 26 3,ab 27 6,⟨some 27,.nS 27,none⟩,⟨some 28,.aJ 1 [.tmp 27],none⟩,⟨some 29,.append 1 8 (sT 26) (sT 28),none⟩,ab 3 29]))))) (.region [bC 30 .add 18 (.int .i64 1),ab 18 30]))))))) (.seq (.region [aQ 7 (.ag)]) (.seq (.seq (.region [ab 31 0,⟨some 32,.b5 (sT 31),none⟩,aN 33 3 32,aH 34 33,cJ 35 34,aQ 36 (.int .i64 0)]) (.block 2 (.loop (.seq (.region [cL 37 .lss 36 35]) (.seq (.cond (sT 37) .skip (.exit 2)) (.seq (.block 3 (.seq (.region [ab 38 36,ab 8 38]) (.seq (.region [⟨some 39,.gm,none⟩,ab 9 39]) (.seq (.region [ab 40 8,⟨some 41,.jW 1 [.tmp 40],none⟩,ab 10 41]) (.seq (.seq (.region [aQ 11 (.int .i64 0)]) (.block 4 (.loop (.seq (.seq (.region [ab 42 11,ab 43 10,cJ 44 43,cL 45 .lss 42 44]) (.cond (sT 45) .skip (.exit 4))) (.seq (.block 5 (.seq (.region [ab 48 3,ab 49 10,ab 50 11,cM 51 1 49 50,aH 52 51,cM 53 1 48 52,aH 54 53,⟨some 55,.Ev (sT 54),none⟩]) (.block 6 (.loop (.seq (.region [⟨some 56,.Ew (sT 55),none⟩,⟨some 57,.extract (sT 56) 0,none⟩]) (.seq (.cond (sT 57) .skip (.exit 6)) (.block 7 (.seq (.region [⟨some 58,.Ey (sT 55),none⟩,⟨some 59,.extract (sT 58) 0,none⟩,ab 12 59]) (.seq (.region [ab 60 9,ab 61 12,⟨some 62,.eu (false,[false]) false (.bool false) (sT 60) (sT 61),none⟩,⟨some 63,.un .not (sT 62),none⟩]) (.cond (sT 63) (.seq (.region [ab 64 9,ab 65 12,⟨none,.kG (false,[false]) (sT 64) (sT 65) (.val (.bool true)),none⟩]) (.region [ab 66 10,ab 67 12,⟨some 68,.aJ 1 [.tmp 67],none⟩,⟨some 69,.append 1 8 (sT 66) (sT 68),none⟩,ab 10 69])) .skip)))))))))) (.region [ab 46 11,bC 47 .add 46 (.int .i64 1),ab 11 47])))))) (.region [ab 70 7,ab 71 9,⟨some 71,.nS 71,none⟩,⟨some 72,.aJ 1 [.tmp 71],none⟩,⟨some 73,.append 1 8 (sT 70) (sT 72),none⟩,ab 7 73])))))) (.region [bC 74 .add 36 (.int .i64 1),ab 36 74]))))))) (.seq (.region [ab 75 7,ab 2 75])
 .ret))))))
def Pk:List a8:=[.tmp 2]
theorem c290:aG Tryz.prog 139 U9 Pk 76:=codeOk Tryz.func139 rfl rfl
def Kk:aB:=(.seq (.region [aQ 4 (.int .i64 0)]) (.seq (.seq (.region [ab 5 0,⟨some 6,.b5 (sT 5),none⟩,aN 7 2 6,aH 8 7,ab 9 1,cM 10 1 8 9,aH 11 10,bC 12 .lss 11 (.int .i64 0)]) (.cond (sT 12) (.qregion [⟨ab 13 0,false,0,1,0⟩,⟨⟨some 14,.b5 (sT 13),none⟩,false,0,1,1⟩,⟨aN 15 2 14,false,0,1,3⟩,⟨aH 16 15,false,0,1,7⟩,⟨ab 17 1,false,0,1,0⟩,⟨ab 18 0,false,0,0,0⟩,⟨ab 19 0,false,0,0,0⟩,⟨⟨some 20,.b5 (sT 19),none⟩,false,0,0,64⟩,⟨aN 21 0 20,false,0,0,192⟩,⟨aH 22 21,false,0,0,448⟩,⟨⟨some 23,.b5 (sT 22),none⟩,false,0,0,960⟩,⟨aN 24 3 23,false,0,0,1984⟩,⟨aH 25 24,false,0,0,4032⟩,⟨ab 26 1,false,0,0,0⟩,⟨cM 27 1 25 26,false,0,0,16320⟩,⟨aH 28 27,false,0,0,32704⟩,⟨bw 29 67 [.tmp 18,.tmp 28],true,0,0,65504⟩,⟨cM 30 1 16 17,false,1,1,131071⟩,⟨⟨none,.store 1 (sT 30) (sT 29),none⟩,true,0,0,262143⟩]) .skip)) (.seq (.region [ab 31 0,⟨some 32,.b5 (sT 31),none⟩,aN 33 2 32,aH 34 33,ab 35 1,cM 36 1 34 35,aH 37 36,ab 4 37])
 .ret)))
def Kl:List a8:=[.tmp 4]
theorem Pm:aG Tryz.prog 140 Kk Kl 38:=codeOk Tryz.func140 rfl rfl
def Va:aB:=(.seq (.region [aQ 4 (.bool false)]) (.seq (.region [ab 5 0,ab 6 1,bw 7 195 [.tmp 5,.tmp 6],bC 8 .geq 7 (.int .i64 0),ab 4 8])
 .ret))
def Vb:List a8:=[.tmp 4]
theorem c292:aG Tryz.prog 146 Va Vb 9:=codeOk Tryz.func146 rfl rfl
def Pn:aB:=(.seq (.region [⟨some 2,.box (sT 0),none⟩,aQ 3 (.bool false)]) (.seq (.region [aN 4 0 2,aH 5 4,aN 6 0 1,aH 7 6,cL 8 .eql 5 7,ab 9 8,dP 10 1 2 9 false,dy 11 10 9 false,dP 12 1 1 9 false,dy 13 12 9 false,⟨some 14,.bin .eql (sT 11) (sT 13),(some (9,false))⟩,⟨some 15,.pick (sT 9) (.val (.bool true)) (sT 14),none⟩,ab 3 15])
 .ret))
def Po:List a8:=[.tmp 3]
theorem c293:aG Tryz.prog 147 Pn Po 16:=codeOk Tryz.func147 rfl rfl
def Vc:aB:=(.seq (.region [⟨some 2,.box (sT 0),none⟩,aQ 3 (.bool false)]) (.seq (.region [aN 4 0 2,aH 5 4,aN 6 1 1,aH 7 6,cL 8 .eql 5 7,ab 3 8])
 .ret))
def Vd:List a8:=[.tmp 3]
theorem c294:aG Tryz.prog 148 Vc Vd 9:=codeOk Tryz.func148 rfl rfl
def Ve:aB:=(.seq (.region [⟨some 4,.box (sT 1),none⟩]) (.qregion [⟨aH 5 2,false,0,0,0⟩,⟨aN 6 1 4,false,0,0,0⟩,⟨aH 7 6,false,0,0,2⟩,⟨aN 8 2 4,false,0,0,0⟩,⟨aH 9 8,false,0,0,8⟩,⟨⟨some 10,.aJ 1 [.tmp 7,.tmp 9],none⟩,false,0,0,30⟩,⟨⟨some 11,.append 1 16 (sT 5) (sT 10),none⟩,true,0,0,63⟩,⟨aN 12 12 4,false,0,1,0⟩,⟨aH 13 12,false,0,1,128⟩,⟨⟨some 14,.append 1 16 (sT 11) (sT 13),none⟩,true,0,0,511⟩,⟨⟨none,.store 1 (sT 2) (sT 14),none⟩,true,0,0,1023⟩]))
def Pp:List a8:=[]
theorem c295:aG Tryz.prog 150 Ve Pp 15:=codeOk Tryz.func150 rfl rfl
def Km:aB:=(.seq (.region [aQ 3 (.str ⟨#[]⟩)]) (.seq (.seq (.region [aH 7 1,ab 8 0,⟨some 9,.eu (false,[true]) true (.str ⟨#[]⟩) (sT 7) (sT 8),none⟩,ab 6 9,⟨some 10,.extract (sT 6) 0,none⟩,⟨some 11,.extract (sT 6) 1,none⟩,ab 4 10,ab 5 11]) (.seq (.region [ab 12 5]) (.cond (sT 12) (.seq (.region [ab 13 4,ab 3 13])
 .ret) .skip))) (.seq (.region [ab 14 0,ab 3 14])
 .ret)))
def Kn:List a8:=[.tmp 3]
theorem Vf:aG Tryz.prog 152 Km Kn 15:=codeOk Tryz.func152 rfl rfl
def Vg:aB:=(.seq (.region [aQ 2 (.str ⟨#[]⟩)]) (.seq (.region [ab 3 0,ab 2 3])
 .ret))
def Vh:List a8:=[.tmp 2]
theorem c298:aG Tryz.prog 154 Vg Vh 4:=codeOk Tryz.func154 rfl rfl
def Vi:aB:=(.seq (.region [aQ 3 (.ag)]) (.seq (.region [aQ 4 (.ag)]) (.seq (.seq (.region [ab 7 0,cJ 8 7,aQ 9 (.int .i64 0)]) (.block 0 (.loop (.seq (.region [cL 10 .lss 9 8]) (.seq (.cond (sT 10) .skip (.exit 0)) (.seq (.block 1 (.seq (.region [cM 11 13 7 9,bU 12 13 11,⟨some 6,.alloc (.agg [.int .i64 0,.str ⟨#[]⟩,.str ⟨#[]⟩,.str ⟨#[]⟩,.str ⟨#[]⟩,.int .i64 0,.int .i64 0,.str ⟨#[]⟩,.ag,.ag,.ag,.str ⟨#[]⟩,.ag]),none⟩,⟨none,.store 13 (sT 6) (sT 12),none⟩]) (.region [ab 13 4,bU 14 13 6,aH 15 1,bw 16 83 [.tmp 14,.tmp 15],⟨some 17,.aJ 13 [.tmp 16],none⟩,⟨some 18,.append 13 216 (sT 13) (sT 17),none⟩,ab 4 18]))) (.region [bC 19 .add 9 (.int .i64 1),ab 9 19]))))))) (.seq (.region [ab 20 4,ab 3 20])
 .ret))))
def Pq:List a8:=[.tmp 3]
theorem c299:aG Tryz.prog 155 Vi Pq 21:=codeOk Tryz.func155 rfl rfl
def Vj:aB:=(.seq (.region [aQ 5 (.str ⟨#[]⟩)]) (.seq (.qregion [⟨aN 6 12 1,false,0,0,0⟩,⟨aH 7 6,false,0,0,1⟩,⟨aH 8 2,false,0,0,0⟩,⟨⟨some 9,.b5 (sT 8),none⟩,false,0,0,4⟩,⟨aN 10 0 9,false,0,0,12⟩,⟨aN 11 0 10,false,0,0,28⟩,⟨aH 12 11,false,0,0,60⟩,⟨aH 13 3,false,0,0,0⟩,⟨cM 14 3 12 13,false,0,0,252⟩,⟨aN 15 1 14,false,0,0,508⟩,⟨aH 16 15,false,0,0,1020⟩,⟨ab 17 0,false,0,0,0⟩,⟨bw 18 124 [.tmp 16,.tmp 17],false,0,0,4092⟩,⟨cM 19 1 7 18,false,0,0,8191⟩,⟨aH 20 19,false,0,0,16383⟩,⟨ab 5 20,false,0,0,32767⟩])
 .ret))
def Vk:List a8:=[.tmp 5]
theorem c301:aG Tryz.prog 157 Vj Vk 21:=codeOk Tryz.func157 rfl rfl
def Vl:aB:=(.seq (.region [ab 6 0,cJ 7 6,aQ 8 (.int .i64 0)]) (.block 0 (.loop (.seq (.region [cL 9 .lss 8 7]) (.seq (.cond (sT 9) .skip (.exit 0)) (.seq (.block 1 (.seq (.region [cM 10 17 6 8,bU 11 17 10,⟨some 5,.alloc (.agg [.int .i64 0,.int .i64 0,.str ⟨#[]⟩,.str ⟨#[]⟩,.str ⟨#[]⟩,.str ⟨#[]⟩,.int .i64 0,.int .i64 0,.str ⟨#[]⟩,.ag,.ag,.ag,.str ⟨#[]⟩,.ag,.int .i64 0,.ag,.ag]),none⟩,⟨none,.store 17 (sT 5) (sT 11),none⟩]) (.seq (.seq (.region [aN 12 14 5,aH 13 12,bC 14 .geq 13 (.int .i64 0)]) (.cond (sT 14) (.region [ab 15 1,aN 16 14 5,aH 17 16,⟨none,.kG (false,[false]) (sT 15) (sT 17) (.val (.bool true)),none⟩]) .skip)) (.seq (.region [aN 18 15 5,aH 19 18,ab 20 1,bw 21 187 [.tmp 19,.tmp 20]]) (.region [aN 22 16 5,aH 23 22,ab 24 1,bw 25 187 [.tmp 23,.tmp 24]]))))) (.region [bC 26 .add 8 (.int .i64 1),ab 8 26])))))))
def Ko:List a8:=[]
theorem c323:aG Tryz.prog 187 Vl Ko 27:=codeOk Tryz.func187 rfl rfl
def Vm:aB:=(.seq (.region [aQ 4 (.int .i64 0)]) (.seq (.seq (.region [ab 6 0,cJ 7 6,aQ 8 (.int .i64 0)]) (.block 0 (.loop (.seq (.region [cL 9 .lss 8 7]) (.seq (.cond (sT 9) .skip (.exit 0)) (.seq (.block 1 (.seq (.region [ab 10 8,ab 5 10]) (.seq (.region [ab 11 1,ab 12 0,ab 13 5,cM 14 2 12 13,bU 15 2 14,⟨some 16,.call (sT 11) [.tmp 15],none⟩]) (.cond (sT 16) (.seq (.region [ab 17 5,ab 4 17])
 .ret) .skip)))) (.region [bC 18 .add 8 (.int .i64 1),ab 8 18]))))))) (.seq (.region [aQ 4 (.int .i64 (-1))])
 .ret)))
def Ps:List a8:=[.tmp 4]
theorem c324:aG Tryz.prog 195 Vm Ps 19:=codeOk Tryz.func195 rfl rfl
mutual
def AX (X:List Pr):St->List Int
 | .mk k _ _ _ _ _ a b p _=>(if 0<=kI X k p then[kI X k p]else[])++(oV X a++oV X b)
def oV (X:List Pr):List St->List Int
 | []=> []
 | s::l=>AX X s++oV X l
end
def lG (S js:List Int):List Int:=js.foldl fc S
theorem G3 (S a b:List Int):lG S (a++b)=lG (lG S a) b:=by simp[lG]
theorem ze {x:Int}:∀{js S:List Int},x∈lG S js↔x∈S\/x∈js
 | [],S=>by simp[lG]
 | j::js,S=>by
  have:=ze (x:=x) (js:=js) (S:=fc S j);simp only[lG,foldl_cons]at this⊢;rw[this,fN,mem_cons];constructor
  ·rintro((h | h) | h);exact .inl h;exact .inr (.inl h);exact .inr (.inr h)
  ·rintro(h | h | h);exact .inl (.inl h);exact .inl (.inr h);exact .inr h
mutual
theorem G5 {X:List Pr}:∀(s:St),∀j∈AX X s,0<=j/\j<X.length
 | .mk k r t v l e a b p ps,j,h=>by
  simp only[AX,mem_append]at h;rcases h with h | h | h
  ·split at h
   ·rename_i hk;simp at h;subst h;refine⟨hk,?_⟩;by_cases h5:k=5
    ·simp only[kI,h5,if_true]at hk⊢;have:=fO hk;omega
    ·simp[kI,h5]at hk
   ·cases h
  ·exact q8 a j h
  ·exact q8 b j h
theorem q8 {X:List Pr}:∀(l:List St),∀j∈oV X l,0<=j/\j<X.length
 | [],j,h=>by simp[oV]at h
 | s::l,j,h=>by
  simp only[oV,mem_append]at h;rcases h with h | h
  ·exact G5 s j h
  ·exact q8 l j h
end
def mE (X:List Pr) (i:Int):List Int:=oV X (aK X i.toNat)
theorem xo {X:List Pr} {i j:Int} (h:j∈mE X i):0<=j/\j<X.length:=q8 _ _ h
inductive LT (X:List Pr):Int->Int->Prop
 | one {i j:Int}:j∈mE X i->LT X i j
 | more {i j k:Int}:LT X i j->k∈mE X j->LT X i k
theorem LT.in {X:List Pr} {i j:Int} (h:LT X i j):0<=j/\j<X.length:=by
 cases h with
 | one h=>exact xo h
 | more _ h=>exact xo h
theorem LT.trans {X:List Pr} {i j k:Int} (h1:LT X i j) (h2:LT X j k):LT X i k:=by
 induction h2 with
 | one h=>exact .more h1 h
 | more _ h ih=>exact .more ih h
theorem LT.closed {X:List Pr} {i:Int} {S:List Int} (h:∀x∈i::S,∀y∈mE X x,y∈S) {j:Int} (hj:LT X i j):j∈S:=by
 induction hj with
 | one h1=>exact h _ (by simp) _ h1
 | more _ h1 ih=>exact h _ (mem_cons_of_mem _ ih) _ h1
structure p6 (X:List Pr) (A:List (List Int)):Prop where
 len:A.length=X.length
 set:∀(i:Nat) S,A[i]? =some S->eR X.length S/\∀j,j∈S↔LT X i j
def dE (S:List Int):V:=.db (S.map (.int .i64)) (bF S)
theorem Kp (H:List ak) (n:Nat) (S:List Int):fz H (n+1) (dE S)=some (dE S):=by rw[dE,Cm,aS,bZ];rfl
theorem rM (A:List (List Int)):df 1 (A.map dE):=cA _ _ (fun x=>by simp[dE,aw]) A
theorem we {H:List ak} {id:Nat} {S:List Int} (h:H[id]? =some (.mp (S.map (.int .i64)) (bF S))):fz (cQ [id] H) 20 (.map id)=some (dE S)/\∀j,j≠id->(bO [id] H)[j]? =H[j]? :=by
 constructor
 ·have hk:(cQ [id] H)[id]? =some (.mp (S.map (.int .i64)) (bF S)):=by rw[cg,h];simp
  rw[mr,hk,mw,fA,kz];rfl
 ·intro j hj;rw[de,if_neg];rintro⟨hc,_⟩;exact hj (by simpa using hc)
theorem zf (r:List Int) (i:Nat):(bF r).eraseIdx i=bF (r.eraseIdx i):=by simp only[bF,Go.ChangeMaps.map_eraseIdx]
theorem t323 (X:List Pr):∀(m:Nat) (l:List St),SizeOf.sizeOf l<m->∀(n:Int) (H:List ak) (id:Nat) (S:List Int),H[id]? =some (.mp (S.map (.int .i64)) (bF S))->
 av Tryz.prog 187 [.fs ((num l n).map (cb X)),.map id] H (bX (.dJ []) (H.set id (.mp ((lG S (oV X l)).map (.int .i64)) (bF (lG S (oV X l))))))
 | 0,l,h=>absurd h (Nat.not_lt_zero _)
 | m+1,l,hm=>fun n H id S hid=>by
  have ih:=t323 X m;have dF:=(List.getElem?_eq_some_iff.1 hid).1;refine av.trim ?_;refine av.intro c323 400 (by simp) ?_;simp -implicitDefEqProofs only[Vl,ne_eq,not_false_eq_true,fv,fK,Nat.reduceMul,go_sem];intro hlen;refine aL (fun m e H1=>∃pre post n' S' J,num l n=pre++num post n'/\m=post.length/\(∀s∈post,s∈l)/\lG S (oV X l)=lG S' (oV X post)/\e 1=.map id/\e 6=.fs ((num l n).map (cb X))/\e 7=.int .i64 (num l n).length/\e 8=.int .i64 pre.length/\
   H1=H.set id (.mp (S'.map (.int .i64)) (bF S'))++J) l.length
   ⟨[],l,n,S,[],rfl,rfl,fun _ h=>h,rfl,by simp[az,aC],by simp[az,aC],by simp[az,aC],by simp[az,aC],by
    rw[append_nil];apply ext_getElem?
    intro i;rw[getElem?_set];split
    ·rename_i h;subst h;exact hid
    ·rfl⟩ ?_
  rintro m' e H1 ⟨pre,post,n',S',J,ao,rfl,da,r9,h1,h6,h7,h8,rfl⟩;cases post with
  | nil=>
   simp only[num]at ao;simp -implicitDefEqProofs only[h1,h6,h7,h8,aI ao,ne_eq,not_false_eq_true,fv,fK,Nat.reduceMul,go_sem];simp -implicitDefEqProofs only[Ko,ne_eq,not_false_eq_true,fv,fK,Nat.reduceMul,push_cast,go_sem_proc];refine⟨_,J,rfl,by simp,fun i b hb=> ?_,by rw[r9];rfl⟩;rw[getElem?_set]at hb;split at hb
   ·cases hb;right;simp[ak.nr,aS]
   ·exact .inl hb
  | cons s rest=>
   simp only[num]at ao;have hg:=aO (cb X) ao;have Iq:=da s (by simp);have eW:=sizeOf_lt_of_mem Iq;rcases s with⟨sk,r,t,v,lb,⟨ek,en,es,aR⟩,a,b,p,ps⟩
   simp only[St.mk.sizeOf_spec]at eW;rw[ic]at hg;simp only[oV,AX,G3]at r9;generalize Ci:kI X sk p=I at*;have Kq:∀(S1:List Int) (J:List ak),(H.set id (.mp (S1.map (.int .i64)) (bF S1))++J)[id]? =some (.mp (S1.map (.int .i64)) (bF S1)):=fun S1 J=>by
    rw[getElem?_append_left (by simpa using dF),getElem?_set_self dF]
   have EP:∀(S1:List Int) (b:ak) (J:List ak),(H.set id (.mp (S1.map (.int .i64)) (bF S1))++J).set id b=H.set id b++J:=fun S1 b J=>by
    rw[set_append_left _ _ (by simpa using dF),set_set]
   have ha:=fun(S1:List Int) (J:List ak)=>ih a (by omega) (n'+1) _ id S1 (Kq S1 J)
   have hb:=fun(S1:List Int) (J:List ak)=>ih b (by omega) (n'+1+ai a) _ id S1 (Kq S1 J)
   simp only[EP]at ha hb;by_cases hi:0<=I
   ·have Vn:lG S' [I]=fc S' I:=rfl;rw[if_pos hi,Vn]at r9;simp -implicitDefEqProofs only[h1,h6,h7,h8,an ao,aa ao hlen,hg,hi,decide_true,Kq,EP,bL,b8,b9,ne_eq,not_false_eq_true,fv,fK,Nat.reduceMul,go_sem];repeat' (first | ((first | (with_reducible first | refine bR ((ha _ _)) ?_ | refine bR ((hb _ _)) ?_) | (with_reducible refine aD ?_));simp -implicitDefEqProofs only[h1,h6,h7,h8,an ao,aa ao hlen,hg,hi,decide_true,Kq,EP,bL,b8,b9,ne_eq,not_false_eq_true,fv,fK,Nat.reduceMul,go_sem]) | (with_reducible refine aA.mk ?_ ?_) | (with_reducible refine And.intro ?_ ?_) | ((with_reducible refine bz ?_);simp -implicitDefEqProofs only[Ko,ne_eq,not_false_eq_true,fv,fK,Nat.reduceMul,push_cast,go_sem_proc]) | intro _)
    refine⟨_,Nat.lt_succ_self _,pre++ [_],rest,n'+dA (.mk sk r t v lb (.mk ek en es aR) a b p ps),lG (lG (fc S' I) (oV X a)) (oV X b),J++ [_],by rw[ao,append_assoc];rfl,rfl,fun s hs=>da s (mem_cons_of_mem _ hs),r9,by simp,rfl⟩
   ·rw[if_neg hi]at r9;simp -implicitDefEqProofs only[h1,h6,h7,h8,an ao,aa ao hlen,hg,hi,decide_false,Kq,EP,ne_eq,not_false_eq_true,fv,fK,Nat.reduceMul,go_sem];repeat' (first | ((first | (with_reducible first | refine bR ((ha _ _)) ?_ | refine bR ((hb _ _)) ?_) | (with_reducible refine aD ?_));simp -implicitDefEqProofs only[h1,h6,h7,h8,an ao,aa ao hlen,hg,hi,decide_false,Kq,EP,ne_eq,not_false_eq_true,fv,fK,Nat.reduceMul,go_sem]) | (with_reducible refine aA.mk ?_ ?_) | (with_reducible refine And.intro ?_ ?_) | ((with_reducible refine bz ?_);simp -implicitDefEqProofs only[Ko,ne_eq,not_false_eq_true,fv,fK,Nat.reduceMul,push_cast,go_sem_proc]) | intro _)
    refine⟨_,Nat.lt_succ_self _,pre++ [_],rest,n'+dA (.mk sk r t v lb (.mk ek en es aR) a b p ps),lG (lG S' (oV X a)) (oV X b),J++ [_],by rw[ao,append_assoc];rfl,rfl,fun s hs=>da s (mem_cons_of_mem _ hs),r9,by simp,rfl⟩
def N0 (X:List Pr) (i:Int):List Int:=lG [] (mE X i)
theorem AY {X:List Pr} {i j:Int}:j∈N0 X i↔j∈mE X i:=by simp[N0,ze]
structure BF (X:List Pr) (i:Int) (k:Nat) (S:List Int):Prop where
 set:eR X.length S
 lt:∀x∈S,LT X i x
 kle:k<=S.length+1
 done:∀x∈(i::S).take k,∀y∈mE X x,y∈S
theorem BF.start (X:List Pr) (i:Int):BF X i 0 []:=⟨eR.nil _,by simp,by simp,by simp⟩
theorem BF.fin {X:List Pr} {i:Int} {S:List Int} (h:BF X i (S.length+1) S):∀j,j∈S↔LT X i j:=fun j=>by
 have hd:=h.done;rw[take_of_length_le (by simp)]at hd;exact⟨h.lt j,fun hj=>LT.closed hd hj⟩
theorem BF.grow {X:List Pr} {i:Int} {k:Nat} {S S':List Int} (h:BF X i k S) (T:List Int) (hS:S'=S++T) (iI:eR X.length S') (ct:∀x∈S',LT X i x) {x:Int} (hx:(i::S)[k]? =some x) (hn:∀y∈mE X x,y∈S'):BF X i (k+1) S':=by
 have hk:=(List.getElem?_eq_some_iff.1 hx).1;simp only[length_cons]at hk;refine⟨iI,ct,by rw[hS];simp;omega,fun z hz=> ?_⟩;have ht:(i::S').take (k+1)=(i::S).take k++ [x]:=by
  rw[hS,<-cons_append,take_append_of_le_length (by simp;omega),take_add_one,hx];rfl
 rw[ht,mem_append]at hz;rcases hz with hz | hz
 ·intro y hy;rw[hS];exact mem_append_left _ (h.done z hz y hy)
 ·simp at hz;subst hz;exact hn
structure LH (NS A:List (List Int)) (H:List ak) (nN m1 gz:Nat) (rN:V) (i:Int) (S:List Int):Prop where
 nx:H[nN]? =some (.row (NS.map dE))
 out:OV H rN (A.map dE)
 all:H[m1]? =some (.mp (S.map (.int .i64)) (bF S))
 line:H[gz]? =some (.row ((i::S).map (.int .i64)))
 d1:gz≠nN
 d2:a7 rN gz
 d3:a7 rN nN
theorem OV.xp {H:List ak} {kv:V} {acc:List V} (h:OV H kv acc) {j:Nat} {b:ak} (hb:H[j]? =some b) (hn:∀es,b≠ .row es):a7 kv j:=by
 rintro a c rfl;rcases h with⟨_,h⟩ | ⟨_,id,h,h2⟩
 ·cases h
 ·injection h with h _ _
  subst h;rw[hb]at h2;injection h2 with h2;exact hn _ h2
theorem LH.app {NS A:List (List Int)} {H:List ak} {nN m1 gz:Nat} {rN:V} {i:Int} {S:List Int} (h:LH NS A H nN m1 gz rN i S) (J:List ak):LH NS A (H++J) nN m1 gz rN i S where
 nx:=by rw[getElem?_append_left (List.getElem?_eq_some_iff.1 h.nx).1];exact h.nx
 out:=h.out.app J
 all:=by rw[getElem?_append_left (List.getElem?_eq_some_iff.1 h.all).1];exact h.all
 line:=by rw[getElem?_append_left (List.getElem?_eq_some_iff.1 h.line).1];exact h.line
 d1:=h.d1
 d2:=h.d2
 d3:=h.d3
theorem LH.Vo {NS A:List (List Int)} {H:List ak} {nN m1 gz:Nat} {rN:V} {i:Int} {S:List Int} (h:LH NS A H nN m1 gz rN i S) {it:Nat} {ks vs:List V} {cur:Option (V×V)} (hit:H[it]? =some (.it ks vs cur)) (b:ak):LH NS A (H.set it b) nN m1 gz rN i S where
 nx:=by rw[getElem?_set_ne (fun e=>by subst e;rw[h.nx]at hit;cases hit)];exact h.nx
 out:=h.out.set (h.out.xp hit (fun es=>by simp))
 all:=by rw[getElem?_set_ne (fun e=>by subst e;rw[h.all]at hit;cases hit)];exact h.all
 line:=by rw[getElem?_set_ne (fun e=>by subst e;rw[h.line]at hit;cases hit)];exact h.line
 d1:=h.d1
 d2:=h.d2
 d3:=h.d3
theorem LH.ovl {NS A:List (List Int)} {H:List ak} {nN m1 gz:Nat} {rN:V} {i:Int} {S:List Int} (h:LH NS A H nN m1 gz rN i S) (y:Int):
 OV (H.set m1 (.mp ((S++ [y]).map (.int .i64)) (bF (S++ [y])))) (.ms gz 0 (S.length+1)) ((i::S).map (.int .i64)):=by
 refine .inr ⟨by simp,gz,by simp,?_⟩;rw[getElem?_set_ne (fun e=>by subst e;have:=h.all;rw[h.line]at this;cases this)];exact h.line
theorem LH.add {NS A:List (List Int)} {H H':List ak} {nN m1 gz:Nat} {rN bN:V} {i:Int} {S:List Int} (h:LH NS A H nN m1 gz rN i S) {y:Int}
 (bm:OV H' bN ((i::S).map (.int .i64)++ [.int .i64 y])) (hle:(H.set m1 (.mp ((S++ [y]).map (.int .i64)) (bF (S++ [y])))).length<=H'.length)
 (cp:∀j,j<(H.set m1 (.mp ((S++ [y]).map (.int .i64)) (bF (S++ [y])))).length->a7 (.ms gz 0 (S.length+1)) j->H'[j]? =(H.set m1 (.mp ((S++ [y]).map (.int .i64)) (bF (S++ [y]))))[j]? /\a7 bN j):
 ∃mF,bN=.ms mF 0 (S.length+2)/\LH NS A H' nN m1 mF rN i (S++ [y])/\∀j,j<H.length->j≠gz->j≠m1->H'[j]? =H[j]? /\j≠mF:=by
 have qK:=(List.getElem?_eq_some_iff.1 h.all).1;have j6:=(List.getElem?_eq_some_iff.1 h.nx).1;have QS:m1≠nN:=fun e=>by subst e;have:=h.all;rw[h.nx]at this;cases this
 have Ii:gz≠m1:=fun e=>by subst e;have:=h.all;rw[h.line]at this;cases this
 have Vp:∀j,j≠gz->a7 (.ms gz 0 (S.length+1)) j:=fun j hj a b e=>by injection e with e;exact hj e.symm
 have yV:(i::S).map (V.int .i64)++ [.int .i64 y]=(i::(S++ [y])).map (.int .i64):=by simp
 rcases bm with⟨h1,_⟩ | ⟨_,mF,rfl,h2⟩
 ·simp at h1
 rw[yV]at h2;have G6:∀j,j<H.length->j≠gz->j≠m1->H'[j]? =H[j]? /\j≠mF:=fun j hj h1 h2=>by
  obtain⟨h3,h4⟩:=cp j (by simpa using hj) (Vp j h1);rw[getElem?_set_ne (Ne.symm h2)]at h3;exact⟨h3,fun e=>h4 0 _ (by rw[e])⟩
 refine⟨mF,by simp,⟨?_,?_,?_,h2,?_,?_,h.d3⟩,G6⟩
 ·rw[(G6 nN j6 h.d1.symm QS.symm).1];exact h.nx
 ·refine h.out.frame (fun id o n hid hl=>(G6 id hl (fun e=>h.d2 o n (by rw[hid,e])) (fun e=> ?_)).1);have:=h.out.xp h.all (fun es=>by simp);exact this o n (by rw[hid,e])
 ·rw[(cp m1 (by simpa using qK) (Vp m1 Ii.symm)).1,getElem?_set_self qK]
 ·exact fun e=>(G6 nN j6 h.d1.symm QS.symm).2 e.symm
 ·intro a b e;by_cases hl:mF<H.length
  ·have h1:mF=gz:=Classical.byContradiction fun hc=>by
    by_cases h3:mF=m1
    ·subst h3;exact h.out.xp h.all (fun es=>by simp) a b e
    ·exact(G6 mF hl hc h3).2 rfl
   subst h1;exact h.d2 a b e
  ·exact h.out.lt (by omega) a b e
theorem p7 {r:List Int} {j:Nat} {y z:Int} (hj:r[j]? =some y) (hz:z∈r):z∈r.eraseIdx j\/z=y:=by
 obtain⟨i,hi⟩:=getElem?_of_mem hz;by_cases h:i=j
 ·subst h;rw[hi]at hj;injection hj with hj;exact .inr hj
 ·left;rw[mem_eraseIdx_iff_getElem?];exact⟨i,h,hi⟩
theorem t290 (P:bH) (ew:P.procs.length<=1000000) (E:List Bool):af Tryz.prog 139 [.bc (fy P E)] (fun r=>∃A,r=.fs (A.map dE)/\p6 P.procs A):=by
 have QT:=cT P.procs P.procs (ai P.main);have hbG:=mX P;have D8:=t323 P.procs;simp only[fy,lE];generalize DM:eF P.procs P.procs (ai P.main)=BL at*;generalize V.fs (P.procs.map aF)=c0 at*;generalize V.fs (P.main.map encS)=c1 at*;generalize V.fs ((num P.main 0).map (cb P.procs))=c2 at*;refine af.intro c290 900 (by simp) 20 ?_;simp -implicitDefEqProofs only[U9,go_sem];repeat' (first | ((with_reducible refine aD ?_);simp -implicitDefEqProofs only[go_sem]) | (with_reducible refine aA.mk ?_ ?_) | (with_reducible refine And.intro ?_ ?_) | ((with_reducible refine bz ?_);simp -implicitDefEqProofs only[Pk,push_cast,go_sem_proc]) | intro _)
 rename_i OE;refine aL (fun m e H=>∃i kv,i+m=P.procs.length/\e 0=.bc [c0,c1,c2,.fs BL,.fs (E.map .bool)]/\e 3=kv/\e 16=.fs BL/\e 17=.int .i64 P.procs.length/\e 18=.int .i64 i/\OV H kv (((List.range i).map fun(j:Nat)=>N0 P.procs (j:Int)).map dE)) P.procs.length
  ⟨0,.ag,by simp,by simp[az,aC],by simp[az,aC],by simp[az,aC],by simp[az,aC,QT],by simp[az,aC],.inl ⟨rfl,rfl⟩⟩ ?_
 rintro m e H ⟨i,kv,QU,h0,h3,cZ,ea,ft,bm⟩;have cP:=bm.one;have ba:=bm.cS;simp only[V.one]at ba;cases m with
 | zero=>
  have hi:i=P.procs.length:=by omega
  subst hi;have Vq:((List.range P.procs.length).map fun(j:Nat)=>N0 P.procs (j:Int)).length=P.procs.length:=by simp
  have hNg:∀x:Int,0<=x->x<P.procs.length->(((List.range P.procs.length).map fun(j:Nat)=>N0 P.procs (j:Int)).map dE).getD x.toNat .any=dE (N0 P.procs x):=fun x h0 h1=>by
   have hx:x.toNat<P.procs.length:=by omega
   simp[List.getD,getElem?_map,hx];congr 1;congr 1;omega
  generalize ((List.range P.procs.length).map fun(j:Nat)=>N0 P.procs (j:Int))=NS at*;simp -implicitDefEqProofs only[h0,h3,cZ,ea,ft,Int.lt_irrefl,decide_false,go_sem];intro _;refine aL (fun m e H=>∃i A rN,i+m=P.procs.length/\A.length=i/\(∀(j:Nat) S,A[j]? =some S->eR P.procs.length S/\∀y,y∈S↔LT P.procs j y)/\e 3=kv/\e 7=rN/\e 34=.fs BL/\e 35=.int .i64 P.procs.length/\e 36=.int .i64 i/\
   OV H kv (NS.map dE)/\OV H rN (A.map dE)/\dj kv rN) P.procs.length
   ⟨0,[],.ag,by simp,rfl,by simp,by simp[az,h3],by simp[az],by simp[az],by simp[az,QT],by simp[az],bm,.inl ⟨rfl,rfl⟩,fun id=> .inr (fun a b h=>by cases h)⟩ ?_
  clear bm h0 h3 cZ ea ft e H;rintro m e H ⟨i,A,rN,QU,Kr,hA,h3,h7,mU,gL,hU,bm,D9,Pt⟩;have j8:=D9.one;have cY:=D9.cS;simp only[V.one]at cY;cases m with
  | zero=>
   have hi:i=P.procs.length:=by omega
   subst hi;have hz:fz H 20 rN=_:=dw (f:=dE) (n:=18) (fun H x=>Kp _ _ x) D9;simp -implicitDefEqProofs only[h3,h7,mU,gL,hU,Int.lt_irrefl,decide_false,go_sem];simp -implicitDefEqProofs only[Pk,h7,hz,push_cast,go_sem_proc];try exact⟨A,rfl,⟨Kr,hA⟩⟩
  | succ m=>
   have hi:i<P.procs.length:=by omega
   have ct:decide ((i:Int)<(P.procs.length:Int))=true:=by simp;omega
   have zg:=bG (k:=i) (by omega);obtain⟨nN,eJ,Ks⟩:∃nN,kv=.ms nN 0 P.procs.length/\H[nN]? =some (.row (NS.map dE)):=by
    rcases bm with⟨h1,_⟩ | ⟨_,id,h1,h2⟩
    ·have:=congrArg List.length h1;rw[length_map,Vq,length_nil]at this;omega
    ·exact⟨id,by rw[h1];simp[Vq],h2⟩
   have Vr:a7 rN nN:=fun a b e=>by
    rcases Pt nN with h | h
    ·exact h 0 P.procs.length eJ
    ·exact h a b e
   simp -implicitDefEqProofs only[h3,h7,mU,gL,hU,ct,QT,hi,go_sem];refine aL (fun m e H=>∃k S m1 gz,k+m=P.procs.length+2/\BF P.procs (i:Int) k S/\LH NS A H nN m1 gz rN (i:Int) S/\e 3=kv/\e 7=rN/\e 34=.fs BL/\e 35=.int .i64 P.procs.length/\e 36=.int .i64 i/\
    e 9=.map m1/\e 10=.ms gz 0 (S.length+1)/\e 11=.int .i64 k) (P.procs.length+2)
    ⟨0,[],H.length,H.length+1,by simp,BF.start _ _,⟨by rw[getElem?_append_left (List.getElem?_eq_some_iff.1 Ks).1];exact Ks,D9.app _,by simp[bF],by rw[getElem?_append_right (by omega)];simp,by have:=(List.getElem?_eq_some_iff.1 Ks).1;omega,D9.lt (by omega),Vr⟩,
     by simp[az,h3],by simp[az,h7],by simp[az,mU],by simp[az,gL],by simp[az,hU],by simp[az],by simp[az],by simp[az]⟩ ?_
   clear h3 h7 mU gL hU bm D9 Ks e H;rintro m2 e H ⟨k,S,m1,gz,DW,Iy,AZ,h3,h7,mU,gL,hU,h9,eb,ez⟩;have Xo:=Iy.set.len;have hk:=Iy.kle;by_cases ED:k<S.length+1
   ·obtain⟨x,hx⟩:∃x,((i:Int)::S)[k]? =some x:=⟨((i:Int)::S)[k]'(by simpa using ED),getElem?_eq_getElem _⟩;have Io:0<=x/\x<P.procs.length:=by
     cases k with
     | zero=>simp at hx;omega
     | succ k=>
      have hm:=mem_of_getElem? (show S[k]? =some x by simpa using hx);exact⟨Iy.set.lo x hm,Iy.set.hi x hm⟩
    have hdk:decide ((k:Int)<((S.length+1:Nat):Int))=true:=by simp;omega
    have hgx:(((i:Int)::S).map (V.int .i64)).getD k .any=.int .i64 x:=by rw[getD_eq_getElem?_getD,getElem?_map,hx];rfl
    simp only[map_cons]at hgx;have hNx:=hNg x Io.1 Io.2;have hixx:iD x P.procs.length:=⟨Io.1,by omega⟩;have hnx:=AZ.nx;have SY:=AZ.line;have qK:=AZ.all;have Q9:x.toNat<P.procs.length:=by omega
    have qx:=bG (k:=k) (by omega);simp -implicitDefEqProofs only[h3,h7,mU,gL,hU,h9,eb,ez,eJ,hdk,hgx,hnx,SY,qK,hNx,hixx,ED,Vq,Q9,Nat.le_refl,dE,go_sem];intro _;have ER:0<m2:=by omega
    obtain⟨it,Pu⟩:∃it,it=H.length:=⟨_,rfl⟩;refine aL (fun m e H=>∃r S' T mF,m=r.length/\S'=S++T/\eR P.procs.length S'/\(∀y∈S',LT P.procs (i:Int) y)/\(∀y∈N0 P.procs x,y∈r\/y∈S')/\(∀y∈r,y∈N0 P.procs x)/\LH NS A H nN m1 mF rN (i:Int) S'/\
     (∃cur,H[it]? =some (.it (r.map (.int .i64)) (bF r) cur))/\e 3=.ms nN 0 P.procs.length/\e 7=rN/\e 34=.fs BL/\e 35=.int .i64 P.procs.length/\e 36=.int .i64 i/\e 9=.map m1/\e 10=.ms mF 0 (S'.length+1)/\e 11=.int .i64 k/\e 55=.ptr it 0 0) (N0 P.procs x).length
     ⟨N0 P.procs x,S,[],gz,rfl,by simp,Iy.set,Iy.lt,fun y hy=> .inl hy,fun y hy=>hy,AZ.app _,⟨none,by rw[Pu];simp⟩,by simp[az,h3,eJ],by simp[az,h7],by simp[az,mU],by simp[az,gL],by simp[az,hU],by simp[az,h9],by simp[az,eb],by simp[az,ez],by simp[az,Pu]⟩ ?_
    clear h3 h7 mU gL hU h9 eb ez hnx SY qK AZ Pu e H;rintro m3 e H ⟨r,S',T,mF,rfl,hST,Cx,Pv,QH,Xe,AZ,⟨cur,hit⟩,h3,h7,mU,gL,hU,h9,eb,ez,NG⟩;simp -implicitDefEqProofs only[h3,h7,mU,gL,hU,h9,eb,ez,NG,hit,go_sem];refine⟨fun hr=> ?_,fun j kk vv uk hvv=> ?_⟩
    ·have hr:r=[]:=by simpa using hr
     subst hr;simp -implicitDefEqProofs only[h3,h7,mU,gL,hU,h9,eb,ez,NG,hit,qx,go_sem];refine⟨m2 - 1,by omega,k+1,S',m1,mF,by omega,Iy.grow T hST Cx Pv hx (fun y hy=> ?_),AZ,?_⟩
     ·rcases QH y (AY.2 hy)with h | h
      ·cases h
      ·exact h
     ·exact⟨rfl,rfl,rfl⟩
    ·rw[getElem?_map]at uk;cases hy:r[j]? with
     | none=>rw[hy]at uk;cases uk
     | some y=>
     rw[hy]at uk;simp only[Option.map_some,Option.some.injEq]at uk;subst uk;have hvv':vv=.bool true:=by
      simp only[bF,getElem?_map,hy,Option.map_some,Option.some.injEq]at hvv;exact hvv.symm
     subst hvv';have hitl:=(List.getElem?_eq_some_iff.1 hit).1;rw[<-Go.ChangeMaps.map_eraseIdx,zf];have Ea:=AZ.Vo hit (.it ((r.eraseIdx j).map (.int .i64)) (bF (r.eraseIdx j)) (some (.int .i64 y,.bool true)));have Eb:(H.set it (.it ((r.eraseIdx j).map (.int .i64)) (bF (r.eraseIdx j)) (some (.int .i64 y,.bool true))))[it]? =some (.it ((r.eraseIdx j).map (.int .i64)) (bF (r.eraseIdx j)) (some (.int .i64 y,.bool true))):=getElem?_set_self hitl;generalize H.set it (.it ((r.eraseIdx j).map (.int .i64)) (bF (r.eraseIdx j)) (some (.int .i64 y,.bool true)))=H2 at*;have qK:=Ea.all;have hyN:=Xe y (mem_of_getElem? hy);have hle:(r.eraseIdx j).length<r.length:=by
      have:=(List.getElem?_eq_some_iff.1 hy).1;rw[length_eraseIdx,if_pos this];omega
     by_cases EI:y∈S'
     ·simp -implicitDefEqProofs only[h3,h7,mU,gL,hU,h9,eb,ez,NG,Eb,qK,bL,b6,EI,decide_true,go_sem];refine⟨_,hle,r.eraseIdx j,S',T,mF,rfl,hST,Cx,Pv,fun z hz=> ?_,fun z hz=>Xe z (mem_of_mem_eraseIdx hz),Ea,⟨_,rfl⟩,rfl⟩;rcases QH z hz with h | h
      ·rcases p7 hy h with h | rfl
       ·exact .inl h
       ·exact .inr EI
      ·exact .inr h
     ·have r9:fc S' y=S'++ [y]:=by rw[fc,if_neg (by simpa using EI)]
      simp -implicitDefEqProofs only[h3,h7,mU,gL,hU,h9,eb,ez,NG,Eb,qK,bL,b6,b8,b9,r9,EI,decide_false,go_sem];rw[<-sr];have hyI:=xo (AY.1 hyN);refine cu (Ea.ovl y) (fun i o l h=>by cases h) (cA _ _ (fun x=>by simp[aw]) _) (by have:=Cx.len;simp only[length_map,length_cons,length_nil];omega) ?_;rintro bN H' bo hle' cp;obtain⟨idl2,rfl,hlh3,hoth⟩:=Ea.add bo hle' cp;have Vs:=(List.getElem?_eq_some_iff.1 Eb).1;have FA:it≠mF:=fun e=>by subst e;have:=Ea.line;rw[Eb]at this;cases this
      have DF:it≠m1:=fun e=>by subst e;have:=Ea.all;rw[Eb]at this;cases this
      simp -implicitDefEqProofs only[h3,h7,mU,gL,hU,h9,eb,ez,NG,go_sem];have Vt:eR P.procs.length (S'++ [y]):=by
       rw[<-r9];obtain⟨yn,rfl⟩:∃yn:Nat,y=yn:=⟨y.toNat,by omega⟩;exact Cx.add (by omega)
      refine⟨_,hle,r.eraseIdx j,S'++ [y],T++ [y],idl2,rfl,by rw[hST,append_assoc],Vt,fun z hz=> ?_,fun z hz=> ?_,fun z hz=>Xe z (mem_of_mem_eraseIdx hz),hlh3,⟨_,by rw[(hoth it Vs FA DF).1];exact Eb⟩,by simp⟩
      ·rcases List.mem_append.1 hz with hz | hz
       ·exact Pv z hz
       ·simp at hz;subst hz;have Ax:=AY.1 hyN;cases k with
        | zero=>
         simp at hx;subst hx;exact .one Ax
        | succ k=>
         have hxm:=mem_of_getElem? (show S[k]? =some x by simpa using hx);exact .more (Iy.lt x hxm) Ax
      ·rcases QH z hz with h | h
       ·rcases p7 hy h with h | rfl
        ·exact .inl h
        ·exact .inr (by simp)
       ·exact .inr (by simp[h])
   ·have Ip:k=S.length+1:=by omega
    subst Ip;have hdk:decide (((S.length+1:Nat):Int)<((S.length+1:Nat):Int))=false:=by simp
    have lX:=we AZ.all;have QS:m1≠nN:=fun e=>by
     subst e;have:=AZ.all;rw[AZ.nx]at this;cases this
    have Vu:OV (bO [m1] H) rN (A.map dE):=AZ.out.frame (fun id o n hid hl=>lX.2 id (fun e=>AZ.out.xp AZ.all (fun es=>by simp) o n (by rw[hid,e])));simp -implicitDefEqProofs only[h3,h7,mU,gL,hU,h9,eb,ez,eJ,hdk,go_sem];intro _;refine⟨_,_,lX.1,?_⟩;simp -implicitDefEqProofs only[h3,h7,mU,gL,hU,h9,eb,ez,dE,go_sem];refine cu Vu (fun i o l h=>by cases h) (rM _) (by simp;omega) ?_;rintro bN H' bo hle cp;simp -implicitDefEqProofs only[h3,h7,mU,gL,hU,h9,eb,ez,zg,go_sem];have Vv:(bO [m1] H)[nN]? =some (.row (NS.map dE)):=by rw[lX.2 nN QS.symm];exact AZ.nx
    have jl:=(List.getElem?_eq_some_iff.1 Vv).1;obtain⟨ky,jO⟩:=cp nN jl Vr;refine⟨m,Nat.lt_succ_self _,i+1,A++ [S],bN,by omega,by simp[Kr],fun j S1 hj=> ?_,eJ,rfl,rfl,.inr ⟨fun h=> ?_,nN,by simp[Vq],by rw[ky];exact Vv⟩,by simpa[dE]using bo,fun id=> ?_⟩
    ·by_cases oN:j<A.length
     ·rw[getElem?_append_left oN]at hj;exact hA j S1 hj
     ·rw[getElem?_append_right (by omega)]at hj;have h0:j - A.length=0:=by have:=(List.getElem?_eq_some_iff.1 hj).1;simp at this;omega
      have:j=i:=by omega
      subst this;rw[h0]at hj;simp at hj;subst hj;exact⟨Iy.set,Iy.fin⟩
    ·have:=congrArg List.length h;rw[length_map,Vq,length_nil]at this;omega
    ·by_cases hid:id=nN
     ·subst hid;exact .inr jO
     ·exact .inl (fun a b e=>by injection e with e;exact hid e.symm)
 | succ m=>
  have hi:i<P.procs.length:=by omega
  have hBG:=hbG i hi;have ct:decide ((i:Int)<(P.procs.length:Int))=true:=by simp;omega
  have D8:=D8 _ (aK P.procs i) (Nat.lt_succ_self _) (dc P i);have hN:lG [] (oV P.procs (aK P.procs i))=N0 P.procs (i:Int):=by simp[N0,mE]
  have D8:=D8 (H++ [.mp [] []]) H.length [] (by simp[bF]);rw[hN,l8]at D8;have lX:=we (H:=H++ [.mp ((N0 P.procs (i:Int)).map (.int .i64)) (bF (N0 P.procs (i:Int)))]) (id:=H.length) (S:=N0 P.procs (i:Int)) (by simp);have zg:=bG (k:=i) (by omega);have bJ:OV (bO [H.length] (H++ [.mp ((N0 P.procs (i:Int)).map (.int .i64)) (bF (N0 P.procs (i:Int)))])) kv (((List.range i).map fun(j:Nat)=>N0 P.procs (j:Int)).map dE):=(bm.app _).frame (fun id o n hid _=>lX.2 id (fun e=>bm.lt (Nat.le_refl _) o n (by rw[hid,e])));simp -implicitDefEqProofs only[h0,h3,cZ,ea,ft,ct,hBG,hi,QT,go_sem];refine bR D8 ?_;simp -implicitDefEqProofs only[h0,h3,cZ,ea,ft,ct,hBG,hi,QT,go_sem];refine⟨_,_,lX.1,?_⟩;simp -implicitDefEqProofs only[h0,h3,cZ,ea,ft,ct,hBG,hi,QT,dE,go_sem];refine cu bJ (fun i o l h=>by cases h) (rM _) (by simp;omega) ?_;rintro bN H' bo hle cp;simp -implicitDefEqProofs only[h0,h3,cZ,ea,ft,zg,go_sem];refine⟨m,Nat.lt_succ_self _,i+1,bN,by omega,rfl,rfl,?_⟩;rw[range_succ,map_append,map_append];simpa[dE]using bo
inductive zh (X:List Pr) (k:Int):Int->Int->Prop
 | one {i j:Int}:j∈mE X i->zh X k i j
 | more {i m j:Int}:zh X k i m->m<k->j∈mE X m->zh X k i j
theorem zh.lt {X:List Pr} {k i j:Int} (h:zh X k i j):LT X i j:=by
 induction h with
 | one h=>exact .one h
 | more _ _ h ih=>exact .more ih h
theorem zh.of {X:List Pr} {i j:Int} (h:LT X i j):zh X X.length i j:=by
 induction h with
 | one h=>exact .one h
 | more h1 h ih=>exact .more ih h1.in.2 h
theorem zh.succ {X:List Pr} {k i j:Int} (h:zh X (k+1) i j):zh X k i j\/(zh X k i k/\zh X k k j):=by
 induction h with
 | one h=>exact .inl (.one h)
 | @more m j h1 hm hj ih=>
  by_cases IE:m=k
  ·subst IE;rcases ih with h | h
   ·exact .inr ⟨h,.one hj⟩
   ·exact .inr ⟨h.1,.one hj⟩
  ·rcases ih with h | h
   ·exact .inl (.more h (by omega) hj)
   ·exact .inr ⟨h.1,.more h.2 (by omega) hj⟩
def MA (A:List (List Int)) (i j:Int):Prop:=0<=i/\j∈A.getD i.toNat []
structure Wa (X:List Pr) (A:List (List Int)) (k:Int):Prop where
 len:A.length=X.length
 set:∀S∈A,eR X.length S
 sound:∀i j:Int,MA A i j->LT X i j
 done:∀i j:Int,0<=i->i<X.length->zh X k i j->MA A i j
theorem Wa.fin {X:List Pr} {A:List (List Int)} (h:Wa X A X.length):p6 X A:=by
 refine⟨h.len,fun i S hi=>⟨h.set S (mem_of_getElem? hi),fun j=> ?_⟩⟩;have dF:=(List.getElem?_eq_some_iff.1 hi).1;have hg:A.getD (i:Int).toNat []=S:=by rw[Int.toNat_natCast,getD_eq_getElem?_getD,hi];rfl
 constructor
 ·intro hj;exact h.sound i j ⟨by omega,by rw[hg];exact hj⟩
 ·intro hj;have:=(h.done i j (by omega) (by have:=h.len;omega) (zh.of hj)).2;rw[hg]at this;exact this
def q9 (A:List (List Int)) (i:Nat) (j:Int):List (List Int):=A.set i (fc (A.getD i []) j)
theorem mG {A:List (List Int)} {i:Nat} {j:Int} (hi:i<A.length) (a b:Int):MA (q9 A i j) a b↔MA A a b\/(a=i/\b=j):=by
 simp only[MA,q9,getD_eq_getElem?_getD,getElem?_set];constructor
 ·rintro⟨h0,h⟩;by_cases ha:i=a.toNat
  ·rw[if_pos ha,if_pos hi]at h;simp only[Option.getD_some,fN]at h;rcases h with h | h
   ·exact .inl ⟨h0,by rw[<-ha];exact h⟩
   ·exact .inr ⟨by omega,h⟩
  ·rw[if_neg ha]at h;exact .inl ⟨h0,h⟩
 ·rintro(⟨h0,h⟩ | ⟨rfl,rfl⟩)
  ·refine⟨h0,?_⟩;by_cases ha:i=a.toNat
   ·rw[if_pos ha,if_pos hi];simp only[Option.getD_some,fN];exact .inl (by rw[ha];exact h)
   ·rw[if_neg ha];exact h
  ·refine⟨by omega,?_⟩;simp[hi,fN]
theorem um (A:List (List Int)) (i:Nat) (j:Int):(q9 A i j).length=A.length:=by simp[q9]
theorem zi {n:Nat} {A:List (List Int)} (h:∀S∈A,eR n S) {i:Nat} {j:Int} (hj:0<=j/\j<n):∀S∈q9 A i j,eR n S:=by
 intro S hS;rcases mem_or_eq_of_mem_set hS with h1 | rfl
 ·exact h S h1
 ·obtain⟨jn,rfl⟩:∃jn:Nat,j=jn:=⟨j.toNat,by omega⟩;refine eR.add ?_ (by omega);rw[getD_eq_getElem?_getD];cases hA:A[i]? with
  | none=>exact eR.nil _
  | some S=>exact h S (mem_of_getElem? hA)
structure Wb (X:List Pr) (A:List (List Int)) (k i j:Nat):Prop where
 wa:Wa X A k
 rows:∀a b:Int,0<=a->a<i->zh X ((k:Int)+1) a b->MA A a b
 row:∀b:Int,b<j->zh X ((k:Int)+1) i b->MA A i b
theorem Wb.start {X:List Pr} {A:List (List Int)} {k:Nat} (h:Wa X A k):Wb X A k 0 0:=⟨h,fun a b h0 h1=>by omega,fun b hb h=>by
 have:=h.lt.in;omega⟩
theorem Wb.next {X:List Pr} {A:List (List Int)} {k i:Nat} (h:Wb X A k i X.length):Wb X A k (i+1) 0:=⟨h.wa,fun a b h0 h1 hl=>by
 by_cases ha:a<i
 ·exact h.rows a b h0 ha hl
 ·have:a=i:=by omega
  subst this;exact h.row b hl.lt.in.2 hl,fun b hb hl=>by have:=hl.lt.in;omega⟩
theorem Wb.fin {X:List Pr} {A:List (List Int)} {k:Nat} (h:Wb X A k X.length 0):Wa X A ((k+1:Nat):Int):=⟨h.wa.len,h.wa.set,h.wa.sound,fun i j h0 h1 hl=>h.rows i j h0 h1 (by simpa using hl)⟩
theorem Wb.skip {X:List Pr} {A:List (List Int)} {k i j:Nat} (hi:i<X.length) (hk:k<X.length) (h:Wb X A k i j) (hn:¬(MA A i k/\MA A k j)):Wb X A k i (j+1):=⟨h.wa,h.rows,fun b hb hl=>by
 by_cases hbj:b<j
 ·exact h.row b hbj hl
 ·have:b=j:=by omega
  subst this;rcases hl.succ with h1 | ⟨h1,h2⟩
  ·exact h.wa.done i j (by omega) (by omega) h1
  ·exact absurd ⟨h.wa.done i k (by omega) (by omega) h1,h.wa.done k j (by omega) (by omega) h2⟩ hn⟩
theorem Wb.put {X:List Pr} {A:List (List Int)} {k i j:Nat} (hi:i<X.length) (hj:j<X.length) (h:Wb X A k i j) (hy:MA A i k/\MA A k j):Wb X (q9 A i j) k i (j+1):=by
 have dF:i<A.length:=by rw[h.wa.len];exact hi
 refine⟨⟨by rw[um];exact h.wa.len,zi h.wa.set (by omega),fun a b wQ=> ?_,fun a b h0 h1 hl=>(mG dF a b).2 (.inl (h.wa.done a b h0 h1 hl))⟩,fun a b h0 h1 hl=>(mG dF a b).2 (.inl (h.rows a b h0 h1 hl)),fun b hb hl=> ?_⟩
 ·rcases(mG dF a b).1 wQ with h1 | ⟨rfl,rfl⟩
  ·exact h.wa.sound a b h1
  ·exact(h.wa.sound _ _ hy.1).trans (h.wa.sound _ _ hy.2)
 ·by_cases hbj:b<j
  ·exact(mG dF i b).2 (.inl (h.row b hbj hl))
  ·exact(mG dF i b).2 (.inr ⟨rfl,by omega⟩)
def LV:St->Int->List Pr->Prop
 | .mk k _ _ _ _ _ _ _ p _,j,X=>kI X k p=j/\0<=j
mutual
theorem Pw {X:List Pr} {j:Int}:∀(s:St) (pr:Int) (la:Bool),j∈AX X s↔∃y∈nu s pr la,LV y.1 j X
 | .mk k r t v l e a b p ps,pr,la=>by
  have ha:=uo (X:=X) (j:=j) a pr la;have hb:=uo (X:=X) (j:=j) b pr la;simp only[AX,mem_append,nu,mem_cons,exists_eq_or_imp,ha,hb,LV];constructor
  ·rintro(h | ⟨y,hy,h⟩ | ⟨y,hy,h⟩)
   ·split at h
    ·rename_i hk;simp at h;subst h;exact .inl ⟨rfl,hk⟩
    ·cases h
   ·exact .inr ⟨y,.inl hy,h⟩
   ·exact .inr ⟨y,.inr hy,h⟩
  ·rintro(⟨h1,h2⟩ | ⟨y,hy | hy,h⟩)
   ·left;rw[if_pos (by rw[h1];exact h2),h1];simp
   ·exact .inr (.inl ⟨y,hy,h⟩)
   ·exact .inr (.inr ⟨y,hy,h⟩)
theorem uo {X:List Pr} {j:Int}:∀(l:List St) (pr:Int) (la:Bool),j∈oV X l↔∃y∈gC l pr la,LV y.1 j X
 | [],pr,la=>by simp[oV,gC]
 | s::l,pr,la=>by
  have hs:=Pw (X:=X) (j:=j) s pr (la && l.isEmpty);have hl:=uo (X:=X) (j:=j) l pr la;simp only[oV,gC,mem_append,hs,hl];constructor
  ·rintro(⟨y,hy,h⟩ | ⟨y,hy,h⟩)
   ·exact⟨y,.inl hy,h⟩
   ·exact⟨y,.inr hy,h⟩
  ·rintro⟨y,hy | hy,h⟩
   ·exact .inl ⟨y,hy,h⟩
   ·exact .inr ⟨y,hy,h⟩
end
structure Ws (P:bH) (A:List (List Int)) (pre:List mV):Prop where
 len:A.length=P.procs.length
 set:∀S∈A,eR P.procs.length S
 sound:∀i j:Int,MA A i j->j∈mE P.procs i
 done:∀y∈pre,∀j,0<=y.2.1->LV y.1 j P.procs->MA A y.2.1 j
theorem Ws.fin {P:bH} {A:List (List Int)} (h:Ws P A (cw P)):Wa P.procs A 0:=by
 refine⟨h.len,h.set,fun i j hm=> .one (h.sound i j hm),fun i j h0 h1 hl=> ?_⟩;have hs:∀{a b:Int},zh P.procs 0 a b->b∈mE P.procs a:=by
  intro a b wQ;cases wQ with
  | one h=>exact h
  | more h1 h2 _=>have:=h1.lt.in;omega
 have hj:=hs hl;obtain⟨n,rfl⟩:∃n:Nat,i=n:=⟨i.toNat,by omega⟩;have hn:n<P.procs.length:=by omega
 have hq:P.procs[n]? =some (P.procs[n]):=getElem?_eq_getElem hn;rw[mE,Int.toNat_natCast,aK,hq]at hj;obtain⟨y,hy,hk⟩:=(uo _ (n:Int) true).1 hj;have hp:=fp _ _ _ y hy;have Ax:y∈cw P:=by
  simp only[cw,mem_append];exact .inr (xl (i:=0) (j:=n) hq y (by simpa using hy))
 have:=h.done y Ax j (by omega) hk;rw[hp]at this;exact this
theorem Ws.skip {P:bH} {A:List (List Int)} {pre:List mV} (h:Ws P A pre) {y:mV} (hy:¬(0<=y.2.1/\∃j,LV y.1 j P.procs)):Ws P A (pre++ [y]):=
 ⟨h.len,h.set,h.sound,fun z hz j h0 hk=>by
  rcases List.mem_append.1 hz with hz | hz
  ·exact h.done z hz j h0 hk
  ·simp at hz;subst hz;exact absurd ⟨h0,j,hk⟩ hy⟩
theorem Ws.put {P:bH} {A:List (List Int)} {pre:List mV} (h:Ws P A pre) {y:mV} (Ax:y∈cw P) {i:Nat} (hi:y.2.1=i) (dF:i<P.procs.length) {j:Int} (hk:LV y.1 j P.procs) (hj:0<=j/\j<P.procs.length):Ws P (q9 A i j) (pre++ [y]):=by
 have hiA:i<A.length:=by rw[h.len];exact dF
 refine⟨by rw[um];exact h.len,zi h.set hj,fun a b wQ=> ?_,fun z hz j' h0 vM=> ?_⟩
 ·rcases(mG hiA a b).1 wQ with h1 | ⟨rfl,rfl⟩
  ·exact h.sound a b h1
  ·have hq:P.procs[i]? =some (P.procs[i]):=getElem?_eq_getElem dF;have oO:=GX Ax hi hq;rw[mE,Int.toNat_natCast,aK,hq];exact(uo _ (i:Int) true).2 ⟨y,oO,hk⟩
 ·rcases List.mem_append.1 hz with hz | hz
  ·exact(mG hiA _ _).2 (.inl (h.done z hz j' h0 vM))
  ·simp at hz;subst hz;refine(mG hiA _ _).2 (.inr ⟨hi,?_⟩);obtain⟨⟨k,r,t,v,l,e,a,b,p,ps⟩,pr,la⟩:=z;simp only[LV]at hk vM;exact vM.1.symm.trans hk.1
end Go.Proofs.YtdgoeblpcnjlbaaGreatDoor.Av

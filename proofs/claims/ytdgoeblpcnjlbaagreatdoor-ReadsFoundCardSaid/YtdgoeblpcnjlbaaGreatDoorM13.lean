/- ReadsFound. Text 13 of 17. -/
import Derived.Test.YtdgoeblpcnjlbaaGreatDoorProg
import Derived.Test.YtdgoeblpcnjlbaaGreatDoorM12
set_option linter.all false
set_option maxRecDepth 100000
set_option maxHeartbeats 64000000
namespace Go.Proofs.YtdgoeblpcnjlbaaGreatDoor.Av
open Go.RowKit List
def s202:aB:=(.seq (.region [aQ 2 (.bool false)]) (.seq (.region [ab 15 0,⟨some 16,.build [.ag,.int .i64 0] [(0,1,.tmp 15)],none⟩,⟨some 17,.box (sT 16),none⟩,ab 3 17]) (.seq (.region [ab 18 3,bw 19 6 [.tmp 18],⟨some 4,.alloc (.agg [.ag,.ag]),none⟩,⟨none,.store 2 (sT 4) (sT 19),none⟩]) (.seq (.region [bU 21 2 4,bw 22 28 [.tmp 21],ab 20 22,⟨some 23,.extract (sT 20) 0,none⟩,⟨some 24,.extract (sT 20) 1,none⟩,ab 5 23,ab 6 24]) (.seq (.region [bU 26 2 4,bw 27 29 [.tmp 26],ab 25 27,⟨some 28,.extract (sT 25) 0,none⟩,⟨some 29,.extract (sT 25) 1,none⟩,ab 7 28,ab 8 29]) (.seq (.region [bU 31 2 4,bw 32 30 [.tmp 31],ab 30 32,⟨some 33,.extract (sT 30) 0,none⟩,⟨some 34,.extract (sT 30) 1,none⟩,ab 9 33,ab 10 34]) (.seq (.region [bU 35 2 4,bw 36 11 [.tmp 35],ab 11 36]) (.seq (.region [aQ 12 (.ag)]) (.seq (.region [aQ 13 (.ag)]) (.seq (.region [aQ 14 (.ag)]) (.seq (.seq (.region [ab 37 11,bC 38 .eql 37 (.int .i64 0)]) (.cond (sT 38) (.qregion [⟨bU 39 2 4,false,0,0,0⟩,⟨bw 40 31 [.tmp 39],false,0,0,1⟩,⟨bU 41 2 4,false,0,0,0⟩,⟨bw 42 32 [.tmp 41],false,0,0,7⟩,⟨bU 43 2 4,false,0,0,0⟩,⟨bw 44 33 [.tmp 43],false,0,0,31⟩,⟨ab 12 40,false,0,0,63⟩,⟨ab 13 42,false,0,0,127⟩,⟨ab 14 44,false,0,0,255⟩]) .skip)) (.seq (.region [ab 45 6,ab 46 11,cL 47 .eql 45 46,ab 48 47,fD 49 5 48 true,fD 50 12 48 true,⟨some 51,.call (.val (.a6 34 [] [])) [.tmp 49,.tmp 50],(some (48,true))⟩,⟨some 52,.pick (sT 48) (sT 51) (.val (.bool false)),none⟩,ab 53 52,fD 54 8 53 true,fD 55 11 53 true,⟨some 56,.bin .eql (sT 54) (sT 55),(some (53,true))⟩,⟨some 57,.pick (sT 53) (sT 56) (.val (.bool false)),none⟩,ab 58 57,fD 59 7 58 true,fD 60 13 58 true,⟨some 61,.call (.val (.a6 35 [] [])) [.tmp 59,.tmp 60,.val (.a6 16 [] [])],(some (58,true))⟩,⟨some 62,.pick (sT 58) (sT 61) (.val (.bool false)),none⟩,ab 63 62,fD 64 10 63 true,fD 65 11 63 true,⟨some 66,.bin .eql (sT 64) (sT 65),(some (63,true))⟩,⟨some 67,.pick (sT 63) (sT 66) (.val (.bool false)),none⟩,ab 68 67,fD 69 9 68 true,fD 70 14 68 true,⟨some 71,.call (.val (.a6 17 [] [])) [.tmp 69,.tmp 70],(some (68,true))⟩,⟨some 72,.pick (sT 68) (sT 71) (.val (.bool false)),none⟩,ab 73 72,⟨some 74,.call (.val (.a6 19 [] [])) [],(some (73,true))⟩,⟨some 75,.pick (sT 73) (sT 74) (.val (.bool false)),none⟩,ab 2 75])
 .ret))))))))))))
def r202:List a8:=[.tmp 2]
theorem c202:aG Tryz.prog 5 s202 r202 76:=codeOk Tryz.func5 rfl rfl
def s221:aB:=(.seq (.region [⟨some 1,.box (sT 0),none⟩,aQ 2 (.ag),aQ 3 (.int .i64 0)]) (.seq (.region [bU 12 2 1,bw 13 41 [.tmp 12],ab 11 13,⟨some 14,.extract (sT 11) 0,none⟩,⟨some 15,.extract (sT 11) 1,none⟩,ab 4 14,ab 5 15]) (.seq (.seq (.region [ab 16 5,bC 17 .neq 16 (.int .i64 0)]) (.cond (sT 17) (.seq (.region [ab 18 5,aQ 2 (.ag),ab 3 18])
 .ret) .skip)) (.seq (.region [⟨some 19,.gm,none⟩,⟨some 6,.alloc (.cG),none⟩,⟨none,.store 1 (sT 6) (sT 19),none⟩]) (.seq (.region [bU 20 2 1,⟨some 21,.fC 89 [] [.tmp 6],none⟩,bw 22 88 [.tmp 20,.tmp 21]]) (.seq (.region [aQ 7 (.ag)]) (.seq (.seq (.region [aH 23 6,⟨some 23,.nS 23,none⟩,⟨some 24,.Ev (sT 23),none⟩]) (.block 0 (.loop (.seq (.region [⟨some 25,.Ew (sT 24),none⟩,⟨some 26,.extract (sT 25) 0,none⟩]) (.seq (.cond (sT 26) .skip (.exit 0)) (.block 1 (.seq (.region [⟨some 27,.Ey (sT 24),none⟩,⟨some 28,.extract (sT 27) 0,none⟩,ab 8 28]) (.seq (.region [ab 29 4,ab 30 8,bw 31 91 [.tmp 29,.tmp 30],⟨some 32,.Ev (sT 31),none⟩]) (.block 2 (.loop (.seq (.region [⟨some 33,.Ew (sT 32),none⟩,⟨some 34,.extract (sT 33) 0,none⟩]) (.seq (.cond (sT 34) .skip (.exit 2)) (.block 3 (.seq (.region [⟨some 35,.Ey (sT 32),none⟩,⟨some 36,.extract (sT 35) 0,none⟩,⟨some 37,.extract (sT 35) 1,none⟩,ab 9 36,ab 10 37]) (.region [ab 38 7,ab 39 9,ab 40 10,ab 41 8,⟨some 42,.build [.int .i64 0,.str ⟨#[]⟩,.str ⟨#[]⟩] [(0,1,.tmp 39),(1,1,.tmp 40),(2,1,.tmp 41)],none⟩,⟨some 43,.aJ 3 [.tmp 42],none⟩,⟨some 44,.append 3 40 (sT 38) (sT 43),none⟩,ab 7 44]))))))))))))))) (.seq (.region [ab 45 7,⟨some 46,.call (.val (.a6 92 [] [])) [.tmp 45,.val (.a6 93 [] [])],none⟩]) (.seq (.region [ab 47 7,ab 2 47,aQ 3 (.int .i64 0)])
 .ret)))))))))
def r221:List a8:=[.tmp 2,.tmp 3]
theorem c221:aG Tryz.prog 28 s221 r221 48:=codeOk Tryz.func28 rfl rfl
def s222:aB:=(.seq (.region [⟨some 1,.box (sT 0),none⟩,aQ 2 (.ag),aQ 3 (.int .i64 0)]) (.seq (.region [bU 15 2 1,bw 16 41 [.tmp 15],ab 14 16,⟨some 17,.extract (sT 14) 0,none⟩,⟨some 18,.extract (sT 14) 1,none⟩,ab 4 17,ab 5 18]) (.seq (.seq (.region [ab 19 5,bC 20 .neq 19 (.int .i64 0)]) (.cond (sT 20) (.seq (.region [ab 21 5,aQ 2 (.ag),ab 3 21])
 .ret) .skip)) (.seq (.region [ab 23 4,bw 24 66 [.tmp 23],ab 22 24,⟨some 25,.extract (sT 22) 0,none⟩,⟨some 26,.extract (sT 22) 1,none⟩,ab 6 25,ab 7 26]) (.seq (.region [aQ 8 (.ag)]) (.seq (.seq (.region [ab 27 6,cJ 28 27,aQ 29 (.int .i64 0)]) (.block 0 (.loop (.seq (.region [cL 30 .lss 29 28]) (.seq (.cond (sT 30) .skip (.exit 0)) (.seq (.block 1 (.seq (.region [cM 31 1 27 29,aH 32 31,ab 10 32]) (.seq (.region [aQ 11 (.ag)]) (.seq (.seq (.region [ab 33 10,cJ 34 33,aQ 35 (.int .i64 0)]) (.block 2 (.loop (.seq (.region [cL 36 .lss 35 34]) (.seq (.cond (sT 36) .skip (.exit 2)) (.seq (.block 3 (.seq (.region [cM 37 1 33 35,aH 38 37,ab 13 38]) (.region [ab 39 11,aN 40 0 1,aH 41 40,ab 42 13,cM 43 3 41 42,aN 44 0 43,aH 45 44,⟨some 46,.aJ 1 [.tmp 45],none⟩,⟨some 47,.append 1 16 (sT 39) (sT 46),none⟩,ab 11 47]))) (.region [bC 48 .add 35 (.int .i64 1),ab 35 48]))))))) (.region [ab 49 8,⟨some 11,.nS 11,none⟩,ab 50 11,⟨some 51,.aJ 1 [.tmp 50],none⟩,⟨some 52,.append 1 24 (sT 49) (sT 51),none⟩,ab 8 52]))))) (.region [bC 53 .add 29 (.int .i64 1),ab 29 53]))))))) (.seq (.region [ab 54 8,ab 2 54,aQ 3 (.int .i64 0)])
 .ret)))))))
def r222:List a8:=[.tmp 2,.tmp 3]
theorem c222:aG Tryz.prog 29 s222 r222 55:=codeOk Tryz.func29 rfl rfl
def s223:aB:=(.seq (.region [⟨some 1,.box (sT 0),none⟩,aQ 2 (.ag),aQ 3 (.int .i64 0)]) (.seq (.region [bU 12 2 1,bw 13 41 [.tmp 12],ab 11 13,⟨some 14,.extract (sT 11) 0,none⟩,⟨some 15,.extract (sT 11) 1,none⟩,ab 4 14,ab 5 15]) (.seq (.seq (.region [ab 16 5,bC 17 .neq 16 (.int .i64 0)]) (.cond (sT 17) (.seq (.region [ab 18 5,aQ 2 (.ag),ab 3 18])
 .ret) .skip)) (.seq (.region [ab 20 4,bw 21 66 [.tmp 20],ab 19 21,⟨some 22,.extract (sT 19) 0,none⟩,⟨some 23,.extract (sT 19) 1,none⟩,⟨some 7,.alloc (.ag),none⟩,ab 6 22,⟨none,.store 1 (sT 7) (sT 23),none⟩]) (.seq (.region [⟨some 8,.alloc (.ag),none⟩]) (.seq (.seq (.region [ab 24 4,⟨some 25,.b5 (sT 24),none⟩,aN 26 3 25,aH 27 26,cJ 28 27,aQ 29 (.int .i64 0)]) (.block 0 (.loop (.seq (.region [cL 30 .lss 29 28]) (.seq (.cond (sT 30) .skip (.exit 0)) (.seq (.block 1 (.seq (.region [ab 31 29,cM 32 1 27 29,aH 33 32,⟨some 9,.alloc (.int .i64 0),none⟩,⟨none,.store 1 (sT 9) (sT 31),none⟩,ab 10 33]) (.region [ab 34 10,⟨some 35,.fC 98 [] [.tmp 7,.tmp 9,.tmp 8],none⟩,bw 36 97 [.tmp 34,.val (.bool true),.tmp 35]]))) (.region [bC 37 .add 29 (.int .i64 1),ab 29 37]))))))) (.seq (.region [aH 38 8,bw 39 99 [.tmp 38]]) (.seq (.region [aH 40 8,ab 2 40,aQ 3 (.int .i64 0)])
 .ret))))))))
def r223:List a8:=[.tmp 2,.tmp 3]
theorem c223:aG Tryz.prog 30 s223 r223 41:=codeOk Tryz.func30 rfl rfl
def s224:aB:=(.seq (.region [⟨some 1,.box (sT 0),none⟩,aQ 2 (.ag)]) (.seq (.region [aQ 3 (.ag)]) (.seq (.seq (.region [bU 12 2 1,bw 13 47 [.tmp 12],cJ 14 13,aQ 15 (.int .i64 0)]) (.block 0 (.loop (.seq (.region [cL 16 .lss 15 14]) (.seq (.cond (sT 16) .skip (.exit 0)) (.seq (.block 1 (.seq (.region [cM 17 15 13 15,bU 18 15 17,⟨some 5,.alloc (.agg [.int .i64 0,.str ⟨#[]⟩,.str ⟨#[]⟩,.str ⟨#[]⟩,.str ⟨#[]⟩,.int .i64 0,.int .i64 0,.str ⟨#[]⟩,.ag,.ag,.ag,.str ⟨#[]⟩,.ag,.int .i64 0,.bool false]),none⟩,⟨none,.store 15 (sT 5) (sT 18),none⟩]) (.region [ab 19 3,aN 20 0 5,aN 21 5 20,bU 22 4 21,bw 23 100 [.tmp 22],⟨some 24,.append 1 16 (sT 19) (sT 23),none⟩,ab 3 24]))) (.region [bC 25 .add 15 (.int .i64 1),ab 15 25]))))))) (.seq (.region [ab 26 3,bw 27 101 [.tmp 26]]) (.seq (.region [⟨some 28,.gm,none⟩,ab 6 28]) (.seq (.seq (.region [ab 29 3,bw 30 102 [.tmp 29],⟨some 30,.nS 30,none⟩,cJ 31 30,aQ 32 (.int .i64 0)]) (.block 2 (.loop (.seq (.region [cL 33 .lss 32 31]) (.seq (.cond (sT 33) .skip (.exit 2)) (.seq (.block 3 (.seq (.region [cM 34 1 30 32,aH 35 34,ab 8 35]) (.seq (.region [bU 36 2 1,bw 37 81 [.tmp 36],cJ 38 37,aQ 39 (.int .i64 0)]) (.block 4 (.loop (.seq (.region [cL 40 .lss 39 38]) (.seq (.cond (sT 40) .skip (.exit 4)) (.seq (.block 5 (.seq (.region [cM 41 1 37 39,aH 42 41,ab 10 42]) (.seq (.region [bU 43 2 1,ab 44 8,⟨some 45,.gm,none⟩,⟨some 46,.gm,none⟩,ab 47 6,⟨some 48,.build [.ag,.ag,.str ⟨#[]⟩,.cG,.cG,.cG] [(0,2,.tmp 43),(2,1,.tmp 44),(3,1,.tmp 45),(4,1,.tmp 46),(5,1,.tmp 47)],none⟩,⟨some 49,.box (sT 48),none⟩,ab 11 49]) (.seq (.region [ab 50 11,bw 51 103 [.tmp 50]]) (.region [ab 52 11,aN 53 1 1,aH 54 53,ab 55 10,bw 56 104 [.tmp 52,.tmp 54,.val (.int .i64 0),.tmp 55,.val (.bool true)]]))))) (.region [bC 57 .add 39 (.int .i64 1),ab 39 57]))))))))) (.region [bC 58 .add 32 (.int .i64 1),ab 32 58]))))))) (.seq (.region [ab 59 6,⟨some 59,.nS 59,none⟩,bw 60 106 [.tmp 59],⟨some 61,.call (.val (.a6 105 [] [])) [.tmp 60,.val (.a6 107 [] [])],none⟩,ab 2 61])
 .ret)))))))
def r224:List a8:=[.tmp 2]
theorem c224:aG Tryz.prog 31 s224 r224 62:=codeOk Tryz.func31 rfl rfl
def s225:aB:=(.seq (.region [⟨some 1,.box (sT 0),none⟩,aQ 2 (.ag)]) (.seq (.region [bU 10 2 1,bw 11 78 [.tmp 10],ab 3 11]) (.seq (.region [aQ 4 (.ag)]) (.seq (.seq (.region [aN 12 0 1,aH 13 12,cJ 14 13,aQ 15 (.int .i64 0)]) (.block 0 (.loop (.seq (.region [cL 16 .lss 15 14]) (.seq (.cond (sT 16) .skip (.exit 0)) (.seq (.block 1 (.seq (.region [ab 17 15,ab 5 17]) (.seq (.region [aQ 6 (.ag)]) (.seq (.region [ab 18 5,ab 7 18]) (.seq (.seq (.region [aN 19 0 1,aH 20 19,cJ 21 20,aQ 22 (.int .i64 0)]) (.block 2 (.loop (.seq (.region [cL 23 .lss 22 21]) (.seq (.cond (sT 23) .skip (.exit 2)) (.seq (.block 3 (.seq (.region [ab 24 22,cM 25 3 20 22,bU 26 3 25,⟨some 9,.alloc (.agg [.str ⟨#[]⟩,.ag,.ag]),none⟩,ab 8 24,⟨none,.store 3 (sT 9) (sT 26),none⟩]) (.seq (.region [ab 27 3,ab 28 5,cM 29 1 27 28,aH 30 29,ab 31 8,⟨some 32,.eu (false,[false]) false (.bool false) (sT 30) (sT 31),none⟩,ab 33 32,fD 34 3 33 true,fD 35 8 33 true,⟨some 36,.gk 1 (sT 34) (sT 35),(some (33,true))⟩,dy 37 36 33 true,fD 38 5 33 true,⟨some 39,.eu (false,[false]) false (.bool false) (sT 37) (sT 38),(some (33,true))⟩,⟨some 40,.pick (sT 33) (sT 39) (.val (.bool false)),none⟩]) (.cond (sT 40) (.region [ab 41 6,aN 42 0 9,aH 43 42,⟨some 44,.aJ 1 [.tmp 43],none⟩,⟨some 45,.append 1 16 (sT 41) (sT 44),none⟩,ab 46 7,ab 47 8,⟨some 48,.mm false (sT 46) (sT 47),none⟩,ab 6 45,ab 7 48]) .skip)))) (.region [bC 49 .add 22 (.int .i64 1),ab 22 49]))))))) (.seq (.region [⟨some 6,.nS 6,none⟩,ab 50 6,cJ 51 50,bC 52 .gtr 51 (.int .i64 0),ab 53 52,fD 54 7 53 true,fD 55 5 53 true,⟨some 56,.bin .eql (sT 54) (sT 55),(some (53,true))⟩,⟨some 57,.pick (sT 53) (sT 56) (.val (.bool false)),none⟩]) (.cond (sT 57) (.region [ab 58 4,ab 59 6,⟨some 60,.aJ 1 [.tmp 59],none⟩,⟨some 61,.append 1 24 (sT 58) (sT 60),none⟩,ab 4 61]) .skip))))))) (.region [bC 62 .add 15 (.int .i64 1),ab 15 62]))))))) (.seq (.region [ab 63 4,ab 2 63])
 .ret)))))
def r225:List a8:=[.tmp 2]
theorem c225:aG Tryz.prog 32 s225 r225 64:=codeOk Tryz.func32 rfl rfl
def s226:aB:=(.seq (.region [⟨some 1,.box (sT 0),none⟩,aQ 2 (.ag)]) (.seq (.region [bU 8 2 1,bw 9 78 [.tmp 8],ab 3 9]) (.seq (.region [aQ 4 (.ag)]) (.seq (.seq (.region [bU 10 2 1,bw 11 47 [.tmp 10],cJ 12 11,aQ 13 (.int .i64 0)]) (.block 0 (.loop (.seq (.region [cL 14 .lss 13 12]) (.seq (.cond (sT 14) .skip (.exit 0)) (.seq (.block 1 (.seq (.region [ab 15 13,cM 16 15 11 13,bU 17 15 16,⟨some 6,.alloc (.agg [.int .i64 0,.str ⟨#[]⟩,.str ⟨#[]⟩,.str ⟨#[]⟩,.str ⟨#[]⟩,.int .i64 0,.int .i64 0,.str ⟨#[]⟩,.ag,.ag,.ag,.str ⟨#[]⟩,.ag,.int .i64 0,.bool false]),none⟩,ab 5 15,⟨none,.store 15 (sT 6) (sT 17),none⟩]) (.seq (.region [aN 18 13 6,aH 19 18,bC 20 .geq 19 (.int .i64 0),ab 21 20,dP 22 0 6 21 true,dP 23 0 22 21 true,dy 24 23 21 true,⟨some 25,.bin .eql (sT 24) (.val (.int .i64 5)),(some (21,true))⟩,⟨some 26,.pick (sT 21) (sT 25) (.val (.bool false)),none⟩,ab 27 26,dP 28 14 6 27 true,dy 29 28 27 true,⟨some 30,.un .not (sT 29),(some (27,true))⟩,⟨some 31,.pick (sT 27) (sT 30) (.val (.bool false)),none⟩]) (.cond (sT 31) (.seq (.region [bU 32 2 1,aN 33 0 6,aN 34 11 33,aH 35 34,bw 36 52 [.tmp 32,.tmp 35],ab 7 36]) (.seq (.qregion [⟨ab 37 3,false,0,0,0⟩,⟨ab 38 7,false,0,0,0⟩,⟨cM 39 1 37 38,false,0,0,3⟩,⟨aH 40 39,false,0,0,7⟩,⟨aN 41 13 6,false,0,0,0⟩,⟨aH 42 41,false,0,0,16⟩,⟨⟨some 43,.eu (false,[false]) false (.bool false) (sT 40) (sT 42),none⟩,false,0,0,63⟩]) (.cond (sT 43) (.region [ab 44 4,ab 45 5,⟨some 46,.aJ 1 [.tmp 45],none⟩,⟨some 47,.append 1 8 (sT 44) (sT 46),none⟩,ab 4 47]) .skip))) .skip)))) (.region [bC 48 .add 13 (.int .i64 1),ab 13 48]))))))) (.seq (.region [ab 49 4,ab 2 49])
 .ret)))))
def r226:List a8:=[.tmp 2]
theorem c226:aG Tryz.prog 33 s226 r226 50:=codeOk Tryz.func33 rfl rfl
def s228:aB:=(.seq (.region [aQ 6 (.bool false)]) (.seq (.seq (.region [ab 10 0,cJ 11 10,ab 12 1,cJ 13 12,cL 14 .neq 11 13]) (.cond (sT 14) (.seq (.region [aQ 6 (.bool false)])
 .ret) .skip)) (.seq (.seq (.region [ab 15 0,cJ 16 15,aQ 17 (.int .i64 0)]) (.block 0 (.loop (.seq (.region [cL 18 .lss 17 16]) (.seq (.cond (sT 18) .skip (.exit 0)) (.seq (.block 1 (.seq (.region [ab 19 17,cM 20 1 15 17,aH 21 20,ab 7 19,ab 8 21]) (.seq (.region [ab 22 1,ab 23 7,cM 24 1 22 23,aH 25 24,ab 9 25]) (.seq (.region [ab 26 2,ab 27 8,ab 28 9,⟨some 29,.call (sT 26) [.tmp 27,.tmp 28],none⟩,⟨some 30,.un .not (sT 29),none⟩]) (.cond (sT 30) (.seq (.region [aQ 6 (.bool false)])
 .ret) .skip))))) (.region [bC 31 .add 17 (.int .i64 1),ab 17 31]))))))) (.seq (.region [aQ 6 (.bool true)])
 .ret))))
def r228:List a8:=[.tmp 6]
theorem c228:aG Tryz.prog 35 s228 r228 32:=codeOk Tryz.func35 rfl rfl
def s258:aB:=(.seq (.region [⟨some 6,.box (sT 2),none⟩]) (.region [aN 7 5 6,bU 8 4 7,aH 9 3,bw 10 90 [.tmp 8,.tmp 9]]))
def r258:List a8:=[]
theorem c258:aG Tryz.prog 89 s258 r258 11:=codeOk Tryz.func89 rfl rfl
def s259:aB:=(.seq (.region [⟨some 2,.box (sT 0),none⟩]) (.seq (.seq (.region [aN 6 0 2,aH 7 6,bC 8 .eql 7 (.int .i64 2)]) (.cond (sT 8) (.region [ab 9 1,aN 10 2 2,aH 11 10,⟨none,.kG (false,[true]) (sT 9) (sT 11) (.val (.bool true)),none⟩]) .skip)) (.seq (.region [aN 12 3 2,aH 13 12,cJ 14 13,aQ 15 (.int .i64 0)]) (.block 0 (.loop (.seq (.region [cL 16 .lss 15 14]) (.seq (.cond (sT 16) .skip (.exit 0)) (.seq (.block 1 (.seq (.region [cM 17 4 13 15,bU 18 4 17,⟨some 5,.alloc (.agg [.int .i64 0,.int .i64 0,.str ⟨#[]⟩,.ag]),none⟩,⟨none,.store 4 (sT 5) (sT 18),none⟩]) (.region [bU 19 4 5,ab 20 1,bw 21 90 [.tmp 19,.tmp 20]]))) (.region [bC 22 .add 15 (.int .i64 1),ab 15 22])))))))))
def r259:List a8:=[]
theorem c259:aG Tryz.prog 90 s259 r259 23:=codeOk Tryz.func90 rfl rfl
def s260:aB:=(.seq (.region [aQ 4 (.cG)]) (.seq (.region [ab 13 0,ab 14 1,ab 15 0,bw 16 164 [.tmp 15],ab 17 0,bw 18 164 [.tmp 17],⟨some 19,.gm,none⟩,⟨some 20,.build [.kb,.str ⟨#[]⟩,.ag,.ag,.cG] [(0,1,.tmp 13),(1,1,.tmp 14),(2,1,.tmp 16),(3,1,.tmp 18),(4,1,.tmp 19)],none⟩,⟨some 21,.box (sT 20),none⟩,ab 5 21]) (.seq (.seq (.region [aQ 6 (.bool true)]) (.block 0 (.loop (.seq (.seq (.region [ab 22 6]) (.cond (sT 22) .skip (.exit 0))) (.block 1 (.seq (.region [aQ 6 (.bool false)]) (.seq (.region [ab 23 0,⟨some 24,.b5 (sT 23),none⟩,aN 25 0 24,aN 26 0 25,aH 27 26,cJ 28 27,aQ 29 (.int .i64 0)]) (.block 2 (.loop (.seq (.region [cL 30 .lss 29 28]) (.seq (.cond (sT 30) .skip (.exit 2)) (.seq (.block 3 (.seq (.region [ab 31 29,cM 32 3 27 29,bU 33 3 32,⟨some 8,.alloc (.agg [.str ⟨#[]⟩,.ag,.ag]),none⟩,ab 7 31,⟨none,.store 3 (sT 8) (sT 33),none⟩]) (.seq (.region [aN 34 1 8,aH 35 34,cJ 36 35,aQ 37 (.int .i64 0)]) (.block 4 (.loop (.seq (.region [cL 38 .lss 37 36]) (.seq (.cond (sT 38) .skip (.exit 4)) (.seq (.block 5 (.seq (.region [ab 39 37,cM 40 1 35 37,aH 41 40,ab 9 39,ab 10 41]) (.seq (.region [ab 42 5,⟨some 43,.b5 (sT 42),none⟩,aN 44 2 43,aH 45 44,ab 46 7,cM 47 1 45 46,aH 48 47,ab 49 9,cM 50 1 48 49,aH 51 50,⟨some 52,.un .not (sT 51),none⟩,ab 53 52,fD 54 5 53 true,fD 55 0 53 true,⟨some 56,.b5 (sT 55),(some (53,true))⟩,dP 57 3 56 53 true,dy 58 57 53 true,fD 59 7 53 true,⟨some 60,.gk 1 (sT 58) (sT 59),(some (53,true))⟩,dy 61 60 53 true,fD 62 10 53 true,⟨some 63,.call (.val (.a6 165 [] [])) [.tmp 54,.tmp 61,.tmp 62],(some (53,true))⟩,⟨some 64,.pick (sT 53) (sT 63) (.val (.bool false)),none⟩]) (.cond (sT 64) (.region [ab 65 5,⟨some 66,.b5 (sT 65),none⟩,aN 67 2 66,aH 68 67,ab 69 7,cM 70 1 68 69,aH 71 70,ab 72 9,cM 73 1 71 72,⟨none,.store 1 (sT 73) (.val (.bool true)),none⟩,aQ 6 (.bool true)]) .skip)))) (.region [bC 74 .add 37 (.int .i64 1),ab 37 74]))))))))) (.region [bC 75 .add 29 (.int .i64 1),ab 29 75]))))))))))))) (.seq (.seq (.region [ab 76 0,⟨some 77,.b5 (sT 76),none⟩,aN 78 0 77,bU 79 2 78,bw 80 73 [.tmp 79],cJ 81 80,aQ 82 (.int .i64 0)]) (.block 6 (.loop (.seq (.region [cL 83 .lss 82 81]) (.seq (.cond (sT 83) .skip (.exit 6)) (.seq (.block 7 (.seq (.region [cM 84 1 80 82,aH 85 84,ab 12 85]) (.region [ab 86 5,ab 87 0,⟨some 88,.b5 (sT 87),none⟩,aN 89 2 88,aH 90 89,ab 91 12,bw 92 166 [.tmp 86,.tmp 90,.tmp 91]]))) (.region [bC 93 .add 82 (.int .i64 1),ab 82 93]))))))) (.seq (.region [ab 94 5,⟨some 95,.b5 (sT 94),none⟩,aN 96 4 95,aH 97 96,ab 4 97])
 .ret)))))
def r260:List a8:=[.tmp 4]
theorem c260:aG Tryz.prog 91 s260 r260 98:=codeOk Tryz.func91 rfl rfl
def s266:aB:=(.seq (.region [ab 9 0,cJ 10 9,aQ 11 (.int .i64 0)]) (.block 0 (.loop (.seq (.region [cL 12 .lss 11 10]) (.seq (.cond (sT 12) .skip (.exit 0)) (.seq (.block 1 (.seq (.region [ab 13 11,cM 14 17 9 11,bU 15 17 14,⟨some 7,.alloc (.agg [.int .i64 0,.int .i64 0,.str ⟨#[]⟩,.str ⟨#[]⟩,.str ⟨#[]⟩,.str ⟨#[]⟩,.int .i64 0,.int .i64 0,.str ⟨#[]⟩,.ag,.ag,.ag,.str ⟨#[]⟩,.ag,.int .i64 0,.ag,.ag]),none⟩,ab 6 13,⟨none,.store 17 (sT 7) (sT 15),none⟩]) (.seq (.region [ab 16 1,ab 17 16,fD 18 6 17 true,fD 19 0 17 true,⟨some 20,.len false (sT 19),(some (17,true))⟩,⟨some 21,.bin .sub (sT 20) (.val (.int .i64 1)),(some (17,true))⟩,⟨some 22,.bin .eql (sT 18) (sT 21),(some (17,true))⟩,⟨some 23,.pick (sT 17) (sT 22) (.val (.bool false)),none⟩,ab 8 23]) (.seq (.seq (.region [aN 24 14 7,aH 25 24,bC 26 .geq 25 (.int .i64 0)]) (.cond (sT 26) (.region [ab 27 2,bU 28 17 7,ab 29 8,⟨some 30,.call (sT 27) [.tmp 28,.tmp 29],none⟩]) .skip)) (.seq (.region [aN 31 15 7,aH 32 31,ab 33 8,ab 34 2,bw 35 97 [.tmp 32,.tmp 33,.tmp 34]]) (.region [aN 36 16 7,aH 37 36,ab 38 8,ab 39 2,bw 40 97 [.tmp 37,.tmp 38,.tmp 39]])))))) (.region [bC 41 .add 11 (.int .i64 1),ab 11 41])))))))
def r266:List a8:=[]
theorem c266:aG Tryz.prog 97 s266 r266 42:=codeOk Tryz.func97 rfl rfl
def s267:aB:=(.seq (.region [⟨some 5,.box (sT 0),none⟩]) (.seq (.qregion [⟨aH 7 2,false,0,0,0⟩,⟨aH 8 3,false,0,0,0⟩,⟨cM 9 1 7 8,false,0,0,3⟩,⟨aH 10 9,false,0,0,7⟩,⟨bC 11 .geq 10 (.int .i64 0),false,0,0,15⟩,⟨ab 12 11,false,0,0,31⟩,⟨dy 13 2 12 true,false,0,0,63⟩,⟨dP 14 14 5 12 true,false,0,0,63⟩,⟨dy 15 14 12 true,false,0,0,191⟩,⟨⟨some 16,.gk 1 (sT 13) (sT 15),(some (12,true))⟩,false,0,0,511⟩,⟨dy 17 16 12 true,false,0,0,1023⟩,⟨dy 18 2 12 true,false,0,0,63⟩,⟨dy 19 3 12 true,false,0,0,63⟩,⟨⟨some 20,.gk 1 (sT 18) (sT 19),(some (12,true))⟩,false,0,0,6207⟩,⟨dy 21 20 12 true,false,0,0,14399⟩,⟨⟨some 22,.bin .eql (sT 17) (sT 21),(some (12,true))⟩,false,0,0,32767⟩,⟨⟨some 23,.pick (sT 12) (sT 22) (.val (.bool false)),none⟩,false,0,0,65535⟩,⟨ab 24 23,false,0,0,131071⟩,⟨fD 25 1 24 true,false,0,0,262143⟩,⟨⟨some 26,.un .not (sT 25),(some (24,true))⟩,false,0,0,524287⟩,⟨⟨some 27,.pick (sT 24) (sT 26) (.val (.bool false)),none⟩,false,0,0,1048575⟩]) (.cond (sT 27) (.region [aH 28 4,aN 29 0 5,aH 30 29,⟨some 31,.aJ 1 [.tmp 30],none⟩,⟨some 32,.append 1 8 (sT 28) (sT 31),none⟩,⟨none,.store 1 (sT 4) (sT 32),none⟩]) .skip)))
def r267:List a8:=[]
theorem c267:aG Tryz.prog 98 s267 r267 33:=codeOk Tryz.func98 rfl rfl
def s269:aB:=(.seq (.region [⟨some 1,.box (sT 0),none⟩,aQ 2 (.ag)]) (.seq (.region [aQ 3 (.ag)]) (.seq (.seq (.region [aN 6 0 1,aH 7 6,bC 8 .eql 7 (.int .i64 2)]) (.cond (sT 8) (.region [aN 9 2 1,aH 10 9,⟨some 11,.jW 1 [.tmp 10],none⟩,ab 3 11]) .skip)) (.seq (.seq (.region [aN 12 3 1,aH 13 12,cJ 14 13,aQ 15 (.int .i64 0)]) (.block 0 (.loop (.seq (.region [cL 16 .lss 15 14]) (.seq (.cond (sT 16) .skip (.exit 0)) (.seq (.block 1 (.seq (.region [cM 17 4 13 15,bU 18 4 17,⟨some 5,.alloc (.agg [.int .i64 0,.int .i64 0,.str ⟨#[]⟩,.ag]),none⟩,⟨none,.store 4 (sT 5) (sT 18),none⟩]) (.region [ab 19 3,bU 20 4 5,bw 21 100 [.tmp 20],⟨some 22,.append 1 16 (sT 19) (sT 21),none⟩,ab 3 22]))) (.region [bC 23 .add 15 (.int .i64 1),ab 15 23]))))))) (.seq (.region [ab 24 3,bw 25 101 [.tmp 24]]) (.seq (.region [ab 26 3,bw 27 102 [.tmp 26],ab 2 27])
 .ret))))))
def r269:List a8:=[.tmp 2]
theorem c269:aG Tryz.prog 100 s269 r269 28:=codeOk Tryz.func100 rfl rfl
def s272:aB:=(.seq (.region [aQ 2 (.bool true)]) (.block 0 (.loop (.seq (.seq (.region [ab 7 2]) (.cond (sT 7) .skip (.exit 0))) (.block 1 (.seq (.region [aQ 2 (.bool false)]) (.seq (.region [ab 8 0,⟨some 9,.b5 (sT 8),none⟩,aN 10 0 9,aN 11 0 10,aH 12 11,cJ 13 12,aQ 14 (.int .i64 0)]) (.block 2 (.loop (.seq (.region [cL 15 .lss 14 13]) (.seq (.cond (sT 15) .skip (.exit 2)) (.seq (.block 3 (.seq (.region [ab 16 14,cM 17 3 12 14,bU 18 3 17,⟨some 4,.alloc (.agg [.str ⟨#[]⟩,.ag,.ag]),none⟩,ab 3 16,⟨none,.store 3 (sT 4) (sT 18),none⟩]) (.seq (.region [aQ 5 (.int .i64 (-1))]) (.block 4 (.loop (.seq (.seq (.region [ab 19 5,aN 20 1 4,aH 21 20,cJ 22 21,cL 23 .lss 19 22]) (.cond (sT 23) .skip (.exit 4))) (.seq (.block 5 (.seq (.region [ab 26 3,ab 27 5,⟨some 28,.build [.int .i64 0,.int .i64 0] [(0,1,.tmp 26),(1,1,.tmp 27)],none⟩,⟨some 6,.alloc (.agg [.int .i64 0,.int .i64 0]),none⟩,⟨none,.store 2 (sT 6) (sT 28),none⟩]) (.seq (.qregion [⟨ab 29 0,false,0,0,0⟩,⟨⟨some 30,.b5 (sT 29),none⟩,false,0,0,1⟩,⟨aN 31 3 30,false,0,0,3⟩,⟨aH 32 31,false,0,0,7⟩,⟨bU 33 2 6,false,0,0,0⟩,⟨⟨some 34,.eu (true,[false,false]) false (.bool false) (sT 32) (sT 33),none⟩,false,0,0,31⟩,⟨⟨some 35,.un .not (sT 34),none⟩,false,0,0,63⟩,⟨ab 36 35,false,0,0,127⟩,⟨fD 37 0 36 true,false,0,0,255⟩,⟨dP 38 2 4 36 true,false,0,0,255⟩,⟨dy 39 38 36 true,false,0,0,767⟩,⟨fD 40 0 36 true,false,0,0,255⟩,⟨⟨some 41,.load true 2 (sT 6),(some (36,true))⟩,false,0,0,255⟩,⟨⟨some 42,.call (.val (.a6 174 [] [])) [.tmp 40,.tmp 41],(some (36,true))⟩,false,0,0,6399⟩,⟨⟨some 43,.call (.val (.a6 173 [] [])) [.tmp 37,.tmp 39,.tmp 42],(some (36,true))⟩,false,0,0,16383⟩,⟨⟨some 44,.pick (sT 36) (sT 43) (.val (.bool false)),none⟩,false,0,0,32767⟩]) (.cond (sT 44) (.qregion [⟨ab 45 0,false,0,0,0⟩,⟨⟨some 46,.b5 (sT 45),none⟩,false,0,0,1⟩,⟨aN 47 3 46,false,0,0,3⟩,⟨aH 48 47,false,0,0,7⟩,⟨bU 49 2 6,false,0,0,0⟩,⟨⟨some 50,.uY (true,[false,false]) (.bool false) (sT 48) (sT 49),none⟩,true,0,0,31⟩,⟨⟨some 51,.extract (sT 50) 1,none⟩,false,1,1,63⟩,⟨⟨none,.uZ (sT 48) (sT 51) (.val (.bool true)),none⟩,true,0,0,127⟩,⟨aQ 2 (.bool true),false,2,2,255⟩]) .skip)))) (.region [ab 24 5,bC 25 .add 24 (.int .i64 1),ab 5 25])))))))) (.region [bC 52 .add 14 (.int .i64 1),ab 14 52])))))))))))))
def r272:List a8:=[]
theorem c272:aG Tryz.prog 103 s272 r272 53:=codeOk Tryz.func103 rfl rfl
def s273:aB:=(.seq (.region [aQ 10 (.int .i64 0)]) (.seq (.seq (.region [ab 14 1,cJ 15 14,aQ 16 (.int .i64 0)]) (.block 0 (.loop (.seq (.region [cL 17 .lss 16 15]) (.seq (.cond (sT 17) .skip (.exit 0)) (.seq (.block 1 (.seq (.region [cM 18 13 14 16,bU 19 13 18,⟨some 12,.alloc (.agg [.int .i64 0,.str ⟨#[]⟩,.str ⟨#[]⟩,.str ⟨#[]⟩,.str ⟨#[]⟩,.int .i64 0,.int .i64 0,.str ⟨#[]⟩,.ag,.ag,.ag,.str ⟨#[]⟩,.ag]),none⟩,⟨none,.store 13 (sT 12) (sT 19),none⟩]) (.seq (.region [ab 20 2,ab 13 20]) (.seq (.region [ab 21 2,bC 22 .add 21 (.int .i64 1),ab 2 22]) (.seq (.seq (.qregion [⟨ab 23 4,false,0,0,0⟩,⟨ab 24 23,false,0,0,1⟩,⟨fD 25 3 24 true,false,0,0,3⟩,⟨⟨some 26,.bin .neq (sT 25) (.val (.str ⟨#[]⟩)),(some (24,true))⟩,false,0,0,7⟩,⟨⟨some 27,.pick (sT 24) (sT 26) (.val (.bool false)),none⟩,false,0,0,15⟩,⟨ab 28 27,false,0,0,31⟩,⟨dP 29 1 12 28 true,false,0,0,63⟩,⟨dy 30 29 28 true,false,0,0,127⟩,⟨fD 31 3 28 true,false,0,0,63⟩,⟨⟨some 32,.bin .eql (sT 30) (sT 31),(some (28,true))⟩,false,0,0,511⟩,⟨⟨some 33,.pick (sT 28) (sT 32) (.val (.bool false)),none⟩,false,0,0,1023⟩,⟨ab 34 33,false,0,0,2047⟩,⟨dP 35 0 12 34 true,false,0,0,4095⟩,⟨dy 36 35 34 true,false,0,0,8191⟩,⟨⟨some 37,.bin .neq (sT 36) (.val (.int .i64 5)),(some (34,true))⟩,false,0,0,16383⟩,⟨⟨some 38,.pick (sT 34) (sT 37) (.val (.bool false)),none⟩,false,0,0,32767⟩,⟨ab 39 38,false,0,0,65535⟩,⟨dP 40 5 12 39 true,false,0,0,131071⟩,⟨⟨some 41,.load true 4 (sT 40),(some (39,true))⟩,false,0,0,262143⟩,⟨⟨some 42,.call (.val (.a6 100 [] [])) [.tmp 41],(some (39,true))⟩,false,0,0,524287⟩,⟨fD 43 0 39 true,false,0,0,131071⟩,⟨⟨some 44,.b5 (sT 43),(some (39,true))⟩,false,0,0,1179647⟩,⟨dP 45 2 44 39 true,false,0,0,3276799⟩,⟨dy 46 45 39 true,false,0,0,7471103⟩,⟨⟨some 47,.call (.val (.a6 51 [] [])) [.tmp 42,.tmp 46],(some (39,true))⟩,false,0,0,16777215⟩,⟨⟨some 48,.pick (sT 39) (sT 47) (.val (.bool false)),none⟩,false,0,0,33554431⟩]) (.cond (sT 48) (.qregion [⟨ab 49 0,false,0,0,0⟩,⟨⟨some 50,.b5 (sT 49),none⟩,false,0,0,1⟩,⟨aN 51 5 50,false,0,0,3⟩,⟨aH 52 51,false,0,0,7⟩,⟨ab 53 13,false,0,0,0⟩,⟨ab 54 3,false,0,0,0⟩,⟨ab 55 0,false,0,0,0⟩,⟨⟨some 56,.b5 (sT 55),none⟩,false,0,0,64⟩,⟨aN 57 2 56,false,0,0,192⟩,⟨aH 58 57,false,0,0,448⟩,⟨⟨some 59,.build [.int .i64 0,.str ⟨#[]⟩,.str ⟨#[]⟩] [(0,1,.tmp 53),(1,1,.tmp 54),(2,1,.tmp 58)],none⟩,false,0,0,1008⟩,⟨⟨none,.kG (true,[false,true,true]) (sT 52) (sT 59) (.val (.bool true)),none⟩,true,0,0,2047⟩]) .skip)) (.seq (.region [ab 60 0,aN 61 9 12,aH 62 61,ab 63 2,ab 64 3,ab 65 4,bw 66 104 [.tmp 60,.tmp 62,.tmp 63,.tmp 64,.tmp 65],ab 2 66]) (.seq (.region [ab 67 0,aN 68 10 12,aH 69 68,ab 70 2,ab 71 3,ab 72 4,bw 73 104 [.tmp 67,.tmp 69,.tmp 70,.tmp 71,.tmp 72],ab 2 73]) (.seq (.seq (.region [ab 74 4,ab 75 74,dP 76 0 12 75 true,dy 77 76 75 true,⟨some 78,.bin .eql (sT 77) (.val (.int .i64 5)),(some (75,true))⟩,⟨some 79,.pick (sT 75) (sT 78) (.val (.bool false)),none⟩]) (.cond (sT 79) (.region [ab 80 0,ab 81 0,bU 82 13 12,ab 83 3,bw 84 176 [.tmp 81,.tmp 82,.tmp 83],bw 85 175 [.tmp 80,.tmp 84]]) .skip)) (.region [ab 86 4,ab 87 86,fD 88 0 87 true,⟨some 89,.load true 13 (sT 12),(some (87,true))⟩,⟨some 90,.aJ 13 [.tmp 89],(some (87,true))⟩,fD 91 3 87 true,⟨some 92,.call (.val (.a6 173 [] [])) [.tmp 88,.tmp 90,.tmp 91],(some (87,true))⟩,⟨some 93,.pick (sT 87) (sT 92) (.val (.bool false)),none⟩,ab 4 93]))))))))) (.region [bC 94 .add 16 (.int .i64 1),ab 16 94]))))))) (.seq (.region [ab 95 2,ab 10 95])
 .ret)))
def r273:List a8:=[.tmp 10]
theorem c273:aG Tryz.prog 104 s273 r273 96:=codeOk Tryz.func104 rfl rfl
def s274:aB:=(.seq (.region [aQ 4 (.ag)]) (.seq (.region [ab 6 0,bw 7 177 [.tmp 6],ab 5 7]) (.seq (.region [ab 8 5,ab 9 1,bw 10 92 [.tmp 8,.tmp 9]]) (.seq (.region [ab 11 5,ab 4 11])
 .ret))))
def r274:List a8:=[.tmp 4]
theorem c274:aG Tryz.prog 105 s274 r274 12:=codeOk Tryz.func105 rfl rfl
def s275:aB:=(.seq (.region [⟨some 1,.box (sT 0),none⟩,aQ 2 (.qH)]) (.seq (.region [⟨some 3,.fC 178 [] [.tmp 1],none⟩,ab 2 3])
 .ret))
def r275:List a8:=[.tmp 2]
theorem c275:aG Tryz.prog 106 s275 r275 4:=codeOk Tryz.func106 rfl rfl
def s302:aB:=(.seq (.region [aQ 2 (.ag)]) (.seq (.region [aQ 3 (.ag)]) (.seq (.seq (.region [ab 6 0,⟨some 7,.b5 (sT 6),none⟩,aN 8 0 7,aN 9 0 8,aH 10 9,cJ 11 10,aQ 12 (.int .i64 0)]) (.block 0 (.loop (.seq (.region [cL 13 .lss 12 11]) (.seq (.cond (sT 13) .skip (.exit 0)) (.seq (.block 1 (.seq (.region [cM 14 3 10 12,bU 15 3 14,⟨some 5,.alloc (.agg [.str ⟨#[]⟩,.ag,.ag]),none⟩,⟨none,.store 3 (sT 5) (sT 15),none⟩]) (.region [ab 16 3,aN 17 1 5,aH 18 17,cJ 19 18,⟨some 20,.Eu (.bool false) (sT 19),none⟩,⟨some 21,.aJ 1 [.tmp 20],none⟩,⟨some 22,.append 1 24 (sT 16) (sT 21),none⟩,ab 3 22]))) (.region [bC 23 .add 12 (.int .i64 1),ab 12 23]))))))) (.seq (.region [ab 24 3,ab 2 24])
 .ret))))
def r302:List a8:=[.tmp 2]
theorem c302:aG Tryz.prog 164 s302 r302 25:=codeOk Tryz.func164 rfl rfl
def s303:aB:=(.seq (.region [⟨some 3,.box (sT 0),none⟩,⟨some 5,.box (sT 2),none⟩,aQ 6 (.bool false)]) (.seq (.region [ab 7 1,⟨some 8,.fC 198 [] [.tmp 3,.tmp 5],none⟩,bw 9 118 [.tmp 7,.tmp 8],⟨some 10,.un .not (sT 9),none⟩,ab 6 10])
 .ret))
def r303:List a8:=[.tmp 6]
theorem c303:aG Tryz.prog 165 s303 r303 11:=codeOk Tryz.func165 rfl rfl
def s304:aB:=(.seq (.region [aQ 6 (.bool false)]) (.seq (.seq (.region [ab 13 1,cJ 14 13,aQ 15 (.int .i64 0)]) (.block 0 (.loop (.seq (.region [cL 16 .lss 15 14]) (.seq (.cond (sT 16) .skip (.exit 0)) (.seq (.block 1 (.seq (.region [cM 17 17 13 15,bU 18 17 17,⟨some 8,.alloc (.agg [.int .i64 0,.int .i64 0,.str ⟨#[]⟩,.str ⟨#[]⟩,.str ⟨#[]⟩,.str ⟨#[]⟩,.int .i64 0,.int .i64 0,.str ⟨#[]⟩,.ag,.ag,.ag,.str ⟨#[]⟩,.ag,.int .i64 0,.ag,.ag]),none⟩,⟨none,.store 17 (sT 8) (sT 18),none⟩]) (.seq (.seq (.qregion [⟨aN 19 1 8,false,0,0,0⟩,⟨aN 20 1 19,false,0,0,1⟩,⟨aH 21 20,false,0,0,3⟩,⟨ab 22 2,false,0,0,0⟩,⟨cL 23 .eql 21 22,false,0,0,15⟩,⟨ab 24 23,false,0,0,31⟩,⟨dP 25 1 8 24 true,false,0,0,63⟩,⟨⟨some 26,.load true 13 (sT 25),(some (24,true))⟩,false,0,0,127⟩,⟨fD 27 0 24 true,false,0,0,63⟩,⟨⟨some 28,.b5 (sT 27),(some (24,true))⟩,false,0,0,319⟩,⟨dP 29 1 28 24 true,false,0,0,831⟩,⟨dy 30 29 24 true,false,0,0,1855⟩,⟨⟨some 31,.call (.val (.a6 201 [] [])) [.tmp 26,.tmp 30],(some (24,true))⟩,false,0,0,4095⟩,⟨⟨some 32,.pick (sT 24) (sT 31) (.val (.bool false)),none⟩,false,0,0,8191⟩]) (.cond (sT 32) (.qregion [⟨ab 33 0,false,0,0,0⟩,⟨⟨some 34,.b5 (sT 33),none⟩,false,0,0,1⟩,⟨aN 35 4 34,false,0,0,3⟩,⟨aH 36 35,false,0,0,7⟩,⟨aN 37 0 8,false,0,0,0⟩,⟨aH 38 37,false,0,0,16⟩,⟨ab 39 2,false,0,0,0⟩,⟨⟨none,.kG (false,[false]) (sT 36) (sT 38) (sT 39),none⟩,true,0,0,127⟩]) .skip)) (.seq (.region [aQ 9 (.bool true)]) (.seq (.seq (.region [aN 40 1 8,aN 41 0 40,aH 42 41]) (.block 2 (.seq (.region [bC 53 .eql 42 (.int .i64 4),ab 52 53]) (.cond (sT 52) (.seq (.qregion [⟨ab 54 0,false,0,0,0⟩,⟨aN 55 15 8,false,0,0,0⟩,⟨aH 56 55,false,0,0,2⟩,⟨ab 57 2,false,0,0,0⟩,⟨bw 58 166 [.tmp 54,.tmp 56,.tmp 57],true,0,0,15⟩,⟨ab 59 0,false,0,1,0⟩,⟨aN 60 16 8,false,0,1,0⟩,⟨aH 61 60,false,0,1,64⟩,⟨ab 62 2,false,0,1,0⟩,⟨bw 63 166 [.tmp 59,.tmp 61,.tmp 62],true,0,0,511⟩,⟨ab 10 58,false,2,2,1023⟩,⟨ab 11 63,false,2,2,2047⟩]) (.region [ab 64 10,ab 65 64,fD 66 11 65 false,⟨some 67,.pick (sT 65) (.val (.bool true)) (sT 66),none⟩,ab 9 67])) (.seq (.region [bC 69 .eql 42 (.int .i64 5),ab 68 69]) (.cond (sT 68) (.seq (.seq (.region [aN 70 1 8,aN 71 12 70,aH 72 71,ab 73 2,bw 74 124 [.tmp 72,.tmp 73],ab 12 74]) (.seq (.region [ab 75 12,bC 76 .geq 75 (.int .i64 0)]) (.cond (sT 76) (.region [ab 77 0,aN 78 14 8,aH 79 78,ab 80 12,bw 81 202 [.tmp 77,.tmp 79,.tmp 80]]) .skip))) (.region [ab 82 0,bU 83 17 8,ab 84 2,bw 85 199 [.tmp 82,.tmp 83,.tmp 84],ab 9 85])) (.qregion [⟨aN 43 1 8,false,0,0,0⟩,⟨bU 44 13 43,false,0,0,1⟩,⟨ab 45 2,false,0,0,0⟩,⟨ab 46 0,false,0,0,0⟩,⟨⟨some 47,.b5 (sT 46),none⟩,false,0,0,8⟩,⟨aN 48 1 47,false,0,0,24⟩,⟨aH 49 48,false,0,0,56⟩,⟨bw 50 200 [.tmp 44,.tmp 45,.tmp 49],false,0,0,127⟩,⟨⟨some 51,.un .not (sT 50),none⟩,false,0,0,255⟩,⟨ab 9 51,false,0,0,511⟩]))))))) (.seq (.region [ab 86 9,⟨some 87,.un .not (sT 86),none⟩]) (.cond (sT 87) (.seq (.region [aQ 6 (.bool false)])
 .ret) .skip))))))) (.region [bC 88 .add 15 (.int .i64 1),ab 15 88]))))))) (.seq (.region [aQ 6 (.bool true)])
 .ret)))
def r304:List a8:=[.tmp 6]
theorem c304:aG Tryz.prog 166 s304 r304 89:=codeOk Tryz.func166 rfl rfl
def s311:aB:=(.seq (.region [⟨some 3,.box (sT 0),none⟩,⟨some 5,.box (sT 2),none⟩,aQ 6 (.bool false)]) (.seq (.region [aH 7 3,⟨some 8,.b5 (sT 7),none⟩,aN 9 0 8,bU 10 2 9,ab 11 1,⟨some 12,.fC 232 [] [.tmp 3,.tmp 5],none⟩,⟨some 13,.fC 233 [] [.tmp 5,.tmp 3],none⟩,bw 14 54 [.tmp 10,.tmp 11,.tmp 12,.tmp 13],ab 6 14])
 .ret))
def r311:List a8:=[.tmp 6]
theorem c311:aG Tryz.prog 173 s311 r311 15:=codeOk Tryz.func173 rfl rfl
def s312:aB:=(.seq (.region [⟨some 3,.box (sT 1),none⟩,aQ 4 (.str ⟨#[]⟩)]) (.seq (.seq (.region [aN 5 1 3,aH 6 5,bC 7 .lss 6 (.int .i64 0)]) (.cond (sT 7) (.seq (.region [aQ 4 (.str ⟨#[]⟩)])
 .ret) .skip)) (.seq (.qregion [⟨ab 8 0,false,0,0,0⟩,⟨⟨some 9,.b5 (sT 8),none⟩,false,0,0,1⟩,⟨aN 10 0 9,false,0,0,3⟩,⟨aN 11 0 10,false,0,0,7⟩,⟨aH 12 11,false,0,0,15⟩,⟨aN 13 0 3,false,0,0,0⟩,⟨aH 14 13,false,0,0,32⟩,⟨cM 15 3 12 14,false,0,0,127⟩,⟨aN 16 1 15,false,0,0,255⟩,⟨aH 17 16,false,0,0,511⟩,⟨aN 18 1 3,false,0,0,0⟩,⟨aH 19 18,false,0,0,1024⟩,⟨cM 20 1 17 19,false,0,0,4095⟩,⟨aH 21 20,false,0,0,8191⟩,⟨ab 4 21,false,0,0,16383⟩])
 .ret)))
def r312:List a8:=[.tmp 4]
theorem c312:aG Tryz.prog 174 s312 r312 22:=codeOk Tryz.func174 rfl rfl
def s313:aB:=(.seq (.region [⟨some 3,.box (sT 1),none⟩]) (.seq (.seq (.qregion [⟨ab 7 0,false,0,0,0⟩,⟨⟨some 8,.b5 (sT 7),none⟩,false,0,0,1⟩,⟨aN 9 4 8,false,0,0,3⟩,⟨aH 10 9,false,0,0,7⟩,⟨bU 11 2 3,false,0,0,0⟩,⟨⟨some 12,.eu (true,[false,false]) false (.bool false) (sT 10) (sT 11),none⟩,false,0,0,31⟩,⟨ab 13 12,false,0,0,63⟩,⟨dP 14 1 3 13 false,false,0,0,127⟩,⟨dy 15 14 13 false,false,0,0,255⟩,⟨⟨some 16,.bin .lss (sT 15) (.val (.int .i64 0)),(some (13,false))⟩,false,0,0,511⟩,⟨⟨some 17,.pick (sT 13) (.val (.bool true)) (sT 16),none⟩,false,0,0,1023⟩]) (.cond (sT 17) .ret .skip)) (.seq (.qregion [⟨ab 18 0,false,0,0,0⟩,⟨⟨some 19,.b5 (sT 18),none⟩,false,0,0,1⟩,⟨aN 20 4 19,false,0,0,3⟩,⟨aH 21 20,false,0,0,7⟩,⟨bU 22 2 3,false,0,0,0⟩,⟨⟨none,.kG (true,[false,false]) (sT 21) (sT 22) (.val (.bool true)),none⟩,true,0,0,31⟩]) (.seq (.region [ab 23 0,⟨some 24,.b5 (sT 23),none⟩,aN 25 0 24,aN 26 1 25,aH 27 26,bw 28 80 [.tmp 27],ab 4 28]) (.seq (.seq (.qregion [⟨ab 29 0,false,0,0,0⟩,⟨⟨some 30,.b5 (sT 29),none⟩,false,0,0,1⟩,⟨aN 31 0 30,false,0,0,3⟩,⟨aN 32 0 31,false,0,0,7⟩,⟨aH 33 32,false,0,0,15⟩,⟨aN 34 0 3,false,0,0,0⟩,⟨aH 35 34,false,0,0,32⟩,⟨⟨some 36,.slice 3 (sT 33) none (some (sT 35)),none⟩,false,0,0,127⟩,⟨cJ 37 36,false,0,0,255⟩,⟨aQ 38 (.int .i64 0),false,0,0,0⟩]) (.block 0 (.loop (.seq (.region [cL 39 .lss 38 37]) (.seq (.cond (sT 39) .skip (.exit 0)) (.seq (.block 1 (.seq (.region [cM 40 3 36 38,bU 41 3 40,⟨some 6,.alloc (.agg [.str ⟨#[]⟩,.ag,.ag]),none⟩,⟨none,.store 3 (sT 6) (sT 41),none⟩]) (.region [ab 42 4,aN 43 2 6,aH 44 43,bw 45 80 [.tmp 44],cL 46 .add 42 45,ab 4 46]))) (.region [bC 47 .add 38 (.int .i64 1),ab 38 47]))))))) (.qregion [⟨ab 48 0,false,0,0,0⟩,⟨ab 49 0,false,0,0,0⟩,⟨⟨some 50,.b5 (sT 49),none⟩,false,0,0,2⟩,⟨aN 51 0 50,false,0,0,6⟩,⟨aN 52 0 51,false,0,0,14⟩,⟨aH 53 52,false,0,0,30⟩,⟨aN 54 0 3,false,0,0,0⟩,⟨aH 55 54,false,0,0,64⟩,⟨cM 56 3 53 55,false,0,0,254⟩,⟨aN 57 2 56,false,0,0,510⟩,⟨aH 58 57,false,0,0,1022⟩,⟨ab 59 4,false,0,0,0⟩,⟨ab 60 0,false,0,0,0⟩,⟨bU 61 2 3,false,0,0,0⟩,⟨bw 62 174 [.tmp 60,.tmp 61],false,0,0,12288⟩,⟨bw 63 104 [.tmp 48,.tmp 58,.tmp 59,.tmp 62,.val (.bool true)],true,0,0,32767⟩]))))))
def r313:List a8:=[]
theorem c313:aG Tryz.prog 175 s313 r313 64:=codeOk Tryz.func175 rfl rfl
def s314:aB:=(.seq (.region [⟨some 4,.box (sT 1),none⟩,⟨some 6,.alloc (.agg [.int .i64 0,.int .i64 0]),none⟩]) (.seq (.qregion [⟨ab 7 0,false,0,0,0⟩,⟨⟨some 8,.b5 (sT 7),none⟩,false,0,0,1⟩,⟨aN 9 0 8,false,0,0,3⟩,⟨bU 10 2 9,false,0,0,7⟩,⟨aN 11 11 4,false,0,0,0⟩,⟨aH 12 11,false,0,0,16⟩,⟨bw 13 52 [.tmp 10,.tmp 12],false,0,0,63⟩,⟨aN 14 12 4,false,0,0,0⟩,⟨aH 15 14,false,0,0,128⟩,⟨ab 16 2,false,0,0,0⟩,⟨bw 17 124 [.tmp 15,.tmp 16],false,0,0,1023⟩,⟨⟨some 18,.build [.int .i64 0,.int .i64 0] [(0,1,.tmp 13),(1,1,.tmp 17)],none⟩,false,0,0,2047⟩,⟨⟨none,.store 2 (sT 6) (sT 18),none⟩,true,0,0,4095⟩])
 .ret))
def r314:List a8:=[.cell true 2 6]
theorem c314:aG Tryz.prog 176 s314 r314 19:=codeOk Tryz.func176 rfl rfl
def s315:aB:=(.seq (.region [aQ 2 (.ag)]) (.seq (.region [ab 3 0,bw 4 235 [.val (.ag),.tmp 3],ab 2 4])
 .ret))
def r315:List a8:=[.tmp 2]
theorem c315:aG Tryz.prog 177 s315 r315 5:=codeOk Tryz.func177 rfl rfl
def s325:aB:=(.seq (.region [⟨some 3,.box (sT 0),none⟩,aQ 4 (.bool false)]) (.seq (.seq (.region [aN 5 1 3,aN 6 0 5,aH 7 6]) (.block 0 (.seq (.region [bC 9 .eql 7 (.int .i64 4),ab 8 9]) (.cond (sT 8) (.seq (.region [aH 10 1,aN 11 15 3,aH 12 11,aH 13 2,bw 14 165 [.tmp 10,.tmp 12,.tmp 13],⟨some 15,.un .not (sT 14),none⟩,ab 16 15,dy 17 1 16 true,dP 18 16 3 16 true,dy 19 18 16 true,dy 20 2 16 true,⟨some 21,.call (.val (.a6 165 [] [])) [.tmp 17,.tmp 19,.tmp 20],(some (16,true))⟩,⟨some 22,.un .not (sT 21),(some (16,true))⟩,⟨some 23,.pick (sT 16) (sT 22) (.val (.bool false)),none⟩,ab 4 23])
 .ret) (.seq (.region [bC 25 .eql 7 (.int .i64 5),ab 24 25]) (.cond (sT 24) (.seq (.region [aH 26 1,bU 27 17 3,aH 28 2,bw 29 199 [.tmp 26,.tmp 27,.tmp 28],⟨some 30,.un .not (sT 29),none⟩,ab 4 30])
 .ret) .skip)))))) (.seq (.qregion [⟨aN 31 1 3,false,0,0,0⟩,⟨bU 32 13 31,false,0,0,1⟩,⟨aH 33 2,false,0,0,0⟩,⟨aH 34 1,false,0,0,0⟩,⟨⟨some 35,.b5 (sT 34),none⟩,false,0,0,8⟩,⟨aN 36 1 35,false,0,0,24⟩,⟨aH 37 36,false,0,0,56⟩,⟨bw 38 200 [.tmp 32,.tmp 33,.tmp 37],false,0,0,127⟩,⟨ab 4 38,false,0,0,255⟩])
 .ret)))
def r325:List a8:=[.tmp 4]
theorem c325:aG Tryz.prog 198 s325 r325 39:=codeOk Tryz.func198 rfl rfl
def s326:aB:=(.seq (.region [⟨some 4,.box (sT 1),none⟩,aQ 6 (.bool false)]) (.seq (.seq (.region [aN 8 1 4,aN 9 12 8,aH 10 9,ab 11 2,bw 12 124 [.tmp 10,.tmp 11],ab 7 12]) (.seq (.region [ab 13 7,bC 14 .geq 13 (.int .i64 0)]) (.cond (sT 14) (.seq (.qregion [⟨ab 15 0,false,0,0,0⟩,⟨⟨some 16,.b5 (sT 15),none⟩,false,0,0,1⟩,⟨aN 17 2 16,false,0,0,3⟩,⟨aH 18 17,false,0,0,7⟩,⟨aN 19 14 4,false,0,0,0⟩,⟨aH 20 19,false,0,0,16⟩,⟨cM 21 1 18 20,false,0,0,63⟩,⟨aH 22 21,false,0,0,127⟩,⟨ab 23 7,false,0,0,0⟩,⟨cM 24 1 22 23,false,0,0,511⟩,⟨aH 25 24,false,0,0,1023⟩,⟨ab 6 25,false,0,0,2047⟩])
 .ret) .skip))) (.seq (.qregion [⟨ab 26 0,false,0,0,0⟩,⟨⟨some 27,.b5 (sT 26),none⟩,false,0,0,1⟩,⟨aN 28 0 27,false,0,0,3⟩,⟨aH 29 28,false,0,0,7⟩,⟨⟨some 30,.b5 (sT 29),none⟩,false,0,0,15⟩,⟨aN 31 4 30,false,0,0,31⟩,⟨aH 32 31,false,0,0,63⟩,⟨aN 33 14 4,false,0,0,0⟩,⟨aH 34 33,false,0,0,128⟩,⟨cM 35 1 32 34,false,0,0,511⟩,⟨aH 36 35,false,0,0,1023⟩,⟨ab 6 36,false,0,0,2047⟩])
 .ret)))
def r326:List a8:=[.tmp 6]
theorem c326:aG Tryz.prog 199 s326 r326 37:=codeOk Tryz.func199 rfl rfl
def s327:aB:=(.seq (.region [⟨some 3,.box (sT 0),none⟩,aQ 6 (.bool false)]) (.seq (.region [aN 7 3 3,aH 8 7,ab 9 2,cL 10 .eql 8 9,ab 11 10,dP 12 0 3 11 true,dy 13 12 11 true,⟨some 14,.bin .eql (sT 13) (.val (.int .i64 3)),(some (11,true))⟩,fD 15 14 11 true,dP 16 1 3 15 true,dy 17 16 15 true,fD 18 1 15 true,⟨some 19,.bin .eql (sT 17) (sT 18),(some (15,true))⟩,⟨some 20,.pick (sT 15) (sT 19) (.val (.bool false)),(some (11,true))⟩,fD 21 20 11 true,dP 22 0 3 21 false,dy 23 22 21 false,⟨some 24,.bin .eql (sT 23) (.val (.int .i64 1)),(some (21,false))⟩,fD 25 24 21 false,dP 26 2 3 25 true,dy 27 26 25 true,fD 28 1 25 true,⟨some 29,.bin .eql (sT 27) (sT 28),(some (25,true))⟩,⟨some 30,.pick (sT 25) (sT 29) (.val (.bool false)),(some (21,false))⟩,⟨some 31,.pick (sT 21) (.val (.bool true)) (sT 30),(some (11,true))⟩,⟨some 32,.pick (sT 11) (sT 31) (.val (.bool false)),none⟩,ab 6 32])
 .ret))
def r327:List a8:=[.tmp 6]
theorem c327:aG Tryz.prog 200 s327 r327 33:=codeOk Tryz.func200 rfl rfl
def s328:aB:=(.seq (.region [⟨some 2,.box (sT 0),none⟩,aQ 4 (.bool false)]) (.seq (.region [⟨some 6,.gm,none⟩,ab 5 6]) (.seq (.region [aN 7 5 2,bU 8 4 7,ab 9 5,bw 10 90 [.tmp 8,.tmp 9]]) (.seq (.region [ab 11 5,ab 12 1,⟨some 13,.eu (false,[true]) false (.bool false) (sT 11) (sT 12),none⟩,ab 4 13])
 .ret))))
def r328:List a8:=[.tmp 4]
theorem c328:aG Tryz.prog 201 s328 r328 14:=codeOk Tryz.func201 rfl rfl
def s329:aB:=(.seq (.region [ab 6 0,⟨some 7,.b5 (sT 6),none⟩,aN 8 3 7,aH 9 8,ab 10 1,cM 11 1 9 10,aH 12 11,ab 13 2,cM 14 1 12 13,aH 15 14,⟨some 16,.un .not (sT 15),none⟩]) (.cond (sT 16) (.seq (.region [ab 17 0,⟨some 18,.b5 (sT 17),none⟩,aN 19 3 18,aH 20 19,ab 21 1,cM 22 1 20 21,aH 23 22,ab 24 2,cM 25 1 23 24,⟨none,.store 1 (sT 25) (.val (.bool true)),none⟩]) (.qregion [⟨ab 26 0,false,0,0,0⟩,⟨ab 27 0,false,0,0,0⟩,⟨⟨some 28,.b5 (sT 27),none⟩,false,0,0,2⟩,⟨aN 29 0 28,false,0,0,6⟩,⟨aH 30 29,false,0,0,14⟩,⟨⟨some 31,.b5 (sT 30),none⟩,false,0,0,30⟩,⟨aN 32 3 31,false,0,0,62⟩,⟨aH 33 32,false,0,0,126⟩,⟨ab 34 1,false,0,0,0⟩,⟨cM 35 1 33 34,false,0,0,510⟩,⟨aH 36 35,false,0,0,1022⟩,⟨ab 37 0,false,0,0,0⟩,⟨⟨some 38,.b5 (sT 37),none⟩,false,0,0,2048⟩,⟨aN 39 0 38,false,0,0,6144⟩,⟨aH 40 39,false,0,0,14336⟩,⟨⟨some 41,.b5 (sT 40),none⟩,false,0,0,30720⟩,⟨aN 42 0 41,false,0,0,63488⟩,⟨aN 43 0 42,false,0,0,129024⟩,⟨aH 44 43,false,0,0,260096⟩,⟨ab 45 1,false,0,0,0⟩,⟨cM 46 3 44 45,false,0,0,1046528⟩,⟨aN 47 1 46,false,0,0,2095104⟩,⟨aH 48 47,false,0,0,4192256⟩,⟨ab 49 2,false,0,0,0⟩,⟨cM 50 1 48 49,false,0,0,16775168⟩,⟨aH 51 50,false,0,0,33552384⟩,⟨bw 52 166 [.tmp 26,.tmp 36,.tmp 51],true,0,0,67108863⟩])) .skip))
def r329:List a8:=[]
theorem c329:aG Tryz.prog 202 s329 r329 53:=codeOk Tryz.func202 rfl rfl
def s359:aB:=(.seq (.region [⟨some 3,.box (sT 0),none⟩,aQ 4 (.bool false)]) (.seq (.qregion [⟨aH 5 1,false,0,0,0⟩,⟨⟨some 6,.b5 (sT 5),none⟩,false,0,0,1⟩,⟨aN 7 3 6,false,0,0,3⟩,⟨aH 8 7,false,0,0,7⟩,⟨aH 9 1,false,0,0,0⟩,⟨bU 10 13 3,false,0,0,0⟩,⟨aH 11 2,false,0,0,0⟩,⟨bw 12 176 [.tmp 9,.tmp 10,.tmp 11],false,0,0,112⟩,⟨⟨some 13,.eu (true,[false,false]) false (.bool false) (sT 8) (sT 12),none⟩,false,0,0,255⟩,⟨ab 4 13,false,0,0,511⟩])
 .ret))
def r359:List a8:=[.tmp 4]
theorem c359:aG Tryz.prog 232 s359 r359 14:=codeOk Tryz.func232 rfl rfl
def s360:aB:=(.seq (.region [⟨some 3,.box (sT 0),none⟩,aQ 4 (.bool false)]) (.seq (.region [bU 8 13 3,bw 9 234 [.tmp 8],ab 7 9,⟨some 10,.extract (sT 7) 0,none⟩,⟨some 11,.extract (sT 7) 1,none⟩,ab 5 10,ab 6 11]) (.seq (.region [aH 12 1,bC 13 .neq 12 (.str ⟨#[]⟩),ab 14 13,fD 15 5 14 true,dy 16 1 14 true,⟨some 17,.bin .eql (sT 15) (sT 16),(some (14,true))⟩,⟨some 18,.pick (sT 14) (sT 17) (.val (.bool false)),none⟩,ab 19 18,fD 20 6 19 true,dy 21 2 19 true,⟨some 22,.b5 (sT 21),(some (19,true))⟩,dP 23 2 22 19 true,dy 24 23 19 true,⟨some 25,.bin .eql (sT 20) (sT 24),(some (19,true))⟩,⟨some 26,.pick (sT 19) (sT 25) (.val (.bool false)),none⟩,ab 4 26])
 .ret)))
def r360:List a8:=[.tmp 4]
theorem c360:aG Tryz.prog 233 s360 r360 27:=codeOk Tryz.func233 rfl rfl
def s361:aB:=(.seq (.region [⟨some 1,.box (sT 0),none⟩,aQ 2 (.str ⟨#[]⟩),aQ 3 (.str ⟨#[]⟩)]) (.seq (.seq (.region [aN 4 0 1,aH 5 4]) (.block 0 (.seq (.region [bC 7 .eql 5 (.int .i64 3),ab 6 7]) (.cond (sT 6) (.seq (.qregion [⟨aN 8 1 1,false,0,0,0⟩,⟨aH 9 8,false,0,0,1⟩,⟨aN 10 3 1,false,0,0,0⟩,⟨aH 11 10,false,0,0,4⟩,⟨ab 2 9,false,0,0,3⟩,⟨ab 3 11,false,0,0,31⟩])
 .ret) (.seq (.region [bC 13 .eql 5 (.int .i64 1),ab 12 13]) (.cond (sT 12) (.seq (.qregion [⟨aN 14 2 1,false,0,0,0⟩,⟨aH 15 14,false,0,0,1⟩,⟨aN 16 3 1,false,0,0,0⟩,⟨aH 17 16,false,0,0,4⟩,⟨ab 2 15,false,0,0,3⟩,⟨ab 3 17,false,0,0,31⟩])
 .ret) .skip)))))) (.seq (.region [aQ 2 (.str ⟨#[]⟩),aQ 3 (.str ⟨#[]⟩)])
 .ret)))
def r361:List a8:=[.tmp 2,.tmp 3]
theorem c361:aG Tryz.prog 234 s361 r361 18:=codeOk Tryz.func234 rfl rfl
def encR (l:List ByteArray):V:=.fs (l.map .str)
def nmAt (X:List Pr) (k:Nat):ByteArray:=match X[k]? with | some q=>q.name | none=>⟨#[]⟩
noncomputable def rnN (X:List Pr):List (List ByteArray):=(gV (LX X) X.length).map fun j=>(rO (LX X) j X.length).map (nmAt X)
theorem norefL_encR (l:List (List ByteArray)):ae (l.map encR)=true:=bS (fun x=>by simp[encR,al,aE]) l
theorem fz_encR (H:List ak) (n:Nat) (x:List ByteArray):fz H (n+1) (encR x)=some (encR x):=by rw[encR,jL,aE];rfl
theorem headOk_R (l:List (List ByteArray)):df 1 (l.map encR):=cA _ _ (fun x=>by simp[encR,aw]) l
theorem rgK_lt {L:Nat->Nat->Bool} {i n j:Nat} (h:j∈rO L i n):j<n:=by
 rw[rO]at h;have:=(List.mem_filter.1 h).1;simpa using this
theorem t222 (P:bH) (hc:total P<=1000000) (ew:P.procs.length<=1000000):af Tryz.prog 29 [aP P] (·=if rE P=0 then .dJ [.fs ((rnN P.procs).map encR),.int .i64 0]else .dJ [.fs [],.int .i64 (rE P)]):=by
 have k9:=t229 P hc ew;rw[T9]at k9;simp only[aP]at k9⊢;by_cases h0:rE P=0
 ·rw[if_pos h0]at k9⊢;have h241:=t241 P ew (bY P.procs);have Ec:ae (fy P (bY P.procs))=true:=by
   simp[fy,lE,al,ae,aq,ah,aY,br,ee (eG _ _ _)]
  generalize fy P (bY P.procs)=RV at*;refine af.intro c222 600 (by simp) 20 ?_;simp -implicitDefEqProofs only[s222,go_sem];repeat' (first | ((first | ((with_reducible refine bj k9 ?_ ?_);(·simp[ae,al,cm,aq,ah,Ec])) | ((with_reducible apply cj);(·simp -implicitDefEqProofs only[List.map_cons,List.map_nil,aq,ah,Ec,push_cast,go_sem_proc]<;>rfl);(with_reducible exact k9);(·rfl)) | (with_reducible refine aD ?_));simp -implicitDefEqProofs only[Int.reduceEq,go_sem]) | (with_reducible refine aA.mk ?_ ?_) | (with_reducible refine And.intro ?_ ?_) | ((with_reducible refine bz ?_);simp -implicitDefEqProofs only[r222,push_cast,go_sem_proc]) | intro _)
  refine gJ (by simp[ae,al,Ec]) h241 ?_;rintro r ⟨F,rfl,hF⟩;simp -implicitDefEqProofs only[go_sem];intro hlen;obtain⟨G,hG⟩:∃G:List (List Nat),G=(gV (LX P.procs) P.procs.length).map fun j=>rO (LX P.procs) j P.procs.length:=⟨_,rfl⟩
  have hGi:(oE P.procs P.procs.length).map encI=G.map fun g=>V.fs (g.map fun(k:Nat)=> .int .i64 k):=by
   rw[oE,hG,List.map_map,List.map_map];refine List.map_congr_left fun j _=> ?_
   simp[encI]
  have hGn:rnN P.procs=G.map fun g=>g.map (nmAt P.procs):=by rw[rnN,hG,List.map_map];rfl
  have hGl:∀g∈G,∀k∈g,k<P.procs.length:=fun g hg k hk=>by
   rw[hG]at hg;obtain⟨j,_,rfl⟩:=List.mem_map.1 hg;exact rgK_lt hk
  have hlG:(oE P.procs P.procs.length).length=G.length:=by rw[hG];simp[oE]
  have hGl2:∀g∈G,g.length<=1000000:=fun g hg=>by
   rw[hG]at hg;obtain⟨j,_,rfl⟩:=List.mem_map.1 hg;have:=List.length_filter_le (fun k=>decide (j<=k) && Cc (LX P.procs) j k) (List.range P.procs.length);rw[rO];simp at this;omega
  have hGn2:G.length<=1000000:=by
   rw[hG,List.length_map];have:=List.length_filter_le (Iz (LX P.procs)) (List.range P.procs.length);rw[gV];simp at this;omega
  rw[hlG]at hlen⊢;rw[hGi,hGn];clear hGi hGn hG hF hlG;generalize zJ:ak.row [V.agg [.fs (P.procs.map aF),.fs (P.main.map encS)]]=c0;refine aL (fun m e H=>∃pre post kv,G=pre++post/\m=post.length/\e 1=.ptr 0 0 0/\e 3=.int .i64 0/\e 8=kv/\e 27=.fs (G.map fun g=>V.fs (g.map fun(k:Nat)=> .int .i64 k))/\e 28=.int .i64 G.length/\e 29=.int .i64 pre.length/\
   H[0]? =some c0/\a7 kv 0/\OV H kv ((pre.map fun g=>g.map (nmAt P.procs)).map encR)) G.length
   ⟨[],G,.ag,rfl,rfl,by simp[az,aC],by simp[az,aC],by simp[az,aC],by simp[az,aC],by simp[az,aC],by simp[az,aC],by simp[zJ],(fun a b h=>by cases h),.inl ⟨rfl,rfl⟩⟩ ?_
  rintro m e H ⟨pre,post,kv,ao,rfl,h1,h3,h8,j0,vT,oR,mq,dW,bm⟩;have cP:=bm.one;have ba:=bm.cS;simp only[V.one]at ba;cases post with
  | nil=>
   have ev:pre=G:=by rw[ao];simp
   subst ev;simp -implicitDefEqProofs only[h1,h3,h8,j0,vT,oR,aI ao,cP,ba,go_sem];have hz:=dw (f:=encR) (n:=17) (fun H x=>fz_encR H 17 x) bm;simp -implicitDefEqProofs only[r222,hz,push_cast,go_sem_proc]
  | cons g post=>
   have hg:=aO (fun g:List Nat=>V.fs (g.map fun(k:Nat)=> .int .i64 k)) ao;have Kq:g∈G:=by rw[ao];simp
   have zR:=hGl g Kq;have hgn:=hGl2 g Kq;simp -implicitDefEqProofs only[h1,h3,h8,j0,vT,oR,an ao,aa ao hlen,hg,go_sem];intro cX;refine aL (fun m e H=>∃NO SQ kw,g=NO++SQ/\m=SQ.length/\e 1=.ptr 0 0 0/\e 3=.int .i64 0/\e 8=kv/\e 27=.fs (G.map fun g=>V.fs (g.map fun(k:Nat)=> .int .i64 k))/\e 28=.int .i64 G.length/\e 29=.int .i64 pre.length/\
    e 11=kw/\e 33=.fs (g.map fun(k:Nat)=> .int .i64 k)/\e 34=.int .i64 g.length/\e 35=.int .i64 NO.length/\
    H[0]? =some c0/\a7 kw 0/\(∀id o n,kv=.ms id o n->a7 kw id)/\OV H kv ((pre.map fun g=>g.map (nmAt P.procs)).map encR)/\OV H kw ((NO.map (nmAt P.procs)).map .str)) g.length
    ⟨[],g,.ag,rfl,rfl,by simp[az,h1],by simp[az,h3],by simp[az,h8],by simp[az,j0],by simp[az,vT],by simp[az,oR],by simp[az],by simp[az],by simp[az],by simp[az],mq,(fun a b h=>by cases h),(fun id o n _ a b h=>by cases h),bm,.inl ⟨rfl,rfl⟩⟩ ?_
   clear h1 h3 h8 j0 vT oR mq bm;rintro m e H ⟨NO,SQ,kw,Ax,rfl,h1,h3,h8,j0,vT,oR,ez,h33,mU,gL,mq,QA,hdis,bm,hovw⟩;have j8:=hovw.one;have cY:=hovw.cS;simp only[V.one]at cY;have cR:pre.length<=G.length:=by rw[ao];simp
   have hpl2:NO.length<=g.length:=by rw[Ax];simp
   cases SQ with
   | cons k SQ=>
    have hgy:=aO (fun(k:Nat)=>V.int .i64 k) Ax;have ED:=zR k (by rw[Ax];simp);have DX:(P.procs.map aF).getD k .any=aF P.procs[k]:=by simp[List.getD,ED]
    have Jx:P.procs[k].name=nmAt P.procs k:=by simp[nmAt,ED]
    simp only[aF,Jx]at DX;subst zJ;simp -implicitDefEqProofs only[h1,h3,h8,j0,vT,oR,ez,h33,mU,gL,an Ax,aa Ax cX,hgy,mq,DX,ED,j8,cY,decide_true,go_sem];refine cu hovw (fun i o l h=>by cases h) (cA _ _ (fun x=>by simp[aw]) _) (by simp only[List.length_map,List.length_cons,List.length_nil];omega) ?_;rintro kw' H' bo hle cp;have h0l:=(List.getElem?_eq_some_iff.1 mq).1;obtain⟨pO,lV⟩:=cp 0 h0l QA;rw[mq]at pO;simp -implicitDefEqProofs only[h1,h3,h8,j0,vT,oR,ez,h33,mU,gL,aa Ax cX,go_sem];refine⟨SQ.length,Nat.lt_succ_self _,NO++ [k],SQ,kw',by simp[Ax],rfl,rfl,by simp,pO,lV,fun id o n he=> ?_,bm.frame (fun id o n he hid=>(cp id hid (hdis id o n he)).1),by simpa using bo⟩;have hid:id<H.length:=by
     rcases bm with⟨_,h⟩ | ⟨_,ph,h,h'⟩
     ·rw[he]at h;cases h
     ·rw[he]at h;injection h with h;subst h;exact(List.getElem?_eq_some_iff.1 h').1
    exact(cp id hid (hdis id o n he)).2
   | nil=>
    have hpy:NO=g:=by rw[Ax];simp
    subst hpy;simp -implicitDefEqProofs only[h1,h3,h8,j0,vT,oR,ez,h33,mU,gL,aI Ax,aa ao hlen,j8,cY,cP,ba,go_sem];obtain⟨D,IA,Eg⟩:=hovw.KW;refine⟨D,_,IA,rfl,rfl,?_⟩;have hH0':=(Eg 0 QA).trans mq;have hovk:OV (bO D H) kv ((pre.map fun g=>g.map (nmAt P.procs)).map encR):=bm.frame (fun id o n he _=>Eg id (hdis id o n he));generalize bO D H=H1 at*;refine cu hovk (fun i o l h=>by cases h) (headOk_R _) (by simp only[List.length_map,List.length_cons,List.length_nil];omega) ?_;rintro bN H' bo hle cp;obtain⟨pO,lV⟩:=cp 0 (List.getElem?_eq_some_iff.1 hH0').1 dW;rw[hH0']at pO;simp -implicitDefEqProofs only[h1,h3,h8,j0,vT,oR,aa ao hlen,go_sem];exact⟨post.length,Nat.lt_succ_self _,pre++ [NO],post,bN,by simp[ao],rfl,rfl,by simp,pO,lV,by simpa[encR]using bo⟩
 ·rw[if_neg h0]at k9⊢;refine af.intro c222 600 (by simp) 20 ?_;simp -implicitDefEqProofs only[s222,go_sem];repeat' (first | ((first | ((with_reducible refine bj k9 ?_ ?_);(·simp[ae,al,cm])) | ((with_reducible apply cj);(·simp -implicitDefEqProofs only[List.map_cons,List.map_nil,push_cast,go_sem_proc]<;>rfl);(with_reducible exact k9);(·rfl)) | (with_reducible refine aD ?_));simp -implicitDefEqProofs only[h0,go_sem]) | (with_reducible refine aA.mk ?_ ?_) | (with_reducible refine And.intro ?_ ?_) | ((with_reducible refine bz ?_);simp -implicitDefEqProofs only[r222,push_cast,go_sem_proc]) | intro _)
  all_goals (try simp_all)
def rrL (L:Nat->Nat->Bool) (i k:Nat):List Nat:=(List.range k).filter (Cc L i)
def lvN (L:Nat->Nat->Bool) (i k:Nat):Nat:=(rrL L i k).foldl min i
theorem rrL_succ (L:Nat->Nat->Bool) (i k:Nat):rrL L i (k+1)=rrL L i k++if Cc L i k=true then[k]else[]:=by
 rw[rrL,List.range_succ,List.filter_append,rrL];cases h:Cc L i k<;>simp[h]
theorem lvN_succ (L:Nat->Nat->Bool) (i k:Nat):lvN L i (k+1)=if Cc L i k=true then min (lvN L i k) k else lvN L i k:=by
 rw[lvN,rrL_succ,List.foldl_append];split<;>rfl
theorem foldl_min:∀(l:List Nat) (a:Nat),l.foldl min a<=a/\(∀k∈l,l.foldl min a<=k)/\((∀k∈l,a<=k)->l.foldl min a=a)
 | [],a=>⟨Nat.le_refl _,by simp,fun _=>rfl⟩
 | x::l,a=>by
  obtain⟨h1,h2,h3⟩:=foldl_min l (min a x);refine⟨by simp only[List.foldl_cons];omega,fun k hk=> ?_,fun h=> ?_⟩
  ·simp only[List.foldl_cons];rcases List.mem_cons.1 hk with rfl | hk
   ·omega
   ·exact h2 k hk
  ·simp only[List.foldl_cons];have hx:=h x (by simp);have e:min a x=a:=by omega
   rw[e]at h3⊢;exact h3 (fun k hk=>h k (by simp[hk]))
theorem rr_len (L:Nat->Nat->Bool) (i k:Nat):(rrL L i k).length<=k:=by
 have:=List.length_filter_le (Cc L i) (List.range k);rw[rrL];simpa using this
theorem lst_rr {L:Nat->Nat->Bool} (hL:QW L) {i n:Nat} (hi:i<n):(0<(rrL L i n).length/\lvN L i n=i)↔Iz L i=true:=by
 obtain⟨h1,h2,h3⟩:=foldl_min (rrL L i n) i;rw[CA];constructor
 ·rintro⟨hl,hv⟩;rw[lvN]at hv;obtain⟨k,hk⟩:=List.exists_mem_of_length_pos hl;have hc:Cc L i k=true:=(List.mem_filter.1 hk).2;simp only[Cc,Bool.and_eq_true]at hc;refine⟨hL _ _ _ hc.1 hc.2,fun j hj=> ?_⟩;cases hcj:Cc L j i with
  | false=>rfl
  | true=>
   have:=h2 j (List.mem_filter.2 ⟨by simp;omega,csy hcj⟩);omega
 ·rintro⟨hii,ey⟩;have hm:i∈rrL L i n:=List.mem_filter.2 ⟨by simp[hi],by simp[Cc,hii]⟩;refine⟨List.length_pos_of_mem hm,?_⟩;rw[lvN];refine h3 (fun k hk=> ?_);have hc:=(List.mem_filter.1 hk).2;refine Classical.byContradiction fun ct=> ?_
  have:=ey k (by omega);rw[csy hc]at this;cases this
theorem rr_lst {L:Nat->Nat->Bool} {i n:Nat} (h:Iz L i=true):rrL L i n=rO L i n:=by
 rw[rrL,rO];refine List.filter_congr fun k hk=> ?_
 cases hc:Cc L i k with
 | false=>simp
 | true=>
  have:i<=k:=Classical.byContradiction fun ct=>by
   have:=(CA.1 h).2 k (by omega);rw[csy hc]at this;cases this
  simp[this]
noncomputable def rnNi (X:List Pr) (i:Nat):List (List ByteArray):=(gV (LX X) i).map fun j=>(rO (LX X) j X.length).map (nmAt X)
theorem rnNi_succ (X:List Pr) (i:Nat):rnNi X (i+1)=rnNi X i++if Iz (LX X) i=true then[(rO (LX X) i X.length).map (nmAt X)]else[]:=by
 rw[rnNi,wg,List.map_append,rnNi];split<;>simp
theorem t225 (P:bH) (hc:total P<=1000000) (ew:P.procs.length<=1000000) (cR:lK P=0):af Tryz.prog 32 [aP P] (·=.fs ((rnN P.procs).map encR)):=by
 have K3:=t250 P hc cR;have hA:=Px cR;generalize LY P=A at*;have xY:(A.map dE).length=P.procs.length:=by rw[List.length_map,hA.len]
 have L5:=fun i k=>hA.eq i k
 have hLt:=L4 P.procs;have ES:∀i:Nat,i<P.procs.length->(A.map dE).getD i .any=.db ((A.getD i []).map (.int .i64)) (bF (A.getD i [])):=fun i hi=>by
  have:A[i]? =some (A[i]'(by rw[hA.len];exact hi)):=List.getElem?_eq_getElem _;rw[List.getD_eq_getElem?_getD,List.getElem?_map,List.getD_eq_getElem?_getD,this];rfl
 have hrN:rnN P.procs=rnNi P.procs P.procs.length:=rfl;rw[hrN];have Ia:∀i,(rnNi P.procs i).length<=i:=fun i=>by
  have:=List.length_filter_le (Iz (LX P.procs)) (List.range i);rw[rnNi,List.length_map,gV];simpa using this
 simp only[aP]at K3⊢;refine af.intro c225 600 (by simp) 20 ?_;simp -implicitDefEqProofs only[s225,go_sem];repeat' (first | ((first | ((with_reducible refine bj K3 ?_ ?_);(·simp[ae,al,cm,aq,ah])) | ((with_reducible apply cj);(·simp -implicitDefEqProofs only[List.map_cons,List.map_nil,aq,ah,push_cast,go_sem_proc]<;>rfl);(with_reducible exact K3);(·rfl)) | (with_reducible refine aD ?_));simp -implicitDefEqProofs only[Int.reduceEq,go_sem]) | (with_reducible refine aA.mk ?_ ?_) | (with_reducible refine And.intro ?_ ?_) | ((with_reducible refine bz ?_);simp -implicitDefEqProofs only[r225,push_cast,go_sem_proc]) | intro _)
 generalize zJ:ak.row [V.agg [.fs (P.procs.map aF),.fs (P.main.map encS)]]=c0;refine aL (fun m e H=>∃i kv,i+m=P.procs.length/\e 1=.ptr 0 0 0/\e 3=.fs (A.map dE)/\e 4=kv/\e 13=.fs (P.procs.map aF)/\e 14=.int .i64 P.procs.length/\e 15=.int .i64 i/\
  H[0]? =some c0/\a7 kv 0/\OV H kv ((rnNi P.procs i).map encR)) P.procs.length
  ⟨0,.ag,by simp,by simp[az,aC],by simp[az,aC],by simp[az,aC],by simp[az,aC],by simp[az,aC],by simp[az,aC],by simp[zJ],(fun a b h=>by cases h),.inl ⟨by simp[rnNi,gV],rfl⟩⟩ ?_
 rintro m e H ⟨i,kv,QU,h1,h3,h4,eV,dG,gy,mq,dW,bm⟩;have cP:=bm.one;have ba:=bm.cS;simp only[V.one]at ba;cases m with
 | zero=>
  have hi:i=P.procs.length:=by omega
  subst hi;simp -implicitDefEqProofs only[h1,h3,h4,eV,dG,gy,Int.lt_irrefl,decide_false,cP,ba,go_sem];have hz:=dw (f:=encR) (n:=18) (fun H x=>fz_encR H 18 x) bm;simp -implicitDefEqProofs only[r225,hz,push_cast,go_sem_proc]
 | succ m=>
  have hi:i<P.procs.length:=by omega
  have ct:decide ((i:Int)<(P.procs.length:Int))=true:=by simp;omega
  have hwi:=bG (k:=i) (by omega);have tQ:=ES i hi;subst zJ;simp -implicitDefEqProofs only[h1,h3,h4,eV,dG,gy,ct,mq,go_sem];intro hlen;generalize zJ:ak.row [V.agg [.fs (P.procs.map aF),.fs (P.main.map encS)]]=c0 at*;refine aL (fun m' e H=>∃k kw,k+m'=P.procs.length/\e 1=.ptr 0 0 0/\e 3=.fs (A.map dE)/\e 4=kv/\e 5=.int .i64 i/\e 6=kw/\e 7=.int .i64 (lvN (LX P.procs) i k:Nat)/\e 13=.fs (P.procs.map aF)/\e 14=.int .i64 P.procs.length/\e 15=.int .i64 i/\
   e 20=.fs (P.procs.map aF)/\e 21=.int .i64 P.procs.length/\e 22=.int .i64 k/\
   H[0]? =some c0/\a7 kw 0/\(∀id o n,kv=.ms id o n->a7 kw id)/\OV H kv ((rnNi P.procs i).map encR)/\OV H kw (((rrL (LX P.procs) i k).map (nmAt P.procs)).map .str)) P.procs.length
   ⟨0,.ag,by simp,by simp[az,h1],by simp[az,h3],by simp[az,h4],by simp[az],by simp[az],by simp[az,lvN,rrL],by simp[az,eV],by simp[az,dG],by simp[az,gy],by simp[az],by simp[az],by simp[az],mq,(fun a b h=>by cases h),(fun id o n _ a b h=>by cases h),bm,.inl ⟨by simp[rrL],rfl⟩⟩ ?_
  clear h1 h3 h4 eV dG gy mq bm ct;rintro m' e H ⟨k,kw,DW,h1,h3,h4,h5,h6,h7,eV,dG,gy,iG,oZ,h22,mq,QA,hdis,bm,hovw⟩;have j8:=hovw.one;have cY:=hovw.cS;simp only[V.one]at cY;have uk:=rr_len (LX P.procs) i k;cases m' with
  | succ m'=>
   have hk:k<P.procs.length:=by omega
   have Ku:decide ((k:Int)<(P.procs.length:Int))=true:=by simp;omega
   have qx:=bG (k:=k) (by omega);have zR:=ES k hk;have DX:(P.procs.map aF).getD k .any=aF P.procs[k]:=by simp[List.getD,hk]
   have Jx:P.procs[k].name=nmAt P.procs k:=by simp[nmAt,hk]
   simp only[aF,Jx]at DX;have hrs:=rrL_succ (LX P.procs) i k;have fv:=lvN_succ (LX P.procs) i k;by_cases sY:LX P.procs i k=true
   ·by_cases Ci:LX P.procs k i=true
    ·rw[if_pos (by simp[Cc,sY,Ci])]at hrs fv;simp -implicitDefEqProofs only[h1,h3,h4,h5,h6,h7,eV,dG,gy,iG,oZ,h22,Ku,qx,zR,tQ,DX,hk,hi,xY,bL,b6,L5,sY,Ci,j8,cY,go_sem];have h0l:=(List.getElem?_eq_some_iff.1 mq).1;refine cu (hovw.app _) (fun i o l h=>by cases h) (cA _ _ (fun x=>by simp[aw]) _) (by simp only[List.length_map,List.length_cons,List.length_nil];omega) ?_;rintro kw' H' bo hle cp;have jl:∀id o n,kv=.ms id o n->id<H.length:=fun id o n he=>by
      rcases bm with⟨_,h⟩ | ⟨_,ph,h,h'⟩
      ·rw[he]at h;cases h
      ·rw[he]at h;injection h with h;subst h;exact(List.getElem?_eq_some_iff.1 h').1
     have W6:∀id,id<H.length->∀b:ak,(H++ [b])[id]? =H[id]? :=fun id h b=>List.getElem?_append_left h
     obtain⟨pO,lV⟩:=cp 0 (by simp only[List.length_append];omega) QA;rw[W6 0 h0l,mq]at pO;have hmin:(if(k:Int)<((lvN (LX P.procs) i k:Nat):Int)then(k:Int)else((lvN (LX P.procs) i k:Nat):Int))=((min (lvN (LX P.procs) i k) k:Nat):Int):=by split<;>omega
     simp -implicitDefEqProofs only[h1,h3,h4,h5,h6,h7,eV,dG,gy,iG,oZ,h22,qx,go_sem];refine⟨m',Nat.lt_succ_self _,k+1,kw',by omega,rfl,?_,rfl,pO,lV,fun id o n he=>(cp id (by have:=jl id o n he;simp only[List.length_append];omega) (hdis id o n he)).2,bm.frame (fun id o n he hid=>by rw[(cp id (by simp only[List.length_append];omega) (hdis id o n he)).1,W6 id hid]),?_⟩
     ·rw[fv,hmin]
     ·rw[hrs,List.map_append,List.map_append];exact bo
    ·have hki':LX P.procs k i=false:=by simpa using Ci
     rw[if_neg (by simp[Cc,hki'])]at hrs fv;rw[List.append_nil]at hrs;simp -implicitDefEqProofs only[h1,h3,h4,h5,h6,h7,eV,dG,gy,iG,oZ,h22,Ku,qx,zR,tQ,DX,hk,hi,xY,bL,b6,L5,sY,hki',j8,cY,go_sem];exact⟨m',Nat.lt_succ_self _,k+1,kw,by omega,rfl,by rw[fv],rfl,by rw[List.getElem?_append_left (List.getElem?_eq_some_iff.1 mq).1];exact mq,QA,hdis,bm.app _,by rw[hrs];exact hovw.app _⟩
   ·have hik':LX P.procs i k=false:=by simpa using sY
    rw[if_neg (by simp[Cc,hik'])]at hrs fv;rw[List.append_nil]at hrs;simp -implicitDefEqProofs only[h1,h3,h4,h5,h6,h7,eV,dG,gy,iG,oZ,h22,Ku,qx,zR,tQ,DX,hk,hi,xY,bL,b6,L5,hik',j8,cY,go_sem];exact⟨m',Nat.lt_succ_self _,k+1,kw,by omega,rfl,by rw[fv],rfl,by rw[List.getElem?_append_left (List.getElem?_eq_some_iff.1 mq).1];exact mq,QA,hdis,bm.app _,by rw[hrs];exact hovw.app _⟩
  | zero=>
   have hk:k=P.procs.length:=by omega
   subst hk;simp -implicitDefEqProofs only[h1,h3,h4,h5,h6,h7,eV,dG,gy,iG,oZ,h22,Int.lt_irrefl,decide_false,j8,cY,cP,ba,go_sem];obtain⟨D,IA,Eg⟩:=hovw.KW;refine⟨D,_,IA,?_⟩;have hH0':=(Eg 0 QA).trans mq;have hovk:OV (bO D H) kv ((rnNi P.procs i).map encR):=bm.frame (fun id o n he _=>Eg id (hdis id o n he));generalize bO D H=H1 at*;have hrs:=rnNi_succ P.procs i;have hiff:=lst_rr hLt hi;by_cases hl:Iz (LX P.procs) i=true
   ·rw[if_pos hl]at hrs;obtain⟨q1,q2⟩:=hiff.2 hl;have jB:(0:Int)<(((rrL (LX P.procs) i P.procs.length).length:Nat):Int):=by omega
    rw[rr_lst hl]at jB⊢;rw[q2];simp -implicitDefEqProofs only[h1,h3,h4,h5,h6,h7,eV,dG,gy,jB,decide_true,List.length_map,go_sem];intro _;refine cu hovk (fun i o l h=>by cases h) (headOk_R _) (by have:=Ia i;simp only[List.length_map,List.length_cons,List.length_nil];omega) ?_;rintro bN H' bo hle cp;obtain⟨pO,lV⟩:=cp 0 (List.getElem?_eq_some_iff.1 hH0').1 dW;rw[hH0']at pO;simp -implicitDefEqProofs only[h1,h3,h4,eV,dG,gy,hwi,go_sem];exact⟨m,Nat.lt_succ_self _,i+1,bN,by omega,rfl,rfl,pO,lV,by rw[hrs,List.map_append];exact bo⟩
   ·rw[if_neg hl,List.append_nil]at hrs;by_cases q1:0<(rrL (LX P.procs) i P.procs.length).length
    ·have q2:¬lvN (LX P.procs) i P.procs.length=i:=fun h=>hl (hiff.1 ⟨q1,h⟩)
     have jB:(0:Int)<(((rrL (LX P.procs) i P.procs.length).length:Nat):Int):=by omega
     have jI:¬((lvN (LX P.procs) i P.procs.length:Nat):Int)=(i:Int):=by omega
     simp -implicitDefEqProofs only[h1,h3,h4,h5,h6,h7,eV,dG,gy,jB,jI,decide_true,decide_false,List.length_map,hwi,go_sem];intro _;exact⟨m,Nat.lt_succ_self _,i+1,kv,by omega,rfl,rfl,hH0',dW,by rw[hrs];exact hovk⟩
    ·have jB:¬(0:Int)<(((rrL (LX P.procs) i P.procs.length).length:Nat):Int):=by omega
     simp -implicitDefEqProofs only[h1,h3,h4,h5,h6,h7,eV,dG,gy,jB,decide_false,List.length_map,hwi,go_sem];intro _;exact⟨m,Nat.lt_succ_self _,i+1,kv,by omega,rfl,rfl,hH0',dW,by rw[hrs];exact hovk⟩
noncomputable def dpT (X:List Pr):mV->Bool
 | (.mk k r t v l e a b p ps,pr,la)=>decide (0<=pr) && decide (k=5) && !la && LX X (procI X p).toNat pr.toNat
noncomputable def dpF (X:List Pr):List mV->Nat->List Int
 | [],_=> []
 | y::l,i=>(if dpT X y=true then[(i:Int)]else[])++dpF X l (i+1)
theorem dpF_append (X:List Pr):∀(a b:List mV) (i:Nat),dpF X (a++b) i=dpF X a i++dpF X b (i+a.length)
 | [],b,i=>by simp[dpF]
 | q::a,b,i=>by rw[List.cons_append,dpF,dpF,dpF_append X a b (i+1),List.append_assoc];simp[Nat.add_comm,Nat.add_left_comm]
theorem dpF_len (X:List Pr):∀(a:List mV) (i:Nat),(dpF X a i).length<=a.length
 | [],i=>by simp[dpF]
 | q::a,i=>by
  have:=dpF_len X a (i+1);rw[dpF,List.length_append,List.length_cons];split<;>simp<;>omega
theorem t226 (P:bH) (hc:total P<=1000000) (ew:P.procs.length<=1000000) (cR:lK P=0):af Tryz.prog 33 [aP P] (·=.fs ((dpF P.procs (cw P) 0).map (.int .i64))):=by
 have K3:=t250 P hc cR;have hA:=Px cR;generalize LY P=A at*;have xY:(A.map dE).length=P.procs.length:=by rw[List.length_map,hA.len]
 have L5:=fun i k=>hA.eq i k
 have ES:∀i:Nat,i<P.procs.length->(A.map dE).getD i .any=.db ((A.getD i []).map (.int .i64)) (bF (A.getD i [])):=fun i hi=>by
  have:A[i]? =some (A[i]'(by rw[hA.len];exact hi)):=List.getElem?_eq_getElem _;rw[List.getD_eq_getElem?_getD,List.getElem?_map,List.getD_eq_getElem?_getD,this];rfl
 have jP:=t25 P hc;have Iq:=wU P;have gO:=fun p=>t30 P p
 simp only[aP]at K3 jP gO⊢;refine af.intro c226 600 (by simp) 20 ?_;simp -implicitDefEqProofs only[s226,go_sem];repeat' (first | ((first | ((with_reducible first | refine bj K3 ?_ ?_ | refine bj jP ?_ ?_);(·simp[ae,al,cm,aq,ah])) | ((with_reducible apply cj);(·simp -implicitDefEqProofs only[List.map_cons,List.map_nil,aq,ah,push_cast,go_sem_proc]<;>rfl);(with_reducible first | exact K3 | exact jP);(·rfl)) | (with_reducible refine aD ?_));simp -implicitDefEqProofs only[Int.reduceEq,go_sem]) | (with_reducible refine aA.mk ?_ ?_) | (with_reducible refine And.intro ?_ ?_) | ((with_reducible refine bz ?_);simp -implicitDefEqProofs only[r226,push_cast,go_sem_proc]) | intro _)
 rename_i Cy;generalize zJ:ak.row [V.agg [.fs (P.procs.map aF),.fs (P.main.map encS)]]=c0;refine aL (fun m e H=>∃pre post kv,cw P=pre++post/\m=post.length/\e 1=.ptr 0 0 0/\e 3=.fs (A.map dE)/\e 4=kv/\e 11=.fs ((cw P).map encSp)/\e 12=.int .i64 (cw P).length/\e 13=.int .i64 pre.length/\
  H[0]? =some c0/\a7 kv 0/\OV H kv ((dpF P.procs pre 0).map (.int .i64))) (cw P).length
  ⟨[],cw P,.ag,rfl,rfl,by simp[az,aC],by simp[az,aC],by simp[az,aC],by simp[az,aC],by simp[az,aC],by simp[az,aC],by simp[zJ],(fun a b h=>by cases h),.inl ⟨by simp[dpF],rfl⟩⟩ ?_
 rintro m e H ⟨pre,post,kv,ao,rfl,h1,h3,h4,ez,dU,eV,mq,dW,bm⟩;have cP:=bm.one;have ba:=bm.cS;simp only[V.one]at ba;cases post with
 | nil=>
  have ev:pre=cw P:=by rw[ao];simp
  subst ev;simp -implicitDefEqProofs only[h1,h3,h4,ez,dU,eV,aI ao,cP,ba,go_sem];have hz:=dw (f:=V.int .i64) (n:=18) (fun H x=>jZ _ _ _ x) bm;simp -implicitDefEqProofs only[r226,hz,push_cast,go_sem_proc]
 | cons y post=>
  have hg:=aO encSp ao;have Ax:y∈cw P:=by rw[ao];simp
  have SV:=Xm cR y Ax;have cH:=SV.call;have hdp:dpF P.procs (pre++ [y]) 0=dpF P.procs pre 0++if dpT P.procs y=true then[(pre.length:Int)]else[]:=by rw[dpF_append];simp[dpF]
  have hpl2:pre.length<=(cw P).length:=by rw[ao];simp
  have Qq:=dpF_len P.procs pre 0;have hgl0:=(List.getElem?_eq_some_iff.1 mq).1;have hH0b:∀L,(H++L)[0]? =some c0:=fun L=>by rw[List.getElem?_append_left hgl0];exact mq
  obtain⟨⟨k,r,t,v,lb,⟨ek,en,es,aR⟩,a,b,p,ps⟩,pr,la⟩:=y;rw[iw]at hg;have gO:=gO p;have hdone:∀L,dpT P.procs (.mk k r t v lb (.mk ek en es aR) a b p ps,pr,la)=false->OV (H++L) kv ((dpF P.procs (pre++ [(.mk k r t v lb (.mk ek en es aR) a b p ps,pr,la)]) 0).map (.int .i64)):=fun L h=>by
   rw[hdp,h];simpa using bm.app L
  subst zJ;by_cases Cu:0<=pr
  ·by_cases h5:k=5
   ·cases la with
    | true=>
     simp -implicitDefEqProofs only[h1,h3,h4,ez,dU,eV,an ao,aa ao Cy,hg,Cu,h5,decide_true,go_sem];exact⟨post.length,Nat.lt_succ_self _,pre++ [_],post,kv,by simp[ao],rfl,rfl,by simp,hH0b _,dW,hdone _ (by simp[dpT])⟩
    | false=>
     subst h5;have u7:=(cH rfl).1;obtain⟨ci,HJ⟩:∃ci:Nat,procI P.procs p=ci:=⟨(procI P.procs p).toNat,by omega⟩;obtain⟨pi,rfl⟩:∃pi:Nat,pr=pi:=⟨pr.toNat,by omega⟩;have dF:ci<P.procs.length:=by have:=fO u7;omega
     have tQ:=ES ci dF;have hT:dpT P.procs (.mk 5 r t v lb (.mk ek en es aR) a b p ps,(pi:Int),false)=LX P.procs ci pi:=by simp[dpT,HJ]
     rw[HJ]at gO;rw[hT]at hdp hdone;simp -implicitDefEqProofs only[h1,h3,h4,ez,dU,eV,an ao,aa ao Cy,hg,Cu,decide_true,hH0b,go_sem];by_cases hlx:LX P.procs ci pi=true
     ·rw[if_pos hlx]at hdp;repeat' (first | ((first | ((with_reducible refine bj gO ?_ ?_);(·simp[ae,al,cm,aq,ah,aE])) | ((with_reducible apply cj);(·simp -implicitDefEqProofs only[List.map_cons,List.map_nil,aq,ah,aE,push_cast,go_sem_proc]<;>rfl);(with_reducible exact gO);(·rfl)) | (with_reducible refine aD ?_));simp -implicitDefEqProofs only[h1,h3,h4,ez,dU,eV,aa ao Cy,tQ,dF,xY,bL,b6,L5,hlx,decide_true,cP,ba,go_sem]) | (with_reducible refine aA.mk ?_ ?_) | (with_reducible refine And.intro ?_ ?_) | ((with_reducible refine bz ?_);simp -implicitDefEqProofs only[r226,push_cast,go_sem_proc]) | intro _)
      refine cu (bm.app _) (fun i o l h=>by cases h) (cA _ _ (fun x=>by simp[aw]) _) (by simp only[List.length_map,List.length_cons,List.length_nil];omega) ?_;rintro bN H' bo hle cp;obtain⟨pO,lV⟩:=cp 0 (by simp only[List.length_append];omega) dW;rw[hH0b]at pO;simp -implicitDefEqProofs only[h1,h3,h4,ez,dU,eV,aa ao Cy,go_sem];exact⟨post.length,Nat.lt_succ_self _,pre++ [(.mk 5 r t v lb (.mk ek en es aR) a b p ps,(pi:Int),false)],post,bN,by simp[ao],rfl,rfl,by simp,pO,lV,by rw[hdp,List.map_append];exact bo⟩
     ·have hlx':LX P.procs ci pi=false:=by simpa using hlx
      repeat' (first | ((first | ((with_reducible refine bj gO ?_ ?_);(·simp[ae,al,cm,aq,ah,aE])) | ((with_reducible apply cj);(·simp -implicitDefEqProofs only[List.map_cons,List.map_nil,aq,ah,aE,push_cast,go_sem_proc]<;>rfl);(with_reducible exact gO);(·rfl)) | (with_reducible refine aD ?_));simp -implicitDefEqProofs only[h1,h3,h4,ez,dU,eV,aa ao Cy,tQ,dF,xY,bL,b6,L5,hlx',decide_true,cP,ba,go_sem]) | (with_reducible refine aA.mk ?_ ?_) | (with_reducible refine And.intro ?_ ?_) | ((with_reducible refine bz ?_);simp -implicitDefEqProofs only[r226,push_cast,go_sem_proc]) | intro _)
      exact⟨post.length,Nat.lt_succ_self _,pre++ [_],post,kv,by simp[ao],rfl,rfl,by simp,hH0b _,dW,hdone _ hlx'⟩
   ·simp -implicitDefEqProofs only[h1,h3,h4,ez,dU,eV,an ao,aa ao Cy,hg,Cu,h5,decide_true,decide_false,go_sem];exact⟨post.length,Nat.lt_succ_self _,pre++ [_],post,kv,by simp[ao],rfl,rfl,by simp,hH0b _,dW,hdone _ (by simp[dpT,h5])⟩
  ·simp -implicitDefEqProofs only[h1,h3,h4,ez,dU,eV,an ao,aa ao Cy,hg,Cu,decide_false,go_sem];exact⟨post.length,Nat.lt_succ_self _,pre++ [_],post,kv,by simp[ao],rfl,rfl,by simp,hH0b _,dW,hdone _ (by simp[dpT,Cu])⟩
end Go.Proofs.YtdgoeblpcnjlbaaGreatDoor.Av
namespace Go.Proofs.YtdgoeblpcnjlbaaGreatDoor.Av
open Go.RowKit Go.Sort List
mutual
def dqS (X:List Pr) (F:List Int) (i:Nat):St->Bool->Int->List Int
 | .mk k _ _ _ _ _ a b p _,is,n=>(if(decide (0<=kI X k p) && (decide (0<=F.getD i 0) && (decide (F.getD (kI X k p).toNat 0=F.getD i 0) && !is)))=true then[n]else[])++(dqL X F i a is (n+1)++dqL X F i b is (n+1+ai a))
def dqL (X:List Pr) (F:List Int) (i:Nat):List St->Bool->Int->List Int
 | [],_,_=> []
 | s::l,la,n=>dqS X F i s (la && l.isEmpty) n++dqL X F i l la (n+dA s)
end
mutual
theorem dqS_len (X:List Pr) (F:List Int) (i:Nat):∀(s:St) (is:Bool) (n:Int),(dqS X F i s is n).length<=dA s
 | .mk k r t v l e a b p ps,is,n=>by
  have h1:=dqL_len X F i a is (n+1);have h2:=dqL_len X F i b is (n+1+ai a);simp only[dqS,List.length_append,dA];split<;>simp<;>omega
theorem dqL_len (X:List Pr) (F:List Int) (i:Nat):∀(l:List St) (la:Bool) (n:Int),(dqL X F i l la n).length<=ai l
 | [],la,n=>by simp[dqL]
 | s::l,la,n=>by
  have h1:=dqS_len X F i s (la && l.isEmpty) n;have h2:=dqL_len X F i l la (n+dA s);simp only[dqL,List.length_append,ai];omega
end
structure DP (o:Nat) (H:List ak) (kv:V) (H':List ak) (bN:V) (acc:List V):Prop where
 len:H.length<=H'.length
 cell:H'[o]? =some (.row [bN])
 ov:OV H' bN acc
 no:a7 bN o
 fr:∀j,j<H.length->j≠o->a7 kv j->H'[j]? =H[j]? /\a7 bN j
theorem DP.refl {o:Nat} {H:List ak} {kv:V} {acc:List V} (h1:H[o]? =some (.row [kv])) (h2:OV H kv acc) (h3:a7 kv o):DP o H kv H kv acc:=
 ⟨Nat.le_refl _,h1,h2,h3,fun j _ _ h=>⟨rfl,h⟩⟩
theorem DP.trans {o:Nat} {H H1 H2:List ak} {kv kv1 fH:V} {a b:List V} (h:DP o H kv H1 kv1 a) (g:DP o H1 kv1 H2 fH b):DP o H kv H2 fH b:=
 ⟨Nat.le_trans h.len g.len,g.cell,g.ov,g.no,fun j hj ho hk=>by
  obtain⟨h1,h2⟩:=h.fr j hj ho hk;obtain⟨h3,h4⟩:=g.fr j (Nat.lt_of_lt_of_le hj h.len) ho h2;exact⟨h3.trans h1,h4⟩⟩
theorem DP.app {o:Nat} {H H1:List ak} {kv kv1:V} {a:List V} (h:DP o H kv H1 kv1 a) (J:List ak):DP o H kv (H1++J) kv1 a:=by
 have hg:∀j,j<H1.length->(H1++J)[j]? =H1[j]? :=fun j hj=>List.getElem?_append_left hj
 have hl:=h.len;refine⟨by simp;omega,by rw[hg o (List.getElem?_eq_some_iff.1 h.cell).1];exact h.cell,h.ov.app J,h.no,fun j hj ho hk=> ?_⟩;rw[hg j (by omega)];exact h.fr j hj ho hk
structure DI (F:List Int) (i a b:Nat) (H:List ak) (kv:V):Prop where
 ha:H[a]? =some (.row [.fs (F.map (.int .i64))])
 hb:H[b]? =some (.row [.int .i64 i])
 na:a7 kv a
 nb:a7 kv b
theorem DI.step {F:List Int} {i a b o:Nat} {H H1:List ak} {kv kv1:V} {acc:List V} (h:DI F i a b H kv) (hd:DP o H kv H1 kv1 acc) (hao:a≠o) (Ig:b≠o):DI F i a b H1 kv1:=by
 obtain⟨h1,h2⟩:=hd.fr a (List.getElem?_eq_some_iff.1 h.ha).1 hao h.na;obtain⟨h3,h4⟩:=hd.fr b (List.getElem?_eq_some_iff.1 h.hb).1 Ig h.nb;exact⟨h1.trans h.ha,h3.trans h.hb,h2,h4⟩
theorem DI.app {F:List Int} {i a b:Nat} {H:List ak} {kv:V} (h:DI F i a b H kv) (J:List ak):DI F i a b (H++J) kv:=
 ⟨by rw[List.getElem?_append_left (List.getElem?_eq_some_iff.1 h.ha).1];exact h.ha,by rw[List.getElem?_append_left (List.getElem?_eq_some_iff.1 h.hb).1];exact h.hb,h.na,h.nb⟩
theorem t267 (X:List Pr) (F:List Int) (i a b o:Nat) (hao:a≠o) (Ig:b≠o) (hi:i<F.length) (k:Int) (r t v l:ByteArray) (ek en:Int) (es:ByteArray) (aR:List Ex) (sa sb:List St) (p:ByteArray) (ps:List ByteArray) (n:Int) (is:Bool)
 (hk:0<=kI X k p) (ED:(kI X k p).toNat<F.length) (H:List ak) (kv:V) (acc:List Int) (hd:DP o H kv H kv (acc.map (.int .i64))) (hI:DI F i a b H kv) (yV:acc.length<=1000000):
 av Tryz.prog 98 [cb X (.mk k r t v l (.mk ek en es aR) sa sb p ps,n),.bool is,.ptr a 0 0,.ptr b 0 0,.ptr o 0 0] H
  (fun r H'=>r=.dJ []/\∃bN,DP o H kv H' bN ((acc++if(decide (0<=F.getD i 0) && (decide (F.getD (kI X k p).toNat 0=F.getD i 0) && !is))=true then[n]else[]).map (.int .i64))):=by
 obtain⟨q,hq⟩:∃q:Nat,kI X k p=q:=⟨(kI X k p).toNat,by omega⟩;rw[ic,hq];rw[hq]at ED;have jI:((q:Int)).toNat=q:=by omega
 rw[jI]at ED⊢;have hA:∀L,(H++L)[a]? =some (.row [.fs (F.map (.int .i64))]):=fun L=>by rw[List.getElem?_append_left (List.getElem?_eq_some_iff.1 hI.ha).1];exact hI.ha
 have hB:∀L,(H++L)[b]? =some (.row [.int .i64 i]):=fun L=>by rw[List.getElem?_append_left (List.getElem?_eq_some_iff.1 hI.hb).1];exact hI.hb
 have IL:=(List.getElem?_eq_some_iff.1 hd.cell).1;have hO:∀L,(H++L)[o]? =some (.row [kv]):=fun L=>by rw[List.getElem?_append_left IL];exact hd.cell
 have tQ:(F.map (V.int .i64)).getD i .any=.int .i64 (F.getD i 0):=by simp[List.getD,hi]
 have vS:(F.map (V.int .i64)).getD q .any=.int .i64 (F.getD q 0):=by simp[List.getD,ED]
 have cP:=hd.ov.one;have ba:=hd.ov.cS;simp only[V.one]at ba;have fi:∀L,DP o H kv (H++L) kv ((acc++ []).map (.int .i64)):=fun L=>by rw[List.append_nil];exact hd.app L
 refine av.intro c267 200 (by simp) ?_;simp -implicitDefEqProofs only[s267,ne_eq,not_false_eq_true,fv,fK,Nat.reduceMul,go_sem];by_cases h0:0<=F.getD i 0
 ·by_cases hs:F.getD q 0=F.getD i 0
  ·cases is with
   | true=>
    repeat' (first | ((with_reducible refine aD ?_);simp -implicitDefEqProofs only[hA,hB,hO,tQ,vS,hi,ED,h0,hs,decide_true,ne_eq,not_false_eq_true,fv,fK,Nat.reduceMul,go_sem]) | (with_reducible refine aA.mk ?_ ?_) | (with_reducible refine And.intro ?_ ?_) | ((with_reducible refine bz ?_);simp -implicitDefEqProofs only[r267,ne_eq,not_false_eq_true,fv,fK,Nat.reduceMul,push_cast,go_sem_proc]) | intro _)
    exact⟨kv,hd.app _⟩
   | false=>
    repeat' (first | ((with_reducible refine aD ?_);simp -implicitDefEqProofs only[hA,hB,hO,tQ,vS,hi,ED,h0,hs,decide_true,cP,ba,ne_eq,not_false_eq_true,fv,fK,Nat.reduceMul,go_sem]) | (with_reducible refine aA.mk ?_ ?_) | (with_reducible refine And.intro ?_ ?_) | ((with_reducible refine bz ?_);simp -implicitDefEqProofs only[r267,ne_eq,not_false_eq_true,fv,fK,Nat.reduceMul,push_cast,go_sem_proc]) | intro _)
    refine cu (hd.ov.app _) (fun i o l h=>by cases h) (pQ _) (by simp only[List.length_map,List.length_cons,List.length_nil];omega) ?_;rintro bN H' bo hle cp;obtain⟨pO,lV⟩:=cp o (by simp only[List.length_append];omega) hd.no;rw[hO]at pO;have hkf:kv=.ag\/∃id n,kv=.ms id 0 n:=by
     rcases hd.ov with⟨_,h⟩ | ⟨_,id,h,_⟩
     ·exact .inl h
     ·exact .inr ⟨_,_,h⟩
    have hol':=(List.getElem?_eq_some_iff.1 pO).1;have gQ:=bo.one;have hone':=bo.cS;simp only[V.one]at hone';have hdp:DP o H kv (H'.set o (.row [bN])) bN ((acc++ [n]).map (.int .i64)):=by
     refine⟨by simp only[List.length_set];simp only[List.length_append]at hle;omega,by rw[List.getElem?_set_self hol'],?_,lV,fun j hj sy hk=> ?_⟩
     ·rw[List.map_append];exact bo.set lV
     ·rw[List.getElem?_set_ne (Ne.symm sy)];obtain⟨h1,h2⟩:=cp j (by simp only[List.length_append];omega) hk;exact⟨h1.trans (List.getElem?_append_left hj),h2⟩
    rcases hkf with rfl | ⟨id,m,rfl⟩
    ·simp -implicitDefEqProofs only[pO,hol',gQ,hone',ne_eq,not_false_eq_true,fv,fK,Nat.reduceMul,go_sem];simp -implicitDefEqProofs only[r267,ne_eq,not_false_eq_true,fv,fK,Nat.reduceMul,push_cast,go_sem_proc];exact⟨bN,hdp⟩
    ·simp -implicitDefEqProofs only[pO,hol',gQ,hone',ne_eq,not_false_eq_true,fv,fK,Nat.reduceMul,go_sem];simp -implicitDefEqProofs only[r267,ne_eq,not_false_eq_true,fv,fK,Nat.reduceMul,push_cast,go_sem_proc];exact⟨bN,hdp⟩
  ·repeat' (first | ((with_reducible refine aD ?_);simp -implicitDefEqProofs only[hA,hB,hO,tQ,vS,hi,ED,h0,hs,decide_true,decide_false,ne_eq,not_false_eq_true,fv,fK,Nat.reduceMul,go_sem]) | (with_reducible refine aA.mk ?_ ?_) | (with_reducible refine And.intro ?_ ?_) | ((with_reducible refine bz ?_);simp -implicitDefEqProofs only[r267,ne_eq,not_false_eq_true,fv,fK,Nat.reduceMul,push_cast,go_sem_proc]) | intro _)
   exact⟨kv,by simpa using hd.app _⟩
 ·repeat' (first | ((with_reducible refine aD ?_);simp -implicitDefEqProofs only[hA,hB,hO,tQ,vS,hi,ED,h0,decide_true,decide_false,ne_eq,not_false_eq_true,fv,fK,Nat.reduceMul,go_sem]) | (with_reducible refine aA.mk ?_ ?_) | (with_reducible refine And.intro ?_ ?_) | ((with_reducible refine bz ?_);simp -implicitDefEqProofs only[r267,ne_eq,not_false_eq_true,fv,fK,Nat.reduceMul,push_cast,go_sem_proc]) | intro _)
  exact⟨kv,by simpa using hd.app _⟩
end Go.Proofs.YtdgoeblpcnjlbaaGreatDoor.Av
namespace Go.Proofs.YtdgoeblpcnjlbaaGreatDoor.Av
open Go.RowKit Go.Sort List
mutual
theorem sp1upr:∀(s:St) (pr:Int) (la:Bool),∀y∈nu s pr la,y.2.1=pr
 | .mk k r t v l e a b p ps,pr,la,y,h=>by
  simp only[nu,List.mem_cons,List.mem_append]at h;rcases h with rfl | h | h
  ·rfl
  ·exact spL_pr a pr la y h
  ·exact spL_pr b pr la y h
theorem spL_pr:∀(l:List St) (pr:Int) (la:Bool),∀y∈gC l pr la,y.2.1=pr
 | [],_,_,y,h=>by simp[gC]at h
 | s::l,pr,la,y,h=>by
  simp only[gC,List.mem_append]at h;rcases h with h | h
  ·exact sp1upr s pr _ y h
  ·exact spL_pr l pr la y h
end
theorem dpF_neg {X:List Pr}:∀{l:List mV} {i:Nat},(∀y∈l,y.2.1<0)->dpF X l i=[]
 | [],i,_=>rfl
 | (.mk k r t v lb e a b p ps,pr,la)::l,i,h=>by
   have h0:=h _ (List.mem_cons_self ..);have h1:pr<0:=h0;rw[dpF,dpF_neg (fun y hy=>h y (List.mem_cons_of_mem _ hy)),if_neg (by simp only[dpT,Bool.and_eq_true,decide_eq_true_eq];omega),List.append_nil]
theorem dpF_rise {X:List Pr}:∀(l:List mV) (i:Nat),(∀x∈dpF X l i,(i:Int)<=x)/\(dpF X l i).Pairwise (·<=·)
 | [],i=>by simp[dpF]
 | y::l,i=>by
  obtain⟨h1,h2⟩:=dpF_rise l (i+1);rw[dpF];refine⟨fun x hx=> ?_,?_⟩
  ·rcases List.mem_append.1 hx with hx | hx
   ·split at hx
    ·simp at hx;omega
    ·simp at hx
   ·have:=h1 x hx;omega
  ·rw[List.pairwise_append];refine⟨by split<;>simp,h2,fun x hx z hz=> ?_⟩;have:=h1 z hz;split at hx
   ·simp at hx;omega
   ·simp at hx
mutual
theorem dqS_dp {X:List Pr} {F:List Int} {j:Nat}:∀(s:St) (is:Bool) (i:Nat),DL X s=true->(∀c∈AX X s,((0<=F.getD j 0/\F.getD c.toNat 0=F.getD j 0)↔LX X c.toNat j=true))->dpF X (nu s j is) i=dqS X F j s is i
 | .mk k r t v l e a b p ps,is,i,dx,hc=>by
  simp only[DL,Bool.and_eq_true,Bool.or_eq_true,bne_iff_ne,ne_eq,decide_eq_true_eq]at dx;obtain⟨h5,Jk,hob⟩:=dx;have ha:=dqL_dp a is (i+1) Jk (fun c h=>hc c (by simp only[AX,List.mem_append];exact .inr (.inl h)));have hb:=dqL_dp b is (i+1+ai a) hob (fun c h=>hc c (by simp only[AX,List.mem_append];exact .inr (.inr h)));rw[nu,dpF,dpF_append,er,ha,hb,dqS];have e1:((i+1:Nat):Int)=(i:Int)+1:=by omega
  have e2:((i+1+ai a:Nat):Int)=(i:Int)+1+ai a:=by omega
  rw[e1,e2];congr 2
  by_cases hk:k=5
  ·have h0:0<=procI X p:=by rcases h5 with h5 | h5;exact absurd hk h5;exact h5
   have Dv:=hc (procI X p) (by simp[AX,kI,hk,h0]);subst hk;cases is with
   | true=>simp[dpT]
   | false=>
    have nZ:((j:Int)).toNat=j:=by omega
    simp only[dpT,kI,if_true,decide_true,Bool.not_false,Bool.true_and,Bool.and_true,h0,nZ,Bool.and_eq_true,decide_eq_true_eq];have Rt:(0:Int)<=(j:Int):=by omega
    simp only[Rt,true_and];exact propext Dv.symm
  ·simp[dpT,hk,kI]
theorem dqL_dp {X:List Pr} {F:List Int} {j:Nat}:∀(l:List St) (la:Bool) (i:Nat),uU X l=true->(∀c∈oV X l,((0<=F.getD j 0/\F.getD c.toNat 0=F.getD j 0)↔LX X c.toNat j=true))->dpF X (gC l j la) i=dqL X F j l la i
 | [],la,i,_,_=>by simp[gC,dpF,dqL]
 | s::l,la,i,dx,hc=>by
  simp only[uU,Bool.and_eq_true]at dx;have h1:=dqS_dp s (la && l.isEmpty) i dx.1 (fun c h=>hc c (by simp only[oV,List.mem_append];exact .inl h));have h2:=dqL_dp l la (i+dA s) dx.2 (fun c h=>hc c (by simp only[oV,List.mem_append];exact .inr h));rw[gC,dpF_append,jm,h1,h2,dqL];have e1:((i+dA s:Nat):Int)=(i:Int)+dA s:=by omega
  rw[e1]
end
theorem dq_body {P:bH} (dx:AN P) {F:List Int} (hF:RI (LX P.procs) P.procs.length P.procs.length F) {j:Nat} {q:Pr} (hq:P.procs[j]? =some q) (i:Nat):
 dpF P.procs (gC q.steps j true) i=dqL P.procs F j q.steps true i:=by
 have hj:=(List.getElem?_eq_some_iff.1 hq).1;have hL:=L4 P.procs;have hm:q∈P.procs:=List.mem_of_getElem? hq;refine dqL_dp _ _ _ (dx.2 q hm) (fun c hc=> ?_);have oO:=q8 _ c hc;obtain⟨d,rfl⟩:∃d:Nat,c=d:=⟨c.toNat,by omega⟩;have hd:((d:Int)).toNat=d:=by omega
 rw[hd];have Qq:d<P.procs.length:=by omega
 have hjd:LX P.procs j d=true:=oD.2 (.one (by rw[mE,Int.toNat_natCast,aK,hq];exact hc));have fi:=(hF.fin hL hj).2;constructor
 ·rintro⟨h0,h1⟩;have:=(hF.same hL hj Qq h0).1 h1;simp only[Cc,Bool.and_eq_true]at this;exact this.2
 ·intro h;have h0:=fi.2 (hL _ _ _ hjd h);exact⟨h0,(hF.same hL hj Qq h0).2 (by simp[Cc,hjd,h])⟩
theorem dp_spots (P:bH):dpF P.procs (cw P) 0=dpF P.procs (spP P.procs 0) (ai P.main):=by
 rw[cw,dpF_append,dpF_neg (fun y hy=>by rw[spL_pr _ _ _ y hy];omega),er,Nat.zero_add,List.nil_append]
theorem dp_snoc (X:List Pr) (pre:List Pr) (q:Pr) (m:Nat):dpF X (spP (pre++ [q]) 0) m=dpF X (spP pre 0) m++dpF X (gC q.steps (pre.length:Nat) true) (m+bD pre):=by
 rw[tK,dpF_append,og,Nat.zero_add,spP,spP,List.append_nil]
theorem int_esz {B:List Pl} {I:IM} {w:World} {p:Pl} {l:List Int} (hn:l≠ []) (h:o0 B I w p (.row (l.map (.int .i64)))):p.esz=1:=by
 obtain⟨carr,t,h1,h2,h3,h4⟩:=h;cases l with
 | nil=>exact absurd rfl hn
 | cons x l=>
  rw[List.map_cons,fe]at h4;simpa[aw]using h4.1.symm
theorem int_cells {B:List Pl} {I:IM} {w:World} {p:Pl} {l:List Int} (h:o0 B I w p (.row (l.map (.int .i64)))) (hz:p.esz=1):Holds (Value.int .i64) w p.dI p.base l.toArray:=by
 obtain⟨carr,t,h1,h2,h3,h4⟩:=h;rw[ch]at h4;intro j hj;have Nd:j<l.length:=by simpa using hj
 obtain⟨q1,q2⟩:=h4 j (.int .i64 l[j]) (by simp[Nd]);obtain⟨v,q3,q4⟩:=q2 0 (.int .i64 l[j]) rfl;simp only[aU]at q4;subst q4;rw[hz,Nat.mul_one,Nat.add_zero]at q3;refine⟨?_,?_⟩
 ·simp only[World.cell?,h1,q3];simp[Nd]
 ·simp only[World.frozen?,h1];simp
theorem int_rep {B:List Pl} {I:IM} {m:List Int} {z:Nat} (hz:z=1):∀(i:Nat) e,(m.map (V.int .i64))[i]? =some e->(aw e).length=z/\∀(j:Nat) c,(aw e)[j]? =some c->i*z+j<m.toArray.size/\aU B I c (Value.int .i64 m.toArray[i*z+j]!):=by
 subst hz;intro i e hi;rw[List.getElem?_map]at hi;cases hm:m[i]? with
 | none=>rw[hm]at hi;cases hi
 | some s=>
  rw[hm]at hi;cases hi;obtain⟨hi,hs⟩:=List.getElem?_eq_some_iff.1 hm;refine⟨rfl,fun j c hj=> ?_⟩;simp only[aw]at hj;have Rt:j=0:=by have:=(List.getElem?_eq_some_iff.1 hj).1;simp at this;exact this
  subst Rt;simp at hj;subst hj;refine⟨by simpa using hi,?_⟩;have:Value.int .i64 m.toArray[i*1+0]! =.int .i64 s:=by simp[hi,hs]
  rw[this];simp[aU]
theorem lset_same {α:Type} {H:List α} {i:Nat} {b:α} (h:H[i]? =some b):H.set i b=H:=by
 apply List.ext_getElem?
 intro j;rw[List.getElem?_set];split
 ·rename_i e;subst e;rw[if_pos (List.getElem?_eq_some_iff.1 h).1,h]
 ·rfl
theorem a268 {H:List ak} {id:Nat} {l:List Int} (hH:H[id]? =some (.row (l.map (.int .i64)))) (hl:l.length<=1000000000) (hn:l≠ []) (hr:l.Pairwise (·<=·)):
 av Tryz.prog 99 [.ms id 0 l.length] H (bX (.dJ []) H):=by
 have hsort:l.mergeSort (fun x y=>decide (x<=y))=l:=List.mergeSort_of_pairwise (hr.imp (fun h=>by simpa using h));have iI:H.set id (.row (l.map (.int .i64)))=H:=lset_same hH;rw[<-iI];rw[iI];refine⟨by kernel_rfl,fun f B I w args hs hr=> ?_⟩;simp only[aV,aU]at hr;obtain⟨v0,l0,eD,⟨p,a,cap,hp,rfl,ha,Ib,lA,VS⟩,rfl⟩:=hr;have gp:=List.length_pos_iff.2 hn;have NW:=ha (by omega);subst NW;have dx:=hs.ok id p _ hp hH;have hz:=int_esz hn dx;have hHo:=int_cells dx hz;obtain⟨UE,_,O4⟩:=hs.own id p _ hp hH rfl;have gU:args= #[.slice (some ⟨p.dI,p.base,none⟩) l.length cap]:=by
  cases args;simp at eD;simp[eD]
 subst gU;have hc:=AnyM.slices_Sort_int Tryz.LP p.dI p.base cap l w hHo O4 (by omega);refine hc.mono ?_;rintro e w' ⟨rfl,n,os,rfl⟩;rw[hsort];have hrr:=wm hs (Value.int .i64) (wz:=l.map (.int .i64)) hp hH rfl l.toArray (int_rep hz) n os;rw[iI]at hrr;refine⟨.dJ [],_,_,B,I,rfl,⟨rfl,rfl⟩,hrr,eA.refl _,dY.refl _,?_⟩;simp[aU,aV]
theorem a268n {H:List ak}:av Tryz.prog 99 [.ag] H (bX (.dJ []) H):=by
 refine⟨by kernel_rfl,fun f B I w args hs hr=> ?_⟩;simp only[aV,aU]at hr;obtain⟨v0,l0,eD,rfl,rfl⟩:=hr;have gU:args= #[.slice none 0 0]:=by
  cases args;simp at eD;simp[eD]
 subst gU;refine(AnyM.slices_Sort_int_none Tryz.LP none 0 w).mono ?_;rintro e w' ⟨rfl,rfl⟩;exact⟨.dJ [],_,H,B,I,rfl,⟨rfl,rfl⟩,hs,eA.refl _,dY.refl _,by simp[aU,aV]⟩
end Go.Proofs.YtdgoeblpcnjlbaaGreatDoor.Av
namespace Go.Proofs.YtdgoeblpcnjlbaaGreatDoor.Av
open Go.RowKit Go.Sort List
theorem t266s (X:List Pr) (F:List Int) (i a b o:Nat) (hao:a≠o) (Ig:b≠o) (hF:F.length=X.length) (hi:i<F.length) (xs:List St)
 (ih:∀k r t v l e sa sb p ps,St.mk k r t v l e sa sb p ps∈xs->∀(la:Bool) (n:Int) (H:List ak) (kv:V) (acc:List Int),DP o H kv H kv (acc.map (.int .i64))->DI F i a b H kv->
   (acc.length+ai sa<=1000000->av Tryz.prog 97 [.fs ((num sa n).map (cb X)),.bool la,.a6 98 [] [.ptr a 0 0,.ptr b 0 0,.ptr o 0 0]] H (fun r H'=>r=.dJ []/\∃bN,DP o H kv H' bN ((acc++dqL X F i sa la n).map (.int .i64))))/\
   (acc.length+ai sb<=1000000->av Tryz.prog 97 [.fs ((num sb n).map (cb X)),.bool la,.a6 98 [] [.ptr a 0 0,.ptr b 0 0,.ptr o 0 0]] H (fun r H'=>r=.dJ []/\∃bN,DP o H kv H' bN ((acc++dqL X F i sb la n).map (.int .i64)))))
 (la:Bool) (n:Int) (H:List ak) (kv:V) (acc:List Int) (hd:DP o H kv H kv (acc.map (.int .i64))) (hI:DI F i a b H kv) (yV:acc.length+ai xs<=1000000):
 av Tryz.prog 97 [.fs ((num xs n).map (cb X)),.bool la,.a6 98 [] [.ptr a 0 0,.ptr b 0 0,.ptr o 0 0]] H (fun r H'=>r=.dJ []/\∃bN,DP o H kv H' bN ((acc++dqL X F i xs la n).map (.int .i64))):=by
 refine av.intro c266 600 (by simp) ?_;simp -implicitDefEqProofs only[s266,ne_eq,not_false_eq_true,fv,fK,Nat.reduceMul,go_sem];intro hlen;refine aL (fun m e H1=>∃pre post n' acc1 kv1,num xs n=pre++num post n'/\m=post.length/\(∀s∈post,s∈xs)/\acc++dqL X F i xs la n=acc1++dqL X F i post la n'/\acc1.length+ai post<=1000000/\
  e 0=.fs ((num xs n).map (cb X))/\e 1=.bool la/\e 2=.a6 98 [] [.ptr a 0 0,.ptr b 0 0,.ptr o 0 0]/\e 9=.fs ((num xs n).map (cb X))/\e 10=.int .i64 (num xs n).length/\e 11=.int .i64 pre.length/\
  DP o H kv H1 kv1 (acc1.map (.int .i64))) xs.length
  ⟨[],xs,n,acc,kv,rfl,rfl,fun _ h=>h,rfl,yV,by simp[az,aC],by simp[az,aC],by simp[az,aC],by simp[az,aC],by simp[az,aC],by simp[az,aC],hd⟩ ?_
 rintro m' e H1 ⟨pre,post,n',acc1,kv1,ao,rfl,da,r9,hsz1,h0,h1,h2,h9,eb,ez,vi⟩;cases post with
 | nil=>
  simp only[num]at ao;simp -implicitDefEqProofs only[h0,h1,h2,h9,eb,ez,aI ao,ne_eq,not_false_eq_true,fv,fK,Nat.reduceMul,go_sem];simp -implicitDefEqProofs only[r266,ne_eq,not_false_eq_true,fv,fK,Nat.reduceMul,push_cast,go_sem_proc];refine⟨kv1,?_⟩;rw[r9,dqL,List.append_nil];exact vi
 | cons s rest=>
  simp only[num]at ao;have hg:=aO (cb X) ao;have Iq:=da s (by simp);rcases s with⟨k,r,t,v,lb,⟨ek,en,es,aR⟩,sa,sb,p,ps⟩
  have QM:=ih k r t v lb (.mk ek en es aR) sa sb p ps Iq;have BG:decide ((pre.length:Int)=((num xs n).length:Int) - 1)=rest.isEmpty:=by
   rw[eO ao];cases rest<;>rfl
  have hend:=fR ao hlen;have j1:=t267 X F i a b o hao Ig hi k r t v lb ek en es aR sa sb p ps n';have hgN:=ic X k r t v lb ek en es aR sa sb p ps n';rw[hgN]at hg j1;simp only[ai,dA]at hsz1;simp only[dqL,dqS]at r9;have ED:0<=kI X k p->(kI X k p).toNat<F.length:=fun h0=>by
   by_cases h5:k=5
   ·simp only[kI,h5,if_true]at h0⊢;have:=fO h0;omega
   ·simp[kI,h5]at h0
  have hI1:=hI.step vi hao Ig;have Qq:=dqL_len X F i sa (la && rest.isEmpty) (n'+1);have hdl2:=dqL_len X F i sb (la && rest.isEmpty) (n'+1+ai sa);generalize Ag:ak.row [V.agg [.int .i64 n',.int .i64 k,.str r,.str t,.str v,.str lb,.int .i64 ek,.int .i64 en,.str es,.fs (aR.map bu),.fs (sa.map encS),.fs (sb.map encS),.str p,.fs (ps.map .str),.int .i64 (kI X k p),.fs ((num sa (n'+1)).map (cb X)),.fs ((num sb (n'+1+ai sa)).map (cb X))]]=bb at*;have l3:DP o H kv (H1++ [bb]) kv1 (acc1.map (.int .i64)):=vi.app _;have EG:=hI1.app [bb];have hkb:a7 kv1 H1.length:=fun x y hh=>by
   rcases vi.ov with⟨_,h⟩ | ⟨_,id,h,h'⟩
   ·rw[hh]at h;cases h
   ·rw[hh]at h;injection h with h;subst h;exact absurd (List.getElem?_eq_some_iff.1 h').1 (by omega)
  have hob:H1.length≠o:=by have:=(List.getElem?_eq_some_iff.1 vi.cell).1;omega
  have Qr:(H1++ [bb])[H1.length]? =some bb:=by simp
  have l6:H1.length<(H1++ [bb]).length:=by simp
  have Q7:DP o (H1++ [bb]) kv1 (H1++ [bb]) kv1 (acc1.map (.int .i64)):=DP.refl l3.cell l3.ov l3.no;have BB:∀(H2:List ak) (fH:V) (acc2:List Int) (e':Env),DP o (H1++ [bb]) kv1 H2 fH (acc2.map (.int .i64))->acc2.length<=acc1.length+1->
   acc++dqL X F i xs la n=acc2++((dqL X F i sa (la && rest.isEmpty) (n'+1)++dqL X F i sb (la && rest.isEmpty) (n'+1+ai sa))++dqL X F i rest la (n'+((dA (St.mk k r t v lb (.mk ek en es aR) sa sb p ps):Nat):Int)))->
   H2[H1.length]? =some bb/\∃Q1:V->List ak->Prop,av Tryz.prog 97 [.fs ((num sa (n'+1)).map (cb X)),.bool (la && rest.isEmpty),.a6 98 [] [.ptr a 0 0,.ptr b 0 0,.ptr o 0 0]] H2 Q1/\
   ∀r3 H3,Q1 r3 H3->r3=.dJ []/\H3[H1.length]? =some bb/\∃Q2:V->List ak->Prop,av Tryz.prog 97 [.fs ((num sb (n'+1+ai sa)).map (cb X)),.bool (la && rest.isEmpty),.a6 98 [] [.ptr a 0 0,.ptr b 0 0,.ptr o 0 0]] H3 Q2/\
   ∀r4 H4,Q2 r4 H4->r4=.dJ []/\∃LL acc4,DP o H kv H4 LL (acc4.map (.int .i64))/\acc4.length+ai rest<=1000000/\acc++dqL X F i xs la n=acc4++dqL X F i rest la (n'+((dA (St.mk k r t v lb (.mk ek en es aR) sa sb p ps):Nat):Int)):=by
   intro H2 fH acc2 e' Vr Gu he3;have F4:=Vr.fr H1.length l6 hob hkb;have hI3:=EG.step Vr hao Ig;refine⟨F4.1.trans Qr,_,(QM (la && rest.isEmpty) (n'+1) H2 fH acc2 (DP.refl Vr.cell Vr.ov Vr.no) hI3).1 (by omega),?_⟩;rintro r3 H3 ⟨rfl,Az,hd4⟩;have jf:H1.length<H2.length:=Nat.lt_of_lt_of_le l6 Vr.len;have Dz:=hd4.fr H1.length jf hob F4.2;have hI4:=hI3.step hd4 hao Ig;refine⟨rfl,Dz.1.trans (F4.1.trans Qr),_,(QM (la && rest.isEmpty) (n'+1+ai sa) H3 Az _ (DP.refl hd4.cell hd4.ov hd4.no) hI4).2 (by simp only[List.length_append];omega),?_⟩;rintro r4 H4 ⟨rfl,LL,hd5⟩;refine⟨rfl,LL,_,((l3.trans Vr).trans hd4).trans hd5,by simp only[List.length_append];omega,?_⟩;rw[he3];simp only[List.append_assoc]
  have BI:∀e':Env,True:=fun _=>trivial
  by_cases hk:0<=kI X k p
  ·have j1:=fun is=>j1 is hk (ED hk) (H1++ [bb]) kv1 acc1 Q7 EG (by omega)
   rw[decide_eq_true hk,Bool.true_and]at r9;subst Ag;cases la with
   | false=>
    simp only[Bool.false_and]at*;simp -implicitDefEqProofs only[h0,h1,h2,h9,eb,ez,an ao,aa ao hlen,hg,hk,decide_true,ne_eq,not_false_eq_true,fv,fK,Nat.reduceMul,go_sem];refine av.mono (j1 false) ?_;rintro _ H2 ⟨rfl,fH,Vr⟩;obtain⟨g2,Q1,jB,iT⟩:=BB H2 fH _ e Vr (by simp only[List.length_append];split<;>simp) (by rw[r9];simp only[List.append_assoc]);simp -implicitDefEqProofs only[h0,h1,h2,h9,eb,ez,aa ao hlen,g2,ne_eq,not_false_eq_true,fv,fK,Nat.reduceMul,go_sem];refine av.mono jB ?_;intro r3 H3 QG;obtain⟨rfl,g3,Q2,jI,ir⟩:=iT r3 H3 QG;simp -implicitDefEqProofs only[h0,h1,h2,h9,eb,ez,aa ao hlen,g3,ne_eq,not_false_eq_true,fv,fK,Nat.reduceMul,go_sem];refine av.mono jI ?_;intro r4 H4 hq4;obtain⟨rfl,LL,acc4,hd5,hl5,he5⟩:=ir r4 H4 hq4;simp -implicitDefEqProofs only[h0,h1,h2,h9,eb,ez,aa ao hlen,ne_eq,not_false_eq_true,fv,fK,Nat.reduceMul,go_sem];exact⟨rest.length,Nat.lt_succ_self _,pre++ [_],rest,_,acc4,LL,by rw[ao,List.append_assoc];rfl,rfl,fun s hs=>da s (List.mem_cons_of_mem _ hs),he5,hl5,by simp,hd5⟩
   | true=>
    simp only[Bool.true_and]at*;simp -implicitDefEqProofs only[h0,h1,h2,h9,eb,ez,an ao,aa ao hlen,hg,hk,decide_true,List.length_map,ne_eq,not_false_eq_true,fv,fK,Nat.reduceMul,go_sem];intro _;simp -implicitDefEqProofs only[h0,h1,h2,h9,eb,ez,aa ao hlen,hend,BG,ne_eq,not_false_eq_true,fv,fK,Nat.reduceMul,go_sem];refine av.mono (j1 rest.isEmpty) ?_;rintro _ H2 ⟨rfl,fH,Vr⟩;obtain⟨g2,Q1,jB,iT⟩:=BB H2 fH _ e Vr (by simp only[List.length_append];split<;>simp) (by rw[r9];simp only[List.append_assoc]);simp -implicitDefEqProofs only[h0,h1,h2,h9,eb,ez,aa ao hlen,g2,ne_eq,not_false_eq_true,fv,fK,Nat.reduceMul,go_sem];refine av.mono jB ?_;intro r3 H3 QG;obtain⟨rfl,g3,Q2,jI,ir⟩:=iT r3 H3 QG;simp -implicitDefEqProofs only[h0,h1,h2,h9,eb,ez,aa ao hlen,g3,ne_eq,not_false_eq_true,fv,fK,Nat.reduceMul,go_sem];refine av.mono jI ?_;intro r4 H4 hq4;obtain⟨rfl,LL,acc4,hd5,hl5,he5⟩:=ir r4 H4 hq4;simp -implicitDefEqProofs only[h0,h1,h2,h9,eb,ez,aa ao hlen,ne_eq,not_false_eq_true,fv,fK,Nat.reduceMul,go_sem];exact⟨rest.length,Nat.lt_succ_self _,pre++ [_],rest,_,acc4,LL,by rw[ao,List.append_assoc];rfl,rfl,fun s hs=>da s (List.mem_cons_of_mem _ hs),he5,hl5,by simp,hd5⟩
  ·rw[decide_eq_false hk,Bool.false_and,if_neg (by simp),List.nil_append]at r9;subst Ag;cases la with
   | false=>
    simp only[Bool.false_and]at*;simp -implicitDefEqProofs only[h0,h1,h2,h9,eb,ez,an ao,aa ao hlen,hg,hk,decide_false,ne_eq,not_false_eq_true,fv,fK,Nat.reduceMul,go_sem];obtain⟨g2,Q1,jB,iT⟩:=BB _ kv1 acc1 e Q7 (by omega) (by rw[r9]<;>simp only[List.append_assoc]);refine av.mono jB ?_;intro r3 H3 QG;obtain⟨rfl,g3,Q2,jI,ir⟩:=iT r3 H3 QG;simp -implicitDefEqProofs only[h0,h1,h2,h9,eb,ez,aa ao hlen,g3,ne_eq,not_false_eq_true,fv,fK,Nat.reduceMul,go_sem];refine av.mono jI ?_;intro r4 H4 hq4;obtain⟨rfl,LL,acc4,hd5,hl5,he5⟩:=ir r4 H4 hq4;simp -implicitDefEqProofs only[h0,h1,h2,h9,eb,ez,aa ao hlen,ne_eq,not_false_eq_true,fv,fK,Nat.reduceMul,go_sem];exact⟨rest.length,Nat.lt_succ_self _,pre++ [_],rest,_,acc4,LL,by rw[ao,List.append_assoc];rfl,rfl,fun s hs=>da s (List.mem_cons_of_mem _ hs),he5,hl5,by simp,hd5⟩
   | true=>
    simp only[Bool.true_and]at*;simp -implicitDefEqProofs only[h0,h1,h2,h9,eb,ez,an ao,aa ao hlen,hg,hk,decide_false,List.length_map,ne_eq,not_false_eq_true,fv,fK,Nat.reduceMul,go_sem];intro _;simp -implicitDefEqProofs only[h0,h1,h2,h9,eb,ez,aa ao hlen,hend,BG,hk,decide_false,ne_eq,not_false_eq_true,fv,fK,Nat.reduceMul,go_sem];obtain⟨g2,Q1,jB,iT⟩:=BB _ kv1 acc1 e Q7 (by omega) (by rw[r9]<;>simp only[List.append_assoc]);refine av.mono jB ?_;intro r3 H3 QG;obtain⟨rfl,g3,Q2,jI,ir⟩:=iT r3 H3 QG;simp -implicitDefEqProofs only[h0,h1,h2,h9,eb,ez,aa ao hlen,g3,ne_eq,not_false_eq_true,fv,fK,Nat.reduceMul,go_sem];refine av.mono jI ?_;intro r4 H4 hq4;obtain⟨rfl,LL,acc4,hd5,hl5,he5⟩:=ir r4 H4 hq4;simp -implicitDefEqProofs only[h0,h1,h2,h9,eb,ez,aa ao hlen,ne_eq,not_false_eq_true,fv,fK,Nat.reduceMul,go_sem];exact⟨rest.length,Nat.lt_succ_self _,pre++ [_],rest,_,acc4,LL,by rw[ao,List.append_assoc];rfl,rfl,fun s hs=>da s (List.mem_cons_of_mem _ hs),he5,hl5,by simp,hd5⟩
end Go.Proofs.YtdgoeblpcnjlbaaGreatDoor.Av

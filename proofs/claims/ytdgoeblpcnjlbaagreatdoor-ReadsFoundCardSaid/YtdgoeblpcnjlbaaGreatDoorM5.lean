/- ReadsFound. Text 5 of 17. -/
import Derived.Test.YtdgoeblpcnjlbaaGreatDoorProg
import Derived.Shelf.Small.Strs
import Derived.Shelf.Strings.SlTrimAscii
import Derived.Test.YtdgoeblpcnjlbaaGreatDoorM4
set_option linter.all false
set_option maxRecDepth 100000
set_option maxHeartbeats 64000000
namespace Go.Proofs.YtdgoeblpcnjlbaaGreatDoor.Av
open Go.RowKit List
def s5:aB:=(.seq (.region [aQ 4 (.int .i64 0)]) (.seq (.region [ab 5 1,ab 6 0,ab 7 1,cJ 8 7,bw 9 38 [.tmp 6,.tmp 8],cM 10 1 5 9,aH 11 10,ab 4 11])
 .ret))
def r5:List a8:=[.tmp 4]
theorem codeOk {g:FuncId} {s:aB} {rs:List a8} {nt:Nat} {fn:Func} {c:Code} (h:Tryz.prog.funcs[g]? =some fn) (hb:fn.body=some c) (hn:fn.ntmps=nt) (h1:dK Tryz.prog nt c s=true:=by kernel_rfl) (h2:dL Tryz.prog nt fn.results.toList rs=true:=by kernel_rfl) (h3:lS Tryz.prog g=true:=by kernel_rfl) (h4:Tryz.prog.follows .mixedOrders=true:=by kernel_rfl):aG Tryz.prog g s rs nt:=⟨⟨fn,c,h,hb,hn,h1,h2⟩,h3,h4⟩
theorem c5:aG Tryz.prog 110 s5 r5 12:=codeOk Tryz.func110 rfl rfl
def s6:aB:=(.seq (.region [⟨some 1,.box (sT 0),none⟩,aQ 2 (.int .i64 0),aQ 3 (.int .i64 0)]) (.seq (.seq (.region [bU 5 2 1,bw 6 71 [.tmp 5],ab 4 6]) (.seq (.region [ab 7 4,bC 8 .neq 7 (.int .i64 0)]) (.cond (sT 8) (.seq (.region [ab 9 4,aQ 2 (.int .i64 0),ab 3 9])
 .ret) .skip))) (.seq (.region [bU 10 2 1,bw 11 44 [.tmp 10],ab 2 11,aQ 3 (.int .i64 0)])
 .ret)))
def r6:List a8:=[.tmp 2,.tmp 3]
theorem c6:aG Tryz.prog 61 s6 r6 12:=codeOk Tryz.func61 rfl rfl
def s8:aB:=(.seq (.region [⟨some 1,.box (sT 0),none⟩,aQ 2 (.int .i64 0)]) (.seq (.seq (.region [bU 10 2 1,bw 11 46 [.tmp 10],ab 3 11]) (.seq (.region [ab 12 3,bC 13 .neq 12 (.int .i64 0)]) (.cond (sT 13) (.seq (.region [ab 14 3,ab 2 14])
 .ret) .skip))) (.seq (.seq (.region [bU 15 2 1,bw 16 47 [.tmp 15],cJ 17 16,aQ 18 (.int .i64 0)]) (.block 0 (.loop (.seq (.region [cL 19 .lss 18 17]) (.seq (.cond (sT 19) .skip (.exit 0)) (.seq (.block 1 (.seq (.region [cM 20 15 16 18,bU 21 15 20,⟨some 5,.alloc (.agg [.int .i64 0,.str ⟨#[]⟩,.str ⟨#[]⟩,.str ⟨#[]⟩,.str ⟨#[]⟩,.int .i64 0,.int .i64 0,.str ⟨#[]⟩,.ag,.ag,.ag,.str ⟨#[]⟩,.ag,.int .i64 0,.bool false]),none⟩,⟨none,.store 15 (sT 5) (sT 21),none⟩]) (.seq (.region [aN 22 0 5,bU 23 13 22,⟨some 6,.alloc (.agg [.int .i64 0,.str ⟨#[]⟩,.str ⟨#[]⟩,.str ⟨#[]⟩,.str ⟨#[]⟩,.int .i64 0,.int .i64 0,.str ⟨#[]⟩,.ag,.ag,.ag,.str ⟨#[]⟩,.ag]),none⟩,⟨none,.store 13 (sT 6) (sT 23),none⟩]) (.seq (.seq (.region [aN 24 13 5,aH 25 24,bC 26 .geq 25 (.int .i64 0),ab 27 26,⟨some 28,.load true 13 (sT 6),(some (27,true))⟩,⟨some 29,.call (.val (.a6 49 [] [])) [.tmp 28],(some (27,true))⟩,⟨some 30,.fC 50 [] [.tmp 1,.tmp 5],(some (27,true))⟩,⟨some 31,.call (.val (.a6 48 [] [])) [.tmp 29,.tmp 30],(some (27,true))⟩,⟨some 32,.pick (sT 27) (sT 31) (.val (.bool false)),none⟩]) (.cond (sT 32) (.seq (.region [aQ 2 (.int .i64 5)])
 .ret) .skip)) (.seq (.seq (.region [aN 33 0 6,aH 34 33,bC 35 .neq 34 (.int .i64 5)]) (.cond (sT 35) (.seq (.seq (.region [aN 36 2 6,aH 37 36,aN 38 1 6,aH 39 38,cL 40 .eql 37 39]) (.cond (sT 40) (.seq (.region [aQ 2 (.int .i64 6)])
 .ret) .skip)) (.exit 1)) .skip)) (.seq (.region [bU 41 2 1,aN 42 11 6,aH 43 42,bw 44 52 [.tmp 41,.tmp 43],ab 7 44]) (.seq (.block 2 (.seq (.region [ab 46 7,bC 47 .lss 46 (.int .i64 0),ab 45 47]) (.cond (sT 45) (.seq (.region [aQ 2 (.int .i64 8)])
 .ret) (.seq (.qregion [⟨aN 49 0 1,false,0,0,0⟩,⟨aH 50 49,false,0,0,1⟩,⟨ab 51 7,false,0,0,0⟩,⟨cM 52 3 50 51,false,0,0,7⟩,⟨aN 53 1 52,false,0,0,15⟩,⟨aH 54 53,false,0,0,31⟩,⟨cJ 55 54,false,0,0,63⟩,⟨aN 56 12 6,false,0,0,0⟩,⟨aH 57 56,false,0,0,128⟩,⟨cJ 58 57,false,0,0,384⟩,⟨cL 59 .neq 55 58,false,0,0,1023⟩,⟨ab 48 59,false,0,0,2047⟩]) (.cond (sT 48) (.seq (.region [aQ 2 (.int .i64 3)])
 .ret) .skip))))) (.seq (.region [aN 60 12 6,aH 61 60,cJ 62 61,aQ 63 (.int .i64 0)]) (.block 3 (.loop (.seq (.region [cL 64 .lss 63 62]) (.seq (.cond (sT 64) .skip (.exit 3)) (.seq (.block 4 (.seq (.region [ab 65 63,cM 66 1 61 63,aH 67 66,ab 8 65,ab 9 67]) (.seq (.region [aN 68 12 6,aH 69 68,ab 70 8,⟨some 71,.slice 1 (sT 69) none (some (sT 70)),none⟩,ab 72 9,bw 73 51 [.tmp 71,.tmp 72]]) (.cond (sT 73) (.seq (.region [aQ 2 (.int .i64 6)])
 .ret) .skip)))) (.region [bC 74 .add 63 (.int .i64 1),ab 63 74])))))))))))))) (.region [bC 75 .add 18 (.int .i64 1),ab 18 75]))))))) (.seq (.region [aQ 2 (.int .i64 0)])
 .ret))))
def r8:List a8:=[.tmp 2]
theorem c8:aG Tryz.prog 11 s8 r8 76:=codeOk Tryz.func11 rfl rfl
def s11:aB:=(.seq (.region [⟨some 1,.box (sT 0),none⟩,aQ 2 (.int .i64 0)]) (.seq (.seq (.region [bU 5 2 1,bw 6 70 [.tmp 5],ab 3 6]) (.seq (.region [ab 7 3,bC 8 .neq 7 (.int .i64 0)]) (.cond (sT 8) (.seq (.region [ab 9 3,ab 2 9])
 .ret) .skip))) (.seq (.region [⟨some 4,.alloc (.int .i64 0),none⟩,⟨none,.store 1 (sT 4) (.val (.int .i64 0)),none⟩]) (.seq (.region [bU 10 2 1,⟨some 11,.fC 143 [] [.tmp 4,.tmp 1],none⟩,bw 12 88 [.tmp 10,.tmp 11]]) (.seq (.region [aH 13 4,ab 2 13])
 .ret)))))
def r11:List a8:=[.tmp 2]
theorem Yu:aG Tryz.prog 71 s11 r11 14:=codeOk Tryz.func71 rfl rfl
def s12:aB:=(.seq (.region [⟨some 2,.box (sT 0),none⟩,⟨some 3,.box (sT 1),none⟩,aQ 4 (.bool false)]) (.seq (.region [aN 5 0 2,aH 6 5,aN 7 0 3,aH 8 7,cL 9 .eql 6 8,ab 10 9,dP 11 1 2 10 true,dy 12 11 10 true,dP 13 1 3 10 true,dy 14 13 10 true,⟨some 15,.bin .eql (sT 12) (sT 14),(some (10,true))⟩,⟨some 16,.pick (sT 10) (sT 15) (.val (.bool false)),none⟩,ab 17 16,dP 18 2 2 17 true,dy 19 18 17 true,dP 20 2 3 17 true,dy 21 20 17 true,⟨some 22,.bin .eql (sT 19) (sT 21),(some (17,true))⟩,⟨some 23,.pick (sT 17) (sT 22) (.val (.bool false)),none⟩,ab 24 23,dP 25 3 2 24 true,dy 26 25 24 true,dP 27 3 3 24 true,dy 28 27 24 true,⟨some 29,.bin .eql (sT 26) (sT 28),(some (24,true))⟩,⟨some 30,.pick (sT 24) (sT 29) (.val (.bool false)),none⟩,ab 31 30,dP 32 4 2 31 true,dy 33 32 31 true,dP 34 4 3 31 true,dy 35 34 31 true,⟨some 36,.bin .eql (sT 33) (sT 35),(some (31,true))⟩,⟨some 37,.pick (sT 31) (sT 36) (.val (.bool false)),none⟩,ab 38 37,dP 39 11 2 38 true,dy 40 39 38 true,dP 41 11 3 38 true,dy 42 41 38 true,⟨some 43,.bin .eql (sT 40) (sT 42),(some (38,true))⟩,⟨some 44,.pick (sT 38) (sT 43) (.val (.bool false)),none⟩,ab 45 44,dP 46 5 2 45 true,⟨some 47,.load true 4 (sT 46),(some (45,true))⟩,dP 48 5 3 45 true,⟨some 49,.load true 4 (sT 48),(some (45,true))⟩,⟨some 50,.call (.val (.a6 197 [] [])) [.tmp 47,.tmp 49],(some (45,true))⟩,⟨some 51,.pick (sT 45) (sT 50) (.val (.bool false)),none⟩,ab 52 51,dP 53 12 2 52 true,dy 54 53 52 true,dP 55 12 3 52 true,dy 56 55 52 true,⟨some 57,.call (.val (.a6 16 [] [])) [.tmp 54,.tmp 56],(some (52,true))⟩,⟨some 58,.pick (sT 52) (sT 57) (.val (.bool false)),none⟩,ab 59 58,dP 60 9 2 59 true,dy 61 60 59 true,dP 62 9 3 59 true,dy 63 62 59 true,⟨some 64,.call (.val (.a6 86 [] [])) [.tmp 61,.tmp 63],(some (59,true))⟩,⟨some 65,.pick (sT 59) (sT 64) (.val (.bool false)),none⟩,ab 66 65,dP 67 10 2 66 true,dy 68 67 66 true,dP 69 10 3 66 true,dy 70 69 66 true,⟨some 71,.call (.val (.a6 86 [] [])) [.tmp 68,.tmp 70],(some (66,true))⟩,⟨some 72,.pick (sT 66) (sT 71) (.val (.bool false)),none⟩,ab 4 72])
 .ret))
def r12:List a8:=[.tmp 4]
theorem Yv:aG Tryz.prog 161 s12 r12 73:=codeOk Tryz.func161 rfl rfl
def s13:aB:=(.seq (.region [aQ 0 (.bool false)]) (.seq (.region [bw 4 62 [],bw 5 61 [.tmp 4],ab 3 5,⟨some 6,.extract (sT 3) 0,none⟩,⟨some 7,.extract (sT 3) 1,none⟩,ab 1 6,ab 2 7]) (.seq (.region [ab 8 2,bC 9 .eql 8 (.int .i64 0),ab 10 9,fD 11 1 10 true,⟨some 12,.bin .eql (sT 11) (.val (.int .i64 1)),(some (10,true))⟩,⟨some 13,.pick (sT 10) (sT 12) (.val (.bool false)),none⟩,ab 0 13])
 .ret)))
def r13:List a8:=[.tmp 0]
theorem c13:aG Tryz.prog 19 s13 r13 14:=codeOk Tryz.func19 rfl rfl
def s14:aB:=(.seq (.region [aQ 4 (.bool false)]) (.seq (.region [ab 5 0,ab 6 1,bw 7 38 [.tmp 5,.tmp 6],bC 8 .eql 7 (.int .i64 0),ab 4 8])
 .ret))
def r14:List a8:=[.tmp 4]
theorem c14:aG Tryz.prog 36 s14 r14 9:=codeOk Tryz.func36 rfl rfl
def Yw:aB:=(.seq (.region [aQ 4 (.int .i64 0)]) (.seq (.region [ab 7 0,⟨some 8,.b5 (sT 7),none⟩,aN 9 1 8,aH 10 9,bC 11 .add 10 (.int .i64 1),⟨some 12,.b5 (sT 7),none⟩,aN 13 1 12,⟨none,.store 1 (sT 13) (sT 11),none⟩]) (.seq (.seq (.region [ab 14 0,⟨some 15,.b5 (sT 14),none⟩,aN 16 0 15,aH 17 16,cJ 18 17,bC 19 .eql 18 (.int .i64 0)]) (.cond (sT 19) (.seq (.region [ab 20 0,⟨some 21,.b5 (sT 20),none⟩,aN 22 1 21,aH 23 22,bC 24 .mul 23 (.int .i64 7919),ab 25 1,bw 26 113 [.tmp 24,.tmp 25],ab 4 26])
 .ret) .skip)) (.seq (.qregion [⟨ab 27 0,false,0,0,0⟩,⟨⟨some 28,.b5 (sT 27),none⟩,false,0,0,1⟩,⟨aN 29 1 28,false,0,0,3⟩,⟨aH 30 29,false,0,0,7⟩,⟨bC 31 .sub 30 (.int .i64 1),false,0,0,15⟩,⟨ab 32 0,false,0,0,0⟩,⟨⟨some 33,.b5 (sT 32),none⟩,false,0,0,32⟩,⟨aN 34 0 33,false,0,0,96⟩,⟨aH 35 34,false,0,0,224⟩,⟨cJ 36 35,false,0,0,480⟩,⟨cL 37 .rem 31 36,false,0,0,1023⟩,⟨ab 5 37,false,0,0,2047⟩]) (.seq (.qregion [⟨ab 38 0,false,0,0,0⟩,⟨⟨some 39,.b5 (sT 38),none⟩,false,0,0,1⟩,⟨aN 40 1 39,false,0,0,3⟩,⟨aH 41 40,false,0,0,7⟩,⟨bC 42 .sub 41 (.int .i64 1),false,0,0,15⟩,⟨ab 43 0,false,0,0,0⟩,⟨⟨some 44,.b5 (sT 43),none⟩,false,0,0,32⟩,⟨aN 45 0 44,false,0,0,96⟩,⟨aH 46 45,false,0,0,224⟩,⟨cJ 47 46,false,0,0,480⟩,⟨cL 48 .quo 42 47,false,0,0,1023⟩,⟨ab 6 48,false,0,0,2047⟩]) (.seq (.region [ab 49 0,⟨some 50,.b5 (sT 49),none⟩,aN 51 0 50,aH 52 51,ab 53 5,cM 54 1 52 53,aH 55 54,bw 56 113 [.tmp 55,.val (.int .i64 1073741824)],ab 57 6,ab 58 5,⟨some 59,.bin .add (.val (.int .i64 7919)) (sT 58),none⟩,cL 60 .mul 57 59,cL 61 .add 56 60,ab 62 1,bw 63 113 [.tmp 61,.tmp 62],ab 4 63])
 .ret))))))
def Yx:List a8:=[.tmp 4]
theorem c16:aG Tryz.prog 38 Yw Yx 64:=codeOk Tryz.func38 rfl rfl
def s19:aB:=(.seq (.region [⟨some 1,.box (sT 0),none⟩,aQ 2 (.int .i64 0)]) (.seq (.region [aN 6 1 1,aH 7 6,bw 8 122 [.tmp 7],ab 3 8]) (.seq (.seq (.region [aN 9 0 1,aH 10 9,cJ 11 10,aQ 12 (.int .i64 0)]) (.block 0 (.loop (.seq (.region [cL 13 .lss 12 11]) (.seq (.cond (sT 13) .skip (.exit 0)) (.seq (.block 1 (.seq (.region [cM 14 3 10 12,bU 15 3 14,⟨some 5,.alloc (.agg [.str ⟨#[]⟩,.ag,.ag]),none⟩,⟨none,.store 3 (sT 5) (sT 15),none⟩]) (.region [ab 16 3,aN 17 2 5,aH 18 17,bw 19 122 [.tmp 18],cL 20 .add 16 19,ab 3 20]))) (.region [bC 21 .add 12 (.int .i64 1),ab 12 21]))))))) (.seq (.region [ab 22 3,ab 2 22])
 .ret))))
def WQ:List a8:=[.tmp 2]
theorem c19:aG Tryz.prog 44 s19 WQ 23:=codeOk Tryz.func44 rfl rfl
def s22:aB:=(.seq (.region [⟨some 2,.box (sT 0),none⟩,⟨some 3,.box (sT 1),none⟩]) (.seq (.region [aN 7 1 2,aH 8 7,⟨some 9,.fC 162 [] [.tmp 3],none⟩,bw 10 149 [.tmp 8,.val (.int .i64 0),.tmp 9],ab 4 10]) (.seq (.region [aN 11 0 2,aH 12 11,cJ 13 12,aQ 14 (.int .i64 0)]) (.block 0 (.loop (.seq (.region [cL 15 .lss 14 13]) (.seq (.cond (sT 15) .skip (.exit 0)) (.seq (.block 1 (.seq (.region [ab 16 14,cM 17 3 12 14,bU 18 3 17,⟨some 5,.alloc (.int .i64 0),none⟩,⟨some 6,.alloc (.agg [.str ⟨#[]⟩,.ag,.ag]),none⟩,⟨none,.store 1 (sT 5) (sT 16),none⟩,⟨none,.store 3 (sT 6) (sT 18),none⟩]) (.region [aN 19 2 6,aH 20 19,ab 21 4,⟨some 22,.fC 163 [] [.tmp 3,.tmp 5],none⟩,bw 23 149 [.tmp 20,.tmp 21,.tmp 22],ab 4 23]))) (.region [bC 24 .add 14 (.int .i64 1),ab 14 24])))))))))
def r22:List a8:=[]
theorem c22:aG Tryz.prog 88 s22 r22 25:=codeOk Tryz.func88 rfl rfl
def s24:aB:=(.seq (.region [⟨some 1,.box (sT 0),none⟩,aQ 2 (.int .i64 0)]) (.seq (.seq (.region [aN 11 0 1,aH 12 11,cJ 13 12,bC 14 .gtr 13 (.int .i64 50)]) (.cond (sT 14) (.seq (.region [aQ 2 (.int .i64 2)])
 .ret) .skip)) (.seq (.region [⟨some 3,.alloc (.int .i64 0),none⟩,⟨none,.store 1 (sT 3) (.val (.int .i64 0)),none⟩]) (.seq (.region [aQ 4 (.ag)]) (.seq (.seq (.region [aN 15 0 1,aH 16 15,cJ 17 16,aQ 18 (.int .i64 0)]) (.block 0 (.loop (.seq (.region [cL 19 .lss 18 17]) (.seq (.cond (sT 19) .skip (.exit 0)) (.seq (.block 1 (.seq (.region [cM 20 3 16 18,bU 21 3 20,⟨some 6,.alloc (.agg [.str ⟨#[]⟩,.ag,.ag]),none⟩,⟨none,.store 3 (sT 6) (sT 21),none⟩]) (.seq (.block 2 (.seq (.region [aN 23 0 6,aH 24 23,bw 25 82 [.tmp 24],⟨some 26,.un .not (sT 25),none⟩,ab 22 26]) (.cond (sT 22) (.seq (.region [aQ 2 (.int .i64 5)])
 .ret) (.seq (.region [ab 28 4,aN 29 0 6,aH 30 29,bw 31 51 [.tmp 28,.tmp 30],ab 27 31]) (.cond (sT 27) (.seq (.region [aQ 2 (.int .i64 6)])
 .ret) (.seq (.region [aN 33 1 6,aH 34 33,cJ 35 34,bC 36 .eql 35 (.int .i64 0),ab 32 36]) (.cond (sT 32) (.seq (.region [aQ 2 (.int .i64 8)])
 .ret) (.seq (.region [aN 38 1 6,aH 39 38,cJ 40 39,bC 41 .gtr 40 (.int .i64 12),ab 37 41]) (.cond (sT 37) (.seq (.region [aQ 2 (.int .i64 2)])
 .ret) .skip))))))))) (.seq (.seq (.region [aN 42 1 6,aH 43 42,cJ 44 43,aQ 45 (.int .i64 0)]) (.block 3 (.loop (.seq (.region [cL 46 .lss 45 44]) (.seq (.cond (sT 46) .skip (.exit 3)) (.seq (.block 4 (.seq (.region [ab 47 45,cM 48 1 43 45,aH 49 48,ab 7 47,ab 8 49]) (.seq (.seq (.region [ab 50 8,bw 51 82 [.tmp 50],⟨some 52,.un .not (sT 51),none⟩]) (.cond (sT 52) (.seq (.region [aQ 2 (.int .i64 5)])
 .ret) .skip)) (.seq (.region [aN 53 1 6,aH 54 53,ab 55 7,⟨some 56,.slice 1 (sT 54) none (some (sT 55)),none⟩,ab 57 8,bw 58 51 [.tmp 56,.tmp 57]]) (.cond (sT 58) (.seq (.region [aQ 2 (.int .i64 6)])
 .ret) .skip))))) (.region [bC 59 .add 45 (.int .i64 1),ab 45 59]))))))) (.seq (.seq (.region [aN 60 2 6,aH 61 60,bw 62 126 [.tmp 61,.val (.int .i64 1),.tmp 3],ab 9 62]) (.seq (.region [ab 63 9,bC 64 .neq 63 (.int .i64 0)]) (.cond (sT 64) (.seq (.region [ab 65 9,ab 2 65])
 .ret) .skip))) (.region [ab 66 4,aN 67 0 6,aH 68 67,⟨some 69,.aJ 1 [.tmp 68],none⟩,⟨some 70,.append 1 16 (sT 66) (sT 69),none⟩,ab 4 70])))))) (.region [bC 71 .add 18 (.int .i64 1),ab 18 71]))))))) (.seq (.seq (.region [aN 72 1 1,aH 73 72,bw 74 126 [.tmp 73,.val (.int .i64 1),.tmp 3],ab 10 74]) (.seq (.region [ab 75 10,bC 76 .neq 75 (.int .i64 0)]) (.cond (sT 76) (.seq (.region [ab 77 10,ab 2 77])
 .ret) .skip))) (.seq (.seq (.region [aH 78 3,bC 79 .gtr 78 (.int .i64 2000)]) (.cond (sT 79) (.seq (.region [aQ 2 (.int .i64 2)])
 .ret) .skip)) (.seq (.region [aQ 2 (.int .i64 0)])
 .ret))))))))
def Ns:List a8:=[.tmp 2]
theorem c24:aG Tryz.prog 46 s24 Ns 80:=codeOk Tryz.func46 rfl rfl
def s25:aB:=(.seq (.region [⟨some 1,.box (sT 0),none⟩,aQ 2 (.ag)]) (.seq (.region [⟨some 3,.alloc (.ag),none⟩]) (.seq (.region [⟨some 4,.alloc (.qH),none⟩]) (.seq (.region [⟨some 7,.fC 127 [] [.tmp 3,.tmp 4],none⟩,⟨none,.store 1 (sT 4) (sT 7),none⟩]) (.seq (.region [aH 8 4,aN 9 1 1,aH 10 9,⟨some 11,.call (sT 8) [.tmp 10,.val (.int .i64 (-1)),.val (.bool true)],none⟩]) (.seq (.seq (.region [aN 12 0 1,aH 13 12,cJ 14 13,aQ 15 (.int .i64 0)]) (.block 0 (.loop (.seq (.region [cL 16 .lss 15 14]) (.seq (.cond (sT 16) .skip (.exit 0)) (.seq (.block 1 (.seq (.region [ab 17 15,cM 18 3 13 15,bU 19 3 18,⟨some 6,.alloc (.agg [.str ⟨#[]⟩,.ag,.ag]),none⟩,ab 5 17,⟨none,.store 3 (sT 6) (sT 19),none⟩]) (.region [aH 20 4,aN 21 2 6,aH 22 21,ab 23 5,⟨some 24,.call (sT 20) [.tmp 22,.tmp 23,.val (.bool true)],none⟩]))) (.region [bC 25 .add 15 (.int .i64 1),ab 15 25]))))))) (.seq (.region [aH 26 3,ab 2 26])
 .ret)))))))
def r25:List a8:=[.tmp 2]
theorem c25:aG Tryz.prog 47 s25 r25 27:=codeOk Tryz.func47 rfl rfl
def s26:aB:=(.seq (.region [aQ 4 (.bool false)]) (.seq (.region [ab 5 0,ab 6 1,bw 7 128 [.tmp 5,.tmp 6],bC 8 .geq 7 (.int .i64 0),ab 4 8])
 .ret))
def r26:List a8:=[.tmp 4]
theorem c26:aG Tryz.prog 48 s26 r26 9:=codeOk Tryz.func48 rfl rfl
def s27:aB:=(.seq (.region [⟨some 1,.box (sT 0),none⟩,aQ 2 (.ag)]) (.seq (.seq (.region [aN 3 0 1,aH 4 3]) (.block 0 (.seq (.seq (.region [bC 6 .eql 4 (.int .i64 1),ab 5 6]) (.cond (sT 5) .skip (.region [bC 7 .eql 4 (.int .i64 2),ab 5 7]))) (.cond (sT 5) (.seq (.region [aN 8 1 1,aH 9 8,aN 10 2 1,aH 11 10,⟨some 12,.aJ 1 [.tmp 9,.tmp 11],none⟩,ab 2 12])
 .ret) (.seq (.region [bC 14 .eql 4 (.int .i64 5),ab 13 14]) (.cond (sT 13) (.seq (.region [aN 15 12 1,aH 16 15,ab 2 16])
 .ret) .skip)))))) (.seq (.region [aN 17 1 1,aH 18 17,⟨some 19,.aJ 1 [.tmp 18],none⟩,ab 2 19])
 .ret)))
def r27:List a8:=[.tmp 2]
theorem c27:aG Tryz.prog 49 s27 r27 20:=codeOk Tryz.func49 rfl rfl
def s28:aB:=(.seq (.region [aQ 4 (.bool false)]) (.seq (.region [aN 5 0 1,aH 6 5,aN 7 13 2,aH 8 7,cM 9 3 6 8,aN 10 1 9,aH 11 10,ab 12 0,bw 13 51 [.tmp 11,.tmp 12],⟨some 14,.un .not (sT 13),none⟩,ab 4 14])
 .ret))
def r28:List a8:=[.tmp 4]
theorem c28:aG Tryz.prog 50 s28 r28 15:=codeOk Tryz.func50 rfl rfl
def s29:aB:=(.seq (.region [aQ 4 (.bool false)]) (.seq (.region [ab 5 0,ab 6 1,bw 7 124 [.tmp 5,.tmp 6],bC 8 .geq 7 (.int .i64 0),ab 4 8])
 .ret))
def r29:List a8:=[.tmp 4]
theorem c29:aG Tryz.prog 51 s29 r29 9:=codeOk Tryz.func51 rfl rfl
def s30:aB:=(.seq (.region [⟨some 2,.box (sT 0),none⟩,⟨some 3,.box (sT 1),none⟩,aQ 4 (.int .i64 0)]) (.seq (.region [aN 5 0 2,aH 6 5,⟨some 7,.fC 130 [] [.tmp 3],none⟩,bw 8 129 [.tmp 6,.tmp 7],ab 4 8])
 .ret))
def r30:List a8:=[.tmp 4]
theorem c30:aG Tryz.prog 52 s30 r30 9:=codeOk Tryz.func52 rfl rfl
def s31:aB:=(.seq (.region [aQ 6 (.bool false)]) (.seq (.region [ab 7 1,ab 8 0,cL 9 .leq 7 8,ab 10 9,fD 11 0 10 true,fD 12 2 10 true,⟨some 13,.bin .leq (sT 11) (sT 12),(some (10,true))⟩,⟨some 14,.pick (sT 10) (sT 13) (.val (.bool false)),none⟩,ab 6 14])
 .ret))
def r31:List a8:=[.tmp 6]
theorem c31:aG Tryz.prog 158 s31 r31 15:=codeOk Tryz.func158 rfl rfl
def s32:aB:=(.seq (.region [⟨some 1,.box (sT 0),none⟩,aQ 2 (.int .i64 0)]) (.seq (.seq (.region [aN 6 0 1,aH 7 6,cJ 8 7,bC 9 .gtr 8 (.int .i64 50)]) (.cond (sT 9) (.seq (.region [aQ 2 (.int .i64 2)])
 .ret) .skip)) (.seq (.seq (.region [aN 10 0 1,aH 11 10,cJ 12 11,aQ 13 (.int .i64 0)]) (.block 0 (.loop (.seq (.region [cL 14 .lss 13 12]) (.seq (.cond (sT 14) .skip (.exit 0)) (.seq (.block 1 (.seq (.region [ab 15 13,ab 3 15]) (.seq (.region [aN 16 0 1,aH 17 16,ab 18 3,bw 19 141 [.tmp 17,.tmp 18],ab 4 19]) (.seq (.region [ab 20 4,bC 21 .neq 20 (.int .i64 0)]) (.cond (sT 21) (.seq (.region [ab 22 4,ab 2 22])
 .ret) .skip))))) (.region [bC 23 .add 13 (.int .i64 1),ab 13 23]))))))) (.seq (.seq (.region [aN 24 1 1,aH 25 24,bw 26 142 [.tmp 25,.val (.int .i64 1)],ab 5 26]) (.seq (.region [ab 27 5,bC 28 .neq 27 (.int .i64 0)]) (.cond (sT 28) (.seq (.region [ab 29 5,ab 2 29])
 .ret) .skip))) (.seq (.seq (.region [bU 30 2 1,bw 31 44 [.tmp 30],bC 32 .gtr 31 (.int .i64 2000)]) (.cond (sT 32) (.seq (.region [aQ 2 (.int .i64 2)])
 .ret) .skip)) (.seq (.region [aQ 2 (.int .i64 0)])
 .ret))))))
def WR:List a8:=[.tmp 2]
theorem c32:aG Tryz.prog 70 s32 WR 33:=codeOk Tryz.func70 rfl rfl
def s33:aB:=(.seq (.region [⟨some 7,.box (sT 2),none⟩]) (.seq (.region [aH 8 3,bC 9 .eql 8 (.int .i64 0)]) (.cond (sT 9) (.region [bU 10 2 4,ab 11 1,bU 12 13 7,bw 13 144 [.tmp 10,.tmp 11,.tmp 12],⟨none,.store 1 (sT 3) (sT 13),none⟩]) .skip)))
def r33:List a8:=[]
theorem c33:aG Tryz.prog 143 s33 r33 14:=codeOk Tryz.func143 rfl rfl
def R4:aB:=(.seq (.region [⟨some 3,.box (sT 0),none⟩,⟨some 4,.box (sT 1),none⟩,⟨some 5,.box (sT 2),none⟩,aQ 6 (.int .i64 0)]) (.seq (.seq (.region [aH 10 4,bC 11 .geq 10 (.int .i64 0),ab 12 11,⟨some 13,.load true 13 (sT 5),(some (12,true))⟩,⟨some 14,.call (.val (.a6 125 [] [])) [.tmp 13],(some (12,true))⟩,⟨some 15,.fC 191 [] [.tmp 3,.tmp 4],(some (12,true))⟩,⟨some 16,.call (.val (.a6 48 [] [])) [.tmp 14,.tmp 15],(some (12,true))⟩,⟨some 17,.pick (sT 12) (sT 16) (.val (.bool false)),none⟩]) (.cond (sT 17) (.seq (.region [aQ 6 (.int .i64 5)])
 .ret) .skip)) (.seq (.seq (.region [aN 18 2 5,aH 19 18,bC 20 .neq 19 (.str ⟨#[]⟩),ab 21 20,dP 22 1 5 21 true,dy 23 22 21 true,dP 24 2 5 21 true,dy 25 24 21 true,⟨some 26,.bin .eql (sT 23) (sT 25),(some (21,true))⟩,⟨some 27,.pick (sT 21) (sT 26) (.val (.bool false)),none⟩]) (.cond (sT 27) (.seq (.region [aQ 6 (.int .i64 6)])
 .ret) .skip)) (.seq (.seq (.region [aN 28 0 5,aH 29 28,bC 30 .neq 29 (.int .i64 5)]) (.cond (sT 30) (.seq (.region [aQ 6 (.int .i64 0)])
 .ret) .skip)) (.seq (.region [bU 31 2 3,aN 32 11 5,aH 33 32,bw 34 192 [.tmp 31,.tmp 33],ab 7 34]) (.seq (.seq (.region [ab 35 7,bC 36 .lss 35 (.int .i64 0)]) (.cond (sT 36) (.seq (.region [aQ 6 (.int .i64 8)])
 .ret) .skip)) (.seq (.seq (.qregion [⟨aN 37 0 3,false,0,0,0⟩,⟨aH 38 37,false,0,0,1⟩,⟨ab 39 7,false,0,0,0⟩,⟨cM 40 3 38 39,false,0,0,7⟩,⟨aN 41 1 40,false,0,0,15⟩,⟨aH 42 41,false,0,0,31⟩,⟨cJ 43 42,false,0,0,63⟩,⟨aN 44 12 5,false,0,0,0⟩,⟨aH 45 44,false,0,0,128⟩,⟨cJ 46 45,false,0,0,384⟩,⟨cL 47 .neq 43 46,false,0,0,1023⟩]) (.cond (sT 47) (.seq (.region [aQ 6 (.int .i64 3)])
 .ret) .skip)) (.seq (.seq (.region [aN 48 12 5,aH 49 48,cJ 50 49,aQ 51 (.int .i64 0)]) (.block 0 (.loop (.seq (.region [cL 52 .lss 51 50]) (.seq (.cond (sT 52) .skip (.exit 0)) (.seq (.block 1 (.seq (.region [ab 53 51,cM 54 1 49 51,aH 55 54,ab 8 53,ab 9 55]) (.seq (.region [aN 56 12 5,aH 57 56,ab 58 8,⟨some 59,.slice 1 (sT 57) none (some (sT 58)),none⟩,ab 60 9,bw 61 51 [.tmp 59,.tmp 60]]) (.cond (sT 61) (.seq (.region [aQ 6 (.int .i64 6)])
 .ret) .skip)))) (.region [bC 62 .add 51 (.int .i64 1),ab 51 62]))))))) (.seq (.region [aQ 6 (.int .i64 0)])
 .ret)))))))))
def Jn:List a8:=[.tmp 6]
theorem WT:aG Tryz.prog 144 R4 Jn 63:=codeOk Tryz.func144 rfl rfl
def s36:aB:=(.seq (.region [aQ 4 (.bool false)]) (.seq (.seq (.region [ab 6 0,cJ 7 6,ab 8 1,cJ 9 8,cL 10 .neq 7 9]) (.cond (sT 10) (.seq (.region [aQ 4 (.bool false)])
 .ret) .skip)) (.seq (.seq (.region [ab 11 0,cJ 12 11,aQ 13 (.int .i64 0)]) (.block 0 (.loop (.seq (.region [cL 14 .lss 13 12]) (.seq (.cond (sT 14) .skip (.exit 0)) (.seq (.block 1 (.seq (.region [ab 15 13,ab 5 15]) (.seq (.qregion [⟨ab 16 0,false,0,0,0⟩,⟨ab 17 5,false,0,0,0⟩,⟨cM 18 1 16 17,false,0,0,3⟩,⟨aH 19 18,false,0,0,7⟩,⟨ab 20 1,false,0,0,0⟩,⟨ab 21 5,false,0,0,0⟩,⟨cM 22 1 20 21,false,0,0,48⟩,⟨aH 23 22,false,0,0,112⟩,⟨cL 24 .neq 19 23,false,0,0,255⟩]) (.cond (sT 24) (.seq (.region [aQ 4 (.bool false)])
 .ret) .skip)))) (.region [bC 25 .add 13 (.int .i64 1),ab 13 25]))))))) (.seq (.region [aQ 4 (.bool true)])
 .ret))))
def Yz:List a8:=[.tmp 4]
theorem c36:aG Tryz.prog 16 s36 Yz 26:=codeOk Tryz.func16 rfl rfl
def s38:aB:=(.seq (.region [⟨some 0,.alloc (.agg [.ag,.ag]),none⟩]) (.seq (.region [⟨some 1,.build [.int .i64 0,.int .i64 0,.str ⟨#[]⟩,.fs []] [(0,1,.val (.int .i64 1)),(1,1,.val (.int .i64 7))],none⟩,⟨some 2,.build [.int .i64 0,.str ⟨#[]⟩,.str ⟨#[]⟩,.str ⟨#[]⟩,.str ⟨#[]⟩,.int .i64 0,.int .i64 0,.str ⟨#[]⟩,.fs [],.fs [],.fs [],.str ⟨#[]⟩,.fs []] [(0,1,.val (.int .i64 3)),(1,1,.val (.str ⟨#[97]⟩)),(3,1,.val (.str ⟨#[120]⟩)),(5,4,.tmp 1)],none⟩,⟨some 3,.aJ 13 [.tmp 2],none⟩,⟨some 4,.build [.fs [],.fs []] [(1,1,.tmp 3)],none⟩,⟨none,.store 2 (sT 0) (sT 4),none⟩])
 .ret))
def r38:List a8:=[.cell true 2 0]
theorem c38:aG Tryz.prog 62 s38 r38 5:=codeOk Tryz.func62 rfl rfl
def s39:aB:=(.seq (.region [aQ 6 (.int .i64 0)]) (.seq (.seq (.region [ab 7 2,ab 8 1,cL 9 .lss 7 8]) (.cond (sT 9) (.seq (.region [ab 10 1,ab 6 10])
 .ret) .skip)) (.seq (.region [ab 11 1,ab 12 0,ab 13 2,ab 14 1,cL 15 .sub 13 14,bC 16 .add 15 (.int .i64 1),bw 17 38 [.tmp 12,.tmp 16],cL 18 .add 11 17,ab 6 18])
 .ret)))
def r39:List a8:=[.tmp 6]
theorem c39:aG Tryz.prog 108 s39 r39 19:=codeOk Tryz.func108 rfl rfl
def s40:aB:=(.seq (.region [aQ 4 (.str ⟨#[]⟩),aQ 5 (.str ⟨#[]⟩)]) (.seq (.region [ab 8 0,ab 9 1,cJ 10 9,bw 11 38 [.tmp 8,.tmp 10],ab 6 11]) (.seq (.region [ab 12 6,bC 13 .add 12 (.int .i64 1),ab 14 0,ab 15 1,cJ 16 15,bC 17 .sub 16 (.int .i64 1),bw 18 38 [.tmp 14,.tmp 17],cL 19 .add 13 18,ab 20 1,cJ 21 20,cL 22 .rem 19 21,ab 7 22]) (.seq (.qregion [⟨ab 23 1,false,0,0,0⟩,⟨ab 24 6,false,0,0,0⟩,⟨cM 25 1 23 24,false,0,0,3⟩,⟨aH 26 25,false,0,0,7⟩,⟨ab 27 1,false,0,0,0⟩,⟨ab 28 7,false,0,0,0⟩,⟨cM 29 1 27 28,false,0,0,48⟩,⟨aH 30 29,false,0,0,112⟩,⟨ab 4 26,false,0,0,15⟩,⟨ab 5 30,false,0,0,511⟩])
 .ret))))
def r40:List a8:=[.tmp 4,.tmp 5]
theorem c40:aG Tryz.prog 109 s40 r40 31:=codeOk Tryz.func109 rfl rfl
def Qt:aB:=(.seq (.region [aQ 4 (.str ⟨#[]⟩)]) (.seq (.region [ab 5 1,ab 6 0,ab 7 1,cJ 8 7,bw 9 38 [.tmp 6,.tmp 8],cM 10 1 5 9,aH 11 10,ab 4 11])
 .ret))
def r41:List a8:=[.tmp 4]
theorem c41:aG Tryz.prog 63 Qt r41 12:=codeOk Tryz.func63 rfl rfl
def Qu:aB:=(.seq (.region [⟨some 4,.alloc (.agg [.int .i64 0,.int .i64 0,.str ⟨#[]⟩,.ag]),none⟩]) (.seq (.seq (.region [ab 7 1,bC 8 .lss 7 (.int .i64 2),ab 9 8,fD 10 0 9 false,⟨some 11,.call (.val (.a6 36 [] [])) [.tmp 10,.val (.int .i64 3)],(some (9,false))⟩,⟨some 12,.pick (sT 9) (.val (.bool true)) (sT 11),none⟩]) (.cond (sT 12) (.seq (.region [ab 13 0,bw 14 114 [.tmp 13],⟨none,.store 4 (sT 4) (sT 14),none⟩])
 .ret) .skip)) (.seq (.region [ab 15 0,⟨some 16,.aJ 1 [.val (.int .i64 3),.val (.int .i64 4),.val (.int .i64 5),.val (.int .i64 6),.val (.int .i64 7),.val (.int .i64 8),.val (.int .i64 9)],none⟩,bw 17 110 [.tmp 15,.tmp 16],⟨some 18,.build [.int .i64 0,.int .i64 0,.str ⟨#[]⟩,.ag] [(0,1,.tmp 17)],none⟩,⟨some 5,.alloc (.agg [.int .i64 0,.int .i64 0,.str ⟨#[]⟩,.ag]),none⟩,⟨none,.store 4 (sT 5) (sT 18),none⟩]) (.seq (.region [aQ 6 (.int .i64 2)]) (.seq (.seq (.region [aN 19 0 5,aH 20 19]) (.block 0 (.seq (.region [bC 22 .eql 20 (.int .i64 8),ab 21 22]) (.cond (sT 21) (.region [aQ 6 (.int .i64 1)]) (.seq (.region [bC 24 .eql 20 (.int .i64 9),ab 23 24]) (.cond (sT 23) (.region [aQ 6 (.int .i64 3)]) .skip)))))) (.seq (.seq (.region [ab 25 6,aQ 26 (.int .i64 0)]) (.block 1 (.loop (.seq (.region [cL 27 .lss 26 25]) (.seq (.cond (sT 27) .skip (.exit 1)) (.seq (.block 2 (.qregion [⟨aN 28 3 5,false,0,1,0⟩,⟨aH 29 28,false,0,1,1⟩,⟨ab 30 0,false,0,0,0⟩,⟨ab 31 1,false,0,0,0⟩,⟨bC 32 .sub 31 (.int .i64 1),false,0,0,8⟩,⟨bw 33 111 [.tmp 30,.tmp 32],true,0,0,28⟩,⟨⟨some 34,.aJ 4 [.tmp 33],none⟩,false,1,1,60⟩,⟨⟨some 35,.append 4 56 (sT 29) (sT 34),none⟩,true,0,0,127⟩,⟨aN 36 3 5,false,2,2,255⟩,⟨⟨none,.store 1 (sT 36) (sT 35),none⟩,true,0,0,511⟩])) (.region [bC 37 .add 26 (.int .i64 1),ab 26 37]))))))) (.seq (.region [bU 38 4 5,⟨none,.store 4 (sT 4) (sT 38),none⟩])
 .ret)))))))
def EH:List a8:=[.cell true 4 4]
theorem R5:aG Tryz.prog 111 Qu EH 39:=codeOk Tryz.func111 rfl rfl
def s43:aB:=(.seq (.region [aQ 4 (.ag)]) (.seq (.region [aQ 5 (.ag)]) (.seq (.seq (.region [ab 9 1,aQ 10 (.int .i64 0)]) (.block 0 (.loop (.seq (.region [cL 11 .lss 10 9]) (.seq (.cond (sT 11) .skip (.exit 0)) (.seq (.block 1 (.seq (.region [ab 12 10,ab 6 12]) (.region [ab 13 5,ab 14 6,⟨some 15,.aJ 1 [.tmp 14],none⟩,⟨some 16,.append 1 8 (sT 13) (sT 15),none⟩,ab 5 16]))) (.region [bC 17 .add 10 (.int .i64 1),ab 10 17]))))))) (.seq (.seq (.region [ab 18 1,bC 19 .sub 18 (.int .i64 1),ab 7 19]) (.block 2 (.loop (.seq (.seq (.region [ab 20 7,bC 21 .gtr 20 (.int .i64 0)]) (.cond (sT 21) .skip (.exit 2))) (.seq (.block 3 (.seq (.region [ab 24 0,ab 25 7,bC 26 .add 25 (.int .i64 1),bw 27 38 [.tmp 24,.tmp 26],ab 8 27]) (.qregion [⟨ab 28 5,false,0,0,0⟩,⟨ab 29 7,false,0,0,0⟩,⟨ab 30 5,false,0,1,0⟩,⟨ab 31 8,false,0,1,0⟩,⟨ab 32 5,false,0,0,0⟩,⟨ab 33 8,false,0,0,0⟩,⟨cM 34 1 32 33,false,0,0,48⟩,⟨aH 35 34,false,0,0,112⟩,⟨ab 36 5,false,0,0,0⟩,⟨ab 37 7,false,0,0,0⟩,⟨cM 38 1 36 37,false,0,0,768⟩,⟨aH 39 38,false,0,0,1792⟩,⟨cM 40 1 28 29,false,0,0,4083⟩,⟨⟨none,.store 1 (sT 40) (sT 35),none⟩,true,0,0,8179⟩,⟨cM 41 1 30 31,false,1,1,16383⟩,⟨⟨none,.store 1 (sT 41) (sT 39),none⟩,true,0,0,32767⟩]))) (.region [ab 22 7,bC 23 .sub 22 (.int .i64 1),ab 7 23])))))) (.seq (.region [ab 42 5,ab 4 42])
 .ret)))))
def YA:List a8:=[.tmp 4]
theorem c43:aG Tryz.prog 112 s43 YA 43:=codeOk Tryz.func112 rfl rfl
def YB:aB:=(.seq (.region [aQ 4 (.int .i64 0)]) (.seq (.seq (.region [ab 5 1,bC 6 .lss 5 (.int .i64 1)]) (.cond (sT 6) (.seq (.region [aQ 4 (.int .i64 0)])
 .ret) .skip)) (.seq (.region [ab 7 0,ab 8 1,cL 9 .rem 7 8,ab 0 9]) (.seq (.seq (.region [ab 10 0,bC 11 .lss 10 (.int .i64 0)]) (.cond (sT 11) (.region [ab 12 0,ab 13 1,cL 14 .add 12 13,ab 0 14]) .skip)) (.seq (.region [ab 15 0,ab 4 15])
 .ret)))))
def YC:List a8:=[.tmp 4]
theorem c44:aG Tryz.prog 113 YB YC 16:=codeOk Tryz.func113 rfl rfl
def YD:aB:=(.seq (.region [⟨some 2,.alloc (.agg [.int .i64 0,.int .i64 0,.str ⟨#[]⟩,.ag]),none⟩]) (.seq (.seq (.region [ab 3 0,bw 4 36 [.tmp 3,.val (.int .i64 2)]]) (.cond (sT 4) (.seq (.region [ab 5 0,⟨some 6,.aJ 1 [.val (.int .i64 0),.val (.int .i64 1),.val (.int .i64 2),.val (.int .i64 5),.val (.int .i64 999)],none⟩,bw 7 110 [.tmp 5,.tmp 6],⟨some 8,.build [.int .i64 0,.int .i64 0,.str ⟨#[]⟩,.ag] [(0,1,.val (.int .i64 1)),(1,1,.tmp 7)],none⟩,⟨none,.store 4 (sT 2) (sT 8),none⟩])
 .ret) .skip)) (.seq (.region [ab 9 0,⟨some 10,.aJ 1 [.val (.str ⟨#[120]⟩),.val (.str ⟨#[121]⟩),.val (.str ⟨#[120]⟩),.val (.str ⟨#[122]⟩)],none⟩,bw 11 63 [.tmp 9,.tmp 10],⟨some 12,.build [.int .i64 0,.int .i64 0,.str ⟨#[]⟩,.ag] [(0,1,.val (.int .i64 2)),(2,1,.tmp 11)],none⟩,⟨none,.store 4 (sT 2) (sT 12),none⟩])
 .ret)))
def YE:List a8:=[.cell true 4 2]
theorem c45:aG Tryz.prog 114 YD YE 13:=codeOk Tryz.func114 rfl rfl
def WU:aB:=(.seq (.region [aQ 2 (.ag)]) (.seq (.seq (.region [ab 3 0,⟨some 4,.rU false (sT 3),none⟩]) (.cond (sT 4) (.seq (.region [aQ 2 (.ag)])
 .ret) .skip)) (.seq (.region [⟨some 5,.o6,none⟩,ab 6 0,⟨some 7,.append 1 16 (sT 5) (sT 6),none⟩,ab 2 7])
 .ret)))
def R6:List a8:=[.tmp 2]
theorem c46:aG Tryz.prog 69 WU R6 8:=codeOk Tryz.func69 rfl rfl
def s47:aB:=(.seq (.region [ab 4 0,cJ 5 4,bC 6 .sub 5 (.int .i64 1),aQ 2 (.int .i64 0),ab 3 6]) (.block 0 (.loop (.seq (.seq (.region [ab 7 2,ab 8 3,cL 9 .lss 7 8]) (.cond (sT 9) .skip (.exit 0))) (.seq (.block 1 (.qregion [⟨ab 14 0,false,0,0,0⟩,⟨ab 15 2,false,0,0,0⟩,⟨ab 16 0,false,0,1,0⟩,⟨ab 17 3,false,0,1,0⟩,⟨ab 18 0,false,0,0,0⟩,⟨ab 19 3,false,0,0,0⟩,⟨cM 20 1 18 19,false,0,0,48⟩,⟨aH 21 20,false,0,0,112⟩,⟨ab 22 0,false,0,0,0⟩,⟨ab 23 2,false,0,0,0⟩,⟨cM 24 1 22 23,false,0,0,768⟩,⟨aH 25 24,false,0,0,1792⟩,⟨cM 26 1 14 15,false,0,0,4083⟩,⟨⟨none,.store 1 (sT 26) (sT 21),none⟩,true,0,0,8179⟩,⟨cM 27 1 16 17,false,1,1,16383⟩,⟨⟨none,.store 1 (sT 27) (sT 25),none⟩,true,0,0,32767⟩])) (.region [ab 10 2,bC 11 .add 10 (.int .i64 1),ab 12 3,bC 13 .sub 12 (.int .i64 1),ab 2 11,ab 3 13]))))))
def YF:List a8:=[]
theorem c47:aG Tryz.prog 115 s47 YF 28:=codeOk Tryz.func115 rfl rfl
def YG:aB:=(.seq (.region [aQ 6 (.int .i64 0)]) (.seq (.seq (.region [ab 7 0,bw 8 36 [.tmp 7,.val (.int .i64 12)]]) (.cond (sT 8) (.seq (.region [ab 9 0,ab 10 1,bC 11 .sub 10 (.int .i64 1),ab 12 2,bC 13 .add 12 (.int .i64 1),ab 14 1,ab 15 2,⟨some 16,.aJ 1 [.tmp 11,.tmp 13,.tmp 14,.tmp 15,.val (.int .i64 (-1099511627776)),.val (.int .i64 1099511627776)],none⟩,bw 17 110 [.tmp 9,.tmp 16],ab 6 17])
 .ret) .skip)) (.seq (.region [ab 18 0,ab 19 1,ab 20 2,bw 21 108 [.tmp 18,.tmp 19,.tmp 20],ab 6 21])
 .ret)))
def YH:List a8:=[.tmp 6]
theorem c48:aG Tryz.prog 116 YG YH 22:=codeOk Tryz.func116 rfl rfl
def s49:aB:=(.seq (.region [aQ 2 (.int .i64 0)]) (.seq (.region [ab 6 0,cJ 7 6,ab 3 7]) (.seq (.seq (.region [ab 8 0,cJ 9 8,aQ 10 (.int .i64 0)]) (.block 0 (.loop (.seq (.region [cL 11 .lss 10 9]) (.seq (.cond (sT 11) .skip (.exit 0)) (.seq (.block 1 (.seq (.region [cM 12 13 8 10,bU 13 13 12,⟨some 5,.alloc (.agg [.int .i64 0,.str ⟨#[]⟩,.str ⟨#[]⟩,.str ⟨#[]⟩,.str ⟨#[]⟩,.int .i64 0,.int .i64 0,.str ⟨#[]⟩,.ag,.ag,.ag,.str ⟨#[]⟩,.ag]),none⟩,⟨none,.store 13 (sT 5) (sT 13),none⟩]) (.qregion [⟨ab 14 3,false,0,0,0⟩,⟨aN 15 9 5,false,0,0,0⟩,⟨aH 16 15,false,0,0,2⟩,⟨bw 17 122 [.tmp 16],false,0,0,6⟩,⟨aN 18 10 5,false,0,0,0⟩,⟨aH 19 18,false,0,0,16⟩,⟨bw 20 122 [.tmp 19],false,0,0,62⟩,⟨cL 21 .add 17 20,false,0,0,126⟩,⟨cL 22 .add 14 21,false,0,0,255⟩,⟨ab 3 22,false,0,0,511⟩]))) (.region [bC 23 .add 10 (.int .i64 1),ab 10 23]))))))) (.seq (.region [ab 24 3,ab 2 24])
 .ret))))
def YI:List a8:=[.tmp 2]
theorem c49:aG Tryz.prog 122 s49 YI 25:=codeOk Tryz.func122 rfl rfl
def YJ:aB:=(.seq (.region [aQ 6 (.ag),aQ 7 (.int .i64 0)]) (.seq (.region [aQ 8 (.ag)]) (.seq (.seq (.region [ab 12 0,cJ 13 12,aQ 14 (.int .i64 0)]) (.block 0 (.loop (.seq (.region [cL 15 .lss 14 13]) (.seq (.cond (sT 15) .skip (.exit 0)) (.seq (.block 1 (.seq (.region [cM 16 13 12 14,bU 17 13 16,⟨some 10,.alloc (.agg [.int .i64 0,.str ⟨#[]⟩,.str ⟨#[]⟩,.str ⟨#[]⟩,.str ⟨#[]⟩,.int .i64 0,.int .i64 0,.str ⟨#[]⟩,.ag,.ag,.ag,.str ⟨#[]⟩,.ag]),none⟩,⟨none,.store 13 (sT 10) (sT 17),none⟩]) (.seq (.region [ab 18 1,ab 11 18]) (.seq (.qregion [⟨aN 19 12 10,false,0,0,0⟩,⟨aH 20 19,false,0,0,1⟩,⟨bw 21 69 [.tmp 20],false,0,0,3⟩,⟨aN 22 5 10,false,0,0,0⟩,⟨bU 23 4 22,false,0,0,8⟩,⟨bw 24 153 [.tmp 23],false,0,0,31⟩,⟨aN 25 12 10,false,0,0,31⟩,⟨⟨none,.store 1 (sT 25) (sT 21),none⟩,true,0,0,127⟩,⟨aN 26 5 10,false,1,1,255⟩,⟨⟨none,.store 4 (sT 26) (sT 24),none⟩,true,0,0,511⟩]) (.seq (.region [aN 28 9 10,aH 29 28,ab 30 1,bC 31 .add 30 (.int .i64 1),ab 32 2,bw 33 138 [.tmp 29,.tmp 31,.tmp 32],ab 27 33,⟨some 34,.extract (sT 27) 0,none⟩,⟨some 35,.extract (sT 27) 1,none⟩,aN 36 9 10,⟨none,.store 1 (sT 36) (sT 34),none⟩,ab 1 35]) (.seq (.region [aN 38 10 10,aH 39 38,ab 40 1,ab 41 2,bw 42 138 [.tmp 39,.tmp 40,.tmp 41],ab 37 42,⟨some 43,.extract (sT 37) 0,none⟩,⟨some 44,.extract (sT 37) 1,none⟩,aN 45 10 10,⟨none,.store 1 (sT 45) (sT 43),none⟩,ab 1 44]) (.region [ab 46 8,ab 47 2,ab 48 11,bU 49 13 10,⟨some 50,.call (sT 47) [.tmp 48,.tmp 49],none⟩,⟨some 51,.append 13 216 (sT 46) (sT 50),none⟩,ab 8 51]))))))) (.region [bC 52 .add 14 (.int .i64 1),ab 14 52]))))))) (.seq (.region [ab 53 8,ab 54 1,ab 6 53,ab 7 54])
 .ret))))
def R7:List a8:=[.tmp 6,.tmp 7]
theorem c50:aG Tryz.prog 138 YJ R7 55:=codeOk Tryz.func138 rfl rfl
def YK:aB:=(.seq (.region [aQ 6 (.int .i64 0)]) (.seq (.seq (.region [ab 9 0,cJ 10 9,aQ 11 (.int .i64 0)]) (.block 0 (.loop (.seq (.region [cL 12 .lss 11 10]) (.seq (.cond (sT 12) .skip (.exit 0)) (.seq (.block 1 (.seq (.region [cM 13 13 9 11,bU 14 13 13,⟨some 8,.alloc (.agg [.int .i64 0,.str ⟨#[]⟩,.str ⟨#[]⟩,.str ⟨#[]⟩,.str ⟨#[]⟩,.int .i64 0,.int .i64 0,.str ⟨#[]⟩,.ag,.ag,.ag,.str ⟨#[]⟩,.ag]),none⟩,⟨none,.store 13 (sT 8) (sT 14),none⟩]) (.seq (.region [ab 15 2,ab 16 1,bU 17 13 8,⟨some 18,.call (sT 15) [.tmp 16,.tmp 17],none⟩]) (.seq (.region [aN 19 9 8,aH 20 19,ab 21 1,bC 22 .add 21 (.int .i64 1),ab 23 2,bw 24 149 [.tmp 20,.tmp 22,.tmp 23],ab 1 24]) (.region [aN 25 10 8,aH 26 25,ab 27 1,ab 28 2,bw 29 149 [.tmp 26,.tmp 27,.tmp 28],ab 1 29]))))) (.region [bC 30 .add 11 (.int .i64 1),ab 11 30]))))))) (.seq (.region [ab 31 1,ab 6 31])
 .ret)))
def YL:List a8:=[.tmp 6]
theorem c51:aG Tryz.prog 149 YK YL 32:=codeOk Tryz.func149 rfl rfl
def s52:aB:=(.seq (.region [⟨some 4,.box (sT 1),none⟩]) (.region [aH 5 2,ab 6 0,bU 7 13 4,⟨some 8,.call (sT 5) [.tmp 6,.val (.int .i64 (-1)),.tmp 7],none⟩]))
def r52:List a8:=[]
theorem c52:aG Tryz.prog 162 s52 r52 9:=codeOk Tryz.func162 rfl rfl
def s53:aB:=(.seq (.region [⟨some 5,.box (sT 1),none⟩]) (.region [aH 6 2,ab 7 0,aH 8 3,bU 9 13 5,⟨some 10,.call (sT 6) [.tmp 7,.tmp 8,.tmp 9],none⟩]))
def r53:List a8:=[]
theorem c53:aG Tryz.prog 163 s53 r53 11:=codeOk Tryz.func163 rfl rfl
def s54:aB:=(.seq (.region [aQ 2 (.bool false)]) (.seq (.seq (.region [ab 4 0,⟨some 5,.len true (sT 4),none⟩,bw 6 158 [.tmp 5,.val (.int .i64 1),.val (.int .i64 40)],⟨some 7,.un .not (sT 6),none⟩,ab 8 7,fD 9 0 8 false,⟨some 10,.uX (sT 9) (.val (.int .i64 0)),(some (8,false))⟩,⟨some 11,.call (.val (.a6 159 [] [])) [.val (.str ⟨#[97,98,99,100,101,102,103,104,105,106,107,108,109,110,111,112,113,114,115,116,117,118,119,120,121,122]⟩),.tmp 10],(some (8,false))⟩,⟨some 12,.bin .lss (sT 11) (.val (.int .i64 0)),(some (8,false))⟩,⟨some 13,.pick (sT 8) (.val (.bool true)) (sT 12),none⟩,ab 14 13,⟨some 15,.aJ 1 [.val (.str ⟨#[112,114,111,99]⟩),.val (.str ⟨#[109,97,105,110]⟩),.val (.str ⟨#[105,102]⟩),.val (.str ⟨#[101,108,115,101]⟩)],(some (14,false))⟩,fD 16 0 14 false,⟨some 17,.call (.val (.a6 51 [] [])) [.tmp 15,.tmp 16],(some (14,false))⟩,⟨some 18,.pick (sT 14) (.val (.bool true)) (sT 17),none⟩]) (.cond (sT 18) (.seq (.region [aQ 2 (.bool false)])
 .ret) .skip)) (.seq (.seq (.region [ab 19 0,⟨some 20,.len true (sT 19),none⟩,aQ 21 (.int .i64 0)]) (.block 0 (.loop (.seq (.region [cL 22 .lss 21 20]) (.seq (.cond (sT 22) .skip (.exit 0)) (.seq (.block 1 (.seq (.region [ab 23 21,ab 3 23]) (.seq (.region [ab 24 0,ab 25 3,⟨some 26,.uX (sT 24) (sT 25),none⟩,⟨some 27,.call (.val (.a6 159 [] [])) [.val (.str ⟨#[97,98,99,100,101,102,103,104,105,106,107,108,109,110,111,112,113,114,115,116,117,118,119,120,121,122,48,49,50,51,52,53,54,55,56,57,95]⟩),.tmp 26],none⟩,bC 28 .lss 27 (.int .i64 0)]) (.cond (sT 28) (.seq (.region [aQ 2 (.bool false)])
 .ret) .skip)))) (.region [bC 29 .add 21 (.int .i64 1),ab 21 29]))))))) (.seq (.region [aQ 2 (.bool true)])
 .ret))))
def WV:List a8:=[.tmp 2]
theorem c54:aG Tryz.prog 82 s54 WV 30:=codeOk Tryz.func82 rfl rfl
def s55:aB:=(.seq (.region [aQ 6 (.int .i64 0)]) (.seq (.seq (.region [ab 12 0,cJ 13 12,aQ 14 (.int .i64 0)]) (.block 0 (.loop (.seq (.region [cL 15 .lss 14 13]) (.seq (.cond (sT 15) .skip (.exit 0)) (.seq (.block 1 (.seq (.region [cM 16 13 12 14,bU 17 13 16,⟨some 8,.alloc (.agg [.int .i64 0,.str ⟨#[]⟩,.str ⟨#[]⟩,.str ⟨#[]⟩,.str ⟨#[]⟩,.int .i64 0,.int .i64 0,.str ⟨#[]⟩,.ag,.ag,.ag,.str ⟨#[]⟩,.ag]),none⟩,⟨none,.store 13 (sT 8) (sT 17),none⟩]) (.seq (.region [ab 18 2,⟨some 19,.b5 (sT 18),none⟩,aH 20 19,bC 21 .add 20 (.int .i64 1),⟨some 22,.b5 (sT 18),none⟩,⟨none,.store 1 (sT 22) (sT 21),none⟩]) (.seq (.seq (.region [bU 23 13 8,ab 24 1,bw 25 181 [.tmp 23,.tmp 24],ab 9 25]) (.seq (.region [ab 26 9,bC 27 .neq 26 (.int .i64 0)]) (.cond (sT 27) (.seq (.region [ab 28 9,ab 6 28])
 .ret) .skip))) (.seq (.seq (.region [aN 29 9 8,aH 30 29,ab 31 1,bC 32 .add 31 (.int .i64 1),ab 33 2,bw 34 126 [.tmp 30,.tmp 32,.tmp 33],⟨some 35,.aJ 1 [.tmp 34,.val (.int .i64 0)],none⟩,bw 36 182 [.tmp 35],ab 10 36]) (.seq (.region [ab 37 10,bC 38 .neq 37 (.int .i64 0)]) (.cond (sT 38) (.seq (.region [ab 39 10,ab 6 39])
 .ret) .skip))) (.seq (.region [aN 40 10 8,aH 41 40,ab 42 1,bC 43 .add 42 (.int .i64 1),ab 44 2,bw 45 126 [.tmp 41,.tmp 43,.tmp 44],ab 11 45]) (.seq (.region [ab 46 11,bC 47 .neq 46 (.int .i64 0)]) (.cond (sT 47) (.seq (.region [ab 48 11,ab 6 48])
 .ret) .skip)))))))) (.region [bC 49 .add 14 (.int .i64 1),ab 14 49]))))))) (.seq (.region [aQ 6 (.int .i64 0)])
 .ret)))
def R8:List a8:=[.tmp 6]
theorem c55:aG Tryz.prog 126 s55 R8 50:=codeOk Tryz.func126 rfl rfl
def s56:aB:=(.seq (.region [ab 11 0,cJ 12 11,aQ 13 (.int .i64 0)]) (.block 0 (.loop (.seq (.region [cL 14 .lss 13 12]) (.seq (.cond (sT 14) .skip (.exit 0)) (.seq (.block 1 (.seq (.region [ab 15 13,cM 16 13 11 13,bU 17 13 16,⟨some 9,.alloc (.agg [.int .i64 0,.str ⟨#[]⟩,.str ⟨#[]⟩,.str ⟨#[]⟩,.str ⟨#[]⟩,.int .i64 0,.int .i64 0,.str ⟨#[]⟩,.ag,.ag,.ag,.str ⟨#[]⟩,.ag]),none⟩,ab 8 15,⟨none,.store 13 (sT 9) (sT 17),none⟩]) (.seq (.region [ab 18 2,ab 19 18,fD 20 8 19 true,fD 21 0 19 true,⟨some 22,.len false (sT 21),(some (19,true))⟩,⟨some 23,.bin .sub (sT 22) (.val (.int .i64 1)),(some (19,true))⟩,⟨some 24,.bin .eql (sT 20) (sT 23),(some (19,true))⟩,⟨some 25,.pick (sT 19) (sT 24) (.val (.bool false)),none⟩,ab 10 25]) (.seq (.region [aH 26 3,bU 27 13 9,ab 28 1,ab 29 10,⟨some 30,.build [.int .i64 0,.str ⟨#[]⟩,.str ⟨#[]⟩,.str ⟨#[]⟩,.str ⟨#[]⟩,.int .i64 0,.int .i64 0,.str ⟨#[]⟩,.ag,.ag,.ag,.str ⟨#[]⟩,.ag,.int .i64 0,.bool false] [(0,13,.tmp 27),(13,1,.tmp 28),(14,1,.tmp 29)],none⟩,⟨some 31,.aJ 15 [.tmp 30],none⟩,⟨some 32,.append 15 232 (sT 26) (sT 31),none⟩,⟨none,.store 1 (sT 3) (sT 32),none⟩]) (.seq (.region [aH 33 4,aN 34 9 9,aH 35 34,ab 36 1,ab 37 10,⟨some 38,.call (sT 33) [.tmp 35,.tmp 36,.tmp 37],none⟩]) (.region [aH 39 4,aN 40 10 9,aH 41 40,ab 42 1,ab 43 10,⟨some 44,.call (sT 39) [.tmp 41,.tmp 42,.tmp 43],none⟩])))))) (.region [bC 45 .add 13 (.int .i64 1),ab 13 45])))))))
def r56:List a8:=[]
theorem c56:aG Tryz.prog 127 s56 r56 46:=codeOk Tryz.func127 rfl rfl
def s57:aB:=(.seq (.region [aQ 4 (.int .i64 0)]) (.seq (.seq (.region [ab 6 0,cJ 7 6,aQ 8 (.int .i64 0)]) (.block 0 (.loop (.seq (.region [cL 9 .lss 8 7]) (.seq (.cond (sT 9) .skip (.exit 0)) (.seq (.block 1 (.seq (.region [ab 10 8,ab 5 10]) (.seq (.region [ab 11 1,ab 12 0,ab 13 5,cM 14 1 12 13,aH 15 14,⟨some 16,.call (sT 11) [.tmp 15],none⟩]) (.cond (sT 16) (.seq (.region [ab 17 5,ab 4 17])
 .ret) .skip)))) (.region [bC 18 .add 8 (.int .i64 1),ab 8 18]))))))) (.seq (.region [aQ 4 (.int .i64 (-1))])
 .ret)))
def YM:List a8:=[.tmp 4]
theorem c57:aG Tryz.prog 128 s57 YM 19:=codeOk Tryz.func128 rfl rfl
def s58:aB:=(.seq (.region [aQ 4 (.int .i64 0)]) (.seq (.seq (.region [ab 6 0,cJ 7 6,aQ 8 (.int .i64 0)]) (.block 0 (.loop (.seq (.region [cL 9 .lss 8 7]) (.seq (.cond (sT 9) .skip (.exit 0)) (.seq (.block 1 (.seq (.region [ab 10 8,ab 5 10]) (.seq (.region [ab 11 1,ab 12 0,ab 13 5,cM 14 1 12 13,aH 15 14,cL 16 .eql 11 15]) (.cond (sT 16) (.seq (.region [ab 17 5,ab 4 17])
 .ret) .skip)))) (.region [bC 18 .add 8 (.int .i64 1),ab 8 18]))))))) (.seq (.region [aQ 4 (.int .i64 (-1))])
 .ret)))
def YN:List a8:=[.tmp 4]
theorem c58:aG Tryz.prog 124 s58 YN 19:=codeOk Tryz.func124 rfl rfl
def s59:aB:=(.seq (.region [aQ 4 (.int .i64 0)]) (.seq (.seq (.region [ab 6 0,cJ 7 6,aQ 8 (.int .i64 0)]) (.block 0 (.loop (.seq (.region [cL 9 .lss 8 7]) (.seq (.cond (sT 9) .skip (.exit 0)) (.seq (.block 1 (.seq (.region [ab 10 8,ab 5 10]) (.seq (.region [ab 11 1,ab 12 0,ab 13 5,cM 14 3 12 13,bU 15 3 14,⟨some 16,.call (sT 11) [.tmp 15],none⟩]) (.cond (sT 16) (.seq (.region [ab 17 5,ab 4 17])
 .ret) .skip)))) (.region [bC 18 .add 8 (.int .i64 1),ab 8 18]))))))) (.seq (.region [aQ 4 (.int .i64 (-1))])
 .ret)))
def YO:List a8:=[.tmp 4]
theorem c59:aG Tryz.prog 129 s59 YO 19:=codeOk Tryz.func129 rfl rfl
def s60:aB:=(.seq (.region [⟨some 2,.box (sT 0),none⟩,aQ 3 (.bool false)]) (.seq (.region [aN 4 0 2,aH 5 4,aH 6 1,cL 7 .eql 5 6,ab 3 7])
 .ret))
def r60:List a8:=[.tmp 3]
theorem c60:aG Tryz.prog 130 s60 r60 8:=codeOk Tryz.func130 rfl rfl
def s61:aB:=(.seq (.region [aQ 4 (.int .i64 0)]) (.seq (.region [ab 8 0,ab 9 1,cM 10 3 8 9,bU 11 3 10,⟨some 5,.alloc (.agg [.str ⟨#[]⟩,.ag,.ag]),none⟩,⟨none,.store 3 (sT 5) (sT 11),none⟩]) (.seq (.block 0 (.seq (.region [aN 13 0 5,aH 14 13,bw 15 145 [.tmp 14],⟨some 16,.un .not (sT 15),none⟩,ab 12 16]) (.cond (sT 12) (.seq (.region [aQ 4 (.int .i64 5)])
 .ret) (.seq (.region [ab 18 0,ab 19 1,⟨some 20,.slice 3 (sT 18) none (some (sT 19)),none⟩,⟨some 21,.fC 189 [] [.tmp 5],none⟩,bw 22 188 [.tmp 20,.tmp 21],ab 17 22]) (.cond (sT 17) (.seq (.region [aQ 4 (.int .i64 6)])
 .ret) (.seq (.region [aN 24 1 5,aH 25 24,cJ 26 25,bC 27 .eql 26 (.int .i64 0),ab 23 27]) (.cond (sT 23) (.seq (.region [aQ 4 (.int .i64 8)])
 .ret) (.seq (.region [aN 29 1 5,aH 30 29,cJ 31 30,bC 32 .gtr 31 (.int .i64 12),ab 28 32]) (.cond (sT 28) (.seq (.region [aQ 4 (.int .i64 2)])
 .ret) .skip))))))))) (.seq (.seq (.region [aN 33 1 5,aH 34 33,cJ 35 34,aQ 36 (.int .i64 0)]) (.block 1 (.loop (.seq (.region [cL 37 .lss 36 35]) (.seq (.cond (sT 37) .skip (.exit 1)) (.seq (.block 2 (.seq (.region [ab 38 36,cM 39 1 34 36,aH 40 39,ab 6 38,ab 7 40]) (.seq (.seq (.region [ab 41 7,bw 42 145 [.tmp 41],⟨some 43,.un .not (sT 42),none⟩]) (.cond (sT 43) (.seq (.region [aQ 4 (.int .i64 5)])
 .ret) .skip)) (.seq (.region [aN 44 1 5,aH 45 44,ab 46 6,⟨some 47,.slice 1 (sT 45) none (some (sT 46)),none⟩,ab 48 7,bw 49 51 [.tmp 47,.tmp 48]]) (.cond (sT 49) (.seq (.region [aQ 4 (.int .i64 6)])
 .ret) .skip))))) (.region [bC 50 .add 36 (.int .i64 1),ab 36 50]))))))) (.seq (.region [aN 51 2 5,aH 52 51,bw 53 142 [.tmp 52,.val (.int .i64 1)],ab 4 53])
 .ret)))))
def WW:List a8:=[.tmp 4]
theorem c61:aG Tryz.prog 141 s61 WW 54:=codeOk Tryz.func141 rfl rfl
def s62:aB:=(.seq (.region [aQ 4 (.int .i64 0)]) (.seq (.seq (.region [ab 10 0,cJ 11 10,aQ 12 (.int .i64 0)]) (.block 0 (.loop (.seq (.region [cL 13 .lss 12 11]) (.seq (.cond (sT 13) .skip (.exit 0)) (.seq (.block 1 (.seq (.region [cM 14 13 10 12,bU 15 13 14,⟨some 6,.alloc (.agg [.int .i64 0,.str ⟨#[]⟩,.str ⟨#[]⟩,.str ⟨#[]⟩,.str ⟨#[]⟩,.int .i64 0,.int .i64 0,.str ⟨#[]⟩,.ag,.ag,.ag,.str ⟨#[]⟩,.ag]),none⟩,⟨none,.store 13 (sT 6) (sT 15),none⟩]) (.seq (.seq (.region [bU 16 13 6,ab 17 1,bw 18 190 [.tmp 16,.tmp 17],ab 7 18]) (.seq (.region [ab 19 7,bC 20 .neq 19 (.int .i64 0)]) (.cond (sT 20) (.seq (.region [ab 21 7,ab 4 21])
 .ret) .skip))) (.seq (.seq (.region [aN 22 9 6,aH 23 22,ab 24 1,bC 25 .add 24 (.int .i64 1),bw 26 142 [.tmp 23,.tmp 25],ab 8 26]) (.seq (.region [ab 27 8,bC 28 .neq 27 (.int .i64 0)]) (.cond (sT 28) (.seq (.region [ab 29 8,ab 4 29])
 .ret) .skip))) (.seq (.region [aN 30 10 6,aH 31 30,ab 32 1,bC 33 .add 32 (.int .i64 1),bw 34 142 [.tmp 31,.tmp 33],ab 9 34]) (.seq (.region [ab 35 9,bC 36 .neq 35 (.int .i64 0)]) (.cond (sT 36) (.seq (.region [ab 37 9,ab 4 37])
 .ret) .skip))))))) (.region [bC 38 .add 12 (.int .i64 1),ab 12 38]))))))) (.seq (.region [aQ 4 (.int .i64 0)])
 .ret)))
def WX:List a8:=[.tmp 4]
theorem c62:aG Tryz.prog 142 s62 WX 39:=codeOk Tryz.func142 rfl rfl
def s63:aB:=(.seq (.region [⟨some 1,.box (sT 0),none⟩,aQ 2 (.ag)]) (.seq (.seq (.region [aN 3 0 1,aH 4 3]) (.block 0 (.seq (.region [bC 6 .eql 4 (.int .i64 5),ab 5 6]) (.cond (sT 5) (.seq (.region [aN 7 12 1,aH 8 7,ab 2 8])
 .ret) (.seq (.seq (.region [bC 10 .eql 4 (.int .i64 1),ab 9 10]) (.cond (sT 9) .skip (.region [bC 11 .eql 4 (.int .i64 2),ab 9 11]))) (.cond (sT 9) (.seq (.region [aN 12 1 1,aH 13 12,aN 14 2 1,aH 15 14,⟨some 16,.aJ 1 [.tmp 13,.tmp 15],none⟩,ab 2 16])
 .ret) .skip)))))) (.seq (.region [aN 17 1 1,aH 18 17,⟨some 19,.aJ 1 [.tmp 18],none⟩,ab 2 19])
 .ret)))
def r63:List a8:=[.tmp 2]
theorem c63:aG Tryz.prog 125 s63 r63 20:=codeOk Tryz.func125 rfl rfl
def s64:aB:=(.seq (.region [aQ 4 (.bool false)]) (.seq (.region [aN 5 0 1,aH 6 5,aH 7 2,cM 8 3 6 7,aN 9 1 8,aH 10 9,ab 11 0,bw 12 51 [.tmp 10,.tmp 11],⟨some 13,.un .not (sT 12),none⟩,ab 4 13])
 .ret))
def r64:List a8:=[.tmp 4]
theorem c64:aG Tryz.prog 191 s64 r64 14:=codeOk Tryz.func191 rfl rfl
def s65:aB:=(.seq (.region [⟨some 2,.box (sT 0),none⟩,⟨some 3,.box (sT 1),none⟩,aQ 4 (.int .i64 0)]) (.seq (.region [aN 5 0 2,aH 6 5,⟨some 7,.fC 249 [] [.tmp 3],none⟩,bw 8 129 [.tmp 6,.tmp 7],ab 4 8])
 .ret))
def r65:List a8:=[.tmp 4]
theorem c65:aG Tryz.prog 192 s65 r65 9:=codeOk Tryz.func192 rfl rfl
def s68:aB:=(.seq (.region [⟨some 1,.box (sT 0),none⟩,⟨some 2,.alloc (.agg [.int .i64 0,.int .i64 0,.str ⟨#[]⟩,.ag]),none⟩]) (.seq (.region [aQ 3 (.ag)]) (.seq (.seq (.region [aN 6 3 1,aH 7 6,cJ 8 7,aQ 9 (.int .i64 0)]) (.block 0 (.loop (.seq (.region [cL 10 .lss 9 8]) (.seq (.cond (sT 10) .skip (.exit 0)) (.seq (.block 1 (.seq (.region [cM 11 4 7 9,bU 12 4 11,⟨some 5,.alloc (.agg [.int .i64 0,.int .i64 0,.str ⟨#[]⟩,.ag]),none⟩,⟨none,.store 4 (sT 5) (sT 12),none⟩]) (.region [ab 13 3,bU 14 4 5,bw 15 153 [.tmp 14],⟨some 16,.aJ 4 [.tmp 15],none⟩,⟨some 17,.append 4 56 (sT 13) (sT 16),none⟩,ab 3 17]))) (.region [bC 18 .add 9 (.int .i64 1),ab 9 18]))))))) (.seq (.region [ab 19 3,aN 20 3 1,⟨none,.store 1 (sT 20) (sT 19),none⟩]) (.seq (.region [bU 21 4 1,⟨none,.store 4 (sT 2) (sT 21),none⟩])
 .ret)))))
def YR:List a8:=[.cell true 4 2]
theorem c68:aG Tryz.prog 153 s68 YR 22:=codeOk Tryz.func153 rfl rfl
def s69:aB:=(.seq (.region [aQ 4 (.int .i64 0)]) (.seq (.region [ab 5 0,ab 6 1,bw 7 196 [.tmp 5,.tmp 6],ab 4 7])
 .ret))
def r69:List a8:=[.tmp 4]
theorem c69:aG Tryz.prog 159 s69 r69 8:=codeOk Tryz.func159 rfl rfl
def Nt:aB:=(.seq (.region [⟨some 2,.box (sT 0),none⟩,aQ 4 (.int .i64 0)]) (.seq (.seq (.region [ab 12 1,bC 13 .gtr 12 (.int .i64 20)]) (.cond (sT 13) (.seq (.region [aQ 4 (.int .i64 2)])
 .ret) .skip)) (.seq (.seq (.region [aN 14 0 2,aH 15 14,bw 16 158 [.tmp 15,.val (.int .i64 1),.val (.int .i64 5)],⟨some 17,.un .not (sT 16),none⟩]) (.cond (sT 17) (.seq (.region [aQ 4 (.int .i64 4)])
 .ret) .skip)) (.seq (.region [aN 18 0 2,aH 19 18,⟨some 5,.alloc (.int .i64 0),none⟩,⟨none,.store 1 (sT 5) (sT 19),none⟩]) (.seq (.region [⟨some 20,.fC 236 [] [.tmp 5],none⟩,ab 6 20]) (.seq (.region [⟨some 7,.alloc (.bool false),none⟩,⟨none,.store 1 (sT 7) (.val (.bool true)),none⟩]) (.seq (.region [⟨some 8,.alloc (.ag),none⟩]) (.seq (.region [⟨some 21,.fC 238 [] [.tmp 8,.tmp 7],none⟩,ab 9 21]) (.seq (.qregion [⟨ab 22 9,false,0,1,0⟩,⟨ab 23 6,false,0,0,0⟩,⟨⟨some 24,.aJ 1 [.val (.int .i64 1),.val (.int .i64 2),.val (.int .i64 3),.val (.int .i64 4)],none⟩,false,0,0,0⟩,⟨⟨some 25,.call (sT 23) [.tmp 24],none⟩,true,0,0,6⟩,⟨aN 26 1 2,false,0,1,0⟩,⟨aH 27 26,false,0,1,16⟩,⟨⟨some 28,.call (sT 22) [.tmp 25,.tmp 27],none⟩,true,0,0,63⟩]) (.seq (.qregion [⟨ab 29 9,false,0,1,0⟩,⟨ab 30 6,false,0,0,0⟩,⟨⟨some 31,.aJ 1 [.val (.int .i64 1),.val (.int .i64 2)],none⟩,false,0,0,0⟩,⟨⟨some 32,.call (sT 30) [.tmp 31],none⟩,true,0,0,6⟩,⟨aN 33 2 2,false,0,1,0⟩,⟨aH 34 33,false,0,1,16⟩,⟨⟨some 35,.call (sT 29) [.tmp 32,.tmp 34],none⟩,true,0,0,63⟩]) (.seq (.qregion [⟨ab 36 9,false,0,1,0⟩,⟨ab 37 6,false,0,0,0⟩,⟨⟨some 38,.aJ 1 [.val (.int .i64 1),.val (.int .i64 3)],none⟩,false,0,0,0⟩,⟨⟨some 39,.call (sT 37) [.tmp 38],none⟩,true,0,0,6⟩,⟨aN 40 3 2,false,0,1,0⟩,⟨aH 41 40,false,0,1,16⟩,⟨⟨some 42,.call (sT 36) [.tmp 39,.tmp 41],none⟩,true,0,0,63⟩]) (.seq (.qregion [⟨ab 43 9,false,0,1,0⟩,⟨ab 44 6,false,0,0,0⟩,⟨⟨some 45,.aJ 1 [.val (.int .i64 2)],none⟩,false,0,0,0⟩,⟨⟨some 46,.call (sT 44) [.tmp 45],none⟩,true,0,0,6⟩,⟨aN 47 4 2,false,0,1,0⟩,⟨aH 48 47,false,0,1,16⟩,⟨⟨some 49,.call (sT 43) [.tmp 46,.tmp 48],none⟩,true,0,0,63⟩]) (.seq (.qregion [⟨ab 50 9,false,0,1,0⟩,⟨ab 51 6,false,0,0,0⟩,⟨⟨some 52,.aJ 1 [.val (.int .i64 5)],none⟩,false,0,0,0⟩,⟨⟨some 53,.call (sT 51) [.tmp 52],none⟩,true,0,0,6⟩,⟨aN 54 11 2,false,0,1,0⟩,⟨aH 55 54,false,0,1,16⟩,⟨⟨some 56,.call (sT 50) [.tmp 53,.tmp 55],none⟩,true,0,0,63⟩]) (.seq (.region [ab 57 6,⟨some 58,.aJ 1 [.val (.int .i64 1),.val (.int .i64 3),.val (.int .i64 4)],none⟩,⟨some 59,.call (sT 57) [.tmp 58],none⟩,ab 10 59]) (.seq (.region [aH 60 7,ab 61 60,fD 62 10 61 true,fD 63 62 61 true,dP 64 5 2 63 false,⟨some 65,.load true 4 (sT 64),(some (63,false))⟩,⟨some 66,.call (.val (.a6 239 [] [])) [.tmp 65],(some (63,false))⟩,⟨some 67,.pick (sT 63) (.val (.bool true)) (sT 66),(some (61,true))⟩,⟨some 68,.pick (sT 61) (sT 67) (.val (.bool false)),none⟩,ab 69 68,dy 70 5 69 true,⟨some 71,.bin .eql (sT 70) (.val (.int .i64 4)),(some (69,true))⟩,fD 72 71 69 true,dP 73 9 2 72 false,dy 74 73 72 false,⟨some 75,.len false (sT 74),(some (72,false))⟩,⟨some 76,.bin .eql (sT 75) (.val (.int .i64 0)),(some (72,false))⟩,fD 77 76 72 false,dP 78 10 2 77 true,dy 79 78 77 true,⟨some 80,.len false (sT 79),(some (77,true))⟩,⟨some 81,.bin .eql (sT 80) (.val (.int .i64 0)),(some (77,true))⟩,⟨some 82,.pick (sT 77) (sT 81) (.val (.bool false)),(some (72,false))⟩,⟨some 83,.pick (sT 72) (.val (.bool true)) (sT 82),(some (69,true))⟩,⟨some 84,.pick (sT 69) (sT 83) (.val (.bool false)),none⟩,ab 85 84,dy 86 5 85 true,⟨some 87,.bin .eql (sT 86) (.val (.int .i64 5)),(some (85,true))⟩,fD 88 87 85 true,dP 89 12 2 88 false,dy 90 89 88 false,⟨some 91,.len false (sT 90),(some (88,false))⟩,⟨some 92,.bin .eql (sT 91) (.val (.int .i64 0)),(some (88,false))⟩,⟨some 93,.pick (sT 88) (.val (.bool true)) (sT 92),(some (85,true))⟩,⟨some 94,.pick (sT 85) (sT 93) (.val (.bool false)),none⟩,⟨none,.store 1 (sT 7) (sT 94),none⟩]) (.seq (.seq (.region [aH 95 7,⟨some 96,.un .not (sT 95),none⟩]) (.cond (sT 96) (.seq (.region [aQ 4 (.int .i64 3)])
 .ret) .skip)) (.seq (.seq (.region [aH 97 8,bw 98 240 [.tmp 97],ab 11 98]) (.seq (.region [ab 99 11,bC 100 .neq 99 (.int .i64 0)]) (.cond (sT 100) (.seq (.region [ab 101 11,ab 4 101])
 .ret) .skip))) (.seq (.seq (.region [ab 102 10]) (.cond (sT 102) (.seq (.region [aN 103 5 2,bU 104 4 103,bw 105 241 [.tmp 104],ab 4 105])
 .ret) .skip)) (.seq (.seq (.region [aH 106 5,bC 107 .eql 106 (.int .i64 5)]) (.cond (sT 107) (.seq (.block 0 (.seq (.region [aN 109 12 2,aH 110 109,cJ 111 110,bC 112 .eql 111 (.int .i64 0),ab 108 112]) (.cond (sT 108) (.seq (.region [aQ 4 (.int .i64 8)])
 .ret) (.seq (.region [aN 114 12 2,aH 115 114,cJ 116 115,bC 117 .gtr 116 (.int .i64 12),ab 113 117]) (.cond (sT 113) (.seq (.region [aQ 4 (.int .i64 2)])
 .ret) .skip))))) (.seq (.region [aN 118 12 2,aH 119 118,bw 120 240 [.tmp 119],ab 4 120])
 .ret)) .skip)) (.seq (.region [aQ 4 (.int .i64 0)])
 .ret))))))))))))))))))))
def Nu:List a8:=[.tmp 4]
theorem Qv:aG Tryz.prog 181 Nt Nu 121:=codeOk Tryz.func181 rfl rfl
def s71:aB:=(.seq (.region [aQ 2 (.int .i64 0)]) (.seq (.seq (.region [ab 5 0,cJ 6 5,aQ 7 (.int .i64 0)]) (.block 0 (.loop (.seq (.region [cL 8 .lss 7 6]) (.seq (.cond (sT 8) .skip (.exit 0)) (.seq (.block 1 (.seq (.region [cM 9 1 5 7,aH 10 9,ab 4 10]) (.seq (.region [ab 11 4,bC 12 .neq 11 (.int .i64 0)]) (.cond (sT 12) (.seq (.region [ab 13 4,ab 2 13])
 .ret) .skip)))) (.region [bC 14 .add 7 (.int .i64 1),ab 7 14]))))))) (.seq (.region [aQ 2 (.int .i64 0)])
 .ret)))
def WY:List a8:=[.tmp 2]
theorem c71:aG Tryz.prog 182 s71 WY 15:=codeOk Tryz.func182 rfl rfl
def s72:aB:=(.seq (.region [aQ 2 (.bool false)]) (.seq (.region [ab 3 0,bC 4 .neq 3 (.str ⟨#[]⟩),ab 5 4,fD 6 0 5 true,⟨some 7,.len true (sT 6),(some (5,true))⟩,⟨some 8,.bin .leq (sT 7) (.val (.int .i64 40)),(some (5,true))⟩,⟨some 9,.pick (sT 5) (sT 8) (.val (.bool false)),none⟩,ab 10 9,fD 11 0 10 true,⟨some 12,.call (.val (.a6 193 [] [])) [.tmp 11],(some (10,true))⟩,⟨some 13,.un .not (sT 12),(some (10,true))⟩,⟨some 14,.pick (sT 10) (sT 13) (.val (.bool false)),none⟩,ab 15 14,fD 16 0 15 true,⟨some 17,.uX (sT 16) (.val (.int .i64 0)),(some (15,true))⟩,⟨some 18,.call (.val (.a6 159 [] [])) [.val (.str ⟨#[97,98,99,100,101,102,103,104,105,106,107,108,109,110,111,112,113,114,115,116,117,118,119,120,121,122]⟩),.tmp 17],(some (15,true))⟩,⟨some 19,.bin .geq (sT 18) (.val (.int .i64 0)),(some (15,true))⟩,⟨some 20,.pick (sT 15) (sT 19) (.val (.bool false)),none⟩,ab 21 20,fD 22 0 21 true,⟨some 23,.call (.val (.a6 194 [] [])) [.tmp 22,.val (.str ⟨#[97,98,99,100,101,102,103,104,105,106,107,108,109,110,111,112,113,114,115,116,117,118,119,120,121,122,48,49,50,51,52,53,54,55,56,57,95]⟩)],(some (21,true))⟩,⟨some 24,.bin .eql (sT 23) (.val (.str ⟨#[]⟩)),(some (21,true))⟩,⟨some 25,.pick (sT 21) (sT 24) (.val (.bool false)),none⟩,ab 2 25])
 .ret))
def r72:List a8:=[.tmp 2]
theorem c72:aG Tryz.prog 145 s72 r72 26:=codeOk Tryz.func145 rfl rfl
def s73:aB:=(.seq (.region [aQ 4 (.bool false)]) (.seq (.region [ab 5 0,ab 6 1,bw 7 129 [.tmp 5,.tmp 6],bC 8 .geq 7 (.int .i64 0),ab 4 8])
 .ret))
def r73:List a8:=[.tmp 4]
theorem c73:aG Tryz.prog 188 s73 r73 9:=codeOk Tryz.func188 rfl rfl
def s74:aB:=(.seq (.region [⟨some 2,.box (sT 0),none⟩,aQ 3 (.bool false)]) (.seq (.region [aN 4 0 2,aH 5 4,aN 6 0 1,aH 7 6,cL 8 .eql 5 7,ab 3 8])
 .ret))
def r74:List a8:=[.tmp 3]
theorem c74:aG Tryz.prog 189 s74 r74 9:=codeOk Tryz.func189 rfl rfl
def YS:aB:=(.seq (.region [⟨some 2,.box (sT 0),none⟩,aQ 4 (.int .i64 0)]) (.seq (.seq (.region [ab 8 1,bC 9 .gtr 8 (.int .i64 20)]) (.cond (sT 9) (.seq (.region [aQ 4 (.int .i64 2)])
 .ret) .skip)) (.seq (.seq (.region [aN 10 0 2,aH 11 10,bw 12 243 [.tmp 11,.val (.int .i64 1),.val (.int .i64 5)]]) (.cond (sT 12) (.seq (.region [aQ 4 (.int .i64 4)])
 .ret) .skip)) (.seq (.seq (.region [bU 13 13 2,bw 14 244 [.tmp 13],ab 5 14]) (.seq (.region [ab 15 5,bC 16 .neq 15 (.int .i64 0)]) (.cond (sT 16) (.seq (.region [ab 17 5,ab 4 17])
 .ret) .skip))) (.seq (.seq (.region [bU 18 13 2,bw 19 245 [.tmp 18],ab 6 19]) (.seq (.region [ab 20 6,bC 21 .neq 20 (.int .i64 0)]) (.cond (sT 21) (.seq (.region [ab 22 6,ab 4 22])
 .ret) .skip))) (.seq (.seq (.region [aN 23 0 2,aH 24 23,bw 25 246 [.tmp 24],⟨some 26,.field false 4 1 (sT 25),none⟩]) (.cond (sT 26) (.seq (.region [aN 27 5 2,bU 28 4 27,bw 29 247 [.tmp 28],ab 7 29]) (.seq (.region [ab 30 7,bC 31 .neq 30 (.int .i64 0)]) (.cond (sT 31) (.seq (.region [ab 32 7,ab 4 32])
 .ret) .skip))) .skip)) (.seq (.region [bU 33 13 2,bw 34 248 [.tmp 33],ab 4 34])
 .ret)))))))
def YT:List a8:=[.tmp 4]
theorem c75:aG Tryz.prog 190 YS YT 35:=codeOk Tryz.func190 rfl rfl
def s76:aB:=(.seq (.region [⟨some 2,.box (sT 0),none⟩,aQ 3 (.bool false)]) (.seq (.region [aN 4 0 2,aH 5 4,aH 6 1,cL 7 .eql 5 6,ab 3 7])
 .ret))
def r76:List a8:=[.tmp 3]
theorem c76:aG Tryz.prog 249 s76 r76 8:=codeOk Tryz.func249 rfl rfl
def s78:aB:=(.seq (.region [aQ 3 (.bool false)]) (.seq (.region [ab 4 0,aH 5 1,bw 6 237 [.tmp 4,.tmp 5],ab 3 6])
 .ret))
def r78:List a8:=[.tmp 3]
theorem c78:aG Tryz.prog 236 s78 r78 7:=codeOk Tryz.func236 rfl rfl
def s79:aB:=(.seq (.region [aQ 4 (.bool false)]) (.seq (.region [ab 5 0,ab 6 1,bw 7 59 [.tmp 5,.tmp 6],bC 8 .geq 7 (.int .i64 0),ab 4 8])
 .ret))
def r79:List a8:=[.tmp 4]
theorem c79:aG Tryz.prog 237 s79 r79 9:=codeOk Tryz.func237 rfl rfl
def R9:aB:=(.seq (.region [ab 6 0]) (.cond (sT 6) (.region [aH 7 2,ab 8 1,⟨some 9,.aJ 1 [.tmp 8],none⟩,⟨some 10,.append 1 16 (sT 7) (sT 9),none⟩,⟨none,.store 1 (sT 2) (sT 10),none⟩]) (.region [aH 11 3,ab 12 11,fD 13 1 12 true,⟨some 14,.bin .eql (sT 13) (.val (.str ⟨#[]⟩)),(some (12,true))⟩,⟨some 15,.pick (sT 12) (sT 14) (.val (.bool false)),none⟩,⟨none,.store 1 (sT 3) (sT 15),none⟩])))
def Sa:List a8:=[]
theorem YU:aG Tryz.prog 238 R9 Sa 16:=codeOk Tryz.func238 rfl rfl
def s81:aB:=(.seq (.region [⟨some 1,.box (sT 0),none⟩,aQ 2 (.bool false)]) (.seq (.region [aN 3 0 1,aH 4 3,bC 5 .eql 4 (.int .i64 0),ab 6 5,dP 7 1 1 6 true,dy 8 7 6 true,⟨some 9,.bin .eql (sT 8) (.val (.int .i64 0)),(some (6,true))⟩,⟨some 10,.pick (sT 6) (sT 9) (.val (.bool false)),none⟩,ab 11 10,dP 12 2 1 11 true,dy 13 12 11 true,⟨some 14,.bin .eql (sT 13) (.val (.str ⟨#[]⟩)),(some (11,true))⟩,⟨some 15,.pick (sT 11) (sT 14) (.val (.bool false)),none⟩,ab 16 15,dP 17 3 1 16 true,dy 18 17 16 true,⟨some 19,.len false (sT 18),(some (16,true))⟩,⟨some 20,.bin .eql (sT 19) (.val (.int .i64 0)),(some (16,true))⟩,⟨some 21,.pick (sT 16) (sT 20) (.val (.bool false)),none⟩,ab 2 21])
 .ret))
def r81:List a8:=[.tmp 2]
theorem c81:aG Tryz.prog 239 s81 r81 22:=codeOk Tryz.func239 rfl rfl
def s82:aB:=(.seq (.region [aQ 2 (.int .i64 0)]) (.seq (.seq (.region [ab 3 0,⟨some 4,.call (.val (.a6 48 [] [])) [.tmp 3,.val (.a6 271 [] [])],none⟩]) (.cond (sT 4) (.seq (.region [aQ 2 (.int .i64 5)])
 .ret) .skip)) (.seq (.region [aQ 2 (.int .i64 0)])
 .ret)))
def r82:List a8:=[.tmp 2]
theorem c82:aG Tryz.prog 240 s82 r82 5:=codeOk Tryz.func240 rfl rfl
def s83:aB:=(.seq (.region [⟨some 1,.box (sT 0),none⟩,aQ 2 (.int .i64 0)]) (.seq (.region [bU 3 4 1,bw 4 272 [.tmp 3,.val (.int .i64 1)],ab 2 4])
 .ret))
def r83:List a8:=[.tmp 2]
theorem c83:aG Tryz.prog 241 s83 r83 5:=codeOk Tryz.func241 rfl rfl
def s84:aB:=(.seq (.region [aQ 2 (.bool false)]) (.seq (.region [ab 3 0,bC 4 .eql 3 (.str ⟨#[112,114,111,99]⟩),ab 5 4,fD 6 0 5 false,⟨some 7,.bin .eql (sT 6) (.val (.str ⟨#[109,97,105,110]⟩)),(some (5,false))⟩,⟨some 8,.pick (sT 5) (.val (.bool true)) (sT 7),none⟩,ab 9 8,fD 10 0 9 false,⟨some 11,.bin .eql (sT 10) (.val (.str ⟨#[105,102]⟩)),(some (9,false))⟩,⟨some 12,.pick (sT 9) (.val (.bool true)) (sT 11),none⟩,ab 13 12,fD 14 0 13 false,⟨some 15,.bin .eql (sT 14) (.val (.str ⟨#[101,108,115,101]⟩)),(some (13,false))⟩,⟨some 16,.pick (sT 13) (.val (.bool true)) (sT 15),none⟩,ab 2 16])
 .ret))
def r84:List a8:=[.tmp 2]
theorem c84:aG Tryz.prog 193 s84 r84 17:=codeOk Tryz.func193 rfl rfl
def s86:aB:=(.seq (.region [aQ 6 (.bool false)]) (.seq (.region [ab 7 0,ab 8 1,cL 9 .lss 7 8,ab 10 9,fD 11 0 10 false,fD 12 2 10 false,⟨some 13,.bin .gtr (sT 11) (sT 12),(some (10,false))⟩,⟨some 14,.pick (sT 10) (.val (.bool true)) (sT 13),none⟩,ab 6 14])
 .ret))
def r86:List a8:=[.tmp 6]
theorem c86:aG Tryz.prog 243 s86 r86 15:=codeOk Tryz.func243 rfl rfl
def s87:aB:=(.seq (.region [⟨some 1,.box (sT 0),none⟩,aQ 2 (.int .i64 0)]) (.seq (.region [aN 4 0 1,aH 5 4,bw 6 246 [.tmp 5],⟨some 3,.alloc (.agg [.bool false,.bool false,.bool false,.bool false,.bool false,.bool false,.bool false]),none⟩,⟨none,.store 7 (sT 3) (sT 6),none⟩]) (.seq (.seq (.region [aN 7 0 3,aH 8 7,⟨some 9,.un .not (sT 8),none⟩,ab 10 9,dP 11 1 1 10 true,dy 12 11 10 true,⟨some 13,.bin .neq (sT 12) (.val (.str ⟨#[]⟩)),(some (10,true))⟩,⟨some 14,.pick (sT 10) (sT 13) (.val (.bool false)),none⟩,ab 15 14,dP 16 1 3 15 false,dy 17 16 15 false,⟨some 18,.un .not (sT 17),(some (15,false))⟩,fD 19 18 15 false,dP 20 2 1 19 true,dy 21 20 19 true,⟨some 22,.bin .neq (sT 21) (.val (.str ⟨#[]⟩)),(some (19,true))⟩,⟨some 23,.pick (sT 19) (sT 22) (.val (.bool false)),(some (15,false))⟩,⟨some 24,.pick (sT 15) (.val (.bool true)) (sT 23),none⟩,ab 25 24,dP 26 2 3 25 false,dy 27 26 25 false,⟨some 28,.un .not (sT 27),(some (25,false))⟩,fD 29 28 25 false,dP 30 3 1 29 true,dy 31 30 29 true,⟨some 32,.bin .neq (sT 31) (.val (.str ⟨#[]⟩)),(some (29,true))⟩,⟨some 33,.pick (sT 29) (sT 32) (.val (.bool false)),(some (25,false))⟩,⟨some 34,.pick (sT 25) (.val (.bool true)) (sT 33),none⟩,ab 35 34,dP 36 3 3 35 false,dy 37 36 35 false,⟨some 38,.un .not (sT 37),(some (35,false))⟩,fD 39 38 35 false,dP 40 4 1 39 true,dy 41 40 39 true,⟨some 42,.bin .neq (sT 41) (.val (.str ⟨#[]⟩)),(some (39,true))⟩,⟨some 43,.pick (sT 39) (sT 42) (.val (.bool false)),(some (35,false))⟩,⟨some 44,.pick (sT 35) (.val (.bool true)) (sT 43),none⟩]) (.cond (sT 44) (.seq (.region [aQ 2 (.int .i64 3)])
 .ret) .skip)) (.seq (.seq (.region [aN 45 4 3,aH 46 45,⟨some 47,.un .not (sT 46),none⟩,ab 48 47,dP 49 5 1 48 true,⟨some 50,.load true 4 (sT 49),(some (48,true))⟩,⟨some 51,.build [.int .i64 0,.int .i64 0,.str ⟨#[]⟩,.ag] [],(some (48,true))⟩,⟨some 52,.call (.val (.a6 273 [] [])) [.tmp 50,.tmp 51],(some (48,true))⟩,⟨some 53,.un .not (sT 52),(some (48,true))⟩,⟨some 54,.pick (sT 48) (sT 53) (.val (.bool false)),none⟩,ab 55 54,dP 56 5 3 55 false,dy 57 56 55 false,⟨some 58,.un .not (sT 57),(some (55,false))⟩,fD 59 58 55 false,dP 60 9 1 59 true,dy 61 60 59 true,⟨some 62,.len false (sT 61),(some (59,true))⟩,dP 63 10 1 59 true,dy 64 63 59 true,⟨some 65,.len false (sT 64),(some (59,true))⟩,⟨some 66,.bin .add (sT 62) (sT 65),(some (59,true))⟩,⟨some 67,.bin .gtr (sT 66) (.val (.int .i64 0)),(some (59,true))⟩,⟨some 68,.pick (sT 59) (sT 67) (.val (.bool false)),(some (55,false))⟩,⟨some 69,.pick (sT 55) (.val (.bool true)) (sT 68),none⟩,ab 70 69,dP 71 6 3 70 false,dy 72 71 70 false,⟨some 73,.un .not (sT 72),(some (70,false))⟩,fD 74 73 70 false,dP 75 11 1 74 true,dy 76 75 74 true,⟨some 77,.bin .neq (sT 76) (.val (.str ⟨#[]⟩)),(some (74,true))⟩,fD 78 77 74 true,dP 79 12 1 78 false,dy 80 79 78 false,⟨some 81,.len false (sT 80),(some (78,false))⟩,⟨some 82,.bin .gtr (sT 81) (.val (.int .i64 0)),(some (78,false))⟩,⟨some 83,.pick (sT 78) (.val (.bool true)) (sT 82),(some (74,true))⟩,⟨some 84,.pick (sT 74) (sT 83) (.val (.bool false)),(some (70,false))⟩,⟨some 85,.pick (sT 70) (.val (.bool true)) (sT 84),none⟩]) (.cond (sT 85) (.seq (.region [aQ 2 (.int .i64 3)])
 .ret) .skip)) (.seq (.region [aQ 2 (.int .i64 0)])
 .ret)))))
def r87:List a8:=[.tmp 2]
theorem c87:aG Tryz.prog 244 s87 r87 86:=codeOk Tryz.func244 rfl rfl
def s88:aB:=(.seq (.region [⟨some 1,.box (sT 0),none⟩,aQ 2 (.int .i64 0)]) (.seq (.region [aN 5 0 1,aH 6 5,bw 7 246 [.tmp 6],⟨some 3,.alloc (.agg [.bool false,.bool false,.bool false,.bool false,.bool false,.bool false,.bool false]),none⟩,⟨none,.store 7 (sT 3) (sT 7),none⟩]) (.seq (.region [aQ 4 (.a6 274 [] [])]) (.seq (.seq (.region [ab 8 4,aN 9 0 3,aH 10 9,aN 11 1 1,aH 12 11,⟨some 13,.call (sT 8) [.tmp 10,.tmp 12],none⟩,ab 14 13,fD 15 4 14 false,dP 16 1 3 14 false,dy 17 16 14 false,dP 18 2 1 14 false,dy 19 18 14 false,⟨some 20,.call (sT 15) [.tmp 17,.tmp 19],(some (14,false))⟩,⟨some 21,.pick (sT 14) (.val (.bool true)) (sT 20),none⟩,ab 22 21,fD 23 4 22 false,dP 24 2 3 22 false,dy 25 24 22 false,dP 26 3 1 22 false,dy 27 26 22 false,⟨some 28,.call (sT 23) [.tmp 25,.tmp 27],(some (22,false))⟩,⟨some 29,.pick (sT 22) (.val (.bool true)) (sT 28),none⟩,ab 30 29,fD 31 4 30 false,dP 32 3 3 30 false,dy 33 32 30 false,dP 34 4 1 30 false,dy 35 34 30 false,⟨some 36,.call (sT 31) [.tmp 33,.tmp 35],(some (30,false))⟩,⟨some 37,.pick (sT 30) (.val (.bool true)) (sT 36),none⟩,ab 38 37,fD 39 4 38 false,dP 40 6 3 38 false,dy 41 40 38 false,dP 42 11 1 38 false,dy 43 42 38 false,⟨some 44,.call (sT 39) [.tmp 41,.tmp 43],(some (38,false))⟩,⟨some 45,.pick (sT 38) (.val (.bool true)) (sT 44),none⟩]) (.cond (sT 45) (.seq (.region [aQ 2 (.int .i64 5)])
 .ret) .skip)) (.seq (.region [aQ 2 (.int .i64 0)])
 .ret)))))
def r88:List a8:=[.tmp 2]
theorem c88:aG Tryz.prog 245 s88 r88 46:=codeOk Tryz.func245 rfl rfl
def s89:aB:=(.seq (.region [⟨some 2,.alloc (.agg [.bool false,.bool false,.bool false,.bool false,.bool false,.bool false,.bool false]),none⟩]) (.seq (.seq (.region [ab 3 0]) (.block 0 (.seq (.region [bC 5 .eql 3 (.int .i64 1),ab 4 5]) (.cond (sT 4) (.seq (.region [⟨some 6,.build [.bool false,.bool false,.bool false,.bool false,.bool false,.bool false,.bool false] [(0,1,.val (.bool true)),(1,1,.val (.bool true)),(2,1,.val (.bool true)),(4,1,.val (.bool true))],none⟩,⟨none,.store 7 (sT 2) (sT 6),none⟩])
 .ret) (.seq (.region [bC 8 .eql 3 (.int .i64 2),ab 7 8]) (.cond (sT 7) (.seq (.region [⟨some 9,.build [.bool false,.bool false,.bool false,.bool false,.bool false,.bool false,.bool false] [(0,1,.val (.bool true)),(1,1,.val (.bool true)),(3,1,.val (.bool true))],none⟩,⟨none,.store 7 (sT 2) (sT 9),none⟩])
 .ret) (.seq (.region [bC 11 .eql 3 (.int .i64 3),ab 10 11]) (.cond (sT 10) (.seq (.region [⟨some 12,.build [.bool false,.bool false,.bool false,.bool false,.bool false,.bool false,.bool false] [(0,1,.val (.bool true)),(2,1,.val (.bool true)),(4,1,.val (.bool true))],none⟩,⟨none,.store 7 (sT 2) (sT 12),none⟩])
 .ret) (.seq (.region [bC 14 .eql 3 (.int .i64 4),ab 13 14]) (.cond (sT 13) (.seq (.region [⟨some 15,.build [.bool false,.bool false,.bool false,.bool false,.bool false,.bool false,.bool false] [(0,1,.val (.bool true)),(4,1,.val (.bool true)),(5,1,.val (.bool true))],none⟩,⟨none,.store 7 (sT 2) (sT 15),none⟩])
 .ret) .skip)))))))))) (.seq (.region [⟨some 16,.build [.bool false,.bool false,.bool false,.bool false,.bool false,.bool false,.bool false] [(6,1,.val (.bool true))],none⟩,⟨none,.store 7 (sT 2) (sT 16),none⟩])
 .ret)))
def r89:List a8:=[.cell true 7 2]
theorem c89:aG Tryz.prog 246 s89 r89 17:=codeOk Tryz.func246 rfl rfl
def s90:aB:=(.seq (.region [⟨some 1,.box (sT 0),none⟩,aQ 2 (.int .i64 0)]) (.seq (.region [bU 3 4 1,bw 4 275 [.tmp 3,.val (.int .i64 1)],ab 2 4])
 .ret))
def r90:List a8:=[.tmp 2]
theorem c90:aG Tryz.prog 247 s90 r90 5:=codeOk Tryz.func247 rfl rfl
def s91:aB:=(.seq (.region [⟨some 1,.box (sT 0),none⟩,aQ 2 (.int .i64 0)]) (.seq (.block 0 (.seq (.region [aN 4 0 1,aH 5 4,bC 6 .neq 5 (.int .i64 5),ab 3 6]) (.cond (sT 3) (.seq (.region [aQ 2 (.int .i64 0)])
 .ret) (.seq (.region [aN 8 12 1,aH 9 8,cJ 10 9,bC 11 .eql 10 (.int .i64 0),ab 7 11]) (.cond (sT 7) (.seq (.region [aQ 2 (.int .i64 8)])
 .ret) (.seq (.region [aN 13 12 1,aH 14 13,cJ 15 14,bC 16 .gtr 15 (.int .i64 12),ab 12 16]) (.cond (sT 12) (.seq (.region [aQ 2 (.int .i64 2)])
 .ret) (.seq (.region [aN 18 12 1,aH 19 18,⟨some 20,.call (.val (.a6 48 [] [])) [.tmp 19,.val (.a6 276 [] [])],none⟩,ab 17 20]) (.cond (sT 17) (.seq (.region [aQ 2 (.int .i64 5)])
 .ret) .skip))))))))) (.seq (.region [aQ 2 (.int .i64 0)])
 .ret)))
def r91:List a8:=[.tmp 2]
theorem c91:aG Tryz.prog 248 s91 r91 21:=codeOk Tryz.func248 rfl rfl
def s93:aB:=(.seq (.region [aQ 4 (.int .i64 0)]) (.seq (.seq (.region [ab 6 0,cJ 7 6,aQ 8 (.int .i64 0)]) (.block 0 (.loop (.seq (.region [cL 9 .lss 8 7]) (.seq (.cond (sT 9) .skip (.exit 0)) (.seq (.block 1 (.seq (.region [ab 10 8,ab 5 10]) (.seq (.region [ab 11 1,ab 12 0,ab 13 5,cM 14 1 12 13,aH 15 14,cL 16 .eql 11 15]) (.cond (sT 16) (.seq (.region [ab 17 5,ab 4 17])
 .ret) .skip)))) (.region [bC 18 .add 8 (.int .i64 1),ab 8 18]))))))) (.seq (.region [aQ 4 (.int .i64 (-1))])
 .ret)))
def YV:List a8:=[.tmp 4]
theorem c93:aG Tryz.prog 59 s93 YV 19:=codeOk Tryz.func59 rfl rfl
def s94:aB:=(.seq (.region [aQ 2 (.bool false)]) (.seq (.region [ab 3 0,bw 4 82 [.tmp 3],⟨some 5,.un .not (sT 4),none⟩,ab 2 5])
 .ret))
def r94:List a8:=[.tmp 2]
theorem c94:aG Tryz.prog 271 s94 r94 6:=codeOk Tryz.func271 rfl rfl
def s95:aB:=(.seq (.region [⟨some 2,.box (sT 0),none⟩,aQ 4 (.int .i64 0)]) (.seq (.region [aN 9 0 2,aH 10 9,bw 11 284 [.tmp 10],ab 5 11]) (.seq (.block 0 (.seq (.region [ab 13 1,bC 14 .gtr 13 (.int .i64 20),ab 12 14]) (.cond (sT 12) (.seq (.region [aQ 4 (.int .i64 2)])
 .ret) (.seq (.region [ab 16 5,bC 17 .lss 16 (.int .i64 0),ab 15 17]) (.cond (sT 15) (.seq (.region [aQ 4 (.int .i64 4)])
 .ret) (.seq (.region [aN 19 3 2,aH 20 19,cJ 21 20,ab 22 5,cL 23 .neq 21 22,ab 24 23,dP 25 0 2 24 false,dy 26 25 24 false,⟨some 27,.bin .neq (sT 26) (.val (.int .i64 1)),(some (24,false))⟩,fD 28 27 24 false,dP 29 1 2 28 true,dy 30 29 28 true,⟨some 31,.bin .neq (sT 30) (.val (.int .i64 0)),(some (28,true))⟩,⟨some 32,.pick (sT 28) (sT 31) (.val (.bool false)),(some (24,false))⟩,⟨some 33,.pick (sT 24) (.val (.bool true)) (sT 32),none⟩,ab 34 33,dP 35 0 2 34 false,dy 36 35 34 false,⟨some 37,.bin .neq (sT 36) (.val (.int .i64 2)),(some (34,false))⟩,fD 38 37 34 false,dP 39 2 2 38 true,dy 40 39 38 true,⟨some 41,.bin .neq (sT 40) (.val (.str ⟨#[]⟩)),(some (38,true))⟩,⟨some 42,.pick (sT 38) (sT 41) (.val (.bool false)),(some (34,false))⟩,⟨some 43,.pick (sT 34) (.val (.bool true)) (sT 42),none⟩,ab 18 43]) (.cond (sT 18) (.seq (.region [aQ 4 (.int .i64 3)])
 .ret) (.seq (.region [aN 45 1 2,aH 46 45,bw 47 158 [.tmp 46,.val (.int .i64 0),.val (.int .i64 999)],⟨some 48,.un .not (sT 47),none⟩,ab 44 48]) (.cond (sT 44) (.seq (.region [aQ 4 (.int .i64 1)])
 .ret) (.seq (.region [aN 50 0 2,aH 51 50,bC 52 .eql 51 (.int .i64 2),ab 53 52,dP 54 2 2 53 true,dy 55 54 53 true,⟨some 56,.call (.val (.a6 82 [] [])) [.tmp 55],(some (53,true))⟩,⟨some 57,.un .not (sT 56),(some (53,true))⟩,⟨some 58,.pick (sT 53) (sT 57) (.val (.bool false)),none⟩,ab 49 58]) (.cond (sT 49) (.seq (.region [aQ 4 (.int .i64 5)])
 .ret) .skip))))))))))) (.seq (.seq (.region [aN 59 3 2,aH 60 59,cJ 61 60,aQ 62 (.int .i64 0)]) (.block 1 (.loop (.seq (.region [cL 63 .lss 62 61]) (.seq (.cond (sT 63) .skip (.exit 1)) (.seq (.block 2 (.seq (.region [cM 64 4 60 62,bU 65 4 64,⟨some 7,.alloc (.agg [.int .i64 0,.int .i64 0,.str ⟨#[]⟩,.ag]),none⟩,⟨none,.store 4 (sT 7) (sT 65),none⟩]) (.seq (.region [bU 66 4 7,ab 67 1,bC 68 .add 67 (.int .i64 1),bw 69 272 [.tmp 66,.tmp 68],ab 8 69]) (.seq (.region [ab 70 8,bC 71 .neq 70 (.int .i64 0)]) (.cond (sT 71) (.seq (.region [ab 72 8,ab 4 72])
 .ret) .skip))))) (.region [bC 73 .add 62 (.int .i64 1),ab 62 73]))))))) (.seq (.region [aQ 4 (.int .i64 0)])
 .ret)))))
def WZ:List a8:=[.tmp 4]
theorem c95:aG Tryz.prog 272 s95 WZ 74:=codeOk Tryz.func272 rfl rfl
def Sb:aB:=(.seq (.region [⟨some 2,.box (sT 0),none⟩,⟨some 3,.box (sT 1),none⟩,aQ 4 (.bool false)]) (.seq (.seq (.region [aN 7 0 2,aH 8 7,aN 9 0 3,aH 10 9,cL 11 .neq 8 10,ab 12 11,dP 13 1 2 12 false,dy 14 13 12 false,dP 15 1 3 12 false,dy 16 15 12 false,⟨some 17,.bin .neq (sT 14) (sT 16),(some (12,false))⟩,⟨some 18,.pick (sT 12) (.val (.bool true)) (sT 17),none⟩,ab 19 18,dP 20 2 2 19 false,dy 21 20 19 false,dP 22 2 3 19 false,dy 23 22 19 false,⟨some 24,.bin .neq (sT 21) (sT 23),(some (19,false))⟩,⟨some 25,.pick (sT 19) (.val (.bool true)) (sT 24),none⟩,ab 26 25,dP 27 3 2 26 false,dy 28 27 26 false,⟨some 29,.len false (sT 28),(some (26,false))⟩,dP 30 3 3 26 false,dy 31 30 26 false,⟨some 32,.len false (sT 31),(some (26,false))⟩,⟨some 33,.bin .neq (sT 29) (sT 32),(some (26,false))⟩,⟨some 34,.pick (sT 26) (.val (.bool true)) (sT 33),none⟩]) (.cond (sT 34) (.seq (.region [aQ 4 (.bool false)])
 .ret) .skip)) (.seq (.seq (.region [aN 35 3 2,aH 36 35,cJ 37 36,aQ 38 (.int .i64 0)]) (.block 0 (.loop (.seq (.region [cL 39 .lss 38 37]) (.seq (.cond (sT 39) .skip (.exit 0)) (.seq (.block 1 (.seq (.region [ab 40 38,cM 41 4 36 38,bU 42 4 41,⟨some 6,.alloc (.agg [.int .i64 0,.int .i64 0,.str ⟨#[]⟩,.ag]),none⟩,ab 5 40,⟨none,.store 4 (sT 6) (sT 42),none⟩]) (.seq (.qregion [⟨bU 43 4 6,false,0,0,0⟩,⟨aN 44 3 3,false,0,0,0⟩,⟨aH 45 44,false,0,0,2⟩,⟨ab 46 5,false,0,0,0⟩,⟨cM 47 4 45 46,false,0,0,14⟩,⟨bU 48 4 47,false,0,0,30⟩,⟨bw 49 273 [.tmp 43,.tmp 48],false,0,0,63⟩,⟨⟨some 50,.un .not (sT 49),none⟩,false,0,0,127⟩]) (.cond (sT 50) (.seq (.region [aQ 4 (.bool false)])
 .ret) .skip)))) (.region [bC 51 .add 38 (.int .i64 1),ab 38 51]))))))) (.seq (.region [aQ 4 (.bool true)])
 .ret))))
def Nv:List a8:=[.tmp 4]
theorem YW:aG Tryz.prog 273 Sb Nv 52:=codeOk Tryz.func273 rfl rfl
def Sc:aB:=(.seq (.region [aQ 4 (.bool false)]) (.seq (.region [ab 5 0,ab 6 5,fD 7 1 6 true,⟨some 8,.call (.val (.a6 145 [] [])) [.tmp 7],(some (6,true))⟩,⟨some 9,.un .not (sT 8),(some (6,true))⟩,⟨some 10,.pick (sT 6) (sT 9) (.val (.bool false)),none⟩,ab 4 10])
 .ret))
def Sd:List a8:=[.tmp 4]
theorem YX:aG Tryz.prog 274 Sc Sd 11:=codeOk Tryz.func274 rfl rfl
def Se:aB:=(.seq (.region [⟨some 2,.box (sT 0),none⟩,aQ 4 (.int .i64 0)]) (.seq (.block 0 (.seq (.region [ab 9 1,bC 10 .gtr 9 (.int .i64 20),ab 8 10]) (.cond (sT 8) (.seq (.region [aQ 4 (.int .i64 2)])
 .ret) (.seq (.region [aN 12 0 2,aH 13 12,bw 14 285 [.tmp 13],bC 15 .lss 14 (.int .i64 0),ab 11 15]) (.cond (sT 11) (.seq (.region [aQ 4 (.int .i64 4)])
 .ret) (.seq (.qregion [⟨aN 17 3 2,false,0,0,0⟩,⟨aH 18 17,false,0,0,1⟩,⟨cJ 19 18,false,0,0,3⟩,⟨aN 20 0 2,false,0,0,0⟩,⟨aH 21 20,false,0,0,8⟩,⟨bw 22 285 [.tmp 21],false,0,0,24⟩,⟨cL 23 .neq 19 22,false,0,0,63⟩,⟨ab 24 23,false,0,0,127⟩,⟨dP 25 0 2 24 false,false,0,0,255⟩,⟨dy 26 25 24 false,false,0,0,511⟩,⟨⟨some 27,.bin .neq (sT 26) (.val (.int .i64 1)),(some (24,false))⟩,false,0,0,1023⟩,⟨fD 28 27 24 false,false,0,0,2047⟩,⟨dP 29 1 2 28 true,false,0,0,4095⟩,⟨dy 30 29 28 true,false,0,0,8191⟩,⟨⟨some 31,.bin .neq (sT 30) (.val (.int .i64 0)),(some (28,true))⟩,false,0,0,16383⟩,⟨⟨some 32,.pick (sT 28) (sT 31) (.val (.bool false)),(some (24,false))⟩,false,0,0,32767⟩,⟨⟨some 33,.pick (sT 24) (.val (.bool true)) (sT 32),none⟩,false,0,0,65535⟩,⟨ab 34 33,false,0,0,131071⟩,⟨dP 35 0 2 34 false,false,0,0,262143⟩,⟨dy 36 35 34 false,false,0,0,524287⟩,⟨⟨some 37,.bin .neq (sT 36) (.val (.int .i64 2)),(some (34,false))⟩,false,0,0,1048575⟩,⟨fD 38 37 34 false,false,0,0,2097151⟩,⟨dP 39 2 2 38 true,false,0,0,4194303⟩,⟨dy 40 39 38 true,false,0,0,8388607⟩,⟨⟨some 41,.bin .neq (sT 40) (.val (.str ⟨#[]⟩)),(some (38,true))⟩,false,0,0,16777215⟩,⟨⟨some 42,.pick (sT 38) (sT 41) (.val (.bool false)),(some (34,false))⟩,false,0,0,33554431⟩,⟨⟨some 43,.pick (sT 34) (.val (.bool true)) (sT 42),none⟩,false,0,0,67108863⟩,⟨ab 16 43,false,0,0,134217727⟩]) (.cond (sT 16) (.seq (.region [aQ 4 (.int .i64 3)])
 .ret) (.seq (.region [aN 45 1 2,aH 46 45,bw 47 243 [.tmp 46,.val (.int .i64 0),.val (.int .i64 999)],ab 44 47]) (.cond (sT 44) (.seq (.region [aQ 4 (.int .i64 1)])
 .ret) (.seq (.region [aN 49 0 2,aH 50 49,bC 51 .eql 50 (.int .i64 2),ab 52 51,dP 53 2 2 52 true,dy 54 53 52 true,⟨some 55,.call (.val (.a6 145 [] [])) [.tmp 54],(some (52,true))⟩,⟨some 56,.un .not (sT 55),(some (52,true))⟩,⟨some 57,.pick (sT 52) (sT 56) (.val (.bool false)),none⟩,ab 48 57]) (.cond (sT 48) (.seq (.region [aQ 4 (.int .i64 5)])
 .ret) .skip))))))))))) (.seq (.seq (.region [aN 58 3 2,aH 59 58,cJ 60 59,aQ 61 (.int .i64 0)]) (.block 1 (.loop (.seq (.region [cL 62 .lss 61 60]) (.seq (.cond (sT 62) .skip (.exit 1)) (.seq (.block 2 (.seq (.region [cM 63 4 59 61,bU 64 4 63,⟨some 6,.alloc (.agg [.int .i64 0,.int .i64 0,.str ⟨#[]⟩,.ag]),none⟩,⟨none,.store 4 (sT 6) (sT 64),none⟩]) (.seq (.region [bU 65 4 6,ab 66 1,bC 67 .add 66 (.int .i64 1),bw 68 275 [.tmp 65,.tmp 67],ab 7 68]) (.seq (.region [ab 69 7,bC 70 .neq 69 (.int .i64 0)]) (.cond (sT 70) (.seq (.region [ab 71 7,ab 4 71])
 .ret) .skip))))) (.region [bC 72 .add 61 (.int .i64 1),ab 61 72]))))))) (.seq (.region [aQ 4 (.int .i64 0)])
 .ret))))
def Jo:List a8:=[.tmp 4]
theorem YY:aG Tryz.prog 275 Se Jo 73:=codeOk Tryz.func275 rfl rfl
def Sf:aB:=(.seq (.region [aQ 2 (.bool false)]) (.seq (.region [ab 3 0,bw 4 145 [.tmp 3],⟨some 5,.un .not (sT 4),none⟩,ab 2 5])
 .ret))
def Sg:List a8:=[.tmp 2]
theorem YZ:aG Tryz.prog 276 Sf Sg 6:=codeOk Tryz.func276 rfl rfl
def Sh:aB:=(.seq (.region [aQ 2 (.int .i64 0)]) (.seq (.seq (.region [ab 3 0,bw 4 158 [.tmp 3,.val (.int .i64 1),.val (.int .i64 9)],⟨some 5,.un .not (sT 4),none⟩]) (.cond (sT 5) (.seq (.region [aQ 2 (.int .i64 (-1))])
 .ret) .skip)) (.seq (.region [⟨some 6,.aJ 1 [.val (.int .i64 0),.val (.int .i64 0),.val (.int .i64 2),.val (.int .i64 2),.val (.int .i64 2),.val (.int .i64 2),.val (.int .i64 2),.val (.int .i64 1),.val (.int .i64 3)],none⟩,ab 7 0,bC 8 .sub 7 (.int .i64 1),cM 9 1 6 8,aH 10 9,ab 2 10])
 .ret)))
def Si:List a8:=[.tmp 2]
theorem Y0:aG Tryz.prog 284 Sh Si 11:=codeOk Tryz.func284 rfl rfl
def Sj:aB:=(.seq (.region [aQ 2 (.int .i64 0)]) (.seq (.block 0 (.seq (.region [ab 4 0,bw 5 243 [.tmp 4,.val (.int .i64 1),.val (.int .i64 9)],ab 3 5]) (.cond (sT 3) (.seq (.region [aQ 2 (.int .i64 (-1))])
 .ret) (.seq (.region [ab 7 0,bC 8 .leq 7 (.int .i64 2),ab 6 8]) (.cond (sT 6) (.seq (.region [aQ 2 (.int .i64 0)])
 .ret) (.seq (.region [ab 10 0,bC 11 .eql 10 (.int .i64 8),ab 9 11]) (.cond (sT 9) (.seq (.region [aQ 2 (.int .i64 1)])
 .ret) (.seq (.region [ab 13 0,bC 14 .eql 13 (.int .i64 9),ab 12 14]) (.cond (sT 12) (.seq (.region [aQ 2 (.int .i64 3)])
 .ret) .skip))))))))) (.seq (.region [aQ 2 (.int .i64 2)])
 .ret)))
def Sk:List a8:=[.tmp 2]
theorem Y1:aG Tryz.prog 285 Sj Sk 15:=codeOk Tryz.func285 rfl rfl
end Go.Proofs.YtdgoeblpcnjlbaaGreatDoor.Av
namespace Go.Proofs
open Go.Shelf List
def Tryz.yH:Go.Shelf.Ren:=⟨fun | 137=>159 | 217=>196 | 266=>257 | n=>n,fun | 9=>9 | 5=>5 | 3=>3 | n=>n,fun | n=>n⟩
theorem Tryz.Jp:Go.Proofs.Lays.n137 Tryz.prog Tryz.yH:={
 mixed:=by kernel_rfl
 f137:=Tryz.func159.trans (congrArg some (by kernel_rfl))
 f217:=Tryz.func196.trans (congrArg some (by kernel_rfl))
 f266:=Tryz.func257.trans (congrArg some (by kernel_rfl))
 t3:=Tryz.underlying3
 a3:=Tryz.isAgg3
 z3:=Tryz.sizeOf3
 v3:=Tryz.zeroValue3
 t5:=Tryz.underlying5
 a5:=Tryz.isAgg5
 z5:=Tryz.sizeOf5
 v5:=Tryz.zeroValue5
 t9:=Tryz.underlying9
 a9:=Tryz.isAgg9
 z9:=Tryz.sizeOf9
 v9:=Tryz.zeroValue9}
def Tryz.yI:Go.Shelf.Ren:=⟨fun | 160=>194 | 232=>251 | 231=>250 | 227=>252 | 234=>254 | 233=>253 | 236=>256 | 235=>255 | 228=>277 | 271=>280 | 151=>279 | 197=>278 | 120=>288 | 152=>287 | 260=>286 | 137=>159 | 119=>289 | 224=>290 | 225=>291 | 217=>196 | 266=>257 | n=>n,fun | 9=>9 | 4=>4 | 3=>3 | 5=>5 | 117=>298 | 116=>297 | 0=>0 | 124=>301 | 21=>21 | 105=>315 | 46=>233 | 119=>324 | 139=>327 | 138=>326 | n=>n,fun | 3=>1 | 4=>2 | n=>n⟩
theorem Tryz.Jq:Go.Proofs.Lays.n160 Tryz.prog Tryz.yI:={
 mixed:=by kernel_rfl
 f119:=Tryz.func289.trans (congrArg some (by kernel_rfl))
 f120:=Tryz.func288.trans (congrArg some (by kernel_rfl))
 f137:=Tryz.func159.trans (congrArg some (by kernel_rfl))
 f151:=Tryz.func279.trans (congrArg some (by kernel_rfl))
 f152:=Tryz.func287.trans (congrArg some (by kernel_rfl))
 f160:=Tryz.func194.trans (congrArg some (by kernel_rfl))
 f197:=Tryz.func278.trans (congrArg some (by kernel_rfl))
 f217:=Tryz.func196.trans (congrArg some (by kernel_rfl))
 f224:=Tryz.func290.trans (congrArg some (by kernel_rfl))
 f225:=Tryz.func291.trans (congrArg some (by kernel_rfl))
 f227:=Tryz.func252.trans (congrArg some (by kernel_rfl))
 f228:=Tryz.func277.trans (congrArg some (by kernel_rfl))
 f231:=Tryz.func250.trans (congrArg some (by kernel_rfl))
 f232:=Tryz.func251.trans (congrArg some (by kernel_rfl))
 f233:=Tryz.func253.trans (congrArg some (by kernel_rfl))
 f234:=Tryz.func254.trans (congrArg some (by kernel_rfl))
 f235:=Tryz.func255.trans (congrArg some (by kernel_rfl))
 f236:=Tryz.func256.trans (congrArg some (by kernel_rfl))
 f260:=Tryz.func286.trans (congrArg some (by kernel_rfl))
 f266:=Tryz.func257.trans (congrArg some (by kernel_rfl))
 f271:=Tryz.func280.trans (congrArg some (by kernel_rfl))
 t0:=Tryz.underlying0
 a0:=Tryz.isAgg0
 z0:=Tryz.sizeOf0
 v0:=Tryz.zeroValue0
 t3:=Tryz.underlying3
 a3:=Tryz.isAgg3
 z3:=Tryz.sizeOf3
 v3:=Tryz.zeroValue3
 t4:=Tryz.underlying4
 a4:=Tryz.isAgg4
 z4:=Tryz.sizeOf4
 v4:=Tryz.zeroValue4
 t5:=Tryz.underlying5
 a5:=Tryz.isAgg5
 z5:=Tryz.sizeOf5
 v5:=Tryz.zeroValue5
 t9:=Tryz.underlying9
 a9:=Tryz.isAgg9
 z9:=Tryz.sizeOf9
 v9:=Tryz.zeroValue9
 t21:=Tryz.underlying21
 a21:=Tryz.isAgg21
 z21:=Tryz.sizeOf21
 v21:=Tryz.zeroValue21
 t46:=Tryz.underlying233
 a46:=Tryz.isAgg233
 z46:=Tryz.sizeOf233
 v46:=Tryz.zeroValue233
 t105:=Tryz.underlying315
 a105:=Tryz.isAgg315
 z105:=Tryz.sizeOf315
 v105:=Tryz.zeroValue315
 t116:=Tryz.underlying297
 a116:=Tryz.isAgg297
 z116:=Tryz.sizeOf297
 t117:=Tryz.underlying298
 a117:=Tryz.isAgg298
 z117:=Tryz.sizeOf298
 v117:=Tryz.zeroValue298
 t119:=Tryz.underlying324
 a119:=Tryz.isAgg324
 z119:=Tryz.sizeOf324
 t124:=Tryz.underlying301
 a124:=Tryz.isAgg301
 z124:=Tryz.sizeOf301
 v124:=Tryz.zeroValue301
 t138:=Tryz.underlying326
 a138:=Tryz.isAgg326
 z138:=Tryz.sizeOf326
 v138:=Tryz.zeroValue326
 t139:=Tryz.underlying327
 a139:=Tryz.isAgg327
 z139:=Tryz.sizeOf327
 v139:=Tryz.zeroValue327
 g3:=by kernel_rfl
 g4:=by kernel_rfl}
end Go.Proofs
namespace Go.Proofs.YtdgoeblpcnjlbaaGreatDoor.Av
open Go.RowKit List
theorem Nw (i n:Nat):iD (i:Int) n=(i<n):=by simp[iD]
theorem Jr (n:Nat):iD 0 n=(0<n):=by simp[iD]
theorem aA.mk {b:Bool} {p q:Prop} (h:b=true->p) (k:b=false->q):aA b p q:=⟨h,k⟩
theorem yJ {α:Type} (f:α->V) (pre post:List α) (y:α) (d:V):((pre++y::post).map f).getD pre.length d=f y:=by simp[List.getD]
theorem l7 (H:List ak) (l:List ak):(H++l)[H.length]? =l[0]? :=by rw[List.getElem?_append_right (by omega)];simp
theorem fL (H:List ak) (l:List ak) (k:Nat):(H++l)[H.length+k]? =l[k]? :=by rw[List.getElem?_append_right (by omega)];congr 1;omega
theorem l8 (H:List ak) (l:List ak) (x:ak):(H++l).set H.length x=H++l.set 0 x:=by rw[List.set_append_right _ _ (by omega)];simp
theorem FD (H:List ak) (l:List ak) (x:ak) (k:Nat):(H++l).set (H.length+k) x=H++l.set k x:=by rw[List.set_append_right _ _ (by omega)];congr 2;omega
def Dn (a:Option V) (b:Option (List V)):Option (List V):=match a,b with
 | some x,some xs=>some (x::xs)
 | _,_=>none
theorem dR (x:V) (xs:List V):Dn (some x) (some xs)=some (x::xs):=by rw[Dn]
theorem cN (g:V->Option V):eI g []=some []:=by rw[eI]
theorem b7 (g:V->Option V) (v:V) (l:List V):eI g (v::l)=Dn (g v) (eI g l):=by rw[eI];rfl
def Sl (g:V->Option V) (b:Option ak) (i c:Nat):Option V:=match b with
 | some (.row es)=>if i<es.length/\c<=(aw (es.getD i .any)).length then(eI g ((aw (es.getD i .any)).drop c)).map .bc else none
 | _=>none
def fzM (g:V->Option V) (b:Option ak) (off len:Nat):Option V:=match b with
 | some (.row es)=>if off+len<=es.length then(eI g ((es.drop off).take len)).map .fs else none
 | _=>none
theorem jK (g:V->Option V) (es:List V) (i c:Nat):Sl g (some (.row es)) i c=if i<es.length/\c<=(aw (es.getD i .any)).length then(eI g ((aw (es.getD i .any)).drop c)).map .bc else none:=by rw[Sl]
theorem ef (g:V->Option V) (es:List V) (off len:Nat):fzM g (some (.row es)) off len=if off+len<=es.length then(eI g ((es.drop off).take len)).map .fs else none:=by rw[fzM]
def Y2 (f:FuncId) (a b:Option (List V)):Option V:=match a,b with
 | some a,some b=>some (.a6 f a b)
 | _,_=>none
theorem FE (f:FuncId) (a b:List V):Y2 f (some a) (some b)=some (.a6 f a b):=by rw[Y2]
section
variable (H:List ak) (n:Nat)
theorem fQ:fz H (n+1) .ag=some (.fs []):=by rw[fz]
theorem l9 (id i c:Nat):fz H (n+1) (.ptr id i c)=Sl (fz H n) (H[id]?) i c:=by
 rw[fz];cases H[id]? with
 | none=>rfl
 | some b=>cases b<;>rfl
theorem iu (id off len:Nat):fz H (n+1) (.ms id off len)=fzM (fz H n) (H[id]?) off len:=by
 rw[fz];cases H[id]? with
 | none=>rfl
 | some b=>cases b<;>rfl
theorem ma (cs:List V):fz H (n+1) (.agg cs)=(eI (fz H n) cs).map .agg:=by rw[fz]
theorem FF (cs:List V):fz H (n+1) (.dJ cs)=(eI (fz H n) cs).map .dJ:=by rw[fz]
theorem Js (f:FuncId) (a b:List V):fz H (n+1) (.a6 f a b)=Y2 f (eI (fz H n) a) (eI (fz H n) b):=by
 rw[fz];cases eI (fz H n) a<;>cases eI (fz H n) b<;>rfl
theorem dN (s:ByteArray):fz H (n+1) (.str s)=some (.str s):=by simp[fz,al]
theorem jZ (k:IntKind) (i:Int):fz H (n+1) (.int k i)=some (.int k i):=by simp[fz,al]
theorem pB (b:Bool):fz H (n+1) (.bool b)=some (.bool b):=by simp[fz,al]
theorem Jt:fz H (n+1) .kb=some .kb:=by simp[fz,al]
theorem jL (l:List V):fz H (n+1) (.fs l)=if ae l=true then some (.fs l)else none:=by by_cases h:ae l=true<;>simp[fz,al,h]
theorem pC (l:List V):fz H (n+1) (.bc l)=if ae l=true then some (.bc l)else none:=by by_cases h:ae l=true<;>simp[fz,al,h]
theorem dg {α:Type} (g:V->Option V) (f:α->V) (h:∀x,g (f x)=some (f x)):∀l:List α,eI g (l.map f)=some (l.map f)
 | []=>cN g
 | x::l=>by rw[List.map_cons,b7,h,dg g f h l,dR]
end
def oc {α:Type} (p:α->Bool):List α->Int->Int
 | [],_=> -1
 | x::l,i=>if p x then i else oc p l (i+1)
theorem dq {α:Type} (p:α->Bool):∀(pre post:List α) (i:Int),(∀x∈pre,p x=false)->oc p (pre++post) i=oc p post (i+pre.length)
 | [],post,i,_=>by simp
 | x::pre,post,i,h=>by
  simp only[List.cons_append,oc,h x (by simp)];rw[dq p pre post (i+1) (fun y hy=>h y (by simp[hy]))];simp only[List.length_cons];rw[if_neg (by simp)];congr 1;omega
theorem bG {k:Nat} (h:k+1<=9223372036854775807):IntKind.i64.wrap ((k:Int)+1)=((k+1:Nat):Int):=by
 simp[IntKind.wrap,IntKind.signed,IntKind.bits];omega
theorem tD (l:List V):aw (.agg l)=l:=rfl
theorem oe (k:IntKind) (n:Int):aw (.int k n)=[.int k n]:=rfl
theorem tE (s:ByteArray):aw (.str s)=[.str s]:=rfl
theorem rn (s:Bool):aw (.bool s)=[.bool s]:=rfl
theorem vO (s:List V):aw (.fs s)=[.fs s]:=rfl
theorem cellsV_clos (f:FuncId) (a b:List V):aw (.a6 f a b)=[.a6 f a b]:=rfl
theorem cellsV_nils:aw .ag=[.ag]:=rfl
theorem rv:aw .qH=[.qH]:=rfl
theorem cellsV_rptr (a:List V):aw (.bc a)=[.bc a]:=rfl
theorem vP (a b c:Nat):aw (.ms a b c)=[.ms a b c]:=rfl
theorem an {α:Type} {xs pre post:List α} {y:α} (h:xs=pre++y::post):((pre.length:Int)<xs.length)/\pre.length<xs.length:=by
 subst h;simp;omega
theorem aI {α:Type} {xs pre:List α} (h:xs=pre++ []):¬((pre.length:Int)<xs.length):=by subst h;simp
theorem aO {α:Type} {xs pre post:List α} {y:α} (f:α->V) (h:xs=pre++y::post):(xs.map f).getD pre.length .any=f y:=by subst h;exact yJ ..
theorem aa {α:Type} {xs pre post:List α} {y:α} (h:xs=pre++y::post) (hl:xs.length<=9223372036854775807):IntKind.i64.wrap ((pre.length:Int)+1)=((pre.length+1:Nat):Int):=by
 subst h;exact bG (by simp at hl;omega)
attribute [go_sem] Nw yJ tD oe tE rn vO cellsV_clos cellsV_nils cellsV_rptr vP rv Jr l7 fL l8 FD
attribute [push_cast] l7 fL fQ l9 iu ma FF Js dN jZ pB Jt jL pC cN b7 dR FE jK ef tD oe tE rn vO cellsV_clos cellsV_nils cellsV_rptr vP rv
inductive Ex where
 | mk (k n:Int) (s:ByteArray) (xs:List Ex)
inductive St where
 | mk (k:Int) (r t v l:ByteArray) (e:Ex) (a b:List St) (p:ByteArray) (ps:List ByteArray)
structure Pr where
 name:ByteArray
 au:List ByteArray
 steps:List St
structure bH where
 procs:List Pr
 main:List St
mutual
def bu:Ex->V
 | .mk k n s xs=> .agg [.int .i64 k,.int .i64 n,.str s,.fs (tG xs)]
def tG:List Ex->List V
 | []=> []
 | x::l=>bu x::tG l
end
mutual
def encS:St->V
 | .mk k r t v l (.mk ek en es aR) a b p ps=> .agg [.int .i64 k,.str r,.str t,.str v,.str l,.int .i64 ek,.int .i64 en,.str es,.fs (aR.map bu),.fs (rz a),.fs (rz b),.str p,.fs (ps.map .str)]
def rz:List St->List V
 | []=> []
 | x::l=>encS x::rz l
end
theorem vQ:∀l,tG l=l.map bu
 | []=>rfl
 | x::l=>by rw[tG,vQ l];rfl
theorem qS:∀l,rz l=l.map encS
 | []=>rfl
 | x::l=>by rw[rz,qS l];rfl
theorem bp (k n:Int) (s:ByteArray) (xs:List Ex):bu (.mk k n s xs)=.agg [.int .i64 k,.int .i64 n,.str s,.fs (xs.map bu)]:=by rw[bu,vQ]
theorem ay (k:Int) (r t v l:ByteArray) (ek en:Int) (es:ByteArray) (aR:List Ex) (a b:List St) (p:ByteArray) (ps:List ByteArray):encS (.mk k r t v l (.mk ek en es aR) a b p ps)=.agg [.int .i64 k,.str r,.str t,.str v,.str l,.int .i64 ek,.int .i64 en,.str es,.fs (aR.map bu),.fs (a.map encS),.fs (b.map encS),.str p,.fs (ps.map .str)]:=by rw[encS,qS,qS]
def aF (p:Pr):V:=.agg [.str p.name,.fs (p.au.map .str),.fs (p.steps.map encS)]
def aP (p:bH):V:=.agg [.fs (p.procs.map aF),.fs (p.main.map encS)]
theorem bS {α:Type} {f:α->V} (h:∀x,al (f x)=true):∀l:List α,ae (l.map f)=true
 | []=>by simp[ae]
 | x::l=>by simp only[List.map_cons,ae,h x,bS h l];rfl
theorem gK:∀a b:List V,ae (a++b)=(ae a && ae b)
 | [],b=>by simp[ae]
 | x::a,b=>by simp only[List.cons_append,ae,gK a b,Bool.and_assoc]
theorem aE (l:List ByteArray):ae (l.map .str)=true:=bS (fun x=>by simp[al]) l
theorem aS (l:List Int):ae (l.map (V.int .i64))=true:=bS (fun x=>by simp[al]) l
mutual
theorem fm:∀x,al (bu x)=true
 | .mk k n s xs=>by simp[bu,al,ae,pD xs]
theorem pD:∀l,ae (tG l)=true
 | []=>by simp[tG,ae]
 | x::l=>by simp[tG,ae,fm x,pD l]
end
theorem bf (l:List Ex):ae (l.map bu)=true:=bS fm l
mutual
theorem fX:∀x,al (encS x)=true
 | .mk k r t v l (.mk ek en es aR) a b p ps=>by simp[encS,al,ae,bf,aE,kP a,kP b]
theorem kP:∀l,ae (rz l)=true
 | []=>by simp[rz,ae]
 | x::l=>by simp[rz,ae,fX x,kP l]
end
theorem ah (l:List St):ae (l.map encS)=true:=bS fX l
theorem kQ (p:Pr):al (aF p)=true:=by simp[aF,al,ae,aE,ah]
theorem aq (l:List Pr):ae (l.map aF)=true:=bS kQ l
theorem jM (p:bH):al (aP p)=true:=by simp[aP,al,ae,aq,ah]
theorem pE (H:List ak) (n:Nat) (x:Ex):fz H (n+2) (bu x)=some (bu x):=by
 rcases x with⟨k,i,s,xs⟩
 simp[bp,ma,b7,cN,jZ,dN,jL,bf,dR]
theorem fz_encS (H:List ak) (n:Nat) (x:St):fz H (n+2) (encS x)=some (encS x):=by
 rcases x with⟨k,r,t,v,l,⟨ek,en,es,aR⟩,a,b,p,ps⟩
 simp[ay,ma,b7,cN,jZ,dN,jL,bf,ah,aE,dR]
theorem fY {α:Type} (p:α->Bool):∀(l:List α) (i:Int),0<=i->decide (0<=oc p l i)=l.any p
 | [],i,h=>by simp[oc]
 | x::l,i,h=>by
  have:=fY p l (i+1) (by omega);by_cases hp:p x=true
  ·simp[oc,hp,h]
  ·simp[oc,hp,this]
attribute [push_cast] aE aS bf ah aq pE fz_encS
theorem cm:(∀a b:List V,ae (a++b)=(ae a && ae b))/\(∀l:List ByteArray,ae (l.map .str)=true)/\(∀l:List Int,ae (l.map (V.int .i64))=true)/\(∀l:List Ex,ae (l.map bu)=true)/\(∀l:List St,ae (l.map encS)=true)/\(∀l:List Pr,ae (l.map aF)=true)/\
 (∀x,al (bu x)=true)/\(∀x,al (encS x)=true)/\(∀x,al (aF x)=true)/\(∀x,al (aP x)=true):=
 ⟨gK,aE,aS,bf,ah,aq,fm,fX,kQ,jM⟩
theorem t58 (xs:List ByteArray) (x:ByteArray):af Tryz.prog 124 [.fs (xs.map V.str),V.str x] (·=.int .i64 (oc (fun y=>decide (x=y)) xs 0)):=by
 refine af.intro c58 200 (by simp) 20 ?_;simp -implicitDefEqProofs only[s58,go_sem];intro hlen;refine aL (fun m e H=>∃pre post,xs=pre++post/\m=post.length/\(∀y∈pre,decide (x=y)=false)/\e 0=.fs (xs.map V.str)/\e 1=V.str x/\e 7=.int .i64 xs.length/\e 8=.int .i64 pre.length) xs.length ⟨[],xs,by simp[az,aC]⟩ ?_;rintro m e H ⟨pre,post,ao,rfl,hp,h0,h1,h7,h8⟩;cases post with
 | nil=>
  simp -implicitDefEqProofs only[h0,h1,h7,h8,aI ao,decide_false,go_sem];simp -implicitDefEqProofs only[YN,push_cast,go_sem_proc];rw[ao,dq _ pre [] 0 hp];rfl
 | cons y post=>
  simp -implicitDefEqProofs only[h0,h1,h7,h8,an ao,aO V.str ao,aa ao hlen,decide_true,go_sem];refine⟨fun hc=> ?_,fun hc=> ?_⟩
  ·simp -implicitDefEqProofs only[YN,push_cast,go_sem_proc];rw[ao,dq _ pre _ 0 hp,oc,hc];simp
  ·exact⟨_,Nat.lt_succ_self _,pre++ [y],post,by simp[ao],rfl,fun z hz=>by rcases List.mem_append.1 hz with hz | hz;exact hp z hz;simp at hz;subst hz;exact hc,by simp⟩
theorem t29 (xs:List ByteArray) (x:ByteArray):af Tryz.prog 51 [.fs (xs.map V.str),V.str x] (·=.bool (xs.any fun y=>decide (x=y))):=by
 refine af.intro c29 200 (by simp) 20 ?_;simp -implicitDefEqProofs only[s29,go_sem];refine di (by simp[ae,al,aE]) (t58 xs x) ?_;simp -implicitDefEqProofs only[go_sem];simp -implicitDefEqProofs only[r29,push_cast,go_sem_proc];exact fY _ _ _ (by omega)
theorem t93 (xs:List Int) (x:Int):af Tryz.prog 59 [.fs (xs.map (V.int .i64)),(V.int .i64) x] (·=.int .i64 (oc (fun y=>decide (x=y)) xs 0)):=by
 refine af.intro c93 200 (by simp) 20 ?_;simp -implicitDefEqProofs only[s93,go_sem];intro hlen;refine aL (fun m e H=>∃pre post,xs=pre++post/\m=post.length/\(∀y∈pre,decide (x=y)=false)/\e 0=.fs (xs.map (V.int .i64))/\e 1=(V.int .i64) x/\e 7=.int .i64 xs.length/\e 8=.int .i64 pre.length) xs.length ⟨[],xs,by simp[az,aC]⟩ ?_;rintro m e H ⟨pre,post,ao,rfl,hp,h0,h1,h7,h8⟩;cases post with
 | nil=>
  simp -implicitDefEqProofs only[h0,h1,h7,h8,aI ao,decide_false,go_sem];simp -implicitDefEqProofs only[YV,push_cast,go_sem_proc];rw[ao,dq _ pre [] 0 hp];rfl
 | cons y post=>
  simp -implicitDefEqProofs only[h0,h1,h7,h8,an ao,aO (V.int .i64) ao,aa ao hlen,decide_true,go_sem];refine⟨fun hc=> ?_,fun hc=> ?_⟩
  ·simp -implicitDefEqProofs only[YV,push_cast,go_sem_proc];rw[ao,dq _ pre _ 0 hp,oc,hc];simp
  ·exact⟨_,Nat.lt_succ_self _,pre++ [y],post,by simp[ao],rfl,fun z hz=>by rcases List.mem_append.1 hz with hz | hz;exact hp z hz;simp at hz;subst hz;exact hc,by simp⟩
theorem t79 (xs:List Int) (x:Int):af Tryz.prog 237 [.fs (xs.map (V.int .i64)),(V.int .i64) x] (·=.bool (xs.any fun y=>decide (x=y))):=by
 refine af.intro c79 200 (by simp) 20 ?_;simp -implicitDefEqProofs only[s79,go_sem];refine di (by simp[ae,al,aS]) (t93 xs x) ?_;simp -implicitDefEqProofs only[go_sem];simp -implicitDefEqProofs only[r79,push_cast,go_sem_proc];exact fY _ _ _ (by omega)
theorem t57 (xs:List ByteArray) (g:FuncId) (first bB:List V) (p:ByteArray->Bool) (hn:ae first=true) (nH:ae bB=true)
 (h:∀x∈xs,af Tryz.prog g (first++ [V.str x]++bB) (·=.bool (p x))):af Tryz.prog 128 [.fs (xs.map V.str),.a6 g first bB] (·=.int .i64 (oc p xs 0)):=by
 refine af.intro c57 200 (by simp) 20 ?_;simp -implicitDefEqProofs only[s57,go_sem];intro hlen;refine aL (fun m e H=>∃pre post,xs=pre++post/\m=post.length/\(∀y∈pre,p y=false)/\e 0=.fs (xs.map V.str)/\e 1=.a6 g first bB/\e 7=.int .i64 xs.length/\e 8=.int .i64 pre.length) xs.length ⟨[],xs,by simp[az,aC]⟩ ?_
 rintro m e H ⟨pre,post,ao,rfl,hp,h0,h1,h7,h8⟩;cases post with
 | nil=>
  simp -implicitDefEqProofs only[h0,h1,h7,h8,aI ao,decide_false,go_sem];simp -implicitDefEqProofs only[YM,push_cast,go_sem_proc];rw[ao,dq _ pre [] 0 hp];rfl
 | cons y post=>
  simp -implicitDefEqProofs only[h0,h1,h7,h8,an ao,aO V.str ao,aa ao hlen,decide_true,go_sem];have hy:=h y (by simp[ao]);simp only[List.append_assoc,List.cons_append,List.nil_append]at hy;refine di (by simp[gK,ae,al,hn,nH,aE]) hy ?_;simp -implicitDefEqProofs only[h0,h1,h7,h8,an ao,aO V.str ao,aa ao hlen,decide_true,go_sem];refine⟨fun hc=> ?_,fun hc=> ?_⟩
  ·simp -implicitDefEqProofs only[YM,push_cast,go_sem_proc];rw[ao,dq _ pre _ 0 hp,oc,hc];simp
  ·exact⟨_,Nat.lt_succ_self _,pre++ [y],post,by simp[ao],rfl,fun z hz=>by rcases List.mem_append.1 hz with hz | hz;exact hp z hz;simp at hz;subst hz;exact hc,by simp⟩
theorem t26 (xs:List ByteArray) (g:FuncId) (first bB:List V) (p:ByteArray->Bool) (hn:ae first=true) (nH:ae bB=true)
 (h:∀x∈xs,af Tryz.prog g (first++ [V.str x]++bB) (·=.bool (p x))):af Tryz.prog 48 [.fs (xs.map V.str),.a6 g first bB] (·=.bool (xs.any p)):=by
 refine af.intro c26 200 (by simp) 20 ?_;simp -implicitDefEqProofs only[s26,go_sem];refine di (by simp[ae,al,hn,nH,aE]) (t57 xs g first bB p hn nH h) ?_
 simp -implicitDefEqProofs only[go_sem];simp -implicitDefEqProofs only[r26,push_cast,go_sem_proc];exact fY _ _ _ (by omega)
theorem t59 (xs:List Pr) (g:FuncId) (first bB:List V) (p:Pr->Bool) (hn:ae first=true) (nH:ae bB=true)
 (h:∀x∈xs,af Tryz.prog g (first++ [aF x]++bB) (·=.bool (p x))):af Tryz.prog 129 [.fs (xs.map aF),.a6 g first bB] (·=.int .i64 (oc p xs 0)):=by
 refine af.intro c59 200 (by simp) 20 ?_;simp -implicitDefEqProofs only[s59,go_sem];intro hlen;refine aL (fun m e H=>∃pre post,xs=pre++post/\m=post.length/\(∀y∈pre,p y=false)/\e 0=.fs (xs.map aF)/\e 1=.a6 g first bB/\e 7=.int .i64 xs.length/\e 8=.int .i64 pre.length) xs.length ⟨[],xs,by simp[az,aC]⟩ ?_
 rintro m e H ⟨pre,post,ao,rfl,hp,h0,h1,h7,h8⟩;cases post with
 | nil=>
  simp -implicitDefEqProofs only[h0,h1,h7,h8,aI ao,decide_false,go_sem];simp -implicitDefEqProofs only[YO,push_cast,go_sem_proc];rw[ao,dq _ pre [] 0 hp];rfl
 | cons y post=>
  simp -implicitDefEqProofs only[h0,h1,h7,h8,an ao,aO aF ao,aa ao hlen,decide_true,aF,go_sem];have hy:=h y (by simp[ao]);simp only[List.append_assoc,List.cons_append,List.nil_append]at hy;refine di (by simp[gK,ae,al,hn,nH,aq,aE,ah,kQ]) hy ?_;simp -implicitDefEqProofs only[h0,h1,h7,h8,an ao,aO aF ao,aa ao hlen,decide_true,go_sem];refine⟨fun hc=> ?_,fun hc=> ?_⟩
  ·simp -implicitDefEqProofs only[YO,push_cast,go_sem_proc];rw[ao,dq _ pre _ 0 hp,oc,hc];simp
  ·exact⟨_,Nat.lt_succ_self _,pre++ [y],post,by simp[ao],rfl,fun z hz=>by rcases List.mem_append.1 hz with hz | hz;exact hp z hz;simp at hz;subst hz;exact hc,by simp⟩
theorem t73 (xs:List Pr) (g:FuncId) (first bB:List V) (p:Pr->Bool) (hn:ae first=true) (nH:ae bB=true)
 (h:∀x∈xs,af Tryz.prog g (first++ [aF x]++bB) (·=.bool (p x))):af Tryz.prog 188 [.fs (xs.map aF),.a6 g first bB] (·=.bool (xs.any p)):=by
 refine af.intro c73 200 (by simp) 20 ?_;simp -implicitDefEqProofs only[s73,go_sem];refine di (by simp[ae,al,hn,nH,aq,aE,ah,kQ]) (t59 xs g first bB p hn nH h) ?_
 simp -implicitDefEqProofs only[go_sem];simp -implicitDefEqProofs only[r73,push_cast,go_sem_proc];exact fY _ _ _ (by omega)
end Go.Proofs.YtdgoeblpcnjlbaaGreatDoor.Av

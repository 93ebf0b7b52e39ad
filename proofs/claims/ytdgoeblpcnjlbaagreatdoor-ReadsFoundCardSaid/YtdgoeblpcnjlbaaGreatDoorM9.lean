/- ReadsFound. Text 9 of 17. -/
import Derived.Test.YtdgoeblpcnjlbaaGreatDoorM8
set_option linter.all false
set_option maxRecDepth 100000
set_option maxHeartbeats 64000000
namespace Go.Proofs.YtdgoeblpcnjlbaaGreatDoor.Av
open Go.RowKit List
theorem S7 (L:List Int) (au:List ByteArray) (ax:List Hd) (d:Int) (hr:2<=au.length) (lJ:au.length<=12) (uO:0<=d) (vi:d<=10) (hh:ax.length<=10) (oS:∀h∈ax,h.2.length<=12)
 (tw:Nat->ByteArray×ByteArray) (eC eP:Nat->Ex×Nat) (od:Nat->List Int×Nat) (sb:Nat->List St×Nat) (M:Nat) (yU:M<=500000) (hM:Gb M L au d ax tw eC eP od sb) (aj:Nat) (Cb:aj<=M)
 (hP:vh L (aj+2)=2):Lm L au d ax tw eC eP od sb aj:=by
 intro ca n N T j kv acc J e H m kk hT hL nZ hn yV hk;obtain⟨e0,e1,e2,e4,kV,iJ,lr,rfl,bm,fI⟩:=hL;have gg:((j:Int)<n):=by omega
 have fS:IntKind.i64.wrap ((j:Int)+1)=((j+1:Nat):Int):=bG (by omega);have h5:=(t5 L (aj+2) [1,1,1,2,3,3,4,4,5] (by omega) (by simp) (by simp)).at hT J;simp only[List.map_cons,List.map_nil,List.length_cons,List.length_nil,Nat.zero_add,Nat.reduceAdd]at h5;change av _ _ _ _ (bX (.int .i64 (vh L (aj+2))) _)at h5;have tT:=(hM.tw aj (by omega)).at hT J;rw[hP]at h5;generalize xU:tw aj=DC at*;obtain⟨r1,r2⟩:=DC;simp only at tT;have oA:=(t41 L (aj+3) F8 (by omega) (by decide) (by decide));simp only[F8,List.map_cons,List.map_nil]at oA;change MC _ _ _ _ (.str (uS L (aj+3) F8)) _ at oA;generalize xV:uS L (aj+3) F8=so at*;have hx:one L au d ax tw eC eP od sb aj=([.mk 2 r1 r2 em so uR [] [] em []],aj+4):=by simp[one,hP,xU,xV]
 simp(maxSteps:=1000000) -implicitDefEqProofs only[jt,e0,e1,e2,e4,kV,iJ,lr,hT.tok.len,hT.tok.bW,hT.tok.bT,hT.tok.aZ,hT.tok.aW,hT.tok.get,gg,fS,Int.reduceEq,go_sem];repeat' (first | ((first | (with_reducible first | refine bR tT ?_ | refine bR h5 ?_ | refine bR ((oA.at hT _)) ?_) | (with_reducible refine aD ?_));simp(maxSteps:=1000000) -implicitDefEqProofs only[e0,e1,e2,e4,kV,iJ,lr,hT.tok.len,hT.tok.bW,hT.tok.bT,hT.tok.aZ,hT.tok.aW,hT.tok.get,gg,fS,Int.reduceEq,go_sem]) | (with_reducible refine aA.mk ?_ ?_) | (with_reducible refine And.intro ?_ ?_) | ((with_reducible refine bz ?_);simp(maxSteps:=1000000) -implicitDefEqProofs only[tS,hT.tok.len,hT.tok.bW,hT.tok.bT,hT.tok.aZ,hT.tok.aW,hT.tok.get,push_cast,go_sem_proc]) | intro _)
 refine⟨[],.agg [.int .i64 2,.str r1,.str r2,.str ⟨#[]⟩,.str so,.int .i64 0,.int .i64 0,.str ⟨#[]⟩,.fs [],.fs [],.fs [],.str ⟨#[]⟩,.fs []],kS _ _ (by simp(maxSteps:=1000000) -implicitDefEqProofs only[push_cast,go_sem_proc]),?_⟩;simp only[bO];simp(maxSteps:=1000000) -implicitDefEqProofs only[e0,e1,e2,e4,kV,iJ,lr,hT.tok.len,hT.tok.bW,hT.tok.bT,hT.tok.aZ,hT.tok.aW,hT.tok.get,gg,fS,Int.reduceEq,go_sem];refine kU hT.tok (acc:=acc.map encS) ?_ fI ?_ (cx _) ?_ ?_
 ·have:=bm.tail (hT.tok.len _) fI (hT.tok.len (aj+4));simpa using this.app _
 ·intro i o l h;cases h
 ·simp;omega
 ·intro bN J' bo fG;simp(maxSteps:=1000000) -implicitDefEqProofs only[e0,e1,e2,e4,kV,iJ,lr,hT.tok.len,hT.tok.bW,hT.tok.bT,hT.tok.aZ,hT.tok.aW,hT.tok.get,gg,fS,Int.reduceEq,go_sem];refine hk _ _ bN J' _ ⟨?_,?_,?_,?_,?_,?_,?_,?_,?_,?_⟩;all_goals first
   | (simp only[az,e0,e1,e2,e4,iJ];simp;done)
   | (simp only[az,e0,e1,e2,e4,iJ];simp[yW];done)
   | (rw[hx];done)
   | (rw[hx];simpa[ay,bp,em,uR]using bo)
   | (simpa using fG)
theorem N3 (L:List Int) (au:List ByteArray) (ax:List Hd) (d:Int) (hr:2<=au.length) (lJ:au.length<=12) (uO:0<=d) (vi:d<=10) (hh:ax.length<=10) (oS:∀h∈ax,h.2.length<=12)
 (tw:Nat->ByteArray×ByteArray) (eC eP:Nat->Ex×Nat) (od:Nat->List Int×Nat) (sb:Nat->List St×Nat) (M:Nat) (yU:M<=500000) (hM:Gb M L au d ax tw eC eP od sb) (aj:Nat) (Cb:aj<=M)
 (hP:vh L (aj+2)=3):Lm L au d ax tw eC eP od sb aj:=by
 intro ca n N T j kv acc J e H m kk hT hL nZ hn yV hk;obtain⟨e0,e1,e2,e4,kV,iJ,lr,rfl,bm,fI⟩:=hL;have gg:((j:Int)<n):=by omega
 have fS:IntKind.i64.wrap ((j:Int)+1)=((j+1:Nat):Int):=bG (by omega);have h5:=(t5 L (aj+2) [1,1,1,2,3,3,4,4,5] (by omega) (by simp) (by simp)).at hT J;simp only[List.map_cons,List.map_nil,List.length_cons,List.length_nil,Nat.zero_add,Nat.reduceAdd]at h5;change av _ _ _ _ (bX (.int .i64 (vh L (aj+2))) _)at h5;have tT:=(hM.tw aj (by omega)).at hT J;rw[hP]at h5;generalize xU:tw aj=DC at*;obtain⟨r1,r2⟩:=DC;simp only at tT;have oA:=(t41 L (aj+3) lD (by omega) (by decide) (by decide));simp only[lD,List.map_cons,List.map_nil]at oA;change MC _ _ _ _ (.str (uS L (aj+3) lD)) _ at oA;generalize xV:uS L (aj+3) lD=so at*;obtain⟨t1,t2,_,tO⟩:=hM.eP (aj+4) (by omega);generalize Gc:eP (aj+4)=tr at*;obtain⟨⟨ek,en,es,aR⟩,a1⟩:=tr;simp only[bp]at tO t1 t2;have hx:one L au d ax tw eC eP od sb aj=([.mk 3 r1 em so em (.mk ek en es aR) [] [] em []],a1):=by simp[one,hP,xU,xV,Gc]
 simp(maxSteps:=1000000) -implicitDefEqProofs only[jt,e0,e1,e2,e4,kV,iJ,lr,hT.tok.len,hT.tok.bW,hT.tok.bT,hT.tok.aZ,hT.tok.aW,hT.tok.get,gg,fS,Int.reduceEq,go_sem];repeat' (first | ((first | (with_reducible first | refine bR tT ?_ | refine bR h5 ?_ | refine bR ((oA.at hT _)) ?_ | refine bR ((tO.at hT _)) ?_) | (with_reducible refine aD ?_));simp(maxSteps:=1000000) -implicitDefEqProofs only[e0,e1,e2,e4,kV,iJ,lr,hT.tok.len,hT.tok.bW,hT.tok.bT,hT.tok.aZ,hT.tok.aW,hT.tok.get,gg,fS,Int.reduceEq,go_sem]) | (with_reducible refine aA.mk ?_ ?_) | (with_reducible refine And.intro ?_ ?_) | ((with_reducible refine bz ?_);simp(maxSteps:=1000000) -implicitDefEqProofs only[tS,hT.tok.len,hT.tok.bW,hT.tok.bT,hT.tok.aZ,hT.tok.aW,hT.tok.get,push_cast,go_sem_proc]) | intro _)
 refine⟨[],.agg [.int .i64 3,.str r1,.str ⟨#[]⟩,.str so,.str ⟨#[]⟩,.int .i64 ek,.int .i64 en,.str es,.fs (aR.map bu),.fs [],.fs [],.str ⟨#[]⟩,.fs []],kS _ _ (by simp(maxSteps:=1000000) -implicitDefEqProofs only[push_cast,go_sem_proc]),?_⟩;simp only[bO];simp(maxSteps:=1000000) -implicitDefEqProofs only[e0,e1,e2,e4,kV,iJ,lr,hT.tok.len,hT.tok.bW,hT.tok.bT,hT.tok.aZ,hT.tok.aW,hT.tok.get,gg,fS,Int.reduceEq,go_sem];refine kU hT.tok (acc:=acc.map encS) ?_ fI ?_ (cx _) ?_ ?_
 ·have:=bm.tail (hT.tok.len _) fI (hT.tok.len (a1));simpa using this.app _
 ·intro i o l h;cases h
 ·simp;omega
 ·intro bN J' bo fG;simp(maxSteps:=1000000) -implicitDefEqProofs only[e0,e1,e2,e4,kV,iJ,lr,hT.tok.len,hT.tok.bW,hT.tok.bT,hT.tok.aZ,hT.tok.aW,hT.tok.get,gg,fS,Int.reduceEq,go_sem];refine hk _ _ bN J' _ ⟨?_,?_,?_,?_,?_,?_,?_,?_,?_,?_⟩;all_goals first
   | (simp only[az,e0,e1,e2,e4,iJ];simp;done)
   | (simp only[az,e0,e1,e2,e4,iJ];simp[yW];done)
   | (rw[hx];done)
   | (rw[hx];simpa[ay,bp,em,uR]using bo)
   | (simpa using fG)
theorem N4 (L:List Int) (au:List ByteArray) (ax:List Hd) (d:Int) (hr:2<=au.length) (lJ:au.length<=12) (uO:0<=d) (vi:d<=10) (hh:ax.length<=10) (oS:∀h∈ax,h.2.length<=12)
 (tw:Nat->ByteArray×ByteArray) (eC eP:Nat->Ex×Nat) (od:Nat->List Int×Nat) (sb:Nat->List St×Nat) (M:Nat) (yU:M<=500000) (hM:Gb M L au d ax tw eC eP od sb) (aj:Nat) (Cb:aj<=M)
 (hP:vh L (aj+2)=4) (l3:d<2):Lm L au d ax tw eC eP od sb aj:=by
 intro ca n N T j kv acc J e H m kk hT hL nZ hn yV hk;obtain⟨e0,e1,e2,e4,kV,iJ,lr,rfl,bm,fI⟩:=hL;have gg:((j:Int)<n):=by omega
 have fS:IntKind.i64.wrap ((j:Int)+1)=((j+1:Nat):Int):=bG (by omega);have h5:=(t5 L (aj+2) [1,1,1,2,3,3,4,4,5] (by omega) (by simp) (by simp)).at hT J;simp only[List.map_cons,List.map_nil,List.length_cons,List.length_nil,Nat.zero_add,Nat.reduceAdd]at h5;change av _ _ _ _ (bX (.int .i64 (vh L (aj+2))) _)at h5;have tT:=(hM.tw aj (by omega)).at hT J;rw[hP]at h5;generalize xU:tw aj=DC at*;obtain⟨r1,r2⟩:=DC;simp only at tT;have oA:=(t41 L (aj+3) lD (by omega) (by decide) (by decide));simp only[lD,List.map_cons,List.map_nil]at oA;change MC _ _ _ _ (.str (uS L (aj+3) lD)) _ at oA;generalize xV:uS L (aj+3) lD=so at*;obtain⟨t1,t2,_,tO⟩:=hM.eP (aj+4) (by omega);generalize Gc:eP (aj+4)=tr at*;obtain⟨⟨ek,en,es,aR⟩,a1⟩:=tr;simp only[bp]at tO t1 t2;have hx:one L au d ax tw eC eP od sb aj=([.mk 3 r1 em so em (.mk ek en es aR) [] [] em []],a1):=by simp[one,hP,l3,xU,xV,Gc]
 simp(maxSteps:=1000000) -implicitDefEqProofs only[jt,e0,e1,e2,e4,kV,iJ,lr,hT.tok.len,hT.tok.bW,hT.tok.bT,hT.tok.aZ,hT.tok.aW,hT.tok.get,gg,fS,Int.reduceEq,l3,go_sem];repeat' (first | ((first | (with_reducible first | refine bR tT ?_ | refine bR h5 ?_ | refine bR ((oA.at hT _)) ?_ | refine bR ((tO.at hT _)) ?_) | (with_reducible refine aD ?_));simp(maxSteps:=1000000) -implicitDefEqProofs only[e0,e1,e2,e4,kV,iJ,lr,hT.tok.len,hT.tok.bW,hT.tok.bT,hT.tok.aZ,hT.tok.aW,hT.tok.get,gg,fS,Int.reduceEq,l3,go_sem]) | (with_reducible refine aA.mk ?_ ?_) | (with_reducible refine And.intro ?_ ?_) | ((with_reducible refine bz ?_);simp(maxSteps:=1000000) -implicitDefEqProofs only[tS,hT.tok.len,hT.tok.bW,hT.tok.bT,hT.tok.aZ,hT.tok.aW,hT.tok.get,push_cast,go_sem_proc]) | intro _)
 refine⟨[],.agg [.int .i64 3,.str r1,.str ⟨#[]⟩,.str so,.str ⟨#[]⟩,.int .i64 ek,.int .i64 en,.str es,.fs (aR.map bu),.fs [],.fs [],.str ⟨#[]⟩,.fs []],kS _ _ (by simp(maxSteps:=1000000) -implicitDefEqProofs only[push_cast,go_sem_proc]),?_⟩;simp only[bO];simp(maxSteps:=1000000) -implicitDefEqProofs only[e0,e1,e2,e4,kV,iJ,lr,hT.tok.len,hT.tok.bW,hT.tok.bT,hT.tok.aZ,hT.tok.aW,hT.tok.get,gg,fS,Int.reduceEq,l3,go_sem];refine kU hT.tok (acc:=acc.map encS) ?_ fI ?_ (cx _) ?_ ?_
 ·have:=bm.tail (hT.tok.len _) fI (hT.tok.len (a1));simpa using this.app _
 ·intro i o l h;cases h
 ·simp;omega
 ·intro bN J' bo fG;simp(maxSteps:=1000000) -implicitDefEqProofs only[e0,e1,e2,e4,kV,iJ,lr,hT.tok.len,hT.tok.bW,hT.tok.bT,hT.tok.aZ,hT.tok.aW,hT.tok.get,gg,fS,Int.reduceEq,l3,go_sem];refine hk _ _ bN J' _ ⟨?_,?_,?_,?_,?_,?_,?_,?_,?_,?_⟩;all_goals first
   | (simp only[az,e0,e1,e2,e4,iJ];simp;done)
   | (simp only[az,e0,e1,e2,e4,iJ];simp[yW];done)
   | (rw[hx];done)
   | (rw[hx];simpa[ay,bp,em,uR]using bo)
   | (simpa using fG)
theorem N5 (L:List Int) (au:List ByteArray) (ax:List Hd) (d:Int) (hr:2<=au.length) (lJ:au.length<=12) (uO:0<=d) (vi:d<=10) (hh:ax.length<=10) (oS:∀h∈ax,h.2.length<=12)
 (tw:Nat->ByteArray×ByteArray) (eC eP:Nat->Ex×Nat) (od:Nat->List Int×Nat) (sb:Nat->List St×Nat) (M:Nat) (yU:M<=500000) (hM:Gb M L au d ax tw eC eP od sb) (aj:Nat) (Cb:aj<=M)
 (hP:vh L (aj+2)=5) (yW:ax=[]):Lm L au d ax tw eC eP od sb aj:=by
 intro ca n N T j kv acc J e H m kk hT hL nZ hn yV hk;obtain⟨e0,e1,e2,e4,kV,iJ,lr,rfl,bm,fI⟩:=hL;have gg:((j:Int)<n):=by omega
 have fS:IntKind.i64.wrap ((j:Int)+1)=((j+1:Nat):Int):=bG (by omega);have h5:=(t5 L (aj+2) [1,1,1,2,3,3,4,4,5] (by omega) (by simp) (by simp)).at hT J;simp only[List.map_cons,List.map_nil,List.length_cons,List.length_nil,Nat.zero_add,Nat.reduceAdd]at h5;change av _ _ _ _ (bX (.int .i64 (vh L (aj+2))) _)at h5;have tT:=(hM.tw aj (by omega)).at hT J;rw[hP]at h5;rw[yW,List.map_nil]at e4;have QB:((0:Nat):Int)=0:=rfl;generalize xU:tw aj=DC at*;obtain⟨r1,r2⟩:=DC;simp only at tT;have oA:=(t41 L (aj+3) lD (by omega) (by decide) (by decide));simp only[lD,List.map_cons,List.map_nil]at oA;change MC _ _ _ _ (.str (uS L (aj+3) lD)) _ at oA;generalize xV:uS L (aj+3) lD=so at*;obtain⟨t1,t2,_,tO⟩:=hM.eP (aj+4) (by omega);generalize Gc:eP (aj+4)=tr at*;obtain⟨⟨ek,en,es,aR⟩,a1⟩:=tr;simp only[bp]at tO t1 t2;have hx:one L au d ax tw eC eP od sb aj=([.mk 3 r1 em so em (.mk ek en es aR) [] [] em []],a1):=by simp[one,hP,yW,xU,xV,Gc]
 simp(maxSteps:=1000000) -implicitDefEqProofs only[jt,e0,e1,e2,e4,kV,iJ,lr,hT.tok.len,hT.tok.bW,hT.tok.bT,hT.tok.aZ,hT.tok.aW,hT.tok.get,gg,fS,Int.reduceEq,QB,go_sem];repeat' (first | ((first | (with_reducible first | refine bR tT ?_ | refine bR h5 ?_ | refine bR ((oA.at hT _)) ?_ | refine bR ((tO.at hT _)) ?_) | (with_reducible refine aD ?_));simp(maxSteps:=1000000) -implicitDefEqProofs only[e0,e1,e2,e4,kV,iJ,lr,hT.tok.len,hT.tok.bW,hT.tok.bT,hT.tok.aZ,hT.tok.aW,hT.tok.get,gg,fS,Int.reduceEq,QB,go_sem]) | (with_reducible refine aA.mk ?_ ?_) | (with_reducible refine And.intro ?_ ?_) | ((with_reducible refine bz ?_);simp(maxSteps:=1000000) -implicitDefEqProofs only[tS,hT.tok.len,hT.tok.bW,hT.tok.bT,hT.tok.aZ,hT.tok.aW,hT.tok.get,push_cast,go_sem_proc]) | intro _)
 refine⟨[],.agg [.int .i64 3,.str r1,.str ⟨#[]⟩,.str so,.str ⟨#[]⟩,.int .i64 ek,.int .i64 en,.str es,.fs (aR.map bu),.fs [],.fs [],.str ⟨#[]⟩,.fs []],kS _ _ (by simp(maxSteps:=1000000) -implicitDefEqProofs only[push_cast,go_sem_proc]),?_⟩;simp only[bO];simp(maxSteps:=1000000) -implicitDefEqProofs only[e0,e1,e2,e4,kV,iJ,lr,hT.tok.len,hT.tok.bW,hT.tok.bT,hT.tok.aZ,hT.tok.aW,hT.tok.get,gg,fS,Int.reduceEq,QB,go_sem];refine kU hT.tok (acc:=acc.map encS) ?_ fI ?_ (cx _) ?_ ?_
 ·have:=bm.tail (hT.tok.len _) fI (hT.tok.len (a1));simpa using this.app _
 ·intro i o l h;cases h
 ·simp;omega
 ·intro bN J' bo fG;simp(maxSteps:=1000000) -implicitDefEqProofs only[e0,e1,e2,e4,kV,iJ,lr,hT.tok.len,hT.tok.bW,hT.tok.bT,hT.tok.aZ,hT.tok.aW,hT.tok.get,gg,fS,Int.reduceEq,QB,go_sem];refine hk _ _ bN J' _ ⟨?_,?_,?_,?_,?_,?_,?_,?_,?_,?_⟩;all_goals first
   | (simp only[az,e0,e1,e2,e4,iJ];simp;done)
   | (simp only[az,e0,e1,e2,e4,iJ];simp[yW];done)
   | (rw[hx];done)
   | (rw[hx];simpa[ay,bp,em,uR]using bo)
   | (simpa using fG)
theorem S8 (L:List Int) (au:List ByteArray) (ax:List Hd) (d:Int) (hr:2<=au.length) (lJ:au.length<=12) (uO:0<=d) (vi:d<=10) (hh:ax.length<=10) (oS:∀h∈ax,h.2.length<=12)
 (tw:Nat->ByteArray×ByteArray) (eC eP:Nat->Ex×Nat) (od:Nat->List Int×Nat) (sb:Nat->List St×Nat) (M:Nat) (yU:M<=500000) (hM:Gb M L au d ax tw eC eP od sb) (aj:Nat) (Cb:aj<=M)
 (hP:vh L (aj+2)=4) (l3:¬d<2):Lm L au d ax tw eC eP od sb aj:=by
 intro ca n N T j kv acc J e H m kk hT hL nZ hn yV hk;obtain⟨e0,e1,e2,e4,kV,iJ,lr,rfl,bm,fI⟩:=hL;have gg:((j:Int)<n):=by omega
 have fS:IntKind.i64.wrap ((j:Int)+1)=((j+1:Nat):Int):=bG (by omega);have h5:=(t5 L (aj+2) [1,1,1,2,3,3,4,4,5] (by omega) (by simp) (by simp)).at hT J;simp only[List.map_cons,List.map_nil,List.length_cons,List.length_nil,Nat.zero_add,Nat.reduceAdd]at h5;change av _ _ _ _ (bX (.int .i64 (vh L (aj+2))) _)at h5;have tT:=(hM.tw aj (by omega)).at hT J;rw[hP]at h5;generalize xU:tw aj=DC at*;obtain⟨r1,r2⟩:=DC;simp only at tT;obtain⟨t1,t2,_,tO⟩:=hM.eC (aj+3) (by omega);generalize Gc:eC (aj+3)=tr at*;obtain⟨⟨ek,en,es,aR⟩,a1⟩:=tr;simp only[bp]at tO t1 t2;obtain⟨u1,u2,u5⟩:=hM.sb (by omega) a1 (by omega);generalize ZD:sb a1=sr1 at*;obtain⟨x2,a2⟩:=sr1;simp only at u5 u1 u2;obtain⟨u3,u4,lz⟩:=hM.sb (by omega) a2 (by omega);generalize ZE:sb a2=sr2 at*;obtain⟨x3,a3⟩:=sr2;simp only at lz u3 u4;have wd:IntKind.i64.wrap (d - 1)=d - 1:=bP (by omega) (by omega);have hx:one L au d ax tw eC eP od sb aj=([.mk 4 r1 em em em (.mk ek en es aR) x2 x3 em []],a3):=by simp[one,hP,l3,xU,Gc,ZD,ZE]
 simp(maxSteps:=1000000) -implicitDefEqProofs only[jt,e0,e1,e2,e4,kV,iJ,lr,hT.tok.len,hT.tok.bW,hT.tok.bT,hT.tok.aZ,hT.tok.aW,hT.tok.get,gg,fS,Int.reduceEq,l3,wd,go_sem];repeat' (first | ((first | (with_reducible first | refine bR tT ?_ | refine bR h5 ?_ | refine bR ((tO.at hT _)) ?_ | refine bR ((u5.at hT _)) ?_ | refine bR ((lz.at hT _)) ?_) | (with_reducible refine aD ?_));simp(maxSteps:=1000000) -implicitDefEqProofs only[e0,e1,e2,e4,kV,iJ,lr,hT.tok.len,hT.tok.bW,hT.tok.bT,hT.tok.aZ,hT.tok.aW,hT.tok.get,gg,fS,Int.reduceEq,l3,wd,go_sem]) | (with_reducible refine aA.mk ?_ ?_) | (with_reducible refine And.intro ?_ ?_) | ((with_reducible refine bz ?_);simp(maxSteps:=1000000) -implicitDefEqProofs only[tS,hT.tok.len,hT.tok.bW,hT.tok.bT,hT.tok.aZ,hT.tok.aW,hT.tok.get,push_cast,go_sem_proc]) | intro _)
 refine⟨[],.agg [.int .i64 4,.str r1,.str ⟨#[]⟩,.str ⟨#[]⟩,.str ⟨#[]⟩,.int .i64 ek,.int .i64 en,.str es,.fs (aR.map bu),.fs (x2.map encS),.fs (x3.map encS),.str ⟨#[]⟩,.fs []],kS _ _ (by simp(maxSteps:=1000000) -implicitDefEqProofs only[push_cast,go_sem_proc]),?_⟩;simp only[bO];simp(maxSteps:=1000000) -implicitDefEqProofs only[e0,e1,e2,e4,kV,iJ,lr,hT.tok.len,hT.tok.bW,hT.tok.bT,hT.tok.aZ,hT.tok.aW,hT.tok.get,gg,fS,Int.reduceEq,l3,wd,go_sem];refine kU hT.tok (acc:=acc.map encS) ?_ fI ?_ (cx _) ?_ ?_
 ·have:=bm.tail (hT.tok.len _) fI (hT.tok.len (a3));simpa using this.app _
 ·intro i o l h;cases h
 ·simp;omega
 ·intro bN J' bo fG;simp(maxSteps:=1000000) -implicitDefEqProofs only[e0,e1,e2,e4,kV,iJ,lr,hT.tok.len,hT.tok.bW,hT.tok.bT,hT.tok.aZ,hT.tok.aW,hT.tok.get,gg,fS,Int.reduceEq,l3,wd,go_sem];refine hk _ _ bN J' _ ⟨?_,?_,?_,?_,?_,?_,?_,?_,?_,?_⟩;all_goals first
   | (simp only[az,e0,e1,e2,e4,iJ];simp;done)
   | (simp only[az,e0,e1,e2,e4,iJ];simp[yW];done)
   | (rw[hx];done)
   | (rw[hx];simpa[ay,bp,em,uR]using bo)
   | (simpa using fG)
theorem S9 (L:List Int) (au:List ByteArray) (ax:List Hd) (d:Int) (hr:2<=au.length) (lJ:au.length<=12) (uO:0<=d) (vi:d<=10) (hh:ax.length<=10) (oS:∀h∈ax,h.2.length<=12)
 (tw:Nat->ByteArray×ByteArray) (eC eP:Nat->Ex×Nat) (od:Nat->List Int×Nat) (sb:Nat->List St×Nat) (M:Nat) (yU:M<=500000) (hM:Gb M L au d ax tw eC eP od sb) (aj:Nat) (Cb:aj<=M)
 (hP:vh L (aj+2)=5) (yW:ax≠ []):Lm L au d ax tw eC eP od sb aj:=by
 intro ca n N T j kv acc J e H m kk hT hL nZ hn yV hk;obtain⟨e0,e1,e2,e4,kV,iJ,lr,rfl,bm,fI⟩:=hL;have gg:((j:Int)<n):=by omega
 have fS:IntKind.i64.wrap ((j:Int)+1)=((j+1:Nat):Int):=bG (by omega);have h5:=(t5 L (aj+2) [1,1,1,2,3,3,4,4,5] (by omega) (by simp) (by simp)).at hT J;simp only[List.map_cons,List.map_nil,List.length_cons,List.length_nil,Nat.zero_add,Nat.reduceAdd]at h5;change av _ _ _ _ (bX (.int .i64 (vh L (aj+2))) _)at h5;have tT:=(hM.tw aj (by omega)).at hT J;rw[hP]at h5;generalize xU:tw aj=DC at*;obtain⟨r1,r2⟩:=DC;simp only at tT;have hhl:1<=ax.length:=by cases ax with
  | nil=>exact absurd rfl yW
  | cons _ _=>simp
 have gi:=cq (L:=L) (a:=aj+3) (n:=ax.length) (by omega) (by omega);have cZ:=t16 L (aj+3) ax.length (by omega);have Io:one L au d ax tw eC eP od sb aj=if(ax.getD (dz L (aj+3) ax.length).toNat (em,[])).2.length>au.length then([],aj+4)else([.mk 5 em em em em uR [] [] (ax.getD (dz L (aj+3) ax.length).toNat (em,[])).1 (((od (aj+4)).1.take (ax.getD (dz L (aj+3) ax.length).toNat (em,[])).2.length).map fun i=>au.getD i.toNat em)],(od (aj+4)).2):=by simp[one,hP,yW]
 generalize dz L (aj+3) ax.length=v at*;obtain⟨ix,rfl⟩:∃ix:Nat,v=ix:=⟨v.toNat,by omega⟩;simp only[Int.toNat_natCast]at Io;have DD:ix<ax.length:=by omega
 have Ta:(ax.map dH).getD ix .any=dH (ax.getD ix (em,[])):=by simp[List.getD,DD]
 have da:ax.getD ix (em,[])∈ax:=by simp[List.getD,DD]
 have cR:=oS _ da;generalize ax.getD ix (em,[])=hd at*;obtain⟨key,params⟩:=hd;simp only at Io cR;simp only[dH]at Ta;have j5:¬((ax.length:Int)=0):=by omega
 by_cases Xc:params.length>au.length
 ·have hx:one L au d ax tw eC eP od sb aj=([],aj+4):=by rw[Io,if_pos Xc]
  have Gd:((au.length:Int)<params.length):=by omega
  simp(maxSteps:=1000000) -implicitDefEqProofs only[jt,e0,e1,e2,e4,kV,iJ,lr,hT.tok.len,hT.tok.bW,hT.tok.bT,hT.tok.aZ,hT.tok.aW,hT.tok.get,gg,fS,Int.reduceEq,Int.reduceLT,j5,DD,Ta,Gd,go_sem];repeat' (first | ((first | (with_reducible first | refine bR tT ?_ | refine bR h5 ?_ | refine bR ((cZ.at hT _)) ?_) | (with_reducible refine aD ?_));simp(maxSteps:=1000000) -implicitDefEqProofs only[e0,e1,e2,e4,kV,iJ,lr,hT.tok.len,hT.tok.bW,hT.tok.bT,hT.tok.aZ,hT.tok.aW,hT.tok.get,gg,fS,Int.reduceEq,Int.reduceLT,j5,DD,Ta,Gd,go_sem]) | (with_reducible refine aA.mk ?_ ?_) | (with_reducible refine And.intro ?_ ?_) | ((with_reducible refine bz ?_);simp(maxSteps:=1000000) -implicitDefEqProofs only[tS,hT.tok.len,hT.tok.bW,hT.tok.bT,hT.tok.aZ,hT.tok.aW,hT.tok.get,push_cast,go_sem_proc]) | intro _)
  refine hk _ _ kv (J++ [ak.row [.agg [.int .i64 5,.str ⟨#[]⟩,.str ⟨#[]⟩,.str ⟨#[]⟩,.str ⟨#[]⟩,.int .i64 0,.int .i64 0,.str ⟨#[]⟩,.ag,.ag,.ag,.str ⟨#[]⟩,.ag]],ak.row [.agg [.str key,.fs (params.map .str)]]]) _ ⟨?_,?_,?_,?_,?_,?_,?_,?_,?_,?_⟩;all_goals first
   | (simp only[az,e0,e1,e2,e4,kV,iJ];simp;done)
   | (rw[hx];done)
   | (rw[hx];simpa using(bm.tail (hT.tok.len _) fI (hT.tok.len (aj+4))).app _)
   | (simpa using fI)
 ·have hx:=Io;rw[if_neg Xc]at hx;have Gd:¬((au.length:Int)<params.length):=by omega
  obtain⟨g1,g2,g3,g4,FX⟩:=hM.od (aj+4) (by omega);generalize hod:od (aj+4)=od0 at*;obtain⟨o,a5⟩:=od0;simp only at g1 g2 g3 g4 FX hx;have IL:((params.length:Int)<=o.length):=by omega
  have EE:(o.take params.length).length=params.length:=by rw[List.length_take];omega
  simp(maxSteps:=1000000) -implicitDefEqProofs only[jt,e0,e1,e2,e4,kV,iJ,lr,hT.tok.len,hT.tok.bW,hT.tok.bT,hT.tok.aZ,hT.tok.aW,hT.tok.get,gg,fS,Int.reduceEq,Int.reduceLT,j5,DD,Ta,Gd,go_sem];repeat' (first | ((first | (with_reducible first | refine bR tT ?_ | refine bR h5 ?_ | refine bR ((cZ.at hT _)) ?_ | refine bR ((FX.at hT _)) ?_) | (with_reducible refine aD ?_));simp(maxSteps:=1000000) -implicitDefEqProofs only[e0,e1,e2,e4,kV,iJ,lr,hT.tok.len,hT.tok.bW,hT.tok.bT,hT.tok.aZ,hT.tok.aW,hT.tok.get,gg,fS,Int.reduceEq,Int.reduceLT,j5,DD,Ta,Gd,IL,pQ,Int.le_refl,Int.natCast_nonneg,<-List.map_take,EE,go_sem]) | (with_reducible refine aA.mk ?_ ?_) | (with_reducible refine And.intro ?_ ?_) | ((with_reducible refine bz ?_);simp(maxSteps:=1000000) -implicitDefEqProofs only[tS,hT.tok.len,hT.tok.bW,hT.tok.bT,hT.tok.aZ,hT.tok.aW,hT.tok.get,push_cast,go_sem_proc]) | intro _)
  all_goals (try exact trivial)
  refine ZA hT.tok a5 J (ak.row [.agg [.str key,.fs (params.map .str)]]) key au (o.take params.length) (by omega) (fun x hx=>g4 x (List.mem_of_mem_take hx)) _ (by simp[az,e1]) (by simp[az]) (by simp[az]) (by simp[az,EE]) (by simp[az]) (m+67) _ ?_;intro p e' fH J2 hpm cp bJ ZF;obtain⟨pq,rfl⟩:∃pq,p=pq+67:=⟨p - 67,by omega⟩;clear hpm;have f0:e' 0=.ptr ca 0 0:=(cp 0 (by omega) (by omega)).trans (by simp[az,e0]);have f1:e' 1=.fs (au.map .str):=(cp 1 (by omega) (by omega)).trans (by simp[az,e1]);have f2:e' 2=.int .i64 d:=(cp 2 (by omega) (by omega)).trans (by simp[az,e2]);have f4:e' 4=.fs (ax.map dH):=(cp 4 (by omega) (by omega)).trans (by simp[az,e4]);have f11:e' 11=kv:=(cp 11 (by omega) (by omega)).trans (by simp[az,kV]);have f14:e' 14=.ptr (N+J.length) 0 0:=(cp 14 (by omega) (by omega)).trans (by simp[az]);have f20:e' 20=.int .i64 n:=(cp 20 (by omega) (by omega)).trans (by simp[az,iJ]);have f21:e' 21=.int .i64 j:=(cp 21 (by omega) (by omega)).trans (by simp[az,lr]);clear cp;generalize eD:((o.take params.length).map fun i=>au.getD i.toNat em)=args at*;have cY:=bJ.cS;simp only[V.one]at cY;have j8:=bJ.one;obtain⟨X',hX⟩:=ow (A:=T a5++J) (X:=X5 key fH::ak.row [.agg [.str key,.fs (params.map .str)]]::J2) (N:=N+J.length) (by rw[List.length_append,hT.tok.len]);have ZG:=ou (A:=T a5++J) (X:=X5 key fH::ak.row [.agg [.str key,.fs (params.map .str)]]::J2) (N:=N+J.length) (by rw[List.length_append,hT.tok.len]);rw[List.append_assoc,List.append_assoc]at hX;rw[List.append_assoc]at ZG;have ZH:OV (List.replicate (N+J.length) .dead++(X5 key fH::ak.row [.agg [.str key,.fs (params.map .str)]]::J2)) fH (args.map .str):=by
   refine OV.tail (A:=T a5++J) (n:=N+J.length) ?_ (by rw[List.length_append,hT.tok.len]) (fun i hi=>ZF i (by omega)) List.length_replicate;rw[List.append_assoc];exact bJ
  have hzk:fz _ 19 fH=_:=dw (f:=V.str) (n:=17) (fun H x=>dN H _ x) ZH;generalize List.range' (N+J.length) (X5 key fH::ak.row [.agg [.str key,.fs (params.map .str)]]::J2).length=D at*;simp only[X5]at hX ZG hzk⊢;simp(maxSteps:=1000000) -implicitDefEqProofs only[f0,f1,f2,f4,f11,f14,f20,f21,hT.tok.len,hT.tok.bW,hT.tok.bT,hT.tok.aZ,hT.tok.aW,hT.tok.get,gg,fS,cY,j8,go_sem];refine⟨D,.agg [.int .i64 5,.str ⟨#[]⟩,.str ⟨#[]⟩,.str ⟨#[]⟩,.str ⟨#[]⟩,.int .i64 0,.int .i64 0,.str ⟨#[]⟩,.fs [],.fs [],.fs [],.str key,.fs (args.map .str)],by rw[ZG];simp(maxSteps:=1000000) -implicitDefEqProofs only[hzk,push_cast,go_sem_proc],?_⟩;rw[hX];simp(maxSteps:=1000000) -implicitDefEqProofs only[f0,f1,f2,f4,f11,f14,f20,f21,hT.tok.len,hT.tok.bW,hT.tok.bT,hT.tok.aZ,hT.tok.aW,hT.tok.get,gg,fS,cY,j8,go_sem];refine kU hT.tok (acc:=acc.map encS) ?_ fI ?_ (cx _) ?_ ?_
  ·have:=bm.tail (hT.tok.len _) fI (hT.tok.len a5);simpa using this.app _
  ·intro i o l h;cases h
  ·simp;omega
  ·intro bN J' bo fG;simp(maxSteps:=1000000) -implicitDefEqProofs only[f0,f1,f2,f4,f11,f14,f20,f21,hT.tok.len,hT.tok.bW,hT.tok.bT,hT.tok.aZ,hT.tok.aW,hT.tok.get,gg,fS,go_sem];refine hk _ _ bN J' _ ⟨?_,?_,?_,?_,?_,?_,?_,?_,?_,?_⟩;all_goals first
    | (simp only[az,f0,f1,f2,f4,f20];simp;done)
    | (rw[hx];done)
    | (rw[hx];simpa[ay,bp,em,uR]using bo)
    | (simpa using fG)
theorem b15 (L:List Int) (au:List ByteArray) (ax:List Hd) (d:Int) (hr:2<=au.length) (lJ:au.length<=12) (uO:0<=d) (vi:d<=10) (hh:ax.length<=10) (oS:∀h∈ax,h.2.length<=12)
 (tw:Nat->ByteArray×ByteArray) (eC eP:Nat->Ex×Nat) (od:Nat->List Int×Nat) (sb:Nat->List St×Nat) (M:Nat) (yU:M<=500000) (hM:Gb M L au d ax tw eC eP od sb) (aj:Nat) (Cb:aj<=M):Lm L au d ax tw eC eP od sb aj:=by
 rcases Ca L (aj+2)with hP | hP | hP | hP | hP
 ·exact S6 L au ax d hr lJ uO vi hh oS tw eC eP od sb M yU hM aj Cb hP
 ·exact S7 L au ax d hr lJ uO vi hh oS tw eC eP od sb M yU hM aj Cb hP
 ·exact N3 L au ax d hr lJ uO vi hh oS tw eC eP od sb M yU hM aj Cb hP
 ·by_cases l3:d<2
  ·exact N4 L au ax d hr lJ uO vi hh oS tw eC eP od sb M yU hM aj Cb hP l3
  ·exact S8 L au ax d hr lJ uO vi hh oS tw eC eP od sb M yU hM aj Cb hP l3
 ·by_cases yW:ax=[]
  ·exact N5 L au ax d hr lJ uO vi hh oS tw eC eP od sb M yU hM aj Cb hP yW
  ·exact S9 L au ax d hr lJ uO vi hh oS tw eC eP od sb M yU hM aj Cb hP yW
theorem vX (L:List Int) (au:List ByteArray) (ax:List Hd) (d:Int) (C:Nat) (oS:∀h∈ax,h.2.length<=12)
 (tw:Nat->ByteArray×ByteArray) (eC eP:Nat->Ex×Nat) (od:Nat->List Int×Nat) (sb:Nat->List St×Nat) (M:Nat) (yU:M<=500000) (hM:Gb M L au d ax tw eC eP od sb)
 (Ag:2<=d->∀a,a<=M+60000->(sb a).2<=a+C/\dn (sb a).1<=C) (hC:C<=20000) (a:Nat) (ha:a<=M):
 a<=(one L au d ax tw eC eP od sb a).2/\(one L au d ax tw eC eP od sb a).2<=a+(330+2*C)/\dn (one L au d ax tw eC eP od sb a).1<=330+2*C/\(one L au d ax tw eC eP od sb a).1.length<=1:=by
 have h2:=hM.eC (a+4) (by omega);have Ng:=hM.eC (a+3) (by omega);have h3:=hM.eP (a+4) (by omega);have h4:=hM.od (a+4) (by omega);have hl:(ax.getD (dz L (a+3) ax.length).toNat (em,[])).2.length<=12:=by
  by_cases hi:(dz L (a+3) ax.length).toNat<ax.length
  ·exact oS _ (by simp[List.getD,hi])
  ·simp[List.getD,hi]
 rcases Ca L (a+2)with hP | hP | hP | hP | hP
 ·simp[one,hP,dn,wS];omega
 ·simp[one,hP,dn,wS,uR,wE,sA];omega
 ·simp[one,hP,dn,wS];omega
 ·by_cases l3:d<2
  ·simp[one,hP,l3,dn,wS];omega
  ·have h5:=hM.sb (by omega) (eC (a+3)).2 (by omega);have h6:=hM.sb (by omega) (sb (eC (a+3)).2).2 (by omega);have h7:=Ag (by omega) (eC (a+3)).2 (by omega);have h8:=Ag (by omega) (sb (eC (a+3)).2).2 (by omega);simp[one,hP,l3,dn,wS];omega
 ·by_cases yW:ax=[]
  ·simp[one,hP,yW,dn,wS];omega
  ·simp only[one,hP,yW];generalize ax.getD (dz L (a+3) ax.length).toNat (em,[])=hd at*;simp;split
   ·simp[dn];omega
   ·simp[dn,wS,uR,wE,sA];omega
def cW:Nat->Nat
 | 0=>330
 | 1=>330
 | d+2=>330+2*(1+2*cW (d+1))
theorem Tb:∀d,d<=3->cW d<=9000:=by
 intro d hd;have:d=0\/d=1\/d=2\/d=3:=by omega
 rcases this with rfl | rfl | rfl | rfl<;>decide
theorem ZI (L:List Int) (au:List ByteArray) (ax:List Hd) (d:Int) (kW:Int) (a C:Nat) (hr:2<=au.length) (lJ:au.length<=12) (Xd:0<=kW) (oM:kW<=5) (uO:0<=d) (vi:d<=10) (hh:ax.length<=10) (oS:∀h∈ax,h.2.length<=12)
 (tw:Nat->ByteArray×ByteArray) (eC eP:Nat->Ex×Nat) (od:Nat->List Int×Nat) (sb:Nat->List St×Nat) (M:Nat) (yU:M<=500000) (hM:Gb M L au d ax tw eC eP od sb) (ha:a+1+5*C<=M)
 (ba:∀a,a<=M->a<=(one L au d ax tw eC eP od sb a).2/\(one L au d ax tw eC eP od sb a).2<=a+C/\dn (one L au d ax tw eC eP od sb a).1<=C/\(one L au d ax tw eC eP od sb a).1.length<=1):
 ∃xs a',a<=a'/\a'<=a+1+kW.toNat*C/\dn xs<=kW.toNat*C/\QD 37 L a [.fs (au.map .str),.int .i64 d,.int .i64 kW,.fs (ax.map dH)] xs a':=by
 have hb:=cq (L:=L) (a:=a) (n:=kW+1) (by omega) (by omega);have Qz:=t39 L a 0 kW (by omega) Xd (by omega) (by omega);rw[show kW - 0+1=kW+1 by omega,Int.zero_add]at Qz;generalize dz L a (kW+1)=v at*;obtain⟨n,rfl⟩:∃n:Nat,v=n:=⟨v.toNat,by omega⟩;have hB:=b15 L au ax d hr lJ uO vi hh oS tw eC eP od sb M yU hM;generalize hf:one L au d ax tw eC eP od sb=f at*;have hI:=qX f (fun l=>dn l.flatten) C M rfl (fun l x=>by simp[cB]) (fun a ha=>by obtain⟨h1,h2,h3,_⟩:=ba a ha;exact⟨h1,h2,by simpa using h3⟩) (a+1);have Tc:∀j,j<=n->j*C<=5*C:=fun j hj=>Nat.mul_le_mul_right C (by omega)
 have Jx:n*C<=kW.toNat*C:=Nat.mul_le_mul_right C (by omega);have MR:∀j,j<=n->(gD f (a+1) j).1.flatten.length<=j:=by
  intro j;induction j with
  | zero=>intro _;simp[gD]
  | succ j ih=>
   intro hj;have h1:=ih (by omega);have h2:=hI j (by have:=Tc j (by omega);omega);have h3:=(ba (gD f (a+1) j).2 (by have:=Tc j (by omega);omega)).2.2.2;simp only[gD,List.flatten_append,List.flatten_cons,List.flatten_nil,List.append_nil,List.length_append];omega
 have hIn:=hI n (by have:=Tc n (by omega);omega);refine⟨(gD f (a+1) n).1.flatten,(gD f (a+1) n).2,by omega,by omega,by omega,fun ca N T hT=> ?_⟩;have Qz:=Qz ca N T hT;refine av.intro Zy 500 (by simp) ?_;simp -implicitDefEqProofs only[S4,go_sem];repeat' (first | ((first | (with_reducible refine bR Qz ?_) | (with_reducible refine aD ?_));simp -implicitDefEqProofs only[go_sem]) | (with_reducible refine aA.mk ?_ ?_) | (with_reducible refine And.intro ?_ ?_) | ((with_reducible refine bz ?_);simp -implicitDefEqProofs only[tS,push_cast,go_sem_proc]) | intro _)
 refine aL (fun q e H=>∃j kv J,q=n - j/\j<=n/\Zz ca au d ax n N T j (gD f (a+1) j).2 kv (gD f (a+1) j).1.flatten J e H) n
  ⟨0,.ag,[],by simp,by simp,by simp[az,aC],by simp[az,aC],by simp[az,aC],by simp[az,aC],by simp[az,aC],by simp[az,aC],by simp[az,aC],by simp[gD],.inl ⟨rfl,rfl⟩,(fun i _ a b h=>by cases h)⟩ ?_
 rintro q e H ⟨j,kv,J,rfl,hj,hL⟩;by_cases nZ:j=n
 ·subst nZ;have gg:¬((j:Int)<j):=by omega
  obtain⟨e0,e1,e2,e4,kV,iJ,lr,rfl,bm,fI⟩:=hL;simp -implicitDefEqProofs only[jt,e0,e1,e2,e4,kV,iJ,lr,hT.tok.len,hT.tok.bW,hT.tok.bT,hT.tok.aZ,hT.tok.aW,hT.tok.get,gg,go_sem];simp -implicitDefEqProofs only[tS,push_cast,go_sem_proc];exact⟨_,rfl,bm,fI⟩
 ·have Zu:=hI j (by have:=Tc j (by omega);omega);refine hB (gD f (a+1) j).2 (by have:=Tc j (by omega);omega) ca n N T j kv (gD f (a+1) j).1.flatten J e H _ _ hT hL (by omega) (by omega) (by have:=MR j (by omega);omega) ?_;intro p e' bN J' H' hL';rw[wK];refine⟨n - (j+1),by omega,j+1,bN,J',rfl,by omega,?_⟩;rw[hf]at hL';simpa[gD]using hL'
theorem iW {α:Type} (x0:α) {P:Nat->α->Prop} {M:Nat} (h:∀a,a<=M->∃x,P a x):∃f:Nat->α,∀a,a<=M->P a (f a):=by
 have:∀a,∃x,a<=M->P a x:=fun a=>by
  by_cases ha:a<=M
  ·obtain⟨x,hx⟩:=h a ha;exact⟨x,fun _=>hx⟩
  ·exact⟨x0,fun h=>absurd h ha⟩
 exact⟨fun a=>(this a).choose,fun a=>(this a).choose_spec⟩
theorem N6 (d:Nat) (hd:1<=d):cW d=330\/(2<=d/\cW d=330+2*(1+2*cW (d - 1))):=by
 match d,hd with
 | 1,_=>exact .inl rfl
 | d+2,_=>exact .inr ⟨by omega,rfl⟩
theorem t15 (L:List Int) (au:List ByteArray) (ax:List Hd) (hr:2<=au.length) (lJ:au.length<=12) (hh:ax.length<=10) (oS:∀h∈ax,h.2.length<=12):
 ∀(d M:Nat),1<=d->d<=3->M+(d - 1)*110000<=330000->∀(kW:Int) (a:Nat),0<=kW->kW<=5->a+1+5*cW d<=M->
 ∃xs a',a<=a'/\a'<=a+1+kW.toNat*cW d/\dn xs<=kW.toNat*cW d/\QD 37 L a [.fs (au.map .str),.int .i64 d,.int .i64 kW,.fs (ax.map dH)] xs a':=by
 intro d;induction d with
 | zero=>intro M h;omega
 | succ d ih=>
  intro M h1 h3 hM kW a Xd oM ha;have gtw:∀a,a<=M+100000->∃f:ByteArray×ByteArray,MC 109 L a [.fs (au.map .str)] (.dJ [.str f.1,.str f.2]) (a+2):=fun a ha=>by
   obtain⟨r1,r2,h⟩:=t40 L a au (by omega) hr (by omega);exact⟨(r1,r2),h⟩
  obtain⟨tw,xU⟩:=iW (em,em) gtw;have ZJ:∀a,a<=M+100000->∃f:Ex×Nat,a<=f.2/\f.2<=a+100/\wE f.1<=100/\MC 111 L a [.int .i64 2] (bu f.1) f.2:=fun a ha=>by
   have h85:Dy 2=85:=by decide
   obtain⟨x,a',g1,g2,g3,g4⟩:=t42 L 2 a (by omega) (by omega);exact⟨(x,a'),g1,by simp;omega,by simp;omega,g4⟩
  obtain⟨eC,ZK⟩:=iW (uR,0) ZJ;have ZL:∀a,a<=M+100000->∃f:Ex×Nat,a<=f.2/\f.2<=a+300/\wE f.1<=300/\MC 111 L a [.int .i64 3] (bu f.1) f.2:=fun a ha=>by
   have h265:Dy 3=265:=by decide
   obtain⟨x,a',g1,g2,g3,g4⟩:=t42 L 3 a (by omega) (by omega);exact⟨(x,a'),g1,by simp;omega,by simp;omega,g4⟩
  obtain⟨eP,ZM⟩:=iW (uR,0) ZL;have god:∀a,a<=M+100000->∃f:List Int×Nat,a<=f.2/\f.2<=a+12/\f.1.length=au.length/\(∀x∈f.1,0<=x/\x<au.length)/\MC 112 L a [.int .i64 au.length] (.fs (f.1.map (.int .i64))) f.2:=fun a ha=>by
   obtain⟨l,a',g1,g2,g3,g4,g5⟩:=t43 L a au.length (by omega) (by omega) (by omega);exact⟨(l,a'),g3,by simp;omega,g1,g2,g5⟩
  obtain⟨od,hod⟩:=iW ([],0) god;have hc:=Tb d (by omega);have gsb:∀a,a<=M+60000->∃f:List St×Nat,1<=d->a<=f.2/\f.2<=a+(1+2*cW d)/\dn f.1<=1+2*cW d/\MC 37 L a [.fs (au.map .str),.int .i64 d,.int .i64 2,.fs (ax.map dH)] (.fs (f.1.map encS)) f.2:=fun a ha=>by
   by_cases hd:1<=d
   ·obtain⟨xs,a',g1,g2,g3,g4⟩:=ih (M+110000) hd (by omega) (by obtain⟨e,rfl⟩:∃e,d=e+1:=⟨d - 1,by omega⟩;simp only[Nat.add_sub_cancel]at hM⊢;omega) 2 a (by omega) (by omega) (by omega);exact⟨(xs,a'),fun _=>⟨g1,by simpa[Nat.add_assoc]using g2,by simp at g3⊢;omega,g4.fz⟩⟩
   ·exact⟨([],0),fun h=>absurd h hd⟩
  obtain⟨sb,Ag⟩:=iW ([],0) gsb;have hMM:M<=330000:=by omega
  have N7:Gb M L au ((d+1:Nat):Int) ax tw eC eP od sb:=⟨xU,ZK,ZM,hod,fun l3 a ha=>by
   obtain⟨g1,g2,g3,g4⟩:=Ag a ha (by omega);refine⟨g1,by omega,?_⟩;have:((d+1:Nat):Int) - 1=(d:Int):=by omega
   rw[this];exact g4⟩
  refine ZI L au ax _ kW a _ hr lJ Xd oM (by omega) (by omega) hh oS tw eC eP od sb M (by omega) N7 ha ?_;clear ha;intro a ha;rcases N6 (d+1) (by omega)with hw | ⟨l3,hw⟩
  ·have vi:d=0:=by
    rcases Nat.eq_zero_or_pos d with h | h
    ·exact h
    ·obtain⟨e,rfl⟩:∃e,d=e+1:=⟨d - 1,by omega⟩;rw[cW]at hw;omega
   subst vi;have:=vX L au ax _ 0 oS tw eC eP od sb M (by omega) N7 (fun h=>by omega) (by omega) a ha;rw[hw];simpa using this
  ·have:=vX L au ax _ (1+2*cW d) oS tw eC eP od sb M (by omega) N7 (fun h a ha=>by
    obtain⟨g1,g2,g3,g4⟩:=Ag a ha (by omega);exact⟨g2,g3⟩) (by omega) a ha
   rw[hw];simpa using this
theorem N8 {P:Program} {n:Nat} {l:List QO} {t ia:Nat} {z:Option V} {st:List cK} {e:Env} {H:List ak} {k:fW} (h:g2 P l e H [H] [] (Fl P (F P n) l t z st k)):F P (n+1) (.code (.pregion l t ia z st) e H k):=by
 rw[vG];exact l5 h
theorem Td (xs:List ByteArray) (hl:1<=xs.length) (jf:xs.length<=1000) (H:List ak):av Tryz.prog 69 [.fs (xs.map .str)] H (bX (.ms H.length 0 xs.length) (H++ [.row (xs.map .str)])):=by
 have ha:=wV xs;refine av.intro c46 100 (by simp) ?_;cases xs with
 | nil=>simp at hl
 | cons x xs=>
  simp only[List.map_cons]at ha;simp -implicitDefEqProofs only[WU,List.map_cons,ha,go_sem];refine⟨by simp[aw,V.isAny,V.one],fun h=>h.elim,fun _=>⟨by simp at jf;omega,?_⟩⟩;simp -implicitDefEqProofs only[R6,push_cast,go_sem_proc]
theorem t47 (x y:ByteArray) (H:List ak) (id:Nat) (hH:H[id]? =some (.row [.str x,.str y])):av Tryz.prog 115 [.ms id 0 2] H (bX (.dJ []) (H.set id (.row [.str y,.str x]))):=by
 have ct:id<H.length:=(List.getElem?_eq_some_iff.1 hH).1;have hS:∀b,(H.set id b)[id]? =some b:=fun b=>by simp[ct]
 have ZN:∀b c,(H.set id b).set id c=H.set id c:=fun b c=>by simp
 refine av.intro c47 300 (by simp) ?_;have hw:IntKind.i64.wrap (((2:Nat):Int) - 1)=1:=by decide
 have zL:IntKind.i64.wrap ((0:Int)+1)=1:=by decide
 have QA:IntKind.i64.wrap ((1:Int) - 1)=0:=by decide
 simp -implicitDefEqProofs only[s47,hw,go_sem];intro _;refine aL (fun q e H'=>(q=1/\e 0=.ms id 0 2/\e 2=.int .i64 0/\e 3=.int .i64 1/\H'=H)\/(q=0/\e 0=.ms id 0 2/\e 2=.int .i64 1/\e 3=.int .i64 0/\H'=H.set id (.row [.str y,.str x]))) 1
  ?_ ?_
 ·exact .inl ⟨by simp,by simp[az,aC],by simp[az,aC],by simp[az,aC],rfl⟩
 rintro q e H' (⟨rfl,e0,e2,e3,rfl⟩ | ⟨rfl,e0,e2,e3,rfl⟩)
 ·simp -implicitDefEqProofs only[e0,e2,e3,hH,hS,ZN,zL,QA,Int.reduceLT,go_sem];repeat' (first | ((with_reducible refine aD ?_);simp -implicitDefEqProofs only[e0,e2,e3,hH,hS,ZN,zL,QA,Int.reduceLT,go_sem]) | (with_reducible refine aA.mk ?_ ?_) | (with_reducible refine And.intro ?_ ?_) | ((with_reducible refine bz ?_);simp -implicitDefEqProofs only[YF,push_cast,go_sem_proc]) | intro _)
  all_goals first
   | exact⟨by decide,by decide⟩
   | exact⟨0,by decide,.inr rfl⟩
 ·simp -implicitDefEqProofs only[e0,e2,e3,hH,hS,ZN,zL,QA,Int.reduceLT,go_sem];simp -implicitDefEqProofs only[YF,push_cast,go_sem_proc]
theorem iz {A X:List ak} {N m:Nat} (hA:A.length=N) (hm:m=X.length):cQ (List.range' N m) (A++X)=List.replicate N .dead++X:=by
 subst hm;exact ou hA
theorem yX {A X:List ak} {N m:Nat} (hA:A.length=N) (hm:m=X.length):∃X',bO (List.range' N m) (A++X)=A++X':=by
 subst hm;exact ow hA
theorem killL_tail2 {A X:List ak} {N m:Nat} (hA:A.length=N) (hm:m=X.length):bO (List.range' N m) (A++X)=A++(bO (List.range' N m) (A++X)).drop N:=by
 obtain⟨X',hX⟩:=yX hA hm;rw[hX,List.drop_append,hA];simp[hA]
theorem wZ (N:Nat) (l:List ak) (k:Nat):(List.replicate N ak.dead++l)[N+k]? =l[k]? :=by
 rw[List.getElem?_append_right (by simp),List.length_replicate,Nat.add_sub_cancel_left]
theorem yY (N:Nat) (l:List ak):(List.replicate N ak.dead++l)[N]? =l[0]? :=by
 have:=wZ N l 0;simpa using this
theorem Te (b3 b4 b2:Bool) (L:List Int) (a:Nat) (ha:a<=800000) (nm r0 r1:ByteArray)
 (h3:decide (dz L (a+3) 3=0)=b3) (h4:decide (dz L (a+4) 4=0)=b4) (h2:decide (dz L (a+bif b4 then 7 else 5) 2=0)=b2):
 ∃x a',a<=a'/\a'<=a+10/\wS x<=30/\MC 39 L a [dH (nm,[r0,r1])] (.fs [encS x]) a':=by
 obtain⟨⟨k1,n1,s1,l1⟩,zL,tJ⟩:=t45 L (a+1) (by omega);have oA:=(t41 L a [⟨#[120]⟩,⟨#[121]⟩] (by omega) (by decide) (by decide));simp only[List.map_cons,List.map_nil]at oA;generalize ([⟨#[120]⟩,⟨#[121]⟩]:List ByteArray).getD _ _=Qt at oA;have f3:=t14 L (a+3) 3 (by omega);have f4:=t14 L (a+4) 4 (by omega);have f2:=t14 L (a+bif b4 then 7 else 5) 2 (by cases b4<;>simp<;>omega);rw[h3]at f3;rw[h4]at f4;rw[h2]at f2;obtain⟨⟨k2,n2,s2,l2⟩,fS,Ge⟩:=t45 L (a+5) (by omega);simp only[bp]at Ge tJ;have pV:=Td [r0,r1] (by simp) (by simp);simp only[List.map_cons,List.map_nil,List.length_cons,List.length_nil,Nat.reduceAdd,Nat.zero_add]at pV;obtain⟨xs,ao⟩:∃xs:List St,xs=.mk 3 r0 em ⟨#[120]⟩ em (.mk 4 0 em [.mk 2 0 ⟨#[120]⟩ [],.mk 1 1 em []]) [] [] em []::
  .mk 1 r0 r1 Qt em (.mk k1 n1 s1 l1) [] [] em []::
  .mk 5 em em em em uR [] [] nm (bif b3 then[r1,r0]else[r0,r1])::bif b4 then[.mk 3 r0 em ⟨#[122]⟩ em (.mk k2 n2 s2 l2) [] [] em []]else[]:=⟨_,rfl⟩
 obtain⟨cd,JH⟩:∃cd:Ex,cd=bif b2 then .mk 2 0 ⟨#[120]⟩ []else .mk 6 0 em [.mk 1 0 em [],.mk 2 0 ⟨#[120]⟩ []]:=⟨_,rfl⟩;refine⟨.mk 4 r0 em em em cd xs [] em [],a+bif b4 then 8 else 6,by omega,by cases b4<;>simp,?_,fun ca N T hT=>hT.rF (by simp only[al,ae,Bool.and_true];exact fX _) ?_⟩
 ·rw[ao,JH];cases b3<;>cases b4<;>cases b2<;>simp[wS,dn,wE,sA,uR]at zL fS⊢<;>omega
 have g1:((1:Int)<((2:Nat):Int))=True:=by simp
 have g2:(((2:Nat):Int)=2)=True:=by simp
 cases b3<;>cases b4<;>cases b2<;>simp only[cond_true,cond_false]at f2 ao JH⊢;all_goals
  refine av.intro S5 600 (by simp) ?_;simp only[dH,List.map_cons,List.map_nil];simp -implicitDefEqProofs only[NY,hT.tok.len,hT.tok.bW,hT.tok.bT,hT.tok.aZ,hT.tok.aW,hT.tok.get,Int.reduceEq,g1,g2,go_sem];repeat' (first | ((first | (with_reducible first | refine bR ((oA.at hT _)) ?_ | refine bR ((tJ.at hT _)) ?_ | refine bR ((f3.at hT _)) ?_ | refine bR ((f4.at hT _)) ?_ | refine bR ((f2.at hT _)) ?_ | refine bR ((Ge.at hT _)) ?_ | refine bR ((pV _)) ?_ | refine bR ((t47 r0 r1 _ (N+5) (by simp only[hT.tok.len,hT.tok.bW,hT.tok.bT,hT.tok.aZ,hT.tok.aW,hT.tok.get,List.getElem?_cons_succ,List.getElem?_cons_zero]))) ?_) | (with_reducible refine aD ?_) | (with_reducible refine N8 ?_));simp -implicitDefEqProofs only[hT.tok.len,hT.tok.bW,hT.tok.bT,hT.tok.aZ,hT.tok.aW,hT.tok.get,Int.reduceEq,g1,g2,go_sem]) | (with_reducible refine aA.mk ?_ ?_) | (with_reducible refine And.intro ?_ ?_) | ((with_reducible refine bz ?_);simp -implicitDefEqProofs only[F9,hT.tok.len,hT.tok.bW,hT.tok.bT,hT.tok.aZ,hT.tok.aW,hT.tok.get,push_cast,go_sem_proc]) | intro _)
  all_goals first
   | (exfalso;assumption)
   | (exact⟨by decide,by decide⟩)
   | (simp[iD];done)
   | (simp[iD];omega)
   | (rename_i hx;simp at hx;done)
   | (rename_i hx;simp at hx;subst hx;simp[aw];done)
   | omega
   | skip
 all_goals
  first
   | refine⟨List.range' N 9,encS (.mk 4 r0 em em em cd xs [] em []),?_,?_⟩
     rw[iz (hm:=by rfl) (hA:=hT.tok.len _)]
   | refine⟨List.range' N 10,encS (.mk 4 r0 em em em cd xs [] em []),?_,?_⟩
     rw[iz (hm:=by rfl) (hA:=hT.tok.len _)]
  ·rw[ao,JH];simp -implicitDefEqProofs only[wZ,yY,ay,bp,em,uR,List.map_cons,List.map_nil,push_cast,go_sem_proc]
  ·rw[killL_tail2 (hA:=hT.tok.len _) (hm:=by rfl)];rw[JH];simp only[ay];simp -implicitDefEqProofs only[F9,push_cast,go_sem_proc];refine⟨by decide,?_⟩;exact⟨_,rfl⟩
theorem Tf (b3 b4 b2:Bool) (L:List Int) (a:Nat) (ha:a<=800000) (nm r0 r1:ByteArray) (r2:ByteArray) (rest:List ByteArray) (BB:rest.length<=10)
 (h3:decide (dz L (a+3) 3=0)=b3) (h4:decide (dz L (a+4) 4=0)=b4) (h2:decide (dz L (a+bif b4 then 7 else 5) 2=0)=b2):
 ∃x a',a<=a'/\a'<=a+10/\wS x<=30/\MC 39 L a [dH (nm,(r0::r1::r2::rest))] (.fs [encS x]) a':=by
 obtain⟨⟨k1,n1,s1,l1⟩,zL,tJ⟩:=t45 L (a+1) (by omega);have oA:=(t41 L a [⟨#[120]⟩,⟨#[121]⟩] (by omega) (by decide) (by decide));simp only[List.map_cons,List.map_nil]at oA;generalize ([⟨#[120]⟩,⟨#[121]⟩]:List ByteArray).getD _ _=Qt at oA;have f3:=t14 L (a+3) 3 (by omega);have f4:=t14 L (a+4) 4 (by omega);have f2:=t14 L (a+bif b4 then 7 else 5) 2 (by cases b4<;>simp<;>omega);rw[h3]at f3;rw[h4]at f4;rw[h2]at f2;obtain⟨⟨k2,n2,s2,l2⟩,fS,Ge⟩:=t45 L (a+5) (by omega);simp only[bp]at Ge tJ;have pV:=Td (r0::r1::r2::rest) (by simp) (by simp;omega);simp only[List.map_cons,List.map_nil,List.length_cons,List.length_nil,Nat.reduceAdd,Nat.zero_add]at pV;obtain⟨xs,ao⟩:∃xs:List St,xs=.mk 3 r0 em ⟨#[120]⟩ em (.mk 4 0 em [.mk 2 0 ⟨#[120]⟩ [],.mk 1 1 em []]) [] [] em []::
  .mk 1 r0 r1 Qt em (.mk k1 n1 s1 l1) [] [] em []::
  .mk 5 em em em em uR [] [] nm (r0::r1::r2::rest)::bif b4 then[.mk 3 r0 em ⟨#[122]⟩ em (.mk k2 n2 s2 l2) [] [] em []]else[]:=⟨_,rfl⟩
 obtain⟨cd,JH⟩:∃cd:Ex,cd=bif b2 then .mk 2 0 ⟨#[120]⟩ []else .mk 6 0 em [.mk 1 0 em [],.mk 2 0 ⟨#[120]⟩ []]:=⟨_,rfl⟩;refine⟨.mk 4 r0 em em em cd xs [] em [],a+bif b4 then 8 else 6,by omega,by cases b4<;>simp,?_,fun ca N T hT=>hT.rF (by simp only[al,ae,Bool.and_true];exact fX _) ?_⟩
 ·rw[ao,JH];cases b3<;>cases b4<;>cases b2<;>simp[wS,dn,wE,sA,uR]at zL fS⊢<;>omega
 have g1:((1:Int)<((rest.length+3:Nat):Int))=True:=by simp;omega
 have g2:(((rest.length+3:Nat):Int)=2)=False:=by simp;omega
 have yZ:List.take rest.length (rest.map V.str)=rest.map V.str:=List.take_of_length_le (by simp);have MR:∀(H:List ak) (n:Nat),eI (fz H (n+1)) (rest.map V.str)=some (rest.map V.str):=fun H n=>dg _ _ (fun x=>dN _ _ x) rest
 cases b3<;>cases b4<;>cases b2<;>simp only[cond_true,cond_false]at f2 ao JH⊢;all_goals
  refine av.intro S5 600 (by simp) ?_;simp only[dH,List.map_cons,List.map_nil];simp -implicitDefEqProofs only[NY,hT.tok.len,hT.tok.bW,hT.tok.bT,hT.tok.aZ,hT.tok.aW,hT.tok.get,Int.reduceEq,g1,g2,go_sem];repeat' (first | ((first | (with_reducible first | refine bR ((oA.at hT _)) ?_ | refine bR ((tJ.at hT _)) ?_ | refine bR ((f3.at hT _)) ?_ | refine bR ((f4.at hT _)) ?_ | refine bR ((f2.at hT _)) ?_ | refine bR ((Ge.at hT _)) ?_ | refine bR ((pV _)) ?_) | (with_reducible refine aD ?_) | (with_reducible refine N8 ?_));simp -implicitDefEqProofs only[hT.tok.len,hT.tok.bW,hT.tok.bT,hT.tok.aZ,hT.tok.aW,hT.tok.get,Int.reduceEq,g1,g2,go_sem]) | (with_reducible refine aA.mk ?_ ?_) | (with_reducible refine And.intro ?_ ?_) | ((with_reducible refine bz ?_);simp -implicitDefEqProofs only[F9,hT.tok.len,hT.tok.bW,hT.tok.bT,hT.tok.aZ,hT.tok.aW,hT.tok.get,push_cast,go_sem_proc]) | intro _)
  all_goals first
   | (exfalso;assumption)
   | (exact⟨by decide,by decide⟩)
   | (simp[iD];done)
   | (simp[iD];omega)
   | (rename_i hx;simp at hx;done)
   | (rename_i hx;simp at hx;subst hx;simp[aw];done)
   | omega
   | skip
 all_goals
  first
   | refine⟨List.range' N 9,encS (.mk 4 r0 em em em cd xs [] em []),?_,?_⟩
     rw[iz (hm:=by rfl) (hA:=hT.tok.len _)]
   | refine⟨List.range' N 10,encS (.mk 4 r0 em em em cd xs [] em []),?_,?_⟩
     rw[iz (hm:=by rfl) (hA:=hT.tok.len _)]
  ·rw[ao,JH];simp -implicitDefEqProofs only[wZ,yY,ay,bp,em,uR,List.map_cons,List.map_nil,yZ,MR,push_cast,go_sem_proc]
  ·rw[killL_tail2 (hA:=hT.tok.len _) (hm:=by rfl)];rw[JH];simp only[ay];simp -implicitDefEqProofs only[F9,push_cast,go_sem_proc];refine⟨by decide,?_⟩;exact⟨_,rfl⟩
theorem t17 (L:List Int) (a:Nat) (ha:a<=800000) (h:Hd) (hl:2<=h.2.length) (jf:h.2.length<=12):∃x a',a<=a'/\a'<=a+10/\wS x<=50/\MC 39 L a [dH h] (.fs [encS x]) a':=by
 obtain⟨nm,rs⟩:=h;have fin:∀{P:St->Nat->Prop},(∃x a',a<=a'/\a'<=a+10/\wS x<=30/\P x a')->∃x a',a<=a'/\a'<=a+10/\wS x<=50/\P x a':=fun⟨x,a',h1,h2,h3,h4⟩=>⟨x,a',h1,h2,by omega,h4⟩
 match rs,hl,jf with
 | [r0,r1],_,_=>exact fin (Te _ _ _ L a ha nm r0 r1 rfl rfl rfl)
 | r0::r1::r2::rest,_,jf=>exact fin (Tf _ _ _ L a ha nm r0 r1 r2 rest (by simp at jf;omega) rfl rfl rfl)
def AE:St:=.mk 0 em em em em uR [] [] em []
def N9 (L:List Int) (xs:List St) (a i:Nat) (x':St) (a':Nat):Prop:=
 ∀(ca N:Nat) (T:Nat->List ak) (J:List ak) (j:Nat) (e:Env) (m:Nat) (k:fW),MS L ca N T->e 0=.ptr ca 0 0->e 4=.ms (N+j) 0 xs.length->J[j]? =some (.row (xs.map encS))->
  (∀p e',F Tryz.prog (p+1) (.app k .normal e' (T a'++J.set j (.row ((xs.set i x').map encS)))))->F Tryz.prog (m+300) (.code eQ e (T a++J) k)
def Oa (L:List Int) (xs:List St) (a:Nat):Prop:=∃i x' a',i<xs.length/\a<=a'/\a'<=a+60/\wS x'<=wS (xs.getD i AE)+100/\N9 L xs a i x' a'
def opts:List (List ByteArray):=[[],[⟨#[97]⟩],[⟨#[97]⟩,⟨#[97]⟩],[⟨#[113]⟩,⟨#[114]⟩],[⟨#[97]⟩,⟨#[98]⟩]]
theorem JI (v:Nat) (h:v<5):([.fs [],.fs [.str ⟨#[97]⟩],.fs [.str ⟨#[97]⟩,.str ⟨#[97]⟩],.fs [.str ⟨#[113]⟩,.str ⟨#[114]⟩],.fs [.str ⟨#[97]⟩,.str ⟨#[98]⟩]]:List V).getD v .any=.fs ((opts.getD v []).map .str):=by
 have:v=0\/v=1\/v=2\/v=3\/v=4:=by omega
 rcases this with rfl | rfl | rfl | rfl | rfl<;>rfl
def Gf (f:Nat->ByteArray) (x:St):Nat->St
 | 0=>x
 | k+1=> .mk 4 (f k) em em em (.mk 1 0 em []) [Gf f x k] [] em []
theorem Ln (f:Nat->ByteArray) (x:St):∀k,wS (Gf f x k)=wS x+2*k
 | 0=>rfl
 | k+1=>by simp only[Gf,wS,dn,wE,sA,Ln f x k,List.length_nil];omega
theorem Tg (L:List Int) (xs:List St) (a:Nat) (hx:xs≠ []) (hl:xs.length<=1000000) (ha:a<=600000) (h2:dz L (a+1) 6=0):Oa L xs a:=by
 have j5:0<xs.length:=List.length_pos_iff.2 hx;have hb:=cq (L:=L) (a:=a) (n:=xs.length) (by omega) (by omega);have f1:=t16 L a xs.length (by omega);have f2:=t16 L (a+1) 6 (by omega);rw[h2]at f2;generalize dz L a xs.length=v0 at*;obtain⟨i,rfl⟩:∃i:Nat,v0=i:=⟨v0.toNat,by omega⟩;have hi:i<xs.length:=by omega
 have kD:(xs.map encS).getD i .any=encS (xs.getD i AE):=by simp[List.getD,hi]
 generalize AF:xs.getD i AE=x at*;obtain⟨k,r,t,vv,l,⟨ek,en,es,aR⟩,sa,sb,p,ps⟩:=x;rw[ay]at kD;have gj:iD (i:Int) xs.length=True:=by simp[iD];omega
 have eB:∀y,((xs.map encS).set i y).getD i .any=y:=fun y=>by simp[List.getD,hi]
 have pW:∀y z,((xs.map encS).set i y).set i z=(xs.map encS).set i z:=fun y z=>by simp
 have dr:¬((xs.length:Int)=0):=by omega
 obtain⟨v1,f3⟩:=t48 L (a+2) 1 5 (by omega) (by omega) (by omega) (by omega);have fi:(xs.set i (.mk v1 r t vv l (.mk ek en es aR) sa sb p ps)).map encS=(xs.map encS).set i (encS (.mk v1 r t vv l (.mk ek en es aR) sa sb p ps)):=by rw[List.map_set]
 rw[ay]at fi;refine⟨i,(.mk v1 r t vv l (.mk ek en es aR) sa sb p ps),a+4,hi,by omega,by omega,?_,?_⟩
 ·rw[AF];simp[wS,dn,wE,sA]<;>omega
 rw[N9];rw[fi];intro ca N T J j e m kk hT e0 e4 hJ hk;have pJ:∀b,(J.set j b)[j]? =some b:=fun b=>by simp[(List.getElem?_eq_some_iff.1 hJ).1]
 have j3:∀b c,(J.set j b).set j c=J.set j c:=fun b c=>by simp
 simp -implicitDefEqProofs only[eQ,e0,e4,hJ,pJ,j3,kD,eB,pW,gj,dr,hT.tok.len,hT.tok.bW,hT.tok.bT,hT.tok.aZ,hT.tok.aW,hT.tok.get,List.length_set,Int.reduceEq,go_sem];repeat' (first | ((first | (with_reducible first | refine bR ((f1.at hT _)) ?_ | refine bR ((f2.at hT _)) ?_ | refine bR ((f3.at hT _)) ?_) | (with_reducible refine aD ?_));simp -implicitDefEqProofs only[e0,e4,hJ,pJ,j3,kD,eB,pW,gj,dr,hT.tok.len,hT.tok.bW,hT.tok.bT,hT.tok.aZ,hT.tok.aW,hT.tok.get,List.length_set,Int.reduceEq,go_sem]) | (with_reducible refine aA.mk ?_ ?_) | (with_reducible refine And.intro ?_ ?_) | ((with_reducible refine bz ?_);simp -implicitDefEqProofs only[mh,hT.tok.len,hT.tok.bW,hT.tok.bT,hT.tok.aZ,hT.tok.aW,hT.tok.get,push_cast,go_sem_proc]) | intro _)
 all_goals first
  | (rw[fi]at hk;exact hk _ _)
  | exact hk _ _
  | omega
theorem Th (L:List Int) (xs:List St) (a:Nat) (hx:xs≠ []) (hl:xs.length<=1000000) (ha:a<=600000) (h2:dz L (a+1) 6=1):Oa L xs a:=by
 have j5:0<xs.length:=List.length_pos_iff.2 hx;have hb:=cq (L:=L) (a:=a) (n:=xs.length) (by omega) (by omega);have f1:=t16 L a xs.length (by omega);have f2:=t16 L (a+1) 6 (by omega);rw[h2]at f2;generalize dz L a xs.length=v0 at*;obtain⟨i,rfl⟩:∃i:Nat,v0=i:=⟨v0.toNat,by omega⟩;have hi:i<xs.length:=by omega
 have kD:(xs.map encS).getD i .any=encS (xs.getD i AE):=by simp[List.getD,hi]
 generalize AF:xs.getD i AE=x at*;obtain⟨k,r,t,vv,l,⟨ek,en,es,aR⟩,sa,sb,p,ps⟩:=x;rw[ay]at kD;have gj:iD (i:Int) xs.length=True:=by simp[iD];omega
 have eB:∀y,((xs.map encS).set i y).getD i .any=y:=fun y=>by simp[List.getD,hi]
 have pW:∀y z,((xs.map encS).set i y).set i z=(xs.map encS).set i z:=fun y z=>by simp
 have dr:¬((xs.length:Int)=0):=by omega
 have f3:=t41 L (a+2) [r,⟨#[]⟩,⟨#[97]⟩,⟨#[113]⟩,⟨#[65]⟩] (by omega) (by simp) (by simp);simp only[List.map_cons,List.map_nil]at f3;generalize ([r,⟨#[]⟩,⟨#[97]⟩,⟨#[113]⟩,⟨#[65]⟩]:List ByteArray).getD _ _=Gg at f3;have f4:=t41 L (a+3) [t,⟨#[97]⟩,⟨#[113]⟩,⟨#[]⟩] (by omega) (by simp) (by simp);simp only[List.map_cons,List.map_nil]at f4;generalize ([t,⟨#[97]⟩,⟨#[113]⟩,⟨#[]⟩]:List ByteArray).getD _ _=Gh at f4;have fi:(xs.set i (.mk k Gg Gh vv l (.mk ek en es aR) sa sb p ps)).map encS=(xs.map encS).set i (encS (.mk k Gg Gh vv l (.mk ek en es aR) sa sb p ps)):=by rw[List.map_set]
 rw[ay]at fi;refine⟨i,(.mk k Gg Gh vv l (.mk ek en es aR) sa sb p ps),a+4,hi,by omega,by omega,?_,?_⟩
 ·rw[AF];simp[wS,dn,wE,sA]<;>omega
 rw[N9];rw[fi];intro ca N T J j e m kk hT e0 e4 hJ hk;have pJ:∀b,(J.set j b)[j]? =some b:=fun b=>by simp[(List.getElem?_eq_some_iff.1 hJ).1]
 have j3:∀b c,(J.set j b).set j c=J.set j c:=fun b c=>by simp
 simp -implicitDefEqProofs only[eQ,e0,e4,hJ,pJ,j3,kD,eB,pW,gj,dr,hT.tok.len,hT.tok.bW,hT.tok.bT,hT.tok.aZ,hT.tok.aW,hT.tok.get,List.length_set,Int.reduceEq,go_sem];repeat' (first | ((first | (with_reducible first | refine bR ((f1.at hT _)) ?_ | refine bR ((f2.at hT _)) ?_ | refine bR ((f3.at hT _)) ?_ | refine bR ((f4.at hT _)) ?_) | (with_reducible refine aD ?_));simp -implicitDefEqProofs only[e0,e4,hJ,pJ,j3,kD,eB,pW,gj,dr,hT.tok.len,hT.tok.bW,hT.tok.bT,hT.tok.aZ,hT.tok.aW,hT.tok.get,List.length_set,Int.reduceEq,go_sem]) | (with_reducible refine aA.mk ?_ ?_) | (with_reducible refine And.intro ?_ ?_) | ((with_reducible refine bz ?_);simp -implicitDefEqProofs only[mh,hT.tok.len,hT.tok.bW,hT.tok.bT,hT.tok.aZ,hT.tok.aW,hT.tok.get,push_cast,go_sem_proc]) | intro _)
 all_goals first
  | (rw[fi]at hk;exact hk _ _)
  | exact hk _ _
  | omega
theorem Ti (L:List Int) (xs:List St) (a:Nat) (hx:xs≠ []) (hl:xs.length<=1000000) (ha:a<=600000) (h2:dz L (a+1) 6=2):Oa L xs a:=by
 have j5:0<xs.length:=List.length_pos_iff.2 hx;have hb:=cq (L:=L) (a:=a) (n:=xs.length) (by omega) (by omega);have f1:=t16 L a xs.length (by omega);have f2:=t16 L (a+1) 6 (by omega);rw[h2]at f2;generalize dz L a xs.length=v0 at*;obtain⟨i,rfl⟩:∃i:Nat,v0=i:=⟨v0.toNat,by omega⟩;have hi:i<xs.length:=by omega
 have kD:(xs.map encS).getD i .any=encS (xs.getD i AE):=by simp[List.getD,hi]
 generalize AF:xs.getD i AE=x at*;obtain⟨k,r,t,vv,l,⟨ek,en,es,aR⟩,sa,sb,p,ps⟩:=x;rw[ay]at kD;have gj:iD (i:Int) xs.length=True:=by simp[iD];omega
 have eB:∀y,((xs.map encS).set i y).getD i .any=y:=fun y=>by simp[List.getD,hi]
 have pW:∀y z,((xs.map encS).set i y).set i z=(xs.map encS).set i z:=fun y z=>by simp
 have dr:¬((xs.length:Int)=0):=by omega
 have f3:=t41 L (a+2) [vv,⟨#[]⟩,⟨#[101,108,115,101]⟩] (by omega) (by simp) (by simp);simp only[List.map_cons,List.map_nil]at f3;generalize ([vv,⟨#[]⟩,⟨#[101,108,115,101]⟩]:List ByteArray).getD _ _=Gg at f3;have f4:=t41 L (a+3) [l,⟨#[121,101,115]⟩,⟨#[]⟩] (by omega) (by simp) (by simp);simp only[List.map_cons,List.map_nil]at f4;generalize ([l,⟨#[121,101,115]⟩,⟨#[]⟩]:List ByteArray).getD _ _=Gh at f4;have fi:(xs.set i (.mk k r t Gg Gh (.mk ek en es aR) sa sb p ps)).map encS=(xs.map encS).set i (encS (.mk k r t Gg Gh (.mk ek en es aR) sa sb p ps)):=by rw[List.map_set]
 rw[ay]at fi;refine⟨i,(.mk k r t Gg Gh (.mk ek en es aR) sa sb p ps),a+4,hi,by omega,by omega,?_,?_⟩
 ·rw[AF];simp[wS,dn,wE,sA]<;>omega
 rw[N9];rw[fi];intro ca N T J j e m kk hT e0 e4 hJ hk;have pJ:∀b,(J.set j b)[j]? =some b:=fun b=>by simp[(List.getElem?_eq_some_iff.1 hJ).1]
 have j3:∀b c,(J.set j b).set j c=J.set j c:=fun b c=>by simp
 simp -implicitDefEqProofs only[eQ,e0,e4,hJ,pJ,j3,kD,eB,pW,gj,dr,hT.tok.len,hT.tok.bW,hT.tok.bT,hT.tok.aZ,hT.tok.aW,hT.tok.get,List.length_set,Int.reduceEq,go_sem];repeat' (first | ((first | (with_reducible first | refine bR ((f1.at hT _)) ?_ | refine bR ((f2.at hT _)) ?_ | refine bR ((f3.at hT _)) ?_ | refine bR ((f4.at hT _)) ?_) | (with_reducible refine aD ?_));simp -implicitDefEqProofs only[e0,e4,hJ,pJ,j3,kD,eB,pW,gj,dr,hT.tok.len,hT.tok.bW,hT.tok.bT,hT.tok.aZ,hT.tok.aW,hT.tok.get,List.length_set,Int.reduceEq,go_sem]) | (with_reducible refine aA.mk ?_ ?_) | (with_reducible refine And.intro ?_ ?_) | ((with_reducible refine bz ?_);simp -implicitDefEqProofs only[mh,hT.tok.len,hT.tok.bW,hT.tok.bT,hT.tok.aZ,hT.tok.aW,hT.tok.get,push_cast,go_sem_proc]) | intro _)
 all_goals first
  | (rw[fi]at hk;exact hk _ _)
  | exact hk _ _
  | omega
theorem Tj (L:List Int) (xs:List St) (a:Nat) (hx:xs≠ []) (hl:xs.length<=1000000) (ha:a<=600000) (h2:dz L (a+1) 6=3):Oa L xs a:=by
 have j5:0<xs.length:=List.length_pos_iff.2 hx;have hb:=cq (L:=L) (a:=a) (n:=xs.length) (by omega) (by omega);have f1:=t16 L a xs.length (by omega);have f2:=t16 L (a+1) 6 (by omega);rw[h2]at f2;generalize dz L a xs.length=v0 at*;obtain⟨i,rfl⟩:∃i:Nat,v0=i:=⟨v0.toNat,by omega⟩;have hi:i<xs.length:=by omega
 have kD:(xs.map encS).getD i .any=encS (xs.getD i AE):=by simp[List.getD,hi]
 generalize AF:xs.getD i AE=x at*;obtain⟨k,r,t,vv,l,⟨ek,en,es,aR⟩,sa,sb,p,ps⟩:=x;rw[ay]at kD;have gj:iD (i:Int) xs.length=True:=by simp[iD];omega
 have eB:∀y,((xs.map encS).set i y).getD i .any=y:=fun y=>by simp[List.getD,hi]
 have pW:∀y z,((xs.map encS).set i y).set i z=(xs.map encS).set i z:=fun y z=>by simp
 have dr:¬((xs.length:Int)=0):=by omega
 obtain⟨v1,f3⟩:=t48 L (a+2) 1 9 (by omega) (by omega) (by omega) (by omega);obtain⟨v2,f4⟩:=t48 L (a+4) 0 999 (by omega) (by omega) (by omega) (by omega);have f5:=t41 L (a+6) [⟨#[]⟩,⟨#[120]⟩] (by omega) (by simp) (by simp);simp only[List.map_cons,List.map_nil]at f5;generalize ([⟨#[]⟩,⟨#[120]⟩]:List ByteArray).getD _ _=ZO at f5;have fi:(xs.set i (.mk k r t vv l (.mk v1 v2 ZO []) sa sb p ps)).map encS=(xs.map encS).set i (encS (.mk k r t vv l (.mk v1 v2 ZO []) sa sb p ps)):=by rw[List.map_set]
 rw[ay]at fi;refine⟨i,(.mk k r t vv l (.mk v1 v2 ZO []) sa sb p ps),a+7,hi,by omega,by omega,?_,?_⟩
 ·rw[AF];simp[wS,dn,wE,sA]<;>omega
 rw[N9];rw[fi];intro ca N T J j e m kk hT e0 e4 hJ hk;have pJ:∀b,(J.set j b)[j]? =some b:=fun b=>by simp[(List.getElem?_eq_some_iff.1 hJ).1]
 have j3:∀b c,(J.set j b).set j c=J.set j c:=fun b c=>by simp
 simp -implicitDefEqProofs only[eQ,e0,e4,hJ,pJ,j3,kD,eB,pW,gj,dr,hT.tok.len,hT.tok.bW,hT.tok.bT,hT.tok.aZ,hT.tok.aW,hT.tok.get,List.length_set,Int.reduceEq,go_sem];repeat' (first | ((first | (with_reducible first | refine bR ((f1.at hT _)) ?_ | refine bR ((f2.at hT _)) ?_ | refine bR ((f3.at hT _)) ?_ | refine bR ((f4.at hT _)) ?_ | refine bR ((f5.at hT _)) ?_) | (with_reducible refine aD ?_));simp -implicitDefEqProofs only[e0,e4,hJ,pJ,j3,kD,eB,pW,gj,dr,hT.tok.len,hT.tok.bW,hT.tok.bT,hT.tok.aZ,hT.tok.aW,hT.tok.get,List.length_set,Int.reduceEq,go_sem]) | (with_reducible refine aA.mk ?_ ?_) | (with_reducible refine And.intro ?_ ?_) | ((with_reducible refine bz ?_);simp -implicitDefEqProofs only[mh,hT.tok.len,hT.tok.bW,hT.tok.bT,hT.tok.aZ,hT.tok.aW,hT.tok.get,push_cast,go_sem_proc]) | intro _)
 all_goals first
  | (rw[fi]at hk;exact hk _ _)
  | exact hk _ _
  | omega
theorem Tk (L:List Int) (xs:List St) (a:Nat) (hx:xs≠ []) (hl:xs.length<=1000000) (ha:a<=600000) (h2:dz L (a+1) 6=4):Oa L xs a:=by
 have j5:0<xs.length:=List.length_pos_iff.2 hx;have hb:=cq (L:=L) (a:=a) (n:=xs.length) (by omega) (by omega);have f1:=t16 L a xs.length (by omega);have f2:=t16 L (a+1) 6 (by omega);rw[h2]at f2;generalize dz L a xs.length=v0 at*;obtain⟨i,rfl⟩:∃i:Nat,v0=i:=⟨v0.toNat,by omega⟩;have hi:i<xs.length:=by omega
 have kD:(xs.map encS).getD i .any=encS (xs.getD i AE):=by simp[List.getD,hi]
 generalize AF:xs.getD i AE=x at*;obtain⟨k,r,t,vv,l,⟨ek,en,es,aR⟩,sa,sb,p,ps⟩:=x;rw[ay]at kD;have gj:iD (i:Int) xs.length=True:=by simp[iD];omega
 have eB:∀y,((xs.map encS).set i y).getD i .any=y:=fun y=>by simp[List.getD,hi]
 have pW:∀y z,((xs.map encS).set i y).set i z=(xs.map encS).set i z:=fun y z=>by simp
 have dr:¬((xs.length:Int)=0):=by omega
 have f3:=t41 L (a+2) [p,⟨#[122,122]⟩,⟨#[102]⟩,⟨#[]⟩] (by omega) (by simp) (by simp);simp only[List.map_cons,List.map_nil]at f3;generalize ([p,⟨#[122,122]⟩,⟨#[102]⟩,⟨#[]⟩]:List ByteArray).getD _ _=Gg at f3;have hb4:=cq (L:=L) (a:=a+3) (n:=5) (by omega) (by omega);have f4:=t16 L (a+3) 5 (by omega);generalize dz L (a+3) 5=w0 at*;obtain⟨w,rfl⟩:∃w:Nat,w0=w:=⟨w0.toNat,by omega⟩;have hw:iD (w:Int) 5=True:=by simp[iD];omega
 have xR:=JI w (by omega);have IL:(opts[w]?.getD []).length<=2:=by
  have:w=0\/w=1\/w=2\/w=3\/w=4:=by omega
  rcases this with rfl | rfl | rfl | rfl | rfl<;>decide
 have fi:(xs.set i (.mk k r t vv l (.mk ek en es aR) sa sb Gg (opts.getD w []))).map encS=(xs.map encS).set i (encS (.mk k r t vv l (.mk ek en es aR) sa sb Gg (opts.getD w []))):=by rw[List.map_set]
 rw[ay]at fi;refine⟨i,(.mk k r t vv l (.mk ek en es aR) sa sb Gg (opts.getD w [])),a+4,hi,by omega,by omega,?_,?_⟩
 ·rw[AF];simp[wS,dn,wE,sA]<;>omega
 rw[N9];rw[fi];intro ca N T J j e m kk hT e0 e4 hJ hk;have pJ:∀b,(J.set j b)[j]? =some b:=fun b=>by simp[(List.getElem?_eq_some_iff.1 hJ).1]
 have j3:∀b c,(J.set j b).set j c=J.set j c:=fun b c=>by simp
 simp -implicitDefEqProofs only[eQ,e0,e4,hJ,pJ,j3,kD,eB,pW,gj,dr,hT.tok.len,hT.tok.bW,hT.tok.bT,hT.tok.aZ,hT.tok.aW,hT.tok.get,List.length_set,Int.reduceEq,go_sem];repeat' (first | ((first | (with_reducible first | refine bR ((f1.at hT _)) ?_ | refine bR ((f2.at hT _)) ?_ | refine bR ((f3.at hT _)) ?_ | refine bR ((f4.at hT _)) ?_) | (with_reducible refine aD ?_));simp -implicitDefEqProofs only[e0,e4,hJ,pJ,j3,kD,eB,pW,gj,dr,hT.tok.len,hT.tok.bW,hT.tok.bT,hT.tok.aZ,hT.tok.aW,hT.tok.get,List.length_set,Int.reduceEq,hw,xR,go_sem]) | (with_reducible refine aA.mk ?_ ?_) | (with_reducible refine And.intro ?_ ?_) | ((with_reducible refine bz ?_);simp -implicitDefEqProofs only[mh,hT.tok.len,hT.tok.bW,hT.tok.bT,hT.tok.aZ,hT.tok.aW,hT.tok.get,push_cast,go_sem_proc]) | intro _)
 all_goals first
  | (rw[fi]at hk;exact hk _ _)
  | exact hk _ _
  | omega
theorem Tl (L:List Int) (xs:List St) (a:Nat) (hx:xs≠ []) (hl:xs.length<=1000000) (ha:a<=600000) (h2:dz L (a+1) 6=5):Oa L xs a:=by
 have j5:0<xs.length:=List.length_pos_iff.2 hx;have hb:=cq (L:=L) (a:=a) (n:=xs.length) (by omega) (by omega);have f1:=t16 L a xs.length (by omega);have f2:=t16 L (a+1) 6 (by omega);rw[h2]at f2;generalize dz L a xs.length=v0 at*;obtain⟨i,rfl⟩:∃i:Nat,v0=i:=⟨v0.toNat,by omega⟩;have hi:i<xs.length:=by omega
 have kD:(xs.map encS).getD i .any=encS (xs.getD i AE):=by simp[List.getD,hi]
 have ZP:(xs.map encS)[i]? =some (encS (xs.getD i AE)):=by simp[List.getD,hi]
 generalize AF:xs.getD i AE=x at*;have gj:iD (i:Int) xs.length=True:=by simp[iD];omega
 have eB:∀y,((xs.map encS).set i y).getD i .any=y:=fun y=>by simp[List.getD,hi]
 have pW:∀y z,((xs.map encS).set i y).set i z=(xs.map encS).set i z:=fun y z=>by simp
 have dr:¬((xs.length:Int)=0):=by omega
 have hb3:=cq (L:=L) (a:=a+2) (n:=3) (by omega) (by omega);have f3:=t39 L (a+2) (-1) 1 (by omega) (by omega) (by omega) (by omega);rw[show(1:Int) - -1+1=3 by omega]at f3;generalize dz L (a+2) 3=w0 at*;obtain⟨M,hM⟩:∃M:Nat,(20:Int)+(-1+w0)=M:=⟨(19+w0).toNat,by omega⟩;have hM2:M<=21:=by omega
 have hw:IntKind.i64.wrap (20+(-1+w0))=(M:Int):=by rw[hM];exact bP (by omega) (by omega)
 obtain⟨f,hf⟩:∃f:Nat->ByteArray,∀kk,f kk=([⟨#[97]⟩,⟨#[113]⟩]:List ByteArray).getD (dz L (a+(3+kk)) 2).toNat ⟨#[]⟩:=⟨fun kk=>_,fun kk=>rfl⟩;refine⟨i,Gf f x M,a+(3+M),hi,by omega,by omega,?_,?_⟩
 ·rw[AF,Ln];omega
 rw[N9];intro ca N T J j e m kk hT e0 e4 hJ hk;have Zf:=(List.getElem?_eq_some_iff.1 hJ).1;have pJ:∀b,(J.set j b)[j]? =some b:=fun b=>by simp[Zf]
 have j3:∀b c,(J.set j b).set j c=J.set j c:=fun b c=>by simp
 have lq:J.set j (.row ((xs.map encS).set i (encS x)))=J:=by
  rw[show(xs.map encS).set i (encS x)=xs.map encS from ?_]
  ·apply List.ext_getElem?
   intro q;rw[List.getElem?_set];split
   ·rename_i h;subst h;exact hJ.symm
   ·rfl
  ·apply List.ext_getElem?
   intro q;rw[List.getElem?_set];split
   ·rename_i h;subst h;rw[ZP];simp[hi]
   ·rfl
 have Lp:∀(e:Env) (m:Nat) (k:fW),e 0=.ptr ca 0 0->e 6=.ptr (N+j) i 0->e 77=.int .i64 M->e 78=.int .i64 0->
  (∀p e',F Tryz.prog (p+3) (.app k (.exit 1) e' (T (a+(3+M))++J.set j (.row ((xs.map encS).set i (encS (Gf f x M)))))))->F Tryz.prog (m+100) (.code (.loop wY) e (T (a+3)++J) k):=by
  intro e m k e0 e6 N1 N2 hk;refine aL (fun q e H=>∃q',q=M - q'/\q'<=M/\e 0=.ptr ca 0 0/\e 6=.ptr (N+j) i 0/\e 77=.int .i64 M/\e 78=.int .i64 q'/\H=T (a+(3+q'))++J.set j (.row ((xs.map encS).set i (encS (Gf f x q'))))) M ?_ ?_
  ·exact⟨0,rfl,Nat.zero_le _,e0,e6,N1,N2,by rw[Gf,lq]⟩
  ·rintro q e H ⟨q',rfl,hq,e0,e6,N1,N2,rfl⟩;by_cases hqM:q'=M
   ·subst hqM;have ct:¬((q':Int)<q'):=by omega
    simp -implicitDefEqProofs only[wY,e0,e6,N1,N2,ct,go_sem];exact hk _ _
   ·have ct:((q':Int)<M):=by omega
    have fS:IntKind.i64.wrap ((q':Int)+1)=((q'+1:Nat):Int):=bG (by omega);have oA:=t41 L (a+(3+q')) [⟨#[97]⟩,⟨#[113]⟩] (by omega) (by decide) (by decide);simp only[List.map_cons,List.map_nil,List.length_cons,List.length_nil,Nat.zero_add,Nat.reduceAdd]at oA;have JK:=hf q';change _=List.getD _ _ _ at JK;rw[show(((2:Nat):Int))=2 from rfl,<-JK]at oA;have hn:encS (Gf f x (q'+1))=.agg [.int .i64 4,.str (f q'),.str ⟨#[]⟩,.str ⟨#[]⟩,.str ⟨#[]⟩,.int .i64 1,.int .i64 0,.str ⟨#[]⟩,.fs [],.fs [encS (Gf f x q')],.fs [],.str ⟨#[]⟩,.fs []]:=by
     simp only[Gf,ay,em,List.map_cons,List.map_nil]
    generalize hy:Gf f x q'=y at*;obtain⟨yk,yr,yt,yv,yl,⟨ek,en,es,aR⟩,sa,sb,p,ps⟩:=y;rw[ay]at hn⊢;simp -implicitDefEqProofs only[wY,e0,e6,N1,N2,ct,hT.tok.len,hT.tok.bW,hT.tok.bT,hT.tok.aZ,hT.tok.aW,hT.tok.get,pJ,j3,eB,pW,gj,hi,List.length_set,go_sem];repeat' (first | ((first | (with_reducible refine bR ((oA.at hT _)) ?_) | (with_reducible refine aD ?_));simp -implicitDefEqProofs only[e0,e6,N1,N2,ct,hT.tok.len,hT.tok.bW,hT.tok.bT,hT.tok.aZ,hT.tok.aW,hT.tok.get,pJ,j3,eB,pW,gj,hi,List.length_set,fS,go_sem]) | (with_reducible refine aA.mk ?_ ?_) | (with_reducible refine And.intro ?_ ?_) | ((with_reducible refine bz ?_);simp -implicitDefEqProofs only[mh,hT.tok.len,hT.tok.bW,hT.tok.bT,hT.tok.aZ,hT.tok.aW,hT.tok.get,push_cast,go_sem_proc]) | intro _)
    all_goals first
     | omega
     | exact⟨M - (q'+1),by omega,q'+1,rfl,by omega,rfl,by rw[hn]⟩
 simp -implicitDefEqProofs only[eQ,e0,e4,hJ,pJ,j3,kD,eB,pW,gj,dr,hT.tok.len,hT.tok.bW,hT.tok.bT,hT.tok.aZ,hT.tok.aW,hT.tok.get,List.length_set,Int.reduceEq,Nat.le_refl,go_sem];repeat' (first | ((first | (with_reducible first | refine bR ((f1.at hT _)) ?_ | refine bR ((f2.at hT _)) ?_ | refine bR ((f3.at hT _)) ?_) | (with_reducible refine aD ?_));simp -implicitDefEqProofs only[e0,e4,hJ,pJ,j3,kD,eB,pW,gj,dr,hT.tok.len,hT.tok.bW,hT.tok.bT,hT.tok.aZ,hT.tok.aW,hT.tok.get,List.length_set,Int.reduceEq,hw,Nat.le_refl,go_sem]) | (with_reducible refine aA.mk ?_ ?_) | (with_reducible refine And.intro ?_ ?_) | ((with_reducible refine bz ?_);simp -implicitDefEqProofs only[mh,hT.tok.len,hT.tok.bW,hT.tok.bT,hT.tok.aZ,hT.tok.aW,hT.tok.get,push_cast,go_sem_proc]) | intro _)
 all_goals first
  | omega
  | (obtain⟨k,r,t,vv,l,⟨ek,en,es,aR⟩,sa,sb,p,ps⟩:=x;rw[ay];rfl)
  | (refine Lp _ _ _ (by simp[az,e0]) (by simp[az]) (by simp[az]) (by simp[az]) (fun p e'=> ?_)
     simp -implicitDefEqProofs only[go_sem];rw[List.map_set]at hk;exact hk _ _)
  | skip
 all_goals refine Lp _ _ _ (by simp[az,e0]) (by simp[az]) (by simp[az]) (by simp[az]) (fun p e'=> ?_)
 all_goals simp -implicitDefEqProofs only[go_sem]
 all_goals (rw[List.map_set]at hk;exact hk _ _)
def Cd (q:Pr) (kv:V):V:=.agg [.str q.name,.fs (q.au.map .str),kv]
def zw (ps:List Pr) (bQ:List V):List V:=List.zipWith Cd ps bQ
structure rG (H:List ak) (ny:Nat) (P:bH) (kvP dO:V) (bQ:List V):Prop where
 cell:H[ny]? =some (.row [.agg [kvP,dO]])
 qw:OV H kvP (zw P.procs bQ)
 sD:OV H dO (P.main.map encS)
 len:bQ.length=P.procs.length
 uT:∀(i:Nat) q kv,P.procs[i]? =some q->bQ[i]? =some kv->OV H kv (q.steps.map encS)
def dj (kv bN:V):Prop:=∀id,a7 kv id\/a7 bN id
theorem dj.ne {kv bN:V} {id o n:Nat} (h:dj kv bN) (hk:kv=.ms id o n):a7 bN id:=by
 rcases h id with h1 | h1
 ·exact absurd hk (h1 _ _)
 ·exact h1
theorem dj.ne' {kv bN:V} {id o n:Nat} (h:dj bN kv) (hk:kv=.ms id o n):a7 bN id:=by
 rcases h id with h1 | h1
 ·exact h1
 ·exact absurd hk (h1 _ _)
structure Sep (ny N:Nat) (kvP dO:V) (bQ:List V):Prop where
 pw:List.Pairwise dj (kvP::dO::bQ)
 ge:∀kv∈kvP::dO::bQ,∀i,i<N->a7 kv i
 ne:∀kv∈kvP::dO::bQ,a7 kv ny
theorem OV.ju {H:List ak} {kv:V} {acc:List V} (h:OV H kv acc) {id:Nat} {b:ak} (hk:a7 kv id):OV (H.set id b) kv acc:=by
 rcases h with h | ⟨h1,ph,h2,h3⟩
 ·exact .inl h
 ·refine .inr ⟨h1,ph,h2,?_⟩;rw[List.getElem?_set];split
  ·rename_i e;subst e;exact absurd h2 (hk _ _)
  ·exact h3
theorem OV.seteq {H:List ak} {kv:V} {acc yM:List V} (h:OV H kv acc) {id o n:Nat} (hk:kv=.ms id o n) (hl:yM.length=acc.length):OV (H.set id (.row yM)) kv yM:=by
 rcases h with⟨_,h⟩ | ⟨h1,ph,h2,h3⟩
 ·rw[h]at hk;cases hk
 ·have e:=h2.symm.trans hk;injection e with e1 e2 e3
  subst e1;refine .inr ⟨fun hh=>h1 ?_,ph,by rw[h2,hl],?_⟩
  ·rw[hh]at hl;exact List.length_eq_zero_iff.1 hl.symm
  ·rw[List.getElem?_set,if_pos rfl,if_pos (List.getElem?_eq_some_iff.1 h3).1]
theorem mem_of {i:Nat} {kv kvP dO:V} {bQ:List V} (h:bQ[i]? =some kv):kv∈kvP::dO::bQ:=by
 simp[List.mem_of_getElem? h]
theorem Sep.pS {ny N:Nat} {kvP dO:V} {bQ:List V} (h:Sep ny N kvP dO bQ):dj kvP dO:=(List.pairwise_cons.1 h.pw).1 _ (by simp)
theorem Sep.pk {ny N:Nat} {kvP dO:V} {bQ:List V} (h:Sep ny N kvP dO bQ) {i:Nat} {kv:V} (hi:bQ[i]? =some kv):dj kvP kv:=(List.pairwise_cons.1 h.pw).1 _ (by simp[List.mem_of_getElem? hi])
theorem Sep.sk {ny N:Nat} {kvP dO:V} {bQ:List V} (h:Sep ny N kvP dO bQ) {i:Nat} {kv:V} (hi:bQ[i]? =some kv):dj dO kv:=(List.pairwise_cons.1 (List.pairwise_cons.1 h.pw).2).1 _ (List.mem_of_getElem? hi)
theorem Sep.kk {ny N:Nat} {kvP dO:V} {bQ:List V} (h:Sep ny N kvP dO bQ) {i j:Nat} {kv bN:V} (hi:bQ[i]? =some kv) (hj:bQ[j]? =some bN) (dr:i≠j):∀id,a7 kv id\/a7 bN id:=by
 have hp:=List.pairwise_iff_getElem.1 (List.pairwise_cons.1 (List.pairwise_cons.1 h.pw).2).2;obtain⟨h1,rfl⟩:=List.getElem?_eq_some_iff.1 hi;obtain⟨h2,rfl⟩:=List.getElem?_eq_some_iff.1 hj;intro id;rcases Nat.lt_or_gt_of_ne dr with hl | hl
 ·exact hp i j h1 h2 hl id
 ·exact(hp j i h2 h1 hl id).symm
theorem rG.aW {H:List ak} {ny N:Nat} {P:bH} {kvP dO:V} {bQ:List V} (h:rG H ny P kvP dO bQ) (hs:Sep ny N kvP dO bQ) {id o n:Nat} (hk:dO=.ms id o n) (ys:List St) (hl:ys.length=P.main.length):
 rG (H.set id (.row (ys.map encS))) ny ⟨P.procs,ys⟩ kvP dO bQ where
 cell:=by
  rw[List.getElem?_set,if_neg]
  ·exact h.cell
  ·rintro rfl;exact hs.ne dO (by simp) _ _ hk
 qw:=h.qw.ju (hs.pS.ne' hk)
 sD:=h.sD.seteq hk (by simp[hl])
 len:=h.len
 uT i q kv h1 h2:=(h.uT i q kv h1 h2).ju ((hs.sk h2).ne hk)
theorem Ob {ps:List Pr} {bQ:List V} {i:Nat} {q:Pr} {kv:V} (hk:bQ[i]? =some kv):zw (ps.set i q) bQ=(zw ps bQ).set i (Cd q kv):=by
 apply List.ext_getElem?
 intro j;simp only[zw,List.getElem?_zipWith,List.getElem?_set,List.length_zipWith];by_cases rm:i=j
 ·subst rm;have ED:=(List.getElem?_eq_some_iff.1 hk).1;by_cases hl:i<ps.length
  ·simp[hk,hl,ED];exact⟨by omega,by rw[(List.getElem?_eq_some_iff.1 hk).2]⟩
  ·simp[hl];omega
 ·simp[rm]
theorem JL {ps:List Pr} {bQ:List V} {i:Nat} {q q':Pr} (hq:ps[i]? =some q) (h1:q'.name=q.name) (h2:q'.au=q.au):zw (ps.set i q') bQ=zw ps bQ:=by
 apply List.ext_getElem?
 intro j;simp only[zw,List.getElem?_zipWith,List.getElem?_set];by_cases rm:i=j
 ·subst rm;have hl:=(List.getElem?_eq_some_iff.1 hq).1;simp only[if_true,hl,hq];cases bQ[i]? <;>simp[Cd,h1,h2]
 ·simp[rm]
theorem rG.ZQ {H:List ak} {ny N:Nat} {P:bH} {kvP dO:V} {bQ:List V} (h:rG H ny P kvP dO bQ) (hs:Sep ny N kvP dO bQ) {at_:Nat} {q:Pr} (hq:P.procs[at_]? =some q) {kv:V} (eJ:bQ[at_]? =some kv)
 {id o n:Nat} (hk:kv=.ms id o n) (ys:List St) (hl:ys.length=q.steps.length):
 rG (H.set id (.row (ys.map encS))) ny ⟨P.procs.set at_ ⟨q.name,q.au,ys⟩,P.main⟩ kvP dO bQ where
 cell:=by
  rw[List.getElem?_set,if_neg]
  ·exact h.cell
  ·rintro rfl;exact hs.ne kv (mem_of eJ) _ _ hk
 qw:=by
  show OV _ _ (zw (P.procs.set at_ ⟨q.name,q.au,ys⟩) bQ);rw[JL (q':=⟨q.name,q.au,ys⟩) hq rfl rfl];exact h.qw.ju ((hs.pk eJ).ne' hk)
 sD:=h.sD.ju ((hs.sk eJ).ne' hk)
 len:=by simp[h.len]
 uT i q2 fH h1 h2:=by
  simp only[List.getElem?_set]at h1;by_cases hi:at_=i
  ·subst hi;rw[if_pos rfl,if_pos (List.getElem?_eq_some_iff.1 hq).1]at h1;cases h1;rw[eJ]at h2;cases h2;exact(h.uT _ _ _ hq eJ).seteq hk (by simp[hl])
  ·rw[if_neg hi]at h1;refine(h.uT i q2 fH h1 h2).ju ?_;rcases hs.kk eJ h2 hi id with h3 | h3
   ·exact absurd hk (h3 _ _)
   ·exact h3
theorem rG.JM {H:List ak} {ny N:Nat} {P:bH} {kvP dO:V} {bQ:List V} (h:rG H ny P kvP dO bQ) (hs:Sep ny N kvP dO bQ) {at_:Nat} {q:Pr} (hq:P.procs[at_]? =some q) {kv:V} (eJ:bQ[at_]? =some kv)
 {id o n:Nat} (hk:kvP=.ms id o n) (nm:ByteArray) (rs:List ByteArray):
 rG (H.set id (.row ((zw P.procs bQ).set at_ (Cd ⟨nm,rs,q.steps⟩ kv)))) ny ⟨P.procs.set at_ ⟨nm,rs,q.steps⟩,P.main⟩ kvP dO bQ where
 cell:=by
  rw[List.getElem?_set,if_neg]
  ·exact h.cell
  ·rintro rfl;exact hs.ne kvP (by simp) _ _ hk
 qw:=by
  show OV _ _ (zw (P.procs.set at_ ⟨nm,rs,q.steps⟩) bQ);rw[Ob eJ];exact h.qw.seteq hk (by simp)
 sD:=h.sD.ju (hs.pS.ne hk)
 len:=by simp[h.len]
 uT i q2 fH h1 h2:=by
  refine OV.ju ?_ ((hs.pk h2).ne hk);simp only[List.getElem?_set]at h1;by_cases hi:at_=i
  ·subst hi;rw[if_pos rfl,if_pos (List.getElem?_eq_some_iff.1 hq).1]at h1;cases h1;exact h.uT at_ q fH hq h2
  ·rw[if_neg hi]at h1;exact h.uT i q2 fH h1 h2
theorem rG.tail {A B X:List ak} {N j:Nat} {P:bH} {kvP dO:V} {bQ:List V} (h:rG (A++X) (N+j) P kvP dO bQ) (hs:Sep (N+j) N kvP dO bQ) (hA:A.length=N) (hB:B.length=N):rG (B++X) (N+j) P kvP dO bQ where
 cell:=by
  have:=h.cell;rw[List.getElem?_append_right (by omega),hA]at this;rw[List.getElem?_append_right (by omega),hB];exact this
 qw:=h.qw.tail hA (hs.ge kvP (by simp)) hB
 sD:=h.sD.tail hA (hs.ge dO (by simp)) hB
 len:=h.len
 uT i q kv h1 h2:=(h.uT i q kv h1 h2).tail hA (hs.ge kv (mem_of h2)) hB
theorem rG.Sl {H:List ak} {ny:Nat} {P:bH} {kvP dO:V} {bQ:List V} (h:rG H ny P kvP dO bQ):fz H 20 (.agg [kvP,dO])=some (aP P):=by
 have h1:fz H 19 dO=some (.fs (P.main.map encS)):=dw (f:=encS) (n:=17) (fun H x=>fz_encS H 16 x) h.sD;have h2:fz H 19 kvP=some (.fs (P.procs.map aF)):=by
  have key:eI (fz H 18) (zw P.procs bQ)=some (P.procs.map aF):=by
   have:∀(ps:List Pr) (ks:List V),ks.length=ps.length->(∀(i:Nat) q kv,ps[i]? =some q->ks[i]? =some kv->OV H kv (q.steps.map encS))->eI (fz H 18) (zw ps ks)=some (ps.map aF):=by
    intro ps;induction ps with
    | nil=>intro ks _ _;simp[zw,cN]
    | cons q ps ih=>
     intro ks hl ho;cases ks with
     | nil=>simp at hl
     | cons kv ks=>
      have h3:=ho 0 q kv rfl rfl;have h4:fz H 17 kv=some (.fs (q.steps.map encS)):=dw (f:=encS) (n:=15) (fun H x=>fz_encS H 14 x) h3;have h5:=ih ks (by simpa using hl) (fun i q kv h1 h2=>ho (i+1) q kv h1 h2);show eI (fz H 18) (Cd q kv::zw ps ks)=_;have h6:fz H 18 (Cd q kv)=some (aF q):=by
       unfold Cd aF
       simp -implicitDefEqProofs only[h4,push_cast,go_sem_proc]
      rw[b7,h6,h5];rfl
   exact this _ _ h.len h.uT
  rcases h.qw with⟨h3,rfl⟩ | ⟨_,id,rfl,hid⟩
  ·rw[fQ];rw[h3,cN]at key;have:P.procs.map aF=[]:=by simpa using key.symm
   rw[this]
  ·rw[iu,hid,ef,if_pos (by simp),List.drop_zero,List.take_of_length_le (by simp),key];rfl
 show fz H (19+1) _=_;rw[ma,b7,b7,cN,h2,h1];rfl
theorem Gi (L:List Int) (xs:List St) (a:Nat) (hx:xs≠ []) (hl:xs.length<=1000000) (ha:a<=600000):Oa L xs a:=by
 have hb:=cq (L:=L) (a:=a+1) (n:=6) (by omega) (by omega);have:dz L (a+1) 6=0\/dz L (a+1) 6=1\/dz L (a+1) 6=2\/dz L (a+1) 6=3\/dz L (a+1) 6=4\/dz L (a+1) 6=5:=by omega
 rcases this with h | h | h | h | h | h
 ·exact Tg L xs a hx hl ha h
 ·exact Th L xs a hx hl ha h
 ·exact Ti L xs a hx hl ha h
 ·exact Tj L xs a hx hl ha h
 ·exact Tk L xs a hx hl ha h
 ·exact Tl L xs a hx hl ha h
theorem Gj {e:Env} {H:List ak} {k:fW} {m:Nat} (e4:e 4=.ag) (hk:∀p e',F Tryz.prog (p+1) (.app k .ret e' H)):F Tryz.prog (m+300) (.code eQ e H k):=by
 simp -implicitDefEqProofs only[eQ,e4,Int.reduceEq,go_sem];all_goals exact hk _ _
theorem jQ:∀l:List St,l.length<=dn l
 | []=>Nat.zero_le _
 | .mk _ _ _ _ _ e a b _ ps::l=>by have:=jQ l;simp only[dn,wS,List.length_cons];omega
theorem w5:∀(xs:List St) (i:Nat) (x':St) (c:Nat),i<xs.length->wS x'<=wS (xs.getD i AE)+c->dn (xs.set i x')<=dn xs+c
 | [],i,_,_,h,_=>by simp at h
 | x::xs,0,x',c,_,h=>by simp[dn]at h⊢;omega
 | x::xs,i+1,x',c,hl,h=>by
  have:=w5 xs i x' c (by simpa using hl) (by simpa using h);simp[dn];omega
theorem w6:∀(xs:List Pr) (i:Nat) (q q':Pr) (c:Nat),xs[i]? =some q->q'.au.length+dn q'.steps<=q.au.length+dn q.steps+c->lM (xs.set i q')<=lM xs+c
 | [],i,_,_,_,h,_=>by simp at h
 | x::xs,0,q,q',c,h0,h=>by simp at h0;subst h0;simp[lM];omega
 | x::xs,i+1,q,q',c,hl,h=>by
  have:=w6 xs i q q' c (by simpa using hl) h;simp[lM];omega
def ZR (L:List Int) (P:bH) (a:Nat) (P':bH) (a':Nat):Prop:=
 ∀ca N T,MS L ca N T->∀J jp kvP dO bQ,rG (T a++J) (N+jp) P kvP dO bQ->Sep (N+jp) N kvP dO bQ->
  av Tryz.prog 40 [.ptr ca 0 0,.ptr (N+jp) 0 0] (T a++J) (fun r H'=>r=.dJ []/\∃J',H'=T a'++J'/\rG (T a'++J') (N+jp) P' kvP dO bQ/\∀i,(∀kv∈kvP::dO::bQ,a7 kv (N+i))->J'[i]? =J[i]?)
theorem Ce {A J:List ak} {N:Nat} {kv:V} {acc:List V} (h:OV (A++J) kv acc) (hA:A.length=N) (hk:∀i,i<N->a7 kv i):(acc=[]/\kv=.ag)\/(acc≠ []/\∃j,kv=.ms (N+j) 0 acc.length/\J[j]? =some (.row acc)):=by
 rcases h with h | ⟨h1,id,h2,h3⟩
 ·exact .inl h
 ·have hid:¬id<N:=fun hl=>hk id hl 0 _ h2
  refine .inr ⟨h1,id - N,by rw[h2];congr 1;omega,?_⟩;rw[List.getElem?_append_right (by omega),hA]at h3;exact h3
theorem w7 {ps:List Pr} {bQ:List V} (h:bQ.length=ps.length):(zw ps bQ).length=ps.length:=by simp[zw,h]
theorem Cf (L:List Int) (P:bH) (a aT:Nat) (ha:aT<=600000) (hw:iE P<=900000)
 (hc:(P.procs=[]/\aT=a)\/(P.procs≠ []/\decide (dz L a 2=0)=false/\aT=a+1)):∃P' a',a<=a'/\a'<=a+100/\iE P'<=iE P+200/\P'.procs.length=P.procs.length/\ZR L P a P' a':=by
 have DE:=t14 L a 2 (by omega);have kE:P.main.length<=900000:=by have:=jQ P.main;simp only[iE]at hw;omega
 have walk:∀(ca N:Nat) (T:Nat->List ak),MS L ca N T->∀(J:List ak) (jp:Nat) (kvP dO:V) (bQ:List V),rG (T a++J) (N+jp) P kvP dO bQ->Sep (N+jp) N kvP dO bQ->∀(K:V->List ak->Prop),
  (∀(e:Env) (m:Nat),e 0=.ptr ca 0 0->e 4=dO->F Tryz.prog (m+500) (.code eQ e (T aT++J) (.post fun x e H=>(x=.normal\/x=.ret)/\Ar Tryz.prog mh e H fun v=>K v H)))->av Tryz.prog 40 [.ptr ca 0 0,.ptr (N+jp) 0 0] (T a++J) K:=by
  intro ca N T hT J jp kvP dO bQ hP hS K hK;have cr:=hP.cell;rw[hT.tok.bT]at cr;have ba:=hP.sD.cS;simp only[V.one]at ba;have cP:=hP.sD.one;refine av.intro NZ 600 (by simp) ?_;rcases hc with⟨hp,rfl⟩ | ⟨hp,h2,rfl⟩
  ·have Oc:kvP=.ag:=by
    rcases hP.qw with⟨_,h⟩ | ⟨h,_⟩
    ·exact h
    ·exact absurd (by simp[zw,hp]) h
   subst Oc;simp -implicitDefEqProofs only[Ga,cr,hT.tok.len,hT.tok.bW,hT.tok.bT,hT.tok.aZ,hT.tok.aW,hT.tok.get,Int.reduceLT,ba,cP,go_sem];exact hK _ _ (by simp[az,aC]) (by simp[az])
  ·rw[h2]at DE;have zS:=w7 hP.len;rcases hP.qw with⟨h,_⟩ | ⟨_,id,rfl,hid⟩
   ·exact absurd (List.length_eq_zero_iff.1 (by rw[<-zS,h];rfl)) hp
   ·have gp:(0:Int)<P.procs.length:=by have:=List.length_pos_iff.2 hp;omega
    simp -implicitDefEqProofs only[Ga,cr,hT.tok.len,hT.tok.bW,hT.tok.bT,hT.tok.aZ,hT.tok.aW,hT.tok.get,gp,ba,cP,zS,go_sem];repeat' (first | ((first | (with_reducible refine bR ((DE.at hT _)) ?_) | (with_reducible refine aD ?_));simp -implicitDefEqProofs only[cr,hT.tok.len,hT.tok.bW,hT.tok.bT,hT.tok.aZ,hT.tok.aW,hT.tok.get,gp,ba,cP,zS,go_sem]) | (with_reducible refine aA.mk ?_ ?_) | (with_reducible refine And.intro ?_ ?_) | ((with_reducible refine bz ?_);simp -implicitDefEqProofs only[mh,hT.tok.len,hT.tok.bW,hT.tok.bT,hT.tok.aZ,hT.tok.aW,hT.tok.get,push_cast,go_sem_proc]) | intro _)
    all_goals exact hK _ _ (by simp[az,aC]) (by simp[az])
 by_cases hm:P.main=[]
 ·refine⟨P,aT,by omega,by omega,by omega,rfl,?_⟩;intro ca N T hT J jp kvP dO bQ hP hS;refine walk ca N T hT J jp kvP dO bQ hP hS _ (fun e m e0 e4=> ?_);have Ip:dO=.ag:=by
   rcases hP.sD with⟨_,h⟩ | ⟨h,_⟩
   ·exact h
   ·exact absurd (by simp[hm]) h
  subst Ip;refine Gj e4 (fun p e'=> ?_);simp -implicitDefEqProofs only[go_sem];simp -implicitDefEqProofs only[mh,push_cast,go_sem_proc];exact⟨J,rfl,hP.tail hS (hT.tok.len _) (hT.tok.len _),fun _ _=>rfl⟩
 ·obtain⟨i,x',a',hi,h1,h2,h3,h4⟩:=Gi L P.main aT hm (by omega) ha;refine⟨⟨P.procs,P.main.set i x'⟩,a',by omega,by omega,?_,rfl,?_⟩
  ·have:=w5 P.main i x' 100 hi h3;simp only[iE]at hw⊢;omega
  intro ca N T hT J jp kvP dO bQ hP hS;refine walk ca N T hT J jp kvP dO bQ hP hS _ (fun e m e0 e4=> ?_);rcases Ce hP.sD (hT.tok.len _) (hS.ge dO (by simp))with⟨h,_⟩ | ⟨_,j,hk,hJ⟩
  ·exact absurd (by simpa using h) hm
  ·rw[hk,List.length_map]at e4;refine h4 ca N T J j e (m+200) _ hT e0 e4 hJ (fun p e'=> ?_);simp -implicitDefEqProofs only[go_sem];simp -implicitDefEqProofs only[mh,push_cast,go_sem_proc];refine⟨_,rfl,?_⟩;have hq:=hP.aW hS hk (P.main.set i x') (by simp);rw[hT.tok.aW]at hq;exact⟨hq.tail hS (hT.tok.len _) (hT.tok.len _),fun i hi=>List.getElem?_set_ne (fun h=>by subst h;exact hi dO (by simp) _ _ hk)⟩
theorem Gk {ps:List Pr} {bQ:List V} {i:Nat} {q:Pr} {kv:V} (h1:ps[i]? =some q) (h2:bQ[i]? =some kv):(zw ps bQ).getD i .any=Cd q kv:=by
 simp[zw,List.getD,List.getElem?_zipWith,h1,h2]
def Gl:List (List ByteArray):=[[],[⟨#[113]⟩],[⟨#[113]⟩,⟨#[113]⟩],[⟨#[113]⟩,⟨#[114]⟩,⟨#[116]⟩,⟨#[117]⟩],[⟨#[105,102]⟩]]
theorem Gm (v:Nat) (h:v<5):([.fs [],.fs [.str ⟨#[113]⟩],.fs [.str ⟨#[113]⟩,.str ⟨#[113]⟩],.fs [.str ⟨#[113]⟩,.str ⟨#[114]⟩,.str ⟨#[116]⟩,.str ⟨#[117]⟩],.fs [.str ⟨#[105,102]⟩]]:List V).getD v .any=.fs ((Gl.getD v []).map .str):=by
 have:v=0\/v=1\/v=2\/v=3\/v=4:=by omega
 rcases this with rfl | rfl | rfl | rfl | rfl<;>rfl
theorem JN (L:List Int) (P:bH) (a:Nat) (ha:a<=500000) (hw:iE P<=900000) (ew:P.procs.length<=100000) (hp:P.procs≠ []) (h2:decide (dz L a 2=0)=true):
 ∃P' a',a<=a'/\a'<=a+100/\iE P'<=iE P+200/\P'.procs.length=P.procs.length/\ZR L P a P' a':=by
 have DE:=t14 L a 2 (by omega);rw[h2]at DE;have MN:0<P.procs.length:=List.length_pos_iff.2 hp;have gp:(0:Int)<P.procs.length:=by omega
 have hb:=cq (L:=L) (a:=a+1) (n:=P.procs.length) (by omega) (by omega);have f1:=t16 L (a+1) P.procs.length (by omega);have f3:=t14 L (a+2) 3 (by omega);generalize dz L (a+1) P.procs.length=v0 at*;obtain⟨at_,rfl⟩:∃i:Nat,v0=i:=⟨v0.toNat,by omega⟩;have QE:at_<P.procs.length:=by omega
 have gj:iD (at_:Int) P.procs.length=True:=by simp[iD];omega
 have dr:¬((P.procs.length:Int)=0):=by omega
 obtain⟨q,hq⟩:∃q,P.procs[at_]? =some q:=⟨P.procs[at_],List.getElem?_eq_getElem QE⟩;have hqw:q.au.length+dn q.steps<=iE P:=by
  have:∀(l:List Pr) (i:Nat),l[i]? =some q->q.au.length+dn q.steps<=lM l:=by
   intro l;induction l with
   | nil=>intro i h;simp at h
   | cons x l ih=>
    intro i h;cases i with
    | zero=>simp at h;subst h;simp[lM]
    | succ i=>have:=ih i (by simpa using h);simp[lM];omega
  have:=this _ _ hq;simp only[iE];omega
 cases h3:decide (dz L (a+2) 3=0)with
 | true=>
  rw[h3]at f3;have f4:=t41 L (a+3) [⟨#[]⟩,⟨#[102]⟩,⟨#[109,97,105,110]⟩,⟨#[65]⟩,⟨#[107]⟩] (by omega) (by simp) (by simp);simp only[List.map_cons,List.map_nil]at f4;generalize ([⟨#[]⟩,⟨#[102]⟩,⟨#[109,97,105,110]⟩,⟨#[65]⟩,⟨#[107]⟩]:List ByteArray).getD _ _=Gh at f4;have hb4:=cq (L:=L) (a:=a+4) (n:=5) (by omega) (by omega);have f5:=t16 L (a+4) 5 (by omega);generalize dz L (a+4) 5=w0 at*;obtain⟨w,rfl⟩:∃w:Nat,w0=w:=⟨w0.toNat,by omega⟩;have hw5:iD (w:Int) 5=True:=by simp[iD];omega
  have xR:=Gm w (by omega);have IL:(Gl.getD w []).length<=4:=by
   have:w=0\/w=1\/w=2\/w=3\/w=4:=by omega
   rcases this with rfl | rfl | rfl | rfl | rfl<;>decide
  generalize Gl.getD w []=ZS at*;refine⟨⟨P.procs.set at_ ⟨Gh,ZS,q.steps⟩,P.main⟩,a+5,by omega,by omega,?_,by simp,?_⟩
  ·have:=w6 P.procs at_ q ⟨Gh,ZS,q.steps⟩ 4 hq (by simp;omega);simp only[iE]at hw⊢;omega
  intro ca N T hT J jp kvP dO bQ hP hS;obtain⟨kv,eJ⟩:∃kv,bQ[at_]? =some kv:=⟨bQ[at_]'(by rw[hP.len];omega),List.getElem?_eq_getElem _⟩;have cr:=hP.cell;rw[hT.tok.bT]at cr;have ba:=hP.sD.cS;simp only[V.one]at ba;have cP:=hP.sD.one;have Gn:=(hP.uT at_ q kv hq eJ);have cY:=Gn.cS;simp only[V.one]at cY;have j8:=Gn.one;have zS:=w7 hP.len;have Od:=Gk hq eJ;simp only[Cd]at Od;refine av.intro NZ 600 (by simp) ?_;rcases Ce hP.qw (hT.tok.len _) (hS.ge kvP (by simp))with⟨h,_⟩ | ⟨_,jq,Oc,QF⟩
  ·exact absurd (List.length_eq_zero_iff.1 (by rw[<-zS,h];rfl)) hp
  ·have Jg:jq≠jp:=by
    rintro rfl;exact hS.ne kvP (by simp) _ _ Oc
   have jI:=hP.JM hS hq eJ Oc Gh ZS;rw[hT.tok.aW]at jI;have QG:=jI.tail hS (hT.tok.len _) (hT.tok.len (a+5));simp only[Cd]at QG;subst Oc;have ZT:=(List.getElem?_eq_some_iff.1 QF).1;have pJ:∀b,(J.set jq b)[jq]? =some b:=fun b=>by simp[ZT]
   have j3:∀b c,(J.set jq b).set jq c=J.set jq c:=fun b c=>by simp
   have hJp:∀b,(J.set jq b)[jp]? =some (ak.row [.agg [.ms (N+jq) 0 (zw P.procs bQ).length,dO]]):=fun b=>by rw[List.getElem?_set_ne Jg];exact cr
   have eB:∀y,((zw P.procs bQ).set at_ y).getD at_ .any=y:=fun y=>by simp[List.getD,QE,zS]
   have pW:∀y z,((zw P.procs bQ).set at_ y).set at_ z=(zw P.procs bQ).set at_ z:=fun y z=>by simp
   simp -implicitDefEqProofs only[Ga,cr,hT.tok.len,hT.tok.bW,hT.tok.bT,hT.tok.aZ,hT.tok.aW,hT.tok.get,gp,ba,cP,zS,QF,Od,gj,dr,cY,j8,go_sem];repeat' (first | ((first | (with_reducible first | refine bR ((DE.at hT _)) ?_ | refine bR ((f1.at hT _)) ?_ | refine bR ((f3.at hT _)) ?_ | refine bR ((f4.at hT _)) ?_ | refine bR ((f5.at hT _)) ?_) | (with_reducible refine aD ?_));simp -implicitDefEqProofs only[cr,hT.tok.len,hT.tok.bW,hT.tok.bT,hT.tok.aZ,hT.tok.aW,hT.tok.get,gp,ba,cP,zS,QF,Od,gj,dr,cY,j8,QE,Nat.le_refl,pJ,j3,hJp,eB,pW,hw5,xR,List.length_set,go_sem]) | (with_reducible refine aA.mk ?_ ?_) | (with_reducible refine And.intro ?_ ?_) | ((with_reducible refine bz ?_);simp -implicitDefEqProofs only[mh,hT.tok.len,hT.tok.bW,hT.tok.bT,hT.tok.aZ,hT.tok.aW,hT.tok.get,push_cast,go_sem_proc]) | intro _)
   all_goals first
    | omega
    | (rw[zS]at QG;exact⟨_,rfl,QG,fun i hi=>List.getElem?_set_ne (fun h=>by subst h;exact hi (.ms (N+jq) 0 P.procs.length) List.mem_cons_self _ _ rfl)⟩)
 | false=>
  rw[h3]at f3;have walk:∀(ca N:Nat) (T:Nat->List ak),MS L ca N T->∀(J:List ak) (jp:Nat) (kvP dO:V) (bQ:List V),rG (T a++J) (N+jp) P kvP dO bQ->Sep (N+jp) N kvP dO bQ->∀(kv:V),bQ[at_]? =some kv->∀(K:V->List ak->Prop),
   (∀(e:Env) (m:Nat),e 0=.ptr ca 0 0->e 4=kv->F Tryz.prog (m+400) (.code eQ e (T (a+3)++J) (.post fun x e H=>(x=.normal\/x=.ret)/\Ar Tryz.prog mh e H fun v=>K v H)))->av Tryz.prog 40 [.ptr ca 0 0,.ptr (N+jp) 0 0] (T a++J) K:=by
   intro ca N T hT J jp kvP dO bQ hP hS kv eJ K hK;have cr:=hP.cell;rw[hT.tok.bT]at cr;have ba:=hP.sD.cS;simp only[V.one]at ba;have cP:=hP.sD.one;have Gn:=(hP.uT at_ q kv hq eJ);have cY:=Gn.cS;simp only[V.one]at cY;have j8:=Gn.one;have zS:=w7 hP.len;have Od:=Gk hq eJ;simp only[Cd]at Od;refine av.intro NZ 600 (by simp) ?_;rcases Ce hP.qw (hT.tok.len _) (hS.ge kvP (by simp))with⟨h,_⟩ | ⟨_,jq,rfl,QF⟩
   ·exact absurd (List.length_eq_zero_iff.1 (by rw[<-zS,h];rfl)) hp
   ·simp -implicitDefEqProofs only[Ga,cr,hT.tok.len,hT.tok.bW,hT.tok.bT,hT.tok.aZ,hT.tok.aW,hT.tok.get,gp,ba,cP,zS,QF,Od,gj,dr,cY,j8,go_sem];repeat' (first | ((first | (with_reducible first | refine bR ((DE.at hT _)) ?_ | refine bR ((f1.at hT _)) ?_ | refine bR ((f3.at hT _)) ?_) | (with_reducible refine aD ?_));simp -implicitDefEqProofs only[cr,hT.tok.len,hT.tok.bW,hT.tok.bT,hT.tok.aZ,hT.tok.aW,hT.tok.get,gp,ba,cP,zS,QF,Od,gj,dr,cY,j8,QE,Nat.le_refl,go_sem]) | (with_reducible refine aA.mk ?_ ?_) | (with_reducible refine And.intro ?_ ?_) | ((with_reducible refine bz ?_);simp -implicitDefEqProofs only[mh,hT.tok.len,hT.tok.bW,hT.tok.bT,hT.tok.aZ,hT.tok.aW,hT.tok.get,push_cast,go_sem_proc]) | intro _)
    all_goals exact hK _ _ (by simp[az,aC]) (by simp[az])
  by_cases hm:q.steps=[]
  ·refine⟨P,a+3,by omega,by omega,by omega,rfl,?_⟩;intro ca N T hT J jp kvP dO bQ hP hS;obtain⟨kv,eJ⟩:∃kv,bQ[at_]? =some kv:=⟨bQ[at_]'(by rw[hP.len];omega),List.getElem?_eq_getElem _⟩;refine walk ca N T hT J jp kvP dO bQ hP hS kv eJ _ (fun e m e0 e4=> ?_);have Ip:kv=.ag:=by
    rcases hP.uT at_ q kv hq eJ with⟨_,h⟩ | ⟨h,_⟩
    ·exact h
    ·exact absurd (by simp[hm]) h
   subst Ip;refine Gj e4 (fun p e'=> ?_);simp -implicitDefEqProofs only[go_sem];simp -implicitDefEqProofs only[mh,push_cast,go_sem_proc];exact⟨J,rfl,hP.tail hS (hT.tok.len _) (hT.tok.len _),fun _ _=>rfl⟩
  ·have Iq:q.steps.length<=1000000:=by have:=jQ q.steps;omega
   obtain⟨i,x',a',hi,h1,h2,h3,h4⟩:=Gi L q.steps (a+3) hm Iq (by omega);refine⟨⟨P.procs.set at_ ⟨q.name,q.au,q.steps.set i x'⟩,P.main⟩,a',by omega,by omega,?_,by simp,?_⟩
   ·have:=w5 q.steps i x' 100 hi h3;have:=w6 P.procs at_ q ⟨q.name,q.au,q.steps.set i x'⟩ 100 hq (by simp;omega);simp only[iE]at hw⊢;omega
   intro ca N T hT J jp kvP dO bQ hP hS;obtain⟨kv,eJ⟩:∃kv,bQ[at_]? =some kv:=⟨bQ[at_]'(by rw[hP.len];omega),List.getElem?_eq_getElem _⟩;refine walk ca N T hT J jp kvP dO bQ hP hS kv eJ _ (fun e m e0 e4=> ?_);rcases Ce (hP.uT at_ q kv hq eJ) (hT.tok.len _) (hS.ge kv (mem_of eJ))with⟨h,_⟩ | ⟨_,j,hk,hJ⟩
   ·exact absurd (by simpa using h) hm
   ·rw[hk,List.length_map]at e4;refine h4 ca N T J j e (m+100) _ hT e0 e4 hJ (fun p e'=> ?_);simp -implicitDefEqProofs only[go_sem];simp -implicitDefEqProofs only[mh,push_cast,go_sem_proc];refine⟨_,rfl,?_⟩;have jI:=hP.ZQ hS hq eJ hk (q.steps.set i x') (by simp);rw[hT.tok.aW]at jI;exact⟨jI.tail hS (hT.tok.len _) (hT.tok.len _),fun i hi=>List.getElem?_set_ne (fun h=>by subst h;exact hi kv (mem_of eJ) _ _ hk)⟩
theorem t18 (L:List Int) (P:bH) (a:Nat) (ha:a<=500000) (hw:iE P<=900000) (ew:P.procs.length<=100000):∃P' a',a<=a'/\a'<=a+100/\iE P'<=iE P+200/\P'.procs.length=P.procs.length/\ZR L P a P' a':=by
 by_cases hp:P.procs=[]
 ·exact Cf L P a a (by omega) hw (.inl ⟨hp,rfl⟩)
 ·cases h2:decide (dz L a 2=0)with
  | false=>exact Cf L P a (a+1) (by omega) hw (.inr ⟨hp,h2,rfl⟩)
  | true=>exact JN L P a ha hw ew hp h2
def jR:List Hd:=[(⟨#[102]⟩,[⟨#[113]⟩,⟨#[114]⟩]),(⟨#[103]⟩,[⟨#[113]⟩,⟨#[114]⟩,⟨#[116]⟩]),(⟨#[104]⟩,[⟨#[113]⟩,⟨#[114]⟩])]
def y0 (L:List Int) (a:Nat):Nat->List Hd
 | 0=> []
 | j+1=>y0 L a j++(if decide (dz L (a+j) 2=0)=true then[jR.getD j (em,[])]else[])
theorem w8 (L:List Int) (a:Nat):∀j,(y0 L a j).length<=j
 | 0=>Nat.le_refl _
 | j+1=>by
  have:=w8 L a j;simp only[y0,List.length_append];split<;>simp<;>omega
theorem Cg (L:List Int) (a:Nat):∀j,j<=3->∀h∈y0 L a j,2<=h.2.length/\h.2.length<=3
 | 0,_,h,hm=>by simp[y0]at hm
 | j+1,hj,h,hm=>by
  simp only[y0,List.mem_append]at hm;rcases hm with hm | hm
  ·exact Cg L a j (by omega) h hm
  ·split at hm
   ·have:j=0\/j=1\/j=2:=by omega
    rcases this with rfl | rfl | rfl<;>(simp[jR]at hm;subst hm;simp)
   ·simp at hm
def Z2:ak:=.row [.agg [.ag,.ag]]
theorem Tm (L:List Int) (a:Nat) (ha:a<=1000) {ca N:Nat} {T:Nat->List ak} (hT:MS L ca N T) (e:Env) (m:Nat) (k:fW) (e0:e 0=.ptr ca 0 0) (e2:e 2=.ptr N 0 0) (e3:e 3=.ptr (N+1) 0 0) (e4:e 4=.ag)
 (Lq:e 16=.fs (jR.map dH)) (Lr:e 17=.int .i64 3) (Ls:e 18=.int .i64 0)
 (hk:∀p e' kv J,m<=p->e' 0=.ptr ca 0 0->e' 2=.ptr N 0 0->e' 3=.ptr (N+1) 0 0->e' 4=kv->OV (T (a+3)++([Z2,Z2]++J)) kv ((y0 L a 3).map dH)->(∀i,i<N+2->a7 kv i)->F Tryz.prog (p+3) (.app k (.exit 0) e' (T (a+3)++([Z2,Z2]++J)))):
 F Tryz.prog (m+200) (.code (.loop yS) e (T a++ [Z2,Z2]) k):=by
 refine aL (fun q e H=>∃j kv J,q=3 - j/\j<=3/\e 0=.ptr ca 0 0/\e 2=.ptr N 0 0/\e 3=.ptr (N+1) 0 0/\e 4=kv/\e 16=.fs (jR.map dH)/\e 17=.int .i64 3/\e 18=.int .i64 (j:Nat)/\
  H=T (a+j)++([Z2,Z2]++J)/\OV H kv ((y0 L a j).map dH)/\∀i,i<N+2->a7 kv i) 3 ⟨0,.ag,[],rfl,by omega,e0,e2,e3,e4,Lq,Lr,Ls,rfl,.inl ⟨rfl,rfl⟩,(fun i _ a b h=>by cases h)⟩ ?_
 rintro q e H ⟨j,kv,J,rfl,hj,e0,e2,e3,e4,Lq,Lr,Ls,rfl,bm,fI⟩;by_cases Ds:j=3
 ·subst Ds;have j6:¬(((3:Nat):Int)<3):=by omega
  simp -implicitDefEqProofs only[yS,e0,e2,e3,e4,Lq,Lr,Ls,j6,go_sem];exact hk _ _ kv J (by omega) (by simp[az,e0]) (by simp[az,e2]) (by simp[az,e3]) (by simp[az,e4]) bm fI
 ·have ct:((j:Int)<3):=by omega
  have fS:IntKind.i64.wrap ((j:Int)+1)=((j+1:Nat):Int):=bG (by omega);have gj:iD (j:Int) jR.length=True:=by simp[iD,jR];omega
  obtain⟨nm,rs,hcj⟩:∃nm rs,jR.getD j (em,[])=(nm,rs):=⟨_,_,rfl⟩;have hg:(jR.map dH).getD j .any=.agg [.str nm,.fs (rs.map .str)]:=by
   have h3:j<jR.length:=by simp[jR];omega
   have:(jR.map dH).getD j .any=dH (jR.getD j (em,[])):=by simp[List.getD,h3]
   rw[this,hcj];rfl
  have f1:=t14 L (a+j) 2 (by omega);have ba:=bm.cS;simp only[V.one]at ba;have cP:=bm.one;obtain⟨JJ,ZU⟩:∃JJ,JJ=[Z2,Z2]++J:=⟨_,rfl⟩;rw[<-ZU]at bm⊢;cases hb:decide (dz L (a+j) 2=0)with
  | false=>
   rw[hb]at f1;have hH:y0 L a (j+1)=y0 L a j:=by simp[y0,hb]
   simp -implicitDefEqProofs only[yS,e0,e2,e3,e4,Lq,Lr,Ls,ct,gj,hg,hT.tok.len,hT.tok.bW,hT.tok.bT,hT.tok.aZ,hT.tok.aW,hT.tok.get,hT.tok.set,go_sem];repeat' (first | ((first | (with_reducible refine bR ((f1.at hT _)) ?_) | (with_reducible refine aD ?_));simp -implicitDefEqProofs only[e0,e2,e3,e4,Lq,Lr,Ls,ct,gj,hg,fS,hT.tok.len,hT.tok.bW,hT.tok.bT,hT.tok.aZ,hT.tok.aW,hT.tok.get,hT.tok.set,go_sem]) | (with_reducible refine aA.mk ?_ ?_) | (with_reducible refine And.intro ?_ ?_) | ((with_reducible refine bz ?_);simp -implicitDefEqProofs only[EL,hT.tok.len,hT.tok.bW,hT.tok.bT,hT.tok.aZ,hT.tok.aW,hT.tok.get,push_cast,go_sem_proc]) | intro _)
   have bJ:=(bm.tail (hT.tok.len _) (fun i hi=>fI i (by omega)) (hT.tok.len (a+(j+1)))).app [ak.row [V.agg [V.str nm,V.fs (List.map V.str rs)]]];refine⟨3 - (j+1),by omega,j+1,kv,J++ [ak.row [V.agg [V.str nm,V.fs (List.map V.str rs)]]],rfl,by omega,rfl,rfl,?_,?_,fI⟩
   ·rw[ZU];simp
   ·rw[hH];simpa using bJ
  | true=>
   rw[hb]at f1;have hH:y0 L a (j+1)=y0 L a j++ [(nm,rs)]:=by
    show y0 L a j++(if decide (dz L (a+j) 2=0)=true then[jR.getD j (em,[])]else[])=_;rw[hb,hcj];rfl
   simp -implicitDefEqProofs only[yS,e0,e2,e3,e4,Lq,Lr,Ls,ct,gj,hg,hT.tok.len,hT.tok.bW,hT.tok.bT,hT.tok.aZ,hT.tok.aW,hT.tok.get,hT.tok.set,ba,cP,go_sem];repeat' (first | ((first | (with_reducible refine bR ((f1.at hT _)) ?_) | (with_reducible refine aD ?_));simp -implicitDefEqProofs only[e0,e2,e3,e4,Lq,Lr,Ls,ct,gj,hg,fS,hT.tok.len,hT.tok.bW,hT.tok.bT,hT.tok.aZ,hT.tok.aW,hT.tok.get,hT.tok.set,ba,cP,go_sem]) | (with_reducible refine aA.mk ?_ ?_) | (with_reducible refine And.intro ?_ ?_) | ((with_reducible refine bz ?_);simp -implicitDefEqProofs only[EL,hT.tok.len,hT.tok.bW,hT.tok.bT,hT.tok.aZ,hT.tok.aW,hT.tok.get,push_cast,go_sem_proc]) | intro _)
   have bJ:=(bm.tail (hT.tok.len _) (fun i hi=>fI i (by omega)) (hT.tok.len (a+(j+1)))).app [ak.row [V.agg [V.str nm,V.fs (List.map V.str rs)]]];subst ZU;rw[show([Z2,Z2]++J)++ [ak.row [V.agg [V.str nm,V.fs (List.map V.str rs)]]]=[Z2,Z2]++(J++ [ak.row [V.agg [V.str nm,V.fs (List.map V.str rs)]]]) from by simp];refine pP hT.tok (by simpa using bJ) fI (fun i o l h=>by cases h) (cA dH 2 (fun _=>rfl) _) (by have:=w8 L a j;simp;omega) ?_;intro bN J' bo fG;simp -implicitDefEqProofs only[e0,e2,e3,e4,Lq,Lr,Ls,fS,go_sem];refine⟨3 - (j+1),by omega,j+1,bN,J',rfl,by omega,rfl,rfl,rfl,?_,fG⟩;rw[hH];simpa[dH]using bo
end Go.Proofs.YtdgoeblpcnjlbaaGreatDoor.Av

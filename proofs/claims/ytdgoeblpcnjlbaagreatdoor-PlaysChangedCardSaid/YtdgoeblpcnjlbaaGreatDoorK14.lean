/- Proved: for every list of numbers the law PlaysChanged answers true and leaves its argument as it was (the tied card); no condition beyond the row's own. Text 14 of 17. -/
import Derived.Test.YtdgoeblpcnjlbaaGreatDoorK13
set_option linter.all false
set_option maxRecDepth 100000
set_option maxHeartbeats 64000000
namespace Go.Proofs.YtdgoeblpcnjlbaaGreatDoor.Av
open Go.RowKit List
def Xp (S:List Int):ak:=.mp (S.map (.int .i64)) (bF S)
def zT (i:Nat):List V:=(List.range i).map fun j=> .map (j+2)
theorem k8 (i:Nat):(zT i).length=i:=by simp[zT]
theorem xq {n i:Nat} (h:i<n):(zT n).getD i .any=.map (i+2):=by simp[zT,getD_eq_getElem?_getD,h]
theorem Kt (i m:Nat):(zT i++List.replicate (m+1) V.cG).set i (.map (i+2))=zT (i+1)++List.replicate m V.cG:=by
 rw[replicate_succ,set_append_right _ _ (by simp[k8])];simp[k8,zT,range_succ]
structure LM (b0:ak) (n:Nat) (H:List ak) (A:List (List Int)):Prop where
 h0:H[0]? =some b0
 h1:H[1]? =some (.row (zT n))
 hA:∀(j:Nat) S,A[j]? =some S->H[j+2]? =some (Xp S)
 len:A.length=n
theorem LM.app {b0:ak} {n:Nat} {H:List ak} {A:List (List Int)} (h:LM b0 n H A) (J:List ak):LM b0 n (H++J) A where
 h0:=by rw[getElem?_append_left (List.getElem?_eq_some_iff.1 h.h0).1];exact h.h0
 h1:=by rw[getElem?_append_left (List.getElem?_eq_some_iff.1 h.h1).1];exact h.h1
 hA j S hj:=by
  have:=h.hA j S hj;rw[getElem?_append_left (List.getElem?_eq_some_iff.1 this).1];exact this
 len:=h.len
theorem LM.get {b0:ak} {n:Nat} {H:List ak} {A:List (List Int)} (h:LM b0 n H A) {i:Nat} (hi:i<n):H[i+2]? =some (.mp ((A.getD i []).map (.int .i64)) (bF (A.getD i []))):=by
 have hA:A[i]? =some (A[i]'(by rw[h.len];exact hi)):=getElem?_eq_getElem _;rw[h.hA i _ hA,getD_eq_getElem?_getD,hA];rfl
theorem LM.put {b0:ak} {n:Nat} {H:List ak} {A:List (List Int)} (h:LM b0 n H A) (i:Nat) (j:Int) (hi:i<n):
 LM b0 n (H.set (i+2) (.mp ((fc (A.getD i []) j).map (.int .i64)) (bF (fc (A.getD i []) j)))) (q9 A i j) where
 h0:=by rw[getElem?_set_ne (by omega)];exact h.h0
 h1:=by rw[getElem?_set_ne (by omega)];exact h.h1
 hA k S hk:=by
  have hl:=(List.getElem?_eq_some_iff.1 (h.get hi)).1;rw[q9,getElem?_set]at hk;by_cases sY:i=k
  ·subst sY;rw[if_pos rfl,if_pos (by rw[h.len];exact hi)]at hk;injection hk with hk
   subst hk;rw[getElem?_set_self hl];rfl
  ·rw[if_neg sY]at hk;rw[getElem?_set_ne (by omega)];exact h.hA k S hk
 len:=by rw[um];exact h.len
theorem LM.nS {b0:ak} {H:List ak} {A:List (List Int)} (h:LM b0 A.length H A) (k:Nat):fz H (k+4) (.ms 1 0 A.length)=some (.fs (A.map dE)):=by
 have hg:eI (fz H (k+3)) (zT A.length)=some (A.map dE):=by
  have:∀(B:List (List Int)) (o:Nat),(∀(j:Nat) S,B[j]? =some S->H[j+o+2]? =some (Xp S))->eI (fz H (k+3)) ((List.range' o B.length).map fun j=>V.map (j+2))=some (B.map dE):=by
   intro B;induction B with
   | nil=>intro o _;simp[cN]
   | cons S B ih=>
    intro o hB;have h1:=hB 0 S rfl;have h2:=ih (o+1) (fun j S hj=>by have:=hB (j+1) S hj;rw[show j+1+o+2=j+(o+1)+2 from by omega]at this;exact this);rw[Nat.zero_add]at h1;rw[length_cons,range'_succ,map_cons,b7,h2,mr,h1,Xp,mw,fA,kz];rfl
  have h3:=this A 0 (fun j S hj=>by simpa using h.hA j S hj);rw[zT,range_eq_range'];exact h3
 rw[iu,h.h1,ef,if_pos (by simp[k8]),drop_zero,take_of_length_le (by simp[k8]),hg];rfl
theorem Ws.init (P:bH):Ws P (List.replicate P.procs.length []) []:=by
 refine⟨by simp,fun S hS=> ?_,fun i j h=> ?_,by simp⟩
 ·rw[eq_of_mem_replicate hS];exact eR.nil _
 ·obtain⟨_,h⟩:=h;rw[getD_eq_getElem?_getD,getElem?_replicate]at h;split at h<;>simp at h
def LW (X:List Pr):List mV->List (List Int)->List (List Int)
 | [],A=>A
 | (.mk k r t v lb e a b p ps,pr,la)::l,A=>LW X l (if 0<=pr/\k=5 then q9 A pr.toNat (bq X p)else A)
def jF (k i:Nat):Nat->Nat->List (List Int)->List (List Int)
 | 0,_,A=>A
 | m+1,j,A=>jF k i m (j+1) (if(k:Int)∈A.getD i []/\(j:Int)∈A.getD k []then q9 A i j else A)
def iF (n k:Nat):Nat->Nat->List (List Int)->List (List Int)
 | 0,_,A=>A
 | m+1,i,A=>iF n k m (i+1) (jF k i n 0 A)
def kF (n:Nat):Nat->Nat->List (List Int)->List (List Int)
 | 0,_,A=>A
 | m+1,k,A=>kF n m (k+1) (iF n k n 0 A)
def LY (P:bH):List (List Int):=kF P.procs.length P.procs.length 0 (LW P.procs (cw P) (List.replicate P.procs.length []))
theorem G7 {P:bH} (cR:lK P=0):∀(post pre:List mV) (A:List (List Int)),cw P=pre++post->Ws P A pre->Ws P (LW P.procs post A) (cw P)
 | [],pre,A,h,hW=>by rw[LW,h,append_nil];exact hW
 | (.mk k r t v lb e a b p ps,pr,la)::post,pre,A,h,hW=>by
   rw[LW];refine G7 cR post (pre++ [(.mk k r t v lb e a b p ps,pr,la)]) _ (by rw[h];simp) ?_;have Ax:(St.mk k r t v lb e a b p ps,pr,la)∈cw P:=by rw[h];simp
   have hw:=Xm cR _ Ax;split
   ·rename_i hc;obtain⟨Cu,rfl⟩:=hc;obtain⟨i,rfl⟩:∃i:Nat,pr=i:=⟨pr.toNat,by omega⟩;obtain⟨q,hq,_⟩:=hw.au i rfl;have dF:=(List.getElem?_eq_some_iff.1 hq).1;have u7:=(hw.call rfl).1;exact hW.put Ax (i:=i) rfl dF (j:=bq P.procs p) ⟨by simp[kI],u7⟩ ⟨u7,by have:=fO u7;omega⟩
   ·rename_i hc;refine hW.skip ?_;rintro⟨h0,j,hk⟩;simp only[LV,kI]at hk;split at hk
    ·rename_i h5;exact hc ⟨h0,h5⟩
    ·omega
theorem LZ {X:List Pr} {k i:Nat} (hi:i<X.length) (hk:k<X.length):∀(m j:Nat) (A:List (List Int)),j+m=X.length->Wb X A k i j->Wb X (jF k i m j A) k i X.length
 | 0,j,A,h,hW=>by rw[jF,<-h];exact hW
 | m+1,j,A,h,hW=>by
  rw[jF];refine LZ hi hk m (j+1) _ (by omega) ?_;split
  ·rename_i hc;exact hW.put hi (by omega) ⟨⟨by omega,by simpa using hc.1⟩,by omega,by simpa using hc.2⟩
  ·rename_i hc;exact hW.skip hi hk (fun h=>hc ⟨by simpa using h.1.2,by simpa using h.2.2⟩)
theorem L2 {X:List Pr} {k:Nat} (hk:k<X.length):∀(m i:Nat) (A:List (List Int)),i+m=X.length->Wb X A k i 0->Wb X (iF X.length k m i A) k X.length 0
 | 0,i,A,h,hW=>by rw[iF];rw[show i=X.length by omega]at hW;exact hW
 | m+1,i,A,h,hW=>by
  rw[iF];exact L2 hk m (i+1) _ (by omega) (LZ (by omega) hk _ 0 A (by omega) hW).next
theorem L3 {X:List Pr}:∀(m k:Nat) (A:List (List Int)),k+m=X.length->Wa X A (k:Nat)->Wa X (kF X.length m k A) X.length
 | 0,k,A,h,hW=>by rw[kF];rw[show k=X.length by omega]at hW;exact hW
 | m+1,k,A,h,hW=>by
  rw[kF];exact L3 m (k+1) _ (by omega) (L2 (by omega) _ 0 A (by omega) (Wb.start hW)).fin
theorem Px {P:bH} (cR:lK P=0):p6 P.procs (LY P):=
 (L3 _ 0 _ (by omega) (G7 cR (cw P) [] _ rfl (Ws.init P)).fin).fin
theorem t250 (P:bH) (hc:total P<=1000000) (cR:lK P=0):af Tryz.prog 78 [aP P] (·=.fs ((LY P).map dE)):=by
 have jP:=t25 P hc;have Iq:=wU P;have hlen50:=(mD (y8 cR)).2.2;have gO:=fun p=>t30 P p
 simp only[aP]at jP gO⊢;generalize Ec:ak.row [.agg [.fs (P.procs.map aF),.fs (P.main.map encS)]]=b0 at*;refine af.intro c250 900 (by simp) 20 ?_;simp -implicitDefEqProofs only[U1,go_sem];intro _;refine⟨by omega,?_⟩;intro j6;refine aL (fun m e H=>∃i,i+m=P.procs.length/\e 1=.ptr 0 0 0/\e 3=.ms 1 0 P.procs.length/\e 14=.ms 1 0 P.procs.length/\e 15=.int .i64 P.procs.length/\e 16=.int .i64 i/\
  H=b0:: .row (zT i++List.replicate m .cG)::List.replicate i (.mp [] [])) P.procs.length
  ⟨0,by simp,by simp[az],by simp[az],by simp[az],by simp[az],by simp[az],by simp[zT,Ec]⟩ ?_
 rintro m e H ⟨i,QU,h1,h3,dG,gy,cZ,rfl⟩;cases m with
 | succ m=>
  have hi:i<P.procs.length:=by omega
  have ct:decide ((i:Int)<(P.procs.length:Int))=true:=by simp;omega
  have zg:=bG (k:=i) (by omega);have iI:=Kt i m;have Da:(zT i).length=i:=k8 i;have vj:(zT i++List.replicate (m+1) V.cG).getD i .any=.cG:=by
   rw[getD_eq_getElem?_getD,getElem?_append_right (by omega)];simp[Da]
  simp -implicitDefEqProofs only[h1,h3,dG,gy,cZ,ct,hi,zg,iI,Da,vj,aw,length_append,length_replicate,go_sem];refine⟨by omega,by omega,m,by omega,i+1,by omega,rfl,?_⟩;rw[replicate_succ']
 | zero=>
  have hi:i=P.procs.length:=by omega
  subst hi;have oW:LM b0 P.procs.length (b0:: .row (zT P.procs.length++List.replicate 0 .cG)::List.replicate P.procs.length (.mp [] [])) (List.replicate P.procs.length []):=by
   refine⟨rfl,by simp,fun j S hj=> ?_,by simp⟩;have oN:=(List.getElem?_eq_some_iff.1 hj).1;simp at oN;simp only[getElem?_replicate,oN,if_true,Option.some.injEq]at hj;subst hj;simp[getElem?_replicate,oN,Xp,bF]
  generalize (b0::ak.row (zT P.procs.length++List.replicate 0 V.cG)::List.replicate P.procs.length (ak.mp [] []))=H at*;have mq:=oW.h0;rw[<-Ec]at mq;have vI:=oW.h1;simp -implicitDefEqProofs only[h1,h3,dG,gy,cZ,Int.lt_irrefl,decide_false,mq,go_sem];repeat' (first | ((first | ((with_reducible refine bj jP ?_ ?_);(·simp[ae,al,cm])) | ((with_reducible apply cj);(·simp -implicitDefEqProofs only[map_cons,map_nil,push_cast,go_sem_proc]<;>rfl);(with_reducible exact jP);(·rfl)) | (with_reducible refine aD ?_));simp -implicitDefEqProofs only[h1,h3,dG,gy,cZ,mq,go_sem]) | (with_reducible refine aA.mk ?_ ?_) | (with_reducible refine And.intro ?_ ?_) | ((with_reducible refine bz ?_);simp -implicitDefEqProofs only[Kj,push_cast,go_sem_proc]) | intro _)
  rename_i Cy;refine aL (fun m e H=>∃pre post A,cw P=pre++post/\m=post.length/\LW P.procs post A=LW P.procs (cw P) (List.replicate P.procs.length [])/\LM b0 P.procs.length H A/\e 1=.ptr 0 0 0/\e 3=.ms 1 0 P.procs.length/\
   e 25=.fs ((cw P).map dm)/\e 26=.int .i64 (cw P).length/\e 27=.int .i64 pre.length) (cw P).length
   ⟨[],cw P,_,rfl,rfl,rfl,oW,by simp[az, *],by simp[az, *],by simp[az, *],by simp[az, *],by simp[az, *]⟩ ?_
  clear oW mq vI h1 h3 dG gy cZ e H;rintro m e H ⟨pre,post,A,ao,rfl,hW,oW,h1,h3,jP,gu,j0⟩;cases post with
  | nil=>
   have ev:pre=cw P:=by rw[ao];simp
   subst ev;have QV:kF P.procs.length P.procs.length 0 A=LY P:=by rw[LY,<-hW];rfl
   clear hW;simp -implicitDefEqProofs only[h1,h3,jP,gu,j0,aI ao,go_sem];intro _;have kE:=k8 P.procs.length;refine aL (fun m e H=>∃k A,k+m=P.procs.length/\kF P.procs.length m k A=LY P/\LM b0 P.procs.length H A/\e 3=.ms 1 0 P.procs.length/\e 52=.int .i64 P.procs.length/\e 53=.int .i64 k) P.procs.length
    ⟨0,A,by simp,QV,oW,by simp[az,h3],by simp[az],by simp[az]⟩ ?_
   clear oW h1 h3 jP gu j0 QV e H A;rintro m e H ⟨k,A,DW,QV,oW,h3,sI,A0⟩;cases m with
   | zero=>
    have hk:k=P.procs.length:=by omega
    subst hk;have Kr:=oW.len;have hz:=LM.nS (b0:=b0) (H:=H) (A:=A) (by rw[Kr];exact oW) 16;rw[Kr]at hz;simp -implicitDefEqProofs only[h3,sI,A0,Int.lt_irrefl,decide_false,go_sem];simp -implicitDefEqProofs only[Kj,h3,hz,push_cast,go_sem_proc];rw[<-QV];rfl
   | succ m=>
    have hk:k<P.procs.length:=by omega
    have ct:decide ((k:Int)<(P.procs.length:Int))=true:=by simp;omega
    have qx:=bG (k:=k) (by omega);simp -implicitDefEqProofs only[h3,sI,A0,ct,go_sem];intro _;refine aL (fun m' e H=>∃i A,i+m'=P.procs.length/\kF P.procs.length m (k+1) (iF P.procs.length k m' i A)=LY P/\LM b0 P.procs.length H A/\e 3=.ms 1 0 P.procs.length/\e 52=.int .i64 P.procs.length/\e 53=.int .i64 k/\
     e 7=.int .i64 k/\e 57=.int .i64 P.procs.length/\e 58=.int .i64 i) P.procs.length
     ⟨0,A,by simp,QV,oW,by simp[az,h3],by simp[az,sI],by simp[az,A0],by simp[az,A0],by simp[az],by simp[az]⟩ ?_
    clear oW h3 sI A0 QV ct e H A;rintro m2 e H ⟨i,A,QU,hW,oW,h3,sI,A0,h7,p8,oU⟩;cases m2 with
    | zero=>
     have hi:i=P.procs.length:=by omega
     subst hi;simp -implicitDefEqProofs only[h3,sI,A0,h7,p8,oU,Int.lt_irrefl,decide_false,qx,go_sem];exact⟨m,Nat.lt_succ_self _,k+1,A,by omega,hW,oW,rfl⟩
    | succ m2=>
     have hi:i<P.procs.length:=by omega
     have ct:decide ((i:Int)<(P.procs.length:Int))=true:=by simp;omega
     have hwi:=bG (k:=i) (by omega);simp -implicitDefEqProofs only[h3,sI,A0,h7,p8,oU,ct,go_sem];intro _;refine aL (fun m' e H=>∃j A,j+m'=P.procs.length/\kF P.procs.length m (k+1) (iF P.procs.length k m2 (i+1) (jF k i m' j A))=LY P/\LM b0 P.procs.length H A/\e 3=.ms 1 0 P.procs.length/\e 52=.int .i64 P.procs.length/\e 53=.int .i64 k/\
      e 7=.int .i64 k/\e 57=.int .i64 P.procs.length/\e 58=.int .i64 i/\e 8=.int .i64 i/\e 62=.int .i64 P.procs.length/\e 63=.int .i64 j) P.procs.length
      ⟨0,A,by simp,hW,oW,by simp[az,h3],by simp[az,sI],by simp[az,A0],by simp[az,h7],by simp[az,p8],by simp[az,oU],by simp[az,oU],by simp[az],by simp[az]⟩ ?_
     clear oW h3 sI A0 h7 p8 oU hW ct e H A;rintro m3 e H ⟨j,A,Ll,hW,oW,h3,sI,A0,h7,p8,oU,h8,nk,qq⟩;cases m3 with
     | zero=>
      have hj:j=P.procs.length:=by omega
      subst hj;simp -implicitDefEqProofs only[h3,sI,A0,h7,p8,oU,h8,nk,qq,Int.lt_irrefl,decide_false,hwi,go_sem];exact⟨m2,Nat.lt_succ_self _,i+1,A,by omega,hW,oW,rfl⟩
     | succ m3=>
      have hj:j<P.procs.length:=by omega
      have ct:decide ((j:Int)<(P.procs.length:Int))=true:=by simp;omega
      have hwj:=bG (k:=j) (by omega);have tN:=oW.h1;have gB:=oW.get hi;have hg3:=oW.get hk;have tQ:=xq hi;have zR:=xq hk;have AF:iD (i:Int) P.procs.length:=⟨by omega,by omega⟩;have QR:iD (k:Int) P.procs.length:=⟨by omega,by omega⟩;rw[jF]at hW;by_cases sY:(k:Int)∈A.getD i []
      ·by_cases rY:(j:Int)∈A.getD k []
       ·simp -implicitDefEqProofs only[h3,sI,A0,h7,p8,oU,h8,nk,qq,ct,hwj,tN,gB,hg3,tQ,zR,AF,QR,hi,hk,kE,aw,bL,b6,b8,b9,sY,rY,decide_true,go_sem];exact⟨Nat.le_refl _,Nat.le_refl _,Nat.le_refl _,m3,Nat.lt_succ_self _,j+1,q9 A i j,by omega,by rwa[if_pos (show(k:Int)∈A.getD i []/\(j:Int)∈A.getD k [] from⟨sY,rY⟩)]at hW,oW.put i j hi,rfl⟩
       ·simp -implicitDefEqProofs only[h3,sI,A0,h7,p8,oU,h8,nk,qq,ct,hwj,tN,gB,hg3,tQ,zR,AF,QR,hi,hk,kE,aw,bL,b6,b8,b9,sY,rY,decide_true,decide_false,go_sem];exact⟨Nat.le_refl _,Nat.le_refl _,m3,Nat.lt_succ_self _,j+1,A,by omega,by rwa[if_neg (show¬((k:Int)∈A.getD i []/\(j:Int)∈A.getD k []) from fun h=>rY h.2)]at hW,oW,rfl⟩
      ·simp -implicitDefEqProofs only[h3,sI,A0,h7,p8,oU,h8,nk,qq,ct,hwj,tN,gB,hg3,tQ,zR,AF,QR,hi,hk,kE,aw,bL,b6,b8,b9,sY,decide_false,go_sem];exact⟨Nat.le_refl _,m3,Nat.lt_succ_self _,j+1,A,by omega,by rwa[if_neg (show¬((k:Int)∈A.getD i []/\(j:Int)∈A.getD k []) from fun h=>sY h.1)]at hW,oW,rfl⟩
  | cons y post=>
   have hg:=aO dm ao;have Ax:y∈cw P:=by rw[ao];simp
   have hw:=Xm cR y Ax;have cH:=hw.call;have dx:=tL P y Ax;have mq:∀J,(H++J)[0]? =_:=fun J=>(oW.app J).h0
   rw[<-Ec]at mq;have vI:∀J,(H++J)[1]? =_:=fun J=>(oW.app J).h1
   have Xq:∀J (i:Nat),i<P.procs.length->(H++J)[i+2]? =_:=fun J i hi=>(oW.app J).get hi
   obtain⟨⟨k,r,t,v,lb,⟨ek,en,es,aR⟩,a,b,p,ps⟩,pr,la⟩:=y;rw[iw]at hg;rw[LW]at hW;have gO:=gO p;have kE:=k8 P.procs.length;by_cases Cu:0<=pr
   ·obtain⟨i,rfl⟩:∃i:Nat,pr=i:=⟨pr.toNat,by omega⟩;obtain⟨q,hq,_⟩:=hw.au i rfl;have dF:=(List.getElem?_eq_some_iff.1 hq).1;have Kq:=xq dF;have Xq:=fun J=>Xq J i dF
    have Vw:iD (i:Int) P.procs.length:=⟨by omega,by omega⟩;have nJ:decide ((0:Int)<=(i:Int))=true:=by simp
    have vp:decide ((i:Int)≥(0:Int))=true:=by simp
    by_cases h5:k=5
    ·subst h5;have u7:=(cH rfl).1;simp -implicitDefEqProofs only[h1,h3,jP,gu,j0,an ao,aa ao Cy,hg,mq,vI,Xq,Kq,Vw,nJ,vp,kE,dF,Nat.le_refl,Int.reduceEq,decide_true,aw,go_sem];repeat' (first | ((first | ((with_reducible refine bj gO ?_ ?_);(·simp[ae,al,cm])) | ((with_reducible apply cj);(·simp -implicitDefEqProofs only[map_cons,map_nil,push_cast,go_sem_proc]<;>rfl);(with_reducible exact gO);(·rfl)) | (with_reducible refine aD ?_));simp -implicitDefEqProofs only[h1,h3,jP,gu,j0,an ao,aa ao Cy,hg,mq,vI,Xq,Kq,Vw,nJ,vp,kE,dF,Int.reduceEq,decide_true,aw,bL,b8,b9,go_sem]) | (with_reducible refine aA.mk ?_ ?_) | (with_reducible refine And.intro ?_ ?_) | ((with_reducible refine bz ?_);simp -implicitDefEqProofs only[Kj,push_cast,go_sem_proc]) | intro _)
     ·exact Nat.le_refl _
     ·have hLM2:=(oW.app [ak.row [.agg [.int .i64 5,.str r,.str t,.str v,.str lb,.int .i64 ek,.int .i64 en,.str es,.fs (aR.map bu),.fs (a.map encS),.fs (b.map encS),.str p,.fs (ps.map .str),.int .i64 i,.bool la]]]).put i (bq P.procs p) dF;exact⟨_,Nat.lt_succ_self _,pre++ [_],post,q9 A i (bq P.procs p),by simp[ao];rfl,rfl,by rwa[if_pos (show(0:Int)<=(i:Int)/\(5:Int)=5 from⟨by omega,rfl⟩),Int.toNat_natCast]at hW,hLM2,by simp⟩
    ·simp -implicitDefEqProofs only[h1,h3,jP,gu,j0,an ao,aa ao Cy,hg,nJ,vp,h5,decide_false,go_sem];refine⟨_,Nat.lt_succ_self _,pre++ [_],post,A,by simp[ao];rfl,rfl,by rwa[if_neg (show¬((0:Int)<=(i:Int)/\k=5) from fun h=>h5 h.2)]at hW,oW.app _,by simp⟩
   ·have nJ:decide ((0:Int)<=pr)=false:=by simp;omega
    have vp:decide (pr≥(0:Int))=false:=by simp;omega
    simp -implicitDefEqProofs only[h1,h3,jP,gu,j0,an ao,aa ao Cy,hg,nJ,vp,go_sem];refine⟨_,Nat.lt_succ_self _,pre++ [_],post,A,by simp[ao];rfl,rfl,by rwa[if_neg (show¬((0:Int)<=pr/\k=5) from fun h=>Cu h.1)]at hW,oW.app _,by simp⟩
def Cc (L:Nat->Nat->Bool) (a b:Nat):Bool:=L a b && L b a
theorem csy {L:Nat->Nat->Bool} {a b:Nat} (h:Cc L a b=true):Cc L b a=true:=by
 simp only[Cc,Bool.and_eq_true]at h⊢;exact⟨h.2,h.1⟩
def QW (L:Nat->Nat->Bool):Prop:=∀a b c,L a b=true->L b c=true->L a c=true
theorem Cc.trans {L:Nat->Nat->Bool} (hL:QW L) {a b c:Nat} (h:Cc L a b=true) (h2:Cc L b c=true):Cc L a c=true:=by
 simp only[Cc,Bool.and_eq_true]at h h2⊢;exact⟨hL _ _ _ h.1 h2.1,hL _ _ _ h2.2 h.2⟩
theorem Cc.Cz {L:Nat->Nat->Bool} (hL:QW L) {a b:Nat} (h:Cc L a b=true):L b b=true:=by
 simp only[Cc,Bool.and_eq_true]at h;exact hL _ _ _ h.2 h.1
def Iz (L:Nat->Nat->Bool) (i:Nat):Bool:=L i i && (List.range i).all fun k=> !Cc L k i
theorem CA {L:Nat->Nat->Bool} {i:Nat}:Iz L i=true↔L i i=true/\∀k,k<i->Cc L k i=false:=by
 simp[Iz]
def gV (L:Nat->Nat->Bool) (i:Nat):List Nat:=(List.range i).filter (Iz L)
theorem wg (L:Nat->Nat->Bool) (i:Nat):gV L (i+1)=gV L i++if Iz L i then[i]else[]:=by
 rw[gV,range_succ,filter_append,gV];cases h:Iz L i<;>simp[h]
theorem G8 {L:Nat->Nat->Bool} {i k:Nat}:k∈gV L i↔k<i/\Iz L k=true:=by simp[gV]
def rO (L:Nat->Nat->Bool) (i k:Nat):List Nat:=(List.range k).filter fun j=>decide (i<=j) && Cc L i j
theorem G9 (L:Nat->Nat->Bool) {i k:Nat} (h:i<=k):rO L i (k+1)=rO L i k++if Cc L i k then[k]else[]:=by
 rw[rO,range_succ,filter_append,rO];cases hc:Cc L i k<;>simp[hc,h]
theorem zj (L:Nat->Nat->Bool) (i:Nat):rO L i i=[]:=by
 rw[rO,filter_eq_nil_iff];intro j hj;simp at hj;simp;omega
def ra (F:List Int) (c:Int) (ks:List Nat):List Int:=ks.foldl (fun F k=>F.set k c) F
theorem uq (c:Int):∀(ks:List Nat) (F:List Int),(ra F c ks).length=F.length
 | [],F=>rfl
 | k::ks,F=>by
  have:=uq c ks (F.set k c);simp only[ra,foldl_cons]at this⊢;rw[this,length_set]
theorem Ed (F:List Int) (c:Int) (ks:List Nat) (k:Nat):ra F c (ks++ [k])=(ra F c ks).set k c:=by simp[ra]
theorem zk (c:Int):∀(ks:List Nat) (F:List Int) (j:Nat),j<F.length->(ra F c ks)[j]? =if j∈ks then some c else F[j]?
 | [],F,j,_=>by simp[ra]
 | k::ks,F,j,hj=>by
  have:=zk c ks (F.set k c) j (by simpa using hj);simp only[ra,foldl_cons]at this⊢;rw[this,getElem?_set];by_cases h1:j∈ks
  ·simp[h1]
  ·by_cases h2:k=j
   ·subst h2;simp[h1,hj]
   ·simp[h1,h2,Ne.symm h2]
structure RI (L:Nat->Nat->Bool) (n i:Nat) (F:List Int):Prop where
 len:F.length=n
 cls:∀k,k<n->(F[k]? =some (-1)/\∀j,j<i->Cc L j k=false)\/∃(r j:Nat),F[k]? =some (r:Int)/\(gV L i)[r]? =some j/\Cc L j k=true
theorem RI.start (L:Nat->Nat->Bool) (n:Nat):RI L n 0 (List.replicate n (-1)):=⟨by simp,fun k hk=> .inl ⟨by simp[hk],by omega⟩⟩
theorem RI.skip {L:Nat->Nat->Bool} (hL:QW L) {n i:Nat} {F:List Int} (h:RI L n i F) (hi:i<n) (hs:0<=F.getD i 0\/L i i=false):RI L n (i+1) F/\gV L (i+1)=gV L i:=by
 have hn:∀k,Cc L i k=true->∃j,j<i/\Cc L j k=true:=fun k hk=>by
  have Ha:=Cc.Cz hL (csy hk);rcases hs with hs | hs
  ·rcases h.cls i hi with⟨h1,_⟩ | ⟨r,j,h1,h2,h3⟩
   ·rw[getD_eq_getElem?_getD,h1]at hs;simp at hs
   ·exact⟨j,(G8.1 (mem_of_getElem? h2)).1,Cc.trans hL h3 hk⟩
  ·rw[hs]at Ha;cases Ha
 have hl:Iz L i=false:=by
  cases hc:Iz L i with
  | false=>rfl
  | true=>
   obtain⟨h1,h2⟩:=CA.1 hc;obtain⟨j,h3,h4⟩:=hn i (by simp[Cc,h1]);rw[h2 j h3]at h4;cases h4
 have he:gV L (i+1)=gV L i:=by rw[wg,hl];simp
 refine⟨⟨h.len,fun k hk=> ?_⟩,he⟩;rw[he];rcases h.cls k hk with⟨h1,h2⟩ | h1
 ·refine .inl ⟨h1,fun j hj=> ?_⟩;by_cases Ij:j<i
  ·exact h2 j Ij
  ·have:j=i:=by omega
   subst this;cases hc:Cc L j k with
   | false=>rfl
   | true=>
    obtain⟨j2,h3,h4⟩:=hn k hc;rw[h2 j2 h3]at h4;cases h4
 ·exact .inr h1
theorem RI.put {L:Nat->Nat->Bool} (hL:QW L) {n i:Nat} {F:List Int} (h:RI L n i F) (hi:i<n) (hs:F.getD i 0<0) (Ha:L i i=true):
 RI L n (i+1) (ra F ((gV L i).length:Int) (rO L i n))/\gV L (i+1)=gV L i++ [i]:=by
 have h0:∀j,j<i->Cc L j i=false:=by
  rcases h.cls i hi with⟨h1,h2⟩ | ⟨r,j,h1,_⟩
  ·exact h2
  ·rw[getD_eq_getElem?_getD,h1]at hs;simp at hs;omega
 have hl:Iz L i=true:=CA.2 ⟨Ha,h0⟩;have he:gV L (i+1)=gV L i++ [i]:=by rw[wg,hl];simp
 refine⟨⟨by rw[uq,h.len],fun k hk=> ?_⟩,he⟩;rw[he,zk _ _ _ _ (by rw[h.len];exact hk)];have hm:k∈rO L i n↔Cc L i k=true:=by
  simp only[rO,mem_filter,mem_range,Bool.and_eq_true,decide_eq_true_eq];refine⟨fun h=>h.2.2,fun hc=>⟨hk,?_,hc⟩⟩;by_cases sY:i<=k
  ·exact sY
  ·have:=h0 k (by omega);rw[(csy hc)]at this;cases this
 by_cases hc:Cc L i k=true
 ·rw[if_pos (hm.2 hc)];exact .inr ⟨(gV L i).length,i,rfl,by simp,hc⟩
 ·rw[if_neg (fun h=>hc (hm.1 h))];rcases h.cls k hk with⟨h1,h2⟩ | ⟨r,j,h1,h2,h3⟩
  ·refine .inl ⟨h1,fun j hj=> ?_⟩;by_cases Ij:j<i
   ·exact h2 j Ij
   ·have:j=i:=by omega
    subst this;simpa using hc
  ·exact .inr ⟨r,j,h1,by rw[getElem?_append_left (List.getElem?_eq_some_iff.1 h2).1];exact h2,h3⟩
theorem RI.fin {L:Nat->Nat->Bool} (hL:QW L) {n:Nat} {F:List Int} (h:RI L n n F) {k:Nat} (hk:k<n): -1<=F.getD k 0/\(0<=F.getD k 0↔L k k=true):=by
 rcases h.cls k hk with⟨h1,h2⟩ | ⟨r,j,h1,h2,h3⟩
 ·have:=h2 k hk;simp only[Cc,Bool.and_self]at this;rw[getD_eq_getElem?_getD,h1,this];simp
 ·rw[getD_eq_getElem?_getD,h1];have:=Cc.Cz hL h3;simp[this];try omega
noncomputable def LX (X:List Pr) (i j:Nat):Bool:= @decide (LT X i j) (Classical.propDecidable _)
theorem oD {X:List Pr} {i j:Nat}:LX X i j=true↔LT X i j:=by simp[LX]
theorem L4 (X:List Pr):QW (LX X):=fun a b c h1 h2=>oD.2 ((oD.1 h1).trans (oD.1 h2))
theorem LT.src {X:List Pr} {i j:Int} (h:LT X i j):i.toNat<X.length:=by
 induction h with
 | one h=>
  rename_i j;refine Classical.byContradiction fun hn=> ?_
  have:X[i.toNat]? =none:=getElem?_eq_none (Nat.le_of_not_lt hn);rw[mE,aK,this]at h;simp[oV]at h
 | more _ _ ih=>exact ih
theorem p6.eq {X:List Pr} {A:List (List Int)} (h:p6 X A) (i k:Nat):decide ((k:Int)∈A.getD i [])=LX X i k:=by
 rw[Bool.eq_iff_iff,decide_eq_true_iff,oD,getD_eq_getElem?_getD];cases hA:A[i]? with
 | none=>
  simp only[Option.getD_none,not_mem_nil,false_iff];intro hl;have:=hl.src;have h2:=List.getElem?_eq_none_iff.1 hA;have h3:=h.len;omega
 | some S=>exact(h.set i S hA).2 k
noncomputable def oE (X:List Pr) (i:Nat):List (List Int):=(gV (LX X) i).map fun j=>(rO (LX X) j X.length).map fun(k:Nat)=>(k:Int)
theorem t241 (P:bH) (ew:P.procs.length<=1000000) (E:List Bool):af Tryz.prog 66 [.bc (fy P E)] (fun r=>∃F,r=.dJ [.fs ((oE P.procs P.procs.length).map encI),.fs (F.map (.int .i64))]/\RI (LX P.procs) P.procs.length P.procs.length F):=by
 have Vx:=t290 P ew E;have hL:=L4 P.procs;have gi:ae (eF P.procs P.procs (ai P.main))=true:=ee (eG _ _ _);simp only[fy,lE]at Vx⊢;refine af.intro c241 900 (by simp) 20 ?_;simp -implicitDefEqProofs only[UQ,go_sem];refine gJ (by simp[ae,al,gi,aq,ah,aY,br]) Vx ?_;rintro r ⟨A,rfl,hA⟩;have Kr:=hA.len;have ES:∀i:Nat,i<P.procs.length->(A.map dE).getD i .any=.db ((A.getD i []).map (.int .i64)) (bF (A.getD i [])):=fun i hi=>by
  have:A[i]? =some (A[i]'(by omega)):=getElem?_eq_getElem _;rw[getD_eq_getElem?_getD,getElem?_map,getD_eq_getElem?_getD,this];rfl
 have xY:(A.map dE).length=P.procs.length:=by rw[length_map,Kr]
 have L5:=fun i k=>hA.eq i k
 simp -implicitDefEqProofs only[Kr,xY,go_sem];intro hlen;refine⟨by omega,?_⟩;intro _;refine aL (fun m e H=>∃i,i+m=P.procs.length/\e 2=.ag/\e 3=.ms 0 0 P.procs.length/\e 4=.fs (A.map dE)/\e 15=.ms 0 0 P.procs.length/\e 16=.int .i64 P.procs.length/\e 17=.int .i64 i/\
  H=[.row (List.replicate i (V.int .i64 (-1))++List.replicate m (V.int .i64 0))]) P.procs.length
  ⟨0,by simp,by simp[az],by simp[az],by simp[az],by simp[az],by simp[az],by simp[az],by simp⟩ ?_
 rintro m e H ⟨i,QU,h2,h3,h4,gy,cZ,ea,rfl⟩;cases m with
 | succ m=>
  have hi:i<P.procs.length:=by omega
  have ct:decide ((i:Int)<(P.procs.length:Int))=true:=by simp;omega
  have zg:=bG (k:=i) (by omega);have iI:(List.replicate i (V.int .i64 (-1))++List.replicate (m+1) (V.int .i64 0)).set i (.int .i64 (-1))=List.replicate (i+1) (.int .i64 (-1))++List.replicate m (V.int .i64 0):=by
   rw[replicate_succ,set_append_right _ _ (by simp),replicate_succ'];simp
  have vj:(List.replicate i (V.int .i64 (-1))++List.replicate (m+1) (V.int .i64 0)).getD i .any=.int .i64 0:=by
   rw[getD_eq_getElem?_getD,getElem?_append_right (by simp)];simp
  simp -implicitDefEqProofs only[h2,h3,h4,gy,cZ,ea,ct,hi,zg,iI,vj,aw,length_append,length_replicate,go_sem];exact⟨by omega,by omega,m,by omega,i+1,by omega,rfl,rfl⟩
 | zero=>
  have hi:i=P.procs.length:=by omega
  subst hi;simp -implicitDefEqProofs only[h2,h3,h4,gy,cZ,ea,Int.lt_irrefl,decide_false,Kr,xY,go_sem];intro _;refine aL (fun m e H=>∃i F kv,i+m=P.procs.length/\RI (LX P.procs) P.procs.length i F/\H[0]? =some (.row (F.map (.int .i64)))/\OV H kv ((oE P.procs i).map encI)/\a7 kv 0/\
   e 2=kv/\e 3=.ms 0 0 P.procs.length/\e 4=.fs (A.map dE)/\e 24=.fs (A.map dE)/\e 25=.int .i64 P.procs.length/\e 26=.int .i64 i) P.procs.length
   ⟨0,List.replicate P.procs.length (-1),.ag,by simp,RI.start _ _,by simp,.inl ⟨by simp[oE,gV],rfl⟩,(fun a b h=>by cases h),by simp[az,h2],by simp[az,h3],by simp[az,h4],by simp[az,h4],by simp[az,xY],by simp[az]⟩ ?_
  clear h2 h3 h4 gy cZ ea e;rintro m e H ⟨i,F,kv,QU,hR,mq,bm,dW,h2,h3,h4,nK,jP,gu⟩;have cP:=bm.one;have ba:=bm.cS;simp only[V.one]at ba;have jU:=hR.len;cases m with
  | zero=>
   have hi:i=P.procs.length:=by omega
   subst hi;have hz:fz H 19 kv=_:=dw (f:=encI) (n:=17) (fun H x=>Ke _ _ x) bm;have WI:W0 (fz H 18) H[0]? 0 P.procs.length=some (.fs (F.map (.int .i64))):=by
    rw[mq,ef,if_pos (by simp[jU]),drop_zero,take_of_length_le (by simp[jU]),fA];rfl
   simp -implicitDefEqProofs only[h2,h3,h4,nK,jP,gu,Int.lt_irrefl,decide_false,go_sem];simp -implicitDefEqProofs only[UR,h2,h3,push_cast,go_sem_proc];rw[hz,WI];exact⟨_,rfl,F,rfl,hR⟩
  | succ m=>
   have hi:i<P.procs.length:=by omega
   have ct:decide ((i:Int)<(P.procs.length:Int))=true:=by simp;omega
   have zg:=bG (k:=i) (by omega);have hg:=ES i hi;have xZ:∀F':List Int,F'.length=P.procs.length->∀k:Nat,k<P.procs.length->(F'.map (V.int .i64)).getD k .any=.int .i64 (F'.getD k 0):=fun F' h k hk=>by
    rw[getD_eq_getElem?_getD,getElem?_map,getElem?_eq_getElem (by omega),getD_eq_getElem?_getD,getElem?_eq_getElem (by omega)];rfl
   have tQ:=xZ F jU i hi;have hsk:=fun h=>hR.skip hL hi h
   by_cases hs:0<=F.getD i 0
   ·obtain⟨M8,Hb⟩:=hsk (.inl hs);have bJ:OV H kv ((oE P.procs (i+1)).map encI):=by rw[oE,Hb];exact bm
    have nJ:decide (F.getD i 0≥(0:Int))=true:=by simpa using hs
    have vp:decide ((0:Int)<=F.getD i 0)=true:=by simpa using hs
    simp -implicitDefEqProofs only[h2,h3,h4,nK,jP,gu,ct,hg,hi,tQ,mq,nJ,vp,jU,xY,zg,aw,length_map,go_sem];exact⟨Nat.le_refl _,m,Nat.lt_succ_self _,i+1,F,kv,by omega,M8,rfl,bJ,dW,rfl,rfl⟩
   have nJ:decide (F.getD i 0≥(0:Int))=false:=by simpa using hs
   have vp:decide ((0:Int)<=F.getD i 0)=false:=by simpa using hs
   by_cases Ha:LX P.procs i i=false
   ·obtain⟨M8,Hb⟩:=hsk (.inr Ha);have bJ:OV H kv ((oE P.procs (i+1)).map encI):=by rw[oE,Hb];exact bm
    simp -implicitDefEqProofs only[h2,h3,h4,nK,jP,gu,ct,hg,hi,tQ,mq,nJ,vp,jU,xY,zg,aw,length_map,bL,b6,L5,Ha,go_sem];exact⟨Nat.le_refl _,m,Nat.lt_succ_self _,i+1,F,kv,by omega,M8,rfl,bJ,dW,rfl,rfl⟩
   have Ha:LX P.procs i i=true:=by simpa using Ha
   obtain⟨M8,Hb⟩:=hR.put hL hi (by omega) Ha;have hrI:oE P.procs (i+1)=oE P.procs i++ [(rO (LX P.procs) i P.procs.length).map fun(k:Nat)=>(k:Int)]:=by rw[oE,Hb,map_append];rfl
   have Da:((oE P.procs i).map encI).length=(gV (LX P.procs) i).length:=by simp[oE]
   have hrlm:(gV (LX P.procs) i).length<=i:=by
    have:=length_filter_le (Iz (LX P.procs)) (List.range i);simpa[gV]using this
   simp -implicitDefEqProofs only[h2,h3,h4,nK,jP,gu,ct,hg,hi,tQ,mq,nJ,vp,jU,xY,zg,aw,length_map,bL,b6,L5,Ha,go_sem];refine⟨Nat.le_refl _,?_⟩;refine aL (fun m e H=>∃k v,k+m=P.procs.length/\i<=k/\H[0]? =some (.row ((ra F ((gV (LX P.procs) i).length:Int) (rO (LX P.procs) i k)).map (.int .i64)))/\
    OV H kv ((oE P.procs i).map encI)/\OV H v (((rO (LX P.procs) i k).map fun(k:Nat)=>(k:Int)).map (.int .i64))/\dj v kv/\a7 v 0/\
    e 2=kv/\e 3=.ms 0 0 P.procs.length/\e 4=.fs (A.map dE)/\e 24=.fs (A.map dE)/\e 25=.int .i64 P.procs.length/\e 26=.int .i64 i/\e 6=.int .i64 i/\e 7=.db ((A.getD i []).map (.int .i64)) (bF (A.getD i []))/\e 8=v/\e 9=.int .i64 k) (m+1)
    ⟨i,.ag,by omega,Nat.le_refl _,by rw[zj];exact mq,bm,.inl ⟨by simp[zj],rfl⟩,(fun id=> .inl (fun a b h=>by cases h)),(fun a b h=>by cases h),by simp[az,h2],by simp[az,h3],by simp[az,h4],by simp[az,nK],by simp[az,jP],by simp[az,gu],by simp[az,gu],by simp[az],by simp[az],by simp[az,gu]⟩ ?_
   clear h2 h3 h4 nK jP gu mq bm tQ hR hsk e H;rintro m2 e H ⟨k,v,DW,sY,mq,bm,bJ,Pt,QX,h2,h3,h4,nK,jP,gu,h6,h7,h8,h9⟩;have j8:=bJ.one;have cY:=bJ.cS;simp only[V.one]at cY;cases m2 with
   | zero=>
    have hk:k=P.procs.length:=by omega
    subst hk;simp -implicitDefEqProofs only[h2,h3,h4,nK,jP,gu,h6,h7,h8,h9,xY,Int.lt_irrefl,decide_false,zg,go_sem];intro _;obtain⟨D,hz,L6⟩:=bJ.freeze;have hkH:(bO D H)[0]? =_:=(L6 0 QX).trans mq;have j5:=(List.getElem?_eq_some_iff.1 hkH).1;refine⟨D,_,hz,?_⟩;simp -implicitDefEqProofs only[h2,h3,h4,nK,jP,gu,h6,h7,h8,h9,zg,go_sem];have bo:OV (bO D H) kv ((oE P.procs i).map encI):=bm.frame (fun id o n hid _=>L6 id (by
     rcases Pt id with h | h
     ·exact h
     ·exact absurd hid (h o n)))
    refine cu bo (fun i o l h=>by cases h) (zb _) (by rw[Da];simp only[length_cons,length_nil];omega) ?_;rintro bN H' Vy hle cp;simp -implicitDefEqProofs only[h2,h3,h4,nK,jP,gu,h6,h7,h8,h9,zg,go_sem];obtain⟨ky,jO⟩:=cp 0 j5 dW;refine⟨m,Nat.lt_succ_self _,i+1,_,bN,by omega,M8,by rw[ky,hkH],?_,jO,rfl,rfl⟩;rw[hrI,map_append];exact Vy
   | succ m2=>
    have hk:k<P.procs.length:=by omega
    have Ku:decide ((k:Int)<(P.procs.length:Int))=true:=by simp;omega
    have qx:=bG (k:=k) (by omega);have zR:=ES k hk;have cR:(ra F ((gV (LX P.procs) i).length:Int) (rO (LX P.procs) i k)).length=P.procs.length:=by rw[uq,jU]
    have Vz:=xZ _ cR k hk;have Hc:=G9 (LX P.procs) sY;have hCc:Cc (LX P.procs) i k=(LX P.procs i k && LX P.procs k i):=rfl;cases gQ:LX P.procs i k with
    | false=>
     simp -implicitDefEqProofs only[h2,h3,h4,nK,jP,gu,h6,h7,h8,h9,xY,Ku,qx,zR,hk,bL,b6,L5,gQ,go_sem];intro _;have hq:rO (LX P.procs) i (k+1)=rO (LX P.procs) i k:=by rw[Hc,hCc,gQ];simp
     exact⟨m2,Nat.lt_succ_self _,k+1,v,by omega,by omega,by rw[hq];exact mq,bm,by rw[hq];exact bJ,Pt,QX,rfl,rfl⟩
    | true=>
     cases He:LX P.procs k i with
     | false=>
      simp -implicitDefEqProofs only[h2,h3,h4,nK,jP,gu,h6,h7,h8,h9,xY,Ku,qx,zR,hk,bL,b6,L5,gQ,He,go_sem];intro _;have hq:rO (LX P.procs) i (k+1)=rO (LX P.procs) i k:=by rw[Hc,hCc,gQ,He];simp
      exact⟨m2,Nat.lt_succ_self _,k+1,v,by omega,by omega,by rw[hq];exact mq,bm,by rw[hq];exact bJ,Pt,QX,rfl,rfl⟩
     | true=>
      have hq:rO (LX P.procs) i (k+1)=rO (LX P.procs) i k++ [k]:=by rw[Hc,hCc,gQ,He];simp
      have ED:(kv=.ag/\(gV (LX P.procs) i).length=0)\/∃id,kv=.ms id 0 (gV (LX P.procs) i).length:=by
       rcases bm with⟨h1,h2⟩ | ⟨_,id,h1,_⟩
       ·exact .inl ⟨h2,by rw[<-Da,h1];rfl⟩
       ·exact .inr ⟨id,by rw[h1,Da]⟩
      have sm:(rO (LX P.procs) i k).length<=k:=by
       have:=length_filter_le (fun j=>decide (i<=j) && Cc (LX P.procs) i j) (List.range k);simpa[rO]using this
      have j5:=(List.getElem?_eq_some_iff.1 mq).1;generalize Dv:(gV (LX P.procs) i).length=c at*;generalize hOO:(oE P.procs i).map encI=OO at*;have fi:∀b,b=ak.row (((ra F (c:Int) (rO (LX P.procs) i k)).map (V.int .i64)).set k (.int .i64 c))->∀bN H',OV H' bN ((((rO (LX P.procs) i k).map fun(k:Nat)=>(k:Int)).map (V.int .i64))++ [.int .i64 k])->(∀j,j<(H.set 0 b).length->a7 v j->H'[j]? =(H.set 0 b)[j]? /\a7 bN j)->
       H'[0]? =some (.row ((ra F (c:Int) (rO (LX P.procs) i (k+1))).map (.int .i64)))/\OV H' kv OO/\OV H' bN (((rO (LX P.procs) i (k+1)).map fun(k:Nat)=>(k:Int)).map (.int .i64))/\dj bN kv/\a7 bN 0:=by
       rintro b rfl bN H' bo cp;obtain⟨ky,jO⟩:=cp 0 (by simpa using j5) QX;refine⟨?_,?_,?_,fun id=> ?_,jO⟩
       ·rw[ky,getElem?_set_self j5,hq,Ed,map_set]
       ·refine(bm.set dW).frame (fun id o n hid hl=>(cp id hl ?_).1);rcases Pt id with h | h
        ·exact h
        ·exact absurd hid (h o n)
       ·rw[hq];simpa using bo
       ·rcases Pt id with h | h
        ·by_cases hl:id<H.length
         ·exact .inl (cp id (by simpa using hl) h).2
         ·exact .inr (bm.lt (by omega))
        ·exact .inr h
      rcases ED with⟨rfl,rfl⟩ | ⟨id,rfl⟩
      ·simp -implicitDefEqProofs only[h2,h3,h4,nK,jP,gu,h6,h7,h8,h9,xY,Ku,qx,zR,hk,bL,b6,L5,gQ,He,mq,Vz,cR,aw,length_map,go_sem];intro _;refine⟨Nat.le_refl _,?_⟩;refine cu (bJ.set QX) (fun i o l h=>by cases h) (cA _ _ (fun x=>by simp[aw]) _) (by simp only[length_map,length_cons,length_nil];omega) ?_;rintro bN H' bo hle cp;obtain⟨r1,r2,r3,r4,r5⟩:=fi _ (by rfl) bN H' bo cp;simp -implicitDefEqProofs only[h2,h3,h4,nK,jP,gu,h6,h7,h8,h9,qx,go_sem];exact⟨m2,Nat.lt_succ_self _,k+1,bN,by omega,by omega,r1,r2,r3,r4,r5,rfl,rfl⟩
      ·simp -implicitDefEqProofs only[h2,h3,h4,nK,jP,gu,h6,h7,h8,h9,xY,Ku,qx,zR,hk,bL,b6,L5,gQ,He,mq,Vz,cR,aw,length_map,go_sem];intro _ _;refine⟨Nat.le_refl _,?_⟩;refine cu (bJ.set QX) (fun i o l h=>by cases h) (cA _ _ (fun x=>by simp[aw]) _) (by simp only[length_map,length_cons,length_nil];omega) ?_;rintro bN H' bo hle cp;obtain⟨r1,r2,r3,r4,r5⟩:=fi _ (by rfl) bN H' bo cp;simp -implicitDefEqProofs only[h2,h3,h4,nK,jP,gu,h6,h7,h8,h9,qx,go_sem];exact⟨m2,Nat.lt_succ_self _,k+1,bN,by omega,by omega,r1,r2,r3,r4,r5,rfl,rfl⟩
theorem VA (tf:Int->St->List St) (h1:∀n x,(tf n x).length<=1) (g:FuncId) (c:V) (uV:al c=true) (oG:∀n x,af Tryz.prog g [.int .i64 n,encS x,c] (·=.fs ((tf n x).map encS))) (xs:List St) (hw:dn xs<=1000000) (n:Int) (lV:0<=n) (hn:n+ai xs<=1000000)
 (h:∀k r t v l e a b p ps,St.mk k r t v l e a b p ps∈xs->∀n:Int,0<=n->
   (n+ai a<=1000000->af Tryz.prog 138 [.fs (a.map encS),.int .i64 n,.a6 g [] [c]] (·=.dJ [.fs ((eZ tf a n).map encS),.int .i64 (n+ai a)]))/\
   (n+ai b<=1000000->af Tryz.prog 138 [.fs (b.map encS),.int .i64 n,.a6 g [] [c]] (·=.dJ [.fs ((eZ tf b n).map encS),.int .i64 (n+ai b)]))):
 af Tryz.prog 138 [.fs (xs.map encS),.int .i64 n,.a6 g [] [c]] (·=.dJ [.fs ((eZ tf xs n).map encS),.int .i64 (n+ai xs)]):=by
 have Zr:=eh xs;refine af.intro c50 400 (by simp) 20 ?_;simp -implicitDefEqProofs only[YJ,go_sem];intro hlen;refine aL (fun m e H=>∃pre post kv,xs=pre++post/\m=post.length/\e 1=.int .i64 (n+ai pre)/\e 2=.a6 g [] [c]/\e 8=kv/\e 12=.fs (xs.map encS)/\e 13=.int .i64 xs.length/\e 14=.int .i64 pre.length/\OV H kv ((eZ tf pre n).map encS)) xs.length ⟨[],xs,.ag,by simp[az,aC,ai],rfl,by simp[az,aC,ai],by simp[az,aC],by simp[az,aC],by simp[az,aC],by simp[az,aC],by simp[az,aC],.inl ⟨rfl,rfl⟩⟩ ?_;rintro m e H ⟨pre,post,kv,ao,rfl,s3,h2,h8,dU,eV,dG,bm⟩;cases post with
 | nil=>
  have ev:pre=xs:=by rw[ao];simp
  simp -implicitDefEqProofs only[s3,h2,h8,dU,eV,dG,aI ao,go_sem];have hz:fz H 19 kv=_:=dw (f:=encS) (n:=17) (fun H x=>eg H 16 x) bm;rw[ev]at hz;simp -implicitDefEqProofs only[R7,hz,push_cast,go_sem_proc];rw[ev]
 | cons y post=>
  have hg:=aO encS ao;have zP:ai xs=ai pre+(dA y+ai post):=by rw[ao,aX,ai]
  have SV:dn xs=dn pre+(wS y+dn post):=by rw[ao,cB,dn]
  have cR:pre.length<=xs.length:=by rw[ao];simp
  have EE:=oq tf h1 pre n;rcases y with⟨k,r,t,v,l,⟨ek,en,es,aR⟩,a,b,p,ps⟩
  have BV:eZ tf (pre++ [.mk k r t v l (.mk ek en es aR) a b p ps]) n=eZ tf pre n++tf (n+ai pre) (.mk k r t v l (.mk ek en es aR) (eZ tf a (n+ai pre+1)) (eZ tf b (n+ai pre+1+ai a)) p ps):=by
   rw[om];simp only[eZ,BX,append_nil]
  have htl1:=h1 (n+ai pre) (.mk k r t v l (.mk ek en es aR) (eZ tf a (n+ai pre+1)) (eZ tf b (n+ai pre+1+ai a)) p ps);have A1:=oG (n+ai pre) (.mk k r t v l (.mk ek en es aR) (eZ tf a (n+ai pre+1)) (eZ tf b (n+ai pre+1+ai a)) p ps);simp only[dA]at zP;simp only[wS,wE]at SV;have hh:=h k r t v l (.mk ek en es aR) a b p ps (by rw[ao];simp);have ha:=(hh (n+ai pre+1) (by omega)).1 (by omega);have hb:=(hh (n+ai pre+1+ai a) (by omega)).2 (by omega);have pV:=t46 ps (by omega);have Hf:=t68 _ (.mk ek en es aR) (Nat.lt_succ_self _) (by simp only[wE];omega);have Dv:ai (pre++ [.mk k r t v l (.mk ek en es aR) a b p ps])=ai pre+(1+ai a+ai b):=by rw[aX];simp[ai,dA]
  rw[bp]at Hf;rw[ay]at hg A1;generalize hta:eZ tf a (n+ai pre+1)=ta at*;generalize htb:eZ tf b (n+ai pre+1+ai a)=tb at*;have w1:=bP (x:=n+ai pre+1) (by omega) (by omega);simp -implicitDefEqProofs only[s3,h2,h8,dU,eV,dG,an ao,aa ao hlen,hg,w1,go_sem];repeat' (first | ((first | ((with_reducible first | refine bj pV ?_ ?_ | refine bj Hf ?_ ?_ | refine bj ha ?_ ?_ | refine bj hb ?_ ?_ | refine bj A1 ?_ ?_);(·simp[ae,al,cm,uV])) | ((with_reducible apply cj);(·simp -implicitDefEqProofs only[map_cons,map_nil,uV,push_cast,go_sem_proc]<;>rfl);(with_reducible first | exact pV | exact Hf | exact ha | exact hb | exact A1);(·rfl)) | (with_reducible refine aD ?_));simp -implicitDefEqProofs only[s3,h2,h8,dU,eV,dG,an ao,aa ao hlen,hg,w1,go_sem]) | (with_reducible refine aA.mk ?_ ?_) | (with_reducible refine And.intro ?_ ?_) | ((with_reducible refine bz ?_);simp -implicitDefEqProofs only[R7,push_cast,go_sem_proc]) | intro _)
  ·exact mf _
  ·refine cu (bm.app _) (fun i o l h=>by cases h) (cx _) (by simp;omega) ?_;rintro bN H' bo hle cp;simp -implicitDefEqProofs only[s3,h2,h8,dU,eV,dG,an ao,aa ao hlen,hg,go_sem];refine⟨_,Nat.lt_succ_self _,pre++ [.mk k r t v l (.mk ek en es aR) a b p ps],post,bN,by simp[ao],rfl,?_,rfl,by simp,?_⟩
   ·rw[Dv];simp only[Int.natCast_add,Int.natCast_one];congr 1;omega
   ·rw[BV];simpa using bo
theorem Kv (tf:Int->St->List St) (h1:∀n x,(tf n x).length<=1) (g:FuncId) (c:V) (uV:al c=true) (oG:∀n x,af Tryz.prog g [.int .i64 n,encS x,c] (·=.fs ((tf n x).map encS))):∀(m:Nat) (xs:List St),SizeOf.sizeOf xs<m->dn xs<=1000000->∀n:Int,0<=n->n+ai xs<=1000000->
 af Tryz.prog 138 [.fs (xs.map encS),.int .i64 n,.a6 g [] [c]] (·=.dJ [.fs ((eZ tf xs n).map encS),.int .i64 (n+ai xs)])
 | 0,xs,h,_=>absurd h (Nat.not_lt_zero _)
 | m+1,xs,hm,hw=>fun n h0 hn=>VA tf h1 g c uV oG xs hw n h0 hn (fun k r t v l e a b p ps da n h0=>by
  have hs:=sizeOf_lt_of_mem da;simp only[St.mk.sizeOf_spec]at hs;have QY:wS (.mk k r t v l e a b p ps)<=dn xs:=by
   obtain⟨p1,p2,rfl⟩:=append_of_mem da;rw[cB,dn];omega
  simp only[wS]at QY;exact⟨fun hc=>Kv tf h1 g c uV oG m a (by omega) (by omega) n h0 hc,fun hc=>Kv tf h1 g c uV oG m b (by omega) (by omega) n h0 hc⟩)
theorem t20c (tf:Int->St->List St) (h1:∀n x,(tf n x).length<=1) (g:FuncId) (c:V) (uV:al c=true) (oG:∀n x,af Tryz.prog g [.int .i64 n,encS x,c] (·=.fs ((tf n x).map encS))) (P:bH) (hw:iE P<=1000000) (ew:P.procs.length<=1000000):
 af Tryz.prog 64 [aP P,.a6 g [] [c]] (·=aP (qV tf P)):=by
 have xU:=kx P;rcases P with⟨xs,main⟩
 simp only[iE,total]at hw xU;have hm:=Kv tf h1 g c uV oG _ main (Nat.lt_succ_self _) (by omega) 0 (by omega) (by omega);refine af.intro c20 400 (by simp) 20 ?_;simp -implicitDefEqProofs only[Yy,aP,go_sem];repeat' (first | ((first | ((with_reducible refine bj hm ?_ ?_);(·simp[ae,al,cm,uV])) | ((with_reducible apply cj);(·simp -implicitDefEqProofs only[map_cons,map_nil,uV,push_cast,go_sem_proc]<;>rfl);(with_reducible exact hm);(·rfl)) | (with_reducible refine aD ?_));simp -implicitDefEqProofs only[uV,go_sem]) | (with_reducible refine aA.mk ?_ ?_) | (with_reducible refine And.intro ?_ ?_) | ((with_reducible refine bz ?_);simp -implicitDefEqProofs only[Nr,push_cast,go_sem_proc]) | intro _)
 rename_i hlen;simp only[Int.zero_add]at*;have hpl':xs.length<=1000000:=ew;generalize DN:eZ tf main 0=mt at*;refine aL (fun m e H=>∃pre post kv J,xs=pre++post/\m=post.length/\e 1=.a6 g [] [c]/\e 4=.ptr 1 0 0/\e 5=.ptr 2 0 0/\e 6=.int .i64 ((ai main:Int)+bD pre)/\e 18=.fs (xs.map aF)/\e 19=.int .i64 xs.length/\e 20=.int .i64 pre.length/\
  H=ak.row [.agg [.fs (xs.map aF),.fs (main.map encS)]]::ak.row [.agg [.ag,.ag]]::ak.row [.agg [kv,.fs (mt.map encS)]]::J/\OV H kv ((qu tf pre (ai main)).map aF)/\a7 kv 0/\a7 kv 1/\a7 kv 2) xs.length ⟨[],xs,.ag,[],by simp[az,aC],rfl,by simp[az,aC],by simp[az,aC],by simp[az,aC],by simp[az,aC,bD],by simp[az,aC],by simp[az,aC],by simp[az,aC],rfl,.inl ⟨rfl,rfl⟩,(fun a b h=>by cases h),(fun a b h=>by cases h),(fun a b h=>by cases h)⟩ ?_
 rintro m e H ⟨pre,post,kv,J,ao,rfl,s3,h4,h5,h6,ft,iV,iG,rfl,bm,dW,iT,ir⟩;have ba:V.one kv=true:=by rcases bm with⟨_,rfl⟩ | ⟨_,id,rfl,_⟩<;>rfl
 simp only[V.one]at ba;have cP:=bm.one;cases post with
 | nil=>
  have ev:pre=xs:=by rw[ao];simp
  simp -implicitDefEqProofs only[s3,h4,h5,h6,ft,iV,iG,aI ao,ba,cP,go_sem];have bJ:OV (ak.row [.agg [.fs (xs.map aF),.fs (main.map encS)]]::ak.row [.agg [kv,.fs (mt.map encS)]]::ak.row [.agg [kv,.fs (mt.map encS)]]::J) kv ((qu tf pre (ai main)).map aF):=bm.set (x:=ak.row [.agg [kv,.fs (mt.map encS)]]) iT;have hz:fz _ 19 kv=_:=dw (f:=aF) (n:=17) (fun H x=>gr H 16 x) bJ;rw[ev]at hz;simp -implicitDefEqProofs only[Nr,h4,hz,push_cast,go_sem_proc];rw[qV,DN]
 | cons q post=>
  have hg:=aO aF ao;simp only[aF]at hg;have Qw:bD xs=bD pre+(ai q.steps+bD post):=by rw[ao,bE,bD]
  have Xr:lM xs=lM pre+(q.au.length+dn q.steps+lM post):=by rw[ao,fZ,lM]
  have cR:pre.length<=xs.length:=by rw[ao];simp
  have BV:qu tf (pre++ [q]) (ai main)=qu tf pre (ai main)++ [⟨q.name,q.au,eZ tf q.steps ((ai main:Int)+bD pre)⟩]:=by
   rw[ot];rfl
  have hq:=Kv tf h1 g c uV oG _ q.steps (Nat.lt_succ_self _) (by omega) ((ai main:Int)+bD pre) (by omega) (by omega);have pV:=t46 q.au (by omega);generalize T5:eZ tf q.steps ((ai main:Int)+bD pre)=qt at*;simp -implicitDefEqProofs only[s3,h4,h5,h6,ft,iV,iG,an ao,aa ao hlen,ba,cP,hg,go_sem];repeat' (first | ((first | ((with_reducible first | refine bj pV ?_ ?_ | refine bj hq ?_ ?_);(·simp[ae,al,cm,uV])) | ((with_reducible apply cj);(·simp -implicitDefEqProofs only[map_cons,map_nil,uV,push_cast,go_sem_proc]<;>rfl);(with_reducible first | exact pV | exact hq);(·rfl)) | (with_reducible refine aD ?_));simp -implicitDefEqProofs only[s3,h4,h5,h6,ft,iV,iG,an ao,aa ao hlen,ba,cP,hg,go_sem]) | (with_reducible refine aA.mk ?_ ?_) | (with_reducible refine And.intro ?_ ?_) | ((with_reducible refine bz ?_);simp -implicitDefEqProofs only[Nr,push_cast,go_sem_proc]) | intro _)
  have bJ:∀L:List ak,OV (ak.row [.agg [.fs (xs.map aF),.fs (main.map encS)]]::ak.row [.agg [.ag,.ag]]::ak.row [.agg [kv,.fs (mt.map encS)]]::(J++L)) kv ((qu tf pre (ai main)).map aF):=fun L=>bm.app L
  refine cu (bJ _) (fun i o l h=>by cases h) (fo _) (by simp[kR];omega) ?_;rintro bN H' bo hle cp;obtain⟨pO,lV⟩:=cp 0 (by simp) dW;obtain⟨ky,pn⟩:=cp 1 (by simp) iT;obtain⟨jO,nY⟩:=cp 2 (by simp) ir;simp only[getElem?_cons_zero,getElem?_cons_succ]at pO ky jO;obtain⟨J',rfl⟩:=jo pO ky jO;have ej:V.one bN=true:=bo.cS;simp only[V.one]at ej;have gQ:=bo.one;simp -implicitDefEqProofs only[s3,h4,h5,h6,ft,iV,iG,an ao,aa ao hlen,ba,cP,ej,gQ,hg,go_sem];refine⟨_,Nat.lt_succ_self _,pre++ [q],post,bN,J',by simp[ao],rfl,?_,by simp,rfl,?_,lV,pn,nY⟩
  ·rw[bE];simp only[bD];simp only[Int.natCast_add,Int.natCast_one];congr 1;omega
  ·rw[BV];have:=bo.set (x:=ak.row [.agg [bN,.fs (mt.map encS)]]) nY;simpa[aF]using this
def zU (S:List Int) (n:Int) (x:St):List St:=if n∈S then[x]else[]
theorem t240 (P:bH) (n:Int) (x:St):af Tryz.prog 65 [.int .i64 n,encS x,.bc [Lz P]] (·=.fs ((zU (mz P).steps n x).map encS)):=by
 rcases x with⟨k,r,t,v,l,⟨ek,en,es,aR⟩,a,b,p,ps⟩
 rw[ay,Lz];refine af.intro c240 100 (by simp) 20 ?_;by_cases h:n∈(mz P).steps
 ·simp -implicitDefEqProofs only[Pb,bL,b6,h,decide_true,go_sem];simp -implicitDefEqProofs only[Pc,push_cast,go_sem_proc];simp[zU,h,ay]
 ·simp -implicitDefEqProofs only[Pb,bL,b6,h,decide_false,go_sem];simp -implicitDefEqProofs only[Pc,push_cast,go_sem_proc];simp[zU,h]
def kB (B:List Bool):List Pr->Nat->List Pr
 | [],_=> []
 | x::xs,i=>(if B.getD i false then[x]else[])++kB B xs (i+1)
theorem rP (B:List Bool):∀(a b:List Pr) (i:Nat),kB B (a++b) i=kB B a i++kB B b (i+a.length)
 | [],b,i=>by simp[kB]
 | x::a,b,i=>by
  rw[cons_append,kB,kB,rP B a b,length_cons,append_assoc];congr 3;omega
theorem zl (B:List Bool):∀(a:List Pr) (i:Nat),(kB B a i).length<=a.length
 | [],i=>by simp[kB]
 | x::a,i=>by
  have:=zl B a (i+1);rw[kB];split<;>simp<;>omega
noncomputable def Py (P:bH):bH:=qV (zU (mz P).steps) P
noncomputable def L7 (P:bH):bH:=⟨kB (mz P).procs (Py P).procs 0,(Py P).main⟩
noncomputable def trV (P:bH):V:=if rE P=0 then .dJ [aP (L7 P),.int .i64 0]else .dJ [aP ⟨[],[]⟩,.int .i64 (rE P)]
theorem Kw (S:List Int) (n:Int) (x:St):(zU S n x).length<=1:=by rw[zU];split<;>simp
theorem m5 {H:List ak} {a b c d:ak} (h0:H[0]? =some a) (h1:H[1]? =some b) (h2:H[2]? =some c) (h3:H[3]? =some d):∃J,H=a::b::c::d::J:=by
 match H,h0,h1,h2,h3 with
 | x::y::z::u::J,h0,h1,h2,h3=>simp at h0 h1 h2 h3;subst h0 h1 h2 h3;exact⟨J,rfl⟩
theorem Pz {H:List ak} {id:Nat} {l:List V} (h:H[id]? =some (.row [.bc l])) (hn:ae l=true):fz (cQ [id] H) 20 (.ptr id 0 0)=some (.bc [.bc l]):=by
 have hk:(cQ [id] H)[id]? =some (.row [.bc l]):=by rw[cg,h];simp
 rw[l9,hk,jK];simp[aw,b7,cN,pC,hn,Dn]
theorem t214 (P:bH) (hw:iE P<=1000000) (hc:total P<=1000000) (ew:P.procs.length<=1000000):af Tryz.prog 21 [aP P] (·=trV P):=by
 have k9:=t229 P hc ew;rw[T9]at k9;rw[trV];by_cases h0:rE P=0
 ·have dx:AN P:=AP (by rw[<-yR];exact h0);have Kx:=t231 P hc ew dx;have gi:ae (eF P.procs P.procs (ai P.main))=true:=ee (eG _ _ _);have PA:al (.bc [Lz P])=true:=by
   simp[Lz,fy,lE,al,ae,gi,aq,ah,aY,br,aS,bZ]
  have Xs:ae [.bc (fy P (bY P.procs)),.db ((mz P).steps.map (.int .i64)) (bF (mz P).steps),.fs ((mz P).procs.map .bool)]=true:=by
   simp[fy,lE,al,ae,gi,aq,ah,aY,br,aS,bZ]
  have iG:=t20c (zU (mz P).steps) (Kw _) 65 (.bc [Lz P]) PA (fun n x=>t240 P n x) P hw ew;have hQl:(Py P).procs.length=P.procs.length:=by rw[Py,qV];exact kR _ _ _
  have Da:=sG P;rw[if_pos h0]at k9⊢;rw[L7];rw[show qV (zU (mz P).steps) P=Py P from rfl]at iG;rw[Lz]at Kx iG PA;simp only[aP,fy,lE]at k9 Kx iG PA Xs⊢;refine af.intro UI 900 (by simp) 20 ?_;simp -implicitDefEqProofs only[O8,go_sem];repeat' (first | ((first | ((with_reducible first | refine bj k9 ?_ ?_ | refine bj Kx ?_ ?_ | refine bj iG ?_ ?_);(·simp[ae,al,cm,gi,aq,ah,aY,br,aS,bZ,PA])) | ((with_reducible apply cj);(·simp -implicitDefEqProofs only[map_cons,map_nil,gi,aq,ah,aY,br,aS,bZ,PA,push_cast,go_sem_proc]<;>rfl);(with_reducible first | exact k9 | exact Kx | exact iG);(·rfl)) | (with_reducible refine aD ?_));simp -implicitDefEqProofs only[Int.reduceEq,go_sem]) | (with_reducible refine aA.mk ?_ ?_) | (with_reducible refine And.intro ?_ ?_) | ((with_reducible refine bz ?_);simp -implicitDefEqProofs only[GZ,push_cast,go_sem_proc]) | intro _)
  refine⟨[2],_,Pz (by rfl) Xs,?_⟩;rw[show bO [2] [ak.row [.agg [.fs (P.procs.map aF),.fs (P.main.map encS)]],ak.row [.agg [.ag,.ag]],ak.row [.bc [.bc [.fs (P.procs.map aF),.fs (P.main.map encS),.fs ((num P.main 0).map (cb P.procs)),.fs (eF P.procs P.procs (ai P.main)),.fs ((bY P.procs).map .bool)],.db ((mz P).steps.map (.int .i64)) (bF (mz P).steps),.fs ((mz P).procs.map .bool)]]]=[ak.row [.agg [.fs (P.procs.map aF),.fs (P.main.map encS)]],ak.row [.agg [.ag,.ag]],.dead] from rfl];repeat' (first | ((first | ((with_reducible refine bj iG ?_ ?_);(·simp[ae,al,cm,gi,aq,ah,aY,br,aS,bZ,PA,Xs])) | ((with_reducible apply cj);(·simp -implicitDefEqProofs only[map_cons,map_nil,gi,aq,ah,aY,br,aS,bZ,PA,Xs,push_cast,go_sem_proc]<;>rfl);(with_reducible exact iG);(·rfl)) | (with_reducible refine aD ?_));simp -implicitDefEqProofs only[Int.reduceEq,go_sem]) | (with_reducible refine aA.mk ?_ ?_) | (with_reducible refine And.intro ?_ ?_) | ((with_reducible refine bz ?_);simp -implicitDefEqProofs only[GZ,push_cast,go_sem_proc]) | intro _)
  rename_i hlen;generalize Py P=Q at*;obtain⟨qs,qm⟩:=Q;generalize (mz P).procs=B at*;simp only at hQl hlen⊢;generalize zJ:V.agg [.fs (P.procs.map aF),.fs (P.main.map encS)]=c0 at*;generalize A2:V.bc [.bc [.fs (P.procs.map aF),.fs (P.main.map encS),.fs ((num P.main 0).map (cb P.procs)),.fs (eF P.procs P.procs (ai P.main)),.fs ((bY P.procs).map .bool)],.db ((mz P).steps.map (.int .i64)) (bF (mz P).steps),.fs (B.map .bool)]=RV at*;have A2:=A2.symm;refine aL (fun m e H=>∃pre post kv J,qs=pre++post/\m=post.length/\e 2=.ptr 1 0 0/\e 3=.int .i64 0/\e 6=.bc [RV]/\e 7=.ptr 3 0 0/\e 8=kv/\e 26=.fs (qs.map aF)/\e 27=.int .i64 qs.length/\e 28=.int .i64 pre.length/\
   H=ak.row [c0]::ak.row [.agg [.ag,.ag]]:: .dead::ak.row [.agg [.fs (qs.map aF),.fs (qm.map encS)]]::J/\OV H kv ((kB B pre 0).map aF)/\a7 kv 0/\a7 kv 1/\a7 kv 2/\a7 kv 3) qs.length
   ⟨[],qs,.ag,[],rfl,rfl,by simp[az,aC],by simp[az,aC],by simp[az,aC,A2],by simp[az,aC],by simp[az,aC],by simp[az,aC],by simp[az,aC],by simp[az,aC],by simp[zJ],.inl ⟨by simp[kB],rfl⟩,(fun a b h=>by cases h),(fun a b h=>by cases h),(fun a b h=>by cases h),(fun a b h=>by cases h)⟩ ?_
  rintro m e H ⟨pre,post,kv,J,ao,rfl,h2,h3,h6,h7,h8,gu,j0,vT,rfl,bm,dW,iT,ir,vn⟩;have cP:=bm.one;have ba:=bm.cS;simp only[V.one]at ba;cases post with
  | nil=>
   have ev:pre=qs:=by rw[ao];simp
   rw[ev]at bm;simp -implicitDefEqProofs only[h2,h3,h6,h7,h8,gu,j0,vT,aI ao,ba,cP,go_sem];have bJ:=(bm.set (x:=ak.row [.agg [kv,.fs (qm.map encS)]]) vn).set (x:=ak.row [.agg [kv,.fs (qm.map encS)]]) iT;simp only[set_cons_succ,set_cons_zero]at bJ;have hz:fz _ 18 kv=_:=dw (f:=aF) (n:=16) (fun H x=>gr H 15 x) bJ;simp -implicitDefEqProofs only[GZ,h2,h3,hz,push_cast,go_sem_proc]
  | cons q post=>
   have hg:=aO aF ao;simp only[aF]at hg;have Xt:pre.length<B.length:=by rw[Da,<-hQl,ao];simp
   have tW:(B.map V.bool).getD pre.length .any=.bool (B.getD pre.length false):=by
    rw[getD_eq_getElem?_getD,getElem?_map,getElem?_eq_getElem Xt,getD_eq_getElem?_getD,getElem?_eq_getElem Xt];rfl
   have pW:kB B (pre++ [q]) 0=kB B pre 0++if B.getD pre.length false then[q]else[]:=by
    rw[rP];simp[kB]
   have Iq:=zl B pre 0;have cR:pre.length<=qs.length:=by rw[ao];simp
   cases hb:B.getD pre.length false with
   | false=>
    rw[hb]at tW pW;simp -implicitDefEqProofs only[h2,h3,h6,h7,h8,gu,j0,vT,an ao,aa ao hlen,ba,cP,hg,A2,tW,Xt,length_map,go_sem];exact⟨post.length,Nat.lt_succ_self _,pre++ [q],post,kv,_,by simp[ao],rfl,rfl,by simp,rfl,by rw[pW];simpa using bm.app _,dW,iT,ir,vn⟩
   | true=>
    rw[hb]at tW pW;simp -implicitDefEqProofs only[h2,h3,h6,h7,h8,gu,j0,vT,an ao,aa ao hlen,ba,cP,hg,A2,tW,Xt,length_map,go_sem];have bJ:∀L:List ak,OV (ak.row [c0]::ak.row [.agg [.ag,.ag]]:: .dead::ak.row [.agg [.fs (qs.map aF),.fs (qm.map encS)]]::(J++L)) kv ((kB B pre 0).map aF):=fun L=>bm.app L
    refine cu (bJ _) (fun i o l h=>by cases h) (fo _) (by simp;omega) ?_;rintro bN H' bo hle cp;obtain⟨pO,lV⟩:=cp 0 (by simp) dW;obtain⟨ky,pn⟩:=cp 1 (by simp) iT;obtain⟨jO,nY⟩:=cp 2 (by simp) ir;obtain⟨F4,QZ⟩:=cp 3 (by simp) vn;simp only[getElem?_cons_zero,getElem?_cons_succ]at pO ky jO F4;obtain⟨J',rfl⟩:=m5 pO ky jO F4;simp -implicitDefEqProofs only[h2,h3,h6,h7,h8,gu,j0,vT,aa ao hlen,go_sem];exact⟨post.length,Nat.lt_succ_self _,pre++ [q],post,bN,J',by simp[ao],rfl,by rw[A2],rfl,by simp,rfl,by rw[pW];simpa[aF]using bo,lV,pn,nY,QZ⟩
 ·rw[if_neg h0]at k9⊢;simp only[aP]at k9⊢;refine af.intro UI 900 (by simp) 20 ?_;simp -implicitDefEqProofs only[O8,go_sem];repeat' (first | ((first | ((with_reducible refine bj k9 ?_ ?_);(·simp[ae,al,cm])) | ((with_reducible apply cj);(·simp -implicitDefEqProofs only[map_cons,map_nil,push_cast,go_sem_proc]<;>rfl);(with_reducible exact k9);(·rfl)) | (with_reducible refine aD ?_));simp -implicitDefEqProofs only[h0,go_sem]) | (with_reducible refine aA.mk ?_ ?_) | (with_reducible refine And.intro ?_ ?_) | ((with_reducible refine bz ?_);simp -implicitDefEqProofs only[GZ,push_cast,go_sem_proc]) | intro _)
  all_goals (try simp_all)
mutual
theorem Hg {S:List Int}:∀(s:St) (n:Int),(∀x,n<=x->x<n+dA s->x∉S)->BX (zU S) s n=[]
 | .mk k r t v l e a b p ps,n,h=>by
  have:=h n (Int.le_refl _) (by simp only[dA];omega);rw[BX,zU,if_neg this]
theorem zm {S:List Int}:∀(l:List St) (n:Int),(∀x,n<=x->x<n+ai l->x∉S)->eZ (zU S) l n=[]
 | [],n,_=>by rw[eZ]
 | s::l,n,h=>by
  have hc:ai (s::l)=dA s+ai l:=by rw[ai]
  rw[eZ,Hg s n (fun x a b=>h x a (by omega)),zm l (n+dA s) (fun x a b=>h x (by omega) (by omega))];rfl
end
mutual
theorem Ky (ec:ByteArray->Bool) {S:List Int}:∀(s:St) (n:Int),(∀x,n<=x->x<n+dA s->(x∈S↔x∈Oo ec s n))->BX (zU S) s n=[GG ec s]
 | .mk k r t v l e a b p ps,n,h=>by
  have hc:dA (.mk k r t v l e a b p ps)=ai a+ai b+1:=by simp only[dA];omega
  rw[Oo]at h;have h0:=(h n (Int.le_refl _) (by omega)).2 (by simp);rw[BX,zU,if_pos h0,GG,p9 ec a (n+1) (fun x p q=> ?_),p9 ec b (n+1+ai a) (fun x p q=> ?_)];rotate_left
  ·rw[h x (by omega) (by omega)];simp only[mem_cons,mem_append];refine⟨fun hx=> ?_,fun hx=> .inr (.inl hx)⟩;rcases hx with rfl | hx | hx
   ·omega
   ·exact hx
   ·have:=mj b _ _ hx;omega
  ·rw[h x (by omega) (by omega)];simp only[mem_cons,mem_append];refine⟨fun hx=> ?_,fun hx=> .inr (.inr hx)⟩;rcases hx with rfl | hx | hx
   ·omega
   ·have:=mj a _ _ hx;omega
   ·exact hx
theorem p9 (ec:ByteArray->Bool) {S:List Int}:∀(l:List St) (n:Int),(∀x,n<=x->x<n+ai l->(x∈S↔x∈y3 ec l n))->eZ (zU S) l n=eH ec l
 | [],n,_=>by rw[eZ,eH]
 | s::l,n,h=>by
  have hc:ai (s::l)=dA s+ai l:=by rw[ai]
  rw[y3]at h;rw[eZ,eH,Ky ec s n (fun x p q=> ?_)]
  ·cases ht:oT ec s
   ·rw[ht]at h;simp only[Bool.false_eq_true,if_false,append_nil]at h⊢;rw[zm l (n+dA s) (fun x p q hx=> ?_)]
    ·rfl
    ·have:=AJ s _ _ ((h x (by omega) (by omega)).1 hx);omega
   ·rw[ht]at h;simp only[if_true]at h⊢;rw[p9 ec l (n+dA s) (fun x p q=> ?_)]
    ·rfl
    ·rw[h x (by omega) (by omega),mem_append];refine⟨fun hx=> ?_,fun hx=> .inr hx⟩;rcases hx with hx | hx
     ·have:=AJ s _ _ hx;omega
     ·exact hx
  ·rw[h x (by omega) (by omega),mem_append];refine⟨fun hx=> ?_,fun hx=> .inl hx⟩;rcases hx with hx | hx
   ·exact hx
   ·split at hx
    ·have:=mj l _ _ hx;omega
    ·simp at hx
end
def keP (ec:ByteArray->Bool) (X:List Pr) (i:Int):Pr:=match X[i.toNat]? with
 | some q=>⟨q.name,q.au,eH ec q.steps⟩
 | none=>⟨⟨#[]⟩,[],[]⟩
theorem CC {P:bH} {ec:ByteArray->Bool} {D W:List Int} (hW:∀i,i<P.procs.length->(i:Int)∈D->∀x,dc P i<=x->x<dc P i+ai (aK P.procs i)->(x∈W↔x∈y3 ec (aK P.procs i) (dc P i))):
 ∀(l:List Pr) (i:Nat),P.procs.drop i=l->kB (mA P.procs.length D) (qu (zU W) l (dc P i)) i=(((List.range' i l.length).filter fun(j:Nat)=>decide ((j:Int)∈D)).map fun(j:Nat)=>(j:Int)).map (keP ec P.procs)
 | [],i,h=>by simp[qu,kB]
 | q::l,i,h=>by
  have hi:i<P.procs.length:=by
   refine Classical.byContradiction fun hn=> ?_
   rw[drop_eq_nil_of_le (by omega)]at h;cases h
  have hd:=drop_eq_getElem_cons hi;rw[h]at hd;injection hd with hq hl
  have hb:aK P.procs i=q.steps:=by rw[uf hi,<-hq]
  have ih:=CC hW l (i+1) hl.symm;have ho:=k7 hi;have hw:=hW i hi;rw[hb]at ho hw;have hg:(mA P.procs.length D).getD i false=decide ((i:Int)∈D):=by
   rw[getD_eq_getElem?_getD,gw _ _ _ hi];rfl
  rw[qu,kB,hg,<-ho,ih,length_cons,range'_succ,filter_cons];by_cases hD:(i:Int)∈D
  ·simp only[hD,decide_true,if_true,map_cons,singleton_append,List.cons.injEq,and_true];rw[p9 ec q.steps (dc P i) (hw hD)];have:P.procs[(i:Int).toNat]? =some q:=by rw[Int.toNat_natCast,getElem?_eq_getElem hi,<-hq]
   rw[keP,this]
  ·simp[hD]
theorem Kz (P:bH) (dx:AN P) {D:List Int} (hD:mA P.procs.length D=(mz P).procs):L7 P=DV P D:=by
 have xS:=DU P;rw[L7,DV,Py,qV];generalize Gz:ga P.procs (bY P.procs)=ec at*;have J9:∀i x,i<P.procs.length->x∈y3 ec (aK P.procs i) (dc P i)->(ai P.main:Int)<=x/\dc P i<=x/\x<dc P (i+1):=by
  intro i x hi hx;have h1:=mj _ _ _ hx;have h2:=jy (P:=P) (i:=0) i;rw[Nat.zero_add,oC]at h2;have h3:=k7 hi;omega
 have hDi:∀i:Nat,(mz P).procs[i]? =some true↔i<P.procs.length/\(i:Int)∈D:=by
  intro i;rw[<-hD];by_cases hi:i<P.procs.length
  ·rw[gw _ _ _ hi];simp[hi]
  ·rw[getElem?_eq_none (by rw[ie];omega)];simp[hi]
 have VB:eZ (zU (mz P).steps) P.main 0=eH ec P.main:=by
  refine p9 ec _ _ (fun x a b=> ?_);rw[xS x];constructor
  ·rintro(h | ⟨i,hi,hx⟩)
   ·exact h
   ·have:=J9 i x ((hDi i).1 hi).1 hx;omega
  ·exact fun h=> .inl h
 have hq:=CC (P:=P) (ec:=ec) (D:=D) (W:=(mz P).steps) (fun i hi hiD x a b=>by
  rw[xS x];constructor
  ·rintro(h | ⟨j,hj,hx⟩)
   ·have h1:=mj _ _ _ h;have h2:=jy (P:=P) (i:=0) i;rw[Nat.zero_add,oC]at h2;omega
   ·obtain⟨oN,Xk⟩:=(hDi j).1 hj;have rm:j=i:=by
     have h1:=J9 j x oN hx;have h3:=k7 hi;rcases Nat.lt_trichotomy i j with h | h | h
     ·have:=jy (P:=P) (i:=i+1) (j - (i+1));have e:i+1+(j - (i+1))=j:=by omega
      rw[e]at this;omega
     ·exact h.symm
     ·have:=jy (P:=P) (i:=j+1) (i - (j+1));have e:j+1+(i - (j+1))=i:=by omega
      rw[e]at this;omega
    subst rm;exact hx
  ·intro h2;exact .inr ⟨i,(hDi i).2 ⟨hi,hiD⟩,h2⟩) P.procs 0 rfl
 rw[oC,hD,<-range_eq_range']at hq;rw[VB,hq];rfl
theorem t217 (P:bH) (dx:AN P) (KA:Ka P):af Tryz.prog 24 [aP P] (·=aP (L7 P)):=by
 have KA:af Tryz.prog 57 [aP P] (fun r=>∃D:List Int,r=.dJ [aP (L7 P),.fs (D.map (.int .i64))]):=KA.mono (by
  rintro r ⟨D,_,hD,rfl⟩;exact⟨kA P.procs.length D,by rw[Kz P dx hD]⟩)
 simp only[aP]at KA⊢;refine af.intro c217 200 (by simp) 20 ?_;simp -implicitDefEqProofs only[UL,go_sem];refine gJ (by simp[ae,al,aq,ah]) KA ?_;rintro r ⟨D,rfl⟩;simp -implicitDefEqProofs only[go_sem];simp -implicitDefEqProofs only[UM,push_cast,go_sem_proc]
theorem VC (q:Pr):af Tryz.prog 85 [aF q,aF q] (·=.bool true):=by
 have hU:=NA q.au;have wh:=Dp q.steps (fun y _=>Ju y);simp only[aF];refine af.intro c256 200 (by simp) 20 ?_;simp -implicitDefEqProofs only[U6,decide_true,go_sem];repeat' (first | ((first | ((with_reducible first | refine bj hU ?_ ?_ | refine bj wh ?_ ?_);(·simp[ae,al,cm,aE,ah])) | ((with_reducible apply cj);(·simp -implicitDefEqProofs only[map_cons,map_nil,aE,ah,push_cast,go_sem_proc]<;>rfl);(with_reducible first | exact hU | exact wh);(·rfl)) | (with_reducible refine aD ?_));simp -implicitDefEqProofs only[decide_true,go_sem]) | (with_reducible refine aA.mk ?_ ?_) | (with_reducible refine And.intro ?_ ?_) | ((with_reducible refine bz ?_);simp -implicitDefEqProofs only[U7,push_cast,go_sem_proc]) | intro _)
theorem VD (xs:List Pr):af Tryz.prog 87 [.fs (xs.map aF),.fs (xs.map aF),.a6 85 [] []] (·=.bool true):=by
 refine af.intro c257 200 (by simp) 20 ?_;simp -implicitDefEqProofs only[U8,decide_true,go_sem];intro hlen _ _;refine aL (fun m e H=>∃pre post,xs=pre++post/\m=post.length/\e 0=.fs (xs.map aF)/\e 1=.fs (xs.map aF)/\e 2=.a6 85 [] []/\e 15=.fs (xs.map aF)/\e 16=.int .i64 xs.length/\e 17=.int .i64 pre.length) xs.length ⟨[],xs,by simp[az,aC]⟩ ?_;rintro m e H ⟨pre,post,ao,rfl,h0,h1,h2,gy,cZ,ea⟩;cases post with
 | nil=>
  simp -implicitDefEqProofs only[h0,h1,h2,gy,cZ,ea,aI ao,decide_false,go_sem];simp -implicitDefEqProofs only[Pj,push_cast,go_sem_proc]
 | cons y post=>
  have hg:=aO aF ao;have hy:=VC y;simp only[aF]at hg hy;simp -implicitDefEqProofs only[h0,h1,h2,gy,cZ,ea,hg,an ao,aa ao hlen,decide_true,go_sem];repeat' (first | ((first | ((with_reducible refine bj hy ?_ ?_);(·simp[ae,al,cm,aE,ah])) | ((with_reducible apply cj);(·simp -implicitDefEqProofs only[map_cons,map_nil,aE,ah,push_cast,go_sem_proc]<;>rfl);(with_reducible exact hy);(·rfl)) | (with_reducible refine aD ?_));simp -implicitDefEqProofs only[h0,h1,h2,gy,cZ,ea,hg,an ao,aa ao hlen,go_sem]) | (with_reducible refine aA.mk ?_ ?_) | (with_reducible refine And.intro ?_ ?_) | ((with_reducible refine bz ?_);simp -implicitDefEqProofs only[Pj,push_cast,go_sem_proc]) | intro _)
  exact⟨_,Nat.lt_succ_self _,pre++ [y],post,by simp[ao],rfl,by simp⟩
theorem CD (P:bH):af Tryz.prog 27 [aP P,aP P] (·=.bool true):=by
 have VE:=VD P.procs;have wh:=Dp P.main (fun y _=>Ju y);simp only[aP];refine af.intro c220 200 (by simp) 20 ?_;simp -implicitDefEqProofs only[UO,decide_true,go_sem];repeat' (first | ((first | ((with_reducible first | refine bj VE ?_ ?_ | refine bj wh ?_ ?_);(·simp[ae,al,cm,aq,ah])) | ((with_reducible apply cj);(·simp -implicitDefEqProofs only[map_cons,map_nil,aq,ah,push_cast,go_sem_proc]<;>rfl);(with_reducible first | exact VE | exact wh);(·rfl)) | (with_reducible refine aD ?_));simp -implicitDefEqProofs only[decide_true,go_sem]) | (with_reducible refine aA.mk ?_ ?_) | (with_reducible refine And.intro ?_ ?_) | ((with_reducible refine bz ?_);simp -implicitDefEqProofs only[UP,push_cast,go_sem_proc]) | intro _)
def iA (M:List (ByteArray×ByteArray)):List V:=M.map fun x=> .str x.1
def iX (M:List (ByteArray×ByteArray)):List V:=M.map fun x=> .str x.2
def lf:List (ByteArray×ByteArray)->ByteArray->Option ByteArray
 | [],_=>none
 | x::M,r=>if r=x.1 then some x.2 else lf M r
def dT (M:List (ByteArray×ByteArray)) (r:ByteArray):ByteArray:=(lf M r).getD r
theorem mH (M:List (ByteArray×ByteArray)) (r:ByteArray):ya (false,[true]) (iA M) (.str r)=true:=by
 simp[ya,o8,iN,gE,fF,iA]
theorem lg (r:ByteArray):∀M:List (ByteArray×ByteArray),gG (iA M) (iX M) (.str r)=(lf M r).map .str
 | []=>by simp[iA,iX,gG,lf]
 | x::M=>by
  have ih:=lg r M;simp only[iA,iX]at ih⊢;by_cases h:r=x.1<;>simp[gG,gE,fF,lf,h,ih]
theorem dB (M:List (ByteArray×ByteArray)):ae (iA M)=true:=bS (fun x=>by simp[al]) M
theorem dC (M:List (ByteArray×ByteArray)):ae (iX M)=true:=bS (fun x=>by simp[al]) M
theorem t297 (M:List (ByteArray×ByteArray)) (r:ByteArray):af Tryz.prog 152 [.str r,.bc [.db (iA M) (iX M)]] (·=.str (dT M r)):=by
 refine af.intro Vf 100 (by simp) 20 ?_;cases h:lf M r with
 | none=>
  simp -implicitDefEqProofs only[Km,mH,lg,fT,h,Option.map_none,Option.getD_none,Option.isSome_none,go_sem];simp -implicitDefEqProofs only[Kn,push_cast,go_sem_proc];rw[dT,h];rfl
 | some z=>
  simp -implicitDefEqProofs only[Km,mH,lg,fT,h,Option.map_some,Option.getD_some,Option.isSome_some,go_sem];simp -implicitDefEqProofs only[Kn,push_cast,go_sem_proc];rw[dT,h];rfl
def Ee (M:List (ByteArray×ByteArray)):St->St
 | .mk k r t v l e a b p ps=> .mk k (dT M r) (dT M t) v l e a b p (ps.map (dT M))
theorem L8 (M:List (ByteArray×ByteArray)) (mv:V) (vl:al mv=true) (oM:aw mv=[mv]) (ER:V.isAny mv=false) (xW:∀H n,fz H (n+1) mv=some mv) (PC:∀r,af Tryz.prog 152 [.str r,.bc [mv]] (·=.str (dT M r))) (x:St) (hx:wS x<=1000000):af Tryz.prog 76 [encS x,mv] (·=encS (Ee M x)):=by
 simp only[V.isAny]at ER;rcases x with⟨k,r,t,v,l,⟨ek,en,es,aR⟩,a,b,p,ps⟩
 simp only[wS,wE]at hx;have Hf:=t68 _ (.mk ek en es aR) (Nat.lt_succ_self _) (by simp only[wE];omega);have L9:=PC r;have Ma:=PC t;rw[bp]at Hf;rw[ay];refine af.intro c248 400 (by simp) 20 ?_;simp -implicitDefEqProofs only[UZ,oM,ER,go_sem];repeat' (first | ((first | ((with_reducible first | refine bj L9 ?_ ?_ | refine bj Ma ?_ ?_ | refine bj Hf ?_ ?_);(·simp[ae,al,cm,vl,xW,oM])) | ((with_reducible apply cj);(·simp -implicitDefEqProofs only[map_cons,map_nil,vl,xW,oM,push_cast,go_sem_proc]<;>rfl);(with_reducible first | exact L9 | exact Ma | exact Hf);(·rfl)) | (with_reducible refine aD ?_));simp -implicitDefEqProofs only[oM,ER,vl,go_sem]) | (with_reducible refine aA.mk ?_ ?_) | (with_reducible refine And.intro ?_ ?_) | ((with_reducible refine bz ?_);simp -implicitDefEqProofs only[Kh,oM,ER,vl,xW,push_cast,go_sem_proc]) | intro _)
 rename_i hlen;generalize Xu:V.agg [.int .i64 k,.str (dT M r),.str (dT M t),.str v,.str l,.int .i64 ek,.int .i64 en,.str es,.fs (aR.map bu),.fs (a.map encS),.fs (b.map encS),.str p,.fs (ps.map .str)]=NB;have Xu:=Xu.symm;generalize hZ:V.agg [.int .i64 0,.str ⟨#[]⟩,.str ⟨#[]⟩,.str ⟨#[]⟩,.str ⟨#[]⟩,.int .i64 0,.int .i64 0,.str ⟨#[]⟩,.ag,.ag,.ag,.str ⟨#[]⟩,.ag]=Z;have hZ:=hZ.symm;refine aL (fun m e H=>∃pre post kv J,ps=pre++post/\m=post.length/\e 2=.ptr 0 0 0/\e 4=.ptr 2 0 0/\e 5=.a6 152 [] [.ptr 1 0 0]/\e 6=kv/\e 25=.fs (ps.map .str)/\e 26=.int .i64 ps.length/\e 27=.int .i64 pre.length/\
  H=ak.row [NB]::ak.row [mv]::ak.row [Z]::J/\OV H kv ((pre.map (dT M)).map .str)/\a7 kv 0/\a7 kv 1/\a7 kv 2) ps.length
  ⟨[],ps,.ag,[],rfl,rfl,by simp[az,aC],by simp[az,aC],by simp[az,aC],by simp[az,aC],by simp[az,aC],by simp[az,aC],by simp[az,aC],by simp[Xu,hZ],.inl ⟨by simp,rfl⟩,(fun a b h=>by cases h),(fun a b h=>by cases h),(fun a b h=>by cases h)⟩ ?_
 rintro m e H ⟨pre,post,kv,J,ao,rfl,h2,h4,h5,h6,jP,gu,j0,rfl,bm,dW,iT,ir⟩;have cP:=bm.one;have ba:=bm.cS;simp only[V.one]at ba;cases post with
 | nil=>
  have ev:pre=ps:=by rw[ao];simp
  rw[ev]at bm;simp -implicitDefEqProofs only[h2,h4,h5,h6,jP,gu,j0,aI ao,ba,cP,Xu,hZ,go_sem];have bJ:=(bm.set (x:=ak.row [.agg [.int .i64 k,.str (dT M r),.str (dT M t),.str v,.str l,.int .i64 ek,.int .i64 en,.str es,.fs (aR.map bu),.fs (a.map encS),.fs (b.map encS),.str p,kv]]) dW).set (x:=ak.row [.agg [.int .i64 k,.str (dT M r),.str (dT M t),.str v,.str l,.int .i64 ek,.int .i64 en,.str es,.fs (aR.map bu),.fs (a.map encS),.fs (b.map encS),.str p,kv]]) ir;simp only[set_cons_succ,set_cons_zero]at bJ;have hz:fz _ 19 kv=_:=dw (f:=V.str) (n:=17) (fun H x=>by simp[dN]) bJ;simp -implicitDefEqProofs only[Kh,h2,h4,hz,push_cast,go_sem_proc];try rw[Ee,ay]
 | cons q post=>
  have hg:=aO V.str ao;have Mb:=PC q;have cR:pre.length<=ps.length:=by rw[ao];simp
  simp -implicitDefEqProofs only[h2,h4,h5,h6,jP,gu,j0,an ao,aa ao hlen,ba,cP,hg,go_sem];repeat' (first | ((first | ((with_reducible refine bj Mb ?_ ?_);(·simp[ae,al,cm,vl,xW,oM])) | ((with_reducible apply cj);(·simp -implicitDefEqProofs only[map_cons,map_nil,vl,xW,oM,push_cast,go_sem_proc]<;>rfl);(with_reducible exact Mb);(·rfl)) | (with_reducible refine aD ?_));simp -implicitDefEqProofs only[h2,h4,h5,h6,jP,gu,j0,an ao,aa ao hlen,ba,cP,hg,go_sem]) | (with_reducible refine aA.mk ?_ ?_) | (with_reducible refine And.intro ?_ ?_) | ((with_reducible refine bz ?_);simp -implicitDefEqProofs only[Kh,oM,xW,push_cast,go_sem_proc]) | intro _)
  refine cu bm (fun i o l h=>by cases h) (cA _ _ (fun x=>by simp[aw]) _) (by simp only[length_map,length_cons,length_nil];omega) ?_;rintro bN H' bo hle cp;obtain⟨pO,lV⟩:=cp 0 (by simp) dW;obtain⟨ky,pn⟩:=cp 1 (by simp) iT;obtain⟨jO,nY⟩:=cp 2 (by simp) ir;simp only[getElem?_cons_zero,getElem?_cons_succ]at pO ky jO;obtain⟨J',rfl⟩:=jo pO ky jO;simp -implicitDefEqProofs only[h2,h4,h5,h6,jP,gu,j0,aa ao hlen,go_sem];refine⟨post.length,Nat.lt_succ_self _,pre++ [q],post,bN,J',by simp[ao],rfl,rfl,by simp,rfl,by simpa using bo,lV,pn,nY⟩
theorem t248 (M:List (ByteArray×ByteArray)) (x:St) (hx:wS x<=1000000):af Tryz.prog 76 [encS x,.db (iA M) (iX M)] (·=encS (Ee M x)):=
 L8 M _ (by simp[al,dB,dC]) rfl rfl (fun H n=>by simp[fz,al,dB,dC]) (fun r=>t297 M r) x hx
theorem VF (r:ByteArray):af Tryz.prog 152 [.str r,.bc [.cG]] (·=.str (dT [] r)):=by
 have hk:ya (false,[true]) [] (.str r)=true:=by simp[ya,o8,iN]
 refine af.intro Vf 100 (by simp) 20 ?_;simp -implicitDefEqProofs only[Km,hk,fT,Option.getD_none,Option.isSome_none,go_sem];simp -implicitDefEqProofs only[Kn,push_cast,go_sem_proc];rfl
theorem VG (x:St) (hx:wS x<=1000000):af Tryz.prog 76 [encS x,.cG] (·=encS (Ee [] x)):=
 L8 [] _ rfl rfl rfl (fun H n=>by simp[fz,al]) VF x hx
def xr (M:List (ByteArray×ByteArray)) (n0:Int) (n:Int) (x:St):List St:=if n<n0 then[Ee M x]else[x]
theorem t247 (M:List (ByteArray×ByteArray)) (n0 n:Int) (x:St) (hx:wS x<=1000000):af Tryz.prog 75 [.int .i64 n,encS x,.bc [.int .i64 n0],.bc [.db (iA M) (iX M)]] (·=.fs ((xr M n0 n x).map encS)):=by
 have vq:=t248 M x hx;rcases x with⟨k,r,t,v,l,⟨ek,en,es,aR⟩,a,b,p,ps⟩
 rw[Ee]at vq;rw[ay,ay]at vq;rw[ay];refine af.intro c247 200 (by simp) 20 ?_;by_cases h:n<n0
 ·have hd:decide (n<n0)=true:=by simpa using h
  simp -implicitDefEqProofs only[Pd,hd,go_sem];repeat' (first | ((first | ((with_reducible refine bj vq ?_ ?_);(·simp[ae,al,cm,dB,dC,bf,ah,aE])) | ((with_reducible apply cj);(·simp -implicitDefEqProofs only[map_cons,map_nil,dB,dC,bf,ah,aE,push_cast,go_sem_proc]<;>rfl);(with_reducible exact vq);(·rfl)) | (with_reducible refine aD ?_));simp -implicitDefEqProofs only[hd,dB,dC,go_sem]) | (with_reducible refine aA.mk ?_ ?_) | (with_reducible refine And.intro ?_ ?_) | ((with_reducible refine bz ?_);simp -implicitDefEqProofs only[Pe,push_cast,go_sem_proc]) | intro _)
  all_goals (try simp[xr,h,Ee,ay])
 ·have hd:decide (n<n0)=false:=by simpa using h
  simp -implicitDefEqProofs only[Pd,hd,go_sem];simp -implicitDefEqProofs only[Pe,push_cast,go_sem_proc];simp[xr,h,ay]
theorem zn (tf:Int->St->List St) (h2:∀n x,dn (tf n x)<=wS x):∀(l:List St) (n:Int),dn (eZ tf l n)<=dn l
 | [],n=>by simp[eZ]
 | .mk k r t v l e a b p ps::l',n=>by
  have h1:=zn tf h2 a (n+1);have h3:=zn tf h2 b (n+1+ai a);have h4:=zn tf h2 l' (n+dA (.mk k r t v l e a b p ps));have h5:=h2 n (.mk k r t v l e (eZ tf a (n+1)) (eZ tf b (n+1+ai a)) p ps);simp only[wS]at h5;rw[eZ,BX,cB,dn,wS];omega
theorem VH (tf:Int->St->List St) (h1:∀n x,(tf n x).length<=1) (g:FuncId) (c1 c2:V) (jB:al c1=true) (jI:al c2=true) (KB:∀n x,dn (tf n x)<=wS x) (oG:∀n x,wS x<=1000000->af Tryz.prog g [.int .i64 n,encS x,c1,c2] (·=.fs ((tf n x).map encS))) (xs:List St) (hw:dn xs<=1000000) (n:Int) (lV:0<=n) (hn:n+ai xs<=1000000)
 (h:∀k r t v l e a b p ps,St.mk k r t v l e a b p ps∈xs->∀n:Int,0<=n->
   (n+ai a<=1000000->af Tryz.prog 138 [.fs (a.map encS),.int .i64 n,.a6 g [] [c1,c2]] (·=.dJ [.fs ((eZ tf a n).map encS),.int .i64 (n+ai a)]))/\
   (n+ai b<=1000000->af Tryz.prog 138 [.fs (b.map encS),.int .i64 n,.a6 g [] [c1,c2]] (·=.dJ [.fs ((eZ tf b n).map encS),.int .i64 (n+ai b)]))):
 af Tryz.prog 138 [.fs (xs.map encS),.int .i64 n,.a6 g [] [c1,c2]] (·=.dJ [.fs ((eZ tf xs n).map encS),.int .i64 (n+ai xs)]):=by
 have Zr:=eh xs;refine af.intro c50 400 (by simp) 20 ?_;simp -implicitDefEqProofs only[YJ,go_sem];intro hlen;refine aL (fun m e H=>∃pre post kv,xs=pre++post/\m=post.length/\e 1=.int .i64 (n+ai pre)/\e 2=.a6 g [] [c1,c2]/\e 8=kv/\e 12=.fs (xs.map encS)/\e 13=.int .i64 xs.length/\e 14=.int .i64 pre.length/\OV H kv ((eZ tf pre n).map encS)) xs.length ⟨[],xs,.ag,by simp[az,aC,ai],rfl,by simp[az,aC,ai],by simp[az,aC],by simp[az,aC],by simp[az,aC],by simp[az,aC],by simp[az,aC],.inl ⟨rfl,rfl⟩⟩ ?_;rintro m e H ⟨pre,post,kv,ao,rfl,s3,h2,h8,dU,eV,dG,bm⟩;cases post with
 | nil=>
  have ev:pre=xs:=by rw[ao];simp
  simp -implicitDefEqProofs only[s3,h2,h8,dU,eV,dG,aI ao,go_sem];have hz:fz H 19 kv=_:=dw (f:=encS) (n:=17) (fun H x=>eg H 16 x) bm;rw[ev]at hz;simp -implicitDefEqProofs only[R7,hz,push_cast,go_sem_proc];rw[ev]
 | cons y post=>
  have hg:=aO encS ao;have zP:ai xs=ai pre+(dA y+ai post):=by rw[ao,aX,ai]
  have SV:dn xs=dn pre+(wS y+dn post):=by rw[ao,cB,dn]
  have cR:pre.length<=xs.length:=by rw[ao];simp
  have EE:=oq tf h1 pre n;rcases y with⟨k,r,t,v,l,⟨ek,en,es,aR⟩,a,b,p,ps⟩
  have BV:eZ tf (pre++ [.mk k r t v l (.mk ek en es aR) a b p ps]) n=eZ tf pre n++tf (n+ai pre) (.mk k r t v l (.mk ek en es aR) (eZ tf a (n+ai pre+1)) (eZ tf b (n+ai pre+1+ai a)) p ps):=by
   rw[om];simp only[eZ,BX,append_nil]
  have htl1:=h1 (n+ai pre) (.mk k r t v l (.mk ek en es aR) (eZ tf a (n+ai pre+1)) (eZ tf b (n+ai pre+1+ai a)) p ps);have SZ:=zn tf KB a (n+ai pre+1);have hwb:=zn tf KB b (n+ai pre+1+ai a);have A1:=oG (n+ai pre) (.mk k r t v l (.mk ek en es aR) (eZ tf a (n+ai pre+1)) (eZ tf b (n+ai pre+1+ai a)) p ps) (by have:=SV;simp only[wS,wE]at this⊢;omega);simp only[dA]at zP;simp only[wS,wE]at SV;have hh:=h k r t v l (.mk ek en es aR) a b p ps (by rw[ao];simp);have ha:=(hh (n+ai pre+1) (by omega)).1 (by omega);have hb:=(hh (n+ai pre+1+ai a) (by omega)).2 (by omega);have pV:=t46 ps (by omega);have Hf:=t68 _ (.mk ek en es aR) (Nat.lt_succ_self _) (by simp only[wE];omega);have Dv:ai (pre++ [.mk k r t v l (.mk ek en es aR) a b p ps])=ai pre+(1+ai a+ai b):=by rw[aX];simp[ai,dA]
  rw[bp]at Hf;rw[ay]at hg A1;generalize hta:eZ tf a (n+ai pre+1)=ta at*;generalize htb:eZ tf b (n+ai pre+1+ai a)=tb at*;have w1:=bP (x:=n+ai pre+1) (by omega) (by omega);simp -implicitDefEqProofs only[s3,h2,h8,dU,eV,dG,an ao,aa ao hlen,hg,w1,go_sem];repeat' (first | ((first | ((with_reducible first | refine bj pV ?_ ?_ | refine bj Hf ?_ ?_ | refine bj ha ?_ ?_ | refine bj hb ?_ ?_ | refine bj A1 ?_ ?_);(·simp[ae,al,cm,jB,jI])) | ((with_reducible apply cj);(·simp -implicitDefEqProofs only[map_cons,map_nil,jB,jI,push_cast,go_sem_proc]<;>rfl);(with_reducible first | exact pV | exact Hf | exact ha | exact hb | exact A1);(·rfl)) | (with_reducible refine aD ?_));simp -implicitDefEqProofs only[s3,h2,h8,dU,eV,dG,an ao,aa ao hlen,hg,w1,go_sem]) | (with_reducible refine aA.mk ?_ ?_) | (with_reducible refine And.intro ?_ ?_) | ((with_reducible refine bz ?_);simp -implicitDefEqProofs only[R7,push_cast,go_sem_proc]) | intro _)
  ·exact mf _
  ·refine cu (bm.app _) (fun i o l h=>by cases h) (cx _) (by simp;omega) ?_;rintro bN H' bo hle cp;simp -implicitDefEqProofs only[s3,h2,h8,dU,eV,dG,an ao,aa ao hlen,hg,go_sem];refine⟨_,Nat.lt_succ_self _,pre++ [.mk k r t v l (.mk ek en es aR) a b p ps],post,bN,by simp[ao],rfl,?_,rfl,by simp,?_⟩
   ·rw[Dv];simp only[Int.natCast_add,Int.natCast_one];congr 1;omega
   ·rw[BV];simpa using bo
theorem KC (tf:Int->St->List St) (h1:∀n x,(tf n x).length<=1) (g:FuncId) (c1 c2:V) (jB:al c1=true) (jI:al c2=true) (KB:∀n x,dn (tf n x)<=wS x) (oG:∀n x,wS x<=1000000->af Tryz.prog g [.int .i64 n,encS x,c1,c2] (·=.fs ((tf n x).map encS))):∀(m:Nat) (xs:List St),SizeOf.sizeOf xs<m->dn xs<=1000000->∀n:Int,0<=n->n+ai xs<=1000000->
 af Tryz.prog 138 [.fs (xs.map encS),.int .i64 n,.a6 g [] [c1,c2]] (·=.dJ [.fs ((eZ tf xs n).map encS),.int .i64 (n+ai xs)])
 | 0,xs,h,_=>absurd h (Nat.not_lt_zero _)
 | m+1,xs,hm,hw=>fun n h0 hn=>VH tf h1 g c1 c2 jB jI KB oG xs hw n h0 hn (fun k r t v l e a b p ps da n h0=>by
  have hs:=sizeOf_lt_of_mem da;simp only[St.mk.sizeOf_spec]at hs;have QY:wS (.mk k r t v l e a b p ps)<=dn xs:=by
   obtain⟨p1,p2,rfl⟩:=append_of_mem da;rw[cB,dn];omega
  simp only[wS]at QY;exact⟨fun hc=>KC tf h1 g c1 c2 jB jI KB oG m a (by omega) (by omega) n h0 hc,fun hc=>KC tf h1 g c1 c2 jB jI KB oG m b (by omega) (by omega) n h0 hc⟩)
theorem t20d (tf:Int->St->List St) (h1:∀n x,(tf n x).length<=1) (g:FuncId) (c1 c2:V) (jB:al c1=true) (jI:al c2=true) (KB:∀n x,dn (tf n x)<=wS x) (oG:∀n x,wS x<=1000000->af Tryz.prog g [.int .i64 n,encS x,c1,c2] (·=.fs ((tf n x).map encS))) (P:bH) (hw:iE P<=1000000) (ew:P.procs.length<=1000000):
 af Tryz.prog 64 [aP P,.a6 g [] [c1,c2]] (·=aP (qV tf P)):=by
 have xU:=kx P;rcases P with⟨xs,main⟩
 simp only[iE,total]at hw xU;have hm:=KC tf h1 g c1 c2 jB jI KB oG _ main (Nat.lt_succ_self _) (by omega) 0 (by omega) (by omega);refine af.intro c20 400 (by simp) 20 ?_;simp -implicitDefEqProofs only[Yy,aP,go_sem];repeat' (first | ((first | ((with_reducible refine bj hm ?_ ?_);(·simp[ae,al,cm,jB,jI])) | ((with_reducible apply cj);(·simp -implicitDefEqProofs only[map_cons,map_nil,jB,jI,push_cast,go_sem_proc]<;>rfl);(with_reducible exact hm);(·rfl)) | (with_reducible refine aD ?_));simp -implicitDefEqProofs only[jB,jI,go_sem]) | (with_reducible refine aA.mk ?_ ?_) | (with_reducible refine And.intro ?_ ?_) | ((with_reducible refine bz ?_);simp -implicitDefEqProofs only[Nr,push_cast,go_sem_proc]) | intro _)
 rename_i hlen;simp only[Int.zero_add]at*;have hpl':xs.length<=1000000:=ew;generalize DN:eZ tf main 0=mt at*;refine aL (fun m e H=>∃pre post kv J,xs=pre++post/\m=post.length/\e 1=.a6 g [] [c1,c2]/\e 4=.ptr 1 0 0/\e 5=.ptr 2 0 0/\e 6=.int .i64 ((ai main:Int)+bD pre)/\e 18=.fs (xs.map aF)/\e 19=.int .i64 xs.length/\e 20=.int .i64 pre.length/\
  H=ak.row [.agg [.fs (xs.map aF),.fs (main.map encS)]]::ak.row [.agg [.ag,.ag]]::ak.row [.agg [kv,.fs (mt.map encS)]]::J/\OV H kv ((qu tf pre (ai main)).map aF)/\a7 kv 0/\a7 kv 1/\a7 kv 2) xs.length ⟨[],xs,.ag,[],by simp[az,aC],rfl,by simp[az,aC],by simp[az,aC],by simp[az,aC],by simp[az,aC,bD],by simp[az,aC],by simp[az,aC],by simp[az,aC],rfl,.inl ⟨rfl,rfl⟩,(fun a b h=>by cases h),(fun a b h=>by cases h),(fun a b h=>by cases h)⟩ ?_
 rintro m e H ⟨pre,post,kv,J,ao,rfl,s3,h4,h5,h6,ft,iV,iG,rfl,bm,dW,iT,ir⟩;have ba:V.one kv=true:=by rcases bm with⟨_,rfl⟩ | ⟨_,id,rfl,_⟩<;>rfl
 simp only[V.one]at ba;have cP:=bm.one;cases post with
 | nil=>
  have ev:pre=xs:=by rw[ao];simp
  simp -implicitDefEqProofs only[s3,h4,h5,h6,ft,iV,iG,aI ao,ba,cP,go_sem];have bJ:OV (ak.row [.agg [.fs (xs.map aF),.fs (main.map encS)]]::ak.row [.agg [kv,.fs (mt.map encS)]]::ak.row [.agg [kv,.fs (mt.map encS)]]::J) kv ((qu tf pre (ai main)).map aF):=bm.set (x:=ak.row [.agg [kv,.fs (mt.map encS)]]) iT;have hz:fz _ 19 kv=_:=dw (f:=aF) (n:=17) (fun H x=>gr H 16 x) bJ;rw[ev]at hz;simp -implicitDefEqProofs only[Nr,h4,hz,push_cast,go_sem_proc];rw[qV,DN]
 | cons q post=>
  have hg:=aO aF ao;simp only[aF]at hg;have Qw:bD xs=bD pre+(ai q.steps+bD post):=by rw[ao,bE,bD]
  have Xr:lM xs=lM pre+(q.au.length+dn q.steps+lM post):=by rw[ao,fZ,lM]
  have cR:pre.length<=xs.length:=by rw[ao];simp
  have BV:qu tf (pre++ [q]) (ai main)=qu tf pre (ai main)++ [⟨q.name,q.au,eZ tf q.steps ((ai main:Int)+bD pre)⟩]:=by
   rw[ot];rfl
  have hq:=KC tf h1 g c1 c2 jB jI KB oG _ q.steps (Nat.lt_succ_self _) (by omega) ((ai main:Int)+bD pre) (by omega) (by omega);have pV:=t46 q.au (by omega);generalize T5:eZ tf q.steps ((ai main:Int)+bD pre)=qt at*;simp -implicitDefEqProofs only[s3,h4,h5,h6,ft,iV,iG,an ao,aa ao hlen,ba,cP,hg,go_sem];repeat' (first | ((first | ((with_reducible first | refine bj pV ?_ ?_ | refine bj hq ?_ ?_);(·simp[ae,al,cm,jB,jI])) | ((with_reducible apply cj);(·simp -implicitDefEqProofs only[map_cons,map_nil,jB,jI,push_cast,go_sem_proc]<;>rfl);(with_reducible first | exact pV | exact hq);(·rfl)) | (with_reducible refine aD ?_));simp -implicitDefEqProofs only[s3,h4,h5,h6,ft,iV,iG,an ao,aa ao hlen,ba,cP,hg,go_sem]) | (with_reducible refine aA.mk ?_ ?_) | (with_reducible refine And.intro ?_ ?_) | ((with_reducible refine bz ?_);simp -implicitDefEqProofs only[Nr,push_cast,go_sem_proc]) | intro _)
  have bJ:∀L:List ak,OV (ak.row [.agg [.fs (xs.map aF),.fs (main.map encS)]]::ak.row [.agg [.ag,.ag]]::ak.row [.agg [kv,.fs (mt.map encS)]]::(J++L)) kv ((qu tf pre (ai main)).map aF):=fun L=>bm.app L
  refine cu (bJ _) (fun i o l h=>by cases h) (fo _) (by simp[kR];omega) ?_;rintro bN H' bo hle cp;obtain⟨pO,lV⟩:=cp 0 (by simp) dW;obtain⟨ky,pn⟩:=cp 1 (by simp) iT;obtain⟨jO,nY⟩:=cp 2 (by simp) ir;simp only[getElem?_cons_zero,getElem?_cons_succ]at pO ky jO;obtain⟨J',rfl⟩:=jo pO ky jO;have ej:V.one bN=true:=bo.cS;simp only[V.one]at ej;have gQ:=bo.one;simp -implicitDefEqProofs only[s3,h4,h5,h6,ft,iV,iG,an ao,aa ao hlen,ba,cP,ej,gQ,hg,go_sem];refine⟨_,Nat.lt_succ_self _,pre++ [q],post,bN,J',by simp[ao],rfl,?_,by simp,rfl,?_,lV,pn,nY⟩
  ·rw[bE];simp only[bD];simp only[Int.natCast_add,Int.natCast_one];congr 1;omega
  ·rw[BV];have:=bo.set (x:=ak.row [.agg [bN,.fs (mt.map encS)]]) nY;simpa[aF]using this
theorem VI (M:List (ByteArray×ByteArray)) (x:St):wS (Ee M x)=wS x:=by
 rcases x with⟨k,r,t,v,l,e,a,b,p,ps⟩
 simp[Ee,wS]
theorem VJ (M:List (ByteArray×ByteArray)) (n0 n:Int) (x:St):dn (xr M n0 n x)<=wS x:=by
 rw[xr];split<;>simp[dn,VI]
theorem KD (M:List (ByteArray×ByteArray)) (n0 n:Int) (x:St):(xr M n0 n x).length<=1:=by
 rw[xr];split<;>simp
theorem t20r (M:List (ByteArray×ByteArray)) (n0:Int) (P:bH) (hw:iE P<=1000000) (ew:P.procs.length<=1000000):
 af Tryz.prog 64 [aP P,.a6 75 [] [.bc [.int .i64 n0],.bc [.db (iA M) (iX M)]]] (·=aP (qV (xr M n0) P)):=
 t20d (xr M n0) (KD M n0) 75 _ _ (by simp[al,ae]) (by simp[al,ae,dB,dC]) (VJ M n0) (fun n x hx=>t247 M n0 n x hx) P hw ew
mutual
def Xv:St->List St
 | .mk k r t v l e a b p ps=> .mk k r t v l e a b p ps::(ur a++ur b)
def ur:List St->List St
 | []=> []
 | x::l=>Xv x++ur l
end
theorem uu:∀(a b:List St),ur (a++b)=ur a++ur b
 | [],b=>by simp[ur]
 | x::a,b=>by rw[cons_append,ur,ur,uu a b,append_assoc]
mutual
theorem KE:∀s,(Xv s).length=dA s
 | .mk k r t v l e a b p ps=>by
  have:=lh a;have:=lh b;simp[Xv,dA];omega
theorem lh:∀l,(ur l).length=ai l
 | []=>by simp[ur,ai]
 | x::l=>by
  have:=KE x;have:=lh l;simp[ur,ai];omega
end
theorem VK (xs:List St) (hc:ai xs<=1000000)
 (h:∀k r t v l e a b p ps,St.mk k r t v l e a b p ps∈xs->
   af Tryz.prog 74 [.fs (a.map encS)] (·=.fs ((ur a).map encS))/\af Tryz.prog 74 [.fs (b.map encS)] (·=.fs ((ur b).map encS))):
 af Tryz.prog 74 [.fs (xs.map encS)] (·=.fs ((ur xs).map encS)):=by
 refine af.intro c246 400 (by simp) 20 ?_;simp -implicitDefEqProofs only[UY,go_sem];intro hlen;refine aL (fun m e H=>∃pre post kv,xs=pre++post/\m=post.length/\e 3=kv/\e 6=.fs (xs.map encS)/\e 7=.int .i64 xs.length/\e 8=.int .i64 pre.length/\OV H kv ((ur pre).map encS)) xs.length ⟨[],xs,.ag,rfl,rfl,by simp[az,aC],by simp[az,aC],by simp[az,aC],by simp[az,aC],.inl ⟨rfl,rfl⟩⟩ ?_;rintro m e H ⟨pre,post,kv,ao,rfl,h3,h6,h7,h8,bm⟩;have cP:=bm.one;have ba:=bm.cS;simp only[V.one]at ba;cases post with
 | nil=>
  have ev:pre=xs:=by rw[ao];simp
  simp -implicitDefEqProofs only[h3,h6,h7,h8,aI ao,go_sem];have hz:fz H 20 kv=_:=dw (f:=encS) (n:=18) (fun H x=>eg H 17 x) bm;rw[ev]at hz;simp -implicitDefEqProofs only[Kg,hz,push_cast,go_sem_proc]
 | cons y post=>
  have hg:=aO encS ao;have zP:ai xs=ai pre+(dA y+ai post):=by rw[ao,aX,ai]
  have MN:=lh pre;rcases y with⟨k,r,t,v,l,⟨ek,en,es,aR⟩,a,b,p,ps⟩
  have hcy2:dA (.mk k r t v l (.mk ek en es aR) a b p ps)=1+ai a+ai b:=by simp only[dA]
  have Ii:=lh a;have EN:=lh b;obtain⟨ha,hb⟩:=h k r t v l (.mk ek en es aR) a b p ps (by rw[ao];simp);have AQ:ur (pre++ [.mk k r t v l (.mk ek en es aR) a b p ps])=ur pre++ [.mk k r t v l (.mk ek en es aR) a b p ps]++ur a++ur b:=by
   rw[uu];simp[ur,Xv]
  have hES:=ay k r t v l ek en es aR a b p ps;rw[ay]at hg;simp -implicitDefEqProofs only[h3,h6,h7,h8,an ao,aa ao hlen,ba,cP,hg,go_sem];refine cu (bm.app _) (fun i o l h=>by cases h) (cx _) (by simp only[length_map,length_cons,length_nil];omega) ?_;rintro kv1 H1 pK AA Ef;obtain⟨lC,pn⟩:=Ef H.length (by simp) (bm.lt (Nat.le_refl _));have lC:H1[H.length]? =some (.row [.agg [.int .i64 k,.str r,.str t,.str v,.str l,.int .i64 ek,.int .i64 en,.str es,.fs (aR.map bu),.fs (a.map encS),.fs (b.map encS),.str p,.fs (ps.map .str)]]):=by rw[lC];simp
  have uN:=(List.getElem?_eq_some_iff.1 lC).1;have j8:=pK.one;have cY:=pK.cS;simp only[V.one]at cY;simp -implicitDefEqProofs only[h3,h6,h7,h8,an ao,aa ao hlen,cY,j8,hg,lC,go_sem];repeat' (first | ((first | ((with_reducible first | refine bj ha ?_ ?_ | refine bj hb ?_ ?_);(·simp[ae,al,cm,ah])) | ((with_reducible apply cj);(·simp -implicitDefEqProofs only[map_cons,map_nil,ah,push_cast,go_sem_proc]<;>rfl);(with_reducible first | exact ha | exact hb);(·rfl)) | (with_reducible refine aD ?_));simp -implicitDefEqProofs only[h3,h6,h7,h8,an ao,aa ao hlen,cY,j8,hg,lC,go_sem]) | (with_reducible refine aA.mk ?_ ?_) | (with_reducible refine And.intro ?_ ?_) | ((with_reducible refine bz ?_);simp -implicitDefEqProofs only[Kg,push_cast,go_sem_proc]) | intro _)
  ·exact mf _
  have VL:OV H1 kv1 ((ur pre++ [St.mk k r t v l (.mk ek en es aR) a b p ps]).map encS):=by
   rw[map_append,map_singleton,hES];exact pK
  refine cu VL (fun i o l h=>by cases h) (cx _) (by simp only[length_map,length_append,length_cons,length_nil];omega) ?_;rintro fH H2 bJ rZ iS;rw[<-map_append]at bJ;obtain⟨Dx,nY⟩:=iS H.length uN pn;rw[lC]at Dx;have LD:=bJ.one;have Hh:=bJ.cS;simp only[V.one]at Hh;simp -implicitDefEqProofs only[h3,h6,h7,h8,an ao,aa ao hlen,Hh,LD,hg,Dx,go_sem];repeat' (first | ((first | ((with_reducible refine bj hb ?_ ?_);(·simp[ae,al,cm,ah])) | ((with_reducible apply cj);(·simp -implicitDefEqProofs only[map_cons,map_nil,ah,push_cast,go_sem_proc]<;>rfl);(with_reducible exact hb);(·rfl)) | (with_reducible refine aD ?_));simp -implicitDefEqProofs only[h3,h6,h7,h8,an ao,aa ao hlen,Hh,LD,hg,Dx,go_sem]) | (with_reducible refine aA.mk ?_ ?_) | (with_reducible refine And.intro ?_ ?_) | ((with_reducible refine bz ?_);simp -implicitDefEqProofs only[Kg,push_cast,go_sem_proc]) | intro _)
  ·exact mf _
  refine cu bJ (fun i o l h=>by cases h) (cx _) (by simp only[length_map,length_append,length_cons,length_nil];omega) ?_;rintro Az H3 nv Jz yN;have Ui:=nv.one;have Mc:=nv.cS;simp only[V.one]at Mc;rw[<-map_append,<-AQ]at nv;simp -implicitDefEqProofs only[h3,h6,h7,h8,an ao,aa ao hlen,Mc,Ui,hg,lC,Dx,go_sem];exact⟨post.length,Nat.lt_succ_self _,pre++ [_],post,Az,by simp[ao],rfl,rfl,by simp,nv⟩
theorem t246:∀(m:Nat) (xs:List St),SizeOf.sizeOf xs<m->ai xs<=1000000->af Tryz.prog 74 [.fs (xs.map encS)] (·=.fs ((ur xs).map encS))
 | 0,xs,h,_=>absurd h (Nat.not_lt_zero _)
 | m+1,xs,hm,hc=>VK xs hc (fun k r t v l e a b p ps da=>by
  have hs:=sizeOf_lt_of_mem da;simp only[St.mk.sizeOf_spec]at hs;have lA:dA (.mk k r t v l e a b p ps)<=ai xs:=by
   obtain⟨p1,p2,rfl⟩:=append_of_mem da;rw[aX,ai];omega
  simp only[dA]at lA;exact⟨t246 m a (by omega) (by omega),t246 m b (by omega) (by omega)⟩)
end Go.Proofs.YtdgoeblpcnjlbaaGreatDoor.Av

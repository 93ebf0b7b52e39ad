/- Proved: for every list of numbers the law PlaysChanged answers true and leaves its argument as it was (the tied card); no condition beyond the row's own. Text 17 of 17. -/
import Derived.Test.YtdgoeblpcnjlbaaGreatDoorCards
import Derived.Test.YtdgoeblpcnjlbaaGreatDoorTie
import Derived.WalkKit
import Derived.ProofKit
import Derived.OpenShut
import Derived.Carry
import Derived.Deep.DeepHandedRow
import Derived.Lib.LaidTab
import Derived.LaidMore
import Derived.Lay
import Derived.SevenTiedAt
import Derived.Stop.Joined
import Derived.Test.YtdgoeblpcnjlbaaGreatDoorK16
set_option linter.all false
set_option maxRecDepth 100000
set_option maxHeartbeats 64000000
namespace Go.Proofs.YtdgoeblpcnjlbaaGreatDoor.Av
open Go.RowKit List
noncomputable def kC (X:List Pr):List Pr->Nat->List Pr
 | [],_=> []
 | q::l,i=>(if dV X i=true then[⟨q.name,q.au,cE X q.steps⟩]else[])++kC X l (i+1)
theorem gX (X:List Pr):∀(a b:List Pr) (i:Nat),kC X (a++b) i=kC X a i++kC X b (i+a.length)
 | [],b,i=>by simp[kC]
 | q::a,b,i=>by rw[cons_append,kC,kC,gX X a b (i+1),append_assoc];simp[Nat.add_comm,Nat.add_left_comm]
theorem CW (X:List Pr):∀(a:List Pr) (i:Nat),(kC X a i).length<=a.length
 | [],i=>by simp[kC]
 | q::a,i=>by
  have:=CW X a (i+1);rw[kC,length_append,length_cons];split<;>simp<;>omega
noncomputable def uJ (P:bH):bH:=⟨kC P.procs P.procs 0,cE P.procs P.main⟩
noncomputable def vw (P:bH):V:=if 2000<total (uJ P)then .dJ [aP ⟨[],[]⟩,.int .i64 12]else if np (uJ P)≠0 then .dJ [aP ⟨[],[]⟩,.int .i64 (np (uJ P))]else .dJ [aP (uJ P),.int .i64 0]
theorem lk {xs pre post:List Pr} {q:Pr} (h:xs=pre++q::post):aK xs pre.length=q.steps:=by subst h;simp[aK]
theorem iL.start (X:List Pr):iL X (List.replicate X.length (-1)) where
 len:=by simp
 val c hc:=.inl (by simp[List.getD,hc])
 cl c h:=by
  exfalso;by_cases hc:c<X.length
  ·simp[List.getD,hc]at h
  ·simp[List.getD,hc]at h
def xG (c a:Nat):Prop:=c<=a/\(c<=2000->c=a)
theorem xG.start (a:Nat):xG (min a 2001) a:=⟨Nat.min_le_left _ _,fun h=>by omega⟩
theorem xG.add {c a:Nat} (h:xG c a) (b:Nat):xG (c+min b 2001) (a+b):=by
 obtain⟨h1,h2⟩:=h;refine⟨by omega,fun h=> ?_⟩;have:=h2 (by omega);omega
theorem xG.gt {c a:Nat} (h:xG c a):2000<c↔2000<a:=by
 obtain⟨h1,h2⟩:=h;constructor
 ·omega
 ·intro h;refine Classical.byContradiction fun hc=> ?_
  have:=h2 (by omega);omega
theorem CX {X:List Pr} {Rs:ByteArray->Prop} {l:List St} (h:qz X Rs l) {k:Int} {r t v lb:ByteArray} {e:Ex} {a b:List St} {p:ByteArray} {ps:List ByteArray} (hm:St.mk k r t v lb e a b p ps∈l):qz X Rs a/\qz X Rs b:=by
 obtain⟨p1,p2,rfl⟩:=append_of_mem hm;rw[lj,qz,IC]at h;exact h.2.1.2.2.2.2
structure LK (P:bH) (S:List Int) (l:List St):Prop where
 gd:∃Rs,qz P.procs Rs l
 w:dn l<=1000000
 k:∀c∈iC P.procs (dV P.procs) l,0<=S.getD c (-1)
 sz:ai (cE P.procs l)<=2000
theorem CY {P:bH} (cR:lK P=0) (ew:P.procs.length<=1000000) {E:List Bool} {F S:List Int} (jU:F.length=P.procs.length) (nf:∀c,c<P.procs.length->(F.getD c 0<0↔dV P.procs c=false)) (hS:iL P.procs S) (f:Nat)
 (cH:∀c,dV P.procs c=false->c<P.procs.length->x4 P.procs c<f->0<=S.getD c (-1)->ai (j9 P.procs c)<=2000->∀M':List Pa,lf M' ⟨#[]⟩=none->
   af Tryz.prog 68 [sQ (fy P E) F S,.fs ((num (aK P.procs c) (dc P c)).map (cb P.procs)),.db (iA M') (iX M')] (·=.fs ((ep (dT M') (j9 P.procs c)).map encS)))
 (M:List Pa) (mv:V) (vl:al mv=true) (vq:∀x,wS x<=1000000->af Tryz.prog 76 [encS x,mv] (·=encS (Ee M x))) (Q6:lf M ⟨#[]⟩=none):
 ∀(m:Nat) (l:List St),SizeOf.sizeOf l<m->LK P S l->(∀c∈iC P.procs (dV P.procs) l,x4 P.procs c<f)->∀n0:Int,
  af Tryz.prog 68 [sQ (fy P E) F S,.fs ((num l n0).map (cb P.procs)),mv] (·=.fs ((ep (dT M) (cE P.procs l)).map encS))
 | 0,l,h=>absurd h (Nat.not_lt_zero _)
 | m+1,l,hm=>fun hl sm n0=>by
  obtain⟨Rs,vj⟩:=hl.gd;refine Wj cR ew jU nf hS M mv vl vq Q6 l Rs vj hl.w hl.k hl.sz (fun c hc hz M' h0=>cH c (j4 hc).1 (j4 hc).2 (sm c hc) (hl.k c hc) hz M' h0) (fun k r t v lb e a b p ps da eT n=> ?_) n0;have hs:=sizeOf_lt_of_mem da;simp only[St.mk.sizeOf_spec]at hs;have gB:=CX vj da;obtain⟨p1,p2,rfl⟩:=append_of_mem da;have j6:∀c,c∈iC P.procs (dV P.procs) a\/c∈iC P.procs (dV P.procs) b->c∈iC P.procs (dV P.procs) (p1++St.mk k r t v lb e a b p ps::p2):=fun c hc=>by
   rw[et,iC,EU,if_neg eT];simp only[mem_append];exact .inr (.inl hc)
  have hw:=hl.w;have hz:=hl.sz;simp only[cB,dn,wS]at hw;rw[cE,eL,lO,zW,if_neg eT]at hz;simp only[aX,ai,dA]at hz;exact⟨CY cR ew jU nf hS f cH M mv vl vq Q6 m a (by omega) ⟨⟨Rs,gB.1⟩,by omega,fun c hc=>hl.k c (j6 c (.inl hc)),by rw[cE];omega⟩ (fun c hc=>sm c (j6 c (.inl hc))) n,
   CY cR ew jU nf hS f cH M mv vl vq Q6 m b (by omega) ⟨⟨Rs,gB.2⟩,by omega,fun c hc=>hl.k c (j6 c (.inr hc)),by rw[cE];omega⟩ (fun c hc=>sm c (j6 c (.inr hc))) n⟩
theorem mJ {P:bH} (hw:iE P<=1000000) (c:Nat):dn (aK P.procs c)<=1000000:=by
 rw[aK];cases hq:P.procs[c]? with
 | none=>simp[dn]
 | some q=>
  obtain⟨p1,p2,h⟩:=append_of_mem (mem_of_getElem? hq);rw[iE,h,fZ,lM]at hw;simp only;omega
theorem Mp {P:bH} (cR:lK P=0) (hw:iE P<=1000000) (ew:P.procs.length<=1000000) {E:List Bool} {F S:List Int} (jU:F.length=P.procs.length) (nf:∀c,c<P.procs.length->(F.getD c 0<0↔dV P.procs c=false)) (hS:iL P.procs S):
 ∀(f c:Nat),dV P.procs c=false->c<P.procs.length->x4 P.procs c<f->0<=S.getD c (-1)->ai (j9 P.procs c)<=2000->∀M':List Pa,lf M' ⟨#[]⟩=none->
  af Tryz.prog 68 [sQ (fy P E) F S,.fs ((num (aK P.procs c) (dc P c)).map (cb P.procs)),.db (iA M') (iX M')] (·=.fs ((ep (dT M') (j9 P.procs c)).map encS))
 | 0,c,_,_,h=>absurd h (Nat.not_lt_zero _)
 | f+1,c,hg,eT,sm=>fun h0 hz M' hM=>by
  have hI:=uD P.procs c;rw[hI]at hz⊢;exact CY cR ew jU nf hS f (Mp cR hw ew jU nf hS f) M' (.db (iA M') (iX M')) (by simp[al,dB,dC]) (fun x hx=>t248 M' x hx) hM _ _ (Nat.lt_succ_self _)
   ⟨⟨_,qf cR c⟩,mJ hw c,hS.cl c h0,hz⟩ (fun d hd=>by have:=xA hd;omega) _
theorem t243 {P:bH} (cR:lK P=0) (hw:iE P<=1000000) (ew:P.procs.length<=1000000) {E:List Bool} {F S:List Int} (jU:F.length=P.procs.length) (nf:∀c,c<P.procs.length->(F.getD c 0<0↔dV P.procs c=false)) (hS:iL P.procs S) {l:List St} (hl:LK P S l) (n0:Int):
 af Tryz.prog 68 [sQ (fy P E) F S,.fs ((num l n0).map (cb P.procs)),.cG] (·=.fs ((cE P.procs l).map encS)):=by
 have h:=CY (E:=E) cR ew jU nf hS (P.procs.length+1) (Mp cR hw ew jU nf hS _) [] .cG rfl VG rfl _ l (Nat.lt_succ_self _) hl (fun c _=>by have:=rh P.procs c;omega) n0;rwa[show dT []=(fun r=>r) from rfl,xt]at h
theorem uK (P:bH) (E:List Bool):ae (fy P E)=true:=by
 simp[fy,lE,al,ae,aq,ah,aY,br,ee (eG _ _ _)]
theorem app_1 {HB:List ak} {b0:ak} {J:List ak} {esz bytes:Nat} {src:List V} {yv kv:V} {K:V->List ak->Prop} {acc:List V} (bm:OV (HB++b0::J) kv acc) (dW:∀j,j<HB.length+1->a7 kv j) (hy:∀i o l,yv≠ .ms i o l) (hh:df esz acc) (hb:(acc.length+src.length)*bytes<=140737488355328)
 (hk:∀bN J',OV (HB++b0::J') bN (acc++src)->(∀j,j<HB.length+1->a7 bN j)->K bN (HB++b0::J')):nh esz bytes src yv kv (HB++b0::J) K:=
 pP (me.const HB) (a:=()) (L0:=[b0]) bm dW hy hh hb hk
theorem zD {x:Int} (h1: -1000000000000<=x) (h2:x<=1000000000000):IntKind.i64.wrap x=x:=by
 simp[IntKind.wrap,IntKind.signed,IntKind.bits];omega
theorem gY (S:List Int):ae (S.map (V.int .i64))=true:=bS (fun x=>by simp[al]) S
theorem XS.of {P:bH} {E:List Bool} {F:List Int} {H:List ak} {kv:V} (bm:OV H kv ((List.replicate P.procs.length (-1)).map (V.int .i64))) (hx:H[2]? =some (.row [.agg [.bc (fy P E),.fs (F.map (.int .i64)),kv]])) (h0:a7 kv 0) (h1:a7 kv 1) (h2:a7 kv 2):
 ∃ids T,XS P E F 2 ids H.length kv T/\T (List.replicate P.procs.length (-1))=H/\(∀S J,(T S++J)[0]? =H[0]? /\(T S++J)[1]? =H[1]?)/\
  ∀(S:List Int) J,S.length=P.procs.length->∃D,fz (cQ D (T S++J)) 20 (.ptr 2 0 0)=some (sQ (fy P E) F S)/\(bO D (T S++J))[0]? =H[0]? /\(bO D (T S++J))[1]? =H[1]? :=by
 have GC:=uK P E;have hl:2<H.length:=(List.getElem?_eq_some_iff.1 hx).1;have P6:∀(X J:List ak) i,X.length=H.length->i<3->(X++J)[i]? =X[i]? :=fun X J i h hi=>getElem?_append_left (by omega)
 rcases bm with⟨e,rfl⟩ | ⟨dr,id,rfl,hid⟩
 ·have hp:P.procs.length=0:=by simpa using e
  refine⟨0,fun _=>H,⟨⟨fun _=>rfl,fun _ _ i b h=> .inl h⟩,fun S l=>by rw[P6 _ _ _ rfl (by omega)];exact hx,fun h=>by omega,fun h=>by omega,fun h=>by omega,rfl⟩,rfl,fun S J=>⟨P6 _ _ _ rfl (by omega),P6 _ _ _ rfl (by omega)⟩,fun S J hS=>⟨[2],?_,?_,?_⟩⟩
  ·have hk:(cQ [2] (H++J))[2]? =some (.row [.agg [.bc (fy P E),.fs (F.map (.int .i64)),.ag]]):=by rw[cg,P6 _ _ _ rfl (by omega),hx];simp
   have hS0:S=[]:=eq_nil_of_length_eq_zero (by omega);rw[l9,hk,jK,sQ];simp[aw,b7,cN,pC,jL,fQ,GC,gY,Dn,hS0]
  ·rw[de,if_neg (by simp),P6 _ _ _ rfl (by omega)]
  ·rw[de,if_neg (by simp),P6 _ _ _ rfl (by omega)]
 ·have hp:P.procs.length≠0:=fun h=>by simp[h]at dr
  have Ub:((List.replicate P.procs.length (-1)).map (V.int .i64)).length=P.procs.length:=by simp
  rw[Ub]at h0 h1 h2 hx⊢;have d0:(0:Nat)≠id:=fun h=>h0 0 P.procs.length (by rw[h])
  have d1:(1:Nat)≠id:=fun h=>h1 0 P.procs.length (by rw[h])
  have d2:(2:Nat)≠id:=fun h=>h2 0 P.procs.length (by rw[h])
  have dF:id<H.length:=(List.getElem?_eq_some_iff.1 hid).1;have hg:∀(S:List Int) i,i≠id->(H.set id (.row (S.map (.int .i64))))[i]? =H[i]? :=fun S i h=>by rw[getElem?_set];simp[Ne.symm h]
  have tQ:∀(S:List Int) J,(H.set id (.row (S.map (.int .i64)))++J)[id]? =some (.row (S.map (.int .i64))):=fun S J=>by rw[getElem?_append_left (by simpa using dF),getElem?_set_self dF]
  have Es:∀(S:List Int) J i,i<3->i≠id->(H.set id (.row (S.map (.int .i64)))++J)[i]? =H[i]? :=fun S J i hi h=>by rw[P6 _ _ _ (by simp) hi,hg S i h]
  refine⟨id,fun S=>H.set id (.row (S.map (.int .i64))),⟨⟨fun _=>by simp,fun S S' i b h=> ?_⟩,fun S l=>by rw[Es _ _ _ (by omega) d2];exact hx,fun _ S l=>tQ S l,fun _ S S' l=> ?_,fun _=>rfl,rfl⟩,?_,fun S J=>⟨Es _ _ _ (by omega) d0,Es _ _ _ (by omega) d1⟩,fun S J hS=>⟨[2,id],?_,?_,?_⟩⟩
  ·by_cases hi:i=id
   ·subst hi;rw[getElem?_set_self dF]at h;cases h;right;simp[ak.nr,gY]
   ·left;rw[hg _ _ hi]at h⊢;exact h
  ·rw[set_append_left _ _ (by simpa using dF),set_set]
  ·show H.set id _=H;refine ext_getElem? (fun i=> ?_);by_cases hi:i=id
   ·subst hi;rw[getElem?_set_self dF,hid]
   ·exact hg _ i hi
  ·have hk:(cQ [2,id] (H.set id (.row (S.map (.int .i64)))++J))[2]? =some (.row [.agg [.bc (fy P E),.fs (F.map (.int .i64)),.ms id 0 P.procs.length]]):=by rw[cg,Es _ _ _ (by omega) d2,hx];simp
   have ir:(cQ [2,id] (H.set id (.row (S.map (.int .i64)))++J))[id]? =some (.row (S.map (.int .i64))):=by rw[cg,tQ];simp
   have hz:∀n,fz (cQ [2,id] (H.set id (.row (S.map (.int .i64)))++J)) (n+2) (.ms id 0 P.procs.length)=some (.fs (S.map (.int .i64))):=fun n=>by
    rw[iu,ir,ef,if_pos (by simp[hS]),drop_zero,take_of_length_le (by simp[hS]),fA];rfl
   rw[l9,hk,jK,sQ];simp[aw,b7,cN,pC,jL,GC,gY,Dn,hz]
  ·rw[de,if_neg (by simp[d0]),Es _ _ _ (by omega) d0]
  ·rw[de,if_neg (by simp[d1]),Es _ _ _ (by omega) d1]
theorem Wo (P:bH) (hw:iE P<=1000000) (hc:total P<=1000000) (ew:P.procs.length<=1000000) (h0:rE P=0):af Tryz.prog 22 [aP P] (·=vw P):=by
 have k9:=t229 P hc ew;have cR:lK P=0:=by rw[<-yR];exact h0
 have Ec:=uK P (bY P.procs);have h241:=t241 P ew (bY P.procs);have gi:ae (eF P.procs P.procs (ai P.main))=true:=ee (eG _ _ _);generalize A2:fy P (bY P.procs)=RV at*;rw[T9,if_pos h0,A2]at k9;simp only[aP]at k9⊢;refine af.intro UJ 900 (by simp) 20 ?_;simp -implicitDefEqProofs only[O9,go_sem];repeat' (first | ((first | ((with_reducible refine bj k9 ?_ ?_);(·simp[ae,al,cm,aq,ah,Ec])) | ((with_reducible apply cj);(·simp -implicitDefEqProofs only[map_cons,map_nil,aq,ah,Ec,push_cast,go_sem_proc]<;>rfl);(with_reducible exact k9);(·rfl)) | (with_reducible refine aD ?_));simp -implicitDefEqProofs only[Int.reduceEq,go_sem]) | (with_reducible refine aA.mk ?_ ?_) | (with_reducible refine And.intro ?_ ?_) | ((with_reducible refine bz ?_);simp -implicitDefEqProofs only[zd,push_cast,go_sem_proc]) | intro _)
 refine gJ (by simp[ae,al,Ec]) h241 ?_;rintro r ⟨F,rfl,hF⟩;simp -implicitDefEqProofs only[go_sem];intro hlen;generalize zJ:V.agg [.fs (P.procs.map aF),.fs (P.main.map encS)]=c0;refine aL (fun m e H=>∃i kv J,i+m=P.procs.length/\e 1=.ptr 0 0 0/\e 2=.ptr 1 0 0/\e 3=.int .i64 0/\e 4=.bc RV/\e 6=.ptr 2 0 0/\e 35=.int .i64 P.procs.length/\e 36=.int .i64 i/\
  H=ak.row [c0]::ak.row [.agg [.ag,.ag]]::ak.row [.agg [.bc RV,.fs (F.map (.int .i64)),kv]]::J/\OV H kv ((List.replicate i (-1)).map (.int .i64))/\a7 kv 0/\a7 kv 1/\a7 kv 2) P.procs.length
  ⟨0,.ag,[],by simp,by simp[az,aC],by simp[az,aC],by simp[az,aC],by simp[az,aC],by simp[az,aC],by simp[az,aC],by simp[az,aC],by simp[zJ],.inl ⟨by simp,rfl⟩,(fun a b h=>by cases h),(fun a b h=>by cases h),(fun a b h=>by cases h)⟩ ?_
 rintro m e H ⟨i,kv,J,QU,h1,h2,h3,h4,h6,gL,hU,hH,bm,dW,iT,ir⟩;have cP:=bm.one;have ba:=bm.cS;simp only[V.one]at ba;cases m with
 | succ m=>
  have ct:decide ((i:Int)<(P.procs.length:Int))=true:=by simp;omega
  have zg:=bG (k:=i) (by omega);subst hH;simp -implicitDefEqProofs only[h1,h2,h3,h4,h6,gL,hU,ct,zg,cP,ba,go_sem];refine cu bm (fun i o l h=>by cases h) (cA _ _ (fun x=>by simp[aw]) _) (by simp only[length_map,length_replicate,length_cons,length_nil];omega) ?_;rintro bN H' bo hle cp;obtain⟨pO,lV⟩:=cp 0 (by simp) dW;obtain⟨ky,pn⟩:=cp 1 (by simp) iT;obtain⟨jO,nY⟩:=cp 2 (by simp) ir;simp only[getElem?_cons_zero,getElem?_cons_succ]at pO ky jO;obtain⟨J',rfl⟩:=jo pO ky jO;have bJ:=bo.set (x:=ak.row [.agg [.bc RV,.fs (F.map (.int .i64)),bN]]) nY;simp only[set_cons_succ,set_cons_zero]at bJ;have j8:=bo.one;have cY:=bo.cS;simp only[V.one]at cY;simp -implicitDefEqProofs only[h1,h2,h3,h4,h6,gL,hU,ct,zg,j8,cY,go_sem];refine⟨m,Nat.lt_succ_self _,i+1,bN,J',by omega,rfl,rfl,by rw[replicate_succ',map_append];exact bJ,lV,pn,nY⟩
 | zero=>
  have hi:i=P.procs.length:=by omega
  subst hi;have hx:H[2]? =some (.row [.agg [.bc RV,.fs (F.map (.int .i64)),kv]]):=by rw[hH];rfl
  rw[<-A2]at hx;obtain⟨ids,T,hT,hTH,K0,hTf⟩:=XS.of bm hx dW iT ir;have jU:=hF.len;have nf:∀c,c<P.procs.length->(F.getD c 0<0↔dV P.procs c=false):=fun c h=>by
   obtain⟨a1,a2⟩:=hF.fin (L4 P.procs) h;rw[dV,<-Bool.not_eq_true,<-a2];omega
  have lA:ai P.main<=1000000:=by simp only[total]at hc;omega
  have hm:=Mn hc ew hT jU nf P.main lA 0 _ (iL.start P.procs) [];have hxx:=hT.hx;rw[A2]at hxx;have l3:RV.drop 2=[.fs ((num P.main 0).map (cb P.procs)),.fs (eF P.procs P.procs (ai P.main)),.fs ((bY P.procs).map .bool)]:=by rw[<-A2];rfl
  have Vr:RV.drop 3=[.fs (eF P.procs P.procs (ai P.main)),.fs ((bY P.procs).map .bool)]:=by rw[<-A2];rfl
  have l6:=cT P.procs P.procs (ai P.main);have mq:H=T (List.replicate P.procs.length (-1))++ []:=by rw[append_nil,hTH]
  have g0:H[0]? =some (.row [c0]):=by rw[hH];rfl
  have g1:H[1]? =some (.row [.agg [.ag,.ag]]):=by rw[hH];rfl
  have K0:∀S J,(T S++J)[0]? =some (.row [c0])/\(T S++J)[1]? =some (.row [.agg [.ag,.ag]]):=fun S J=>by rw[<-g0,<-g1];exact K0 S J
  rw[g0,g1]at hTf;obtain⟨Xx,hkn1,DW⟩:=qk P.main (iL.start P.procs);generalize DM:eF P.procs P.procs (ai P.main)=BL at*;rw[mq];clear hH mq;simp only[append_nil]at hm;simp -implicitDefEqProofs only[h1,h2,h3,h4,h6,gL,hU,Int.lt_irrefl,decide_false,l3,go_sem];refine bR hm ?_;have t0:∀S,(T S)[0]? =some (.row [c0]):=fun S=>by have:=(K0 S []).1;rwa[append_nil]at this
  subst zJ;simp -implicitDefEqProofs only[h1,h2,h3,h4,h6,gL,hU,t0,go_sem];intro cX;generalize nc P.procs P.main (List.replicate P.procs.length (-1))=S1 at*;refine aL (fun m e H=>∃pre post S J,∃c:Nat,P.procs=pre++post/\m=post.length/\e 1=.ptr 0 0 0/\e 2=.ptr 1 0 0/\e 3=.int .i64 0/\e 4=.bc RV/\e 6=.ptr 2 0 0/\e 7=.int .i64 c/\e 56=.int .i64 P.procs.length/\e 57=.int .i64 pre.length/\
   H=T S++J/\iL P.procs S/\xG c (ai (cE P.procs P.main)+bD (kC P.procs pre 0))/\c<=2001*(pre.length+1)/\(∀d∈iC P.procs (dV P.procs) P.main,0<=S.getD d (-1))/\
   ∀j,j<pre.length->dV P.procs j=true->∀d∈iC P.procs (dV P.procs) (aK P.procs j),0<=S.getD d (-1)) P.procs.length
   ⟨[],P.procs,S1,[],_,rfl,rfl,by simp[az,h1],by simp[az,h2],by simp[az,h3],by simp[az,h4],by simp[az,h6],by simp[az];rfl,by simp[az],by simp[az],by simp,Xx,by simpa[kC,bD]using xG.start _,Nat.min_le_right _ _,DW,fun j hj=>by simp at hj⟩ ?_
  clear h1 h2 h3 h4 h6 gL hU Xx hkn1 DW;rintro m e H ⟨pre,post,S,J,c,ao,rfl,h1,h2,h3,h4,h6,h7,xF,p8,rfl,hS,iQ,j1,DW,KX⟩;obtain⟨g0,g1⟩:=K0 S J;have hx:=hxx S J;have ba:=hT.one;cases post with
  | cons q post=>
   have dF:pre.length<P.procs.length:=by rw[ao];simp
   have xZ:=ik (S:=F) (c:=pre.length) (by omega);have DY:aK P.procs pre.length=q.steps:=lk ao;have xH:kC P.procs (pre++ [q]) 0=kC P.procs pre 0++if dV P.procs pre.length=true then[⟨q.name,q.au,cE P.procs q.steps⟩]else[]:=by rw[gX];simp[kC]
   cases hr:dV P.procs pre.length with
   | false=>
    have zx:¬0<=F.getD pre.length 0:=by have:=(nf _ dF).2 hr;omega
    rw[hr]at xH;simp only[Bool.false_eq_true,if_false,append_nil]at xH;simp -implicitDefEqProofs only[h1,h2,h3,h4,h6,h7,xF,p8,an ao,aa ao cX,hx,ba,xZ,jU,dF,zx,decide_true,decide_false,go_sem];refine⟨post.length,Nat.lt_succ_self _,pre++ [q],post,S,J,c,by simp[ao],rfl,rfl,by simp,rfl,hS,by rw[xH];exact iQ,by simp only[length_append,length_cons,length_nil];omega,DW,fun j hj Wp=> ?_⟩;simp only[length_append,length_cons,length_nil]at hj;by_cases hjp:j=pre.length
    ·subst hjp;rw[hr]at Wp;cases Wp
    ·exact KX j (by omega) Wp
   | true=>
    have zx:0<=F.getD pre.length 0:=by
     refine Classical.byContradiction fun h=> ?_
     have:=(nf _ dF).1 (by omega);rw[hr]at this;cases this
    rw[hr]at xH;simp only[if_true]at xH;have tW:=mX P pre.length dF;rw[DM]at tW;have hm:=Mn hc ew hT jU nf _ (wv hc pre.length) (dc P pre.length) S hS J;simp -implicitDefEqProofs only[h1,h2,h3,h4,h6,h7,xF,p8,an ao,aa ao cX,hx,ba,xZ,jU,dF,zx,decide_true,decide_false,Vr,tW,l6,go_sem];refine bR hm ?_;have hmle:nP P.procs (aK P.procs pre.length)<=2001:=Nat.min_le_right _ _;have w1:=zD (x:=(c:Int)+(nP P.procs (aK P.procs pre.length):Int)) (by omega) (by omega);simp -implicitDefEqProofs only[h1,h2,h3,h4,h6,h7,xF,p8,an ao,aa ao cX,w1,go_sem];obtain⟨b1,b2,b3⟩:=qk (aK P.procs pre.length) hS;refine⟨post.length,Nat.lt_succ_self _,pre++ [q],post,_,J,c+nP P.procs (aK P.procs pre.length),by simp[ao],rfl,by rw[Int.natCast_add],by simp,rfl,b1,?_,by simp only[length_append,length_cons,length_nil];omega,fun d hd=>b2 _ (DW d hd),fun j hj Wp d hd=> ?_⟩
    ·rw[xH,bE,<-Nat.add_assoc,nP,DY];exact iQ.add _
    ·simp only[length_append,length_cons,length_nil]at hj;by_cases hjp:j=pre.length
     ·subst hjp;exact b3 d hd
     ·exact b2 _ (KX j (by omega) Wp d hd)
  | nil=>
   have ev:pre=P.procs:=by rw[ao];simp
   subst ev;have zE:total (uJ P)=ai (cE P.procs P.main)+bD (kC P.procs P.procs 0):=rfl;rw[<-zE]at iQ;have Xc:=iQ.gt;by_cases rX:2000<c
   ·have x6:(2000:Int)<(c:Int):=by omega
    rw[vw,if_pos (Xc.1 rX)];generalize T S++J=M at*;have uN:=(List.getElem?_eq_some_iff.1 g1).1;simp -implicitDefEqProofs only[h1,h2,h3,h4,h6,h7,xF,p8,aI ao,x6,decide_true,g1,go_sem];simp -implicitDefEqProofs only[zd,h2,h3,push_cast,go_sem_proc];rw[getElem?_set_self uN];simp[aP,aw,b7,cN,fQ,Dn]
   ·have x6:¬(2000:Int)<(c:Int):=by omega
    have hts:total (uJ P)<=2000:=by omega
    have hnt:¬2000<total (uJ P):=by omega
    obtain⟨D,hD,d0,d1⟩:=hTf S J hS.len;rw[sQ,A2]at hD;have hD:fz (cQ D (T S++J)) 20 (.ptr 2 0 0)=some (.bc [.bc RV,.fs (F.map (.int .i64)),.fs (S.map (.int .i64))]):=hD;simp -implicitDefEqProofs only[h1,h2,h3,h4,h6,h7,xF,p8,aI ao,x6,decide_false,l3,go_sem];refine⟨D,_,hD,?_⟩;have P8:=t243 (E:=bY P.procs) cR hw ew jU nf hS (l:=P.main) ⟨⟨_,CN cR⟩,by simp only[iE]at hw;omega,DW,by omega⟩ 0;have Mq:∀j,j<P.procs.length->dV P.procs j=true->af Tryz.prog 68 [sQ (fy P (bY P.procs)) F S,.fs ((num (aK P.procs j) (dc P j)).map (cb P.procs)),.cG] (·=.fs ((cE P.procs (aK P.procs j)).map encS)):=fun j hj hr=>by
     refine t243 cR hw ew jU nf hS ⟨⟨_,qf cR j⟩,mJ hw j,KX j hj hr,?_⟩ _;obtain⟨p1,q,p2,hp,hpj⟩:∃pre q post,P.procs=pre++q::post/\pre.length=j:=⟨P.procs.take j,P.procs[j],P.procs.drop (j+1),by rw[<-drop_eq_getElem_cons hj,take_append_drop],by simp;omega⟩;have hb:=lk hp;rw[hpj]at hb;have e:kC P.procs P.procs 0=kC P.procs (p1++q::p2) 0:=by rw[<-hp]
     rw[hb];rw[e,gX,kC,Nat.zero_add,hpj,if_pos hr,bE,bE]at zE;simp only[bD]at zE;omega
    rw[sQ,A2]at P8;simp only[sQ,A2]at Mq;generalize hM:bO D (T S++J)=M at*;have Gu:1<M.length:=(List.getElem?_eq_some_iff.1 d1).1;have uO:∀L,(M++L)[0]? =some (.row [V.agg [V.fs (P.procs.map aF),V.fs (P.main.map encS)]]):=fun L=>by rw[getElem?_append_left (by omega),d0]
    have vi:∀L,(M++L)[1]? =some (.row [V.agg [.ag,.ag]]):=fun L=>by rw[getElem?_append_left (by omega),d1]
    repeat' (first | ((first | ((with_reducible refine bj P8 ?_ ?_);(·simp[ae,al,cm,Ec,gY,aY])) | ((with_reducible apply cj);(·simp -implicitDefEqProofs only[map_cons,map_nil,Ec,gY,aY,push_cast,go_sem_proc]<;>rfl);(with_reducible exact P8);(·rfl)) | (with_reducible refine aD ?_));simp -implicitDefEqProofs only[h1,h2,h3,h4,h6,h7,xF,p8,l3,uO,go_sem]) | (with_reducible refine aA.mk ?_ ?_) | (with_reducible refine And.intro ?_ ?_) | ((with_reducible refine bz ?_);simp -implicitDefEqProofs only[zd,push_cast,go_sem_proc]) | intro _)
    refine aL (fun m e H=>∃pre post kv J,P.procs=pre++post/\m=post.length/\e 2=.ptr 1 0 0/\e 4=.bc RV/\e 6=.bc [.bc RV,.fs (F.map (.int .i64)),.fs (S.map (.int .i64))]/\e 9=.ptr M.length 0 0/\e 91=.fs (P.procs.map aF)/\e 92=.int .i64 P.procs.length/\e 93=.int .i64 pre.length/\
     H=M++ak.row [.agg [kv,.fs ((cE P.procs P.main).map encS)]]::J/\OV H kv ((kC P.procs pre 0).map aF)/\∀j,j<M.length+1->a7 kv j) P.procs.length
     ⟨[],P.procs,.ag,[],rfl,rfl,by simp[az,h2],by simp[az,h4],by simp[az],by simp[az],by simp[az],by simp[az],by simp[az],by simp,.inl ⟨by simp[kC],rfl⟩,(fun j _ a b h=>by cases h)⟩ ?_
    clear h1 h2 h3 h4 h6 h7 xF p8;rintro m e H ⟨pre,post,kv,J,ao,rfl,h2,h4,h6,h9,BR,Mr,Ms,rfl,bm,dW⟩;have cP:=bm.one;have ba:=bm.cS;simp only[V.one]at ba;cases post with
    | cons q post=>
     have hg:=aO aF ao;simp only[aF]at hg;have dF:pre.length<P.procs.length:=by rw[ao];simp
     have xZ:=ik (S:=F) (c:=pre.length) (by omega);have DY:aK P.procs pre.length=q.steps:=lk ao;have xH:kC P.procs (pre++ [q]) 0=kC P.procs pre 0++if dV P.procs pre.length=true then[⟨q.name,q.au,cE P.procs q.steps⟩]else[]:=by rw[gX];simp[kC]
     cases hr:dV P.procs pre.length with
     | false=>
      have zx:¬0<=F.getD pre.length 0:=by have:=(nf _ dF).2 hr;omega
      rw[hr]at xH;simp only[Bool.false_eq_true,if_false,append_nil]at xH;simp -implicitDefEqProofs only[h2,h4,h6,h9,BR,Mr,Ms,an ao,aa ao cX,hg,xZ,jU,dF,zx,decide_true,decide_false,go_sem];exact⟨post.length,Nat.lt_succ_self _,pre++ [q],post,kv,_,by simp[ao],rfl,by simp,rfl,by rw[xH];simpa using bm.app [_],dW⟩
     | true=>
      have zx:0<=F.getD pre.length 0:=by
       refine Classical.byContradiction fun h=> ?_
       have:=(nf _ dF).1 (by omega);rw[hr]at this;cases this
      rw[hr]at xH;simp only[if_true]at xH;have tW:=mX P pre.length dF;rw[DM]at tW;have hqw:q.au.length<=1000000:=by rw[iE,ao,fZ,lM]at hw;omega
      have pV:=t46 q.au hqw;have EN:=Mq _ dF hr;rw[DY]at EN tW;simp -implicitDefEqProofs only[h2,h4,h6,h9,BR,Mr,Ms,an ao,aa ao cX,hg,xZ,jU,dF,zx,decide_true,decide_false,go_sem];repeat' (first | ((first | ((with_reducible first | refine bj pV ?_ ?_ | refine bj EN ?_ ?_);(·simp[ae,al,cm,Ec,gY,aY,aE])) | ((with_reducible apply cj);(·simp -implicitDefEqProofs only[map_cons,map_nil,Ec,gY,aY,aE,push_cast,go_sem_proc]<;>rfl);(with_reducible first | exact pV | exact EN);(·rfl)) | (with_reducible refine aD ?_));simp -implicitDefEqProofs only[h2,h4,h6,h9,BR,Mr,Ms,an ao,aa ao cX,hg,xZ,jU,dF,zx,decide_true,decide_false,Vr,tW,l6,go_sem]) | (with_reducible refine aA.mk ?_ ?_) | (with_reducible refine And.intro ?_ ?_) | ((with_reducible refine bz ?_);simp -implicitDefEqProofs only[zd,push_cast,go_sem_proc]) | intro _)
      have hlq:=CW P.procs pre 0;refine app_1 (J:=J++ [_]) (by simpa using bm.app [_]) dW (fun i o l h=>by cases h) (fo _) (by simp only[length_map,length_cons,length_nil];omega) ?_;rintro bN J' bo hn;have j8:=bo.one;have cY:=bo.cS;simp only[V.one]at cY;have bJ:=bo.set (x:=ak.row [.agg [bN,.fs ((cE P.procs P.main).map encS)]]) (hn M.length (by omega));rw[l8]at bJ;simp -implicitDefEqProofs only[h2,h4,h6,h9,BR,Mr,Ms,aa ao cX,j8,cY,go_sem];refine⟨post.length,Nat.lt_succ_self _,pre++ [q],post,bN,J',by simp[ao],rfl,by simp,rfl,?_,hn⟩;rw[xH,map_append,map_singleton,aF];exact bJ
    | nil=>
     have ev:pre=P.procs:=by rw[ao];simp
     subst ev;have yP:=t32 (uJ P) (by omega);have hz:=dw (f:=aF) (n:=17) (fun H x=>gr H 16 x) bm;have hnp:ae ((kC P.procs P.procs 0).map aF)=true:=aq _;simp only[aP,uJ]at yP;have iT:=dW 1 (by omega);have Jj:=dw (f:=aF) (n:=16) (fun H x=>gr H 15 x) (bm.set (x:=ak.row [.agg [kv,.fs ((cE P.procs P.main).map encS)]]) iT);have eB:∀X b,((M++X).set 1 b)[1]? =some b:=fun X b=>getElem?_set_self (by simp;omega)
     rw[vw,if_neg hnt];by_cases Am:np (uJ P)=0
     ·rw[if_neg (by simpa using Am)];rw[show np ⟨kC P.procs P.procs 0,cE P.procs P.main⟩=0 from Am]at yP;simp -implicitDefEqProofs only[h2,h4,h6,h9,BR,Mr,Ms,aI ao,go_sem];repeat' (first | ((first | ((with_reducible refine bj yP ?_ ?_);(·simp[ae,al,cm,hz,ah])) | ((with_reducible apply cj);(·simp -implicitDefEqProofs only[map_cons,map_nil,hz,ah,push_cast,go_sem_proc]<;>rfl);(with_reducible exact yP);(·rfl)) | (with_reducible refine aD ?_));simp -implicitDefEqProofs only[h2,h4,h6,h9,BR,Mr,Ms,aI ao,vi,ba,cP,go_sem]) | (with_reducible refine aA.mk ?_ ?_) | (with_reducible refine And.intro ?_ ?_) | ((with_reducible refine bz ?_);simp -implicitDefEqProofs only[zd,h2,eB,Jj,push_cast,go_sem_proc]) | intro _)
      rfl
     ·rw[if_pos Am];change af _ _ _ (·=.int .i64 (np (uJ P)))at yP;simp -implicitDefEqProofs only[h2,h4,h6,h9,BR,Mr,Ms,aI ao,go_sem];repeat' (first | ((first | ((with_reducible refine bj yP ?_ ?_);(·simp[ae,al,cm,hz,ah])) | ((with_reducible apply cj);(·simp -implicitDefEqProofs only[map_cons,map_nil,hz,ah,push_cast,go_sem_proc]<;>rfl);(with_reducible exact yP);(·rfl)) | (with_reducible refine aD ?_));simp -implicitDefEqProofs only[h2,h4,h6,h9,BR,Mr,Ms,aI ao,Am,decide_true,vi,go_sem]) | (with_reducible refine aA.mk ?_ ?_) | (with_reducible refine And.intro ?_ ?_) | ((with_reducible refine bz ?_);simp -implicitDefEqProofs only[zd,h2,eB,push_cast,go_sem_proc]) | intro _)
      rfl
theorem t215 (P:bH) (hw:iE P<=1000000) (ew:P.procs.length<=1000000):af Tryz.prog 22 [aP P] (·=if rE P=0 then vw P else .dJ [aP ⟨[],[]⟩,.int .i64 (rE P)]):=by
 have hc:total P<=1000000:=Nat.le_trans (kx P) hw;by_cases h0:rE P=0
 ·rw[if_pos h0];exact Wo P hw hc ew h0
 ·rw[if_neg h0];have k9:=t229 P hc ew;rw[T9,if_neg h0]at k9;simp only[aP]at k9⊢;refine af.intro UJ 900 (by simp) 20 ?_;simp -implicitDefEqProofs only[O9,go_sem];repeat' (first | ((first | ((with_reducible refine bj k9 ?_ ?_);(·simp[ae,al,cm])) | ((with_reducible apply cj);(·simp -implicitDefEqProofs only[map_cons,map_nil,push_cast,go_sem_proc]<;>rfl);(with_reducible exact k9);(·rfl)) | (with_reducible refine aD ?_));simp -implicitDefEqProofs only[h0,go_sem]) | (with_reducible refine aA.mk ?_ ?_) | (with_reducible refine And.intro ?_ ?_) | ((with_reducible refine bz ?_);simp -implicitDefEqProofs only[zd,push_cast,go_sem_proc]) | intro _)
  all_goals (try simp_all)
def OR (P:bH) (A:List (List Int)) (H H':List ak):Prop:=∃b0 b1 D D' J,H=OT P A b0 b1 D++J/\H'=OT P A b0 b1 D'++J
abbrev OI (P:bH) (A:List (List Int)) (H:List ak):Prop:=OR P A H H
noncomputable def Be (P:bH) (A:List (List Int)):ak:=.row [.agg [.fs (P.procs.map aF),.fs (P.main.map encS),.fs (A.map dE),.map 2,.map 3]]
variable {P:bH} {A:List (List Int)} {H H' VU X M:List ak}
theorem OR.two (h:OR P A H H'):OI P A H':=by
 obtain⟨b0,b1,D,D',J,h1,h2⟩:=h;exact⟨b0,b1,D',D',J,h2,h2⟩
theorem OR.trans (h:OR P A H H') (h':OR P A H' VU):OR P A H VU:=by
 obtain⟨b0,b1,D,D',J,h1,h2⟩:=h;obtain⟨c0,c1,E,E',J',h3,h4⟩:=h';rw[h2]at h3;simp only[OT,cons_append,nil_append,List.cons.injEq]at h3;obtain⟨rfl,rfl,_,_,_,rfl⟩:=h3;exact⟨b0,b1,D,E',J,h1,h4⟩
theorem OR.app (h:OR P A H H') (X:List ak):OR P A (H++X) (H'++X):=by
 obtain⟨b0,b1,D,D',J,rfl,rfl⟩:=h;exact⟨b0,b1,D,D',J++X,by rw[append_assoc],by rw[append_assoc]⟩
theorem OR.split (h:OR P A (H++X) M) (hI:OI P A H):∃H',M=H'++X/\OR P A H H':=by
 obtain⟨b0,b1,D,D',J,h1,rfl⟩:=h;obtain⟨c0,c1,E,_,J',rfl,_⟩:=hI;simp only[OT,cons_append,nil_append,List.cons.injEq]at h1;obtain⟨rfl,rfl,_,_,_,rfl⟩:=h1;exact⟨OT P A c0 c1 D'++J',by rw[append_assoc],c0,c1,E,D',J',rfl,rfl⟩
theorem OR.len (h:OR P A H H'):H'.length=H.length:=by
 obtain⟨b0,b1,D,D',J,rfl,rfl⟩:=h;simp[OT]
theorem OR.four (h:OR P A H H') (L:List ak):(H++L)[4]? =some (Be P A)/\(H'++L)[4]? =some (Be P A):=by
 obtain⟨b0,b1,D,D',J,rfl,rfl⟩:=h;exact⟨rfl,rfl⟩
theorem OR.nr (h:OR P A H H') (i:Nat) (b:ak) (hb:H'[i]? =some b):H[i]? =some b\/b.nr=true:=by
 obtain⟨b0,b1,D,D',J,rfl,rfl⟩:=h;exact Wh J i b hb
theorem OR.lt (h:OR P A H H') {i:Nat} (hi:i<2):H'[i]? =H[i]? :=by
 obtain⟨b0,b1,D,D',J,rfl,rfl⟩:=h;rcases i with _ | _ | i<;>first | rfl | omega
theorem OR.fin {g:FuncId} {vs:List V} {l:List St} {b:Bool} (h:av Tryz.prog g vs H (fun r H'=>∃HB J' kv,H'=HB++J'/\OR P A H HB/\r=.dJ [kv,.bool b]/\OV H' kv (l.map encS)/\∀j,j<HB.length->a7 kv j)):
 av Tryz.prog g vs H (fun r H'=>r=.dJ [.fs (l.map encS),.bool b]/\OR P A H H'):=by
 refine av.trim (av.fz (h.mono ?_));rintro r H' ⟨HB,J',kv,rfl,k6,rfl,bm,hk⟩;rcases bm with⟨h1,rfl⟩ | ⟨_,id,rfl,h2⟩
 ·refine⟨[],.dJ [.fs (l.map encS),.bool b],by rw[h1];rfl,HB,J',rfl,k6.len,k6.nr,by simp[al,ae,ah],rfl,k6⟩
 ·obtain⟨J1,Q0⟩:=gP (H:=bO [id] (HB++J')) (A:=HB) (by rw[gq];simp) (fun j hj=>by
   rw[de,if_neg]
   ·rw[getElem?_append_left hj]
   ·rintro⟨hc,_⟩;have:j=id:=by simpa using hc
    exact hk j hj 0 (l.map encS).length (by rw[this]))
  refine⟨[id],.dJ [.fs (l.map encS),.bool b],?_,HB,J1,Q0,k6.len,k6.nr,by simp[al,ae,ah],rfl,k6⟩;have ir:(cQ [id] (HB++J'))[id]? =some (.row (l.map encS)):=by rw[cg,h2];simp
  have hz:fz (cQ [id] (HB++J')) 19 (.ms id 0 (l.map encS).length)=some (.fs (l.map encS)):=by
   rw[iu,ir,ef,if_pos (by simp),drop_zero,take_of_length_le (by simp),dg _ _ (fun x=>eg _ 16 x)];rfl
  rw[FF];simp only[b7,cN,hz,pB,Dn,Option.map_some]
theorem Wq (M:List ak) (i8 i2 i9 k:Nat) (hk:k<P.procs.length) (d0 d1 d2 d3 d4 d5 d6 d7 d8 d9 d10 d11:V) (ps:List ByteArray) (hlen:(dd P.procs k).length=ps.length) (jA:ps.length<=1000000)
 (h8:∀J,(M++J)[i8]? =some (.row [.agg [d0,d1,d2,d3,d4,d5,d6,d7,d8,d9,d10,d11,.fs (ps.map .str)]])) (h2:∀J,(M++J)[i2]? =some (.row [.ptr 4 0 0])) (h4:∀J,(M++J)[4]? =some (Be P A)) (h9:∀J,(M++J)[i9]? =some (.row [.int .i64 k])) (r:ByteArray) (hr:r∈dd P.procs k) (J:List ak):
 av Tryz.prog 157 [.str r,.ptr i8 0 0,.ptr i2 0 0,.ptr i9 0 0] (M++J) (bX (.str (dT ((dd P.procs k).zip ps) r)) (M++J)):=by
 have oU:=t58 (dd P.procs k) r;obtain⟨j,EF,vK,Ds⟩:=zA (dd P.procs k) ps 0 hlen hr;rw[EF,Int.zero_add]at oU;have hg:(P.procs.map aF).getD k .any=aF P.procs[k]:=by simp[List.getD,hk]
 have sv:P.procs[k].au=dd P.procs k:=by simp[dd,hk]
 simp only[aF,sv]at hg;have XH:(ps.map V.str).getD j .any=.str (ps.getD j ⟨#[]⟩):=by simp[List.getD,vK]
 rw[Ds]at XH;have h8:=h8 J;have h2:=h2 J;have h4:=h4 J;have h9:=h9 J;rw[Be]at h4;generalize M++J=H at*;refine av.intro c301 300 (by simp) ?_;simp -implicitDefEqProofs only[Vj,go_sem];refine aD ?_;simp -implicitDefEqProofs only[hg,hk,XH,vK,h8,h2,h4,h9,go_sem];repeat' (first | ((first | ((with_reducible refine bj oU ?_ ?_);(·simp[ae,al,cm,aE])) | ((with_reducible apply cj);(·simp -implicitDefEqProofs only[map_cons,map_nil,aE,push_cast,go_sem_proc]<;>rfl);(with_reducible exact oU);(·rfl)) | (with_reducible refine aD ?_));simp -implicitDefEqProofs only[hg,hk,XH,vK,h8,h2,h4,h9,go_sem]) | (with_reducible refine aA.mk ?_ ?_) | (with_reducible refine And.intro ?_ ?_) | ((with_reducible refine bz ?_);simp -implicitDefEqProofs only[Vk,push_cast,go_sem_proc]) | intro _)
def jz (l:List St):List St:=if ai l<=2000 then l else[]
def LC (P:bH) (A:List (List Int)) (l:List St):Prop:=∀H,OI P A H->av Tryz.prog 79 [.ptr 4 0 0,.fs (l.map encS)] H (fun r H'=>r=.dJ [.fs ((jz (cE P.procs l)).map encS),.bool (decide (ai (cE P.procs l)<=2000))]/\OR P A H H')
def BC (P:bH) (A:List (List Int)) (c:Nat):Prop:=∀H,OI P A H->av Tryz.prog 156 [.ptr 4 0 0,.int .i64 c] H (fun r H'=>r=.dJ [.fs ((jz (j9 P.procs c)).map encS),.bool (decide (ai (j9 P.procs c)<=2000))]/\OR P A H H')
theorem Mt (X:List Pr) (k:Nat):dv X k=.fs ((jz (j9 X k)).map encS):=rfl
theorem Wr {P:bH} {A:List (List Int)} {c:Nat} (hc:c<P.procs.length) (hl:LC P A (aK P.procs c)):BC P A c:=by
 intro H hI;have hl:=hl H hI;obtain⟨b0,b1,D,_,J,rfl,_⟩:=hI;have hg:(P.procs.map aF).getD c .any=aF P.procs[c]:=by simp[List.getD,hc]
 have xS:P.procs[c].steps=aK P.procs c:=by simp[aK,hc]
 simp only[aF,xS]at hg;have uk:=HP D c;have oM:=xE (dv P.procs) c D;have ER:=xE (bv P.procs) c D;simp only[OT,cons_append,nil_append]at hl⊢;by_cases hD:c∈D
 ·rw[if_pos hD]at oM ER;change _=some (V.bool (!XE P.procs c))at ER;refine av.intro V6 300 (by simp) ?_;simp -implicitDefEqProofs only[PW,uk,oM,ER,fT,Option.getD_some,Option.isSome_some,go_sem];refine aD ?_;simp -implicitDefEqProofs only[uk,oM,ER,fT,Option.getD_some,Option.isSome_some,go_sem];simp -implicitDefEqProofs only[PX,push_cast,go_sem_proc];exact⟨by rw[Mt,Bool.not_not,XE],b0,b1,D,D,J,rfl,rfl⟩
 ·rw[if_neg hD]at oM ER;refine av.intro V6 300 (by simp) ?_;simp -implicitDefEqProofs only[PW,uk,oM,ER,fT,Option.getD_none,Option.isSome_none,hg,hc,go_sem];refine av.mono hl ?_;rintro r H' ⟨rfl,b0',b1',E,E',J',h1,rfl⟩;simp only[OT,cons_append,nil_append,List.cons.injEq]at h1;obtain⟨rfl,rfl,_,_,_,rfl⟩:=h1;have hkE:=HP E' c;simp only[OT,cons_append,nil_append];simp -implicitDefEqProofs only[go_sem];refine aD ?_;simp -implicitDefEqProofs only[hkE,go_sem];obtain⟨x1,x2⟩:=CV c E';have y1:=x2 (dv P.procs) .ag;have y2:=x2 (bv P.procs) (.bool false);rw[Mt,uD]at y1;rw[bv,XE,uD]at y2;change((lR _ _ _ _).set _ (V.bool (!decide (ai (cE P.procs (aK P.procs c))<=2000))))=_ at y2;change((lR _ _ _ _).set _ (V.fs ((jz (cE P.procs (aK P.procs c))).map encS)))=_ at y1;rw[HQ,y1,y2,length_map];refine⟨⟨by omega,x1⟩,⟨by omega,x1⟩,?_⟩;simp -implicitDefEqProofs only[PX,push_cast,go_sem_proc];exact⟨by rw[uD],b0,b1,D,uI E' c,J,rfl,rfl⟩
mutual
def EV (W:Nat):St->Prop
 | .mk k r t v l e a b p ps=>1+wE e+ps.length<=W/\oY W a/\oY W b
def oY (W:Nat):List St->Prop
 | []=>True
 | x::l=>EV W x/\oY W l
end
theorem uL {W:Nat}:∀{a b:List St},oY W (a++b)↔oY W a/\oY W b
 | [],b=>by simp[oY]
 | x::a,b=>by rw[cons_append,oY,oY,uL (a:=a),and_assoc]
mutual
theorem P9 {W:Nat}:∀s,wS s<=W->EV W s
 | .mk k r t v l e a b p ps,h=>by
  rw[wS]at h;rw[EV];exact⟨by omega,xI a (by omega),xI b (by omega)⟩
theorem xI {W:Nat}:∀l,dn l<=W->oY W l
 | [],_=>by simp[oY]
 | x::l,h=>by
  rw[dn]at h;rw[oY];exact⟨P9 x (by omega),xI l (by omega)⟩
end
mutual
theorem Wt {W:Nat}:∀s,EV W s->wS s<=dA s*W
 | .mk k r t v l e a b p ps,h=>by
  rw[EV]at h;have ha:=CZ a h.2.1;have hb:=CZ b h.2.2;rw[wS,dA,Nat.add_mul,Nat.add_mul,Nat.one_mul];omega
theorem CZ {W:Nat}:∀l,oY W l->dn l<=ai l*W
 | [],_=>by simp[dn]
 | x::l,h=>by
  rw[oY]at h;have h1:=Wt x h.1;have h2:=CZ l h.2;rw[dn,ai,Nat.add_mul];omega
end
mutual
theorem Qa {W:Nat} (f:ByteArray->ByteArray):∀s,EV W s->EV W (oX f s)
 | .mk k r t v l e a b p ps,h=>by
  rw[EV]at h;rw[oX,EV,length_map];exact⟨h.1,xJ f a h.2.1,xJ f b h.2.2⟩
theorem xJ {W:Nat} (f:ByteArray->ByteArray):∀l,oY W l->oY W (ep f l)
 | [],_=>by simp[ep,oY]
 | x::l,h=>by
  rw[oY]at h;rw[ep,oY];exact⟨Qa f x h.1,xJ f l h.2⟩
end
mutual
theorem Qb {W:Nat} {X:List Pr} {g:Nat->Bool} {B:Nat->List St} (hB:∀c,oY W (B c)):∀s,EV W s->oY W (zW X g B s)
 | .mk k r t v l e a b p ps,h=>by
  rw[EV]at h;rw[zW];split
  ·exact xJ _ _ (hB _)
  ·rw[oY,EV,oY];exact⟨⟨h.1,xK hB a h.2.1,xK hB b h.2.2⟩,trivial⟩
theorem xK {W:Nat} {X:List Pr} {g:Nat->Bool} {B:Nat->List St} (hB:∀c,oY W (B c)):∀l,oY W l->oY W (lO X g B l)
 | [],_=>by simp[lO,oY]
 | s::l,h=>by
  rw[oY]at h;rw[lO,uL];exact⟨Qb hB s h.1,xK hB l h.2⟩
end
theorem HU {P:bH} (hw:iE P<=1000000):∀(f c:Nat),oY 1000000 (ET P.procs f c)
 | 0,c=>by simp[ET,oY]
 | f+1,c=>by
  rw[ET];exact xK (HU hw f) _ (xI _ (mJ hw c))
theorem Qc {P:bH} (hw:iE P<=1000000) {c:Nat} (hc:ai (j9 P.procs c)<=2000) {s:St} (hs:s∈j9 P.procs c):wS s<=10000000000:=by
 have h:=CZ _ (HU hw (P.procs.length+1) c);change dn (j9 P.procs c)<=ai (j9 P.procs c)*1000000 at h;obtain⟨p1,p2,e⟩:=append_of_mem hs;rw[e,cB,dn]at h;rw[e]at hc;have:=Nat.mul_le_mul_right 1000000 hc;omega
theorem Qd {HB:List ak} {b0:ak} {J:List ak} {esz bytes:Nat} {src:List V} {yv kv:V} {K:V->List ak->Prop} {acc:List V} (bm:OV (HB++b0::J) kv acc) (dW:∀j,j<HB.length+1->a7 kv j) (hy:∀i o l,yv=.ms i o l->a7 kv i) (hh:df esz acc) (hb:(acc.length+src.length)*bytes<=140737488355328)
 (hk:∀bN J',OV (HB++b0::J') bN (acc++src)->(∀j,j<HB.length+1->a7 bN j)->(∀i x,J[i]? =some x->a7 kv (HB.length+(i+1))->J'[i]? =some x/\a7 bN (HB.length+(i+1)))->K bN (HB++b0::J')):nh esz bytes src yv kv (HB++b0::J) K:=by
 refine cu bm hy hh hb ?_;rintro bN H' bo hle cp;have hl:(HB++b0::J).length=HB.length+(J.length+1):=by simp
 obtain⟨J',rfl⟩:∃J',H'=HB++b0::J':=by
  obtain⟨J',h⟩:=gP (H:=H') (A:=HB++ [b0]) (by simp only[length_append,length_cons,length_nil];omega) (fun j hj=>by
   have hj:j<HB.length+1:=by simpa using hj
   rw[(cp j (by omega) (dW j hj)).1,show HB++b0::J=(HB++ [b0])++J by simp,getElem?_append_left (by simpa using hj)])
  exact⟨J',by rw[h];simp⟩
 refine hk bN J' bo (fun j hj=>(cp j (by omega) (dW j hj)).2) (fun i x hx eJ=> ?_);have hi:i<J.length:=(List.getElem?_eq_some_iff.1 hx).1;obtain⟨h1,h2⟩:=cp (HB.length+(i+1)) (by omega) eJ;rw[fL,fL,getElem?_cons_succ,getElem?_cons_succ]at h1;exact⟨by rw[h1,hx],h2⟩
theorem Wu {P:bH} (cR:lK P=0) (hw:iE P<=1000000) {A:List (List Int)} (hA:p6 P.procs A) (l:List St) (Rs:ByteArray->Prop) (vj:qz P.procs Rs l) (Mo:dn l<=1000000)
 (cH:∀c∈iC P.procs (dV P.procs) l,BC P A c)
 (pg:∀k r t v lb e a b p ps,St.mk k r t v lb e a b p ps∈l->¬(0<=kI P.procs k p/\dV P.procs (kI P.procs k p).toNat=false)->LC P A a/\LC P A b):LC P A l:=by
 intro H0 hI;have tT:=fun L=>(hI.four L).1
 have h4z:=tT [];rw[append_nil]at h4z;rw[Be]at h4z;have gO:=t30 P;simp only[aP]at gO;refine OR.fin ?_;refine av.intro c251 900 (by simp) ?_;simp -implicitDefEqProofs only[U2,go_sem];intro hlen;refine aL (fun m e H=>∃lp post HB kv J,l=lp++post/\m=post.length/\e 2=.ptr H0.length 0 0/\e 6=kv/\e 19=.fs (l.map encS)/\e 20=.int .i64 l.length/\e 21=.int .i64 lp.length/\
  H=HB++ak.row [.ptr 4 0 0]::J/\OR P A H0 HB/\ai (cE P.procs lp)<=2000/\OV H kv ((cE P.procs lp).map encS)/\∀j,j<H0.length+1->a7 kv j) l.length
  ⟨[],l,H0,.ag,[],rfl,rfl,by simp[az,aC],by simp[az,aC],by simp[az,aC],by simp[az,aC],by simp[az,aC],rfl,hI,by simp[cE,lO,ai],.inl ⟨by simp[cE,lO],rfl⟩,(fun j _ a b h=>by cases h)⟩ ?_
 rintro m e H ⟨lp,post,HB,kv,J,hl,rfl,h2,h6,iV,iG,oZ,rfl,k6,OS,bm,dW⟩;have cP:=bm.one;have ba:=bm.cS;simp only[V.one]at ba;rw[<-k6.len]at h2 dW;cases post with
 | nil=>
  have ev:lp=l:=by rw[hl];simp
  subst ev;have ct:¬((lp.length:Int)<(lp.length:Int)):=by omega
  simp -implicitDefEqProofs only[h2,h6,iV,iG,oZ,ct,decide_false,go_sem];simp -implicitDefEqProofs only[uj,push_cast,go_sem_proc];refine⟨HB,_,kv,rfl,k6,?_,?_,fun j hj=>dW j (by omega)⟩
  ·simp[OS]
  ·rw[jz,if_pos OS];exact bm
 | cons s rest=>
  have hg:=aO encS hl;have da:s∈l:=by rw[hl];simp
  have P4:cE P.procs l=cE P.procs lp++(cE P.procs [s]++cE P.procs rest):=by rw[hl,show lp++s::rest=lp++([s]++rest) by simp,cE,eL,eL]
  have zC:cE P.procs (lp++ [s])=cE P.procs lp++cE P.procs [s]:=eL _ _ _ lp [s];have HV:ai (cE P.procs (lp++ [s]))=ai (cE P.procs lp)+ai (cE P.procs [s]):=by rw[zC,aX]
  have xL:ai (cE P.procs l)=ai (cE P.procs lp)+(ai (cE P.procs [s])+ai (cE P.procs rest)):=by rw[P4,aX,aX]
  have j6:∀c∈iC P.procs (dV P.procs) [s],c∈iC P.procs (dV P.procs) l:=fun c hc=>by
   rw[hl,show lp++s::rest=lp++([s]++rest) by simp,et,et];simp only[mem_append];exact .inr (.inl hc)
  have XF:wS s<=1000000:=by rw[hl,cB,dn]at Mo;omega
  have eB:IC P.procs Rs s:=by rw[hl,lj,qz]at vj;exact vj.2.1
  rcases s with⟨k,r,t,v,lb,⟨ek,en,es,aR⟩,a,b,p,ps⟩
  rw[ay]at hg;rw[IC]at eB;simp only[wS]at XF;have gO:=gO p;have zF:2000<ai (cE P.procs l)->∀Wv J',OR P A H0 Wv->∃Qe J'_1 Qf,Wv++J'=Qe++J'_1/\OR P A H0 Qe/\V.dJ [V.ag,V.bool false]=V.dJ [Qf,V.bool (decide (ai (cE P.procs l)<=2000))]/\OV (Wv++J') Qf ((jz (cE P.procs l)).map encS)/\∀j,j<Qe.length->a7 Qf j:=fun hf Wv J' ho=>by
   have hn:¬ai (cE P.procs l)<=2000:=by omega
   exact⟨Wv,J',.ag,rfl,ho,by simp[hn],.inl ⟨by rw[jz,if_neg hn];rfl,rfl⟩,fun j _ a b h=>by cases h⟩
  have h4:∀L,(HB++L)[4]? =some (.row [.agg [.fs (P.procs.map aF),.fs (P.main.map encS),.fs (A.map dE),.map 2,.map 3]]):=fun L=>(k6.four L).2
  have hnP:al (.agg [.fs (P.procs.map aF),.fs (P.main.map encS)])=true:=by simp[al,ae,aq,ah]
  by_cases eT:0<=kI P.procs k p/\dV P.procs (kI P.procs k p).toNat=false
  ·have h5:k=5:=Classical.byContradiction fun h5=>by have:=eT.1;simp[kI,h5]at this
   have oO:cE P.procs [.mk k r t v lb (.mk ek en es aR) a b p ps]=ep (dT ((dd P.procs (kI P.procs k p).toNat).zip ps)) (j9 P.procs (kI P.procs k p).toNat):=by
    simp only[cE,lO,zW,if_pos eT,append_nil]
   obtain⟨_,_,oQ,dF,lx⟩:=eB.2.2.2.1 h5;have XG:(kI P.procs k p).toNat∈iC P.procs (dV P.procs) l:=j6 _ (by simp[iC,EU,eT]);have Uw:=cH _ XG;rw[kI,if_pos h5]at eT oO Uw;obtain⟨ci,HJ⟩:∃ci:Nat,bq P.procs p=ci:=⟨(bq P.procs p).toNat,by omega⟩;rw[HJ]at dF oO lx Uw eT gO;simp only[Int.toNat_natCast]at dF oO lx Uw eT;have WA:=eT.2;rw[dV,<-hA.eq]at WA;have ES:(A.map dE).getD ci .any=dE (A.getD ci []):=by
    have:A[ci]? =some (A[ci]'(by rw[hA.len];omega)):=getElem?_eq_getElem _;rw[getD_eq_getElem?_getD,getElem?_map,getD_eq_getElem?_getD,this];rfl
   rw[dE]at ES;have xY:(A.map dE).length=P.procs.length:=by rw[length_map,hA.len]
   have uV:¬(ci:Int)∈A.getD ci []:=by simpa using WA
   subst h5;simp -implicitDefEqProofs only[h2,h6,iV,iG,oZ,an hl,aa hl hlen,hg,go_sem];repeat' (first | ((first | ((with_reducible refine bj gO ?_ ?_);(·simp[ae,al,cm,aE,aq,ah])) | ((with_reducible apply cj);(·simp -implicitDefEqProofs only[map_cons,map_nil,aE,aq,ah,push_cast,go_sem_proc]<;>rfl);(with_reducible exact gO);(·rfl)) | (with_reducible refine aD ?_));simp -implicitDefEqProofs only[h2,h6,iV,iG,oZ,an hl,aa hl hlen,hg,h4,ES,xY,dF,bL,gT,fT,Option.getD_none,uV,if_false,go_sem]) | (with_reducible refine aA.mk ?_ ?_) | (with_reducible refine And.intro ?_ ?_) | ((with_reducible refine bz ?_);simp -implicitDefEqProofs only[uj,push_cast,go_sem_proc]) | intro _)
   refine av.mono (Uw _ (k6.two.app _)) ?_;rintro rr M ⟨rfl,HW⟩;obtain⟨mK,rfl,oL⟩:=HW.split k6.two;have lF:=k6.trans oL;rw[<-oL.len]at dW h2⊢;by_cases EP:ai (j9 P.procs ci)<=2000
   ·have XI:jz (j9 P.procs ci)=j9 P.procs ci:=if_pos EP;rw[XI,decide_eq_true EP];simp -implicitDefEqProofs only[h2,h6,iV,iG,oZ,an hl,aa hl hlen,hg,go_sem];intro cX;have hpsl:ps.length<=1000000:=by omega
    rw[oO]at zC HV xL;rw[gx]at HV xL;generalize hf:dT ((dd P.procs ci).zip ps)=f at*;have Ia:oH (·∈dd P.procs ci) (j9 P.procs ci):=A8 cR _ ci;have K1:a7 kv (mK.length+(J.length+1)):=bm.mB (by simp only[length_append,length_cons];rw[oL.len];omega);have K2:a7 kv (mK.length+(J.length+2)):=bm.mB (by simp only[length_append,length_cons];rw[oL.len];omega);have Bf:∀L,OV (mK++ak.row [.ptr 4 0 0]::(J++L)) kv ((cE P.procs lp).map encS):=fun L=>OV.BZ (L0:=[ak.row [.ptr 4 0 0]]) (L1:=[ak.row [.ptr 4 0 0]]) bm oL.len.symm (fun j hj=>dW j (by simpa using hj)) rfl rfl L
    generalize hB8:ak.row [V.agg [.int .i64 5,.str r,.str t,.str v,.str lb,.int .i64 ek,.int .i64 en,.str es,.fs (aR.map bu),.fs (a.map encS),.fs (b.map encS),.str p,.fs (ps.map .str)]]=B8;refine aL (fun m e H=>∃pre post kv Y,j9 P.procs ci=pre++post/\m=post.length/\e 2=.ptr mK.length 0 0/\e 6=kv/\e 12=.a6 157 [] [.ptr (mK.length+(J.length+1)) 0 0,.ptr mK.length 0 0,.ptr (mK.length+(J.length+2)) 0 0]/\e 19=.fs (l.map encS)/\e 20=.int .i64 l.length/\e 21=.int .i64 lp.length/\
     e 56=.fs ((j9 P.procs ci).map encS)/\e 57=.int .i64 (j9 P.procs ci).length/\e 58=.int .i64 pre.length/\H=mK++ak.row [.ptr 4 0 0]::Y/\Y[J.length]? =some B8/\Y[J.length+1]? =some (.row [.int .i64 ci])/\
     OV H kv ((cE P.procs lp++ep f pre).map encS)/\(∀j,j<mK.length+1->a7 kv j)/\a7 kv (mK.length+(J.length+1))/\a7 kv (mK.length+(J.length+2))) (j9 P.procs ci).length
     ⟨[],j9 P.procs ci,kv,_,rfl,rfl,by simp[az,h2],by simp[az,h6],by simp[az],by simp[az,iV],by simp[az,iG],by simp[az,oZ],by simp[az],by simp[az],by simp[az],rfl,by simp[hB8],by simp,by simpa[ep]using Bf _,dW,K1,K2⟩ ?_
    clear h2 h6 iV iG oZ K1 K2 Bf bm cP ba dW h4;rintro m e H ⟨pre,post,kv,Y,ao,rfl,h2,h6,dU,iV,iG,oZ,xF,p8,oU,rfl,XJ,XK,bm,dW,K1,K2⟩;have cP:=bm.one;have ba:=bm.cS;simp only[V.one]at ba;have Wk:=eh (cE P.procs lp);cases post with
    | cons q post=>
     have vS:=aO encS ao;have hqm:q∈j9 P.procs ci:=by rw[ao];simp
     have hlip:=eh (j9 P.procs ci);have hpl2:pre.length<=(j9 P.procs ci).length:=by rw[ao];simp
     have Bc:∀L,av Tryz.prog 83 [encS q,.a6 157 [] [.ptr (mK.length+(J.length+1)) 0 0,.ptr mK.length 0 0,.ptr (mK.length+(J.length+2)) 0 0]] (mK++ak.row [.ptr 4 0 0]::(Y++L)) (bX (encS (oX f q)) (mK++ak.row [.ptr 4 0 0]::(Y++L))):=fun L=>by
      have h8:∀L,((mK++ak.row [.ptr 4 0 0]::Y)++L)[mK.length+(J.length+1)]? =some B8:=fun L=>by
       rw[append_assoc,cons_append,fL,getElem?_cons_succ,getElem?_append_left (List.getElem?_eq_some_iff.1 XJ).1,XJ]
      have h9:∀L,((mK++ak.row [.ptr 4 0 0]::Y)++L)[mK.length+(J.length+2)]? =some (.row [.int .i64 ci]):=fun L=>by
       rw[append_assoc,cons_append,fL,getElem?_cons_succ,getElem?_append_left (List.getElem?_eq_some_iff.1 XK).1,XK]
      have h:=CF f 157 [.ptr (mK.length+(J.length+1)) 0 0,.ptr mK.length 0 0,.ptr (mK.length+(J.length+2)) 0 0] (mK++ak.row [.ptr 4 0 0]::Y) (·∈dd P.procs ci) (fun r hr L=>by
       rw[<-hf];exact Wq (A:=A) _ _ _ _ ci dF _ _ _ _ _ _ _ _ _ _ _ _ ps lx hpsl (by rw[hB8];exact h8) (fun L=>by rw[append_assoc,cons_append,l7];rfl) (fun L=>by rw[append_assoc];exact(lF.four _).2) h9 r hr L) _ q (Nat.lt_succ_self _) (Qc hw EP hqm) (sK Ia q hqm) L
      rwa[append_assoc,cons_append]at h
     generalize VO:oX f q=q2 at Bc;have LQ:ep f (pre++ [q])=ep f pre++ [q2]:=by rw[gW,ep,ep,VO]
     rcases q with⟨k',r',t',v',l',⟨ek',en',wz,PH⟩,a',b',p',ps'⟩
     rcases q2 with⟨k2,r2,t2,v2,l2,⟨ek2,en2,es2,PI⟩,a2,b2,p2,ps2⟩
     rw[ay]at vS;simp only[ay]at Bc;simp -implicitDefEqProofs only[h2,h6,dU,iV,iG,oZ,xF,p8,oU,an ao,aa ao cX,vS,cP,ba,go_sem];repeat' (first | ((first | (with_reducible refine bR ((Bc _)) ?_) | (with_reducible refine aD ?_));simp -implicitDefEqProofs only[h2,h6,dU,iV,iG,oZ,xF,p8,oU,an ao,aa ao cX,vS,cP,ba,go_sem]) | (with_reducible refine aA.mk ?_ ?_) | (with_reducible refine And.intro ?_ ?_) | ((with_reducible refine bz ?_);simp -implicitDefEqProofs only[uj,push_cast,go_sem_proc]) | intro _)
     have hovX:∀b,OV (mK++ak.row [.ptr 4 0 0]::(Y++ [b])) kv ((cE P.procs lp++ep f pre).map encS):=fun b=>by have h:=bm.app [b];rw[append_assoc,cons_append]at h;exact h
     refine Qd (J:=Y++ [_]) (hovX _) dW (fun i o l h=>by cases h) (cx _) (by simp only[length_map,length_append,length_cons,length_nil,qb];omega) ?_;rintro bN Y' bo vM xS;obtain⟨hY8',Ww⟩:=xS J.length B8 (by rw[getElem?_append_left (List.getElem?_eq_some_iff.1 XJ).1,XJ]) K1;obtain⟨hY9',Wx⟩:=xS (J.length+1) _ (by rw[getElem?_append_left (List.getElem?_eq_some_iff.1 XK).1,XK]) K2;simp -implicitDefEqProofs only[h2,h6,dU,iV,iG,oZ,xF,p8,oU,aa ao cX,go_sem];refine⟨post.length,Nat.lt_succ_self _,pre++ [_],post,bN,Y',by simp[ao];rfl,rfl,rfl,by simp,rfl,hY8',hY9',?_,vM,Ww,Wx⟩;rw[LQ,<-append_assoc,map_append,map_singleton,ay];exact bo
    | nil=>
     have ev:pre=j9 P.procs ci:=by rw[ao];simp
     subst ev;rw[<-zC]at bm;have hz:=dw (f:=encS) (n:=18) (fun H x=>eg H 17 x) bm;have si:=t252 _ (cE P.procs (lp++ [.mk 5 r t v lb (.mk ek en es aR) a b p ps])) (Nat.lt_succ_self _) (by omega);by_cases LS:ai (cE P.procs (lp++ [.mk 5 r t v lb (.mk ek en es aR) a b p ps]))<=2000
     ·have x6:¬(2000:Int)<(ai (cE P.procs (lp++ [.mk 5 r t v lb (.mk ek en es aR) a b p ps])):Int):=by omega
      simp -implicitDefEqProofs only[h2,h6,dU,iV,iG,oZ,xF,p8,oU,aI ao,go_sem];repeat' (first | ((first | ((with_reducible refine bj si ?_ ?_);(·simp[ae,al,cm,hz])) | ((with_reducible apply cj);(·simp -implicitDefEqProofs only[map_cons,map_nil,hz,push_cast,go_sem_proc]<;>rfl);(with_reducible exact si);(·rfl)) | (with_reducible refine aD ?_));simp -implicitDefEqProofs only[h2,h6,dU,iV,iG,oZ,xF,p8,oU,aI ao,x6,decide_false,aa hl hlen,go_sem]) | (with_reducible refine aA.mk ?_ ?_) | (with_reducible refine And.intro ?_ ?_) | ((with_reducible refine bz ?_);simp -implicitDefEqProofs only[uj,push_cast,go_sem_proc]) | intro _)
      refine⟨rest.length,Nat.lt_succ_self _,lp++ [.mk 5 r t v lb (.mk ek en es aR) a b p ps],rest,mK,kv,Y,by simp[hl],rfl,by rw[lF.len],rfl,by simp,rfl,lF,LS,bm,fun j hj=>dW j (by rw[lF.len];exact hj)⟩
     ·have x6:(2000:Int)<(ai (cE P.procs (lp++ [.mk 5 r t v lb (.mk ek en es aR) a b p ps])):Int):=by omega
      have hff:2000<ai (cE P.procs l):=by rw[xL];omega
      simp -implicitDefEqProofs only[h2,h6,dU,iV,iG,oZ,xF,p8,oU,aI ao,go_sem];repeat' (first | ((first | ((with_reducible refine bj si ?_ ?_);(·simp[ae,al,cm,hz])) | ((with_reducible apply cj);(·simp -implicitDefEqProofs only[map_cons,map_nil,hz,push_cast,go_sem_proc]<;>rfl);(with_reducible exact si);(·rfl)) | (with_reducible refine aD ?_));simp -implicitDefEqProofs only[h2,h6,dU,iV,iG,oZ,xF,p8,oU,aI ao,x6,decide_true,aa hl hlen,go_sem]) | (with_reducible refine aA.mk ?_ ?_) | (with_reducible refine And.intro ?_ ?_) | ((with_reducible refine bz ?_);simp -implicitDefEqProofs only[uj,push_cast,go_sem_proc]) | intro _)
      exact zF hff _ _ lF
   ·have hf:2000<ai (cE P.procs l):=by rw[xL,oO,gx];omega
    rw[decide_eq_false EP];simp -implicitDefEqProofs only[h2,h6,iV,iG,oZ,an hl,aa hl hlen,hg,go_sem];simp -implicitDefEqProofs only[uj,push_cast,go_sem_proc];exact zF hf _ _ lF
  ·have oO:cE P.procs [.mk k r t v lb (.mk ek en es aR) a b p ps]=[.mk k r t v lb (.mk ek en es aR) (cE P.procs a) (cE P.procs b) p ps]:=by
    simp only[cE,lO,zW,if_neg eT,append_nil]
   obtain⟨ha,hb⟩:=pg k r t v lb (.mk ek en es aR) a b p ps da eT;rw[oO]at zC HV xL;simp only[ai,dA]at HV xL;obtain⟨s0,z8⟩:∃s0,s0=St.mk k r t v lb (.mk ek en es aR) a b p ps:=⟨_,rfl⟩;rw[<-z8]at zC HV hl;have Bf:∀{HBx:List ak} (h:HBx.length=HB.length) L,OV (HBx++ak.row [.ptr 4 0 0]::(J++L)) kv ((cE P.procs lp).map encS):=fun h L=>OV.BZ (L0:=[ak.row [.ptr 4 0 0]]) (L1:=[ak.row [.ptr 4 0 0]]) bm rfl (fun j hj=>dW j (by simpa using hj)) h rfl L
   have Wk:=eh (cE P.procs lp);simp -implicitDefEqProofs only[h2,h6,iV,iG,oZ,an hl,aa hl hlen,hg,go_sem];refine aD ?_;simp -implicitDefEqProofs only[h2,h6,iV,iG,oZ,an hl,aa hl hlen,hg,h4,go_sem];refine sn (by simp[ae,aE,al,aq,ah]) gO ?_;simp -implicitDefEqProofs only[h2,h6,iV,iG,oZ,an hl,aa hl hlen,hg,h4,go_sem];refine⟨⟨di (by simp[ae,aE,al,aq,ah]) gO ⟨rfl,rfl⟩,di (by simp[ae,aE,al,aq,ah]) gO ⟨rfl,rfl⟩⟩,?_⟩;have hsel:k≠5\/(k=5/\∃ci:Nat,bq P.procs p=ci/\ci<P.procs.length/\(ci:Int)∈A.getD ci []):=by
    by_cases h5:k=5
    ·right;obtain⟨_,_,oQ,dF,lx⟩:=eB.2.2.2.1 h5;refine⟨h5,(bq P.procs p).toNat,by omega,dF,?_⟩;rw[kI,if_pos h5]at eT;have:dV P.procs (bq P.procs p).toNat=true:=by
      cases hc:dV P.procs (bq P.procs p).toNat with
      | true=>rfl
      | false=>exact absurd ⟨oQ,hc⟩ eT
     rw[dV,<-hA.eq]at this;simpa using this
    ·exact .inl h5
   have xY:(A.map dE).length=P.procs.length:=by rw[length_map,hA.len]
   rcases hsel with h5 | ⟨rfl,ci,HJ,dF,uV⟩
   focus
    refine aD ?_;simp -implicitDefEqProofs only[h2,h6,iV,iG,oZ,an hl,aa hl hlen,hg,h4,h5,decide_false,go_sem]
   rotate_left
   focus
    have ES:(A.map dE).getD ci .any=dE (A.getD ci []):=by
     have:A[ci]? =some (A[ci]'(by rw[hA.len];omega)):=getElem?_eq_getElem _;rw[getD_eq_getElem?_getD,getElem?_map,getD_eq_getElem?_getD,this];rfl
    rw[dE]at ES;rw[HJ];refine aD ?_;simp -implicitDefEqProofs only[h2,h6,iV,iG,oZ,an hl,aa hl hlen,hg,h4,ES,xY,dF,bL,gT,fT,Option.getD_some,uV,if_true,go_sem]
   all_goals
    refine av.mono (ha _ (k6.two.app _)) ?_;rintro rr M ⟨rfl,HW⟩;obtain⟨mK,rfl,oL⟩:=HW.split k6.two;rw[<-oL.len]at h2⊢;simp -implicitDefEqProofs only[h2,h6,iV,iG,oZ,go_sem];refine av.mono (hb _ (oL.two.app _)) ?_;rintro rr M ⟨rfl,lF⟩;obtain⟨HB2,rfl,DT⟩:=lF.split oL.two;rw[<-DT.len]at h2⊢;have Et:=(k6.trans oL).trans DT;have OE:HB2.length=HB.length:=by rw[DT.len,oL.len]
    by_cases hsa:ai (cE P.procs a)<=2000
    ·by_cases Ag:ai (cE P.procs b)<=2000
     ·have IB:jz (cE P.procs a)=cE P.procs a:=if_pos hsa;have j1:jz (cE P.procs b)=cE P.procs b:=if_pos Ag;rw[IB,j1,decide_eq_true hsa,decide_eq_true Ag];simp -implicitDefEqProofs only[h2,h6,iV,iG,oZ,cP,ba,go_sem];refine app_1 (J:=J++ [_,_]) (Bf OE _) (fun j hj=>dW j (by rw[<-OE];exact hj)) (fun i o l h=>by cases h) (cx _) (by simp only[length_map,length_cons,length_nil];omega) ?_;rintro bN Y bo vM;have bJ:OV (HB2++ak.row [.ptr 4 0 0]::Y) bN ((cE P.procs (lp++ [s0])).map encS):=by rw[zC,map_append,map_singleton,ay];exact bo
      have hz:=dw (f:=encS) (n:=18) (fun H x=>eg H 17 x) bJ;have si:=t252 _ (cE P.procs (lp++ [s0])) (Nat.lt_succ_self _) (by omega);by_cases LS:ai (cE P.procs (lp++ [s0]))<=2000
      ·have x6:¬(2000:Int)<(ai (cE P.procs (lp++ [s0])):Int):=by omega
       simp -implicitDefEqProofs only[h2,h6,iV,iG,oZ,go_sem];repeat' (first | ((first | ((with_reducible refine bj si ?_ ?_);(·simp[ae,al,cm,hz])) | ((with_reducible apply cj);(·simp -implicitDefEqProofs only[map_cons,map_nil,hz,push_cast,go_sem_proc]<;>rfl);(with_reducible exact si);(·rfl)) | (with_reducible refine aD ?_));simp -implicitDefEqProofs only[h2,h6,iV,iG,oZ,x6,decide_false,aa hl hlen,go_sem]) | (with_reducible refine aA.mk ?_ ?_) | (with_reducible refine And.intro ?_ ?_) | ((with_reducible refine bz ?_);simp -implicitDefEqProofs only[uj,push_cast,go_sem_proc]) | intro _)
       refine⟨rest.length,Nat.lt_succ_self _,lp++ [s0],rest,HB2,bN,Y,by simp[hl],rfl,by rw[Et.len],rfl,by simp,rfl,Et,LS,bJ,fun j hj=>vM j (by rw[Et.len];exact hj)⟩
      ·have x6:(2000:Int)<(ai (cE P.procs (lp++ [s0])):Int):=by omega
       simp -implicitDefEqProofs only[h2,h6,iV,iG,oZ,go_sem];repeat' (first | ((first | ((with_reducible refine bj si ?_ ?_);(·simp[ae,al,cm,hz])) | ((with_reducible apply cj);(·simp -implicitDefEqProofs only[map_cons,map_nil,hz,push_cast,go_sem_proc]<;>rfl);(with_reducible exact si);(·rfl)) | (with_reducible refine aD ?_));simp -implicitDefEqProofs only[h2,h6,iV,iG,oZ,x6,decide_true,aa hl hlen,go_sem]) | (with_reducible refine aA.mk ?_ ?_) | (with_reducible refine And.intro ?_ ?_) | ((with_reducible refine bz ?_);simp -implicitDefEqProofs only[uj,push_cast,go_sem_proc]) | intro _)
       exact zF (by rw[xL];omega) _ _ Et
     ·rw[decide_eq_false Ag];simp -implicitDefEqProofs only[h2,h6,iV,iG,oZ,cP,ba,go_sem];repeat' (first | ((with_reducible refine aD ?_);simp -implicitDefEqProofs only[h2,h6,iV,iG,oZ,cP,ba,go_sem]) | (with_reducible refine aA.mk ?_ ?_) | (with_reducible refine And.intro ?_ ?_) | ((with_reducible refine bz ?_);simp -implicitDefEqProofs only[uj,push_cast,go_sem_proc]) | intro _)
      all_goals exact zF (by rw[xL];omega) _ _ Et
    ·rw[decide_eq_false hsa];simp -implicitDefEqProofs only[h2,h6,iV,iG,oZ,cP,ba,go_sem];repeat' (first | ((with_reducible refine aD ?_);simp -implicitDefEqProofs only[h2,h6,iV,iG,oZ,cP,ba,go_sem]) | (with_reducible refine aA.mk ?_ ?_) | (with_reducible refine And.intro ?_ ?_) | ((with_reducible refine bz ?_);simp -implicitDefEqProofs only[uj,push_cast,go_sem_proc]) | intro _)
     all_goals exact zF (by rw[xL];omega) _ _ Et
theorem C0 {P:bH} (cR:lK P=0) (hw:iE P<=1000000) {A:List (List Int)} (hA:p6 P.procs A) (f:Nat)
 (cH:∀c,dV P.procs c=false->c<P.procs.length->x4 P.procs c<f->BC P A c):
 ∀(m:Nat) (l:List St),SizeOf.sizeOf l<m->(∃Rs,qz P.procs Rs l)->dn l<=1000000->(∀c∈iC P.procs (dV P.procs) l,x4 P.procs c<f)->LC P A l
 | 0,l,h=>absurd h (Nat.not_lt_zero _)
 | m+1,l,hm=>fun⟨Rs,vj⟩ Mo sm=>by
  refine Wu cR hw hA l Rs vj Mo (fun c hc=>cH c (j4 hc).1 (j4 hc).2 (sm c hc)) (fun k r t v lb e a b p ps da eT=> ?_);have hs:=sizeOf_lt_of_mem da;simp only[St.mk.sizeOf_spec]at hs;have gB:=CX vj da;obtain⟨p1,p2,rfl⟩:=append_of_mem da;have j6:∀c,c∈iC P.procs (dV P.procs) a\/c∈iC P.procs (dV P.procs) b->c∈iC P.procs (dV P.procs) (p1++St.mk k r t v lb e a b p ps::p2):=fun c hc=>by
   rw[et,iC,EU,if_neg eT];simp only[mem_append];exact .inr (.inl hc)
  simp only[cB,dn,wS]at Mo;exact⟨C0 cR hw hA f cH m a (by omega) ⟨Rs,gB.1⟩ (by omega) (fun c hc=>sm c (j6 c (.inl hc))),C0 cR hw hA f cH m b (by omega) ⟨Rs,gB.2⟩ (by omega) (fun c hc=>sm c (j6 c (.inr hc)))⟩
theorem t300 {P:bH} (cR:lK P=0) (hw:iE P<=1000000) {A:List (List Int)} (hA:p6 P.procs A):
 ∀(f c:Nat),dV P.procs c=false->c<P.procs.length->x4 P.procs c<f->BC P A c
 | 0,c,_,_,h=>absurd h (Nat.not_lt_zero _)
 | f+1,c,hg,eT,sm=>Wr eT (C0 cR hw hA f (t300 cR hw hA f) _ _ (Nat.lt_succ_self _) ⟨_,qf cR c⟩ (mJ hw c) (fun d hd=>by have:=xA hd;omega))
theorem t251 {P:bH} (cR:lK P=0) (hw:iE P<=1000000) {A:List (List Int)} (hA:p6 P.procs A) {l:List St} (vj:∃Rs,qz P.procs Rs l) (Mo:dn l<=1000000):LC P A l:=
 C0 cR hw hA (P.procs.length+1) (t300 cR hw hA _) _ l (Nat.lt_succ_self _) vj Mo (fun c _=>by have:=rh P.procs c;omega)
theorem xM (l:List St):ai (jz l)<=2000:=by
 rw[jz];split
 ·assumption
 ·simp[ai]
theorem Qg {P:bH} {p1 p2:List Pr} {q:Pr} (h:P.procs=p1++q::p2) (hr:dV P.procs p1.length=true):ai (cE P.procs q.steps)+ai (cE P.procs P.main)<=total (uJ P):=by
 have zE:total (uJ P)=ai (cE P.procs P.main)+bD (kC P.procs P.procs 0):=rfl;have e:kC P.procs P.procs 0=kC P.procs (p1++q::p2) 0:=by rw[<-h]
 rw[e,gX,kC,Nat.zero_add,if_pos hr,bE,bE]at zE;simp only[bD]at zE;omega
theorem t218 (P:bH) (hw:iE P<=1000000) (ew:P.procs.length<=1000000) (cR:lK P=0):af Tryz.prog 25 [aP P] (·=vw P):=by
 have hc:total P<=1000000:=Nat.le_trans (kx P) hw;have Ba:=t249 P hw ew;have K3:=t250 P hc cR;have QY:dn P.main<=1000000:=by simp only[iE]at hw;omega
 simp only[aP]at Ba K3⊢;refine af.intro c218 900 (by simp) 20 ?_;simp -implicitDefEqProofs only[V7,go_sem];repeat' (first | ((first | ((with_reducible refine bj Ba ?_ ?_);(·simp[ae,al,cm,aq,ah])) | ((with_reducible apply cj);(·simp -implicitDefEqProofs only[map_cons,map_nil,aq,ah,push_cast,go_sem_proc]<;>rfl);(with_reducible exact Ba);(·rfl)) | (with_reducible refine aD ?_));simp -implicitDefEqProofs only[Int.reduceEq,go_sem]) | (with_reducible refine aA.mk ?_ ?_) | (with_reducible refine And.intro ?_ ?_) | ((with_reducible refine bz ?_);simp -implicitDefEqProofs only[xC,push_cast,go_sem_proc]) | intro _)
 have hA:=Px cR;generalize LY P=A at*;have xY:(A.map dE).length=P.procs.length:=by rw[length_map,hA.len]
 refine N8 ?_;simp -implicitDefEqProofs only[go_sem];refine sn (by simp[ae,al,aq,ah]) K3 ?_;simp -implicitDefEqProofs only[go_sem];refine⟨⟨di (by simp[ae,al,aq,ah]) K3 ⟨rfl,rfl⟩,di (by simp[ae,al,aq,ah]) K3 ⟨rfl,rfl⟩⟩,?_⟩;have UE:OI P A [ak.row [.agg [.fs (P.procs.map aF),.fs (P.main.map encS)]],ak.row [.agg [.ag,.ag]],ak.mp [] [],ak.mp [] [],Be P A]:=⟨_,_,[],[],[],rfl,rfl⟩;have hLm:=t251 cR hw hA ⟨_,CN cR⟩ QY;refine av.mono (hLm _ UE) ?_;generalize mq:[ak.row [.agg [.fs (P.procs.map aF),.fs (P.main.map encS)]],ak.row [.agg [.ag,.ag]],ak.mp [] [],ak.mp [] [],Be P A]=H0 at UE;rintro r HB ⟨rfl,k6⟩;have k6:OR P A H0 HB:=by rw[<-mq];exact k6
 have j5:H0.length=5:=by rw[<-mq];rfl
 have Ec:H0[0]? =some (ak.row [.agg [.fs (P.procs.map aF),.fs (P.main.map encS)]]):=by rw[<-mq];rfl
 have lC:H0[1]? =some (ak.row [.agg [.ag,.ag]]):=by rw[<-mq];rfl
 have hLb:∀j,LC P A (aK P.procs j):=fun j=>t251 cR hw hA ⟨_,qf cR j⟩ (mJ hw j)
 have si:=fun xs=>t252 _ (jz xs) (Nat.lt_succ_self _) (by have:=xM xs;omega)
 have HX:=si (cE P.procs P.main);have g0:∀{HB:List ak},OR P A H0 HB->∀L,(HB++L)[0]? =some (ak.row [.agg [.fs (P.procs.map aF),.fs (P.main.map encS)]]):=fun{HB} h L=>by rw[getElem?_append_left (by rw[h.len];omega),h.lt (by omega),Ec]
 have g1:∀{HB:List ak},OR P A H0 HB->∀L,(HB++L)[1]? =some (ak.row [.agg [.ag,.ag]]):=fun{HB} h L=>by rw[getElem?_append_left (by rw[h.len];omega),h.lt (by omega),lC]
 have g4:∀{HB:List ak},OR P A H0 HB->∀L,(HB++L)[4]? =some (.row [.agg [.fs (P.procs.map aF),.fs (P.main.map encS),.fs (A.map dE),.map 2,.map 3]]):=fun h L=>(h.four L).2
 generalize XL:jz (cE P.procs P.main)=mL at*;simp -implicitDefEqProofs only[g0 k6,go_sem];repeat' (first | ((first | ((with_reducible refine bj HX ?_ ?_);(·simp[ae,al,cm,ah])) | ((with_reducible apply cj);(·simp -implicitDefEqProofs only[map_cons,map_nil,ah,push_cast,go_sem_proc]<;>rfl);(with_reducible exact HX);(·rfl)) | (with_reducible refine aD ?_));simp -implicitDefEqProofs only[g0 k6,go_sem]) | (with_reducible refine aA.mk ?_ ?_) | (with_reducible refine And.intro ?_ ?_) | ((with_reducible refine bz ?_);simp -implicitDefEqProofs only[xC,push_cast,go_sem_proc]) | intro _)
 have hlen:P.procs.length<=9223372036854775807:=by omega
 refine aL (fun m e H=>∃pre post HB kv acc J,∃ok:Bool,∃sz:Nat,P.procs=pre++post/\m=post.length/\e 2=.ptr 1 0 0/\e 4=.ptr 4 0 0/\e 6=.bool ok/\e 7=.ptr 5 0 0/\e 8=.int .i64 sz/\e 35=.fs (P.procs.map aF)/\e 36=.int .i64 P.procs.length/\e 37=.int .i64 pre.length/\
  H=HB++ak.row [.agg [kv,.fs (mL.map encS)]]::J/\OR P A H0 HB/\OV H kv (acc.map aF)/\(∀j,j<6->a7 kv j)/\acc.length<=pre.length/\sz<=2000*(pre.length+1)/\
  (ok=true->acc=kC P.procs pre 0/\sz=ai (cE P.procs P.main)+bD (kC P.procs pre 0)/\mL=cE P.procs P.main)/\(ok=false->2000<total (uJ P))) P.procs.length
  ⟨[],P.procs,HB,.ag,[],[],decide (ai (cE P.procs P.main)<=2000),ai mL,rfl,rfl,by simp[az],by simp[az],by simp[az],by simp[az,k6.len,j5],by simp[az],by simp[az],by simp[az],by simp[az],by simp,k6,.inl ⟨rfl,rfl⟩,(fun j _ a b h=>by cases h),by simp,by have:=xM (cE P.procs P.main);rw[XL]at this;simpa using this,fun h=> ?_,fun h=> ?_⟩ ?_
 ·have h:=of_decide_eq_true h;rw[jz,if_pos h]at XL;exact⟨by simp[kC],by rw[XL];simp[kC,bD],XL.symm⟩
 ·have h:=of_decide_eq_false h;have:total (uJ P)=ai (cE P.procs P.main)+bD (kC P.procs P.procs 0):=rfl;omega
 clear k6 HX;rintro m e H ⟨pre,post,HB,kv,acc,J,ok,sz,ao,rfl,h2,h4,h6,h7,h8,gL,hU,wh,rfl,k6,bm,dW,qK,eW,dx,Qh⟩;have cP:=bm.one;have ba:=bm.cS;simp only[V.one]at ba;have OE:HB.length=5:=by rw[k6.len,j5]
 rw[<-OE]at h7;have dW:∀j,j<HB.length+1->a7 kv j:=fun j hj=>dW j (by omega)
 have hg4:=g4 k6;have hpl2:pre.length<=P.procs.length:=by rw[ao];simp
 cases post with
 | cons q post=>
  have hg:=aO aF ao;simp only[aF]at hg;have dF:pre.length<P.procs.length:=by rw[ao];simp
  have DY:aK P.procs pre.length=q.steps:=lk ao;have xH:kC P.procs (pre++ [q]) 0=kC P.procs pre 0++if dV P.procs pre.length=true then[⟨q.name,q.au,cE P.procs q.steps⟩]else[]:=by rw[gX];simp[kC]
  have ES:(A.map dE).getD pre.length .any=dE (A.getD pre.length []):=by
   have:A[pre.length]? =some (A[pre.length]'(by rw[hA.len];omega)):=getElem?_eq_getElem _;rw[getD_eq_getElem?_getD,getElem?_map,getD_eq_getElem?_getD,this];rfl
  rw[dE]at ES;have On:=hA.eq pre.length pre.length;change _=dV P.procs pre.length at On;have EN:=hLb pre.length;rw[DY]at EN;by_cases hr:dV P.procs pre.length=true
  ·rw[if_pos hr]at xH;have nJ:=Qg ao hr;have uV:((pre.length:Nat):Int)∈A.getD pre.length []:=by rw[hr]at On;simpa using On
   have C1:=si (cE P.procs q.steps);have Qw:=xM (cE P.procs q.steps);simp -implicitDefEqProofs only[h2,h4,h6,h7,h8,gL,hU,wh,an ao,aa ao hlen,hg,hg4,ES,xY,dF,bL,gT,fT,Option.getD_some,uV,if_true,go_sem];refine av.mono (EN _ (k6.two.app _)) ?_;rintro rr M ⟨rfl,HW⟩;obtain⟨mK,rfl,oL⟩:=HW.split k6.two;have Bf:∀L,OV (mK++ak.row [.agg [kv,.fs (mL.map encS)]]::(J++L)) kv (acc.map aF):=fun L=>OV.BZ (L0:=[ak.row [.agg [kv,.fs (mL.map encS)]]]) (L1:=[ak.row [.agg [kv,.fs (mL.map encS)]]]) bm rfl (fun j hj=>dW j (by simpa using hj)) oL.len rfl L
   have lF:=k6.trans oL;rw[<-oL.len]at h7 dW⊢;have w1:=zD (x:=(sz:Int)+(ai (jz (cE P.procs q.steps)):Int)) (by omega) (by omega);have fi:∀bN Y,OV (mK++ak.row [.agg [kv,.fs (mL.map encS)]]::Y) bN ((acc++ [(⟨q.name,q.au,jz (cE P.procs q.steps)⟩:Pr)]).map aF)->(∀j,j<mK.length+1->a7 bN j)->OV (mK++ak.row [.agg [bN,.fs (mL.map encS)]]::Y) bN ((acc++ [(⟨q.name,q.au,jz (cE P.procs q.steps)⟩:Pr)]).map aF):=fun bN Y h hk=>by
    have h2:=h.set (x:=ak.row [.agg [bN,.fs (mL.map encS)]]) (hk mK.length (by omega));rwa[l8]at h2
   cases ok
   ·simp -implicitDefEqProofs only[h2,h4,h6,h7,h8,gL,hU,wh,go_sem];repeat' (first | ((first | ((with_reducible refine bj C1 ?_ ?_);(·simp[ae,al,cm,ah])) | ((with_reducible apply cj);(·simp -implicitDefEqProofs only[map_cons,map_nil,ah,push_cast,go_sem_proc]<;>rfl);(with_reducible exact C1);(·rfl)) | (with_reducible refine aD ?_));simp -implicitDefEqProofs only[h2,h4,h6,h7,h8,gL,hU,wh,w1,cP,ba,go_sem]) | (with_reducible refine aA.mk ?_ ?_) | (with_reducible refine And.intro ?_ ?_) | ((with_reducible refine bz ?_);simp -implicitDefEqProofs only[xC,push_cast,go_sem_proc]) | intro _)
    refine app_1 (J:=J++ [_]) (Bf _) dW (fun i o l h=>by cases h) (fo _) (by simp only[length_map,length_cons,length_nil];omega) ?_;rintro bN Y bo vM;have j8:=bo.one;have cY:=bo.cS;simp only[V.one]at cY;simp -implicitDefEqProofs only[h2,h4,h6,h7,h8,gL,hU,wh,j8,cY,aa ao hlen,go_sem];refine⟨post.length,Nat.lt_succ_self _,pre++ [q],post,mK,bN,acc++ [(⟨q.name,q.au,jz (cE P.procs q.steps)⟩:Pr)],Y,false,sz+ai (jz (cE P.procs q.steps)),by simp[ao],rfl,rfl,by rw[lF.len,j5],by rw[Int.natCast_add],by simp,rfl,lF,fi _ _ (by rw[map_append,map_singleton,aF];exact bo) vM,fun j hj=>vM j (by rw[lF.len];omega),by simp;omega,by simp;omega,(fun h=>by cases h),fun _=>Qh rfl⟩
   ·simp -implicitDefEqProofs only[h2,h4,h6,h7,h8,gL,hU,wh,go_sem];repeat' (first | ((first | ((with_reducible refine bj C1 ?_ ?_);(·simp[ae,al,cm,ah])) | ((with_reducible apply cj);(·simp -implicitDefEqProofs only[map_cons,map_nil,ah,push_cast,go_sem_proc]<;>rfl);(with_reducible exact C1);(·rfl)) | (with_reducible refine aD ?_));simp -implicitDefEqProofs only[h2,h4,h6,h7,h8,gL,hU,wh,w1,cP,ba,go_sem]) | (with_reducible refine aA.mk ?_ ?_) | (with_reducible refine And.intro ?_ ?_) | ((with_reducible refine bz ?_);simp -implicitDefEqProofs only[xC,push_cast,go_sem_proc]) | intro _)
    refine app_1 (J:=J++ [_]) (Bf _) dW (fun i o l h=>by cases h) (fo _) (by simp only[length_map,length_cons,length_nil];omega) ?_;rintro bN Y bo vM;have j8:=bo.one;have cY:=bo.cS;simp only[V.one]at cY;simp -implicitDefEqProofs only[h2,h4,h6,h7,h8,gL,hU,wh,j8,cY,aa ao hlen,go_sem];refine⟨post.length,Nat.lt_succ_self _,pre++ [q],post,mK,bN,acc++ [(⟨q.name,q.au,jz (cE P.procs q.steps)⟩:Pr)],Y,decide (ai (cE P.procs q.steps)<=2000),sz+ai (jz (cE P.procs q.steps)),by simp[ao],rfl,rfl,by rw[lF.len,j5],by rw[Int.natCast_add],by simp,rfl,lF,fi _ _ (by rw[map_append,map_singleton,aF];exact bo) vM,fun j hj=>vM j (by rw[lF.len];omega),by simp;omega,by simp;omega,fun h=> ?_,fun h=> ?_⟩
    ·have h:=of_decide_eq_true h;obtain⟨o1,o2,o3⟩:=dx rfl;have XI:jz (cE P.procs q.steps)=cE P.procs q.steps:=if_pos h;refine⟨by rw[xH,XI,o1],?_,o3⟩;rw[xH,XI,o2,bE];simp[bD];omega
    ·have h:=of_decide_eq_false h;omega
  ·rw[if_neg hr,append_nil]at xH;have uV:¬((pre.length:Nat):Int)∈A.getD pre.length []:=fun h=>hr (by rw[<-On];simpa using h)
   simp -implicitDefEqProofs only[h2,h4,h6,h7,h8,gL,hU,wh,an ao,aa ao hlen,hg,hg4,ES,xY,dF,bL,gT,fT,Option.getD_none,uV,if_false,go_sem];exact⟨post.length,Nat.lt_succ_self _,pre++ [q],post,HB,kv,acc,_,ok,sz,by simp[ao],rfl,rfl,by rw[OE],rfl,by simp,rfl,k6,by simpa using bm.app [_],fun j hj=>dW j (by omega),by simp;omega,by simp;omega,fun h=>by rw[xH];exact dx h,Qh⟩
 | nil=>
  have ev:pre=P.procs:=by rw[ao];simp
  subst ev;have tN:=g1 k6;have eB:∀X b,((HB++X).set 1 b)[1]? =some b:=fun X b=>getElem?_set_self (by simp;omega)
  cases ok with
  | false=>
   rw[vw,if_pos (Qh rfl)];simp -implicitDefEqProofs only[h2,h4,h6,h7,h8,gL,hU,wh,aI ao,tN,go_sem];simp -implicitDefEqProofs only[xC,h2,eB,push_cast,go_sem_proc];rfl
  | true=>
   obtain⟨rfl,rfl,rfl⟩:=dx rfl;have zE:ai (cE P.procs P.main)+bD (kC P.procs P.procs 0)=total (uJ P):=rfl;rw[zE]at h8;by_cases LS:2000<total (uJ P)
   ·have x6:(2000:Int)<(total (uJ P):Int):=by omega
    rw[vw,if_pos LS];simp -implicitDefEqProofs only[h2,h4,h6,h7,h8,gL,hU,wh,aI ao,tN,x6,decide_true,go_sem];simp -implicitDefEqProofs only[xC,h2,eB,push_cast,go_sem_proc];rfl
   ·have x6:¬(2000:Int)<(total (uJ P):Int):=by omega
    have hz:=dw (f:=aF) (n:=17) (fun H x=>gr H 16 x) bm;have Jj:=dw (f:=aF) (n:=16) (fun H x=>gr H 15 x) (bm.set (x:=ak.row [.agg [kv,.fs ((cE P.procs P.main).map encS)]]) (dW 1 (by omega)));have nK:=t24 (uJ P) (by omega);simp only[aP,uJ]at nK;rw[vw,if_neg LS];by_cases Am:np (uJ P)=0
    ·rw[if_neg (by simpa using Am)];rw[show np ⟨kC P.procs P.procs 0,cE P.procs P.main⟩=0 from Am]at nK;simp -implicitDefEqProofs only[h2,h4,h6,h7,h8,gL,hU,wh,aI ao,tN,x6,decide_false,go_sem];repeat' (first | ((first | ((with_reducible refine bj nK ?_ ?_);(·simp[ae,al,cm,hz,ah])) | ((with_reducible apply cj);(·simp -implicitDefEqProofs only[map_cons,map_nil,hz,ah,push_cast,go_sem_proc]<;>rfl);(with_reducible exact nK);(·rfl)) | (with_reducible refine aD ?_));simp -implicitDefEqProofs only[h2,h4,h6,h7,h8,gL,hU,wh,tN,x6,decide_false,ba,cP,go_sem]) | (with_reducible refine aA.mk ?_ ?_) | (with_reducible refine And.intro ?_ ?_) | ((with_reducible refine bz ?_);simp -implicitDefEqProofs only[xC,h2,eB,Jj,push_cast,go_sem_proc]) | intro _)
     rfl
    ·rw[if_pos Am];change af _ _ _ (·=.int .i64 (np (uJ P)))at nK;simp -implicitDefEqProofs only[h2,h4,h6,h7,h8,gL,hU,wh,aI ao,tN,x6,decide_false,go_sem];repeat' (first | ((first | ((with_reducible refine bj nK ?_ ?_);(·simp[ae,al,cm,hz,ah])) | ((with_reducible apply cj);(·simp -implicitDefEqProofs only[map_cons,map_nil,hz,ah,push_cast,go_sem_proc]<;>rfl);(with_reducible exact nK);(·rfl)) | (with_reducible refine aD ?_));simp -implicitDefEqProofs only[h2,h4,h6,h7,h8,gL,hU,wh,tN,x6,decide_false,Am,decide_true,go_sem]) | (with_reducible refine aA.mk ?_ ?_) | (with_reducible refine And.intro ?_ ?_) | ((with_reducible refine bz ?_);simp -implicitDefEqProofs only[xC,h2,eB,push_cast,go_sem_proc]) | intro _)
     rfl
theorem Bg (k:Int) (r t:ByteArray) (ps:List ByteArray):(dS k r t ps).length<=2+ps.length:=by
 rw[dS];repeat' split
 all_goals simp
 all_goals omega
mutual
theorem K4:∀(s:St) (pr:Int) (la:Bool),(rR (nu s pr la)).length<=3*wS s
 | .mk k r t v l e a b p ps,pr,la=>by
  have ha:=qo a pr la;have hb:=qo b pr la;have hr:=Bg k r t ps;rw[nu,show(St.mk k r t v l e a b p ps,pr,la)::(gC a pr la++gC b pr la)=[(St.mk k r t v l e a b p ps,pr,la)]++(gC a pr la++gC b pr la) from rfl,gb,gb];have h1:(rR [(St.mk k r t v l e a b p ps,pr,la)]).length<=2+ps.length:=by
   simp only[rR,flatMap_cons,flatMap_nil,append_nil];split
   ·exact hr
   ·simp
  simp only[length_append,wS];omega
theorem qo:∀(l:List St) (pr:Int) (la:Bool),(rR (gC l pr la)).length<=3*dn l
 | [],_,_=>by simp[gC,rR]
 | x::l,pr,la=>by
  have h1:=K4 x pr (la && l.isEmpty);have h2:=qo l pr la;rw[gC,gb,dn,length_append];omega
end
theorem C2:∀(l:List Pr) (i:Nat),(rR (mc l i)).length<=3*lM l
 | [],_=>by simp[mc,rR]
 | q::l,i=>by
  have h1:=qo q.steps i true;have h2:=C2 l (i+1);rw[mc,gb,lM,length_append];omega
theorem Bh {R:List ByteArray}:∀{post pre:List Pa},oK R pre post=0->(pre.map (·.1)).Nodup->((pre++post).map (·.1)).Nodup
 | [],pre,_,h=>by simpa using h
 | x::post,pre,h0,h=>by
  rw[oK]at h0;split at h0
  ·cases h0
  split at h0
  ·cases h0
  rename_i h1 h2;have ih:=Bh h0 (by
   rw[map_append,nodup_append];refine⟨h,by simp,fun a ha b hb=> ?_⟩;simp at hb;subst hb;obtain⟨y,hy,rfl⟩:=List.mem_map.1 ha;intro e;exact h2 (List.any_eq_true.2 ⟨y,hy,by simp[e]⟩))
  simpa using ih
theorem HY {R:List ByteArray}:∀{post pre:List Pa},oK R pre post=0->∀x∈post,x.1∈R
 | [],pre,_,x,hx=>by cases hx
 | y::post,pre,h0,x,hx=>by
  rw[oK]at h0;split at h0
  ·cases h0
  split at h0
  ·cases h0
  rename_i h1 h2;rcases List.mem_cons.1 hx with rfl | hx
  ·have h1:¬(!(R.any fun y=>decide (x.1=y)) || !dt x.2)=true:=h1;rw[Bool.or_eq_true,not_or]at h1;have h3:=h1.1;simp only[Bool.not_eq_true',Bool.not_eq_false]at h3;obtain⟨y,hy,e⟩:=List.any_eq_true.1 h3;have e:=of_decide_eq_true e;rw[e];exact hy
  ·exact HY h0 x hx
theorem HZ {R:List ByteArray} {M:List Pa} (h:sO R M=0):oK R [] M=0:=by
 rw[sO]at h;split at h
 ·cases h
 split at h
 ·rename_i h1;exact absurd h h1
 ·rename_i h1;simpa using h1
theorem C3 {r:ByteArray}:∀{M:List Pa},(∀x∈M,x.1≠r)->lf M r=none
 | [],_=>rfl
 | x::M,h=>by
  rw[lf,if_neg (fun e=>h x (by simp) e.symm)];exact C3 (fun y hy=>h y (by simp[hy]))
theorem t201 (L:List Int):af Tryz.prog 4 [.fs (L.map (.int .i64))] (·=.bool true):=by
 obtain⟨P,a',k1,k2,k3,k4,k5⟩:=t4 L 0 (by omega);have h4:=k5 0 1 _ (MS.base L);have Bi:=(t213 L a' (by omega)).at (MS.base L) [ak.row [.agg [.fs (P.procs.map aF),.fs (P.main.map encS)]]];simp only[cons_append,nil_append]at Bi;generalize hM:(Wf L (x5 L a' 3)).2=M at*;generalize (Wf L (x5 L a' 3)).1=a2 at*;have ht:total P<=1000000:=by have:=kx P;omega
 have ew:P.procs.length<=1000000:=by omega
 have hw:iE P<=1000000:=by omega
 have V3:(rR (cw P)).length<=1000000000:=by
  have h1:=qo P.main (-1) true;have h2:=C2 P.procs 0;rw[cw,gb,length_append];simp only[iE]at hw;omega
 have xN:=t214 P hw ht ew;have xO:=t215 P hw ew;have h8:=t8 P ht;have EB:=yR P;rw[<-EB]at h8;rw[trV]at xN;have A3:=t245 P ht hw;by_cases he:rE P=0
 ·have cR:lK P=0:=by rw[<-EB];exact he
  have dx:=AP cR;have hC:=Ka.mk ht ew dx (fun q hq=>by have:=(sJ cR q hq).2.2.2;omega);rw[El cR]at A3;have vx:=t216 P hw ht ew M (lv P) (sO (lv P) M) A3 (t244 _ M) (fun h=>Bh (pre:=[]) (HZ h) (by simp));have Qi:=t217 P dx hC;have K5:=t218 P hw ew cR;have K6:=t219 P ht hw ew V3 M;have hrv:wi P M (sO (lv P) M)=Eo P M:=by
   rw[wi,if_neg (by simpa using he),Eo];by_cases hn:sO (lv P) M=0
   ·rw[if_neg (by simpa using hn),if_neg (by simpa using hn),PK P (C3 (fun x hx e=>jV (Hu cR _ (HY (HZ hn) x hx)) e))]
   ·rw[if_pos hn,if_pos hn]
  rw[hrv]at vx;rw[if_pos he]at xN xO;rw[he]at h8;have ha:=CD (L7 P);obtain⟨Q,c,hQ⟩:∃Q c,vw P=.dJ [aP Q,.int .i64 c]:=by
   rw[vw];split
   ·exact⟨_,_,rfl⟩
   split
   ·exact⟨_,_,rfl⟩
   ·exact⟨_,_,rfl⟩
  obtain⟨Q2,c2,hQ2⟩:∃Q c,Eo P M=.dJ [aP Q,.int .i64 c]:=by
   rw[Eo];split
   ·exact⟨_,_,rfl⟩
   ·exact⟨_,_,rfl⟩
  rw[hQ]at xO K5;rw[hQ2]at vx K6;have hb:=CD Q;have hc:=CD Q2;generalize L7 P=Q3 at*;simp only[aP]at h4 Bi xN xO vx Qi K5 K6 ha hb hc h8;simp only[SB]at h4 Bi;refine af.intro UG 900 (by simp) 20 ?_;simp -implicitDefEqProofs only[O6,go_sem];repeat' (first | ((first | (with_reducible first | refine bR h4 ?_ | refine bR Bi ?_) | ((with_reducible first | refine bj xN ?_ ?_ | refine bj xO ?_ ?_ | refine bj vx ?_ ?_ | refine bj Qi ?_ ?_ | refine bj K5 ?_ ?_ | refine bj K6 ?_ ?_ | refine bj ha ?_ ?_ | refine bj hb ?_ ?_ | refine bj hc ?_ ?_ | refine bj h8 ?_ ?_ | refine bj t13 ?_ ?_);(·simp[ae,al,cm,aq,ah,cn,aS])) | ((with_reducible apply cj);(·simp -implicitDefEqProofs only[map_cons,map_nil,aq,ah,cn,aS,push_cast,go_sem_proc]<;>rfl);(with_reducible first | exact xN | exact xO | exact vx | exact Qi | exact K5 | exact K6 | exact ha | exact hb | exact hc | exact h8 | exact t13);(·rfl)) | (with_reducible refine aD ?_));simp -implicitDefEqProofs only[Int.reduceEq,decide_true,go_sem]) | (with_reducible refine aA.mk ?_ ?_) | (with_reducible refine And.intro ?_ ?_) | ((with_reducible refine bz ?_);simp -implicitDefEqProofs only[O7,push_cast,go_sem_proc]) | intro _)
 ·have hg:∀(ff:Int),wi P M ff=.dJ [aP ⟨[],[]⟩,.int .i64 (rE P)]:=fun ff=>by rw[wi,if_pos he]
  have vx:=t216 P hw ht ew M _ (sO _ M) A3 (t244 _ M) (fun h=>Bh (pre:=[]) (HZ h) (by simp));rw[hg]at vx;rw[if_neg he]at xN xO;have ha:=CD ⟨[],[]⟩;simp only[aP,map_nil]at h4 Bi xN xO vx ha h8;simp only[SB]at h4 Bi;generalize rE P=c at*;refine af.intro UG 900 (by simp) 20 ?_;simp -implicitDefEqProofs only[O6,go_sem];repeat' (first | ((first | (with_reducible first | refine bR h4 ?_ | refine bR Bi ?_) | ((with_reducible first | refine bj xN ?_ ?_ | refine bj xO ?_ ?_ | refine bj vx ?_ ?_ | refine bj ha ?_ ?_ | refine bj h8 ?_ ?_ | refine bj t13 ?_ ?_);(·simp[ae,al,cm,aq,ah,cn,aS])) | ((with_reducible apply cj);(·simp -implicitDefEqProofs only[map_cons,map_nil,aq,ah,cn,aS,push_cast,go_sem_proc]<;>rfl);(with_reducible first | exact xN | exact xO | exact vx | exact ha | exact h8 | exact t13);(·rfl)) | (with_reducible refine aD ?_));simp -implicitDefEqProofs only[Int.reduceEq,decide_true,he,go_sem]) | (with_reducible refine aA.mk ?_ ?_) | (with_reducible refine And.intro ?_ ?_) | ((with_reducible refine bz ?_);simp -implicitDefEqProofs only[O7,push_cast,go_sem_proc]) | intro _)
end Go.Proofs.YtdgoeblpcnjlbaaGreatDoor.Av
namespace Go.Proofs.YtdgoeblpcnjlbaaGreatDoor.Av
open Go.ChangeShapes Go.WideShapes Go.ChangeAt Go.RowKit List
theorem own:ownKnob Tryz.prog.godebug=none:=by kernel_rfl
theorem laidOut:laidOutB Tryz.prog=true:=by kernel_rfl
theorem Qj:Tryz.prog.cellsOf 3=1:=by kernel_rfl
theorem uM {W:World} {a:Option Addr} {len cap:Nat} {zs:List Int} (hz:zs.length=len) (hl:len<=cap) (hm:cap<=maxLen) (h:zs=[]\/∃b o,a=some ⟨b,o,none⟩/\∀i,i<zs.length->W.cell? ⟨b,o+i,none⟩=some (.int .i64 (zs.getD i 0))):
 aU [] (fun b=>W.heap[b]?) (.fs (zs.map (.int .i64))) (.slice a len cap):=by
 simp only[aU];refine⟨a,cap,by simp[hz],by simpa[hz]using hl,hm,?_⟩;rcases h with rfl | ⟨b,o,rfl,h⟩
 ·exact .inl rfl
 ·refine .inr ⟨b,o,1,rfl,?_⟩;rw[ch];intro i e he;have hi:i<zs.length:=by have:=(List.getElem?_eq_some_iff.1 he).1;simpa using this
  have kd:e=.int .i64 (zs.getD i 0):=by
   simp[hi,List.getD]at he⊢;exact he.symm
  subst kd;refine⟨by simp[aw],fun j c hj=> ?_⟩;obtain rfl:j=0:=by
   have:=(List.getElem?_eq_some_iff.1 hj).1;simp[aw]at this;exact this
  simp[aw]at hj;subst hj;refine⟨.int .i64 (zs.getD i 0),?_,by simp[aU]⟩;have hc:=h i hi;simp only[World.cell?]at hc;simp only[jD,Nat.mul_one,Nat.add_zero];generalize W.heap[b]? =ob at*;cases ob with
  | none=>simp at hc
  | some ob=>cases ob<;>simp_all
end Go.Proofs.YtdgoeblpcnjlbaaGreatDoor.Av
namespace Go.Proofs.YtdgoeblpcnjlbaaGreatDoor.Av
open Go.ChangeShapes Go.WideShapes Go.ChangeAt Go.RowKit List
theorem H6 (H:Type) (enc:TypeId×Value->H) (W:World) (base:Nat) (args:Array Value) (ds gs:List (DataW H)) (before:List MemPlace)
 (A9:∀(j:Nat) t v,Tryz.f4.params[j]? =some t->args[j]? =some v->Value.okWide Tryz.prog W .any base t v)
 (hW:DataW.Whole enc Tryz.prog Tryz.f4.params.toList Rows.playsChangedSpec.vars false W args.toList ds gs before):
 Calls Tryz.prog 4 args W fun e W'=>∃v,e=.returned v/\Rows.playsChangedSpec.post enc Tryz.prog Tryz.f4 false true false false W args v W':=by
 have hW':=hW;obtain⟨p,q,hA0,hV,rfl,lX,AQ⟩:=hW;have hA:DataW.TrodAll enc Tryz.prog W 0 (fun _=>true) true Tryz.f4.params.toList args.toList ds p:=hA0;rw[Tryz.params4]at hA A9;obtain⟨v0,d0,rfl,rfl,h0⟩:=trodAll_one hA;obtain⟨rfl,rfl⟩:=trodVars_none hV;obtain⟨a0,len,cap,rfl⟩:=okWide_slice Tryz.underlying22 (A9 0 22 v0 rfl rfl);have h0k:=h0;obtain⟨fuel0,hf⟩:=h0;clear hA0 hA;simp only[append_nil]at hW';have ct:∀x∈p,x.block<W.heap.size:=fun x hx=>by simpa using hW'.lt x hx
 have eD:∀(W':World),Below W.heap.size W W'->DataW.Trod enc Tryz.prog W' 0 (fun b=>decide (b<W.heap.size)) true 22 (.slice a0 len cap) d0 p:=
  fun W' hn=>Below.trod laidOut (by kernel_rfl) (of_decide_eq_true (by kernel_rfl)) h0k hn ct
 have eN:∃L:List Int,aU [] (fun b=>W.heap[b]?) (.fs (L.map (.int .i64))) (.slice a0 len cap):=by
  rcases open_ints Tryz.underlying22 Tryz.underlying3 Qj hf with⟨lI,hx⟩ | ⟨a,len',cap',zs,lI,_,hl,hm,hz,hx,cr,hwz⟩
  ·simp[Value.cells]at lI;obtain⟨rfl,rfl,rfl⟩:=lI;exact⟨[],uM (zs:=[]) rfl (Nat.le_refl _) (by decide) (.inl rfl)⟩
  ·simp[Value.cells]at lI;obtain⟨rfl,rfl,rfl⟩:=lI;simp only[if_true]at hz;obtain⟨b,off,spot⟩:=a;by_cases j5:len=0
   ·subst j5;exact⟨[],uM (zs:=[]) rfl (Nat.zero_le _) hm (.inl rfl)⟩
   ·have Wy:spot=none:=by simpa[Addr.add]using World.cell?_spot (cr 0 (by omega))
    subst Wy;refine⟨zs.take len,uM (by rw[length_take];omega) hl hm (.inr ⟨b,off,rfl,fun i hi=> ?_⟩)⟩;rw[length_take]at hi;have:=cr i (by omega);rw[add_plain]at this;rw[this];simp[List.getD,getElem?_take,show i<len by omega]
 obtain⟨L,eN⟩:=eN;obtain⟨_,cH⟩:=t201 L;refine(cH (fun b=>W.heap[b]?) W #[.slice a0 len cap] (fun b o h=>h) (by simp only[aV];exact⟨_,[],rfl,eN,rfl⟩)).mono ?_;rintro e W' ⟨r,v,I',rfl,rfl,_,_,_,hr,hB⟩;simp only[aU]at hr;subst hr;refine⟨_,rfl,_,_,_,[],p,[],hW',?_,?_,?_,hB.frame _,fun h=>by cases h⟩
 ·exact trodAll_mk1 (shut_bool Tryz.underlying4 _)
 ·exact trodAll_mk1 (eD W' hB)
 ·rfl
end Go.Proofs.YtdgoeblpcnjlbaaGreatDoor.Av
namespace Go.Proofs.YtdgoeblpcnjlbaaGreatDoor.Av
open Go.ChangeShapes Go.WideShapes Go.ChangeAt Go.RowKit List
theorem lifted (os:Os) (started:os.Started) (H:Type) (enc:TypeId×Value->H):
 ReturnsInHanded {} Tryz.checked os 4 .any (fun w args=>(Rows.playsChangedSpec.pre enc Tryz.prog Tryz.f4 Rows.playsChangedRow.domain false w args/\laidMetH Tryz.prog Rows.playsChangedRow.laid w)/\sizedMet enc Tryz.prog Tryz.f4 (OpenSpec.ofChange Rows.playsChangedSpec) false w args)
  (Rows.playsChangedSpec.post enc Tryz.prog Tryz.f4 false true false false):=by
 refine returnsInHanded_of_change_and (C:=Tryz.checked) (X:=fun w _=>laidMetH Tryz.prog Rows.playsChangedRow.laid w) (fun _ _ _ hh h=>h.of_heap hh) own started (by kernel_rfl) Tryz.func4
  (ChangeSpec.witness_shaped (enc:=enc) (C:=Tryz.checked) (os:=os) (X:=fun w _=>laidMetH Tryz.prog Rows.playsChangedRow.laid w) false (World.laidAll Tryz.prog os Rows.playsChangedRow.laid) #[.slice none 0 0] 8 (World.laidAll_os _ _ _)
    (World.shaped_of_ZipB (by kernel_rfl) (by kernel_rfl)) (by kernel_rfl) (by kernel_rfl) (by kernel_rfl)
    (by rw[MakeChecks.laidMetH_plain _ _ _ (by kernel_rfl)];exact laidMet_laidAll _ (by kernel_rfl) (by kernel_rfl))) ?_
 intro W base args ds gs before A9 hW _ _ _ _;exact H6 H enc W base args ds gs before A9 hW
theorem said:Rows.PlaysChangedSaid:=
 OpenClaim.holds_of_wide 4 Tryz.f4 rfl rfl rfl rfl rfl rfl rfl ⟨rfl,rfl,rfl,rfl,rfl⟩ rfl rfl rfl rfl rfl (by kernel_rfl) Tryz.func4 (by kernel_rfl)
  (of_decide_eq_true (by kernel_rfl)) (by unfold Func.isWrapper;first | (rw[if_pos (by decide+kernel)];kernel_rfl) | (rw[if_neg (by decide+kernel)];exact⟨rfl,rfl⟩))
  (fun os started H enc _=>lifted os started H enc)
theorem Qk (f:FuncId) (fn:Func) (hf:Tryz.pinned.checked.prog.funcNamed "promptbook/pblaw2.PlaysChanged" =some f) (RD:Tryz.pinned.checked.prog.funcs[f]? =some fn):
 false=Tryz.pinned.checked.prog.looks []/\∀(j:Nat) t,fn.params[j]? =some t->Tryz.pinned.checked.prog.wantsStandIn t=false:=by
 obtain rfl:f=4:=Option.some.inj ((show Tryz.prog.funcNamed "promptbook/pblaw2.PlaysChanged" =some 4 by kernel_rfl).symm.trans hf) |>.symm;obtain rfl:fn=Tryz.f4:=(Option.some.inj (Tryz.func4.symm.trans RD)).symm;refine⟨by kernel_rfl,fun j t ht=> ?_⟩;rw[Tryz.params4]at ht;obtain rfl:t=22:=by simpa using Array.mem_of_getElem? ht
 exact(show Tryz.prog.wantsStandIn 22=false by kernel_rfl)
end Go.Proofs.YtdgoeblpcnjlbaaGreatDoor.Av
namespace Go.Proofs.YtdgoeblpcnjlbaaGreatDoor
theorem card_holds:Rows.PlaysChangedCardSaid:=
 Claim7.holds_tied_plain_at .later [] _ _ _ _ Av.said (fun _ h=>by cases h) (by kernel_rfl) (fun _ h=>by cases h) playsChanged_row_tie rfl ⟨rfl,rfl⟩ (by kernel_rfl) rfl Av.Qk (by kernel_rfl)
#print axioms card_holds
end Go.Proofs.YtdgoeblpcnjlbaaGreatDoor

/- Proved: for every list of numbers the law PlaysChanged answers true and leaves its argument as it was (the tied card); no condition beyond the row's own. Text 11 of 17. -/
import Derived.Test.YtdgoeblpcnjlbaaGreatDoorK10
set_option linter.all false
set_option maxRecDepth 100000
set_option maxHeartbeats 64000000
namespace Go.Proofs.YtdgoeblpcnjlbaaGreatDoor.Av
open Go.RowKit List
def eF (X:List Pr):List Pr->Int->List V
 | [],_=> []
 | q::l,n=> .fs ((num q.steps n).map (cb X))::eF X l (n+ai q.steps)
theorem jT (X:List Pr):∀(a b:List Pr) (n:Int),eF X (a++b) n=eF X a n++eF X b (n+bD a)
 | [],b,n=>by simp[eF,bD]
 | x::a,b,n=>by
  rw[cons_append,eF,eF,jT X a b,bD,cons_append];congr 3;omega
theorem cT (X:List Pr):∀(l:List Pr) (n:Int),(eF X l n).length=l.length
 | [],n=>rfl
 | x::l,n=>by simp[eF,cT X l]
def OC (l:List V):Prop:=∀v∈l,∃es,v=.fs es/\ae es=true
theorem eG (X:List Pr):∀(l:List Pr) (n:Int),OC (eF X l n)
 | [],n,v,h=>by simp[eF]at h
 | q::l,n,v,h=>by
  simp only[eF,mem_cons]at h;rcases h with rfl | h
  ·exact⟨_,rfl,aY X _⟩
  ·exact eG X l _ v h
theorem ee:∀{l:List V},OC l->ae l=true
 | [],_=>by simp[ae]
 | v::l,h=>by
  obtain⟨es,rfl,he⟩:=h v (by simp);have h':OC l:=fun u hu=>h u (mem_cons_of_mem _ hu)
  simp only[ae,al,he,ee h',Bool.and_self]
theorem AM (H:List ak) (n:Nat):∀{l:List V},OC l->eI (fz H (n+1)) l=some l
 | [],_=>by simp[cN]
 | v::l,h=>by
  obtain⟨es,rfl,he⟩:=h v (by simp);have h':OC l:=fun u hu=>h u (mem_cons_of_mem _ hu)
  rw[b7,jL,AM H n h'];simp[he,dR]
theorem GA {l:List V} (h:OC l):df 1 l:=by
 intro e he;cases l with
 | nil=>simp at he
 | cons x l=>simp at he;subst he;obtain⟨es,rfl,_⟩:=h x (by simp);rfl
theorem OV.fzv {H:List ak} {kv:V} {l:List V} (h:OV H kv l) (hl:OC l) (n:Nat):Av.fz H (n+2) kv=some (.fs l):=by
 rcases h with⟨h1,rfl⟩ | ⟨_,id,rfl,hid⟩
 ·rw[fQ,h1]
 ·rw[iu,hid,ef,if_pos (by simp),drop_zero,take_of_length_le (by simp),AM H n hl];rfl
theorem p4 (H:List ak) (n:Nat) (E:List Bool):eI (fz H (n+1)) (E.map .bool)=some (E.map .bool):=dg _ _ (fun x=>pB _ _ x) E
attribute [push_cast] p4
def fy (P:bH) (E:List Bool):List V:=lE (.fs (P.procs.map aF)) (.fs (P.main.map encS)) (.fs ((num P.main 0).map (cb P.procs))) (.fs (eF P.procs P.procs (ai P.main))) E
def AN (P:bH):Prop:=uU P.procs P.main=true/\∀q∈P.procs,uU P.procs q.steps=true
theorem t317 (P:bH):∀(m:Nat) (xs:List St),SizeOf.sizeOf xs<m->∀n:Int,0<=n->n+ai xs<=1000000->
 af Tryz.prog 179 [aP P,.fs (xs.map encS),.int .i64 n] (·=.dJ [.fs ((num xs n).map (cb P.procs)),.int .i64 (n+ai xs)])
 | 0,xs,h=>absurd h (Nat.not_lt_zero _)
 | m+1,xs,hm=>fun n h0 hn=>T0 P xs n h0 hn (fun k r t v l e a b p ps da n h0=>by
  have hs:=sizeOf_lt_of_mem da;simp only[St.mk.sizeOf_spec]at hs;exact⟨fun hc=>t317 P m a (by omega) n h0 hc,fun hc=>t317 P m b (by omega) n h0 hc⟩)
theorem t277 (P:bH) (hc:total P<=1000000) (ew:P.procs.length<=1000000) (dx:AN P):af Tryz.prog 117 [aP P] (·=.bc (fy P (bY P.procs))):=by
 rcases P with⟨xs,main⟩
 have hT:total ⟨xs,main⟩=ai main+bD xs:=rfl;rw[hT]at hc;have OD:=t317 ⟨xs,main⟩;have hm:=OD _ main (Nat.lt_succ_self _) 0 (by omega) (by omega);simp only[aP,Int.zero_add]at OD hm;simp only at ew;refine af.intro Z5 600 (by simp) 20 ?_;simp -implicitDefEqProofs only[TF,aP,go_sem];repeat' (first | ((first | ((with_reducible refine bj hm ?_ ?_);(·simp[ae,al,cm])) | ((with_reducible apply cj);(·simp -implicitDefEqProofs only[map_cons,map_nil,push_cast,go_sem_proc]<;>rfl);(with_reducible exact hm);(·rfl)) | (with_reducible refine aD ?_));simp -implicitDefEqProofs only[go_sem]) | (with_reducible refine aA.mk ?_ ?_) | (with_reducible refine And.intro ?_ ?_) | ((with_reducible refine bz ?_);simp -implicitDefEqProofs only[Gv,push_cast,go_sem_proc]) | intro _)
 ·omega
 ·omega
 rename_i hlen;have Jx:ae ((num main 0).map (cb xs))=true:=aY xs _;generalize vl:(num main 0).map (cb xs)=mn at*;refine aL (fun m e H=>∃pre post kv J,xs=pre++post/\m=post.length/\e 1=.ptr 0 0 0/\e 3=.ptr 2 0 0/\e 4=.int .i64 ((ai main:Int)+bD pre)/\e 29=.fs (xs.map aF)/\e 30=.int .i64 xs.length/\e 31=.int .i64 pre.length/\
  H=ak.row [.agg [.fs (xs.map aF),.fs (main.map encS)]]::ak.row (List.replicate xs.length (.bool false))::ak.row [.agg [.fs (xs.map aF),.fs (main.map encS),.fs mn,kv,.ms 1 0 xs.length]]::J/\OV H kv (eF xs pre (ai main))/\a7 kv 0/\a7 kv 1/\a7 kv 2) xs.length ⟨[],xs,.ag,[],by simp[az,aC],rfl,by simp[az,aC],by simp[az,aC],by simp[az,aC,bD],by simp[az,aC],by simp[az,aC],by simp[az,aC],rfl,.inl ⟨rfl,rfl⟩,(fun a b h=>by cases h),(fun a b h=>by cases h),(fun a b h=>by cases h)⟩ ?_
 rintro m e H ⟨pre,post,kv,J,ao,rfl,h1,h3,h4,oR,gO,EM,rfl,bm,dW,iT,ir⟩;have ba:V.one kv=true:=bm.cS;simp only[V.one]at ba;have cP:=bm.one;cases post with
 | nil=>
  have ev:pre=xs:=by rw[ao];simp
  rw[ev]at bm;simp -implicitDefEqProofs only[h1,h3,h4,oR,gO,EM,aI ao,ba,cP,go_sem];clear h1 h4 oR gO EM ao ev ba;have eN:List.replicate xs.length (V.bool false)=(List.replicate xs.length false).map V.bool:=by simp
  rw[eN]at bm⊢;have l6:=cT xs xs (ai main);have Ic:=eG xs xs (ai main);generalize DM:eF xs xs (ai main)=BL at*;have T3:∀(E:List Bool),OV (ak.row [.agg [.fs (xs.map aF),.fs (main.map encS)]]::ak.row (E.map .bool)::ak.row [.agg [.fs (xs.map aF),.fs (main.map encS),.fs mn,kv,.ms 1 0 xs.length]]::J) kv BL:=fun E=>bm.set (x:=ak.row (E.map .bool)) iT
  have yZ:∀(E:List Bool),E.length=xs.length->List.take xs.length (E.map V.bool)=E.map .bool:=fun E hE=>take_of_length_le (by simp[hE])
  have hzB:=fun E=>(T3 E).fzv Ic 17
  have hend:∀E,Lo xs E->Cl xs E->fy ⟨xs,main⟩ (bY xs)=[.fs (xs.map aF),.fs (main.map encS),.fs mn,.fs BL,.fs (E.map .bool)]:=fun E h1 h2=>by
   rw[<-v7 h2 h1,fy,lE,<-vl,<-DM]
  refine aL (fun m e H=>∃E mo,Lo xs E/\(mo=false->Cl xs E)/\m=2*jC E+(if mo then 1 else 0)/\e 3=.ptr 2 0 0/\e 8=.bool mo/\
   H=ak.row [.agg [.fs (xs.map aF),.fs (main.map encS)]]::ak.row (E.map .bool)::ak.row [.agg [.fs (xs.map aF),.fs (main.map encS),.fs mn,kv,.ms 1 0 xs.length]]::J) (2*jC (List.replicate xs.length false)+1) ⟨_,true,Lo.init xs,(fun h=>by cases h),rfl,by simp[az,h3],by simp[az],rfl⟩ ?_
  rintro m e H ⟨E,mo,yj,eT,rfl,h3,h8,rfl⟩;cases mo with
  | false=>
   simp -implicitDefEqProofs only[h3,h8,go_sem];simp -implicitDefEqProofs only[Gv,h3,hzB,yZ E yj.1,yj.1,Jx,if_true,cP,push_cast,go_sem_proc];rw[hend E yj (eT rfl)]
  | true=>
   rcases bm with⟨gi,rfl⟩ | ⟨gi,id,rfl,hid⟩
   ·have Io:xs=[]:=by rw[<-length_eq_zero_iff,<-l6,gi];rfl
    subst Io;simp -implicitDefEqProofs only[h3,h8,cP,go_sem];refine aL (fun m e H1=>e 3=.ptr 2 0 0/\e 8=.bool false/\e 59=.int .i64 0/\e 60=.int .i64 0/\H1=_) 0 ⟨by simp[az,h3],by simp[az],by simp[az],by simp[az],rfl⟩ ?_;rintro m e H ⟨h3,h8,wP,Dq,rfl⟩;simp -implicitDefEqProofs only[h3,h8,wP,Dq,Int.lt_irrefl,decide_false,go_sem];exact⟨2*jC E,by omega,E,false,yj,(fun _=>⟨yj.1,fun i q h=>by simp at h⟩),by simp,rfl,rfl⟩
   ·have GB:∀(E:List Bool),(ak.row [.agg [.fs (xs.map aF),.fs (main.map encS)]]::ak.row (E.map .bool)::ak.row [.agg [.fs (xs.map aF),.fs (main.map encS),.fs mn,.ms id 0 BL.length,.ms 1 0 xs.length]]::J)[id]? =some (.row BL):=fun E=>by
     rcases T3 E with⟨_,h⟩ | ⟨_,ph,h,h'⟩
     ·cases h
     ·injection h with h _ _;subst h;exact h'
    simp -implicitDefEqProofs only[h3,h8,cP,go_sem];intro OE;rw[l6]at hzB GB⊢;refine aL (fun m e H=>∃pre post E' mo,xs=pre++post/\m=post.length/\Lo xs E'/\(mo=true->jC E'<jC E)/\(mo=false->E'=E/\∀(i:Nat) q,pre[i]? =some q->lu (ga xs E) q.steps=true->E[i]? =some true)/\
     e 3=.ptr 2 0 0/\e 8=.bool mo/\e 58=.ms id 0 xs.length/\e 59=.int .i64 xs.length/\e 60=.int .i64 pre.length/\
     H=ak.row [.agg [.fs (xs.map aF),.fs (main.map encS)]]::ak.row (E'.map .bool)::ak.row [.agg [.fs (xs.map aF),.fs (main.map encS),.fs mn,.ms id 0 xs.length,.ms 1 0 xs.length]]::J) xs.length
     ⟨[],xs,E,false,rfl,rfl,yj,(fun h=>by cases h),(fun _=>⟨rfl,fun i q h=>by simp at h⟩),by simp[az,h3],by simp[az],by simp[az],by simp[az],by simp[az],rfl⟩ ?_
    rintro m e H ⟨pre,post,E',mo,ao,rfl,r7,DN,xW,h3,h8,oU,wP,Dq,rfl⟩;cases post with
    | nil=>
     have ev:pre=xs:=by rw[ao];simp
     simp -implicitDefEqProofs only[h3,h8,oU,wP,Dq,aI ao,go_sem];refine⟨2*jC E'+(if mo then 1 else 0),?_,E',mo,r7,(fun h=> ?_),rfl,rfl,rfl⟩
     ·cases mo with
      | true=>have:=DN rfl;simp;omega
      | false=>have:=(xW rfl).1;subst this;simp
     ·obtain⟨rfl,h'⟩:=xW h;exact⟨r7.1,fun i q hq ht=>h' i q (by rw[ev];exact hq) ht⟩
    | cons q post=>
     have cR:pre.length<xs.length:=by rw[ao];simp
     have tW:BL.getD pre.length .any=.fs ((num q.steps ((ai main:Int)+bD pre)).map (cb xs)):=by
      rw[<-DM];have:eF xs (pre++q::post) (ai main)=eF xs pre (ai main)++ .fs ((num q.steps ((ai main:Int)+bD pre)).map (cb xs))::eF xs post ((ai main:Int)+bD pre+ai q.steps):=by rw[jT];rfl
      rw[<-ao]at this;rw[this,getD_eq_getElem?_getD,getElem?_append_right (by rw[cT];omega),cT];simp
     have OF:=r7.1;have OG:(E'.map V.bool).getD pre.length .any=.bool (E'.getD pre.length false):=by
      simp[List.getD,getElem?_map,getElem?_eq_getElem (show pre.length<E'.length by omega)]
     have OH:=t230 xs E' OF (.fs (xs.map aF)) (.fs (main.map encS)) (.fs mn) (.fs BL) (by simp[al,aq]) (by simp[al,ah]) (by simp[al,Jx]) (by simp only[al];exact ee Ic) _ q.steps (Nat.lt_succ_self _) (dx.2 q (by rw[ao];simp)) ((ai main:Int)+bD pre);simp only[lE]at OH;have T4:ae ((num q.steps ((ai main:Int)+bD pre)).map (cb xs))=true:=aY xs _;generalize T5:(num q.steps ((ai main:Int)+bD pre)).map (cb xs)=qt at*;have gj:iD pre.length E'.length:=⟨by omega,by simp;omega⟩;have T6:iD pre.length xs.length:=⟨by omega,by simp;omega⟩;have T7:E'[pre.length]? =some (E'.getD pre.length false):=by rw[getD_eq_getElem?_getD,getElem?_eq_getElem (by omega)];rfl
     generalize hbv:E'.getD pre.length false=bv at*;generalize T8:lu (ga xs E') q.steps=tv at*;have htB:BL.take xs.length=BL:=take_of_length_le (by omega);have hfB:∀H n,eI (fz H (n+1)) BL=some BL:=fun H n=>AM H n Ic
     simp -implicitDefEqProofs only[h3,h8,oU,wP,Dq,an ao,aa ao hlen,GB,tW,OG,gj,T6,l6,OF,Nat.le_refl,cR,go_sem];repeat' (first | ((first | ((with_reducible refine bj OH ?_ ?_);(·simp[ae,al,cm,GB E',l6,htB,hfB,yZ E' OF,p4,Nat.le_refl,if_true,OF,Jx,T4,drop_zero])) | ((with_reducible apply cj);(·simp -implicitDefEqProofs only[map_cons,map_nil,GB E',l6,htB,hfB,yZ E' OF,p4,Nat.le_refl,if_true,OF,Jx,T4,drop_zero,push_cast,go_sem_proc]<;>rfl);(with_reducible exact OH);(·rfl)) | (with_reducible refine aD ?_));simp -implicitDefEqProofs only[h3,h8,oU,wP,Dq,an ao,aa ao hlen,GB,tW,OG,gj,T6,l6,OF,Nat.le_refl,cR,go_sem]) | (with_reducible refine aA.mk ?_ ?_) | (with_reducible refine And.intro ?_ ?_) | ((with_reducible refine bz ?_);simp -implicitDefEqProofs only[Gv,push_cast,go_sem_proc]) | intro _)
     ·rename_i lC AO;have lC:bv=false:=by simpa using lC
      have AO:tv=true:=by simpa using AO
      subst lC AO;have MR:=jS T7;refine⟨_,Nat.lt_succ_self _,pre++ [q],post,E'.set pre.length true,true,by simp[ao],rfl,r7.step (q:=q) (by rw[ao];simp) T8,(fun _=> ?_),(fun h=>by cases h),rfl,by simp,?_⟩
      ·cases mo with
       | true=>have:=DN rfl;omega
       | false=>have:=(xW rfl).1;subst this;omega
      ·simp[map_set]
     ·rename_i lC AO;have lC:bv=false:=by simpa using lC
      have AO:tv=false:=by simpa using AO
      subst lC AO;refine⟨_,Nat.lt_succ_self _,pre++ [q],post,E',mo,by simp[ao],rfl,r7,DN,(fun h=> ?_),rfl,by simp,rfl⟩;obtain⟨rfl,h'⟩:=xW h;refine⟨rfl,fun i q' ln Af=> ?_⟩;by_cases hi:i<pre.length
      ·rw[getElem?_append_left hi]at ln;exact h' i q' ln Af
      ·rw[getElem?_append_right (by omega)]at ln;have:i - pre.length=0:=by have:=(List.getElem?_eq_some_iff.1 ln).1;simp at this;omega
       rw[this]at ln;simp at ln;subst ln;rw[T8]at Af;cases Af
     ·rename_i lC;have lC:bv=true:=by simpa using lC
      subst lC;refine⟨_,Nat.lt_succ_self _,pre++ [q],post,E',mo,by simp[ao],rfl,r7,DN,(fun h=> ?_),rfl,by simp,rfl⟩;obtain⟨rfl,h'⟩:=xW h;refine⟨rfl,fun i q' ln Af=> ?_⟩;by_cases hi:i<pre.length
      ·rw[getElem?_append_left hi]at ln;exact h' i q' ln Af
      ·rw[getElem?_append_right (by omega)]at ln;have:i - pre.length=0:=by have:=(List.getElem?_eq_some_iff.1 ln).1;simp at this;omega
       have:i=pre.length:=by omega
       subst this;exact T7
 | cons q post=>
  have hg:=aO aF ao;simp only[aF]at hg;have Qw:bD xs=bD pre+(ai q.steps+bD post):=by rw[ao,bE,bD]
  have cR:pre.length<=xs.length:=by rw[ao];simp
  have BV:eF xs (pre++ [q]) (ai main)=eF xs pre (ai main)++ [.fs ((num q.steps ((ai main:Int)+bD pre)).map (cb xs))]:=by
   rw[jT];rfl
  have hq:=OD _ q.steps (Nat.lt_succ_self _) ((ai main:Int)+bD pre) (by omega) (by omega);have l6:=cT xs pre (ai main);generalize T5:(num q.steps ((ai main:Int)+bD pre)).map (cb xs)=qt at*;simp -implicitDefEqProofs only[h1,h3,h4,oR,gO,EM,an ao,aa ao hlen,ba,cP,hg,go_sem];repeat' (first | ((first | ((with_reducible refine bj hq ?_ ?_);(·simp[ae,al,cm])) | ((with_reducible apply cj);(·simp -implicitDefEqProofs only[map_cons,map_nil,push_cast,go_sem_proc]<;>rfl);(with_reducible exact hq);(·rfl)) | (with_reducible refine aD ?_));simp -implicitDefEqProofs only[h1,h3,h4,oR,gO,EM,an ao,aa ao hlen,ba,cP,hg,go_sem]) | (with_reducible refine aA.mk ?_ ?_) | (with_reducible refine And.intro ?_ ?_) | ((with_reducible refine bz ?_);simp -implicitDefEqProofs only[Gv,push_cast,go_sem_proc]) | intro _)
  refine cu (bm.app _) (fun i o l h=>by cases h) (GA (eG _ _ _)) (by simp[l6];omega) ?_;rintro bN H' bo hle cp;obtain⟨pO,lV⟩:=cp 0 (by simp) dW;obtain⟨ky,pn⟩:=cp 1 (by simp) iT;obtain⟨jO,nY⟩:=cp 2 (by simp) ir;simp only[cons_append,getElem?_cons_zero,getElem?_cons_succ]at pO ky jO;obtain⟨J',rfl⟩:=jo pO ky jO;have ej:V.one bN=true:=bo.cS;simp only[V.one]at ej;have gQ:=bo.one;simp -implicitDefEqProofs only[h1,h3,h4,oR,gO,EM,an ao,aa ao hlen,ej,gQ,ba,cP,go_sem];refine⟨_,Nat.lt_succ_self _,pre++ [q],post,bN,J',by simp[ao],rfl,?_,by simp,rfl,?_,lV,pn,nY⟩
  ·rw[bE];simp only[bD];simp only[Int.natCast_add,Int.natCast_one];congr 1;omega
  ·rw[BV];exact bo.set (x:=ak.row [.agg [.fs (xs.map aF),.fs (main.map encS),.fs mn,bN,.ms 1 0 xs.length]]) nY
theorem Ck {P:bH}:∀{l:List mV},EK P l=0->∀y∈l,vf P y=0
 | [],_,y,h=>by simp at h
 | x::l,h,y,hy=>by
  simp only[EK]at h;split at h
  ·rename_i h1;exact absurd h h1
  ·rename_i h1;rcases List.mem_cons.1 hy with rfl | hy
   ·simpa using h1
   ·exact Ck h y hy
theorem y5 {P:bH} (h:lK P=0):∀y∈cw P,vf P y=0:=by
 rw[lK]at h;split at h
 ·rename_i h1;exact absurd h h1
 ·exact Ck h
def QK (X:List Pr):St->Bool
 | .mk k _ _ _ _ _ _ _ p _=>k !=5 || decide (0<=bq X p)
mutual
theorem OJ {X:List Pr}:∀(s:St) (pr:Int) (la:Bool),(∀y∈nu s pr la,QK X y.1=true)->DL X s=true
 | .mk k r t v l e a b p ps,pr,la,h=>by
  simp only[nu,mem_cons,mem_append]at h;have h0:=h _ (.inl rfl);simp only[QK]at h0;simp only[DL,h0,tX a pr la (fun y hy=>h y (.inr (.inl hy))),tX b pr la (fun y hy=>h y (.inr (.inr hy))),Bool.and_self]
theorem tX {X:List Pr}:∀(l:List St) (pr:Int) (la:Bool),(∀y∈gC l pr la,QK X y.1=true)->uU X l=true
 | [],pr,la,h=>rfl
 | s::l,pr,la,h=>by
  simp only[gC,mem_append]at h;simp only[uU,OJ s pr _ (fun y hy=>h y (.inl hy)),tX l pr la (fun y hy=>h y (.inr hy)),Bool.and_self]
end
theorem OK {P:bH} {y:mV} (h:vf P y=0):QK P.procs y.1=true:=by
 obtain⟨⟨k,r,t,v,l,e,a,b,p,ps⟩,pr,la⟩:=y;simp only[vf,oF]at h;simp only[QK,Bool.or_eq_true,bne_iff_ne,ne_eq,decide_eq_true_eq];by_cases h5:k=5
 ·right;rcases jN (fun z:Pr=>decide (z.name=p)) P.procs 0 (by omega)with⟨hI,hF⟩ | ⟨pre,q,post,ao,hI,_⟩
  ·rw[hF]at h;simp only[h5]at h;exfalso;revert h
   split
   ·simp
   ·simp;split<;>simp
  ·rw[bq,hI];omega
 ·exact .inl h5
theorem AP {P:bH} (h:lK P=0):AN P:=by
 have hs:=fun y hy=>OK (y5 h y hy)
 simp only[cw,mem_append]at hs;refine⟨tX _ _ _ (fun y hy=>hs y (.inl hy)),fun q hq=> ?_⟩;have key:∀(l:List Pr) (i:Nat),q∈l->(∀y∈mc l i,QK P.procs y.1=true)->uU P.procs q.steps=true:=by
  intro l;induction l with
  | nil=>intro i h;simp at h
  | cons z l ih=>
   intro i hq hy;simp only[mc,mem_append]at hy;rcases List.mem_cons.1 hq with rfl | hq
   ·exact tX _ _ _ (fun y h=>hy y (.inl h))
   ·exact ih _ hq (fun y h=>hy y (.inr h))
 exact key _ 0 hq (fun y hy=>hs y (.inr hy))
noncomputable def T9 (P:bH):V:=if rE P=0 then .dJ [.bc (fy P (bY P.procs)),.int .i64 0]else .dJ [.kb,.int .i64 (rE P)]
theorem t229 (P:bH) (hc:total P<=1000000) (ew:P.procs.length<=1000000):af Tryz.prog 41 [aP P] (·=T9 P):=by
 have ez:=t11 P hc;have DO:rE P=0->af Tryz.prog 117 [aP P] (·=.bc (fy P (bY P.procs))):=fun h=>t277 P hc ew (AP (by rw[<-yR];exact h))
 have GC:fy P (bY P.procs)=[.fs (P.procs.map aF),.fs (P.main.map encS),.fs ((num P.main 0).map (cb P.procs)),.fs (eF P.procs P.procs (ai P.main)),.fs ((bY P.procs).map .bool)]:=rfl;have gi:ae (eF P.procs P.procs (ai P.main))=true:=ee (eG _ _ _);simp only[aP]at ez DO⊢;rw[T9];by_cases h0:rE P=0
 ·have DO:=DO h0;rw[h0]at ez;rw[if_pos h0];rw[GC]at DO⊢;refine af.intro Tu 200 (by simp) 20 ?_;simp -implicitDefEqProofs only[Ot,go_sem];repeat' (first | ((first | ((with_reducible first | refine bj ez ?_ ?_ | refine bj DO ?_ ?_);(·simp[ae,al,cm,gi,aq,ah,aY,br])) | ((with_reducible apply cj);(·simp -implicitDefEqProofs only[map_cons,map_nil,gi,aq,ah,aY,br,push_cast,go_sem_proc]<;>rfl);(with_reducible first | exact ez | exact DO);(·rfl)) | (with_reducible refine aD ?_));simp -implicitDefEqProofs only[Int.reduceEq,go_sem]) | (with_reducible refine aA.mk ?_ ?_) | (with_reducible refine And.intro ?_ ?_) | ((with_reducible refine bz ?_);simp -implicitDefEqProofs only[Ou,push_cast,go_sem_proc]) | intro _)
  all_goals (try simp[dR,gi])
 ·rw[if_neg h0];refine af.intro Tu 200 (by simp) 20 ?_;simp -implicitDefEqProofs only[Ot,go_sem];repeat' (first | ((first | ((with_reducible refine bj ez ?_ ?_);(·simp[ae,al,cm])) | ((with_reducible apply cj);(·simp -implicitDefEqProofs only[map_cons,map_nil,push_cast,go_sem_proc]<;>rfl);(with_reducible exact ez);(·rfl)) | (with_reducible refine aD ?_));simp -implicitDefEqProofs only[h0,go_sem]) | (with_reducible refine aA.mk ?_ ?_) | (with_reducible refine And.intro ?_ ?_) | ((with_reducible refine bz ?_);simp -implicitDefEqProofs only[Ou,push_cast,go_sem_proc]) | intro _)
  all_goals (try simp_all)
theorem tY (i:Nat):aw (.map i)=[.map i]:=rfl
theorem nL:aw .cG=[.cG]:=rfl
theorem rJ (a b:List V):aw (.db a b)=[.db a b]:=rfl
def fzQ (H:List ak) (n:Nat):Option ak->Option V
 | some (.mp ks vs)=>match eI (fz H n) ks,eI (fz H n) vs with
  | some a,some b=>some (.db a b)
  | _,_=>none
 | _=>none
theorem mr (H:List ak) (n i:Nat):fz H (n+1) (.map i)=fzQ H n H[i]? :=by
 simp only[fz,fzQ];cases H[i]? with
 | none=>rfl
 | some b=>cases b<;>rfl
theorem mw (H:List ak) (n:Nat) (ks vs:List V):fzQ H n (some (.mp ks vs))=match eI (fz H n) ks,eI (fz H n) vs with
 | some a,some b=>some (.db a b)
 | _,_=>none:=rfl
theorem Cm (H:List ak) (n:Nat) (a b:List V):fz H (n+1) (.db a b)=if ae a && ae b then some (.db a b)else none:=by simp[fz,al]
attribute [go_sem] tY nL rJ
attribute [push_cast] tY nL rJ mr mw Cm
def bF (l:List Int):List V:=l.map fun _=> .bool true
theorem bL (l:List Int) (n:Int):ya (false,[false]) (l.map (.int .i64)) (.int .i64 n)=true:=by
 simp[ya,o8,iN,gE,fF]
theorem gT (n:Int):∀l:List Int,gG (l.map (.int .i64)) (bF l) (.int .i64 n)=if n∈l then some (.bool true)else none
 | []=>by simp[gG,bF]
 | x::l=>by
  have:=gT n l;simp only[bF]at this;simp only[map_cons,bF,gG,this,gE,fF,if_true,Option.some.injEq,decide_eq_true_eq,mem_cons];by_cases h:n=x
  ·simp[h]
  ·simp[h]
theorem b6 (n:Int) (l:List Int):fT false (.bool false) (gG (l.map (.int .i64)) (bF l) (.int .i64 n))=.bool (decide (n∈l)):=by
 rw[gT,fT];by_cases h:n∈l<;>simp[h]
theorem Cn (n:Int):∀l:List Int,(l.map (V.int .i64)).any (fun q=>gE (.int .i64 n) q==some true)=l.contains n
 | []=>rfl
 | x::l=>by
  rw[map_cons,any_cons,Cn n l,contains_cons];by_cases h:n=x
  ·subst h;simp[gE,fF]
  ·simp[gE,fF,h]
theorem b8 (n:Int) (l:List Int):ja (l.map (.int .i64)) (.int .i64 n)=(fc l n).map (.int .i64):=by
 rw[ja,Cn,fc];split<;>simp
theorem b9 (n:Int):∀l:List Int,im (l.map (.int .i64)) (bF l) (.int .i64 n) (.bool true)=bF (fc l n)
 | []=>by simp[im,bF,fc]
 | x::l=>by
  have ih:=b9 n l;simp only[bF,map_cons,im,gE,fF,if_true,Option.some.injEq,decide_eq_true_eq]at ih⊢;by_cases h:n=x
  ·simp[h,fc]
  ·rw[if_neg h,ih];simp only[fc,contains_cons,beq_false_of_ne h,Bool.false_or];split<;>simp
theorem bZ (l:List Int):ae (bF l)=true:=bS (fun x=>by simp[al]) l
theorem kz (H:List ak) (n:Nat) (l:List Int):eI (fz H (n+1)) (bF l)=some (bF l):=dg _ _ (fun x=>pB _ _ true) l
theorem fA (H:List ak) (n:Nat) (l:List Int):eI (fz H (n+1)) (l.map (.int .i64))=some (l.map (.int .i64)):=dg _ _ (fun x=>jZ _ _ _ x) l
attribute [push_cast] kz fA bZ
attribute [simp] bZ
def TW (bk:List V) (m:Nat) (w:WS):List ak:=[.mp (w.steps.map (.int .i64)) (bF w.steps),.row (w.procs.map .bool),.row [.agg [.bc bk,.map 0,.ms 1 0 m]]]
theorem Co {bk:List V} {m:Nat} {w w':WS} (J:List ak):∀(i:Nat) b,(TW bk m w'++J)[i]? =some b->(TW bk m w++J)[i]? =some b\/b.nr=true:=by
 intro i b h;rcases i with _ | _ | _ | i
 ·simp[TW]at h;subst h;right;simp[ak.nr,aS,bZ]
 ·simp[TW]at h;subst h;right;simp[ak.nr,br]
 ·left;simpa[TW]using h
 ·left;simpa[TW]using h
theorem my (P:bH) (ec:ByteArray->Bool):∀(f:Nat) (l:List St) (n:Int) (w:WS),(wk P ec f l n w).procs.length=w.procs.length
 | 0,_,_,_=>rfl
 | f+1,[],_,_=>rfl
 | f+1,.mk k r t v l e a b p ps::rest,n,w=>by
  simp only[wk];have h3:(wk P ec f b (n+1+ai a) (wk P ec f a (n+1) ⟨fc w.steps n,w.procs⟩)).procs.length=w.procs.length:=by rw[my,my]
  generalize wk P ec f b (n+1+ai a) (wk P ec f a (n+1) ⟨fc w.steps n,w.procs⟩)=w3 at*;have h4:(if 0<=kI P.procs k p/\w3.procs[(kI P.procs k p).toNat]? =some false then wk P ec f (aK P.procs (kI P.procs k p).toNat) (dc P (kI P.procs k p).toNat) ⟨w3.steps,w3.procs.set (kI P.procs k p).toNat true⟩else w3).procs.length=w.procs.length:=by
   split
   ·rw[my];simp[h3]
   ·exact h3
  split
  ·rw[my];exact h4
  ·exact h4
theorem mX (P:bH) (i:Nat) (hi:i<P.procs.length):(eF P.procs P.procs (ai P.main)).getD i .any=.fs ((num (aK P.procs i) (dc P i)).map (cb P.procs)):=by
 obtain⟨pre,q,post,h,hl⟩:∃pre q post,P.procs=pre++q::post/\pre.length=i:=⟨P.procs.take i,P.procs[i],P.procs.drop (i+1),by rw[<-drop_eq_getElem_cons hi,take_append_drop],by simp;omega⟩;have hb:aK P.procs i=q.steps:=by
  unfold aK
  rw[h,<-hl];simp
 have ho:dc P i=(ai P.main:Int)+bD pre:=by
  unfold dc
  rw[h,<-hl];simp
 have h2:eF P.procs (pre++q::post) (ai P.main)=eF P.procs pre (ai P.main)++ .fs ((num q.steps ((ai P.main:Int)+bD pre)).map (cb P.procs))::eF P.procs post ((ai P.main:Int)+bD pre+ai q.steps):=by rw[jT];rfl
 rw[<-h]at h2;rw[h2,getD_eq_getElem?_getD,getElem?_append_right (by rw[cT];omega),cT,hl,hb,ho];simp
theorem tZ {P:bH} (h:AN P) (i:Nat):uU P.procs (aK P.procs i)=true:=by
 unfold aK
 cases hx:P.procs[i]? with
 | none=>rfl
 | some q=>exact h.2 q (mem_of_getElem? hx)
theorem Ua (P:bH) (hc:total P<=1000000) (ew:P.procs.length<=1000000) (dx:AN P) (E:List Bool) (hE:E.length=P.procs.length) (f:Nat)
 (ih:∀(k:Nat),k<=f->∀(l:List St) (n:Int) (w:WS) (J:List ak),uU P.procs l=true->w.procs.length=P.procs.length->mu P w l<k->
   av Tryz.prog 121 [.ptr 2 0 0,.fs ((num l n).map (cb P.procs))] (TW (fy P E) P.procs.length w++J) (bX (.dJ []) (TW (fy P E) P.procs.length (wk P (ga P.procs E) k l n w)++J)))
 (l:List St) (n:Int) (w:WS) (J:List ak) (hl:uU P.procs l=true) (hw:w.procs.length=P.procs.length) (hm:mu P w l<f+1):
 av Tryz.prog 121 [.ptr 2 0 0,.fs ((num l n).map (cb P.procs))] (TW (fy P E) P.procs.length w++J) (bX (.dJ []) (TW (fy P E) P.procs.length (wk P (ga P.procs E) (f+1) l n w)++J)):=by
 have vm:∀k r t v lb ek en es aR a b p ps i,DL P.procs (.mk k r t v lb (.mk ek en es aR) a b p ps)=true->af Tryz.prog 120 [.bc (fy P E),cb P.procs (.mk k r t v lb (.mk ek en es aR) a b p ps,i)] (·=.bool (oT (ga P.procs E) (.mk k r t v lb (.mk ek en es aR) a b p ps))):=by
  intro k r t v lb ek en es aR a b p ps i AL;have vk:=AL;simp only[DL,Bool.and_eq_true]at vk;have h0:al (.fs (P.procs.map aF))=true:=by simp[al,aq]
  have h1:al (.fs (P.main.map encS))=true:=by simp[al,ah]
  have h2:al (.fs ((num P.main 0).map (cb P.procs)))=true:=by simp[al]
  have h3:al (.fs (eF P.procs P.procs (ai P.main)))=true:=by simp[al,ee (eG _ _ _)]
  exact Ly P.procs E hE _ _ _ _ h0 h1 h2 h3 k r t v lb ek en es aR a b p ps i AL (t230 P.procs E hE _ _ _ _ h0 h1 h2 h3 _ a (Nat.lt_succ_self _) vk.2.1 _) (t230 P.procs E hE _ _ _ _ h0 h1 h2 h3 _ b (Nat.lt_succ_self _) vk.2.2 _)
 refine av.trim ?_;refine av.intro Z9 400 (by simp) ?_;simp only[TW,cons_append,nil_append];simp -implicitDefEqProofs only[TK,go_sem];intro hlen;refine aL (fun m e H=>∃pre post f' n' w' K J',num l n=pre++num post n'/\m=post.length/\uU P.procs post=true/\w'.procs.length=P.procs.length/\f'<=f+1/\mu P w' post<f'/\wk P (ga P.procs E) (f+1) l n w=wk P (ga P.procs E) f' post n' w'/\
  e 0=.ptr 2 0 0/\e 6=.fs ((num l n).map (cb P.procs))/\e 7=.int .i64 (num l n).length/\e 8=.int .i64 pre.length/\K=J++J'/\H=TW (fy P E) P.procs.length w'++K) l.length
  ⟨[],l,f+1,n,w,J,[],rfl,rfl,hl,hw,Nat.le_refl _,hm,rfl,by simp[az,aC],by simp[az,aC],by simp[az,aC],by simp[az,aC],by simp,by simp[TW]⟩ ?_
 rintro m e H ⟨pre,post,f',n',w',K,J',ao,rfl,MN,hw',JK,hmu,qx,h0,h6,h7,h8,hK,rfl⟩;cases post with
 | nil=>
  simp only[num]at ao;simp -implicitDefEqProofs only[h0,h6,h7,h8,aI ao,go_sem];simp -implicitDefEqProofs only[Gw,push_cast,go_sem_proc];subst hK;refine⟨TW (fy P E) P.procs.length w'++J,J',by rw[<-append_assoc],by simp[TW],Co (w:=w) J,?_⟩;rw[qx];cases f' with
  | zero=>omega
  | succ f'=>rfl
 | cons s rest=>
  cases f' with
  | zero=>omega
  | succ k=>
  have hk:k<=f:=by omega
  simp only[num]at ao;have hg:=aO (cb P.procs) ao;simp only[uU,Bool.and_eq_true]at MN;obtain⟨AL,Ub⟩:=MN;rcases s with⟨sk,r,t,v,lb,⟨ek,en,es,aR⟩,a,b,p,ps⟩
  have vm:=vm sk r t v lb ek en es aR a b p ps n' AL;have vk:=AL;simp only[DL,Bool.and_eq_true,Bool.or_eq_true,bne_iff_ne,ne_eq,decide_eq_true_eq]at vk;obtain⟨hpk,Jk,hob⟩:=vk;have hncnt:dA (.mk sk r t v lb (.mk ek en es aR) a b p ps)=1+ai a+ai b:=rfl;simp only[mu,ai,dA]at hmu;simp only[wk]at qx;rw[ic]at hg vm;have Ci:0<=kI P.procs sk p->(kI P.procs sk p).toNat<P.procs.length:=fun h=>by
   by_cases h5:sk=5
   ·simp only[kI,h5,if_true]at h⊢;exact fO h
   ·simp only[kI,h5,if_false]at h;omega
  generalize AQ:V.agg [.int .i64 n',.int .i64 sk,.str r,.str t,.str v,.str lb,.int .i64 ek,.int .i64 en,.str es,.fs (aR.map bu),.fs (a.map encS),.fs (b.map encS),.str p,.fs (ps.map .str),.int .i64 (kI P.procs sk p),.fs ((num a (n'+1)).map (cb P.procs)),.fs ((num b (n'+1+ai a)).map (cb P.procs))]=nd at*;have ha:=ih k hk a (n'+1) ⟨fc w'.steps n',w'.procs⟩ (K++ [ak.row [nd]]) Jk hw' (by simp only[mu];omega);have Ii:=my P (ga P.procs E) k a (n'+1) ⟨fc w'.steps n',w'.procs⟩;have Qx:=p0 P (ga P.procs E) k a (n'+1) ⟨fc w'.steps n',w'.procs⟩ (by simp only[mu];omega) hw';have f2:=jw Qx.len Qx.mono;generalize wk P (ga P.procs E) k a (n'+1) ⟨fc w'.steps n',w'.procs⟩=w2 at*;simp only at Ii f2;have m2:jC w2.procs*(total P+1)<=jC w'.procs*(total P+1):=Nat.mul_le_mul_right _ f2;have hb:=ih k hk b (n'+1+ai a) w2 (K++ [ak.row [nd]]) hob (by omega) (by simp only[mu];omega);have EN:=my P (ga P.procs E) k b (n'+1+ai a) w2;have Xf:=p0 P (ga P.procs E) k b (n'+1+ai a) w2 (by simp only[mu];omega) (by omega);have f3:=jw Xf.len Xf.mono;generalize wk P (ga P.procs E) k b (n'+1+ai a) w2=w3 at*;have m3:jC w3.procs*(total P+1)<=jC w'.procs*(total P+1):=Nat.mul_le_mul_right _ (Nat.le_trans f3 f2);have Gu:w3.procs.length=P.procs.length:=by omega
  simp only[TW,fy,lE,cons_append,nil_append]at ha hb vm;generalize Ir:oT (ga P.procs E) (.mk sk r t v lb (.mk ek en es aR) a b p ps)=th at*;have gi:ae (eF P.procs P.procs (ai P.main))=true:=ee (eG _ _ _);by_cases hi:0<=kI P.procs sk p
  ·have dF:=Ci hi;have tW:=mX P _ dF;generalize hI:kI P.procs sk p=I at*;have gj:iD I P.procs.length:=⟨hi,dF⟩;have OG:(w3.procs.map V.bool).getD I.toNat .any=.bool (w3.procs.getD I.toNat false):=by
    simp[List.getD,getElem?_map,getElem?_eq_getElem (show I.toNat<w3.procs.length by omega)]
   have nJ:w3.procs[I.toNat]? =some (w3.procs.getD I.toNat false):=by rw[getD_eq_getElem?_getD,getElem?_eq_getElem (by omega)];rfl
   cases hbv:w3.procs.getD I.toNat false with
   | true=>
    rw[hbv]at OG nJ;simp only[nJ,Option.some.injEq,Bool.true_eq_false,and_false,if_false]at qx;subst AQ;simp -implicitDefEqProofs only[h0,h6,h7,h8,an ao,aa ao hlen,hg,TW,fy,lE,bL,b8,b9,go_sem];repeat' (first | ((first | (with_reducible first | refine bR ha ?_ | refine bR hb ?_) | ((with_reducible refine bj vm ?_ ?_);(·simp[ae,al,cm,gi,aq,ah,aY,br])) | ((with_reducible apply cj);(·simp -implicitDefEqProofs only[map_cons,map_nil,gi,aq,ah,aY,br,push_cast,go_sem_proc]<;>rfl);(with_reducible exact vm);(·rfl)) | (with_reducible refine aD ?_));simp -implicitDefEqProofs only[h0,h6,h7,h8,an ao,aa ao hlen,hg,bL,b8,b9,hi,decide_true,gj,OG,Gu,dF,Nat.le_refl,go_sem]) | (with_reducible refine aA.mk ?_ ?_) | (with_reducible refine And.intro ?_ ?_) | ((with_reducible refine bz ?_);simp -implicitDefEqProofs only[Gw,push_cast,go_sem_proc]) | intro _)
    ·rename_i hp;have hp:th=false:=by simpa using hp
     subst hp;simp only[Bool.false_eq_true,if_false]at qx;subst hK;refine⟨TW (fy P E) P.procs.length w3++J,J'++ [_],by simp[TW,fy,lE];rfl,by simp[TW],Co (w:=w) J,?_⟩;rw[qx];rfl
    ·rename_i hp;have hp:th=true:=by simpa using hp
     subst hp;simp only[if_true]at qx;refine⟨_,Nat.lt_succ_self _,pre++ [_],rest,k,n'+dA (.mk sk r t v lb (.mk ek en es aR) a b p ps),w3,K++ [_],J'++ [_],by rw[ao,append_assoc];rfl,rfl,Ub,by omega,by omega,by simp only[mu];omega,qx,by simp,by rw[hK,append_assoc],by simp[TW,fy,lE];rfl⟩
   | false=>
    rw[hbv]at OG nJ;simp only[nJ,hi,and_self,if_true]at qx;have hil3:I.toNat<w3.procs.length:=by omega
    have Ic:=jS nJ;have j1:=qZ dF;have OL:jC w3.procs*(total P+1)=jC (w3.procs.set I.toNat true)*(total P+1)+(total P+1):=by rw[<-Ic,Nat.add_mul];omega
    have h4:=ih k hk (aK P.procs I.toNat) (dc P I.toNat) ⟨w3.steps,w3.procs.set I.toNat true⟩ (K++ [ak.row [nd]]) (tZ dx _) (by simp[Gu]) (by simp only[mu];omega);have Xi:=my P (ga P.procs E) k (aK P.procs I.toNat) (dc P I.toNat) ⟨w3.steps,w3.procs.set I.toNat true⟩;have hp4:=p0 P (ga P.procs E) k (aK P.procs I.toNat) (dc P I.toNat) ⟨w3.steps,w3.procs.set I.toNat true⟩ (by simp only[mu];omega) (by simp[Gu]);have f4:=jw hp4.len hp4.mono;generalize wk P (ga P.procs E) k (aK P.procs I.toNat) (dc P I.toNat) ⟨w3.steps,w3.procs.set I.toNat true⟩=w4 at*;simp only at f4 Xi;rw[length_set]at Xi;have hl4':w4.procs.length=P.procs.length:=by omega
    have m4:jC w4.procs*(total P+1)<=jC w'.procs*(total P+1):=Nat.mul_le_mul_right _ (by omega);simp only[TW,fy,lE,cons_append,nil_append,map_set]at h4;subst AQ;simp -implicitDefEqProofs only[h0,h6,h7,h8,an ao,aa ao hlen,hg,TW,fy,lE,bL,b8,b9,go_sem];repeat' (first | ((first | (with_reducible first | refine bR ha ?_ | refine bR hb ?_ | refine bR h4 ?_) | ((with_reducible refine bj vm ?_ ?_);(·simp[ae,al,cm,gi,aq,ah,aY,br])) | ((with_reducible apply cj);(·simp -implicitDefEqProofs only[map_cons,map_nil,gi,aq,ah,aY,br,push_cast,go_sem_proc]<;>rfl);(with_reducible exact vm);(·rfl)) | (with_reducible refine aD ?_));simp -implicitDefEqProofs only[h0,h6,h7,h8,an ao,aa ao hlen,hg,bL,b8,b9,hi,decide_true,gj,OG,Gu,dF,hil3,tW,Nat.le_refl,cT,go_sem]) | (with_reducible refine aA.mk ?_ ?_) | (with_reducible refine And.intro ?_ ?_) | ((with_reducible refine bz ?_);simp -implicitDefEqProofs only[Gw,push_cast,go_sem_proc]) | intro _)
    ·rename_i hp;have hp:th=false:=by simpa using hp
     subst hp;simp only[Bool.false_eq_true,if_false]at qx;subst hK;refine⟨TW (fy P E) P.procs.length w4++J,J'++ [_],by simp[TW,fy,lE];rfl,by simp[TW],Co (w:=w) J,?_⟩;rw[qx];rfl
    ·rename_i hp;have hp:th=true:=by simpa using hp
     subst hp;simp only[if_true]at qx;refine⟨_,Nat.lt_succ_self _,pre++ [_],rest,k,n'+dA (.mk sk r t v lb (.mk ek en es aR) a b p ps),w4,K++ [_],J'++ [_],by rw[ao,append_assoc];rfl,rfl,Ub,by omega,by omega,by simp only[mu];omega,qx,by simp,by rw[hK,append_assoc],by simp[TW,fy,lE];rfl⟩
  ·have DF:¬0<=kI P.procs sk p:=hi;simp only[DF,false_and,if_false]at qx;subst AQ;simp -implicitDefEqProofs only[h0,h6,h7,h8,an ao,aa ao hlen,hg,TW,fy,lE,bL,b8,b9,go_sem];repeat' (first | ((first | (with_reducible first | refine bR ha ?_ | refine bR hb ?_) | ((with_reducible refine bj vm ?_ ?_);(·simp[ae,al,cm,gi,aq,ah,aY,br])) | ((with_reducible apply cj);(·simp -implicitDefEqProofs only[map_cons,map_nil,gi,aq,ah,aY,br,push_cast,go_sem_proc]<;>rfl);(with_reducible exact vm);(·rfl)) | (with_reducible refine aD ?_));simp -implicitDefEqProofs only[h0,h6,h7,h8,an ao,aa ao hlen,hg,bL,b8,b9,DF,decide_false,Nat.le_refl,go_sem]) | (with_reducible refine aA.mk ?_ ?_) | (with_reducible refine And.intro ?_ ?_) | ((with_reducible refine bz ?_);simp -implicitDefEqProofs only[Gw,push_cast,go_sem_proc]) | intro _)
   ·rename_i hp;have hp:th=false:=by simpa using hp
    subst hp;simp only[Bool.false_eq_true,if_false]at qx;subst hK;refine⟨TW (fy P E) P.procs.length w3++J,J'++ [_],by simp[TW,fy,lE];rfl,by simp[TW],Co (w:=w) J,?_⟩;rw[qx];rfl
   ·rename_i hp;have hp:th=true:=by simpa using hp
    subst hp;simp only[if_true]at qx;refine⟨_,Nat.lt_succ_self _,pre++ [_],rest,k,n'+dA (.mk sk r t v lb (.mk ek en es aR) a b p ps),w3,K++ [_],J'++ [_],by rw[ao,append_assoc];rfl,rfl,Ub,by omega,by omega,by simp only[mu];omega,qx,by simp,by rw[hK,append_assoc],by simp[TW,fy,lE];rfl⟩
theorem t281 (P:bH) (hc:total P<=1000000) (ew:P.procs.length<=1000000) (dx:AN P) (E:List Bool) (hE:E.length=P.procs.length):∀(f k:Nat),k<=f->∀(l:List St) (n:Int) (w:WS) (J:List ak),uU P.procs l=true->w.procs.length=P.procs.length->mu P w l<k->
 av Tryz.prog 121 [.ptr 2 0 0,.fs ((num l n).map (cb P.procs))] (TW (fy P E) P.procs.length w++J) (bX (.dJ []) (TW (fy P E) P.procs.length (wk P (ga P.procs E) k l n w)++J)):=by
 intro f;induction f with
 | zero=>intro k hk l n w J _ _ hm;omega
 | succ f ih=>
  intro k hk l n w J hl hw hm;by_cases h:k<=f
  ·exact ih k h l n w J hl hw hm
  ·have:k=f+1:=by omega
   subst this;exact Ua P hc ew dx E hE f ih l n w J hl hw hm
def ua (P:bH):WS:=⟨[],List.replicate P.procs.length false⟩
noncomputable def mz (P:bH):WS:=wk P (ga P.procs (bY P.procs)) (mu P (ua P) P.main+1) P.main 0 (ua P)
theorem sG (P:bH):(mz P).procs.length=P.procs.length:=by rw[mz,my];simp[ua]
noncomputable def Lz (P:bH):V:=.bc [.bc (fy P (bY P.procs)),.db ((mz P).steps.map (.int .i64)) (bF (mz P).steps),.fs ((mz P).procs.map .bool)]
theorem t231 (P:bH) (hc:total P<=1000000) (ew:P.procs.length<=1000000) (dx:AN P):af Tryz.prog 43 [.bc (fy P (bY P.procs))] (·=Lz P):=by
 have hEl:=(vZ P.procs).1;have JT:=t281 P hc ew dx (bY P.procs) hEl _ _ (Nat.le_refl _) P.main 0 (ua P) [] dx.1 (by simp[ua]) (Nat.lt_succ_self _);rw[Lz];have JU:wk P (ga P.procs (bY P.procs)) (mu P (ua P) P.main+1) P.main 0 (ua P)=mz P:=rfl;rw[JU]at JT;have Da:=sG P;generalize mz P=w at*;have gi:ae (eF P.procs P.procs (ai P.main))=true:=ee (eG _ _ _);have l6:=cT P.procs P.procs (ai P.main);have eN:List.replicate P.procs.length (V.bool false)=(List.replicate P.procs.length false).map V.bool:=by simp
 have WK:bF []=[]:=rfl;simp only[TW,ua,fy,lE,append_nil,map_nil,WK]at JT⊢;rw[<-eN]at JT;have yZ:List.take P.procs.length (w.procs.map V.bool)=w.procs.map .bool:=take_of_length_le (by simp[Da]);refine af.intro ZZ 200 (by simp) 20 ?_;simp -implicitDefEqProofs only[Tx,l6,go_sem];repeat' (first | ((first | (with_reducible refine bR JT ?_) | (with_reducible refine aD ?_));simp -implicitDefEqProofs only[l6,Int.toNat_natCast,go_sem]) | (with_reducible refine aA.mk ?_ ?_) | (with_reducible refine And.intro ?_ ?_) | ((with_reducible refine bz ?_);simp -implicitDefEqProofs only[Ty,yZ,p4,Da,gi,if_true,br,push_cast,go_sem_proc]) | intro _)
 ·omega
 ·omega
theorem t319 (xs:List St) (g:FuncId) (first bB:List V) (p:St->Bool) (hn:ae first=true) (nH:ae bB=true)
 (h:∀x∈xs,af Tryz.prog g (first++ [encS x]++bB) (·=.bool (p x))):af Tryz.prog 183 [.fs (xs.map encS),.a6 g first bB] (·=.int .i64 (oc p xs 0)):=by
 refine af.intro aai 200 (by simp) 20 ?_;simp -implicitDefEqProofs only[TX,go_sem];intro hlen;refine aL (fun m e H=>∃pre post,xs=pre++post/\m=post.length/\(∀y∈pre,p y=false)/\e 0=.fs (xs.map encS)/\e 1=.a6 g first bB/\e 7=.int .i64 xs.length/\e 8=.int .i64 pre.length) xs.length ⟨[],xs,by simp[az,aC]⟩ ?_
 rintro m e H ⟨pre,post,ao,rfl,hp,h0,h1,h7,h8⟩;cases post with
 | nil=>
  simp -implicitDefEqProofs only[h0,h1,h7,h8,aI ao,decide_false,go_sem];simp -implicitDefEqProofs only[OB,push_cast,go_sem_proc];rw[ao,dq _ pre [] 0 hp];rfl
 | cons y post=>
  have hg:=aO encS ao;have hy:=h y (by simp[ao]);rcases y with⟨k,r,t,v,l,⟨ek,en,es,aR⟩,a,b,q,ps⟩
  rw[ay]at hg hy;simp -implicitDefEqProofs only[h0,h1,h7,h8,an ao,hg,aa ao hlen,decide_true,go_sem];simp only[append_assoc,cons_append,nil_append]at hy;refine di (by simp[gK,ae,al,hn,nH,bf,ah,aE]) hy ?_;simp -implicitDefEqProofs only[h0,h1,h7,h8,an ao,hg,aa ao hlen,decide_true,go_sem];refine⟨fun hc=> ?_,fun hc=> ?_⟩
  ·simp -implicitDefEqProofs only[OB,push_cast,go_sem_proc];rw[ao,dq _ pre _ 0 hp,oc,hc];simp
  ·exact⟨_,Nat.lt_succ_self _,pre++ [_],post,by simp[ao];rfl,rfl,fun z hz=>by rcases List.mem_append.1 hz with hz | hz;exact hp z hz;simp at hz;subst hz;exact hc,by simp⟩
theorem t284 (xs:List St) (g:FuncId) (first bB:List V) (p:St->Bool) (hn:ae first=true) (nH:ae bB=true)
 (h:∀x∈xs,af Tryz.prog g (first++ [encS x]++bB) (·=.bool (p x))):af Tryz.prog 132 [.fs (xs.map encS),.a6 g first bB] (·=.bool (xs.any p)):=by
 refine af.intro aab 200 (by simp) 20 ?_;simp -implicitDefEqProofs only[TN,go_sem];refine di (by simp[ae,al,hn,nH,ah]) (t319 xs g first bB p hn nH h) ?_
 simp -implicitDefEqProofs only[go_sem];simp -implicitDefEqProofs only[TO,push_cast,go_sem_proc];exact fY _ _ _ (by omega)
def DP:St->ByteArray
 | .mk _ _ _ _ _ _ _ _ p _=>p
theorem t236 (k:Int) (r t v l:ByteArray) (ek en:Int) (es:ByteArray) (aR:List Ex) (a b:List St) (p:ByteArray) (ps:List ByteArray):
 af Tryz.prog 56 [encS (.mk k r t v l (.mk ek en es aR) a b p ps)] (·=.bool false):=by
 rw[ay];refine af.intro Z3 100 (by simp) 20 ?_;simp -implicitDefEqProofs only[TC,go_sem];simp -implicitDefEqProofs only[TD,push_cast,go_sem_proc]
theorem Uc (P:bH) (g:FuncId) (bB:List V) (hn:ae bB=true) (ec:ByteArray->Bool) (hg:∀s,af Tryz.prog g (encS s::bB) (·=.bool (ec (DP s))))
 (k:Int) (r t v l:ByteArray) (ek en:Int) (es:ByteArray) (aR:List Ex) (a b:List St) (p:ByteArray) (ps:List ByteArray)
 (ha:af Tryz.prog 54 [aP P,.fs (a.map encS),.a6 g [] bB,.a6 56 [] []] (·=.bool (lu ec a)))
 (hb:af Tryz.prog 54 [aP P,.fs (b.map encS),.a6 g [] bB,.a6 56 [] []] (·=.bool (lu ec b))):
 af Tryz.prog 133 [encS (.mk k r t v l (.mk ek en es aR) a b p ps),.bc [.a6 56 [] []],.bc [.fs (P.procs.map aF),.fs (P.main.map encS)],.bc [.a6 g [] bB]] (·=.bool (!oT ec (.mk k r t v l (.mk ek en es aR) a b p ps))):=by
 have OM:=t236 k r t v l ek en es aR a b p ps;have eB:=hg (.mk k r t v l (.mk ek en es aR) a b p ps);simp only[aP]at ha hb;simp only[DP]at eB;rw[ay]at OM eB⊢;refine af.intro aac 400 (by simp) 20 ?_;simp -implicitDefEqProofs only[TP,go_sem];repeat' (first | ((first | ((with_reducible first | refine bj OM ?_ ?_ | refine bj ha ?_ ?_ | refine bj hb ?_ ?_ | refine bj eB ?_ ?_);(·simp[ae,al,cm,hn])) | ((with_reducible apply cj);(·simp -implicitDefEqProofs only[map_cons,map_nil,hn,push_cast,go_sem_proc]<;>rfl);(with_reducible first | exact OM | exact ha | exact hb | exact eB);(·rfl)) | (with_reducible refine aD ?_));simp -implicitDefEqProofs only[go_sem]) | (with_reducible refine aA.mk ?_ ?_) | (with_reducible refine And.intro ?_ ?_) | ((with_reducible refine bz ?_);simp -implicitDefEqProofs only[TQ,push_cast,go_sem_proc]) | intro _)
 all_goals (simp only[oT];generalize lu ec a=A at*;generalize lu ec b=B at*;generalize ec p=C at*;simp_all)
theorem Ud (P:bH) (g:FuncId) (bB:List V) (hn:ae bB=true) (hf:∀H n,eI (fz H (n+1)) bB=some bB) (ec:ByteArray->Bool) (l:List St)
 (h:∀x∈l,af Tryz.prog 133 [encS x,.bc [.a6 56 [] []],.bc [.fs (P.procs.map aF),.fs (P.main.map encS)],.bc [.a6 g [] bB]] (·=.bool (!oT ec x))):
 af Tryz.prog 54 [aP P,.fs (l.map encS),.a6 g [] bB,.a6 56 [] []] (·=.bool (lu ec l)):=by
 have JV:=t284 l 133 [] [.bc [.a6 56 [] []],.bc [.fs (P.procs.map aF),.fs (P.main.map encS)],.bc [.a6 g [] bB]] (fun x=> !oT ec x) rfl (by simp[ae,al,hn,aq,ah]) (fun x hx=>by simpa using h x hx);have ey:l.any (fun x=> !oT ec x)= !lu ec l:=by
  rw[xa];clear h JV;induction l with
  | nil=>rfl
  | cons s l ih=>simp only[any_cons,all_cons,ih,Bool.not_and]
 rw[ey]at JV;simp only[aP];refine af.intro Z1 100 (by simp) 20 ?_;simp -implicitDefEqProofs only[TA,go_sem];repeat' (first | ((first | ((with_reducible refine bj JV ?_ ?_);(·simp[ae,al,cm,hn,hf,aq,ah])) | ((with_reducible apply cj);(·simp -implicitDefEqProofs only[map_cons,map_nil,hn,hf,aq,ah,push_cast,go_sem_proc]<;>rfl);(with_reducible exact JV);(·rfl)) | (with_reducible refine aD ?_));simp -implicitDefEqProofs only[go_sem]) | (with_reducible refine aA.mk ?_ ?_) | (with_reducible refine And.intro ?_ ?_) | ((with_reducible refine bz ?_);simp -implicitDefEqProofs only[TB,push_cast,go_sem_proc]) | intro _)
 all_goals (try simp)
theorem t234 (P:bH) (g:FuncId) (bB:List V) (hn:ae bB=true) (hf:∀H n,eI (fz H (n+1)) bB=some bB) (ec:ByteArray->Bool) (hg:∀s,af Tryz.prog g (encS s::bB) (·=.bool (ec (DP s)))):∀(m:Nat) (l:List St),SizeOf.sizeOf l<m->
 af Tryz.prog 54 [aP P,.fs (l.map encS),.a6 g [] bB,.a6 56 [] []] (·=.bool (lu ec l))
 | 0,l,h=>absurd h (Nat.not_lt_zero _)
 | m+1,l,hm=>Ud P g bB hn hf ec l (fun x hx=>by
  have hs:=sizeOf_lt_of_mem hx;rcases x with⟨k,r,t,v,lb,⟨ek,en,es,aR⟩,a,b,p,ps⟩
  simp only[St.mk.sizeOf_spec]at hs;exact Uc P g bB hn ec hg k r t v lb ek en es aR a b p ps (t234 P g bB hn hf ec hg m a (by omega)) (t234 P g bB hn hf ec hg m b (by omega)))
def xX (X:List Pr) (S:List Int) (p:ByteArray):Bool:=decide (bq X p∈S)
theorem t283 (P:bH) (S:List Int) (s:St):af Tryz.prog 131 (encS s::[.bc [.db (S.map (.int .i64)) (bF S)],.bc [.fs (P.procs.map aF),.fs (P.main.map encS)]]) (·=.bool (xX P.procs S (DP s))):=by
 rcases s with⟨k,r,t,v,l,⟨ek,en,es,aR⟩,a,b,p,ps⟩
 have gO:=t30 P p;simp only[aP]at gO;rw[ay];refine af.intro aaa 100 (by simp) 20 ?_;simp -implicitDefEqProofs only[TL,go_sem];repeat' (first | ((first | ((with_reducible refine bj gO ?_ ?_);(·simp[ae,al,cm])) | ((with_reducible apply cj);(·simp -implicitDefEqProofs only[map_cons,map_nil,push_cast,go_sem_proc]<;>rfl);(with_reducible exact gO);(·rfl)) | (with_reducible refine aD ?_));simp -implicitDefEqProofs only[bL,b6,go_sem]) | (with_reducible refine aA.mk ?_ ?_) | (with_reducible refine And.intro ?_ ?_) | ((with_reducible refine bz ?_);simp -implicitDefEqProofs only[TM,push_cast,go_sem_proc]) | intro _)
 all_goals (try rfl)
theorem t320 (P:bH) (S:List Int) (s:St):af Tryz.prog 184 (encS s::[.bc [.db (S.map (.int .i64)) (bF S)],.bc [.fs (P.procs.map aF),.fs (P.main.map encS)]]) (·=.bool (xX P.procs S (DP s))):=by
 rcases s with⟨k,r,t,v,l,⟨ek,en,es,aR⟩,a,b,p,ps⟩
 have gO:=t30 P p;simp only[aP]at gO;rw[ay];refine af.intro aaj 100 (by simp) 20 ?_;simp -implicitDefEqProofs only[TY,go_sem];repeat' (first | ((first | ((with_reducible refine bj gO ?_ ?_);(·simp[ae,al,cm])) | ((with_reducible apply cj);(·simp -implicitDefEqProofs only[map_cons,map_nil,push_cast,go_sem_proc]<;>rfl);(with_reducible exact gO);(·rfl)) | (with_reducible refine aD ?_));simp -implicitDefEqProofs only[bL,b6,go_sem]) | (with_reducible refine aA.mk ?_ ?_) | (with_reducible refine And.intro ?_ ?_) | ((with_reducible refine bz ?_);simp -implicitDefEqProofs only[TZ,push_cast,go_sem_proc]) | intro _)
 all_goals (try rfl)
def xf (P:bH) (S:List Int):List V:=[.bc [.db (S.map (.int .i64)) (bF S)],.bc [.fs (P.procs.map aF),.fs (P.main.map encS)]]
theorem AR (P:bH) (S:List Int):ae (xf P S)=true:=by simp[xf,ae,al,aS,aq,ah]
theorem JW (P:bH) (S:List Int) (H:List ak) (n:Nat):eI (fz H (n+1)) (xf P S)=some (xf P S):=by
 simp[xf,b7,cN,pC,dR,ae,al,aS,aq,ah]
theorem GD (P:bH) (S:List Int) (g:FuncId) (hg:∀s,af Tryz.prog g (encS s::xf P S) (·=.bool (xX P.procs S (DP s)))) (l:List St):
 af Tryz.prog 54 [aP P,.fs (l.map encS),.a6 g [] (xf P S),.a6 56 [] []] (·=.bool (lu (xX P.procs S) l)):=
 t234 P g _ (AR P S) (JW P S) _ hg _ l (Nat.lt_succ_self _)
def mA (n:Nat) (S:List Int):List Bool:=(List.range n).map fun(i:Nat)=>decide ((i:Int)∈S)
theorem ie (n:Nat) (S:List Int):(mA n S).length=n:=by simp[mA]
theorem gw (n:Nat) (S:List Int) (i:Nat) (h:i<n):(mA n S)[i]? =some (decide ((i:Int)∈S)):=by simp[mA,h]
theorem Cp (n:Nat):mA n []=List.replicate n false:=by
 apply ext_getElem?
 intro i;by_cases h:i<n
 ·rw[gw _ _ _ h];simp[h]
 ·rw[getElem?_eq_none (by rw[ie];omega),getElem?_eq_none (by simp;omega)]
theorem xg (n:Nat) (S:List Int) (i:Nat):mA n (fc S i)=(mA n S).set i true:=by
 apply ext_getElem?
 intro j;rw[getElem?_set];by_cases h:j<n
 ·rw[gw _ _ _ h];by_cases rm:i=j
  ·subst rm;simp[ie,h,fN]
  ·rw[if_neg rm,gw _ _ _ h];have:(j:Int)≠(i:Int):=by omega
   simp[fN,this]
 ·rw[getElem?_eq_none (by rw[ie];omega)];split
  ·rw[if_neg (by rw[ie];omega)]
  ·rw[getElem?_eq_none (by rw[ie];omega)]
theorem Cq (X:List Pr) (S:List Int) (hS:∀x∈S,0<=x) (p:ByteArray):xX X S p=ga X (mA X.length S) p:=by
 unfold xX ga
 split
 ·rename_i h;simp only[decide_eq_false_iff_not];intro hm;have:=hS _ hm;omega
 ·rename_i h;have ct:=fO (X:=X) (p:=p) (by omega);rw[getD_eq_getElem?_getD,gw _ _ _ ct];have:(((bq X p).toNat:Nat):Int)=bq X p:=by omega
  rw[this];rfl
theorem JX {ec JR:ByteArray->Bool} (h:∀p,ec p=JR p) (l:List St):lu ec l=lu JR l:=by
 have:ec=JR:=funext h;rw[this]
structure eR (n:Nat) (S:List Int):Prop where
 lo:∀x∈S,0<=x
 hi:∀x∈S,x<n
 nodup:S.Nodup
theorem eR.nil (n:Nat):eR n []:=⟨by simp,by simp,nodup_nil⟩
theorem eR.add {n:Nat} {S:List Int} (h:eR n S) {i:Nat} (hi:i<n):eR n (fc S i):=by
 refine⟨fun x hx=> ?_,fun x hx=> ?_,?_⟩
 ·rcases fN.1 hx with hx | rfl
  ·exact h.lo x hx
  ·omega
 ·rcases fN.1 hx with hx | rfl
  ·exact h.hi x hx
  ·omega
 ·unfold fc
  split
  ·exact h.nodup
  ·rename_i hc;have hc:¬(i:Int)∈S:=by simpa using hc
   rw[nodup_append];exact⟨h.nodup,by simp,fun a ha b hb=>by simp at hb;subst hb;intro he;subst he;exact hc ha⟩
def ON (X:List Pr) (S:List Int):Prop:=eR X.length S/\mA X.length S=bY X
theorem ON.ec {X:List Pr} {S:List Int} (h:ON X S) (p:ByteArray):xX X S p=ga X (bY X) p:=by rw[Cq X S h.1.lo,h.2]
theorem t233 (P:bH) (ew:P.procs.length<=1000000):af Tryz.prog 53 [aP P] (fun r=>∃S,ON P.procs S/\r=.db (S.map (.int .i64)) (bF S)):=by
 rcases P with⟨xs,main⟩
 have DQ:=fun S l=>GD ⟨xs,main⟩ S 131 (t283 ⟨xs,main⟩ S) l
 simp only[aP,xf]at DQ⊢;refine af.intro Z0 300 (by simp) 20 ?_;simp -implicitDefEqProofs only[Tz,go_sem];have WK:bF []=[]:=rfl;refine aL (fun m e H=>∃S mo J,eR xs.length S/\Lo xs (mA xs.length S)/\(mo=false->Cl xs (mA xs.length S))/\m=2*jC (mA xs.length S)+(if mo then 1 else 0)/\e 1=.ptr 0 0 0/\e 3=.ptr 2 0 0/\e 4=.bool mo/\
  H=ak.row [.agg [.fs (xs.map aF),.fs (main.map encS)]]::ak.mp (S.map (.int .i64)) (bF S)::ak.row [.map 1]::J) (2*jC (mA xs.length [])+1)
  ⟨[],true,[],eR.nil _,by rw[Cp];exact Lo.init xs,(fun h=>by cases h),rfl,by simp[az,aC],by simp[az,aC],by simp[az,aC],rfl⟩ ?_
 rintro m e H ⟨S,mo,J,hS,yj,eT,rfl,h1,h3,h4,rfl⟩;cases mo with
 | false=>
  simp -implicitDefEqProofs only[h1,h3,h4,go_sem];simp -implicitDefEqProofs only[Ov,kz,fA,push_cast,go_sem_proc];exact⟨S,⟨hS,v7 (eT rfl) yj⟩,rfl⟩
 | true=>
  simp -implicitDefEqProofs only[h1,h3,h4,go_sem];intro hlen;refine aL (fun m e H=>∃pre post S' mo J',xs=pre++post/\m=post.length/\eR xs.length S'/\Lo xs (mA xs.length S')/\(mo=true->jC (mA xs.length S')<jC (mA xs.length S))/\(mo=false->S'=S/\∀(i:Nat) q,pre[i]? =some q->lu (ga xs (mA xs.length S)) q.steps=true->(mA xs.length S)[i]? =some true)/\
   e 1=.ptr 0 0 0/\e 3=.ptr 2 0 0/\e 4=.bool mo/\e 10=.fs (xs.map aF)/\e 11=.int .i64 xs.length/\e 12=.int .i64 pre.length/\
   H=ak.row [.agg [.fs (xs.map aF),.fs (main.map encS)]]::ak.mp (S'.map (.int .i64)) (bF S')::ak.row [.map 1]::J') xs.length
   ⟨[],xs,S,false,J,rfl,rfl,hS,yj,(fun h=>by cases h),(fun _=>⟨rfl,fun i q h=>by simp at h⟩),by simp[az,h1],by simp[az,h3],by simp[az],by simp[az],by simp[az],by simp[az],rfl⟩ ?_
  rintro m e H ⟨pre,post,S',mo,J',ao,rfl,Ue,r7,DN,xW,h1,h3,h4,eb,ez,dU,rfl⟩;cases post with
  | nil=>
   have ev:pre=xs:=by rw[ao];simp
   simp -implicitDefEqProofs only[h1,h3,h4,eb,ez,dU,aI ao,go_sem];refine⟨2*jC (mA xs.length S')+(if mo then 1 else 0),?_,S',mo,?_⟩
   ·cases mo with
    | true=>have:=DN rfl;simp;omega
    | false=>have:=(xW rfl).1;subst this;simp
   ·refine⟨J',Ue,r7,(fun h=> ?_),rfl,rfl,rfl⟩;obtain⟨rfl,h'⟩:=xW h;exact⟨r7.1,fun i q hq ht=>h' i q (by rw[ev];exact hq) ht⟩
  | cons q post=>
   have hg:=aO aF ao;simp only[aF]at hg;have cR:pre.length<xs.length:=by rw[ao];simp
   have Gz:=fun p=>Cq xs S' Ue.lo p
   have DQ:=DQ S' q.steps;rw[JX Gz]at DQ;have T7:=gw xs.length S' pre.length cR;generalize T8:lu (ga xs (mA xs.length S')) q.steps=tv at*;simp -implicitDefEqProofs only[h1,h3,h4,eb,ez,dU,an ao,aa ao hlen,hg,bL,b6,b8,b9,go_sem];repeat' (first | ((first | ((with_reducible refine bj DQ ?_ ?_);(·simp[ae,al,cm,kz,fA,aS,bZ])) | ((with_reducible apply cj);(·simp -implicitDefEqProofs only[map_cons,map_nil,kz,fA,aS,bZ,push_cast,go_sem_proc]<;>rfl);(with_reducible exact DQ);(·rfl)) | (with_reducible refine aD ?_));simp -implicitDefEqProofs only[h1,h3,h4,eb,ez,dU,an ao,aa ao hlen,hg,bL,b6,b8,b9,go_sem]) | (with_reducible refine aA.mk ?_ ?_) | (with_reducible refine And.intro ?_ ?_) | ((with_reducible refine bz ?_);simp -implicitDefEqProofs only[Ov,push_cast,go_sem_proc]) | intro _)
   ·rename_i lC AO;have lC:¬(pre.length:Int)∈S':=by simpa using lC
    have AO:tv=true:=by simpa using AO
    subst AO;have MR:=jS (E:=mA xs.length S') (i:=pre.length) (by rw[T7];simp[lC]);refine⟨_,Nat.lt_succ_self _,pre++ [q],post,fc S' pre.length,true,_,by simp[ao],rfl,Ue.add cR,by rw[xg];exact r7.step (q:=q) (by rw[ao];simp) T8,(fun _=> ?_),(fun h=>by cases h),rfl,by simp,rfl⟩;rw[xg];cases mo with
    | true=>have:=DN rfl;omega
    | false=>have:=(xW rfl).1;subst this;omega
   ·rename_i lC AO;have AO:tv=false:=by simpa using AO
    subst AO;refine⟨_,Nat.lt_succ_self _,pre++ [q],post,S',mo,_,by simp[ao],rfl,Ue,r7,DN,(fun h=> ?_),rfl,by simp,rfl⟩;obtain⟨rfl,h'⟩:=xW h;refine⟨rfl,fun i q' ln Af=> ?_⟩;by_cases hi:i<pre.length
    ·rw[getElem?_append_left hi]at ln;exact h' i q' ln Af
    ·rw[getElem?_append_right (by omega)]at ln;have:i - pre.length=0:=by have:=(List.getElem?_eq_some_iff.1 ln).1;simp at this;omega
     rw[this]at ln;simp at ln;subst ln;rw[T8]at Af;cases Af
   ·rename_i lC;have lC:(pre.length:Int)∈S':=by simpa using lC
    refine⟨_,Nat.lt_succ_self _,pre++ [q],post,S',mo,_,by simp[ao],rfl,Ue,r7,DN,(fun h=> ?_),rfl,by simp,rfl⟩;obtain⟨rfl,h'⟩:=xW h;refine⟨rfl,fun i q' ln Af=> ?_⟩;by_cases hi:i<pre.length
    ·rw[getElem?_append_left hi]at ln;exact h' i q' ln Af
    ·rw[getElem?_append_right (by omega)]at ln;have:i - pre.length=0:=by have:=(List.getElem?_eq_some_iff.1 ln).1;simp at this;omega
     have:i=pre.length:=by omega
     subst this;rw[T7];simp[lC]
theorem cD.OP {f:Fr} {B:List Pl} {I:IM} {w:World} {H:List ak} (h:cD f B I w H) {o:Nat} {p:Pl} {b:ak} (hp:B[o]? =some p) (dx:o0 B I w p b)
 (x8:∀(i:Nat) q c,i≠o->B[i]? =some q->H[i]? =some c->c.live=true->q.dI≠p.dI)
 (gh:I p.dI=none/\(f.w0.heap.size<=p.dI\/f.M p.dI)/\p.dI<w.heap.size):cD f B I w (H.set o b) where
 len:=by simp[h.len]
 lH:=h.lH
 wy:=h.wy
 dZ:=h.dZ
 os:=h.os
 tape:=h.tape
 output:=h.output
 size:=h.size
 keep:=h.keep
 ok i q c h1 h2:=by
  rw[dh]at h2;split at h2
  ·rename_i e;subst e;split at h2<;>cases h2;rw[hp]at h1;cases h1;exact dx
  ·exact h.ok i q c h1 h2
 sep i j q r c d h1 h2 h3 h4 hc hd he:=by
  rw[dh]at h3 h4;split at h3
  ·rename_i e;subst e;split at h4
   ·rename_i e;exact e
   ·rename_i e;rw[hp]at h1;cases h1;exact absurd he.symm (x8 j r d (fun hh=>e hh.symm) h2 h4 hd)
  ·rename_i e1;split at h4
   ·rename_i e;subst e;rw[hp]at h2;cases h2;exact absurd he (x8 i q c (fun hh=>e1 hh.symm) h1 h3 hc)
   ·exact h.sep i j q r c d h1 h2 h3 h4 hc hd he
 own i q c h1 h2 hl:=by
  rw[dh]at h2;split at h2
  ·rename_i e;subst e;rw[hp]at h1;cases h1;exact gh
  ·exact h.own i q c h1 h2 hl
theorem av.Uf {P:Program} {g:FuncId} {vs:List V} {H:List ak} {K:V->List ak->Prop} (o:Nat)
 (h:av P g vs H (fun r H'=>∃H2 X id es,H'=H2++X/\H2.length=H.length/\al r=true/\H2[o]? =some (.row [.ms (H2.length+id) 0 es.length])/\X[id]? =some (.row es)/\ae es=true/\
   (∀(i:Nat) b,i≠o->H2[i]? =some b->H[i]? =some b\/b.nr=true)/\K r (H2.set o (.row [.ms H2.length 0 es.length])++ [.row es]))):av P g vs H K:=by
 refine⟨h.1,fun f B I w args hs hr=>(h.2 f B I w args hs hr).mono ?_⟩;rintro e w' ⟨r,v,H',B',I',rfl,⟨H2,X,id,es,rfl,hl,MT,cr,hX,ly,nj,hk⟩,eM,hB,hI,eN⟩;have ho:o<H2.length:=(List.getElem?_eq_some_iff.1 cr).1;have LA:cD f B' I' w' (H2.set o .dead++X):=eM.mask (by simp) (fun i b hb=>by
  by_cases hi:i<H2.length
  ·rw[getElem?_append_left (by simpa using hi),dh]at hb;rw[getElem?_append_left hi];split at hb
   ·first | (cases hb;exact .inl rfl) | (rw[if_pos ho]at hb;cases hb;exact .inl rfl)
   ·exact .inr hb
  ·rw[getElem?_append_right (by simp;omega)]at hb;rw[getElem?_append_right (by omega)];simpa using Or.inr hb)
 obtain⟨h1,h2⟩:=hs.trim LA hB (by simp[hl]) (fun i b hb=>by
  rw[dh]at hb;split at hb
  ·first | (cases hb;exact .inr rfl) | (rw[if_pos ho]at hb;cases hb;exact .inr rfl)
  ·rename_i dr;exact nj i b (fun hh=>dr hh.symm) hb)
 have cX:(H2.set o .dead).length=H2.length:=by simp
 rw[cX]at h1 h2;have qY:(H2++X)[o]? =some (.row [.ms (H2.length+id) 0 es.length]):=by rw[getElem?_append_left ho];exact cr
 have hid:(H2++X)[H2.length+id]? =some (.row es):=by rw[getElem?_append_right (by omega)];rw[<-hX];congr 1;omega
 have R2:H2.length+X.length=B'.length:=by rw[eM.len];simp
 obtain⟨p,hp⟩:∃p,B'[H2.length+id]? =some p:=by
  have:=(List.getElem?_eq_some_iff.1 hX).1;exact⟨B'[H2.length+id]'(by omega),getElem?_eq_getElem _⟩
 obtain⟨po,Nc⟩:∃p,B'[o]? =some p:=⟨B'[o]'(by omega),getElem?_eq_getElem _⟩;have yZ:∀i,i<H2.length->(B'.take H2.length)[i]? =B'[i]? :=fun i hi=>by rw[getElem?_take,if_pos hi]
 have Ug:cD f (B'.take H2.length++ [p]) I' w' (H2.set o .dead++ [.row es]):=by
  refine h1.push _ _ ?_ ?_ ?_
  ·obtain⟨carr,e,h4,h5,h6,h7⟩:=eM.ok _ p _ hp hid;exact⟨carr,e,h4,h5,h6,gf ly h7⟩
  ·intro i q c h3 h4 hc heq;have hi:i<H2.length:=by have:=(List.getElem?_eq_some_iff.1 h4).1;simpa using this
   rw[yZ i hi]at h3;have Mw:(H2.set o .dead++X)[i]? =some c:=by rw[getElem?_append_left (by simpa using hi)];exact h4
   have hid':(H2.set o .dead++X)[H2.length+id]? =some (.row es):=by rw[getElem?_append_right (by simp)];rw[<-hX];congr 1;simp
   have:=LA.sep i _ q p c _ h3 hp Mw hid' hc rfl heq;omega
  ·exact eM.own _ p _ hp hid rfl
 have hBt:B'.take H2.length++ [p]=B'.take H2.length++ [p]:=rfl;have LB:(B'.take H2.length).length=H2.length:=by simp;omega
 have Uh:=Ug.OP (o:=o) (p:=po) (b:=.row [.ms H2.length 0 es.length]) (by rw[getElem?_append_left (by omega),yZ o ho];exact Nc) ?_ ?_ ?_
 ·refine⟨r,v,_,B'.take H2.length++ [p],I',rfl,hk,?_,h2.trans (eA.append _ _),hI,eU MT eN⟩;rw[set_append_left _ _ (by simpa using ho),set_set]at Uh;exact Uh
 ·obtain⟨carr,e,h4,h5,h6,h7⟩:=eM.ok o po _ Nc qY;refine⟨carr,e,h4,h5,h6,?_⟩;simp only[bK]at h7⊢;obtain⟨a1,⟨v,a2,a3⟩,_⟩:=h7;refine⟨a1,⟨v,a2,?_⟩,trivial⟩;simp only[aU]at a3⊢;obtain⟨q,a,cap,b1,b2⟩:=a3;rw[hp]at b1;cases b1;exact⟨p,a,cap,by rw[getElem?_append_right (by omega),LB];simp,b2⟩
 ·intro i q c Yk h3 h4 hc heq;by_cases hi:i<H2.length
  ·rw[getElem?_append_left (by omega),yZ i hi]at h3;rw[getElem?_append_left (by simpa using hi),dh,if_neg (fun hh=>Yk hh.symm)]at h4;have Mw:(H2++X)[i]? =some c:=by rw[getElem?_append_left hi];exact h4
   exact Yk (eM.sep i o q po c _ h3 Nc Mw qY hc rfl heq)
  ·have hiN:i=H2.length:=by have:=(List.getElem?_eq_some_iff.1 h4).1;simp at this;omega
   subst hiN;rw[getElem?_append_right (by omega),LB]at h3;simp at h3;subst h3;have:=eM.sep _ o p po _ _ hp Nc hid qY rfl rfl heq;omega
 ·exact eM.own o po _ Nc qY rfl
def JY (H:List ak) (kv:V) (O:List Int):Prop:=(O=[]/\kv=.ag)\/∃id off es,kv=.ms id off O.length/\H[id]? =some (.row (es.map (.int .i64)))/\es≠ []/\off+O.length=es.length/\es.drop off=O
def fq:V->List ak->List ak
 | .ms id _ _,H=>H.set id .dead
 | _,H=>H
theorem eo (kv:V) (H:List ak):(fq kv H).length=H.length:=by cases kv<;>simp[fq]
theorem JZ {bytes:Nat} {H:List ak} {kv:V} {O:List Int} {i:Int} {K:V->List ak->Prop} (bm:JY H kv O) (hb:(O.length+1)*bytes<=140737488355328)
 (hk:K (.ms H.length 0 (O.length+1)) (fq kv H++ [.row ((O++ [i]).map (.int .i64))])):nh 1 bytes [.int .i64 i] (.fs [.int .i64 i]) kv H K:=by
 rcases bm with⟨rfl,rfl⟩ | ⟨id,off,es,rfl,hid,dr,hl,hd⟩
 ·rw[qR];exact⟨fun h=>(by cases h),fun _=>⟨by simpa using hb,by simpa[fq]using hk⟩⟩
 ·rw[sr,hid,tC];refine⟨⟨by simpa using hl,by simpa using dr,pQ es,fun i o l h=>(by cases h),by simpa using hb⟩,?_⟩;rw[<-map_drop,hd];simpa[fq]using hk
structure kZ (H:List ak) (kv:V) (so:List Int×List Int):Prop where
 seen:H[2]? =some (.mp (so.1.map (.int .i64)) (bF so.1))
 cell:H[3]? =some (.row [.map 2])
 open_:H[4]? =some (.row [kv])
 ov:JY H kv so.2
 n2:a7 kv 2
 n3:a7 kv 3
 n4:a7 kv 4
def oB (so:List Int×List Int) (i:Int):List Int×List Int:=if i∈so.1 then so else(so.1++ [i],so.2++ [i])
structure KR (H:List ak) (kv:V) (so:List Int×List Int) (H1:List ak) (kv1:V) (so1:List Int×List Int):Prop where
 len:H.length<=H1.length
 inv:kZ H1 kv1 so1
 Is:(so1=so/\kv1=kv/\∀j,j<H.length->H1[j]? =H[j]?)\/
  (so.1.length<so1.1.length/\∃id,kv1=.ms id 0 so1.2.length/\H.length<=id/\H1[id]? =some (.row (so1.2.map (.int .i64)))/\∀j,j<H.length->j≠2->j≠4->H1[j]? =(fq kv H)[j]?)
theorem JY.mono {H H1:List ak} {kv:V} {O:List Int} (h:JY H kv O) (hj:∀j,j<H.length->H1[j]? =H[j]?):JY H1 kv O:=by
 rcases h with h | ⟨id,off,es,h1,h2,h3⟩
 ·exact .inl h
 ·exact .inr ⟨id,off,es,h1,by rw[hj id (List.getElem?_eq_some_iff.1 h2).1];exact h2,h3⟩
theorem kZ.grow {H H1:List ak} {kv:V} {so:List Int×List Int} (h:kZ H kv so) (hj:∀j,j<H.length->H1[j]? =H[j]?):kZ H1 kv so:=
 ⟨by rw[hj 2 (List.getElem?_eq_some_iff.1 h.seen).1];exact h.seen,by rw[hj 3 (List.getElem?_eq_some_iff.1 h.cell).1];exact h.cell,by rw[hj 4 (List.getElem?_eq_some_iff.1 h.open_).1];exact h.open_,h.ov.mono hj,h.n2,h.n3,h.n4⟩
theorem KR.refl {H H1:List ak} {kv:V} {so:List Int×List Int} (h:kZ H kv so) (hl:H.length<=H1.length) (hj:∀j,j<H.length->H1[j]? =H[j]?):KR H kv so H1 kv so:=
 ⟨hl,h.grow hj,.inl ⟨rfl,rfl,hj⟩⟩
theorem KR.app {H H1:List ak} {kv kv1:V} {so so1:List Int×List Int} (h:KR H kv so H1 kv1 so1) (J:List ak):KR H kv so (H1++J) kv1 so1:=by
 have hj:∀j,j<H1.length->(H1++J)[j]? =H1[j]? :=fun j h=>by rw[getElem?_append_left h]
 refine⟨by have:=h.len;simp;omega,h.inv.grow hj,?_⟩;have hl:=h.len;rcases h.Is with⟨h1,h2,h3⟩ | ⟨h1,id,h2,h3,h4,h5⟩
 ·exact .inl ⟨h1,h2,fun j Nd=>(hj j (by omega)).trans (h3 j Nd)⟩
 ·exact .inr ⟨h1,id,h2,h3,by rw[hj id (List.getElem?_eq_some_iff.1 h4).1];exact h4,fun j Nd a b=>(hj j (by omega)).trans (h5 j Nd a b)⟩
theorem mY {kv:V} {H:List ak} {j:Nat} (h:a7 kv j):(fq kv H)[j]? =H[j]? :=by
 cases kv<;>try rfl
 rename_i id off len;simp only[fq];rw[getElem?_set_ne];intro he;subst he;exact h off len rfl
theorem y6 {kv:V} {H H1:List ak} {j:Nat} (hl:H.length<=H1.length) (hj:j<H.length) (h:H1[j]? =H[j]?):(fq kv H1)[j]? =(fq kv H)[j]? :=by
 cases kv<;>try exact h
 rename_i id off len;simp only[fq];rw[getElem?_set,getElem?_set];split
 ·rename_i e;subst e;rw[if_pos hj,if_pos (by omega)]
 ·exact h
theorem KR.trans {H H1 H2:List ak} {kv kv1 fH:V} {so so1 AS:List Int×List Int} (h:KR H kv so H1 kv1 so1) (g:KR H1 kv1 so1 H2 fH AS):KR H kv so H2 fH AS:=by
 have hl:=h.len;have gl:=g.len;refine⟨by omega,g.inv,?_⟩;rcases h.Is with⟨rfl,rfl,h3⟩ | ⟨h1,id,rfl,h3,h4,h5⟩
 ·rcases g.Is with⟨rfl,rfl,g3⟩ | ⟨g1,id,g2,g3,g4,g5⟩
  ·exact .inl ⟨rfl,rfl,fun j hj=>(g3 j (by omega)).trans (h3 j hj)⟩
  ·exact .inr ⟨g1,id,g2,by omega,g4,fun j hj a b=>(g5 j (by omega) a b).trans (y6 hl hj (h3 j hj))⟩
 ·rcases g.Is with⟨rfl,rfl,g3⟩ | ⟨g1,ph,g2,g3,g4,g5⟩
  ·exact .inr ⟨h1,id,rfl,h3,by rw[g3 id (List.getElem?_eq_some_iff.1 h4).1];exact h4,fun j hj a b=>(g3 j (by omega)).trans (h5 j hj a b)⟩
  ·refine .inr ⟨by omega,ph,g2,by omega,g4,fun j hj a b=> ?_⟩;rw[g5 j (by omega) a b,mY (fun x y h=>by injection h;omega)];exact h5 j hj a b
def KH (H:List ak) (kv:V) (so so1:List Int×List Int):List ak:=
 if so1=so then H else(((fq kv H).set 2 (.mp (so1.1.map (.int .i64)) (bF so1.1))).set 4 (.row [.ms H.length 0 so1.2.length]))++ [.row (so1.2.map (.int .i64))]
def OQ (H:List ak) (kv:V) (so so1:List Int×List Int):V:=if so1=so then kv else .ms H.length 0 so1.2.length
theorem KH.kr {H:List ak} {kv:V} {so so1:List Int×List Int} (h:kZ H kv so) (hs:so1=so\/so.1.length<so1.1.length) (dr:so1.2≠ []\/so1=so):KR H kv so (KH H kv so so1) (OQ H kv so so1) so1:=by
 by_cases he:so1=so
 ·subst he;simp only[KH,OQ,if_true];exact KR.refl h (Nat.le_refl _) (fun _ _=>rfl)
 ·have hs:=hs.resolve_left he;have dr:=dr.resolve_right he;have h4:=(List.getElem?_eq_some_iff.1 h.open_).1;simp only[KH,OQ,if_neg he];have hg:∀j,j<H.length->((((fq kv H).set 2 (.mp (so1.1.map (.int .i64)) (bF so1.1))).set 4 (.row [.ms H.length 0 so1.2.length]))++ [.row (so1.2.map (.int .i64))])[j]? =
   if 4=j then some (.row [.ms H.length 0 so1.2.length])else if 2=j then some (.mp (so1.1.map (.int .i64)) (bF so1.1))else(fq kv H)[j]? :=by
   intro j hj;rw[getElem?_append_left (by simp[eo];exact hj),getElem?_set,getElem?_set];simp only[length_set,eo];split
   ·rename_i e;subst e;first | rfl | rw[if_pos hj]
   ·split
    ·rename_i e;subst e;first | rfl | rw[if_pos hj]
    ·rfl
  have BG:((((fq kv H).set 2 (.mp (so1.1.map (.int .i64)) (bF so1.1))).set 4 (.row [.ms H.length 0 so1.2.length]))++ [.row (so1.2.map (.int .i64))])[H.length]? =some (.row (so1.2.map (.int .i64))):=by
   rw[getElem?_append_right (by simp[eo])];simp[eo]
  refine⟨by simp[eo],⟨?_,?_,?_,?_,?_,?_,?_⟩,.inr ⟨hs,H.length,rfl,Nat.le_refl _,BG,?_⟩⟩
  ·rw[hg 2 (by omega)];simp
  ·rw[hg 3 (by omega)];simp;rw[mY h.n3];exact h.cell
  ·rw[hg 4 h4];simp
  ·exact .inr ⟨H.length,0,so1.2,rfl,BG,dr,by simp,rfl⟩
  ·intro a b hh;injection hh;omega
  ·intro a b hh;injection hh;omega
  ·intro a b hh;injection hh;omega
  ·intro j hj a b;rw[hg j hj,if_neg (fun e=>b e.symm),if_neg (fun e=>a e.symm)]
theorem KR.fin {P:Program} {g:FuncId} {vs:List V} {H:List ak} {kv:V} {so SO:List Int×List Int} {r:V} (hr:al r=true) (hi:kZ H kv so)
 (h:av P g vs H (fun r' H'=>r'=r/\∃kv1,KR H kv so H' kv1 SO)):av P g vs H (bX r (KH H kv so SO)):=by
 by_cases he:SO=so
 ·subst he;refine av.trim (h.mono ?_);rintro r' H' ⟨rfl,kv1,hk⟩;rcases hk.Is with⟨_,_,h3⟩ | ⟨h1,_⟩
  ·refine⟨H,H'.drop H.length,?_,rfl,fun i b hb=> .inl hb,hr,rfl,by rw[KH,if_pos rfl]⟩;apply ext_getElem?
   intro j;by_cases hj:j<H.length
   ·rw[h3 j hj,getElem?_append_left hj]
   ·rw[getElem?_append_right (by omega),getElem?_drop];congr 1;omega
  ·omega
 ·refine av.Uf 4 (h.mono ?_);rintro r' H' ⟨rfl,kv1,hk⟩;have hl:=hk.len;rcases hk.Is with⟨h1,_⟩ | ⟨h1,id,rfl,h3,h4,h5⟩
  ·exact absurd h1 he
  ·have hid:=(List.getElem?_eq_some_iff.1 h4).1;have h4l:=(List.getElem?_eq_some_iff.1 hi.open_).1;have EE:(H'.take H.length).length=H.length:=by simp;omega
   have Xj:∀j,j<H.length->(H'.take H.length)[j]? =H'[j]? :=fun j hj=>by rw[getElem?_take,if_pos hj]
   refine⟨H'.take H.length,H'.drop H.length,id - H.length,SO.2.map (.int .i64),(take_append_drop _ _).symm,EE,hr,?_,?_,aS _,?_,rfl,?_⟩
   ·have hid2:H.length+(id - H.length)=id:=by omega
    rw[Xj 4 h4l,hk.inv.open_,EE,length_map,hid2]
   ·rw[getElem?_drop,<-h4];congr 1;omega
   ·intro i b hi4 hb;have dF:i<H.length:=by have:=(List.getElem?_eq_some_iff.1 hb).1;omega
    rw[Xj i dF]at hb;by_cases DF:i=2
    ·subst DF;rw[hk.inv.seen]at hb;cases hb;right;simp[ak.nr,aS,bZ]
    ·rw[h5 i dF DF hi4]at hb;cases kv<;>try exact .inl hb
     rename_i id0 off0 len0;simp only[fq]at hb;rw[getElem?_set]at hb;split at hb
     ·split at hb<;>cases hb;exact .inr rfl
     ·exact .inl hb
   ·rw[KH,if_neg he,EE,length_map];congr 1
    apply ext_getElem?
    intro j;by_cases hj:j<H.length
    ·rw[getElem?_set,getElem?_set,getElem?_set];simp only[length_set,eo,EE];split
     ·rfl
     ·rename_i e4;split
      ·rename_i e2;subst e2;rw[Xj 2 hj,hk.inv.seen,if_pos hj]
      ·rename_i e2;rw[Xj j hj,h5 j hj (fun e=>e2 e.symm) (fun e=>e4 e.symm)]
    ·rw[getElem?_eq_none (by simp;omega),getElem?_eq_none (by simp[eo];omega)]
theorem ub (so:List Int×List Int) (i:Int):(oB so i=so\/so.1.length<(oB so i).1.length)/\((oB so i).2≠ []\/oB so i=so):=by
 unfold oB
 split
 ·exact⟨.inl rfl,.inr rfl⟩
 ·exact⟨.inr (by simp),.inl (by simp)⟩
theorem t286 (H:List ak) (kv:V) (so:List Int×List Int) (i:Int) (hi:kZ H kv so) (hlen:so.2.length<=1000000):
 av Tryz.prog 134 [.int .i64 i,.ptr 3 0 0,.ptr 4 0 0] H (bX (.dJ []) (KH H kv so (oB so i))):=by
 refine KR.fin (kv:=kv) (so:=so) rfl hi ?_;have hs:=hi.seen;have hc:=hi.cell;have ho:=hi.open_;have h4l:=(List.getElem?_eq_some_iff.1 ho).1;have h2l:=(List.getElem?_eq_some_iff.1 hs).1;have h3l:=(List.getElem?_eq_some_iff.1 hc).1;refine av.intro aad 200 (by simp) ?_;by_cases hm:i∈so.1
 ·have j1:oB so i=so:=by rw[oB,if_pos hm]
  rw[j1];simp -implicitDefEqProofs only[Oy,hs,hc,ho,bL,b6,hm,decide_true,ne_eq,not_false_eq_true,fv,fK,Nat.reduceMul,go_sem];repeat' (first | ((with_reducible refine aD ?_);simp -implicitDefEqProofs only[hs,hc,ho,bL,b6,hm,decide_true,ne_eq,not_false_eq_true,fv,fK,Nat.reduceMul,go_sem]) | (with_reducible refine aA.mk ?_ ?_) | (with_reducible refine And.intro ?_ ?_) | ((with_reducible refine bz ?_);simp -implicitDefEqProofs only[Gx,ne_eq,not_false_eq_true,fv,fK,Nat.reduceMul,push_cast,go_sem_proc]) | intro _)
  exact⟨kv,KR.refl hi (Nat.le_refl _) (fun _ _=>rfl)⟩
 ·have j1:oB so i=(so.1++ [i],so.2++ [i]):=by rw[oB,if_neg hm]
  have r9:fc so.1 i=so.1++ [i]:=by rw[fc,if_neg (by simpa using hm)]
  have LD:∀X,(H.set 2 X)[3]? =some (.row [.map 2]):=fun X=>by rw[getElem?_set_ne (by omega)];exact hc
  have Ui:∀X,(H.set 2 X)[4]? =some (.row [kv]):=fun X=>by rw[getElem?_set_ne (by omega)];exact ho
  have bm:∀X,JY (H.set 2 X) kv so.2:=fun X=>by
   rcases hi.ov with h | ⟨id,off,es,rfl,h2,h3⟩
   ·exact .inl h
   ·refine .inr ⟨id,off,es,rfl,?_,h3⟩;rw[getElem?_set_ne (fun e=>hi.n2 off so.2.length (by rw[e]))];exact h2
  have cP:aw kv=[kv]:=by rcases hi.ov with⟨_,rfl⟩ | ⟨id,off,es,rfl,_⟩<;>rfl
  simp -implicitDefEqProofs only[Oy,hs,hc,ho,bL,b6,b8,b9,hm,decide_false,r9,LD,Ui,cP,ne_eq,not_false_eq_true,fv,fK,Nat.reduceMul,go_sem];repeat' (first | ((with_reducible refine aD ?_);simp -implicitDefEqProofs only[hs,hc,ho,bL,b6,b8,b9,hm,decide_false,r9,LD,Ui,cP,ne_eq,not_false_eq_true,fv,fK,Nat.reduceMul,go_sem]) | (with_reducible refine aA.mk ?_ ?_) | (with_reducible refine And.intro ?_ ?_) | ((with_reducible refine bz ?_);simp -implicitDefEqProofs only[Gx,ne_eq,not_false_eq_true,fv,fK,Nat.reduceMul,push_cast,go_sem_proc]) | intro _)
  refine JZ (bm _) (by omega) ?_;have hl:(fq kv (H.set 2 (.mp ((so.1++ [i]).map (.int .i64)) (bF (so.1++ [i]))))).length=H.length:=by simp[eo]
  have Dz:(fq kv (H.set 2 (.mp ((so.1++ [i]).map (.int .i64)) (bF (so.1++ [i]))))++ [ak.row ((so.2++ [i]).map (.int .i64))])[4]? =some (.row [kv]):=by
   rw[getElem?_append_left (by omega),mY hi.n4];exact Ui _
  have j7:=KH.kr hi (ub so i).1 (ub so i).2;rw[j1]at j7;have dr:¬((so.1++ [i],so.2++ [i])=so):=fun h=>by have:=congrArg (fun x=>x.1.length) h;simp at this
  have heq:KH H kv so (so.1++ [i],so.2++ [i])=(fq kv (H.set 2 (.mp ((so.1++ [i]).map (.int .i64)) (bF (so.1++ [i]))))++ [ak.row ((so.2++ [i]).map (.int .i64))]).set 4 (.row [.ms H.length 0 (so.2.length+1)]):=by
   rw[KH,if_neg dr,set_append_left _ _ (by omega)];congr 1
   have:fq kv (H.set 2 (.mp ((so.1++ [i]).map (.int .i64)) (bF (so.1++ [i]))))=(fq kv H).set 2 (.mp ((so.1++ [i]).map (.int .i64)) (bF (so.1++ [i]))):=by
    cases hk:kv<;>try rfl
    rename_i id off len;simp only[fq];rw[set_comm];intro e;exact hi.n2 off len (by rw[hk,e])
   rw[this];simp
  rw[heq]at j7;have hkf:kv=.ag\/∃id off len,kv=.ms id off len:=by rcases hi.ov with⟨_,h⟩ | ⟨id,off,es,h,_⟩;exact .inl h;exact .inr ⟨_,_,_,h⟩
  simp only[length_set];generalize fq kv (H.set 2 (.mp ((so.1++ [i]).map (.int .i64)) (bF (so.1++ [i]))))++ [ak.row ((so.2++ [i]).map (.int .i64))]=HH at*;rcases hkf with rfl | ⟨id,off,len,rfl⟩
  ·simp -implicitDefEqProofs only[Dz,ne_eq,not_false_eq_true,fv,fK,Nat.reduceMul,go_sem];repeat' (first | ((with_reducible refine aD ?_);simp -implicitDefEqProofs only[Dz,ne_eq,not_false_eq_true,fv,fK,Nat.reduceMul,go_sem]) | (with_reducible refine aA.mk ?_ ?_) | (with_reducible refine And.intro ?_ ?_) | ((with_reducible refine bz ?_);simp -implicitDefEqProofs only[Gx,ne_eq,not_false_eq_true,fv,fK,Nat.reduceMul,push_cast,go_sem_proc]) | intro _)
   exact⟨_,by rw[j1];exact j7⟩
  ·simp -implicitDefEqProofs only[Dz,ne_eq,not_false_eq_true,fv,fK,Nat.reduceMul,go_sem];repeat' (first | ((with_reducible refine aD ?_);simp -implicitDefEqProofs only[Dz,ne_eq,not_false_eq_true,fv,fK,Nat.reduceMul,go_sem]) | (with_reducible refine aA.mk ?_ ?_) | (with_reducible refine And.intro ?_ ?_) | ((with_reducible refine bz ?_);simp -implicitDefEqProofs only[Gx,ne_eq,not_false_eq_true,fv,fK,Nat.reduceMul,push_cast,go_sem_proc]) | intro _)
   exact⟨_,by rw[j1];exact j7⟩
mutual
def GG (ec:ByteArray->Bool):St->St
 | .mk k r t v l e a b p ps=> .mk k r t v l e (eH ec a) (eH ec b) p ps
def eH (ec:ByteArray->Bool):List St->List St
 | []=> []
 | s::l=>GG ec s::if oT ec s then eH ec l else[]
end
mutual
theorem Cr (ec:ByteArray->Bool):∀s,oT ec (GG ec s)=oT ec s
 | .mk k r t v l e a b p ps=>by simp only[GG,oT,xh ec a,xh ec b]
theorem xh (ec:ByteArray->Bool):∀l,lu ec (eH ec l)=lu ec l
 | []=>rfl
 | s::l=>by
  simp only[eH,lu,Cr ec s];cases h:oT ec s
  ·simp
  ·simp[xh ec l]
end
def jx (X:List Pr) (so:List Int×List Int) (ks:List ByteArray):List Int×List Int:=ks.foldl (fun so p=>oB so (bq X p)) so
theorem ig (X:List Pr) (so:List Int×List Int) (a b:List ByteArray):jx X so (a++b)=jx X (jx X so a) b:=by simp[jx]
structure Cs (n:Nat) (so:List Int×List Int):Prop where
 set:eR n so.1
 le:so.2.length<=so.1.length
theorem eR.len {n:Nat}:∀{S:List Int},eR n S->S.length<=n:=by
 have key:∀{S:List Int},eR n S->S.length+jC (mA n S)=n:=by
  intro S;induction S with
  | nil=>
   intro _;rw[Cp];have:∀m,jC (List.replicate m false)=m:=fun m=>by simp[jC]
   simp[this]
  | cons i S ih=>
   intro h;have hn:=List.nodup_cons.1 h.nodup;have hS:eR n S:=⟨fun x hx=>h.lo x (by simp[hx]),fun x hx=>h.hi x (by simp[hx]),hn.2⟩;have:=ih hS;have h0:=h.lo i (by simp);have h1:=h.hi i (by simp);obtain⟨k,rfl⟩:∃k:Nat,i=k:=⟨i.toNat,by omega⟩;have hk:k<n:=by omega
   have iI:mA n ((k:Int)::S)=(mA n S).set k true:=by
    rw[<-xg];simp only[mA];apply map_congr_left
    intro j _;simp[fN,or_comm]
   have hg:=gw n S k hk;have:=jS (E:=mA n S) (i:=k) (by rw[hg];simp[hn.1]);rw[iI,length_cons];omega
 intro S h;have:=key h;omega
theorem Cs.oB {n:Nat} {so:List Int×List Int} (h:Cs n so) {i:Nat} (hi:i<n):Cs n (oB so i):=by
 unfold Av.oB
 split
 ·exact h
 ·rename_i hm;have:=h.set.add hi;rw[fc,if_neg (by simpa using hm)]at this;exact⟨this,by have:=h.le;simp;omega⟩
theorem uc {X:List Pr}:∀{ks:List ByteArray} {so:List Int×List Int},(∀p∈ks,0<=bq X p)->Cs X.length so->Cs X.length (jx X so ks)
 | [],so,_,h=>h
 | p::ks,so,hk,h=>by
  have hp:=hk p (by simp);have ct:=fO hp;have hI:bq X p=(((bq X p).toNat:Nat):Int):=by omega
  have:=uc (ks:=ks) (so:=Av.oB so (bq X p)) (fun q hq=>hk q (by simp[hq])) (by rw[hI];exact h.oB ct);simpa[jx]using this
theorem ud (X:List Pr):∀(ks:List ByteArray) (so:List Int×List Int),so.1.length<=(jx X so ks).1.length/\(jx X so ks=so\/so.1.length<(jx X so ks).1.length)/\((jx X so ks).2≠ []\/jx X so ks=so)
 | [],so=>⟨Nat.le_refl _,.inl rfl,.inr rfl⟩
 | p::ks,so=>by
  obtain⟨h0,h1,h2⟩:=ud X ks (oB so (bq X p));have hc:jx X so (p::ks)=jx X (oB so (bq X p)) ks:=rfl;obtain⟨g1,g2⟩:=ub so (bq X p);rw[hc];generalize jx X (oB so (bq X p)) ks=s2 at*;generalize oB so (bq X p)=s1 at*;rcases g1 with rfl | g1
  ·exact⟨h0,h1,h2⟩
  ·refine⟨by omega,.inr (by omega),?_⟩;rcases h2 with h2 | rfl
   ·exact .inl h2
   ·rcases g2 with g2 | rfl
    ·exact .inl g2
    ·omega
theorem sH {X:List Pr} {ec:ByteArray->Bool}:∀(l:List St),uU X l=true->∀p∈iK ec l,0<=bq X p:=by
 have key:∀(m:Nat) (l:List St),SizeOf.sizeOf l<m->uU X l=true->∀p∈iK ec l,0<=bq X p:=by
  intro m;induction m with
  | zero=>intro l h;omega
  | succ m ih=>
   intro l hm dx p hp;cases l with
   | nil=>simp[iK]at hp
   | cons s l=>
    rcases s with⟨k,r,t,v,lb,e,a,b,q,ps⟩
    simp only[uU,DL,Bool.and_eq_true,Bool.or_eq_true,bne_iff_ne,ne_eq,decide_eq_true_eq]at dx;obtain⟨⟨hk,ha,hb⟩,hl⟩:=dx;simp only[List.cons.sizeOf_spec,St.mk.sizeOf_spec]at hm;simp only[iK,Lx,mem_append]at hp;rcases hp with(hp | hp | hp) | hp
    ·split at hp
     ·rename_i h5;simp at hp;subst hp;exact hk.resolve_left (fun h=>h h5)
     ·simp at hp
    ·exact ih a (by omega) ha p hp
    ·exact ih b (by omega) hb p hp
    ·split at hp
     ·exact ih l (by omega) hl p hp
     ·simp at hp
 intro l;exact key _ l (Nat.lt_succ_self _)
end Go.Proofs.YtdgoeblpcnjlbaaGreatDoor.Av
